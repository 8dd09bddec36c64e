/-
  The walks and plain laws under the laws of one package: texts of mine put together, what they do not use left out (wip/tools/prune.py).
-/
import Derived.Test.YtefghfgmkndikaaI1
set_option linter.unusedSimpArgs false
set_option linter.unusedVariables false
namespace Go.Proofs.Ytefghfgmkndikaa
open Go.AX
set_option maxRecDepth 100000
section
variable {Q : X → Env → Heap → Prop} {σ : Env} {h : Heap}
end
def f90r0 : List I := [.op (.box 2 39 (.tmp 0)),
  .op (.box 3 39 (.tmp 1)),
  .op (.mov 4 (.const (.bool false))),
  .kp [2, 3]]
def f90r1 : List I := [.op (.fad 5 0 (.tmp 2)),
  .op (.ld 6 none (.tmp 5)),
  .op (.fad 7 0 (.tmp 3)),
  .op (.ld 8 none (.tmp 7)),
  .op (.fad 10 1 (.tmp 2)),
  .op (.ld 11 none (.tmp 10)),
  .op (.fad 12 1 (.tmp 3)),
  .op (.ld 13 none (.tmp 12)),
  .op (.call (some 9) 122 [(.tmp 6), (.tmp 8)]),
  .op (.call (some 14) 122 [(.tmp 11), (.tmp 13)]),
  .kp [9, 14],
  .op (.bsl 15 3 2 [.int .i64 0, .int .i64 0] [(0, 1, (.tmp 9)), (1, 1, (.tmp 14))]),
  .op (.call (some 16) 121 [(.tmp 15)]),
  .op (.bin 17 .lss (.tmp 16) (.const (.int .i64 0))),
  .op (.mov 4 (.tmp 17)),
  .kp [4]]
def f90c1 : C := (.seq (.drw f90r1) .ret)
def f90c0 : C := (.seq (.reg f90r0) f90c1)
theorem f90cmp : cmpF Try.prog Try.f90 [.l [.o 0, .o 1, .o 2, .kp [2, 3]],
  .l [.o 0, .o 1, .o 2, .o 3, .o 5, .o 6, .o 7, .o 8, .o 4, .o 9, .kp [9, 14], .o 10, .o 11, .o 12, .o 13, .kp [4]]] = some (f90c0, [.tmp 4]) := by kernel_rfl
theorem f90ok {args : List Value} {h : Heap} {R : Value → Heap → Prop} (hn : args.length ≤ 18) (H : wC Try.prog f90c0 (endW [.tmp 4] R) (envOf 0 args) h) : CallsH Try.prog 90 args h R :=
  fn_ok2 Try.func90 f90cmp hn H
section
variable {Q : X → Env → Heap → Prop} {σ : Env} {h : Heap}
theorem f90c1_eq : wC Try.prog f90c1 Q σ h = (drwW Try.prog f90r1 (fun σ h => Q .ret σ h) σ h) := rfl
theorem f90c0_eq : wC Try.prog f90c0 Q σ h = (wL Try.prog none f90r0 0 (fun σ h => wC Try.prog f90c1 Q σ h) σ h) := rfl
end
def f91r0 : List I := [.op (.box 3 39 (.tmp 1)),
  .op (.mov 4 (.const (.int .i64 0))),
  .kp [0, 3]]
def f91r1 : List I := [.op (.mov 6 (.tmp 0)),
  .op (.len 7 true (.tmp 6)),
  .op (.bin 8 .sub (.tmp 7) (.const (.int .i64 1))),
  .op (.mov 5 (.tmp 8)),
  .kp [0, 3, 5]]
def f91r2 : List I := [.op (.mov 9 (.tmp 5)),
  .op (.bin 10 .geq (.tmp 9) (.const (.int .i64 0))),
  .kp [0, 3, 5, 10]]
def f91r3 : List I := [.op (.ld 13 (some 2) (.tmp 3)),
  .op (.mov 14 (.tmp 0)),
  .op (.mov 15 (.tmp 5)),
  .op (.iad 16 4 (.tmp 14) (.tmp 15)),
  .op (.fad 17 0 (.tmp 16)),
  .op (.ld 18 (some 2) (.tmp 17)),
  .op (.call (some 19) 90 [(.tmp 13), (.tmp 18)]),
  .op (.un 20 .not (.tmp 19)),
  .kp [0, 3, 5, 20]]
def f91r4 : List I := [.op (.mov 21 (.tmp 5)),
  .op (.mov 4 (.tmp 21)),
  .kp [4]]
def f91r5 : List I := [.op (.mov 11 (.tmp 5)),
  .op (.bin 12 .sub (.tmp 11) (.const (.int .i64 1))),
  .op (.mov 5 (.tmp 12)),
  .kp [0, 3, 5]]
def f91r6 : List I := [.op (.mov 4 (.const (.int .i64 (-1)))),
  .kp [4]]
def f91c8 : C := (.seq (.reg f91r4) .ret)
def f91c7 : C := (.cond (.tmp 20) f91c8 .skip)
def f91c6 : C := (.seq (.drw f91r3) f91c7)
def f91c9 : C := (.reg f91r5)
def f91c5 : C := (.seq (.block 1 f91c6) f91c9)
def f91c4 : C := (.seq (.cond (.tmp 10) .skip (.exit 0)) f91c5)
def f91c3 : C := (.seq (.reg f91r2) f91c4)
def f91c10 : C := (.seq (.reg f91r6) .ret)
def f91c2 : C := (.seq (.block 0 (.loop f91c3)) f91c10)
def f91c1 : C := (.seq (.reg f91r1) f91c2)
def f91c0 : C := (.seq (.reg f91r0) f91c1)
theorem f91cmp : cmpF Try.prog Try.f91 [.l [.o 0, .o 1, .kp [0, 3]],
  .l [.o 0, .o 1, .o 2, .o 3, .kp [0, 3, 5]],
  .l [.o 0, .o 1, .kp [0, 3, 5, 10]],
  .l [.o 0, .o 1, .o 2, .o 3, .o 4, .o 5, .o 6, .o 7, .kp [0, 3, 5, 20]],
  .l [.o 0, .o 1, .kp [4]],
  .l [.o 0, .o 1, .o 2, .kp [0, 3, 5]],
  .l [.o 0, .kp [4]]] = some (f91c0, [.tmp 4]) := by kernel_rfl
theorem f91ok {args : List Value} {h : Heap} {R : Value → Heap → Prop} (hn : args.length ≤ 22) (H : wC Try.prog f91c0 (endW [.tmp 4] R) (envOf 0 args) h) : CallsH Try.prog 91 args h R :=
  fn_ok2 Try.func91 f91cmp hn H
section
variable {Q : X → Env → Heap → Prop} {σ : Env} {h : Heap}
theorem f91c8_eq : wC Try.prog f91c8 Q σ h = (wL Try.prog none f91r4 0 (fun σ h => Q .ret σ h) σ h) := rfl
theorem f91c7_eq : wC Try.prog f91c7 Q σ h = (bd (evO σ (.tmp 20)) fun v => bd (asB v) fun t => br t (wC Try.prog f91c8 Q σ h) (Q .normal σ h)) := rfl
theorem f91c6_eq : wC Try.prog f91c6 Q σ h = (drwW Try.prog f91r3 (fun σ h => wC Try.prog f91c7 Q σ h) σ h) := rfl
theorem f91c9_eq : wC Try.prog f91c9 Q σ h = (wL Try.prog none f91r5 0 (fun σ h => Q .normal σ h) σ h) := rfl
theorem f91c5_eq : wC Try.prog f91c5 Q σ h = (wC Try.prog f91c6 (X.inBlock 1 (X.then (fun σ h => wC Try.prog f91c9 Q σ h) Q)) σ h) := rfl
theorem f91c4_eq : wC Try.prog f91c4 Q σ h = (bd (evO σ (.tmp 10)) fun v => bd (asB v) fun t => br t (wC Try.prog f91c5 Q σ h) (Q (.exit 0) σ h)) := rfl
theorem f91c3_eq : wC Try.prog f91c3 Q σ h = (wL Try.prog none f91r2 0 (fun σ h => wC Try.prog f91c4 Q σ h) σ h) := rfl
theorem f91c10_eq : wC Try.prog f91c10 Q σ h = (wL Try.prog none f91r6 0 (fun σ h => Q .ret σ h) σ h) := rfl
theorem f91c2_eq : wC Try.prog f91c2 Q σ h = (loopW (wC Try.prog f91c3) (X.inBlock 0 (X.then (fun σ h => wC Try.prog f91c10 Q σ h) Q)) σ h) := rfl
theorem f91c1_eq : wC Try.prog f91c1 Q σ h = (wL Try.prog none f91r1 0 (fun σ h => wC Try.prog f91c2 Q σ h) σ h) := rfl
theorem f91c0_eq : wC Try.prog f91c0 Q σ h = (wL Try.prog none f91r0 0 (fun σ h => wC Try.prog f91c1 Q σ h) σ h) := rfl
end
def f121r0 : List I := [.op (.mov 2 (.const (.int .i64 0))),
  .kp [0]]
def f121r1 : List I := [.op (.mov 3 (.const (.int .i64 0))),
  .kp [0, 3]]
def f121r2 : List I := [.op (.mov 6 (.tmp 0)),
  .op (.len 7 true (.tmp 6)),
  .op (.mov 8 (.const (.int .i64 0))),
  .kp [3, 6, 7, 8]]
def f121r3 : List I := [.op (.bin 9 .lss (.tmp 8) (.tmp 7)),
  .kp [3, 6, 7, 8, 9]]
def f121r4 : List I := [.op (.iad 10 1 (.tmp 6) (.tmp 8)),
  .op (.ld 11 none (.tmp 10)),
  .op (.mov 5 (.tmp 11)),
  .kp [3, 5, 6, 7, 8]]
def f121r5 : List I := [.op (.mov 12 (.tmp 5)),
  .op (.mov 13 (.tmp 3)),
  .op (.bin 14 .neq (.tmp 12) (.tmp 13)),
  .kp [3, 5, 6, 7, 8, 14]]
def f121r6 : List I := [.op (.mov 15 (.tmp 5)),
  .op (.mov 2 (.tmp 15)),
  .kp [2]]
def f121r7 : List I := [.op (.bin 16 .add (.tmp 8) (.const (.int .i64 1))),
  .op (.mov 8 (.tmp 16)),
  .kp [3, 6, 7, 8]]
def f121r8 : List I := [.op (.mov 17 (.tmp 3)),
  .op (.mov 2 (.tmp 17)),
  .kp [2]]
def f121c10 : C := (.seq (.reg f121r6) .ret)
def f121c9 : C := (.cond (.tmp 14) f121c10 .skip)
def f121c8 : C := (.seq (.reg f121r5) f121c9)
def f121c7 : C := (.seq (.reg f121r4) f121c8)
def f121c11 : C := (.reg f121r7)
def f121c6 : C := (.seq (.block 1 f121c7) f121c11)
def f121c5 : C := (.seq (.cond (.tmp 9) .skip (.exit 0)) f121c6)
def f121c4 : C := (.seq (.reg f121r3) f121c5)
def f121c12 : C := (.seq (.reg f121r8) .ret)
def f121c3 : C := (.seq (.block 0 (.loop f121c4)) f121c12)
def f121c2 : C := (.seq (.reg f121r2) f121c3)
def f121c1 : C := (.seq (.reg f121r1) f121c2)
def f121c0 : C := (.seq (.reg f121r0) f121c1)
theorem f121cmp : cmpF Try.prog Try.f121 [.l [.o 0, .kp [0]],
  .l [.o 0, .kp [0, 3]],
  .l [.o 0, .o 1, .o 2, .kp [3, 6, 7, 8]],
  .l [.o 0, .kp [3, 6, 7, 8, 9]],
  .l [.o 0, .o 1, .o 2, .kp [3, 5, 6, 7, 8]],
  .l [.o 0, .o 1, .o 2, .kp [3, 5, 6, 7, 8, 14]],
  .l [.o 0, .o 1, .kp [2]],
  .l [.o 0, .o 1, .kp [3, 6, 7, 8]],
  .l [.o 0, .o 1, .kp [2]]] = some (f121c0, [.tmp 2]) := by kernel_rfl
theorem f121ok {args : List Value} {h : Heap} {R : Value → Heap → Prop} (hn : args.length ≤ 18) (H : wC Try.prog f121c0 (endW [.tmp 2] R) (envOf 0 args) h) : CallsH Try.prog 121 args h R :=
  fn_ok2 Try.func121 f121cmp hn H
section
variable {Q : X → Env → Heap → Prop} {σ : Env} {h : Heap}
theorem f121c10_eq : wC Try.prog f121c10 Q σ h = (wL Try.prog none f121r6 0 (fun σ h => Q .ret σ h) σ h) := rfl
theorem f121c9_eq : wC Try.prog f121c9 Q σ h = (bd (evO σ (.tmp 14)) fun v => bd (asB v) fun t => br t (wC Try.prog f121c10 Q σ h) (Q .normal σ h)) := rfl
theorem f121c8_eq : wC Try.prog f121c8 Q σ h = (wL Try.prog none f121r5 0 (fun σ h => wC Try.prog f121c9 Q σ h) σ h) := rfl
theorem f121c7_eq : wC Try.prog f121c7 Q σ h = (wL Try.prog none f121r4 0 (fun σ h => wC Try.prog f121c8 Q σ h) σ h) := rfl
theorem f121c11_eq : wC Try.prog f121c11 Q σ h = (wL Try.prog none f121r7 0 (fun σ h => Q .normal σ h) σ h) := rfl
theorem f121c6_eq : wC Try.prog f121c6 Q σ h = (wC Try.prog f121c7 (X.inBlock 1 (X.then (fun σ h => wC Try.prog f121c11 Q σ h) Q)) σ h) := rfl
theorem f121c5_eq : wC Try.prog f121c5 Q σ h = (bd (evO σ (.tmp 9)) fun v => bd (asB v) fun t => br t (wC Try.prog f121c6 Q σ h) (Q (.exit 0) σ h)) := rfl
theorem f121c4_eq : wC Try.prog f121c4 Q σ h = (wL Try.prog none f121r3 0 (fun σ h => wC Try.prog f121c5 Q σ h) σ h) := rfl
theorem f121c12_eq : wC Try.prog f121c12 Q σ h = (wL Try.prog none f121r8 0 (fun σ h => Q .ret σ h) σ h) := rfl
theorem f121c3_eq : wC Try.prog f121c3 Q σ h = (loopW (wC Try.prog f121c4) (X.inBlock 0 (X.then (fun σ h => wC Try.prog f121c12 Q σ h) Q)) σ h) := rfl
theorem f121c2_eq : wC Try.prog f121c2 Q σ h = (wL Try.prog none f121r2 0 (fun σ h => wC Try.prog f121c3 Q σ h) σ h) := rfl
theorem f121c1_eq : wC Try.prog f121c1 Q σ h = (wL Try.prog none f121r1 0 (fun σ h => wC Try.prog f121c2 Q σ h) σ h) := rfl
theorem f121c0_eq : wC Try.prog f121c0 Q σ h = (wL Try.prog none f121r0 0 (fun σ h => wC Try.prog f121c1 Q σ h) σ h) := rfl
end
def f122r0 : List I := [.op (.mov 4 (.const (.int .i64 0))),
  .kp [0, 1]]
def f122r1 : List I := [.op (.mov 7 (.tmp 0)),
  .op (.call (some 8) 141 [(.tmp 7)]),
  .op (.mov 5 (.tmp 8)),
  .kp [0, 1, 5]]
def f122r2 : List I := [.op (.mov 9 (.tmp 1)),
  .op (.call (some 10) 141 [(.tmp 9)]),
  .op (.mov 6 (.tmp 10)),
  .kp [0, 1, 5, 6]]
def f122r3 : List I := [.op (.mov 11 (.tmp 5)),
  .kp [0, 1, 6, 11]]
def f122r4 : List I := [.op (.mov 12 (.tmp 6)),
  .kp [12]]
def f122r5 : List I := [.op (.mov 4 (.const (.int .i64 0))),
  .kp [4]]
def f122r6 : List I := [.op (.mov 4 (.const (.int .i64 (-1)))),
  .kp [4]]
def f122r7 : List I := [.op (.mov 13 (.tmp 6)),
  .kp [0, 1, 13]]
def f122r8 : List I := [.op (.mov 4 (.const (.int .i64 1))),
  .kp [4]]
def f122r9 : List I := [.op (.mov 14 (.tmp 0)),
  .op (.mov 15 (.tmp 1)),
  .op (.bin 16 .lss (.tmp 14) (.tmp 15)),
  .kp [0, 1, 16]]
def f122r10 : List I := [.op (.mov 4 (.const (.int .i64 (-1)))),
  .kp [4]]
def f122r11 : List I := [.op (.mov 17 (.tmp 0)),
  .op (.mov 18 (.tmp 1)),
  .op (.bin 19 .gtr (.tmp 17) (.tmp 18)),
  .kp [19]]
def f122r12 : List I := [.op (.mov 4 (.const (.int .i64 1))),
  .kp [4]]
def f122r13 : List I := [.op (.mov 4 (.const (.int .i64 0))),
  .kp [4]]
def f122c7 : C := (.seq (.reg f122r5) .ret)
def f122c8 : C := (.seq (.reg f122r6) .ret)
def f122c6 : C := (.seq (.cond (.tmp 12) f122c7 .skip) f122c8)
def f122c5 : C := (.seq (.reg f122r4) f122c6)
def f122c11 : C := (.seq (.reg f122r8) .ret)
def f122c14 : C := (.seq (.reg f122r10) .ret)
def f122c17 : C := (.seq (.reg f122r12) .ret)
def f122c18 : C := (.seq (.reg f122r13) .ret)
def f122c16 : C := (.seq (.cond (.tmp 19) f122c17 .skip) f122c18)
def f122c15 : C := (.seq (.reg f122r11) f122c16)
def f122c13 : C := (.seq (.cond (.tmp 16) f122c14 .skip) f122c15)
def f122c12 : C := (.seq (.reg f122r9) f122c13)
def f122c10 : C := (.seq (.cond (.tmp 13) f122c11 .skip) f122c12)
def f122c9 : C := (.seq (.reg f122r7) f122c10)
def f122c4 : C := (.seq (.cond (.tmp 11) f122c5 .skip) f122c9)
def f122c3 : C := (.seq (.reg f122r3) f122c4)
def f122c2 : C := (.seq (.reg f122r2) f122c3)
def f122c1 : C := (.seq (.reg f122r1) f122c2)
def f122c0 : C := (.seq (.reg f122r0) f122c1)
theorem f122cmp : cmpF Try.prog Try.f122 [.l [.o 0, .kp [0, 1]],
  .l [.o 0, .o 1, .o 2, .kp [0, 1, 5]],
  .l [.o 0, .o 1, .o 2, .kp [0, 1, 5, 6]],
  .l [.o 0, .kp [0, 1, 6, 11]],
  .l [.o 0, .kp [12]],
  .l [.o 0, .kp [4]],
  .l [.o 0, .kp [4]],
  .l [.o 0, .kp [0, 1, 13]],
  .l [.o 0, .kp [4]],
  .l [.o 0, .o 1, .o 2, .kp [0, 1, 16]],
  .l [.o 0, .kp [4]],
  .l [.o 0, .o 1, .o 2, .kp [19]],
  .l [.o 0, .kp [4]],
  .l [.o 0, .kp [4]]] = some (f122c0, [.tmp 4]) := by kernel_rfl
theorem f122ok {args : List Value} {h : Heap} {R : Value → Heap → Prop} (hn : args.length ≤ 20) (H : wC Try.prog f122c0 (endW [.tmp 4] R) (envOf 0 args) h) : CallsH Try.prog 122 args h R :=
  fn_ok2 Try.func122 f122cmp hn H
section
variable {Q : X → Env → Heap → Prop} {σ : Env} {h : Heap}
theorem f122c14_eq : wC Try.prog f122c14 Q σ h = (wL Try.prog none f122r10 0 (fun σ h => Q .ret σ h) σ h) := rfl
theorem f122c17_eq : wC Try.prog f122c17 Q σ h = (wL Try.prog none f122r12 0 (fun σ h => Q .ret σ h) σ h) := rfl
theorem f122c18_eq : wC Try.prog f122c18 Q σ h = (wL Try.prog none f122r13 0 (fun σ h => Q .ret σ h) σ h) := rfl
theorem f122c16_eq : wC Try.prog f122c16 Q σ h = (bd (evO σ (.tmp 19)) fun v => bd (asB v) fun t => br t (wC Try.prog f122c17 (X.then (fun σ h => wC Try.prog f122c18 Q σ h) Q) σ h) (wC Try.prog f122c18 Q σ h)) := rfl
theorem f122c15_eq : wC Try.prog f122c15 Q σ h = (wL Try.prog none f122r11 0 (fun σ h => wC Try.prog f122c16 Q σ h) σ h) := rfl
theorem f122c13_eq : wC Try.prog f122c13 Q σ h = (bd (evO σ (.tmp 16)) fun v => bd (asB v) fun t => br t (wC Try.prog f122c14 (X.then (fun σ h => wC Try.prog f122c15 Q σ h) Q) σ h) (wC Try.prog f122c15 Q σ h)) := rfl
theorem f122c12_eq : wC Try.prog f122c12 Q σ h = (wL Try.prog none f122r9 0 (fun σ h => wC Try.prog f122c13 Q σ h) σ h) := rfl
theorem f122c10_eq : wC Try.prog f122c10 Q σ h = (bd (evO σ (.tmp 13)) fun v => bd (asB v) fun t => br t (wC Try.prog f122c11 (X.then (fun σ h => wC Try.prog f122c12 Q σ h) Q) σ h) (wC Try.prog f122c12 Q σ h)) := rfl
theorem f122c9_eq : wC Try.prog f122c9 Q σ h = (wL Try.prog none f122r7 0 (fun σ h => wC Try.prog f122c10 Q σ h) σ h) := rfl
theorem f122c4_eq : wC Try.prog f122c4 Q σ h = (bd (evO σ (.tmp 11)) fun v => bd (asB v) fun t => br t (wC Try.prog f122c5 (X.then (fun σ h => wC Try.prog f122c9 Q σ h) Q) σ h) (wC Try.prog f122c9 Q σ h)) := rfl
theorem f122c3_eq : wC Try.prog f122c3 Q σ h = (wL Try.prog none f122r3 0 (fun σ h => wC Try.prog f122c4 Q σ h) σ h) := rfl
theorem f122c2_eq : wC Try.prog f122c2 Q σ h = (wL Try.prog none f122r2 0 (fun σ h => wC Try.prog f122c3 Q σ h) σ h) := rfl
theorem f122c1_eq : wC Try.prog f122c1 Q σ h = (wL Try.prog none f122r1 0 (fun σ h => wC Try.prog f122c2 Q σ h) σ h) := rfl
theorem f122c0_eq : wC Try.prog f122c0 Q σ h = (wL Try.prog none f122r0 0 (fun σ h => wC Try.prog f122c1 Q σ h) σ h) := rfl
end
def f141r0 : List I := [.op (.mov 2 (.const (.bool false))),
  .kp [0]]
def f141r1 : List I := [.op (.mov 3 (.tmp 0)),
  .op (.mov 4 (.tmp 0)),
  .op (.bin 5 .neq (.tmp 3) (.tmp 4)),
  .op (.mov 2 (.tmp 5)),
  .kp [2]]
def f141c1 : C := (.seq (.reg f141r1) .ret)
def f141c0 : C := (.seq (.reg f141r0) f141c1)
theorem f141cmp : cmpF Try.prog Try.f141 [.l [.o 0, .kp [0]],
  .l [.o 0, .o 1, .o 2, .o 3, .kp [2]]] = some (f141c0, [.tmp 2]) := by kernel_rfl
theorem f141ok {args : List Value} {h : Heap} {R : Value → Heap → Prop} (hn : args.length ≤ 6) (H : wC Try.prog f141c0 (endW [.tmp 2] R) (envOf 0 args) h) : CallsH Try.prog 141 args h R :=
  fn_ok2 Try.func141 f141cmp hn H
section
variable {Q : X → Env → Heap → Prop} {σ : Env} {h : Heap}
theorem f141c1_eq : wC Try.prog f141c1 Q σ h = (wL Try.prog none f141r1 0 (fun σ h => Q .ret σ h) σ h) := rfl
theorem f141c0_eq : wC Try.prog f141c0 Q σ h = (wL Try.prog none f141r0 0 (fun σ h => wC Try.prog f141c1 Q σ h) σ h) := rfl
end
def f89r0 : List I := [.op (.box 2 103 (.tmp 0)),
  .op (.box 3 39 (.tmp 1)),
  .op (.mov 4 (.const (.string ⟨#[]⟩))),
  .op (.mov 5 (.const (.bool false))),
  .kp [2, 3]]
def f89r1 : List I := [.op (.fad 7 1 (.tmp 2)),
  .op (.ld 8 none (.tmp 7)),
  .op (.ld 9 (some 2) (.tmp 3)),
  .op (.call (some 10) 91 [(.tmp 8), (.tmp 9)]),
  .op (.mov 6 (.tmp 10)),
  .kp [2, 6]]
def f89r2 : List I := [.op (.mov 11 (.tmp 6)),
  .op (.bin 12 .lss (.tmp 11) (.const (.int .i64 0))),
  .op (.mov 13 (.tmp 12)),
  .sc 13 false 6,
  .g 13 false (.fad 14 1 (.tmp 2)),
  .g 13 false (.ld 15 none (.tmp 14)),
  .g 13 false (.mov 16 (.tmp 6)),
  .g 13 false (.iad 17 4 (.tmp 15) (.tmp 16)),
  .g 13 false (.fad 18 2 (.tmp 17)),
  .g 13 false (.ld 19 none (.tmp 18)),
  .op (.pick 20 (.tmp 13) (.const (.bool true)) (.tmp 19)),
  .kp [2, 6, 20]]
def f89r3 : List I := [.op (.mov 4 (.const (.string ⟨#[]⟩))),
  .op (.mov 5 (.const (.bool false))),
  .kp [4, 5]]
def f89r4 : List I := [.op (.fad 21 1 (.tmp 2)),
  .op (.ld 22 none (.tmp 21)),
  .op (.mov 23 (.tmp 6)),
  .op (.iad 24 4 (.tmp 22) (.tmp 23)),
  .op (.fad 25 3 (.tmp 24)),
  .op (.ld 26 none (.tmp 25)),
  .op (.mov 4 (.tmp 26)),
  .op (.mov 5 (.const (.bool true))),
  .kp [4, 5]]
def f89c4 : C := (.seq (.reg f89r3) .ret)
def f89c5 : C := (.seq (.reg f89r4) .ret)
def f89c3 : C := (.seq (.cond (.tmp 20) f89c4 .skip) f89c5)
def f89c2 : C := (.seq (.reg f89r2) f89c3)
def f89c1 : C := (.seq (.reg f89r1) f89c2)
def f89c0 : C := (.seq (.reg f89r0) f89c1)
theorem f89cmp : cmpF Try.prog Try.f89 [.l [.o 0, .o 1, .o 2, .o 3, .kp [2, 3]],
  .l [.o 0, .o 1, .o 2, .o 3, .o 4, .kp [2, 6]],
  .l [.o 0, .o 1, .o 2, .sc 13 false 6, .o 3, .o 4, .o 5, .o 6, .o 7, .o 8, .o 9, .kp [2, 6, 20]],
  .l [.o 0, .o 1, .kp [4, 5]],
  .l [.o 0, .o 1, .o 2, .o 3, .o 4, .o 5, .o 6, .o 7, .kp [4, 5]]] = some (f89c0, [.tmp 4, .tmp 5]) := by kernel_rfl
theorem f89ok {args : List Value} {h : Heap} {R : Value → Heap → Prop} (hn : args.length ≤ 27) (H : wC Try.prog f89c0 (endW [.tmp 4, .tmp 5] R) (envOf 0 args) h) : CallsH Try.prog 89 args h R :=
  fn_ok2 Try.func89 f89cmp hn H
section
variable {Q : X → Env → Heap → Prop} {σ : Env} {h : Heap}
theorem f89c4_eq : wC Try.prog f89c4 Q σ h = (wL Try.prog none f89r3 0 (fun σ h => Q .ret σ h) σ h) := rfl
theorem f89c5_eq : wC Try.prog f89c5 Q σ h = (wL Try.prog none f89r4 0 (fun σ h => Q .ret σ h) σ h) := rfl
theorem f89c3_eq : wC Try.prog f89c3 Q σ h = (bd (evO σ (.tmp 20)) fun v => bd (asB v) fun t => br t (wC Try.prog f89c4 (X.then (fun σ h => wC Try.prog f89c5 Q σ h) Q) σ h) (wC Try.prog f89c5 Q σ h)) := rfl
theorem f89c2_eq : wC Try.prog f89c2 Q σ h = (wL Try.prog none f89r2 0 (fun σ h => wC Try.prog f89c3 Q σ h) σ h) := rfl
theorem f89c1_eq : wC Try.prog f89c1 Q σ h = (wL Try.prog none f89r1 0 (fun σ h => wC Try.prog f89c2 Q σ h) σ h) := rfl
theorem f89c0_eq : wC Try.prog f89c0 Q σ h = (wL Try.prog none f89r0 0 (fun σ h => wC Try.prog f89c1 Q σ h) σ h) := rfl
end
section
variable {Q : X → Env → Heap → Prop} {σ : Env} {h : Heap}
end
def f108r0 : List I := [.op (.mov 4 (.const (.int .i64 0))),
  .kp [0, 1]]
def f108r1 : List I := [.op (.mov 5 (.const (.int .i64 0))),
  .kp [0, 1, 5]]
def f108r2 : List I := [.op (.mov 6 (.tmp 5)),
  .op (.mov 7 (.tmp 0)),
  .op (.len 8 true (.tmp 7)),
  .op (.bin 9 .lss (.tmp 6) (.tmp 8)),
  .kp [0, 1, 5, 9]]
def f108r3 : List I := [.op (.mov 12 (.tmp 0)),
  .op (.mov 13 (.tmp 5)),
  .op (.iad 14 12 (.tmp 12) (.tmp 13)),
  .op (.fad 15 0 (.tmp 14)),
  .op (.ld 16 none (.tmp 15)),
  .op (.mov 17 (.tmp 1)),
  .op (.bin 18 .eql (.tmp 16) (.tmp 17)),
  .kp [0, 1, 5, 18]]
def f108r4 : List I := [.op (.mov 19 (.tmp 5)),
  .op (.mov 4 (.tmp 19)),
  .kp [4]]
def f108r5 : List I := [.op (.mov 10 (.tmp 5)),
  .op (.bin 11 .add (.tmp 10) (.const (.int .i64 1))),
  .op (.mov 5 (.tmp 11)),
  .kp [0, 1, 5]]
def f108r6 : List I := [.op (.mov 4 (.const (.int .i64 (-1)))),
  .kp [4]]
def f108c8 : C := (.seq (.reg f108r4) .ret)
def f108c7 : C := (.cond (.tmp 18) f108c8 .skip)
def f108c6 : C := (.seq (.reg f108r3) f108c7)
def f108c9 : C := (.reg f108r5)
def f108c5 : C := (.seq (.block 1 f108c6) f108c9)
def f108c4 : C := (.seq (.cond (.tmp 9) .skip (.exit 0)) f108c5)
def f108c3 : C := (.seq (.reg f108r2) f108c4)
def f108c10 : C := (.seq (.reg f108r6) .ret)
def f108c2 : C := (.seq (.block 0 (.loop f108c3)) f108c10)
def f108c1 : C := (.seq (.reg f108r1) f108c2)
def f108c0 : C := (.seq (.reg f108r0) f108c1)
theorem f108cmp : cmpF Try.prog Try.f108 [.l [.o 0, .kp [0, 1]],
  .l [.o 0, .kp [0, 1, 5]],
  .l [.o 0, .o 1, .o 2, .o 3, .kp [0, 1, 5, 9]],
  .l [.o 0, .o 1, .o 2, .o 3, .o 4, .o 5, .o 6, .kp [0, 1, 5, 18]],
  .l [.o 0, .o 1, .kp [4]],
  .l [.o 0, .o 1, .o 2, .kp [0, 1, 5]],
  .l [.o 0, .kp [4]]] = some (f108c0, [.tmp 4]) := by kernel_rfl
theorem f108ok {args : List Value} {h : Heap} {R : Value → Heap → Prop} (hn : args.length ≤ 20) (H : wC Try.prog f108c0 (endW [.tmp 4] R) (envOf 0 args) h) : CallsH Try.prog 108 args h R :=
  fn_ok2 Try.func108 f108cmp hn H
section
variable {Q : X → Env → Heap → Prop} {σ : Env} {h : Heap}
theorem f108c8_eq : wC Try.prog f108c8 Q σ h = (wL Try.prog none f108r4 0 (fun σ h => Q .ret σ h) σ h) := rfl
theorem f108c7_eq : wC Try.prog f108c7 Q σ h = (bd (evO σ (.tmp 18)) fun v => bd (asB v) fun t => br t (wC Try.prog f108c8 Q σ h) (Q .normal σ h)) := rfl
theorem f108c6_eq : wC Try.prog f108c6 Q σ h = (wL Try.prog none f108r3 0 (fun σ h => wC Try.prog f108c7 Q σ h) σ h) := rfl
theorem f108c9_eq : wC Try.prog f108c9 Q σ h = (wL Try.prog none f108r5 0 (fun σ h => Q .normal σ h) σ h) := rfl
theorem f108c5_eq : wC Try.prog f108c5 Q σ h = (wC Try.prog f108c6 (X.inBlock 1 (X.then (fun σ h => wC Try.prog f108c9 Q σ h) Q)) σ h) := rfl
theorem f108c4_eq : wC Try.prog f108c4 Q σ h = (bd (evO σ (.tmp 9)) fun v => bd (asB v) fun t => br t (wC Try.prog f108c5 Q σ h) (Q (.exit 0) σ h)) := rfl
theorem f108c3_eq : wC Try.prog f108c3 Q σ h = (wL Try.prog none f108r2 0 (fun σ h => wC Try.prog f108c4 Q σ h) σ h) := rfl
theorem f108c10_eq : wC Try.prog f108c10 Q σ h = (wL Try.prog none f108r6 0 (fun σ h => Q .ret σ h) σ h) := rfl
theorem f108c2_eq : wC Try.prog f108c2 Q σ h = (loopW (wC Try.prog f108c3) (X.inBlock 0 (X.then (fun σ h => wC Try.prog f108c10 Q σ h) Q)) σ h) := rfl
theorem f108c1_eq : wC Try.prog f108c1 Q σ h = (wL Try.prog none f108r1 0 (fun σ h => wC Try.prog f108c2 Q σ h) σ h) := rfl
theorem f108c0_eq : wC Try.prog f108c0 Q σ h = (wL Try.prog none f108r0 0 (fun σ h => wC Try.prog f108c1 Q σ h) σ h) := rfl
end
def f118r0 : List I := [.op (.mov 4 (.const (.int .i64 0))),
  .kp [0, 1]]
def f118r1 : List I := [.op (.mov 5 (.tmp 0)),
  .op (.mov 6 (.tmp 1)),
  .op (.call (some 7) 139 [(.tmp 5), (.tmp 6)]),
  .op (.mov 4 (.tmp 7)),
  .kp [4]]
def f118c1 : C := (.seq (.reg f118r1) .ret)
def f118c0 : C := (.seq (.reg f118r0) f118c1)
theorem f118cmp : cmpF Try.prog Try.f118 [.l [.o 0, .kp [0, 1]],
  .l [.o 0, .o 1, .o 2, .o 3, .kp [4]]] = some (f118c0, [.tmp 4]) := by kernel_rfl
theorem f118ok {args : List Value} {h : Heap} {R : Value → Heap → Prop} (hn : args.length ≤ 8) (H : wC Try.prog f118c0 (endW [.tmp 4] R) (envOf 0 args) h) : CallsH Try.prog 118 args h R :=
  fn_ok2 Try.func118 f118cmp hn H
section
variable {Q : X → Env → Heap → Prop} {σ : Env} {h : Heap}
theorem f118c1_eq : wC Try.prog f118c1 Q σ h = (wL Try.prog none f118r1 0 (fun σ h => Q .ret σ h) σ h) := rfl
theorem f118c0_eq : wC Try.prog f118c0 Q σ h = (wL Try.prog none f118r0 0 (fun σ h => wC Try.prog f118c1 Q σ h) σ h) := rfl
end
def f139r0 : List I := [.op (.mov 4 (.const (.int .i64 0))),
  .kp [0, 1]]
def f139r1 : List I := [.op (.mov 5 (.tmp 0)),
  .op (.mov 6 (.tmp 1)),
  .op (.raw (some 7) ⟨(some 7), (.call ⟨(.value (.func 153)), #[(.tmp 5), (.tmp 6)], #[9, 9]⟩), 3, "compare_native.go:15", #[⟨0, .data⟩, ⟨1, .data⟩], none⟩),
  .op (.mov 4 (.tmp 7)),
  .kp [4]]
def f139c1 : C := (.seq (.reg f139r1) .ret)
def f139c0 : C := (.seq (.reg f139r0) f139c1)
theorem f139cmp : cmpF Try.prog Try.f139 [.l [.o 0, .kp [0, 1]],
  .l [.o 0, .o 1, .o 2, .o 3, .kp [4]]] = some (f139c0, [.tmp 4]) := by kernel_rfl
theorem f139ok {args : List Value} {h : Heap} {R : Value → Heap → Prop} (hn : args.length ≤ 8) (H : wC Try.prog f139c0 (endW [.tmp 4] R) (envOf 0 args) h) : CallsH Try.prog 139 args h R :=
  fn_ok2 Try.func139 f139cmp hn H
section
variable {Q : X → Env → Heap → Prop} {σ : Env} {h : Heap}
theorem f139c1_eq : wC Try.prog f139c1 Q σ h = (wL Try.prog none f139r1 0 (fun σ h => Q .ret σ h) σ h) := rfl
theorem f139c0_eq : wC Try.prog f139c0 Q σ h = (wL Try.prog none f139r0 0 (fun σ h => wC Try.prog f139c1 Q σ h) σ h) := rfl
end
def f117r0 : List I := [.op (.box 2 103 (.tmp 0)),
  .op (.mov 4 (.const (.int .i64 0))),
  .kp [1, 2]]
def f117r1 : List I := [.op (.fad 5 0 (.tmp 2)),
  .op (.ld 6 none (.tmp 5)),
  .op (.mov 7 (.tmp 1)),
  .op (.call (some 8) 118 [(.tmp 6), (.tmp 7)]),
  .op (.mov 4 (.tmp 8)),
  .kp [4]]
def f117c1 : C := (.seq (.reg f117r1) .ret)
def f117c0 : C := (.seq (.reg f117r0) f117c1)
theorem f117cmp : cmpF Try.prog Try.f117 [.l [.o 0, .o 1, .kp [1, 2]],
  .l [.o 0, .o 1, .o 2, .o 3, .o 4, .kp [4]]] = some (f117c0, [.tmp 4]) := by kernel_rfl
theorem f117ok {args : List Value} {h : Heap} {R : Value → Heap → Prop} (hn : args.length ≤ 9) (H : wC Try.prog f117c0 (endW [.tmp 4] R) (envOf 0 args) h) : CallsH Try.prog 117 args h R :=
  fn_ok2 Try.func117 f117cmp hn H
theorem f117cal : callable Try.prog 117 = true := by kernel_rfl
section
variable {Q : X → Env → Heap → Prop} {σ : Env} {h : Heap}
theorem f117c1_eq : wC Try.prog f117c1 Q σ h = (wL Try.prog none f117r1 0 (fun σ h => Q .ret σ h) σ h) := rfl
theorem f117c0_eq : wC Try.prog f117c0 Q σ h = (wL Try.prog none f117r0 0 (fun σ h => wC Try.prog f117c1 Q σ h) σ h) := rfl
end
def f116r0 : List I := [.op (.mov 6 (.const (.int .i64 0))),
  .op (.mov 7 (.const (.bool false))),
  .kp [0, 1, 2]]
def f116r1 : List I := [.op (.mov 12 (.tmp 0)),
  .op (.len 13 true (.tmp 12)),
  .op (.mov 8 (.tmp 13)),
  .kp [0, 1, 2, 8]]
def f116r2 : List I := [.op (.mov 14 (.tmp 8)),
  .op (.mov 9 (.const (.int .i64 0))),
  .op (.mov 10 (.tmp 14)),
  .kp [0, 1, 2, 8, 9, 10]]
def f116r3 : List I := [.op (.mov 15 (.tmp 9)),
  .op (.mov 16 (.tmp 10)),
  .op (.bin 17 .lss (.tmp 15) (.tmp 16)),
  .kp [0, 1, 2, 8, 9, 10, 17]]
def f116r4 : List I := [.op (.mov 18 (.tmp 9)),
  .op (.mov 19 (.tmp 10)),
  .op (.bin 20 .add (.tmp 18) (.tmp 19)),
  .op (.cvt 21 .u64 (.tmp 20)),
  .op (.raw (some 22) ⟨(some 22), (.binOp .shr 193 (.tmp 21) (.const (.int .u64 1)) 193), 193, "sort.go:158", #[⟨3, .data⟩], none⟩),
  .op (.cvt 23 .i64 (.tmp 22)),
  .op (.mov 11 (.tmp 23)),
  .kp [0, 1, 2, 8, 9, 10, 11]]
def f116r5 : List I := [.op (.mov 24 (.tmp 2)),
  .op (.mov 25 (.tmp 0)),
  .op (.mov 26 (.tmp 11)),
  .op (.iad 27 12 (.tmp 25) (.tmp 26)),
  .op (.ld 28 (some 12) (.tmp 27)),
  .op (.mov 29 (.tmp 1)),
  .op (.cav (some 30) (.tmp 24) [(.tmp 28), (.tmp 29)]),
  .op (.bin 31 .lss (.tmp 30) (.const (.int .i64 0))),
  .kp [0, 1, 2, 8, 9, 10, 11, 31]]
def f116r6 : List I := [.op (.mov 32 (.tmp 11)),
  .op (.bin 33 .add (.tmp 32) (.const (.int .i64 1))),
  .op (.mov 9 (.tmp 33)),
  .kp [0, 1, 2, 8, 9, 10]]
def f116r7 : List I := [.op (.mov 34 (.tmp 11)),
  .op (.mov 10 (.tmp 34)),
  .kp [0, 1, 2, 8, 9, 10]]
def f116r8 : List I := [.op (.mov 35 (.tmp 9)),
  .op (.mov 36 (.tmp 9)),
  .op (.mov 37 (.tmp 8)),
  .op (.bin 38 .lss (.tmp 36) (.tmp 37)),
  .op (.mov 39 (.tmp 38)),
  .sc 39 true 8,
  .g 39 true (.mov 40 (.tmp 2)),
  .g 39 true (.mov 41 (.tmp 0)),
  .g 39 true (.mov 42 (.tmp 9)),
  .g 39 true (.iad 43 12 (.tmp 41) (.tmp 42)),
  .g 39 true (.ld 44 (some 12) (.tmp 43)),
  .g 39 true (.mov 45 (.tmp 1)),
  .g 39 true (.cav (some 46) (.tmp 40) [(.tmp 44), (.tmp 45)]),
  .g 39 true (.bin 47 .eql (.tmp 46) (.const (.int .i64 0))),
  .op (.pick 48 (.tmp 39) (.tmp 47) (.const (.bool false))),
  .op (.mov 6 (.tmp 35)),
  .op (.mov 7 (.tmp 48)),
  .kp [6, 7]]
def f116c10 : C := (.reg f116r6)
def f116c11 : C := (.reg f116r7)
def f116c9 : C := (.cond (.tmp 31) f116c10 f116c11)
def f116c8 : C := (.seq (.reg f116r5) f116c9)
def f116c7 : C := (.seq (.reg f116r4) f116c8)
def f116c6 : C := (.block 1 f116c7)
def f116c5 : C := (.seq (.cond (.tmp 17) .skip (.exit 0)) f116c6)
def f116c4 : C := (.seq (.reg f116r3) f116c5)
def f116c12 : C := (.seq (.reg f116r8) .ret)
def f116c3 : C := (.seq (.block 0 (.loop f116c4)) f116c12)
def f116c2 : C := (.seq (.reg f116r2) f116c3)
def f116c1 : C := (.seq (.reg f116r1) f116c2)
def f116c0 : C := (.seq (.reg f116r0) f116c1)
theorem f116cmp : cmpF Try.prog Try.f116 [.l [.o 0, .o 1, .kp [0, 1, 2]],
  .l [.o 0, .o 1, .o 2, .kp [0, 1, 2, 8]],
  .l [.o 0, .o 1, .o 2, .kp [0, 1, 2, 8, 9, 10]],
  .l [.o 0, .o 1, .o 2, .kp [0, 1, 2, 8, 9, 10, 17]],
  .l [.o 0, .o 1, .o 2, .o 3, .o 4, .o 5, .o 6, .kp [0, 1, 2, 8, 9, 10, 11]],
  .l [.o 0, .o 1, .o 2, .o 3, .o 4, .o 5, .o 6, .o 7, .kp [0, 1, 2, 8, 9, 10, 11, 31]],
  .l [.o 0, .o 1, .o 2, .kp [0, 1, 2, 8, 9, 10]],
  .l [.o 0, .o 1, .kp [0, 1, 2, 8, 9, 10]],
  .l [.o 0, .o 1, .o 2, .o 3, .o 4, .sc 39 true 8, .o 5, .o 6, .o 7, .o 8, .o 9, .o 10, .o 11, .o 12, .o 13, .o 14, .o 15, .kp [6, 7]]] = some (f116c0, [.tmp 6, .tmp 7]) := by kernel_rfl
theorem f116ok {args : List Value} {h : Heap} {R : Value → Heap → Prop} (hn : args.length ≤ 49) (H : wC Try.prog f116c0 (endW [.tmp 6, .tmp 7] R) (envOf 0 args) h) : CallsH Try.prog 116 args h R :=
  fn_ok2 Try.func116 f116cmp hn H
section
variable {Q : X → Env → Heap → Prop} {σ : Env} {h : Heap}
theorem f116c10_eq : wC Try.prog f116c10 Q σ h = (wL Try.prog none f116r6 0 (fun σ h => Q .normal σ h) σ h) := rfl
theorem f116c11_eq : wC Try.prog f116c11 Q σ h = (wL Try.prog none f116r7 0 (fun σ h => Q .normal σ h) σ h) := rfl
theorem f116c9_eq : wC Try.prog f116c9 Q σ h = (bd (evO σ (.tmp 31)) fun v => bd (asB v) fun t => br t (wC Try.prog f116c10 Q σ h) (wC Try.prog f116c11 Q σ h)) := rfl
theorem f116c8_eq : wC Try.prog f116c8 Q σ h = (wL Try.prog none f116r5 0 (fun σ h => wC Try.prog f116c9 Q σ h) σ h) := rfl
theorem f116c7_eq : wC Try.prog f116c7 Q σ h = (wL Try.prog none f116r4 0 (fun σ h => wC Try.prog f116c8 Q σ h) σ h) := rfl
theorem f116c6_eq : wC Try.prog f116c6 Q σ h = (wC Try.prog f116c7 (X.inBlock 1 Q) σ h) := rfl
theorem f116c5_eq : wC Try.prog f116c5 Q σ h = (bd (evO σ (.tmp 17)) fun v => bd (asB v) fun t => br t (wC Try.prog f116c6 Q σ h) (Q (.exit 0) σ h)) := rfl
theorem f116c4_eq : wC Try.prog f116c4 Q σ h = (wL Try.prog none f116r3 0 (fun σ h => wC Try.prog f116c5 Q σ h) σ h) := rfl
theorem f116c12_eq : wC Try.prog f116c12 Q σ h = (wL Try.prog none f116r8 0 (fun σ h => Q .ret σ h) σ h) := rfl
theorem f116c3_eq : wC Try.prog f116c3 Q σ h = (loopW (wC Try.prog f116c4) (X.inBlock 0 (X.then (fun σ h => wC Try.prog f116c12 Q σ h) Q)) σ h) := rfl
theorem f116c2_eq : wC Try.prog f116c2 Q σ h = (wL Try.prog none f116r2 0 (fun σ h => wC Try.prog f116c3 Q σ h) σ h) := rfl
theorem f116c1_eq : wC Try.prog f116c1 Q σ h = (wL Try.prog none f116r1 0 (fun σ h => wC Try.prog f116c2 Q σ h) σ h) := rfl
theorem f116c0_eq : wC Try.prog f116c0 Q σ h = (wL Try.prog none f116r0 0 (fun σ h => wC Try.prog f116c1 Q σ h) σ h) := rfl
end
def f87r0 : List I := [.op (.mov 4 (.const (.int .i64 0))),
  .op (.mov 5 (.const (.bool false))),
  .kp [0, 1]]
def f87r1 : List I := [.op (.mov 6 (.tmp 0)),
  .op (.mov 7 (.tmp 1)),
  .op (.call (some 8) 116 [(.tmp 6), (.tmp 7), (.func 117)]),
  .op (.ext 9 (.tmp 8) 0),
  .op (.ext 10 (.tmp 8) 1),
  .op (.mov 4 (.tmp 9)),
  .op (.mov 5 (.tmp 10)),
  .kp [4, 5]]
def f87c1 : C := (.seq (.reg f87r1) .ret)
def f87c0 : C := (.seq (.reg f87r0) f87c1)
theorem f87cmp : cmpF Try.prog Try.f87 [.l [.o 0, .o 1, .kp [0, 1]],
  .l [.o 0, .o 1, .o 2, .o 3, .o 4, .o 5, .o 6, .kp [4, 5]]] = some (f87c0, [.tmp 4, .tmp 5]) := by kernel_rfl
theorem f87ok {args : List Value} {h : Heap} {R : Value → Heap → Prop} (hn : args.length ≤ 11) (H : wC Try.prog f87c0 (endW [.tmp 4, .tmp 5] R) (envOf 0 args) h) : CallsH Try.prog 87 args h R :=
  fn_ok2 Try.func87 f87cmp hn H
section
variable {Q : X → Env → Heap → Prop} {σ : Env} {h : Heap}
theorem f87c1_eq : wC Try.prog f87c1 Q σ h = (wL Try.prog none f87r1 0 (fun σ h => Q .ret σ h) σ h) := rfl
theorem f87c0_eq : wC Try.prog f87c0 Q σ h = (wL Try.prog none f87r0 0 (fun σ h => wC Try.prog f87c1 Q σ h) σ h) := rfl
end
end Go.Proofs.Ytefghfgmkndikaa
namespace Go.Proofs.Ytefghfgmkndikaa
open Go.AX
set_option maxRecDepth 100000
section
variable {Q : X → Env → Heap → Prop} {σ : Env} {h : Heap}
end
section
variable {Q : X → Env → Heap → Prop} {σ : Env} {h : Heap}
end
def f38r0 : List I := [.op (.box 3 37 (.tmp 1)),
  .op (.mov 4 (.const (.bool false))),
  .kp [0, 3]]
def f38r1 : List I := [.op (.mov 5 (.tmp 0)),
  .op (.fn 6 83 [(.tmp 3)]),
  .op (.call (some 7) 82 [(.tmp 5), (.tmp 6)]),
  .op (.mov 4 (.tmp 7)),
  .kp [4]]
def f38c1 : C := (.seq (.reg f38r1) .ret)
def f38c0 : C := (.seq (.reg f38r0) f38c1)
theorem f38cmp : cmpF Try.prog Try.f38 [.l [.o 0, .o 1, .kp [0, 3]],
  .l [.o 0, .o 1, .o 2, .o 3, .kp [4]]] = some (f38c0, [.tmp 4]) := by kernel_rfl
theorem f38ok {args : List Value} {h : Heap} {R : Value → Heap → Prop} (hn : args.length ≤ 8) (H : wC Try.prog f38c0 (endW [.tmp 4] R) (envOf 0 args) h) : CallsH Try.prog 38 args h R :=
  fn_ok2 Try.func38 f38cmp hn H
section
variable {Q : X → Env → Heap → Prop} {σ : Env} {h : Heap}
theorem f38c1_eq : wC Try.prog f38c1 Q σ h = (wL Try.prog none f38r1 0 (fun σ h => Q .ret σ h) σ h) := rfl
theorem f38c0_eq : wC Try.prog f38c0 Q σ h = (wL Try.prog none f38r0 0 (fun σ h => wC Try.prog f38c1 Q σ h) σ h) := rfl
end
def f83r0 : List I := [.op (.box 2 103 (.tmp 0)),
  .op (.mov 3 (.const (.bool false))),
  .kp [1, 2]]
def f83r1 : List I := [.op (.fad 4 2 (.tmp 2)),
  .op (.ld 5 none (.tmp 4)),
  .op (.mov 6 (.tmp 5)),
  .sc 6 true 5,
  .g 6 true (.fad 7 3 (.tmp 2)),
  .g 6 true (.fad 8 0 (.tmp 7)),
  .g 6 true (.ld 9 (some 4) (.tmp 8)),
  .g 6 true (.ld 10 (some 4) (.tmp 1)),
  .g 6 true (.eqa 11 false [.i .i64, .i .i64, .i .i64, .i .i64] (.tmp 9) (.tmp 10)),
  .op (.pick 12 (.tmp 6) (.tmp 11) (.const (.bool false))),
  .op (.mov 3 (.tmp 12)),
  .kp [3]]
def f83c1 : C := (.seq (.reg f83r1) .ret)
def f83c0 : C := (.seq (.reg f83r0) f83c1)
theorem f83cmp : cmpF Try.prog Try.f83 [.l [.o 0, .o 1, .kp [1, 2]],
  .l [.o 0, .o 1, .o 2, .sc 6 true 5, .o 3, .o 4, .o 5, .o 6, .o 7, .o 8, .o 9, .kp [3]]] = some (f83c0, [.tmp 3]) := by kernel_rfl
theorem f83ok {args : List Value} {h : Heap} {R : Value → Heap → Prop} (hn : args.length ≤ 13) (H : wC Try.prog f83c0 (endW [.tmp 3] R) (envOf 0 args) h) : CallsH Try.prog 83 args h R :=
  fn_ok2 Try.func83 f83cmp hn H
theorem f83cal : callable Try.prog 83 = true := by kernel_rfl
section
variable {Q : X → Env → Heap → Prop} {σ : Env} {h : Heap}
theorem f83c1_eq : wC Try.prog f83c1 Q σ h = (wL Try.prog none f83r1 0 (fun σ h => Q .ret σ h) σ h) := rfl
theorem f83c0_eq : wC Try.prog f83c0 Q σ h = (wL Try.prog none f83r0 0 (fun σ h => wC Try.prog f83c1 Q σ h) σ h) := rfl
end
def f82r0 : List I := [.op (.mov 4 (.const (.bool false))),
  .kp [0, 1]]
def f82r1 : List I := [.op (.mov 5 (.tmp 0)),
  .op (.mov 6 (.tmp 1)),
  .op (.call (some 7) 113 [(.tmp 5), (.tmp 6)]),
  .op (.bin 8 .geq (.tmp 7) (.const (.int .i64 0))),
  .op (.mov 4 (.tmp 8)),
  .kp [4]]
def f82c1 : C := (.seq (.reg f82r1) .ret)
def f82c0 : C := (.seq (.reg f82r0) f82c1)
theorem f82cmp : cmpF Try.prog Try.f82 [.l [.o 0, .kp [0, 1]],
  .l [.o 0, .o 1, .o 2, .o 3, .o 4, .kp [4]]] = some (f82c0, [.tmp 4]) := by kernel_rfl
theorem f82ok {args : List Value} {h : Heap} {R : Value → Heap → Prop} (hn : args.length ≤ 9) (H : wC Try.prog f82c0 (endW [.tmp 4] R) (envOf 0 args) h) : CallsH Try.prog 82 args h R :=
  fn_ok2 Try.func82 f82cmp hn H
section
variable {Q : X → Env → Heap → Prop} {σ : Env} {h : Heap}
theorem f82c1_eq : wC Try.prog f82c1 Q σ h = (wL Try.prog none f82r1 0 (fun σ h => Q .ret σ h) σ h) := rfl
theorem f82c0_eq : wC Try.prog f82c0 Q σ h = (wL Try.prog none f82r0 0 (fun σ h => wC Try.prog f82c1 Q σ h) σ h) := rfl
end
def f113r0 : List I := [.op (.mov 4 (.const (.int .i64 0))),
  .kp [0, 1]]
def f113r1 : List I := [.op (.mov 6 (.tmp 0)),
  .op (.len 7 true (.tmp 6)),
  .op (.mov 8 (.const (.int .i64 0))),
  .kp [0, 1, 7, 8]]
def f113r2 : List I := [.op (.bin 9 .lss (.tmp 8) (.tmp 7)),
  .kp [0, 1, 7, 8, 9]]
def f113r3 : List I := [.op (.mov 10 (.tmp 8)),
  .op (.mov 5 (.tmp 10)),
  .kp [0, 1, 5, 7, 8]]
def f113r4 : List I := [.op (.mov 11 (.tmp 1)),
  .op (.mov 12 (.tmp 0)),
  .op (.mov 13 (.tmp 5)),
  .op (.iad 14 12 (.tmp 12) (.tmp 13)),
  .op (.ld 15 (some 12) (.tmp 14)),
  .op (.cav (some 16) (.tmp 11) [(.tmp 15)]),
  .kp [0, 1, 5, 7, 8, 16]]
def f113r5 : List I := [.op (.mov 17 (.tmp 5)),
  .op (.mov 4 (.tmp 17)),
  .kp [4]]
def f113r6 : List I := [.op (.bin 18 .add (.tmp 8) (.const (.int .i64 1))),
  .op (.mov 8 (.tmp 18)),
  .kp [0, 1, 7, 8]]
def f113r7 : List I := [.op (.mov 4 (.const (.int .i64 (-1)))),
  .kp [4]]
def f113c9 : C := (.seq (.reg f113r5) .ret)
def f113c8 : C := (.cond (.tmp 16) f113c9 .skip)
def f113c7 : C := (.seq (.reg f113r4) f113c8)
def f113c6 : C := (.seq (.reg f113r3) f113c7)
def f113c10 : C := (.reg f113r6)
def f113c5 : C := (.seq (.block 1 f113c6) f113c10)
def f113c4 : C := (.seq (.cond (.tmp 9) .skip (.exit 0)) f113c5)
def f113c3 : C := (.seq (.reg f113r2) f113c4)
def f113c11 : C := (.seq (.reg f113r7) .ret)
def f113c2 : C := (.seq (.block 0 (.loop f113c3)) f113c11)
def f113c1 : C := (.seq (.reg f113r1) f113c2)
def f113c0 : C := (.seq (.reg f113r0) f113c1)
theorem f113cmp : cmpF Try.prog Try.f113 [.l [.o 0, .kp [0, 1]],
  .l [.o 0, .o 1, .o 2, .kp [0, 1, 7, 8]],
  .l [.o 0, .kp [0, 1, 7, 8, 9]],
  .l [.o 0, .o 1, .kp [0, 1, 5, 7, 8]],
  .l [.o 0, .o 1, .o 2, .o 3, .o 4, .o 5, .kp [0, 1, 5, 7, 8, 16]],
  .l [.o 0, .o 1, .kp [4]],
  .l [.o 0, .o 1, .kp [0, 1, 7, 8]],
  .l [.o 0, .kp [4]]] = some (f113c0, [.tmp 4]) := by kernel_rfl
theorem f113ok {args : List Value} {h : Heap} {R : Value → Heap → Prop} (hn : args.length ≤ 19) (H : wC Try.prog f113c0 (endW [.tmp 4] R) (envOf 0 args) h) : CallsH Try.prog 113 args h R :=
  fn_ok2 Try.func113 f113cmp hn H
section
variable {Q : X → Env → Heap → Prop} {σ : Env} {h : Heap}
theorem f113c9_eq : wC Try.prog f113c9 Q σ h = (wL Try.prog none f113r5 0 (fun σ h => Q .ret σ h) σ h) := rfl
theorem f113c8_eq : wC Try.prog f113c8 Q σ h = (bd (evO σ (.tmp 16)) fun v => bd (asB v) fun t => br t (wC Try.prog f113c9 Q σ h) (Q .normal σ h)) := rfl
theorem f113c7_eq : wC Try.prog f113c7 Q σ h = (wL Try.prog none f113r4 0 (fun σ h => wC Try.prog f113c8 Q σ h) σ h) := rfl
theorem f113c6_eq : wC Try.prog f113c6 Q σ h = (wL Try.prog none f113r3 0 (fun σ h => wC Try.prog f113c7 Q σ h) σ h) := rfl
theorem f113c10_eq : wC Try.prog f113c10 Q σ h = (wL Try.prog none f113r6 0 (fun σ h => Q .normal σ h) σ h) := rfl
theorem f113c5_eq : wC Try.prog f113c5 Q σ h = (wC Try.prog f113c6 (X.inBlock 1 (X.then (fun σ h => wC Try.prog f113c10 Q σ h) Q)) σ h) := rfl
theorem f113c4_eq : wC Try.prog f113c4 Q σ h = (bd (evO σ (.tmp 9)) fun v => bd (asB v) fun t => br t (wC Try.prog f113c5 Q σ h) (Q (.exit 0) σ h)) := rfl
theorem f113c3_eq : wC Try.prog f113c3 Q σ h = (wL Try.prog none f113r2 0 (fun σ h => wC Try.prog f113c4 Q σ h) σ h) := rfl
theorem f113c11_eq : wC Try.prog f113c11 Q σ h = (wL Try.prog none f113r7 0 (fun σ h => Q .ret σ h) σ h) := rfl
theorem f113c2_eq : wC Try.prog f113c2 Q σ h = (loopW (wC Try.prog f113c3) (X.inBlock 0 (X.then (fun σ h => wC Try.prog f113c11 Q σ h) Q)) σ h) := rfl
theorem f113c1_eq : wC Try.prog f113c1 Q σ h = (wL Try.prog none f113r1 0 (fun σ h => wC Try.prog f113c2 Q σ h) σ h) := rfl
theorem f113c0_eq : wC Try.prog f113c0 Q σ h = (wL Try.prog none f113r0 0 (fun σ h => wC Try.prog f113c1 Q σ h) σ h) := rfl
end
end Go.Proofs.Ytefghfgmkndikaa
namespace Go.Proofs.Ytefghfgmkndikaa
open Go.AX
set_option maxRecDepth 100000
def f114r0 : List I := [.op (.mov 2 (.const (.slice none 0 0))),
  .kp [0]]
def f114r1 : List I := [.op (.mov 3 (.tmp 0)),
  .op (.eqn 4 true false (.tmp 3) (.const (.slice none 0 0))),
  .kp [0, 4]]
def f114r2 : List I := [.op (.mov 2 (.const (.slice none 0 0))),
  .kp [2]]
def f114r3 : List I := [.op (.bsl 5 108 0 [] []),
  .op (.mov 6 (.tmp 0)),
  .op (.raw (some 7) ⟨(some 7), (.call ⟨(.builtin .append), #[(.tmp 5), (.tmp 6)], #[101, 101]⟩), 101, "slices.go:362", #[⟨0, .data⟩, ⟨1, .data⟩], none⟩),
  .op (.mov 2 (.tmp 7)),
  .kp [2]]
def f114c3 : C := (.seq (.reg f114r2) .ret)
def f114c4 : C := (.seq (.reg f114r3) .ret)
def f114c2 : C := (.seq (.cond (.tmp 4) f114c3 .skip) f114c4)
def f114c1 : C := (.seq (.reg f114r1) f114c2)
def f114c0 : C := (.seq (.reg f114r0) f114c1)
theorem f114cmp : cmpF Try.prog Try.f114 [.l [.o 0, .kp [0]],
  .l [.o 0, .o 1, .kp [0, 4]],
  .l [.o 0, .kp [2]],
  .l [.o 0, .o 1, .o 2, .o 3, .kp [2]]] = some (f114c0, [.tmp 2]) := by kernel_rfl
theorem f114ok {args : List Value} {h : Heap} {R : Value → Heap → Prop} (hn : args.length ≤ 8) (H : wC Try.prog f114c0 (endW [.tmp 2] R) (envOf 0 args) h) : CallsH Try.prog 114 args h R :=
  fn_ok2 Try.func114 f114cmp hn H
section
variable {Q : X → Env → Heap → Prop} {σ : Env} {h : Heap}
theorem f114c3_eq : wC Try.prog f114c3 Q σ h = (wL Try.prog none f114r2 0 (fun σ h => Q .ret σ h) σ h) := rfl
theorem f114c4_eq : wC Try.prog f114c4 Q σ h = (wL Try.prog none f114r3 0 (fun σ h => Q .ret σ h) σ h) := rfl
theorem f114c2_eq : wC Try.prog f114c2 Q σ h = (bd (evO σ (.tmp 4)) fun v => bd (asB v) fun t => br t (wC Try.prog f114c3 (X.then (fun σ h => wC Try.prog f114c4 Q σ h) Q) σ h) (wC Try.prog f114c4 Q σ h)) := rfl
theorem f114c1_eq : wC Try.prog f114c1 Q σ h = (wL Try.prog none f114r1 0 (fun σ h => wC Try.prog f114c2 Q σ h) σ h) := rfl
theorem f114c0_eq : wC Try.prog f114c0 Q σ h = (wL Try.prog none f114r0 0 (fun σ h => wC Try.prog f114c1 Q σ h) σ h) := rfl
end
def f84r0 : List I := [.op (.box 1 103 (.tmp 0)),
  .op (.new 2 103 [.string ⟨#[]⟩, .slice none 0 0, .bool false, .int .i64 0, .int .i64 0, .int .i64 0, .int .i64 0, .int .i64 0, .int .i64 0, .int .i64 0, .bool false, .string ⟨#[]⟩]),
  .kp [1, 2]]
def f84r1 : List I := [.op (.fad 3 1 (.tmp 1)),
  .op (.ld 4 none (.tmp 3)),
  .op (.call (some 5) 114 [(.tmp 4)]),
  .op (.fad 6 1 (.tmp 1)),
  .op (.st 1 (.tmp 6) (.tmp 5)),
  .kp [1, 2]]
def f84r2 : List I := [.op (.ld 7 (some 12) (.tmp 1)),
  .op (.st 12 (.tmp 2) (.tmp 7)),
  .kp [2]]
def f84c2 : C := (.seq (.reg f84r2) .ret)
def f84c1 : C := (.seq (.reg f84r1) f84c2)
def f84c0 : C := (.seq (.reg f84r0) f84c1)
theorem f84cmp : cmpF Try.prog Try.f84 [.l [.o 0, .o 1, .kp [1, 2]],
  .l [.o 0, .o 1, .o 2, .o 3, .o 4, .kp [1, 2]],
  .l [.o 0, .o 1, .kp [2]]] = some (f84c0, [.cell 2 12]) := by kernel_rfl
theorem f84ok {args : List Value} {h : Heap} {R : Value → Heap → Prop} (hn : args.length ≤ 8) (H : wC Try.prog f84c0 (endW [.cell 2 12] R) (envOf 0 args) h) : CallsH Try.prog 84 args h R :=
  fn_ok2 Try.func84 f84cmp hn H
section
variable {Q : X → Env → Heap → Prop} {σ : Env} {h : Heap}
theorem f84c2_eq : wC Try.prog f84c2 Q σ h = (wL Try.prog none f84r2 0 (fun σ h => Q .ret σ h) σ h) := rfl
theorem f84c1_eq : wC Try.prog f84c1 Q σ h = (wL Try.prog none f84r1 0 (fun σ h => wC Try.prog f84c2 Q σ h) σ h) := rfl
theorem f84c0_eq : wC Try.prog f84c0 Q σ h = (wL Try.prog none f84r0 0 (fun σ h => wC Try.prog f84c1 Q σ h) σ h) := rfl
end
def f86r0 : List I := [.op (.mov 2 (.const (.slice none 0 0))),
  .kp [0]]
def f86r1 : List I := [.op (.mov 3 (.const (.slice none 0 0))),
  .kp [0, 3]]
def f86r2 : List I := [.op (.mov 6 (.tmp 0)),
  .op (.len 7 true (.tmp 6)),
  .op (.mov 8 (.const (.int .i64 0))),
  .kp [3, 6, 7, 8]]
def f86r3 : List I := [.op (.bin 9 .lss (.tmp 8) (.tmp 7)),
  .kp [3, 6, 7, 8, 9]]
def f86r4 : List I := [.op (.iad 10 12 (.tmp 6) (.tmp 8)),
  .op (.ld 11 (some 12) (.tmp 10)),
  .op (.new 5 103 [.string ⟨#[]⟩, .slice none 0 0, .bool false, .int .i64 0, .int .i64 0, .int .i64 0, .int .i64 0, .int .i64 0, .int .i64 0, .int .i64 0, .bool false, .string ⟨#[]⟩]),
  .op (.st 12 (.tmp 5) (.tmp 11)),
  .kp [3, 5, 6, 7, 8]]
def f86r5 : List I := [.op (.mov 12 (.tmp 3)),
  .op (.ld 13 (some 12) (.tmp 5)),
  .op (.call (some 14) 84 [(.tmp 13)]),
  .op (.bsl 15 103 1 [.string ⟨#[]⟩, .slice none 0 0, .bool false, .int .i64 0, .int .i64 0, .int .i64 0, .int .i64 0, .int .i64 0, .int .i64 0, .int .i64 0, .bool false, .string ⟨#[]⟩] [(0, 12, (.tmp 14))]),
  .op (.raw (some 16) ⟨(some 16), (.call ⟨(.builtin .append), #[(.tmp 12), (.tmp 15)], #[74, 74]⟩), 74, "mvcc.go:106", #[⟨0, .data⟩, ⟨3, .data⟩, ⟨2, .chain⟩], none⟩),
  .op (.mov 3 (.tmp 16)),
  .kp [3, 6, 7, 8]]
def f86r6 : List I := [.op (.bin 17 .add (.tmp 8) (.const (.int .i64 1))),
  .op (.mov 8 (.tmp 17)),
  .kp [3, 6, 7, 8]]
def f86r7 : List I := [.op (.mov 18 (.tmp 3)),
  .op (.mov 2 (.tmp 18)),
  .kp [2]]
def f86c8 : C := (.reg f86r5)
def f86c7 : C := (.seq (.reg f86r4) f86c8)
def f86c9 : C := (.reg f86r6)
def f86c6 : C := (.seq (.block 1 f86c7) f86c9)
def f86c5 : C := (.seq (.cond (.tmp 9) .skip (.exit 0)) f86c6)
def f86c4 : C := (.seq (.reg f86r3) f86c5)
def f86c10 : C := (.seq (.reg f86r7) .ret)
def f86c3 : C := (.seq (.block 0 (.loop f86c4)) f86c10)
def f86c2 : C := (.seq (.reg f86r2) f86c3)
def f86c1 : C := (.seq (.reg f86r1) f86c2)
def f86c0 : C := (.seq (.reg f86r0) f86c1)
theorem f86cmp : cmpF Try.prog Try.f86 [.l [.o 0, .kp [0]],
  .l [.o 0, .kp [0, 3]],
  .l [.o 0, .o 1, .o 2, .kp [3, 6, 7, 8]],
  .l [.o 0, .kp [3, 6, 7, 8, 9]],
  .l [.o 0, .o 1, .o 2, .o 3, .kp [3, 5, 6, 7, 8]],
  .l [.o 0, .o 1, .o 2, .o 3, .o 4, .o 5, .kp [3, 6, 7, 8]],
  .l [.o 0, .o 1, .kp [3, 6, 7, 8]],
  .l [.o 0, .o 1, .kp [2]]] = some (f86c0, [.tmp 2]) := by kernel_rfl
theorem f86ok {args : List Value} {h : Heap} {R : Value → Heap → Prop} (hn : args.length ≤ 19) (H : wC Try.prog f86c0 (endW [.tmp 2] R) (envOf 0 args) h) : CallsH Try.prog 86 args h R :=
  fn_ok2 Try.func86 f86cmp hn H
section
variable {Q : X → Env → Heap → Prop} {σ : Env} {h : Heap}
theorem f86c8_eq : wC Try.prog f86c8 Q σ h = (wL Try.prog none f86r5 0 (fun σ h => Q .normal σ h) σ h) := rfl
theorem f86c7_eq : wC Try.prog f86c7 Q σ h = (wL Try.prog none f86r4 0 (fun σ h => wC Try.prog f86c8 Q σ h) σ h) := rfl
theorem f86c9_eq : wC Try.prog f86c9 Q σ h = (wL Try.prog none f86r6 0 (fun σ h => Q .normal σ h) σ h) := rfl
theorem f86c6_eq : wC Try.prog f86c6 Q σ h = (wC Try.prog f86c7 (X.inBlock 1 (X.then (fun σ h => wC Try.prog f86c9 Q σ h) Q)) σ h) := rfl
theorem f86c5_eq : wC Try.prog f86c5 Q σ h = (bd (evO σ (.tmp 9)) fun v => bd (asB v) fun t => br t (wC Try.prog f86c6 Q σ h) (Q (.exit 0) σ h)) := rfl
theorem f86c4_eq : wC Try.prog f86c4 Q σ h = (wL Try.prog none f86r3 0 (fun σ h => wC Try.prog f86c5 Q σ h) σ h) := rfl
theorem f86c10_eq : wC Try.prog f86c10 Q σ h = (wL Try.prog none f86r7 0 (fun σ h => Q .ret σ h) σ h) := rfl
theorem f86c3_eq : wC Try.prog f86c3 Q σ h = (loopW (wC Try.prog f86c4) (X.inBlock 0 (X.then (fun σ h => wC Try.prog f86c10 Q σ h) Q)) σ h) := rfl
theorem f86c2_eq : wC Try.prog f86c2 Q σ h = (wL Try.prog none f86r2 0 (fun σ h => wC Try.prog f86c3 Q σ h) σ h) := rfl
theorem f86c1_eq : wC Try.prog f86c1 Q σ h = (wL Try.prog none f86r1 0 (fun σ h => wC Try.prog f86c2 Q σ h) σ h) := rfl
theorem f86c0_eq : wC Try.prog f86c0 Q σ h = (wL Try.prog none f86r0 0 (fun σ h => wC Try.prog f86c1 Q σ h) σ h) := rfl
end
section
variable {Q : X → Env → Heap → Prop} {σ : Env} {h : Heap}
end
def f115r0 : List I := [.op (.mov 6 (.const (.slice none 0 0))),
  .kp [0, 1, 2]]
def f115r1 : List I := [.op (.mov 10 (.tmp 0)),
  .op (.mov 11 (.tmp 1)),
  .op (.slc 12 4 (.tmp 10) (some (.tmp 11)) none none),
  .kp [0, 1, 2]]
def f115r2 : List I := [.op (.mov 13 (.tmp 2)),
  .op (.len 14 true (.tmp 13)),
  .op (.mov 7 (.tmp 14)),
  .kp [0, 1, 2, 7]]
def f115r3 : List I := [.op (.mov 15 (.tmp 7)),
  .op (.bin 16 .eql (.tmp 15) (.const (.int .i64 0))),
  .kp [0, 1, 2, 7, 16]]
def f115r4 : List I := [.op (.mov 17 (.tmp 0)),
  .op (.mov 6 (.tmp 17)),
  .kp [6]]
def f115r5 : List I := [.op (.mov 18 (.tmp 0)),
  .op (.len 19 true (.tmp 18)),
  .op (.mov 8 (.tmp 19)),
  .kp [0, 1, 2, 7, 8]]
def f115r6 : List I := [.op (.mov 20 (.tmp 1)),
  .op (.mov 21 (.tmp 8)),
  .op (.bin 22 .eql (.tmp 20) (.tmp 21)),
  .kp [0, 1, 2, 7, 8, 22]]
def f115r7 : List I := [.op (.mov 23 (.tmp 0)),
  .op (.mov 24 (.tmp 2)),
  .op (.raw (some 25) ⟨(some 25), (.call ⟨(.builtin .append), #[(.tmp 23), (.tmp 24)], #[101, 101]⟩), 101, "slices.go:145", #[⟨0, .data⟩, ⟨1, .data⟩], none⟩),
  .op (.mov 6 (.tmp 25)),
  .kp [6]]
def f115r8 : List I := [.op (.mov 26 (.tmp 8)),
  .op (.mov 27 (.tmp 7)),
  .op (.bin 28 .add (.tmp 26) (.tmp 27)),
  .op (.mov 29 (.tmp 0)),
  .op (.cap 30 (.tmp 29)),
  .op (.bin 31 .gtr (.tmp 28) (.tmp 30)),
  .kp [0, 1, 2, 7, 8, 31]]
def f115r9 : List I := [.op (.mov 32 (.tmp 0)),
  .op (.mov 33 (.tmp 1)),
  .op (.slc 34 4 (.tmp 32) none (some (.tmp 33)) none),
  .op (.mov 35 (.tmp 8)),
  .op (.mov 36 (.tmp 7)),
  .op (.bin 37 .add (.tmp 35) (.tmp 36)),
  .op (.mov 38 (.tmp 1)),
  .op (.bin 39 .sub (.tmp 37) (.tmp 38)),
  .op (.raw (some 40) ⟨(some 40), (.call ⟨(.builtin .append), #[(.tmp 34), (.tmp 39)], #[101, 3]⟩), 101, "slices.go:152", #[⟨2, .data⟩, ⟨7, .data⟩], none⟩),
  .op (.mov 9 (.tmp 40)),
  .kp [0, 1, 2, 7, 9]]
def f115r10 : List I := [.op (.mov 41 (.tmp 9)),
  .op (.mov 42 (.tmp 1)),
  .op (.slc 43 4 (.tmp 41) (some (.tmp 42)) none none),
  .op (.mov 44 (.tmp 2)),
  .op (.raw (some 45) ⟨(some 45), (.call ⟨(.builtin .copy), #[(.tmp 43), (.tmp 44)], #[101, 101]⟩), 3, "slices.go:153", #[⟨2, .data⟩, ⟨3, .data⟩], none⟩),
  .kp [0, 1, 7, 9]]
def f115r11 : List I := [.op (.mov 46 (.tmp 9)),
  .op (.mov 47 (.tmp 1)),
  .op (.mov 48 (.tmp 7)),
  .op (.bin 49 .add (.tmp 47) (.tmp 48)),
  .op (.slc 50 4 (.tmp 46) (some (.tmp 49)) none none),
  .op (.mov 51 (.tmp 0)),
  .op (.mov 52 (.tmp 1)),
  .op (.slc 53 4 (.tmp 51) (some (.tmp 52)) none none),
  .op (.raw (some 54) ⟨(some 54), (.call ⟨(.builtin .copy), #[(.tmp 50), (.tmp 53)], #[101, 101]⟩), 3, "slices.go:154", #[⟨4, .data⟩, ⟨7, .data⟩], none⟩),
  .kp [9]]
def f115r12 : List I := [.op (.mov 55 (.tmp 9)),
  .op (.mov 6 (.tmp 55)),
  .kp [6]]
def f115r13 : List I := [.op (.mov 56 (.tmp 0)),
  .op (.mov 57 (.tmp 8)),
  .op (.mov 58 (.tmp 7)),
  .op (.bin 59 .add (.tmp 57) (.tmp 58)),
  .op (.slc 60 4 (.tmp 56) none (some (.tmp 59)) none),
  .op (.mov 0 (.tmp 60)),
  .kp [0, 1, 2, 7, 8]]
def f115r14 : List I := [.op (.mov 61 (.tmp 2)),
  .op (.mov 62 (.tmp 0)),
  .op (.mov 63 (.tmp 1)),
  .op (.mov 64 (.tmp 7)),
  .op (.bin 65 .add (.tmp 63) (.tmp 64)),
  .op (.slc 66 4 (.tmp 62) (some (.tmp 65)) none none),
  .op (.raw (some 67) ⟨(some 67), (.call ⟨(.value (.func 137)), #[(.tmp 61), (.tmp 66)], #[101, 101]⟩), 4, "slices.go:173", #[⟨0, .data⟩, ⟨5, .data⟩], none⟩),
  .op (.un 68 .not (.tmp 67)),
  .kp [0, 1, 2, 7, 8, 68]]
def f115r15 : List I := [.op (.mov 69 (.tmp 0)),
  .op (.mov 70 (.tmp 1)),
  .op (.mov 71 (.tmp 7)),
  .op (.bin 72 .add (.tmp 70) (.tmp 71)),
  .op (.slc 73 4 (.tmp 69) (some (.tmp 72)) none none),
  .op (.mov 74 (.tmp 0)),
  .op (.mov 75 (.tmp 1)),
  .op (.slc 76 4 (.tmp 74) (some (.tmp 75)) none none),
  .op (.raw (some 77) ⟨(some 77), (.call ⟨(.builtin .copy), #[(.tmp 73), (.tmp 76)], #[101, 101]⟩), 3, "slices.go:178", #[⟨4, .data⟩, ⟨7, .data⟩], none⟩),
  .kp [0, 1, 2]]
def f115r16 : List I := [.op (.mov 78 (.tmp 0)),
  .op (.mov 79 (.tmp 1)),
  .op (.slc 80 4 (.tmp 78) (some (.tmp 79)) none none),
  .op (.mov 81 (.tmp 2)),
  .op (.raw (some 82) ⟨(some 82), (.call ⟨(.builtin .copy), #[(.tmp 80), (.tmp 81)], #[101, 101]⟩), 3, "slices.go:186", #[⟨2, .data⟩, ⟨3, .data⟩], none⟩),
  .kp [0]]
def f115r17 : List I := [.op (.mov 83 (.tmp 0)),
  .op (.mov 6 (.tmp 83)),
  .kp [6]]
def f115r18 : List I := [.op (.mov 84 (.tmp 0)),
  .op (.mov 85 (.tmp 8)),
  .op (.slc 86 4 (.tmp 84) (some (.tmp 85)) none none),
  .op (.mov 87 (.tmp 2)),
  .op (.raw (some 88) ⟨(some 88), (.call ⟨(.builtin .copy), #[(.tmp 86), (.tmp 87)], #[101, 101]⟩), 3, "slices.go:200", #[⟨2, .data⟩, ⟨3, .data⟩], none⟩),
  .kp [0, 1, 7]]
def f115r19 : List I := [.op (.mov 89 (.tmp 0)),
  .op (.mov 90 (.tmp 1)),
  .op (.slc 91 4 (.tmp 89) (some (.tmp 90)) none none),
  .op (.mov 92 (.tmp 7)),
  .op (.call (some 93) 138 [(.tmp 91), (.tmp 92)]),
  .kp [0]]
def f115r20 : List I := [.op (.mov 94 (.tmp 0)),
  .op (.mov 6 (.tmp 94)),
  .kp [6]]
def f115c5 : C := (.seq (.reg f115r4) .ret)
def f115c9 : C := (.seq (.reg f115r7) .ret)
def f115c15 : C := (.seq (.reg f115r12) .ret)
def f115c14 : C := (.seq (.drw f115r11) f115c15)
def f115c13 : C := (.seq (.reg f115r10) f115c14)
def f115c12 : C := (.seq (.reg f115r9) f115c13)
def f115c21 : C := (.seq (.reg f115r17) .ret)
def f115c20 : C := (.seq (.reg f115r16) f115c21)
def f115c19 : C := (.seq (.drw f115r15) f115c20)
def f115c24 : C := (.seq (.reg f115r20) .ret)
def f115c23 : C := (.seq (.reg f115r19) f115c24)
def f115c22 : C := (.seq (.reg f115r18) f115c23)
def f115c18 : C := (.seq (.cond (.tmp 68) f115c19 .skip) f115c22)
def f115c17 : C := (.seq (.reg f115r14) f115c18)
def f115c16 : C := (.seq (.reg f115r13) f115c17)
def f115c11 : C := (.seq (.cond (.tmp 31) f115c12 .skip) f115c16)
def f115c10 : C := (.seq (.reg f115r8) f115c11)
def f115c8 : C := (.seq (.cond (.tmp 22) f115c9 .skip) f115c10)
def f115c7 : C := (.seq (.reg f115r6) f115c8)
def f115c6 : C := (.seq (.reg f115r5) f115c7)
def f115c4 : C := (.seq (.cond (.tmp 16) f115c5 .skip) f115c6)
def f115c3 : C := (.seq (.reg f115r3) f115c4)
def f115c2 : C := (.seq (.reg f115r2) f115c3)
def f115c1 : C := (.seq (.reg f115r1) f115c2)
def f115c0 : C := (.seq (.reg f115r0) f115c1)
theorem f115cmp : cmpF Try.prog Try.f115 [.l [.o 0, .kp [0, 1, 2]],
  .l [.o 0, .o 1, .o 2, .kp [0, 1, 2]],
  .l [.o 0, .o 1, .o 2, .kp [0, 1, 2, 7]],
  .l [.o 0, .o 1, .kp [0, 1, 2, 7, 16]],
  .l [.o 0, .o 1, .kp [6]],
  .l [.o 0, .o 1, .o 2, .kp [0, 1, 2, 7, 8]],
  .l [.o 0, .o 1, .o 2, .kp [0, 1, 2, 7, 8, 22]],
  .l [.o 0, .o 1, .o 2, .o 3, .kp [6]],
  .l [.o 0, .o 1, .o 2, .o 3, .o 4, .o 5, .kp [0, 1, 2, 7, 8, 31]],
  .l [.o 0, .o 1, .o 2, .o 3, .o 4, .o 5, .o 6, .o 7, .o 8, .o 9, .kp [0, 1, 2, 7, 9]],
  .l [.o 0, .o 1, .o 2, .o 3, .o 4, .kp [0, 1, 7, 9]],
  .l [.o 0, .o 1, .o 2, .o 3, .o 4, .o 5, .o 6, .o 7, .o 8, .kp [9]],
  .l [.o 0, .o 1, .kp [6]],
  .l [.o 0, .o 1, .o 2, .o 3, .o 4, .o 5, .kp [0, 1, 2, 7, 8]],
  .l [.o 0, .o 1, .o 2, .o 3, .o 4, .o 5, .o 6, .o 7, .kp [0, 1, 2, 7, 8, 68]],
  .l [.o 0, .o 1, .o 2, .o 3, .o 4, .o 5, .o 6, .o 7, .o 8, .kp [0, 1, 2]],
  .l [.o 0, .o 1, .o 2, .o 3, .o 4, .kp [0]],
  .l [.o 0, .o 1, .kp [6]],
  .l [.o 0, .o 1, .o 2, .o 3, .o 4, .kp [0, 1, 7]],
  .l [.o 0, .o 1, .o 2, .o 3, .o 4, .kp [0]],
  .l [.o 0, .o 1, .kp [6]]] = some (f115c0, [.tmp 6]) := by kernel_rfl
theorem f115ok {args : List Value} {h : Heap} {R : Value → Heap → Prop} (hn : args.length ≤ 95) (H : wC Try.prog f115c0 (endW [.tmp 6] R) (envOf 0 args) h) : CallsH Try.prog 115 args h R :=
  fn_ok2 Try.func115 f115cmp hn H
section
variable {Q : X → Env → Heap → Prop} {σ : Env} {h : Heap}
theorem f115c9_eq : wC Try.prog f115c9 Q σ h = (wL Try.prog none f115r7 0 (fun σ h => Q .ret σ h) σ h) := rfl
theorem f115c15_eq : wC Try.prog f115c15 Q σ h = (wL Try.prog none f115r12 0 (fun σ h => Q .ret σ h) σ h) := rfl
theorem f115c14_eq : wC Try.prog f115c14 Q σ h = (drwW Try.prog f115r11 (fun σ h => wC Try.prog f115c15 Q σ h) σ h) := rfl
theorem f115c13_eq : wC Try.prog f115c13 Q σ h = (wL Try.prog none f115r10 0 (fun σ h => wC Try.prog f115c14 Q σ h) σ h) := rfl
theorem f115c12_eq : wC Try.prog f115c12 Q σ h = (wL Try.prog none f115r9 0 (fun σ h => wC Try.prog f115c13 Q σ h) σ h) := rfl
theorem f115c21_eq : wC Try.prog f115c21 Q σ h = (wL Try.prog none f115r17 0 (fun σ h => Q .ret σ h) σ h) := rfl
theorem f115c20_eq : wC Try.prog f115c20 Q σ h = (wL Try.prog none f115r16 0 (fun σ h => wC Try.prog f115c21 Q σ h) σ h) := rfl
theorem f115c19_eq : wC Try.prog f115c19 Q σ h = (drwW Try.prog f115r15 (fun σ h => wC Try.prog f115c20 Q σ h) σ h) := rfl
theorem f115c18_eq : wC Try.prog f115c18 Q σ h = (bd (evO σ (.tmp 68)) fun v => bd (asB v) fun t => br t (wC Try.prog f115c19 (X.then (fun σ h => wC Try.prog f115c22 Q σ h) Q) σ h) (wC Try.prog f115c22 Q σ h)) := rfl
theorem f115c17_eq : wC Try.prog f115c17 Q σ h = (wL Try.prog none f115r14 0 (fun σ h => wC Try.prog f115c18 Q σ h) σ h) := rfl
theorem f115c16_eq : wC Try.prog f115c16 Q σ h = (wL Try.prog none f115r13 0 (fun σ h => wC Try.prog f115c17 Q σ h) σ h) := rfl
theorem f115c11_eq : wC Try.prog f115c11 Q σ h = (bd (evO σ (.tmp 31)) fun v => bd (asB v) fun t => br t (wC Try.prog f115c12 (X.then (fun σ h => wC Try.prog f115c16 Q σ h) Q) σ h) (wC Try.prog f115c16 Q σ h)) := rfl
theorem f115c10_eq : wC Try.prog f115c10 Q σ h = (wL Try.prog none f115r8 0 (fun σ h => wC Try.prog f115c11 Q σ h) σ h) := rfl
theorem f115c8_eq : wC Try.prog f115c8 Q σ h = (bd (evO σ (.tmp 22)) fun v => bd (asB v) fun t => br t (wC Try.prog f115c9 (X.then (fun σ h => wC Try.prog f115c10 Q σ h) Q) σ h) (wC Try.prog f115c10 Q σ h)) := rfl
theorem f115c7_eq : wC Try.prog f115c7 Q σ h = (wL Try.prog none f115r6 0 (fun σ h => wC Try.prog f115c8 Q σ h) σ h) := rfl
theorem f115c6_eq : wC Try.prog f115c6 Q σ h = (wL Try.prog none f115r5 0 (fun σ h => wC Try.prog f115c7 Q σ h) σ h) := rfl
theorem f115c4_eq : wC Try.prog f115c4 Q σ h = (bd (evO σ (.tmp 16)) fun v => bd (asB v) fun t => br t (wC Try.prog f115c5 (X.then (fun σ h => wC Try.prog f115c6 Q σ h) Q) σ h) (wC Try.prog f115c6 Q σ h)) := rfl
theorem f115c3_eq : wC Try.prog f115c3 Q σ h = (wL Try.prog none f115r3 0 (fun σ h => wC Try.prog f115c4 Q σ h) σ h) := rfl
theorem f115c2_eq : wC Try.prog f115c2 Q σ h = (wL Try.prog none f115r2 0 (fun σ h => wC Try.prog f115c3 Q σ h) σ h) := rfl
theorem f115c1_eq : wC Try.prog f115c1 Q σ h = (wL Try.prog none f115r1 0 (fun σ h => wC Try.prog f115c2 Q σ h) σ h) := rfl
theorem f115c0_eq : wC Try.prog f115c0 Q σ h = (wL Try.prog none f115r0 0 (fun σ h => wC Try.prog f115c1 Q σ h) σ h) := rfl
end
def f88r0 : List I := [.op (.mov 6 (.const (.slice none 0 0))),
  .kp [0, 1, 2]]
def f88r1 : List I := [.op (.mov 10 (.tmp 0)),
  .op (.mov 11 (.tmp 1)),
  .op (.slc 12 12 (.tmp 10) (some (.tmp 11)) none none),
  .kp [0, 1, 2]]
def f88r2 : List I := [.op (.mov 13 (.tmp 2)),
  .op (.len 14 true (.tmp 13)),
  .op (.mov 7 (.tmp 14)),
  .kp [0, 1, 2, 7]]
def f88r3 : List I := [.op (.mov 15 (.tmp 7)),
  .op (.bin 16 .eql (.tmp 15) (.const (.int .i64 0))),
  .kp [0, 1, 2, 7, 16]]
def f88r4 : List I := [.op (.mov 17 (.tmp 0)),
  .op (.mov 6 (.tmp 17)),
  .kp [6]]
def f88r5 : List I := [.op (.mov 18 (.tmp 0)),
  .op (.len 19 true (.tmp 18)),
  .op (.mov 8 (.tmp 19)),
  .kp [0, 1, 2, 7, 8]]
def f88r6 : List I := [.op (.mov 20 (.tmp 1)),
  .op (.mov 21 (.tmp 8)),
  .op (.bin 22 .eql (.tmp 20) (.tmp 21)),
  .kp [0, 1, 2, 7, 8, 22]]
def f88r7 : List I := [.op (.mov 23 (.tmp 0)),
  .op (.mov 24 (.tmp 2)),
  .op (.raw (some 25) ⟨(some 25), (.call ⟨(.builtin .append), #[(.tmp 23), (.tmp 24)], #[74, 74]⟩), 74, "slices.go:145", #[⟨0, .data⟩, ⟨1, .data⟩], none⟩),
  .op (.mov 6 (.tmp 25)),
  .kp [6]]
def f88r8 : List I := [.op (.mov 26 (.tmp 8)),
  .op (.mov 27 (.tmp 7)),
  .op (.bin 28 .add (.tmp 26) (.tmp 27)),
  .op (.mov 29 (.tmp 0)),
  .op (.cap 30 (.tmp 29)),
  .op (.bin 31 .gtr (.tmp 28) (.tmp 30)),
  .kp [0, 1, 2, 7, 8, 31]]
def f88r9 : List I := [.op (.mov 32 (.tmp 0)),
  .op (.mov 33 (.tmp 1)),
  .op (.slc 34 12 (.tmp 32) none (some (.tmp 33)) none),
  .op (.mov 35 (.tmp 8)),
  .op (.mov 36 (.tmp 7)),
  .op (.bin 37 .add (.tmp 35) (.tmp 36)),
  .op (.mov 38 (.tmp 1)),
  .op (.bin 39 .sub (.tmp 37) (.tmp 38)),
  .op (.raw (some 40) ⟨(some 40), (.call ⟨(.builtin .append), #[(.tmp 34), (.tmp 39)], #[74, 3]⟩), 74, "slices.go:152", #[⟨2, .data⟩, ⟨7, .data⟩], none⟩),
  .op (.mov 9 (.tmp 40)),
  .kp [0, 1, 2, 7, 9]]
def f88r10 : List I := [.op (.mov 41 (.tmp 9)),
  .op (.mov 42 (.tmp 1)),
  .op (.slc 43 12 (.tmp 41) (some (.tmp 42)) none none),
  .op (.mov 44 (.tmp 2)),
  .op (.raw (some 45) ⟨(some 45), (.call ⟨(.builtin .copy), #[(.tmp 43), (.tmp 44)], #[74, 74]⟩), 3, "slices.go:153", #[⟨2, .data⟩, ⟨3, .data⟩], none⟩),
  .kp [0, 1, 7, 9]]
def f88r11 : List I := [.op (.mov 46 (.tmp 9)),
  .op (.mov 47 (.tmp 1)),
  .op (.mov 48 (.tmp 7)),
  .op (.bin 49 .add (.tmp 47) (.tmp 48)),
  .op (.slc 50 12 (.tmp 46) (some (.tmp 49)) none none),
  .op (.mov 51 (.tmp 0)),
  .op (.mov 52 (.tmp 1)),
  .op (.slc 53 12 (.tmp 51) (some (.tmp 52)) none none),
  .op (.raw (some 54) ⟨(some 54), (.call ⟨(.builtin .copy), #[(.tmp 50), (.tmp 53)], #[74, 74]⟩), 3, "slices.go:154", #[⟨4, .data⟩, ⟨7, .data⟩], none⟩),
  .kp [9]]
def f88r12 : List I := [.op (.mov 55 (.tmp 9)),
  .op (.mov 6 (.tmp 55)),
  .kp [6]]
def f88r13 : List I := [.op (.mov 56 (.tmp 0)),
  .op (.mov 57 (.tmp 8)),
  .op (.mov 58 (.tmp 7)),
  .op (.bin 59 .add (.tmp 57) (.tmp 58)),
  .op (.slc 60 12 (.tmp 56) none (some (.tmp 59)) none),
  .op (.mov 0 (.tmp 60)),
  .kp [0, 1, 2, 7, 8]]
def f88r14 : List I := [.op (.mov 61 (.tmp 2)),
  .op (.mov 62 (.tmp 0)),
  .op (.mov 63 (.tmp 1)),
  .op (.mov 64 (.tmp 7)),
  .op (.bin 65 .add (.tmp 63) (.tmp 64)),
  .op (.slc 66 12 (.tmp 62) (some (.tmp 65)) none none),
  .op (.raw (some 67) ⟨(some 67), (.call ⟨(.value (.func 119)), #[(.tmp 61), (.tmp 66)], #[74, 74]⟩), 4, "slices.go:173", #[⟨0, .data⟩, ⟨5, .data⟩], none⟩),
  .op (.un 68 .not (.tmp 67)),
  .kp [0, 1, 2, 7, 8, 68]]
def f88r15 : List I := [.op (.mov 69 (.tmp 0)),
  .op (.mov 70 (.tmp 1)),
  .op (.mov 71 (.tmp 7)),
  .op (.bin 72 .add (.tmp 70) (.tmp 71)),
  .op (.slc 73 12 (.tmp 69) (some (.tmp 72)) none none),
  .op (.mov 74 (.tmp 0)),
  .op (.mov 75 (.tmp 1)),
  .op (.slc 76 12 (.tmp 74) (some (.tmp 75)) none none),
  .op (.raw (some 77) ⟨(some 77), (.call ⟨(.builtin .copy), #[(.tmp 73), (.tmp 76)], #[74, 74]⟩), 3, "slices.go:178", #[⟨4, .data⟩, ⟨7, .data⟩], none⟩),
  .kp [0, 1, 2]]
def f88r16 : List I := [.op (.mov 78 (.tmp 0)),
  .op (.mov 79 (.tmp 1)),
  .op (.slc 80 12 (.tmp 78) (some (.tmp 79)) none none),
  .op (.mov 81 (.tmp 2)),
  .op (.raw (some 82) ⟨(some 82), (.call ⟨(.builtin .copy), #[(.tmp 80), (.tmp 81)], #[74, 74]⟩), 3, "slices.go:186", #[⟨2, .data⟩, ⟨3, .data⟩], none⟩),
  .kp [0]]
def f88r17 : List I := [.op (.mov 83 (.tmp 0)),
  .op (.mov 6 (.tmp 83)),
  .kp [6]]
def f88r18 : List I := [.op (.mov 84 (.tmp 0)),
  .op (.mov 85 (.tmp 8)),
  .op (.slc 86 12 (.tmp 84) (some (.tmp 85)) none none),
  .op (.mov 87 (.tmp 2)),
  .op (.raw (some 88) ⟨(some 88), (.call ⟨(.builtin .copy), #[(.tmp 86), (.tmp 87)], #[74, 74]⟩), 3, "slices.go:200", #[⟨2, .data⟩, ⟨3, .data⟩], none⟩),
  .kp [0, 1, 7]]
def f88r19 : List I := [.op (.mov 89 (.tmp 0)),
  .op (.mov 90 (.tmp 1)),
  .op (.slc 91 12 (.tmp 89) (some (.tmp 90)) none none),
  .op (.mov 92 (.tmp 7)),
  .op (.call (some 93) 120 [(.tmp 91), (.tmp 92)]),
  .kp [0]]
def f88r20 : List I := [.op (.mov 94 (.tmp 0)),
  .op (.mov 6 (.tmp 94)),
  .kp [6]]
def f88c5 : C := (.seq (.reg f88r4) .ret)
def f88c9 : C := (.seq (.reg f88r7) .ret)
def f88c15 : C := (.seq (.reg f88r12) .ret)
def f88c14 : C := (.seq (.drw f88r11) f88c15)
def f88c13 : C := (.seq (.reg f88r10) f88c14)
def f88c12 : C := (.seq (.reg f88r9) f88c13)
def f88c21 : C := (.seq (.reg f88r17) .ret)
def f88c20 : C := (.seq (.reg f88r16) f88c21)
def f88c19 : C := (.seq (.drw f88r15) f88c20)
def f88c24 : C := (.seq (.reg f88r20) .ret)
def f88c23 : C := (.seq (.reg f88r19) f88c24)
def f88c22 : C := (.seq (.reg f88r18) f88c23)
def f88c18 : C := (.seq (.cond (.tmp 68) f88c19 .skip) f88c22)
def f88c17 : C := (.seq (.reg f88r14) f88c18)
def f88c16 : C := (.seq (.reg f88r13) f88c17)
def f88c11 : C := (.seq (.cond (.tmp 31) f88c12 .skip) f88c16)
def f88c10 : C := (.seq (.reg f88r8) f88c11)
def f88c8 : C := (.seq (.cond (.tmp 22) f88c9 .skip) f88c10)
def f88c7 : C := (.seq (.reg f88r6) f88c8)
def f88c6 : C := (.seq (.reg f88r5) f88c7)
def f88c4 : C := (.seq (.cond (.tmp 16) f88c5 .skip) f88c6)
def f88c3 : C := (.seq (.reg f88r3) f88c4)
def f88c2 : C := (.seq (.reg f88r2) f88c3)
def f88c1 : C := (.seq (.reg f88r1) f88c2)
def f88c0 : C := (.seq (.reg f88r0) f88c1)
theorem f88cmp : cmpF Try.prog Try.f88 [.l [.o 0, .kp [0, 1, 2]],
  .l [.o 0, .o 1, .o 2, .kp [0, 1, 2]],
  .l [.o 0, .o 1, .o 2, .kp [0, 1, 2, 7]],
  .l [.o 0, .o 1, .kp [0, 1, 2, 7, 16]],
  .l [.o 0, .o 1, .kp [6]],
  .l [.o 0, .o 1, .o 2, .kp [0, 1, 2, 7, 8]],
  .l [.o 0, .o 1, .o 2, .kp [0, 1, 2, 7, 8, 22]],
  .l [.o 0, .o 1, .o 2, .o 3, .kp [6]],
  .l [.o 0, .o 1, .o 2, .o 3, .o 4, .o 5, .kp [0, 1, 2, 7, 8, 31]],
  .l [.o 0, .o 1, .o 2, .o 3, .o 4, .o 5, .o 6, .o 7, .o 8, .o 9, .kp [0, 1, 2, 7, 9]],
  .l [.o 0, .o 1, .o 2, .o 3, .o 4, .kp [0, 1, 7, 9]],
  .l [.o 0, .o 1, .o 2, .o 3, .o 4, .o 5, .o 6, .o 7, .o 8, .kp [9]],
  .l [.o 0, .o 1, .kp [6]],
  .l [.o 0, .o 1, .o 2, .o 3, .o 4, .o 5, .kp [0, 1, 2, 7, 8]],
  .l [.o 0, .o 1, .o 2, .o 3, .o 4, .o 5, .o 6, .o 7, .kp [0, 1, 2, 7, 8, 68]],
  .l [.o 0, .o 1, .o 2, .o 3, .o 4, .o 5, .o 6, .o 7, .o 8, .kp [0, 1, 2]],
  .l [.o 0, .o 1, .o 2, .o 3, .o 4, .kp [0]],
  .l [.o 0, .o 1, .kp [6]],
  .l [.o 0, .o 1, .o 2, .o 3, .o 4, .kp [0, 1, 7]],
  .l [.o 0, .o 1, .o 2, .o 3, .o 4, .kp [0]],
  .l [.o 0, .o 1, .kp [6]]] = some (f88c0, [.tmp 6]) := by kernel_rfl
theorem f88ok {args : List Value} {h : Heap} {R : Value → Heap → Prop} (hn : args.length ≤ 95) (H : wC Try.prog f88c0 (endW [.tmp 6] R) (envOf 0 args) h) : CallsH Try.prog 88 args h R :=
  fn_ok2 Try.func88 f88cmp hn H
section
variable {Q : X → Env → Heap → Prop} {σ : Env} {h : Heap}
theorem f88c9_eq : wC Try.prog f88c9 Q σ h = (wL Try.prog none f88r7 0 (fun σ h => Q .ret σ h) σ h) := rfl
theorem f88c15_eq : wC Try.prog f88c15 Q σ h = (wL Try.prog none f88r12 0 (fun σ h => Q .ret σ h) σ h) := rfl
theorem f88c14_eq : wC Try.prog f88c14 Q σ h = (drwW Try.prog f88r11 (fun σ h => wC Try.prog f88c15 Q σ h) σ h) := rfl
theorem f88c13_eq : wC Try.prog f88c13 Q σ h = (wL Try.prog none f88r10 0 (fun σ h => wC Try.prog f88c14 Q σ h) σ h) := rfl
theorem f88c12_eq : wC Try.prog f88c12 Q σ h = (wL Try.prog none f88r9 0 (fun σ h => wC Try.prog f88c13 Q σ h) σ h) := rfl
theorem f88c21_eq : wC Try.prog f88c21 Q σ h = (wL Try.prog none f88r17 0 (fun σ h => Q .ret σ h) σ h) := rfl
theorem f88c20_eq : wC Try.prog f88c20 Q σ h = (wL Try.prog none f88r16 0 (fun σ h => wC Try.prog f88c21 Q σ h) σ h) := rfl
theorem f88c19_eq : wC Try.prog f88c19 Q σ h = (drwW Try.prog f88r15 (fun σ h => wC Try.prog f88c20 Q σ h) σ h) := rfl
theorem f88c18_eq : wC Try.prog f88c18 Q σ h = (bd (evO σ (.tmp 68)) fun v => bd (asB v) fun t => br t (wC Try.prog f88c19 (X.then (fun σ h => wC Try.prog f88c22 Q σ h) Q) σ h) (wC Try.prog f88c22 Q σ h)) := rfl
theorem f88c17_eq : wC Try.prog f88c17 Q σ h = (wL Try.prog none f88r14 0 (fun σ h => wC Try.prog f88c18 Q σ h) σ h) := rfl
theorem f88c16_eq : wC Try.prog f88c16 Q σ h = (wL Try.prog none f88r13 0 (fun σ h => wC Try.prog f88c17 Q σ h) σ h) := rfl
theorem f88c11_eq : wC Try.prog f88c11 Q σ h = (bd (evO σ (.tmp 31)) fun v => bd (asB v) fun t => br t (wC Try.prog f88c12 (X.then (fun σ h => wC Try.prog f88c16 Q σ h) Q) σ h) (wC Try.prog f88c16 Q σ h)) := rfl
theorem f88c10_eq : wC Try.prog f88c10 Q σ h = (wL Try.prog none f88r8 0 (fun σ h => wC Try.prog f88c11 Q σ h) σ h) := rfl
theorem f88c8_eq : wC Try.prog f88c8 Q σ h = (bd (evO σ (.tmp 22)) fun v => bd (asB v) fun t => br t (wC Try.prog f88c9 (X.then (fun σ h => wC Try.prog f88c10 Q σ h) Q) σ h) (wC Try.prog f88c10 Q σ h)) := rfl
theorem f88c7_eq : wC Try.prog f88c7 Q σ h = (wL Try.prog none f88r6 0 (fun σ h => wC Try.prog f88c8 Q σ h) σ h) := rfl
theorem f88c6_eq : wC Try.prog f88c6 Q σ h = (wL Try.prog none f88r5 0 (fun σ h => wC Try.prog f88c7 Q σ h) σ h) := rfl
theorem f88c4_eq : wC Try.prog f88c4 Q σ h = (bd (evO σ (.tmp 16)) fun v => bd (asB v) fun t => br t (wC Try.prog f88c5 (X.then (fun σ h => wC Try.prog f88c6 Q σ h) Q) σ h) (wC Try.prog f88c6 Q σ h)) := rfl
theorem f88c3_eq : wC Try.prog f88c3 Q σ h = (wL Try.prog none f88r3 0 (fun σ h => wC Try.prog f88c4 Q σ h) σ h) := rfl
theorem f88c2_eq : wC Try.prog f88c2 Q σ h = (wL Try.prog none f88r2 0 (fun σ h => wC Try.prog f88c3 Q σ h) σ h) := rfl
theorem f88c1_eq : wC Try.prog f88c1 Q σ h = (wL Try.prog none f88r1 0 (fun σ h => wC Try.prog f88c2 Q σ h) σ h) := rfl
theorem f88c0_eq : wC Try.prog f88c0 Q σ h = (wL Try.prog none f88r0 0 (fun σ h => wC Try.prog f88c1 Q σ h) σ h) := rfl
end
def f85r0 : List I := [.op (.box 3 108 (.tmp 1)),
  .op (.mov 4 (.const (.slice none 0 0))),
  .kp [0, 3]]
def f85r1 : List I := [.op (.mov 6 (.tmp 0)),
  .op (.fad 7 0 (.tmp 3)),
  .op (.ld 8 (some 2) (.tmp 7)),
  .op (.call (some 9) 91 [(.tmp 6), (.tmp 8)]),
  .op (.mov 5 (.tmp 9)),
  .kp [0, 3, 5]]
def f85r2 : List I := [.op (.mov 10 (.tmp 5)),
  .op (.bin 11 .geq (.tmp 10) (.const (.int .i64 0))),
  .op (.mov 12 (.tmp 11)),
  .sc 12 true 8,
  .g 12 true (.mov 13 (.tmp 0)),
  .g 12 true (.mov 14 (.tmp 5)),
  .g 12 true (.iad 15 4 (.tmp 13) (.tmp 14)),
  .g 12 true (.fad 16 0 (.tmp 15)),
  .g 12 true (.ld 17 (some 2) (.tmp 16)),
  .g 12 true (.fad 18 0 (.tmp 3)),
  .g 12 true (.ld 19 (some 2) (.tmp 18)),
  .g 12 true (.eqa 20 false [.i .i64, .i .i64] (.tmp 17) (.tmp 19)),
  .op (.pick 21 (.tmp 12) (.tmp 20) (.const (.bool false))),
  .kp [0, 3, 5, 21]]
def f85r3 : List I := [.op (.mov 22 (.tmp 0)),
  .op (.mov 23 (.tmp 5)),
  .op (.ld 24 (some 4) (.tmp 3)),
  .op (.iad 25 4 (.tmp 22) (.tmp 23)),
  .op (.st 4 (.tmp 25) (.tmp 24)),
  .kp [0]]
def f85r4 : List I := [.op (.mov 26 (.tmp 0)),
  .op (.mov 4 (.tmp 26)),
  .kp [4]]
def f85r5 : List I := [.op (.mov 27 (.tmp 0)),
  .op (.mov 28 (.tmp 5)),
  .op (.bin 29 .add (.tmp 28) (.const (.int .i64 1))),
  .op (.ld 30 (some 4) (.tmp 3)),
  .op (.bsl 31 108 1 [.int .i64 0, .int .i64 0, .bool false, .string ⟨#[]⟩] [(0, 4, (.tmp 30))]),
  .op (.call (some 32) 115 [(.tmp 27), (.tmp 29), (.tmp 31)]),
  .op (.mov 4 (.tmp 32)),
  .kp [4]]
def f85c5 : C := (.seq (.reg f85r4) .ret)
def f85c4 : C := (.seq (.reg f85r3) f85c5)
def f85c6 : C := (.seq (.reg f85r5) .ret)
def f85c3 : C := (.seq (.cond (.tmp 21) f85c4 .skip) f85c6)
def f85c2 : C := (.seq (.drw f85r2) f85c3)
def f85c1 : C := (.seq (.reg f85r1) f85c2)
def f85c0 : C := (.seq (.reg f85r0) f85c1)
theorem f85cmp : cmpF Try.prog Try.f85 [.l [.o 0, .o 1, .kp [0, 3]],
  .l [.o 0, .o 1, .o 2, .o 3, .o 4, .kp [0, 3, 5]],
  .l [.o 0, .o 1, .o 2, .sc 12 true 8, .o 3, .o 4, .o 5, .o 6, .o 7, .o 8, .o 9, .o 10, .o 11, .kp [0, 3, 5, 21]],
  .l [.o 0, .o 1, .o 2, .o 3, .o 4, .kp [0]],
  .l [.o 0, .o 1, .kp [4]],
  .l [.o 0, .o 1, .o 2, .o 3, .o 4, .o 5, .o 6, .kp [4]]] = some (f85c0, [.tmp 4]) := by kernel_rfl
theorem f85ok {args : List Value} {h : Heap} {R : Value → Heap → Prop} (hn : args.length ≤ 33) (H : wC Try.prog f85c0 (endW [.tmp 4] R) (envOf 0 args) h) : CallsH Try.prog 85 args h R :=
  fn_ok2 Try.func85 f85cmp hn H
section
variable {Q : X → Env → Heap → Prop} {σ : Env} {h : Heap}
theorem f85c5_eq : wC Try.prog f85c5 Q σ h = (wL Try.prog none f85r4 0 (fun σ h => Q .ret σ h) σ h) := rfl
theorem f85c4_eq : wC Try.prog f85c4 Q σ h = (wL Try.prog none f85r3 0 (fun σ h => wC Try.prog f85c5 Q σ h) σ h) := rfl
theorem f85c6_eq : wC Try.prog f85c6 Q σ h = (wL Try.prog none f85r5 0 (fun σ h => Q .ret σ h) σ h) := rfl
theorem f85c3_eq : wC Try.prog f85c3 Q σ h = (bd (evO σ (.tmp 21)) fun v => bd (asB v) fun t => br t (wC Try.prog f85c4 (X.then (fun σ h => wC Try.prog f85c6 Q σ h) Q) σ h) (wC Try.prog f85c6 Q σ h)) := rfl
theorem f85c2_eq : wC Try.prog f85c2 Q σ h = (drwW Try.prog f85r2 (fun σ h => wC Try.prog f85c3 Q σ h) σ h) := rfl
theorem f85c1_eq : wC Try.prog f85c1 Q σ h = (wL Try.prog none f85r1 0 (fun σ h => wC Try.prog f85c2 Q σ h) σ h) := rfl
theorem f85c0_eq : wC Try.prog f85c0 Q σ h = (wL Try.prog none f85r0 0 (fun σ h => wC Try.prog f85c1 Q σ h) σ h) := rfl
end
section
variable {Q : X → Env → Heap → Prop} {σ : Env} {h : Heap}
end
end Go.Proofs.Ytefghfgmkndikaa
namespace Go.Proofs.Ytefghfgmkndikaa
open Go.AX
set_option maxRecDepth 100000
def f40r0 : List I := [.op (.box 4 70 (.tmp 1)),
  .op (.box 5 72 (.tmp 2)),
  .op (.mov 6 (.const (.slice none 0 0))),
  .kp [0, 4, 5]]
def f40r1 : List I := [.op (.fad 10 1 (.tmp 4)),
  .op (.ld 11 none (.tmp 10)),
  .op (.fad 12 2 (.tmp 4)),
  .op (.ld 13 none (.tmp 12)),
  .op (.fad 14 7 (.tmp 5)),
  .op (.st 1 (.tmp 14) (.tmp 11)),
  .op (.fad 15 8 (.tmp 5)),
  .op (.st 1 (.tmp 15) (.tmp 13)),
  .kp [0, 4, 5]]
def f40r2 : List I := [.op (.fad 16 1 (.tmp 4)),
  .op (.ld 17 none (.tmp 16)),
  .kp [0, 4, 5, 17]]
def f40r3 : List I := [.op (.fad 18 8 (.tmp 5)),
  .op (.st 1 (.tmp 18) (.const (.string ⟨#[]⟩))),
  .kp [0, 4, 5]]
def f40r4 : List I := [.op (.mov 19 (.tmp 0)),
  .op (.call (some 20) 86 [(.tmp 19)]),
  .op (.mov 7 (.tmp 20)),
  .kp [4, 5, 7]]
def f40r5 : List I := [.op (.mov 22 (.tmp 7)),
  .op (.fad 23 0 (.tmp 4)),
  .op (.ld 24 none (.tmp 23)),
  .op (.call (some 25) 87 [(.tmp 22), (.tmp 24)]),
  .op (.mov 21 (.tmp 25)),
  .op (.ext 26 (.tmp 21) 0),
  .op (.ext 27 (.tmp 21) 1),
  .op (.mov 8 (.tmp 26)),
  .op (.mov 9 (.tmp 27)),
  .kp [4, 5, 7, 8, 9]]
def f40r6 : List I := [.op (.mov 28 (.tmp 9)),
  .op (.un 29 .not (.tmp 28)),
  .kp [4, 5, 7, 8, 29]]
def f40r7 : List I := [.op (.mov 30 (.tmp 7)),
  .op (.mov 31 (.tmp 8)),
  .op (.fad 32 0 (.tmp 4)),
  .op (.ld 33 none (.tmp 32)),
  .op (.bld 34 [.string ⟨#[]⟩, .slice none 0 0, .bool false, .int .i64 0, .int .i64 0, .int .i64 0, .int .i64 0, .int .i64 0, .int .i64 0, .int .i64 0, .bool false, .string ⟨#[]⟩] [(0, 1, (.tmp 33))]),
  .op (.bsl 35 103 1 [.string ⟨#[]⟩, .slice none 0 0, .bool false, .int .i64 0, .int .i64 0, .int .i64 0, .int .i64 0, .int .i64 0, .int .i64 0, .int .i64 0, .bool false, .string ⟨#[]⟩] [(0, 12, (.tmp 34))]),
  .op (.call (some 36) 88 [(.tmp 30), (.tmp 31), (.tmp 35)]),
  .op (.mov 7 (.tmp 36)),
  .kp [5, 7, 8]]
def f40r8 : List I := [.op (.mov 37 (.tmp 7)),
  .op (.mov 38 (.tmp 8)),
  .op (.mov 39 (.tmp 7)),
  .op (.mov 40 (.tmp 8)),
  .op (.ld 41 (some 9) (.tmp 5)),
  .op (.iad 42 12 (.tmp 37) (.tmp 38)),
  .op (.fad 43 2 (.tmp 42)),
  .op (.st 1 (.tmp 43) (.const (.bool true))),
  .op (.iad 44 12 (.tmp 39) (.tmp 40)),
  .op (.fad 45 3 (.tmp 44)),
  .kp [7, 41, 45],
  .op (.st 9 (.tmp 45) (.tmp 41)),
  .kp [7]]
def f40r9 : List I := [.op (.mov 46 (.tmp 7)),
  .op (.mov 6 (.tmp 46)),
  .kp [6]]
def f40c4 : C := (.reg f40r3)
def f40c9 : C := (.reg f40r7)
def f40c11 : C := (.seq (.reg f40r9) .ret)
def f40c10 : C := (.seq (.drw f40r8) f40c11)
def f40c8 : C := (.seq (.cond (.tmp 29) f40c9 .skip) f40c10)
def f40c7 : C := (.seq (.reg f40r6) f40c8)
def f40c6 : C := (.seq (.reg f40r5) f40c7)
def f40c5 : C := (.seq (.reg f40r4) f40c6)
def f40c3 : C := (.seq (.cond (.tmp 17) f40c4 .skip) f40c5)
def f40c2 : C := (.seq (.reg f40r2) f40c3)
def f40c1 : C := (.seq (.drw f40r1) f40c2)
def f40c0 : C := (.seq (.reg f40r0) f40c1)
theorem f40cmp : cmpF Try.prog Try.f40 [.l [.o 0, .o 1, .o 2, .kp [0, 4, 5]],
  .l [.o 0, .o 1, .o 2, .o 3, .o 4, .o 5, .o 6, .o 7, .kp [0, 4, 5]],
  .l [.o 0, .o 1, .kp [0, 4, 5, 17]],
  .l [.o 0, .o 1, .kp [0, 4, 5]],
  .l [.o 0, .o 1, .o 2, .kp [4, 5, 7]],
  .l [.o 0, .o 1, .o 2, .o 3, .o 4, .o 5, .o 6, .o 7, .o 8, .kp [4, 5, 7, 8, 9]],
  .l [.o 0, .o 1, .kp [4, 5, 7, 8, 29]],
  .l [.o 0, .o 1, .o 2, .o 3, .o 4, .o 5, .o 6, .o 7, .kp [5, 7, 8]],
  .l [.o 0, .o 1, .o 2, .o 3, .o 4, .o 5, .o 6, .o 7, .o 8, .o 9, .kp [7, 41, 45], .o 10, .kp [7]],
  .l [.o 0, .o 1, .kp [6]]] = some (f40c0, [.tmp 6]) := by kernel_rfl
theorem f40ok {args : List Value} {h : Heap} {R : Value → Heap → Prop} (hn : args.length ≤ 47) (H : wC Try.prog f40c0 (endW [.tmp 6] R) (envOf 0 args) h) : CallsH Try.prog 40 args h R :=
  fn_ok2 Try.func40 f40cmp hn H
section
variable {Q : X → Env → Heap → Prop} {σ : Env} {h : Heap}
theorem f40c4_eq : wC Try.prog f40c4 Q σ h = (wL Try.prog none f40r3 0 (fun σ h => Q .normal σ h) σ h) := rfl
theorem f40c9_eq : wC Try.prog f40c9 Q σ h = (wL Try.prog none f40r7 0 (fun σ h => Q .normal σ h) σ h) := rfl
theorem f40c11_eq : wC Try.prog f40c11 Q σ h = (wL Try.prog none f40r9 0 (fun σ h => Q .ret σ h) σ h) := rfl
theorem f40c10_eq : wC Try.prog f40c10 Q σ h = (drwW Try.prog f40r8 (fun σ h => wC Try.prog f40c11 Q σ h) σ h) := rfl
theorem f40c8_eq : wC Try.prog f40c8 Q σ h = (bd (evO σ (.tmp 29)) fun v => bd (asB v) fun t => br t (wC Try.prog f40c9 (X.then (fun σ h => wC Try.prog f40c10 Q σ h) Q) σ h) (wC Try.prog f40c10 Q σ h)) := rfl
theorem f40c7_eq : wC Try.prog f40c7 Q σ h = (wL Try.prog none f40r6 0 (fun σ h => wC Try.prog f40c8 Q σ h) σ h) := rfl
theorem f40c6_eq : wC Try.prog f40c6 Q σ h = (wL Try.prog none f40r5 0 (fun σ h => wC Try.prog f40c7 Q σ h) σ h) := rfl
theorem f40c5_eq : wC Try.prog f40c5 Q σ h = (wL Try.prog none f40r4 0 (fun σ h => wC Try.prog f40c6 Q σ h) σ h) := rfl
theorem f40c3_eq : wC Try.prog f40c3 Q σ h = (bd (evO σ (.tmp 17)) fun v => bd (asB v) fun t => br t (wC Try.prog f40c4 (X.then (fun σ h => wC Try.prog f40c5 Q σ h) Q) σ h) (wC Try.prog f40c5 Q σ h)) := rfl
theorem f40c2_eq : wC Try.prog f40c2 Q σ h = (wL Try.prog none f40r2 0 (fun σ h => wC Try.prog f40c3 Q σ h) σ h) := rfl
theorem f40c1_eq : wC Try.prog f40c1 Q σ h = (drwW Try.prog f40r1 (fun σ h => wC Try.prog f40c2 Q σ h) σ h) := rfl
theorem f40c0_eq : wC Try.prog f40c0 Q σ h = (wL Try.prog none f40r0 0 (fun σ h => wC Try.prog f40c1 Q σ h) σ h) := rfl
end
section
variable {Q : X → Env → Heap → Prop} {σ : Env} {h : Heap}
end
def f39r0 : List I := [.op (.box 4 37 (.tmp 1)),
  .op (.mov 6 (.const (.slice none 0 0))),
  .kp [0, 2, 4]]
def f39r1 : List I := [.op (.mov 7 (.const (.slice none 0 0))),
  .kp [0, 2, 4, 7]]
def f39r2 : List I := [.op (.mov 10 (.tmp 0)),
  .op (.len 11 true (.tmp 10)),
  .op (.mov 12 (.const (.int .i64 0))),
  .kp [2, 4, 7, 10, 11, 12]]
def f39r3 : List I := [.op (.bin 13 .lss (.tmp 12) (.tmp 11)),
  .kp [2, 4, 7, 10, 11, 12, 13]]
def f39r4 : List I := [.op (.iad 14 12 (.tmp 10) (.tmp 12)),
  .op (.ld 15 (some 12) (.tmp 14)),
  .op (.new 9 103 [.string ⟨#[]⟩, .slice none 0 0, .bool false, .int .i64 0, .int .i64 0, .int .i64 0, .int .i64 0, .int .i64 0, .int .i64 0, .int .i64 0, .bool false, .string ⟨#[]⟩]),
  .op (.st 12 (.tmp 9) (.tmp 15)),
  .kp [2, 4, 7, 9, 10, 11, 12]]
def f39r5 : List I := [.op (.ld 16 (some 12) (.tmp 9)),
  .op (.call (some 17) 84 [(.tmp 16)]),
  .op (.st 12 (.tmp 9) (.tmp 17)),
  .kp [2, 4, 7, 9, 10, 11, 12]]
def f39r6 : List I := [.op (.fad 18 2 (.tmp 9)),
  .op (.ld 19 none (.tmp 18)),
  .op (.mov 20 (.tmp 19)),
  .sc 20 true 5,
  .g 20 true (.fad 21 3 (.tmp 9)),
  .g 20 true (.fad 22 0 (.tmp 21)),
  .g 20 true (.ld 23 (some 4) (.tmp 22)),
  .g 20 true (.ld 24 (some 4) (.tmp 4)),
  .g 20 true (.eqa 25 false [.i .i64, .i .i64, .i .i64, .i .i64] (.tmp 23) (.tmp 24)),
  .op (.pick 26 (.tmp 20) (.tmp 25) (.const (.bool false))),
  .kp [2, 4, 7, 9, 10, 11, 12, 26]]
def f39r7 : List I := [.op (.mov 27 (.tmp 2)),
  .kp [2, 4, 7, 9, 10, 11, 12, 27]]
def f39r8 : List I := [.op (.fad 28 1 (.tmp 9)),
  .op (.ld 29 none (.tmp 28)),
  .op (.fad 30 3 (.tmp 9)),
  .op (.fad 31 5 (.tmp 30)),
  .op (.ld 32 (some 2) (.tmp 31)),
  .op (.fad 33 3 (.tmp 9)),
  .op (.fad 34 7 (.tmp 33)),
  .op (.ld 35 none (.tmp 34)),
  .op (.fad 36 3 (.tmp 9)),
  .op (.fad 37 8 (.tmp 36)),
  .kp [2, 4, 7, 9, 10, 11, 12, 29, 32, 35, 37],
  .op (.ld 38 none (.tmp 37)),
  .op (.bld 39 [.int .i64 0, .int .i64 0, .bool false, .string ⟨#[]⟩] [(0, 2, (.tmp 32)), (2, 1, (.tmp 35)), (3, 1, (.tmp 38))]),
  .op (.call (some 40) 85 [(.tmp 29), (.tmp 39)]),
  .op (.fad 41 1 (.tmp 9)),
  .op (.st 1 (.tmp 41) (.tmp 40)),
  .kp [2, 4, 7, 9, 10, 11, 12]]
def f39r9 : List I := [.op (.bld 42 [.int .i64 0, .int .i64 0, .int .i64 0, .int .i64 0, .int .i64 0, .int .i64 0, .int .i64 0, .bool false, .string ⟨#[]⟩] []),
  .op (.fad 43 2 (.tmp 9)),
  .op (.st 1 (.tmp 43) (.const (.bool false))),
  .op (.fad 44 3 (.tmp 9)),
  .op (.st 9 (.tmp 44) (.tmp 42)),
  .kp [2, 4, 7, 9, 10, 11, 12]]
def f39r10 : List I := [.op (.fad 45 2 (.tmp 9)),
  .op (.ld 46 none (.tmp 45)),
  .op (.mov 47 (.tmp 46)),
  .sc 47 false 4,
  .g 47 false (.fad 48 1 (.tmp 9)),
  .g 47 false (.ld 49 none (.tmp 48)),
  .g 47 false (.len 50 true (.tmp 49)),
  .g 47 false (.bin 51 .gtr (.tmp 50) (.const (.int .i64 0))),
  .op (.pick 52 (.tmp 47) (.const (.bool true)) (.tmp 51)),
  .kp [2, 4, 7, 9, 10, 11, 12, 52]]
def f39r11 : List I := [.op (.mov 53 (.tmp 7)),
  .op (.ld 54 (some 12) (.tmp 9)),
  .op (.bsl 55 103 1 [.string ⟨#[]⟩, .slice none 0 0, .bool false, .int .i64 0, .int .i64 0, .int .i64 0, .int .i64 0, .int .i64 0, .int .i64 0, .int .i64 0, .bool false, .string ⟨#[]⟩] [(0, 12, (.tmp 54))]),
  .op (.raw (some 56) ⟨(some 56), (.call ⟨(.builtin .append), #[(.tmp 53), (.tmp 55)], #[74, 74]⟩), 74, "mvcc.go:162", #[⟨0, .data⟩, ⟨2, .data⟩], none⟩),
  .op (.mov 7 (.tmp 56)),
  .kp [2, 4, 7, 10, 11, 12]]
def f39r12 : List I := [.op (.bin 57 .add (.tmp 12) (.const (.int .i64 1))),
  .op (.mov 12 (.tmp 57)),
  .kp [2, 4, 7, 10, 11, 12]]
def f39r13 : List I := [.op (.mov 58 (.tmp 7)),
  .op (.mov 6 (.tmp 58)),
  .kp [6]]
def f39c13 : C := (.reg f39r8)
def f39c14 : C := (.reg f39r9)
def f39c12 : C := (.seq (.cond (.tmp 27) f39c13 .skip) f39c14)
def f39c11 : C := (.seq (.reg f39r7) f39c12)
def f39c17 : C := (.reg f39r11)
def f39c16 : C := (.cond (.tmp 52) f39c17 .skip)
def f39c15 : C := (.seq (.reg f39r10) f39c16)
def f39c10 : C := (.seq (.cond (.tmp 26) f39c11 .skip) f39c15)
def f39c9 : C := (.seq (.reg f39r6) f39c10)
def f39c8 : C := (.seq (.reg f39r5) f39c9)
def f39c7 : C := (.seq (.reg f39r4) f39c8)
def f39c18 : C := (.reg f39r12)
def f39c6 : C := (.seq (.block 1 f39c7) f39c18)
def f39c5 : C := (.seq (.cond (.tmp 13) .skip (.exit 0)) f39c6)
def f39c4 : C := (.seq (.reg f39r3) f39c5)
def f39c19 : C := (.seq (.reg f39r13) .ret)
def f39c3 : C := (.seq (.block 0 (.loop f39c4)) f39c19)
def f39c2 : C := (.seq (.reg f39r2) f39c3)
def f39c1 : C := (.seq (.reg f39r1) f39c2)
def f39c0 : C := (.seq (.reg f39r0) f39c1)
theorem f39cmp : cmpF Try.prog Try.f39 [.l [.o 0, .o 1, .kp [0, 2, 4]],
  .l [.o 0, .kp [0, 2, 4, 7]],
  .l [.o 0, .o 1, .o 2, .kp [2, 4, 7, 10, 11, 12]],
  .l [.o 0, .kp [2, 4, 7, 10, 11, 12, 13]],
  .l [.o 0, .o 1, .o 2, .o 3, .kp [2, 4, 7, 9, 10, 11, 12]],
  .l [.o 0, .o 1, .o 2, .kp [2, 4, 7, 9, 10, 11, 12]],
  .l [.o 0, .o 1, .o 2, .sc 20 true 5, .o 3, .o 4, .o 5, .o 6, .o 7, .o 8, .kp [2, 4, 7, 9, 10, 11, 12, 26]],
  .l [.o 0, .kp [2, 4, 7, 9, 10, 11, 12, 27]],
  .l [.o 0, .o 1, .o 2, .o 3, .o 4, .o 5, .o 6, .o 7, .o 8, .o 9, .kp [2, 4, 7, 9, 10, 11, 12, 29, 32, 35, 37], .o 10, .o 11, .o 12, .o 13, .o 14, .kp [2, 4, 7, 9, 10, 11, 12]],
  .l [.o 0, .o 1, .o 2, .o 3, .o 4, .kp [2, 4, 7, 9, 10, 11, 12]],
  .l [.o 0, .o 1, .o 2, .sc 47 false 4, .o 3, .o 4, .o 5, .o 6, .o 7, .kp [2, 4, 7, 9, 10, 11, 12, 52]],
  .l [.o 0, .o 1, .o 2, .o 3, .o 4, .kp [2, 4, 7, 10, 11, 12]],
  .l [.o 0, .o 1, .kp [2, 4, 7, 10, 11, 12]],
  .l [.o 0, .o 1, .kp [6]]] = some (f39c0, [.tmp 6]) := by kernel_rfl
theorem f39ok {args : List Value} {h : Heap} {R : Value → Heap → Prop} (hn : args.length ≤ 59) (H : wC Try.prog f39c0 (endW [.tmp 6] R) (envOf 0 args) h) : CallsH Try.prog 39 args h R :=
  fn_ok2 Try.func39 f39cmp hn H
section
variable {Q : X → Env → Heap → Prop} {σ : Env} {h : Heap}
theorem f39c13_eq : wC Try.prog f39c13 Q σ h = (wL Try.prog none f39r8 0 (fun σ h => Q .normal σ h) σ h) := rfl
theorem f39c14_eq : wC Try.prog f39c14 Q σ h = (wL Try.prog none f39r9 0 (fun σ h => Q .normal σ h) σ h) := rfl
theorem f39c12_eq : wC Try.prog f39c12 Q σ h = (bd (evO σ (.tmp 27)) fun v => bd (asB v) fun t => br t (wC Try.prog f39c13 (X.then (fun σ h => wC Try.prog f39c14 Q σ h) Q) σ h) (wC Try.prog f39c14 Q σ h)) := rfl
theorem f39c11_eq : wC Try.prog f39c11 Q σ h = (wL Try.prog none f39r7 0 (fun σ h => wC Try.prog f39c12 Q σ h) σ h) := rfl
theorem f39c17_eq : wC Try.prog f39c17 Q σ h = (wL Try.prog none f39r11 0 (fun σ h => Q .normal σ h) σ h) := rfl
theorem f39c16_eq : wC Try.prog f39c16 Q σ h = (bd (evO σ (.tmp 52)) fun v => bd (asB v) fun t => br t (wC Try.prog f39c17 Q σ h) (Q .normal σ h)) := rfl
theorem f39c15_eq : wC Try.prog f39c15 Q σ h = (wL Try.prog none f39r10 0 (fun σ h => wC Try.prog f39c16 Q σ h) σ h) := rfl
theorem f39c10_eq : wC Try.prog f39c10 Q σ h = (bd (evO σ (.tmp 26)) fun v => bd (asB v) fun t => br t (wC Try.prog f39c11 (X.then (fun σ h => wC Try.prog f39c15 Q σ h) Q) σ h) (wC Try.prog f39c15 Q σ h)) := rfl
theorem f39c9_eq : wC Try.prog f39c9 Q σ h = (wL Try.prog none f39r6 0 (fun σ h => wC Try.prog f39c10 Q σ h) σ h) := rfl
theorem f39c8_eq : wC Try.prog f39c8 Q σ h = (wL Try.prog none f39r5 0 (fun σ h => wC Try.prog f39c9 Q σ h) σ h) := rfl
theorem f39c7_eq : wC Try.prog f39c7 Q σ h = (wL Try.prog none f39r4 0 (fun σ h => wC Try.prog f39c8 Q σ h) σ h) := rfl
theorem f39c18_eq : wC Try.prog f39c18 Q σ h = (wL Try.prog none f39r12 0 (fun σ h => Q .normal σ h) σ h) := rfl
theorem f39c6_eq : wC Try.prog f39c6 Q σ h = (wC Try.prog f39c7 (X.inBlock 1 (X.then (fun σ h => wC Try.prog f39c18 Q σ h) Q)) σ h) := rfl
theorem f39c5_eq : wC Try.prog f39c5 Q σ h = (bd (evO σ (.tmp 13)) fun v => bd (asB v) fun t => br t (wC Try.prog f39c6 Q σ h) (Q (.exit 0) σ h)) := rfl
theorem f39c4_eq : wC Try.prog f39c4 Q σ h = (wL Try.prog none f39r3 0 (fun σ h => wC Try.prog f39c5 Q σ h) σ h) := rfl
theorem f39c19_eq : wC Try.prog f39c19 Q σ h = (wL Try.prog none f39r13 0 (fun σ h => Q .ret σ h) σ h) := rfl
theorem f39c3_eq : wC Try.prog f39c3 Q σ h = (loopW (wC Try.prog f39c4) (X.inBlock 0 (X.then (fun σ h => wC Try.prog f39c19 Q σ h) Q)) σ h) := rfl
theorem f39c2_eq : wC Try.prog f39c2 Q σ h = (wL Try.prog none f39r2 0 (fun σ h => wC Try.prog f39c3 Q σ h) σ h) := rfl
theorem f39c1_eq : wC Try.prog f39c1 Q σ h = (wL Try.prog none f39r1 0 (fun σ h => wC Try.prog f39c2 Q σ h) σ h) := rfl
theorem f39c0_eq : wC Try.prog f39c0 Q σ h = (wL Try.prog none f39r0 0 (fun σ h => wC Try.prog f39c1 Q σ h) σ h) := rfl
end
section
variable {Q : X → Env → Heap → Prop} {σ : Env} {h : Heap}
end
def f46r0 : List I := [.op (.box 3 39 (.tmp 1)),
  .op (.mov 4 (.const (.slice none 0 0))),
  .kp [0, 3]]
def f46r1 : List I := [.op (.mov 5 (.const (.slice none 0 0))),
  .kp [0, 3, 5]]
def f46r2 : List I := [.op (.mov 9 (.tmp 0)),
  .op (.len 10 true (.tmp 9)),
  .op (.mov 11 (.const (.int .i64 0))),
  .kp [3, 5, 9, 10, 11]]
def f46r3 : List I := [.op (.bin 12 .lss (.tmp 11) (.tmp 10)),
  .kp [3, 5, 9, 10, 11, 12]]
def f46r4 : List I := [.op (.iad 13 12 (.tmp 9) (.tmp 11)),
  .op (.ld 14 (some 12) (.tmp 13)),
  .op (.new 7 103 [.string ⟨#[]⟩, .slice none 0 0, .bool false, .int .i64 0, .int .i64 0, .int .i64 0, .int .i64 0, .int .i64 0, .int .i64 0, .int .i64 0, .bool false, .string ⟨#[]⟩]),
  .op (.st 12 (.tmp 7) (.tmp 14)),
  .kp [3, 5, 7, 9, 10, 11]]
def f46r5 : List I := [.op (.ld 15 (some 12) (.tmp 7)),
  .op (.call (some 16) 84 [(.tmp 15)]),
  .op (.st 12 (.tmp 7) (.tmp 16)),
  .kp [3, 5, 7, 9, 10, 11]]
def f46r6 : List I := [.op (.fad 17 1 (.tmp 7)),
  .op (.ld 18 none (.tmp 17)),
  .op (.ld 19 (some 2) (.tmp 3)),
  .op (.call (some 20) 91 [(.tmp 18), (.tmp 19)]),
  .op (.mov 8 (.tmp 20)),
  .kp [3, 5, 7, 8, 9, 10, 11]]
def f46r7 : List I := [.op (.mov 21 (.tmp 8)),
  .op (.bin 22 .geq (.tmp 21) (.const (.int .i64 0))),
  .kp [3, 5, 7, 8, 9, 10, 11, 22]]
def f46r8 : List I := [.op (.fad 23 1 (.tmp 7)),
  .op (.ld 24 none (.tmp 23)),
  .op (.mov 25 (.tmp 8)),
  .op (.iad 26 4 (.tmp 24) (.tmp 25)),
  .op (.fad 27 2 (.tmp 26)),
  .op (.ld 28 none (.tmp 27)),
  .kp [3, 5, 7, 8, 9, 10, 11, 28]]
def f46r9 : List I := [.op (.mov 29 (.tmp 8)),
  .op (.bin 30 .add (.tmp 29) (.const (.int .i64 1))),
  .op (.mov 8 (.tmp 30)),
  .kp [3, 5, 7, 8, 9, 10, 11]]
def f46r10 : List I := [.op (.fad 31 1 (.tmp 7)),
  .op (.ld 32 none (.tmp 31)),
  .op (.mov 33 (.tmp 8)),
  .op (.slc 34 4 (.tmp 32) (some (.tmp 33)) none none),
  .op (.fad 35 1 (.tmp 7)),
  .op (.st 1 (.tmp 35) (.tmp 34)),
  .kp [3, 5, 7, 9, 10, 11]]
def f46r11 : List I := [.op (.fad 36 2 (.tmp 7)),
  .op (.ld 37 none (.tmp 36)),
  .op (.mov 38 (.tmp 37)),
  .sc 38 false 4,
  .g 38 false (.fad 39 1 (.tmp 7)),
  .g 38 false (.ld 40 none (.tmp 39)),
  .g 38 false (.len 41 true (.tmp 40)),
  .g 38 false (.bin 42 .gtr (.tmp 41) (.const (.int .i64 0))),
  .op (.pick 43 (.tmp 38) (.const (.bool true)) (.tmp 42)),
  .kp [3, 5, 7, 9, 10, 11, 43]]
def f46r12 : List I := [.op (.mov 44 (.tmp 5)),
  .op (.ld 45 (some 12) (.tmp 7)),
  .op (.bsl 46 103 1 [.string ⟨#[]⟩, .slice none 0 0, .bool false, .int .i64 0, .int .i64 0, .int .i64 0, .int .i64 0, .int .i64 0, .int .i64 0, .int .i64 0, .bool false, .string ⟨#[]⟩] [(0, 12, (.tmp 45))]),
  .op (.raw (some 47) ⟨(some 47), (.call ⟨(.builtin .append), #[(.tmp 44), (.tmp 46)], #[74, 74]⟩), 74, "mvcc.go:180", #[⟨0, .data⟩, ⟨2, .data⟩], none⟩),
  .op (.mov 5 (.tmp 47)),
  .kp [3, 5, 9, 10, 11]]
def f46r13 : List I := [.op (.bin 48 .add (.tmp 11) (.const (.int .i64 1))),
  .op (.mov 11 (.tmp 48)),
  .kp [3, 5, 9, 10, 11]]
def f46r14 : List I := [.op (.mov 49 (.tmp 5)),
  .op (.mov 4 (.tmp 49)),
  .kp [4]]
def f46c14 : C := (.reg f46r9)
def f46c15 : C := (.reg f46r10)
def f46c13 : C := (.seq (.cond (.tmp 28) f46c14 .skip) f46c15)
def f46c12 : C := (.seq (.reg f46r8) f46c13)
def f46c18 : C := (.reg f46r12)
def f46c17 : C := (.cond (.tmp 43) f46c18 .skip)
def f46c16 : C := (.seq (.reg f46r11) f46c17)
def f46c11 : C := (.seq (.cond (.tmp 22) f46c12 .skip) f46c16)
def f46c10 : C := (.seq (.reg f46r7) f46c11)
def f46c9 : C := (.seq (.reg f46r6) f46c10)
def f46c8 : C := (.seq (.reg f46r5) f46c9)
def f46c7 : C := (.seq (.reg f46r4) f46c8)
def f46c19 : C := (.reg f46r13)
def f46c6 : C := (.seq (.block 1 f46c7) f46c19)
def f46c5 : C := (.seq (.cond (.tmp 12) .skip (.exit 0)) f46c6)
def f46c4 : C := (.seq (.reg f46r3) f46c5)
def f46c20 : C := (.seq (.reg f46r14) .ret)
def f46c3 : C := (.seq (.block 0 (.loop f46c4)) f46c20)
def f46c2 : C := (.seq (.reg f46r2) f46c3)
def f46c1 : C := (.seq (.reg f46r1) f46c2)
def f46c0 : C := (.seq (.reg f46r0) f46c1)
theorem f46cmp : cmpF Try.prog Try.f46 [.l [.o 0, .o 1, .kp [0, 3]],
  .l [.o 0, .kp [0, 3, 5]],
  .l [.o 0, .o 1, .o 2, .kp [3, 5, 9, 10, 11]],
  .l [.o 0, .kp [3, 5, 9, 10, 11, 12]],
  .l [.o 0, .o 1, .o 2, .o 3, .kp [3, 5, 7, 9, 10, 11]],
  .l [.o 0, .o 1, .o 2, .kp [3, 5, 7, 9, 10, 11]],
  .l [.o 0, .o 1, .o 2, .o 3, .o 4, .kp [3, 5, 7, 8, 9, 10, 11]],
  .l [.o 0, .o 1, .kp [3, 5, 7, 8, 9, 10, 11, 22]],
  .l [.o 0, .o 1, .o 2, .o 3, .o 4, .o 5, .kp [3, 5, 7, 8, 9, 10, 11, 28]],
  .l [.o 0, .o 1, .o 2, .kp [3, 5, 7, 8, 9, 10, 11]],
  .l [.o 0, .o 1, .o 2, .o 3, .o 4, .o 5, .kp [3, 5, 7, 9, 10, 11]],
  .l [.o 0, .o 1, .o 2, .sc 38 false 4, .o 3, .o 4, .o 5, .o 6, .o 7, .kp [3, 5, 7, 9, 10, 11, 43]],
  .l [.o 0, .o 1, .o 2, .o 3, .o 4, .kp [3, 5, 9, 10, 11]],
  .l [.o 0, .o 1, .kp [3, 5, 9, 10, 11]],
  .l [.o 0, .o 1, .kp [4]]] = some (f46c0, [.tmp 4]) := by kernel_rfl
theorem f46ok {args : List Value} {h : Heap} {R : Value → Heap → Prop} (hn : args.length ≤ 50) (H : wC Try.prog f46c0 (endW [.tmp 4] R) (envOf 0 args) h) : CallsH Try.prog 46 args h R :=
  fn_ok2 Try.func46 f46cmp hn H
section
variable {Q : X → Env → Heap → Prop} {σ : Env} {h : Heap}
theorem f46c14_eq : wC Try.prog f46c14 Q σ h = (wL Try.prog none f46r9 0 (fun σ h => Q .normal σ h) σ h) := rfl
theorem f46c15_eq : wC Try.prog f46c15 Q σ h = (wL Try.prog none f46r10 0 (fun σ h => Q .normal σ h) σ h) := rfl
theorem f46c13_eq : wC Try.prog f46c13 Q σ h = (bd (evO σ (.tmp 28)) fun v => bd (asB v) fun t => br t (wC Try.prog f46c14 (X.then (fun σ h => wC Try.prog f46c15 Q σ h) Q) σ h) (wC Try.prog f46c15 Q σ h)) := rfl
theorem f46c12_eq : wC Try.prog f46c12 Q σ h = (wL Try.prog none f46r8 0 (fun σ h => wC Try.prog f46c13 Q σ h) σ h) := rfl
theorem f46c18_eq : wC Try.prog f46c18 Q σ h = (wL Try.prog none f46r12 0 (fun σ h => Q .normal σ h) σ h) := rfl
theorem f46c17_eq : wC Try.prog f46c17 Q σ h = (bd (evO σ (.tmp 43)) fun v => bd (asB v) fun t => br t (wC Try.prog f46c18 Q σ h) (Q .normal σ h)) := rfl
theorem f46c16_eq : wC Try.prog f46c16 Q σ h = (wL Try.prog none f46r11 0 (fun σ h => wC Try.prog f46c17 Q σ h) σ h) := rfl
theorem f46c11_eq : wC Try.prog f46c11 Q σ h = (bd (evO σ (.tmp 22)) fun v => bd (asB v) fun t => br t (wC Try.prog f46c12 (X.then (fun σ h => wC Try.prog f46c16 Q σ h) Q) σ h) (wC Try.prog f46c16 Q σ h)) := rfl
theorem f46c10_eq : wC Try.prog f46c10 Q σ h = (wL Try.prog none f46r7 0 (fun σ h => wC Try.prog f46c11 Q σ h) σ h) := rfl
theorem f46c9_eq : wC Try.prog f46c9 Q σ h = (wL Try.prog none f46r6 0 (fun σ h => wC Try.prog f46c10 Q σ h) σ h) := rfl
theorem f46c8_eq : wC Try.prog f46c8 Q σ h = (wL Try.prog none f46r5 0 (fun σ h => wC Try.prog f46c9 Q σ h) σ h) := rfl
theorem f46c7_eq : wC Try.prog f46c7 Q σ h = (wL Try.prog none f46r4 0 (fun σ h => wC Try.prog f46c8 Q σ h) σ h) := rfl
theorem f46c19_eq : wC Try.prog f46c19 Q σ h = (wL Try.prog none f46r13 0 (fun σ h => Q .normal σ h) σ h) := rfl
theorem f46c6_eq : wC Try.prog f46c6 Q σ h = (wC Try.prog f46c7 (X.inBlock 1 (X.then (fun σ h => wC Try.prog f46c19 Q σ h) Q)) σ h) := rfl
theorem f46c5_eq : wC Try.prog f46c5 Q σ h = (bd (evO σ (.tmp 12)) fun v => bd (asB v) fun t => br t (wC Try.prog f46c6 Q σ h) (Q (.exit 0) σ h)) := rfl
theorem f46c4_eq : wC Try.prog f46c4 Q σ h = (wL Try.prog none f46r3 0 (fun σ h => wC Try.prog f46c5 Q σ h) σ h) := rfl
theorem f46c20_eq : wC Try.prog f46c20 Q σ h = (wL Try.prog none f46r14 0 (fun σ h => Q .ret σ h) σ h) := rfl
theorem f46c3_eq : wC Try.prog f46c3 Q σ h = (loopW (wC Try.prog f46c4) (X.inBlock 0 (X.then (fun σ h => wC Try.prog f46c20 Q σ h) Q)) σ h) := rfl
theorem f46c2_eq : wC Try.prog f46c2 Q σ h = (wL Try.prog none f46r2 0 (fun σ h => wC Try.prog f46c3 Q σ h) σ h) := rfl
theorem f46c1_eq : wC Try.prog f46c1 Q σ h = (wL Try.prog none f46r1 0 (fun σ h => wC Try.prog f46c2 Q σ h) σ h) := rfl
theorem f46c0_eq : wC Try.prog f46c0 Q σ h = (wL Try.prog none f46r0 0 (fun σ h => wC Try.prog f46c1 Q σ h) σ h) := rfl
end
section
variable {Q : X → Env → Heap → Prop} {σ : Env} {h : Heap}
end
end Go.Proofs.Ytefghfgmkndikaa
namespace Go.Proofs.Ytefghfgmkndikaa
open Go.AX
set_option maxRecDepth 100000
def f45r0 : List I := [.op (.mov 2 (.const (.bool false))),
  .kp [0]]
def f45r1 : List I := [.op (.mov 7 (.tmp 0)),
  .op (.len 8 true (.tmp 7)),
  .op (.mov 9 (.const (.int .i64 0))),
  .kp [0, 7, 8, 9]]
def f45r2 : List I := [.op (.bin 10 .lss (.tmp 9) (.tmp 8)),
  .kp [0, 7, 8, 9, 10]]
def f45r3 : List I := [.op (.mov 11 (.tmp 9)),
  .op (.iad 12 12 (.tmp 7) (.tmp 9)),
  .op (.ld 13 (some 12) (.tmp 12)),
  .op (.new 4 103 [.string ⟨#[]⟩, .slice none 0 0, .bool false, .int .i64 0, .int .i64 0, .int .i64 0, .int .i64 0, .int .i64 0, .int .i64 0, .int .i64 0, .bool false, .string ⟨#[]⟩]),
  .op (.mov 3 (.tmp 11)),
  .op (.st 12 (.tmp 4) (.tmp 13)),
  .kp [0, 3, 4, 7, 8, 9]]
def f45r4c : List I := [.op (.mov 49 (.tmp 48)),
  .sc 49 false 10,
  .g 49 false (.fad 50 3 (.tmp 4)),
  .g 49 false (.fad 51 7 (.tmp 50)),
  .g 49 false (.ld 52 none (.tmp 51)),
  .g 49 false (.mov 53 (.tmp 52)),
  .sc 53 true 4,
  .g 53 true (.fad 54 3 (.tmp 4)),
  .g 53 true (.fad 55 8 (.tmp 54)),
  .g 53 true (.ld 56 none (.tmp 55)),
  .g 53 true (.bin 57 .neq (.tmp 56) (.const (.string ⟨#[]⟩))),
  .g 49 false (.pick 58 (.tmp 53) (.tmp 57) (.const (.bool false))),
  .op (.pick 59 (.tmp 49) (.const (.bool true)) (.tmp 58)),
  .kp [59, 0, 4, 7, 8, 9]]
def f45r4b : List I := .op (.mov 38 (.tmp 37)) ::
  .sc 38 false 10 ::
  .g 38 false (.fad 39 2 (.tmp 4)) ::
  .g 38 false (.ld 40 none (.tmp 39)) ::
  .g 38 false (.un 41 .not (.tmp 40)) ::
  .g 38 false (.mov 42 (.tmp 41)) ::
  .sc 42 true 4 ::
  .g 42 true (.fad 43 1 (.tmp 4)) ::
  .g 42 true (.ld 44 none (.tmp 43)) ::
  .g 42 true (.len 45 true (.tmp 44)) ::
  .g 42 true (.bin 46 .eql (.tmp 45) (.const (.int .i64 0))) ::
  .g 38 false (.pick 47 (.tmp 42) (.tmp 46) (.const (.bool false))) ::
  .op (.pick 48 (.tmp 38) (.const (.bool true)) (.tmp 47)) ::
  .kp [48, 0, 4, 7, 8, 9] ::
  f45r4c
def f45r4a : List I := .op (.mov 27 (.tmp 26)) ::
  .sc 27 false 10 ::
  .g 27 false (.fad 28 2 (.tmp 4)) ::
  .g 27 false (.ld 29 none (.tmp 28)) ::
  .g 27 false (.un 30 .not (.tmp 29)) ::
  .g 27 false (.mov 31 (.tmp 30)) ::
  .sc 31 true 4 ::
  .g 31 true (.fad 32 3 (.tmp 4)) ::
  .g 31 true (.ld 33 (some 9) (.tmp 32)) ::
  .g 31 true (.bld 34 [.int .i64 0, .int .i64 0, .int .i64 0, .int .i64 0, .int .i64 0, .int .i64 0, .int .i64 0, .bool false, .string ⟨#[]⟩] []) ::
  .g 31 true (.eqa 35 true [.i .i64, .i .i64, .i .i64, .i .i64, .i .i64, .i .i64, .i .i64, .b, .s] (.tmp 33) (.tmp 34)) ::
  .g 27 false (.pick 36 (.tmp 31) (.tmp 35) (.const (.bool false))) ::
  .op (.pick 37 (.tmp 27) (.const (.bool true)) (.tmp 36)) ::
  .kp [37, 0, 4, 7, 8, 9] ::
  f45r4b
def f45r4 : List I := .op (.mov 14 (.tmp 3)) ::
  .op (.bin 15 .gtr (.tmp 14) (.const (.int .i64 0))) ::
  .op (.mov 16 (.tmp 15)) ::
  .sc 16 true 9 ::
  .g 16 true (.fad 17 0 (.tmp 4)) ::
  .g 16 true (.ld 18 none (.tmp 17)) ::
  .g 16 true (.mov 19 (.tmp 0)) ::
  .g 16 true (.mov 20 (.tmp 3)) ::
  .g 16 true (.bin 21 .sub (.tmp 20) (.const (.int .i64 1))) ::
  .g 16 true (.iad 22 12 (.tmp 19) (.tmp 21)) ::
  .g 16 true (.fad 23 0 (.tmp 22)) ::
  .g 16 true (.ld 24 none (.tmp 23)) ::
  .g 16 true (.bin 25 .leq (.tmp 18) (.tmp 24)) ::
  .op (.pick 26 (.tmp 16) (.tmp 25) (.const (.bool false))) ::
  .kp [26, 0, 4, 7, 8, 9] ::
  f45r4a
def f45r5 : List I := [.op (.mov 2 (.const (.bool false))),
  .kp [2]]
def f45r6 : List I := [.op (.fad 60 1 (.tmp 4)),
  .op (.ld 61 none (.tmp 60)),
  .op (.len 62 true (.tmp 61)),
  .op (.mov 63 (.const (.int .i64 0))),
  .kp [0, 4, 7, 8, 9, 61, 62, 63]]
def f45r7 : List I := [.op (.bin 64 .lss (.tmp 63) (.tmp 62)),
  .kp [0, 4, 7, 8, 9, 61, 62, 63, 64]]
def f45r8 : List I := [.op (.mov 65 (.tmp 63)),
  .op (.iad 66 4 (.tmp 61) (.tmp 63)),
  .op (.ld 67 (some 4) (.tmp 66)),
  .op (.new 6 108 [.int .i64 0, .int .i64 0, .bool false, .string ⟨#[]⟩]),
  .op (.mov 5 (.tmp 65)),
  .op (.st 4 (.tmp 6) (.tmp 67)),
  .kp [0, 4, 5, 6, 7, 8, 9, 61, 62, 63]]
def f45r9a : List I := [.op (.mov 83 (.tmp 82)),
  .sc 83 false 8,
  .g 83 false (.fad 84 2 (.tmp 6)),
  .g 83 false (.ld 85 none (.tmp 84)),
  .g 83 false (.mov 86 (.tmp 85)),
  .sc 86 true 3,
  .g 86 true (.fad 87 3 (.tmp 6)),
  .g 86 true (.ld 88 none (.tmp 87)),
  .g 86 true (.bin 89 .neq (.tmp 88) (.const (.string ⟨#[]⟩))),
  .g 83 false (.pick 90 (.tmp 86) (.tmp 89) (.const (.bool false))),
  .op (.pick 91 (.tmp 83) (.const (.bool true)) (.tmp 90)),
  .kp [91, 0, 4, 7, 8, 9, 61, 62, 63]]
def f45r9 : List I := .op (.mov 68 (.tmp 5)) ::
  .op (.bin 69 .gtr (.tmp 68) (.const (.int .i64 0))) ::
  .op (.mov 70 (.tmp 69)) ::
  .sc 70 true 11 ::
  .g 70 true (.fad 71 1 (.tmp 4)) ::
  .g 70 true (.ld 72 none (.tmp 71)) ::
  .g 70 true (.mov 73 (.tmp 5)) ::
  .g 70 true (.bin 74 .sub (.tmp 73) (.const (.int .i64 1))) ::
  .g 70 true (.iad 75 4 (.tmp 72) (.tmp 74)) ::
  .g 70 true (.fad 76 0 (.tmp 75)) ::
  .g 70 true (.ld 77 (some 2) (.tmp 76)) ::
  .g 70 true (.fad 78 0 (.tmp 6)) ::
  .g 70 true (.ld 79 (some 2) (.tmp 78)) ::
  .g 70 true (.call (some 80) 90 [(.tmp 77), (.tmp 79)]) ::
  .g 70 true (.un 81 .not (.tmp 80)) ::
  .op (.pick 82 (.tmp 70) (.tmp 81) (.const (.bool false))) ::
  .kp [82, 0, 4, 6, 7, 8, 9, 61, 62, 63] ::
  f45r9a
def f45r10 : List I := [.op (.mov 2 (.const (.bool false))),
  .kp [2]]
def f45r11 : List I := [.op (.bin 92 .add (.tmp 63) (.const (.int .i64 1))),
  .op (.mov 63 (.tmp 92)),
  .kp [0, 4, 7, 8, 9, 61, 62, 63]]
def f45r12 : List I := [.op (.bin 93 .add (.tmp 9) (.const (.int .i64 1))),
  .op (.mov 9 (.tmp 93)),
  .kp [0, 7, 8, 9]]
def f45r13 : List I := [.op (.mov 2 (.const (.bool true))),
  .kp [2]]
def f45c9 : C := (.seq (.reg f45r5) .ret)
def f45c18 : C := (.seq (.reg f45r10) .ret)
def f45c17 : C := (.cond (.tmp 91) f45c18 .skip)
def f45c16 : C := (.seq (.drw f45r9) f45c17)
def f45c15 : C := (.seq (.reg f45r8) f45c16)
def f45c19 : C := (.reg f45r11)
def f45c14 : C := (.seq (.block 3 f45c15) f45c19)
def f45c13 : C := (.seq (.cond (.tmp 64) .skip (.exit 2)) f45c14)
def f45c12 : C := (.seq (.reg f45r7) f45c13)
def f45c11 : C := (.block 2 (.loop f45c12))
def f45c10 : C := (.seq (.reg f45r6) f45c11)
def f45c8 : C := (.seq (.cond (.tmp 59) f45c9 .skip) f45c10)
def f45c7 : C := (.seq (.drw f45r4) f45c8)
def f45c6 : C := (.seq (.reg f45r3) f45c7)
def f45c20 : C := (.reg f45r12)
def f45c5 : C := (.seq (.block 1 f45c6) f45c20)
def f45c4 : C := (.seq (.cond (.tmp 10) .skip (.exit 0)) f45c5)
def f45c3 : C := (.seq (.reg f45r2) f45c4)
def f45c21 : C := (.seq (.reg f45r13) .ret)
def f45c2 : C := (.seq (.block 0 (.loop f45c3)) f45c21)
def f45c1 : C := (.seq (.reg f45r1) f45c2)
def f45c0 : C := (.seq (.reg f45r0) f45c1)
theorem f45cmp : cmpF Try.prog Try.f45 [.l [.o 0, .kp [0]],
  .l [.o 0, .o 1, .o 2, .kp [0, 7, 8, 9]],
  .l [.o 0, .kp [0, 7, 8, 9, 10]],
  .l [.o 0, .o 1, .o 2, .o 3, .o 4, .o 5, .kp [0, 3, 4, 7, 8, 9]],
  .l [.o 0, .o 1, .o 2, .sc 16 true 9, .o 3, .o 4, .o 5, .o 6, .o 7, .o 8, .o 9, .o 10, .o 11, .o 12, .kp [26, 0, 4, 7, 8, 9], .o 13, .sc 27 false 10, .o 14, .o 15, .o 16, .o 17, .sc 31 true 4, .o 18, .o 19, .o 20, .o 21, .o 22, .o 23, .kp [37, 0, 4, 7, 8, 9], .o 24, .sc 38 false 10, .o 25, .o 26, .o 27, .o 28, .sc 42 true 4, .o 29, .o 30, .o 31, .o 32, .o 33, .o 34, .kp [48, 0, 4, 7, 8, 9], .o 35, .sc 49 false 10, .o 36, .o 37, .o 38, .o 39, .sc 53 true 4, .o 40, .o 41, .o 42, .o 43, .o 44, .o 45, .kp [59, 0, 4, 7, 8, 9]],
  .l [.o 0, .kp [2]],
  .l [.o 0, .o 1, .o 2, .o 3, .kp [0, 4, 7, 8, 9, 61, 62, 63]],
  .l [.o 0, .kp [0, 4, 7, 8, 9, 61, 62, 63, 64]],
  .l [.o 0, .o 1, .o 2, .o 3, .o 4, .o 5, .kp [0, 4, 5, 6, 7, 8, 9, 61, 62, 63]],
  .l [.o 0, .o 1, .o 2, .sc 70 true 11, .o 3, .o 4, .o 5, .o 6, .o 7, .o 8, .o 9, .o 10, .o 11, .o 12, .o 13, .o 14, .kp [82, 0, 4, 6, 7, 8, 9, 61, 62, 63], .o 15, .sc 83 false 8, .o 16, .o 17, .o 18, .sc 86 true 3, .o 19, .o 20, .o 21, .o 22, .o 23, .kp [91, 0, 4, 7, 8, 9, 61, 62, 63]],
  .l [.o 0, .kp [2]],
  .l [.o 0, .o 1, .kp [0, 4, 7, 8, 9, 61, 62, 63]],
  .l [.o 0, .o 1, .kp [0, 7, 8, 9]],
  .l [.o 0, .kp [2]]] = some (f45c0, [.tmp 2]) := by kernel_rfl
theorem f45ok {args : List Value} {h : Heap} {R : Value → Heap → Prop} (hn : args.length ≤ 94) (H : wC Try.prog f45c0 (endW [.tmp 2] R) (envOf 0 args) h) : CallsH Try.prog 45 args h R :=
  fn_ok2 Try.func45 f45cmp hn H
section
variable {Q : X → Env → Heap → Prop} {σ : Env} {h : Heap}
theorem f45c9_eq : wC Try.prog f45c9 Q σ h = (wL Try.prog none f45r5 0 (fun σ h => Q .ret σ h) σ h) := rfl
theorem f45c18_eq : wC Try.prog f45c18 Q σ h = (wL Try.prog none f45r10 0 (fun σ h => Q .ret σ h) σ h) := rfl
theorem f45c17_eq : wC Try.prog f45c17 Q σ h = (bd (evO σ (.tmp 91)) fun v => bd (asB v) fun t => br t (wC Try.prog f45c18 Q σ h) (Q .normal σ h)) := rfl
theorem f45c16_eq : wC Try.prog f45c16 Q σ h = (drwW Try.prog f45r9 (fun σ h => wC Try.prog f45c17 Q σ h) σ h) := rfl
theorem f45c15_eq : wC Try.prog f45c15 Q σ h = (wL Try.prog none f45r8 0 (fun σ h => wC Try.prog f45c16 Q σ h) σ h) := rfl
theorem f45c19_eq : wC Try.prog f45c19 Q σ h = (wL Try.prog none f45r11 0 (fun σ h => Q .normal σ h) σ h) := rfl
theorem f45c14_eq : wC Try.prog f45c14 Q σ h = (wC Try.prog f45c15 (X.inBlock 3 (X.then (fun σ h => wC Try.prog f45c19 Q σ h) Q)) σ h) := rfl
theorem f45c13_eq : wC Try.prog f45c13 Q σ h = (bd (evO σ (.tmp 64)) fun v => bd (asB v) fun t => br t (wC Try.prog f45c14 Q σ h) (Q (.exit 2) σ h)) := rfl
theorem f45c12_eq : wC Try.prog f45c12 Q σ h = (wL Try.prog none f45r7 0 (fun σ h => wC Try.prog f45c13 Q σ h) σ h) := rfl
theorem f45c11_eq : wC Try.prog f45c11 Q σ h = (loopW (wC Try.prog f45c12) (X.inBlock 2 Q) σ h) := rfl
theorem f45c10_eq : wC Try.prog f45c10 Q σ h = (wL Try.prog none f45r6 0 (fun σ h => wC Try.prog f45c11 Q σ h) σ h) := rfl
theorem f45c8_eq : wC Try.prog f45c8 Q σ h = (bd (evO σ (.tmp 59)) fun v => bd (asB v) fun t => br t (wC Try.prog f45c9 (X.then (fun σ h => wC Try.prog f45c10 Q σ h) Q) σ h) (wC Try.prog f45c10 Q σ h)) := rfl
theorem f45c7_eq : wC Try.prog f45c7 Q σ h = (drwW Try.prog f45r4 (fun σ h => wC Try.prog f45c8 Q σ h) σ h) := rfl
theorem f45c6_eq : wC Try.prog f45c6 Q σ h = (wL Try.prog none f45r3 0 (fun σ h => wC Try.prog f45c7 Q σ h) σ h) := rfl
theorem f45c20_eq : wC Try.prog f45c20 Q σ h = (wL Try.prog none f45r12 0 (fun σ h => Q .normal σ h) σ h) := rfl
theorem f45c5_eq : wC Try.prog f45c5 Q σ h = (wC Try.prog f45c6 (X.inBlock 1 (X.then (fun σ h => wC Try.prog f45c20 Q σ h) Q)) σ h) := rfl
theorem f45c4_eq : wC Try.prog f45c4 Q σ h = (bd (evO σ (.tmp 10)) fun v => bd (asB v) fun t => br t (wC Try.prog f45c5 Q σ h) (Q (.exit 0) σ h)) := rfl
theorem f45c3_eq : wC Try.prog f45c3 Q σ h = (wL Try.prog none f45r2 0 (fun σ h => wC Try.prog f45c4 Q σ h) σ h) := rfl
theorem f45c21_eq : wC Try.prog f45c21 Q σ h = (wL Try.prog none f45r13 0 (fun σ h => Q .ret σ h) σ h) := rfl
theorem f45c2_eq : wC Try.prog f45c2 Q σ h = (loopW (wC Try.prog f45c3) (X.inBlock 0 (X.then (fun σ h => wC Try.prog f45c21 Q σ h) Q)) σ h) := rfl
theorem f45c1_eq : wC Try.prog f45c1 Q σ h = (wL Try.prog none f45r1 0 (fun σ h => wC Try.prog f45c2 Q σ h) σ h) := rfl
theorem f45c0_eq : wC Try.prog f45c0 Q σ h = (wL Try.prog none f45r0 0 (fun σ h => wC Try.prog f45c1 Q σ h) σ h) := rfl
end
section
variable {Q : X → Env → Heap → Prop} {σ : Env} {h : Heap}
end
section
variable {Q : X → Env → Heap → Prop} {σ : Env} {h : Heap}
end
section
variable {Q : X → Env → Heap → Prop} {σ : Env} {h : Heap}
end
section
variable {Q : X → Env → Heap → Prop} {σ : Env} {h : Heap}
end
end Go.Proofs.Ytefghfgmkndikaa
namespace Go.Proofs.Ytefghfgmkndikaa
open Go Go.AX
theorem isNaN_ok (a : Int) (h : Heap) {R : Value → Heap → Prop} (hR : R (.bool false) h) : CallsH Try.prog 141 [vi a] h R := by
  refine f141ok (by simp) ?_
  rw [f141c0_eq]
  simp (disch := first | exact Nat.le_of_ble_eq_true rfl | omega) only [AXR, AXB, J.dst, reduceIte, Nat.reduceEqDiff, Nat.reduceAdd, Nat.reduceMul, Nat.reduceLT, Nat.reduceLeDiff, f141r0]
  rw [f141c1_eq]
  simp (disch := first | exact Nat.le_of_ble_eq_true rfl | omega) only [AXR, AXB, J.dst, reduceIte, Nat.reduceEqDiff, Nat.reduceAdd, Nat.reduceMul, Nat.reduceLT, Nat.reduceLeDiff, f141r1]
  exact hR
def cmpI (a b : Int) : Int := if a < b then -1 else if b < a then 1 else 0
theorem compare_ok (a b : Int) (h : Heap) {R : Value → Heap → Prop} (hR : R (vi (cmpI a b)) h) : CallsH Try.prog 122 [vi a, vi b] h R := by
  refine f122ok (by simp) ?_
  rw [f122c0_eq]; simp (disch := first | exact Nat.le_of_ble_eq_true rfl | omega) only [AXR, AXB, J.dst, reduceIte, Nat.reduceEqDiff, Nat.reduceAdd, Nat.reduceMul, Nat.reduceLT, Nat.reduceLeDiff, f122r0]
  rw [f122c1_eq]; simp (disch := first | exact Nat.le_of_ble_eq_true rfl | omega) only [AXR, AXB, J.dst, reduceIte, Nat.reduceEqDiff, Nat.reduceAdd, Nat.reduceMul, Nat.reduceLT, Nat.reduceLeDiff, f122r1]
  refine isNaN_ok _ _ ?_
  rw [f122c2_eq]; simp (disch := first | exact Nat.le_of_ble_eq_true rfl | omega) only [AXR, AXB, J.dst, reduceIte, Nat.reduceEqDiff, Nat.reduceAdd, Nat.reduceMul, Nat.reduceLT, Nat.reduceLeDiff, f122r2]
  refine isNaN_ok _ _ ?_
  rw [f122c3_eq]; simp (disch := first | exact Nat.le_of_ble_eq_true rfl | omega) only [AXR, AXB, J.dst, reduceIte, Nat.reduceEqDiff, Nat.reduceAdd, Nat.reduceMul, Nat.reduceLT, Nat.reduceLeDiff, f122r3]
  rw [f122c4_eq]; simp (disch := first | exact Nat.le_of_ble_eq_true rfl | omega) only [AXR, AXB, J.dst, reduceIte, Nat.reduceEqDiff, Nat.reduceAdd, Nat.reduceMul, Nat.reduceLT, Nat.reduceLeDiff]
  rw [f122c9_eq]; simp (disch := first | exact Nat.le_of_ble_eq_true rfl | omega) only [AXR, AXB, J.dst, reduceIte, Nat.reduceEqDiff, Nat.reduceAdd, Nat.reduceMul, Nat.reduceLT, Nat.reduceLeDiff, f122r7]
  rw [f122c10_eq]; simp (disch := first | exact Nat.le_of_ble_eq_true rfl | omega) only [AXR, AXB, J.dst, reduceIte, Nat.reduceEqDiff, Nat.reduceAdd, Nat.reduceMul, Nat.reduceLT, Nat.reduceLeDiff]
  rw [f122c12_eq]; simp (disch := first | exact Nat.le_of_ble_eq_true rfl | omega) only [AXR, AXB, J.dst, reduceIte, Nat.reduceEqDiff, Nat.reduceAdd, Nat.reduceMul, Nat.reduceLT, Nat.reduceLeDiff, f122r9]
  rw [f122c13_eq]; simp (disch := first | exact Nat.le_of_ble_eq_true rfl | omega) only [AXR, AXB, J.dst, reduceIte, Nat.reduceEqDiff, Nat.reduceAdd, Nat.reduceMul, Nat.reduceLT, Nat.reduceLeDiff]
  refine ⟨fun h1 => ?_, fun h1 => ?_⟩
  · rw [f122c14_eq]; simp (disch := first | exact Nat.le_of_ble_eq_true rfl | omega) only [AXR, AXB, J.dst, reduceIte, Nat.reduceEqDiff, Nat.reduceAdd, Nat.reduceMul, Nat.reduceLT, Nat.reduceLeDiff, f122r10]
    simpa [cmpI, of_decide_eq_true h1] using hR
  rw [f122c15_eq]; simp (disch := first | exact Nat.le_of_ble_eq_true rfl | omega) only [AXR, AXB, J.dst, reduceIte, Nat.reduceEqDiff, Nat.reduceAdd, Nat.reduceMul, Nat.reduceLT, Nat.reduceLeDiff, f122r11]
  rw [f122c16_eq]; simp (disch := first | exact Nat.le_of_ble_eq_true rfl | omega) only [AXR, AXB, J.dst, reduceIte, Nat.reduceEqDiff, Nat.reduceAdd, Nat.reduceMul, Nat.reduceLT, Nat.reduceLeDiff]
  refine ⟨fun h2 => ?_, fun h2 => ?_⟩
  · rw [f122c17_eq]; simp (disch := first | exact Nat.le_of_ble_eq_true rfl | omega) only [AXR, AXB, J.dst, reduceIte, Nat.reduceEqDiff, Nat.reduceAdd, Nat.reduceMul, Nat.reduceLT, Nat.reduceLeDiff, f122r12]
    simpa [cmpI, of_decide_eq_false h1, of_decide_eq_true h2] using hR
  rw [f122c18_eq]; simp (disch := first | exact Nat.le_of_ble_eq_true rfl | omega) only [AXR, AXB, J.dst, reduceIte, Nat.reduceEqDiff, Nat.reduceAdd, Nat.reduceMul, Nat.reduceLT, Nat.reduceLeDiff, f122r13]
  have h3 : ¬ b < a := of_decide_eq_false h2
  simpa [cmpI, of_decide_eq_false h1, h3] using hR
def orI (x y : Int) : Int := if x = 0 then y else x
theorem or_ok (x y : Int) (b : Nat) (h : Heap) (h0 : cel h b 0 = some (vi x)) (h1 : cel h b 1 = some (vi y)) {R : Value → Heap → Prop} (hR : R (vi (orI x y)) h) :
    CallsH Try.prog 121 [sl b 0 2 2] h R := by
  refine f121ok (by simp) ?_
  rw [f121c0_eq]; simp (disch := first | exact Nat.le_of_ble_eq_true rfl | omega) only [AXR, AXB, J.dst, reduceIte, Nat.reduceEqDiff, Nat.reduceAdd, Nat.reduceMul, Nat.reduceLT, Nat.reduceLeDiff, f121r0]
  rw [f121c1_eq]; simp (disch := first | exact Nat.le_of_ble_eq_true rfl | omega) only [AXR, AXB, J.dst, reduceIte, Nat.reduceEqDiff, Nat.reduceAdd, Nat.reduceMul, Nat.reduceLT, Nat.reduceLeDiff, f121r1]
  rw [f121c2_eq]; simp (disch := first | exact Nat.le_of_ble_eq_true rfl | omega) only [AXR, AXB, J.dst, reduceIte, Nat.reduceEqDiff, Nat.reduceAdd, Nat.reduceMul, Nat.reduceLT, Nat.reduceLeDiff, f121r2]
  rw [f121c3_eq]
  refine loop_in (fun n σ h' => h' = h ∧ ∃ k : Nat, k + n = 2 ∧ σ = [(3, vi 0), (6, sl b 0 2 2), (7, vi 2), (8, vi k)] ∧ (1 ≤ k → x = 0) ∧ (2 ≤ k → y = 0)) 2 ⟨rfl, 0, rfl, rfl, by omega, by omega⟩ ?_
  rintro n σ h' ⟨rfl, k, hk, rfl, hx, hy⟩ Q' hn he hr _
  rw [f121c4_eq]; simp (disch := first | exact Nat.le_of_ble_eq_true rfl | omega) only [AXR, AXB, J.dst, reduceIte, Nat.reduceEqDiff, Nat.reduceAdd, Nat.reduceMul, Nat.reduceLT, Nat.reduceLeDiff, f121r3]
  rw [f121c5_eq]; simp (disch := first | exact Nat.le_of_ble_eq_true rfl | omega) only [AXR, AXB, J.dst, reduceIte, Nat.reduceEqDiff, Nat.reduceAdd, Nat.reduceMul, Nat.reduceLT, Nat.reduceLeDiff]
  refine ⟨fun h2 => ?_, fun h2 => ?_⟩
  · have hlt : k < 2 := by have := of_decide_eq_true h2; omega
    rw [f121c6_eq, f121c7_eq]
    have hcel : cel h' b (0 + k * 1) = some (vi (if k = 0 then x else y)) := by
      have : k = 0 ∨ k = 1 := by omega
      rcases this with rfl | rfl
      · simpa using h0
      · simpa using h1
    simp (disch := first | exact Nat.le_of_ble_eq_true rfl | omega) only [AXR, AXB, J.dst, reduceIte, Nat.reduceEqDiff, Nat.reduceAdd, Nat.reduceMul, Nat.reduceLT, Nat.reduceLeDiff, f121r4, hcel]
    refine ⟨by omega, by omega, ?_⟩
    rw [f121c8_eq]; simp (disch := first | exact Nat.le_of_ble_eq_true rfl | omega) only [AXR, AXB, J.dst, reduceIte, Nat.reduceEqDiff, Nat.reduceAdd, Nat.reduceMul, Nat.reduceLT, Nat.reduceLeDiff, f121r5, binV_neq]
    rw [f121c9_eq]; simp (disch := first | exact Nat.le_of_ble_eq_true rfl | omega) only [AXR, AXB, J.dst, reduceIte, Nat.reduceEqDiff, Nat.reduceAdd, Nat.reduceMul, Nat.reduceLT, Nat.reduceLeDiff]
    refine ⟨fun h3 => ?_, fun h3 => ?_⟩
    · rw [f121c10_eq]; simp (disch := first | exact Nat.le_of_ble_eq_true rfl | omega) only [AXR, AXB, J.dst, reduceIte, Nat.reduceEqDiff, Nat.reduceAdd, Nat.reduceMul, Nat.reduceLT, Nat.reduceLeDiff, f121r6]
      refine hr _ _ ?_
      simp (disch := first | exact Nat.le_of_ble_eq_true rfl | omega) only [AXR, AXB, J.dst, reduceIte, Nat.reduceEqDiff, Nat.reduceAdd, Nat.reduceMul, Nat.reduceLT, Nat.reduceLeDiff]
      have : (if k = 0 then x else y) = orI x y := by
        have h3' : (if k = 0 then x else y) ≠ 0 := by simpa using h3
        by_cases h0 : k = 0
        · subst h0; simp [orI] at h3' ⊢; simp [h3']
        · have : k = 1 := by omega
          subst this; simp [orI, hx]
      rw [← this] at hR
      exact hR
    · have h3' : (if k = 0 then x else y) = 0 := by simpa using h3
      rw [f121c11_eq]; simp (disch := first | exact Nat.le_of_ble_eq_true rfl | omega) only [AXR, AXB, J.dst, reduceIte, Nat.reduceEqDiff, Nat.reduceAdd, Nat.reduceMul, Nat.reduceLT, Nat.reduceLeDiff, f121r7]
      have hw : IntKind.i64.wrap (k + 1) = ((k + 1 : Nat) : Int) := by
        have : k = 0 ∨ k = 1 := by omega
        rcases this with rfl | rfl <;> rfl
      rw [hw]
      refine hn (n - 1) _ _ (by omega) ⟨rfl, k + 1, by omega, rfl, fun _ => ?_, fun _ => ?_⟩
      · by_cases h0 : k = 0
        · simpa [h0] using h3'
        · exact hx (by omega)
      · have : k = 1 := by omega
        simpa [this] using h3'
  · have hge : k = 2 := by have := of_decide_eq_false h2; omega
    subst hge
    refine he _ _ ?_
    rw [f121c12_eq]; simp (disch := first | exact Nat.le_of_ble_eq_true rfl | omega) only [AXR, AXB, J.dst, reduceIte, Nat.reduceEqDiff, Nat.reduceAdd, Nat.reduceMul, Nat.reduceLT, Nat.reduceLeDiff, f121r8]
    simpa [orI, hx, hy] using hR
theorem less_or (a b c d : Int) : (orI (cmpI a c) (cmpI b d) < 0) ↔ Stamp.lt ⟨a, b⟩ ⟨c, d⟩ = true := by
  unfold orI cmpI Stamp.lt
  simp
  split <;> rename_i h <;> (repeat' split) <;> omega
theorem less_ok (s t : Stamp) (h : Heap) {R : Value → Heap → Prop} (hR : ∀ h', Ext h h' → R (.bool (Stamp.lt s t)) h') :
    CallsH Try.prog 90 [.agg (eStamp s).toArray, .agg (eStamp t).toArray] h R := by
  refine f90ok (by simp) ?_
  rw [f90c0_eq]; simp (disch := first | exact Nat.le_of_ble_eq_true rfl | omega) only [AXR, AXB, J.dst, reduceIte, Nat.reduceEqDiff, Nat.reduceAdd, Nat.reduceMul, Nat.reduceLT, Nat.reduceLeDiff, f90r0]
  refine wL_boxN rfl ?_; intro b1 h1 e1 s1 hb1 B1
  refine wL_boxN rfl ?_; intro b2 h2 e2 s2 hb2 B2
  have B1 := B1.ext e2
  simp (disch := first | exact Nat.le_of_ble_eq_true rfl | omega) only [AXR, AXB, J.dst, reduceIte, Nat.reduceEqDiff, Nat.reduceAdd, Nat.reduceMul, Nat.reduceLT, Nat.reduceLeDiff]
  rw [f90c1_eq]
  refine drw_lt ?_
  simp (disch := first | exact Nat.le_of_ble_eq_true rfl | omega) only [AXR, AXB, J.dst, reduceIte, Nat.reduceEqDiff, Nat.reduceAdd, Nat.reduceMul, Nat.reduceLT, Nat.reduceLeDiff, f90r1, B1.cel, B2.cel, cells_agg, eStamp]
  refine ⟨by omega, by omega, by omega, by omega, ?_⟩
  refine compare_ok _ _ _ ⟨kp_ext (by omega) (Ext.refl _), ?_⟩
  refine compare_ok _ _ _ ⟨kp_ext (by omega) (Ext.refl _), ?_⟩
  refine wL_bslD rfl (by omega) ?_; intro b3 h3 e3 s3 hb3 B3
  simp (disch := first | exact Nat.le_of_ble_eq_true rfl | omega) only [AXR, AXB, J.dst, reduceIte, Nat.reduceEqDiff, Nat.reduceAdd, Nat.reduceMul, Nat.reduceLT, Nat.reduceLeDiff]
  refine or_ok (cmpI s.wall t.wall) (cmpI s.tie t.tie) _ _ (by rw [B3.cel]; rfl) (by rw [B3.cel]; rfl) ⟨kp_ext (by omega) (Ext.refl _), ?_⟩
  simp (disch := first | exact Nat.le_of_ble_eq_true rfl | omega) only [AXR, AXB, J.dst, reduceIte, Nat.reduceEqDiff, Nat.reduceAdd, Nat.reduceMul, Nat.reduceLT, Nat.reduceLeDiff, binV_lss]
  have hl := less_or s.wall s.tie t.wall t.tie
  have : decide (orI (cmpI s.wall t.wall) (cmpI s.tie t.tie) < 0) = Stamp.lt s t := by
    rw [Bool.eq_iff_iff]; simpa using hl
  rw [this]
  exact hR _ ((e1.trans e2).trans e3)
theorem i64_wrap {n : Int} (h0 : -9223372036854775808 ≤ n) (h1 : n ≤ 9223372036854775807) : IntKind.i64.wrap n = n := by
  unfold IntKind.wrap IntKind.bits IntKind.signed; simp; omega
theorem last_ok {B : Nat → Prop} {a : Option Addr} {c : Nat} (vs : List Ver) (t : Stamp) (h : Heap) (S : SlF B h eVer a vs) (hn : vs.length ≤ maxLen) {R : Value → Heap → Prop} (hR : ∀ h', Ext h h' → R (vi (lastV vs t)) h') :
    CallsH Try.prog 91 [.slice a vs.length c, .agg (eStamp t).toArray] h R := by
  refine f91ok (by simp) ?_
  rw [f91c0_eq]; simp (disch := first | exact Nat.le_of_ble_eq_true rfl | omega) only [AXR, AXB, J.dst, reduceIte, Nat.reduceEqDiff, Nat.reduceAdd, Nat.reduceMul, Nat.reduceLT, Nat.reduceLeDiff, f91r0]
  refine wL_boxN rfl ?_; rintro b1 h1 e1 s1 hb1 (B1 : Blk _ _ _ (eStamp t))
  simp (disch := first | exact Nat.le_of_ble_eq_true rfl | omega) only [AXR, AXB, J.dst, reduceIte, Nat.reduceEqDiff, Nat.reduceAdd, Nat.reduceMul, Nat.reduceLT, Nat.reduceLeDiff]
  rw [f91c1_eq]; simp (disch := first | exact Nat.le_of_ble_eq_true rfl | omega) only [AXR, AXB, J.dst, reduceIte, Nat.reduceEqDiff, Nat.reduceAdd, Nat.reduceMul, Nat.reduceLT, Nat.reduceLeDiff, f91r1, binV_sub]
  rw [f91c2_eq]
  unfold maxLen at hn
  rw [i64_wrap (by omega) (by omega)]
  refine loop_in (fun n σ h' => Ext h1 h' ∧ n ≤ vs.length ∧ σ = [(0, .slice a vs.length c), (3, ptr b1 0), (5, vi ((n : Int) - 1))] ∧ lastV vs t = lastK vs t n) vs.length ⟨Ext.refl _, Nat.le_refl _, rfl, rfl⟩ ?_
  rintro n σ h' ⟨e2, hnl, rfl, hl⟩ Q' hnx hex hrt _
  rw [f91c3_eq]; simp (disch := first | exact Nat.le_of_ble_eq_true rfl | omega) only [AXR, AXB, J.dst, reduceIte, Nat.reduceEqDiff, Nat.reduceAdd, Nat.reduceMul, Nat.reduceLT, Nat.reduceLeDiff, f91r2]
  rw [f91c4_eq]; simp (disch := first | exact Nat.le_of_ble_eq_true rfl | omega) only [AXR, AXB, J.dst, reduceIte, Nat.reduceEqDiff, Nat.reduceAdd, Nat.reduceMul, Nat.reduceLT, Nat.reduceLeDiff]
  refine ⟨fun h2 => ?_, fun h2 => ?_⟩
  · have hpos : 1 ≤ n := by have := of_decide_eq_true h2; omega
    obtain ⟨k, rfl⟩ : ∃ k, n = k + 1 := ⟨n - 1, by omega⟩
    have hk : ((k + 1 : Nat) : Int) - 1 = k := by omega
    obtain ⟨v, hv⟩ : ∃ v, vs[k]? = some v := ⟨vs[k], List.getElem?_eq_getElem (by omega)⟩
    obtain ⟨b, o, rfl, _, hrow⟩ := (S.ext (e1.trans e2)).elem eVer_len hv
    rw [hk, f91c5_eq, f91c6_eq]
    refine drw_lt ?_
    have B1' := B1.ext e2
    simp (disch := first | exact Nat.le_of_ble_eq_true rfl | omega) only [AXR, AXB, J.dst, reduceIte, Nat.reduceEqDiff, Nat.reduceAdd, Nat.reduceMul, Nat.reduceLT, Nat.reduceLeDiff, f91r3, B1'.rd, row_ver hrow, eStamp]
    refine ⟨B1'.lt, by omega, by omega, hrow.lt (by rw [eVer_len]; omega), ?_⟩
    refine less_ok t v.at_ _ ?_
    intro h3 e3
    refine ⟨kp_ext (Nat.le_refl _) e3, ?_⟩
    simp (disch := first | exact Nat.le_of_ble_eq_true rfl | omega) only [AXR, AXB, J.dst, reduceIte, Nat.reduceEqDiff, Nat.reduceAdd, Nat.reduceMul, Nat.reduceLT, Nat.reduceLeDiff]
    rw [f91c7_eq]; simp (disch := first | exact Nat.le_of_ble_eq_true rfl | omega) only [AXR, AXB, J.dst, reduceIte, Nat.reduceEqDiff, Nat.reduceAdd, Nat.reduceMul, Nat.reduceLT, Nat.reduceLeDiff]
    have hlk : lastK vs t (k + 1) = if Stamp.lt t v.at_ then lastK vs t k else (k : Int) := by
      simp [lastK, List.getD_eq_getElem?_getD, hv]
    refine ⟨fun h4 => ?_, fun h4 => ?_⟩
    · have h4' : Stamp.lt t v.at_ = false := by simpa using h4
      rw [f91c8_eq]; simp (disch := first | exact Nat.le_of_ble_eq_true rfl | omega) only [AXR, AXB, J.dst, reduceIte, Nat.reduceEqDiff, Nat.reduceAdd, Nat.reduceMul, Nat.reduceLT, Nat.reduceLeDiff, f91r4]
      refine hrt _ _ ?_
      simp (disch := first | exact Nat.le_of_ble_eq_true rfl | omega) only [AXR, AXB, J.dst, reduceIte, Nat.reduceEqDiff, Nat.reduceAdd, Nat.reduceMul, Nat.reduceLT, Nat.reduceLeDiff]
      rw [hlk, h4'] at hl
      rw [show (k : Int) = lastV vs t from hl.symm]
      exact hR _ (e1.trans (e2.trans e3))
    · have h4' : Stamp.lt t v.at_ = true := by simpa using h4
      rw [f91c9_eq]; simp (disch := first | exact Nat.le_of_ble_eq_true rfl | omega) only [AXR, AXB, J.dst, reduceIte, Nat.reduceEqDiff, Nat.reduceAdd, Nat.reduceMul, Nat.reduceLT, Nat.reduceLeDiff, f91r5, binV_sub]
      rw [i64_wrap (by omega) (by omega)]
      rw [hlk, h4'] at hl
      exact hnx k _ _ (by omega) ⟨e2.trans e3, by omega, rfl, hl⟩
  · have hz : n = 0 := by have := of_decide_eq_false h2; omega
    subst hz
    refine hex _ _ ?_
    rw [f91c10_eq]; simp (disch := first | exact Nat.le_of_ble_eq_true rfl | omega) only [AXR, AXB, J.dst, reduceIte, Nat.reduceEqDiff, Nat.reduceAdd, Nat.reduceMul, Nat.reduceLT, Nat.reduceLeDiff, f91r6]
    have : lastV vs t = -1 := hl
    rw [← this]
    exact hR _ (e1.trans e2)
end Go.Proofs.Ytefghfgmkndikaa
namespace Go.Proofs.Ytefghfgmkndikaa
open Go Go.AX
theorem getD_of {α : Type} {l : List α} {k : Nat} {x d : α} (h : l[k]? = some x) : l.getD k d = x := by simp [List.getD_eq_getElem?_getD, h]
theorem get_ex {α : Type} {l : List α} {k : Nat} (h : k < l.length) : ∃ x, l[k]? = some x := ⟨l[k], List.getElem?_eq_getElem h⟩
theorem tells_ok {B : Nat → Prop} (x : CV) (c : Cell) (t : Stamp) (h : Heap) (S : CR B h x c) (hn : c.vers.length ≤ maxLen) {R : Value → Heap → Prop}
    (hR : ∀ h', Ext h h' → R (.tuple #[.string (tellV c.vers t).1, .bool (tellV c.vers t).2]) h') :
    CallsH Try.prog 89 [.agg (eCV x).toArray, .agg (eStamp t).toArray] h R := by
  refine f89ok (by simp) ?_
  simp (disch := first | exact Nat.le_of_ble_eq_true rfl | omega) only [AXR, AXB, J.dst, reduceIte, Nat.reduceEqDiff, Nat.reduceAdd, Nat.reduceMul, Nat.reduceLT, Nat.reduceLeDiff, f89r0, f89r1, f89r2, f89r3, f89r4, f89c4_eq, f89c5_eq, f89c3_eq, f89c2_eq, f89c1_eq, f89c0_eq]
  refine wL_boxN rfl ?_; rintro b1 h1 e1 s1 hb1 (B1 : Blk _ _ _ (eCV x))
  refine wL_boxN rfl ?_; rintro b2 h2 e2 s2 hb2 (B2 : Blk _ _ _ (eStamp t))
  replace B1 := B1.ext e2
  simp (disch := first | exact Nat.le_of_ble_eq_true rfl | omega) only [AXR, AXB, J.dst, reduceIte, Nat.reduceEqDiff, Nat.reduceAdd, Nat.reduceMul, Nat.reduceLT, Nat.reduceLeDiff, f89r0, f89r1, f89r2, f89r3, f89r4, f89c4_eq, f89c5_eq, f89c3_eq, f89c2_eq, f89c1_eq, f89c0_eq, B1.cel, B2.rd, eCV, eStamp, S.vn]
  refine last_ok c.vers t _ (S.vers.ext (e1.trans e2)) hn ?_
  intro h3 e3
  replace B1 := B1.ext e3
  simp (disch := first | exact Nat.le_of_ble_eq_true rfl | omega) only [AXR, AXB, J.dst, reduceIte, Nat.reduceEqDiff, Nat.reduceAdd, Nat.reduceMul, Nat.reduceLT, Nat.reduceLeDiff, f89r0, f89r1, f89r2, f89r3, f89r4, f89c4_eq, f89c5_eq, f89c3_eq, f89c2_eq, f89c1_eq, f89c0_eq, B1.cel, eCV]
  have hR := hR _ (e1.trans (e2.trans e3))
  have hb := lastV_le c.vers t
  by_cases hl : lastV c.vers t < 0
  · simp (disch := first | exact Nat.le_of_ble_eq_true rfl | omega) only [AXR, AXB, J.dst, reduceIte, Nat.reduceEqDiff, Nat.reduceAdd, Nat.reduceMul, Nat.reduceLT, Nat.reduceLeDiff, decide_eq_true hl]
    simpa [tellV, hl, noB] using hR
  obtain ⟨k, hk⟩ : ∃ k : Nat, lastV c.vers t = k := ⟨(lastV c.vers t).toNat, by omega⟩
  obtain ⟨v, hv⟩ := get_ex (show k < c.vers.length by omega)
  obtain ⟨b, o, ha, _, hrow⟩ := (S.vers.ext (e1.trans (e2.trans e3))).elem eVer_len hv
  rw [hk] at hb hl
  simp (disch := first | exact Nat.le_of_ble_eq_true rfl | omega) only [AXR, AXB, J.dst, reduceIte, Nat.reduceEqDiff, Nat.reduceAdd, Nat.reduceMul, Nat.reduceLT, Nat.reduceLeDiff, decide_eq_false hl, hk, ha, S.vn, row_ver hrow]
  have ht : tellV c.vers t = if v.drop then (noB, false) else (v.data, true) := by
    simp [tellV, hk, List.getD_eq_getElem?_getD, hv, hl]
  rw [ht] at hR
  refine ⟨by omega, by omega, fun hd => ?_, fun hd => ⟨by omega, by omega, ?_⟩⟩
  · simpa [hd, noB] using hR
  · simpa [hd] using hR
/-- The first place from k on whose key is the key. -/
theorem findK_eq (cs : List Cell) (key : ByteArray) (k : Nat) (hk : ∀ j c, j < k → cs[j]? = some c → c.key ≠ key) : (∀ c, cs[k]? = some c → c.key = key → findK cs key = k) ∧ (k = cs.length → findK cs key = -1) := by
  refine ⟨fun c hc he => ?_, fun he => ?_⟩
  · have : cs.findIdx? (fun c => decide (c.key = key)) = some k := by
      rw [List.findIdx?_eq_some_iff_getElem]
      have hl : k < cs.length := by
        rcases Nat.lt_or_ge k cs.length with h | h
        · exact h
        · rw [List.getElem?_eq_none h] at hc; cases hc
      rw [List.getElem?_eq_getElem hl] at hc
      cases hc
      refine ⟨hl, by simpa using he, fun j hj => ?_⟩
      simpa using hk j _ hj (List.getElem?_eq_getElem (by omega))
    simp [findK, this]
  · have : cs.findIdx? (fun c => decide (c.key = key)) = none := by
      rw [List.findIdx?_eq_none_iff]
      intro x hx
      obtain ⟨j, hj, rfl⟩ := List.mem_iff_getElem.1 hx
      simpa using hk j _ (by omega) (List.getElem?_eq_getElem hj)
    simp [findK, this]
theorem rfind_ok {B : Nat → Prop} {a : Option Addr} {cap : Nat} (cs : List Cell) (key : ByteArray) (h : Heap) (S : SlC B h a cs) (hn : cs.length ≤ maxLen) {R : Value → Heap → Prop}
    (hR : R (vi (findK cs key)) h) : CallsH Try.prog 108 [.slice a cs.length cap, .string key] h R := by
  refine f108ok (by simp) ?_
  simp (disch := first | exact Nat.le_of_ble_eq_true rfl | omega) only [AXR, AXB, J.dst, reduceIte, Nat.reduceEqDiff, Nat.reduceAdd, Nat.reduceMul, Nat.reduceLT, Nat.reduceLeDiff, f108r0, f108r1, f108r2, f108r3, f108r4, f108r5, f108r6, f108c8_eq, f108c7_eq, f108c6_eq, f108c9_eq, f108c5_eq, f108c4_eq, f108c3_eq, f108c10_eq, f108c2_eq, f108c1_eq, f108c0_eq]
  unfold maxLen at hn
  refine loop_in (fun n σ h' => h' = h ∧ ∃ k : Nat, k + n = cs.length ∧ σ = [(0, .slice a cs.length cap), (1, .string key), (5, vi k)] ∧ ∀ j c, j < k → cs[j]? = some c → c.key ≠ key)
    cs.length ⟨rfl, 0, by omega, rfl, by intros; omega⟩ ?_
  rintro n σ h' ⟨rfl, k, hk, rfl, hnk⟩ Q' hnx hex hrt _
  simp (disch := first | exact Nat.le_of_ble_eq_true rfl | omega) only [AXR, AXB, J.dst, reduceIte, Nat.reduceEqDiff, Nat.reduceAdd, Nat.reduceMul, Nat.reduceLT, Nat.reduceLeDiff, f108r0, f108r1, f108r2, f108r3, f108r4, f108r5, f108r6, f108c8_eq, f108c7_eq, f108c6_eq, f108c9_eq, f108c5_eq, f108c4_eq, f108c3_eq, f108c10_eq, f108c2_eq, f108c1_eq, f108c0_eq]
  have hfk := findK_eq cs key k hnk
  refine ⟨fun h2 => ?_, fun h2 => ?_⟩
  · have hkl : k < cs.length := by have := of_decide_eq_true h2; omega
    obtain ⟨c, hc⟩ := get_ex hkl
    obtain ⟨b, o, v, rfl, _, hrow, hcr⟩ := S.elem hc
    simp (disch := first | exact Nat.le_of_ble_eq_true rfl | omega) only [AXR, AXB, J.dst, reduceIte, Nat.reduceEqDiff, Nat.reduceAdd, Nat.reduceMul, Nat.reduceLT, Nat.reduceLeDiff, f108r0, f108r1, f108r2, f108r3, f108r4, f108r5, f108r6, f108c8_eq, f108c7_eq, f108c6_eq, f108c9_eq, f108c5_eq, f108c4_eq, f108c3_eq, f108c10_eq, f108c2_eq, f108c1_eq, f108c0_eq, row_cv hrow, keq_iff, hcr.key]
    refine ⟨by omega, by omega, fun h3 => ?_, fun h3 => ?_⟩
    · refine hrt _ _ ?_
      simp (disch := first | exact Nat.le_of_ble_eq_true rfl | omega) only [AXR, AXB, J.dst, reduceIte, Nat.reduceEqDiff, Nat.reduceAdd, Nat.reduceMul, Nat.reduceLT, Nat.reduceLeDiff]
      rw [hfk.1 c hc (by simpa using h3)] at hR
      exact hR
    · rw [i64_wrap (by omega) (by omega)]
      refine hnx (n - 1) _ _ (by omega) ⟨rfl, k + 1, by omega, rfl, ?_⟩
      intro j c' hj hc'
      rcases Nat.lt_or_ge j k with hlt | hge
      · exact hnk j c' hlt hc'
      · have : j = k := by omega
        subst this
        rw [hc] at hc'; cases hc'
        simpa using h3
  · have hkl : k = cs.length := by have := of_decide_eq_false h2; omega
    refine hex _ _ ?_
    try simp (disch := first | exact Nat.le_of_ble_eq_true rfl | omega) only [AXR, AXB, J.dst, reduceIte, Nat.reduceEqDiff, Nat.reduceAdd, Nat.reduceMul, Nat.reduceLT, Nat.reduceLeDiff, f108r0, f108r1, f108r2, f108r3, f108r4, f108r5, f108r6, f108c8_eq, f108c7_eq, f108c6_eq, f108c9_eq, f108c5_eq, f108c4_eq, f108c3_eq, f108c10_eq, f108c2_eq, f108c1_eq, f108c0_eq]
    rw [hfk.2 hkl] at hR
    exact hR
end Go.Proofs.Ytefghfgmkndikaa
namespace Go.AX
open Go
theorem raw_shr {P : Program} {o : Oper} {σ : Env} {h : Heap} {K : Value → Heap → Prop} {t yt : TypeId} {x y : Operand} {k yk : IntKind} {a b : Int} (ho : o.op = .binOp .shr t x y yt)
    (hx : evO σ x = some (.int k a)) (hy : evO σ y = some (.int yk b)) (h0 : 0 ≤ b) (h1 : b ≤ k.bits) (hK : K (.int k (a / 2 ^ b.toNat)) h) : RawW P o σ h K := by
  refine ⟨?_, ?_, ?_⟩
  · rw [ho]; intro u hu
    simp only [Op.operands, List.mem_toArray, List.mem_cons, List.not_mem_nil, or_false] at hu
    rcases hu with rfl | rfl
    · rw [hx]; rfl
    · rw [hy]; rfl
  · rw [ho]; intro cs b hh; cases hh
  · intro w hw
    refine ⟨.value (.int k (a / 2 ^ b.toNat)), _, w, ?_, rfl, Same.refl w, by rw [hw]; exact hK⟩
    simp [execOp, ho, hx, hy, eqGuard, binOp, shift_shr k yk a b h0 h1]
end Go.AX
namespace Go.Proofs.Ytefghfgmkndikaa
open Go Go.AX
theorem cmpStr_ok (a b : ByteArray) (h : Heap) {R : Value → Heap → Prop} (hR : R (vi (kcmp a b)) h) : CallsH Try.prog 139 [.string a, .string b] h R := by
  refine f139ok (by simp) ?_
  simp (disch := first | exact Nat.le_of_ble_eq_true rfl | omega) only [AXR, AXB, J.dst, reduceIte, Nat.reduceEqDiff, Nat.reduceAdd, Nat.reduceMul, Nat.reduceLT, Nat.reduceLeDiff, f139r0, f139r1, f139c1_eq, f139c0_eq]
  rw [wL_raw]
  refine raw_ext (f := 153) (e := Extern.BytealgCompare.compare) (vs := [.string a, .string b]) (v := vi (kcmp a b)) rfl Try.func153 (by kernel_rfl) (by kernel_rfl) (by kernel_rfl) (by kernel_rfl) (by rfl) (fun w _ => ?_) ?_
  · have := Lib.run_compareString (P := Try.prog) a b w
    rw [← ByteArray.toList_eq, ← ByteArray.toList_eq, cmp_kcmp] at this
    exact this
  refine ⟨trivial, ?_⟩
  simp (disch := first | exact Nat.le_of_ble_eq_true rfl | omega) only [AXR, AXB, J.dst, reduceIte, Nat.reduceEqDiff, Nat.reduceAdd, Nat.reduceMul, Nat.reduceLT, Nat.reduceLeDiff, f139r0, f139r1, f139c1_eq, f139c0_eq]
  exact hR
theorem strCmp_ok (a b : ByteArray) (h : Heap) {R : Value → Heap → Prop} (hR : R (vi (kcmp a b)) h) : CallsH Try.prog 118 [.string a, .string b] h R := by
  refine f118ok (by simp) ?_
  simp (disch := first | exact Nat.le_of_ble_eq_true rfl | omega) only [AXR, AXB, J.dst, reduceIte, Nat.reduceEqDiff, Nat.reduceAdd, Nat.reduceMul, Nat.reduceLT, Nat.reduceLeDiff, f118r0, f118r1, f118c1_eq, f118c0_eq]
  refine cmpStr_ok a b h ?_
  exact hR
theorem key_ok (x : CV) (key : ByteArray) (h : Heap) {R : Value → Heap → Prop} (hR : ∀ h', Ext h h' → R (vi (kcmp x.key key)) h') : CallsH Try.prog 117 [.agg (eCV x).toArray, .string key] h R := by
  refine f117ok (by simp) ?_
  simp (disch := first | exact Nat.le_of_ble_eq_true rfl | omega) only [AXR, AXB, J.dst, reduceIte, Nat.reduceEqDiff, Nat.reduceAdd, Nat.reduceMul, Nat.reduceLT, Nat.reduceLeDiff, f117r0, f117r1, f117c1_eq, f117c0_eq]
  refine wL_boxN rfl ?_; rintro b1 h1 e1 s1 hb1 (B1 : Blk _ _ _ (eCV x))
  simp (disch := first | exact Nat.le_of_ble_eq_true rfl | omega) only [AXR, AXB, J.dst, reduceIte, Nat.reduceEqDiff, Nat.reduceAdd, Nat.reduceMul, Nat.reduceLT, Nat.reduceLeDiff, f117r0, f117r1, f117c1_eq, f117c0_eq, B1.cel, eCV]
  refine strCmp_ok _ _ _ ?_
  exact hR _ e1
/-- Where the keys rise: what is ahead of one that is ahead is ahead. -/
theorem sorted_get {cs : List Cell} (S : Sorted cs) {p q : Nat} {c d : Cell} (hp : cs[p]? = some c) (hq : cs[q]? = some d) (hpq : p < q) : klt c.key d.key = true := by
  obtain ⟨h1, rfl⟩ := List.getElem?_eq_some_iff.1 hp
  obtain ⟨h2, rfl⟩ := List.getElem?_eq_some_iff.1 hq
  exact List.pairwise_iff_getElem.1 S p q h1 h2 hpq
theorem sorted_lt_key {cs : List Cell} (S : Sorted cs) {p q : Nat} {c d : Cell} {key : ByteArray} (hp : cs[p]? = some c) (hq : cs[q]? = some d) (hpq : p ≤ q) (hd : klt d.key key = true) : klt c.key key = true := by
  rcases Nat.lt_or_ge p q with h | h
  · exact klt_trans (sorted_get S hp hq h) hd
  · have : p = q := by omega
    subst this; rw [hp] at hq; cases hq; exact hd
theorem lbK_eq (key : ByteArray) : ∀ (cs : List Cell) (i : Nat), i ≤ cs.length → (∀ p c, p < i → cs[p]? = some c → klt c.key key = true) → (∀ c, cs[i]? = some c → klt c.key key = false) → lbK cs key = i
  | [], i, h, _, _ => by have : i = 0 := by simpa using h
                         subst this; rfl
  | c :: cs, 0, _, _, h => by
    have := h c rfl
    simp [lbK, List.takeWhile, this]
  | c :: cs, i + 1, hl, h, h' => by
    have h0 := h 0 c (by omega) rfl
    have := lbK_eq key cs i (by simpa using hl) (fun p d hp hd => h (p + 1) d (by omega) (by simpa using hd)) (fun d hd => h' d (by simpa using hd))
    unfold lbK at this ⊢
    simp [List.takeWhile, h0, this]
theorem lbK_le (cs : List Cell) (key : ByteArray) : lbK cs key ≤ cs.length := by unfold lbK; exact List.Sublist.length_le (List.takeWhile_sublist _)
theorem kcmp_lt (a b : ByteArray) : kcmp a b < 0 ↔ klt a b = true := by
  unfold kcmp; split
  · simp_all
  · split <;> simp_all
theorem kcmp_eq (a b : ByteArray) : kcmp a b = 0 ↔ a = b := by
  unfold kcmp
  rcases klt_total a b with h | h | h
  · simp [h, klt_ne h]
  · subst h; simp [klt_irrefl]
  · simp [h, klt_asymm h, (klt_ne h).symm]
theorem search_ok {B : Nat → Prop} {a : Option Addr} {cap : Nat} (cs : List Cell) (key : ByteArray) (h : Heap) (S : SlC B h a cs) (hs : Sorted cs) (hn : cs.length ≤ maxLen) {R : Value → Heap → Prop}
    (hR : ∀ h', Ext h h' → R (.tuple #[vi (lbK cs key), .bool (hasK cs key)]) h') : CallsH Try.prog 116 [.slice a cs.length cap, .string key, .func (.func 117) #[] #[]] h R := by
  refine f116ok (by simp) ?_
  simp (disch := first | exact Nat.le_of_ble_eq_true rfl | omega) only [AXR, AXB, J.dst, reduceIte, Nat.reduceEqDiff, Nat.reduceAdd, Nat.reduceMul, Nat.reduceLT, Nat.reduceLeDiff, f116r0, f116r1, f116r2, f116r3, f116r4, f116r5, f116r6, f116r7, f116r8, f116c10_eq, f116c11_eq, f116c9_eq, f116c8_eq, f116c7_eq, f116c6_eq, f116c5_eq, f116c4_eq, f116c12_eq, f116c3_eq, f116c2_eq, f116c1_eq, f116c0_eq]
  unfold maxLen at hn
  refine loop_in (fun n σ h' => Ext h h' ∧ ∃ i j : Nat, j = i + n ∧ j ≤ cs.length ∧ σ = [(0, .slice a cs.length cap), (1, .string key), (2, .func (.func 117) #[] #[]), (8, vi cs.length), (9, vi i), (10, vi j)] ∧
      (∀ p c, p < i → cs[p]? = some c → klt c.key key = true) ∧ (∀ c, cs[j]? = some c → klt c.key key = false))
    cs.length ⟨Ext.refl _, 0, cs.length, by omega, by omega, rfl, by intros; omega, by simp⟩ ?_
  rintro n σ h' ⟨e1, i, j, hj, hjl, rfl, hlo, hhi⟩ Q' hnx hex hrt _
  simp (disch := first | exact Nat.le_of_ble_eq_true rfl | omega) only [AXR, AXB, J.dst, reduceIte, Nat.reduceEqDiff, Nat.reduceAdd, Nat.reduceMul, Nat.reduceLT, Nat.reduceLeDiff, f116r0, f116r1, f116r2, f116r3, f116r4, f116r5, f116r6, f116r7, f116r8, f116c10_eq, f116c11_eq, f116c9_eq, f116c8_eq, f116c7_eq, f116c6_eq, f116c5_eq, f116c4_eq, f116c12_eq, f116c3_eq, f116c2_eq, f116c1_eq, f116c0_eq]
  refine ⟨fun h2 => ?_, fun h2 => ?_⟩
  · have hij : i < j := by have := of_decide_eq_true h2; omega
    rw [wL_raw]
    refine raw_shr rfl rfl rfl (by decide) (by decide) ?_
    refine ⟨trivial, ?_⟩
    have hmid : IntKind.i64.wrap (IntKind.u64.wrap (IntKind.i64.wrap ((i : Int) + j)) / 2 ^ (1 : Int).toNat) = (((i + j) / 2 : Nat) : Int) := by
      have : IntKind.u64.wrap (IntKind.i64.wrap ((i : Int) + j)) = (i : Int) + j := by unfold IntKind.wrap IntKind.bits IntKind.signed; simp; omega
      rw [this]
      have e2 : ((i : Int) + j) / 2 ^ (1 : Int).toNat = (((i + j) / 2 : Nat) : Int) := by
        show ((i : Int) + j) / 2 = _
        omega
      rw [e2]
      exact i64_wrap (by omega) (by omega)
    simp (disch := first | exact Nat.le_of_ble_eq_true rfl | omega) only [AXR, AXB, J.dst, reduceIte, Nat.reduceEqDiff, Nat.reduceAdd, Nat.reduceMul, Nat.reduceLT, Nat.reduceLeDiff, f116r0, f116r1, f116r2, f116r3, f116r4, f116r5, f116r6, f116r7, f116r8, f116c10_eq, f116c11_eq, f116c9_eq, f116c8_eq, f116c7_eq, f116c6_eq, f116c5_eq, f116c4_eq, f116c12_eq, f116c3_eq, f116c2_eq, f116c1_eq, f116c0_eq, hmid]
    obtain ⟨m, hm⟩ : ∃ m, m = (i + j) / 2 := ⟨_, rfl⟩
    rw [← hm]
    obtain ⟨c, hc⟩ := get_ex (show m < cs.length by omega)
    obtain ⟨b, o, v, rfl, _, hrow, hcr⟩ := (S.ext e1).elem hc
    simp (disch := first | exact Nat.le_of_ble_eq_true rfl | omega) only [AXR, AXB, J.dst, reduceIte, Nat.reduceEqDiff, Nat.reduceAdd, Nat.reduceMul, Nat.reduceLT, Nat.reduceLeDiff, f116r0, f116r1, f116r2, f116r3, f116r4, f116r5, f116r6, f116r7, f116r8, f116c10_eq, f116c11_eq, f116c9_eq, f116c8_eq, f116c7_eq, f116c6_eq, f116c5_eq, f116c4_eq, f116c12_eq, f116c3_eq, f116c2_eq, f116c1_eq, f116c0_eq, row_cv hrow]
    refine ⟨by omega, by omega, ?_⟩
    refine wL_cav _ _ _ _ _ _ _ rfl rfl f117cal ?_
    refine key_ok v key _ ?_
    intro h3 e3
    refine ⟨trivial, ?_⟩
    simp (disch := first | exact Nat.le_of_ble_eq_true rfl | omega) only [AXR, AXB, J.dst, reduceIte, Nat.reduceEqDiff, Nat.reduceAdd, Nat.reduceMul, Nat.reduceLT, Nat.reduceLeDiff, f116r0, f116r1, f116r2, f116r3, f116r4, f116r5, f116r6, f116r7, f116r8, f116c10_eq, f116c11_eq, f116c9_eq, f116c8_eq, f116c7_eq, f116c6_eq, f116c5_eq, f116c4_eq, f116c12_eq, f116c3_eq, f116c2_eq, f116c1_eq, f116c0_eq, hcr.key]
    have hk := kcmp_lt c.key key
    refine ⟨fun h4 => ?_, fun h4 => ?_⟩
    · have h4 : klt c.key key = true := by simpa [hk] using h4
      rw [i64_wrap (by omega) (by omega)]
      exact hnx (j - (m + 1)) _ _ (by omega) ⟨e1.trans e3, m + 1, j, by omega, hjl, rfl, fun p d hp hd => sorted_lt_key hs hd hc (by omega) h4, hhi⟩
    · have h4 : klt c.key key = false := by
        have := of_decide_eq_false h4
        rw [hk] at this; simpa using this
      refine hnx (m - i) _ _ (by omega) ⟨e1.trans e3, i, m, by omega, by omega, rfl, hlo, ?_⟩
      intro d hd; rw [hc] at hd; cases hd; exact h4
  · have hij : i = j := by have := of_decide_eq_false h2; omega
    subst hij
    refine hex _ _ ?_
    simp (disch := first | exact Nat.le_of_ble_eq_true rfl | omega) only [AXR, AXB, J.dst, reduceIte, Nat.reduceEqDiff, Nat.reduceAdd, Nat.reduceMul, Nat.reduceLT, Nat.reduceLeDiff, f116r0, f116r1, f116r2, f116r3, f116r4, f116r5, f116r6, f116r7, f116r8, f116c10_eq, f116c11_eq, f116c9_eq, f116c8_eq, f116c7_eq, f116c6_eq, f116c5_eq, f116c4_eq, f116c12_eq, f116c3_eq, f116c2_eq, f116c1_eq, f116c0_eq]
    have hlb := lbK_eq key cs i hjl hlo hhi
    refine ⟨fun h3 => ?_, fun h3 => ?_⟩
    · obtain ⟨c, hc⟩ := get_ex (show i < cs.length by have := of_decide_eq_true h3; omega)
      obtain ⟨b, o, v, rfl, _, hrow, hcr⟩ := (S.ext e1).elem hc
      simp (disch := first | exact Nat.le_of_ble_eq_true rfl | omega) only [AXR, AXB, J.dst, reduceIte, Nat.reduceEqDiff, Nat.reduceAdd, Nat.reduceMul, Nat.reduceLT, Nat.reduceLeDiff, f116r0, f116r1, f116r2, f116r3, f116r4, f116r5, f116r6, f116r7, f116r8, f116c10_eq, f116c11_eq, f116c9_eq, f116c8_eq, f116c7_eq, f116c6_eq, f116c5_eq, f116c4_eq, f116c12_eq, f116c3_eq, f116c2_eq, f116c1_eq, f116c0_eq, row_cv hrow]
      refine ⟨by omega, by have := of_decide_eq_true h3; omega, ?_⟩
      refine wL_cav _ _ _ _ _ _ _ rfl rfl f117cal ?_
      refine key_ok v key _ ?_
      intro h4 e4
      refine ⟨trivial, ?_⟩
      simp (disch := first | exact Nat.le_of_ble_eq_true rfl | omega) only [AXR, AXB, J.dst, reduceIte, Nat.reduceEqDiff, Nat.reduceAdd, Nat.reduceMul, Nat.reduceLT, Nat.reduceLeDiff, f116r0, f116r1, f116r2, f116r3, f116r4, f116r5, f116r6, f116r7, f116r8, f116c10_eq, f116c11_eq, f116c9_eq, f116c8_eq, f116c7_eq, f116c6_eq, f116c5_eq, f116c4_eq, f116c12_eq, f116c3_eq, f116c2_eq, f116c1_eq, f116c0_eq, hcr.key]
      have hh : hasK cs key = (kcmp c.key key == 0) := by
        have := kcmp_eq c.key key
        rw [Bool.eq_iff_iff]
        simp [hasK, hlb, hc, this]
      have := hR _ (e1.trans e4)
      rw [hlb, hh] at this
      exact this
    · have hh : hasK cs key = false := by
        have : cs[i]? = none := List.getElem?_eq_none (by have := of_decide_eq_false h3; omega)
        simp [hasK, hlb, this]
      have := hR _ e1
      rw [hlb, hh] at this
      exact this
theorem find_ok {B : Nat → Prop} {a : Option Addr} {cap : Nat} (cs : List Cell) (key : ByteArray) (h : Heap) (S : SlC B h a cs) (hs : Sorted cs) (hn : cs.length ≤ maxLen) {R : Value → Heap → Prop}
    (hR : ∀ h', Ext h h' → R (.tuple #[vi (lbK cs key), .bool (hasK cs key)]) h') : CallsH Try.prog 87 [.slice a cs.length cap, .string key] h R := by
  refine f87ok (by simp) ?_
  simp (disch := first | exact Nat.le_of_ble_eq_true rfl | omega) only [AXR, AXB, J.dst, reduceIte, Nat.reduceEqDiff, Nat.reduceAdd, Nat.reduceMul, Nat.reduceLT, Nat.reduceLeDiff, f87r0, f87r1, f87c1_eq, f87c0_eq]
  refine search_ok cs key h S hs hn ?_
  intro h1 e1
  try simp (disch := first | exact Nat.le_of_ble_eq_true rfl | omega) only [AXR, AXB, J.dst, reduceIte, Nat.reduceEqDiff, Nat.reduceAdd, Nat.reduceMul, Nat.reduceLT, Nat.reduceLeDiff, f87r0, f87r1, f87c1_eq, f87c0_eq]
  exact hR _ e1
end Go.Proofs.Ytefghfgmkndikaa
namespace Go.Proofs.Ytefghfgmkndikaa
open Go Go.AX
/-- All rows of versions may be counted. -/
def Fit (cs : List Cell) : Prop := ∀ c ∈ cs, c.vers.length ≤ maxLen
theorem Fit.get {cs : List Cell} (F : Fit cs) {i : Nat} {c : Cell} (h : cs[i]? = some c) : c.vers.length ≤ maxLen := F c (List.mem_of_getElem? h)
theorem findK_lt (cs : List Cell) (key : ByteArray) : findK cs key < cs.length := by
  unfold findK
  split
  · rename_i i hi
    obtain ⟨h, _⟩ := List.findIdx?_eq_some_iff_getElem.1 hi
    omega
  · omega
end Go.Proofs.Ytefghfgmkndikaa
namespace Go.AX
open Go
theorem Own.room {lo : Nat} {h : Heap} {e s : Nat} {a : Option Addr} {n c : Nat} {xs : List Value} (O : Own lo h e s a n c xs) : n ≤ c ∧ c ≤ maxLen := by
  rcases O.2 with ⟨_, h1, h2⟩ | ⟨g, cur, _, _, _, h1, h2, _⟩
  · subst h1; subst h2; exact ⟨Nat.le_refl _, Nat.zero_le _⟩
  · exact ⟨h1, h2⟩
theorem Own.blk {lo : Nat} {h : Heap} {e s : Nat} {a : Option Addr} {n c : Nat} {xs : List Value} (O : Own lo h e s a n c xs) (hn : 0 < c) : ∃ g cur, a = some ⟨g, 0, none⟩ ∧ lo ≤ g ∧ Blk h g e cur ∧ cur.length = c * s ∧ cur.take (n * s) = xs := by
  rcases O.2 with ⟨_, _, h2⟩ | ⟨g, cur, rfl, h1, h2, h3, h4, h5, h6⟩
  · omega
  · exact ⟨g, cur.toList, rfl, h1, by unfold Blk; simpa using h2, by simpa using h5, h6⟩
theorem Own.of_blk {lo : Nat} {h : Heap} {e s g n c : Nat} {xs cur : List Value} (hg : lo ≤ g) (B : Blk h g e cur) (hc : cur.length = c * s) (hn : n ≤ c) (hm : c ≤ maxLen) (hx : cur.take (n * s) = xs) : Own lo h e s (some ⟨g, 0, none⟩) n c xs := by
  have hle : n * s ≤ c * s := Nat.mul_le_mul_right _ hn
  refine ⟨by rw [← hx, List.length_take]; omega, .inr ⟨g, cur.toArray, rfl, hg, B, hn, hm, by simpa using hc, by simpa using hx⟩⟩
/-- The new element in its place: shifted in place. -/
theorem ins_shift {cur xs news : List Value} {i n c s : Nat} (hi : i < n) (hc : n + 1 ≤ c) (hl : cur.length = c * s) (hx : cur.take (n * s) = xs) (hn : news.length = s) :
    (((cur.take ((i + 1) * s) ++ (xs.drop (i * s)) ++ cur.drop ((i + 1) * s + (xs.drop (i * s)).length)).take (i * s) ++ news ++
      (cur.take ((i + 1) * s) ++ (xs.drop (i * s)) ++ cur.drop ((i + 1) * s + (xs.drop (i * s)).length)).drop (i * s + news.length)).take ((n + 1) * s)) = xs.take (i * s) ++ news ++ xs.drop (i * s) := by
  have h1 : i * s ≤ n * s := Nat.mul_le_mul_right _ (by omega)
  have h2 : (n + 1) * s ≤ c * s := Nat.mul_le_mul_right _ hc
  have e1 : (i + 1) * s = i * s + s := by rw [Nat.add_mul]; omega
  have e2 : (n + 1) * s = n * s + s := by rw [Nat.add_mul]; omega
  have e3 : (i + 1) * s ≤ n * s := Nat.mul_le_mul_right _ hi
  have hxl : xs.length = n * s := by rw [← hx, List.length_take]; omega
  have hd : (xs.drop (i * s)).length = n * s - i * s := by rw [List.length_drop, hxl]
  apply List.ext_getElem?
  intro j
  rw [hd, hn]
  simp only [List.getElem?_take, List.getElem?_append, List.getElem?_drop, List.length_take, List.length_append, List.length_drop, hl, hxl, hn, ← hx]
  generalize i * s = p at *
  generalize n * s = q at *
  generalize c * s = r at *
  simp only [e1, e2] at *
  repeat' split
  all_goals first | omega | rfl | (congr 1; omega) | skip
  all_goals try (exfalso; omega)
theorem ins_grow {xs news zs : List Value} {i n s : Nat} (hi : i ≤ n) (hxl : xs.length = n * s) (hn : news.length = s) (hz : (n + 1) * s ≤ i * s + zs.length) :
    ((((xs.take (i * s) ++ zs).take (i * s) ++ news ++ (xs.take (i * s) ++ zs).drop (i * s + news.length)).take ((i + 1) * s) ++ xs.drop (i * s) ++
      ((xs.take (i * s) ++ zs).take (i * s) ++ news ++ (xs.take (i * s) ++ zs).drop (i * s + news.length)).drop ((i + 1) * s + (xs.drop (i * s)).length)).take ((n + 1) * s)) = xs.take (i * s) ++ news ++ xs.drop (i * s) := by
  have h1 : i * s ≤ n * s := Nat.mul_le_mul_right _ hi
  have e1 : (i + 1) * s = i * s + s := by rw [Nat.add_mul]; omega
  have e2 : (n + 1) * s = n * s + s := by rw [Nat.add_mul]; omega
  apply List.ext_getElem?
  intro j
  simp only [List.getElem?_take, List.getElem?_append, List.getElem?_drop, List.length_take, List.length_append, List.length_drop, hxl, hn]
  generalize i * s = p at *
  generalize n * s = q at *
  simp only [e1, e2] at *
  repeat' split
  all_goals first | omega | rfl | (congr 1; omega) | skip
  all_goals first | (exfalso; omega) | (rw [List.getElem?_eq_none (by omega)])
end Go.AX
namespace Go.Proofs.Ytefghfgmkndikaa
open Go Go.AX
theorem slT101 : slT Try.prog 101 108 4 40 = true := by kernel_rfl
theorem slT74 : slT Try.prog 74 103 12 128 = true := by kernel_rfl
theorem slT45 : slT Try.prog 45 99 2 32 = true := by kernel_rfl
/-- slices.Insert of one element. -/
theorem insV_ok {lo : Nat} {a : Option Addr} {n c i vb : Nat} {xs news : List Value} (h : Heap) (O : Own lo h 108 4 a n c xs) (hlo : lo ≤ h.size) (hi : i ≤ n) (hb : (n + 1) * 40 ≤ 140737488355328) (V : Blk h vb 108 news) (hnl : news.length = 4)
    (h1x : ∀ v ∈ xs, v.oneCell' = true) (h1n : ∀ v ∈ news, v.oneCell' = true) (hvb : a = none ∨ some vb ≠ ob a) (hlt : n < maxLen) {R : Value → Heap → Prop}
    (hR : ∀ a' c' h', Own lo h' 108 4 a' (n + 1) c' (xs.take (i * 4) ++ news ++ xs.drop (i * 4)) → Gr (ob a) h h' → (ob a' = ob a ∨ ∃ k, ob a' = some k ∧ h.size ≤ k) → R (.slice a' (n + 1) c') h') :
    CallsH Try.prog 115 [.slice a n c, vi i, sl vb 0 1 1] h R := by
  obtain ⟨hr1, hr2⟩ := O.room
  have hxl := O.1
  unfold maxLen at *
  refine f115ok (by simp) ?_
  (try simp (disch := first | exact Nat.le_of_ble_eq_true rfl | omega) only [AXR, AXB, J.dst, reduceIte, Nat.reduceEqDiff, Nat.reduceAdd, Nat.reduceMul, Nat.reduceLT, Nat.reduceLeDiff]); rw [f115c0_eq]; (try simp (disch := first | exact Nat.le_of_ble_eq_true rfl | omega) only [AXR, AXB, J.dst, reduceIte, Nat.reduceEqDiff, Nat.reduceAdd, Nat.reduceMul, Nat.reduceLT, Nat.reduceLeDiff, f115r0]); rw [f115c1_eq]; (try simp (disch := first | exact Nat.le_of_ble_eq_true rfl | omega) only [AXR, AXB, J.dst, reduceIte, Nat.reduceEqDiff, Nat.reduceAdd, Nat.reduceMul, Nat.reduceLT, Nat.reduceLeDiff, f115r1])
  refine slc_lo' (l := i) hi hr1 ?_
  intro a0 _
  (try simp (disch := first | exact Nat.le_of_ble_eq_true rfl | omega) only [AXR, AXB, J.dst, reduceIte, Nat.reduceEqDiff, Nat.reduceAdd, Nat.reduceMul, Nat.reduceLT, Nat.reduceLeDiff]); rw [f115c2_eq]; (try simp (disch := first | exact Nat.le_of_ble_eq_true rfl | omega) only [AXR, AXB, J.dst, reduceIte, Nat.reduceEqDiff, Nat.reduceAdd, Nat.reduceMul, Nat.reduceLT, Nat.reduceLeDiff, f115r2]); rw [f115c3_eq]; (try simp (disch := first | exact Nat.le_of_ble_eq_true rfl | omega) only [AXR, AXB, J.dst, reduceIte, Nat.reduceEqDiff, Nat.reduceAdd, Nat.reduceMul, Nat.reduceLT, Nat.reduceLeDiff, f115r3]); rw [f115c4_eq]; (try simp (disch := first | exact Nat.le_of_ble_eq_true rfl | omega) only [AXR, AXB, J.dst, reduceIte, Nat.reduceEqDiff, Nat.reduceAdd, Nat.reduceMul, Nat.reduceLT, Nat.reduceLeDiff])
  rw [show (((1 : Nat) : Int) == 0) = false from rfl, br_false]
  (try simp (disch := first | exact Nat.le_of_ble_eq_true rfl | omega) only [AXR, AXB, J.dst, reduceIte, Nat.reduceEqDiff, Nat.reduceAdd, Nat.reduceMul, Nat.reduceLT, Nat.reduceLeDiff]); rw [f115c6_eq]; (try simp (disch := first | exact Nat.le_of_ble_eq_true rfl | omega) only [AXR, AXB, J.dst, reduceIte, Nat.reduceEqDiff, Nat.reduceAdd, Nat.reduceMul, Nat.reduceLT, Nat.reduceLeDiff, f115r5]); rw [f115c7_eq]; (try simp (disch := first | exact Nat.le_of_ble_eq_true rfl | omega) only [AXR, AXB, J.dst, reduceIte, Nat.reduceEqDiff, Nat.reduceAdd, Nat.reduceMul, Nat.reduceLT, Nat.reduceLeDiff, f115r6]); rw [f115c8_eq]; (try simp (disch := first | exact Nat.le_of_ble_eq_true rfl | omega) only [AXR, AXB, J.dst, reduceIte, Nat.reduceEqDiff, Nat.reduceAdd, Nat.reduceMul, Nat.reduceLT, Nat.reduceLeDiff])
  refine ⟨fun h1 => ?_, fun h1 => ?_⟩
  · have hin : i = n := by have := eq_of_beq h1; omega
    subst hin
    (try simp (disch := first | exact Nat.le_of_ble_eq_true rfl | omega) only [AXR, AXB, J.dst, reduceIte, Nat.reduceEqDiff, Nat.reduceAdd, Nat.reduceMul, Nat.reduceLT, Nat.reduceLeDiff]); rw [f115c9_eq]; (try simp (disch := first | exact Nat.le_of_ble_eq_true rfl | omega) only [AXR, AXB, J.dst, reduceIte, Nat.reduceEqDiff, Nat.reduceAdd, Nat.reduceMul, Nat.reduceLT, Nat.reduceLeDiff, f115r7])
    rw [wL_raw]
    refine raw_append slT101 rfl rfl rfl O (by omega) (.inr ⟨vb, 0, rfl, V.row⟩) h1n (by unfold maxLen; omega) hb hlo ?_
    intro a' c' h' O' G' A'
    refine ⟨trivial, ?_⟩
    try simp (disch := first | exact Nat.le_of_ble_eq_true rfl | omega) only [AXR, AXB, J.dst, reduceIte, Nat.reduceEqDiff, Nat.reduceAdd, Nat.reduceMul, Nat.reduceLT, Nat.reduceLeDiff]
    refine hR _ _ _ ?_ G' A'
    have e1 : xs.take (i * 4) = xs := List.take_of_length_le (by omega)
    have e2 : xs.drop (i * 4) = [] := List.drop_of_length_le (by omega)
    rw [e1, e2, List.append_nil] at *
    exact O'
  have hin : i < n := by
    have : (i : Int) ≠ n := by simpa using h1
    omega
  obtain ⟨g, cur, rfl, hg, G, hcl, hct⟩ := O.blk (by omega)
  have hvb : vb ≠ g := by
    rcases hvb with hv | hv
    · cases hv
    · exact fun e => hv (by rw [e]; rfl)
  have hw : IntKind.i64.wrap ((n : Int) + ((1 : Nat) : Int)) = ((n + 1 : Nat) : Int) := i64_wrap (by omega) (by omega)
  have hwi : IntKind.i64.wrap ((i : Int) + ((1 : Nat) : Int)) = ((i + 1 : Nat) : Int) := i64_wrap (by omega) (by omega)
  have hwd : IntKind.i64.wrap (((n + 1 : Nat) : Int) - (i : Int)) = ((n + 1 - i : Nat) : Int) := by rw [i64_wrap (by omega) (by omega)]; omega
  (try simp (disch := first | exact Nat.le_of_ble_eq_true rfl | omega) only [AXR, AXB, J.dst, reduceIte, Nat.reduceEqDiff, Nat.reduceAdd, Nat.reduceMul, Nat.reduceLT, Nat.reduceLeDiff]); rw [f115c10_eq]; (try simp (disch := first | exact Nat.le_of_ble_eq_true rfl | omega) only [AXR, AXB, J.dst, reduceIte, Nat.reduceEqDiff, Nat.reduceAdd, Nat.reduceMul, Nat.reduceLT, Nat.reduceLeDiff, f115r8, hw]); rw [f115c11_eq]; (try simp (disch := first | exact Nat.le_of_ble_eq_true rfl | omega) only [AXR, AXB, J.dst, reduceIte, Nat.reduceEqDiff, Nat.reduceAdd, Nat.reduceMul, Nat.reduceLT, Nat.reduceLeDiff, hw])
  refine ⟨fun h2 => ?_, fun h2 => ?_⟩
  · have hroom : c < n + 1 := by have := of_decide_eq_true h2; omega
    (try simp (disch := first | exact Nat.le_of_ble_eq_true rfl | omega) only [AXR, AXB, J.dst, reduceIte, Nat.reduceEqDiff, Nat.reduceAdd, Nat.reduceMul, Nat.reduceLT, Nat.reduceLeDiff]); rw [f115c12_eq]; (try simp (disch := first | exact Nat.le_of_ble_eq_true rfl | omega) only [AXR, AXB, J.dst, reduceIte, Nat.reduceEqDiff, Nat.reduceAdd, Nat.reduceMul, Nat.reduceLT, Nat.reduceLeDiff, f115r9])
    refine slc_hi (u := i) (by omega) ?_
    simp (disch := first | exact Nat.le_of_ble_eq_true rfl | omega) only [AXR, AXB, J.dst, reduceIte, Nat.reduceEqDiff, Nat.reduceAdd, Nat.reduceMul, Nat.reduceLT, Nat.reduceLeDiff, hw, hwd]
    rw [wL_raw]
    have hrow : Row h g 0 (xs.take (i * 4)) := by
      obtain ⟨g', e, _, hr⟩ := O.row (by omega)
      cases e
      have := hr.sub 0 (i * 4)
      simpa using this
    have hsum : i + (n + 1 - i) = n + 1 := by omega
    refine raw_zeros (kn := .i64) slT101 (by kernel_rfl) rfl (k := n + 1 - i) (n := i) rfl rfl hrow (by rw [List.length_take]; omega) (by omega) (by omega) (by unfold maxLen; omega) (by rw [hsum]; exact hb) ?_
    intro h3 c3 zs e3 s3 hc3 hm3 hz3 B3
    rw [hsum] at hc3 ⊢
    unfold maxLen at hm3
    refine ⟨trivial, ?_⟩
    try simp (disch := first | exact Nat.le_of_ble_eq_true rfl | omega) only [AXR, AXB, J.dst, reduceIte, Nat.reduceEqDiff, Nat.reduceAdd, Nat.reduceMul, Nat.reduceLT, Nat.reduceLeDiff]
    (try simp (disch := first | exact Nat.le_of_ble_eq_true rfl | omega) only [AXR, AXB, J.dst, reduceIte, Nat.reduceEqDiff, Nat.reduceAdd, Nat.reduceMul, Nat.reduceLT, Nat.reduceLeDiff]); rw [f115c13_eq]; (try simp (disch := first | exact Nat.le_of_ble_eq_true rfl | omega) only [AXR, AXB, J.dst, reduceIte, Nat.reduceEqDiff, Nat.reduceAdd, Nat.reduceMul, Nat.reduceLT, Nat.reduceLeDiff, f115r10])
    refine slc_lo (l := i) (by omega) (by omega) (by omega) ?_
    try simp (disch := first | exact Nat.le_of_ble_eq_true rfl | omega) only [AXR, AXB, J.dst, reduceIte, Nat.reduceEqDiff, Nat.reduceAdd, Nat.reduceMul, Nat.reduceLT, Nat.reduceLeDiff]
    rw [wL_raw]
    have V3 := V.ext e3
    have hgs := G.lt
    have hvs := V.lt
    have hl3 : (xs.take (i * 4) ++ zs).length = c3 * 4 := by
      rw [List.length_append, List.length_take, hz3]
      omega
    refine raw_copy slT101 rfl rfl rfl B3 (cs := news) (by rw [hnl, Nat.min_eq_left (by omega)]) V3.row (by rw [hl3, hnl]; omega) h1n ?_
    intro h4 u4 B4
    refine ⟨trivial, ?_⟩
    try simp (disch := first | exact Nat.le_of_ble_eq_true rfl | omega) only [AXR, AXB, J.dst, reduceIte, Nat.reduceEqDiff, Nat.reduceAdd, Nat.reduceMul, Nat.reduceLT, Nat.reduceLeDiff]
    (try simp (disch := first | exact Nat.le_of_ble_eq_true rfl | omega) only [AXR, AXB, J.dst, reduceIte, Nat.reduceEqDiff, Nat.reduceAdd, Nat.reduceMul, Nat.reduceLT, Nat.reduceLeDiff]); rw [f115c14_eq]; (try simp (disch := first | exact Nat.le_of_ble_eq_true rfl | omega) only [AXR, AXB, J.dst, reduceIte, Nat.reduceEqDiff, Nat.reduceAdd, Nat.reduceMul, Nat.reduceLT, Nat.reduceLeDiff, f115r11])
    refine ⟨fun _ => False, fun b hb => hb.elim, ?_⟩
    simp (disch := first | exact Nat.le_of_ble_eq_true rfl | omega) only [AXR, AXB, J.dst, reduceIte, Nat.reduceEqDiff, Nat.reduceAdd, Nat.reduceMul, Nat.reduceLT, Nat.reduceLeDiff, f115r11, hwi]
    refine slc_lo (l := i + 1) (by omega) (by omega) (by omega) ?_
    try simp (disch := first | exact Nat.le_of_ble_eq_true rfl | omega) only [AXR, AXB, J.dst, reduceIte, Nat.reduceEqDiff, Nat.reduceAdd, Nat.reduceMul, Nat.reduceLT, Nat.reduceLeDiff]
    refine slc_lo (l := i) (by omega) (by omega) (by omega) ?_
    try simp (disch := first | exact Nat.le_of_ble_eq_true rfl | omega) only [AXR, AXB, J.dst, reduceIte, Nat.reduceEqDiff, Nat.reduceAdd, Nat.reduceMul, Nat.reduceLT, Nat.reduceLeDiff]
    rw [wL_raw]
    have hrow4 : Row h4 g (0 + i * 4) (xs.drop (i * 4)) := by
      obtain ⟨g', e, _, hr⟩ := O.row (by omega)
      cases e
      have := (hr.ext e3).sub (i * 4) (n * 4 - i * 4)
      rw [List.take_of_length_le (by rw [List.length_drop]; omega)] at this
      exact this.at_ (u4.ne g (by omega))
    have hdl : (xs.drop (i * 4)).length = n * 4 - i * 4 := by rw [List.length_drop]; omega
    refine raw_copy slT101 rfl rfl rfl B4 (cs := xs.drop (i * 4)) (by rw [hdl, Nat.min_eq_left (by omega)]; omega) hrow4 ?_ (fun v hv => h1x v (List.mem_of_mem_drop hv)) ?_
    · rw [hdl]
      simp only [List.length_append, List.length_take, List.length_drop, hnl] at hl3 ⊢
      omega
    intro h5 u5 B5
    refine ⟨fun b hb => hb.elim, ?_⟩
    try simp (disch := first | exact Nat.le_of_ble_eq_true rfl | omega) only [AXR, AXB, J.dst, reduceIte, Nat.reduceEqDiff, Nat.reduceAdd, Nat.reduceMul, Nat.reduceLT, Nat.reduceLeDiff]
    (try simp (disch := first | exact Nat.le_of_ble_eq_true rfl | omega) only [AXR, AXB, J.dst, reduceIte, Nat.reduceEqDiff, Nat.reduceAdd, Nat.reduceMul, Nat.reduceLT, Nat.reduceLeDiff]); rw [f115c15_eq]; (try simp (disch := first | exact Nat.le_of_ble_eq_true rfl | omega) only [AXR, AXB, J.dst, reduceIte, Nat.reduceEqDiff, Nat.reduceAdd, Nat.reduceMul, Nat.reduceLT, Nat.reduceLeDiff, f115r12])
    simp only [Nat.zero_add] at B5
    have hcl5 : ∀ {l m : List Value} {p : Nat}, p + m.length ≤ l.length → (l.take p ++ m ++ l.drop (p + m.length)).length = l.length := fun h => by simp; omega
    have hl4 := hcl5 (l := xs.take (i * 4) ++ zs) (m := news) (p := i * 4) (by rw [hl3, hnl]; omega)
    refine hR _ _ _ (Own.of_blk hlo B5 ?_ hc3 (by unfold maxLen; omega) (ins_grow (by omega) hxl hnl ?_)) ((u5.ext (u4.ext e3 (Nat.le_refl _)) (Nat.le_refl _)).gr _) (.inr ⟨_, rfl, Nat.le_refl _⟩)
    · rw [hcl5 (by rw [hl4, hl3, hdl]; omega), hl4, hl3]
    · rw [hz3]; omega
  · have hroom : n + 1 ≤ c := by have := of_decide_eq_false h2; omega
    (try simp (disch := first | exact Nat.le_of_ble_eq_true rfl | omega) only [AXR, AXB, J.dst, reduceIte, Nat.reduceEqDiff, Nat.reduceAdd, Nat.reduceMul, Nat.reduceLT, Nat.reduceLeDiff]); rw [f115c16_eq]; (try simp (disch := first | exact Nat.le_of_ble_eq_true rfl | omega) only [AXR, AXB, J.dst, reduceIte, Nat.reduceEqDiff, Nat.reduceAdd, Nat.reduceMul, Nat.reduceLT, Nat.reduceLeDiff, f115r13, hw])
    refine slc_hi (u := n + 1) (by omega) ?_
    try simp (disch := first | exact Nat.le_of_ble_eq_true rfl | omega) only [AXR, AXB, J.dst, reduceIte, Nat.reduceEqDiff, Nat.reduceAdd, Nat.reduceMul, Nat.reduceLT, Nat.reduceLeDiff]
    (try simp (disch := first | exact Nat.le_of_ble_eq_true rfl | omega) only [AXR, AXB, J.dst, reduceIte, Nat.reduceEqDiff, Nat.reduceAdd, Nat.reduceMul, Nat.reduceLT, Nat.reduceLeDiff]); rw [f115c17_eq]; (try simp (disch := first | exact Nat.le_of_ble_eq_true rfl | omega) only [AXR, AXB, J.dst, reduceIte, Nat.reduceEqDiff, Nat.reduceAdd, Nat.reduceMul, Nat.reduceLT, Nat.reduceLeDiff, f115r14, hwi])
    refine slc_lo (l := i + 1) (by omega) (by omega) (by omega) ?_
    try simp (disch := first | exact Nat.le_of_ble_eq_true rfl | omega) only [AXR, AXB, J.dst, reduceIte, Nat.reduceEqDiff, Nat.reduceAdd, Nat.reduceMul, Nat.reduceLT, Nat.reduceLeDiff]
    rw [wL_raw]
    refine raw_overlaps slT101 rfl Try.func137 (by kernel_rfl) (by kernel_rfl) (by kernel_rfl) (tR := 4) (by kernel_rfl) rfl rfl V G hvb (by omega) ?_
    refine ⟨trivial, ?_⟩
    try simp (disch := first | exact Nat.le_of_ble_eq_true rfl | omega) only [AXR, AXB, J.dst, reduceIte, Nat.reduceEqDiff, Nat.reduceAdd, Nat.reduceMul, Nat.reduceLT, Nat.reduceLeDiff]
    (try simp (disch := first | exact Nat.le_of_ble_eq_true rfl | omega) only [AXR, AXB, J.dst, reduceIte, Nat.reduceEqDiff, Nat.reduceAdd, Nat.reduceMul, Nat.reduceLT, Nat.reduceLeDiff]); rw [f115c18_eq]; (try simp (disch := first | exact Nat.le_of_ble_eq_true rfl | omega) only [AXR, AXB, J.dst, reduceIte, Nat.reduceEqDiff, Nat.reduceAdd, Nat.reduceMul, Nat.reduceLT, Nat.reduceLeDiff])
    (try simp (disch := first | exact Nat.le_of_ble_eq_true rfl | omega) only [AXR, AXB, J.dst, reduceIte, Nat.reduceEqDiff, Nat.reduceAdd, Nat.reduceMul, Nat.reduceLT, Nat.reduceLeDiff]); rw [f115c19_eq]; (try simp (disch := first | exact Nat.le_of_ble_eq_true rfl | omega) only [AXR, AXB, J.dst, reduceIte, Nat.reduceEqDiff, Nat.reduceAdd, Nat.reduceMul, Nat.reduceLT, Nat.reduceLeDiff, f115r15])
    refine ⟨fun _ => False, fun b hb => hb.elim, ?_⟩
    simp (disch := first | exact Nat.le_of_ble_eq_true rfl | omega) only [AXR, AXB, J.dst, reduceIte, Nat.reduceEqDiff, Nat.reduceAdd, Nat.reduceMul, Nat.reduceLT, Nat.reduceLeDiff, f115r15, hwi]
    refine slc_lo (l := i + 1) (by omega) (by omega) (by omega) ?_
    try simp (disch := first | exact Nat.le_of_ble_eq_true rfl | omega) only [AXR, AXB, J.dst, reduceIte, Nat.reduceEqDiff, Nat.reduceAdd, Nat.reduceMul, Nat.reduceLT, Nat.reduceLeDiff]
    refine slc_lo (l := i) (by omega) (by omega) (by omega) ?_
    try simp (disch := first | exact Nat.le_of_ble_eq_true rfl | omega) only [AXR, AXB, J.dst, reduceIte, Nat.reduceEqDiff, Nat.reduceAdd, Nat.reduceMul, Nat.reduceLT, Nat.reduceLeDiff]
    rw [wL_raw]
    have hcx : (cur.take (n * 4)).length = n * 4 := by rw [hct, hxl]
    have hcn : n * 4 ≤ cur.length := by rw [hcl]; omega
    have hrow : Row h g (0 + i * 4) (xs.drop (i * 4)) := by
      obtain ⟨g', e, _, hr⟩ := O.row (by omega)
      cases e
      have := hr.sub (i * 4) (n * 4 - i * 4)
      rw [List.take_of_length_le (by rw [List.length_drop]; omega)] at this
      exact this
    have hdl : (xs.drop (i * 4)).length = n * 4 - i * 4 := by rw [List.length_drop]; omega
    refine raw_copy slT101 rfl rfl rfl G (cs := xs.drop (i * 4)) (by rw [hdl, Nat.min_eq_right (by omega)]; omega) hrow (by rw [hdl, hcl]; omega) (fun v hv => h1x v (List.mem_of_mem_drop hv)) ?_
    intro h3 u3 B3
    refine ⟨fun b hb => hb.elim, ?_⟩
    try simp (disch := first | exact Nat.le_of_ble_eq_true rfl | omega) only [AXR, AXB, J.dst, reduceIte, Nat.reduceEqDiff, Nat.reduceAdd, Nat.reduceMul, Nat.reduceLT, Nat.reduceLeDiff]
    have hcl5 : ∀ {l m : List Value} {p : Nat}, p + m.length ≤ l.length → (l.take p ++ m ++ l.drop (p + m.length)).length = l.length := fun h => by simp; omega
    (try simp (disch := first | exact Nat.le_of_ble_eq_true rfl | omega) only [AXR, AXB, J.dst, reduceIte, Nat.reduceEqDiff, Nat.reduceAdd, Nat.reduceMul, Nat.reduceLT, Nat.reduceLeDiff]); rw [f115c20_eq]; (try simp (disch := first | exact Nat.le_of_ble_eq_true rfl | omega) only [AXR, AXB, J.dst, reduceIte, Nat.reduceEqDiff, Nat.reduceAdd, Nat.reduceMul, Nat.reduceLT, Nat.reduceLeDiff, f115r16])
    refine slc_lo (l := i) (by omega) (by omega) (by omega) ?_
    try simp (disch := first | exact Nat.le_of_ble_eq_true rfl | omega) only [AXR, AXB, J.dst, reduceIte, Nat.reduceEqDiff, Nat.reduceAdd, Nat.reduceMul, Nat.reduceLT, Nat.reduceLeDiff]
    rw [wL_raw]
    have V3 := u3.blk V hvb
    simp only [Nat.zero_add] at B3 ⊢
    have hl3 := hcl5 (l := cur) (m := xs.drop (i * 4)) (p := (i + 1) * 4) (by rw [hdl, hcl]; omega)
    refine raw_copy slT101 rfl rfl rfl B3 (cs := news) (by rw [hnl, Nat.min_eq_left (by omega)]) V3.row (by rw [hl3, hnl, hcl]; omega) h1n ?_
    intro h4 u4 B4
    refine ⟨trivial, ?_⟩
    try simp (disch := first | exact Nat.le_of_ble_eq_true rfl | omega) only [AXR, AXB, J.dst, reduceIte, Nat.reduceEqDiff, Nat.reduceAdd, Nat.reduceMul, Nat.reduceLT, Nat.reduceLeDiff]
    (try simp (disch := first | exact Nat.le_of_ble_eq_true rfl | omega) only [AXR, AXB, J.dst, reduceIte, Nat.reduceEqDiff, Nat.reduceAdd, Nat.reduceMul, Nat.reduceLT, Nat.reduceLeDiff]); rw [f115c21_eq]; (try simp (disch := first | exact Nat.le_of_ble_eq_true rfl | omega) only [AXR, AXB, J.dst, reduceIte, Nat.reduceEqDiff, Nat.reduceAdd, Nat.reduceMul, Nat.reduceLT, Nat.reduceLeDiff, f115r17])
    refine hR _ _ _ (Own.of_blk hg B4 ?_ hroom (by unfold maxLen; omega) (ins_shift hin hroom hcl hct hnl)) (u3.gr.trans u4.gr) (.inl rfl)
    rw [hcl5 (by rw [hl3, hnl, hcl]; omega), hl3, hcl]
end Go.Proofs.Ytefghfgmkndikaa
namespace Go.Proofs.Ytefghfgmkndikaa
open Go Go.AX
/-- slices.Insert of one element. -/
theorem insC_ok {lo : Nat} {a : Option Addr} {n c i vb : Nat} {xs news : List Value} (h : Heap) (O : Own lo h 103 12 a n c xs) (hlo : lo ≤ h.size) (hi : i ≤ n) (hb : (n + 1) * 128 ≤ 140737488355328) (V : Blk h vb 103 news) (hnl : news.length = 12)
    (h1x : ∀ v ∈ xs, v.oneCell' = true) (h1n : ∀ v ∈ news, v.oneCell' = true) (hvb : a = none ∨ some vb ≠ ob a) (hlt : n < maxLen) {R : Value → Heap → Prop}
    (hR : ∀ a' c' h', Own lo h' 103 12 a' (n + 1) c' (xs.take (i * 12) ++ news ++ xs.drop (i * 12)) → Gr (ob a) h h' → (ob a' = ob a ∨ ∃ k, ob a' = some k ∧ h.size ≤ k) → R (.slice a' (n + 1) c') h') :
    CallsH Try.prog 88 [.slice a n c, vi i, sl vb 0 1 1] h R := by
  obtain ⟨hr1, hr2⟩ := O.room
  have hxl := O.1
  unfold maxLen at *
  refine f88ok (by simp) ?_
  (try simp (disch := first | exact Nat.le_of_ble_eq_true rfl | omega) only [AXR, AXB, J.dst, reduceIte, Nat.reduceEqDiff, Nat.reduceAdd, Nat.reduceMul, Nat.reduceLT, Nat.reduceLeDiff]); rw [f88c0_eq]; (try simp (disch := first | exact Nat.le_of_ble_eq_true rfl | omega) only [AXR, AXB, J.dst, reduceIte, Nat.reduceEqDiff, Nat.reduceAdd, Nat.reduceMul, Nat.reduceLT, Nat.reduceLeDiff, f88r0]); rw [f88c1_eq]; (try simp (disch := first | exact Nat.le_of_ble_eq_true rfl | omega) only [AXR, AXB, J.dst, reduceIte, Nat.reduceEqDiff, Nat.reduceAdd, Nat.reduceMul, Nat.reduceLT, Nat.reduceLeDiff, f88r1])
  refine slc_lo' (l := i) hi hr1 ?_
  intro a0 _
  (try simp (disch := first | exact Nat.le_of_ble_eq_true rfl | omega) only [AXR, AXB, J.dst, reduceIte, Nat.reduceEqDiff, Nat.reduceAdd, Nat.reduceMul, Nat.reduceLT, Nat.reduceLeDiff]); rw [f88c2_eq]; (try simp (disch := first | exact Nat.le_of_ble_eq_true rfl | omega) only [AXR, AXB, J.dst, reduceIte, Nat.reduceEqDiff, Nat.reduceAdd, Nat.reduceMul, Nat.reduceLT, Nat.reduceLeDiff, f88r2]); rw [f88c3_eq]; (try simp (disch := first | exact Nat.le_of_ble_eq_true rfl | omega) only [AXR, AXB, J.dst, reduceIte, Nat.reduceEqDiff, Nat.reduceAdd, Nat.reduceMul, Nat.reduceLT, Nat.reduceLeDiff, f88r3]); rw [f88c4_eq]; (try simp (disch := first | exact Nat.le_of_ble_eq_true rfl | omega) only [AXR, AXB, J.dst, reduceIte, Nat.reduceEqDiff, Nat.reduceAdd, Nat.reduceMul, Nat.reduceLT, Nat.reduceLeDiff])
  rw [show (((1 : Nat) : Int) == 0) = false from rfl, br_false]
  (try simp (disch := first | exact Nat.le_of_ble_eq_true rfl | omega) only [AXR, AXB, J.dst, reduceIte, Nat.reduceEqDiff, Nat.reduceAdd, Nat.reduceMul, Nat.reduceLT, Nat.reduceLeDiff]); rw [f88c6_eq]; (try simp (disch := first | exact Nat.le_of_ble_eq_true rfl | omega) only [AXR, AXB, J.dst, reduceIte, Nat.reduceEqDiff, Nat.reduceAdd, Nat.reduceMul, Nat.reduceLT, Nat.reduceLeDiff, f88r5]); rw [f88c7_eq]; (try simp (disch := first | exact Nat.le_of_ble_eq_true rfl | omega) only [AXR, AXB, J.dst, reduceIte, Nat.reduceEqDiff, Nat.reduceAdd, Nat.reduceMul, Nat.reduceLT, Nat.reduceLeDiff, f88r6]); rw [f88c8_eq]; (try simp (disch := first | exact Nat.le_of_ble_eq_true rfl | omega) only [AXR, AXB, J.dst, reduceIte, Nat.reduceEqDiff, Nat.reduceAdd, Nat.reduceMul, Nat.reduceLT, Nat.reduceLeDiff])
  refine ⟨fun h1 => ?_, fun h1 => ?_⟩
  · have hin : i = n := by have := eq_of_beq h1; omega
    subst hin
    (try simp (disch := first | exact Nat.le_of_ble_eq_true rfl | omega) only [AXR, AXB, J.dst, reduceIte, Nat.reduceEqDiff, Nat.reduceAdd, Nat.reduceMul, Nat.reduceLT, Nat.reduceLeDiff]); rw [f88c9_eq]; (try simp (disch := first | exact Nat.le_of_ble_eq_true rfl | omega) only [AXR, AXB, J.dst, reduceIte, Nat.reduceEqDiff, Nat.reduceAdd, Nat.reduceMul, Nat.reduceLT, Nat.reduceLeDiff, f88r7])
    rw [wL_raw]
    refine raw_append slT74 rfl rfl rfl O (by omega) (.inr ⟨vb, 0, rfl, V.row⟩) h1n (by unfold maxLen; omega) hb hlo ?_
    intro a' c' h' O' G' A'
    refine ⟨trivial, ?_⟩
    try simp (disch := first | exact Nat.le_of_ble_eq_true rfl | omega) only [AXR, AXB, J.dst, reduceIte, Nat.reduceEqDiff, Nat.reduceAdd, Nat.reduceMul, Nat.reduceLT, Nat.reduceLeDiff]
    refine hR _ _ _ ?_ G' A'
    have e1 : xs.take (i * 12) = xs := List.take_of_length_le (by omega)
    have e2 : xs.drop (i * 12) = [] := List.drop_of_length_le (by omega)
    rw [e1, e2, List.append_nil] at *
    exact O'
  have hin : i < n := by
    have : (i : Int) ≠ n := by simpa using h1
    omega
  obtain ⟨g, cur, rfl, hg, G, hcl, hct⟩ := O.blk (by omega)
  have hvb : vb ≠ g := by
    rcases hvb with hv | hv
    · cases hv
    · exact fun e => hv (by rw [e]; rfl)
  have hw : IntKind.i64.wrap ((n : Int) + ((1 : Nat) : Int)) = ((n + 1 : Nat) : Int) := i64_wrap (by omega) (by omega)
  have hwi : IntKind.i64.wrap ((i : Int) + ((1 : Nat) : Int)) = ((i + 1 : Nat) : Int) := i64_wrap (by omega) (by omega)
  have hwd : IntKind.i64.wrap (((n + 1 : Nat) : Int) - (i : Int)) = ((n + 1 - i : Nat) : Int) := by rw [i64_wrap (by omega) (by omega)]; omega
  (try simp (disch := first | exact Nat.le_of_ble_eq_true rfl | omega) only [AXR, AXB, J.dst, reduceIte, Nat.reduceEqDiff, Nat.reduceAdd, Nat.reduceMul, Nat.reduceLT, Nat.reduceLeDiff]); rw [f88c10_eq]; (try simp (disch := first | exact Nat.le_of_ble_eq_true rfl | omega) only [AXR, AXB, J.dst, reduceIte, Nat.reduceEqDiff, Nat.reduceAdd, Nat.reduceMul, Nat.reduceLT, Nat.reduceLeDiff, f88r8, hw]); rw [f88c11_eq]; (try simp (disch := first | exact Nat.le_of_ble_eq_true rfl | omega) only [AXR, AXB, J.dst, reduceIte, Nat.reduceEqDiff, Nat.reduceAdd, Nat.reduceMul, Nat.reduceLT, Nat.reduceLeDiff, hw])
  refine ⟨fun h2 => ?_, fun h2 => ?_⟩
  · have hroom : c < n + 1 := by have := of_decide_eq_true h2; omega
    (try simp (disch := first | exact Nat.le_of_ble_eq_true rfl | omega) only [AXR, AXB, J.dst, reduceIte, Nat.reduceEqDiff, Nat.reduceAdd, Nat.reduceMul, Nat.reduceLT, Nat.reduceLeDiff]); rw [f88c12_eq]; (try simp (disch := first | exact Nat.le_of_ble_eq_true rfl | omega) only [AXR, AXB, J.dst, reduceIte, Nat.reduceEqDiff, Nat.reduceAdd, Nat.reduceMul, Nat.reduceLT, Nat.reduceLeDiff, f88r9])
    refine slc_hi (u := i) (by omega) ?_
    simp (disch := first | exact Nat.le_of_ble_eq_true rfl | omega) only [AXR, AXB, J.dst, reduceIte, Nat.reduceEqDiff, Nat.reduceAdd, Nat.reduceMul, Nat.reduceLT, Nat.reduceLeDiff, hw, hwd]
    rw [wL_raw]
    have hrow : Row h g 0 (xs.take (i * 12)) := by
      obtain ⟨g', e, _, hr⟩ := O.row (by omega)
      cases e
      have := hr.sub 0 (i * 12)
      simpa using this
    have hsum : i + (n + 1 - i) = n + 1 := by omega
    refine raw_zeros (kn := .i64) slT74 (by kernel_rfl) rfl (k := n + 1 - i) (n := i) rfl rfl hrow (by rw [List.length_take]; omega) (by omega) (by omega) (by unfold maxLen; omega) (by rw [hsum]; exact hb) ?_
    intro h3 c3 zs e3 s3 hc3 hm3 hz3 B3
    rw [hsum] at hc3 ⊢
    unfold maxLen at hm3
    refine ⟨trivial, ?_⟩
    try simp (disch := first | exact Nat.le_of_ble_eq_true rfl | omega) only [AXR, AXB, J.dst, reduceIte, Nat.reduceEqDiff, Nat.reduceAdd, Nat.reduceMul, Nat.reduceLT, Nat.reduceLeDiff]
    (try simp (disch := first | exact Nat.le_of_ble_eq_true rfl | omega) only [AXR, AXB, J.dst, reduceIte, Nat.reduceEqDiff, Nat.reduceAdd, Nat.reduceMul, Nat.reduceLT, Nat.reduceLeDiff]); rw [f88c13_eq]; (try simp (disch := first | exact Nat.le_of_ble_eq_true rfl | omega) only [AXR, AXB, J.dst, reduceIte, Nat.reduceEqDiff, Nat.reduceAdd, Nat.reduceMul, Nat.reduceLT, Nat.reduceLeDiff, f88r10])
    refine slc_lo (l := i) (by omega) (by omega) (by omega) ?_
    try simp (disch := first | exact Nat.le_of_ble_eq_true rfl | omega) only [AXR, AXB, J.dst, reduceIte, Nat.reduceEqDiff, Nat.reduceAdd, Nat.reduceMul, Nat.reduceLT, Nat.reduceLeDiff]
    rw [wL_raw]
    have V3 := V.ext e3
    have hgs := G.lt
    have hvs := V.lt
    have hl3 : (xs.take (i * 12) ++ zs).length = c3 * 12 := by
      rw [List.length_append, List.length_take, hz3]
      omega
    refine raw_copy slT74 rfl rfl rfl B3 (cs := news) (by rw [hnl, Nat.min_eq_left (by omega)]) V3.row (by rw [hl3, hnl]; omega) h1n ?_
    intro h4 u4 B4
    refine ⟨trivial, ?_⟩
    try simp (disch := first | exact Nat.le_of_ble_eq_true rfl | omega) only [AXR, AXB, J.dst, reduceIte, Nat.reduceEqDiff, Nat.reduceAdd, Nat.reduceMul, Nat.reduceLT, Nat.reduceLeDiff]
    (try simp (disch := first | exact Nat.le_of_ble_eq_true rfl | omega) only [AXR, AXB, J.dst, reduceIte, Nat.reduceEqDiff, Nat.reduceAdd, Nat.reduceMul, Nat.reduceLT, Nat.reduceLeDiff]); rw [f88c14_eq]; (try simp (disch := first | exact Nat.le_of_ble_eq_true rfl | omega) only [AXR, AXB, J.dst, reduceIte, Nat.reduceEqDiff, Nat.reduceAdd, Nat.reduceMul, Nat.reduceLT, Nat.reduceLeDiff, f88r11])
    refine ⟨fun _ => False, fun b hb => hb.elim, ?_⟩
    simp (disch := first | exact Nat.le_of_ble_eq_true rfl | omega) only [AXR, AXB, J.dst, reduceIte, Nat.reduceEqDiff, Nat.reduceAdd, Nat.reduceMul, Nat.reduceLT, Nat.reduceLeDiff, f88r11, hwi]
    refine slc_lo (l := i + 1) (by omega) (by omega) (by omega) ?_
    try simp (disch := first | exact Nat.le_of_ble_eq_true rfl | omega) only [AXR, AXB, J.dst, reduceIte, Nat.reduceEqDiff, Nat.reduceAdd, Nat.reduceMul, Nat.reduceLT, Nat.reduceLeDiff]
    refine slc_lo (l := i) (by omega) (by omega) (by omega) ?_
    try simp (disch := first | exact Nat.le_of_ble_eq_true rfl | omega) only [AXR, AXB, J.dst, reduceIte, Nat.reduceEqDiff, Nat.reduceAdd, Nat.reduceMul, Nat.reduceLT, Nat.reduceLeDiff]
    rw [wL_raw]
    have hrow4 : Row h4 g (0 + i * 12) (xs.drop (i * 12)) := by
      obtain ⟨g', e, _, hr⟩ := O.row (by omega)
      cases e
      have := (hr.ext e3).sub (i * 12) (n * 12 - i * 12)
      rw [List.take_of_length_le (by rw [List.length_drop]; omega)] at this
      exact this.at_ (u4.ne g (by omega))
    have hdl : (xs.drop (i * 12)).length = n * 12 - i * 12 := by rw [List.length_drop]; omega
    refine raw_copy slT74 rfl rfl rfl B4 (cs := xs.drop (i * 12)) (by rw [hdl, Nat.min_eq_left (by omega)]; omega) hrow4 ?_ (fun v hv => h1x v (List.mem_of_mem_drop hv)) ?_
    · rw [hdl]
      simp only [List.length_append, List.length_take, List.length_drop, hnl] at hl3 ⊢
      omega
    intro h5 u5 B5
    refine ⟨fun b hb => hb.elim, ?_⟩
    try simp (disch := first | exact Nat.le_of_ble_eq_true rfl | omega) only [AXR, AXB, J.dst, reduceIte, Nat.reduceEqDiff, Nat.reduceAdd, Nat.reduceMul, Nat.reduceLT, Nat.reduceLeDiff]
    (try simp (disch := first | exact Nat.le_of_ble_eq_true rfl | omega) only [AXR, AXB, J.dst, reduceIte, Nat.reduceEqDiff, Nat.reduceAdd, Nat.reduceMul, Nat.reduceLT, Nat.reduceLeDiff]); rw [f88c15_eq]; (try simp (disch := first | exact Nat.le_of_ble_eq_true rfl | omega) only [AXR, AXB, J.dst, reduceIte, Nat.reduceEqDiff, Nat.reduceAdd, Nat.reduceMul, Nat.reduceLT, Nat.reduceLeDiff, f88r12])
    simp only [Nat.zero_add] at B5
    have hcl5 : ∀ {l m : List Value} {p : Nat}, p + m.length ≤ l.length → (l.take p ++ m ++ l.drop (p + m.length)).length = l.length := fun h => by simp; omega
    have hl4 := hcl5 (l := xs.take (i * 12) ++ zs) (m := news) (p := i * 12) (by rw [hl3, hnl]; omega)
    refine hR _ _ _ (Own.of_blk hlo B5 ?_ hc3 (by unfold maxLen; omega) (ins_grow (by omega) hxl hnl ?_)) ((u5.ext (u4.ext e3 (Nat.le_refl _)) (Nat.le_refl _)).gr _) (.inr ⟨_, rfl, Nat.le_refl _⟩)
    · rw [hcl5 (by rw [hl4, hl3, hdl]; omega), hl4, hl3]
    · rw [hz3]; omega
  · have hroom : n + 1 ≤ c := by have := of_decide_eq_false h2; omega
    (try simp (disch := first | exact Nat.le_of_ble_eq_true rfl | omega) only [AXR, AXB, J.dst, reduceIte, Nat.reduceEqDiff, Nat.reduceAdd, Nat.reduceMul, Nat.reduceLT, Nat.reduceLeDiff]); rw [f88c16_eq]; (try simp (disch := first | exact Nat.le_of_ble_eq_true rfl | omega) only [AXR, AXB, J.dst, reduceIte, Nat.reduceEqDiff, Nat.reduceAdd, Nat.reduceMul, Nat.reduceLT, Nat.reduceLeDiff, f88r13, hw])
    refine slc_hi (u := n + 1) (by omega) ?_
    try simp (disch := first | exact Nat.le_of_ble_eq_true rfl | omega) only [AXR, AXB, J.dst, reduceIte, Nat.reduceEqDiff, Nat.reduceAdd, Nat.reduceMul, Nat.reduceLT, Nat.reduceLeDiff]
    (try simp (disch := first | exact Nat.le_of_ble_eq_true rfl | omega) only [AXR, AXB, J.dst, reduceIte, Nat.reduceEqDiff, Nat.reduceAdd, Nat.reduceMul, Nat.reduceLT, Nat.reduceLeDiff]); rw [f88c17_eq]; (try simp (disch := first | exact Nat.le_of_ble_eq_true rfl | omega) only [AXR, AXB, J.dst, reduceIte, Nat.reduceEqDiff, Nat.reduceAdd, Nat.reduceMul, Nat.reduceLT, Nat.reduceLeDiff, f88r14, hwi])
    refine slc_lo (l := i + 1) (by omega) (by omega) (by omega) ?_
    try simp (disch := first | exact Nat.le_of_ble_eq_true rfl | omega) only [AXR, AXB, J.dst, reduceIte, Nat.reduceEqDiff, Nat.reduceAdd, Nat.reduceMul, Nat.reduceLT, Nat.reduceLeDiff]
    rw [wL_raw]
    refine raw_overlaps slT74 rfl Try.func119 (by kernel_rfl) (by kernel_rfl) (by kernel_rfl) (tR := 4) (by kernel_rfl) rfl rfl V G hvb (by omega) ?_
    refine ⟨trivial, ?_⟩
    try simp (disch := first | exact Nat.le_of_ble_eq_true rfl | omega) only [AXR, AXB, J.dst, reduceIte, Nat.reduceEqDiff, Nat.reduceAdd, Nat.reduceMul, Nat.reduceLT, Nat.reduceLeDiff]
    (try simp (disch := first | exact Nat.le_of_ble_eq_true rfl | omega) only [AXR, AXB, J.dst, reduceIte, Nat.reduceEqDiff, Nat.reduceAdd, Nat.reduceMul, Nat.reduceLT, Nat.reduceLeDiff]); rw [f88c18_eq]; (try simp (disch := first | exact Nat.le_of_ble_eq_true rfl | omega) only [AXR, AXB, J.dst, reduceIte, Nat.reduceEqDiff, Nat.reduceAdd, Nat.reduceMul, Nat.reduceLT, Nat.reduceLeDiff])
    (try simp (disch := first | exact Nat.le_of_ble_eq_true rfl | omega) only [AXR, AXB, J.dst, reduceIte, Nat.reduceEqDiff, Nat.reduceAdd, Nat.reduceMul, Nat.reduceLT, Nat.reduceLeDiff]); rw [f88c19_eq]; (try simp (disch := first | exact Nat.le_of_ble_eq_true rfl | omega) only [AXR, AXB, J.dst, reduceIte, Nat.reduceEqDiff, Nat.reduceAdd, Nat.reduceMul, Nat.reduceLT, Nat.reduceLeDiff, f88r15])
    refine ⟨fun _ => False, fun b hb => hb.elim, ?_⟩
    simp (disch := first | exact Nat.le_of_ble_eq_true rfl | omega) only [AXR, AXB, J.dst, reduceIte, Nat.reduceEqDiff, Nat.reduceAdd, Nat.reduceMul, Nat.reduceLT, Nat.reduceLeDiff, f88r15, hwi]
    refine slc_lo (l := i + 1) (by omega) (by omega) (by omega) ?_
    try simp (disch := first | exact Nat.le_of_ble_eq_true rfl | omega) only [AXR, AXB, J.dst, reduceIte, Nat.reduceEqDiff, Nat.reduceAdd, Nat.reduceMul, Nat.reduceLT, Nat.reduceLeDiff]
    refine slc_lo (l := i) (by omega) (by omega) (by omega) ?_
    try simp (disch := first | exact Nat.le_of_ble_eq_true rfl | omega) only [AXR, AXB, J.dst, reduceIte, Nat.reduceEqDiff, Nat.reduceAdd, Nat.reduceMul, Nat.reduceLT, Nat.reduceLeDiff]
    rw [wL_raw]
    have hcx : (cur.take (n * 12)).length = n * 12 := by rw [hct, hxl]
    have hcn : n * 12 ≤ cur.length := by rw [hcl]; omega
    have hrow : Row h g (0 + i * 12) (xs.drop (i * 12)) := by
      obtain ⟨g', e, _, hr⟩ := O.row (by omega)
      cases e
      have := hr.sub (i * 12) (n * 12 - i * 12)
      rw [List.take_of_length_le (by rw [List.length_drop]; omega)] at this
      exact this
    have hdl : (xs.drop (i * 12)).length = n * 12 - i * 12 := by rw [List.length_drop]; omega
    refine raw_copy slT74 rfl rfl rfl G (cs := xs.drop (i * 12)) (by rw [hdl, Nat.min_eq_right (by omega)]; omega) hrow (by rw [hdl, hcl]; omega) (fun v hv => h1x v (List.mem_of_mem_drop hv)) ?_
    intro h3 u3 B3
    refine ⟨fun b hb => hb.elim, ?_⟩
    try simp (disch := first | exact Nat.le_of_ble_eq_true rfl | omega) only [AXR, AXB, J.dst, reduceIte, Nat.reduceEqDiff, Nat.reduceAdd, Nat.reduceMul, Nat.reduceLT, Nat.reduceLeDiff]
    have hcl5 : ∀ {l m : List Value} {p : Nat}, p + m.length ≤ l.length → (l.take p ++ m ++ l.drop (p + m.length)).length = l.length := fun h => by simp; omega
    (try simp (disch := first | exact Nat.le_of_ble_eq_true rfl | omega) only [AXR, AXB, J.dst, reduceIte, Nat.reduceEqDiff, Nat.reduceAdd, Nat.reduceMul, Nat.reduceLT, Nat.reduceLeDiff]); rw [f88c20_eq]; (try simp (disch := first | exact Nat.le_of_ble_eq_true rfl | omega) only [AXR, AXB, J.dst, reduceIte, Nat.reduceEqDiff, Nat.reduceAdd, Nat.reduceMul, Nat.reduceLT, Nat.reduceLeDiff, f88r16])
    refine slc_lo (l := i) (by omega) (by omega) (by omega) ?_
    try simp (disch := first | exact Nat.le_of_ble_eq_true rfl | omega) only [AXR, AXB, J.dst, reduceIte, Nat.reduceEqDiff, Nat.reduceAdd, Nat.reduceMul, Nat.reduceLT, Nat.reduceLeDiff]
    rw [wL_raw]
    have V3 := u3.blk V hvb
    simp only [Nat.zero_add] at B3 ⊢
    have hl3 := hcl5 (l := cur) (m := xs.drop (i * 12)) (p := (i + 1) * 12) (by rw [hdl, hcl]; omega)
    refine raw_copy slT74 rfl rfl rfl B3 (cs := news) (by rw [hnl, Nat.min_eq_left (by omega)]) V3.row (by rw [hl3, hnl, hcl]; omega) h1n ?_
    intro h4 u4 B4
    refine ⟨trivial, ?_⟩
    try simp (disch := first | exact Nat.le_of_ble_eq_true rfl | omega) only [AXR, AXB, J.dst, reduceIte, Nat.reduceEqDiff, Nat.reduceAdd, Nat.reduceMul, Nat.reduceLT, Nat.reduceLeDiff]
    (try simp (disch := first | exact Nat.le_of_ble_eq_true rfl | omega) only [AXR, AXB, J.dst, reduceIte, Nat.reduceEqDiff, Nat.reduceAdd, Nat.reduceMul, Nat.reduceLT, Nat.reduceLeDiff]); rw [f88c21_eq]; (try simp (disch := first | exact Nat.le_of_ble_eq_true rfl | omega) only [AXR, AXB, J.dst, reduceIte, Nat.reduceEqDiff, Nat.reduceAdd, Nat.reduceMul, Nat.reduceLT, Nat.reduceLeDiff, f88r17])
    refine hR _ _ _ (Own.of_blk hg B4 ?_ hroom (by unfold maxLen; omega) (ins_shift hin hroom hcl hct hnl)) (u3.gr.trans u4.gr) (.inl rfl)
    rw [hcl5 (by rw [hl3, hnl, hcl]; omega), hl3, hcl]
end Go.Proofs.Ytefghfgmkndikaa
namespace Go.AX
open Go
/-- The cell c lies as v, its versions in a row of the call's own. -/
structure OC (lo : Nat) (h : Heap) (v : CV) (c : Cell) : Prop where
  key : v.key = c.key
  locked : v.locked = c.locked
  lock : v.lock = c.lock
  vn : v.vn = c.vers.length
  vers : Own lo h 108 4 v.va v.vn v.vc (c.vers.flatMap eVer)
theorem OC.cr {lo : Nat} {h : Heap} {v : CV} {c : Cell} (r : OC lo h v c) : CR (fun b => lo ≤ b ∧ b < h.size ∧ ob v.va = some b) h v c := ⟨r.key, r.locked, r.lock, r.vn, r.vers.room.1, SlF.of_own r.vers r.vn⟩
theorem OC.ext {lo : Nat} {h h' : Heap} {v : CV} {c : Cell} (r : OC lo h v c) (x : Ext h h') : OC lo h' v c := ⟨r.key, r.locked, r.lock, r.vn, r.vers.ext x⟩
theorem OC.mono {lo lo' : Nat} {h : Heap} {v : CV} {c : Cell} (r : OC lo h v c) (x : lo' ≤ lo) : OC lo' h v c := ⟨r.key, r.locked, r.lock, r.vn, r.vers.mono x⟩
/-- A slice of cells in a row of the call's own, the versions' rows apart from it. -/
def OwnC (lo : Nat) (h : Heap) (a : Option Addr) (n c : Nat) (cs : List Cell) : Prop :=
  ∃ vs, Own lo h 103 12 a n c (vs.flatMap eCV) ∧ n = cs.length ∧ All2 (CR (fun b => lo ≤ b ∧ b < h.size ∧ some b ≠ ob a) h) vs cs
theorem OwnC.nil (lo : Nat) (h : Heap) : OwnC lo h none 0 0 [] := ⟨[], Own.nil _ _ _ _, rfl, .nil⟩
theorem SlF.to {α : Type} {B B' : Nat → Prop} {h h' : Heap} {e : α → List Value} {a : Option Addr} {ds : List α} (S : SlF B h e a ds) (H : ∀ b, B b → B' b ∧ h'[b]? = h[b]?) : SlF B' h' e a ds :=
  fun hn => let ⟨b, o, h1, h2, h3⟩ := S hn; ⟨b, o, h1, (H b h2).1, h3.at_ (H b h2).2⟩
theorem CR.to {B B' : Nat → Prop} {h h' : Heap} {v : CV} {c : Cell} (r : CR B h v c) (H : ∀ b, B b → B' b ∧ h'[b]? = h[b]?) : CR B' h' v c := ⟨r.key, r.locked, r.lock, r.vn, r.cap, r.vers.to H⟩
theorem OwnC.ext {lo : Nat} {h h' : Heap} {a : Option Addr} {n c : Nat} {cs : List Cell} (O : OwnC lo h a n c cs) (x : Ext h h') : OwnC lo h' a n c cs := by
  obtain ⟨vs, h1, h2, h3⟩ := O
  exact ⟨vs, h1.ext x, h2, h3.imp fun _ _ r => r.to fun b hb => ⟨⟨hb.1, Nat.lt_of_lt_of_le hb.2.1 x.size, hb.2.2⟩, x.at_ b hb.2.1⟩⟩
theorem OwnC.row {lo : Nat} {h : Heap} {a : Option Addr} {n c : Nat} {cs : List Cell} (O : OwnC lo h a n c cs) : ∀ k, ob a = some k → lo ≤ k ∧ k < h.size := by
  obtain ⟨vs, h1, _⟩ := O
  exact h1.ob
/-- As a slice of cells. -/
theorem OwnC.slc {lo : Nat} {h : Heap} {a : Option Addr} {n c : Nat} {cs : List Cell} (O : OwnC lo h a n c cs) : SlC (fun b => lo ≤ b ∧ b < h.size) h a cs := by
  obtain ⟨vs, h1, h2, h3⟩ := O
  exact ⟨vs, h3.imp fun _ _ r => r.imp fun b hb => ⟨hb.1, hb.2.1⟩, (SlF.of_own h1 (by rw [h2, h3.length])).imp fun b hb => ⟨hb.1, hb.2.1⟩⟩
/-- One more. -/
theorem OwnC.push {lo : Nat} {h h' : Heap} {a a' : Option Addr} {n c' : Nat} {cs : List Cell} {v : CV} {x : Cell} {vs : List CV} (h2 : n = cs.length) (h3 : All2 (CR (fun b => lo ≤ b ∧ b < h.size ∧ some b ≠ ob a) h) vs cs)
    (r : CR (fun b => lo ≤ b ∧ b < h.size ∧ some b ≠ ob a) h v x) (O : Own lo h' 103 12 a' (n + 1) c' (vs.flatMap eCV ++ eCV v)) (G : Gr (ob a) h h') (A : ob a' = ob a ∨ ∃ k, ob a' = some k ∧ h.size ≤ k) : OwnC lo h' a' (n + 1) c' (cs ++ [x]) := by
  have hto : ∀ b, (lo ≤ b ∧ b < h.size ∧ some b ≠ ob a) → (lo ≤ b ∧ b < h'.size ∧ some b ≠ ob a') ∧ h'[b]? = h[b]? := by
    rintro b ⟨b1, b2, b3⟩
    refine ⟨⟨b1, Nat.lt_of_lt_of_le b2 G.size, ?_⟩, G.at_ b b2 b3⟩
    rcases A with e | ⟨k, e, hk⟩
    · rw [e]; exact b3
    · rw [e]; intro e'; cases e'; omega
  refine ⟨vs ++ [v], ?_, by simp [h2], (h3.imp fun _ _ r => r.to hto).append (.cons (r.to hto) .nil)⟩
  rw [List.flatMap_append]
  simpa using O
end Go.AX
namespace Go.Proofs.Ytefghfgmkndikaa
open Go Go.AX
/-- Few enough. -/
def big : Nat := 1000000
/-- A cell is appended. -/
theorem raw_push {o : Oper} {σ : Env} {h : Heap} {K : Value → Heap → Prop} {x y : Operand} (ho : o.op = .call ⟨.builtin .append, #[x, y], #[74, 74]⟩) {a : Option Addr} {n c lo b : Nat} {cs : List Cell} {v : CV} {z : Cell}
    (hx : evO σ x = some (.slice a n c)) (hy : evO σ y = some (sl b 0 1 1)) (O : OwnC lo h a n c cs) (B : Blk h b 103 (eCV v)) (r : CR (fun b => lo ≤ b ∧ b < h.size ∧ some b ≠ ob a) h v z) (hn : n < big) (hlo : lo ≤ h.size)
    (H : ∀ a' c' h', OwnC lo h' a' (n + 1) c' (cs ++ [z]) → Gr (ob a) h h' → (ob a' = ob a ∨ ∃ k, ob a' = some k ∧ h.size ≤ k) → K (.slice a' (n + 1) c') h') : RawW Try.prog o σ h K := by
  obtain ⟨vs, h1, h2, h3⟩ := O
  have hbig : big = 1000000 := rfl
  refine raw_append slT74 ho hx hy h1 (news := eCV v) (by rw [eCV_len]) (.inr ⟨b, 0, rfl, B.row⟩) (eCV_one v) (by unfold maxLen; omega) (by omega) hlo ?_
  intro a' c' h' O' G A
  exact H a' c' h' (OwnC.push h2 h3 r O' G A) G A
theorem clone_ok {B : Nat → Prop} {a : Option Addr} {c : Nat} (vs : List Ver) (h : Heap) (S : SlF B h eVer a vs) (hn : vs.length ≤ big) {R : Value → Heap → Prop}
    (hR : ∀ a' c' h', Own h.size h' 108 4 a' vs.length c' (vs.flatMap eVer) → Ext h h' → R (.slice a' vs.length c') h') : CallsH Try.prog 114 [.slice a vs.length c] h R := by
  unfold big at hn
  refine f114ok (by simp) ?_
  simp (disch := first | exact Nat.le_of_ble_eq_true rfl | omega) only [AXR, AXB, J.dst, reduceIte, Nat.reduceEqDiff, Nat.reduceAdd, Nat.reduceMul, Nat.reduceLT, Nat.reduceLeDiff, f114r0, f114r1, f114r2, f114r3, f114c3_eq, f114c4_eq, f114c2_eq, f114c1_eq, f114c0_eq]
  cases a with
  | none =>
    have hv : vs = [] := by
      cases vs with
      | nil => rfl
      | cons v vs => obtain ⟨b, o, h1, _⟩ := S (by simp); cases h1
    subst hv
    rw [show eqN true false (.slice none ([] : List Ver).length c) (.slice none 0 0) = some (.bool true) from rfl]
    simp (disch := first | exact Nat.le_of_ble_eq_true rfl | omega) only [AXR, AXB, J.dst, reduceIte, Nat.reduceEqDiff, Nat.reduceAdd, Nat.reduceMul, Nat.reduceLT, Nat.reduceLeDiff, br_true]
    exact hR none 0 h (Own.nil _ _ _ _) (Ext.refl h)
  | some ad =>
    rw [show eqN true false (.slice (some ad) vs.length c) (.slice none 0 0) = some (.bool false) from rfl]
    simp (disch := first | exact Nat.le_of_ble_eq_true rfl | omega) only [AXR, AXB, J.dst, reduceIte, Nat.reduceEqDiff, Nat.reduceAdd, Nat.reduceMul, Nat.reduceLT, Nat.reduceLeDiff, br_false]
    refine wL_bslN rfl ?_; intro b1 h1 e1 s1 hb1 B1
    simp (disch := first | exact Nat.le_of_ble_eq_true rfl | omega) only [AXR, AXB, J.dst, reduceIte, Nat.reduceEqDiff, Nat.reduceAdd, Nat.reduceMul, Nat.reduceLT, Nat.reduceLeDiff]
    rw [wL_raw]
    have O1 : Own h.size h1 108 4 (some ⟨b1, 0, none⟩) 0 0 [] := Own.of_blk (by omega) B1 (by simp) (Nat.le_refl _) (Nat.zero_le _) (by simp)
    have hfl := flatMap_length eVer_len vs
    refine raw_append slT101 rfl rfl rfl O1 hfl ?_ (one_flatMap eVer_one vs) (by unfold maxLen; omega) (by omega) e1.size ?_
    · by_cases hv : vs = []
      · left; rw [hv]; rfl
      · obtain ⟨b, o, h1', _, h3⟩ := (S.ext e1) hv
        cases h1'
        exact .inr ⟨b, o, rfl, h3⟩
    · intro a' c' h' O' G A
      refine ⟨trivial, ?_⟩
      try simp (disch := first | exact Nat.le_of_ble_eq_true rfl | omega) only [AXR, AXB, J.dst, reduceIte, Nat.reduceEqDiff, Nat.reduceAdd, Nat.reduceMul, Nat.reduceLT, Nat.reduceLeDiff]
      simp only [Nat.zero_add, List.nil_append] at O' ⊢
      exact hR _ _ _ O' (G.ext e1 (fun k hk => by cases hk; show h.size ≤ b1; omega))
theorem own_ok {B : Nat → Prop} (x : CV) (c : Cell) (h : Heap) (S : CR B h x c) (hn : c.vers.length ≤ big) {R : Value → Heap → Prop}
    (hR : ∀ x' h', OC h.size h' x' c → Ext h h' → R (.agg (eCV x').toArray) h') : CallsH Try.prog 84 [.agg (eCV x).toArray] h R := by
  refine f84ok (by simp) ?_
  simp (disch := first | exact Nat.le_of_ble_eq_true rfl | omega) only [AXR, AXB, J.dst, reduceIte, Nat.reduceEqDiff, Nat.reduceAdd, Nat.reduceMul, Nat.reduceLT, Nat.reduceLeDiff, f84r0, f84r1, f84r2, f84c2_eq, f84c1_eq, f84c0_eq]
  refine wL_boxN rfl ?_; rintro b1 h1 e1 s1 hb1 (B1 : Blk _ _ _ (eCV x))
  refine wL_newN ?_; rintro b2 h2 e2 s2 hb2 B2
  have B1 := B1.ext e2
  simp (disch := first | exact Nat.le_of_ble_eq_true rfl | omega) only [AXR, AXB, J.dst, reduceIte, Nat.reduceEqDiff, Nat.reduceAdd, Nat.reduceMul, Nat.reduceLT, Nat.reduceLeDiff, f84r0, f84r1, f84r2, f84c2_eq, f84c1_eq, f84c0_eq, B1.cel, eCV, S.vn]
  refine clone_ok c.vers _ (S.vers.ext (e1.trans e2)) hn ?_
  intro a' c' h3 O3 e3
  try simp (disch := first | exact Nat.le_of_ble_eq_true rfl | omega) only [AXR, AXB, J.dst, reduceIte, Nat.reduceEqDiff, Nat.reduceAdd, Nat.reduceMul, Nat.reduceLT, Nat.reduceLeDiff, f84r0, f84r1, f84r2, f84c2_eq, f84c1_eq, f84c0_eq]
  replace B1 := B1.ext e3
  replace B2 := B2.ext e3
  have hl3 := O3.ob
  have e12 := e1.trans e2
  refine wL_stN rfl rfl rfl B1 (by rw [eCV_len]; exact Nat.le_of_ble_eq_true rfl) (fun v hv => by simp only [cells_slice, List.mem_toArray, List.mem_cons, List.not_mem_nil, or_false] at hv; subst hv; rfl) ?_
  rintro h4 u4 (B4 : Blk _ _ _ (eCV { x with va := a', vn := c.vers.length, vc := c' }))
  have B2 := u4.blk B2 (by omega)
  simp (disch := first | exact Nat.le_of_ble_eq_true rfl | omega) only [AXR, AXB, J.dst, reduceIte, Nat.reduceEqDiff, Nat.reduceAdd, Nat.reduceMul, Nat.reduceLT, Nat.reduceLeDiff, B4.rd, eCV]
  refine wL_stN rfl rfl rfl B2 (by decide) (eCV_one { x with va := a', vn := c.vers.length, vc := c' }) ?_
  rintro h5 u5 (B5 : Blk _ _ _ (eCV { x with va := a', vn := c.vers.length, vc := c' }))
  simp (disch := first | exact Nat.le_of_ble_eq_true rfl | omega) only [AXR, AXB, J.dst, reduceIte, Nat.reduceEqDiff, Nat.reduceAdd, Nat.reduceMul, Nat.reduceLT, Nat.reduceLeDiff, B5.rd, eCV]
  have hne : ∀ k, ob a' = some k → k ≠ b1 ∧ k ≠ b2 := fun k hk => by have := hl3 k hk; omega
  have e34 : Ext h h3 := e12.trans e3
  refine hR { x with va := a', vn := c.vers.length, vc := c' } h5 ⟨S.key, S.locked, S.lock, rfl, ?_⟩ (u5.ext (u4.ext e34 (by omega)) (by omega))
  exact ((O3.mono e12.size).gr u4.gr (fun k hk => by have := (hne k hk).1; intro e; cases e; exact this rfl)).gr u5.gr (fun k hk => by have := (hne k hk).2; intro e; cases e; exact this rfl)
theorem all_ok {B : Nat → Prop} {a : Option Addr} {c : Nat} (cs : List Cell) (h : Heap) (S : SlC B h a cs) (hn : cs.length ≤ big) (F : ∀ c ∈ cs, c.vers.length ≤ big) {R : Value → Heap → Prop}
    (hR : ∀ a' c' h', OwnC h.size h' a' cs.length c' cs → Ext h h' → R (.slice a' cs.length c') h') : CallsH Try.prog 86 [.slice a cs.length c] h R := by
  have hbig : big = 1000000 := rfl
  refine f86ok (by simp) ?_
  simp (disch := first | exact Nat.le_of_ble_eq_true rfl | omega) only [AXR, AXB, J.dst, reduceIte, Nat.reduceEqDiff, Nat.reduceAdd, Nat.reduceMul, Nat.reduceLT, Nat.reduceLeDiff, f86r0, f86r1, f86r2, f86r3, f86r4, f86r5, f86r6, f86r7, f86c8_eq, f86c7_eq, f86c9_eq, f86c6_eq, f86c5_eq, f86c4_eq, f86c10_eq, f86c3_eq, f86c2_eq, f86c1_eq, f86c0_eq]
  refine loop_in (fun n σ h' => Ext h h' ∧ ∃ (k c' : Nat) (a' : Option Addr), k + n = cs.length ∧ OwnC h.size h' a' k c' (cs.take k) ∧ σ = [(3, .slice a' k c'), (6, .slice a cs.length c), (7, vi cs.length), (8, vi k)])
    cs.length ⟨Ext.refl _, 0, 0, none, by omega, OwnC.nil _ _, rfl⟩ ?_
  rintro n σ h' ⟨e1, k, c', a', hk, O, rfl⟩ Q' hnx hex hrt _
  simp (disch := first | exact Nat.le_of_ble_eq_true rfl | omega) only [AXR, AXB, J.dst, reduceIte, Nat.reduceEqDiff, Nat.reduceAdd, Nat.reduceMul, Nat.reduceLT, Nat.reduceLeDiff, f86r0, f86r1, f86r2, f86r3, f86r4, f86r5, f86r6, f86r7, f86c8_eq, f86c7_eq, f86c9_eq, f86c6_eq, f86c5_eq, f86c4_eq, f86c10_eq, f86c3_eq, f86c2_eq, f86c1_eq, f86c0_eq]
  refine ⟨fun h2 => ?_, fun h2 => ?_⟩
  · have hkl : k < cs.length := by have := of_decide_eq_true h2; omega
    obtain ⟨x, hx⟩ := get_ex hkl
    obtain ⟨b, o, v, rfl, _, hrow, hcr⟩ := (S.ext e1).elem hx
    simp (disch := first | exact Nat.le_of_ble_eq_true rfl | omega) only [AXR, AXB, J.dst, reduceIte, Nat.reduceEqDiff, Nat.reduceAdd, Nat.reduceMul, Nat.reduceLT, Nat.reduceLeDiff, f86r0, f86r1, f86r2, f86r3, f86r4, f86r5, f86r6, f86r7, f86c8_eq, f86c7_eq, f86c9_eq, f86c6_eq, f86c5_eq, f86c4_eq, f86c10_eq, f86c3_eq, f86c2_eq, f86c1_eq, f86c0_eq, row_cv hrow]
    refine ⟨by omega, by omega, ?_⟩
    refine wL_newN ?_; rintro b4 h4 e4 s4 hb4 B4
    refine wL_stN rfl rfl rfl B4 (by decide) (eCV_one v) ?_; rintro h5 u5 (B5 : Blk _ _ _ (eCV v))
    have e5 := u5.ext e4 (by omega)
    simp (disch := first | exact Nat.le_of_ble_eq_true rfl | omega) only [AXR, AXB, J.dst, reduceIte, Nat.reduceEqDiff, Nat.reduceAdd, Nat.reduceMul, Nat.reduceLT, Nat.reduceLeDiff, f86r0, f86r1, f86r2, f86r3, f86r4, f86r5, f86r6, f86r7, f86c8_eq, f86c7_eq, f86c9_eq, f86c6_eq, f86c5_eq, f86c4_eq, f86c10_eq, f86c3_eq, f86c2_eq, f86c1_eq, f86c0_eq, B5.rd, eCV]
    refine own_ok v x _ (hcr.ext e5) (F x (List.mem_of_getElem? hx)) ?_
    intro x' h6 O6 e6
    refine ⟨trivial, ?_⟩
    try simp (disch := first | exact Nat.le_of_ble_eq_true rfl | omega) only [AXR, AXB, J.dst, reduceIte, Nat.reduceEqDiff, Nat.reduceAdd, Nat.reduceMul, Nat.reduceLT, Nat.reduceLeDiff, f86r0, f86r1, f86r2, f86r3, f86r4, f86r5, f86r6, f86r7, f86c8_eq, f86c7_eq, f86c9_eq, f86c6_eq, f86c5_eq, f86c4_eq, f86c10_eq, f86c3_eq, f86c2_eq, f86c1_eq, f86c0_eq]
    generalize hh7 : h6.push (Obj.cells _ 103) = h7
    have e7 : Ext h6 h7 := hh7 ▸ (Ext.refl h6).push _
    have B7 : Blk h7 h6.size 103 (eCV x') := hh7 ▸ Blk.new h6 103 _
    have e57 := e6.trans e7
    have ea := e5.trans e57
    have O7 := O.ext ea
    have hO := O.row
    rw [wL_raw]
    refine raw_push rfl rfl rfl O7 B7 ((O6.ext e7).cr.to fun b hb => ⟨⟨?_, hb.2.1, ?_⟩, rfl⟩) (by omega) (Nat.le_trans e1.size ea.size) ?_
    · have := e1.size; have := e5.size; omega
    · intro e; have := hO b e.symm; have := e5.size; omega
    intro a8 c8 h8 O8 G8 A8
    refine ⟨trivial, ?_⟩
    simp (disch := first | exact Nat.le_of_ble_eq_true rfl | omega) only [AXR, AXB, J.dst, reduceIte, Nat.reduceEqDiff, Nat.reduceAdd, Nat.reduceMul, Nat.reduceLT, Nat.reduceLeDiff]
    rw [i64_wrap (by omega) (by omega)]
    refine hnx (n - 1) _ _ (by omega) ⟨G8.ext (e1.trans ea) (fun j hj => (hO j hj).1), k + 1, c8, a8, by omega, ?_, rfl⟩
    rw [List.take_add_one, hx]
    exact O8
  · have hkl : k = cs.length := by have := of_decide_eq_false h2; omega
    subst hkl
    refine hex _ _ ?_
    simp (disch := first | exact Nat.le_of_ble_eq_true rfl | omega) only [AXR, AXB, J.dst, reduceIte, Nat.reduceEqDiff, Nat.reduceAdd, Nat.reduceMul, Nat.reduceLT, Nat.reduceLeDiff]
    rw [List.take_length] at O
    exact hR _ _ _ O e1
end Go.Proofs.Ytefghfgmkndikaa
namespace Go.Proofs.Ytefghfgmkndikaa
open Go Go.AX
theorem one_sl (a : Option Addr) (n c : Nat) : ∀ v ∈ (Value.slice a n c).cells.toList, v.oneCell' = true := by
  intro v hv; simp only [cells_slice, List.mem_cons, List.not_mem_nil, or_false] at hv; subst hv; rfl
end Go.Proofs.Ytefghfgmkndikaa
namespace Go.AX
open Go
deriving instance DecidableEq for Lck, Pai, Ver
theorem eqA_stampB (neg : Bool) (s t : Stamp) : eqA neg [.i .i64, .i .i64] (.agg #[vi s.wall, vi s.tie]) (.agg #[vi t.wall, vi t.tie]) = some (.bool (if neg then !decide (s = t) else decide (s = t))) := by
  obtain ⟨a, b⟩ := s
  obtain ⟨c, d⟩ := t
  have : (a == c && b == d) = decide ((⟨a, b⟩ : Stamp) = ⟨c, d⟩) := by
    rw [Bool.eq_iff_iff]; simp
  simp only [eqA, eqKds, eqKd, and_self, if_true, Option.bind_some, Option.map_some, Bool.and_true, this]
theorem eqA_tryB (neg : Bool) (s t : Try4) : eqA neg [.i .i64, .i .i64, .i .i64, .i .i64] (.agg #[vi s.node, vi s.life, vi s.seq, vi s.attempt]) (.agg #[vi t.node, vi t.life, vi t.seq, vi t.attempt]) = some (.bool (if neg then !decide (s = t) else decide (s = t))) := by
  obtain ⟨a, b, c, d⟩ := s
  obtain ⟨e, f, g, i⟩ := t
  have : (a == e && (b == f && (c == g && d == i))) = decide ((⟨a, b, c, d⟩ : Try4) = ⟨e, f, g, i⟩) := by
    rw [Bool.eq_iff_iff]; simp
  simp only [eqA, eqKds, eqKd, and_self, if_true, Option.bind_some, Option.map_some, Bool.and_true, this]
theorem eqA_stamp (s t : Stamp) : eqA false [.i .i64, .i .i64] (.agg #[vi s.wall, vi s.tie]) (.agg #[vi t.wall, vi t.tie]) = some (.bool (decide (s = t))) := eqA_stampB false s t
theorem eqA_stampN (s t : Stamp) : eqA true [.i .i64, .i .i64] (.agg #[vi s.wall, vi s.tie]) (.agg #[vi t.wall, vi t.tie]) = some (.bool (!decide (s = t))) := eqA_stampB true s t
theorem eqA_try (s t : Try4) : eqA false [.i .i64, .i .i64, .i .i64, .i .i64] (.agg #[vi s.node, vi s.life, vi s.seq, vi s.attempt]) (.agg #[vi t.node, vi t.life, vi t.seq, vi t.attempt]) = some (.bool (decide (s = t))) := eqA_tryB false s t
theorem eqA_tryN (s t : Try4) : eqA true [.i .i64, .i .i64, .i .i64, .i .i64] (.agg #[vi s.node, vi s.life, vi s.seq, vi s.attempt]) (.agg #[vi t.node, vi t.life, vi t.seq, vi t.attempt]) = some (.bool (!decide (s = t))) := eqA_tryB true s t
/-- A version in its place. -/
def putV (vs : List Ver) (v : Ver) : List Ver :=
  if 0 ≤ lastV vs v.at_ ∧ (vs.getD (lastV vs v.at_).toNat default).at_ = v.at_ then vs.set (lastV vs v.at_).toNat v
  else vs.take (lastV vs v.at_ + 1).toNat ++ [v] ++ vs.drop (lastV vs v.at_ + 1).toNat
theorem flatMap_take {α : Type} {e : α → List Value} {s : Nat} (he : ∀ x, (e x).length = s) : ∀ (ds : List α) (i : Nat), (ds.flatMap e).take (i * s) = (ds.take i).flatMap e
  | [], i => by simp
  | d :: ds, 0 => by simp
  | d :: ds, i + 1 => by
    have e1 : (i + 1) * s = (e d).length + i * s := by rw [he, Nat.add_mul]; omega
    simp only [List.flatMap_cons, List.take_succ_cons]
    rw [e1, List.take_length_add_append, flatMap_take he ds i]
theorem flatMap_drop {α : Type} {e : α → List Value} {s : Nat} (he : ∀ x, (e x).length = s) : ∀ (ds : List α) (i : Nat), (ds.flatMap e).drop (i * s) = (ds.drop i).flatMap e
  | [], i => by simp
  | d :: ds, 0 => by simp
  | d :: ds, i + 1 => by
    have e1 : (i + 1) * s = (e d).length + i * s := by rw [he, Nat.add_mul]; omega
    simp only [List.flatMap_cons, List.drop_succ_cons]
    rw [e1, List.drop_length_add_append, flatMap_drop he ds i]
theorem putL_take : ∀ (vs l : List Value) (o m : Nat), o + vs.length ≤ m → (putL l o vs).take m = putL (l.take m) o vs
  | [], _, _, _, _ => rfl
  | v :: vs, l, o, m, h => by
    simp only [List.length_cons] at h
    simp only [putL]
    rw [putL_take vs _ _ _ (by omega), List.take_set]
theorem putL_append_left : ∀ (vs l m : List Value) (o : Nat), o + vs.length ≤ l.length → putL (l ++ m) o vs = putL l o vs ++ m
  | [], _, _, _, _ => rfl
  | v :: vs, l, m, o, h => by
    simp only [List.length_cons] at h
    simp only [putL]
    rw [List.set_append_left _ _ (by omega), putL_append_left vs _ _ _ (by rw [List.length_set]; omega)]
theorem putL_append_right : ∀ (vs l m : List Value) (o : Nat), putL (l ++ m) (l.length + o) vs = l ++ putL m o vs
  | [], _, _, _ => rfl
  | v :: vs, l, m, o => by
    simp only [putL]
    rw [List.set_append_right _ _ (by omega), Nat.add_sub_cancel_left, Nat.add_assoc, putL_append_right vs]
theorem flat_put {α : Type} {e : α → List Value} {s : Nat} (he : ∀ x, (e x).length = s) {vals : List Value} {off : Nat} {v v' : α} (hv : e v' = putL (e v) off vals) (hs : off + vals.length ≤ s) :
    ∀ (ds : List α) (i : Nat), ds[i]? = some v → putL (ds.flatMap e) (i * s + off) vals = (ds.set i v').flatMap e
  | [], i, h => by simp at h
  | d :: ds, 0, h => by
    simp at h; subst h
    simp only [List.flatMap_cons, List.set_cons_zero, Nat.zero_mul, Nat.zero_add]
    rw [putL_append_left _ _ _ _ (by rw [he]; exact hs), hv]
  | d :: ds, i + 1, h => by
    have e1 : (i + 1) * s + off = (e d).length + (i * s + off) := by rw [he, Nat.add_mul]; omega
    simp only [List.flatMap_cons, List.set_cons_succ]
    rw [e1, putL_append_right, flat_put he hv hs ds i (by simpa using h)]
theorem putL_all : ∀ (vs l : List Value), l.length = vs.length → putL l 0 vs = vs := by
  have key : ∀ (vs l p : List Value), l.length = vs.length → putL (p ++ l) p.length vs = p ++ vs := by
    intro vs
    induction vs with
    | nil => intro l p h; have : l = [] := List.eq_nil_of_length_eq_zero h
             subst this; rfl
    | cons v vs ih =>
      intro l p h
      cases l with
      | nil => simp at h
      | cons x l =>
        simp only [putL]
        rw [List.set_append_right _ _ (Nat.le_refl _), Nat.sub_self, List.set_cons_zero]
        have := ih l (p ++ [v]) (by simpa using h)
        simpa using this
  intro vs l h
  simpa using key vs l [] h
/-- An element of an own row is written anew, wholly or in part. -/
theorem Own.put {α : Type} {e : α → List Value} {s t lo : Nat} (he : ∀ x, (e x).length = s) {h h' : Heap} {a : Option Addr} {n c b : Nat} {ds : List α} {vals cur : List Value} {off i : Nat} {v v' : α}
    (O : Own lo h t s a n c (ds.flatMap e)) (hn : n = ds.length) (hi : ds[i]? = some v) (ha : AX.ob a = some b) (hcur : Blk h b t cur) (B' : Blk h' b t (putL cur (i * s + off) vals)) (hv : e v' = putL (e v) off vals) (hs : off + vals.length ≤ s) :
    Own lo h' t s a n c ((ds.set i v').flatMap e) := by
  have hil : i < ds.length := (List.getElem?_eq_some_iff.1 hi).1
  obtain ⟨hr1, hr2⟩ := O.room
  obtain ⟨g, cur', rfl, hg, G, hcl, hct⟩ := O.blk (by omega)
  cases ha
  have : cur = cur' := by
    unfold Blk at hcur G
    rw [hcur] at G
    simpa using G
  subst this
  have hle : i * s + s ≤ n * s := by rw [← Nat.succ_mul]; exact Nat.mul_le_mul_right _ (by omega)
  refine Own.of_blk hg B' (by rw [putL_length]; exact hcl) hr1 hr2 ?_
  rw [putL_take _ _ _ _ (by omega), hct, flat_put he hv hs ds i hi]
end Go.AX
namespace Go.Proofs.Ytefghfgmkndikaa
open Go Go.AX
theorem put_ok {lo : Nat} {a : Option Addr} {n c : Nat} (vs : List Ver) (v : Ver) (h : Heap) (O : Own lo h 108 4 a n c (vs.flatMap eVer)) (hnl : n = vs.length) (hn : vs.length ≤ big) (hlo : lo ≤ h.size) {R : Value → Heap → Prop}
    (hR : ∀ a' n' c' h', Own lo h' 108 4 a' n' c' ((putV vs v).flatMap eVer) → n' = (putV vs v).length → Gr (ob a) h h' → (ob a' = ob a ∨ ∃ k, ob a' = some k ∧ h.size ≤ k) → R (.slice a' n' c') h') :
    CallsH Try.prog 85 [.slice a n c, .agg (eVer v).toArray] h R := by
  have hbig : big = 1000000 := rfl
  subst hnl
  refine f85ok (by simp) ?_
  (try simp (disch := first | exact Nat.le_of_ble_eq_true rfl | omega) only [AXR, AXB, J.dst, reduceIte, Nat.reduceEqDiff, Nat.reduceAdd, Nat.reduceMul, Nat.reduceLT, Nat.reduceLeDiff]); rw [f85c0_eq]; (try simp (disch := first | exact Nat.le_of_ble_eq_true rfl | omega) only [AXR, AXB, J.dst, reduceIte, Nat.reduceEqDiff, Nat.reduceAdd, Nat.reduceMul, Nat.reduceLT, Nat.reduceLeDiff, f85r0])
  refine wL_boxN rfl ?_; rintro b1 h1 e1 s1 hb1 (B1 : Blk _ _ _ (eVer v))
  (try simp (disch := first | exact Nat.le_of_ble_eq_true rfl | omega) only [AXR, AXB, J.dst, reduceIte, Nat.reduceEqDiff, Nat.reduceAdd, Nat.reduceMul, Nat.reduceLT, Nat.reduceLeDiff]); rw [f85c1_eq]; (try simp (disch := first | exact Nat.le_of_ble_eq_true rfl | omega) only [AXR, AXB, J.dst, reduceIte, Nat.reduceEqDiff, Nat.reduceAdd, Nat.reduceMul, Nat.reduceLT, Nat.reduceLeDiff, f85r1, B1.rd, eVer])
  have O1 := O.ext e1
  refine last_ok vs v.at_ _ (SlF.of_own O1 rfl) (by unfold maxLen; omega) ?_
  intro h2 e2
  have O2 := O1.ext e2
  have B2 := B1.ext e2
  have hlv := lastV_le vs v.at_
  have hob := O.ob
  have e12 := e1.trans e2
  have hins : ¬ (0 ≤ lastV vs v.at_ ∧ (vs.getD (lastV vs v.at_).toNat default).at_ = v.at_) →
      wC Try.prog f85c3 (endW [Rs.tmp 4] R) [(0, .slice a vs.length c), (3, ptr b1 0), (5, vi (lastV vs v.at_)), (21, .bool false)] h2 := by
    intro hno
    obtain ⟨i, hi⟩ : ∃ i : Nat, lastV vs v.at_ + 1 = i := ⟨(lastV vs v.at_ + 1).toNat, by omega⟩
    have hp : putV vs v = vs.take i ++ [v] ++ vs.drop i := by
      unfold putV; rw [if_neg hno, hi]; rfl
    (try simp (disch := first | exact Nat.le_of_ble_eq_true rfl | omega) only [AXR, AXB, J.dst, reduceIte, Nat.reduceEqDiff, Nat.reduceAdd, Nat.reduceMul, Nat.reduceLT, Nat.reduceLeDiff]); rw [f85c3_eq]; (try simp (disch := first | exact Nat.le_of_ble_eq_true rfl | omega) only [AXR, AXB, J.dst, reduceIte, Nat.reduceEqDiff, Nat.reduceAdd, Nat.reduceMul, Nat.reduceLT, Nat.reduceLeDiff, B2.rd, eVer]); rw [f85c6_eq]; (try simp (disch := first | exact Nat.le_of_ble_eq_true rfl | omega) only [AXR, AXB, J.dst, reduceIte, Nat.reduceEqDiff, Nat.reduceAdd, Nat.reduceMul, Nat.reduceLT, Nat.reduceLeDiff, f85r5, B2.rd, eVer])
    rw [i64_wrap (by omega) (by omega), hi]
    refine wL_bslN rfl ?_; rintro b3 h3 e3 s3 hb3 (B3 : Blk _ _ _ (eVer v))
    simp (disch := first | exact Nat.le_of_ble_eq_true rfl | omega) only [AXR, AXB, J.dst, reduceIte, Nat.reduceEqDiff, Nat.reduceAdd, Nat.reduceMul, Nat.reduceLT, Nat.reduceLeDiff]
    have O3 := O2.ext e3
    have e13 := e12.trans e3
    have hz := e13.size
    refine insV_ok _ O3 (by omega) (by omega) (by omega) B3 rfl (one_flatMap eVer_one vs) (eVer_one v) (.inr (fun e => by have := hob b3 e.symm; have := e12.size; omega)) (by unfold maxLen; omega) ?_
    intro a' c' h' O' G' A'
    try simp (disch := first | exact Nat.le_of_ble_eq_true rfl | omega) only [AXR, AXB, J.dst, reduceIte, Nat.reduceEqDiff, Nat.reduceAdd, Nat.reduceMul, Nat.reduceLT, Nat.reduceLeDiff]
    rw [flatMap_take eVer_len, flatMap_drop eVer_len] at O'
    refine hR a' (vs.length + 1) c' h' ?_ ?_ ?_ ?_
    · rw [hp, List.flatMap_append, List.flatMap_append]; simpa using O'
    · rw [hp]; simp; omega
    · exact ((e13.gr _)).trans G'
    · rcases A' with e | ⟨k, e, hk⟩
      · exact .inl e
      · exact .inr ⟨k, e, by omega⟩
  rw [f85c2_eq]
  refine drw_lt ?_
  simp (disch := first | exact Nat.le_of_ble_eq_true rfl | omega) only [AXR, AXB, J.dst, reduceIte, Nat.reduceEqDiff, Nat.reduceAdd, Nat.reduceMul, Nat.reduceLT, Nat.reduceLeDiff, f85r2]
  by_cases hpos : 0 ≤ lastV vs v.at_
  · obtain ⟨k, hk⟩ : ∃ k : Nat, lastV vs v.at_ = k := ⟨(lastV vs v.at_).toNat, by omega⟩
    rw [hk] at hins hlv ⊢
    obtain ⟨u, hu⟩ := get_ex (show k < vs.length by omega)
    obtain ⟨b, o, ha, _, hrow⟩ := (SlF.of_own O2 rfl).elem eVer_len hu
    rw [decide_eq_true (by omega), br_true]
    simp (disch := first | exact Nat.le_of_ble_eq_true rfl | omega) only [AXR, AXB, J.dst, reduceIte, Nat.reduceEqDiff, Nat.reduceAdd, Nat.reduceMul, Nat.reduceLT, Nat.reduceLeDiff, ha, row_ver hrow, B2.rd, eVer, eStamp, eqA_stamp]
    refine ⟨by omega, by omega, hrow.lt (by rw [eVer_len]; omega), B2.lt, ?_⟩
    rw [ha] at hins
    by_cases heq : u.at_ = v.at_
    · rw [decide_eq_true heq]
      have hp : putV vs v = vs.set k v := by
        unfold putV; rw [hk, if_pos ⟨by omega, by rw [Int.toNat_natCast, getD_of hu]; exact heq⟩]; rfl
      obtain ⟨hr1, hr2⟩ := O2.room
      obtain ⟨g, cur, ha', hg, G, hcl, hct⟩ := O2.blk (by omega)
      rw [ha] at ha'
      cases ha'
      (try simp (disch := first | exact Nat.le_of_ble_eq_true rfl | omega) only [AXR, AXB, J.dst, reduceIte, Nat.reduceEqDiff, Nat.reduceAdd, Nat.reduceMul, Nat.reduceLT, Nat.reduceLeDiff]); rw [f85c3_eq]; (try simp (disch := first | exact Nat.le_of_ble_eq_true rfl | omega) only [AXR, AXB, J.dst, reduceIte, Nat.reduceEqDiff, Nat.reduceAdd, Nat.reduceMul, Nat.reduceLT, Nat.reduceLeDiff, br_true])
      (try simp (disch := first | exact Nat.le_of_ble_eq_true rfl | omega) only [AXR, AXB, J.dst, reduceIte, Nat.reduceEqDiff, Nat.reduceAdd, Nat.reduceMul, Nat.reduceLT, Nat.reduceLeDiff]); rw [f85c4_eq]; (try simp (disch := first | exact Nat.le_of_ble_eq_true rfl | omega) only [AXR, AXB, J.dst, reduceIte, Nat.reduceEqDiff, Nat.reduceAdd, Nat.reduceMul, Nat.reduceLT, Nat.reduceLeDiff, f85r3, B2.rd, eVer])
      refine ⟨by omega, by omega, ?_⟩
      refine wL_stN rfl rfl rfl G (by rw [hcl]; omega) (eVer_one v) ?_
      intro h3 u3 B3
      try simp (disch := first | exact Nat.le_of_ble_eq_true rfl | omega) only [AXR, AXB, J.dst, reduceIte, Nat.reduceEqDiff, Nat.reduceAdd, Nat.reduceMul, Nat.reduceLT, Nat.reduceLeDiff]
      (try simp (disch := first | exact Nat.le_of_ble_eq_true rfl | omega) only [AXR, AXB, J.dst, reduceIte, Nat.reduceEqDiff, Nat.reduceAdd, Nat.reduceMul, Nat.reduceLT, Nat.reduceLeDiff]); rw [f85c5_eq]; (try simp (disch := first | exact Nat.le_of_ble_eq_true rfl | omega) only [AXR, AXB, J.dst, reduceIte, Nat.reduceEqDiff, Nat.reduceAdd, Nat.reduceMul, Nat.reduceLT, Nat.reduceLeDiff, f85r4])
      refine hR (some ⟨b, 0, none⟩) vs.length c h3 ?_ (by rw [hp]; simp) ((e12.gr _).trans ?_) (.inl (by rw [ha]))
      · rw [hp, ← ha]
        exact O2.put eVer_len (off := 0) (vals := eVer v) rfl hu (by rw [ha]; rfl) G (by rw [Nat.zero_add] at B3; exact B3) (putL_all _ _ rfl).symm (by rw [eVer_len]; omega)
      · rw [ha]; exact u3.gr
    · rw [decide_eq_false heq]
      exact hins (fun h => heq (by have := h.2; rwa [Int.toNat_natCast, getD_of hu] at this))
  · rw [decide_eq_false (by omega), br_false]
    exact hins (fun h => hpos h.1)
end Go.Proofs.Ytefghfgmkndikaa
namespace Go.AX
open Go
/-- The lock that is laid. -/
def lkW (w : Wri) (l : Lck) : Lck := { l with drop := w.drop, data := if w.drop then noB else w.data }
def lockL (cs : List Cell) (w : Wri) (l : Lck) : List Cell :=
  if hasK cs w.key then cs.set (lbK cs w.key) { cs.getD (lbK cs w.key) default with locked := true, lock := lkW w l }
  else cs.take (lbK cs w.key) ++ [⟨w.key, [], true, lkW w l⟩] ++ cs.drop (lbK cs w.key)
theorem All2.set {α β : Type} {R : α → β → Prop} : ∀ {l : List α} {m : List β} {i : Nat} {a : α} {b : β}, All2 R l m → R a b → All2 R (l.set i a) (m.set i b)
  | _, _, _, _, _, .nil, _ => .nil
  | _, _, 0, _, _, .cons _ t, h => .cons h t
  | _, _, i + 1, _, _, .cons r t, h => .cons r (t.set h)
theorem All2.take {α β : Type} {R : α → β → Prop} : ∀ {l : List α} {m : List β} (i : Nat), All2 R l m → All2 R (l.take i) (m.take i)
  | _, _, 0, _ => by simp only [List.take_zero]; exact .nil
  | _, _, i + 1, .nil => by simp only [List.take_nil]; exact .nil
  | _, _, i + 1, .cons r t => .cons r (t.take i)
theorem All2.drop {α β : Type} {R : α → β → Prop} : ∀ {l : List α} {m : List β} (i : Nat), All2 R l m → All2 R (l.drop i) (m.drop i)
  | _, _, 0, t => t
  | _, _, i + 1, .nil => .nil
  | _, _, i + 1, .cons _ t => t.drop i
theorem cellTo {lo : Nat} {h h' : Heap} {a a' : Option Addr} (G : Gr (ob a) h h') (A : ob a' = ob a ∨ ∃ k, ob a' = some k ∧ h.size ≤ k) :
    ∀ b, (lo ≤ b ∧ b < h.size ∧ some b ≠ ob a) → (lo ≤ b ∧ b < h'.size ∧ some b ≠ ob a') ∧ h'[b]? = h[b]? := by
  rintro b ⟨b1, b2, b3⟩
  refine ⟨⟨b1, Nat.lt_of_lt_of_le b2 G.size, ?_⟩, G.at_ b b2 b3⟩
  rcases A with e | ⟨k, e, hk⟩
  · rw [e]; exact b3
  · rw [e]; intro e'; cases e'; omega
end Go.AX
namespace Go.Proofs.Ytefghfgmkndikaa
open Go Go.AX
theorem one_lck (l : Lck) : ∀ v ∈ eLck l, v.oneCell' = true := by
  intro v hv; simp only [eLck, List.mem_cons, List.not_mem_nil, or_false] at hv
  rcases hv with rfl | rfl | rfl | rfl | rfl | rfl | rfl | rfl | rfl <;> rfl
theorem one_b (b : Bool) : ∀ v ∈ (Value.bool b).cells.toList, v.oneCell' = true := by
  intro v hv; simp only [cells_bool, List.mem_cons, List.not_mem_nil, or_false] at hv; subst hv; rfl
theorem one_s (b : ByteArray) : ∀ v ∈ (Value.string b).cells.toList, v.oneCell' = true := by
  intro v hv; simp only [cells_string, List.mem_cons, List.not_mem_nil, or_false] at hv; subst hv; rfl
theorem lock_ok {B : Nat → Prop} {a : Option Addr} {c : Nat} (cs : List Cell) (w : Wri) (l : Lck) (h : Heap) (S : SlC B h a cs) (hs : Sorted cs) (hn : cs.length < big) (F : ∀ c ∈ cs, c.vers.length ≤ big) {R : Value → Heap → Prop}
    (hR : ∀ a' n' c' h', OwnC h.size h' a' n' c' (lockL cs w l) → Ext h h' → R (.slice a' n' c') h') : CallsH Try.prog 40 [.slice a cs.length c, .agg (eWri w).toArray, .agg (eLck l).toArray] h R := by
  have hbig : big = 1000000 := rfl
  refine f40ok (by simp) ?_
  (try simp (disch := first | exact Nat.le_of_ble_eq_true rfl | omega) only [AXR, AXB, J.dst, reduceIte, Nat.reduceEqDiff, Nat.reduceAdd, Nat.reduceMul, Nat.reduceLT, Nat.reduceLeDiff]); rw [f40c0_eq]; (try simp (disch := first | exact Nat.le_of_ble_eq_true rfl | omega) only [AXR, AXB, J.dst, reduceIte, Nat.reduceEqDiff, Nat.reduceAdd, Nat.reduceMul, Nat.reduceLT, Nat.reduceLeDiff, f40r0])
  refine wL_boxN rfl ?_; rintro b1 h1 e1 s1 hb1 (B1 : Blk _ _ _ (eWri w))
  refine wL_boxN rfl ?_; rintro b2 h2 e2 s2 hb2 (B2 : Blk _ _ _ (eLck l))
  have hl1 := B1.lt
  replace B1 := B1.ext e2
  have hne : b1 ≠ b2 := by omega
  (try simp (disch := first | exact Nat.le_of_ble_eq_true rfl | omega) only [AXR, AXB, J.dst, reduceIte, Nat.reduceEqDiff, Nat.reduceAdd, Nat.reduceMul, Nat.reduceLT, Nat.reduceLeDiff]); rw [f40c1_eq]; (try simp (disch := first | exact Nat.le_of_ble_eq_true rfl | omega) only [AXR, AXB, J.dst, reduceIte, Nat.reduceEqDiff, Nat.reduceAdd, Nat.reduceMul, Nat.reduceLT, Nat.reduceLeDiff, f40r1])
  refine ⟨fun b => b < h2.size ∧ b ≠ b2, fun b hb => hb.1, ?_⟩
  simp (disch := first | exact Nat.le_of_ble_eq_true rfl | omega) only [AXR, AXB, J.dst, reduceIte, Nat.reduceEqDiff, Nat.reduceAdd, Nat.reduceMul, Nat.reduceLT, Nat.reduceLeDiff, f40r1, B1.cel, eWri]
  refine ⟨⟨by omega, hne⟩, ⟨by omega, hne⟩, ?_⟩
  refine wL_stD rfl rfl (fun h => h.2 rfl) rfl B2 (Nat.le_of_ble_eq_true rfl) (one_b _) ?_
  intro h3 u3 B3
  simp (disch := first | exact Nat.le_of_ble_eq_true rfl | omega) only [AXR, AXB, J.dst, reduceIte, Nat.reduceEqDiff, Nat.reduceAdd, Nat.reduceMul, Nat.reduceLT, Nat.reduceLeDiff]
  refine wL_stD rfl rfl (fun h => h.2 rfl) rfl B3 (Nat.le_of_ble_eq_true rfl) (one_s _) ?_
  rintro h4 u4 (B4 : Blk _ _ _ (eLck { l with drop := w.drop, data := w.data }))
  have B14 := u4.blk (u3.blk B1 hne) hne
  have e4 : Ext h h4 := u4.ext (u3.ext (e1.trans e2) (by omega)) (by omega)
  try simp (disch := first | exact Nat.le_of_ble_eq_true rfl | omega) only [AXR, AXB, J.dst, reduceIte, Nat.reduceEqDiff, Nat.reduceAdd, Nat.reduceMul, Nat.reduceLT, Nat.reduceLeDiff]
  have rest : ∀ (h5 : Heap) (τ : Env), Ext h h5 → b2 < h5.size → Blk h5 b1 70 (eWri w) → Blk h5 b2 72 (eLck (lkW w l)) → wC Try.prog f40c5 (endW [Rs.tmp 6] R) ((0, .slice a cs.length c) :: (4, ptr b1 0) :: (5, ptr b2 0) :: τ) h5 := by
    intro h5 τ e5 hb5 B1 B2
    (try simp (disch := first | exact Nat.le_of_ble_eq_true rfl | omega) only [AXR, AXB, J.dst, reduceIte, Nat.reduceEqDiff, Nat.reduceAdd, Nat.reduceMul, Nat.reduceLT, Nat.reduceLeDiff]); rw [f40c5_eq]; (try simp (disch := first | exact Nat.le_of_ble_eq_true rfl | omega) only [AXR, AXB, J.dst, reduceIte, Nat.reduceEqDiff, Nat.reduceAdd, Nat.reduceMul, Nat.reduceLT, Nat.reduceLeDiff, f40r4])
    refine all_ok cs _ (S.ext e5) (by omega) F ?_
    intro a6 c6 h6 O6 e6
    try simp (disch := first | exact Nat.le_of_ble_eq_true rfl | omega) only [AXR, AXB, J.dst, reduceIte, Nat.reduceEqDiff, Nat.reduceAdd, Nat.reduceMul, Nat.reduceLT, Nat.reduceLeDiff]
    replace B1 := B1.ext e6
    replace B2 := B2.ext e6
    (try simp (disch := first | exact Nat.le_of_ble_eq_true rfl | omega) only [AXR, AXB, J.dst, reduceIte, Nat.reduceEqDiff, Nat.reduceAdd, Nat.reduceMul, Nat.reduceLT, Nat.reduceLeDiff]); rw [f40c6_eq]; (try simp (disch := first | exact Nat.le_of_ble_eq_true rfl | omega) only [AXR, AXB, J.dst, reduceIte, Nat.reduceEqDiff, Nat.reduceAdd, Nat.reduceMul, Nat.reduceLT, Nat.reduceLeDiff, f40r5, B1.cel, eWri])
    refine find_ok cs w.key _ O6.slc hs (by unfold maxLen; omega) ?_
    intro h7 e7
    try simp (disch := first | exact Nat.le_of_ble_eq_true rfl | omega) only [AXR, AXB, J.dst, reduceIte, Nat.reduceEqDiff, Nat.reduceAdd, Nat.reduceMul, Nat.reduceLT, Nat.reduceLeDiff]
    replace B1 := B1.ext e7
    replace B2 := B2.ext e7
    have O7 := (O6.ext e7)
    have e57 := e5.trans (e6.trans e7)
    have hlb := lbK_le cs w.key
    -- the last part
    have fin : ∀ (h8 : Heap) (τ : Env) (a8 : Option Addr) (n8 c8 : Nat) (ds : List Cell) (x : Cell), Ext h h8 → OwnC h5.size h8 a8 n8 c8 ds → ds[lbK cs w.key]? = some x → Blk h8 b2 72 (eLck (lkW w l)) →
        ds.set (lbK cs w.key) { x with locked := true, lock := lkW w l } = lockL cs w l → wC Try.prog f40c10 (endW [Rs.tmp 6] R) ((5, ptr b2 0) :: (7, .slice a8 n8 c8) :: (8, vi (lbK cs w.key)) :: τ) h8 := by
      intro h8 τ a8 n8 c8 ds x e8 O8 hx B8 hres
      obtain ⟨vs, h1, h2, h3⟩ := O8
      have hxl := (List.getElem?_eq_some_iff.1 hx).1
      obtain ⟨v, hv, hcr⟩ := h3.get hx
      obtain ⟨hr1, hr2⟩ := h1.room
      obtain ⟨g, cur, rfl, hg, G, hcl, hct⟩ := h1.blk (by omega)
      have hgb : g ≠ b2 := by omega
      have hle : lbK cs w.key * 12 + 12 ≤ c8 * 12 := by omega
      rw [f40c10_eq]
      refine ⟨fun b => b < h8.size ∧ b ≠ g, fun b hb => hb.1, ?_⟩
      simp (disch := first | exact Nat.le_of_ble_eq_true rfl | omega) only [AXR, AXB, J.dst, reduceIte, Nat.reduceEqDiff, Nat.reduceAdd, Nat.reduceMul, Nat.reduceLT, Nat.reduceLeDiff, f40r8, B8.rd, eLck]
      refine ⟨⟨B8.lt, fun e => hgb e.symm⟩, by omega, by omega, ?_⟩
      refine wL_stD rfl rfl (fun h => h.2 rfl) rfl G (by rw [hcl]; omega) (one_b _) ?_
      intro h9 u9 B9
      simp (disch := first | exact Nat.le_of_ble_eq_true rfl | omega) only [AXR, AXB, J.dst, reduceIte, Nat.reduceEqDiff, Nat.reduceAdd, Nat.reduceMul, Nat.reduceLT, Nat.reduceLeDiff]
      refine ⟨by omega, by omega, ?_⟩
      refine wL_stD rfl rfl (fun h => h.2 rfl) rfl B9 (by rw [putL_length, hcl]; omega) (one_lck (lkW w l)) ?_
      intro h10 u10 B10
      try simp (disch := first | exact Nat.le_of_ble_eq_true rfl | omega) only [AXR, AXB, J.dst, reduceIte, Nat.reduceEqDiff, Nat.reduceAdd, Nat.reduceMul, Nat.reduceLT, Nat.reduceLeDiff]
      (try simp (disch := first | exact Nat.le_of_ble_eq_true rfl | omega) only [AXR, AXB, J.dst, reduceIte, Nat.reduceEqDiff, Nat.reduceAdd, Nat.reduceMul, Nat.reduceLT, Nat.reduceLeDiff]); rw [f40c11_eq]; (try simp (disch := first | exact Nat.le_of_ble_eq_true rfl | omega) only [AXR, AXB, J.dst, reduceIte, Nat.reduceEqDiff, Nat.reduceAdd, Nat.reduceMul, Nat.reduceLT, Nat.reduceLeDiff, f40r9])
      have hu : Upd g h8 h10 := ⟨by rw [u10.size, u9.size], fun k hk => (u10.ne k hk).trans (u9.ne k hk)⟩
      have hgh : h.size ≤ g := Nat.le_trans e5.size hg
      refine hR _ _ _ _ ⟨vs.set (lbK cs w.key) { v with locked := true, lock := lkW w l }, ?_, ?_, ?_⟩ (hu.ext e8 hgh)
      · simp only [Nat.zero_add] at B9 B10
        have hvl : vs[lbK cs w.key]? = some v := hv
        have P1 := h1.put (h' := h9) eCV_len (by rw [h2, h3.length]) hvl rfl G (off := 2) (vals := [.bool true]) (v' := { v with locked := true }) (by exact B9) rfl (by simp)
        have P2 := P1.put (h' := h10) eCV_len (by rw [List.length_set, h2, h3.length]) (i := lbK cs w.key) (v := { v with locked := true }) (by rw [List.getElem?_set_self (by rw [h3.length]; exact hxl)]) rfl B9 (off := 3) (vals := eLck (lkW w l))
          (v' := { v with locked := true, lock := lkW w l }) (by exact B10) rfl (by simp [eLck])
        rw [List.set_set] at P2
        exact P2.mono e5.size
      · rw [← hres, List.length_set]; exact h2
      · rw [← hres]
        have hto : ∀ b, (h5.size ≤ b ∧ b < h8.size ∧ some b ≠ ob (some (⟨g, 0, none⟩ : Addr))) → (h.size ≤ b ∧ b < h10.size ∧ some b ≠ ob (some (⟨g, 0, none⟩ : Addr))) ∧ h10[b]? = h8[b]? := by
          rintro b ⟨b1, b2, b3⟩
          exact ⟨⟨Nat.le_trans e5.size b1, by rw [hu.size]; exact b2, b3⟩, hu.ne b (fun e => b3 (by rw [e]; rfl))⟩
        have r := hcr.to hto
        exact (h3.imp fun _ _ r => r.to hto).set ⟨r.key, rfl, rfl, r.vn, r.cap, r.vers⟩
    (try simp (disch := first | exact Nat.le_of_ble_eq_true rfl | omega) only [AXR, AXB, J.dst, reduceIte, Nat.reduceEqDiff, Nat.reduceAdd, Nat.reduceMul, Nat.reduceLT, Nat.reduceLeDiff]); rw [f40c7_eq]; (try simp (disch := first | exact Nat.le_of_ble_eq_true rfl | omega) only [AXR, AXB, J.dst, reduceIte, Nat.reduceEqDiff, Nat.reduceAdd, Nat.reduceMul, Nat.reduceLT, Nat.reduceLeDiff, f40r6]); rw [f40c8_eq]; (try simp (disch := first | exact Nat.le_of_ble_eq_true rfl | omega) only [AXR, AXB, J.dst, reduceIte, Nat.reduceEqDiff, Nat.reduceAdd, Nat.reduceMul, Nat.reduceLT, Nat.reduceLeDiff])
    refine ⟨fun hh => ?_, fun hh => ?_⟩
    · have hno : hasK cs w.key = false := by simpa using hh
      (try simp (disch := first | exact Nat.le_of_ble_eq_true rfl | omega) only [AXR, AXB, J.dst, reduceIte, Nat.reduceEqDiff, Nat.reduceAdd, Nat.reduceMul, Nat.reduceLT, Nat.reduceLeDiff]); rw [f40c9_eq]; (try simp (disch := first | exact Nat.le_of_ble_eq_true rfl | omega) only [AXR, AXB, J.dst, reduceIte, Nat.reduceEqDiff, Nat.reduceAdd, Nat.reduceMul, Nat.reduceLT, Nat.reduceLeDiff, f40r7, B1.cel, eWri])
      refine wL_bslN rfl ?_; rintro b8 h8 e8 s8 hb8 (B8 : Blk _ _ _ (eCV ⟨w.key, none, 0, 0, false, noLock⟩))
      try simp (disch := first | exact Nat.le_of_ble_eq_true rfl | omega) only [AXR, AXB, J.dst, reduceIte, Nat.reduceEqDiff, Nat.reduceAdd, Nat.reduceMul, Nat.reduceLT, Nat.reduceLeDiff]
      obtain ⟨vs, h1, h2, h3⟩ := O7.ext e8
      have hob := h1.ob
      have hob7 := O7.row
      have hz := e57.size
      have hz8 := e8.size
      have hz67 := (e6.trans e7).size
      have hfl := flatMap_length eCV_len vs
      refine insC_ok _ h1 (by omega) hlb (by omega) B8 rfl (one_flatMap eCV_one vs) (eCV_one _) (.inr (fun e => by have := hob7 b8 e.symm; omega)) (by unfold maxLen; omega) ?_
      intro a9 c9 h9 O9 G9 A9
      try simp (disch := first | exact Nat.le_of_ble_eq_true rfl | omega) only [AXR, AXB, J.dst, reduceIte, Nat.reduceEqDiff, Nat.reduceAdd, Nat.reduceMul, Nat.reduceLT, Nat.reduceLeDiff]
      rw [flatMap_take eCV_len, flatMap_drop eCV_len] at O9
      have e9 : Ext h h9 := G9.ext (e57.trans e8) (fun k hk => by have := hob k hk; have := e5.size; omega)
      have hb2 := B2.lt
      have B29 : Blk h9 b2 72 (eLck (lkW w l)) := G9.blk (B2.ext e8) (fun e => by have := hob b2 e.symm; omega)
      have hto := cellTo (lo := h5.size) G9 A9
      refine fin h9 _ a9 (cs.length + 1) c9 (cs.take (lbK cs w.key) ++ [⟨w.key, [], false, noLock⟩] ++ cs.drop (lbK cs w.key)) ⟨w.key, [], false, noLock⟩ e9 ⟨vs.take (lbK cs w.key) ++ [⟨w.key, none, 0, 0, false, noLock⟩] ++ vs.drop (lbK cs w.key), ?_, ?_, ?_⟩ ?_ B29 ?_
      · rw [List.flatMap_append, List.flatMap_append]; simpa using O9
      · simp; omega
      · have h3' := h3.imp fun _ _ r => r.to hto
        exact ((h3'.take _).append (.cons ⟨rfl, rfl, rfl, rfl, Nat.le_refl _, SlF.nil⟩ .nil)).append (h3'.drop _)
      · rw [List.append_assoc, List.getElem?_append_right (by simp; omega)]
        simp [Nat.min_eq_left hlb]
      · unfold lockL
        rw [if_neg (by simp [hno])]
        rw [List.append_assoc, List.set_append_right _ _ (by simp; omega)]
        simp [Nat.min_eq_left hlb]
    · have hyes : hasK cs w.key = true := by simpa using hh
      have hx : ∃ x, cs[lbK cs w.key]? = some x := by
        unfold hasK at hyes
        split at hyes
        · exact ⟨_, by assumption⟩
        · cases hyes
      obtain ⟨x, hx⟩ := hx
      refine fin h7 _ _ _ _ cs x e57 O7 hx B2 ?_
      unfold lockL
      rw [if_pos hyes, getD_of hx]
  (try simp (disch := first | exact Nat.le_of_ble_eq_true rfl | omega) only [AXR, AXB, J.dst, reduceIte, Nat.reduceEqDiff, Nat.reduceAdd, Nat.reduceMul, Nat.reduceLT, Nat.reduceLeDiff]); rw [f40c2_eq]; (try simp (disch := first | exact Nat.le_of_ble_eq_true rfl | omega) only [AXR, AXB, J.dst, reduceIte, Nat.reduceEqDiff, Nat.reduceAdd, Nat.reduceMul, Nat.reduceLT, Nat.reduceLeDiff, f40r2, B14.cel, eWri]); rw [f40c3_eq]; (try simp (disch := first | exact Nat.le_of_ble_eq_true rfl | omega) only [AXR, AXB, J.dst, reduceIte, Nat.reduceEqDiff, Nat.reduceAdd, Nat.reduceMul, Nat.reduceLT, Nat.reduceLeDiff, B14.cel, eWri])
  refine ⟨fun hd => ?_, fun hd => ?_⟩
  · (try simp (disch := first | exact Nat.le_of_ble_eq_true rfl | omega) only [AXR, AXB, J.dst, reduceIte, Nat.reduceEqDiff, Nat.reduceAdd, Nat.reduceMul, Nat.reduceLT, Nat.reduceLeDiff]); rw [f40c4_eq]; (try simp (disch := first | exact Nat.le_of_ble_eq_true rfl | omega) only [AXR, AXB, J.dst, reduceIte, Nat.reduceEqDiff, Nat.reduceAdd, Nat.reduceMul, Nat.reduceLT, Nat.reduceLeDiff, f40r3])
    refine wL_stN rfl rfl rfl B4 (Nat.le_of_ble_eq_true rfl) (one_s _) ?_
    rintro h5 u5 (B5 : Blk _ _ _ (eLck { l with drop := w.drop, data := noB }))
    try simp (disch := first | exact Nat.le_of_ble_eq_true rfl | omega) only [AXR, AXB, J.dst, reduceIte, Nat.reduceEqDiff, Nat.reduceAdd, Nat.reduceMul, Nat.reduceLT, Nat.reduceLeDiff]
    refine rest h5 _ (u5.ext e4 (by omega)) (B5.lt) (u5.blk B14 hne) ?_
    have : lkW w l = { l with drop := w.drop, data := noB } := by simp [lkW, hd]
    rw [this]; exact B5
  · refine rest h4 _ e4 B4.lt B14 ?_
    have : lkW w l = { l with drop := w.drop, data := w.data } := by simp [lkW, hd]
    rw [this]; exact B4
end Go.Proofs.Ytefghfgmkndikaa
namespace Go.AX
open Go
/-- What is left of a cell that may go. -/
def leftC (c : Cell) : Option Cell := if c.locked || decide (c.vers ≠ []) then some c else none
def verL (l : Lck) : Ver := ⟨l.at_, l.drop, l.data⟩
def settleC (by_ : Try4) (yes : Bool) (c : Cell) : Cell :=
  if c.locked && decide (c.lock.by_ = by_) then ⟨c.key, if yes then putV c.vers (verL c.lock) else c.vers, false, noLock⟩ else c
def settleL (cs : List Cell) (by_ : Try4) (yes : Bool) : List Cell := cs.filterMap fun c => leftC (settleC by_ yes c)
theorem OC.box {lo : Nat} {h h' : Heap} {b : Nat} {v : CV} {c : Cell} (r : OC lo h v c) (u : Upd b h h') (hb : b < lo) : OC lo h' v c :=
  ⟨r.key, r.locked, r.lock, r.vn, r.vers.gr u.gr (fun k hk => by have := r.vers.ob k hk; intro e; cases e; omega)⟩
theorem OwnC.mono {lo lo' : Nat} {h : Heap} {a : Option Addr} {n c : Nat} {cs : List Cell} (O : OwnC lo h a n c cs) (hl : lo' ≤ lo) : OwnC lo' h a n c cs := by
  obtain ⟨vs, h1, h2, h3⟩ := O
  exact ⟨vs, h1.mono hl, h2, h3.imp fun _ _ r => r.imp fun b hb => ⟨Nat.le_trans hl hb.1, hb.2⟩⟩
theorem vers_pos (c : Cell) {n : Nat} (hn : n = c.vers.length) : decide ((n : Int) > 0) = decide (c.vers ≠ []) := by
  subst hn
  cases c.vers with
  | nil => rfl
  | cons a l => simp
end Go.AX
namespace Go.Proofs.Ytefghfgmkndikaa
open Go Go.AX
theorem settle_ok {B : Nat → Prop} {a : Option Addr} {c : Nat} (cs : List Cell) (by_ : Try4) (yes : Bool) (h : Heap) (S : SlC B h a cs) (hn : cs.length ≤ big) (F : ∀ c ∈ cs, c.vers.length < big) {R : Value → Heap → Prop}
    (hR : ∀ a' n' c' h', OwnC h.size h' a' n' c' (settleL cs by_ yes) → Ext h h' → R (.slice a' n' c') h') : CallsH Try.prog 39 [.slice a cs.length c, .agg (eTry by_).toArray, .bool yes] h R := by
  have hbig : big = 1000000 := rfl
  refine f39ok (by simp) ?_
  (try simp (disch := first | exact Nat.le_of_ble_eq_true rfl | omega) only [AXR, AXB, J.dst, reduceIte, Nat.reduceEqDiff, Nat.reduceAdd, Nat.reduceMul, Nat.reduceLT, Nat.reduceLeDiff]); rw [f39c0_eq]; (try simp (disch := first | exact Nat.le_of_ble_eq_true rfl | omega) only [AXR, AXB, J.dst, reduceIte, Nat.reduceEqDiff, Nat.reduceAdd, Nat.reduceMul, Nat.reduceLT, Nat.reduceLeDiff, f39r0])
  refine wL_boxN rfl ?_; rintro b1 h1 e1 s1 hb1 (B1 : Blk _ _ _ (eTry by_))
  (try simp (disch := first | exact Nat.le_of_ble_eq_true rfl | omega) only [AXR, AXB, J.dst, reduceIte, Nat.reduceEqDiff, Nat.reduceAdd, Nat.reduceMul, Nat.reduceLT, Nat.reduceLeDiff]); rw [f39c1_eq]; (try simp (disch := first | exact Nat.le_of_ble_eq_true rfl | omega) only [AXR, AXB, J.dst, reduceIte, Nat.reduceEqDiff, Nat.reduceAdd, Nat.reduceMul, Nat.reduceLT, Nat.reduceLeDiff, f39r1]); rw [f39c2_eq]; (try simp (disch := first | exact Nat.le_of_ble_eq_true rfl | omega) only [AXR, AXB, J.dst, reduceIte, Nat.reduceEqDiff, Nat.reduceAdd, Nat.reduceMul, Nat.reduceLT, Nat.reduceLeDiff, f39r2])
  rw [f39c3_eq]
  refine loop_in (fun n σ h' => Ext h1 h' ∧ ∃ (k m c' : Nat) (a' : Option Addr), k + n = cs.length ∧ m ≤ k ∧ OwnC h1.size h' a' m c' ((cs.take k).filterMap fun c => leftC (settleC by_ yes c)) ∧
      σ = [(2, .bool yes), (4, ptr b1 0), (7, .slice a' m c'), (10, .slice a cs.length c), (11, vi cs.length), (12, vi k)])
    cs.length ⟨Ext.refl _, 0, 0, 0, none, by omega, by omega, OwnC.nil _ _, rfl⟩ ?_
  rintro n σ h' ⟨e2, k, m, c', a', hk, hm, O, rfl⟩ Q' hnx hex hrt _
  have eh := e1.trans e2
  (try simp (disch := first | exact Nat.le_of_ble_eq_true rfl | omega) only [AXR, AXB, J.dst, reduceIte, Nat.reduceEqDiff, Nat.reduceAdd, Nat.reduceMul, Nat.reduceLT, Nat.reduceLeDiff]); rw [f39c4_eq]; (try simp (disch := first | exact Nat.le_of_ble_eq_true rfl | omega) only [AXR, AXB, J.dst, reduceIte, Nat.reduceEqDiff, Nat.reduceAdd, Nat.reduceMul, Nat.reduceLT, Nat.reduceLeDiff, f39r3]); rw [f39c5_eq]; (try simp (disch := first | exact Nat.le_of_ble_eq_true rfl | omega) only [AXR, AXB, J.dst, reduceIte, Nat.reduceEqDiff, Nat.reduceAdd, Nat.reduceMul, Nat.reduceLT, Nat.reduceLeDiff])
  refine ⟨fun h2 => ?_, fun h2 => ?_⟩
  · have hkl : k < cs.length := by have := of_decide_eq_true h2; omega
    obtain ⟨x, hx⟩ := get_ex hkl
    obtain ⟨b, o, v, rfl, _, hrow, hcr⟩ := (S.ext eh).elem hx
    have hxF := F x (List.mem_of_getElem? hx)
    rw [f39c6_eq]
    (try simp (disch := first | exact Nat.le_of_ble_eq_true rfl | omega) only [AXR, AXB, J.dst, reduceIte, Nat.reduceEqDiff, Nat.reduceAdd, Nat.reduceMul, Nat.reduceLT, Nat.reduceLeDiff]); rw [f39c7_eq]; (try simp (disch := first | exact Nat.le_of_ble_eq_true rfl | omega) only [AXR, AXB, J.dst, reduceIte, Nat.reduceEqDiff, Nat.reduceAdd, Nat.reduceMul, Nat.reduceLT, Nat.reduceLeDiff, f39r4, row_cv hrow])
    refine ⟨by omega, by omega, ?_⟩
    refine wL_newN ?_; rintro b4 h4 e4 s4 hb4 B4
    refine wL_stN rfl rfl rfl B4 (by decide) (eCV_one v) ?_; rintro h5 u5 (B5 : Blk _ _ _ (eCV v))
    have e5 := u5.ext e4 (by omega)
    (try simp (disch := first | exact Nat.le_of_ble_eq_true rfl | omega) only [AXR, AXB, J.dst, reduceIte, Nat.reduceEqDiff, Nat.reduceAdd, Nat.reduceMul, Nat.reduceLT, Nat.reduceLeDiff]); rw [f39c8_eq]; (try simp (disch := first | exact Nat.le_of_ble_eq_true rfl | omega) only [AXR, AXB, J.dst, reduceIte, Nat.reduceEqDiff, Nat.reduceAdd, Nat.reduceMul, Nat.reduceLT, Nat.reduceLeDiff, f39r5, B5.rd, eCV])
    refine own_ok v x _ (hcr.ext e5) (by omega) ?_
    intro x' h6 O6 e6
    try simp (disch := first | exact Nat.le_of_ble_eq_true rfl | omega) only [AXR, AXB, J.dst, reduceIte, Nat.reduceEqDiff, Nat.reduceAdd, Nat.reduceMul, Nat.reduceLT, Nat.reduceLeDiff]
    have hb45 := B5.lt
    replace B5 := B5.ext e6
    refine wL_stN rfl rfl rfl B5 (by rw [eCV_len]; exact Nat.le_of_ble_eq_true rfl) (eCV_one x') ?_; rintro h7 u7 (B7 : Blk _ _ _ (eCV x'))
    try simp (disch := first | exact Nat.le_of_ble_eq_true rfl | omega) only [AXR, AXB, J.dst, reduceIte, Nat.reduceEqDiff, Nat.reduceAdd, Nat.reduceMul, Nat.reduceLT, Nat.reduceLeDiff]
    have O7 := O6.box u7 hb45
    have e7 : Ext h' h7 := u7.ext (e5.trans e6) (by omega)
    have hO := O.row
    have hs1 := B1.lt
    have hse := eh.size
    have hs2 := e2.size
    have hs5 := e5.size
    -- what is left is appended
    have app : ∀ (h8 : Heap) (τ : Env) (v8 : CV) (c8 : Cell), Ext h' h8 → Blk h8 b4 103 (eCV v8) → OC h5.size h8 v8 c8 → c8 = settleC by_ yes x →
        wC Try.prog f39c15 (X.inBlock 1 (X.then (fun σ h => wC Try.prog f39c18 Q' σ h) Q')) ((2, .bool yes) :: (4, ptr b1 0) :: (7, .slice a' m c') :: (9, ptr b4 0) :: (10, .slice (some ⟨b, o, none⟩) cs.length c) :: (11, vi cs.length) :: (12, vi k) :: τ) h8 := by
      intro h8 τ v8 c8 e8 B8 O8 hres
      have hw : IntKind.i64.wrap ((k : Int) + 1) = ((k + 1 : Nat) : Int) := i64_wrap (by omega) (by omega)
      have hskip : leftC c8 = none → ∀ τ, wC Try.prog f39c16 (X.inBlock 1 (X.then (fun σ h => wC Try.prog f39c18 Q' σ h) Q')) ((2, .bool yes) :: (4, ptr b1 0) :: (7, .slice a' m c') :: (9, ptr b4 0) :: (10, .slice (some ⟨b, o, none⟩) cs.length c) :: (11, vi cs.length) :: (12, vi k) :: (52, .bool false) :: τ) h8 := by
        intro hl τ
        (try simp (disch := first | exact Nat.le_of_ble_eq_true rfl | omega) only [AXR, AXB, J.dst, reduceIte, Nat.reduceEqDiff, Nat.reduceAdd, Nat.reduceMul, Nat.reduceLT, Nat.reduceLeDiff]); rw [f39c16_eq]; (try simp (disch := first | exact Nat.le_of_ble_eq_true rfl | omega) only [AXR, AXB, J.dst, reduceIte, Nat.reduceEqDiff, Nat.reduceAdd, Nat.reduceMul, Nat.reduceLT, Nat.reduceLeDiff, br_false])
        (try simp (disch := first | exact Nat.le_of_ble_eq_true rfl | omega) only [AXR, AXB, J.dst, reduceIte, Nat.reduceEqDiff, Nat.reduceAdd, Nat.reduceMul, Nat.reduceLT, Nat.reduceLeDiff]); rw [f39c18_eq]; (try simp (disch := first | exact Nat.le_of_ble_eq_true rfl | omega) only [AXR, AXB, J.dst, reduceIte, Nat.reduceEqDiff, Nat.reduceAdd, Nat.reduceMul, Nat.reduceLT, Nat.reduceLeDiff, f39r12, hw])
        refine hnx (n - 1) _ _ (by omega) ⟨e2.trans e8, k + 1, m, c', a', by omega, by omega, ?_, rfl⟩
        rw [List.take_add_one, hx, List.filterMap_append]
        simp only [Option.toList, List.filterMap_cons, List.filterMap_nil, ← hres, hl, List.append_nil]
        exact O.ext e8
      have hkeep : leftC c8 = some c8 → ∀ τ, wC Try.prog f39c16 (X.inBlock 1 (X.then (fun σ h => wC Try.prog f39c18 Q' σ h) Q')) ((2, .bool yes) :: (4, ptr b1 0) :: (7, .slice a' m c') :: (9, ptr b4 0) :: (10, .slice (some ⟨b, o, none⟩) cs.length c) :: (11, vi cs.length) :: (12, vi k) :: (52, .bool true) :: τ) h8 := by
        intro hl τ
        (try simp (disch := first | exact Nat.le_of_ble_eq_true rfl | omega) only [AXR, AXB, J.dst, reduceIte, Nat.reduceEqDiff, Nat.reduceAdd, Nat.reduceMul, Nat.reduceLT, Nat.reduceLeDiff]); rw [f39c16_eq]; (try simp (disch := first | exact Nat.le_of_ble_eq_true rfl | omega) only [AXR, AXB, J.dst, reduceIte, Nat.reduceEqDiff, Nat.reduceAdd, Nat.reduceMul, Nat.reduceLT, Nat.reduceLeDiff, br_true])
        (try simp (disch := first | exact Nat.le_of_ble_eq_true rfl | omega) only [AXR, AXB, J.dst, reduceIte, Nat.reduceEqDiff, Nat.reduceAdd, Nat.reduceMul, Nat.reduceLT, Nat.reduceLeDiff]); rw [f39c17_eq]; (try simp (disch := first | exact Nat.le_of_ble_eq_true rfl | omega) only [AXR, AXB, J.dst, reduceIte, Nat.reduceEqDiff, Nat.reduceAdd, Nat.reduceMul, Nat.reduceLT, Nat.reduceLeDiff, f39r11, B8.rd, eCV])
        refine wL_bslN rfl ?_; rintro b9 h9 e9 s9 hb9 (B9 : Blk _ _ _ (eCV v8))
        try simp (disch := first | exact Nat.le_of_ble_eq_true rfl | omega) only [AXR, AXB, J.dst, reduceIte, Nat.reduceEqDiff, Nat.reduceAdd, Nat.reduceMul, Nat.reduceLT, Nat.reduceLeDiff]
        rw [wL_raw]
        have e89 := e8.trans e9
        have hs89 := e89.size
        refine raw_push rfl rfl rfl (O.ext e89) B9 ((O8.ext e9).cr.to fun b hb => ⟨⟨?_, hb.2.1, ?_⟩, rfl⟩) (by omega) (by omega) ?_
        · omega
        · intro e; have := hO b e.symm; omega
        intro a10 c10 h10 O10 G10 A10
        refine ⟨trivial, ?_⟩
        try simp (disch := first | exact Nat.le_of_ble_eq_true rfl | omega) only [AXR, AXB, J.dst, reduceIte, Nat.reduceEqDiff, Nat.reduceAdd, Nat.reduceMul, Nat.reduceLT, Nat.reduceLeDiff]
        (try simp (disch := first | exact Nat.le_of_ble_eq_true rfl | omega) only [AXR, AXB, J.dst, reduceIte, Nat.reduceEqDiff, Nat.reduceAdd, Nat.reduceMul, Nat.reduceLT, Nat.reduceLeDiff]); rw [f39c18_eq]; (try simp (disch := first | exact Nat.le_of_ble_eq_true rfl | omega) only [AXR, AXB, J.dst, reduceIte, Nat.reduceEqDiff, Nat.reduceAdd, Nat.reduceMul, Nat.reduceLT, Nat.reduceLeDiff, f39r12, hw])
        refine hnx (n - 1) _ _ (by omega) ⟨G10.ext (e2.trans e89) (fun j hj => (hO j hj).1), k + 1, m + 1, c10, a10, by omega, by omega, ?_, rfl⟩
        rw [List.take_add_one, hx, List.filterMap_append]
        simp only [Option.toList, List.filterMap_cons, List.filterMap_nil, ← hres, hl]
        exact O10
      (try simp (disch := first | exact Nat.le_of_ble_eq_true rfl | omega) only [AXR, AXB, J.dst, reduceIte, Nat.reduceEqDiff, Nat.reduceAdd, Nat.reduceMul, Nat.reduceLT, Nat.reduceLeDiff]); rw [f39c15_eq]; (try simp (disch := first | exact Nat.le_of_ble_eq_true rfl | omega) only [AXR, AXB, J.dst, reduceIte, Nat.reduceEqDiff, Nat.reduceAdd, Nat.reduceMul, Nat.reduceLT, Nat.reduceLeDiff, f39r10, B8.cel, eCV])
      have hlk := O8.locked
      rw [vers_pos c8 O8.vn, hlk]
      refine ⟨fun hl => hkeep (by simp [leftC, hl]) [], fun hl => ?_⟩
      by_cases hv : c8.vers = []
      · rw [decide_eq_false (by simp [hv])]
        exact hskip (by simp [leftC, hl, hv]) []
      · rw [decide_eq_true hv]
        exact hkeep (by simp [leftC, hv]) []
    -- the lock is taken away
    have clr : ∀ (h8 : Heap) (τ : Env) (v8 : CV) (c8 : Cell), Ext h' h8 → Blk h8 b4 103 (eCV v8) → OC h5.size h8 v8 c8 → (⟨c8.key, c8.vers, false, noLock⟩ : Cell) = settleC by_ yes x →
        wC Try.prog f39c14 (X.then (fun σ h => wC Try.prog f39c15 (X.inBlock 1 (X.then (fun σ h => wC Try.prog f39c18 Q' σ h) Q')) σ h) (X.inBlock 1 (X.then (fun σ h => wC Try.prog f39c18 Q' σ h) Q')))
          ((2, .bool yes) :: (4, ptr b1 0) :: (7, .slice a' m c') :: (9, ptr b4 0) :: (10, .slice (some ⟨b, o, none⟩) cs.length c) :: (11, vi cs.length) :: (12, vi k) :: τ) h8 := by
      intro h8 τ v8 c8 e8 B8 O8 hres
      (try simp (disch := first | exact Nat.le_of_ble_eq_true rfl | omega) only [AXR, AXB, J.dst, reduceIte, Nat.reduceEqDiff, Nat.reduceAdd, Nat.reduceMul, Nat.reduceLT, Nat.reduceLeDiff]); rw [f39c14_eq]; (try simp (disch := first | exact Nat.le_of_ble_eq_true rfl | omega) only [AXR, AXB, J.dst, reduceIte, Nat.reduceEqDiff, Nat.reduceAdd, Nat.reduceMul, Nat.reduceLT, Nat.reduceLeDiff, f39r9])
      refine wL_stN rfl rfl rfl B8 (by rw [eCV_len]; exact Nat.le_of_ble_eq_true rfl) (one_b _) ?_
      rintro h9 u9 B9
      try simp (disch := first | exact Nat.le_of_ble_eq_true rfl | omega) only [AXR, AXB, J.dst, reduceIte, Nat.reduceEqDiff, Nat.reduceAdd, Nat.reduceMul, Nat.reduceLT, Nat.reduceLeDiff]
      refine wL_stN rfl rfl rfl B9 (by rw [putL_length, eCV_len]; exact Nat.le_of_ble_eq_true rfl) (one_lck noLock) ?_
      rintro h10 u10 (B10 : Blk _ _ _ (eCV { v8 with locked := false, lock := noLock }))
      try simp (disch := first | exact Nat.le_of_ble_eq_true rfl | omega) only [AXR, AXB, J.dst, reduceIte, Nat.reduceEqDiff, Nat.reduceAdd, Nat.reduceMul, Nat.reduceLT, Nat.reduceLeDiff]
      have O10 := (O8.box u9 hb45).box u10 hb45
      exact app h10 [] { v8 with locked := false, lock := noLock } ⟨c8.key, c8.vers, false, noLock⟩ (u10.ext (u9.ext e8 (by omega)) (by omega)) B10 ⟨O8.key, rfl, rfl, O8.vn, O10.vers⟩ hres
    have B17 : Blk h7 b1 37 (eTry by_) := B1.ext (e2.trans e7)
    (try simp (disch := first | exact Nat.le_of_ble_eq_true rfl | omega) only [AXR, AXB, J.dst, reduceIte, Nat.reduceEqDiff, Nat.reduceAdd, Nat.reduceMul, Nat.reduceLT, Nat.reduceLeDiff]); rw [f39c9_eq]; (try simp (disch := first | exact Nat.le_of_ble_eq_true rfl | omega) only [AXR, AXB, J.dst, reduceIte, Nat.reduceEqDiff, Nat.reduceAdd, Nat.reduceMul, Nat.reduceLT, Nat.reduceLeDiff, f39r6, B7.cel, B7.rd, B17.rd, eCV, eTry, eqA_try, O7.locked, O7.lock])
    have hno : (x.locked && decide (x.lock.by_ = by_)) = false → wC Try.prog f39c10 (X.inBlock 1 (X.then (fun σ h => wC Try.prog f39c18 Q' σ h) Q'))
      [(2, .bool yes), (4, ptr b1 0), (7, .slice a' m c'), (9, ptr b4 0), (10, .slice (some ⟨b, o, none⟩) cs.length c), (11, vi cs.length), (12, vi k), (26, .bool false)] h7 := by
      intro hf
      (try simp (disch := first | exact Nat.le_of_ble_eq_true rfl | omega) only [AXR, AXB, J.dst, reduceIte, Nat.reduceEqDiff, Nat.reduceAdd, Nat.reduceMul, Nat.reduceLT, Nat.reduceLeDiff]); rw [f39c10_eq]; (try simp (disch := first | exact Nat.le_of_ble_eq_true rfl | omega) only [AXR, AXB, J.dst, reduceIte, Nat.reduceEqDiff, Nat.reduceAdd, Nat.reduceMul, Nat.reduceLT, Nat.reduceLeDiff, br_false])
      exact app h7 [(26, .bool false)] x' x e7 B7 O7 (by unfold settleC; rw [if_neg (by simp [hf])])
    refine ⟨fun hl => ?_, fun hl => hno (by simp [hl])⟩
    by_cases hby : x.lock.by_ = by_
    · rw [decide_eq_true hby]
      have hset : settleC by_ yes x = ⟨x.key, if yes then putV x.vers (verL x.lock) else x.vers, false, noLock⟩ := by
        unfold settleC; rw [if_pos (by simp [hl, hby])]
      (try simp (disch := first | exact Nat.le_of_ble_eq_true rfl | omega) only [AXR, AXB, J.dst, reduceIte, Nat.reduceEqDiff, Nat.reduceAdd, Nat.reduceMul, Nat.reduceLT, Nat.reduceLeDiff]); rw [f39c10_eq]; (try simp (disch := first | exact Nat.le_of_ble_eq_true rfl | omega) only [AXR, AXB, J.dst, reduceIte, Nat.reduceEqDiff, Nat.reduceAdd, Nat.reduceMul, Nat.reduceLT, Nat.reduceLeDiff, br_true])
      (try simp (disch := first | exact Nat.le_of_ble_eq_true rfl | omega) only [AXR, AXB, J.dst, reduceIte, Nat.reduceEqDiff, Nat.reduceAdd, Nat.reduceMul, Nat.reduceLT, Nat.reduceLeDiff]); rw [f39c11_eq]; (try simp (disch := first | exact Nat.le_of_ble_eq_true rfl | omega) only [AXR, AXB, J.dst, reduceIte, Nat.reduceEqDiff, Nat.reduceAdd, Nat.reduceMul, Nat.reduceLT, Nat.reduceLeDiff, f39r7]); rw [f39c12_eq]; (try simp (disch := first | exact Nat.le_of_ble_eq_true rfl | omega) only [AXR, AXB, J.dst, reduceIte, Nat.reduceEqDiff, Nat.reduceAdd, Nat.reduceMul, Nat.reduceLT, Nat.reduceLeDiff])
      refine ⟨fun hy => ?_, fun hy => ?_⟩
      · (try simp (disch := first | exact Nat.le_of_ble_eq_true rfl | omega) only [AXR, AXB, J.dst, reduceIte, Nat.reduceEqDiff, Nat.reduceAdd, Nat.reduceMul, Nat.reduceLT, Nat.reduceLeDiff]); rw [f39c13_eq]; (try simp (disch := first | exact Nat.le_of_ble_eq_true rfl | omega) only [AXR, AXB, J.dst, reduceIte, Nat.reduceEqDiff, Nat.reduceAdd, Nat.reduceMul, Nat.reduceLT, Nat.reduceLeDiff, f39r8, B7.cel, B7.rd, eCV, O7.lock])
        have hO7 := O7.vers.ob
        refine put_ok (lo := h5.size) x.vers (verL x.lock) _ O7.vers O7.vn (by omega) (by have := u7.size; have := e6.size; omega) ?_
        intro a8 n8 c8 h8 O8 hn8 G8 A8
        try simp (disch := first | exact Nat.le_of_ble_eq_true rfl | omega) only [AXR, AXB, J.dst, reduceIte, Nat.reduceEqDiff, Nat.reduceAdd, Nat.reduceMul, Nat.reduceLT, Nat.reduceLeDiff]
        have B8 := G8.blk B7 (fun e => by have := hO7 b4 e.symm; omega)
        have e8 : Ext h' h8 := G8.ext e7 (fun j hj => by have := hO7 j hj; omega)
        have hO8 := O8.ob
        refine wL_stN rfl rfl rfl B8 (by rw [eCV_len]; exact Nat.le_of_ble_eq_true rfl) (one_sl _ _ _) ?_
        rintro h9 u9 (B9 : Blk _ _ _ (eCV { x' with va := a8, vn := n8, vc := c8 }))
        try simp (disch := first | exact Nat.le_of_ble_eq_true rfl | omega) only [AXR, AXB, J.dst, reduceIte, Nat.reduceEqDiff, Nat.reduceAdd, Nat.reduceMul, Nat.reduceLT, Nat.reduceLeDiff]
        have O9 := O8.gr u9.gr (fun j hj => by have := hO8 j hj; intro e; cases e; omega)
        exact clr h9 [] { x' with va := a8, vn := n8, vc := c8 } ⟨x.key, putV x.vers (verL x.lock), x.locked, x.lock⟩ (u9.ext e8 (by omega)) B9 ⟨O7.key, O7.locked, O7.lock, hn8, O9⟩ (by rw [hset, hy]; rfl)
      · try simp (disch := first | exact Nat.le_of_ble_eq_true rfl | omega) only [AXR, AXB, J.dst, reduceIte, Nat.reduceEqDiff, Nat.reduceAdd, Nat.reduceMul, Nat.reduceLT, Nat.reduceLeDiff]
        exact clr h7 _ x' x e7 B7 O7 (by rw [hset, hy]; rfl)
    · rw [decide_eq_false hby]
      exact hno (by simp [hby])
  · have hkl : k = cs.length := by have := of_decide_eq_false h2; omega
    subst hkl
    refine hex _ _ ?_
    (try simp (disch := first | exact Nat.le_of_ble_eq_true rfl | omega) only [AXR, AXB, J.dst, reduceIte, Nat.reduceEqDiff, Nat.reduceAdd, Nat.reduceMul, Nat.reduceLT, Nat.reduceLeDiff]); rw [f39c19_eq]; (try simp (disch := first | exact Nat.le_of_ble_eq_true rfl | omega) only [AXR, AXB, J.dst, reduceIte, Nat.reduceEqDiff, Nat.reduceAdd, Nat.reduceMul, Nat.reduceLT, Nat.reduceLeDiff, f39r13])
    rw [List.take_length] at O
    exact hR _ _ _ _ (O.mono e1.size) eh
end Go.Proofs.Ytefghfgmkndikaa
namespace Go.AX
open Go
/-- How many versions a trim takes away. -/
def cutV (vs : List Ver) (below : Stamp) : Nat :=
  if lastV vs below < 0 then 0 else if (vs.getD (lastV vs below).toNat default).drop then (lastV vs below).toNat + 1 else (lastV vs below).toNat
def trimC (below : Stamp) (c : Cell) : Cell := { c with vers := c.vers.drop (cutV c.vers below) }
def trimL (cs : List Cell) (below : Stamp) : List Cell := cs.filterMap fun c => leftC (trimC below c)
theorem cutV_le (vs : List Ver) (t : Stamp) : cutV vs t ≤ vs.length := by
  have := lastV_le vs t
  unfold cutV
  split
  · omega
  · split <;> omega
theorem SlF.of_drop {lo : Nat} {h : Heap} {a a' : Option Addr} {n c : Nat} {vs : List Ver} (O : Own lo h 108 4 a n c (vs.flatMap eVer)) (hn : n = vs.length) {l : Nat} (ha : l < c → a' = a.map (·.add (l * 4))) :
    SlF (fun b => lo ≤ b ∧ b < h.size ∧ ob a = some b) h eVer a' (vs.drop l) := by
  intro hne
  have hlt : l < vs.length := by
    rcases Nat.lt_or_ge l vs.length with h | h
    · exact h
    · exact absurd (List.drop_of_length_le h) hne
  obtain ⟨hr1, _⟩ := O.room
  obtain ⟨g, rfl, hg, hrow⟩ := O.row (by omega)
  refine ⟨g, l * 4, by rw [ha (by omega), Option.map_some, add_mk, Nat.zero_add], ⟨hg, (O.ob g rfl).2, rfl⟩, ?_⟩
  have := hrow.sub (l * 4) ((vs.flatMap eVer).length - l * 4)
  rw [List.take_of_length_le (by rw [List.length_drop]; omega), flatMap_drop eVer_len, Nat.zero_add] at this
  exact this
end Go.AX
namespace Go.Proofs.Ytefghfgmkndikaa
open Go Go.AX
theorem trim_ok {B : Nat → Prop} {a : Option Addr} {c : Nat} (cs : List Cell) (below : Stamp) (h : Heap) (S : SlC B h a cs) (hn : cs.length ≤ big) (F : ∀ c ∈ cs, c.vers.length < big) {R : Value → Heap → Prop}
    (hR : ∀ a' n' c' h', OwnC h.size h' a' n' c' (trimL cs below) → Ext h h' → R (.slice a' n' c') h') : CallsH Try.prog 46 [.slice a cs.length c, .agg (eStamp below).toArray] h R := by
  have hbig : big = 1000000 := rfl
  refine f46ok (by simp) ?_
  (try simp (disch := first | exact Nat.le_of_ble_eq_true rfl | omega) only [AXR, AXB, J.dst, reduceIte, Nat.reduceEqDiff, Nat.reduceAdd, Nat.reduceMul, Nat.reduceLT, Nat.reduceLeDiff]); rw [f46c0_eq]; (try simp (disch := first | exact Nat.le_of_ble_eq_true rfl | omega) only [AXR, AXB, J.dst, reduceIte, Nat.reduceEqDiff, Nat.reduceAdd, Nat.reduceMul, Nat.reduceLT, Nat.reduceLeDiff, f46r0])
  refine wL_boxN rfl ?_; rintro b1 h1 e1 s1 hb1 (B1 : Blk _ _ _ (eStamp below))
  (try simp (disch := first | exact Nat.le_of_ble_eq_true rfl | omega) only [AXR, AXB, J.dst, reduceIte, Nat.reduceEqDiff, Nat.reduceAdd, Nat.reduceMul, Nat.reduceLT, Nat.reduceLeDiff]); rw [f46c1_eq]; (try simp (disch := first | exact Nat.le_of_ble_eq_true rfl | omega) only [AXR, AXB, J.dst, reduceIte, Nat.reduceEqDiff, Nat.reduceAdd, Nat.reduceMul, Nat.reduceLT, Nat.reduceLeDiff, f46r1]); rw [f46c2_eq]; (try simp (disch := first | exact Nat.le_of_ble_eq_true rfl | omega) only [AXR, AXB, J.dst, reduceIte, Nat.reduceEqDiff, Nat.reduceAdd, Nat.reduceMul, Nat.reduceLT, Nat.reduceLeDiff, f46r2])
  rw [f46c3_eq]
  refine loop_in (fun n σ h' => Ext h1 h' ∧ ∃ (k m c' : Nat) (a' : Option Addr), k + n = cs.length ∧ m ≤ k ∧ OwnC h1.size h' a' m c' ((cs.take k).filterMap fun c => leftC (trimC below c)) ∧
      σ = [(3, ptr b1 0), (5, .slice a' m c'), (9, .slice a cs.length c), (10, vi cs.length), (11, vi k)])
    cs.length ⟨Ext.refl _, 0, 0, 0, none, by omega, by omega, OwnC.nil _ _, rfl⟩ ?_
  rintro n σ h' ⟨e2, k, m, c', a', hk, hm, O, rfl⟩ Q' hnx hex hrt _
  have eh := e1.trans e2
  (try simp (disch := first | exact Nat.le_of_ble_eq_true rfl | omega) only [AXR, AXB, J.dst, reduceIte, Nat.reduceEqDiff, Nat.reduceAdd, Nat.reduceMul, Nat.reduceLT, Nat.reduceLeDiff]); rw [f46c4_eq]; (try simp (disch := first | exact Nat.le_of_ble_eq_true rfl | omega) only [AXR, AXB, J.dst, reduceIte, Nat.reduceEqDiff, Nat.reduceAdd, Nat.reduceMul, Nat.reduceLT, Nat.reduceLeDiff, f46r3]); rw [f46c5_eq]; (try simp (disch := first | exact Nat.le_of_ble_eq_true rfl | omega) only [AXR, AXB, J.dst, reduceIte, Nat.reduceEqDiff, Nat.reduceAdd, Nat.reduceMul, Nat.reduceLT, Nat.reduceLeDiff])
  refine ⟨fun h2 => ?_, fun h2 => ?_⟩
  · have hkl : k < cs.length := by have := of_decide_eq_true h2; omega
    obtain ⟨x, hx⟩ := get_ex hkl
    obtain ⟨b, o, v, rfl, _, hrow, hcr⟩ := (S.ext eh).elem hx
    have hxF := F x (List.mem_of_getElem? hx)
    rw [f46c6_eq]
    (try simp (disch := first | exact Nat.le_of_ble_eq_true rfl | omega) only [AXR, AXB, J.dst, reduceIte, Nat.reduceEqDiff, Nat.reduceAdd, Nat.reduceMul, Nat.reduceLT, Nat.reduceLeDiff]); rw [f46c7_eq]; (try simp (disch := first | exact Nat.le_of_ble_eq_true rfl | omega) only [AXR, AXB, J.dst, reduceIte, Nat.reduceEqDiff, Nat.reduceAdd, Nat.reduceMul, Nat.reduceLT, Nat.reduceLeDiff, f46r4, row_cv hrow])
    refine ⟨by omega, by omega, ?_⟩
    refine wL_newN ?_; rintro b4 h4 e4 s4 hb4 B4
    refine wL_stN rfl rfl rfl B4 (by decide) (eCV_one v) ?_; rintro h5 u5 (B5 : Blk _ _ _ (eCV v))
    have e5 := u5.ext e4 (by omega)
    (try simp (disch := first | exact Nat.le_of_ble_eq_true rfl | omega) only [AXR, AXB, J.dst, reduceIte, Nat.reduceEqDiff, Nat.reduceAdd, Nat.reduceMul, Nat.reduceLT, Nat.reduceLeDiff]); rw [f46c8_eq]; (try simp (disch := first | exact Nat.le_of_ble_eq_true rfl | omega) only [AXR, AXB, J.dst, reduceIte, Nat.reduceEqDiff, Nat.reduceAdd, Nat.reduceMul, Nat.reduceLT, Nat.reduceLeDiff, f46r5, B5.rd, eCV])
    refine own_ok v x _ (hcr.ext e5) (by omega) ?_
    intro x' h6 O6 e6
    try simp (disch := first | exact Nat.le_of_ble_eq_true rfl | omega) only [AXR, AXB, J.dst, reduceIte, Nat.reduceEqDiff, Nat.reduceAdd, Nat.reduceMul, Nat.reduceLT, Nat.reduceLeDiff]
    have hb45 := B5.lt
    replace B5 := B5.ext e6
    refine wL_stN rfl rfl rfl B5 (by rw [eCV_len]; exact Nat.le_of_ble_eq_true rfl) (eCV_one x') ?_; rintro h7 u7 (B7 : Blk _ _ _ (eCV x'))
    try simp (disch := first | exact Nat.le_of_ble_eq_true rfl | omega) only [AXR, AXB, J.dst, reduceIte, Nat.reduceEqDiff, Nat.reduceAdd, Nat.reduceMul, Nat.reduceLT, Nat.reduceLeDiff]
    have O7 := O6.box u7 hb45
    have e7 : Ext h' h7 := u7.ext (e5.trans e6) (by omega)
    have hO := O.row
    have hs1 := B1.lt
    have hse := eh.size
    have hs2 := e2.size
    have hs5 := e5.size
    -- what is left is appended
    have app : ∀ (h8 : Heap) (τ : Env) (v8 : CV) (c8 : Cell), Ext h' h8 → Blk h8 b4 103 (eCV v8) → CR (fun b => h5.size ≤ b ∧ b < h8.size) h8 v8 c8 → c8 = trimC below x →
        AX.look τ 3 = some (ptr b1 0) → AX.look τ 5 = some (.slice a' m c') → AX.look τ 7 = some (ptr b4 0) → AX.look τ 9 = some (.slice (some ⟨b, o, none⟩) cs.length c) → AX.look τ 10 = some (vi cs.length) → AX.look τ 11 = some (vi k) →
        wC Try.prog f46c16 (X.inBlock 1 (X.then (fun σ h => wC Try.prog f46c19 Q' σ h) Q')) τ h8 := by
      intro h8 τ v8 c8 e8 B8 O8 hres l3 l5 l7 l9 l10 l11
      have hw : IntKind.i64.wrap ((k : Int) + 1) = ((k + 1 : Nat) : Int) := i64_wrap (by omega) (by omega)
      have hskip : leftC c8 = none → wC Try.prog f46c17 (X.inBlock 1 (X.then (fun σ h => wC Try.prog f46c19 Q' σ h) Q')) [(3, ptr b1 0), (5, .slice a' m c'), (7, ptr b4 0), (9, .slice (some ⟨b, o, none⟩) cs.length c), (10, vi cs.length), (11, vi k), (43, .bool false)] h8 := by
        intro hl
        (try simp (disch := first | exact Nat.le_of_ble_eq_true rfl | omega) only [AXR, AXB, J.dst, reduceIte, Nat.reduceEqDiff, Nat.reduceAdd, Nat.reduceMul, Nat.reduceLT, Nat.reduceLeDiff]); rw [f46c17_eq]; (try simp (disch := first | exact Nat.le_of_ble_eq_true rfl | omega) only [AXR, AXB, J.dst, reduceIte, Nat.reduceEqDiff, Nat.reduceAdd, Nat.reduceMul, Nat.reduceLT, Nat.reduceLeDiff, br_false])
        (try simp (disch := first | exact Nat.le_of_ble_eq_true rfl | omega) only [AXR, AXB, J.dst, reduceIte, Nat.reduceEqDiff, Nat.reduceAdd, Nat.reduceMul, Nat.reduceLT, Nat.reduceLeDiff]); rw [f46c19_eq]; (try simp (disch := first | exact Nat.le_of_ble_eq_true rfl | omega) only [AXR, AXB, J.dst, reduceIte, Nat.reduceEqDiff, Nat.reduceAdd, Nat.reduceMul, Nat.reduceLT, Nat.reduceLeDiff, f46r13, hw])
        refine hnx (n - 1) _ _ (by omega) ⟨e2.trans e8, k + 1, m, c', a', by omega, by omega, ?_, rfl⟩
        rw [List.take_add_one, hx, List.filterMap_append]
        simp only [Option.toList, List.filterMap_cons, List.filterMap_nil, ← hres, hl, List.append_nil]
        exact O.ext e8
      have hkeep : leftC c8 = some c8 → wC Try.prog f46c17 (X.inBlock 1 (X.then (fun σ h => wC Try.prog f46c19 Q' σ h) Q')) [(3, ptr b1 0), (5, .slice a' m c'), (7, ptr b4 0), (9, .slice (some ⟨b, o, none⟩) cs.length c), (10, vi cs.length), (11, vi k), (43, .bool true)] h8 := by
        intro hl
        (try simp (disch := first | exact Nat.le_of_ble_eq_true rfl | omega) only [AXR, AXB, J.dst, reduceIte, Nat.reduceEqDiff, Nat.reduceAdd, Nat.reduceMul, Nat.reduceLT, Nat.reduceLeDiff]); rw [f46c17_eq]; (try simp (disch := first | exact Nat.le_of_ble_eq_true rfl | omega) only [AXR, AXB, J.dst, reduceIte, Nat.reduceEqDiff, Nat.reduceAdd, Nat.reduceMul, Nat.reduceLT, Nat.reduceLeDiff, br_true])
        (try simp (disch := first | exact Nat.le_of_ble_eq_true rfl | omega) only [AXR, AXB, J.dst, reduceIte, Nat.reduceEqDiff, Nat.reduceAdd, Nat.reduceMul, Nat.reduceLT, Nat.reduceLeDiff]); rw [f46c18_eq]; (try simp (disch := first | exact Nat.le_of_ble_eq_true rfl | omega) only [AXR, AXB, J.dst, reduceIte, Nat.reduceEqDiff, Nat.reduceAdd, Nat.reduceMul, Nat.reduceLT, Nat.reduceLeDiff, f46r12, B8.rd, eCV])
        refine wL_bslN rfl ?_; rintro b9 h9 e9 s9 hb9 (B9 : Blk _ _ _ (eCV v8))
        try simp (disch := first | exact Nat.le_of_ble_eq_true rfl | omega) only [AXR, AXB, J.dst, reduceIte, Nat.reduceEqDiff, Nat.reduceAdd, Nat.reduceMul, Nat.reduceLT, Nat.reduceLeDiff]
        rw [wL_raw]
        have e89 := e8.trans e9
        have hs89 := e89.size
        refine raw_push rfl rfl rfl (O.ext e89) B9 (O8.to fun b hb => ⟨⟨?_, ?_, ?_⟩, e9.at_ b hb.2⟩) (by omega) (by omega) ?_
        · omega
        · have := e9.size; omega
        · intro e; have := hO b e.symm; omega
        intro a10 c10 h10 O10 G10 A10
        refine ⟨trivial, ?_⟩
        try simp (disch := first | exact Nat.le_of_ble_eq_true rfl | omega) only [AXR, AXB, J.dst, reduceIte, Nat.reduceEqDiff, Nat.reduceAdd, Nat.reduceMul, Nat.reduceLT, Nat.reduceLeDiff]
        (try simp (disch := first | exact Nat.le_of_ble_eq_true rfl | omega) only [AXR, AXB, J.dst, reduceIte, Nat.reduceEqDiff, Nat.reduceAdd, Nat.reduceMul, Nat.reduceLT, Nat.reduceLeDiff]); rw [f46c19_eq]; (try simp (disch := first | exact Nat.le_of_ble_eq_true rfl | omega) only [AXR, AXB, J.dst, reduceIte, Nat.reduceEqDiff, Nat.reduceAdd, Nat.reduceMul, Nat.reduceLT, Nat.reduceLeDiff, f46r13, hw])
        refine hnx (n - 1) _ _ (by omega) ⟨G10.ext (e2.trans e89) (fun j hj => (hO j hj).1), k + 1, m + 1, c10, a10, by omega, by omega, ?_, rfl⟩
        rw [List.take_add_one, hx, List.filterMap_append]
        simp only [Option.toList, List.filterMap_cons, List.filterMap_nil, ← hres, hl]
        exact O10
      (try simp (disch := first | exact Nat.le_of_ble_eq_true rfl | omega) only [AXR, AXB, J.dst, reduceIte, Nat.reduceEqDiff, Nat.reduceAdd, Nat.reduceMul, Nat.reduceLT, Nat.reduceLeDiff]); rw [f46c16_eq]; (try simp (disch := first | exact Nat.le_of_ble_eq_true rfl | omega) only [AXR, AXB, J.dst, reduceIte, Nat.reduceEqDiff, Nat.reduceAdd, Nat.reduceMul, Nat.reduceLT, Nat.reduceLeDiff, f46r11, B8.cel, eCV, l3, l5, l7, l9, l10, l11])
      have hlk := O8.locked
      rw [vers_pos c8 O8.vn, hlk]
      refine ⟨fun hl => hkeep (by simp [leftC, hl]), fun hl => ?_⟩
      by_cases hv : c8.vers = []
      · rw [decide_eq_false (by simp [hv])]
        exact hskip (by simp [leftC, hl, hv])
      · rw [decide_eq_true hv]
        exact hkeep (by simp [leftC, hv])
    have B17 : Blk h7 b1 39 (eStamp below) := B1.ext (e2.trans e7)
    (try simp (disch := first | exact Nat.le_of_ble_eq_true rfl | omega) only [AXR, AXB, J.dst, reduceIte, Nat.reduceEqDiff, Nat.reduceAdd, Nat.reduceMul, Nat.reduceLT, Nat.reduceLeDiff]); rw [f46c9_eq]; (try simp (disch := first | exact Nat.le_of_ble_eq_true rfl | omega) only [AXR, AXB, J.dst, reduceIte, Nat.reduceEqDiff, Nat.reduceAdd, Nat.reduceMul, Nat.reduceLT, Nat.reduceLeDiff, f46r6, B7.cel, B7.rd, B17.rd, eCV, eStamp, O7.vn])
    refine last_ok x.vers below _ (SlF.of_own O7.vers O7.vn) (by unfold maxLen; omega) ?_
    intro h8 e8
    try simp (disch := first | exact Nat.le_of_ble_eq_true rfl | omega) only [AXR, AXB, J.dst, reduceIte, Nat.reduceEqDiff, Nat.reduceAdd, Nat.reduceMul, Nat.reduceLT, Nat.reduceLeDiff]
    have e78 := e7.trans e8
    have hlv := lastV_le x.vers below
    have B8 := B7.ext e8
    have O8 := O7.ext e8
    (try simp (disch := first | exact Nat.le_of_ble_eq_true rfl | omega) only [AXR, AXB, J.dst, reduceIte, Nat.reduceEqDiff, Nat.reduceAdd, Nat.reduceMul, Nat.reduceLT, Nat.reduceLeDiff]); rw [f46c10_eq]; (try simp (disch := first | exact Nat.le_of_ble_eq_true rfl | omega) only [AXR, AXB, J.dst, reduceIte, Nat.reduceEqDiff, Nat.reduceAdd, Nat.reduceMul, Nat.reduceLT, Nat.reduceLeDiff, f46r7]); rw [f46c11_eq]; (try simp (disch := first | exact Nat.le_of_ble_eq_true rfl | omega) only [AXR, AXB, J.dst, reduceIte, Nat.reduceEqDiff, Nat.reduceAdd, Nat.reduceMul, Nat.reduceLT, Nat.reduceLeDiff])
    refine ⟨fun h2 => ?_, fun h2 => ?_⟩
    · have hpos : 0 ≤ lastV x.vers below := of_decide_eq_true h2
      obtain ⟨i, hi⟩ : ∃ i : Nat, lastV x.vers below = i := ⟨(lastV x.vers below).toNat, by omega⟩
      rw [hi] at hlv
      obtain ⟨u, hu⟩ := get_ex (show i < x.vers.length by omega)
      obtain ⟨b', o', ha, _, hrow'⟩ := (SlF.of_own O8.vers O8.vn).elem eVer_len hu
      have hcut : cutV x.vers below = if u.drop then i + 1 else i := by
        unfold cutV
        rw [hi, if_neg (by omega), Int.toNat_natCast, getD_of hu]
      have sli : ∀ (l : Nat) (τ : Env), l = cutV x.vers below → wC Try.prog f46c15 (X.then (fun σ h => wC Try.prog f46c16 (X.inBlock 1 (X.then (fun σ h => wC Try.prog f46c19 Q' σ h) Q')) σ h) (X.inBlock 1 (X.then (fun σ h => wC Try.prog f46c19 Q' σ h) Q')))
          ((3, ptr b1 0) :: (5, .slice a' m c') :: (7, ptr b4 0) :: (8, vi l) :: (9, .slice (some ⟨b, o, none⟩) cs.length c) :: (10, vi cs.length) :: (11, vi k) :: τ) h8 := by
        intro l τ hl
        have hll := cutV_le x.vers below
        rw [← hl] at hll
        have hroom := O8.vers.room
        have hvn := O8.vn
        (try simp (disch := first | exact Nat.le_of_ble_eq_true rfl | omega) only [AXR, AXB, J.dst, reduceIte, Nat.reduceEqDiff, Nat.reduceAdd, Nat.reduceMul, Nat.reduceLT, Nat.reduceLeDiff]); rw [f46c15_eq]; (try simp (disch := first | exact Nat.le_of_ble_eq_true rfl | omega) only [AXR, AXB, J.dst, reduceIte, Nat.reduceEqDiff, Nat.reduceAdd, Nat.reduceMul, Nat.reduceLT, Nat.reduceLeDiff, f46r10, B8.cel, eCV])
        refine slc_lo' (l := l) (by omega) hroom.1 ?_
        intro a9 ha9
        try simp (disch := first | exact Nat.le_of_ble_eq_true rfl | omega) only [AXR, AXB, J.dst, reduceIte, Nat.reduceEqDiff, Nat.reduceAdd, Nat.reduceMul, Nat.reduceLT, Nat.reduceLeDiff]
        refine wL_stN rfl rfl rfl B8 (by rw [eCV_len]; exact Nat.le_of_ble_eq_true rfl) (one_sl _ _ _) ?_
        rintro h9 u9 (B9 : Blk _ _ _ (eCV { x' with va := a9, vn := x'.vn - l, vc := x'.vc - l }))
        try simp (disch := first | exact Nat.le_of_ble_eq_true rfl | omega) only [AXR, AXB, J.dst, reduceIte, Nat.reduceEqDiff, Nat.reduceAdd, Nat.reduceMul, Nat.reduceLT, Nat.reduceLeDiff]
        refine app h9 _ { x' with va := a9, vn := x'.vn - l, vc := x'.vc - l } (trimC below x) (u9.ext e78 (by omega)) B9 ?_ rfl rfl rfl rfl rfl rfl rfl
        refine ⟨O8.key, O8.locked, O8.lock, ?_, Nat.sub_le_sub_right hroom.1 l, ?_⟩
        · show x'.vn - l = (x.vers.drop _).length
          rw [List.length_drop, ← hl, hvn]
        · show SlF _ _ _ _ (x.vers.drop _)
          rw [← hl]
          refine (SlF.of_drop O8.vers hvn ha9).to fun b hb => ⟨⟨hb.1, by rw [u9.size]; exact hb.2.1⟩, u9.ne b (by omega)⟩
      (try simp (disch := first | exact Nat.le_of_ble_eq_true rfl | omega) only [AXR, AXB, J.dst, reduceIte, Nat.reduceEqDiff, Nat.reduceAdd, Nat.reduceMul, Nat.reduceLT, Nat.reduceLeDiff]); rw [f46c12_eq]; (try simp (disch := first | exact Nat.le_of_ble_eq_true rfl | omega) only [AXR, AXB, J.dst, reduceIte, Nat.reduceEqDiff, Nat.reduceAdd, Nat.reduceMul, Nat.reduceLT, Nat.reduceLeDiff, f46r8, B8.cel, eCV, ha, hi, O8.vn, row_ver hrow'])
      refine ⟨by omega, by omega, ?_⟩
      (try simp (disch := first | exact Nat.le_of_ble_eq_true rfl | omega) only [AXR, AXB, J.dst, reduceIte, Nat.reduceEqDiff, Nat.reduceAdd, Nat.reduceMul, Nat.reduceLT, Nat.reduceLeDiff]); rw [f46c13_eq]; (try simp (disch := first | exact Nat.le_of_ble_eq_true rfl | omega) only [AXR, AXB, J.dst, reduceIte, Nat.reduceEqDiff, Nat.reduceAdd, Nat.reduceMul, Nat.reduceLT, Nat.reduceLeDiff])
      refine ⟨fun hd => ?_, fun hd => ?_⟩
      · (try simp (disch := first | exact Nat.le_of_ble_eq_true rfl | omega) only [AXR, AXB, J.dst, reduceIte, Nat.reduceEqDiff, Nat.reduceAdd, Nat.reduceMul, Nat.reduceLT, Nat.reduceLeDiff]); rw [f46c14_eq]; (try simp (disch := first | exact Nat.le_of_ble_eq_true rfl | omega) only [AXR, AXB, J.dst, reduceIte, Nat.reduceEqDiff, Nat.reduceAdd, Nat.reduceMul, Nat.reduceLT, Nat.reduceLeDiff, f46r9])
        rw [i64_wrap (by omega) (by omega)]
        exact sli (i + 1) [] (by rw [hcut, hd]; rfl)
      · exact sli i _ (by rw [hcut, hd]; rfl)
    · have hneg : lastV x.vers below < 0 := by have := of_decide_eq_false h2; omega
      have hcut : cutV x.vers below = 0 := by unfold cutV; rw [if_pos hneg]
      try simp (disch := first | exact Nat.le_of_ble_eq_true rfl | omega) only [AXR, AXB, J.dst, reduceIte, Nat.reduceEqDiff, Nat.reduceAdd, Nat.reduceMul, Nat.reduceLT, Nat.reduceLeDiff]
      refine app h8 _ x' x e78 B8 (O8.cr.imp fun b hb => ⟨hb.1, hb.2.1⟩) ?_ rfl rfl rfl rfl rfl rfl
      unfold trimC
      rw [hcut]; rfl
  · have hkl : k = cs.length := by have := of_decide_eq_false h2; omega
    subst hkl
    refine hex _ _ ?_
    (try simp (disch := first | exact Nat.le_of_ble_eq_true rfl | omega) only [AXR, AXB, J.dst, reduceIte, Nat.reduceEqDiff, Nat.reduceAdd, Nat.reduceMul, Nat.reduceLT, Nat.reduceLeDiff]); rw [f46c20_eq]; (try simp (disch := first | exact Nat.le_of_ble_eq_true rfl | omega) only [AXR, AXB, J.dst, reduceIte, Nat.reduceEqDiff, Nat.reduceAdd, Nat.reduceMul, Nat.reduceLT, Nat.reduceLeDiff, f46r14])
    rw [List.take_length] at O
    exact hR _ _ _ _ (O.mono e1.size) eh
end Go.Proofs.Ytefghfgmkndikaa
