/-
  By a program of mine (wip/tools/gen.py): the code of functions of the seat in the small instruction language, and that it is their code.
-/
import Derived.Test.YtefghfgmkndikaaM2
import Derived.Test.YtefghfgmkndikaaProg
set_option linter.unusedSimpArgs false
set_option linter.unusedVariables false
namespace Go.Proofs.Ytefghfgmkndikaa
open Go.AX
set_option maxRecDepth 100000
/-! ### f42: antipode/antipoderef6.Less -/
def f42r0 : List I := [.op (.box 2 39 (.tmp 0)),
  .op (.box 3 39 (.tmp 1)),
  .op (.mov 4 (.const (.bool false))),
  .kp [2, 3]]
def f42r1 : List I := [.op (.fad 5 0 (.tmp 2)),
  .op (.ld 6 none (.tmp 5)),
  .op (.fad 7 0 (.tmp 3)),
  .op (.ld 8 none (.tmp 7)),
  .op (.bin 9 .lss (.tmp 6) (.tmp 8)),
  .op (.mov 10 (.tmp 9)),
  .sc 10 false 13,
  .g 10 false (.fad 11 0 (.tmp 2)),
  .g 10 false (.ld 12 none (.tmp 11)),
  .g 10 false (.fad 13 0 (.tmp 3)),
  .g 10 false (.ld 14 none (.tmp 13)),
  .g 10 false (.bin 15 .eql (.tmp 12) (.tmp 14)),
  .g 10 false (.mov 16 (.tmp 15)),
  .sc 16 true 5,
  .g 16 true (.fad 17 1 (.tmp 2)),
  .g 16 true (.ld 18 none (.tmp 17)),
  .g 16 true (.fad 19 1 (.tmp 3)),
  .g 16 true (.ld 20 none (.tmp 19)),
  .g 16 true (.bin 21 .lss (.tmp 18) (.tmp 20)),
  .g 10 false (.pick 22 (.tmp 16) (.tmp 21) (.const (.bool false))),
  .op (.pick 23 (.tmp 10) (.const (.bool true)) (.tmp 22)),
  .kp [23],
  .op (.mov 4 (.tmp 23)),
  .kp [4]]
def f42c1 : C := (.seq (.reg f42r1) .ret)
def f42c0 : C := (.seq (.reg f42r0) f42c1)
theorem f42cmp : cmpF Try.prog Try.f42 [.l [.o 0, .o 1, .o 2, .kp [2, 3]],
  .l [.o 0, .o 1, .o 2, .o 3, .o 4, .o 5, .sc 10 false 13, .o 6, .o 7, .o 8, .o 9, .o 10, .o 11, .sc 16 true 5, .o 12, .o 13, .o 14, .o 15, .o 16, .o 17, .o 18, .kp [23], .o 19, .kp [4]]] = some (f42c0, [.tmp 4]) := by kernel_rfl
theorem f42ok {args : List Value} {h : Heap} {R : Value → Heap → Prop} (hn : args.length ≤ 24) (H : wC Try.prog f42c0 (endW [.tmp 4] R) (envOf 0 args) h) : CallsH Try.prog 42 args h R :=
  fn_ok2 Try.func42 f42cmp hn H
theorem f42cal : callable Try.prog 42 = true := by kernel_rfl
section
variable {Q : X → Env → Heap → Prop} {σ : Env} {h : Heap}
theorem f42c1_eq : wC Try.prog f42c1 Q σ h = (wL Try.prog none f42r1 0 (fun σ h => Q .ret σ h) σ h) := rfl
theorem f42c0_eq : wC Try.prog f42c0 Q σ h = (wL Try.prog none f42r0 0 (fun σ h => wC Try.prog f42c1 Q σ h) σ h) := rfl
end
/-! ### f90: antipode/stamp.Less -/
def f90r0 : List I := [.op (.box 2 39 (.tmp 0)),
  .op (.box 3 39 (.tmp 1)),
  .op (.mov 4 (.const (.bool false))),
  .kp [2, 3]]
def f90r1 : List I := [.op (.fad 5 0 (.tmp 2)),
  .op (.ld 6 none (.tmp 5)),
  .op (.fad 7 0 (.tmp 3)),
  .op (.ld 8 none (.tmp 7)),
  .op (.fad 10 1 (.tmp 2)),
  .op (.ld 11 none (.tmp 10)),
  .op (.fad 12 1 (.tmp 3)),
  .op (.ld 13 none (.tmp 12)),
  .op (.call (some 9) 122 [(.tmp 6), (.tmp 8)]),
  .op (.call (some 14) 122 [(.tmp 11), (.tmp 13)]),
  .kp [9, 14],
  .op (.bsl 15 3 2 [.int .i64 0, .int .i64 0] [(0, 1, (.tmp 9)), (1, 1, (.tmp 14))]),
  .op (.call (some 16) 121 [(.tmp 15)]),
  .op (.bin 17 .lss (.tmp 16) (.const (.int .i64 0))),
  .op (.mov 4 (.tmp 17)),
  .kp [4]]
def f90c1 : C := (.seq (.drw f90r1) .ret)
def f90c0 : C := (.seq (.reg f90r0) f90c1)
theorem f90cmp : cmpF Try.prog Try.f90 [.l [.o 0, .o 1, .o 2, .kp [2, 3]],
  .l [.o 0, .o 1, .o 2, .o 3, .o 5, .o 6, .o 7, .o 8, .o 4, .o 9, .kp [9, 14], .o 10, .o 11, .o 12, .o 13, .kp [4]]] = some (f90c0, [.tmp 4]) := by kernel_rfl
theorem f90ok {args : List Value} {h : Heap} {R : Value → Heap → Prop} (hn : args.length ≤ 18) (H : wC Try.prog f90c0 (endW [.tmp 4] R) (envOf 0 args) h) : CallsH Try.prog 90 args h R :=
  fn_ok2 Try.func90 f90cmp hn H
theorem f90cal : callable Try.prog 90 = true := by kernel_rfl
section
variable {Q : X → Env → Heap → Prop} {σ : Env} {h : Heap}
theorem f90c1_eq : wC Try.prog f90c1 Q σ h = (drwW Try.prog f90r1 (fun σ h => Q .ret σ h) σ h) := rfl
theorem f90c0_eq : wC Try.prog f90c0 Q σ h = (wL Try.prog none f90r0 0 (fun σ h => wC Try.prog f90c1 Q σ h) σ h) := rfl
end
/-! ### f91: antipode/mvcc.last -/
def f91r0 : List I := [.op (.box 3 39 (.tmp 1)),
  .op (.mov 4 (.const (.int .i64 0))),
  .kp [0, 3]]
def f91r1 : List I := [.op (.mov 6 (.tmp 0)),
  .op (.len 7 true (.tmp 6)),
  .op (.bin 8 .sub (.tmp 7) (.const (.int .i64 1))),
  .op (.mov 5 (.tmp 8)),
  .kp [0, 3, 5]]
def f91r2 : List I := [.op (.mov 9 (.tmp 5)),
  .op (.bin 10 .geq (.tmp 9) (.const (.int .i64 0))),
  .kp [0, 3, 5, 10]]
def f91r3 : List I := [.op (.ld 13 (some 2) (.tmp 3)),
  .op (.mov 14 (.tmp 0)),
  .op (.mov 15 (.tmp 5)),
  .op (.iad 16 4 (.tmp 14) (.tmp 15)),
  .op (.fad 17 0 (.tmp 16)),
  .op (.ld 18 (some 2) (.tmp 17)),
  .op (.call (some 19) 90 [(.tmp 13), (.tmp 18)]),
  .op (.un 20 .not (.tmp 19)),
  .kp [0, 3, 5, 20]]
def f91r4 : List I := [.op (.mov 21 (.tmp 5)),
  .op (.mov 4 (.tmp 21)),
  .kp [4]]
def f91r5 : List I := [.op (.mov 11 (.tmp 5)),
  .op (.bin 12 .sub (.tmp 11) (.const (.int .i64 1))),
  .op (.mov 5 (.tmp 12)),
  .kp [0, 3, 5]]
def f91r6 : List I := [.op (.mov 4 (.const (.int .i64 (-1)))),
  .kp [4]]
def f91c8 : C := (.seq (.reg f91r4) .ret)
def f91c7 : C := (.cond (.tmp 20) f91c8 .skip)
def f91c6 : C := (.seq (.drw f91r3) f91c7)
def f91c9 : C := (.reg f91r5)
def f91c5 : C := (.seq (.block 1 f91c6) f91c9)
def f91c4 : C := (.seq (.cond (.tmp 10) .skip (.exit 0)) f91c5)
def f91c3 : C := (.seq (.reg f91r2) f91c4)
def f91c10 : C := (.seq (.reg f91r6) .ret)
def f91c2 : C := (.seq (.block 0 (.loop f91c3)) f91c10)
def f91c1 : C := (.seq (.reg f91r1) f91c2)
def f91c0 : C := (.seq (.reg f91r0) f91c1)
theorem f91cmp : cmpF Try.prog Try.f91 [.l [.o 0, .o 1, .kp [0, 3]],
  .l [.o 0, .o 1, .o 2, .o 3, .kp [0, 3, 5]],
  .l [.o 0, .o 1, .kp [0, 3, 5, 10]],
  .l [.o 0, .o 1, .o 2, .o 3, .o 4, .o 5, .o 6, .o 7, .kp [0, 3, 5, 20]],
  .l [.o 0, .o 1, .kp [4]],
  .l [.o 0, .o 1, .o 2, .kp [0, 3, 5]],
  .l [.o 0, .kp [4]]] = some (f91c0, [.tmp 4]) := by kernel_rfl
theorem f91ok {args : List Value} {h : Heap} {R : Value → Heap → Prop} (hn : args.length ≤ 22) (H : wC Try.prog f91c0 (endW [.tmp 4] R) (envOf 0 args) h) : CallsH Try.prog 91 args h R :=
  fn_ok2 Try.func91 f91cmp hn H
theorem f91cal : callable Try.prog 91 = true := by kernel_rfl
section
variable {Q : X → Env → Heap → Prop} {σ : Env} {h : Heap}
theorem f91c8_eq : wC Try.prog f91c8 Q σ h = (wL Try.prog none f91r4 0 (fun σ h => Q .ret σ h) σ h) := rfl
theorem f91c7_eq : wC Try.prog f91c7 Q σ h = (bd (evO σ (.tmp 20)) fun v => bd (asB v) fun t => br t (wC Try.prog f91c8 Q σ h) (Q .normal σ h)) := rfl
theorem f91c6_eq : wC Try.prog f91c6 Q σ h = (drwW Try.prog f91r3 (fun σ h => wC Try.prog f91c7 Q σ h) σ h) := rfl
theorem f91c9_eq : wC Try.prog f91c9 Q σ h = (wL Try.prog none f91r5 0 (fun σ h => Q .normal σ h) σ h) := rfl
theorem f91c5_eq : wC Try.prog f91c5 Q σ h = (wC Try.prog f91c6 (X.inBlock 1 (X.then (fun σ h => wC Try.prog f91c9 Q σ h) Q)) σ h) := rfl
theorem f91c4_eq : wC Try.prog f91c4 Q σ h = (bd (evO σ (.tmp 10)) fun v => bd (asB v) fun t => br t (wC Try.prog f91c5 Q σ h) (Q (.exit 0) σ h)) := rfl
theorem f91c3_eq : wC Try.prog f91c3 Q σ h = (wL Try.prog none f91r2 0 (fun σ h => wC Try.prog f91c4 Q σ h) σ h) := rfl
theorem f91c10_eq : wC Try.prog f91c10 Q σ h = (wL Try.prog none f91r6 0 (fun σ h => Q .ret σ h) σ h) := rfl
theorem f91c2_eq : wC Try.prog f91c2 Q σ h = (loopW (wC Try.prog f91c3) (X.inBlock 0 (X.then (fun σ h => wC Try.prog f91c10 Q σ h) Q)) σ h) := rfl
theorem f91c1_eq : wC Try.prog f91c1 Q σ h = (wL Try.prog none f91r1 0 (fun σ h => wC Try.prog f91c2 Q σ h) σ h) := rfl
theorem f91c0_eq : wC Try.prog f91c0 Q σ h = (wL Try.prog none f91r0 0 (fun σ h => wC Try.prog f91c1 Q σ h) σ h) := rfl
end
/-! ### f121: cmp.Or[int] -/
def f121r0 : List I := [.op (.mov 2 (.const (.int .i64 0))),
  .kp [0]]
def f121r1 : List I := [.op (.mov 3 (.const (.int .i64 0))),
  .kp [0, 3]]
def f121r2 : List I := [.op (.mov 6 (.tmp 0)),
  .op (.len 7 true (.tmp 6)),
  .op (.mov 8 (.const (.int .i64 0))),
  .kp [3, 6, 7, 8]]
def f121r3 : List I := [.op (.bin 9 .lss (.tmp 8) (.tmp 7)),
  .kp [3, 6, 7, 8, 9]]
def f121r4 : List I := [.op (.iad 10 1 (.tmp 6) (.tmp 8)),
  .op (.ld 11 none (.tmp 10)),
  .op (.mov 5 (.tmp 11)),
  .kp [3, 5, 6, 7, 8]]
def f121r5 : List I := [.op (.mov 12 (.tmp 5)),
  .op (.mov 13 (.tmp 3)),
  .op (.bin 14 .neq (.tmp 12) (.tmp 13)),
  .kp [3, 5, 6, 7, 8, 14]]
def f121r6 : List I := [.op (.mov 15 (.tmp 5)),
  .op (.mov 2 (.tmp 15)),
  .kp [2]]
def f121r7 : List I := [.op (.bin 16 .add (.tmp 8) (.const (.int .i64 1))),
  .op (.mov 8 (.tmp 16)),
  .kp [3, 6, 7, 8]]
def f121r8 : List I := [.op (.mov 17 (.tmp 3)),
  .op (.mov 2 (.tmp 17)),
  .kp [2]]
def f121c10 : C := (.seq (.reg f121r6) .ret)
def f121c9 : C := (.cond (.tmp 14) f121c10 .skip)
def f121c8 : C := (.seq (.reg f121r5) f121c9)
def f121c7 : C := (.seq (.reg f121r4) f121c8)
def f121c11 : C := (.reg f121r7)
def f121c6 : C := (.seq (.block 1 f121c7) f121c11)
def f121c5 : C := (.seq (.cond (.tmp 9) .skip (.exit 0)) f121c6)
def f121c4 : C := (.seq (.reg f121r3) f121c5)
def f121c12 : C := (.seq (.reg f121r8) .ret)
def f121c3 : C := (.seq (.block 0 (.loop f121c4)) f121c12)
def f121c2 : C := (.seq (.reg f121r2) f121c3)
def f121c1 : C := (.seq (.reg f121r1) f121c2)
def f121c0 : C := (.seq (.reg f121r0) f121c1)
theorem f121cmp : cmpF Try.prog Try.f121 [.l [.o 0, .kp [0]],
  .l [.o 0, .kp [0, 3]],
  .l [.o 0, .o 1, .o 2, .kp [3, 6, 7, 8]],
  .l [.o 0, .kp [3, 6, 7, 8, 9]],
  .l [.o 0, .o 1, .o 2, .kp [3, 5, 6, 7, 8]],
  .l [.o 0, .o 1, .o 2, .kp [3, 5, 6, 7, 8, 14]],
  .l [.o 0, .o 1, .kp [2]],
  .l [.o 0, .o 1, .kp [3, 6, 7, 8]],
  .l [.o 0, .o 1, .kp [2]]] = some (f121c0, [.tmp 2]) := by kernel_rfl
theorem f121ok {args : List Value} {h : Heap} {R : Value → Heap → Prop} (hn : args.length ≤ 18) (H : wC Try.prog f121c0 (endW [.tmp 2] R) (envOf 0 args) h) : CallsH Try.prog 121 args h R :=
  fn_ok2 Try.func121 f121cmp hn H
theorem f121cal : callable Try.prog 121 = true := by kernel_rfl
section
variable {Q : X → Env → Heap → Prop} {σ : Env} {h : Heap}
theorem f121c10_eq : wC Try.prog f121c10 Q σ h = (wL Try.prog none f121r6 0 (fun σ h => Q .ret σ h) σ h) := rfl
theorem f121c9_eq : wC Try.prog f121c9 Q σ h = (bd (evO σ (.tmp 14)) fun v => bd (asB v) fun t => br t (wC Try.prog f121c10 Q σ h) (Q .normal σ h)) := rfl
theorem f121c8_eq : wC Try.prog f121c8 Q σ h = (wL Try.prog none f121r5 0 (fun σ h => wC Try.prog f121c9 Q σ h) σ h) := rfl
theorem f121c7_eq : wC Try.prog f121c7 Q σ h = (wL Try.prog none f121r4 0 (fun σ h => wC Try.prog f121c8 Q σ h) σ h) := rfl
theorem f121c11_eq : wC Try.prog f121c11 Q σ h = (wL Try.prog none f121r7 0 (fun σ h => Q .normal σ h) σ h) := rfl
theorem f121c6_eq : wC Try.prog f121c6 Q σ h = (wC Try.prog f121c7 (X.inBlock 1 (X.then (fun σ h => wC Try.prog f121c11 Q σ h) Q)) σ h) := rfl
theorem f121c5_eq : wC Try.prog f121c5 Q σ h = (bd (evO σ (.tmp 9)) fun v => bd (asB v) fun t => br t (wC Try.prog f121c6 Q σ h) (Q (.exit 0) σ h)) := rfl
theorem f121c4_eq : wC Try.prog f121c4 Q σ h = (wL Try.prog none f121r3 0 (fun σ h => wC Try.prog f121c5 Q σ h) σ h) := rfl
theorem f121c12_eq : wC Try.prog f121c12 Q σ h = (wL Try.prog none f121r8 0 (fun σ h => Q .ret σ h) σ h) := rfl
theorem f121c3_eq : wC Try.prog f121c3 Q σ h = (loopW (wC Try.prog f121c4) (X.inBlock 0 (X.then (fun σ h => wC Try.prog f121c12 Q σ h) Q)) σ h) := rfl
theorem f121c2_eq : wC Try.prog f121c2 Q σ h = (wL Try.prog none f121r2 0 (fun σ h => wC Try.prog f121c3 Q σ h) σ h) := rfl
theorem f121c1_eq : wC Try.prog f121c1 Q σ h = (wL Try.prog none f121r1 0 (fun σ h => wC Try.prog f121c2 Q σ h) σ h) := rfl
theorem f121c0_eq : wC Try.prog f121c0 Q σ h = (wL Try.prog none f121r0 0 (fun σ h => wC Try.prog f121c1 Q σ h) σ h) := rfl
end
/-! ### f122: cmp.Compare[int64] -/
def f122r0 : List I := [.op (.mov 4 (.const (.int .i64 0))),
  .kp [0, 1]]
def f122r1 : List I := [.op (.mov 7 (.tmp 0)),
  .op (.call (some 8) 141 [(.tmp 7)]),
  .op (.mov 5 (.tmp 8)),
  .kp [0, 1, 5]]
def f122r2 : List I := [.op (.mov 9 (.tmp 1)),
  .op (.call (some 10) 141 [(.tmp 9)]),
  .op (.mov 6 (.tmp 10)),
  .kp [0, 1, 5, 6]]
def f122r3 : List I := [.op (.mov 11 (.tmp 5)),
  .kp [0, 1, 6, 11]]
def f122r4 : List I := [.op (.mov 12 (.tmp 6)),
  .kp [12]]
def f122r5 : List I := [.op (.mov 4 (.const (.int .i64 0))),
  .kp [4]]
def f122r6 : List I := [.op (.mov 4 (.const (.int .i64 (-1)))),
  .kp [4]]
def f122r7 : List I := [.op (.mov 13 (.tmp 6)),
  .kp [0, 1, 13]]
def f122r8 : List I := [.op (.mov 4 (.const (.int .i64 1))),
  .kp [4]]
def f122r9 : List I := [.op (.mov 14 (.tmp 0)),
  .op (.mov 15 (.tmp 1)),
  .op (.bin 16 .lss (.tmp 14) (.tmp 15)),
  .kp [0, 1, 16]]
def f122r10 : List I := [.op (.mov 4 (.const (.int .i64 (-1)))),
  .kp [4]]
def f122r11 : List I := [.op (.mov 17 (.tmp 0)),
  .op (.mov 18 (.tmp 1)),
  .op (.bin 19 .gtr (.tmp 17) (.tmp 18)),
  .kp [19]]
def f122r12 : List I := [.op (.mov 4 (.const (.int .i64 1))),
  .kp [4]]
def f122r13 : List I := [.op (.mov 4 (.const (.int .i64 0))),
  .kp [4]]
def f122c7 : C := (.seq (.reg f122r5) .ret)
def f122c8 : C := (.seq (.reg f122r6) .ret)
def f122c6 : C := (.seq (.cond (.tmp 12) f122c7 .skip) f122c8)
def f122c5 : C := (.seq (.reg f122r4) f122c6)
def f122c11 : C := (.seq (.reg f122r8) .ret)
def f122c14 : C := (.seq (.reg f122r10) .ret)
def f122c17 : C := (.seq (.reg f122r12) .ret)
def f122c18 : C := (.seq (.reg f122r13) .ret)
def f122c16 : C := (.seq (.cond (.tmp 19) f122c17 .skip) f122c18)
def f122c15 : C := (.seq (.reg f122r11) f122c16)
def f122c13 : C := (.seq (.cond (.tmp 16) f122c14 .skip) f122c15)
def f122c12 : C := (.seq (.reg f122r9) f122c13)
def f122c10 : C := (.seq (.cond (.tmp 13) f122c11 .skip) f122c12)
def f122c9 : C := (.seq (.reg f122r7) f122c10)
def f122c4 : C := (.seq (.cond (.tmp 11) f122c5 .skip) f122c9)
def f122c3 : C := (.seq (.reg f122r3) f122c4)
def f122c2 : C := (.seq (.reg f122r2) f122c3)
def f122c1 : C := (.seq (.reg f122r1) f122c2)
def f122c0 : C := (.seq (.reg f122r0) f122c1)
theorem f122cmp : cmpF Try.prog Try.f122 [.l [.o 0, .kp [0, 1]],
  .l [.o 0, .o 1, .o 2, .kp [0, 1, 5]],
  .l [.o 0, .o 1, .o 2, .kp [0, 1, 5, 6]],
  .l [.o 0, .kp [0, 1, 6, 11]],
  .l [.o 0, .kp [12]],
  .l [.o 0, .kp [4]],
  .l [.o 0, .kp [4]],
  .l [.o 0, .kp [0, 1, 13]],
  .l [.o 0, .kp [4]],
  .l [.o 0, .o 1, .o 2, .kp [0, 1, 16]],
  .l [.o 0, .kp [4]],
  .l [.o 0, .o 1, .o 2, .kp [19]],
  .l [.o 0, .kp [4]],
  .l [.o 0, .kp [4]]] = some (f122c0, [.tmp 4]) := by kernel_rfl
theorem f122ok {args : List Value} {h : Heap} {R : Value → Heap → Prop} (hn : args.length ≤ 20) (H : wC Try.prog f122c0 (endW [.tmp 4] R) (envOf 0 args) h) : CallsH Try.prog 122 args h R :=
  fn_ok2 Try.func122 f122cmp hn H
theorem f122cal : callable Try.prog 122 = true := by kernel_rfl
section
variable {Q : X → Env → Heap → Prop} {σ : Env} {h : Heap}
theorem f122c7_eq : wC Try.prog f122c7 Q σ h = (wL Try.prog none f122r5 0 (fun σ h => Q .ret σ h) σ h) := rfl
theorem f122c8_eq : wC Try.prog f122c8 Q σ h = (wL Try.prog none f122r6 0 (fun σ h => Q .ret σ h) σ h) := rfl
theorem f122c6_eq : wC Try.prog f122c6 Q σ h = (bd (evO σ (.tmp 12)) fun v => bd (asB v) fun t => br t (wC Try.prog f122c7 (X.then (fun σ h => wC Try.prog f122c8 Q σ h) Q) σ h) (wC Try.prog f122c8 Q σ h)) := rfl
theorem f122c5_eq : wC Try.prog f122c5 Q σ h = (wL Try.prog none f122r4 0 (fun σ h => wC Try.prog f122c6 Q σ h) σ h) := rfl
theorem f122c11_eq : wC Try.prog f122c11 Q σ h = (wL Try.prog none f122r8 0 (fun σ h => Q .ret σ h) σ h) := rfl
theorem f122c14_eq : wC Try.prog f122c14 Q σ h = (wL Try.prog none f122r10 0 (fun σ h => Q .ret σ h) σ h) := rfl
theorem f122c17_eq : wC Try.prog f122c17 Q σ h = (wL Try.prog none f122r12 0 (fun σ h => Q .ret σ h) σ h) := rfl
theorem f122c18_eq : wC Try.prog f122c18 Q σ h = (wL Try.prog none f122r13 0 (fun σ h => Q .ret σ h) σ h) := rfl
theorem f122c16_eq : wC Try.prog f122c16 Q σ h = (bd (evO σ (.tmp 19)) fun v => bd (asB v) fun t => br t (wC Try.prog f122c17 (X.then (fun σ h => wC Try.prog f122c18 Q σ h) Q) σ h) (wC Try.prog f122c18 Q σ h)) := rfl
theorem f122c15_eq : wC Try.prog f122c15 Q σ h = (wL Try.prog none f122r11 0 (fun σ h => wC Try.prog f122c16 Q σ h) σ h) := rfl
theorem f122c13_eq : wC Try.prog f122c13 Q σ h = (bd (evO σ (.tmp 16)) fun v => bd (asB v) fun t => br t (wC Try.prog f122c14 (X.then (fun σ h => wC Try.prog f122c15 Q σ h) Q) σ h) (wC Try.prog f122c15 Q σ h)) := rfl
theorem f122c12_eq : wC Try.prog f122c12 Q σ h = (wL Try.prog none f122r9 0 (fun σ h => wC Try.prog f122c13 Q σ h) σ h) := rfl
theorem f122c10_eq : wC Try.prog f122c10 Q σ h = (bd (evO σ (.tmp 13)) fun v => bd (asB v) fun t => br t (wC Try.prog f122c11 (X.then (fun σ h => wC Try.prog f122c12 Q σ h) Q) σ h) (wC Try.prog f122c12 Q σ h)) := rfl
theorem f122c9_eq : wC Try.prog f122c9 Q σ h = (wL Try.prog none f122r7 0 (fun σ h => wC Try.prog f122c10 Q σ h) σ h) := rfl
theorem f122c4_eq : wC Try.prog f122c4 Q σ h = (bd (evO σ (.tmp 11)) fun v => bd (asB v) fun t => br t (wC Try.prog f122c5 (X.then (fun σ h => wC Try.prog f122c9 Q σ h) Q) σ h) (wC Try.prog f122c9 Q σ h)) := rfl
theorem f122c3_eq : wC Try.prog f122c3 Q σ h = (wL Try.prog none f122r3 0 (fun σ h => wC Try.prog f122c4 Q σ h) σ h) := rfl
theorem f122c2_eq : wC Try.prog f122c2 Q σ h = (wL Try.prog none f122r2 0 (fun σ h => wC Try.prog f122c3 Q σ h) σ h) := rfl
theorem f122c1_eq : wC Try.prog f122c1 Q σ h = (wL Try.prog none f122r1 0 (fun σ h => wC Try.prog f122c2 Q σ h) σ h) := rfl
theorem f122c0_eq : wC Try.prog f122c0 Q σ h = (wL Try.prog none f122r0 0 (fun σ h => wC Try.prog f122c1 Q σ h) σ h) := rfl
end
/-! ### f141: cmp.isNaN[int64] -/
def f141r0 : List I := [.op (.mov 2 (.const (.bool false))),
  .kp [0]]
def f141r1 : List I := [.op (.mov 3 (.tmp 0)),
  .op (.mov 4 (.tmp 0)),
  .op (.bin 5 .neq (.tmp 3) (.tmp 4)),
  .op (.mov 2 (.tmp 5)),
  .kp [2]]
def f141c1 : C := (.seq (.reg f141r1) .ret)
def f141c0 : C := (.seq (.reg f141r0) f141c1)
theorem f141cmp : cmpF Try.prog Try.f141 [.l [.o 0, .kp [0]],
  .l [.o 0, .o 1, .o 2, .o 3, .kp [2]]] = some (f141c0, [.tmp 2]) := by kernel_rfl
theorem f141ok {args : List Value} {h : Heap} {R : Value → Heap → Prop} (hn : args.length ≤ 6) (H : wC Try.prog f141c0 (endW [.tmp 2] R) (envOf 0 args) h) : CallsH Try.prog 141 args h R :=
  fn_ok2 Try.func141 f141cmp hn H
theorem f141cal : callable Try.prog 141 = true := by kernel_rfl
section
variable {Q : X → Env → Heap → Prop} {σ : Env} {h : Heap}
theorem f141c1_eq : wC Try.prog f141c1 Q σ h = (wL Try.prog none f141r1 0 (fun σ h => Q .ret σ h) σ h) := rfl
theorem f141c0_eq : wC Try.prog f141c0 Q σ h = (wL Try.prog none f141r0 0 (fun σ h => wC Try.prog f141c1 Q σ h) σ h) := rfl
end
/-! ### f89: antipode/mvcc.tells -/
def f89r0 : List I := [.op (.box 2 103 (.tmp 0)),
  .op (.box 3 39 (.tmp 1)),
  .op (.mov 4 (.const (.string ⟨#[]⟩))),
  .op (.mov 5 (.const (.bool false))),
  .kp [2, 3]]
def f89r1 : List I := [.op (.fad 7 1 (.tmp 2)),
  .op (.ld 8 none (.tmp 7)),
  .op (.ld 9 (some 2) (.tmp 3)),
  .op (.call (some 10) 91 [(.tmp 8), (.tmp 9)]),
  .op (.mov 6 (.tmp 10)),
  .kp [2, 6]]
def f89r2 : List I := [.op (.mov 11 (.tmp 6)),
  .op (.bin 12 .lss (.tmp 11) (.const (.int .i64 0))),
  .op (.mov 13 (.tmp 12)),
  .sc 13 false 6,
  .g 13 false (.fad 14 1 (.tmp 2)),
  .g 13 false (.ld 15 none (.tmp 14)),
  .g 13 false (.mov 16 (.tmp 6)),
  .g 13 false (.iad 17 4 (.tmp 15) (.tmp 16)),
  .g 13 false (.fad 18 2 (.tmp 17)),
  .g 13 false (.ld 19 none (.tmp 18)),
  .op (.pick 20 (.tmp 13) (.const (.bool true)) (.tmp 19)),
  .kp [2, 6, 20]]
def f89r3 : List I := [.op (.mov 4 (.const (.string ⟨#[]⟩))),
  .op (.mov 5 (.const (.bool false))),
  .kp [4, 5]]
def f89r4 : List I := [.op (.fad 21 1 (.tmp 2)),
  .op (.ld 22 none (.tmp 21)),
  .op (.mov 23 (.tmp 6)),
  .op (.iad 24 4 (.tmp 22) (.tmp 23)),
  .op (.fad 25 3 (.tmp 24)),
  .op (.ld 26 none (.tmp 25)),
  .op (.mov 4 (.tmp 26)),
  .op (.mov 5 (.const (.bool true))),
  .kp [4, 5]]
def f89c4 : C := (.seq (.reg f89r3) .ret)
def f89c5 : C := (.seq (.reg f89r4) .ret)
def f89c3 : C := (.seq (.cond (.tmp 20) f89c4 .skip) f89c5)
def f89c2 : C := (.seq (.reg f89r2) f89c3)
def f89c1 : C := (.seq (.reg f89r1) f89c2)
def f89c0 : C := (.seq (.reg f89r0) f89c1)
theorem f89cmp : cmpF Try.prog Try.f89 [.l [.o 0, .o 1, .o 2, .o 3, .kp [2, 3]],
  .l [.o 0, .o 1, .o 2, .o 3, .o 4, .kp [2, 6]],
  .l [.o 0, .o 1, .o 2, .sc 13 false 6, .o 3, .o 4, .o 5, .o 6, .o 7, .o 8, .o 9, .kp [2, 6, 20]],
  .l [.o 0, .o 1, .kp [4, 5]],
  .l [.o 0, .o 1, .o 2, .o 3, .o 4, .o 5, .o 6, .o 7, .kp [4, 5]]] = some (f89c0, [.tmp 4, .tmp 5]) := by kernel_rfl
theorem f89ok {args : List Value} {h : Heap} {R : Value → Heap → Prop} (hn : args.length ≤ 27) (H : wC Try.prog f89c0 (endW [.tmp 4, .tmp 5] R) (envOf 0 args) h) : CallsH Try.prog 89 args h R :=
  fn_ok2 Try.func89 f89cmp hn H
theorem f89cal : callable Try.prog 89 = true := by kernel_rfl
section
variable {Q : X → Env → Heap → Prop} {σ : Env} {h : Heap}
theorem f89c4_eq : wC Try.prog f89c4 Q σ h = (wL Try.prog none f89r3 0 (fun σ h => Q .ret σ h) σ h) := rfl
theorem f89c5_eq : wC Try.prog f89c5 Q σ h = (wL Try.prog none f89r4 0 (fun σ h => Q .ret σ h) σ h) := rfl
theorem f89c3_eq : wC Try.prog f89c3 Q σ h = (bd (evO σ (.tmp 20)) fun v => bd (asB v) fun t => br t (wC Try.prog f89c4 (X.then (fun σ h => wC Try.prog f89c5 Q σ h) Q) σ h) (wC Try.prog f89c5 Q σ h)) := rfl
theorem f89c2_eq : wC Try.prog f89c2 Q σ h = (wL Try.prog none f89r2 0 (fun σ h => wC Try.prog f89c3 Q σ h) σ h) := rfl
theorem f89c1_eq : wC Try.prog f89c1 Q σ h = (wL Try.prog none f89r1 0 (fun σ h => wC Try.prog f89c2 Q σ h) σ h) := rfl
theorem f89c0_eq : wC Try.prog f89c0 Q σ h = (wL Try.prog none f89r0 0 (fun σ h => wC Try.prog f89c1 Q σ h) σ h) := rfl
end
/-! ### f107: antipode/antipoderef8.of -/
def f107r0 : List I := [.op (.box 2 103 (.tmp 0)),
  .op (.box 3 39 (.tmp 1)),
  .op (.mov 4 (.const (.string ⟨#[]⟩))),
  .op (.mov 5 (.const (.bool false))),
  .kp [2, 3]]
def f107r1 : List I := [.op (.mov 6 (.const (.string ⟨#[]⟩))),
  .op (.mov 7 (.const (.bool false))),
  .kp [2, 3, 6, 7]]
def f107r2 : List I := [.op (.mov 8 (.const (.int .i64 0))),
  .kp [2, 3, 6, 7, 8]]
def f107r3 : List I := [.op (.mov 10 (.tmp 8)),
  .op (.fad 11 1 (.tmp 2)),
  .op (.ld 12 none (.tmp 11)),
  .op (.len 13 true (.tmp 12)),
  .op (.bin 14 .lss (.tmp 10) (.tmp 13)),
  .kp [2, 3, 6, 7, 8, 14]]
def f107r4 : List I := [.op (.fad 17 1 (.tmp 2)),
  .op (.ld 18 none (.tmp 17)),
  .op (.mov 19 (.tmp 8)),
  .op (.iad 20 4 (.tmp 18) (.tmp 19)),
  .op (.ld 21 (some 4) (.tmp 20)),
  .op (.new 9 108 [.int .i64 0, .int .i64 0, .bool false, .string ⟨#[]⟩]),
  .op (.st 4 (.tmp 9) (.tmp 21)),
  .kp [2, 3, 6, 7, 8, 9]]
def f107r5 : List I := [.op (.ld 22 (some 2) (.tmp 3)),
  .op (.fad 23 0 (.tmp 9)),
  .op (.ld 24 (some 2) (.tmp 23)),
  .op (.call (some 25) 42 [(.tmp 22), (.tmp 24)]),
  .op (.un 26 .not (.tmp 25)),
  .kp [2, 3, 6, 7, 8, 9, 26]]
def f107r6 : List I := [.op (.fad 27 3 (.tmp 9)),
  .op (.ld 28 none (.tmp 27)),
  .op (.fad 29 2 (.tmp 9)),
  .op (.ld 30 none (.tmp 29)),
  .op (.un 31 .not (.tmp 30)),
  .op (.mov 6 (.tmp 28)),
  .op (.mov 7 (.tmp 31)),
  .kp [2, 3, 6, 7, 8]]
def f107r7 : List I := [.op (.mov 15 (.tmp 8)),
  .op (.bin 16 .add (.tmp 15) (.const (.int .i64 1))),
  .op (.mov 8 (.tmp 16)),
  .kp [2, 3, 6, 7, 8]]
def f107r8 : List I := [.op (.mov 32 (.tmp 7)),
  .op (.un 33 .not (.tmp 32)),
  .kp [6, 33]]
def f107r9 : List I := [.op (.mov 4 (.const (.string ⟨#[]⟩))),
  .op (.mov 5 (.const (.bool false))),
  .kp [4, 5]]
def f107r10 : List I := [.op (.mov 34 (.tmp 6)),
  .op (.mov 4 (.tmp 34)),
  .op (.mov 5 (.const (.bool true))),
  .kp [4, 5]]
def f107c10 : C := (.drw f107r6)
def f107c9 : C := (.cond (.tmp 26) f107c10 .skip)
def f107c8 : C := (.seq (.reg f107r5) f107c9)
def f107c7 : C := (.seq (.reg f107r4) f107c8)
def f107c11 : C := (.reg f107r7)
def f107c6 : C := (.seq (.block 1 f107c7) f107c11)
def f107c5 : C := (.seq (.cond (.tmp 14) .skip (.exit 0)) f107c6)
def f107c4 : C := (.seq (.reg f107r3) f107c5)
def f107c14 : C := (.seq (.reg f107r9) .ret)
def f107c15 : C := (.seq (.reg f107r10) .ret)
def f107c13 : C := (.seq (.cond (.tmp 33) f107c14 .skip) f107c15)
def f107c12 : C := (.seq (.reg f107r8) f107c13)
def f107c3 : C := (.seq (.block 0 (.loop f107c4)) f107c12)
def f107c2 : C := (.seq (.reg f107r2) f107c3)
def f107c1 : C := (.seq (.reg f107r1) f107c2)
def f107c0 : C := (.seq (.reg f107r0) f107c1)
theorem f107cmp : cmpF Try.prog Try.f107 [.l [.o 0, .o 1, .o 2, .o 3, .kp [2, 3]],
  .l [.o 0, .o 1, .kp [2, 3, 6, 7]],
  .l [.o 0, .kp [2, 3, 6, 7, 8]],
  .l [.o 0, .o 1, .o 2, .o 3, .o 4, .kp [2, 3, 6, 7, 8, 14]],
  .l [.o 0, .o 1, .o 2, .o 3, .o 4, .o 5, .o 6, .kp [2, 3, 6, 7, 8, 9]],
  .l [.o 0, .o 1, .o 2, .o 3, .o 4, .kp [2, 3, 6, 7, 8, 9, 26]],
  .l [.o 0, .o 1, .o 2, .o 3, .o 4, .o 5, .o 6, .kp [2, 3, 6, 7, 8]],
  .l [.o 0, .o 1, .o 2, .kp [2, 3, 6, 7, 8]],
  .l [.o 0, .o 1, .kp [6, 33]],
  .l [.o 0, .o 1, .kp [4, 5]],
  .l [.o 0, .o 1, .o 2, .kp [4, 5]]] = some (f107c0, [.tmp 4, .tmp 5]) := by kernel_rfl
theorem f107ok {args : List Value} {h : Heap} {R : Value → Heap → Prop} (hn : args.length ≤ 35) (H : wC Try.prog f107c0 (endW [.tmp 4, .tmp 5] R) (envOf 0 args) h) : CallsH Try.prog 107 args h R :=
  fn_ok2 Try.func107 f107cmp hn H
theorem f107cal : callable Try.prog 107 = true := by kernel_rfl
section
variable {Q : X → Env → Heap → Prop} {σ : Env} {h : Heap}
theorem f107c10_eq : wC Try.prog f107c10 Q σ h = (drwW Try.prog f107r6 (fun σ h => Q .normal σ h) σ h) := rfl
theorem f107c9_eq : wC Try.prog f107c9 Q σ h = (bd (evO σ (.tmp 26)) fun v => bd (asB v) fun t => br t (wC Try.prog f107c10 Q σ h) (Q .normal σ h)) := rfl
theorem f107c8_eq : wC Try.prog f107c8 Q σ h = (wL Try.prog none f107r5 0 (fun σ h => wC Try.prog f107c9 Q σ h) σ h) := rfl
theorem f107c7_eq : wC Try.prog f107c7 Q σ h = (wL Try.prog none f107r4 0 (fun σ h => wC Try.prog f107c8 Q σ h) σ h) := rfl
theorem f107c11_eq : wC Try.prog f107c11 Q σ h = (wL Try.prog none f107r7 0 (fun σ h => Q .normal σ h) σ h) := rfl
theorem f107c6_eq : wC Try.prog f107c6 Q σ h = (wC Try.prog f107c7 (X.inBlock 1 (X.then (fun σ h => wC Try.prog f107c11 Q σ h) Q)) σ h) := rfl
theorem f107c5_eq : wC Try.prog f107c5 Q σ h = (bd (evO σ (.tmp 14)) fun v => bd (asB v) fun t => br t (wC Try.prog f107c6 Q σ h) (Q (.exit 0) σ h)) := rfl
theorem f107c4_eq : wC Try.prog f107c4 Q σ h = (wL Try.prog none f107r3 0 (fun σ h => wC Try.prog f107c5 Q σ h) σ h) := rfl
theorem f107c14_eq : wC Try.prog f107c14 Q σ h = (wL Try.prog none f107r9 0 (fun σ h => Q .ret σ h) σ h) := rfl
theorem f107c15_eq : wC Try.prog f107c15 Q σ h = (wL Try.prog none f107r10 0 (fun σ h => Q .ret σ h) σ h) := rfl
theorem f107c13_eq : wC Try.prog f107c13 Q σ h = (bd (evO σ (.tmp 33)) fun v => bd (asB v) fun t => br t (wC Try.prog f107c14 (X.then (fun σ h => wC Try.prog f107c15 Q σ h) Q) σ h) (wC Try.prog f107c15 Q σ h)) := rfl
theorem f107c12_eq : wC Try.prog f107c12 Q σ h = (wL Try.prog none f107r8 0 (fun σ h => wC Try.prog f107c13 Q σ h) σ h) := rfl
theorem f107c3_eq : wC Try.prog f107c3 Q σ h = (loopW (wC Try.prog f107c4) (X.inBlock 0 (X.then (fun σ h => wC Try.prog f107c12 Q σ h) Q)) σ h) := rfl
theorem f107c2_eq : wC Try.prog f107c2 Q σ h = (wL Try.prog none f107r2 0 (fun σ h => wC Try.prog f107c3 Q σ h) σ h) := rfl
theorem f107c1_eq : wC Try.prog f107c1 Q σ h = (wL Try.prog none f107r1 0 (fun σ h => wC Try.prog f107c2 Q σ h) σ h) := rfl
theorem f107c0_eq : wC Try.prog f107c0 Q σ h = (wL Try.prog none f107r0 0 (fun σ h => wC Try.prog f107c1 Q σ h) σ h) := rfl
end
/-! ### f108: antipode/antipoderef8.find -/
def f108r0 : List I := [.op (.mov 4 (.const (.int .i64 0))),
  .kp [0, 1]]
def f108r1 : List I := [.op (.mov 5 (.const (.int .i64 0))),
  .kp [0, 1, 5]]
def f108r2 : List I := [.op (.mov 6 (.tmp 5)),
  .op (.mov 7 (.tmp 0)),
  .op (.len 8 true (.tmp 7)),
  .op (.bin 9 .lss (.tmp 6) (.tmp 8)),
  .kp [0, 1, 5, 9]]
def f108r3 : List I := [.op (.mov 12 (.tmp 0)),
  .op (.mov 13 (.tmp 5)),
  .op (.iad 14 12 (.tmp 12) (.tmp 13)),
  .op (.fad 15 0 (.tmp 14)),
  .op (.ld 16 none (.tmp 15)),
  .op (.mov 17 (.tmp 1)),
  .op (.bin 18 .eql (.tmp 16) (.tmp 17)),
  .kp [0, 1, 5, 18]]
def f108r4 : List I := [.op (.mov 19 (.tmp 5)),
  .op (.mov 4 (.tmp 19)),
  .kp [4]]
def f108r5 : List I := [.op (.mov 10 (.tmp 5)),
  .op (.bin 11 .add (.tmp 10) (.const (.int .i64 1))),
  .op (.mov 5 (.tmp 11)),
  .kp [0, 1, 5]]
def f108r6 : List I := [.op (.mov 4 (.const (.int .i64 (-1)))),
  .kp [4]]
def f108c8 : C := (.seq (.reg f108r4) .ret)
def f108c7 : C := (.cond (.tmp 18) f108c8 .skip)
def f108c6 : C := (.seq (.reg f108r3) f108c7)
def f108c9 : C := (.reg f108r5)
def f108c5 : C := (.seq (.block 1 f108c6) f108c9)
def f108c4 : C := (.seq (.cond (.tmp 9) .skip (.exit 0)) f108c5)
def f108c3 : C := (.seq (.reg f108r2) f108c4)
def f108c10 : C := (.seq (.reg f108r6) .ret)
def f108c2 : C := (.seq (.block 0 (.loop f108c3)) f108c10)
def f108c1 : C := (.seq (.reg f108r1) f108c2)
def f108c0 : C := (.seq (.reg f108r0) f108c1)
theorem f108cmp : cmpF Try.prog Try.f108 [.l [.o 0, .kp [0, 1]],
  .l [.o 0, .kp [0, 1, 5]],
  .l [.o 0, .o 1, .o 2, .o 3, .kp [0, 1, 5, 9]],
  .l [.o 0, .o 1, .o 2, .o 3, .o 4, .o 5, .o 6, .kp [0, 1, 5, 18]],
  .l [.o 0, .o 1, .kp [4]],
  .l [.o 0, .o 1, .o 2, .kp [0, 1, 5]],
  .l [.o 0, .kp [4]]] = some (f108c0, [.tmp 4]) := by kernel_rfl
theorem f108ok {args : List Value} {h : Heap} {R : Value → Heap → Prop} (hn : args.length ≤ 20) (H : wC Try.prog f108c0 (endW [.tmp 4] R) (envOf 0 args) h) : CallsH Try.prog 108 args h R :=
  fn_ok2 Try.func108 f108cmp hn H
theorem f108cal : callable Try.prog 108 = true := by kernel_rfl
section
variable {Q : X → Env → Heap → Prop} {σ : Env} {h : Heap}
theorem f108c8_eq : wC Try.prog f108c8 Q σ h = (wL Try.prog none f108r4 0 (fun σ h => Q .ret σ h) σ h) := rfl
theorem f108c7_eq : wC Try.prog f108c7 Q σ h = (bd (evO σ (.tmp 18)) fun v => bd (asB v) fun t => br t (wC Try.prog f108c8 Q σ h) (Q .normal σ h)) := rfl
theorem f108c6_eq : wC Try.prog f108c6 Q σ h = (wL Try.prog none f108r3 0 (fun σ h => wC Try.prog f108c7 Q σ h) σ h) := rfl
theorem f108c9_eq : wC Try.prog f108c9 Q σ h = (wL Try.prog none f108r5 0 (fun σ h => Q .normal σ h) σ h) := rfl
theorem f108c5_eq : wC Try.prog f108c5 Q σ h = (wC Try.prog f108c6 (X.inBlock 1 (X.then (fun σ h => wC Try.prog f108c9 Q σ h) Q)) σ h) := rfl
theorem f108c4_eq : wC Try.prog f108c4 Q σ h = (bd (evO σ (.tmp 9)) fun v => bd (asB v) fun t => br t (wC Try.prog f108c5 Q σ h) (Q (.exit 0) σ h)) := rfl
theorem f108c3_eq : wC Try.prog f108c3 Q σ h = (wL Try.prog none f108r2 0 (fun σ h => wC Try.prog f108c4 Q σ h) σ h) := rfl
theorem f108c10_eq : wC Try.prog f108c10 Q σ h = (wL Try.prog none f108r6 0 (fun σ h => Q .ret σ h) σ h) := rfl
theorem f108c2_eq : wC Try.prog f108c2 Q σ h = (loopW (wC Try.prog f108c3) (X.inBlock 0 (X.then (fun σ h => wC Try.prog f108c10 Q σ h) Q)) σ h) := rfl
theorem f108c1_eq : wC Try.prog f108c1 Q σ h = (wL Try.prog none f108r1 0 (fun σ h => wC Try.prog f108c2 Q σ h) σ h) := rfl
theorem f108c0_eq : wC Try.prog f108c0 Q σ h = (wL Try.prog none f108r0 0 (fun σ h => wC Try.prog f108c1 Q σ h) σ h) := rfl
end
/-! ### f118: strings.Compare -/
def f118r0 : List I := [.op (.mov 4 (.const (.int .i64 0))),
  .kp [0, 1]]
def f118r1 : List I := [.op (.mov 5 (.tmp 0)),
  .op (.mov 6 (.tmp 1)),
  .op (.call (some 7) 139 [(.tmp 5), (.tmp 6)]),
  .op (.mov 4 (.tmp 7)),
  .kp [4]]
def f118c1 : C := (.seq (.reg f118r1) .ret)
def f118c0 : C := (.seq (.reg f118r0) f118c1)
theorem f118cmp : cmpF Try.prog Try.f118 [.l [.o 0, .kp [0, 1]],
  .l [.o 0, .o 1, .o 2, .o 3, .kp [4]]] = some (f118c0, [.tmp 4]) := by kernel_rfl
theorem f118ok {args : List Value} {h : Heap} {R : Value → Heap → Prop} (hn : args.length ≤ 8) (H : wC Try.prog f118c0 (endW [.tmp 4] R) (envOf 0 args) h) : CallsH Try.prog 118 args h R :=
  fn_ok2 Try.func118 f118cmp hn H
theorem f118cal : callable Try.prog 118 = true := by kernel_rfl
section
variable {Q : X → Env → Heap → Prop} {σ : Env} {h : Heap}
theorem f118c1_eq : wC Try.prog f118c1 Q σ h = (wL Try.prog none f118r1 0 (fun σ h => Q .ret σ h) σ h) := rfl
theorem f118c0_eq : wC Try.prog f118c0 Q σ h = (wL Try.prog none f118r0 0 (fun σ h => wC Try.prog f118c1 Q σ h) σ h) := rfl
end
/-! ### f139: internal/bytealg.CompareString -/
def f139r0 : List I := [.op (.mov 4 (.const (.int .i64 0))),
  .kp [0, 1]]
def f139r1 : List I := [.op (.mov 5 (.tmp 0)),
  .op (.mov 6 (.tmp 1)),
  .op (.raw (some 7) ⟨(some 7), (.call ⟨(.value (.func 153)), #[(.tmp 5), (.tmp 6)], #[9, 9]⟩), 3, "compare_native.go:15", #[⟨0, .data⟩, ⟨1, .data⟩], none⟩),
  .op (.mov 4 (.tmp 7)),
  .kp [4]]
def f139c1 : C := (.seq (.reg f139r1) .ret)
def f139c0 : C := (.seq (.reg f139r0) f139c1)
theorem f139cmp : cmpF Try.prog Try.f139 [.l [.o 0, .kp [0, 1]],
  .l [.o 0, .o 1, .o 2, .o 3, .kp [4]]] = some (f139c0, [.tmp 4]) := by kernel_rfl
theorem f139ok {args : List Value} {h : Heap} {R : Value → Heap → Prop} (hn : args.length ≤ 8) (H : wC Try.prog f139c0 (endW [.tmp 4] R) (envOf 0 args) h) : CallsH Try.prog 139 args h R :=
  fn_ok2 Try.func139 f139cmp hn H
theorem f139cal : callable Try.prog 139 = true := by kernel_rfl
section
variable {Q : X → Env → Heap → Prop} {σ : Env} {h : Heap}
theorem f139c1_eq : wC Try.prog f139c1 Q σ h = (wL Try.prog none f139r1 0 (fun σ h => Q .ret σ h) σ h) := rfl
theorem f139c0_eq : wC Try.prog f139c0 Q σ h = (wL Try.prog none f139r0 0 (fun σ h => wC Try.prog f139c1 Q σ h) σ h) := rfl
end
/-! ### f117: antipode/mvcc.find$1 -/
def f117r0 : List I := [.op (.box 2 103 (.tmp 0)),
  .op (.mov 4 (.const (.int .i64 0))),
  .kp [1, 2]]
def f117r1 : List I := [.op (.fad 5 0 (.tmp 2)),
  .op (.ld 6 none (.tmp 5)),
  .op (.mov 7 (.tmp 1)),
  .op (.call (some 8) 118 [(.tmp 6), (.tmp 7)]),
  .op (.mov 4 (.tmp 8)),
  .kp [4]]
def f117c1 : C := (.seq (.reg f117r1) .ret)
def f117c0 : C := (.seq (.reg f117r0) f117c1)
theorem f117cmp : cmpF Try.prog Try.f117 [.l [.o 0, .o 1, .kp [1, 2]],
  .l [.o 0, .o 1, .o 2, .o 3, .o 4, .kp [4]]] = some (f117c0, [.tmp 4]) := by kernel_rfl
theorem f117ok {args : List Value} {h : Heap} {R : Value → Heap → Prop} (hn : args.length ≤ 9) (H : wC Try.prog f117c0 (endW [.tmp 4] R) (envOf 0 args) h) : CallsH Try.prog 117 args h R :=
  fn_ok2 Try.func117 f117cmp hn H
theorem f117cal : callable Try.prog 117 = true := by kernel_rfl
section
variable {Q : X → Env → Heap → Prop} {σ : Env} {h : Heap}
theorem f117c1_eq : wC Try.prog f117c1 Q σ h = (wL Try.prog none f117r1 0 (fun σ h => Q .ret σ h) σ h) := rfl
theorem f117c0_eq : wC Try.prog f117c0 Q σ h = (wL Try.prog none f117r0 0 (fun σ h => wC Try.prog f117c1 Q σ h) σ h) := rfl
end
/-! ### f116: slices.BinarySearchFunc[[]antipode/api.Cell,antipode/api.Cell,string] -/
def f116r0 : List I := [.op (.mov 6 (.const (.int .i64 0))),
  .op (.mov 7 (.const (.bool false))),
  .kp [0, 1, 2]]
def f116r1 : List I := [.op (.mov 12 (.tmp 0)),
  .op (.len 13 true (.tmp 12)),
  .op (.mov 8 (.tmp 13)),
  .kp [0, 1, 2, 8]]
def f116r2 : List I := [.op (.mov 14 (.tmp 8)),
  .op (.mov 9 (.const (.int .i64 0))),
  .op (.mov 10 (.tmp 14)),
  .kp [0, 1, 2, 8, 9, 10]]
def f116r3 : List I := [.op (.mov 15 (.tmp 9)),
  .op (.mov 16 (.tmp 10)),
  .op (.bin 17 .lss (.tmp 15) (.tmp 16)),
  .kp [0, 1, 2, 8, 9, 10, 17]]
def f116r4 : List I := [.op (.mov 18 (.tmp 9)),
  .op (.mov 19 (.tmp 10)),
  .op (.bin 20 .add (.tmp 18) (.tmp 19)),
  .op (.cvt 21 .u64 (.tmp 20)),
  .op (.raw (some 22) ⟨(some 22), (.binOp .shr 193 (.tmp 21) (.const (.int .u64 1)) 193), 193, "sort.go:158", #[⟨3, .data⟩], none⟩),
  .op (.cvt 23 .i64 (.tmp 22)),
  .op (.mov 11 (.tmp 23)),
  .kp [0, 1, 2, 8, 9, 10, 11]]
def f116r5 : List I := [.op (.mov 24 (.tmp 2)),
  .op (.mov 25 (.tmp 0)),
  .op (.mov 26 (.tmp 11)),
  .op (.iad 27 12 (.tmp 25) (.tmp 26)),
  .op (.ld 28 (some 12) (.tmp 27)),
  .op (.mov 29 (.tmp 1)),
  .op (.cav (some 30) (.tmp 24) [(.tmp 28), (.tmp 29)]),
  .op (.bin 31 .lss (.tmp 30) (.const (.int .i64 0))),
  .kp [0, 1, 2, 8, 9, 10, 11, 31]]
def f116r6 : List I := [.op (.mov 32 (.tmp 11)),
  .op (.bin 33 .add (.tmp 32) (.const (.int .i64 1))),
  .op (.mov 9 (.tmp 33)),
  .kp [0, 1, 2, 8, 9, 10]]
def f116r7 : List I := [.op (.mov 34 (.tmp 11)),
  .op (.mov 10 (.tmp 34)),
  .kp [0, 1, 2, 8, 9, 10]]
def f116r8 : List I := [.op (.mov 35 (.tmp 9)),
  .op (.mov 36 (.tmp 9)),
  .op (.mov 37 (.tmp 8)),
  .op (.bin 38 .lss (.tmp 36) (.tmp 37)),
  .op (.mov 39 (.tmp 38)),
  .sc 39 true 8,
  .g 39 true (.mov 40 (.tmp 2)),
  .g 39 true (.mov 41 (.tmp 0)),
  .g 39 true (.mov 42 (.tmp 9)),
  .g 39 true (.iad 43 12 (.tmp 41) (.tmp 42)),
  .g 39 true (.ld 44 (some 12) (.tmp 43)),
  .g 39 true (.mov 45 (.tmp 1)),
  .g 39 true (.cav (some 46) (.tmp 40) [(.tmp 44), (.tmp 45)]),
  .g 39 true (.bin 47 .eql (.tmp 46) (.const (.int .i64 0))),
  .op (.pick 48 (.tmp 39) (.tmp 47) (.const (.bool false))),
  .op (.mov 6 (.tmp 35)),
  .op (.mov 7 (.tmp 48)),
  .kp [6, 7]]
def f116c10 : C := (.reg f116r6)
def f116c11 : C := (.reg f116r7)
def f116c9 : C := (.cond (.tmp 31) f116c10 f116c11)
def f116c8 : C := (.seq (.reg f116r5) f116c9)
def f116c7 : C := (.seq (.reg f116r4) f116c8)
def f116c6 : C := (.block 1 f116c7)
def f116c5 : C := (.seq (.cond (.tmp 17) .skip (.exit 0)) f116c6)
def f116c4 : C := (.seq (.reg f116r3) f116c5)
def f116c12 : C := (.seq (.reg f116r8) .ret)
def f116c3 : C := (.seq (.block 0 (.loop f116c4)) f116c12)
def f116c2 : C := (.seq (.reg f116r2) f116c3)
def f116c1 : C := (.seq (.reg f116r1) f116c2)
def f116c0 : C := (.seq (.reg f116r0) f116c1)
theorem f116cmp : cmpF Try.prog Try.f116 [.l [.o 0, .o 1, .kp [0, 1, 2]],
  .l [.o 0, .o 1, .o 2, .kp [0, 1, 2, 8]],
  .l [.o 0, .o 1, .o 2, .kp [0, 1, 2, 8, 9, 10]],
  .l [.o 0, .o 1, .o 2, .kp [0, 1, 2, 8, 9, 10, 17]],
  .l [.o 0, .o 1, .o 2, .o 3, .o 4, .o 5, .o 6, .kp [0, 1, 2, 8, 9, 10, 11]],
  .l [.o 0, .o 1, .o 2, .o 3, .o 4, .o 5, .o 6, .o 7, .kp [0, 1, 2, 8, 9, 10, 11, 31]],
  .l [.o 0, .o 1, .o 2, .kp [0, 1, 2, 8, 9, 10]],
  .l [.o 0, .o 1, .kp [0, 1, 2, 8, 9, 10]],
  .l [.o 0, .o 1, .o 2, .o 3, .o 4, .sc 39 true 8, .o 5, .o 6, .o 7, .o 8, .o 9, .o 10, .o 11, .o 12, .o 13, .o 14, .o 15, .kp [6, 7]]] = some (f116c0, [.tmp 6, .tmp 7]) := by kernel_rfl
theorem f116ok {args : List Value} {h : Heap} {R : Value → Heap → Prop} (hn : args.length ≤ 49) (H : wC Try.prog f116c0 (endW [.tmp 6, .tmp 7] R) (envOf 0 args) h) : CallsH Try.prog 116 args h R :=
  fn_ok2 Try.func116 f116cmp hn H
theorem f116cal : callable Try.prog 116 = true := by kernel_rfl
section
variable {Q : X → Env → Heap → Prop} {σ : Env} {h : Heap}
theorem f116c10_eq : wC Try.prog f116c10 Q σ h = (wL Try.prog none f116r6 0 (fun σ h => Q .normal σ h) σ h) := rfl
theorem f116c11_eq : wC Try.prog f116c11 Q σ h = (wL Try.prog none f116r7 0 (fun σ h => Q .normal σ h) σ h) := rfl
theorem f116c9_eq : wC Try.prog f116c9 Q σ h = (bd (evO σ (.tmp 31)) fun v => bd (asB v) fun t => br t (wC Try.prog f116c10 Q σ h) (wC Try.prog f116c11 Q σ h)) := rfl
theorem f116c8_eq : wC Try.prog f116c8 Q σ h = (wL Try.prog none f116r5 0 (fun σ h => wC Try.prog f116c9 Q σ h) σ h) := rfl
theorem f116c7_eq : wC Try.prog f116c7 Q σ h = (wL Try.prog none f116r4 0 (fun σ h => wC Try.prog f116c8 Q σ h) σ h) := rfl
theorem f116c6_eq : wC Try.prog f116c6 Q σ h = (wC Try.prog f116c7 (X.inBlock 1 Q) σ h) := rfl
theorem f116c5_eq : wC Try.prog f116c5 Q σ h = (bd (evO σ (.tmp 17)) fun v => bd (asB v) fun t => br t (wC Try.prog f116c6 Q σ h) (Q (.exit 0) σ h)) := rfl
theorem f116c4_eq : wC Try.prog f116c4 Q σ h = (wL Try.prog none f116r3 0 (fun σ h => wC Try.prog f116c5 Q σ h) σ h) := rfl
theorem f116c12_eq : wC Try.prog f116c12 Q σ h = (wL Try.prog none f116r8 0 (fun σ h => Q .ret σ h) σ h) := rfl
theorem f116c3_eq : wC Try.prog f116c3 Q σ h = (loopW (wC Try.prog f116c4) (X.inBlock 0 (X.then (fun σ h => wC Try.prog f116c12 Q σ h) Q)) σ h) := rfl
theorem f116c2_eq : wC Try.prog f116c2 Q σ h = (wL Try.prog none f116r2 0 (fun σ h => wC Try.prog f116c3 Q σ h) σ h) := rfl
theorem f116c1_eq : wC Try.prog f116c1 Q σ h = (wL Try.prog none f116r1 0 (fun σ h => wC Try.prog f116c2 Q σ h) σ h) := rfl
theorem f116c0_eq : wC Try.prog f116c0 Q σ h = (wL Try.prog none f116r0 0 (fun σ h => wC Try.prog f116c1 Q σ h) σ h) := rfl
end
/-! ### f87: antipode/mvcc.find -/
def f87r0 : List I := [.op (.mov 4 (.const (.int .i64 0))),
  .op (.mov 5 (.const (.bool false))),
  .kp [0, 1]]
def f87r1 : List I := [.op (.mov 6 (.tmp 0)),
  .op (.mov 7 (.tmp 1)),
  .op (.call (some 8) 116 [(.tmp 6), (.tmp 7), (.func 117)]),
  .op (.ext 9 (.tmp 8) 0),
  .op (.ext 10 (.tmp 8) 1),
  .op (.mov 4 (.tmp 9)),
  .op (.mov 5 (.tmp 10)),
  .kp [4, 5]]
def f87c1 : C := (.seq (.reg f87r1) .ret)
def f87c0 : C := (.seq (.reg f87r0) f87c1)
theorem f87cmp : cmpF Try.prog Try.f87 [.l [.o 0, .o 1, .kp [0, 1]],
  .l [.o 0, .o 1, .o 2, .o 3, .o 4, .o 5, .o 6, .kp [4, 5]]] = some (f87c0, [.tmp 4, .tmp 5]) := by kernel_rfl
theorem f87ok {args : List Value} {h : Heap} {R : Value → Heap → Prop} (hn : args.length ≤ 11) (H : wC Try.prog f87c0 (endW [.tmp 4, .tmp 5] R) (envOf 0 args) h) : CallsH Try.prog 87 args h R :=
  fn_ok2 Try.func87 f87cmp hn H
theorem f87cal : callable Try.prog 87 = true := by kernel_rfl
section
variable {Q : X → Env → Heap → Prop} {σ : Env} {h : Heap}
theorem f87c1_eq : wC Try.prog f87c1 Q σ h = (wL Try.prog none f87r1 0 (fun σ h => Q .ret σ h) σ h) := rfl
theorem f87c0_eq : wC Try.prog f87c0 Q σ h = (wL Try.prog none f87r0 0 (fun σ h => wC Try.prog f87c1 Q σ h) σ h) := rfl
end
end Go.Proofs.Ytefghfgmkndikaa
/-
  By a program of mine (wip/tools/gen.py): the code of functions of the seat in the small instruction language, and that it is their code.
-/
namespace Go.Proofs.Ytefghfgmkndikaa
open Go.AX
set_option maxRecDepth 100000
/-! ### f41: antipode/mvcc.Get -/
def f41r0 : List I := [.op (.box 5 39 (.tmp 2)),
  .op (.mov 6 (.const (.string ⟨#[]⟩))),
  .op (.mov 7 (.const (.bool false))),
  .kp [0, 1, 5]]
def f41r1 : List I := [.op (.mov 11 (.tmp 0)),
  .op (.mov 12 (.tmp 1)),
  .op (.call (some 13) 87 [(.tmp 11), (.tmp 12)]),
  .op (.mov 10 (.tmp 13)),
  .op (.ext 14 (.tmp 10) 0),
  .op (.ext 15 (.tmp 10) 1),
  .op (.mov 8 (.tmp 14)),
  .op (.mov 9 (.tmp 15)),
  .kp [0, 5, 8, 9]]
def f41r2 : List I := [.op (.mov 16 (.tmp 9)),
  .op (.un 17 .not (.tmp 16)),
  .kp [0, 5, 8, 17]]
def f41r3 : List I := [.op (.mov 6 (.const (.string ⟨#[]⟩))),
  .op (.mov 7 (.const (.bool false))),
  .kp [6, 7]]
def f41r4 : List I := [.op (.mov 18 (.tmp 0)),
  .op (.mov 19 (.tmp 8)),
  .op (.iad 20 12 (.tmp 18) (.tmp 19)),
  .op (.ld 21 (some 12) (.tmp 20)),
  .op (.ld 22 (some 2) (.tmp 5)),
  .op (.call (some 23) 89 [(.tmp 21), (.tmp 22)]),
  .op (.ext 24 (.tmp 23) 0),
  .op (.ext 25 (.tmp 23) 1),
  .op (.mov 6 (.tmp 24)),
  .op (.mov 7 (.tmp 25)),
  .kp [6, 7]]
def f41c4 : C := (.seq (.reg f41r3) .ret)
def f41c5 : C := (.seq (.drw f41r4) .ret)
def f41c3 : C := (.seq (.cond (.tmp 17) f41c4 .skip) f41c5)
def f41c2 : C := (.seq (.reg f41r2) f41c3)
def f41c1 : C := (.seq (.reg f41r1) f41c2)
def f41c0 : C := (.seq (.reg f41r0) f41c1)
theorem f41cmp : cmpF Try.prog Try.f41 [.l [.o 0, .o 1, .o 2, .kp [0, 1, 5]],
  .l [.o 0, .o 1, .o 2, .o 3, .o 4, .o 5, .o 6, .o 7, .kp [0, 5, 8, 9]],
  .l [.o 0, .o 1, .kp [0, 5, 8, 17]],
  .l [.o 0, .o 1, .kp [6, 7]],
  .l [.o 0, .o 1, .o 2, .o 3, .o 4, .o 5, .o 6, .o 7, .o 8, .o 9, .kp [6, 7]]] = some (f41c0, [.tmp 6, .tmp 7]) := by kernel_rfl
theorem f41ok {args : List Value} {h : Heap} {R : Value → Heap → Prop} (hn : args.length ≤ 26) (H : wC Try.prog f41c0 (endW [.tmp 6, .tmp 7] R) (envOf 0 args) h) : CallsH Try.prog 41 args h R :=
  fn_ok2 Try.func41 f41cmp hn H
theorem f41cal : callable Try.prog 41 = true := by kernel_rfl
section
variable {Q : X → Env → Heap → Prop} {σ : Env} {h : Heap}
theorem f41c4_eq : wC Try.prog f41c4 Q σ h = (wL Try.prog none f41r3 0 (fun σ h => Q .ret σ h) σ h) := rfl
theorem f41c5_eq : wC Try.prog f41c5 Q σ h = (drwW Try.prog f41r4 (fun σ h => Q .ret σ h) σ h) := rfl
theorem f41c3_eq : wC Try.prog f41c3 Q σ h = (bd (evO σ (.tmp 17)) fun v => bd (asB v) fun t => br t (wC Try.prog f41c4 (X.then (fun σ h => wC Try.prog f41c5 Q σ h) Q) σ h) (wC Try.prog f41c5 Q σ h)) := rfl
theorem f41c2_eq : wC Try.prog f41c2 Q σ h = (wL Try.prog none f41r2 0 (fun σ h => wC Try.prog f41c3 Q σ h) σ h) := rfl
theorem f41c1_eq : wC Try.prog f41c1 Q σ h = (wL Try.prog none f41r1 0 (fun σ h => wC Try.prog f41c2 Q σ h) σ h) := rfl
theorem f41c0_eq : wC Try.prog f41c0 Q σ h = (wL Try.prog none f41r0 0 (fun σ h => wC Try.prog f41c1 Q σ h) σ h) := rfl
end
/-! ### f72: antipode/antipoderef8.Get -/
def f72r0 : List I := [.op (.box 5 39 (.tmp 2)),
  .op (.mov 6 (.const (.string ⟨#[]⟩))),
  .op (.mov 7 (.const (.bool false))),
  .kp [0, 1, 5]]
def f72r1 : List I := [.op (.mov 9 (.tmp 0)),
  .op (.mov 10 (.tmp 1)),
  .op (.call (some 11) 108 [(.tmp 9), (.tmp 10)]),
  .op (.mov 8 (.tmp 11)),
  .kp [0, 5, 8]]
def f72r2 : List I := [.op (.mov 12 (.tmp 8)),
  .op (.bin 13 .lss (.tmp 12) (.const (.int .i64 0))),
  .kp [0, 5, 8, 13]]
def f72r3 : List I := [.op (.mov 6 (.const (.string ⟨#[]⟩))),
  .op (.mov 7 (.const (.bool false))),
  .kp [6, 7]]
def f72r4 : List I := [.op (.mov 14 (.tmp 0)),
  .op (.mov 15 (.tmp 8)),
  .op (.iad 16 12 (.tmp 14) (.tmp 15)),
  .op (.ld 17 (some 12) (.tmp 16)),
  .op (.ld 18 (some 2) (.tmp 5)),
  .op (.call (some 19) 107 [(.tmp 17), (.tmp 18)]),
  .op (.ext 20 (.tmp 19) 0),
  .op (.ext 21 (.tmp 19) 1),
  .op (.mov 6 (.tmp 20)),
  .op (.mov 7 (.tmp 21)),
  .kp [6, 7]]
def f72c4 : C := (.seq (.reg f72r3) .ret)
def f72c5 : C := (.seq (.drw f72r4) .ret)
def f72c3 : C := (.seq (.cond (.tmp 13) f72c4 .skip) f72c5)
def f72c2 : C := (.seq (.reg f72r2) f72c3)
def f72c1 : C := (.seq (.reg f72r1) f72c2)
def f72c0 : C := (.seq (.reg f72r0) f72c1)
theorem f72cmp : cmpF Try.prog Try.f72 [.l [.o 0, .o 1, .o 2, .kp [0, 1, 5]],
  .l [.o 0, .o 1, .o 2, .o 3, .kp [0, 5, 8]],
  .l [.o 0, .o 1, .kp [0, 5, 8, 13]],
  .l [.o 0, .o 1, .kp [6, 7]],
  .l [.o 0, .o 1, .o 2, .o 3, .o 4, .o 5, .o 6, .o 7, .o 8, .o 9, .kp [6, 7]]] = some (f72c0, [.tmp 6, .tmp 7]) := by kernel_rfl
theorem f72ok {args : List Value} {h : Heap} {R : Value → Heap → Prop} (hn : args.length ≤ 22) (H : wC Try.prog f72c0 (endW [.tmp 6, .tmp 7] R) (envOf 0 args) h) : CallsH Try.prog 72 args h R :=
  fn_ok2 Try.func72 f72cmp hn H
theorem f72cal : callable Try.prog 72 = true := by kernel_rfl
section
variable {Q : X → Env → Heap → Prop} {σ : Env} {h : Heap}
theorem f72c4_eq : wC Try.prog f72c4 Q σ h = (wL Try.prog none f72r3 0 (fun σ h => Q .ret σ h) σ h) := rfl
theorem f72c5_eq : wC Try.prog f72c5 Q σ h = (drwW Try.prog f72r4 (fun σ h => Q .ret σ h) σ h) := rfl
theorem f72c3_eq : wC Try.prog f72c3 Q σ h = (bd (evO σ (.tmp 13)) fun v => bd (asB v) fun t => br t (wC Try.prog f72c4 (X.then (fun σ h => wC Try.prog f72c5 Q σ h) Q) σ h) (wC Try.prog f72c5 Q σ h)) := rfl
theorem f72c2_eq : wC Try.prog f72c2 Q σ h = (wL Try.prog none f72r2 0 (fun σ h => wC Try.prog f72c3 Q σ h) σ h) := rfl
theorem f72c1_eq : wC Try.prog f72c1 Q σ h = (wL Try.prog none f72r1 0 (fun σ h => wC Try.prog f72c2 Q σ h) σ h) := rfl
theorem f72c0_eq : wC Try.prog f72c0 Q σ h = (wL Try.prog none f72r0 0 (fun σ h => wC Try.prog f72c1 Q σ h) σ h) := rfl
end
/-! ### f38: antipode/mvcc.Mine -/
def f38r0 : List I := [.op (.box 3 37 (.tmp 1)),
  .op (.mov 4 (.const (.bool false))),
  .kp [0, 3]]
def f38r1 : List I := [.op (.mov 5 (.tmp 0)),
  .op (.fn 6 83 [(.tmp 3)]),
  .op (.call (some 7) 82 [(.tmp 5), (.tmp 6)]),
  .op (.mov 4 (.tmp 7)),
  .kp [4]]
def f38c1 : C := (.seq (.reg f38r1) .ret)
def f38c0 : C := (.seq (.reg f38r0) f38c1)
theorem f38cmp : cmpF Try.prog Try.f38 [.l [.o 0, .o 1, .kp [0, 3]],
  .l [.o 0, .o 1, .o 2, .o 3, .kp [4]]] = some (f38c0, [.tmp 4]) := by kernel_rfl
theorem f38ok {args : List Value} {h : Heap} {R : Value → Heap → Prop} (hn : args.length ≤ 8) (H : wC Try.prog f38c0 (endW [.tmp 4] R) (envOf 0 args) h) : CallsH Try.prog 38 args h R :=
  fn_ok2 Try.func38 f38cmp hn H
theorem f38cal : callable Try.prog 38 = true := by kernel_rfl
section
variable {Q : X → Env → Heap → Prop} {σ : Env} {h : Heap}
theorem f38c1_eq : wC Try.prog f38c1 Q σ h = (wL Try.prog none f38r1 0 (fun σ h => Q .ret σ h) σ h) := rfl
theorem f38c0_eq : wC Try.prog f38c0 Q σ h = (wL Try.prog none f38r0 0 (fun σ h => wC Try.prog f38c1 Q σ h) σ h) := rfl
end
/-! ### f83: antipode/mvcc.Mine$1 -/
def f83r0 : List I := [.op (.box 2 103 (.tmp 0)),
  .op (.mov 3 (.const (.bool false))),
  .kp [1, 2]]
def f83r1 : List I := [.op (.fad 4 2 (.tmp 2)),
  .op (.ld 5 none (.tmp 4)),
  .op (.mov 6 (.tmp 5)),
  .sc 6 true 5,
  .g 6 true (.fad 7 3 (.tmp 2)),
  .g 6 true (.fad 8 0 (.tmp 7)),
  .g 6 true (.ld 9 (some 4) (.tmp 8)),
  .g 6 true (.ld 10 (some 4) (.tmp 1)),
  .g 6 true (.eqa 11 false [.i .i64, .i .i64, .i .i64, .i .i64] (.tmp 9) (.tmp 10)),
  .op (.pick 12 (.tmp 6) (.tmp 11) (.const (.bool false))),
  .op (.mov 3 (.tmp 12)),
  .kp [3]]
def f83c1 : C := (.seq (.reg f83r1) .ret)
def f83c0 : C := (.seq (.reg f83r0) f83c1)
theorem f83cmp : cmpF Try.prog Try.f83 [.l [.o 0, .o 1, .kp [1, 2]],
  .l [.o 0, .o 1, .o 2, .sc 6 true 5, .o 3, .o 4, .o 5, .o 6, .o 7, .o 8, .o 9, .kp [3]]] = some (f83c0, [.tmp 3]) := by kernel_rfl
theorem f83ok {args : List Value} {h : Heap} {R : Value → Heap → Prop} (hn : args.length ≤ 13) (H : wC Try.prog f83c0 (endW [.tmp 3] R) (envOf 0 args) h) : CallsH Try.prog 83 args h R :=
  fn_ok2 Try.func83 f83cmp hn H
theorem f83cal : callable Try.prog 83 = true := by kernel_rfl
section
variable {Q : X → Env → Heap → Prop} {σ : Env} {h : Heap}
theorem f83c1_eq : wC Try.prog f83c1 Q σ h = (wL Try.prog none f83r1 0 (fun σ h => Q .ret σ h) σ h) := rfl
theorem f83c0_eq : wC Try.prog f83c0 Q σ h = (wL Try.prog none f83r0 0 (fun σ h => wC Try.prog f83c1 Q σ h) σ h) := rfl
end
/-! ### f82: slices.ContainsFunc[[]antipode/api.Cell,antipode/api.Cell] -/
def f82r0 : List I := [.op (.mov 4 (.const (.bool false))),
  .kp [0, 1]]
def f82r1 : List I := [.op (.mov 5 (.tmp 0)),
  .op (.mov 6 (.tmp 1)),
  .op (.call (some 7) 113 [(.tmp 5), (.tmp 6)]),
  .op (.bin 8 .geq (.tmp 7) (.const (.int .i64 0))),
  .op (.mov 4 (.tmp 8)),
  .kp [4]]
def f82c1 : C := (.seq (.reg f82r1) .ret)
def f82c0 : C := (.seq (.reg f82r0) f82c1)
theorem f82cmp : cmpF Try.prog Try.f82 [.l [.o 0, .kp [0, 1]],
  .l [.o 0, .o 1, .o 2, .o 3, .o 4, .kp [4]]] = some (f82c0, [.tmp 4]) := by kernel_rfl
theorem f82ok {args : List Value} {h : Heap} {R : Value → Heap → Prop} (hn : args.length ≤ 9) (H : wC Try.prog f82c0 (endW [.tmp 4] R) (envOf 0 args) h) : CallsH Try.prog 82 args h R :=
  fn_ok2 Try.func82 f82cmp hn H
theorem f82cal : callable Try.prog 82 = true := by kernel_rfl
section
variable {Q : X → Env → Heap → Prop} {σ : Env} {h : Heap}
theorem f82c1_eq : wC Try.prog f82c1 Q σ h = (wL Try.prog none f82r1 0 (fun σ h => Q .ret σ h) σ h) := rfl
theorem f82c0_eq : wC Try.prog f82c0 Q σ h = (wL Try.prog none f82r0 0 (fun σ h => wC Try.prog f82c1 Q σ h) σ h) := rfl
end
/-! ### f113: slices.IndexFunc[[]antipode/api.Cell,antipode/api.Cell] -/
def f113r0 : List I := [.op (.mov 4 (.const (.int .i64 0))),
  .kp [0, 1]]
def f113r1 : List I := [.op (.mov 6 (.tmp 0)),
  .op (.len 7 true (.tmp 6)),
  .op (.mov 8 (.const (.int .i64 0))),
  .kp [0, 1, 7, 8]]
def f113r2 : List I := [.op (.bin 9 .lss (.tmp 8) (.tmp 7)),
  .kp [0, 1, 7, 8, 9]]
def f113r3 : List I := [.op (.mov 10 (.tmp 8)),
  .op (.mov 5 (.tmp 10)),
  .kp [0, 1, 5, 7, 8]]
def f113r4 : List I := [.op (.mov 11 (.tmp 1)),
  .op (.mov 12 (.tmp 0)),
  .op (.mov 13 (.tmp 5)),
  .op (.iad 14 12 (.tmp 12) (.tmp 13)),
  .op (.ld 15 (some 12) (.tmp 14)),
  .op (.cav (some 16) (.tmp 11) [(.tmp 15)]),
  .kp [0, 1, 5, 7, 8, 16]]
def f113r5 : List I := [.op (.mov 17 (.tmp 5)),
  .op (.mov 4 (.tmp 17)),
  .kp [4]]
def f113r6 : List I := [.op (.bin 18 .add (.tmp 8) (.const (.int .i64 1))),
  .op (.mov 8 (.tmp 18)),
  .kp [0, 1, 7, 8]]
def f113r7 : List I := [.op (.mov 4 (.const (.int .i64 (-1)))),
  .kp [4]]
def f113c9 : C := (.seq (.reg f113r5) .ret)
def f113c8 : C := (.cond (.tmp 16) f113c9 .skip)
def f113c7 : C := (.seq (.reg f113r4) f113c8)
def f113c6 : C := (.seq (.reg f113r3) f113c7)
def f113c10 : C := (.reg f113r6)
def f113c5 : C := (.seq (.block 1 f113c6) f113c10)
def f113c4 : C := (.seq (.cond (.tmp 9) .skip (.exit 0)) f113c5)
def f113c3 : C := (.seq (.reg f113r2) f113c4)
def f113c11 : C := (.seq (.reg f113r7) .ret)
def f113c2 : C := (.seq (.block 0 (.loop f113c3)) f113c11)
def f113c1 : C := (.seq (.reg f113r1) f113c2)
def f113c0 : C := (.seq (.reg f113r0) f113c1)
theorem f113cmp : cmpF Try.prog Try.f113 [.l [.o 0, .kp [0, 1]],
  .l [.o 0, .o 1, .o 2, .kp [0, 1, 7, 8]],
  .l [.o 0, .kp [0, 1, 7, 8, 9]],
  .l [.o 0, .o 1, .kp [0, 1, 5, 7, 8]],
  .l [.o 0, .o 1, .o 2, .o 3, .o 4, .o 5, .kp [0, 1, 5, 7, 8, 16]],
  .l [.o 0, .o 1, .kp [4]],
  .l [.o 0, .o 1, .kp [0, 1, 7, 8]],
  .l [.o 0, .kp [4]]] = some (f113c0, [.tmp 4]) := by kernel_rfl
theorem f113ok {args : List Value} {h : Heap} {R : Value → Heap → Prop} (hn : args.length ≤ 19) (H : wC Try.prog f113c0 (endW [.tmp 4] R) (envOf 0 args) h) : CallsH Try.prog 113 args h R :=
  fn_ok2 Try.func113 f113cmp hn H
theorem f113cal : callable Try.prog 113 = true := by kernel_rfl
section
variable {Q : X → Env → Heap → Prop} {σ : Env} {h : Heap}
theorem f113c9_eq : wC Try.prog f113c9 Q σ h = (wL Try.prog none f113r5 0 (fun σ h => Q .ret σ h) σ h) := rfl
theorem f113c8_eq : wC Try.prog f113c8 Q σ h = (bd (evO σ (.tmp 16)) fun v => bd (asB v) fun t => br t (wC Try.prog f113c9 Q σ h) (Q .normal σ h)) := rfl
theorem f113c7_eq : wC Try.prog f113c7 Q σ h = (wL Try.prog none f113r4 0 (fun σ h => wC Try.prog f113c8 Q σ h) σ h) := rfl
theorem f113c6_eq : wC Try.prog f113c6 Q σ h = (wL Try.prog none f113r3 0 (fun σ h => wC Try.prog f113c7 Q σ h) σ h) := rfl
theorem f113c10_eq : wC Try.prog f113c10 Q σ h = (wL Try.prog none f113r6 0 (fun σ h => Q .normal σ h) σ h) := rfl
theorem f113c5_eq : wC Try.prog f113c5 Q σ h = (wC Try.prog f113c6 (X.inBlock 1 (X.then (fun σ h => wC Try.prog f113c10 Q σ h) Q)) σ h) := rfl
theorem f113c4_eq : wC Try.prog f113c4 Q σ h = (bd (evO σ (.tmp 9)) fun v => bd (asB v) fun t => br t (wC Try.prog f113c5 Q σ h) (Q (.exit 0) σ h)) := rfl
theorem f113c3_eq : wC Try.prog f113c3 Q σ h = (wL Try.prog none f113r2 0 (fun σ h => wC Try.prog f113c4 Q σ h) σ h) := rfl
theorem f113c11_eq : wC Try.prog f113c11 Q σ h = (wL Try.prog none f113r7 0 (fun σ h => Q .ret σ h) σ h) := rfl
theorem f113c2_eq : wC Try.prog f113c2 Q σ h = (loopW (wC Try.prog f113c3) (X.inBlock 0 (X.then (fun σ h => wC Try.prog f113c11 Q σ h) Q)) σ h) := rfl
theorem f113c1_eq : wC Try.prog f113c1 Q σ h = (wL Try.prog none f113r1 0 (fun σ h => wC Try.prog f113c2 Q σ h) σ h) := rfl
theorem f113c0_eq : wC Try.prog f113c0 Q σ h = (wL Try.prog none f113r0 0 (fun σ h => wC Try.prog f113c1 Q σ h) σ h) := rfl
end
end Go.Proofs.Ytefghfgmkndikaa
/-
  By a program of mine (wip/tools/gen.py): the code of functions of the seat in the small instruction language, and that it is their code.
-/
namespace Go.Proofs.Ytefghfgmkndikaa
open Go.AX
set_option maxRecDepth 100000
/-! ### f114: slices.Clone[[]antipode/api.Version,antipode/api.Version] -/
def f114r0 : List I := [.op (.mov 2 (.const (.slice none 0 0))),
  .kp [0]]
def f114r1 : List I := [.op (.mov 3 (.tmp 0)),
  .op (.eqn 4 true false (.tmp 3) (.const (.slice none 0 0))),
  .kp [0, 4]]
def f114r2 : List I := [.op (.mov 2 (.const (.slice none 0 0))),
  .kp [2]]
def f114r3 : List I := [.op (.bsl 5 108 0 [] []),
  .op (.mov 6 (.tmp 0)),
  .op (.raw (some 7) ⟨(some 7), (.call ⟨(.builtin .append), #[(.tmp 5), (.tmp 6)], #[101, 101]⟩), 101, "slices.go:362", #[⟨0, .data⟩, ⟨1, .data⟩], none⟩),
  .op (.mov 2 (.tmp 7)),
  .kp [2]]
def f114c3 : C := (.seq (.reg f114r2) .ret)
def f114c4 : C := (.seq (.reg f114r3) .ret)
def f114c2 : C := (.seq (.cond (.tmp 4) f114c3 .skip) f114c4)
def f114c1 : C := (.seq (.reg f114r1) f114c2)
def f114c0 : C := (.seq (.reg f114r0) f114c1)
theorem f114cmp : cmpF Try.prog Try.f114 [.l [.o 0, .kp [0]],
  .l [.o 0, .o 1, .kp [0, 4]],
  .l [.o 0, .kp [2]],
  .l [.o 0, .o 1, .o 2, .o 3, .kp [2]]] = some (f114c0, [.tmp 2]) := by kernel_rfl
theorem f114ok {args : List Value} {h : Heap} {R : Value → Heap → Prop} (hn : args.length ≤ 8) (H : wC Try.prog f114c0 (endW [.tmp 2] R) (envOf 0 args) h) : CallsH Try.prog 114 args h R :=
  fn_ok2 Try.func114 f114cmp hn H
theorem f114cal : callable Try.prog 114 = true := by kernel_rfl
section
variable {Q : X → Env → Heap → Prop} {σ : Env} {h : Heap}
theorem f114c3_eq : wC Try.prog f114c3 Q σ h = (wL Try.prog none f114r2 0 (fun σ h => Q .ret σ h) σ h) := rfl
theorem f114c4_eq : wC Try.prog f114c4 Q σ h = (wL Try.prog none f114r3 0 (fun σ h => Q .ret σ h) σ h) := rfl
theorem f114c2_eq : wC Try.prog f114c2 Q σ h = (bd (evO σ (.tmp 4)) fun v => bd (asB v) fun t => br t (wC Try.prog f114c3 (X.then (fun σ h => wC Try.prog f114c4 Q σ h) Q) σ h) (wC Try.prog f114c4 Q σ h)) := rfl
theorem f114c1_eq : wC Try.prog f114c1 Q σ h = (wL Try.prog none f114r1 0 (fun σ h => wC Try.prog f114c2 Q σ h) σ h) := rfl
theorem f114c0_eq : wC Try.prog f114c0 Q σ h = (wL Try.prog none f114r0 0 (fun σ h => wC Try.prog f114c1 Q σ h) σ h) := rfl
end
/-! ### f84: antipode/mvcc.own -/
def f84r0 : List I := [.op (.box 1 103 (.tmp 0)),
  .op (.new 2 103 [.string ⟨#[]⟩, .slice none 0 0, .bool false, .int .i64 0, .int .i64 0, .int .i64 0, .int .i64 0, .int .i64 0, .int .i64 0, .int .i64 0, .bool false, .string ⟨#[]⟩]),
  .kp [1, 2]]
def f84r1 : List I := [.op (.fad 3 1 (.tmp 1)),
  .op (.ld 4 none (.tmp 3)),
  .op (.call (some 5) 114 [(.tmp 4)]),
  .op (.fad 6 1 (.tmp 1)),
  .op (.st 1 (.tmp 6) (.tmp 5)),
  .kp [1, 2]]
def f84r2 : List I := [.op (.ld 7 (some 12) (.tmp 1)),
  .op (.st 12 (.tmp 2) (.tmp 7)),
  .kp [2]]
def f84c2 : C := (.seq (.reg f84r2) .ret)
def f84c1 : C := (.seq (.reg f84r1) f84c2)
def f84c0 : C := (.seq (.reg f84r0) f84c1)
theorem f84cmp : cmpF Try.prog Try.f84 [.l [.o 0, .o 1, .kp [1, 2]],
  .l [.o 0, .o 1, .o 2, .o 3, .o 4, .kp [1, 2]],
  .l [.o 0, .o 1, .kp [2]]] = some (f84c0, [.cell 2 12]) := by kernel_rfl
theorem f84ok {args : List Value} {h : Heap} {R : Value → Heap → Prop} (hn : args.length ≤ 8) (H : wC Try.prog f84c0 (endW [.cell 2 12] R) (envOf 0 args) h) : CallsH Try.prog 84 args h R :=
  fn_ok2 Try.func84 f84cmp hn H
theorem f84cal : callable Try.prog 84 = true := by kernel_rfl
section
variable {Q : X → Env → Heap → Prop} {σ : Env} {h : Heap}
theorem f84c2_eq : wC Try.prog f84c2 Q σ h = (wL Try.prog none f84r2 0 (fun σ h => Q .ret σ h) σ h) := rfl
theorem f84c1_eq : wC Try.prog f84c1 Q σ h = (wL Try.prog none f84r1 0 (fun σ h => wC Try.prog f84c2 Q σ h) σ h) := rfl
theorem f84c0_eq : wC Try.prog f84c0 Q σ h = (wL Try.prog none f84r0 0 (fun σ h => wC Try.prog f84c1 Q σ h) σ h) := rfl
end
/-! ### f86: antipode/mvcc.all -/
def f86r0 : List I := [.op (.mov 2 (.const (.slice none 0 0))),
  .kp [0]]
def f86r1 : List I := [.op (.mov 3 (.const (.slice none 0 0))),
  .kp [0, 3]]
def f86r2 : List I := [.op (.mov 6 (.tmp 0)),
  .op (.len 7 true (.tmp 6)),
  .op (.mov 8 (.const (.int .i64 0))),
  .kp [3, 6, 7, 8]]
def f86r3 : List I := [.op (.bin 9 .lss (.tmp 8) (.tmp 7)),
  .kp [3, 6, 7, 8, 9]]
def f86r4 : List I := [.op (.iad 10 12 (.tmp 6) (.tmp 8)),
  .op (.ld 11 (some 12) (.tmp 10)),
  .op (.new 5 103 [.string ⟨#[]⟩, .slice none 0 0, .bool false, .int .i64 0, .int .i64 0, .int .i64 0, .int .i64 0, .int .i64 0, .int .i64 0, .int .i64 0, .bool false, .string ⟨#[]⟩]),
  .op (.st 12 (.tmp 5) (.tmp 11)),
  .kp [3, 5, 6, 7, 8]]
def f86r5 : List I := [.op (.mov 12 (.tmp 3)),
  .op (.ld 13 (some 12) (.tmp 5)),
  .op (.call (some 14) 84 [(.tmp 13)]),
  .op (.bsl 15 103 1 [.string ⟨#[]⟩, .slice none 0 0, .bool false, .int .i64 0, .int .i64 0, .int .i64 0, .int .i64 0, .int .i64 0, .int .i64 0, .int .i64 0, .bool false, .string ⟨#[]⟩] [(0, 12, (.tmp 14))]),
  .op (.raw (some 16) ⟨(some 16), (.call ⟨(.builtin .append), #[(.tmp 12), (.tmp 15)], #[74, 74]⟩), 74, "mvcc.go:106", #[⟨0, .data⟩, ⟨3, .data⟩, ⟨2, .chain⟩], none⟩),
  .op (.mov 3 (.tmp 16)),
  .kp [3, 6, 7, 8]]
def f86r6 : List I := [.op (.bin 17 .add (.tmp 8) (.const (.int .i64 1))),
  .op (.mov 8 (.tmp 17)),
  .kp [3, 6, 7, 8]]
def f86r7 : List I := [.op (.mov 18 (.tmp 3)),
  .op (.mov 2 (.tmp 18)),
  .kp [2]]
def f86c8 : C := (.reg f86r5)
def f86c7 : C := (.seq (.reg f86r4) f86c8)
def f86c9 : C := (.reg f86r6)
def f86c6 : C := (.seq (.block 1 f86c7) f86c9)
def f86c5 : C := (.seq (.cond (.tmp 9) .skip (.exit 0)) f86c6)
def f86c4 : C := (.seq (.reg f86r3) f86c5)
def f86c10 : C := (.seq (.reg f86r7) .ret)
def f86c3 : C := (.seq (.block 0 (.loop f86c4)) f86c10)
def f86c2 : C := (.seq (.reg f86r2) f86c3)
def f86c1 : C := (.seq (.reg f86r1) f86c2)
def f86c0 : C := (.seq (.reg f86r0) f86c1)
theorem f86cmp : cmpF Try.prog Try.f86 [.l [.o 0, .kp [0]],
  .l [.o 0, .kp [0, 3]],
  .l [.o 0, .o 1, .o 2, .kp [3, 6, 7, 8]],
  .l [.o 0, .kp [3, 6, 7, 8, 9]],
  .l [.o 0, .o 1, .o 2, .o 3, .kp [3, 5, 6, 7, 8]],
  .l [.o 0, .o 1, .o 2, .o 3, .o 4, .o 5, .kp [3, 6, 7, 8]],
  .l [.o 0, .o 1, .kp [3, 6, 7, 8]],
  .l [.o 0, .o 1, .kp [2]]] = some (f86c0, [.tmp 2]) := by kernel_rfl
theorem f86ok {args : List Value} {h : Heap} {R : Value → Heap → Prop} (hn : args.length ≤ 19) (H : wC Try.prog f86c0 (endW [.tmp 2] R) (envOf 0 args) h) : CallsH Try.prog 86 args h R :=
  fn_ok2 Try.func86 f86cmp hn H
theorem f86cal : callable Try.prog 86 = true := by kernel_rfl
section
variable {Q : X → Env → Heap → Prop} {σ : Env} {h : Heap}
theorem f86c8_eq : wC Try.prog f86c8 Q σ h = (wL Try.prog none f86r5 0 (fun σ h => Q .normal σ h) σ h) := rfl
theorem f86c7_eq : wC Try.prog f86c7 Q σ h = (wL Try.prog none f86r4 0 (fun σ h => wC Try.prog f86c8 Q σ h) σ h) := rfl
theorem f86c9_eq : wC Try.prog f86c9 Q σ h = (wL Try.prog none f86r6 0 (fun σ h => Q .normal σ h) σ h) := rfl
theorem f86c6_eq : wC Try.prog f86c6 Q σ h = (wC Try.prog f86c7 (X.inBlock 1 (X.then (fun σ h => wC Try.prog f86c9 Q σ h) Q)) σ h) := rfl
theorem f86c5_eq : wC Try.prog f86c5 Q σ h = (bd (evO σ (.tmp 9)) fun v => bd (asB v) fun t => br t (wC Try.prog f86c6 Q σ h) (Q (.exit 0) σ h)) := rfl
theorem f86c4_eq : wC Try.prog f86c4 Q σ h = (wL Try.prog none f86r3 0 (fun σ h => wC Try.prog f86c5 Q σ h) σ h) := rfl
theorem f86c10_eq : wC Try.prog f86c10 Q σ h = (wL Try.prog none f86r7 0 (fun σ h => Q .ret σ h) σ h) := rfl
theorem f86c3_eq : wC Try.prog f86c3 Q σ h = (loopW (wC Try.prog f86c4) (X.inBlock 0 (X.then (fun σ h => wC Try.prog f86c10 Q σ h) Q)) σ h) := rfl
theorem f86c2_eq : wC Try.prog f86c2 Q σ h = (wL Try.prog none f86r2 0 (fun σ h => wC Try.prog f86c3 Q σ h) σ h) := rfl
theorem f86c1_eq : wC Try.prog f86c1 Q σ h = (wL Try.prog none f86r1 0 (fun σ h => wC Try.prog f86c2 Q σ h) σ h) := rfl
theorem f86c0_eq : wC Try.prog f86c0 Q σ h = (wL Try.prog none f86r0 0 (fun σ h => wC Try.prog f86c1 Q σ h) σ h) := rfl
end
/-! ### f48: antipode/antipoderef8.Copy -/
def f48r0 : List I := [.op (.mov 2 (.const (.slice none 0 0))),
  .kp [0]]
def f48r1 : List I := [.op (.mov 3 (.const (.slice none 0 0))),
  .kp [0, 3]]
def f48r2 : List I := [.op (.mov 4 (.const (.int .i64 0))),
  .kp [0, 3, 4]]
def f48r3 : List I := [.op (.mov 6 (.tmp 4)),
  .op (.mov 7 (.tmp 0)),
  .op (.len 8 true (.tmp 7)),
  .op (.bin 9 .lss (.tmp 6) (.tmp 8)),
  .kp [0, 3, 4, 9]]
def f48r4 : List I := [.op (.mov 12 (.tmp 0)),
  .op (.mov 13 (.tmp 4)),
  .op (.iad 14 12 (.tmp 12) (.tmp 13)),
  .op (.ld 15 (some 12) (.tmp 14)),
  .op (.new 5 103 [.string ⟨#[]⟩, .slice none 0 0, .bool false, .int .i64 0, .int .i64 0, .int .i64 0, .int .i64 0, .int .i64 0, .int .i64 0, .int .i64 0, .bool false, .string ⟨#[]⟩]),
  .op (.st 12 (.tmp 5) (.tmp 15)),
  .kp [0, 3, 4, 5]]
def f48r5 : List I := [.op (.bsl 16 108 0 [] []),
  .op (.fad 17 1 (.tmp 5)),
  .op (.ld 18 none (.tmp 17)),
  .op (.raw (some 19) ⟨(some 19), (.call ⟨(.builtin .append), #[(.tmp 16), (.tmp 18)], #[101, 101]⟩), 101, "ref.go:96", #[⟨0, .data⟩, ⟨2, .data⟩], none⟩),
  .op (.fad 20 1 (.tmp 5)),
  .op (.st 1 (.tmp 20) (.tmp 19)),
  .kp [0, 3, 4, 5]]
def f48r6 : List I := [.op (.mov 21 (.tmp 3)),
  .op (.ld 22 (some 12) (.tmp 5)),
  .op (.bsl 23 103 1 [.string ⟨#[]⟩, .slice none 0 0, .bool false, .int .i64 0, .int .i64 0, .int .i64 0, .int .i64 0, .int .i64 0, .int .i64 0, .int .i64 0, .bool false, .string ⟨#[]⟩] [(0, 12, (.tmp 22))]),
  .op (.raw (some 24) ⟨(some 24), (.call ⟨(.builtin .append), #[(.tmp 21), (.tmp 23)], #[74, 74]⟩), 74, "ref.go:97", #[⟨0, .data⟩, ⟨2, .data⟩], none⟩),
  .op (.mov 3 (.tmp 24)),
  .kp [0, 3, 4]]
def f48r7 : List I := [.op (.mov 10 (.tmp 4)),
  .op (.bin 11 .add (.tmp 10) (.const (.int .i64 1))),
  .op (.mov 4 (.tmp 11)),
  .kp [0, 3, 4]]
def f48r8 : List I := [.op (.mov 25 (.tmp 3)),
  .op (.mov 2 (.tmp 25)),
  .kp [2]]
def f48c9 : C := (.reg f48r6)
def f48c8 : C := (.seq (.reg f48r5) f48c9)
def f48c7 : C := (.seq (.reg f48r4) f48c8)
def f48c10 : C := (.reg f48r7)
def f48c6 : C := (.seq (.block 1 f48c7) f48c10)
def f48c5 : C := (.seq (.cond (.tmp 9) .skip (.exit 0)) f48c6)
def f48c4 : C := (.seq (.reg f48r3) f48c5)
def f48c11 : C := (.seq (.reg f48r8) .ret)
def f48c3 : C := (.seq (.block 0 (.loop f48c4)) f48c11)
def f48c2 : C := (.seq (.reg f48r2) f48c3)
def f48c1 : C := (.seq (.reg f48r1) f48c2)
def f48c0 : C := (.seq (.reg f48r0) f48c1)
theorem f48cmp : cmpF Try.prog Try.f48 [.l [.o 0, .kp [0]],
  .l [.o 0, .kp [0, 3]],
  .l [.o 0, .kp [0, 3, 4]],
  .l [.o 0, .o 1, .o 2, .o 3, .kp [0, 3, 4, 9]],
  .l [.o 0, .o 1, .o 2, .o 3, .o 4, .o 5, .kp [0, 3, 4, 5]],
  .l [.o 0, .o 1, .o 2, .o 3, .o 4, .o 5, .kp [0, 3, 4, 5]],
  .l [.o 0, .o 1, .o 2, .o 3, .o 4, .kp [0, 3, 4]],
  .l [.o 0, .o 1, .o 2, .kp [0, 3, 4]],
  .l [.o 0, .o 1, .kp [2]]] = some (f48c0, [.tmp 2]) := by kernel_rfl
theorem f48ok {args : List Value} {h : Heap} {R : Value → Heap → Prop} (hn : args.length ≤ 26) (H : wC Try.prog f48c0 (endW [.tmp 2] R) (envOf 0 args) h) : CallsH Try.prog 48 args h R :=
  fn_ok2 Try.func48 f48cmp hn H
theorem f48cal : callable Try.prog 48 = true := by kernel_rfl
section
variable {Q : X → Env → Heap → Prop} {σ : Env} {h : Heap}
theorem f48c9_eq : wC Try.prog f48c9 Q σ h = (wL Try.prog none f48r6 0 (fun σ h => Q .normal σ h) σ h) := rfl
theorem f48c8_eq : wC Try.prog f48c8 Q σ h = (wL Try.prog none f48r5 0 (fun σ h => wC Try.prog f48c9 Q σ h) σ h) := rfl
theorem f48c7_eq : wC Try.prog f48c7 Q σ h = (wL Try.prog none f48r4 0 (fun σ h => wC Try.prog f48c8 Q σ h) σ h) := rfl
theorem f48c10_eq : wC Try.prog f48c10 Q σ h = (wL Try.prog none f48r7 0 (fun σ h => Q .normal σ h) σ h) := rfl
theorem f48c6_eq : wC Try.prog f48c6 Q σ h = (wC Try.prog f48c7 (X.inBlock 1 (X.then (fun σ h => wC Try.prog f48c10 Q σ h) Q)) σ h) := rfl
theorem f48c5_eq : wC Try.prog f48c5 Q σ h = (bd (evO σ (.tmp 9)) fun v => bd (asB v) fun t => br t (wC Try.prog f48c6 Q σ h) (Q (.exit 0) σ h)) := rfl
theorem f48c4_eq : wC Try.prog f48c4 Q σ h = (wL Try.prog none f48r3 0 (fun σ h => wC Try.prog f48c5 Q σ h) σ h) := rfl
theorem f48c11_eq : wC Try.prog f48c11 Q σ h = (wL Try.prog none f48r8 0 (fun σ h => Q .ret σ h) σ h) := rfl
theorem f48c3_eq : wC Try.prog f48c3 Q σ h = (loopW (wC Try.prog f48c4) (X.inBlock 0 (X.then (fun σ h => wC Try.prog f48c11 Q σ h) Q)) σ h) := rfl
theorem f48c2_eq : wC Try.prog f48c2 Q σ h = (wL Try.prog none f48r2 0 (fun σ h => wC Try.prog f48c3 Q σ h) σ h) := rfl
theorem f48c1_eq : wC Try.prog f48c1 Q σ h = (wL Try.prog none f48r1 0 (fun σ h => wC Try.prog f48c2 Q σ h) σ h) := rfl
theorem f48c0_eq : wC Try.prog f48c0 Q σ h = (wL Try.prog none f48r0 0 (fun σ h => wC Try.prog f48c1 Q σ h) σ h) := rfl
end
/-! ### f115: slices.Insert[[]antipode/api.Version,antipode/api.Version] -/
def f115r0 : List I := [.op (.mov 6 (.const (.slice none 0 0))),
  .kp [0, 1, 2]]
def f115r1 : List I := [.op (.mov 10 (.tmp 0)),
  .op (.mov 11 (.tmp 1)),
  .op (.slc 12 4 (.tmp 10) (some (.tmp 11)) none none),
  .kp [0, 1, 2]]
def f115r2 : List I := [.op (.mov 13 (.tmp 2)),
  .op (.len 14 true (.tmp 13)),
  .op (.mov 7 (.tmp 14)),
  .kp [0, 1, 2, 7]]
def f115r3 : List I := [.op (.mov 15 (.tmp 7)),
  .op (.bin 16 .eql (.tmp 15) (.const (.int .i64 0))),
  .kp [0, 1, 2, 7, 16]]
def f115r4 : List I := [.op (.mov 17 (.tmp 0)),
  .op (.mov 6 (.tmp 17)),
  .kp [6]]
def f115r5 : List I := [.op (.mov 18 (.tmp 0)),
  .op (.len 19 true (.tmp 18)),
  .op (.mov 8 (.tmp 19)),
  .kp [0, 1, 2, 7, 8]]
def f115r6 : List I := [.op (.mov 20 (.tmp 1)),
  .op (.mov 21 (.tmp 8)),
  .op (.bin 22 .eql (.tmp 20) (.tmp 21)),
  .kp [0, 1, 2, 7, 8, 22]]
def f115r7 : List I := [.op (.mov 23 (.tmp 0)),
  .op (.mov 24 (.tmp 2)),
  .op (.raw (some 25) ⟨(some 25), (.call ⟨(.builtin .append), #[(.tmp 23), (.tmp 24)], #[101, 101]⟩), 101, "slices.go:145", #[⟨0, .data⟩, ⟨1, .data⟩], none⟩),
  .op (.mov 6 (.tmp 25)),
  .kp [6]]
def f115r8 : List I := [.op (.mov 26 (.tmp 8)),
  .op (.mov 27 (.tmp 7)),
  .op (.bin 28 .add (.tmp 26) (.tmp 27)),
  .op (.mov 29 (.tmp 0)),
  .op (.cap 30 (.tmp 29)),
  .op (.bin 31 .gtr (.tmp 28) (.tmp 30)),
  .kp [0, 1, 2, 7, 8, 31]]
def f115r9 : List I := [.op (.mov 32 (.tmp 0)),
  .op (.mov 33 (.tmp 1)),
  .op (.slc 34 4 (.tmp 32) none (some (.tmp 33)) none),
  .op (.mov 35 (.tmp 8)),
  .op (.mov 36 (.tmp 7)),
  .op (.bin 37 .add (.tmp 35) (.tmp 36)),
  .op (.mov 38 (.tmp 1)),
  .op (.bin 39 .sub (.tmp 37) (.tmp 38)),
  .op (.raw (some 40) ⟨(some 40), (.call ⟨(.builtin .append), #[(.tmp 34), (.tmp 39)], #[101, 3]⟩), 101, "slices.go:152", #[⟨2, .data⟩, ⟨7, .data⟩], none⟩),
  .op (.mov 9 (.tmp 40)),
  .kp [0, 1, 2, 7, 9]]
def f115r10 : List I := [.op (.mov 41 (.tmp 9)),
  .op (.mov 42 (.tmp 1)),
  .op (.slc 43 4 (.tmp 41) (some (.tmp 42)) none none),
  .op (.mov 44 (.tmp 2)),
  .op (.raw (some 45) ⟨(some 45), (.call ⟨(.builtin .copy), #[(.tmp 43), (.tmp 44)], #[101, 101]⟩), 3, "slices.go:153", #[⟨2, .data⟩, ⟨3, .data⟩], none⟩),
  .kp [0, 1, 7, 9]]
def f115r11 : List I := [.op (.mov 46 (.tmp 9)),
  .op (.mov 47 (.tmp 1)),
  .op (.mov 48 (.tmp 7)),
  .op (.bin 49 .add (.tmp 47) (.tmp 48)),
  .op (.slc 50 4 (.tmp 46) (some (.tmp 49)) none none),
  .op (.mov 51 (.tmp 0)),
  .op (.mov 52 (.tmp 1)),
  .op (.slc 53 4 (.tmp 51) (some (.tmp 52)) none none),
  .op (.raw (some 54) ⟨(some 54), (.call ⟨(.builtin .copy), #[(.tmp 50), (.tmp 53)], #[101, 101]⟩), 3, "slices.go:154", #[⟨4, .data⟩, ⟨7, .data⟩], none⟩),
  .kp [9]]
def f115r12 : List I := [.op (.mov 55 (.tmp 9)),
  .op (.mov 6 (.tmp 55)),
  .kp [6]]
def f115r13 : List I := [.op (.mov 56 (.tmp 0)),
  .op (.mov 57 (.tmp 8)),
  .op (.mov 58 (.tmp 7)),
  .op (.bin 59 .add (.tmp 57) (.tmp 58)),
  .op (.slc 60 4 (.tmp 56) none (some (.tmp 59)) none),
  .op (.mov 0 (.tmp 60)),
  .kp [0, 1, 2, 7, 8]]
def f115r14 : List I := [.op (.mov 61 (.tmp 2)),
  .op (.mov 62 (.tmp 0)),
  .op (.mov 63 (.tmp 1)),
  .op (.mov 64 (.tmp 7)),
  .op (.bin 65 .add (.tmp 63) (.tmp 64)),
  .op (.slc 66 4 (.tmp 62) (some (.tmp 65)) none none),
  .op (.raw (some 67) ⟨(some 67), (.call ⟨(.value (.func 137)), #[(.tmp 61), (.tmp 66)], #[101, 101]⟩), 4, "slices.go:173", #[⟨0, .data⟩, ⟨5, .data⟩], none⟩),
  .op (.un 68 .not (.tmp 67)),
  .kp [0, 1, 2, 7, 8, 68]]
def f115r15 : List I := [.op (.mov 69 (.tmp 0)),
  .op (.mov 70 (.tmp 1)),
  .op (.mov 71 (.tmp 7)),
  .op (.bin 72 .add (.tmp 70) (.tmp 71)),
  .op (.slc 73 4 (.tmp 69) (some (.tmp 72)) none none),
  .op (.mov 74 (.tmp 0)),
  .op (.mov 75 (.tmp 1)),
  .op (.slc 76 4 (.tmp 74) (some (.tmp 75)) none none),
  .op (.raw (some 77) ⟨(some 77), (.call ⟨(.builtin .copy), #[(.tmp 73), (.tmp 76)], #[101, 101]⟩), 3, "slices.go:178", #[⟨4, .data⟩, ⟨7, .data⟩], none⟩),
  .kp [0, 1, 2]]
def f115r16 : List I := [.op (.mov 78 (.tmp 0)),
  .op (.mov 79 (.tmp 1)),
  .op (.slc 80 4 (.tmp 78) (some (.tmp 79)) none none),
  .op (.mov 81 (.tmp 2)),
  .op (.raw (some 82) ⟨(some 82), (.call ⟨(.builtin .copy), #[(.tmp 80), (.tmp 81)], #[101, 101]⟩), 3, "slices.go:186", #[⟨2, .data⟩, ⟨3, .data⟩], none⟩),
  .kp [0]]
def f115r17 : List I := [.op (.mov 83 (.tmp 0)),
  .op (.mov 6 (.tmp 83)),
  .kp [6]]
def f115r18 : List I := [.op (.mov 84 (.tmp 0)),
  .op (.mov 85 (.tmp 8)),
  .op (.slc 86 4 (.tmp 84) (some (.tmp 85)) none none),
  .op (.mov 87 (.tmp 2)),
  .op (.raw (some 88) ⟨(some 88), (.call ⟨(.builtin .copy), #[(.tmp 86), (.tmp 87)], #[101, 101]⟩), 3, "slices.go:200", #[⟨2, .data⟩, ⟨3, .data⟩], none⟩),
  .kp [0, 1, 7]]
def f115r19 : List I := [.op (.mov 89 (.tmp 0)),
  .op (.mov 90 (.tmp 1)),
  .op (.slc 91 4 (.tmp 89) (some (.tmp 90)) none none),
  .op (.mov 92 (.tmp 7)),
  .op (.call (some 93) 138 [(.tmp 91), (.tmp 92)]),
  .kp [0]]
def f115r20 : List I := [.op (.mov 94 (.tmp 0)),
  .op (.mov 6 (.tmp 94)),
  .kp [6]]
def f115c5 : C := (.seq (.reg f115r4) .ret)
def f115c9 : C := (.seq (.reg f115r7) .ret)
def f115c15 : C := (.seq (.reg f115r12) .ret)
def f115c14 : C := (.seq (.drw f115r11) f115c15)
def f115c13 : C := (.seq (.reg f115r10) f115c14)
def f115c12 : C := (.seq (.reg f115r9) f115c13)
def f115c21 : C := (.seq (.reg f115r17) .ret)
def f115c20 : C := (.seq (.reg f115r16) f115c21)
def f115c19 : C := (.seq (.drw f115r15) f115c20)
def f115c24 : C := (.seq (.reg f115r20) .ret)
def f115c23 : C := (.seq (.reg f115r19) f115c24)
def f115c22 : C := (.seq (.reg f115r18) f115c23)
def f115c18 : C := (.seq (.cond (.tmp 68) f115c19 .skip) f115c22)
def f115c17 : C := (.seq (.reg f115r14) f115c18)
def f115c16 : C := (.seq (.reg f115r13) f115c17)
def f115c11 : C := (.seq (.cond (.tmp 31) f115c12 .skip) f115c16)
def f115c10 : C := (.seq (.reg f115r8) f115c11)
def f115c8 : C := (.seq (.cond (.tmp 22) f115c9 .skip) f115c10)
def f115c7 : C := (.seq (.reg f115r6) f115c8)
def f115c6 : C := (.seq (.reg f115r5) f115c7)
def f115c4 : C := (.seq (.cond (.tmp 16) f115c5 .skip) f115c6)
def f115c3 : C := (.seq (.reg f115r3) f115c4)
def f115c2 : C := (.seq (.reg f115r2) f115c3)
def f115c1 : C := (.seq (.reg f115r1) f115c2)
def f115c0 : C := (.seq (.reg f115r0) f115c1)
theorem f115cmp : cmpF Try.prog Try.f115 [.l [.o 0, .kp [0, 1, 2]],
  .l [.o 0, .o 1, .o 2, .kp [0, 1, 2]],
  .l [.o 0, .o 1, .o 2, .kp [0, 1, 2, 7]],
  .l [.o 0, .o 1, .kp [0, 1, 2, 7, 16]],
  .l [.o 0, .o 1, .kp [6]],
  .l [.o 0, .o 1, .o 2, .kp [0, 1, 2, 7, 8]],
  .l [.o 0, .o 1, .o 2, .kp [0, 1, 2, 7, 8, 22]],
  .l [.o 0, .o 1, .o 2, .o 3, .kp [6]],
  .l [.o 0, .o 1, .o 2, .o 3, .o 4, .o 5, .kp [0, 1, 2, 7, 8, 31]],
  .l [.o 0, .o 1, .o 2, .o 3, .o 4, .o 5, .o 6, .o 7, .o 8, .o 9, .kp [0, 1, 2, 7, 9]],
  .l [.o 0, .o 1, .o 2, .o 3, .o 4, .kp [0, 1, 7, 9]],
  .l [.o 0, .o 1, .o 2, .o 3, .o 4, .o 5, .o 6, .o 7, .o 8, .kp [9]],
  .l [.o 0, .o 1, .kp [6]],
  .l [.o 0, .o 1, .o 2, .o 3, .o 4, .o 5, .kp [0, 1, 2, 7, 8]],
  .l [.o 0, .o 1, .o 2, .o 3, .o 4, .o 5, .o 6, .o 7, .kp [0, 1, 2, 7, 8, 68]],
  .l [.o 0, .o 1, .o 2, .o 3, .o 4, .o 5, .o 6, .o 7, .o 8, .kp [0, 1, 2]],
  .l [.o 0, .o 1, .o 2, .o 3, .o 4, .kp [0]],
  .l [.o 0, .o 1, .kp [6]],
  .l [.o 0, .o 1, .o 2, .o 3, .o 4, .kp [0, 1, 7]],
  .l [.o 0, .o 1, .o 2, .o 3, .o 4, .kp [0]],
  .l [.o 0, .o 1, .kp [6]]] = some (f115c0, [.tmp 6]) := by kernel_rfl
theorem f115ok {args : List Value} {h : Heap} {R : Value → Heap → Prop} (hn : args.length ≤ 95) (H : wC Try.prog f115c0 (endW [.tmp 6] R) (envOf 0 args) h) : CallsH Try.prog 115 args h R :=
  fn_ok2 Try.func115 f115cmp hn H
theorem f115cal : callable Try.prog 115 = true := by kernel_rfl
section
variable {Q : X → Env → Heap → Prop} {σ : Env} {h : Heap}
theorem f115c5_eq : wC Try.prog f115c5 Q σ h = (wL Try.prog none f115r4 0 (fun σ h => Q .ret σ h) σ h) := rfl
theorem f115c9_eq : wC Try.prog f115c9 Q σ h = (wL Try.prog none f115r7 0 (fun σ h => Q .ret σ h) σ h) := rfl
theorem f115c15_eq : wC Try.prog f115c15 Q σ h = (wL Try.prog none f115r12 0 (fun σ h => Q .ret σ h) σ h) := rfl
theorem f115c14_eq : wC Try.prog f115c14 Q σ h = (drwW Try.prog f115r11 (fun σ h => wC Try.prog f115c15 Q σ h) σ h) := rfl
theorem f115c13_eq : wC Try.prog f115c13 Q σ h = (wL Try.prog none f115r10 0 (fun σ h => wC Try.prog f115c14 Q σ h) σ h) := rfl
theorem f115c12_eq : wC Try.prog f115c12 Q σ h = (wL Try.prog none f115r9 0 (fun σ h => wC Try.prog f115c13 Q σ h) σ h) := rfl
theorem f115c21_eq : wC Try.prog f115c21 Q σ h = (wL Try.prog none f115r17 0 (fun σ h => Q .ret σ h) σ h) := rfl
theorem f115c20_eq : wC Try.prog f115c20 Q σ h = (wL Try.prog none f115r16 0 (fun σ h => wC Try.prog f115c21 Q σ h) σ h) := rfl
theorem f115c19_eq : wC Try.prog f115c19 Q σ h = (drwW Try.prog f115r15 (fun σ h => wC Try.prog f115c20 Q σ h) σ h) := rfl
theorem f115c24_eq : wC Try.prog f115c24 Q σ h = (wL Try.prog none f115r20 0 (fun σ h => Q .ret σ h) σ h) := rfl
theorem f115c23_eq : wC Try.prog f115c23 Q σ h = (wL Try.prog none f115r19 0 (fun σ h => wC Try.prog f115c24 Q σ h) σ h) := rfl
theorem f115c22_eq : wC Try.prog f115c22 Q σ h = (wL Try.prog none f115r18 0 (fun σ h => wC Try.prog f115c23 Q σ h) σ h) := rfl
theorem f115c18_eq : wC Try.prog f115c18 Q σ h = (bd (evO σ (.tmp 68)) fun v => bd (asB v) fun t => br t (wC Try.prog f115c19 (X.then (fun σ h => wC Try.prog f115c22 Q σ h) Q) σ h) (wC Try.prog f115c22 Q σ h)) := rfl
theorem f115c17_eq : wC Try.prog f115c17 Q σ h = (wL Try.prog none f115r14 0 (fun σ h => wC Try.prog f115c18 Q σ h) σ h) := rfl
theorem f115c16_eq : wC Try.prog f115c16 Q σ h = (wL Try.prog none f115r13 0 (fun σ h => wC Try.prog f115c17 Q σ h) σ h) := rfl
theorem f115c11_eq : wC Try.prog f115c11 Q σ h = (bd (evO σ (.tmp 31)) fun v => bd (asB v) fun t => br t (wC Try.prog f115c12 (X.then (fun σ h => wC Try.prog f115c16 Q σ h) Q) σ h) (wC Try.prog f115c16 Q σ h)) := rfl
theorem f115c10_eq : wC Try.prog f115c10 Q σ h = (wL Try.prog none f115r8 0 (fun σ h => wC Try.prog f115c11 Q σ h) σ h) := rfl
theorem f115c8_eq : wC Try.prog f115c8 Q σ h = (bd (evO σ (.tmp 22)) fun v => bd (asB v) fun t => br t (wC Try.prog f115c9 (X.then (fun σ h => wC Try.prog f115c10 Q σ h) Q) σ h) (wC Try.prog f115c10 Q σ h)) := rfl
theorem f115c7_eq : wC Try.prog f115c7 Q σ h = (wL Try.prog none f115r6 0 (fun σ h => wC Try.prog f115c8 Q σ h) σ h) := rfl
theorem f115c6_eq : wC Try.prog f115c6 Q σ h = (wL Try.prog none f115r5 0 (fun σ h => wC Try.prog f115c7 Q σ h) σ h) := rfl
theorem f115c4_eq : wC Try.prog f115c4 Q σ h = (bd (evO σ (.tmp 16)) fun v => bd (asB v) fun t => br t (wC Try.prog f115c5 (X.then (fun σ h => wC Try.prog f115c6 Q σ h) Q) σ h) (wC Try.prog f115c6 Q σ h)) := rfl
theorem f115c3_eq : wC Try.prog f115c3 Q σ h = (wL Try.prog none f115r3 0 (fun σ h => wC Try.prog f115c4 Q σ h) σ h) := rfl
theorem f115c2_eq : wC Try.prog f115c2 Q σ h = (wL Try.prog none f115r2 0 (fun σ h => wC Try.prog f115c3 Q σ h) σ h) := rfl
theorem f115c1_eq : wC Try.prog f115c1 Q σ h = (wL Try.prog none f115r1 0 (fun σ h => wC Try.prog f115c2 Q σ h) σ h) := rfl
theorem f115c0_eq : wC Try.prog f115c0 Q σ h = (wL Try.prog none f115r0 0 (fun σ h => wC Try.prog f115c1 Q σ h) σ h) := rfl
end
/-! ### f88: slices.Insert[[]antipode/api.Cell,antipode/api.Cell] -/
def f88r0 : List I := [.op (.mov 6 (.const (.slice none 0 0))),
  .kp [0, 1, 2]]
def f88r1 : List I := [.op (.mov 10 (.tmp 0)),
  .op (.mov 11 (.tmp 1)),
  .op (.slc 12 12 (.tmp 10) (some (.tmp 11)) none none),
  .kp [0, 1, 2]]
def f88r2 : List I := [.op (.mov 13 (.tmp 2)),
  .op (.len 14 true (.tmp 13)),
  .op (.mov 7 (.tmp 14)),
  .kp [0, 1, 2, 7]]
def f88r3 : List I := [.op (.mov 15 (.tmp 7)),
  .op (.bin 16 .eql (.tmp 15) (.const (.int .i64 0))),
  .kp [0, 1, 2, 7, 16]]
def f88r4 : List I := [.op (.mov 17 (.tmp 0)),
  .op (.mov 6 (.tmp 17)),
  .kp [6]]
def f88r5 : List I := [.op (.mov 18 (.tmp 0)),
  .op (.len 19 true (.tmp 18)),
  .op (.mov 8 (.tmp 19)),
  .kp [0, 1, 2, 7, 8]]
def f88r6 : List I := [.op (.mov 20 (.tmp 1)),
  .op (.mov 21 (.tmp 8)),
  .op (.bin 22 .eql (.tmp 20) (.tmp 21)),
  .kp [0, 1, 2, 7, 8, 22]]
def f88r7 : List I := [.op (.mov 23 (.tmp 0)),
  .op (.mov 24 (.tmp 2)),
  .op (.raw (some 25) ⟨(some 25), (.call ⟨(.builtin .append), #[(.tmp 23), (.tmp 24)], #[74, 74]⟩), 74, "slices.go:145", #[⟨0, .data⟩, ⟨1, .data⟩], none⟩),
  .op (.mov 6 (.tmp 25)),
  .kp [6]]
def f88r8 : List I := [.op (.mov 26 (.tmp 8)),
  .op (.mov 27 (.tmp 7)),
  .op (.bin 28 .add (.tmp 26) (.tmp 27)),
  .op (.mov 29 (.tmp 0)),
  .op (.cap 30 (.tmp 29)),
  .op (.bin 31 .gtr (.tmp 28) (.tmp 30)),
  .kp [0, 1, 2, 7, 8, 31]]
def f88r9 : List I := [.op (.mov 32 (.tmp 0)),
  .op (.mov 33 (.tmp 1)),
  .op (.slc 34 12 (.tmp 32) none (some (.tmp 33)) none),
  .op (.mov 35 (.tmp 8)),
  .op (.mov 36 (.tmp 7)),
  .op (.bin 37 .add (.tmp 35) (.tmp 36)),
  .op (.mov 38 (.tmp 1)),
  .op (.bin 39 .sub (.tmp 37) (.tmp 38)),
  .op (.raw (some 40) ⟨(some 40), (.call ⟨(.builtin .append), #[(.tmp 34), (.tmp 39)], #[74, 3]⟩), 74, "slices.go:152", #[⟨2, .data⟩, ⟨7, .data⟩], none⟩),
  .op (.mov 9 (.tmp 40)),
  .kp [0, 1, 2, 7, 9]]
def f88r10 : List I := [.op (.mov 41 (.tmp 9)),
  .op (.mov 42 (.tmp 1)),
  .op (.slc 43 12 (.tmp 41) (some (.tmp 42)) none none),
  .op (.mov 44 (.tmp 2)),
  .op (.raw (some 45) ⟨(some 45), (.call ⟨(.builtin .copy), #[(.tmp 43), (.tmp 44)], #[74, 74]⟩), 3, "slices.go:153", #[⟨2, .data⟩, ⟨3, .data⟩], none⟩),
  .kp [0, 1, 7, 9]]
def f88r11 : List I := [.op (.mov 46 (.tmp 9)),
  .op (.mov 47 (.tmp 1)),
  .op (.mov 48 (.tmp 7)),
  .op (.bin 49 .add (.tmp 47) (.tmp 48)),
  .op (.slc 50 12 (.tmp 46) (some (.tmp 49)) none none),
  .op (.mov 51 (.tmp 0)),
  .op (.mov 52 (.tmp 1)),
  .op (.slc 53 12 (.tmp 51) (some (.tmp 52)) none none),
  .op (.raw (some 54) ⟨(some 54), (.call ⟨(.builtin .copy), #[(.tmp 50), (.tmp 53)], #[74, 74]⟩), 3, "slices.go:154", #[⟨4, .data⟩, ⟨7, .data⟩], none⟩),
  .kp [9]]
def f88r12 : List I := [.op (.mov 55 (.tmp 9)),
  .op (.mov 6 (.tmp 55)),
  .kp [6]]
def f88r13 : List I := [.op (.mov 56 (.tmp 0)),
  .op (.mov 57 (.tmp 8)),
  .op (.mov 58 (.tmp 7)),
  .op (.bin 59 .add (.tmp 57) (.tmp 58)),
  .op (.slc 60 12 (.tmp 56) none (some (.tmp 59)) none),
  .op (.mov 0 (.tmp 60)),
  .kp [0, 1, 2, 7, 8]]
def f88r14 : List I := [.op (.mov 61 (.tmp 2)),
  .op (.mov 62 (.tmp 0)),
  .op (.mov 63 (.tmp 1)),
  .op (.mov 64 (.tmp 7)),
  .op (.bin 65 .add (.tmp 63) (.tmp 64)),
  .op (.slc 66 12 (.tmp 62) (some (.tmp 65)) none none),
  .op (.raw (some 67) ⟨(some 67), (.call ⟨(.value (.func 119)), #[(.tmp 61), (.tmp 66)], #[74, 74]⟩), 4, "slices.go:173", #[⟨0, .data⟩, ⟨5, .data⟩], none⟩),
  .op (.un 68 .not (.tmp 67)),
  .kp [0, 1, 2, 7, 8, 68]]
def f88r15 : List I := [.op (.mov 69 (.tmp 0)),
  .op (.mov 70 (.tmp 1)),
  .op (.mov 71 (.tmp 7)),
  .op (.bin 72 .add (.tmp 70) (.tmp 71)),
  .op (.slc 73 12 (.tmp 69) (some (.tmp 72)) none none),
  .op (.mov 74 (.tmp 0)),
  .op (.mov 75 (.tmp 1)),
  .op (.slc 76 12 (.tmp 74) (some (.tmp 75)) none none),
  .op (.raw (some 77) ⟨(some 77), (.call ⟨(.builtin .copy), #[(.tmp 73), (.tmp 76)], #[74, 74]⟩), 3, "slices.go:178", #[⟨4, .data⟩, ⟨7, .data⟩], none⟩),
  .kp [0, 1, 2]]
def f88r16 : List I := [.op (.mov 78 (.tmp 0)),
  .op (.mov 79 (.tmp 1)),
  .op (.slc 80 12 (.tmp 78) (some (.tmp 79)) none none),
  .op (.mov 81 (.tmp 2)),
  .op (.raw (some 82) ⟨(some 82), (.call ⟨(.builtin .copy), #[(.tmp 80), (.tmp 81)], #[74, 74]⟩), 3, "slices.go:186", #[⟨2, .data⟩, ⟨3, .data⟩], none⟩),
  .kp [0]]
def f88r17 : List I := [.op (.mov 83 (.tmp 0)),
  .op (.mov 6 (.tmp 83)),
  .kp [6]]
def f88r18 : List I := [.op (.mov 84 (.tmp 0)),
  .op (.mov 85 (.tmp 8)),
  .op (.slc 86 12 (.tmp 84) (some (.tmp 85)) none none),
  .op (.mov 87 (.tmp 2)),
  .op (.raw (some 88) ⟨(some 88), (.call ⟨(.builtin .copy), #[(.tmp 86), (.tmp 87)], #[74, 74]⟩), 3, "slices.go:200", #[⟨2, .data⟩, ⟨3, .data⟩], none⟩),
  .kp [0, 1, 7]]
def f88r19 : List I := [.op (.mov 89 (.tmp 0)),
  .op (.mov 90 (.tmp 1)),
  .op (.slc 91 12 (.tmp 89) (some (.tmp 90)) none none),
  .op (.mov 92 (.tmp 7)),
  .op (.call (some 93) 120 [(.tmp 91), (.tmp 92)]),
  .kp [0]]
def f88r20 : List I := [.op (.mov 94 (.tmp 0)),
  .op (.mov 6 (.tmp 94)),
  .kp [6]]
def f88c5 : C := (.seq (.reg f88r4) .ret)
def f88c9 : C := (.seq (.reg f88r7) .ret)
def f88c15 : C := (.seq (.reg f88r12) .ret)
def f88c14 : C := (.seq (.drw f88r11) f88c15)
def f88c13 : C := (.seq (.reg f88r10) f88c14)
def f88c12 : C := (.seq (.reg f88r9) f88c13)
def f88c21 : C := (.seq (.reg f88r17) .ret)
def f88c20 : C := (.seq (.reg f88r16) f88c21)
def f88c19 : C := (.seq (.drw f88r15) f88c20)
def f88c24 : C := (.seq (.reg f88r20) .ret)
def f88c23 : C := (.seq (.reg f88r19) f88c24)
def f88c22 : C := (.seq (.reg f88r18) f88c23)
def f88c18 : C := (.seq (.cond (.tmp 68) f88c19 .skip) f88c22)
def f88c17 : C := (.seq (.reg f88r14) f88c18)
def f88c16 : C := (.seq (.reg f88r13) f88c17)
def f88c11 : C := (.seq (.cond (.tmp 31) f88c12 .skip) f88c16)
def f88c10 : C := (.seq (.reg f88r8) f88c11)
def f88c8 : C := (.seq (.cond (.tmp 22) f88c9 .skip) f88c10)
def f88c7 : C := (.seq (.reg f88r6) f88c8)
def f88c6 : C := (.seq (.reg f88r5) f88c7)
def f88c4 : C := (.seq (.cond (.tmp 16) f88c5 .skip) f88c6)
def f88c3 : C := (.seq (.reg f88r3) f88c4)
def f88c2 : C := (.seq (.reg f88r2) f88c3)
def f88c1 : C := (.seq (.reg f88r1) f88c2)
def f88c0 : C := (.seq (.reg f88r0) f88c1)
theorem f88cmp : cmpF Try.prog Try.f88 [.l [.o 0, .kp [0, 1, 2]],
  .l [.o 0, .o 1, .o 2, .kp [0, 1, 2]],
  .l [.o 0, .o 1, .o 2, .kp [0, 1, 2, 7]],
  .l [.o 0, .o 1, .kp [0, 1, 2, 7, 16]],
  .l [.o 0, .o 1, .kp [6]],
  .l [.o 0, .o 1, .o 2, .kp [0, 1, 2, 7, 8]],
  .l [.o 0, .o 1, .o 2, .kp [0, 1, 2, 7, 8, 22]],
  .l [.o 0, .o 1, .o 2, .o 3, .kp [6]],
  .l [.o 0, .o 1, .o 2, .o 3, .o 4, .o 5, .kp [0, 1, 2, 7, 8, 31]],
  .l [.o 0, .o 1, .o 2, .o 3, .o 4, .o 5, .o 6, .o 7, .o 8, .o 9, .kp [0, 1, 2, 7, 9]],
  .l [.o 0, .o 1, .o 2, .o 3, .o 4, .kp [0, 1, 7, 9]],
  .l [.o 0, .o 1, .o 2, .o 3, .o 4, .o 5, .o 6, .o 7, .o 8, .kp [9]],
  .l [.o 0, .o 1, .kp [6]],
  .l [.o 0, .o 1, .o 2, .o 3, .o 4, .o 5, .kp [0, 1, 2, 7, 8]],
  .l [.o 0, .o 1, .o 2, .o 3, .o 4, .o 5, .o 6, .o 7, .kp [0, 1, 2, 7, 8, 68]],
  .l [.o 0, .o 1, .o 2, .o 3, .o 4, .o 5, .o 6, .o 7, .o 8, .kp [0, 1, 2]],
  .l [.o 0, .o 1, .o 2, .o 3, .o 4, .kp [0]],
  .l [.o 0, .o 1, .kp [6]],
  .l [.o 0, .o 1, .o 2, .o 3, .o 4, .kp [0, 1, 7]],
  .l [.o 0, .o 1, .o 2, .o 3, .o 4, .kp [0]],
  .l [.o 0, .o 1, .kp [6]]] = some (f88c0, [.tmp 6]) := by kernel_rfl
theorem f88ok {args : List Value} {h : Heap} {R : Value → Heap → Prop} (hn : args.length ≤ 95) (H : wC Try.prog f88c0 (endW [.tmp 6] R) (envOf 0 args) h) : CallsH Try.prog 88 args h R :=
  fn_ok2 Try.func88 f88cmp hn H
theorem f88cal : callable Try.prog 88 = true := by kernel_rfl
section
variable {Q : X → Env → Heap → Prop} {σ : Env} {h : Heap}
theorem f88c5_eq : wC Try.prog f88c5 Q σ h = (wL Try.prog none f88r4 0 (fun σ h => Q .ret σ h) σ h) := rfl
theorem f88c9_eq : wC Try.prog f88c9 Q σ h = (wL Try.prog none f88r7 0 (fun σ h => Q .ret σ h) σ h) := rfl
theorem f88c15_eq : wC Try.prog f88c15 Q σ h = (wL Try.prog none f88r12 0 (fun σ h => Q .ret σ h) σ h) := rfl
theorem f88c14_eq : wC Try.prog f88c14 Q σ h = (drwW Try.prog f88r11 (fun σ h => wC Try.prog f88c15 Q σ h) σ h) := rfl
theorem f88c13_eq : wC Try.prog f88c13 Q σ h = (wL Try.prog none f88r10 0 (fun σ h => wC Try.prog f88c14 Q σ h) σ h) := rfl
theorem f88c12_eq : wC Try.prog f88c12 Q σ h = (wL Try.prog none f88r9 0 (fun σ h => wC Try.prog f88c13 Q σ h) σ h) := rfl
theorem f88c21_eq : wC Try.prog f88c21 Q σ h = (wL Try.prog none f88r17 0 (fun σ h => Q .ret σ h) σ h) := rfl
theorem f88c20_eq : wC Try.prog f88c20 Q σ h = (wL Try.prog none f88r16 0 (fun σ h => wC Try.prog f88c21 Q σ h) σ h) := rfl
theorem f88c19_eq : wC Try.prog f88c19 Q σ h = (drwW Try.prog f88r15 (fun σ h => wC Try.prog f88c20 Q σ h) σ h) := rfl
theorem f88c24_eq : wC Try.prog f88c24 Q σ h = (wL Try.prog none f88r20 0 (fun σ h => Q .ret σ h) σ h) := rfl
theorem f88c23_eq : wC Try.prog f88c23 Q σ h = (wL Try.prog none f88r19 0 (fun σ h => wC Try.prog f88c24 Q σ h) σ h) := rfl
theorem f88c22_eq : wC Try.prog f88c22 Q σ h = (wL Try.prog none f88r18 0 (fun σ h => wC Try.prog f88c23 Q σ h) σ h) := rfl
theorem f88c18_eq : wC Try.prog f88c18 Q σ h = (bd (evO σ (.tmp 68)) fun v => bd (asB v) fun t => br t (wC Try.prog f88c19 (X.then (fun σ h => wC Try.prog f88c22 Q σ h) Q) σ h) (wC Try.prog f88c22 Q σ h)) := rfl
theorem f88c17_eq : wC Try.prog f88c17 Q σ h = (wL Try.prog none f88r14 0 (fun σ h => wC Try.prog f88c18 Q σ h) σ h) := rfl
theorem f88c16_eq : wC Try.prog f88c16 Q σ h = (wL Try.prog none f88r13 0 (fun σ h => wC Try.prog f88c17 Q σ h) σ h) := rfl
theorem f88c11_eq : wC Try.prog f88c11 Q σ h = (bd (evO σ (.tmp 31)) fun v => bd (asB v) fun t => br t (wC Try.prog f88c12 (X.then (fun σ h => wC Try.prog f88c16 Q σ h) Q) σ h) (wC Try.prog f88c16 Q σ h)) := rfl
theorem f88c10_eq : wC Try.prog f88c10 Q σ h = (wL Try.prog none f88r8 0 (fun σ h => wC Try.prog f88c11 Q σ h) σ h) := rfl
theorem f88c8_eq : wC Try.prog f88c8 Q σ h = (bd (evO σ (.tmp 22)) fun v => bd (asB v) fun t => br t (wC Try.prog f88c9 (X.then (fun σ h => wC Try.prog f88c10 Q σ h) Q) σ h) (wC Try.prog f88c10 Q σ h)) := rfl
theorem f88c7_eq : wC Try.prog f88c7 Q σ h = (wL Try.prog none f88r6 0 (fun σ h => wC Try.prog f88c8 Q σ h) σ h) := rfl
theorem f88c6_eq : wC Try.prog f88c6 Q σ h = (wL Try.prog none f88r5 0 (fun σ h => wC Try.prog f88c7 Q σ h) σ h) := rfl
theorem f88c4_eq : wC Try.prog f88c4 Q σ h = (bd (evO σ (.tmp 16)) fun v => bd (asB v) fun t => br t (wC Try.prog f88c5 (X.then (fun σ h => wC Try.prog f88c6 Q σ h) Q) σ h) (wC Try.prog f88c6 Q σ h)) := rfl
theorem f88c3_eq : wC Try.prog f88c3 Q σ h = (wL Try.prog none f88r3 0 (fun σ h => wC Try.prog f88c4 Q σ h) σ h) := rfl
theorem f88c2_eq : wC Try.prog f88c2 Q σ h = (wL Try.prog none f88r2 0 (fun σ h => wC Try.prog f88c3 Q σ h) σ h) := rfl
theorem f88c1_eq : wC Try.prog f88c1 Q σ h = (wL Try.prog none f88r1 0 (fun σ h => wC Try.prog f88c2 Q σ h) σ h) := rfl
theorem f88c0_eq : wC Try.prog f88c0 Q σ h = (wL Try.prog none f88r0 0 (fun σ h => wC Try.prog f88c1 Q σ h) σ h) := rfl
end
/-! ### f85: antipode/mvcc.put -/
def f85r0 : List I := [.op (.box 3 108 (.tmp 1)),
  .op (.mov 4 (.const (.slice none 0 0))),
  .kp [0, 3]]
def f85r1 : List I := [.op (.mov 6 (.tmp 0)),
  .op (.fad 7 0 (.tmp 3)),
  .op (.ld 8 (some 2) (.tmp 7)),
  .op (.call (some 9) 91 [(.tmp 6), (.tmp 8)]),
  .op (.mov 5 (.tmp 9)),
  .kp [0, 3, 5]]
def f85r2 : List I := [.op (.mov 10 (.tmp 5)),
  .op (.bin 11 .geq (.tmp 10) (.const (.int .i64 0))),
  .op (.mov 12 (.tmp 11)),
  .sc 12 true 8,
  .g 12 true (.mov 13 (.tmp 0)),
  .g 12 true (.mov 14 (.tmp 5)),
  .g 12 true (.iad 15 4 (.tmp 13) (.tmp 14)),
  .g 12 true (.fad 16 0 (.tmp 15)),
  .g 12 true (.ld 17 (some 2) (.tmp 16)),
  .g 12 true (.fad 18 0 (.tmp 3)),
  .g 12 true (.ld 19 (some 2) (.tmp 18)),
  .g 12 true (.eqa 20 false [.i .i64, .i .i64] (.tmp 17) (.tmp 19)),
  .op (.pick 21 (.tmp 12) (.tmp 20) (.const (.bool false))),
  .kp [0, 3, 5, 21]]
def f85r3 : List I := [.op (.mov 22 (.tmp 0)),
  .op (.mov 23 (.tmp 5)),
  .op (.ld 24 (some 4) (.tmp 3)),
  .op (.iad 25 4 (.tmp 22) (.tmp 23)),
  .op (.st 4 (.tmp 25) (.tmp 24)),
  .kp [0]]
def f85r4 : List I := [.op (.mov 26 (.tmp 0)),
  .op (.mov 4 (.tmp 26)),
  .kp [4]]
def f85r5 : List I := [.op (.mov 27 (.tmp 0)),
  .op (.mov 28 (.tmp 5)),
  .op (.bin 29 .add (.tmp 28) (.const (.int .i64 1))),
  .op (.ld 30 (some 4) (.tmp 3)),
  .op (.bsl 31 108 1 [.int .i64 0, .int .i64 0, .bool false, .string ⟨#[]⟩] [(0, 4, (.tmp 30))]),
  .op (.call (some 32) 115 [(.tmp 27), (.tmp 29), (.tmp 31)]),
  .op (.mov 4 (.tmp 32)),
  .kp [4]]
def f85c5 : C := (.seq (.reg f85r4) .ret)
def f85c4 : C := (.seq (.reg f85r3) f85c5)
def f85c6 : C := (.seq (.reg f85r5) .ret)
def f85c3 : C := (.seq (.cond (.tmp 21) f85c4 .skip) f85c6)
def f85c2 : C := (.seq (.drw f85r2) f85c3)
def f85c1 : C := (.seq (.reg f85r1) f85c2)
def f85c0 : C := (.seq (.reg f85r0) f85c1)
theorem f85cmp : cmpF Try.prog Try.f85 [.l [.o 0, .o 1, .kp [0, 3]],
  .l [.o 0, .o 1, .o 2, .o 3, .o 4, .kp [0, 3, 5]],
  .l [.o 0, .o 1, .o 2, .sc 12 true 8, .o 3, .o 4, .o 5, .o 6, .o 7, .o 8, .o 9, .o 10, .o 11, .kp [0, 3, 5, 21]],
  .l [.o 0, .o 1, .o 2, .o 3, .o 4, .kp [0]],
  .l [.o 0, .o 1, .kp [4]],
  .l [.o 0, .o 1, .o 2, .o 3, .o 4, .o 5, .o 6, .kp [4]]] = some (f85c0, [.tmp 4]) := by kernel_rfl
theorem f85ok {args : List Value} {h : Heap} {R : Value → Heap → Prop} (hn : args.length ≤ 33) (H : wC Try.prog f85c0 (endW [.tmp 4] R) (envOf 0 args) h) : CallsH Try.prog 85 args h R :=
  fn_ok2 Try.func85 f85cmp hn H
theorem f85cal : callable Try.prog 85 = true := by kernel_rfl
section
variable {Q : X → Env → Heap → Prop} {σ : Env} {h : Heap}
theorem f85c5_eq : wC Try.prog f85c5 Q σ h = (wL Try.prog none f85r4 0 (fun σ h => Q .ret σ h) σ h) := rfl
theorem f85c4_eq : wC Try.prog f85c4 Q σ h = (wL Try.prog none f85r3 0 (fun σ h => wC Try.prog f85c5 Q σ h) σ h) := rfl
theorem f85c6_eq : wC Try.prog f85c6 Q σ h = (wL Try.prog none f85r5 0 (fun σ h => Q .ret σ h) σ h) := rfl
theorem f85c3_eq : wC Try.prog f85c3 Q σ h = (bd (evO σ (.tmp 21)) fun v => bd (asB v) fun t => br t (wC Try.prog f85c4 (X.then (fun σ h => wC Try.prog f85c6 Q σ h) Q) σ h) (wC Try.prog f85c6 Q σ h)) := rfl
theorem f85c2_eq : wC Try.prog f85c2 Q σ h = (drwW Try.prog f85r2 (fun σ h => wC Try.prog f85c3 Q σ h) σ h) := rfl
theorem f85c1_eq : wC Try.prog f85c1 Q σ h = (wL Try.prog none f85r1 0 (fun σ h => wC Try.prog f85c2 Q σ h) σ h) := rfl
theorem f85c0_eq : wC Try.prog f85c0 Q σ h = (wL Try.prog none f85r0 0 (fun σ h => wC Try.prog f85c1 Q σ h) σ h) := rfl
end
/-! ### f112: antipode/antipoderef8.with -/
def f112r0 : List I := [.op (.box 3 108 (.tmp 1)),
  .op (.mov 4 (.const (.slice none 0 0))),
  .kp [0, 3]]
def f112r1 : List I := [.op (.mov 5 (.const (.slice none 0 0))),
  .kp [0, 3, 5]]
def f112r2 : List I := [.op (.mov 6 (.const (.bool false))),
  .kp [0, 3, 5, 6]]
def f112r3 : List I := [.op (.mov 7 (.const (.int .i64 0))),
  .kp [0, 3, 5, 6, 7]]
def f112r4 : List I := [.op (.mov 8 (.tmp 7)),
  .op (.mov 9 (.tmp 0)),
  .op (.len 10 true (.tmp 9)),
  .op (.bin 11 .lss (.tmp 8) (.tmp 10)),
  .kp [0, 3, 5, 6, 7, 11]]
def f112r5 : List I := [.op (.mov 14 (.tmp 6)),
  .op (.un 15 .not (.tmp 14)),
  .op (.mov 16 (.tmp 15)),
  .sc 16 true 9,
  .g 16 true (.mov 17 (.tmp 0)),
  .g 16 true (.mov 18 (.tmp 7)),
  .g 16 true (.iad 19 4 (.tmp 17) (.tmp 18)),
  .g 16 true (.fad 20 0 (.tmp 19)),
  .g 16 true (.ld 21 (some 2) (.tmp 20)),
  .g 16 true (.fad 22 0 (.tmp 3)),
  .g 16 true (.ld 23 (some 2) (.tmp 22)),
  .g 16 true (.call (some 24) 42 [(.tmp 21), (.tmp 23)]),
  .g 16 true (.un 25 .not (.tmp 24)),
  .op (.pick 26 (.tmp 16) (.tmp 25) (.const (.bool false))),
  .kp [0, 3, 5, 6, 7, 26]]
def f112r6 : List I := [.op (.mov 27 (.tmp 5)),
  .op (.ld 28 (some 4) (.tmp 3)),
  .op (.bsl 29 108 1 [.int .i64 0, .int .i64 0, .bool false, .string ⟨#[]⟩] [(0, 4, (.tmp 28))]),
  .op (.raw (some 30) ⟨(some 30), (.call ⟨(.builtin .append), #[(.tmp 27), (.tmp 29)], #[101, 101]⟩), 101, "ref.go:146", #[⟨0, .data⟩, ⟨2, .data⟩], none⟩),
  .op (.mov 5 (.tmp 30)),
  .op (.mov 6 (.const (.bool true))),
  .kp [0, 3, 5, 6, 7]]
def f112r7 : List I := [.op (.mov 31 (.tmp 0)),
  .op (.mov 32 (.tmp 7)),
  .op (.iad 33 4 (.tmp 31) (.tmp 32)),
  .op (.fad 34 0 (.tmp 33)),
  .op (.ld 35 (some 2) (.tmp 34)),
  .op (.fad 36 0 (.tmp 3)),
  .op (.ld 37 (some 2) (.tmp 36)),
  .op (.eqa 38 true [.i .i64, .i .i64] (.tmp 35) (.tmp 37)),
  .kp [0, 3, 5, 6, 7, 38]]
def f112r8 : List I := [.op (.mov 39 (.tmp 5)),
  .op (.mov 40 (.tmp 0)),
  .op (.mov 41 (.tmp 7)),
  .op (.iad 42 4 (.tmp 40) (.tmp 41)),
  .op (.ld 43 (some 4) (.tmp 42)),
  .op (.bsl 44 108 1 [.int .i64 0, .int .i64 0, .bool false, .string ⟨#[]⟩] [(0, 4, (.tmp 43))]),
  .op (.raw (some 45) ⟨(some 45), (.call ⟨(.builtin .append), #[(.tmp 39), (.tmp 44)], #[101, 101]⟩), 101, "ref.go:149", #[⟨0, .data⟩, ⟨5, .data⟩], none⟩),
  .op (.mov 5 (.tmp 45)),
  .kp [0, 3, 5, 6, 7]]
def f112r9 : List I := [.op (.mov 12 (.tmp 7)),
  .op (.bin 13 .add (.tmp 12) (.const (.int .i64 1))),
  .op (.mov 7 (.tmp 13)),
  .kp [0, 3, 5, 6, 7]]
def f112r10 : List I := [.op (.mov 46 (.tmp 6)),
  .op (.un 47 .not (.tmp 46)),
  .kp [3, 5, 47]]
def f112r11 : List I := [.op (.mov 48 (.tmp 5)),
  .op (.ld 49 (some 4) (.tmp 3)),
  .op (.bsl 50 108 1 [.int .i64 0, .int .i64 0, .bool false, .string ⟨#[]⟩] [(0, 4, (.tmp 49))]),
  .op (.raw (some 51) ⟨(some 51), (.call ⟨(.builtin .append), #[(.tmp 48), (.tmp 50)], #[101, 101]⟩), 101, "ref.go:153", #[⟨0, .data⟩, ⟨2, .data⟩], none⟩),
  .op (.mov 5 (.tmp 51)),
  .kp [5]]
def f112r12 : List I := [.op (.mov 52 (.tmp 5)),
  .op (.mov 4 (.tmp 52)),
  .kp [4]]
def f112c10 : C := (.reg f112r6)
def f112c13 : C := (.reg f112r8)
def f112c12 : C := (.cond (.tmp 38) f112c13 .skip)
def f112c11 : C := (.seq (.drw f112r7) f112c12)
def f112c9 : C := (.seq (.cond (.tmp 26) f112c10 .skip) f112c11)
def f112c8 : C := (.seq (.drw f112r5) f112c9)
def f112c14 : C := (.reg f112r9)
def f112c7 : C := (.seq (.block 1 f112c8) f112c14)
def f112c6 : C := (.seq (.cond (.tmp 11) .skip (.exit 0)) f112c7)
def f112c5 : C := (.seq (.reg f112r4) f112c6)
def f112c17 : C := (.reg f112r11)
def f112c18 : C := (.seq (.reg f112r12) .ret)
def f112c16 : C := (.seq (.cond (.tmp 47) f112c17 .skip) f112c18)
def f112c15 : C := (.seq (.reg f112r10) f112c16)
def f112c4 : C := (.seq (.block 0 (.loop f112c5)) f112c15)
def f112c3 : C := (.seq (.reg f112r3) f112c4)
def f112c2 : C := (.seq (.reg f112r2) f112c3)
def f112c1 : C := (.seq (.reg f112r1) f112c2)
def f112c0 : C := (.seq (.reg f112r0) f112c1)
theorem f112cmp : cmpF Try.prog Try.f112 [.l [.o 0, .o 1, .kp [0, 3]],
  .l [.o 0, .kp [0, 3, 5]],
  .l [.o 0, .kp [0, 3, 5, 6]],
  .l [.o 0, .kp [0, 3, 5, 6, 7]],
  .l [.o 0, .o 1, .o 2, .o 3, .kp [0, 3, 5, 6, 7, 11]],
  .l [.o 0, .o 1, .o 2, .sc 16 true 9, .o 3, .o 4, .o 5, .o 6, .o 7, .o 8, .o 9, .o 10, .o 11, .o 12, .kp [0, 3, 5, 6, 7, 26]],
  .l [.o 0, .o 1, .o 2, .o 3, .o 4, .o 5, .kp [0, 3, 5, 6, 7]],
  .l [.o 0, .o 1, .o 2, .o 3, .o 4, .o 5, .o 6, .o 7, .kp [0, 3, 5, 6, 7, 38]],
  .l [.o 0, .o 1, .o 2, .o 3, .o 4, .o 5, .o 6, .o 7, .kp [0, 3, 5, 6, 7]],
  .l [.o 0, .o 1, .o 2, .kp [0, 3, 5, 6, 7]],
  .l [.o 0, .o 1, .kp [3, 5, 47]],
  .l [.o 0, .o 1, .o 2, .o 3, .o 4, .kp [5]],
  .l [.o 0, .o 1, .kp [4]]] = some (f112c0, [.tmp 4]) := by kernel_rfl
theorem f112ok {args : List Value} {h : Heap} {R : Value → Heap → Prop} (hn : args.length ≤ 53) (H : wC Try.prog f112c0 (endW [.tmp 4] R) (envOf 0 args) h) : CallsH Try.prog 112 args h R :=
  fn_ok2 Try.func112 f112cmp hn H
theorem f112cal : callable Try.prog 112 = true := by kernel_rfl
section
variable {Q : X → Env → Heap → Prop} {σ : Env} {h : Heap}
theorem f112c10_eq : wC Try.prog f112c10 Q σ h = (wL Try.prog none f112r6 0 (fun σ h => Q .normal σ h) σ h) := rfl
theorem f112c13_eq : wC Try.prog f112c13 Q σ h = (wL Try.prog none f112r8 0 (fun σ h => Q .normal σ h) σ h) := rfl
theorem f112c12_eq : wC Try.prog f112c12 Q σ h = (bd (evO σ (.tmp 38)) fun v => bd (asB v) fun t => br t (wC Try.prog f112c13 Q σ h) (Q .normal σ h)) := rfl
theorem f112c11_eq : wC Try.prog f112c11 Q σ h = (drwW Try.prog f112r7 (fun σ h => wC Try.prog f112c12 Q σ h) σ h) := rfl
theorem f112c9_eq : wC Try.prog f112c9 Q σ h = (bd (evO σ (.tmp 26)) fun v => bd (asB v) fun t => br t (wC Try.prog f112c10 (X.then (fun σ h => wC Try.prog f112c11 Q σ h) Q) σ h) (wC Try.prog f112c11 Q σ h)) := rfl
theorem f112c8_eq : wC Try.prog f112c8 Q σ h = (drwW Try.prog f112r5 (fun σ h => wC Try.prog f112c9 Q σ h) σ h) := rfl
theorem f112c14_eq : wC Try.prog f112c14 Q σ h = (wL Try.prog none f112r9 0 (fun σ h => Q .normal σ h) σ h) := rfl
theorem f112c7_eq : wC Try.prog f112c7 Q σ h = (wC Try.prog f112c8 (X.inBlock 1 (X.then (fun σ h => wC Try.prog f112c14 Q σ h) Q)) σ h) := rfl
theorem f112c6_eq : wC Try.prog f112c6 Q σ h = (bd (evO σ (.tmp 11)) fun v => bd (asB v) fun t => br t (wC Try.prog f112c7 Q σ h) (Q (.exit 0) σ h)) := rfl
theorem f112c5_eq : wC Try.prog f112c5 Q σ h = (wL Try.prog none f112r4 0 (fun σ h => wC Try.prog f112c6 Q σ h) σ h) := rfl
theorem f112c17_eq : wC Try.prog f112c17 Q σ h = (wL Try.prog none f112r11 0 (fun σ h => Q .normal σ h) σ h) := rfl
theorem f112c18_eq : wC Try.prog f112c18 Q σ h = (wL Try.prog none f112r12 0 (fun σ h => Q .ret σ h) σ h) := rfl
theorem f112c16_eq : wC Try.prog f112c16 Q σ h = (bd (evO σ (.tmp 47)) fun v => bd (asB v) fun t => br t (wC Try.prog f112c17 (X.then (fun σ h => wC Try.prog f112c18 Q σ h) Q) σ h) (wC Try.prog f112c18 Q σ h)) := rfl
theorem f112c15_eq : wC Try.prog f112c15 Q σ h = (wL Try.prog none f112r10 0 (fun σ h => wC Try.prog f112c16 Q σ h) σ h) := rfl
theorem f112c4_eq : wC Try.prog f112c4 Q σ h = (loopW (wC Try.prog f112c5) (X.inBlock 0 (X.then (fun σ h => wC Try.prog f112c15 Q σ h) Q)) σ h) := rfl
theorem f112c3_eq : wC Try.prog f112c3 Q σ h = (wL Try.prog none f112r3 0 (fun σ h => wC Try.prog f112c4 Q σ h) σ h) := rfl
theorem f112c2_eq : wC Try.prog f112c2 Q σ h = (wL Try.prog none f112r2 0 (fun σ h => wC Try.prog f112c3 Q σ h) σ h) := rfl
theorem f112c1_eq : wC Try.prog f112c1 Q σ h = (wL Try.prog none f112r1 0 (fun σ h => wC Try.prog f112c2 Q σ h) σ h) := rfl
theorem f112c0_eq : wC Try.prog f112c0 Q σ h = (wL Try.prog none f112r0 0 (fun σ h => wC Try.prog f112c1 Q σ h) σ h) := rfl
end
end Go.Proofs.Ytefghfgmkndikaa
