/-
  By a program of mine (wip/tools/gen.py): the code of functions of the seat in the small instruction language, and that it is their code.
-/
import Derived.Test.YtefghfgmkndikaaFM
import Derived.Test.YtefghfgmkndikaaProg
set_option linter.unusedSimpArgs false
set_option linter.unusedVariables false
namespace Go.Proofs.Ytefghfgmkndikaa
open Go.AX
set_option maxRecDepth 100000
/-! ### f42: antipode/antipoderef6.Less -/
def f42r0 : List I := [.op (.box 2 39 (.tmp 0)),
  .op (.box 3 39 (.tmp 1)),
  .op (.mov 4 (.const (.bool false))),
  .kp [2, 3]]
def f42r1 : List I := [.op (.fad 5 0 (.tmp 2)),
  .op (.ld 6 none (.tmp 5)),
  .op (.fad 7 0 (.tmp 3)),
  .op (.ld 8 none (.tmp 7)),
  .op (.bin 9 .lss (.tmp 6) (.tmp 8)),
  .op (.mov 10 (.tmp 9)),
  .sc 10 false 13,
  .g 10 false (.fad 11 0 (.tmp 2)),
  .g 10 false (.ld 12 none (.tmp 11)),
  .g 10 false (.fad 13 0 (.tmp 3)),
  .g 10 false (.ld 14 none (.tmp 13)),
  .g 10 false (.bin 15 .eql (.tmp 12) (.tmp 14)),
  .g 10 false (.mov 16 (.tmp 15)),
  .sc 16 true 5,
  .g 16 true (.fad 17 1 (.tmp 2)),
  .g 16 true (.ld 18 none (.tmp 17)),
  .g 16 true (.fad 19 1 (.tmp 3)),
  .g 16 true (.ld 20 none (.tmp 19)),
  .g 16 true (.bin 21 .lss (.tmp 18) (.tmp 20)),
  .g 10 false (.pick 22 (.tmp 16) (.tmp 21) (.const (.bool false))),
  .op (.pick 23 (.tmp 10) (.const (.bool true)) (.tmp 22)),
  .kp [23],
  .op (.mov 4 (.tmp 23)),
  .kp [4]]
def f42c1 : C := (.seq (.reg f42r1) .ret)
def f42c0 : C := (.seq (.reg f42r0) f42c1)
theorem f42cmp : cmpF Try.prog Try.f42 [.l [.o 0, .o 1, .o 2, .kp [2, 3]],
  .l [.o 0, .o 1, .o 2, .o 3, .o 4, .o 5, .sc 10 false 13, .o 6, .o 7, .o 8, .o 9, .o 10, .o 11, .sc 16 true 5, .o 12, .o 13, .o 14, .o 15, .o 16, .o 17, .o 18, .kp [23], .o 19, .kp [4]]] = some (f42c0, [.tmp 4]) := by kernel_rfl
theorem f42ok {args : List Value} {h : Heap} {R : Value → Heap → Prop} (hn : args.length ≤ 24) (H : wC Try.prog f42c0 (endW [.tmp 4] R) (envOf 0 args) h) : CallsH Try.prog 42 args h R :=
  fn_ok2 Try.func42 f42cmp hn H
theorem f42cal : callable Try.prog 42 = true := by kernel_rfl
section
variable {Q : X → Env → Heap → Prop} {σ : Env} {h : Heap}
theorem f42c1_eq : wC Try.prog f42c1 Q σ h = (wL Try.prog none f42r1 0 (fun σ h => Q .ret σ h) σ h) := rfl
theorem f42c0_eq : wC Try.prog f42c0 Q σ h = (wL Try.prog none f42r0 0 (fun σ h => wC Try.prog f42c1 Q σ h) σ h) := rfl
end
/-! ### f90: antipode/stamp.Less -/
def f90r0 : List I := [.op (.box 2 39 (.tmp 0)),
  .op (.box 3 39 (.tmp 1)),
  .op (.mov 4 (.const (.bool false))),
  .kp [2, 3]]
def f90r1 : List I := [.op (.fad 5 0 (.tmp 2)),
  .op (.ld 6 none (.tmp 5)),
  .op (.fad 7 0 (.tmp 3)),
  .op (.ld 8 none (.tmp 7)),
  .op (.fad 10 1 (.tmp 2)),
  .op (.ld 11 none (.tmp 10)),
  .op (.fad 12 1 (.tmp 3)),
  .op (.ld 13 none (.tmp 12)),
  .op (.call (some 9) 122 [(.tmp 6), (.tmp 8)]),
  .op (.call (some 14) 122 [(.tmp 11), (.tmp 13)]),
  .kp [9, 14],
  .op (.bsl 15 3 2 [.int .i64 0, .int .i64 0] [(0, 1, (.tmp 9)), (1, 1, (.tmp 14))]),
  .op (.call (some 16) 121 [(.tmp 15)]),
  .op (.bin 17 .lss (.tmp 16) (.const (.int .i64 0))),
  .op (.mov 4 (.tmp 17)),
  .kp [4]]
def f90c1 : C := (.seq (.drw f90r1) .ret)
def f90c0 : C := (.seq (.reg f90r0) f90c1)
theorem f90cmp : cmpF Try.prog Try.f90 [.l [.o 0, .o 1, .o 2, .kp [2, 3]],
  .l [.o 0, .o 1, .o 2, .o 3, .o 5, .o 6, .o 7, .o 8, .o 4, .o 9, .kp [9, 14], .o 10, .o 11, .o 12, .o 13, .kp [4]]] = some (f90c0, [.tmp 4]) := by kernel_rfl
theorem f90ok {args : List Value} {h : Heap} {R : Value → Heap → Prop} (hn : args.length ≤ 18) (H : wC Try.prog f90c0 (endW [.tmp 4] R) (envOf 0 args) h) : CallsH Try.prog 90 args h R :=
  fn_ok2 Try.func90 f90cmp hn H
theorem f90cal : callable Try.prog 90 = true := by kernel_rfl
section
variable {Q : X → Env → Heap → Prop} {σ : Env} {h : Heap}
theorem f90c1_eq : wC Try.prog f90c1 Q σ h = (drwW Try.prog f90r1 (fun σ h => Q .ret σ h) σ h) := rfl
theorem f90c0_eq : wC Try.prog f90c0 Q σ h = (wL Try.prog none f90r0 0 (fun σ h => wC Try.prog f90c1 Q σ h) σ h) := rfl
end
/-! ### f91: antipode/mvcc.last -/
def f91r0 : List I := [.op (.box 3 39 (.tmp 1)),
  .op (.mov 4 (.const (.int .i64 0))),
  .kp [0, 3]]
def f91r1 : List I := [.op (.mov 6 (.tmp 0)),
  .op (.len 7 true (.tmp 6)),
  .op (.bin 8 .sub (.tmp 7) (.const (.int .i64 1))),
  .op (.mov 5 (.tmp 8)),
  .kp [0, 3, 5]]
def f91r2 : List I := [.op (.mov 9 (.tmp 5)),
  .op (.bin 10 .geq (.tmp 9) (.const (.int .i64 0))),
  .kp [0, 3, 5, 10]]
def f91r3 : List I := [.op (.ld 13 (some 2) (.tmp 3)),
  .op (.mov 14 (.tmp 0)),
  .op (.mov 15 (.tmp 5)),
  .op (.iad 16 4 (.tmp 14) (.tmp 15)),
  .op (.fad 17 0 (.tmp 16)),
  .op (.ld 18 (some 2) (.tmp 17)),
  .op (.call (some 19) 90 [(.tmp 13), (.tmp 18)]),
  .op (.un 20 .not (.tmp 19)),
  .kp [0, 3, 5, 20]]
def f91r4 : List I := [.op (.mov 21 (.tmp 5)),
  .op (.mov 4 (.tmp 21)),
  .kp [4]]
def f91r5 : List I := [.op (.mov 11 (.tmp 5)),
  .op (.bin 12 .sub (.tmp 11) (.const (.int .i64 1))),
  .op (.mov 5 (.tmp 12)),
  .kp [0, 3, 5]]
def f91r6 : List I := [.op (.mov 4 (.const (.int .i64 (-1)))),
  .kp [4]]
def f91c8 : C := (.seq (.reg f91r4) .ret)
def f91c7 : C := (.cond (.tmp 20) f91c8 .skip)
def f91c6 : C := (.seq (.drw f91r3) f91c7)
def f91c9 : C := (.reg f91r5)
def f91c5 : C := (.seq (.block 1 f91c6) f91c9)
def f91c4 : C := (.seq (.cond (.tmp 10) .skip (.exit 0)) f91c5)
def f91c3 : C := (.seq (.reg f91r2) f91c4)
def f91c10 : C := (.seq (.reg f91r6) .ret)
def f91c2 : C := (.seq (.block 0 (.loop f91c3)) f91c10)
def f91c1 : C := (.seq (.reg f91r1) f91c2)
def f91c0 : C := (.seq (.reg f91r0) f91c1)
theorem f91cmp : cmpF Try.prog Try.f91 [.l [.o 0, .o 1, .kp [0, 3]],
  .l [.o 0, .o 1, .o 2, .o 3, .kp [0, 3, 5]],
  .l [.o 0, .o 1, .kp [0, 3, 5, 10]],
  .l [.o 0, .o 1, .o 2, .o 3, .o 4, .o 5, .o 6, .o 7, .kp [0, 3, 5, 20]],
  .l [.o 0, .o 1, .kp [4]],
  .l [.o 0, .o 1, .o 2, .kp [0, 3, 5]],
  .l [.o 0, .kp [4]]] = some (f91c0, [.tmp 4]) := by kernel_rfl
theorem f91ok {args : List Value} {h : Heap} {R : Value → Heap → Prop} (hn : args.length ≤ 22) (H : wC Try.prog f91c0 (endW [.tmp 4] R) (envOf 0 args) h) : CallsH Try.prog 91 args h R :=
  fn_ok2 Try.func91 f91cmp hn H
theorem f91cal : callable Try.prog 91 = true := by kernel_rfl
section
variable {Q : X → Env → Heap → Prop} {σ : Env} {h : Heap}
theorem f91c8_eq : wC Try.prog f91c8 Q σ h = (wL Try.prog none f91r4 0 (fun σ h => Q .ret σ h) σ h) := rfl
theorem f91c7_eq : wC Try.prog f91c7 Q σ h = (bd (evO σ (.tmp 20)) fun v => bd (asB v) fun t => br t (wC Try.prog f91c8 Q σ h) (Q .normal σ h)) := rfl
theorem f91c6_eq : wC Try.prog f91c6 Q σ h = (drwW Try.prog f91r3 (fun σ h => wC Try.prog f91c7 Q σ h) σ h) := rfl
theorem f91c9_eq : wC Try.prog f91c9 Q σ h = (wL Try.prog none f91r5 0 (fun σ h => Q .normal σ h) σ h) := rfl
theorem f91c5_eq : wC Try.prog f91c5 Q σ h = (wC Try.prog f91c6 (X.inBlock 1 (X.then (fun σ h => wC Try.prog f91c9 Q σ h) Q)) σ h) := rfl
theorem f91c4_eq : wC Try.prog f91c4 Q σ h = (bd (evO σ (.tmp 10)) fun v => bd (asB v) fun t => br t (wC Try.prog f91c5 Q σ h) (Q (.exit 0) σ h)) := rfl
theorem f91c3_eq : wC Try.prog f91c3 Q σ h = (wL Try.prog none f91r2 0 (fun σ h => wC Try.prog f91c4 Q σ h) σ h) := rfl
theorem f91c10_eq : wC Try.prog f91c10 Q σ h = (wL Try.prog none f91r6 0 (fun σ h => Q .ret σ h) σ h) := rfl
theorem f91c2_eq : wC Try.prog f91c2 Q σ h = (loopW (wC Try.prog f91c3) (X.inBlock 0 (X.then (fun σ h => wC Try.prog f91c10 Q σ h) Q)) σ h) := rfl
theorem f91c1_eq : wC Try.prog f91c1 Q σ h = (wL Try.prog none f91r1 0 (fun σ h => wC Try.prog f91c2 Q σ h) σ h) := rfl
theorem f91c0_eq : wC Try.prog f91c0 Q σ h = (wL Try.prog none f91r0 0 (fun σ h => wC Try.prog f91c1 Q σ h) σ h) := rfl
end
/-! ### f121: cmp.Or[int] -/
def f121r0 : List I := [.op (.mov 2 (.const (.int .i64 0))),
  .kp [0]]
def f121r1 : List I := [.op (.mov 3 (.const (.int .i64 0))),
  .kp [0, 3]]
def f121r2 : List I := [.op (.mov 6 (.tmp 0)),
  .op (.len 7 true (.tmp 6)),
  .op (.mov 8 (.const (.int .i64 0))),
  .kp [3, 6, 7, 8]]
def f121r3 : List I := [.op (.bin 9 .lss (.tmp 8) (.tmp 7)),
  .kp [3, 6, 7, 8, 9]]
def f121r4 : List I := [.op (.iad 10 1 (.tmp 6) (.tmp 8)),
  .op (.ld 11 none (.tmp 10)),
  .op (.mov 5 (.tmp 11)),
  .kp [3, 5, 6, 7, 8]]
def f121r5 : List I := [.op (.mov 12 (.tmp 5)),
  .op (.mov 13 (.tmp 3)),
  .op (.bin 14 .neq (.tmp 12) (.tmp 13)),
  .kp [3, 5, 6, 7, 8, 14]]
def f121r6 : List I := [.op (.mov 15 (.tmp 5)),
  .op (.mov 2 (.tmp 15)),
  .kp [2]]
def f121r7 : List I := [.op (.bin 16 .add (.tmp 8) (.const (.int .i64 1))),
  .op (.mov 8 (.tmp 16)),
  .kp [3, 6, 7, 8]]
def f121r8 : List I := [.op (.mov 17 (.tmp 3)),
  .op (.mov 2 (.tmp 17)),
  .kp [2]]
def f121c10 : C := (.seq (.reg f121r6) .ret)
def f121c9 : C := (.cond (.tmp 14) f121c10 .skip)
def f121c8 : C := (.seq (.reg f121r5) f121c9)
def f121c7 : C := (.seq (.reg f121r4) f121c8)
def f121c11 : C := (.reg f121r7)
def f121c6 : C := (.seq (.block 1 f121c7) f121c11)
def f121c5 : C := (.seq (.cond (.tmp 9) .skip (.exit 0)) f121c6)
def f121c4 : C := (.seq (.reg f121r3) f121c5)
def f121c12 : C := (.seq (.reg f121r8) .ret)
def f121c3 : C := (.seq (.block 0 (.loop f121c4)) f121c12)
def f121c2 : C := (.seq (.reg f121r2) f121c3)
def f121c1 : C := (.seq (.reg f121r1) f121c2)
def f121c0 : C := (.seq (.reg f121r0) f121c1)
theorem f121cmp : cmpF Try.prog Try.f121 [.l [.o 0, .kp [0]],
  .l [.o 0, .kp [0, 3]],
  .l [.o 0, .o 1, .o 2, .kp [3, 6, 7, 8]],
  .l [.o 0, .kp [3, 6, 7, 8, 9]],
  .l [.o 0, .o 1, .o 2, .kp [3, 5, 6, 7, 8]],
  .l [.o 0, .o 1, .o 2, .kp [3, 5, 6, 7, 8, 14]],
  .l [.o 0, .o 1, .kp [2]],
  .l [.o 0, .o 1, .kp [3, 6, 7, 8]],
  .l [.o 0, .o 1, .kp [2]]] = some (f121c0, [.tmp 2]) := by kernel_rfl
theorem f121ok {args : List Value} {h : Heap} {R : Value → Heap → Prop} (hn : args.length ≤ 18) (H : wC Try.prog f121c0 (endW [.tmp 2] R) (envOf 0 args) h) : CallsH Try.prog 121 args h R :=
  fn_ok2 Try.func121 f121cmp hn H
theorem f121cal : callable Try.prog 121 = true := by kernel_rfl
section
variable {Q : X → Env → Heap → Prop} {σ : Env} {h : Heap}
theorem f121c10_eq : wC Try.prog f121c10 Q σ h = (wL Try.prog none f121r6 0 (fun σ h => Q .ret σ h) σ h) := rfl
theorem f121c9_eq : wC Try.prog f121c9 Q σ h = (bd (evO σ (.tmp 14)) fun v => bd (asB v) fun t => br t (wC Try.prog f121c10 Q σ h) (Q .normal σ h)) := rfl
theorem f121c8_eq : wC Try.prog f121c8 Q σ h = (wL Try.prog none f121r5 0 (fun σ h => wC Try.prog f121c9 Q σ h) σ h) := rfl
theorem f121c7_eq : wC Try.prog f121c7 Q σ h = (wL Try.prog none f121r4 0 (fun σ h => wC Try.prog f121c8 Q σ h) σ h) := rfl
theorem f121c11_eq : wC Try.prog f121c11 Q σ h = (wL Try.prog none f121r7 0 (fun σ h => Q .normal σ h) σ h) := rfl
theorem f121c6_eq : wC Try.prog f121c6 Q σ h = (wC Try.prog f121c7 (X.inBlock 1 (X.then (fun σ h => wC Try.prog f121c11 Q σ h) Q)) σ h) := rfl
theorem f121c5_eq : wC Try.prog f121c5 Q σ h = (bd (evO σ (.tmp 9)) fun v => bd (asB v) fun t => br t (wC Try.prog f121c6 Q σ h) (Q (.exit 0) σ h)) := rfl
theorem f121c4_eq : wC Try.prog f121c4 Q σ h = (wL Try.prog none f121r3 0 (fun σ h => wC Try.prog f121c5 Q σ h) σ h) := rfl
theorem f121c12_eq : wC Try.prog f121c12 Q σ h = (wL Try.prog none f121r8 0 (fun σ h => Q .ret σ h) σ h) := rfl
theorem f121c3_eq : wC Try.prog f121c3 Q σ h = (loopW (wC Try.prog f121c4) (X.inBlock 0 (X.then (fun σ h => wC Try.prog f121c12 Q σ h) Q)) σ h) := rfl
theorem f121c2_eq : wC Try.prog f121c2 Q σ h = (wL Try.prog none f121r2 0 (fun σ h => wC Try.prog f121c3 Q σ h) σ h) := rfl
theorem f121c1_eq : wC Try.prog f121c1 Q σ h = (wL Try.prog none f121r1 0 (fun σ h => wC Try.prog f121c2 Q σ h) σ h) := rfl
theorem f121c0_eq : wC Try.prog f121c0 Q σ h = (wL Try.prog none f121r0 0 (fun σ h => wC Try.prog f121c1 Q σ h) σ h) := rfl
end
/-! ### f122: cmp.Compare[int64] -/
def f122r0 : List I := [.op (.mov 4 (.const (.int .i64 0))),
  .kp [0, 1]]
def f122r1 : List I := [.op (.mov 7 (.tmp 0)),
  .op (.call (some 8) 141 [(.tmp 7)]),
  .op (.mov 5 (.tmp 8)),
  .kp [0, 1, 5]]
def f122r2 : List I := [.op (.mov 9 (.tmp 1)),
  .op (.call (some 10) 141 [(.tmp 9)]),
  .op (.mov 6 (.tmp 10)),
  .kp [0, 1, 5, 6]]
def f122r3 : List I := [.op (.mov 11 (.tmp 5)),
  .kp [0, 1, 6, 11]]
def f122r4 : List I := [.op (.mov 12 (.tmp 6)),
  .kp [12]]
def f122r5 : List I := [.op (.mov 4 (.const (.int .i64 0))),
  .kp [4]]
def f122r6 : List I := [.op (.mov 4 (.const (.int .i64 (-1)))),
  .kp [4]]
def f122r7 : List I := [.op (.mov 13 (.tmp 6)),
  .kp [0, 1, 13]]
def f122r8 : List I := [.op (.mov 4 (.const (.int .i64 1))),
  .kp [4]]
def f122r9 : List I := [.op (.mov 14 (.tmp 0)),
  .op (.mov 15 (.tmp 1)),
  .op (.bin 16 .lss (.tmp 14) (.tmp 15)),
  .kp [0, 1, 16]]
def f122r10 : List I := [.op (.mov 4 (.const (.int .i64 (-1)))),
  .kp [4]]
def f122r11 : List I := [.op (.mov 17 (.tmp 0)),
  .op (.mov 18 (.tmp 1)),
  .op (.bin 19 .gtr (.tmp 17) (.tmp 18)),
  .kp [19]]
def f122r12 : List I := [.op (.mov 4 (.const (.int .i64 1))),
  .kp [4]]
def f122r13 : List I := [.op (.mov 4 (.const (.int .i64 0))),
  .kp [4]]
def f122c7 : C := (.seq (.reg f122r5) .ret)
def f122c8 : C := (.seq (.reg f122r6) .ret)
def f122c6 : C := (.seq (.cond (.tmp 12) f122c7 .skip) f122c8)
def f122c5 : C := (.seq (.reg f122r4) f122c6)
def f122c11 : C := (.seq (.reg f122r8) .ret)
def f122c14 : C := (.seq (.reg f122r10) .ret)
def f122c17 : C := (.seq (.reg f122r12) .ret)
def f122c18 : C := (.seq (.reg f122r13) .ret)
def f122c16 : C := (.seq (.cond (.tmp 19) f122c17 .skip) f122c18)
def f122c15 : C := (.seq (.reg f122r11) f122c16)
def f122c13 : C := (.seq (.cond (.tmp 16) f122c14 .skip) f122c15)
def f122c12 : C := (.seq (.reg f122r9) f122c13)
def f122c10 : C := (.seq (.cond (.tmp 13) f122c11 .skip) f122c12)
def f122c9 : C := (.seq (.reg f122r7) f122c10)
def f122c4 : C := (.seq (.cond (.tmp 11) f122c5 .skip) f122c9)
def f122c3 : C := (.seq (.reg f122r3) f122c4)
def f122c2 : C := (.seq (.reg f122r2) f122c3)
def f122c1 : C := (.seq (.reg f122r1) f122c2)
def f122c0 : C := (.seq (.reg f122r0) f122c1)
theorem f122cmp : cmpF Try.prog Try.f122 [.l [.o 0, .kp [0, 1]],
  .l [.o 0, .o 1, .o 2, .kp [0, 1, 5]],
  .l [.o 0, .o 1, .o 2, .kp [0, 1, 5, 6]],
  .l [.o 0, .kp [0, 1, 6, 11]],
  .l [.o 0, .kp [12]],
  .l [.o 0, .kp [4]],
  .l [.o 0, .kp [4]],
  .l [.o 0, .kp [0, 1, 13]],
  .l [.o 0, .kp [4]],
  .l [.o 0, .o 1, .o 2, .kp [0, 1, 16]],
  .l [.o 0, .kp [4]],
  .l [.o 0, .o 1, .o 2, .kp [19]],
  .l [.o 0, .kp [4]],
  .l [.o 0, .kp [4]]] = some (f122c0, [.tmp 4]) := by kernel_rfl
theorem f122ok {args : List Value} {h : Heap} {R : Value → Heap → Prop} (hn : args.length ≤ 20) (H : wC Try.prog f122c0 (endW [.tmp 4] R) (envOf 0 args) h) : CallsH Try.prog 122 args h R :=
  fn_ok2 Try.func122 f122cmp hn H
theorem f122cal : callable Try.prog 122 = true := by kernel_rfl
section
variable {Q : X → Env → Heap → Prop} {σ : Env} {h : Heap}
theorem f122c7_eq : wC Try.prog f122c7 Q σ h = (wL Try.prog none f122r5 0 (fun σ h => Q .ret σ h) σ h) := rfl
theorem f122c8_eq : wC Try.prog f122c8 Q σ h = (wL Try.prog none f122r6 0 (fun σ h => Q .ret σ h) σ h) := rfl
theorem f122c6_eq : wC Try.prog f122c6 Q σ h = (bd (evO σ (.tmp 12)) fun v => bd (asB v) fun t => br t (wC Try.prog f122c7 (X.then (fun σ h => wC Try.prog f122c8 Q σ h) Q) σ h) (wC Try.prog f122c8 Q σ h)) := rfl
theorem f122c5_eq : wC Try.prog f122c5 Q σ h = (wL Try.prog none f122r4 0 (fun σ h => wC Try.prog f122c6 Q σ h) σ h) := rfl
theorem f122c11_eq : wC Try.prog f122c11 Q σ h = (wL Try.prog none f122r8 0 (fun σ h => Q .ret σ h) σ h) := rfl
theorem f122c14_eq : wC Try.prog f122c14 Q σ h = (wL Try.prog none f122r10 0 (fun σ h => Q .ret σ h) σ h) := rfl
theorem f122c17_eq : wC Try.prog f122c17 Q σ h = (wL Try.prog none f122r12 0 (fun σ h => Q .ret σ h) σ h) := rfl
theorem f122c18_eq : wC Try.prog f122c18 Q σ h = (wL Try.prog none f122r13 0 (fun σ h => Q .ret σ h) σ h) := rfl
theorem f122c16_eq : wC Try.prog f122c16 Q σ h = (bd (evO σ (.tmp 19)) fun v => bd (asB v) fun t => br t (wC Try.prog f122c17 (X.then (fun σ h => wC Try.prog f122c18 Q σ h) Q) σ h) (wC Try.prog f122c18 Q σ h)) := rfl
theorem f122c15_eq : wC Try.prog f122c15 Q σ h = (wL Try.prog none f122r11 0 (fun σ h => wC Try.prog f122c16 Q σ h) σ h) := rfl
theorem f122c13_eq : wC Try.prog f122c13 Q σ h = (bd (evO σ (.tmp 16)) fun v => bd (asB v) fun t => br t (wC Try.prog f122c14 (X.then (fun σ h => wC Try.prog f122c15 Q σ h) Q) σ h) (wC Try.prog f122c15 Q σ h)) := rfl
theorem f122c12_eq : wC Try.prog f122c12 Q σ h = (wL Try.prog none f122r9 0 (fun σ h => wC Try.prog f122c13 Q σ h) σ h) := rfl
theorem f122c10_eq : wC Try.prog f122c10 Q σ h = (bd (evO σ (.tmp 13)) fun v => bd (asB v) fun t => br t (wC Try.prog f122c11 (X.then (fun σ h => wC Try.prog f122c12 Q σ h) Q) σ h) (wC Try.prog f122c12 Q σ h)) := rfl
theorem f122c9_eq : wC Try.prog f122c9 Q σ h = (wL Try.prog none f122r7 0 (fun σ h => wC Try.prog f122c10 Q σ h) σ h) := rfl
theorem f122c4_eq : wC Try.prog f122c4 Q σ h = (bd (evO σ (.tmp 11)) fun v => bd (asB v) fun t => br t (wC Try.prog f122c5 (X.then (fun σ h => wC Try.prog f122c9 Q σ h) Q) σ h) (wC Try.prog f122c9 Q σ h)) := rfl
theorem f122c3_eq : wC Try.prog f122c3 Q σ h = (wL Try.prog none f122r3 0 (fun σ h => wC Try.prog f122c4 Q σ h) σ h) := rfl
theorem f122c2_eq : wC Try.prog f122c2 Q σ h = (wL Try.prog none f122r2 0 (fun σ h => wC Try.prog f122c3 Q σ h) σ h) := rfl
theorem f122c1_eq : wC Try.prog f122c1 Q σ h = (wL Try.prog none f122r1 0 (fun σ h => wC Try.prog f122c2 Q σ h) σ h) := rfl
theorem f122c0_eq : wC Try.prog f122c0 Q σ h = (wL Try.prog none f122r0 0 (fun σ h => wC Try.prog f122c1 Q σ h) σ h) := rfl
end
/-! ### f141: cmp.isNaN[int64] -/
def f141r0 : List I := [.op (.mov 2 (.const (.bool false))),
  .kp [0]]
def f141r1 : List I := [.op (.mov 3 (.tmp 0)),
  .op (.mov 4 (.tmp 0)),
  .op (.bin 5 .neq (.tmp 3) (.tmp 4)),
  .op (.mov 2 (.tmp 5)),
  .kp [2]]
def f141c1 : C := (.seq (.reg f141r1) .ret)
def f141c0 : C := (.seq (.reg f141r0) f141c1)
theorem f141cmp : cmpF Try.prog Try.f141 [.l [.o 0, .kp [0]],
  .l [.o 0, .o 1, .o 2, .o 3, .kp [2]]] = some (f141c0, [.tmp 2]) := by kernel_rfl
theorem f141ok {args : List Value} {h : Heap} {R : Value → Heap → Prop} (hn : args.length ≤ 6) (H : wC Try.prog f141c0 (endW [.tmp 2] R) (envOf 0 args) h) : CallsH Try.prog 141 args h R :=
  fn_ok2 Try.func141 f141cmp hn H
theorem f141cal : callable Try.prog 141 = true := by kernel_rfl
section
variable {Q : X → Env → Heap → Prop} {σ : Env} {h : Heap}
theorem f141c1_eq : wC Try.prog f141c1 Q σ h = (wL Try.prog none f141r1 0 (fun σ h => Q .ret σ h) σ h) := rfl
theorem f141c0_eq : wC Try.prog f141c0 Q σ h = (wL Try.prog none f141r0 0 (fun σ h => wC Try.prog f141c1 Q σ h) σ h) := rfl
end
/-! ### f89: antipode/mvcc.tells -/
def f89r0 : List I := [.op (.box 2 103 (.tmp 0)),
  .op (.box 3 39 (.tmp 1)),
  .op (.mov 4 (.const (.string ⟨#[]⟩))),
  .op (.mov 5 (.const (.bool false))),
  .kp [2, 3]]
def f89r1 : List I := [.op (.fad 7 1 (.tmp 2)),
  .op (.ld 8 none (.tmp 7)),
  .op (.ld 9 (some 2) (.tmp 3)),
  .op (.call (some 10) 91 [(.tmp 8), (.tmp 9)]),
  .op (.mov 6 (.tmp 10)),
  .kp [2, 6]]
def f89r2 : List I := [.op (.mov 11 (.tmp 6)),
  .op (.bin 12 .lss (.tmp 11) (.const (.int .i64 0))),
  .op (.mov 13 (.tmp 12)),
  .sc 13 false 6,
  .g 13 false (.fad 14 1 (.tmp 2)),
  .g 13 false (.ld 15 none (.tmp 14)),
  .g 13 false (.mov 16 (.tmp 6)),
  .g 13 false (.iad 17 4 (.tmp 15) (.tmp 16)),
  .g 13 false (.fad 18 2 (.tmp 17)),
  .g 13 false (.ld 19 none (.tmp 18)),
  .op (.pick 20 (.tmp 13) (.const (.bool true)) (.tmp 19)),
  .kp [2, 6, 20]]
def f89r3 : List I := [.op (.mov 4 (.const (.string ⟨#[]⟩))),
  .op (.mov 5 (.const (.bool false))),
  .kp [4, 5]]
def f89r4 : List I := [.op (.fad 21 1 (.tmp 2)),
  .op (.ld 22 none (.tmp 21)),
  .op (.mov 23 (.tmp 6)),
  .op (.iad 24 4 (.tmp 22) (.tmp 23)),
  .op (.fad 25 3 (.tmp 24)),
  .op (.ld 26 none (.tmp 25)),
  .op (.mov 4 (.tmp 26)),
  .op (.mov 5 (.const (.bool true))),
  .kp [4, 5]]
def f89c4 : C := (.seq (.reg f89r3) .ret)
def f89c5 : C := (.seq (.reg f89r4) .ret)
def f89c3 : C := (.seq (.cond (.tmp 20) f89c4 .skip) f89c5)
def f89c2 : C := (.seq (.reg f89r2) f89c3)
def f89c1 : C := (.seq (.reg f89r1) f89c2)
def f89c0 : C := (.seq (.reg f89r0) f89c1)
theorem f89cmp : cmpF Try.prog Try.f89 [.l [.o 0, .o 1, .o 2, .o 3, .kp [2, 3]],
  .l [.o 0, .o 1, .o 2, .o 3, .o 4, .kp [2, 6]],
  .l [.o 0, .o 1, .o 2, .sc 13 false 6, .o 3, .o 4, .o 5, .o 6, .o 7, .o 8, .o 9, .kp [2, 6, 20]],
  .l [.o 0, .o 1, .kp [4, 5]],
  .l [.o 0, .o 1, .o 2, .o 3, .o 4, .o 5, .o 6, .o 7, .kp [4, 5]]] = some (f89c0, [.tmp 4, .tmp 5]) := by kernel_rfl
theorem f89ok {args : List Value} {h : Heap} {R : Value → Heap → Prop} (hn : args.length ≤ 27) (H : wC Try.prog f89c0 (endW [.tmp 4, .tmp 5] R) (envOf 0 args) h) : CallsH Try.prog 89 args h R :=
  fn_ok2 Try.func89 f89cmp hn H
theorem f89cal : callable Try.prog 89 = true := by kernel_rfl
section
variable {Q : X → Env → Heap → Prop} {σ : Env} {h : Heap}
theorem f89c4_eq : wC Try.prog f89c4 Q σ h = (wL Try.prog none f89r3 0 (fun σ h => Q .ret σ h) σ h) := rfl
theorem f89c5_eq : wC Try.prog f89c5 Q σ h = (wL Try.prog none f89r4 0 (fun σ h => Q .ret σ h) σ h) := rfl
theorem f89c3_eq : wC Try.prog f89c3 Q σ h = (bd (evO σ (.tmp 20)) fun v => bd (asB v) fun t => br t (wC Try.prog f89c4 (X.then (fun σ h => wC Try.prog f89c5 Q σ h) Q) σ h) (wC Try.prog f89c5 Q σ h)) := rfl
theorem f89c2_eq : wC Try.prog f89c2 Q σ h = (wL Try.prog none f89r2 0 (fun σ h => wC Try.prog f89c3 Q σ h) σ h) := rfl
theorem f89c1_eq : wC Try.prog f89c1 Q σ h = (wL Try.prog none f89r1 0 (fun σ h => wC Try.prog f89c2 Q σ h) σ h) := rfl
theorem f89c0_eq : wC Try.prog f89c0 Q σ h = (wL Try.prog none f89r0 0 (fun σ h => wC Try.prog f89c1 Q σ h) σ h) := rfl
end
/-! ### f107: antipode/antipoderef8.of -/
def f107r0 : List I := [.op (.box 2 103 (.tmp 0)),
  .op (.box 3 39 (.tmp 1)),
  .op (.mov 4 (.const (.string ⟨#[]⟩))),
  .op (.mov 5 (.const (.bool false))),
  .kp [2, 3]]
def f107r1 : List I := [.op (.mov 6 (.const (.string ⟨#[]⟩))),
  .op (.mov 7 (.const (.bool false))),
  .kp [2, 3, 6, 7]]
def f107r2 : List I := [.op (.mov 8 (.const (.int .i64 0))),
  .kp [2, 3, 6, 7, 8]]
def f107r3 : List I := [.op (.mov 10 (.tmp 8)),
  .op (.fad 11 1 (.tmp 2)),
  .op (.ld 12 none (.tmp 11)),
  .op (.len 13 true (.tmp 12)),
  .op (.bin 14 .lss (.tmp 10) (.tmp 13)),
  .kp [2, 3, 6, 7, 8, 14]]
def f107r4 : List I := [.op (.fad 17 1 (.tmp 2)),
  .op (.ld 18 none (.tmp 17)),
  .op (.mov 19 (.tmp 8)),
  .op (.iad 20 4 (.tmp 18) (.tmp 19)),
  .op (.ld 21 (some 4) (.tmp 20)),
  .op (.new 9 108 [.int .i64 0, .int .i64 0, .bool false, .string ⟨#[]⟩]),
  .op (.st 4 (.tmp 9) (.tmp 21)),
  .kp [2, 3, 6, 7, 8, 9]]
def f107r5 : List I := [.op (.ld 22 (some 2) (.tmp 3)),
  .op (.fad 23 0 (.tmp 9)),
  .op (.ld 24 (some 2) (.tmp 23)),
  .op (.call (some 25) 42 [(.tmp 22), (.tmp 24)]),
  .op (.un 26 .not (.tmp 25)),
  .kp [2, 3, 6, 7, 8, 9, 26]]
def f107r6 : List I := [.op (.fad 27 3 (.tmp 9)),
  .op (.ld 28 none (.tmp 27)),
  .op (.fad 29 2 (.tmp 9)),
  .op (.ld 30 none (.tmp 29)),
  .op (.un 31 .not (.tmp 30)),
  .op (.mov 6 (.tmp 28)),
  .op (.mov 7 (.tmp 31)),
  .kp [2, 3, 6, 7, 8]]
def f107r7 : List I := [.op (.mov 15 (.tmp 8)),
  .op (.bin 16 .add (.tmp 15) (.const (.int .i64 1))),
  .op (.mov 8 (.tmp 16)),
  .kp [2, 3, 6, 7, 8]]
def f107r8 : List I := [.op (.mov 32 (.tmp 7)),
  .op (.un 33 .not (.tmp 32)),
  .kp [6, 33]]
def f107r9 : List I := [.op (.mov 4 (.const (.string ⟨#[]⟩))),
  .op (.mov 5 (.const (.bool false))),
  .kp [4, 5]]
def f107r10 : List I := [.op (.mov 34 (.tmp 6)),
  .op (.mov 4 (.tmp 34)),
  .op (.mov 5 (.const (.bool true))),
  .kp [4, 5]]
def f107c10 : C := (.drw f107r6)
def f107c9 : C := (.cond (.tmp 26) f107c10 .skip)
def f107c8 : C := (.seq (.reg f107r5) f107c9)
def f107c7 : C := (.seq (.reg f107r4) f107c8)
def f107c11 : C := (.reg f107r7)
def f107c6 : C := (.seq (.block 1 f107c7) f107c11)
def f107c5 : C := (.seq (.cond (.tmp 14) .skip (.exit 0)) f107c6)
def f107c4 : C := (.seq (.reg f107r3) f107c5)
def f107c14 : C := (.seq (.reg f107r9) .ret)
def f107c15 : C := (.seq (.reg f107r10) .ret)
def f107c13 : C := (.seq (.cond (.tmp 33) f107c14 .skip) f107c15)
def f107c12 : C := (.seq (.reg f107r8) f107c13)
def f107c3 : C := (.seq (.block 0 (.loop f107c4)) f107c12)
def f107c2 : C := (.seq (.reg f107r2) f107c3)
def f107c1 : C := (.seq (.reg f107r1) f107c2)
def f107c0 : C := (.seq (.reg f107r0) f107c1)
theorem f107cmp : cmpF Try.prog Try.f107 [.l [.o 0, .o 1, .o 2, .o 3, .kp [2, 3]],
  .l [.o 0, .o 1, .kp [2, 3, 6, 7]],
  .l [.o 0, .kp [2, 3, 6, 7, 8]],
  .l [.o 0, .o 1, .o 2, .o 3, .o 4, .kp [2, 3, 6, 7, 8, 14]],
  .l [.o 0, .o 1, .o 2, .o 3, .o 4, .o 5, .o 6, .kp [2, 3, 6, 7, 8, 9]],
  .l [.o 0, .o 1, .o 2, .o 3, .o 4, .kp [2, 3, 6, 7, 8, 9, 26]],
  .l [.o 0, .o 1, .o 2, .o 3, .o 4, .o 5, .o 6, .kp [2, 3, 6, 7, 8]],
  .l [.o 0, .o 1, .o 2, .kp [2, 3, 6, 7, 8]],
  .l [.o 0, .o 1, .kp [6, 33]],
  .l [.o 0, .o 1, .kp [4, 5]],
  .l [.o 0, .o 1, .o 2, .kp [4, 5]]] = some (f107c0, [.tmp 4, .tmp 5]) := by kernel_rfl
theorem f107ok {args : List Value} {h : Heap} {R : Value → Heap → Prop} (hn : args.length ≤ 35) (H : wC Try.prog f107c0 (endW [.tmp 4, .tmp 5] R) (envOf 0 args) h) : CallsH Try.prog 107 args h R :=
  fn_ok2 Try.func107 f107cmp hn H
theorem f107cal : callable Try.prog 107 = true := by kernel_rfl
section
variable {Q : X → Env → Heap → Prop} {σ : Env} {h : Heap}
theorem f107c10_eq : wC Try.prog f107c10 Q σ h = (drwW Try.prog f107r6 (fun σ h => Q .normal σ h) σ h) := rfl
theorem f107c9_eq : wC Try.prog f107c9 Q σ h = (bd (evO σ (.tmp 26)) fun v => bd (asB v) fun t => br t (wC Try.prog f107c10 Q σ h) (Q .normal σ h)) := rfl
theorem f107c8_eq : wC Try.prog f107c8 Q σ h = (wL Try.prog none f107r5 0 (fun σ h => wC Try.prog f107c9 Q σ h) σ h) := rfl
theorem f107c7_eq : wC Try.prog f107c7 Q σ h = (wL Try.prog none f107r4 0 (fun σ h => wC Try.prog f107c8 Q σ h) σ h) := rfl
theorem f107c11_eq : wC Try.prog f107c11 Q σ h = (wL Try.prog none f107r7 0 (fun σ h => Q .normal σ h) σ h) := rfl
theorem f107c6_eq : wC Try.prog f107c6 Q σ h = (wC Try.prog f107c7 (X.inBlock 1 (X.then (fun σ h => wC Try.prog f107c11 Q σ h) Q)) σ h) := rfl
theorem f107c5_eq : wC Try.prog f107c5 Q σ h = (bd (evO σ (.tmp 14)) fun v => bd (asB v) fun t => br t (wC Try.prog f107c6 Q σ h) (Q (.exit 0) σ h)) := rfl
theorem f107c4_eq : wC Try.prog f107c4 Q σ h = (wL Try.prog none f107r3 0 (fun σ h => wC Try.prog f107c5 Q σ h) σ h) := rfl
theorem f107c14_eq : wC Try.prog f107c14 Q σ h = (wL Try.prog none f107r9 0 (fun σ h => Q .ret σ h) σ h) := rfl
theorem f107c15_eq : wC Try.prog f107c15 Q σ h = (wL Try.prog none f107r10 0 (fun σ h => Q .ret σ h) σ h) := rfl
theorem f107c13_eq : wC Try.prog f107c13 Q σ h = (bd (evO σ (.tmp 33)) fun v => bd (asB v) fun t => br t (wC Try.prog f107c14 (X.then (fun σ h => wC Try.prog f107c15 Q σ h) Q) σ h) (wC Try.prog f107c15 Q σ h)) := rfl
theorem f107c12_eq : wC Try.prog f107c12 Q σ h = (wL Try.prog none f107r8 0 (fun σ h => wC Try.prog f107c13 Q σ h) σ h) := rfl
theorem f107c3_eq : wC Try.prog f107c3 Q σ h = (loopW (wC Try.prog f107c4) (X.inBlock 0 (X.then (fun σ h => wC Try.prog f107c12 Q σ h) Q)) σ h) := rfl
theorem f107c2_eq : wC Try.prog f107c2 Q σ h = (wL Try.prog none f107r2 0 (fun σ h => wC Try.prog f107c3 Q σ h) σ h) := rfl
theorem f107c1_eq : wC Try.prog f107c1 Q σ h = (wL Try.prog none f107r1 0 (fun σ h => wC Try.prog f107c2 Q σ h) σ h) := rfl
theorem f107c0_eq : wC Try.prog f107c0 Q σ h = (wL Try.prog none f107r0 0 (fun σ h => wC Try.prog f107c1 Q σ h) σ h) := rfl
end
/-! ### f108: antipode/antipoderef8.find -/
def f108r0 : List I := [.op (.mov 4 (.const (.int .i64 0))),
  .kp [0, 1]]
def f108r1 : List I := [.op (.mov 5 (.const (.int .i64 0))),
  .kp [0, 1, 5]]
def f108r2 : List I := [.op (.mov 6 (.tmp 5)),
  .op (.mov 7 (.tmp 0)),
  .op (.len 8 true (.tmp 7)),
  .op (.bin 9 .lss (.tmp 6) (.tmp 8)),
  .kp [0, 1, 5, 9]]
def f108r3 : List I := [.op (.mov 12 (.tmp 0)),
  .op (.mov 13 (.tmp 5)),
  .op (.iad 14 12 (.tmp 12) (.tmp 13)),
  .op (.fad 15 0 (.tmp 14)),
  .op (.ld 16 none (.tmp 15)),
  .op (.mov 17 (.tmp 1)),
  .op (.bin 18 .eql (.tmp 16) (.tmp 17)),
  .kp [0, 1, 5, 18]]
def f108r4 : List I := [.op (.mov 19 (.tmp 5)),
  .op (.mov 4 (.tmp 19)),
  .kp [4]]
def f108r5 : List I := [.op (.mov 10 (.tmp 5)),
  .op (.bin 11 .add (.tmp 10) (.const (.int .i64 1))),
  .op (.mov 5 (.tmp 11)),
  .kp [0, 1, 5]]
def f108r6 : List I := [.op (.mov 4 (.const (.int .i64 (-1)))),
  .kp [4]]
def f108c8 : C := (.seq (.reg f108r4) .ret)
def f108c7 : C := (.cond (.tmp 18) f108c8 .skip)
def f108c6 : C := (.seq (.reg f108r3) f108c7)
def f108c9 : C := (.reg f108r5)
def f108c5 : C := (.seq (.block 1 f108c6) f108c9)
def f108c4 : C := (.seq (.cond (.tmp 9) .skip (.exit 0)) f108c5)
def f108c3 : C := (.seq (.reg f108r2) f108c4)
def f108c10 : C := (.seq (.reg f108r6) .ret)
def f108c2 : C := (.seq (.block 0 (.loop f108c3)) f108c10)
def f108c1 : C := (.seq (.reg f108r1) f108c2)
def f108c0 : C := (.seq (.reg f108r0) f108c1)
theorem f108cmp : cmpF Try.prog Try.f108 [.l [.o 0, .kp [0, 1]],
  .l [.o 0, .kp [0, 1, 5]],
  .l [.o 0, .o 1, .o 2, .o 3, .kp [0, 1, 5, 9]],
  .l [.o 0, .o 1, .o 2, .o 3, .o 4, .o 5, .o 6, .kp [0, 1, 5, 18]],
  .l [.o 0, .o 1, .kp [4]],
  .l [.o 0, .o 1, .o 2, .kp [0, 1, 5]],
  .l [.o 0, .kp [4]]] = some (f108c0, [.tmp 4]) := by kernel_rfl
theorem f108ok {args : List Value} {h : Heap} {R : Value → Heap → Prop} (hn : args.length ≤ 20) (H : wC Try.prog f108c0 (endW [.tmp 4] R) (envOf 0 args) h) : CallsH Try.prog 108 args h R :=
  fn_ok2 Try.func108 f108cmp hn H
theorem f108cal : callable Try.prog 108 = true := by kernel_rfl
section
variable {Q : X → Env → Heap → Prop} {σ : Env} {h : Heap}
theorem f108c8_eq : wC Try.prog f108c8 Q σ h = (wL Try.prog none f108r4 0 (fun σ h => Q .ret σ h) σ h) := rfl
theorem f108c7_eq : wC Try.prog f108c7 Q σ h = (bd (evO σ (.tmp 18)) fun v => bd (asB v) fun t => br t (wC Try.prog f108c8 Q σ h) (Q .normal σ h)) := rfl
theorem f108c6_eq : wC Try.prog f108c6 Q σ h = (wL Try.prog none f108r3 0 (fun σ h => wC Try.prog f108c7 Q σ h) σ h) := rfl
theorem f108c9_eq : wC Try.prog f108c9 Q σ h = (wL Try.prog none f108r5 0 (fun σ h => Q .normal σ h) σ h) := rfl
theorem f108c5_eq : wC Try.prog f108c5 Q σ h = (wC Try.prog f108c6 (X.inBlock 1 (X.then (fun σ h => wC Try.prog f108c9 Q σ h) Q)) σ h) := rfl
theorem f108c4_eq : wC Try.prog f108c4 Q σ h = (bd (evO σ (.tmp 9)) fun v => bd (asB v) fun t => br t (wC Try.prog f108c5 Q σ h) (Q (.exit 0) σ h)) := rfl
theorem f108c3_eq : wC Try.prog f108c3 Q σ h = (wL Try.prog none f108r2 0 (fun σ h => wC Try.prog f108c4 Q σ h) σ h) := rfl
theorem f108c10_eq : wC Try.prog f108c10 Q σ h = (wL Try.prog none f108r6 0 (fun σ h => Q .ret σ h) σ h) := rfl
theorem f108c2_eq : wC Try.prog f108c2 Q σ h = (loopW (wC Try.prog f108c3) (X.inBlock 0 (X.then (fun σ h => wC Try.prog f108c10 Q σ h) Q)) σ h) := rfl
theorem f108c1_eq : wC Try.prog f108c1 Q σ h = (wL Try.prog none f108r1 0 (fun σ h => wC Try.prog f108c2 Q σ h) σ h) := rfl
theorem f108c0_eq : wC Try.prog f108c0 Q σ h = (wL Try.prog none f108r0 0 (fun σ h => wC Try.prog f108c1 Q σ h) σ h) := rfl
end
/-! ### f118: strings.Compare -/
def f118r0 : List I := [.op (.mov 4 (.const (.int .i64 0))),
  .kp [0, 1]]
def f118r1 : List I := [.op (.mov 5 (.tmp 0)),
  .op (.mov 6 (.tmp 1)),
  .op (.call (some 7) 139 [(.tmp 5), (.tmp 6)]),
  .op (.mov 4 (.tmp 7)),
  .kp [4]]
def f118c1 : C := (.seq (.reg f118r1) .ret)
def f118c0 : C := (.seq (.reg f118r0) f118c1)
theorem f118cmp : cmpF Try.prog Try.f118 [.l [.o 0, .kp [0, 1]],
  .l [.o 0, .o 1, .o 2, .o 3, .kp [4]]] = some (f118c0, [.tmp 4]) := by kernel_rfl
theorem f118ok {args : List Value} {h : Heap} {R : Value → Heap → Prop} (hn : args.length ≤ 8) (H : wC Try.prog f118c0 (endW [.tmp 4] R) (envOf 0 args) h) : CallsH Try.prog 118 args h R :=
  fn_ok2 Try.func118 f118cmp hn H
theorem f118cal : callable Try.prog 118 = true := by kernel_rfl
section
variable {Q : X → Env → Heap → Prop} {σ : Env} {h : Heap}
theorem f118c1_eq : wC Try.prog f118c1 Q σ h = (wL Try.prog none f118r1 0 (fun σ h => Q .ret σ h) σ h) := rfl
theorem f118c0_eq : wC Try.prog f118c0 Q σ h = (wL Try.prog none f118r0 0 (fun σ h => wC Try.prog f118c1 Q σ h) σ h) := rfl
end
/-! ### f139: internal/bytealg.CompareString -/
def f139r0 : List I := [.op (.mov 4 (.const (.int .i64 0))),
  .kp [0, 1]]
def f139r1 : List I := [.op (.mov 5 (.tmp 0)),
  .op (.mov 6 (.tmp 1)),
  .op (.raw (some 7) ⟨(some 7), (.call ⟨(.value (.func 153)), #[(.tmp 5), (.tmp 6)], #[9, 9]⟩), 3, "compare_native.go:15", #[⟨0, .data⟩, ⟨1, .data⟩], none⟩),
  .op (.mov 4 (.tmp 7)),
  .kp [4]]
def f139c1 : C := (.seq (.reg f139r1) .ret)
def f139c0 : C := (.seq (.reg f139r0) f139c1)
theorem f139cmp : cmpF Try.prog Try.f139 [.l [.o 0, .kp [0, 1]],
  .l [.o 0, .o 1, .o 2, .o 3, .kp [4]]] = some (f139c0, [.tmp 4]) := by kernel_rfl
theorem f139ok {args : List Value} {h : Heap} {R : Value → Heap → Prop} (hn : args.length ≤ 8) (H : wC Try.prog f139c0 (endW [.tmp 4] R) (envOf 0 args) h) : CallsH Try.prog 139 args h R :=
  fn_ok2 Try.func139 f139cmp hn H
theorem f139cal : callable Try.prog 139 = true := by kernel_rfl
section
variable {Q : X → Env → Heap → Prop} {σ : Env} {h : Heap}
theorem f139c1_eq : wC Try.prog f139c1 Q σ h = (wL Try.prog none f139r1 0 (fun σ h => Q .ret σ h) σ h) := rfl
theorem f139c0_eq : wC Try.prog f139c0 Q σ h = (wL Try.prog none f139r0 0 (fun σ h => wC Try.prog f139c1 Q σ h) σ h) := rfl
end
/-! ### f117: antipode/mvcc.find$1 -/
def f117r0 : List I := [.op (.box 2 103 (.tmp 0)),
  .op (.mov 4 (.const (.int .i64 0))),
  .kp [1, 2]]
def f117r1 : List I := [.op (.fad 5 0 (.tmp 2)),
  .op (.ld 6 none (.tmp 5)),
  .op (.mov 7 (.tmp 1)),
  .op (.call (some 8) 118 [(.tmp 6), (.tmp 7)]),
  .op (.mov 4 (.tmp 8)),
  .kp [4]]
def f117c1 : C := (.seq (.reg f117r1) .ret)
def f117c0 : C := (.seq (.reg f117r0) f117c1)
theorem f117cmp : cmpF Try.prog Try.f117 [.l [.o 0, .o 1, .kp [1, 2]],
  .l [.o 0, .o 1, .o 2, .o 3, .o 4, .kp [4]]] = some (f117c0, [.tmp 4]) := by kernel_rfl
theorem f117ok {args : List Value} {h : Heap} {R : Value → Heap → Prop} (hn : args.length ≤ 9) (H : wC Try.prog f117c0 (endW [.tmp 4] R) (envOf 0 args) h) : CallsH Try.prog 117 args h R :=
  fn_ok2 Try.func117 f117cmp hn H
theorem f117cal : callable Try.prog 117 = true := by kernel_rfl
section
variable {Q : X → Env → Heap → Prop} {σ : Env} {h : Heap}
theorem f117c1_eq : wC Try.prog f117c1 Q σ h = (wL Try.prog none f117r1 0 (fun σ h => Q .ret σ h) σ h) := rfl
theorem f117c0_eq : wC Try.prog f117c0 Q σ h = (wL Try.prog none f117r0 0 (fun σ h => wC Try.prog f117c1 Q σ h) σ h) := rfl
end
/-! ### f116: slices.BinarySearchFunc[[]antipode/api.Cell,antipode/api.Cell,string] -/
def f116r0 : List I := [.op (.mov 6 (.const (.int .i64 0))),
  .op (.mov 7 (.const (.bool false))),
  .kp [0, 1, 2]]
def f116r1 : List I := [.op (.mov 12 (.tmp 0)),
  .op (.len 13 true (.tmp 12)),
  .op (.mov 8 (.tmp 13)),
  .kp [0, 1, 2, 8]]
def f116r2 : List I := [.op (.mov 14 (.tmp 8)),
  .op (.mov 9 (.const (.int .i64 0))),
  .op (.mov 10 (.tmp 14)),
  .kp [0, 1, 2, 8, 9, 10]]
def f116r3 : List I := [.op (.mov 15 (.tmp 9)),
  .op (.mov 16 (.tmp 10)),
  .op (.bin 17 .lss (.tmp 15) (.tmp 16)),
  .kp [0, 1, 2, 8, 9, 10, 17]]
def f116r4 : List I := [.op (.mov 18 (.tmp 9)),
  .op (.mov 19 (.tmp 10)),
  .op (.bin 20 .add (.tmp 18) (.tmp 19)),
  .op (.cvt 21 .u64 (.tmp 20)),
  .op (.raw (some 22) ⟨(some 22), (.binOp .shr 193 (.tmp 21) (.const (.int .u64 1)) 193), 193, "sort.go:158", #[⟨3, .data⟩], none⟩),
  .op (.cvt 23 .i64 (.tmp 22)),
  .op (.mov 11 (.tmp 23)),
  .kp [0, 1, 2, 8, 9, 10, 11]]
def f116r5 : List I := [.op (.mov 24 (.tmp 2)),
  .op (.mov 25 (.tmp 0)),
  .op (.mov 26 (.tmp 11)),
  .op (.iad 27 12 (.tmp 25) (.tmp 26)),
  .op (.ld 28 (some 12) (.tmp 27)),
  .op (.mov 29 (.tmp 1)),
  .op (.cav (some 30) (.tmp 24) [(.tmp 28), (.tmp 29)]),
  .op (.bin 31 .lss (.tmp 30) (.const (.int .i64 0))),
  .kp [0, 1, 2, 8, 9, 10, 11, 31]]
def f116r6 : List I := [.op (.mov 32 (.tmp 11)),
  .op (.bin 33 .add (.tmp 32) (.const (.int .i64 1))),
  .op (.mov 9 (.tmp 33)),
  .kp [0, 1, 2, 8, 9, 10]]
def f116r7 : List I := [.op (.mov 34 (.tmp 11)),
  .op (.mov 10 (.tmp 34)),
  .kp [0, 1, 2, 8, 9, 10]]
def f116r8 : List I := [.op (.mov 35 (.tmp 9)),
  .op (.mov 36 (.tmp 9)),
  .op (.mov 37 (.tmp 8)),
  .op (.bin 38 .lss (.tmp 36) (.tmp 37)),
  .op (.mov 39 (.tmp 38)),
  .sc 39 true 8,
  .g 39 true (.mov 40 (.tmp 2)),
  .g 39 true (.mov 41 (.tmp 0)),
  .g 39 true (.mov 42 (.tmp 9)),
  .g 39 true (.iad 43 12 (.tmp 41) (.tmp 42)),
  .g 39 true (.ld 44 (some 12) (.tmp 43)),
  .g 39 true (.mov 45 (.tmp 1)),
  .g 39 true (.cav (some 46) (.tmp 40) [(.tmp 44), (.tmp 45)]),
  .g 39 true (.bin 47 .eql (.tmp 46) (.const (.int .i64 0))),
  .op (.pick 48 (.tmp 39) (.tmp 47) (.const (.bool false))),
  .op (.mov 6 (.tmp 35)),
  .op (.mov 7 (.tmp 48)),
  .kp [6, 7]]
def f116c10 : C := (.reg f116r6)
def f116c11 : C := (.reg f116r7)
def f116c9 : C := (.cond (.tmp 31) f116c10 f116c11)
def f116c8 : C := (.seq (.reg f116r5) f116c9)
def f116c7 : C := (.seq (.reg f116r4) f116c8)
def f116c6 : C := (.block 1 f116c7)
def f116c5 : C := (.seq (.cond (.tmp 17) .skip (.exit 0)) f116c6)
def f116c4 : C := (.seq (.reg f116r3) f116c5)
def f116c12 : C := (.seq (.reg f116r8) .ret)
def f116c3 : C := (.seq (.block 0 (.loop f116c4)) f116c12)
def f116c2 : C := (.seq (.reg f116r2) f116c3)
def f116c1 : C := (.seq (.reg f116r1) f116c2)
def f116c0 : C := (.seq (.reg f116r0) f116c1)
theorem f116cmp : cmpF Try.prog Try.f116 [.l [.o 0, .o 1, .kp [0, 1, 2]],
  .l [.o 0, .o 1, .o 2, .kp [0, 1, 2, 8]],
  .l [.o 0, .o 1, .o 2, .kp [0, 1, 2, 8, 9, 10]],
  .l [.o 0, .o 1, .o 2, .kp [0, 1, 2, 8, 9, 10, 17]],
  .l [.o 0, .o 1, .o 2, .o 3, .o 4, .o 5, .o 6, .kp [0, 1, 2, 8, 9, 10, 11]],
  .l [.o 0, .o 1, .o 2, .o 3, .o 4, .o 5, .o 6, .o 7, .kp [0, 1, 2, 8, 9, 10, 11, 31]],
  .l [.o 0, .o 1, .o 2, .kp [0, 1, 2, 8, 9, 10]],
  .l [.o 0, .o 1, .kp [0, 1, 2, 8, 9, 10]],
  .l [.o 0, .o 1, .o 2, .o 3, .o 4, .sc 39 true 8, .o 5, .o 6, .o 7, .o 8, .o 9, .o 10, .o 11, .o 12, .o 13, .o 14, .o 15, .kp [6, 7]]] = some (f116c0, [.tmp 6, .tmp 7]) := by kernel_rfl
theorem f116ok {args : List Value} {h : Heap} {R : Value → Heap → Prop} (hn : args.length ≤ 49) (H : wC Try.prog f116c0 (endW [.tmp 6, .tmp 7] R) (envOf 0 args) h) : CallsH Try.prog 116 args h R :=
  fn_ok2 Try.func116 f116cmp hn H
theorem f116cal : callable Try.prog 116 = true := by kernel_rfl
section
variable {Q : X → Env → Heap → Prop} {σ : Env} {h : Heap}
theorem f116c10_eq : wC Try.prog f116c10 Q σ h = (wL Try.prog none f116r6 0 (fun σ h => Q .normal σ h) σ h) := rfl
theorem f116c11_eq : wC Try.prog f116c11 Q σ h = (wL Try.prog none f116r7 0 (fun σ h => Q .normal σ h) σ h) := rfl
theorem f116c9_eq : wC Try.prog f116c9 Q σ h = (bd (evO σ (.tmp 31)) fun v => bd (asB v) fun t => br t (wC Try.prog f116c10 Q σ h) (wC Try.prog f116c11 Q σ h)) := rfl
theorem f116c8_eq : wC Try.prog f116c8 Q σ h = (wL Try.prog none f116r5 0 (fun σ h => wC Try.prog f116c9 Q σ h) σ h) := rfl
theorem f116c7_eq : wC Try.prog f116c7 Q σ h = (wL Try.prog none f116r4 0 (fun σ h => wC Try.prog f116c8 Q σ h) σ h) := rfl
theorem f116c6_eq : wC Try.prog f116c6 Q σ h = (wC Try.prog f116c7 (X.inBlock 1 Q) σ h) := rfl
theorem f116c5_eq : wC Try.prog f116c5 Q σ h = (bd (evO σ (.tmp 17)) fun v => bd (asB v) fun t => br t (wC Try.prog f116c6 Q σ h) (Q (.exit 0) σ h)) := rfl
theorem f116c4_eq : wC Try.prog f116c4 Q σ h = (wL Try.prog none f116r3 0 (fun σ h => wC Try.prog f116c5 Q σ h) σ h) := rfl
theorem f116c12_eq : wC Try.prog f116c12 Q σ h = (wL Try.prog none f116r8 0 (fun σ h => Q .ret σ h) σ h) := rfl
theorem f116c3_eq : wC Try.prog f116c3 Q σ h = (loopW (wC Try.prog f116c4) (X.inBlock 0 (X.then (fun σ h => wC Try.prog f116c12 Q σ h) Q)) σ h) := rfl
theorem f116c2_eq : wC Try.prog f116c2 Q σ h = (wL Try.prog none f116r2 0 (fun σ h => wC Try.prog f116c3 Q σ h) σ h) := rfl
theorem f116c1_eq : wC Try.prog f116c1 Q σ h = (wL Try.prog none f116r1 0 (fun σ h => wC Try.prog f116c2 Q σ h) σ h) := rfl
theorem f116c0_eq : wC Try.prog f116c0 Q σ h = (wL Try.prog none f116r0 0 (fun σ h => wC Try.prog f116c1 Q σ h) σ h) := rfl
end
/-! ### f87: antipode/mvcc.find -/
def f87r0 : List I := [.op (.mov 4 (.const (.int .i64 0))),
  .op (.mov 5 (.const (.bool false))),
  .kp [0, 1]]
def f87r1 : List I := [.op (.mov 6 (.tmp 0)),
  .op (.mov 7 (.tmp 1)),
  .op (.call (some 8) 116 [(.tmp 6), (.tmp 7), (.func 117)]),
  .op (.ext 9 (.tmp 8) 0),
  .op (.ext 10 (.tmp 8) 1),
  .op (.mov 4 (.tmp 9)),
  .op (.mov 5 (.tmp 10)),
  .kp [4, 5]]
def f87c1 : C := (.seq (.reg f87r1) .ret)
def f87c0 : C := (.seq (.reg f87r0) f87c1)
theorem f87cmp : cmpF Try.prog Try.f87 [.l [.o 0, .o 1, .kp [0, 1]],
  .l [.o 0, .o 1, .o 2, .o 3, .o 4, .o 5, .o 6, .kp [4, 5]]] = some (f87c0, [.tmp 4, .tmp 5]) := by kernel_rfl
theorem f87ok {args : List Value} {h : Heap} {R : Value → Heap → Prop} (hn : args.length ≤ 11) (H : wC Try.prog f87c0 (endW [.tmp 4, .tmp 5] R) (envOf 0 args) h) : CallsH Try.prog 87 args h R :=
  fn_ok2 Try.func87 f87cmp hn H
theorem f87cal : callable Try.prog 87 = true := by kernel_rfl
section
variable {Q : X → Env → Heap → Prop} {σ : Env} {h : Heap}
theorem f87c1_eq : wC Try.prog f87c1 Q σ h = (wL Try.prog none f87r1 0 (fun σ h => Q .ret σ h) σ h) := rfl
theorem f87c0_eq : wC Try.prog f87c0 Q σ h = (wL Try.prog none f87r0 0 (fun σ h => wC Try.prog f87c1 Q σ h) σ h) := rfl
end
end Go.Proofs.Ytefghfgmkndikaa
