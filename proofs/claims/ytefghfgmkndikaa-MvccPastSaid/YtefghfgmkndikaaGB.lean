/-
  By a program of mine (wip/tools/gen.py): the code of functions of the seat in the small instruction language, and that it is their code.
-/
import Derived.Test.YtefghfgmkndikaaFM
import Derived.Test.YtefghfgmkndikaaProg
set_option linter.unusedSimpArgs false
set_option linter.unusedVariables false
namespace Go.Proofs.Ytefghfgmkndikaa
open Go.AX
set_option maxRecDepth 100000
/-! ### f41: antipode/mvcc.Get -/
def f41r0 : List I := [.op (.box 5 39 (.tmp 2)),
  .op (.mov 6 (.const (.string ⟨#[]⟩))),
  .op (.mov 7 (.const (.bool false))),
  .kp [0, 1, 5]]
def f41r1 : List I := [.op (.mov 11 (.tmp 0)),
  .op (.mov 12 (.tmp 1)),
  .op (.call (some 13) 87 [(.tmp 11), (.tmp 12)]),
  .op (.mov 10 (.tmp 13)),
  .op (.ext 14 (.tmp 10) 0),
  .op (.ext 15 (.tmp 10) 1),
  .op (.mov 8 (.tmp 14)),
  .op (.mov 9 (.tmp 15)),
  .kp [0, 5, 8, 9]]
def f41r2 : List I := [.op (.mov 16 (.tmp 9)),
  .op (.un 17 .not (.tmp 16)),
  .kp [0, 5, 8, 17]]
def f41r3 : List I := [.op (.mov 6 (.const (.string ⟨#[]⟩))),
  .op (.mov 7 (.const (.bool false))),
  .kp [6, 7]]
def f41r4 : List I := [.op (.mov 18 (.tmp 0)),
  .op (.mov 19 (.tmp 8)),
  .op (.iad 20 12 (.tmp 18) (.tmp 19)),
  .op (.ld 21 (some 12) (.tmp 20)),
  .op (.ld 22 (some 2) (.tmp 5)),
  .op (.call (some 23) 89 [(.tmp 21), (.tmp 22)]),
  .op (.ext 24 (.tmp 23) 0),
  .op (.ext 25 (.tmp 23) 1),
  .op (.mov 6 (.tmp 24)),
  .op (.mov 7 (.tmp 25)),
  .kp [6, 7]]
def f41c4 : C := (.seq (.reg f41r3) .ret)
def f41c5 : C := (.seq (.drw f41r4) .ret)
def f41c3 : C := (.seq (.cond (.tmp 17) f41c4 .skip) f41c5)
def f41c2 : C := (.seq (.reg f41r2) f41c3)
def f41c1 : C := (.seq (.reg f41r1) f41c2)
def f41c0 : C := (.seq (.reg f41r0) f41c1)
theorem f41cmp : cmpF Try.prog Try.f41 [.l [.o 0, .o 1, .o 2, .kp [0, 1, 5]],
  .l [.o 0, .o 1, .o 2, .o 3, .o 4, .o 5, .o 6, .o 7, .kp [0, 5, 8, 9]],
  .l [.o 0, .o 1, .kp [0, 5, 8, 17]],
  .l [.o 0, .o 1, .kp [6, 7]],
  .l [.o 0, .o 1, .o 2, .o 3, .o 4, .o 5, .o 6, .o 7, .o 8, .o 9, .kp [6, 7]]] = some (f41c0, [.tmp 6, .tmp 7]) := by kernel_rfl
theorem f41ok {args : List Value} {h : Heap} {R : Value → Heap → Prop} (hn : args.length ≤ 26) (H : wC Try.prog f41c0 (endW [.tmp 6, .tmp 7] R) (envOf 0 args) h) : CallsH Try.prog 41 args h R :=
  fn_ok2 Try.func41 f41cmp hn H
theorem f41cal : callable Try.prog 41 = true := by kernel_rfl
section
variable {Q : X → Env → Heap → Prop} {σ : Env} {h : Heap}
theorem f41c4_eq : wC Try.prog f41c4 Q σ h = (wL Try.prog none f41r3 0 (fun σ h => Q .ret σ h) σ h) := rfl
theorem f41c5_eq : wC Try.prog f41c5 Q σ h = (drwW Try.prog f41r4 (fun σ h => Q .ret σ h) σ h) := rfl
theorem f41c3_eq : wC Try.prog f41c3 Q σ h = (bd (evO σ (.tmp 17)) fun v => bd (asB v) fun t => br t (wC Try.prog f41c4 (X.then (fun σ h => wC Try.prog f41c5 Q σ h) Q) σ h) (wC Try.prog f41c5 Q σ h)) := rfl
theorem f41c2_eq : wC Try.prog f41c2 Q σ h = (wL Try.prog none f41r2 0 (fun σ h => wC Try.prog f41c3 Q σ h) σ h) := rfl
theorem f41c1_eq : wC Try.prog f41c1 Q σ h = (wL Try.prog none f41r1 0 (fun σ h => wC Try.prog f41c2 Q σ h) σ h) := rfl
theorem f41c0_eq : wC Try.prog f41c0 Q σ h = (wL Try.prog none f41r0 0 (fun σ h => wC Try.prog f41c1 Q σ h) σ h) := rfl
end
/-! ### f72: antipode/antipoderef8.Get -/
def f72r0 : List I := [.op (.box 5 39 (.tmp 2)),
  .op (.mov 6 (.const (.string ⟨#[]⟩))),
  .op (.mov 7 (.const (.bool false))),
  .kp [0, 1, 5]]
def f72r1 : List I := [.op (.mov 9 (.tmp 0)),
  .op (.mov 10 (.tmp 1)),
  .op (.call (some 11) 108 [(.tmp 9), (.tmp 10)]),
  .op (.mov 8 (.tmp 11)),
  .kp [0, 5, 8]]
def f72r2 : List I := [.op (.mov 12 (.tmp 8)),
  .op (.bin 13 .lss (.tmp 12) (.const (.int .i64 0))),
  .kp [0, 5, 8, 13]]
def f72r3 : List I := [.op (.mov 6 (.const (.string ⟨#[]⟩))),
  .op (.mov 7 (.const (.bool false))),
  .kp [6, 7]]
def f72r4 : List I := [.op (.mov 14 (.tmp 0)),
  .op (.mov 15 (.tmp 8)),
  .op (.iad 16 12 (.tmp 14) (.tmp 15)),
  .op (.ld 17 (some 12) (.tmp 16)),
  .op (.ld 18 (some 2) (.tmp 5)),
  .op (.call (some 19) 107 [(.tmp 17), (.tmp 18)]),
  .op (.ext 20 (.tmp 19) 0),
  .op (.ext 21 (.tmp 19) 1),
  .op (.mov 6 (.tmp 20)),
  .op (.mov 7 (.tmp 21)),
  .kp [6, 7]]
def f72c4 : C := (.seq (.reg f72r3) .ret)
def f72c5 : C := (.seq (.drw f72r4) .ret)
def f72c3 : C := (.seq (.cond (.tmp 13) f72c4 .skip) f72c5)
def f72c2 : C := (.seq (.reg f72r2) f72c3)
def f72c1 : C := (.seq (.reg f72r1) f72c2)
def f72c0 : C := (.seq (.reg f72r0) f72c1)
theorem f72cmp : cmpF Try.prog Try.f72 [.l [.o 0, .o 1, .o 2, .kp [0, 1, 5]],
  .l [.o 0, .o 1, .o 2, .o 3, .kp [0, 5, 8]],
  .l [.o 0, .o 1, .kp [0, 5, 8, 13]],
  .l [.o 0, .o 1, .kp [6, 7]],
  .l [.o 0, .o 1, .o 2, .o 3, .o 4, .o 5, .o 6, .o 7, .o 8, .o 9, .kp [6, 7]]] = some (f72c0, [.tmp 6, .tmp 7]) := by kernel_rfl
theorem f72ok {args : List Value} {h : Heap} {R : Value → Heap → Prop} (hn : args.length ≤ 22) (H : wC Try.prog f72c0 (endW [.tmp 6, .tmp 7] R) (envOf 0 args) h) : CallsH Try.prog 72 args h R :=
  fn_ok2 Try.func72 f72cmp hn H
theorem f72cal : callable Try.prog 72 = true := by kernel_rfl
section
variable {Q : X → Env → Heap → Prop} {σ : Env} {h : Heap}
theorem f72c4_eq : wC Try.prog f72c4 Q σ h = (wL Try.prog none f72r3 0 (fun σ h => Q .ret σ h) σ h) := rfl
theorem f72c5_eq : wC Try.prog f72c5 Q σ h = (drwW Try.prog f72r4 (fun σ h => Q .ret σ h) σ h) := rfl
theorem f72c3_eq : wC Try.prog f72c3 Q σ h = (bd (evO σ (.tmp 13)) fun v => bd (asB v) fun t => br t (wC Try.prog f72c4 (X.then (fun σ h => wC Try.prog f72c5 Q σ h) Q) σ h) (wC Try.prog f72c5 Q σ h)) := rfl
theorem f72c2_eq : wC Try.prog f72c2 Q σ h = (wL Try.prog none f72r2 0 (fun σ h => wC Try.prog f72c3 Q σ h) σ h) := rfl
theorem f72c1_eq : wC Try.prog f72c1 Q σ h = (wL Try.prog none f72r1 0 (fun σ h => wC Try.prog f72c2 Q σ h) σ h) := rfl
theorem f72c0_eq : wC Try.prog f72c0 Q σ h = (wL Try.prog none f72r0 0 (fun σ h => wC Try.prog f72c1 Q σ h) σ h) := rfl
end
/-! ### f92: antipode/mvcc.within -/
def f92r0 : List I := [.op (.box 3 94 (.tmp 1)),
  .op (.mov 4 (.const (.slice none 0 0))),
  .kp [0, 3]]
def f92r1 : List I := [.op (.fad 9 1 (.tmp 3)),
  .op (.ld 10 none (.tmp 9)),
  .op (.fad 11 0 (.tmp 3)),
  .op (.ld 12 none (.tmp 11)),
  .op (.bin 13 .leq (.tmp 10) (.tmp 12)),
  .kp [0, 3, 13]]
def f92r2 : List I := [.op (.mov 4 (.const (.slice none 0 0))),
  .kp [4]]
def f92r3 : List I := [.op (.mov 15 (.tmp 0)),
  .op (.fad 16 0 (.tmp 3)),
  .op (.ld 17 none (.tmp 16)),
  .op (.call (some 18) 87 [(.tmp 15), (.tmp 17)]),
  .op (.mov 14 (.tmp 18)),
  .op (.ext 19 (.tmp 14) 0),
  .op (.ext 20 (.tmp 14) 1),
  .op (.mov 5 (.tmp 19)),
  .op (.mov 6 (.tmp 20)),
  .kp [0, 3, 5]]
def f92r4 : List I := [.op (.mov 22 (.tmp 0)),
  .op (.fad 23 1 (.tmp 3)),
  .op (.ld 24 none (.tmp 23)),
  .op (.call (some 25) 87 [(.tmp 22), (.tmp 24)]),
  .op (.mov 21 (.tmp 25)),
  .op (.ext 26 (.tmp 21) 0),
  .op (.ext 27 (.tmp 21) 1),
  .op (.mov 7 (.tmp 26)),
  .op (.mov 8 (.tmp 27)),
  .kp [0, 5, 7]]
def f92r5 : List I := [.op (.mov 28 (.tmp 0)),
  .op (.mov 29 (.tmp 5)),
  .op (.mov 30 (.tmp 7)),
  .op (.mov 31 (.tmp 5)),
  .op (.mm 32 true (.tmp 30) (.tmp 31)),
  .op (.slc 33 12 (.tmp 28) (some (.tmp 29)) (some (.tmp 32)) none),
  .op (.mov 4 (.tmp 33)),
  .kp [4]]
def f92c3 : C := (.seq (.reg f92r2) .ret)
def f92c6 : C := (.seq (.reg f92r5) .ret)
def f92c5 : C := (.seq (.reg f92r4) f92c6)
def f92c4 : C := (.seq (.reg f92r3) f92c5)
def f92c2 : C := (.seq (.cond (.tmp 13) f92c3 .skip) f92c4)
def f92c1 : C := (.seq (.reg f92r1) f92c2)
def f92c0 : C := (.seq (.reg f92r0) f92c1)
theorem f92cmp : cmpF Try.prog Try.f92 [.l [.o 0, .o 1, .kp [0, 3]],
  .l [.o 0, .o 1, .o 2, .o 3, .o 4, .kp [0, 3, 13]],
  .l [.o 0, .kp [4]],
  .l [.o 0, .o 1, .o 2, .o 3, .o 4, .o 5, .o 6, .o 7, .o 8, .kp [0, 3, 5]],
  .l [.o 0, .o 1, .o 2, .o 3, .o 4, .o 5, .o 6, .o 7, .o 8, .kp [0, 5, 7]],
  .l [.o 0, .o 1, .o 2, .o 3, .o 4, .o 5, .o 6, .kp [4]]] = some (f92c0, [.tmp 4]) := by kernel_rfl
theorem f92ok {args : List Value} {h : Heap} {R : Value → Heap → Prop} (hn : args.length ≤ 34) (H : wC Try.prog f92c0 (endW [.tmp 4] R) (envOf 0 args) h) : CallsH Try.prog 92 args h R :=
  fn_ok2 Try.func92 f92cmp hn H
theorem f92cal : callable Try.prog 92 = true := by kernel_rfl
section
variable {Q : X → Env → Heap → Prop} {σ : Env} {h : Heap}
theorem f92c3_eq : wC Try.prog f92c3 Q σ h = (wL Try.prog none f92r2 0 (fun σ h => Q .ret σ h) σ h) := rfl
theorem f92c6_eq : wC Try.prog f92c6 Q σ h = (wL Try.prog none f92r5 0 (fun σ h => Q .ret σ h) σ h) := rfl
theorem f92c5_eq : wC Try.prog f92c5 Q σ h = (wL Try.prog none f92r4 0 (fun σ h => wC Try.prog f92c6 Q σ h) σ h) := rfl
theorem f92c4_eq : wC Try.prog f92c4 Q σ h = (wL Try.prog none f92r3 0 (fun σ h => wC Try.prog f92c5 Q σ h) σ h) := rfl
theorem f92c2_eq : wC Try.prog f92c2 Q σ h = (bd (evO σ (.tmp 13)) fun v => bd (asB v) fun t => br t (wC Try.prog f92c3 (X.then (fun σ h => wC Try.prog f92c4 Q σ h) Q) σ h) (wC Try.prog f92c4 Q σ h)) := rfl
theorem f92c1_eq : wC Try.prog f92c1 Q σ h = (wL Try.prog none f92r1 0 (fun σ h => wC Try.prog f92c2 Q σ h) σ h) := rfl
theorem f92c0_eq : wC Try.prog f92c0 Q σ h = (wL Try.prog none f92r0 0 (fun σ h => wC Try.prog f92c1 Q σ h) σ h) := rfl
end
/-! ### f93: antipode/mvcc.Blocks -/
def f93r0 : List I := [.op (.box 4 94 (.tmp 1)),
  .op (.box 5 39 (.tmp 2)),
  .op (.new 6 72 [.int .i64 0, .int .i64 0, .int .i64 0, .int .i64 0, .int .i64 0, .int .i64 0, .int .i64 0, .bool false, .string ⟨#[]⟩]),
  .op (.mov 7 (.const (.bool false))),
  .kp [0, 4, 5, 6]]
def f93r1 : List I := [.op (.mov 10 (.tmp 0)),
  .op (.ld 11 (some 2) (.tmp 4)),
  .op (.call (some 12) 92 [(.tmp 10), (.tmp 11)]),
  .op (.len 13 true (.tmp 12)),
  .op (.mov 14 (.const (.int .i64 0))),
  .kp [5, 6, 12, 13, 14]]
def f93r2 : List I := [.op (.bin 15 .lss (.tmp 14) (.tmp 13)),
  .kp [5, 6, 12, 13, 14, 15]]
def f93r3 : List I := [.op (.iad 16 12 (.tmp 12) (.tmp 14)),
  .op (.ld 17 (some 12) (.tmp 16)),
  .op (.new 9 103 [.string ⟨#[]⟩, .slice none 0 0, .bool false, .int .i64 0, .int .i64 0, .int .i64 0, .int .i64 0, .int .i64 0, .int .i64 0, .int .i64 0, .bool false, .string ⟨#[]⟩]),
  .op (.st 12 (.tmp 9) (.tmp 17)),
  .kp [5, 6, 9, 12, 13, 14]]
def f93r4 : List I := [.op (.fad 18 2 (.tmp 9)),
  .op (.ld 19 none (.tmp 18)),
  .op (.mov 20 (.tmp 19)),
  .sc 20 true 6,
  .g 20 true (.ld 21 (some 2) (.tmp 5)),
  .g 20 true (.fad 22 3 (.tmp 9)),
  .g 20 true (.fad 23 5 (.tmp 22)),
  .g 20 true (.ld 24 (some 2) (.tmp 23)),
  .g 20 true (.call (some 25) 90 [(.tmp 21), (.tmp 24)]),
  .g 20 true (.un 26 .not (.tmp 25)),
  .op (.pick 27 (.tmp 20) (.tmp 26) (.const (.bool false))),
  .kp [5, 6, 9, 12, 13, 14, 27]]
def f93r5 : List I := [.op (.fad 28 3 (.tmp 9)),
  .op (.ld 29 (some 9) (.tmp 28)),
  .op (.st 9 (.tmp 6) (.tmp 29)),
  .op (.mov 7 (.const (.bool true))),
  .kp [6, 7]]
def f93r6 : List I := [.op (.bin 30 .add (.tmp 14) (.const (.int .i64 1))),
  .op (.mov 14 (.tmp 30)),
  .kp [5, 6, 12, 13, 14]]
def f93r7 : List I := [.op (.bld 31 [.int .i64 0, .int .i64 0, .int .i64 0, .int .i64 0, .int .i64 0, .int .i64 0, .int .i64 0, .bool false, .string ⟨#[]⟩] []),
  .op (.st 9 (.tmp 6) (.tmp 31)),
  .op (.mov 7 (.const (.bool false))),
  .kp [6, 7]]
def f93c9 : C := (.seq (.reg f93r5) .ret)
def f93c8 : C := (.cond (.tmp 27) f93c9 .skip)
def f93c7 : C := (.seq (.reg f93r4) f93c8)
def f93c6 : C := (.seq (.reg f93r3) f93c7)
def f93c10 : C := (.reg f93r6)
def f93c5 : C := (.seq (.block 1 f93c6) f93c10)
def f93c4 : C := (.seq (.cond (.tmp 15) .skip (.exit 0)) f93c5)
def f93c3 : C := (.seq (.reg f93r2) f93c4)
def f93c11 : C := (.seq (.reg f93r7) .ret)
def f93c2 : C := (.seq (.block 0 (.loop f93c3)) f93c11)
def f93c1 : C := (.seq (.reg f93r1) f93c2)
def f93c0 : C := (.seq (.reg f93r0) f93c1)
theorem f93cmp : cmpF Try.prog Try.f93 [.l [.o 0, .o 1, .o 2, .o 3, .kp [0, 4, 5, 6]],
  .l [.o 0, .o 1, .o 2, .o 3, .o 4, .kp [5, 6, 12, 13, 14]],
  .l [.o 0, .kp [5, 6, 12, 13, 14, 15]],
  .l [.o 0, .o 1, .o 2, .o 3, .kp [5, 6, 9, 12, 13, 14]],
  .l [.o 0, .o 1, .o 2, .sc 20 true 6, .o 3, .o 4, .o 5, .o 6, .o 7, .o 8, .o 9, .kp [5, 6, 9, 12, 13, 14, 27]],
  .l [.o 0, .o 1, .o 2, .o 3, .kp [6, 7]],
  .l [.o 0, .o 1, .kp [5, 6, 12, 13, 14]],
  .l [.o 0, .o 1, .o 2, .kp [6, 7]]] = some (f93c0, [.cell 6 9, .tmp 7]) := by kernel_rfl
theorem f93ok {args : List Value} {h : Heap} {R : Value → Heap → Prop} (hn : args.length ≤ 32) (H : wC Try.prog f93c0 (endW [.cell 6 9, .tmp 7] R) (envOf 0 args) h) : CallsH Try.prog 93 args h R :=
  fn_ok2 Try.func93 f93cmp hn H
theorem f93cal : callable Try.prog 93 = true := by kernel_rfl
section
variable {Q : X → Env → Heap → Prop} {σ : Env} {h : Heap}
theorem f93c9_eq : wC Try.prog f93c9 Q σ h = (wL Try.prog none f93r5 0 (fun σ h => Q .ret σ h) σ h) := rfl
theorem f93c8_eq : wC Try.prog f93c8 Q σ h = (bd (evO σ (.tmp 27)) fun v => bd (asB v) fun t => br t (wC Try.prog f93c9 Q σ h) (Q .normal σ h)) := rfl
theorem f93c7_eq : wC Try.prog f93c7 Q σ h = (wL Try.prog none f93r4 0 (fun σ h => wC Try.prog f93c8 Q σ h) σ h) := rfl
theorem f93c6_eq : wC Try.prog f93c6 Q σ h = (wL Try.prog none f93r3 0 (fun σ h => wC Try.prog f93c7 Q σ h) σ h) := rfl
theorem f93c10_eq : wC Try.prog f93c10 Q σ h = (wL Try.prog none f93r6 0 (fun σ h => Q .normal σ h) σ h) := rfl
theorem f93c5_eq : wC Try.prog f93c5 Q σ h = (wC Try.prog f93c6 (X.inBlock 1 (X.then (fun σ h => wC Try.prog f93c10 Q σ h) Q)) σ h) := rfl
theorem f93c4_eq : wC Try.prog f93c4 Q σ h = (bd (evO σ (.tmp 15)) fun v => bd (asB v) fun t => br t (wC Try.prog f93c5 Q σ h) (Q (.exit 0) σ h)) := rfl
theorem f93c3_eq : wC Try.prog f93c3 Q σ h = (wL Try.prog none f93r2 0 (fun σ h => wC Try.prog f93c4 Q σ h) σ h) := rfl
theorem f93c11_eq : wC Try.prog f93c11 Q σ h = (wL Try.prog none f93r7 0 (fun σ h => Q .ret σ h) σ h) := rfl
theorem f93c2_eq : wC Try.prog f93c2 Q σ h = (loopW (wC Try.prog f93c3) (X.inBlock 0 (X.then (fun σ h => wC Try.prog f93c11 Q σ h) Q)) σ h) := rfl
theorem f93c1_eq : wC Try.prog f93c1 Q σ h = (wL Try.prog none f93r1 0 (fun σ h => wC Try.prog f93c2 Q σ h) σ h) := rfl
theorem f93c0_eq : wC Try.prog f93c0 Q σ h = (wL Try.prog none f93r0 0 (fun σ h => wC Try.prog f93c1 Q σ h) σ h) := rfl
end
/-! ### f67: antipode/antipoderef8.Blocks -/
def f67r0 : List I := [.op (.box 4 94 (.tmp 1)),
  .op (.box 5 39 (.tmp 2)),
  .op (.new 6 72 [.int .i64 0, .int .i64 0, .int .i64 0, .int .i64 0, .int .i64 0, .int .i64 0, .int .i64 0, .bool false, .string ⟨#[]⟩]),
  .op (.mov 7 (.const (.bool false))),
  .kp [0, 4, 5, 6]]
def f67r1 : List I := [.op (.mov 8 (.const (.int .i64 0))),
  .kp [0, 4, 5, 6, 8]]
def f67r2 : List I := [.op (.mov 9 (.tmp 8)),
  .op (.mov 10 (.tmp 0)),
  .op (.len 11 true (.tmp 10)),
  .op (.bin 12 .lss (.tmp 9) (.tmp 11)),
  .kp [0, 4, 5, 6, 8, 12]]
def f67r3 : List I := [.op (.mov 15 (.tmp 0)),
  .op (.mov 16 (.tmp 8)),
  .op (.iad 17 12 (.tmp 15) (.tmp 16)),
  .op (.fad 18 0 (.tmp 17)),
  .op (.ld 19 none (.tmp 18)),
  .op (.ld 20 (some 2) (.tmp 4)),
  .op (.call (some 21) 106 [(.tmp 19), (.tmp 20)]),
  .op (.mov 22 (.tmp 21)),
  .sc 22 true 5,
  .g 22 true (.mov 23 (.tmp 0)),
  .g 22 true (.mov 24 (.tmp 8)),
  .g 22 true (.iad 25 12 (.tmp 23) (.tmp 24)),
  .g 22 true (.fad 26 2 (.tmp 25)),
  .g 22 true (.ld 27 none (.tmp 26)),
  .op (.pick 28 (.tmp 22) (.tmp 27) (.const (.bool false))),
  .kp [0, 4, 5, 6, 8, 28],
  .op (.mov 29 (.tmp 28)),
  .sc 29 true 9,
  .g 29 true (.ld 30 (some 2) (.tmp 5)),
  .g 29 true (.mov 31 (.tmp 0)),
  .g 29 true (.mov 32 (.tmp 8)),
  .g 29 true (.iad 33 12 (.tmp 31) (.tmp 32)),
  .g 29 true (.fad 34 3 (.tmp 33)),
  .g 29 true (.fad 35 5 (.tmp 34)),
  .g 29 true (.ld 36 (some 2) (.tmp 35)),
  .g 29 true (.call (some 37) 42 [(.tmp 30), (.tmp 36)]),
  .g 29 true (.un 38 .not (.tmp 37)),
  .op (.pick 39 (.tmp 29) (.tmp 38) (.const (.bool false))),
  .kp [0, 4, 5, 6, 8, 39]]
def f67r4 : List I := [.op (.mov 40 (.tmp 0)),
  .op (.mov 41 (.tmp 8)),
  .op (.iad 42 12 (.tmp 40) (.tmp 41)),
  .op (.fad 43 3 (.tmp 42)),
  .op (.ld 44 (some 9) (.tmp 43)),
  .op (.st 9 (.tmp 6) (.tmp 44)),
  .op (.mov 7 (.const (.bool true))),
  .kp [6, 7]]
def f67r5 : List I := [.op (.mov 13 (.tmp 8)),
  .op (.bin 14 .add (.tmp 13) (.const (.int .i64 1))),
  .op (.mov 8 (.tmp 14)),
  .kp [0, 4, 5, 6, 8]]
def f67r6 : List I := [.op (.bld 45 [.int .i64 0, .int .i64 0, .int .i64 0, .int .i64 0, .int .i64 0, .int .i64 0, .int .i64 0, .bool false, .string ⟨#[]⟩] []),
  .op (.st 9 (.tmp 6) (.tmp 45)),
  .op (.mov 7 (.const (.bool false))),
  .kp [6, 7]]
def f67c8 : C := (.seq (.reg f67r4) .ret)
def f67c7 : C := (.cond (.tmp 39) f67c8 .skip)
def f67c6 : C := (.seq (.drw f67r3) f67c7)
def f67c9 : C := (.reg f67r5)
def f67c5 : C := (.seq (.block 1 f67c6) f67c9)
def f67c4 : C := (.seq (.cond (.tmp 12) .skip (.exit 0)) f67c5)
def f67c3 : C := (.seq (.reg f67r2) f67c4)
def f67c10 : C := (.seq (.reg f67r6) .ret)
def f67c2 : C := (.seq (.block 0 (.loop f67c3)) f67c10)
def f67c1 : C := (.seq (.reg f67r1) f67c2)
def f67c0 : C := (.seq (.reg f67r0) f67c1)
theorem f67cmp : cmpF Try.prog Try.f67 [.l [.o 0, .o 1, .o 2, .o 3, .kp [0, 4, 5, 6]],
  .l [.o 0, .kp [0, 4, 5, 6, 8]],
  .l [.o 0, .o 1, .o 2, .o 3, .kp [0, 4, 5, 6, 8, 12]],
  .l [.o 0, .o 1, .o 2, .o 3, .o 4, .o 5, .o 6, .o 7, .sc 22 true 5, .o 8, .o 9, .o 10, .o 11, .o 12, .o 13, .kp [0, 4, 5, 6, 8, 28], .o 14, .sc 29 true 9, .o 15, .o 16, .o 17, .o 18, .o 19, .o 20, .o 21, .o 22, .o 23, .o 24, .kp [0, 4, 5, 6, 8, 39]],
  .l [.o 0, .o 1, .o 2, .o 3, .o 4, .o 5, .o 6, .kp [6, 7]],
  .l [.o 0, .o 1, .o 2, .kp [0, 4, 5, 6, 8]],
  .l [.o 0, .o 1, .o 2, .kp [6, 7]]] = some (f67c0, [.cell 6 9, .tmp 7]) := by kernel_rfl
theorem f67ok {args : List Value} {h : Heap} {R : Value → Heap → Prop} (hn : args.length ≤ 46) (H : wC Try.prog f67c0 (endW [.cell 6 9, .tmp 7] R) (envOf 0 args) h) : CallsH Try.prog 67 args h R :=
  fn_ok2 Try.func67 f67cmp hn H
theorem f67cal : callable Try.prog 67 = true := by kernel_rfl
section
variable {Q : X → Env → Heap → Prop} {σ : Env} {h : Heap}
theorem f67c8_eq : wC Try.prog f67c8 Q σ h = (wL Try.prog none f67r4 0 (fun σ h => Q .ret σ h) σ h) := rfl
theorem f67c7_eq : wC Try.prog f67c7 Q σ h = (bd (evO σ (.tmp 39)) fun v => bd (asB v) fun t => br t (wC Try.prog f67c8 Q σ h) (Q .normal σ h)) := rfl
theorem f67c6_eq : wC Try.prog f67c6 Q σ h = (drwW Try.prog f67r3 (fun σ h => wC Try.prog f67c7 Q σ h) σ h) := rfl
theorem f67c9_eq : wC Try.prog f67c9 Q σ h = (wL Try.prog none f67r5 0 (fun σ h => Q .normal σ h) σ h) := rfl
theorem f67c5_eq : wC Try.prog f67c5 Q σ h = (wC Try.prog f67c6 (X.inBlock 1 (X.then (fun σ h => wC Try.prog f67c9 Q σ h) Q)) σ h) := rfl
theorem f67c4_eq : wC Try.prog f67c4 Q σ h = (bd (evO σ (.tmp 12)) fun v => bd (asB v) fun t => br t (wC Try.prog f67c5 Q σ h) (Q (.exit 0) σ h)) := rfl
theorem f67c3_eq : wC Try.prog f67c3 Q σ h = (wL Try.prog none f67r2 0 (fun σ h => wC Try.prog f67c4 Q σ h) σ h) := rfl
theorem f67c10_eq : wC Try.prog f67c10 Q σ h = (wL Try.prog none f67r6 0 (fun σ h => Q .ret σ h) σ h) := rfl
theorem f67c2_eq : wC Try.prog f67c2 Q σ h = (loopW (wC Try.prog f67c3) (X.inBlock 0 (X.then (fun σ h => wC Try.prog f67c10 Q σ h) Q)) σ h) := rfl
theorem f67c1_eq : wC Try.prog f67c1 Q σ h = (wL Try.prog none f67r1 0 (fun σ h => wC Try.prog f67c2 Q σ h) σ h) := rfl
theorem f67c0_eq : wC Try.prog f67c0 Q σ h = (wL Try.prog none f67r0 0 (fun σ h => wC Try.prog f67c1 Q σ h) σ h) := rfl
end
/-! ### f47: antipode/mvcc.Scan -/
def f47r0 : List I := [.op (.box 5 94 (.tmp 1)),
  .op (.box 6 39 (.tmp 2)),
  .op (.mov 8 (.const (.slice none 0 0))),
  .op (.mov 9 (.const (.int .i64 0))),
  .kp [0, 3, 5, 6]]
def f47r1 : List I := [.op (.mov 10 (.const (.slice none 0 0))),
  .kp [0, 3, 5, 6, 10]]
def f47r2 : List I := [.op (.mov 15 (.tmp 0)),
  .op (.ld 16 (some 2) (.tmp 5)),
  .op (.call (some 17) 92 [(.tmp 15), (.tmp 16)]),
  .op (.len 18 true (.tmp 17)),
  .op (.mov 19 (.const (.int .i64 0))),
  .kp [3, 6, 10, 17, 18, 19]]
def f47r3 : List I := [.op (.bin 20 .lss (.tmp 19) (.tmp 18)),
  .kp [3, 6, 10, 17, 18, 19, 20]]
def f47r4 : List I := [.op (.iad 21 12 (.tmp 17) (.tmp 19)),
  .op (.ld 22 (some 12) (.tmp 21)),
  .op (.new 12 103 [.string ⟨#[]⟩, .slice none 0 0, .bool false, .int .i64 0, .int .i64 0, .int .i64 0, .int .i64 0, .int .i64 0, .int .i64 0, .int .i64 0, .bool false, .string ⟨#[]⟩]),
  .op (.st 12 (.tmp 12) (.tmp 22)),
  .kp [3, 6, 10, 12, 17, 18, 19]]
def f47r5 : List I := [.op (.ld 24 (some 12) (.tmp 12)),
  .op (.ld 25 (some 2) (.tmp 6)),
  .op (.call (some 26) 89 [(.tmp 24), (.tmp 25)]),
  .op (.mov 23 (.tmp 26)),
  .op (.ext 27 (.tmp 23) 0),
  .op (.ext 28 (.tmp 23) 1),
  .op (.mov 13 (.tmp 27)),
  .op (.mov 14 (.tmp 28)),
  .kp [3, 6, 10, 12, 13, 14, 17, 18, 19]]
def f47r6 : List I := [.op (.mov 29 (.tmp 14)),
  .op (.un 30 .not (.tmp 29)),
  .kp [3, 6, 10, 12, 13, 17, 18, 19, 30]]
def f47r7 : List I := [.op (.mov 31 (.tmp 10)),
  .op (.len 32 true (.tmp 31)),
  .op (.mov 33 (.tmp 3)),
  .op (.bin 34 .geq (.tmp 32) (.tmp 33)),
  .kp [3, 6, 10, 12, 13, 17, 18, 19, 34]]
def f47r8 : List I := [.op (.mov 8 (.const (.slice none 0 0))),
  .op (.mov 9 (.const (.int .i64 3))),
  .kp [8, 9]]
def f47r9 : List I := [.op (.mov 35 (.tmp 10)),
  .op (.fad 36 0 (.tmp 12)),
  .op (.ld 37 none (.tmp 36)),
  .op (.mov 38 (.tmp 13)),
  .op (.bld 39 [.string ⟨#[]⟩, .string ⟨#[]⟩] [(0, 1, (.tmp 37)), (1, 1, (.tmp 38))]),
  .op (.bsl 40 99 1 [.string ⟨#[]⟩, .string ⟨#[]⟩] [(0, 2, (.tmp 39))]),
  .op (.raw (some 41) ⟨(some 41), (.call ⟨(.builtin .append), #[(.tmp 35), (.tmp 40)], #[45, 45]⟩), 45, "mvcc.go:91", #[⟨0, .data⟩, ⟨5, .data⟩], none⟩),
  .op (.mov 10 (.tmp 41)),
  .kp [3, 6, 10, 17, 18, 19]]
def f47r10 : List I := [.op (.bin 42 .add (.tmp 19) (.const (.int .i64 1))),
  .op (.mov 19 (.tmp 42)),
  .kp [3, 6, 10, 17, 18, 19]]
def f47r11 : List I := [.op (.mov 43 (.tmp 10)),
  .op (.mov 8 (.tmp 43)),
  .op (.mov 9 (.const (.int .i64 0))),
  .kp [8, 9]]
def f47c13 : C := (.seq (.reg f47r8) .ret)
def f47c14 : C := (.reg f47r9)
def f47c12 : C := (.seq (.cond (.tmp 34) f47c13 .skip) f47c14)
def f47c11 : C := (.seq (.reg f47r7) f47c12)
def f47c10 : C := (.seq (.cond (.tmp 30) (.exit 1) .skip) f47c11)
def f47c9 : C := (.seq (.reg f47r6) f47c10)
def f47c8 : C := (.seq (.reg f47r5) f47c9)
def f47c7 : C := (.seq (.reg f47r4) f47c8)
def f47c15 : C := (.reg f47r10)
def f47c6 : C := (.seq (.block 1 f47c7) f47c15)
def f47c5 : C := (.seq (.cond (.tmp 20) .skip (.exit 0)) f47c6)
def f47c4 : C := (.seq (.reg f47r3) f47c5)
def f47c16 : C := (.seq (.reg f47r11) .ret)
def f47c3 : C := (.seq (.block 0 (.loop f47c4)) f47c16)
def f47c2 : C := (.seq (.reg f47r2) f47c3)
def f47c1 : C := (.seq (.reg f47r1) f47c2)
def f47c0 : C := (.seq (.reg f47r0) f47c1)
theorem f47cmp : cmpF Try.prog Try.f47 [.l [.o 0, .o 1, .o 2, .o 3, .kp [0, 3, 5, 6]],
  .l [.o 0, .kp [0, 3, 5, 6, 10]],
  .l [.o 0, .o 1, .o 2, .o 3, .o 4, .kp [3, 6, 10, 17, 18, 19]],
  .l [.o 0, .kp [3, 6, 10, 17, 18, 19, 20]],
  .l [.o 0, .o 1, .o 2, .o 3, .kp [3, 6, 10, 12, 17, 18, 19]],
  .l [.o 0, .o 1, .o 2, .o 3, .o 4, .o 5, .o 6, .o 7, .kp [3, 6, 10, 12, 13, 14, 17, 18, 19]],
  .l [.o 0, .o 1, .kp [3, 6, 10, 12, 13, 17, 18, 19, 30]],
  .l [.o 0, .o 1, .o 2, .o 3, .kp [3, 6, 10, 12, 13, 17, 18, 19, 34]],
  .l [.o 0, .o 1, .kp [8, 9]],
  .l [.o 0, .o 1, .o 2, .o 3, .o 4, .o 5, .o 6, .o 7, .kp [3, 6, 10, 17, 18, 19]],
  .l [.o 0, .o 1, .kp [3, 6, 10, 17, 18, 19]],
  .l [.o 0, .o 1, .o 2, .kp [8, 9]]] = some (f47c0, [.tmp 8, .tmp 9]) := by kernel_rfl
theorem f47ok {args : List Value} {h : Heap} {R : Value → Heap → Prop} (hn : args.length ≤ 44) (H : wC Try.prog f47c0 (endW [.tmp 8, .tmp 9] R) (envOf 0 args) h) : CallsH Try.prog 47 args h R :=
  fn_ok2 Try.func47 f47cmp hn H
theorem f47cal : callable Try.prog 47 = true := by kernel_rfl
section
variable {Q : X → Env → Heap → Prop} {σ : Env} {h : Heap}
theorem f47c13_eq : wC Try.prog f47c13 Q σ h = (wL Try.prog none f47r8 0 (fun σ h => Q .ret σ h) σ h) := rfl
theorem f47c14_eq : wC Try.prog f47c14 Q σ h = (wL Try.prog none f47r9 0 (fun σ h => Q .normal σ h) σ h) := rfl
theorem f47c12_eq : wC Try.prog f47c12 Q σ h = (bd (evO σ (.tmp 34)) fun v => bd (asB v) fun t => br t (wC Try.prog f47c13 (X.then (fun σ h => wC Try.prog f47c14 Q σ h) Q) σ h) (wC Try.prog f47c14 Q σ h)) := rfl
theorem f47c11_eq : wC Try.prog f47c11 Q σ h = (wL Try.prog none f47r7 0 (fun σ h => wC Try.prog f47c12 Q σ h) σ h) := rfl
theorem f47c10_eq : wC Try.prog f47c10 Q σ h = (bd (evO σ (.tmp 30)) fun v => bd (asB v) fun t => br t (Q (.exit 1) σ h) (wC Try.prog f47c11 Q σ h)) := rfl
theorem f47c9_eq : wC Try.prog f47c9 Q σ h = (wL Try.prog none f47r6 0 (fun σ h => wC Try.prog f47c10 Q σ h) σ h) := rfl
theorem f47c8_eq : wC Try.prog f47c8 Q σ h = (wL Try.prog none f47r5 0 (fun σ h => wC Try.prog f47c9 Q σ h) σ h) := rfl
theorem f47c7_eq : wC Try.prog f47c7 Q σ h = (wL Try.prog none f47r4 0 (fun σ h => wC Try.prog f47c8 Q σ h) σ h) := rfl
theorem f47c15_eq : wC Try.prog f47c15 Q σ h = (wL Try.prog none f47r10 0 (fun σ h => Q .normal σ h) σ h) := rfl
theorem f47c6_eq : wC Try.prog f47c6 Q σ h = (wC Try.prog f47c7 (X.inBlock 1 (X.then (fun σ h => wC Try.prog f47c15 Q σ h) Q)) σ h) := rfl
theorem f47c5_eq : wC Try.prog f47c5 Q σ h = (bd (evO σ (.tmp 20)) fun v => bd (asB v) fun t => br t (wC Try.prog f47c6 Q σ h) (Q (.exit 0) σ h)) := rfl
theorem f47c4_eq : wC Try.prog f47c4 Q σ h = (wL Try.prog none f47r3 0 (fun σ h => wC Try.prog f47c5 Q σ h) σ h) := rfl
theorem f47c16_eq : wC Try.prog f47c16 Q σ h = (wL Try.prog none f47r11 0 (fun σ h => Q .ret σ h) σ h) := rfl
theorem f47c3_eq : wC Try.prog f47c3 Q σ h = (loopW (wC Try.prog f47c4) (X.inBlock 0 (X.then (fun σ h => wC Try.prog f47c16 Q σ h) Q)) σ h) := rfl
theorem f47c2_eq : wC Try.prog f47c2 Q σ h = (wL Try.prog none f47r2 0 (fun σ h => wC Try.prog f47c3 Q σ h) σ h) := rfl
theorem f47c1_eq : wC Try.prog f47c1 Q σ h = (wL Try.prog none f47r1 0 (fun σ h => wC Try.prog f47c2 Q σ h) σ h) := rfl
theorem f47c0_eq : wC Try.prog f47c0 Q σ h = (wL Try.prog none f47r0 0 (fun σ h => wC Try.prog f47c1 Q σ h) σ h) := rfl
end
/-! ### f68: antipode/antipoderef8.Scan -/
def f68r0 : List I := [.op (.box 5 94 (.tmp 1)),
  .op (.box 6 39 (.tmp 2)),
  .op (.mov 8 (.const (.slice none 0 0))),
  .op (.mov 9 (.const (.int .i64 0))),
  .kp [0, 3, 5, 6]]
def f68r1 : List I := [.op (.mov 10 (.const (.slice none 0 0))),
  .kp [0, 3, 5, 6, 10]]
def f68r2 : List I := [.op (.mov 11 (.const (.int .i64 0))),
  .kp [0, 3, 5, 6, 10, 11]]
def f68r3 : List I := [.op (.mov 14 (.tmp 11)),
  .op (.mov 15 (.tmp 0)),
  .op (.len 16 true (.tmp 15)),
  .op (.bin 17 .lss (.tmp 14) (.tmp 16)),
  .kp [0, 3, 5, 6, 10, 11, 17]]
def f68r4 : List I := [.op (.mov 20 (.tmp 0)),
  .op (.mov 21 (.tmp 11)),
  .op (.iad 22 12 (.tmp 20) (.tmp 21)),
  .op (.fad 23 0 (.tmp 22)),
  .op (.ld 24 none (.tmp 23)),
  .op (.ld 25 (some 2) (.tmp 5)),
  .op (.call (some 26) 106 [(.tmp 24), (.tmp 25)]),
  .op (.un 27 .not (.tmp 26)),
  .kp [0, 3, 5, 6, 10, 11, 27]]
def f68r5 : List I := [.op (.mov 29 (.tmp 0)),
  .op (.mov 30 (.tmp 11)),
  .op (.iad 31 12 (.tmp 29) (.tmp 30)),
  .op (.ld 32 (some 12) (.tmp 31)),
  .op (.ld 33 (some 2) (.tmp 6)),
  .op (.call (some 34) 107 [(.tmp 32), (.tmp 33)]),
  .op (.mov 28 (.tmp 34)),
  .op (.ext 35 (.tmp 28) 0),
  .op (.ext 36 (.tmp 28) 1),
  .op (.mov 12 (.tmp 35)),
  .kp [0, 3, 5, 6, 10, 11, 12, 36],
  .op (.mov 13 (.tmp 36)),
  .kp [0, 3, 5, 6, 10, 11, 12, 13]]
def f68r6 : List I := [.op (.mov 37 (.tmp 13)),
  .kp [0, 3, 5, 6, 10, 11, 12, 37]]
def f68r7 : List I := [.op (.mov 38 (.tmp 10)),
  .op (.mov 39 (.tmp 0)),
  .op (.mov 40 (.tmp 11)),
  .op (.iad 41 12 (.tmp 39) (.tmp 40)),
  .op (.fad 42 0 (.tmp 41)),
  .op (.ld 43 none (.tmp 42)),
  .op (.mov 44 (.tmp 12)),
  .op (.bld 45 [.string ⟨#[]⟩, .string ⟨#[]⟩] [(0, 1, (.tmp 43)), (1, 1, (.tmp 44))]),
  .op (.bsl 46 99 1 [.string ⟨#[]⟩, .string ⟨#[]⟩] [(0, 2, (.tmp 45))]),
  .op (.raw (some 47) ⟨(some 47), (.call ⟨(.builtin .append), #[(.tmp 38), (.tmp 46)], #[45, 45]⟩), 45, "ref.go:82", #[⟨0, .data⟩, ⟨8, .data⟩], none⟩),
  .kp [0, 3, 5, 6, 11, 47],
  .op (.mov 10 (.tmp 47)),
  .kp [0, 3, 5, 6, 10, 11]]
def f68r8 : List I := [.op (.mov 18 (.tmp 11)),
  .op (.bin 19 .add (.tmp 18) (.const (.int .i64 1))),
  .op (.mov 11 (.tmp 19)),
  .kp [0, 3, 5, 6, 10, 11]]
def f68r9 : List I := [.op (.mov 48 (.tmp 10)),
  .op (.len 49 true (.tmp 48)),
  .op (.mov 50 (.tmp 3)),
  .op (.mm 51 true (.tmp 50) (.const (.int .i64 0))),
  .op (.bin 52 .gtr (.tmp 49) (.tmp 51)),
  .kp [10, 52]]
def f68r10 : List I := [.op (.mov 8 (.const (.slice none 0 0))),
  .op (.mov 9 (.const (.int .i64 3))),
  .kp [8, 9]]
def f68r11 : List I := [.op (.mov 53 (.tmp 10)),
  .op (.mov 8 (.tmp 53)),
  .op (.mov 9 (.const (.int .i64 0))),
  .kp [8, 9]]
def f68c12 : C := (.reg f68r7)
def f68c11 : C := (.cond (.tmp 37) f68c12 .skip)
def f68c10 : C := (.seq (.reg f68r6) f68c11)
def f68c9 : C := (.seq (.drw f68r5) f68c10)
def f68c8 : C := (.seq (.cond (.tmp 27) (.exit 1) .skip) f68c9)
def f68c7 : C := (.seq (.drw f68r4) f68c8)
def f68c13 : C := (.reg f68r8)
def f68c6 : C := (.seq (.block 1 f68c7) f68c13)
def f68c5 : C := (.seq (.cond (.tmp 17) .skip (.exit 0)) f68c6)
def f68c4 : C := (.seq (.reg f68r3) f68c5)
def f68c16 : C := (.seq (.reg f68r10) .ret)
def f68c17 : C := (.seq (.reg f68r11) .ret)
def f68c15 : C := (.seq (.cond (.tmp 52) f68c16 .skip) f68c17)
def f68c14 : C := (.seq (.reg f68r9) f68c15)
def f68c3 : C := (.seq (.block 0 (.loop f68c4)) f68c14)
def f68c2 : C := (.seq (.reg f68r2) f68c3)
def f68c1 : C := (.seq (.reg f68r1) f68c2)
def f68c0 : C := (.seq (.reg f68r0) f68c1)
theorem f68cmp : cmpF Try.prog Try.f68 [.l [.o 0, .o 1, .o 2, .o 3, .kp [0, 3, 5, 6]],
  .l [.o 0, .kp [0, 3, 5, 6, 10]],
  .l [.o 0, .kp [0, 3, 5, 6, 10, 11]],
  .l [.o 0, .o 1, .o 2, .o 3, .kp [0, 3, 5, 6, 10, 11, 17]],
  .l [.o 0, .o 1, .o 2, .o 3, .o 4, .o 5, .o 6, .o 7, .kp [0, 3, 5, 6, 10, 11, 27]],
  .l [.o 0, .o 1, .o 2, .o 3, .o 4, .o 5, .o 6, .o 7, .o 8, .o 9, .kp [0, 3, 5, 6, 10, 11, 12, 36], .o 10, .kp [0, 3, 5, 6, 10, 11, 12, 13]],
  .l [.o 0, .kp [0, 3, 5, 6, 10, 11, 12, 37]],
  .l [.o 0, .o 1, .o 2, .o 3, .o 4, .o 5, .o 6, .o 7, .o 8, .o 9, .kp [0, 3, 5, 6, 11, 47], .o 10, .kp [0, 3, 5, 6, 10, 11]],
  .l [.o 0, .o 1, .o 2, .kp [0, 3, 5, 6, 10, 11]],
  .l [.o 0, .o 1, .o 2, .o 3, .o 4, .kp [10, 52]],
  .l [.o 0, .o 1, .kp [8, 9]],
  .l [.o 0, .o 1, .o 2, .kp [8, 9]]] = some (f68c0, [.tmp 8, .tmp 9]) := by kernel_rfl
theorem f68ok {args : List Value} {h : Heap} {R : Value → Heap → Prop} (hn : args.length ≤ 54) (H : wC Try.prog f68c0 (endW [.tmp 8, .tmp 9] R) (envOf 0 args) h) : CallsH Try.prog 68 args h R :=
  fn_ok2 Try.func68 f68cmp hn H
theorem f68cal : callable Try.prog 68 = true := by kernel_rfl
section
variable {Q : X → Env → Heap → Prop} {σ : Env} {h : Heap}
theorem f68c12_eq : wC Try.prog f68c12 Q σ h = (wL Try.prog none f68r7 0 (fun σ h => Q .normal σ h) σ h) := rfl
theorem f68c11_eq : wC Try.prog f68c11 Q σ h = (bd (evO σ (.tmp 37)) fun v => bd (asB v) fun t => br t (wC Try.prog f68c12 Q σ h) (Q .normal σ h)) := rfl
theorem f68c10_eq : wC Try.prog f68c10 Q σ h = (wL Try.prog none f68r6 0 (fun σ h => wC Try.prog f68c11 Q σ h) σ h) := rfl
theorem f68c9_eq : wC Try.prog f68c9 Q σ h = (drwW Try.prog f68r5 (fun σ h => wC Try.prog f68c10 Q σ h) σ h) := rfl
theorem f68c8_eq : wC Try.prog f68c8 Q σ h = (bd (evO σ (.tmp 27)) fun v => bd (asB v) fun t => br t (Q (.exit 1) σ h) (wC Try.prog f68c9 Q σ h)) := rfl
theorem f68c7_eq : wC Try.prog f68c7 Q σ h = (drwW Try.prog f68r4 (fun σ h => wC Try.prog f68c8 Q σ h) σ h) := rfl
theorem f68c13_eq : wC Try.prog f68c13 Q σ h = (wL Try.prog none f68r8 0 (fun σ h => Q .normal σ h) σ h) := rfl
theorem f68c6_eq : wC Try.prog f68c6 Q σ h = (wC Try.prog f68c7 (X.inBlock 1 (X.then (fun σ h => wC Try.prog f68c13 Q σ h) Q)) σ h) := rfl
theorem f68c5_eq : wC Try.prog f68c5 Q σ h = (bd (evO σ (.tmp 17)) fun v => bd (asB v) fun t => br t (wC Try.prog f68c6 Q σ h) (Q (.exit 0) σ h)) := rfl
theorem f68c4_eq : wC Try.prog f68c4 Q σ h = (wL Try.prog none f68r3 0 (fun σ h => wC Try.prog f68c5 Q σ h) σ h) := rfl
theorem f68c16_eq : wC Try.prog f68c16 Q σ h = (wL Try.prog none f68r10 0 (fun σ h => Q .ret σ h) σ h) := rfl
theorem f68c17_eq : wC Try.prog f68c17 Q σ h = (wL Try.prog none f68r11 0 (fun σ h => Q .ret σ h) σ h) := rfl
theorem f68c15_eq : wC Try.prog f68c15 Q σ h = (bd (evO σ (.tmp 52)) fun v => bd (asB v) fun t => br t (wC Try.prog f68c16 (X.then (fun σ h => wC Try.prog f68c17 Q σ h) Q) σ h) (wC Try.prog f68c17 Q σ h)) := rfl
theorem f68c14_eq : wC Try.prog f68c14 Q σ h = (wL Try.prog none f68r9 0 (fun σ h => wC Try.prog f68c15 Q σ h) σ h) := rfl
theorem f68c3_eq : wC Try.prog f68c3 Q σ h = (loopW (wC Try.prog f68c4) (X.inBlock 0 (X.then (fun σ h => wC Try.prog f68c14 Q σ h) Q)) σ h) := rfl
theorem f68c2_eq : wC Try.prog f68c2 Q σ h = (wL Try.prog none f68r2 0 (fun σ h => wC Try.prog f68c3 Q σ h) σ h) := rfl
theorem f68c1_eq : wC Try.prog f68c1 Q σ h = (wL Try.prog none f68r1 0 (fun σ h => wC Try.prog f68c2 Q σ h) σ h) := rfl
theorem f68c0_eq : wC Try.prog f68c0 Q σ h = (wL Try.prog none f68r0 0 (fun σ h => wC Try.prog f68c1 Q σ h) σ h) := rfl
end
/-! ### f44: antipode/mvcc.Held -/
def f44r0 : List I := [.op (.new 4 72 [.int .i64 0, .int .i64 0, .int .i64 0, .int .i64 0, .int .i64 0, .int .i64 0, .int .i64 0, .bool false, .string ⟨#[]⟩]),
  .op (.mov 5 (.const (.bool false))),
  .kp [0, 1, 4]]
def f44r1 : List I := [.op (.mov 9 (.tmp 0)),
  .op (.mov 10 (.tmp 1)),
  .op (.call (some 11) 87 [(.tmp 9), (.tmp 10)]),
  .op (.mov 8 (.tmp 11)),
  .op (.ext 12 (.tmp 8) 0),
  .op (.ext 13 (.tmp 8) 1),
  .op (.mov 6 (.tmp 12)),
  .op (.mov 7 (.tmp 13)),
  .kp [0, 4, 6, 7]]
def f44r2 : List I := [.op (.mov 14 (.tmp 7)),
  .op (.un 15 .not (.tmp 14)),
  .op (.mov 16 (.tmp 15)),
  .sc 16 false 6,
  .g 16 false (.mov 17 (.tmp 0)),
  .g 16 false (.mov 18 (.tmp 6)),
  .g 16 false (.iad 19 12 (.tmp 17) (.tmp 18)),
  .g 16 false (.fad 20 2 (.tmp 19)),
  .g 16 false (.ld 21 none (.tmp 20)),
  .g 16 false (.un 22 .not (.tmp 21)),
  .op (.pick 23 (.tmp 16) (.const (.bool true)) (.tmp 22)),
  .kp [0, 4, 6, 23]]
def f44r3 : List I := [.op (.bld 24 [.int .i64 0, .int .i64 0, .int .i64 0, .int .i64 0, .int .i64 0, .int .i64 0, .int .i64 0, .bool false, .string ⟨#[]⟩] []),
  .op (.st 9 (.tmp 4) (.tmp 24)),
  .op (.mov 5 (.const (.bool false))),
  .kp [4, 5]]
def f44r4 : List I := [.op (.mov 25 (.tmp 0)),
  .op (.mov 26 (.tmp 6)),
  .op (.iad 27 12 (.tmp 25) (.tmp 26)),
  .op (.fad 28 3 (.tmp 27)),
  .op (.ld 29 (some 9) (.tmp 28)),
  .op (.st 9 (.tmp 4) (.tmp 29)),
  .op (.mov 5 (.const (.bool true))),
  .kp [4, 5]]
def f44c4 : C := (.seq (.reg f44r3) .ret)
def f44c5 : C := (.seq (.reg f44r4) .ret)
def f44c3 : C := (.seq (.cond (.tmp 23) f44c4 .skip) f44c5)
def f44c2 : C := (.seq (.reg f44r2) f44c3)
def f44c1 : C := (.seq (.reg f44r1) f44c2)
def f44c0 : C := (.seq (.reg f44r0) f44c1)
theorem f44cmp : cmpF Try.prog Try.f44 [.l [.o 0, .o 1, .kp [0, 1, 4]],
  .l [.o 0, .o 1, .o 2, .o 3, .o 4, .o 5, .o 6, .o 7, .kp [0, 4, 6, 7]],
  .l [.o 0, .o 1, .o 2, .sc 16 false 6, .o 3, .o 4, .o 5, .o 6, .o 7, .o 8, .o 9, .kp [0, 4, 6, 23]],
  .l [.o 0, .o 1, .o 2, .kp [4, 5]],
  .l [.o 0, .o 1, .o 2, .o 3, .o 4, .o 5, .o 6, .kp [4, 5]]] = some (f44c0, [.cell 4 9, .tmp 5]) := by kernel_rfl
theorem f44ok {args : List Value} {h : Heap} {R : Value → Heap → Prop} (hn : args.length ≤ 30) (H : wC Try.prog f44c0 (endW [.cell 4 9, .tmp 5] R) (envOf 0 args) h) : CallsH Try.prog 44 args h R :=
  fn_ok2 Try.func44 f44cmp hn H
theorem f44cal : callable Try.prog 44 = true := by kernel_rfl
section
variable {Q : X → Env → Heap → Prop} {σ : Env} {h : Heap}
theorem f44c4_eq : wC Try.prog f44c4 Q σ h = (wL Try.prog none f44r3 0 (fun σ h => Q .ret σ h) σ h) := rfl
theorem f44c5_eq : wC Try.prog f44c5 Q σ h = (wL Try.prog none f44r4 0 (fun σ h => Q .ret σ h) σ h) := rfl
theorem f44c3_eq : wC Try.prog f44c3 Q σ h = (bd (evO σ (.tmp 23)) fun v => bd (asB v) fun t => br t (wC Try.prog f44c4 (X.then (fun σ h => wC Try.prog f44c5 Q σ h) Q) σ h) (wC Try.prog f44c5 Q σ h)) := rfl
theorem f44c2_eq : wC Try.prog f44c2 Q σ h = (wL Try.prog none f44r2 0 (fun σ h => wC Try.prog f44c3 Q σ h) σ h) := rfl
theorem f44c1_eq : wC Try.prog f44c1 Q σ h = (wL Try.prog none f44r1 0 (fun σ h => wC Try.prog f44c2 Q σ h) σ h) := rfl
theorem f44c0_eq : wC Try.prog f44c0 Q σ h = (wL Try.prog none f44r0 0 (fun σ h => wC Try.prog f44c1 Q σ h) σ h) := rfl
end
/-! ### f71: antipode/antipoderef8.Held -/
def f71r0 : List I := [.op (.new 4 72 [.int .i64 0, .int .i64 0, .int .i64 0, .int .i64 0, .int .i64 0, .int .i64 0, .int .i64 0, .bool false, .string ⟨#[]⟩]),
  .op (.mov 5 (.const (.bool false))),
  .kp [0, 1, 4]]
def f71r1 : List I := [.op (.mov 7 (.tmp 0)),
  .op (.mov 8 (.tmp 1)),
  .op (.call (some 9) 108 [(.tmp 7), (.tmp 8)]),
  .op (.mov 6 (.tmp 9)),
  .kp [0, 4, 6]]
def f71r2 : List I := [.op (.mov 10 (.tmp 6)),
  .op (.bin 11 .lss (.tmp 10) (.const (.int .i64 0))),
  .op (.mov 12 (.tmp 11)),
  .sc 12 false 6,
  .g 12 false (.mov 13 (.tmp 0)),
  .g 12 false (.mov 14 (.tmp 6)),
  .g 12 false (.iad 15 12 (.tmp 13) (.tmp 14)),
  .g 12 false (.fad 16 2 (.tmp 15)),
  .g 12 false (.ld 17 none (.tmp 16)),
  .g 12 false (.un 18 .not (.tmp 17)),
  .op (.pick 19 (.tmp 12) (.const (.bool true)) (.tmp 18)),
  .kp [0, 4, 6, 19]]
def f71r3 : List I := [.op (.bld 20 [.int .i64 0, .int .i64 0, .int .i64 0, .int .i64 0, .int .i64 0, .int .i64 0, .int .i64 0, .bool false, .string ⟨#[]⟩] []),
  .op (.st 9 (.tmp 4) (.tmp 20)),
  .op (.mov 5 (.const (.bool false))),
  .kp [4, 5]]
def f71r4 : List I := [.op (.mov 21 (.tmp 0)),
  .op (.mov 22 (.tmp 6)),
  .op (.iad 23 12 (.tmp 21) (.tmp 22)),
  .op (.fad 24 3 (.tmp 23)),
  .op (.ld 25 (some 9) (.tmp 24)),
  .op (.st 9 (.tmp 4) (.tmp 25)),
  .op (.mov 5 (.const (.bool true))),
  .kp [4, 5]]
def f71c4 : C := (.seq (.reg f71r3) .ret)
def f71c5 : C := (.seq (.reg f71r4) .ret)
def f71c3 : C := (.seq (.cond (.tmp 19) f71c4 .skip) f71c5)
def f71c2 : C := (.seq (.reg f71r2) f71c3)
def f71c1 : C := (.seq (.reg f71r1) f71c2)
def f71c0 : C := (.seq (.reg f71r0) f71c1)
theorem f71cmp : cmpF Try.prog Try.f71 [.l [.o 0, .o 1, .kp [0, 1, 4]],
  .l [.o 0, .o 1, .o 2, .o 3, .kp [0, 4, 6]],
  .l [.o 0, .o 1, .o 2, .sc 12 false 6, .o 3, .o 4, .o 5, .o 6, .o 7, .o 8, .o 9, .kp [0, 4, 6, 19]],
  .l [.o 0, .o 1, .o 2, .kp [4, 5]],
  .l [.o 0, .o 1, .o 2, .o 3, .o 4, .o 5, .o 6, .kp [4, 5]]] = some (f71c0, [.cell 4 9, .tmp 5]) := by kernel_rfl
theorem f71ok {args : List Value} {h : Heap} {R : Value → Heap → Prop} (hn : args.length ≤ 26) (H : wC Try.prog f71c0 (endW [.cell 4 9, .tmp 5] R) (envOf 0 args) h) : CallsH Try.prog 71 args h R :=
  fn_ok2 Try.func71 f71cmp hn H
theorem f71cal : callable Try.prog 71 = true := by kernel_rfl
section
variable {Q : X → Env → Heap → Prop} {σ : Env} {h : Heap}
theorem f71c4_eq : wC Try.prog f71c4 Q σ h = (wL Try.prog none f71r3 0 (fun σ h => Q .ret σ h) σ h) := rfl
theorem f71c5_eq : wC Try.prog f71c5 Q σ h = (wL Try.prog none f71r4 0 (fun σ h => Q .ret σ h) σ h) := rfl
theorem f71c3_eq : wC Try.prog f71c3 Q σ h = (bd (evO σ (.tmp 19)) fun v => bd (asB v) fun t => br t (wC Try.prog f71c4 (X.then (fun σ h => wC Try.prog f71c5 Q σ h) Q) σ h) (wC Try.prog f71c5 Q σ h)) := rfl
theorem f71c2_eq : wC Try.prog f71c2 Q σ h = (wL Try.prog none f71r2 0 (fun σ h => wC Try.prog f71c3 Q σ h) σ h) := rfl
theorem f71c1_eq : wC Try.prog f71c1 Q σ h = (wL Try.prog none f71r1 0 (fun σ h => wC Try.prog f71c2 Q σ h) σ h) := rfl
theorem f71c0_eq : wC Try.prog f71c0 Q σ h = (wL Try.prog none f71r0 0 (fun σ h => wC Try.prog f71c1 Q σ h) σ h) := rfl
end
/-! ### f38: antipode/mvcc.Mine -/
def f38r0 : List I := [.op (.box 3 37 (.tmp 1)),
  .op (.mov 4 (.const (.bool false))),
  .kp [0, 3]]
def f38r1 : List I := [.op (.mov 5 (.tmp 0)),
  .op (.fn 6 83 [(.tmp 3)]),
  .op (.call (some 7) 82 [(.tmp 5), (.tmp 6)]),
  .op (.mov 4 (.tmp 7)),
  .kp [4]]
def f38c1 : C := (.seq (.reg f38r1) .ret)
def f38c0 : C := (.seq (.reg f38r0) f38c1)
theorem f38cmp : cmpF Try.prog Try.f38 [.l [.o 0, .o 1, .kp [0, 3]],
  .l [.o 0, .o 1, .o 2, .o 3, .kp [4]]] = some (f38c0, [.tmp 4]) := by kernel_rfl
theorem f38ok {args : List Value} {h : Heap} {R : Value → Heap → Prop} (hn : args.length ≤ 8) (H : wC Try.prog f38c0 (endW [.tmp 4] R) (envOf 0 args) h) : CallsH Try.prog 38 args h R :=
  fn_ok2 Try.func38 f38cmp hn H
theorem f38cal : callable Try.prog 38 = true := by kernel_rfl
section
variable {Q : X → Env → Heap → Prop} {σ : Env} {h : Heap}
theorem f38c1_eq : wC Try.prog f38c1 Q σ h = (wL Try.prog none f38r1 0 (fun σ h => Q .ret σ h) σ h) := rfl
theorem f38c0_eq : wC Try.prog f38c0 Q σ h = (wL Try.prog none f38r0 0 (fun σ h => wC Try.prog f38c1 Q σ h) σ h) := rfl
end
/-! ### f83: antipode/mvcc.Mine$1 -/
def f83r0 : List I := [.op (.box 2 103 (.tmp 0)),
  .op (.mov 3 (.const (.bool false))),
  .kp [1, 2]]
def f83r1 : List I := [.op (.fad 4 2 (.tmp 2)),
  .op (.ld 5 none (.tmp 4)),
  .op (.mov 6 (.tmp 5)),
  .sc 6 true 5,
  .g 6 true (.fad 7 3 (.tmp 2)),
  .g 6 true (.fad 8 0 (.tmp 7)),
  .g 6 true (.ld 9 (some 4) (.tmp 8)),
  .g 6 true (.ld 10 (some 4) (.tmp 1)),
  .g 6 true (.eqa 11 false [.i .i64, .i .i64, .i .i64, .i .i64] (.tmp 9) (.tmp 10)),
  .op (.pick 12 (.tmp 6) (.tmp 11) (.const (.bool false))),
  .op (.mov 3 (.tmp 12)),
  .kp [3]]
def f83c1 : C := (.seq (.reg f83r1) .ret)
def f83c0 : C := (.seq (.reg f83r0) f83c1)
theorem f83cmp : cmpF Try.prog Try.f83 [.l [.o 0, .o 1, .kp [1, 2]],
  .l [.o 0, .o 1, .o 2, .sc 6 true 5, .o 3, .o 4, .o 5, .o 6, .o 7, .o 8, .o 9, .kp [3]]] = some (f83c0, [.tmp 3]) := by kernel_rfl
theorem f83ok {args : List Value} {h : Heap} {R : Value → Heap → Prop} (hn : args.length ≤ 13) (H : wC Try.prog f83c0 (endW [.tmp 3] R) (envOf 0 args) h) : CallsH Try.prog 83 args h R :=
  fn_ok2 Try.func83 f83cmp hn H
theorem f83cal : callable Try.prog 83 = true := by kernel_rfl
section
variable {Q : X → Env → Heap → Prop} {σ : Env} {h : Heap}
theorem f83c1_eq : wC Try.prog f83c1 Q σ h = (wL Try.prog none f83r1 0 (fun σ h => Q .ret σ h) σ h) := rfl
theorem f83c0_eq : wC Try.prog f83c0 Q σ h = (wL Try.prog none f83r0 0 (fun σ h => wC Try.prog f83c1 Q σ h) σ h) := rfl
end
/-! ### f82: slices.ContainsFunc[[]antipode/api.Cell,antipode/api.Cell] -/
def f82r0 : List I := [.op (.mov 4 (.const (.bool false))),
  .kp [0, 1]]
def f82r1 : List I := [.op (.mov 5 (.tmp 0)),
  .op (.mov 6 (.tmp 1)),
  .op (.call (some 7) 113 [(.tmp 5), (.tmp 6)]),
  .op (.bin 8 .geq (.tmp 7) (.const (.int .i64 0))),
  .op (.mov 4 (.tmp 8)),
  .kp [4]]
def f82c1 : C := (.seq (.reg f82r1) .ret)
def f82c0 : C := (.seq (.reg f82r0) f82c1)
theorem f82cmp : cmpF Try.prog Try.f82 [.l [.o 0, .kp [0, 1]],
  .l [.o 0, .o 1, .o 2, .o 3, .o 4, .kp [4]]] = some (f82c0, [.tmp 4]) := by kernel_rfl
theorem f82ok {args : List Value} {h : Heap} {R : Value → Heap → Prop} (hn : args.length ≤ 9) (H : wC Try.prog f82c0 (endW [.tmp 4] R) (envOf 0 args) h) : CallsH Try.prog 82 args h R :=
  fn_ok2 Try.func82 f82cmp hn H
theorem f82cal : callable Try.prog 82 = true := by kernel_rfl
section
variable {Q : X → Env → Heap → Prop} {σ : Env} {h : Heap}
theorem f82c1_eq : wC Try.prog f82c1 Q σ h = (wL Try.prog none f82r1 0 (fun σ h => Q .ret σ h) σ h) := rfl
theorem f82c0_eq : wC Try.prog f82c0 Q σ h = (wL Try.prog none f82r0 0 (fun σ h => wC Try.prog f82c1 Q σ h) σ h) := rfl
end
/-! ### f113: slices.IndexFunc[[]antipode/api.Cell,antipode/api.Cell] -/
def f113r0 : List I := [.op (.mov 4 (.const (.int .i64 0))),
  .kp [0, 1]]
def f113r1 : List I := [.op (.mov 6 (.tmp 0)),
  .op (.len 7 true (.tmp 6)),
  .op (.mov 8 (.const (.int .i64 0))),
  .kp [0, 1, 7, 8]]
def f113r2 : List I := [.op (.bin 9 .lss (.tmp 8) (.tmp 7)),
  .kp [0, 1, 7, 8, 9]]
def f113r3 : List I := [.op (.mov 10 (.tmp 8)),
  .op (.mov 5 (.tmp 10)),
  .kp [0, 1, 5, 7, 8]]
def f113r4 : List I := [.op (.mov 11 (.tmp 1)),
  .op (.mov 12 (.tmp 0)),
  .op (.mov 13 (.tmp 5)),
  .op (.iad 14 12 (.tmp 12) (.tmp 13)),
  .op (.ld 15 (some 12) (.tmp 14)),
  .op (.cav (some 16) (.tmp 11) [(.tmp 15)]),
  .kp [0, 1, 5, 7, 8, 16]]
def f113r5 : List I := [.op (.mov 17 (.tmp 5)),
  .op (.mov 4 (.tmp 17)),
  .kp [4]]
def f113r6 : List I := [.op (.bin 18 .add (.tmp 8) (.const (.int .i64 1))),
  .op (.mov 8 (.tmp 18)),
  .kp [0, 1, 7, 8]]
def f113r7 : List I := [.op (.mov 4 (.const (.int .i64 (-1)))),
  .kp [4]]
def f113c9 : C := (.seq (.reg f113r5) .ret)
def f113c8 : C := (.cond (.tmp 16) f113c9 .skip)
def f113c7 : C := (.seq (.reg f113r4) f113c8)
def f113c6 : C := (.seq (.reg f113r3) f113c7)
def f113c10 : C := (.reg f113r6)
def f113c5 : C := (.seq (.block 1 f113c6) f113c10)
def f113c4 : C := (.seq (.cond (.tmp 9) .skip (.exit 0)) f113c5)
def f113c3 : C := (.seq (.reg f113r2) f113c4)
def f113c11 : C := (.seq (.reg f113r7) .ret)
def f113c2 : C := (.seq (.block 0 (.loop f113c3)) f113c11)
def f113c1 : C := (.seq (.reg f113r1) f113c2)
def f113c0 : C := (.seq (.reg f113r0) f113c1)
theorem f113cmp : cmpF Try.prog Try.f113 [.l [.o 0, .kp [0, 1]],
  .l [.o 0, .o 1, .o 2, .kp [0, 1, 7, 8]],
  .l [.o 0, .kp [0, 1, 7, 8, 9]],
  .l [.o 0, .o 1, .kp [0, 1, 5, 7, 8]],
  .l [.o 0, .o 1, .o 2, .o 3, .o 4, .o 5, .kp [0, 1, 5, 7, 8, 16]],
  .l [.o 0, .o 1, .kp [4]],
  .l [.o 0, .o 1, .kp [0, 1, 7, 8]],
  .l [.o 0, .kp [4]]] = some (f113c0, [.tmp 4]) := by kernel_rfl
theorem f113ok {args : List Value} {h : Heap} {R : Value → Heap → Prop} (hn : args.length ≤ 19) (H : wC Try.prog f113c0 (endW [.tmp 4] R) (envOf 0 args) h) : CallsH Try.prog 113 args h R :=
  fn_ok2 Try.func113 f113cmp hn H
theorem f113cal : callable Try.prog 113 = true := by kernel_rfl
section
variable {Q : X → Env → Heap → Prop} {σ : Env} {h : Heap}
theorem f113c9_eq : wC Try.prog f113c9 Q σ h = (wL Try.prog none f113r5 0 (fun σ h => Q .ret σ h) σ h) := rfl
theorem f113c8_eq : wC Try.prog f113c8 Q σ h = (bd (evO σ (.tmp 16)) fun v => bd (asB v) fun t => br t (wC Try.prog f113c9 Q σ h) (Q .normal σ h)) := rfl
theorem f113c7_eq : wC Try.prog f113c7 Q σ h = (wL Try.prog none f113r4 0 (fun σ h => wC Try.prog f113c8 Q σ h) σ h) := rfl
theorem f113c6_eq : wC Try.prog f113c6 Q σ h = (wL Try.prog none f113r3 0 (fun σ h => wC Try.prog f113c7 Q σ h) σ h) := rfl
theorem f113c10_eq : wC Try.prog f113c10 Q σ h = (wL Try.prog none f113r6 0 (fun σ h => Q .normal σ h) σ h) := rfl
theorem f113c5_eq : wC Try.prog f113c5 Q σ h = (wC Try.prog f113c6 (X.inBlock 1 (X.then (fun σ h => wC Try.prog f113c10 Q σ h) Q)) σ h) := rfl
theorem f113c4_eq : wC Try.prog f113c4 Q σ h = (bd (evO σ (.tmp 9)) fun v => bd (asB v) fun t => br t (wC Try.prog f113c5 Q σ h) (Q (.exit 0) σ h)) := rfl
theorem f113c3_eq : wC Try.prog f113c3 Q σ h = (wL Try.prog none f113r2 0 (fun σ h => wC Try.prog f113c4 Q σ h) σ h) := rfl
theorem f113c11_eq : wC Try.prog f113c11 Q σ h = (wL Try.prog none f113r7 0 (fun σ h => Q .ret σ h) σ h) := rfl
theorem f113c2_eq : wC Try.prog f113c2 Q σ h = (loopW (wC Try.prog f113c3) (X.inBlock 0 (X.then (fun σ h => wC Try.prog f113c11 Q σ h) Q)) σ h) := rfl
theorem f113c1_eq : wC Try.prog f113c1 Q σ h = (wL Try.prog none f113r1 0 (fun σ h => wC Try.prog f113c2 Q σ h) σ h) := rfl
theorem f113c0_eq : wC Try.prog f113c0 Q σ h = (wL Try.prog none f113r0 0 (fun σ h => wC Try.prog f113c1 Q σ h) σ h) := rfl
end
/-! ### f70: antipode/antipoderef8.Mine -/
def f70r0 : List I := [.op (.box 3 37 (.tmp 1)),
  .op (.mov 4 (.const (.bool false))),
  .kp [0, 3]]
def f70r1 : List I := [.op (.mov 5 (.const (.int .i64 0))),
  .kp [0, 3, 5]]
def f70r2 : List I := [.op (.mov 6 (.tmp 5)),
  .op (.mov 7 (.tmp 0)),
  .op (.len 8 true (.tmp 7)),
  .op (.bin 9 .lss (.tmp 6) (.tmp 8)),
  .kp [0, 3, 5, 9]]
def f70r3 : List I := [.op (.mov 12 (.tmp 0)),
  .op (.mov 13 (.tmp 5)),
  .op (.iad 14 12 (.tmp 12) (.tmp 13)),
  .op (.fad 15 2 (.tmp 14)),
  .op (.ld 16 none (.tmp 15)),
  .op (.mov 17 (.tmp 16)),
  .sc 17 true 8,
  .g 17 true (.mov 18 (.tmp 0)),
  .g 17 true (.mov 19 (.tmp 5)),
  .g 17 true (.iad 20 12 (.tmp 18) (.tmp 19)),
  .g 17 true (.fad 21 3 (.tmp 20)),
  .g 17 true (.fad 22 0 (.tmp 21)),
  .g 17 true (.ld 23 (some 4) (.tmp 22)),
  .g 17 true (.ld 24 (some 4) (.tmp 3)),
  .g 17 true (.eqa 25 false [.i .i64, .i .i64, .i .i64, .i .i64] (.tmp 23) (.tmp 24)),
  .op (.pick 26 (.tmp 17) (.tmp 25) (.const (.bool false))),
  .kp [0, 3, 5, 26]]
def f70r4 : List I := [.op (.mov 4 (.const (.bool true))),
  .kp [4]]
def f70r5 : List I := [.op (.mov 10 (.tmp 5)),
  .op (.bin 11 .add (.tmp 10) (.const (.int .i64 1))),
  .op (.mov 5 (.tmp 11)),
  .kp [0, 3, 5]]
def f70r6 : List I := [.op (.mov 4 (.const (.bool false))),
  .kp [4]]
def f70c8 : C := (.seq (.reg f70r4) .ret)
def f70c7 : C := (.cond (.tmp 26) f70c8 .skip)
def f70c6 : C := (.seq (.drw f70r3) f70c7)
def f70c9 : C := (.reg f70r5)
def f70c5 : C := (.seq (.block 1 f70c6) f70c9)
def f70c4 : C := (.seq (.cond (.tmp 9) .skip (.exit 0)) f70c5)
def f70c3 : C := (.seq (.reg f70r2) f70c4)
def f70c10 : C := (.seq (.reg f70r6) .ret)
def f70c2 : C := (.seq (.block 0 (.loop f70c3)) f70c10)
def f70c1 : C := (.seq (.reg f70r1) f70c2)
def f70c0 : C := (.seq (.reg f70r0) f70c1)
theorem f70cmp : cmpF Try.prog Try.f70 [.l [.o 0, .o 1, .kp [0, 3]],
  .l [.o 0, .kp [0, 3, 5]],
  .l [.o 0, .o 1, .o 2, .o 3, .kp [0, 3, 5, 9]],
  .l [.o 0, .o 1, .o 2, .o 3, .o 4, .o 5, .sc 17 true 8, .o 6, .o 7, .o 8, .o 9, .o 10, .o 11, .o 12, .o 13, .o 14, .kp [0, 3, 5, 26]],
  .l [.o 0, .kp [4]],
  .l [.o 0, .o 1, .o 2, .kp [0, 3, 5]],
  .l [.o 0, .kp [4]]] = some (f70c0, [.tmp 4]) := by kernel_rfl
theorem f70ok {args : List Value} {h : Heap} {R : Value → Heap → Prop} (hn : args.length ≤ 27) (H : wC Try.prog f70c0 (endW [.tmp 4] R) (envOf 0 args) h) : CallsH Try.prog 70 args h R :=
  fn_ok2 Try.func70 f70cmp hn H
theorem f70cal : callable Try.prog 70 = true := by kernel_rfl
section
variable {Q : X → Env → Heap → Prop} {σ : Env} {h : Heap}
theorem f70c8_eq : wC Try.prog f70c8 Q σ h = (wL Try.prog none f70r4 0 (fun σ h => Q .ret σ h) σ h) := rfl
theorem f70c7_eq : wC Try.prog f70c7 Q σ h = (bd (evO σ (.tmp 26)) fun v => bd (asB v) fun t => br t (wC Try.prog f70c8 Q σ h) (Q .normal σ h)) := rfl
theorem f70c6_eq : wC Try.prog f70c6 Q σ h = (drwW Try.prog f70r3 (fun σ h => wC Try.prog f70c7 Q σ h) σ h) := rfl
theorem f70c9_eq : wC Try.prog f70c9 Q σ h = (wL Try.prog none f70r5 0 (fun σ h => Q .normal σ h) σ h) := rfl
theorem f70c5_eq : wC Try.prog f70c5 Q σ h = (wC Try.prog f70c6 (X.inBlock 1 (X.then (fun σ h => wC Try.prog f70c9 Q σ h) Q)) σ h) := rfl
theorem f70c4_eq : wC Try.prog f70c4 Q σ h = (bd (evO σ (.tmp 9)) fun v => bd (asB v) fun t => br t (wC Try.prog f70c5 Q σ h) (Q (.exit 0) σ h)) := rfl
theorem f70c3_eq : wC Try.prog f70c3 Q σ h = (wL Try.prog none f70r2 0 (fun σ h => wC Try.prog f70c4 Q σ h) σ h) := rfl
theorem f70c10_eq : wC Try.prog f70c10 Q σ h = (wL Try.prog none f70r6 0 (fun σ h => Q .ret σ h) σ h) := rfl
theorem f70c2_eq : wC Try.prog f70c2 Q σ h = (loopW (wC Try.prog f70c3) (X.inBlock 0 (X.then (fun σ h => wC Try.prog f70c10 Q σ h) Q)) σ h) := rfl
theorem f70c1_eq : wC Try.prog f70c1 Q σ h = (wL Try.prog none f70r1 0 (fun σ h => wC Try.prog f70c2 Q σ h) σ h) := rfl
theorem f70c0_eq : wC Try.prog f70c0 Q σ h = (wL Try.prog none f70r0 0 (fun σ h => wC Try.prog f70c1 Q σ h) σ h) := rfl
end
end Go.Proofs.Ytefghfgmkndikaa
