/-
  By a program of mine (wip/tools/gen.py): the code of functions of the seat in the small instruction language, and that it is their code.
-/
import Derived.Test.YtefghfgmkndikaaFM
import Derived.Test.YtefghfgmkndikaaProg
set_option linter.unusedSimpArgs false
set_option linter.unusedVariables false
namespace Go.Proofs.Ytefghfgmkndikaa
open Go.AX
set_option maxRecDepth 100000
/-! ### f41: antipode/mvcc.Get -/
def f41r0 : List I := [.op (.box 5 39 (.tmp 2)),
  .op (.mov 6 (.const (.string ⟨#[]⟩))),
  .op (.mov 7 (.const (.bool false))),
  .kp [0, 1, 5]]
def f41r1 : List I := [.op (.mov 11 (.tmp 0)),
  .op (.mov 12 (.tmp 1)),
  .op (.call (some 13) 87 [(.tmp 11), (.tmp 12)]),
  .op (.mov 10 (.tmp 13)),
  .op (.ext 14 (.tmp 10) 0),
  .op (.ext 15 (.tmp 10) 1),
  .op (.mov 8 (.tmp 14)),
  .op (.mov 9 (.tmp 15)),
  .kp [0, 5, 8, 9]]
def f41r2 : List I := [.op (.mov 16 (.tmp 9)),
  .op (.un 17 .not (.tmp 16)),
  .kp [0, 5, 8, 17]]
def f41r3 : List I := [.op (.mov 6 (.const (.string ⟨#[]⟩))),
  .op (.mov 7 (.const (.bool false))),
  .kp [6, 7]]
def f41r4 : List I := [.op (.mov 18 (.tmp 0)),
  .op (.mov 19 (.tmp 8)),
  .op (.iad 20 12 (.tmp 18) (.tmp 19)),
  .op (.ld 21 (some 12) (.tmp 20)),
  .op (.ld 22 (some 2) (.tmp 5)),
  .op (.call (some 23) 89 [(.tmp 21), (.tmp 22)]),
  .op (.ext 24 (.tmp 23) 0),
  .op (.ext 25 (.tmp 23) 1),
  .op (.mov 6 (.tmp 24)),
  .op (.mov 7 (.tmp 25)),
  .kp [6, 7]]
def f41c4 : C := (.seq (.reg f41r3) .ret)
def f41c5 : C := (.seq (.drw f41r4) .ret)
def f41c3 : C := (.seq (.cond (.tmp 17) f41c4 .skip) f41c5)
def f41c2 : C := (.seq (.reg f41r2) f41c3)
def f41c1 : C := (.seq (.reg f41r1) f41c2)
def f41c0 : C := (.seq (.reg f41r0) f41c1)
theorem f41cmp : cmpF Try.prog Try.f41 [.l [.o 0, .o 1, .o 2, .kp [0, 1, 5]],
  .l [.o 0, .o 1, .o 2, .o 3, .o 4, .o 5, .o 6, .o 7, .kp [0, 5, 8, 9]],
  .l [.o 0, .o 1, .kp [0, 5, 8, 17]],
  .l [.o 0, .o 1, .kp [6, 7]],
  .l [.o 0, .o 1, .o 2, .o 3, .o 4, .o 5, .o 6, .o 7, .o 8, .o 9, .kp [6, 7]]] = some (f41c0, [.tmp 6, .tmp 7]) := by kernel_rfl
theorem f41ok {args : List Value} {h : Heap} {R : Value → Heap → Prop} (hn : args.length ≤ 26) (H : wC Try.prog f41c0 (endW [.tmp 6, .tmp 7] R) (envOf 0 args) h) : CallsH Try.prog 41 args h R :=
  fn_ok2 Try.func41 f41cmp hn H
theorem f41cal : callable Try.prog 41 = true := by kernel_rfl
section
variable {Q : X → Env → Heap → Prop} {σ : Env} {h : Heap}
theorem f41c4_eq : wC Try.prog f41c4 Q σ h = (wL Try.prog none f41r3 0 (fun σ h => Q .ret σ h) σ h) := rfl
theorem f41c5_eq : wC Try.prog f41c5 Q σ h = (drwW Try.prog f41r4 (fun σ h => Q .ret σ h) σ h) := rfl
theorem f41c3_eq : wC Try.prog f41c3 Q σ h = (bd (evO σ (.tmp 17)) fun v => bd (asB v) fun t => br t (wC Try.prog f41c4 (X.then (fun σ h => wC Try.prog f41c5 Q σ h) Q) σ h) (wC Try.prog f41c5 Q σ h)) := rfl
theorem f41c2_eq : wC Try.prog f41c2 Q σ h = (wL Try.prog none f41r2 0 (fun σ h => wC Try.prog f41c3 Q σ h) σ h) := rfl
theorem f41c1_eq : wC Try.prog f41c1 Q σ h = (wL Try.prog none f41r1 0 (fun σ h => wC Try.prog f41c2 Q σ h) σ h) := rfl
theorem f41c0_eq : wC Try.prog f41c0 Q σ h = (wL Try.prog none f41r0 0 (fun σ h => wC Try.prog f41c1 Q σ h) σ h) := rfl
end
/-! ### f72: antipode/antipoderef8.Get -/
def f72r0 : List I := [.op (.box 5 39 (.tmp 2)),
  .op (.mov 6 (.const (.string ⟨#[]⟩))),
  .op (.mov 7 (.const (.bool false))),
  .kp [0, 1, 5]]
def f72r1 : List I := [.op (.mov 9 (.tmp 0)),
  .op (.mov 10 (.tmp 1)),
  .op (.call (some 11) 108 [(.tmp 9), (.tmp 10)]),
  .op (.mov 8 (.tmp 11)),
  .kp [0, 5, 8]]
def f72r2 : List I := [.op (.mov 12 (.tmp 8)),
  .op (.bin 13 .lss (.tmp 12) (.const (.int .i64 0))),
  .kp [0, 5, 8, 13]]
def f72r3 : List I := [.op (.mov 6 (.const (.string ⟨#[]⟩))),
  .op (.mov 7 (.const (.bool false))),
  .kp [6, 7]]
def f72r4 : List I := [.op (.mov 14 (.tmp 0)),
  .op (.mov 15 (.tmp 8)),
  .op (.iad 16 12 (.tmp 14) (.tmp 15)),
  .op (.ld 17 (some 12) (.tmp 16)),
  .op (.ld 18 (some 2) (.tmp 5)),
  .op (.call (some 19) 107 [(.tmp 17), (.tmp 18)]),
  .op (.ext 20 (.tmp 19) 0),
  .op (.ext 21 (.tmp 19) 1),
  .op (.mov 6 (.tmp 20)),
  .op (.mov 7 (.tmp 21)),
  .kp [6, 7]]
def f72c4 : C := (.seq (.reg f72r3) .ret)
def f72c5 : C := (.seq (.drw f72r4) .ret)
def f72c3 : C := (.seq (.cond (.tmp 13) f72c4 .skip) f72c5)
def f72c2 : C := (.seq (.reg f72r2) f72c3)
def f72c1 : C := (.seq (.reg f72r1) f72c2)
def f72c0 : C := (.seq (.reg f72r0) f72c1)
theorem f72cmp : cmpF Try.prog Try.f72 [.l [.o 0, .o 1, .o 2, .kp [0, 1, 5]],
  .l [.o 0, .o 1, .o 2, .o 3, .kp [0, 5, 8]],
  .l [.o 0, .o 1, .kp [0, 5, 8, 13]],
  .l [.o 0, .o 1, .kp [6, 7]],
  .l [.o 0, .o 1, .o 2, .o 3, .o 4, .o 5, .o 6, .o 7, .o 8, .o 9, .kp [6, 7]]] = some (f72c0, [.tmp 6, .tmp 7]) := by kernel_rfl
theorem f72ok {args : List Value} {h : Heap} {R : Value → Heap → Prop} (hn : args.length ≤ 22) (H : wC Try.prog f72c0 (endW [.tmp 6, .tmp 7] R) (envOf 0 args) h) : CallsH Try.prog 72 args h R :=
  fn_ok2 Try.func72 f72cmp hn H
theorem f72cal : callable Try.prog 72 = true := by kernel_rfl
section
variable {Q : X → Env → Heap → Prop} {σ : Env} {h : Heap}
theorem f72c4_eq : wC Try.prog f72c4 Q σ h = (wL Try.prog none f72r3 0 (fun σ h => Q .ret σ h) σ h) := rfl
theorem f72c5_eq : wC Try.prog f72c5 Q σ h = (drwW Try.prog f72r4 (fun σ h => Q .ret σ h) σ h) := rfl
theorem f72c3_eq : wC Try.prog f72c3 Q σ h = (bd (evO σ (.tmp 13)) fun v => bd (asB v) fun t => br t (wC Try.prog f72c4 (X.then (fun σ h => wC Try.prog f72c5 Q σ h) Q) σ h) (wC Try.prog f72c5 Q σ h)) := rfl
theorem f72c2_eq : wC Try.prog f72c2 Q σ h = (wL Try.prog none f72r2 0 (fun σ h => wC Try.prog f72c3 Q σ h) σ h) := rfl
theorem f72c1_eq : wC Try.prog f72c1 Q σ h = (wL Try.prog none f72r1 0 (fun σ h => wC Try.prog f72c2 Q σ h) σ h) := rfl
theorem f72c0_eq : wC Try.prog f72c0 Q σ h = (wL Try.prog none f72r0 0 (fun σ h => wC Try.prog f72c1 Q σ h) σ h) := rfl
end
/-! ### f38: antipode/mvcc.Mine -/
def f38r0 : List I := [.op (.box 3 37 (.tmp 1)),
  .op (.mov 4 (.const (.bool false))),
  .kp [0, 3]]
def f38r1 : List I := [.op (.mov 5 (.tmp 0)),
  .op (.fn 6 83 [(.tmp 3)]),
  .op (.call (some 7) 82 [(.tmp 5), (.tmp 6)]),
  .op (.mov 4 (.tmp 7)),
  .kp [4]]
def f38c1 : C := (.seq (.reg f38r1) .ret)
def f38c0 : C := (.seq (.reg f38r0) f38c1)
theorem f38cmp : cmpF Try.prog Try.f38 [.l [.o 0, .o 1, .kp [0, 3]],
  .l [.o 0, .o 1, .o 2, .o 3, .kp [4]]] = some (f38c0, [.tmp 4]) := by kernel_rfl
theorem f38ok {args : List Value} {h : Heap} {R : Value → Heap → Prop} (hn : args.length ≤ 8) (H : wC Try.prog f38c0 (endW [.tmp 4] R) (envOf 0 args) h) : CallsH Try.prog 38 args h R :=
  fn_ok2 Try.func38 f38cmp hn H
theorem f38cal : callable Try.prog 38 = true := by kernel_rfl
section
variable {Q : X → Env → Heap → Prop} {σ : Env} {h : Heap}
theorem f38c1_eq : wC Try.prog f38c1 Q σ h = (wL Try.prog none f38r1 0 (fun σ h => Q .ret σ h) σ h) := rfl
theorem f38c0_eq : wC Try.prog f38c0 Q σ h = (wL Try.prog none f38r0 0 (fun σ h => wC Try.prog f38c1 Q σ h) σ h) := rfl
end
/-! ### f83: antipode/mvcc.Mine$1 -/
def f83r0 : List I := [.op (.box 2 103 (.tmp 0)),
  .op (.mov 3 (.const (.bool false))),
  .kp [1, 2]]
def f83r1 : List I := [.op (.fad 4 2 (.tmp 2)),
  .op (.ld 5 none (.tmp 4)),
  .op (.mov 6 (.tmp 5)),
  .sc 6 true 5,
  .g 6 true (.fad 7 3 (.tmp 2)),
  .g 6 true (.fad 8 0 (.tmp 7)),
  .g 6 true (.ld 9 (some 4) (.tmp 8)),
  .g 6 true (.ld 10 (some 4) (.tmp 1)),
  .g 6 true (.eqa 11 false [.i .i64, .i .i64, .i .i64, .i .i64] (.tmp 9) (.tmp 10)),
  .op (.pick 12 (.tmp 6) (.tmp 11) (.const (.bool false))),
  .op (.mov 3 (.tmp 12)),
  .kp [3]]
def f83c1 : C := (.seq (.reg f83r1) .ret)
def f83c0 : C := (.seq (.reg f83r0) f83c1)
theorem f83cmp : cmpF Try.prog Try.f83 [.l [.o 0, .o 1, .kp [1, 2]],
  .l [.o 0, .o 1, .o 2, .sc 6 true 5, .o 3, .o 4, .o 5, .o 6, .o 7, .o 8, .o 9, .kp [3]]] = some (f83c0, [.tmp 3]) := by kernel_rfl
theorem f83ok {args : List Value} {h : Heap} {R : Value → Heap → Prop} (hn : args.length ≤ 13) (H : wC Try.prog f83c0 (endW [.tmp 3] R) (envOf 0 args) h) : CallsH Try.prog 83 args h R :=
  fn_ok2 Try.func83 f83cmp hn H
theorem f83cal : callable Try.prog 83 = true := by kernel_rfl
section
variable {Q : X → Env → Heap → Prop} {σ : Env} {h : Heap}
theorem f83c1_eq : wC Try.prog f83c1 Q σ h = (wL Try.prog none f83r1 0 (fun σ h => Q .ret σ h) σ h) := rfl
theorem f83c0_eq : wC Try.prog f83c0 Q σ h = (wL Try.prog none f83r0 0 (fun σ h => wC Try.prog f83c1 Q σ h) σ h) := rfl
end
/-! ### f82: slices.ContainsFunc[[]antipode/api.Cell,antipode/api.Cell] -/
def f82r0 : List I := [.op (.mov 4 (.const (.bool false))),
  .kp [0, 1]]
def f82r1 : List I := [.op (.mov 5 (.tmp 0)),
  .op (.mov 6 (.tmp 1)),
  .op (.call (some 7) 113 [(.tmp 5), (.tmp 6)]),
  .op (.bin 8 .geq (.tmp 7) (.const (.int .i64 0))),
  .op (.mov 4 (.tmp 8)),
  .kp [4]]
def f82c1 : C := (.seq (.reg f82r1) .ret)
def f82c0 : C := (.seq (.reg f82r0) f82c1)
theorem f82cmp : cmpF Try.prog Try.f82 [.l [.o 0, .kp [0, 1]],
  .l [.o 0, .o 1, .o 2, .o 3, .o 4, .kp [4]]] = some (f82c0, [.tmp 4]) := by kernel_rfl
theorem f82ok {args : List Value} {h : Heap} {R : Value → Heap → Prop} (hn : args.length ≤ 9) (H : wC Try.prog f82c0 (endW [.tmp 4] R) (envOf 0 args) h) : CallsH Try.prog 82 args h R :=
  fn_ok2 Try.func82 f82cmp hn H
theorem f82cal : callable Try.prog 82 = true := by kernel_rfl
section
variable {Q : X → Env → Heap → Prop} {σ : Env} {h : Heap}
theorem f82c1_eq : wC Try.prog f82c1 Q σ h = (wL Try.prog none f82r1 0 (fun σ h => Q .ret σ h) σ h) := rfl
theorem f82c0_eq : wC Try.prog f82c0 Q σ h = (wL Try.prog none f82r0 0 (fun σ h => wC Try.prog f82c1 Q σ h) σ h) := rfl
end
/-! ### f113: slices.IndexFunc[[]antipode/api.Cell,antipode/api.Cell] -/
def f113r0 : List I := [.op (.mov 4 (.const (.int .i64 0))),
  .kp [0, 1]]
def f113r1 : List I := [.op (.mov 6 (.tmp 0)),
  .op (.len 7 true (.tmp 6)),
  .op (.mov 8 (.const (.int .i64 0))),
  .kp [0, 1, 7, 8]]
def f113r2 : List I := [.op (.bin 9 .lss (.tmp 8) (.tmp 7)),
  .kp [0, 1, 7, 8, 9]]
def f113r3 : List I := [.op (.mov 10 (.tmp 8)),
  .op (.mov 5 (.tmp 10)),
  .kp [0, 1, 5, 7, 8]]
def f113r4 : List I := [.op (.mov 11 (.tmp 1)),
  .op (.mov 12 (.tmp 0)),
  .op (.mov 13 (.tmp 5)),
  .op (.iad 14 12 (.tmp 12) (.tmp 13)),
  .op (.ld 15 (some 12) (.tmp 14)),
  .op (.cav (some 16) (.tmp 11) [(.tmp 15)]),
  .kp [0, 1, 5, 7, 8, 16]]
def f113r5 : List I := [.op (.mov 17 (.tmp 5)),
  .op (.mov 4 (.tmp 17)),
  .kp [4]]
def f113r6 : List I := [.op (.bin 18 .add (.tmp 8) (.const (.int .i64 1))),
  .op (.mov 8 (.tmp 18)),
  .kp [0, 1, 7, 8]]
def f113r7 : List I := [.op (.mov 4 (.const (.int .i64 (-1)))),
  .kp [4]]
def f113c9 : C := (.seq (.reg f113r5) .ret)
def f113c8 : C := (.cond (.tmp 16) f113c9 .skip)
def f113c7 : C := (.seq (.reg f113r4) f113c8)
def f113c6 : C := (.seq (.reg f113r3) f113c7)
def f113c10 : C := (.reg f113r6)
def f113c5 : C := (.seq (.block 1 f113c6) f113c10)
def f113c4 : C := (.seq (.cond (.tmp 9) .skip (.exit 0)) f113c5)
def f113c3 : C := (.seq (.reg f113r2) f113c4)
def f113c11 : C := (.seq (.reg f113r7) .ret)
def f113c2 : C := (.seq (.block 0 (.loop f113c3)) f113c11)
def f113c1 : C := (.seq (.reg f113r1) f113c2)
def f113c0 : C := (.seq (.reg f113r0) f113c1)
theorem f113cmp : cmpF Try.prog Try.f113 [.l [.o 0, .kp [0, 1]],
  .l [.o 0, .o 1, .o 2, .kp [0, 1, 7, 8]],
  .l [.o 0, .kp [0, 1, 7, 8, 9]],
  .l [.o 0, .o 1, .kp [0, 1, 5, 7, 8]],
  .l [.o 0, .o 1, .o 2, .o 3, .o 4, .o 5, .kp [0, 1, 5, 7, 8, 16]],
  .l [.o 0, .o 1, .kp [4]],
  .l [.o 0, .o 1, .kp [0, 1, 7, 8]],
  .l [.o 0, .kp [4]]] = some (f113c0, [.tmp 4]) := by kernel_rfl
theorem f113ok {args : List Value} {h : Heap} {R : Value → Heap → Prop} (hn : args.length ≤ 19) (H : wC Try.prog f113c0 (endW [.tmp 4] R) (envOf 0 args) h) : CallsH Try.prog 113 args h R :=
  fn_ok2 Try.func113 f113cmp hn H
theorem f113cal : callable Try.prog 113 = true := by kernel_rfl
section
variable {Q : X → Env → Heap → Prop} {σ : Env} {h : Heap}
theorem f113c9_eq : wC Try.prog f113c9 Q σ h = (wL Try.prog none f113r5 0 (fun σ h => Q .ret σ h) σ h) := rfl
theorem f113c8_eq : wC Try.prog f113c8 Q σ h = (bd (evO σ (.tmp 16)) fun v => bd (asB v) fun t => br t (wC Try.prog f113c9 Q σ h) (Q .normal σ h)) := rfl
theorem f113c7_eq : wC Try.prog f113c7 Q σ h = (wL Try.prog none f113r4 0 (fun σ h => wC Try.prog f113c8 Q σ h) σ h) := rfl
theorem f113c6_eq : wC Try.prog f113c6 Q σ h = (wL Try.prog none f113r3 0 (fun σ h => wC Try.prog f113c7 Q σ h) σ h) := rfl
theorem f113c10_eq : wC Try.prog f113c10 Q σ h = (wL Try.prog none f113r6 0 (fun σ h => Q .normal σ h) σ h) := rfl
theorem f113c5_eq : wC Try.prog f113c5 Q σ h = (wC Try.prog f113c6 (X.inBlock 1 (X.then (fun σ h => wC Try.prog f113c10 Q σ h) Q)) σ h) := rfl
theorem f113c4_eq : wC Try.prog f113c4 Q σ h = (bd (evO σ (.tmp 9)) fun v => bd (asB v) fun t => br t (wC Try.prog f113c5 Q σ h) (Q (.exit 0) σ h)) := rfl
theorem f113c3_eq : wC Try.prog f113c3 Q σ h = (wL Try.prog none f113r2 0 (fun σ h => wC Try.prog f113c4 Q σ h) σ h) := rfl
theorem f113c11_eq : wC Try.prog f113c11 Q σ h = (wL Try.prog none f113r7 0 (fun σ h => Q .ret σ h) σ h) := rfl
theorem f113c2_eq : wC Try.prog f113c2 Q σ h = (loopW (wC Try.prog f113c3) (X.inBlock 0 (X.then (fun σ h => wC Try.prog f113c11 Q σ h) Q)) σ h) := rfl
theorem f113c1_eq : wC Try.prog f113c1 Q σ h = (wL Try.prog none f113r1 0 (fun σ h => wC Try.prog f113c2 Q σ h) σ h) := rfl
theorem f113c0_eq : wC Try.prog f113c0 Q σ h = (wL Try.prog none f113r0 0 (fun σ h => wC Try.prog f113c1 Q σ h) σ h) := rfl
end
end Go.Proofs.Ytefghfgmkndikaa
