/-
  By a program of mine (wip/tools/gen.py): the code of functions of the seat in the small instruction language, and that it is their code.
-/
import Derived.Test.YtefghfgmkndikaaFM
import Derived.Test.YtefghfgmkndikaaProg
set_option linter.unusedSimpArgs false
set_option linter.unusedVariables false
namespace Go.Proofs.Ytefghfgmkndikaa
open Go.AX
set_option maxRecDepth 100000
/-! ### f92: antipode/mvcc.within -/
def f92r0 : List I := [.op (.box 3 94 (.tmp 1)),
  .op (.mov 4 (.const (.slice none 0 0))),
  .kp [0, 3]]
def f92r1 : List I := [.op (.fad 9 1 (.tmp 3)),
  .op (.ld 10 none (.tmp 9)),
  .op (.fad 11 0 (.tmp 3)),
  .op (.ld 12 none (.tmp 11)),
  .op (.bin 13 .leq (.tmp 10) (.tmp 12)),
  .kp [0, 3, 13]]
def f92r2 : List I := [.op (.mov 4 (.const (.slice none 0 0))),
  .kp [4]]
def f92r3 : List I := [.op (.mov 15 (.tmp 0)),
  .op (.fad 16 0 (.tmp 3)),
  .op (.ld 17 none (.tmp 16)),
  .op (.call (some 18) 87 [(.tmp 15), (.tmp 17)]),
  .op (.mov 14 (.tmp 18)),
  .op (.ext 19 (.tmp 14) 0),
  .op (.ext 20 (.tmp 14) 1),
  .op (.mov 5 (.tmp 19)),
  .op (.mov 6 (.tmp 20)),
  .kp [0, 3, 5]]
def f92r4 : List I := [.op (.mov 22 (.tmp 0)),
  .op (.fad 23 1 (.tmp 3)),
  .op (.ld 24 none (.tmp 23)),
  .op (.call (some 25) 87 [(.tmp 22), (.tmp 24)]),
  .op (.mov 21 (.tmp 25)),
  .op (.ext 26 (.tmp 21) 0),
  .op (.ext 27 (.tmp 21) 1),
  .op (.mov 7 (.tmp 26)),
  .op (.mov 8 (.tmp 27)),
  .kp [0, 5, 7]]
def f92r5 : List I := [.op (.mov 28 (.tmp 0)),
  .op (.mov 29 (.tmp 5)),
  .op (.mov 30 (.tmp 7)),
  .op (.mov 31 (.tmp 5)),
  .op (.mm 32 true (.tmp 30) (.tmp 31)),
  .op (.slc 33 12 (.tmp 28) (some (.tmp 29)) (some (.tmp 32)) none),
  .op (.mov 4 (.tmp 33)),
  .kp [4]]
def f92c3 : C := (.seq (.reg f92r2) .ret)
def f92c6 : C := (.seq (.reg f92r5) .ret)
def f92c5 : C := (.seq (.reg f92r4) f92c6)
def f92c4 : C := (.seq (.reg f92r3) f92c5)
def f92c2 : C := (.seq (.cond (.tmp 13) f92c3 .skip) f92c4)
def f92c1 : C := (.seq (.reg f92r1) f92c2)
def f92c0 : C := (.seq (.reg f92r0) f92c1)
theorem f92cmp : cmpF Try.prog Try.f92 [.l [.o 0, .o 1, .kp [0, 3]],
  .l [.o 0, .o 1, .o 2, .o 3, .o 4, .kp [0, 3, 13]],
  .l [.o 0, .kp [4]],
  .l [.o 0, .o 1, .o 2, .o 3, .o 4, .o 5, .o 6, .o 7, .o 8, .kp [0, 3, 5]],
  .l [.o 0, .o 1, .o 2, .o 3, .o 4, .o 5, .o 6, .o 7, .o 8, .kp [0, 5, 7]],
  .l [.o 0, .o 1, .o 2, .o 3, .o 4, .o 5, .o 6, .kp [4]]] = some (f92c0, [.tmp 4]) := by kernel_rfl
theorem f92ok {args : List Value} {h : Heap} {R : Value → Heap → Prop} (hn : args.length ≤ 34) (H : wC Try.prog f92c0 (endW [.tmp 4] R) (envOf 0 args) h) : CallsH Try.prog 92 args h R :=
  fn_ok2 Try.func92 f92cmp hn H
theorem f92cal : callable Try.prog 92 = true := by kernel_rfl
section
variable {Q : X → Env → Heap → Prop} {σ : Env} {h : Heap}
theorem f92c3_eq : wC Try.prog f92c3 Q σ h = (wL Try.prog none f92r2 0 (fun σ h => Q .ret σ h) σ h) := rfl
theorem f92c6_eq : wC Try.prog f92c6 Q σ h = (wL Try.prog none f92r5 0 (fun σ h => Q .ret σ h) σ h) := rfl
theorem f92c5_eq : wC Try.prog f92c5 Q σ h = (wL Try.prog none f92r4 0 (fun σ h => wC Try.prog f92c6 Q σ h) σ h) := rfl
theorem f92c4_eq : wC Try.prog f92c4 Q σ h = (wL Try.prog none f92r3 0 (fun σ h => wC Try.prog f92c5 Q σ h) σ h) := rfl
theorem f92c2_eq : wC Try.prog f92c2 Q σ h = (bd (evO σ (.tmp 13)) fun v => bd (asB v) fun t => br t (wC Try.prog f92c3 (X.then (fun σ h => wC Try.prog f92c4 Q σ h) Q) σ h) (wC Try.prog f92c4 Q σ h)) := rfl
theorem f92c1_eq : wC Try.prog f92c1 Q σ h = (wL Try.prog none f92r1 0 (fun σ h => wC Try.prog f92c2 Q σ h) σ h) := rfl
theorem f92c0_eq : wC Try.prog f92c0 Q σ h = (wL Try.prog none f92r0 0 (fun σ h => wC Try.prog f92c1 Q σ h) σ h) := rfl
end
/-! ### f44: antipode/mvcc.Held -/
def f44r0 : List I := [.op (.new 4 72 [.int .i64 0, .int .i64 0, .int .i64 0, .int .i64 0, .int .i64 0, .int .i64 0, .int .i64 0, .bool false, .string ⟨#[]⟩]),
  .op (.mov 5 (.const (.bool false))),
  .kp [0, 1, 4]]
def f44r1 : List I := [.op (.mov 9 (.tmp 0)),
  .op (.mov 10 (.tmp 1)),
  .op (.call (some 11) 87 [(.tmp 9), (.tmp 10)]),
  .op (.mov 8 (.tmp 11)),
  .op (.ext 12 (.tmp 8) 0),
  .op (.ext 13 (.tmp 8) 1),
  .op (.mov 6 (.tmp 12)),
  .op (.mov 7 (.tmp 13)),
  .kp [0, 4, 6, 7]]
def f44r2 : List I := [.op (.mov 14 (.tmp 7)),
  .op (.un 15 .not (.tmp 14)),
  .op (.mov 16 (.tmp 15)),
  .sc 16 false 6,
  .g 16 false (.mov 17 (.tmp 0)),
  .g 16 false (.mov 18 (.tmp 6)),
  .g 16 false (.iad 19 12 (.tmp 17) (.tmp 18)),
  .g 16 false (.fad 20 2 (.tmp 19)),
  .g 16 false (.ld 21 none (.tmp 20)),
  .g 16 false (.un 22 .not (.tmp 21)),
  .op (.pick 23 (.tmp 16) (.const (.bool true)) (.tmp 22)),
  .kp [23, 0, 4, 6]]
def f44r3 : List I := [.op (.bld 24 [.int .i64 0, .int .i64 0, .int .i64 0, .int .i64 0, .int .i64 0, .int .i64 0, .int .i64 0, .bool false, .string ⟨#[]⟩] []),
  .op (.st 9 (.tmp 4) (.tmp 24)),
  .op (.mov 5 (.const (.bool false))),
  .kp [4, 5]]
def f44r4 : List I := [.op (.mov 25 (.tmp 0)),
  .op (.mov 26 (.tmp 6)),
  .op (.iad 27 12 (.tmp 25) (.tmp 26)),
  .op (.fad 28 3 (.tmp 27)),
  .op (.ld 29 (some 9) (.tmp 28)),
  .op (.st 9 (.tmp 4) (.tmp 29)),
  .op (.mov 5 (.const (.bool true))),
  .kp [4, 5]]
def f44c4 : C := (.seq (.reg f44r3) .ret)
def f44c5 : C := (.seq (.reg f44r4) .ret)
def f44c3 : C := (.seq (.cond (.tmp 23) f44c4 .skip) f44c5)
def f44c2 : C := (.seq (.reg f44r2) f44c3)
def f44c1 : C := (.seq (.reg f44r1) f44c2)
def f44c0 : C := (.seq (.reg f44r0) f44c1)
theorem f44cmp : cmpF Try.prog Try.f44 [.l [.o 0, .o 1, .kp [0, 1, 4]],
  .l [.o 0, .o 1, .o 2, .o 3, .o 4, .o 5, .o 6, .o 7, .kp [0, 4, 6, 7]],
  .l [.o 0, .o 1, .o 2, .sc 16 false 6, .o 3, .o 4, .o 5, .o 6, .o 7, .o 8, .o 9, .kp [23, 0, 4, 6]],
  .l [.o 0, .o 1, .o 2, .kp [4, 5]],
  .l [.o 0, .o 1, .o 2, .o 3, .o 4, .o 5, .o 6, .kp [4, 5]]] = some (f44c0, [.cell 4 9, .tmp 5]) := by kernel_rfl
theorem f44ok {args : List Value} {h : Heap} {R : Value → Heap → Prop} (hn : args.length ≤ 30) (H : wC Try.prog f44c0 (endW [.cell 4 9, .tmp 5] R) (envOf 0 args) h) : CallsH Try.prog 44 args h R :=
  fn_ok2 Try.func44 f44cmp hn H
theorem f44cal : callable Try.prog 44 = true := by kernel_rfl
section
variable {Q : X → Env → Heap → Prop} {σ : Env} {h : Heap}
theorem f44c4_eq : wC Try.prog f44c4 Q σ h = (wL Try.prog none f44r3 0 (fun σ h => Q .ret σ h) σ h) := rfl
theorem f44c5_eq : wC Try.prog f44c5 Q σ h = (wL Try.prog none f44r4 0 (fun σ h => Q .ret σ h) σ h) := rfl
theorem f44c3_eq : wC Try.prog f44c3 Q σ h = (bd (evO σ (.tmp 23)) fun v => bd (asB v) fun t => br t (wC Try.prog f44c4 (X.then (fun σ h => wC Try.prog f44c5 Q σ h) Q) σ h) (wC Try.prog f44c5 Q σ h)) := rfl
theorem f44c2_eq : wC Try.prog f44c2 Q σ h = (wL Try.prog none f44r2 0 (fun σ h => wC Try.prog f44c3 Q σ h) σ h) := rfl
theorem f44c1_eq : wC Try.prog f44c1 Q σ h = (wL Try.prog none f44r1 0 (fun σ h => wC Try.prog f44c2 Q σ h) σ h) := rfl
theorem f44c0_eq : wC Try.prog f44c0 Q σ h = (wL Try.prog none f44r0 0 (fun σ h => wC Try.prog f44c1 Q σ h) σ h) := rfl
end
/-! ### f47: antipode/mvcc.Scan -/
def f47r0 : List I := [.op (.box 5 94 (.tmp 1)),
  .op (.box 6 39 (.tmp 2)),
  .op (.mov 8 (.const (.slice none 0 0))),
  .op (.mov 9 (.const (.int .i64 0))),
  .kp [0, 3, 5, 6]]
def f47r1 : List I := [.op (.mov 10 (.const (.slice none 0 0))),
  .kp [0, 3, 5, 6, 10]]
def f47r2 : List I := [.op (.mov 15 (.tmp 0)),
  .op (.ld 16 (some 2) (.tmp 5)),
  .op (.call (some 17) 92 [(.tmp 15), (.tmp 16)]),
  .op (.len 18 true (.tmp 17)),
  .op (.mov 19 (.const (.int .i64 0))),
  .kp [3, 6, 10, 17, 18, 19]]
def f47r3 : List I := [.op (.bin 20 .lss (.tmp 19) (.tmp 18)),
  .kp [3, 6, 10, 17, 18, 19, 20]]
def f47r4 : List I := [.op (.iad 21 12 (.tmp 17) (.tmp 19)),
  .op (.ld 22 (some 12) (.tmp 21)),
  .op (.new 12 103 [.string ⟨#[]⟩, .slice none 0 0, .bool false, .int .i64 0, .int .i64 0, .int .i64 0, .int .i64 0, .int .i64 0, .int .i64 0, .int .i64 0, .bool false, .string ⟨#[]⟩]),
  .op (.st 12 (.tmp 12) (.tmp 22)),
  .kp [3, 6, 10, 12, 17, 18, 19]]
def f47r5 : List I := [.op (.ld 24 (some 12) (.tmp 12)),
  .op (.ld 25 (some 2) (.tmp 6)),
  .op (.call (some 26) 89 [(.tmp 24), (.tmp 25)]),
  .op (.mov 23 (.tmp 26)),
  .op (.ext 27 (.tmp 23) 0),
  .op (.ext 28 (.tmp 23) 1),
  .op (.mov 13 (.tmp 27)),
  .op (.mov 14 (.tmp 28)),
  .kp [3, 6, 10, 12, 13, 14, 17, 18, 19]]
def f47r6 : List I := [.op (.mov 29 (.tmp 14)),
  .op (.un 30 .not (.tmp 29)),
  .kp [3, 6, 10, 12, 13, 17, 18, 19, 30]]
def f47r7 : List I := [.op (.mov 31 (.tmp 10)),
  .op (.len 32 true (.tmp 31)),
  .op (.mov 33 (.tmp 3)),
  .op (.bin 34 .geq (.tmp 32) (.tmp 33)),
  .kp [3, 6, 10, 12, 13, 17, 18, 19, 34]]
def f47r8 : List I := [.op (.mov 8 (.const (.slice none 0 0))),
  .op (.mov 9 (.const (.int .i64 3))),
  .kp [8, 9]]
def f47r9 : List I := [.op (.mov 35 (.tmp 10)),
  .op (.fad 36 0 (.tmp 12)),
  .op (.ld 37 none (.tmp 36)),
  .op (.mov 38 (.tmp 13)),
  .op (.bld 39 [.string ⟨#[]⟩, .string ⟨#[]⟩] [(0, 1, (.tmp 37)), (1, 1, (.tmp 38))]),
  .op (.bsl 40 99 1 [.string ⟨#[]⟩, .string ⟨#[]⟩] [(0, 2, (.tmp 39))]),
  .op (.raw (some 41) ⟨(some 41), (.call ⟨(.builtin .append), #[(.tmp 35), (.tmp 40)], #[45, 45]⟩), 45, "mvcc.go:91", #[⟨0, .data⟩, ⟨5, .data⟩], none⟩),
  .op (.mov 10 (.tmp 41)),
  .kp [3, 6, 10, 17, 18, 19]]
def f47r10 : List I := [.op (.bin 42 .add (.tmp 19) (.const (.int .i64 1))),
  .op (.mov 19 (.tmp 42)),
  .kp [3, 6, 10, 17, 18, 19]]
def f47r11 : List I := [.op (.mov 43 (.tmp 10)),
  .op (.mov 8 (.tmp 43)),
  .op (.mov 9 (.const (.int .i64 0))),
  .kp [8, 9]]
def f47c13 : C := (.seq (.reg f47r8) .ret)
def f47c14 : C := (.reg f47r9)
def f47c12 : C := (.seq (.cond (.tmp 34) f47c13 .skip) f47c14)
def f47c11 : C := (.seq (.reg f47r7) f47c12)
def f47c10 : C := (.seq (.cond (.tmp 30) (.exit 1) .skip) f47c11)
def f47c9 : C := (.seq (.reg f47r6) f47c10)
def f47c8 : C := (.seq (.reg f47r5) f47c9)
def f47c7 : C := (.seq (.reg f47r4) f47c8)
def f47c15 : C := (.reg f47r10)
def f47c6 : C := (.seq (.block 1 f47c7) f47c15)
def f47c5 : C := (.seq (.cond (.tmp 20) .skip (.exit 0)) f47c6)
def f47c4 : C := (.seq (.reg f47r3) f47c5)
def f47c16 : C := (.seq (.reg f47r11) .ret)
def f47c3 : C := (.seq (.block 0 (.loop f47c4)) f47c16)
def f47c2 : C := (.seq (.reg f47r2) f47c3)
def f47c1 : C := (.seq (.reg f47r1) f47c2)
def f47c0 : C := (.seq (.reg f47r0) f47c1)
theorem f47cmp : cmpF Try.prog Try.f47 [.l [.o 0, .o 1, .o 2, .o 3, .kp [0, 3, 5, 6]],
  .l [.o 0, .kp [0, 3, 5, 6, 10]],
  .l [.o 0, .o 1, .o 2, .o 3, .o 4, .kp [3, 6, 10, 17, 18, 19]],
  .l [.o 0, .kp [3, 6, 10, 17, 18, 19, 20]],
  .l [.o 0, .o 1, .o 2, .o 3, .kp [3, 6, 10, 12, 17, 18, 19]],
  .l [.o 0, .o 1, .o 2, .o 3, .o 4, .o 5, .o 6, .o 7, .kp [3, 6, 10, 12, 13, 14, 17, 18, 19]],
  .l [.o 0, .o 1, .kp [3, 6, 10, 12, 13, 17, 18, 19, 30]],
  .l [.o 0, .o 1, .o 2, .o 3, .kp [3, 6, 10, 12, 13, 17, 18, 19, 34]],
  .l [.o 0, .o 1, .kp [8, 9]],
  .l [.o 0, .o 1, .o 2, .o 3, .o 4, .o 5, .o 6, .o 7, .kp [3, 6, 10, 17, 18, 19]],
  .l [.o 0, .o 1, .kp [3, 6, 10, 17, 18, 19]],
  .l [.o 0, .o 1, .o 2, .kp [8, 9]]] = some (f47c0, [.tmp 8, .tmp 9]) := by kernel_rfl
theorem f47ok {args : List Value} {h : Heap} {R : Value → Heap → Prop} (hn : args.length ≤ 44) (H : wC Try.prog f47c0 (endW [.tmp 8, .tmp 9] R) (envOf 0 args) h) : CallsH Try.prog 47 args h R :=
  fn_ok2 Try.func47 f47cmp hn H
theorem f47cal : callable Try.prog 47 = true := by kernel_rfl
section
variable {Q : X → Env → Heap → Prop} {σ : Env} {h : Heap}
theorem f47c13_eq : wC Try.prog f47c13 Q σ h = (wL Try.prog none f47r8 0 (fun σ h => Q .ret σ h) σ h) := rfl
theorem f47c14_eq : wC Try.prog f47c14 Q σ h = (wL Try.prog none f47r9 0 (fun σ h => Q .normal σ h) σ h) := rfl
theorem f47c12_eq : wC Try.prog f47c12 Q σ h = (bd (evO σ (.tmp 34)) fun v => bd (asB v) fun t => br t (wC Try.prog f47c13 (X.then (fun σ h => wC Try.prog f47c14 Q σ h) Q) σ h) (wC Try.prog f47c14 Q σ h)) := rfl
theorem f47c11_eq : wC Try.prog f47c11 Q σ h = (wL Try.prog none f47r7 0 (fun σ h => wC Try.prog f47c12 Q σ h) σ h) := rfl
theorem f47c10_eq : wC Try.prog f47c10 Q σ h = (bd (evO σ (.tmp 30)) fun v => bd (asB v) fun t => br t (Q (.exit 1) σ h) (wC Try.prog f47c11 Q σ h)) := rfl
theorem f47c9_eq : wC Try.prog f47c9 Q σ h = (wL Try.prog none f47r6 0 (fun σ h => wC Try.prog f47c10 Q σ h) σ h) := rfl
theorem f47c8_eq : wC Try.prog f47c8 Q σ h = (wL Try.prog none f47r5 0 (fun σ h => wC Try.prog f47c9 Q σ h) σ h) := rfl
theorem f47c7_eq : wC Try.prog f47c7 Q σ h = (wL Try.prog none f47r4 0 (fun σ h => wC Try.prog f47c8 Q σ h) σ h) := rfl
theorem f47c15_eq : wC Try.prog f47c15 Q σ h = (wL Try.prog none f47r10 0 (fun σ h => Q .normal σ h) σ h) := rfl
theorem f47c6_eq : wC Try.prog f47c6 Q σ h = (wC Try.prog f47c7 (X.inBlock 1 (X.then (fun σ h => wC Try.prog f47c15 Q σ h) Q)) σ h) := rfl
theorem f47c5_eq : wC Try.prog f47c5 Q σ h = (bd (evO σ (.tmp 20)) fun v => bd (asB v) fun t => br t (wC Try.prog f47c6 Q σ h) (Q (.exit 0) σ h)) := rfl
theorem f47c4_eq : wC Try.prog f47c4 Q σ h = (wL Try.prog none f47r3 0 (fun σ h => wC Try.prog f47c5 Q σ h) σ h) := rfl
theorem f47c16_eq : wC Try.prog f47c16 Q σ h = (wL Try.prog none f47r11 0 (fun σ h => Q .ret σ h) σ h) := rfl
theorem f47c3_eq : wC Try.prog f47c3 Q σ h = (loopW (wC Try.prog f47c4) (X.inBlock 0 (X.then (fun σ h => wC Try.prog f47c16 Q σ h) Q)) σ h) := rfl
theorem f47c2_eq : wC Try.prog f47c2 Q σ h = (wL Try.prog none f47r2 0 (fun σ h => wC Try.prog f47c3 Q σ h) σ h) := rfl
theorem f47c1_eq : wC Try.prog f47c1 Q σ h = (wL Try.prog none f47r1 0 (fun σ h => wC Try.prog f47c2 Q σ h) σ h) := rfl
theorem f47c0_eq : wC Try.prog f47c0 Q σ h = (wL Try.prog none f47r0 0 (fun σ h => wC Try.prog f47c1 Q σ h) σ h) := rfl
end
end Go.Proofs.Ytefghfgmkndikaa
