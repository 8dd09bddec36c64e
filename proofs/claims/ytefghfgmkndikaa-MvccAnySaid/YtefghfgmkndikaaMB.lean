/-
  By a program of mine (wip/tools/gen.py): the code of functions of the seat in the small instruction language, and that it is their code.
-/
import Derived.Test.YtefghfgmkndikaaM2
import Derived.Test.YtefghfgmkndikaaProg
import Derived.Test.YtefghfgmkndikaaMA
set_option linter.unusedSimpArgs false
set_option linter.unusedVariables false
namespace Go.Proofs.Ytefghfgmkndikaa
open Go.AX
set_option maxRecDepth 100000
/-! ### f93: antipode/mvcc.Blocks -/
def f93r0 : List I := [.op (.box 4 94 (.tmp 1)),
  .op (.box 5 39 (.tmp 2)),
  .op (.new 6 72 [.int .i64 0, .int .i64 0, .int .i64 0, .int .i64 0, .int .i64 0, .int .i64 0, .int .i64 0, .bool false, .string ⟨#[]⟩]),
  .op (.mov 7 (.const (.bool false))),
  .kp [0, 4, 5, 6]]
def f93r1 : List I := [.op (.mov 10 (.tmp 0)),
  .op (.ld 11 (some 2) (.tmp 4)),
  .op (.call (some 12) 92 [(.tmp 10), (.tmp 11)]),
  .op (.len 13 true (.tmp 12)),
  .op (.mov 14 (.const (.int .i64 0))),
  .kp [5, 6, 12, 13, 14]]
def f93r2 : List I := [.op (.bin 15 .lss (.tmp 14) (.tmp 13)),
  .kp [5, 6, 12, 13, 14, 15]]
def f93r3 : List I := [.op (.iad 16 12 (.tmp 12) (.tmp 14)),
  .op (.ld 17 (some 12) (.tmp 16)),
  .op (.new 9 103 [.string ⟨#[]⟩, .slice none 0 0, .bool false, .int .i64 0, .int .i64 0, .int .i64 0, .int .i64 0, .int .i64 0, .int .i64 0, .int .i64 0, .bool false, .string ⟨#[]⟩]),
  .op (.st 12 (.tmp 9) (.tmp 17)),
  .kp [5, 6, 9, 12, 13, 14]]
def f93r4 : List I := [.op (.fad 18 2 (.tmp 9)),
  .op (.ld 19 none (.tmp 18)),
  .op (.mov 20 (.tmp 19)),
  .sc 20 true 6,
  .g 20 true (.ld 21 (some 2) (.tmp 5)),
  .g 20 true (.fad 22 3 (.tmp 9)),
  .g 20 true (.fad 23 5 (.tmp 22)),
  .g 20 true (.ld 24 (some 2) (.tmp 23)),
  .g 20 true (.call (some 25) 90 [(.tmp 21), (.tmp 24)]),
  .g 20 true (.un 26 .not (.tmp 25)),
  .op (.pick 27 (.tmp 20) (.tmp 26) (.const (.bool false))),
  .kp [27, 5, 6, 9, 12, 13, 14]]
def f93r5 : List I := [.op (.fad 28 3 (.tmp 9)),
  .op (.ld 29 (some 9) (.tmp 28)),
  .op (.st 9 (.tmp 6) (.tmp 29)),
  .op (.mov 7 (.const (.bool true))),
  .kp [6, 7]]
def f93r6 : List I := [.op (.bin 30 .add (.tmp 14) (.const (.int .i64 1))),
  .op (.mov 14 (.tmp 30)),
  .kp [5, 6, 12, 13, 14]]
def f93r7 : List I := [.op (.bld 31 [.int .i64 0, .int .i64 0, .int .i64 0, .int .i64 0, .int .i64 0, .int .i64 0, .int .i64 0, .bool false, .string ⟨#[]⟩] []),
  .op (.st 9 (.tmp 6) (.tmp 31)),
  .op (.mov 7 (.const (.bool false))),
  .kp [6, 7]]
def f93c9 : C := (.seq (.reg f93r5) .ret)
def f93c8 : C := (.cond (.tmp 27) f93c9 .skip)
def f93c7 : C := (.seq (.reg f93r4) f93c8)
def f93c6 : C := (.seq (.reg f93r3) f93c7)
def f93c10 : C := (.reg f93r6)
def f93c5 : C := (.seq (.block 1 f93c6) f93c10)
def f93c4 : C := (.seq (.cond (.tmp 15) .skip (.exit 0)) f93c5)
def f93c3 : C := (.seq (.reg f93r2) f93c4)
def f93c11 : C := (.seq (.reg f93r7) .ret)
def f93c2 : C := (.seq (.block 0 (.loop f93c3)) f93c11)
def f93c1 : C := (.seq (.reg f93r1) f93c2)
def f93c0 : C := (.seq (.reg f93r0) f93c1)
theorem f93cmp : cmpF Try.prog Try.f93 [.l [.o 0, .o 1, .o 2, .o 3, .kp [0, 4, 5, 6]],
  .l [.o 0, .o 1, .o 2, .o 3, .o 4, .kp [5, 6, 12, 13, 14]],
  .l [.o 0, .kp [5, 6, 12, 13, 14, 15]],
  .l [.o 0, .o 1, .o 2, .o 3, .kp [5, 6, 9, 12, 13, 14]],
  .l [.o 0, .o 1, .o 2, .sc 20 true 6, .o 3, .o 4, .o 5, .o 6, .o 7, .o 8, .o 9, .kp [27, 5, 6, 9, 12, 13, 14]],
  .l [.o 0, .o 1, .o 2, .o 3, .kp [6, 7]],
  .l [.o 0, .o 1, .kp [5, 6, 12, 13, 14]],
  .l [.o 0, .o 1, .o 2, .kp [6, 7]]] = some (f93c0, [.cell 6 9, .tmp 7]) := by kernel_rfl
theorem f93ok {args : List Value} {h : Heap} {R : Value → Heap → Prop} (hn : args.length ≤ 32) (H : wC Try.prog f93c0 (endW [.cell 6 9, .tmp 7] R) (envOf 0 args) h) : CallsH Try.prog 93 args h R :=
  fn_ok2 Try.func93 f93cmp hn H
theorem f93cal : callable Try.prog 93 = true := by kernel_rfl
section
variable {Q : X → Env → Heap → Prop} {σ : Env} {h : Heap}
theorem f93c9_eq : wC Try.prog f93c9 Q σ h = (wL Try.prog none f93r5 0 (fun σ h => Q .ret σ h) σ h) := rfl
theorem f93c8_eq : wC Try.prog f93c8 Q σ h = (bd (evO σ (.tmp 27)) fun v => bd (asB v) fun t => br t (wC Try.prog f93c9 Q σ h) (Q .normal σ h)) := rfl
theorem f93c7_eq : wC Try.prog f93c7 Q σ h = (wL Try.prog none f93r4 0 (fun σ h => wC Try.prog f93c8 Q σ h) σ h) := rfl
theorem f93c6_eq : wC Try.prog f93c6 Q σ h = (wL Try.prog none f93r3 0 (fun σ h => wC Try.prog f93c7 Q σ h) σ h) := rfl
theorem f93c10_eq : wC Try.prog f93c10 Q σ h = (wL Try.prog none f93r6 0 (fun σ h => Q .normal σ h) σ h) := rfl
theorem f93c5_eq : wC Try.prog f93c5 Q σ h = (wC Try.prog f93c6 (X.inBlock 1 (X.then (fun σ h => wC Try.prog f93c10 Q σ h) Q)) σ h) := rfl
theorem f93c4_eq : wC Try.prog f93c4 Q σ h = (bd (evO σ (.tmp 15)) fun v => bd (asB v) fun t => br t (wC Try.prog f93c5 Q σ h) (Q (.exit 0) σ h)) := rfl
theorem f93c3_eq : wC Try.prog f93c3 Q σ h = (wL Try.prog none f93r2 0 (fun σ h => wC Try.prog f93c4 Q σ h) σ h) := rfl
theorem f93c11_eq : wC Try.prog f93c11 Q σ h = (wL Try.prog none f93r7 0 (fun σ h => Q .ret σ h) σ h) := rfl
theorem f93c2_eq : wC Try.prog f93c2 Q σ h = (loopW (wC Try.prog f93c3) (X.inBlock 0 (X.then (fun σ h => wC Try.prog f93c11 Q σ h) Q)) σ h) := rfl
theorem f93c1_eq : wC Try.prog f93c1 Q σ h = (wL Try.prog none f93r1 0 (fun σ h => wC Try.prog f93c2 Q σ h) σ h) := rfl
theorem f93c0_eq : wC Try.prog f93c0 Q σ h = (wL Try.prog none f93r0 0 (fun σ h => wC Try.prog f93c1 Q σ h) σ h) := rfl
end
/-! ### f67: antipode/antipoderef8.Blocks -/
def f67r0 : List I := [.op (.box 4 94 (.tmp 1)),
  .op (.box 5 39 (.tmp 2)),
  .op (.new 6 72 [.int .i64 0, .int .i64 0, .int .i64 0, .int .i64 0, .int .i64 0, .int .i64 0, .int .i64 0, .bool false, .string ⟨#[]⟩]),
  .op (.mov 7 (.const (.bool false))),
  .kp [0, 4, 5, 6]]
def f67r1 : List I := [.op (.mov 8 (.const (.int .i64 0))),
  .kp [0, 4, 5, 6, 8]]
def f67r2 : List I := [.op (.mov 9 (.tmp 8)),
  .op (.mov 10 (.tmp 0)),
  .op (.len 11 true (.tmp 10)),
  .op (.bin 12 .lss (.tmp 9) (.tmp 11)),
  .kp [0, 4, 5, 6, 8, 12]]
def f67r3a : List I := [.op (.mov 29 (.tmp 28)),
  .sc 29 true 9,
  .g 29 true (.ld 30 (some 2) (.tmp 5)),
  .g 29 true (.mov 31 (.tmp 0)),
  .g 29 true (.mov 32 (.tmp 8)),
  .g 29 true (.iad 33 12 (.tmp 31) (.tmp 32)),
  .g 29 true (.fad 34 3 (.tmp 33)),
  .g 29 true (.fad 35 5 (.tmp 34)),
  .g 29 true (.ld 36 (some 2) (.tmp 35)),
  .g 29 true (.call (some 37) 42 [(.tmp 30), (.tmp 36)]),
  .g 29 true (.un 38 .not (.tmp 37)),
  .op (.pick 39 (.tmp 29) (.tmp 38) (.const (.bool false))),
  .kp [39, 0, 4, 5, 6, 8]]
def f67r3 : List I := .op (.mov 15 (.tmp 0)) ::
  .op (.mov 16 (.tmp 8)) ::
  .op (.iad 17 12 (.tmp 15) (.tmp 16)) ::
  .op (.fad 18 0 (.tmp 17)) ::
  .op (.ld 19 none (.tmp 18)) ::
  .op (.ld 20 (some 2) (.tmp 4)) ::
  .op (.call (some 21) 106 [(.tmp 19), (.tmp 20)]) ::
  .op (.mov 22 (.tmp 21)) ::
  .sc 22 true 5 ::
  .g 22 true (.mov 23 (.tmp 0)) ::
  .g 22 true (.mov 24 (.tmp 8)) ::
  .g 22 true (.iad 25 12 (.tmp 23) (.tmp 24)) ::
  .g 22 true (.fad 26 2 (.tmp 25)) ::
  .g 22 true (.ld 27 none (.tmp 26)) ::
  .op (.pick 28 (.tmp 22) (.tmp 27) (.const (.bool false))) ::
  .kp [28, 0, 4, 5, 6, 8] ::
  f67r3a
def f67r4 : List I := [.op (.mov 40 (.tmp 0)),
  .op (.mov 41 (.tmp 8)),
  .op (.iad 42 12 (.tmp 40) (.tmp 41)),
  .op (.fad 43 3 (.tmp 42)),
  .op (.ld 44 (some 9) (.tmp 43)),
  .op (.st 9 (.tmp 6) (.tmp 44)),
  .op (.mov 7 (.const (.bool true))),
  .kp [6, 7]]
def f67r5 : List I := [.op (.mov 13 (.tmp 8)),
  .op (.bin 14 .add (.tmp 13) (.const (.int .i64 1))),
  .op (.mov 8 (.tmp 14)),
  .kp [0, 4, 5, 6, 8]]
def f67r6 : List I := [.op (.bld 45 [.int .i64 0, .int .i64 0, .int .i64 0, .int .i64 0, .int .i64 0, .int .i64 0, .int .i64 0, .bool false, .string ⟨#[]⟩] []),
  .op (.st 9 (.tmp 6) (.tmp 45)),
  .op (.mov 7 (.const (.bool false))),
  .kp [6, 7]]
def f67c8 : C := (.seq (.reg f67r4) .ret)
def f67c7 : C := (.cond (.tmp 39) f67c8 .skip)
def f67c6 : C := (.seq (.drw f67r3) f67c7)
def f67c9 : C := (.reg f67r5)
def f67c5 : C := (.seq (.block 1 f67c6) f67c9)
def f67c4 : C := (.seq (.cond (.tmp 12) .skip (.exit 0)) f67c5)
def f67c3 : C := (.seq (.reg f67r2) f67c4)
def f67c10 : C := (.seq (.reg f67r6) .ret)
def f67c2 : C := (.seq (.block 0 (.loop f67c3)) f67c10)
def f67c1 : C := (.seq (.reg f67r1) f67c2)
def f67c0 : C := (.seq (.reg f67r0) f67c1)
theorem f67cmp : cmpF Try.prog Try.f67 [.l [.o 0, .o 1, .o 2, .o 3, .kp [0, 4, 5, 6]],
  .l [.o 0, .kp [0, 4, 5, 6, 8]],
  .l [.o 0, .o 1, .o 2, .o 3, .kp [0, 4, 5, 6, 8, 12]],
  .l [.o 0, .o 1, .o 2, .o 3, .o 4, .o 5, .o 6, .o 7, .sc 22 true 5, .o 8, .o 9, .o 10, .o 11, .o 12, .o 13, .kp [28, 0, 4, 5, 6, 8], .o 14, .sc 29 true 9, .o 15, .o 16, .o 17, .o 18, .o 19, .o 20, .o 21, .o 22, .o 23, .o 24, .kp [39, 0, 4, 5, 6, 8]],
  .l [.o 0, .o 1, .o 2, .o 3, .o 4, .o 5, .o 6, .kp [6, 7]],
  .l [.o 0, .o 1, .o 2, .kp [0, 4, 5, 6, 8]],
  .l [.o 0, .o 1, .o 2, .kp [6, 7]]] = some (f67c0, [.cell 6 9, .tmp 7]) := by kernel_rfl
theorem f67ok {args : List Value} {h : Heap} {R : Value → Heap → Prop} (hn : args.length ≤ 46) (H : wC Try.prog f67c0 (endW [.cell 6 9, .tmp 7] R) (envOf 0 args) h) : CallsH Try.prog 67 args h R :=
  fn_ok2 Try.func67 f67cmp hn H
theorem f67cal : callable Try.prog 67 = true := by kernel_rfl
section
variable {Q : X → Env → Heap → Prop} {σ : Env} {h : Heap}
theorem f67c8_eq : wC Try.prog f67c8 Q σ h = (wL Try.prog none f67r4 0 (fun σ h => Q .ret σ h) σ h) := rfl
theorem f67c7_eq : wC Try.prog f67c7 Q σ h = (bd (evO σ (.tmp 39)) fun v => bd (asB v) fun t => br t (wC Try.prog f67c8 Q σ h) (Q .normal σ h)) := rfl
theorem f67c6_eq : wC Try.prog f67c6 Q σ h = (drwW Try.prog f67r3 (fun σ h => wC Try.prog f67c7 Q σ h) σ h) := rfl
theorem f67c9_eq : wC Try.prog f67c9 Q σ h = (wL Try.prog none f67r5 0 (fun σ h => Q .normal σ h) σ h) := rfl
theorem f67c5_eq : wC Try.prog f67c5 Q σ h = (wC Try.prog f67c6 (X.inBlock 1 (X.then (fun σ h => wC Try.prog f67c9 Q σ h) Q)) σ h) := rfl
theorem f67c4_eq : wC Try.prog f67c4 Q σ h = (bd (evO σ (.tmp 12)) fun v => bd (asB v) fun t => br t (wC Try.prog f67c5 Q σ h) (Q (.exit 0) σ h)) := rfl
theorem f67c3_eq : wC Try.prog f67c3 Q σ h = (wL Try.prog none f67r2 0 (fun σ h => wC Try.prog f67c4 Q σ h) σ h) := rfl
theorem f67c10_eq : wC Try.prog f67c10 Q σ h = (wL Try.prog none f67r6 0 (fun σ h => Q .ret σ h) σ h) := rfl
theorem f67c2_eq : wC Try.prog f67c2 Q σ h = (loopW (wC Try.prog f67c3) (X.inBlock 0 (X.then (fun σ h => wC Try.prog f67c10 Q σ h) Q)) σ h) := rfl
theorem f67c1_eq : wC Try.prog f67c1 Q σ h = (wL Try.prog none f67r1 0 (fun σ h => wC Try.prog f67c2 Q σ h) σ h) := rfl
theorem f67c0_eq : wC Try.prog f67c0 Q σ h = (wL Try.prog none f67r0 0 (fun σ h => wC Try.prog f67c1 Q σ h) σ h) := rfl
end
/-! ### f68: antipode/antipoderef8.Scan -/
def f68r0 : List I := [.op (.box 5 94 (.tmp 1)),
  .op (.box 6 39 (.tmp 2)),
  .op (.mov 8 (.const (.slice none 0 0))),
  .op (.mov 9 (.const (.int .i64 0))),
  .kp [0, 3, 5, 6]]
def f68r1 : List I := [.op (.mov 10 (.const (.slice none 0 0))),
  .kp [0, 3, 5, 6, 10]]
def f68r2 : List I := [.op (.mov 11 (.const (.int .i64 0))),
  .kp [0, 3, 5, 6, 10, 11]]
def f68r3 : List I := [.op (.mov 14 (.tmp 11)),
  .op (.mov 15 (.tmp 0)),
  .op (.len 16 true (.tmp 15)),
  .op (.bin 17 .lss (.tmp 14) (.tmp 16)),
  .kp [0, 3, 5, 6, 10, 11, 17]]
def f68r4 : List I := [.op (.mov 20 (.tmp 0)),
  .op (.mov 21 (.tmp 11)),
  .op (.iad 22 12 (.tmp 20) (.tmp 21)),
  .op (.fad 23 0 (.tmp 22)),
  .op (.ld 24 none (.tmp 23)),
  .op (.ld 25 (some 2) (.tmp 5)),
  .op (.call (some 26) 106 [(.tmp 24), (.tmp 25)]),
  .op (.un 27 .not (.tmp 26)),
  .kp [0, 3, 5, 6, 10, 11, 27]]
def f68r5 : List I := [.op (.mov 29 (.tmp 0)),
  .op (.mov 30 (.tmp 11)),
  .op (.iad 31 12 (.tmp 29) (.tmp 30)),
  .op (.ld 32 (some 12) (.tmp 31)),
  .op (.ld 33 (some 2) (.tmp 6)),
  .op (.call (some 34) 107 [(.tmp 32), (.tmp 33)]),
  .op (.mov 28 (.tmp 34)),
  .op (.ext 35 (.tmp 28) 0),
  .op (.ext 36 (.tmp 28) 1),
  .op (.mov 12 (.tmp 35)),
  .kp [0, 3, 5, 6, 10, 11, 12, 36],
  .op (.mov 13 (.tmp 36)),
  .kp [0, 3, 5, 6, 10, 11, 12, 13]]
def f68r6 : List I := [.op (.mov 37 (.tmp 13)),
  .kp [0, 3, 5, 6, 10, 11, 12, 37]]
def f68r7 : List I := [.op (.mov 38 (.tmp 10)),
  .op (.mov 39 (.tmp 0)),
  .op (.mov 40 (.tmp 11)),
  .op (.iad 41 12 (.tmp 39) (.tmp 40)),
  .op (.fad 42 0 (.tmp 41)),
  .op (.ld 43 none (.tmp 42)),
  .op (.mov 44 (.tmp 12)),
  .op (.bld 45 [.string ⟨#[]⟩, .string ⟨#[]⟩] [(0, 1, (.tmp 43)), (1, 1, (.tmp 44))]),
  .op (.bsl 46 99 1 [.string ⟨#[]⟩, .string ⟨#[]⟩] [(0, 2, (.tmp 45))]),
  .op (.raw (some 47) ⟨(some 47), (.call ⟨(.builtin .append), #[(.tmp 38), (.tmp 46)], #[45, 45]⟩), 45, "ref.go:82", #[⟨0, .data⟩, ⟨8, .data⟩], none⟩),
  .kp [0, 3, 5, 6, 11, 47],
  .op (.mov 10 (.tmp 47)),
  .kp [0, 3, 5, 6, 10, 11]]
def f68r8 : List I := [.op (.mov 18 (.tmp 11)),
  .op (.bin 19 .add (.tmp 18) (.const (.int .i64 1))),
  .op (.mov 11 (.tmp 19)),
  .kp [0, 3, 5, 6, 10, 11]]
def f68r9 : List I := [.op (.mov 48 (.tmp 10)),
  .op (.len 49 true (.tmp 48)),
  .op (.mov 50 (.tmp 3)),
  .op (.mm 51 true (.tmp 50) (.const (.int .i64 0))),
  .op (.bin 52 .gtr (.tmp 49) (.tmp 51)),
  .kp [10, 52]]
def f68r10 : List I := [.op (.mov 8 (.const (.slice none 0 0))),
  .op (.mov 9 (.const (.int .i64 3))),
  .kp [8, 9]]
def f68r11 : List I := [.op (.mov 53 (.tmp 10)),
  .op (.mov 8 (.tmp 53)),
  .op (.mov 9 (.const (.int .i64 0))),
  .kp [8, 9]]
def f68c12 : C := (.reg f68r7)
def f68c11 : C := (.cond (.tmp 37) f68c12 .skip)
def f68c10 : C := (.seq (.reg f68r6) f68c11)
def f68c9 : C := (.seq (.drw f68r5) f68c10)
def f68c8 : C := (.seq (.cond (.tmp 27) (.exit 1) .skip) f68c9)
def f68c7 : C := (.seq (.drw f68r4) f68c8)
def f68c13 : C := (.reg f68r8)
def f68c6 : C := (.seq (.block 1 f68c7) f68c13)
def f68c5 : C := (.seq (.cond (.tmp 17) .skip (.exit 0)) f68c6)
def f68c4 : C := (.seq (.reg f68r3) f68c5)
def f68c16 : C := (.seq (.reg f68r10) .ret)
def f68c17 : C := (.seq (.reg f68r11) .ret)
def f68c15 : C := (.seq (.cond (.tmp 52) f68c16 .skip) f68c17)
def f68c14 : C := (.seq (.reg f68r9) f68c15)
def f68c3 : C := (.seq (.block 0 (.loop f68c4)) f68c14)
def f68c2 : C := (.seq (.reg f68r2) f68c3)
def f68c1 : C := (.seq (.reg f68r1) f68c2)
def f68c0 : C := (.seq (.reg f68r0) f68c1)
theorem f68cmp : cmpF Try.prog Try.f68 [.l [.o 0, .o 1, .o 2, .o 3, .kp [0, 3, 5, 6]],
  .l [.o 0, .kp [0, 3, 5, 6, 10]],
  .l [.o 0, .kp [0, 3, 5, 6, 10, 11]],
  .l [.o 0, .o 1, .o 2, .o 3, .kp [0, 3, 5, 6, 10, 11, 17]],
  .l [.o 0, .o 1, .o 2, .o 3, .o 4, .o 5, .o 6, .o 7, .kp [0, 3, 5, 6, 10, 11, 27]],
  .l [.o 0, .o 1, .o 2, .o 3, .o 4, .o 5, .o 6, .o 7, .o 8, .o 9, .kp [0, 3, 5, 6, 10, 11, 12, 36], .o 10, .kp [0, 3, 5, 6, 10, 11, 12, 13]],
  .l [.o 0, .kp [0, 3, 5, 6, 10, 11, 12, 37]],
  .l [.o 0, .o 1, .o 2, .o 3, .o 4, .o 5, .o 6, .o 7, .o 8, .o 9, .kp [0, 3, 5, 6, 11, 47], .o 10, .kp [0, 3, 5, 6, 10, 11]],
  .l [.o 0, .o 1, .o 2, .kp [0, 3, 5, 6, 10, 11]],
  .l [.o 0, .o 1, .o 2, .o 3, .o 4, .kp [10, 52]],
  .l [.o 0, .o 1, .kp [8, 9]],
  .l [.o 0, .o 1, .o 2, .kp [8, 9]]] = some (f68c0, [.tmp 8, .tmp 9]) := by kernel_rfl
theorem f68ok {args : List Value} {h : Heap} {R : Value → Heap → Prop} (hn : args.length ≤ 54) (H : wC Try.prog f68c0 (endW [.tmp 8, .tmp 9] R) (envOf 0 args) h) : CallsH Try.prog 68 args h R :=
  fn_ok2 Try.func68 f68cmp hn H
theorem f68cal : callable Try.prog 68 = true := by kernel_rfl
section
variable {Q : X → Env → Heap → Prop} {σ : Env} {h : Heap}
theorem f68c12_eq : wC Try.prog f68c12 Q σ h = (wL Try.prog none f68r7 0 (fun σ h => Q .normal σ h) σ h) := rfl
theorem f68c11_eq : wC Try.prog f68c11 Q σ h = (bd (evO σ (.tmp 37)) fun v => bd (asB v) fun t => br t (wC Try.prog f68c12 Q σ h) (Q .normal σ h)) := rfl
theorem f68c10_eq : wC Try.prog f68c10 Q σ h = (wL Try.prog none f68r6 0 (fun σ h => wC Try.prog f68c11 Q σ h) σ h) := rfl
theorem f68c9_eq : wC Try.prog f68c9 Q σ h = (drwW Try.prog f68r5 (fun σ h => wC Try.prog f68c10 Q σ h) σ h) := rfl
theorem f68c8_eq : wC Try.prog f68c8 Q σ h = (bd (evO σ (.tmp 27)) fun v => bd (asB v) fun t => br t (Q (.exit 1) σ h) (wC Try.prog f68c9 Q σ h)) := rfl
theorem f68c7_eq : wC Try.prog f68c7 Q σ h = (drwW Try.prog f68r4 (fun σ h => wC Try.prog f68c8 Q σ h) σ h) := rfl
theorem f68c13_eq : wC Try.prog f68c13 Q σ h = (wL Try.prog none f68r8 0 (fun σ h => Q .normal σ h) σ h) := rfl
theorem f68c6_eq : wC Try.prog f68c6 Q σ h = (wC Try.prog f68c7 (X.inBlock 1 (X.then (fun σ h => wC Try.prog f68c13 Q σ h) Q)) σ h) := rfl
theorem f68c5_eq : wC Try.prog f68c5 Q σ h = (bd (evO σ (.tmp 17)) fun v => bd (asB v) fun t => br t (wC Try.prog f68c6 Q σ h) (Q (.exit 0) σ h)) := rfl
theorem f68c4_eq : wC Try.prog f68c4 Q σ h = (wL Try.prog none f68r3 0 (fun σ h => wC Try.prog f68c5 Q σ h) σ h) := rfl
theorem f68c16_eq : wC Try.prog f68c16 Q σ h = (wL Try.prog none f68r10 0 (fun σ h => Q .ret σ h) σ h) := rfl
theorem f68c17_eq : wC Try.prog f68c17 Q σ h = (wL Try.prog none f68r11 0 (fun σ h => Q .ret σ h) σ h) := rfl
theorem f68c15_eq : wC Try.prog f68c15 Q σ h = (bd (evO σ (.tmp 52)) fun v => bd (asB v) fun t => br t (wC Try.prog f68c16 (X.then (fun σ h => wC Try.prog f68c17 Q σ h) Q) σ h) (wC Try.prog f68c17 Q σ h)) := rfl
theorem f68c14_eq : wC Try.prog f68c14 Q σ h = (wL Try.prog none f68r9 0 (fun σ h => wC Try.prog f68c15 Q σ h) σ h) := rfl
theorem f68c3_eq : wC Try.prog f68c3 Q σ h = (loopW (wC Try.prog f68c4) (X.inBlock 0 (X.then (fun σ h => wC Try.prog f68c14 Q σ h) Q)) σ h) := rfl
theorem f68c2_eq : wC Try.prog f68c2 Q σ h = (wL Try.prog none f68r2 0 (fun σ h => wC Try.prog f68c3 Q σ h) σ h) := rfl
theorem f68c1_eq : wC Try.prog f68c1 Q σ h = (wL Try.prog none f68r1 0 (fun σ h => wC Try.prog f68c2 Q σ h) σ h) := rfl
theorem f68c0_eq : wC Try.prog f68c0 Q σ h = (wL Try.prog none f68r0 0 (fun σ h => wC Try.prog f68c1 Q σ h) σ h) := rfl
end
/-! ### f71: antipode/antipoderef8.Held -/
def f71r0 : List I := [.op (.new 4 72 [.int .i64 0, .int .i64 0, .int .i64 0, .int .i64 0, .int .i64 0, .int .i64 0, .int .i64 0, .bool false, .string ⟨#[]⟩]),
  .op (.mov 5 (.const (.bool false))),
  .kp [0, 1, 4]]
def f71r1 : List I := [.op (.mov 7 (.tmp 0)),
  .op (.mov 8 (.tmp 1)),
  .op (.call (some 9) 108 [(.tmp 7), (.tmp 8)]),
  .op (.mov 6 (.tmp 9)),
  .kp [0, 4, 6]]
def f71r2 : List I := [.op (.mov 10 (.tmp 6)),
  .op (.bin 11 .lss (.tmp 10) (.const (.int .i64 0))),
  .op (.mov 12 (.tmp 11)),
  .sc 12 false 6,
  .g 12 false (.mov 13 (.tmp 0)),
  .g 12 false (.mov 14 (.tmp 6)),
  .g 12 false (.iad 15 12 (.tmp 13) (.tmp 14)),
  .g 12 false (.fad 16 2 (.tmp 15)),
  .g 12 false (.ld 17 none (.tmp 16)),
  .g 12 false (.un 18 .not (.tmp 17)),
  .op (.pick 19 (.tmp 12) (.const (.bool true)) (.tmp 18)),
  .kp [19, 0, 4, 6]]
def f71r3 : List I := [.op (.bld 20 [.int .i64 0, .int .i64 0, .int .i64 0, .int .i64 0, .int .i64 0, .int .i64 0, .int .i64 0, .bool false, .string ⟨#[]⟩] []),
  .op (.st 9 (.tmp 4) (.tmp 20)),
  .op (.mov 5 (.const (.bool false))),
  .kp [4, 5]]
def f71r4 : List I := [.op (.mov 21 (.tmp 0)),
  .op (.mov 22 (.tmp 6)),
  .op (.iad 23 12 (.tmp 21) (.tmp 22)),
  .op (.fad 24 3 (.tmp 23)),
  .op (.ld 25 (some 9) (.tmp 24)),
  .op (.st 9 (.tmp 4) (.tmp 25)),
  .op (.mov 5 (.const (.bool true))),
  .kp [4, 5]]
def f71c4 : C := (.seq (.reg f71r3) .ret)
def f71c5 : C := (.seq (.reg f71r4) .ret)
def f71c3 : C := (.seq (.cond (.tmp 19) f71c4 .skip) f71c5)
def f71c2 : C := (.seq (.reg f71r2) f71c3)
def f71c1 : C := (.seq (.reg f71r1) f71c2)
def f71c0 : C := (.seq (.reg f71r0) f71c1)
theorem f71cmp : cmpF Try.prog Try.f71 [.l [.o 0, .o 1, .kp [0, 1, 4]],
  .l [.o 0, .o 1, .o 2, .o 3, .kp [0, 4, 6]],
  .l [.o 0, .o 1, .o 2, .sc 12 false 6, .o 3, .o 4, .o 5, .o 6, .o 7, .o 8, .o 9, .kp [19, 0, 4, 6]],
  .l [.o 0, .o 1, .o 2, .kp [4, 5]],
  .l [.o 0, .o 1, .o 2, .o 3, .o 4, .o 5, .o 6, .kp [4, 5]]] = some (f71c0, [.cell 4 9, .tmp 5]) := by kernel_rfl
theorem f71ok {args : List Value} {h : Heap} {R : Value → Heap → Prop} (hn : args.length ≤ 26) (H : wC Try.prog f71c0 (endW [.cell 4 9, .tmp 5] R) (envOf 0 args) h) : CallsH Try.prog 71 args h R :=
  fn_ok2 Try.func71 f71cmp hn H
theorem f71cal : callable Try.prog 71 = true := by kernel_rfl
section
variable {Q : X → Env → Heap → Prop} {σ : Env} {h : Heap}
theorem f71c4_eq : wC Try.prog f71c4 Q σ h = (wL Try.prog none f71r3 0 (fun σ h => Q .ret σ h) σ h) := rfl
theorem f71c5_eq : wC Try.prog f71c5 Q σ h = (wL Try.prog none f71r4 0 (fun σ h => Q .ret σ h) σ h) := rfl
theorem f71c3_eq : wC Try.prog f71c3 Q σ h = (bd (evO σ (.tmp 19)) fun v => bd (asB v) fun t => br t (wC Try.prog f71c4 (X.then (fun σ h => wC Try.prog f71c5 Q σ h) Q) σ h) (wC Try.prog f71c5 Q σ h)) := rfl
theorem f71c2_eq : wC Try.prog f71c2 Q σ h = (wL Try.prog none f71r2 0 (fun σ h => wC Try.prog f71c3 Q σ h) σ h) := rfl
theorem f71c1_eq : wC Try.prog f71c1 Q σ h = (wL Try.prog none f71r1 0 (fun σ h => wC Try.prog f71c2 Q σ h) σ h) := rfl
theorem f71c0_eq : wC Try.prog f71c0 Q σ h = (wL Try.prog none f71r0 0 (fun σ h => wC Try.prog f71c1 Q σ h) σ h) := rfl
end
/-! ### f70: antipode/antipoderef8.Mine -/
def f70r0 : List I := [.op (.box 3 37 (.tmp 1)),
  .op (.mov 4 (.const (.bool false))),
  .kp [0, 3]]
def f70r1 : List I := [.op (.mov 5 (.const (.int .i64 0))),
  .kp [0, 3, 5]]
def f70r2 : List I := [.op (.mov 6 (.tmp 5)),
  .op (.mov 7 (.tmp 0)),
  .op (.len 8 true (.tmp 7)),
  .op (.bin 9 .lss (.tmp 6) (.tmp 8)),
  .kp [0, 3, 5, 9]]
def f70r3 : List I := [.op (.mov 12 (.tmp 0)),
  .op (.mov 13 (.tmp 5)),
  .op (.iad 14 12 (.tmp 12) (.tmp 13)),
  .op (.fad 15 2 (.tmp 14)),
  .op (.ld 16 none (.tmp 15)),
  .op (.mov 17 (.tmp 16)),
  .sc 17 true 8,
  .g 17 true (.mov 18 (.tmp 0)),
  .g 17 true (.mov 19 (.tmp 5)),
  .g 17 true (.iad 20 12 (.tmp 18) (.tmp 19)),
  .g 17 true (.fad 21 3 (.tmp 20)),
  .g 17 true (.fad 22 0 (.tmp 21)),
  .g 17 true (.ld 23 (some 4) (.tmp 22)),
  .g 17 true (.ld 24 (some 4) (.tmp 3)),
  .g 17 true (.eqa 25 false [.i .i64, .i .i64, .i .i64, .i .i64] (.tmp 23) (.tmp 24)),
  .op (.pick 26 (.tmp 17) (.tmp 25) (.const (.bool false))),
  .kp [26, 0, 3, 5]]
def f70r4 : List I := [.op (.mov 4 (.const (.bool true))),
  .kp [4]]
def f70r5 : List I := [.op (.mov 10 (.tmp 5)),
  .op (.bin 11 .add (.tmp 10) (.const (.int .i64 1))),
  .op (.mov 5 (.tmp 11)),
  .kp [0, 3, 5]]
def f70r6 : List I := [.op (.mov 4 (.const (.bool false))),
  .kp [4]]
def f70c8 : C := (.seq (.reg f70r4) .ret)
def f70c7 : C := (.cond (.tmp 26) f70c8 .skip)
def f70c6 : C := (.seq (.drw f70r3) f70c7)
def f70c9 : C := (.reg f70r5)
def f70c5 : C := (.seq (.block 1 f70c6) f70c9)
def f70c4 : C := (.seq (.cond (.tmp 9) .skip (.exit 0)) f70c5)
def f70c3 : C := (.seq (.reg f70r2) f70c4)
def f70c10 : C := (.seq (.reg f70r6) .ret)
def f70c2 : C := (.seq (.block 0 (.loop f70c3)) f70c10)
def f70c1 : C := (.seq (.reg f70r1) f70c2)
def f70c0 : C := (.seq (.reg f70r0) f70c1)
theorem f70cmp : cmpF Try.prog Try.f70 [.l [.o 0, .o 1, .kp [0, 3]],
  .l [.o 0, .kp [0, 3, 5]],
  .l [.o 0, .o 1, .o 2, .o 3, .kp [0, 3, 5, 9]],
  .l [.o 0, .o 1, .o 2, .o 3, .o 4, .o 5, .sc 17 true 8, .o 6, .o 7, .o 8, .o 9, .o 10, .o 11, .o 12, .o 13, .o 14, .kp [26, 0, 3, 5]],
  .l [.o 0, .kp [4]],
  .l [.o 0, .o 1, .o 2, .kp [0, 3, 5]],
  .l [.o 0, .kp [4]]] = some (f70c0, [.tmp 4]) := by kernel_rfl
theorem f70ok {args : List Value} {h : Heap} {R : Value → Heap → Prop} (hn : args.length ≤ 27) (H : wC Try.prog f70c0 (endW [.tmp 4] R) (envOf 0 args) h) : CallsH Try.prog 70 args h R :=
  fn_ok2 Try.func70 f70cmp hn H
theorem f70cal : callable Try.prog 70 = true := by kernel_rfl
section
variable {Q : X → Env → Heap → Prop} {σ : Env} {h : Heap}
theorem f70c8_eq : wC Try.prog f70c8 Q σ h = (wL Try.prog none f70r4 0 (fun σ h => Q .ret σ h) σ h) := rfl
theorem f70c7_eq : wC Try.prog f70c7 Q σ h = (bd (evO σ (.tmp 26)) fun v => bd (asB v) fun t => br t (wC Try.prog f70c8 Q σ h) (Q .normal σ h)) := rfl
theorem f70c6_eq : wC Try.prog f70c6 Q σ h = (drwW Try.prog f70r3 (fun σ h => wC Try.prog f70c7 Q σ h) σ h) := rfl
theorem f70c9_eq : wC Try.prog f70c9 Q σ h = (wL Try.prog none f70r5 0 (fun σ h => Q .normal σ h) σ h) := rfl
theorem f70c5_eq : wC Try.prog f70c5 Q σ h = (wC Try.prog f70c6 (X.inBlock 1 (X.then (fun σ h => wC Try.prog f70c9 Q σ h) Q)) σ h) := rfl
theorem f70c4_eq : wC Try.prog f70c4 Q σ h = (bd (evO σ (.tmp 9)) fun v => bd (asB v) fun t => br t (wC Try.prog f70c5 Q σ h) (Q (.exit 0) σ h)) := rfl
theorem f70c3_eq : wC Try.prog f70c3 Q σ h = (wL Try.prog none f70r2 0 (fun σ h => wC Try.prog f70c4 Q σ h) σ h) := rfl
theorem f70c10_eq : wC Try.prog f70c10 Q σ h = (wL Try.prog none f70r6 0 (fun σ h => Q .ret σ h) σ h) := rfl
theorem f70c2_eq : wC Try.prog f70c2 Q σ h = (loopW (wC Try.prog f70c3) (X.inBlock 0 (X.then (fun σ h => wC Try.prog f70c10 Q σ h) Q)) σ h) := rfl
theorem f70c1_eq : wC Try.prog f70c1 Q σ h = (wL Try.prog none f70r1 0 (fun σ h => wC Try.prog f70c2 Q σ h) σ h) := rfl
theorem f70c0_eq : wC Try.prog f70c0 Q σ h = (wL Try.prog none f70r0 0 (fun σ h => wC Try.prog f70c1 Q σ h) σ h) := rfl
end
/-! ### f106: antipode/antipoderef8.In -/
def f106r0 : List I := [.op (.box 3 94 (.tmp 1)),
  .op (.mov 4 (.const (.bool false))),
  .kp [0, 3]]
def f106r1a : List I := [.op (.mov 4 (.tmp 14)),
  .kp [4]]
def f106r1 : List I := .op (.mov 5 (.tmp 0)) ::
  .op (.fad 6 0 (.tmp 3)) ::
  .op (.ld 7 none (.tmp 6)) ::
  .op (.bin 8 .geq (.tmp 5) (.tmp 7)) ::
  .op (.mov 9 (.tmp 8)) ::
  .sc 9 true 4 ::
  .g 9 true (.mov 10 (.tmp 0)) ::
  .g 9 true (.fad 11 1 (.tmp 3)) ::
  .g 9 true (.ld 12 none (.tmp 11)) ::
  .g 9 true (.bin 13 .lss (.tmp 10) (.tmp 12)) ::
  .op (.pick 14 (.tmp 9) (.tmp 13) (.const (.bool false))) ::
  .kp [14] ::
  f106r1a
def f106c1 : C := (.seq (.reg f106r1) .ret)
def f106c0 : C := (.seq (.reg f106r0) f106c1)
theorem f106cmp : cmpF Try.prog Try.f106 [.l [.o 0, .o 1, .kp [0, 3]],
  .l [.o 0, .o 1, .o 2, .o 3, .o 4, .sc 9 true 4, .o 5, .o 6, .o 7, .o 8, .o 9, .kp [14], .o 10, .kp [4]]] = some (f106c0, [.tmp 4]) := by kernel_rfl
theorem f106ok {args : List Value} {h : Heap} {R : Value → Heap → Prop} (hn : args.length ≤ 15) (H : wC Try.prog f106c0 (endW [.tmp 4] R) (envOf 0 args) h) : CallsH Try.prog 106 args h R :=
  fn_ok2 Try.func106 f106cmp hn H
theorem f106cal : callable Try.prog 106 = true := by kernel_rfl
section
variable {Q : X → Env → Heap → Prop} {σ : Env} {h : Heap}
theorem f106c1_eq : wC Try.prog f106c1 Q σ h = (wL Try.prog none f106r1 0 (fun σ h => Q .ret σ h) σ h) := rfl
theorem f106c0_eq : wC Try.prog f106c0 Q σ h = (wL Try.prog none f106r0 0 (fun σ h => wC Try.prog f106c1 Q σ h) σ h) := rfl
end
end Go.Proofs.Ytefghfgmkndikaa
/-
  Walks: the first lock of a span, by the program and the document; the document's In, Scan, Held, Mine.
-/
namespace Go.AX
open Go
def blocksP (t : Stamp) (x : Cell) : Bool := x.locked && !Stamp.lt t x.lock.at_
def blocksL (t : Stamp) (xs : List Cell) : Lck × Bool := match xs.find? (blocksP t) with | some x => (x.lock, true) | none => (noLock, false)
theorem find_drop {α : Type} (p : α → Bool) {l : List α} {k : Nat} {x : α} (hx : l[k]? = some x) : (l.drop k).find? p = if p x then some x else (l.drop (k + 1)).find? p := by
  obtain ⟨hk, rfl⟩ := List.getElem?_eq_some_iff.1 hx
  rw [List.drop_eq_getElem_cons hk, List.find?_cons]
  cases p l[k] <;> rfl
end Go.AX
namespace Go.Proofs.Ytefghfgmkndikaa
open Go Go.AX

section
variable {B : Nat → Prop} {a : Option Addr} {c n : Nat} {cs : List Cell} {h : Heap} {R : Value → Heap → Prop}
theorem blocksG (g : Gd n cs) (hn : n ≤ 900000) (S : SlC B h a cs) (hc : cs.length ≤ c) (s : Spn) (t : Stamp) (hR : ∀ h', Ext h h' → R (.tuple #[.agg (eLck (blocksL t (cs.filter fun c => inS s c.key)).1).toArray, .bool (blocksL t (cs.filter fun c => inS s c.key)).2]) h') :
    CallsH Try.prog 93 [.slice a cs.length c, .agg (eSpn s).toArray, .agg (eStamp t).toArray] h R := by
  obtain ⟨z1, z2, z3, z4, z5, z6⟩ := szAll g.sz hn
  have hbig : big = 1000000 := rfl
  rw [← withinL_eq s g.good.sorted] at hR
  refine f93ok (by simp) ?_
  (try simp (config := { maxSteps := 1000000 }) (disch := first | exact Nat.le_of_ble_eq_true rfl | omega) only [AXS, AXB, J.dst, reduceIte, Nat.reduceEqDiff, Nat.reduceAdd, Nat.reduceMul, Nat.reduceLT, Nat.reduceLeDiff]); rw [f93c0_eq]; (try simp (config := { maxSteps := 1000000 }) (disch := first | exact Nat.le_of_ble_eq_true rfl | omega) only [AXS, AXB, J.dst, reduceIte, Nat.reduceEqDiff, Nat.reduceAdd, Nat.reduceMul, Nat.reduceLT, Nat.reduceLeDiff, f93r0, f93r1, f93r2, f93r3, f93r4, f93r5, f93r6, f93r7])
  refine wL_boxN rfl ?_; rintro b1 h1 e1 s1 hb1 (B1 : Blk _ _ _ (eSpn s))
  refine wL_boxN rfl ?_; rintro b2 h2 e2 s2 hb2 (B2 : Blk _ _ _ (eStamp t))
  refine wL_newN ?_; rintro b0 h0 e0 s0 hb0 B0
  replace B1 := B1.ext (e2.trans e0); replace B2 := B2.ext e0
  have e02 := e1.trans (e2.trans e0)
  (try simp (config := { maxSteps := 1000000 }) (disch := first | exact Nat.le_of_ble_eq_true rfl | omega) only [AXS, AXB, J.dst, reduceIte, Nat.reduceEqDiff, Nat.reduceAdd, Nat.reduceMul, Nat.reduceLT, Nat.reduceLeDiff]); rw [f93c1_eq]; (try simp (config := { maxSteps := 1000000 }) (disch := first | exact Nat.le_of_ble_eq_true rfl | omega) only [AXS, AXB, J.dst, reduceIte, Nat.reduceEqDiff, Nat.reduceAdd, Nat.reduceMul, Nat.reduceLT, Nat.reduceLeDiff, f93r0, f93r1, f93r2, f93r3, f93r4, f93r5, f93r6, f93r7, B1.rd, eSpn])
  refine withinG g hn (S.ext e02) hc s ?_
  intro aw cw h3 W hw e3
  refine ⟨trivial, ?_⟩
  have hwl := withinL_le cs s
  generalize withinL cs s = ws at *
  replace B2 := B2.ext e3; replace B0 := B0.ext e3
  have e03 := e02.trans e3
  try simp (config := { maxSteps := 1000000 }) (disch := first | exact Nat.le_of_ble_eq_true rfl | omega) only [AXS, AXB, J.dst, reduceIte, Nat.reduceEqDiff, Nat.reduceAdd, Nat.reduceMul, Nat.reduceLT, Nat.reduceLeDiff]
  rw [f93c2_eq]
  refine loop_in (fun n σ h' => Ext h3 h' ∧ ∃ k : Nat, k + n = ws.length ∧ ws.find? (blocksP t) = (ws.drop k).find? (blocksP t) ∧
      σ = [(5, ptr b2 0), (6, ptr b0 0), (12, .slice aw ws.length cw), (13, vi ws.length), (14, vi k)]) ws.length ⟨Ext.refl _, 0, by omega, rfl, rfl⟩ ?_
  rintro m σ h4 ⟨e4, k, hk, hf, rfl⟩ Q' hnx hex hrt _
  have hs0 := e03.size
  have hs4 := e4.size
  replace B2 := B2.ext e4; replace B0 := B0.ext e4
  (try simp (config := { maxSteps := 1000000 }) (disch := first | exact Nat.le_of_ble_eq_true rfl | omega) only [AXS, AXB, J.dst, reduceIte, Nat.reduceEqDiff, Nat.reduceAdd, Nat.reduceMul, Nat.reduceLT, Nat.reduceLeDiff]); rw [f93c3_eq]; (try simp (config := { maxSteps := 1000000 }) (disch := first | exact Nat.le_of_ble_eq_true rfl | omega) only [AXS, AXB, J.dst, reduceIte, Nat.reduceEqDiff, Nat.reduceAdd, Nat.reduceMul, Nat.reduceLT, Nat.reduceLeDiff, f93r0, f93r1, f93r2, f93r3, f93r4, f93r5, f93r6, f93r7]); rw [f93c4_eq]; (try simp (config := { maxSteps := 1000000 }) (disch := first | exact Nat.le_of_ble_eq_true rfl | omega) only [AXS, AXB, J.dst, reduceIte, Nat.reduceEqDiff, Nat.reduceAdd, Nat.reduceMul, Nat.reduceLT, Nat.reduceLeDiff, f93r0, f93r1, f93r2, f93r3, f93r4, f93r5, f93r6, f93r7])
  refine ⟨fun hh => ?_, fun hh => ?_⟩
  · have hkl : k < ws.length := by have := of_decide_eq_true hh; omega
    obtain ⟨x, hx⟩ := get_ex hkl
    obtain ⟨b, o, v, rfl, _, hrow, hcr⟩ := (W.ext e4).elem hx
    rw [find_drop _ hx] at hf
    (try simp (config := { maxSteps := 1000000 }) (disch := first | exact Nat.le_of_ble_eq_true rfl | omega) only [AXS, AXB, J.dst, reduceIte, Nat.reduceEqDiff, Nat.reduceAdd, Nat.reduceMul, Nat.reduceLT, Nat.reduceLeDiff]); rw [f93c5_eq]; (try simp (config := { maxSteps := 1000000 }) (disch := first | exact Nat.le_of_ble_eq_true rfl | omega) only [AXS, AXB, J.dst, reduceIte, Nat.reduceEqDiff, Nat.reduceAdd, Nat.reduceMul, Nat.reduceLT, Nat.reduceLeDiff, f93r0, f93r1, f93r2, f93r3, f93r4, f93r5, f93r6, f93r7, row_cv hrow]); rw [f93c6_eq]; (try simp (config := { maxSteps := 1000000 }) (disch := first | exact Nat.le_of_ble_eq_true rfl | omega) only [AXS, AXB, J.dst, reduceIte, Nat.reduceEqDiff, Nat.reduceAdd, Nat.reduceMul, Nat.reduceLT, Nat.reduceLeDiff, f93r0, f93r1, f93r2, f93r3, f93r4, f93r5, f93r6, f93r7, row_cv hrow])
    refine ⟨by omega, by omega, ?_⟩
    refine wL_newN ?_; rintro b5 h5 e5 s5 hb5 B5
    try simp (config := { maxSteps := 1000000 }) (disch := first | exact Nat.le_of_ble_eq_true rfl | omega) only [AXS, AXB, J.dst, reduceIte, Nat.reduceEqDiff, Nat.reduceAdd, Nat.reduceMul, Nat.reduceLT, Nat.reduceLeDiff]
    refine wL_stN rfl rfl rfl B5 (by decide) (eCV_one v) ?_; rintro h6 u6 (B6 : Blk _ _ _ (eCV v))
    have e6 := u6.ext e5 (by omega)
    replace B2 := B2.ext e6; replace B0 := B0.ext e6
    have hlk := hcr.locked
    have hlo := hcr.lock
    have fin : ∀ (h8 : Heap), Ext h6 h8 → wC Try.prog f93c8 (X.inBlock 1 (X.then (fun σ h => wC Try.prog f93c10 Q' σ h) Q')) [(27, .bool (blocksP t x)), (5, ptr b2 0), (6, ptr b0 0), (9, ptr b5 0), (12, .slice (some ⟨b, o, none⟩) ws.length cw), (13, vi ws.length), (14, vi k)] h8 := by
      intro h8 e8
      have e38 := e4.trans (e6.trans e8)
      replace B6 := B6.ext e8; replace B0 := B0.ext e8
      rw [f93c8_eq]
      simp (config := { maxSteps := 1000000 }) (disch := first | exact Nat.le_of_ble_eq_true rfl | omega) only [AXS, AXB, J.dst, reduceIte, Nat.reduceEqDiff, Nat.reduceAdd, Nat.reduceMul, Nat.reduceLT, Nat.reduceLeDiff]
      refine ⟨fun h9 => ?_, fun h9 => ?_⟩
      · (try simp (config := { maxSteps := 1000000 }) (disch := first | exact Nat.le_of_ble_eq_true rfl | omega) only [AXS, AXB, J.dst, reduceIte, Nat.reduceEqDiff, Nat.reduceAdd, Nat.reduceMul, Nat.reduceLT, Nat.reduceLeDiff]); rw [f93c9_eq]; (try simp (config := { maxSteps := 1000000 }) (disch := first | exact Nat.le_of_ble_eq_true rfl | omega) only [AXS, AXB, J.dst, reduceIte, Nat.reduceEqDiff, Nat.reduceAdd, Nat.reduceMul, Nat.reduceLT, Nat.reduceLeDiff, f93r0, f93r1, f93r2, f93r3, f93r4, f93r5, f93r6, f93r7, B6.rd, eCV])
        refine wL_stN rfl rfl rfl B0 (by decide) (one_lck v.lock) ?_; rintro h10 u10 (B10 : Blk _ _ _ (eLck v.lock))
        try simp (config := { maxSteps := 1000000 }) (disch := first | exact Nat.le_of_ble_eq_true rfl | omega) only [AXS, AXB, J.dst, reduceIte, Nat.reduceEqDiff, Nat.reduceAdd, Nat.reduceMul, Nat.reduceLT, Nat.reduceLeDiff]
        refine hrt _ _ ?_
        simp (config := { maxSteps := 1000000 }) (disch := first | exact Nat.le_of_ble_eq_true rfl | omega) only [AXS, AXB, J.dst, reduceIte, Nat.reduceEqDiff, Nat.reduceAdd, Nat.reduceMul, Nat.reduceLT, Nat.reduceLeDiff, B10.rd]
        have hb : blocksL t ws = (v.lock, true) := by
          unfold blocksL; rw [hf, h9, hlo]; rfl
        have := hR h10 (u10.ext (e03.trans e38) (by omega))
        rw [hb] at this
        exact this
      · (try simp (config := { maxSteps := 1000000 }) (disch := first | exact Nat.le_of_ble_eq_true rfl | omega) only [AXS, AXB, J.dst, reduceIte, Nat.reduceEqDiff, Nat.reduceAdd, Nat.reduceMul, Nat.reduceLT, Nat.reduceLeDiff]); rw [f93c10_eq]; (try simp (config := { maxSteps := 1000000 }) (disch := first | exact Nat.le_of_ble_eq_true rfl | omega) only [AXS, AXB, J.dst, reduceIte, Nat.reduceEqDiff, Nat.reduceAdd, Nat.reduceMul, Nat.reduceLT, Nat.reduceLeDiff, f93r0, f93r1, f93r2, f93r3, f93r4, f93r5, f93r6, f93r7])
        rw [i64_wrap (by omega) (by omega)]
        refine hnx (m - 1) _ _ (by omega) ⟨e38, k + 1, by omega, ?_, rfl⟩
        rw [hf, h9]; rfl
    (try simp (config := { maxSteps := 1000000 }) (disch := first | exact Nat.le_of_ble_eq_true rfl | omega) only [AXS, AXB, J.dst, reduceIte, Nat.reduceEqDiff, Nat.reduceAdd, Nat.reduceMul, Nat.reduceLT, Nat.reduceLeDiff]); rw [f93c7_eq]; (try simp (config := { maxSteps := 1000000 }) (disch := first | exact Nat.le_of_ble_eq_true rfl | omega) only [AXS, AXB, J.dst, reduceIte, Nat.reduceEqDiff, Nat.reduceAdd, Nat.reduceMul, Nat.reduceLT, Nat.reduceLeDiff, f93r0, f93r1, f93r2, f93r3, f93r4, f93r5, f93r6, f93r7])
    cases hl : x.locked with
    | false =>
      have : blocksP t x = false := by unfold blocksP; rw [hl]; rfl
      rw [this] at fin
      simp (config := { maxSteps := 1000000 }) (disch := first | exact Nat.le_of_ble_eq_true rfl | omega) only [AXJ, AXS, AXB, J.dst, reduceIte, Nat.reduceEqDiff, Nat.reduceAdd, Nat.reduceMul, Nat.reduceLT, Nat.reduceLeDiff, f93r4, B6.cel, eCV, hlk, hl]
      exact fin _ (Ext.refl _)
    | true =>
      have : blocksP t x = !Stamp.lt t x.lock.at_ := by unfold blocksP; rw [hl]; rfl
      rw [this] at fin
      simp (config := { maxSteps := 1000000 }) (disch := first | exact Nat.le_of_ble_eq_true rfl | omega) only [AXJ, AXS, AXB, J.dst, reduceIte, Nat.reduceEqDiff, Nat.reduceAdd, Nat.reduceMul, Nat.reduceLT, Nat.reduceLeDiff, f93r4, B6.cel, B6.rd, B2.rd, eCV, eStamp, hlk, hl, hlo]
      refine less_ok t x.lock.at_ _ ?_
      intro h8 e8
      refine ⟨trivial, ?_⟩
      simp (config := { maxSteps := 1000000 }) (disch := first | exact Nat.le_of_ble_eq_true rfl | omega) only [AXJ, AXS, AXB, J.dst, reduceIte, Nat.reduceEqDiff, Nat.reduceAdd, Nat.reduceMul, Nat.reduceLT, Nat.reduceLeDiff]
      exact fin _ e8
  · have hkl : k = ws.length := by have := of_decide_eq_false hh; omega
    refine hex _ _ ?_
    (try simp (config := { maxSteps := 1000000 }) (disch := first | exact Nat.le_of_ble_eq_true rfl | omega) only [AXS, AXB, J.dst, reduceIte, Nat.reduceEqDiff, Nat.reduceAdd, Nat.reduceMul, Nat.reduceLT, Nat.reduceLeDiff]); rw [f93c11_eq]; (try simp (config := { maxSteps := 1000000 }) (disch := first | exact Nat.le_of_ble_eq_true rfl | omega) only [AXS, AXB, J.dst, reduceIte, Nat.reduceEqDiff, Nat.reduceAdd, Nat.reduceMul, Nat.reduceLT, Nat.reduceLeDiff, f93r0, f93r1, f93r2, f93r3, f93r4, f93r5, f93r6, f93r7])
    refine wL_stN rfl rfl rfl B0 (by decide) (one_lck noLock) ?_; rintro h10 u10 (B10 : Blk _ _ _ (eLck noLock))
    simp (config := { maxSteps := 1000000 }) (disch := first | exact Nat.le_of_ble_eq_true rfl | omega) only [AXS, AXB, J.dst, reduceIte, Nat.reduceEqDiff, Nat.reduceAdd, Nat.reduceMul, Nat.reduceLT, Nat.reduceLeDiff, B10.rd]
    have hb : blocksL t ws = (noLock, false) := by
      unfold blocksL; rw [hf, hkl, List.drop_length]; rfl
    have := hR h10 (u10.ext (e03.trans e4) (by omega))
    rw [hb] at this
    exact this

/-! ### The document's -/
theorem in_ok (key : ByteArray) (s : Spn) (hR : ∀ h', Ext h h' → R (.bool (inS s key)) h') : CallsH Try.prog 106 [.string key, .agg (eSpn s).toArray] h R := by
  refine f106ok (by simp) ?_
  (try simp (config := { maxSteps := 1000000 }) (disch := first | exact Nat.le_of_ble_eq_true rfl | omega) only [AXS, AXB, J.dst, reduceIte, Nat.reduceEqDiff, Nat.reduceAdd, Nat.reduceMul, Nat.reduceLT, Nat.reduceLeDiff]); rw [f106c0_eq]; (try simp (config := { maxSteps := 1000000 }) (disch := first | exact Nat.le_of_ble_eq_true rfl | omega) only [AXS, AXB, J.dst, reduceIte, Nat.reduceEqDiff, Nat.reduceAdd, Nat.reduceMul, Nat.reduceLT, Nat.reduceLeDiff, f106r0, f106r1])
  refine wL_boxN rfl ?_; rintro b1 h1 e1 s1 hb1 (B1 : Blk _ _ _ (eSpn s))
  try simp (config := { maxSteps := 1000000 }) (disch := first | exact Nat.le_of_ble_eq_true rfl | omega) only [AXS, AXB, J.dst, reduceIte, Nat.reduceEqDiff, Nat.reduceAdd, Nat.reduceMul, Nat.reduceLT, Nat.reduceLeDiff]
  rw [f106c1_eq]
  simp (config := { maxSteps := 1000000 }) (disch := first | exact Nat.le_of_ble_eq_true rfl | omega) only [AXJ, AXS, AXB, J.dst, reduceIte, Nat.reduceEqDiff, Nat.reduceAdd, Nat.reduceMul, Nat.reduceLT, Nat.reduceLeDiff, f106r1, B1.cel, eSpn]
  simp (config := { maxSteps := 1000000 }) (disch := first | exact Nat.le_of_ble_eq_true rfl | omega) only [AXJ, AXS, AXB, J.dst, reduceIte, Nat.reduceEqDiff, Nat.reduceAdd, Nat.reduceMul, Nat.reduceLT, Nat.reduceLeDiff, f106r1a]
  exact hR h1 e1

theorem rfilter_find (t : Stamp) (s : Spn) (xs : List Cell) : (xs.filter fun c => inS s c.key).find? (blocksP t) = xs.find? fun c => inS s c.key && blocksP t c := by
  rw [List.find?_filter]
  congr 1
  funext x
  cases inS s x.key <;> cases blocksP t x <;> rfl

theorem rblocksG (g : Gd n cs) (hn : n ≤ 900000) (S : SlC B h a cs) (s : Spn) (t : Stamp) (hR : ∀ h', Ext h h' → R (.tuple #[.agg (eLck (blocksL t (cs.filter fun c => inS s c.key)).1).toArray, .bool (blocksL t (cs.filter fun c => inS s c.key)).2]) h') :
    CallsH Try.prog 67 [.slice a cs.length c, .agg (eSpn s).toArray, .agg (eStamp t).toArray] h R := by
  obtain ⟨z1, z2, z3, z4, z5, z6⟩ := szAll g.sz hn
  have hbig : big = 1000000 := rfl
  have hbl : blocksL t (cs.filter fun c => inS s c.key) = match cs.find? (fun c => inS s c.key && blocksP t c) with | some x => (x.lock, true) | none => (noLock, false) := by
    unfold blocksL; rw [rfilter_find]
  rw [hbl] at hR
  refine f67ok (by simp) ?_
  (try simp (config := { maxSteps := 1000000 }) (disch := first | exact Nat.le_of_ble_eq_true rfl | omega) only [AXS, AXB, J.dst, reduceIte, Nat.reduceEqDiff, Nat.reduceAdd, Nat.reduceMul, Nat.reduceLT, Nat.reduceLeDiff]); rw [f67c0_eq]; (try simp (config := { maxSteps := 1000000 }) (disch := first | exact Nat.le_of_ble_eq_true rfl | omega) only [AXS, AXB, J.dst, reduceIte, Nat.reduceEqDiff, Nat.reduceAdd, Nat.reduceMul, Nat.reduceLT, Nat.reduceLeDiff, f67r0, f67r1, f67r2, f67r3, f67r4, f67r5, f67r6])
  refine wL_boxN rfl ?_; rintro b1 h1 e1 s1 hb1 (B1 : Blk _ _ _ (eSpn s))
  refine wL_boxN rfl ?_; rintro b2 h2 e2 s2 hb2 (B2 : Blk _ _ _ (eStamp t))
  refine wL_newN ?_; rintro b0 h0 e0 s0 hb0 B0
  replace B1 := B1.ext (e2.trans e0); replace B2 := B2.ext e0
  have e02 := e1.trans (e2.trans e0)
  (try simp (config := { maxSteps := 1000000 }) (disch := first | exact Nat.le_of_ble_eq_true rfl | omega) only [AXS, AXB, J.dst, reduceIte, Nat.reduceEqDiff, Nat.reduceAdd, Nat.reduceMul, Nat.reduceLT, Nat.reduceLeDiff]); rw [f67c1_eq]; (try simp (config := { maxSteps := 1000000 }) (disch := first | exact Nat.le_of_ble_eq_true rfl | omega) only [AXS, AXB, J.dst, reduceIte, Nat.reduceEqDiff, Nat.reduceAdd, Nat.reduceMul, Nat.reduceLT, Nat.reduceLeDiff, f67r0, f67r1, f67r2, f67r3, f67r4, f67r5, f67r6])
  rw [f67c2_eq]
  refine loop_in (fun n σ h' => Ext h0 h' ∧ ∃ k : Nat, k + n = cs.length ∧ cs.find? (fun c => inS s c.key && blocksP t c) = (cs.drop k).find? (fun c => inS s c.key && blocksP t c) ∧
      σ = [(0, .slice a cs.length c), (4, ptr b1 0), (5, ptr b2 0), (6, ptr b0 0), (8, vi k)]) cs.length ⟨Ext.refl _, 0, by omega, rfl, rfl⟩ ?_
  rintro m σ h4 ⟨e4, k, hk, hf, rfl⟩ Q' hnx hex hrt _
  have hs0 := e02.size
  have hs4 := e4.size
  replace B1 := B1.ext e4; replace B2 := B2.ext e4; replace B0 := B0.ext e4
  (try simp (config := { maxSteps := 1000000 }) (disch := first | exact Nat.le_of_ble_eq_true rfl | omega) only [AXS, AXB, J.dst, reduceIte, Nat.reduceEqDiff, Nat.reduceAdd, Nat.reduceMul, Nat.reduceLT, Nat.reduceLeDiff]); rw [f67c3_eq]; (try simp (config := { maxSteps := 1000000 }) (disch := first | exact Nat.le_of_ble_eq_true rfl | omega) only [AXS, AXB, J.dst, reduceIte, Nat.reduceEqDiff, Nat.reduceAdd, Nat.reduceMul, Nat.reduceLT, Nat.reduceLeDiff, f67r0, f67r1, f67r2, f67r3, f67r4, f67r5, f67r6]); rw [f67c4_eq]; (try simp (config := { maxSteps := 1000000 }) (disch := first | exact Nat.le_of_ble_eq_true rfl | omega) only [AXS, AXB, J.dst, reduceIte, Nat.reduceEqDiff, Nat.reduceAdd, Nat.reduceMul, Nat.reduceLT, Nat.reduceLeDiff, f67r0, f67r1, f67r2, f67r3, f67r4, f67r5, f67r6])
  refine ⟨fun hh => ?_, fun hh => ?_⟩
  · have hkl : k < cs.length := by have := of_decide_eq_true hh; omega
    obtain ⟨x, hx⟩ := get_ex hkl
    obtain ⟨b, o, v, rfl, _, hrow, hcr⟩ := (S.ext (e02.trans e4)).elem hx
    have hlb := hrow.lt (by rw [eCV_len]; omega)
    have hl1 := B1.lt
    have hl2 := B2.lt
    rw [find_drop _ hx] at hf
    have hlk := hcr.locked
    have hlo := hcr.lock
    have hkey := hcr.key
    have fin : ∀ (h8 : Heap), Ext h4 h8 → wC Try.prog f67c7 (X.inBlock 1 (X.then (fun σ h => wC Try.prog f67c9 Q' σ h) Q')) [(39, .bool (inS s x.key && blocksP t x)), (0, .slice (some ⟨b, o, none⟩) cs.length c), (4, ptr b1 0), (5, ptr b2 0), (6, ptr b0 0), (8, vi k)] h8 := by
      intro h8 e8
      have e38 := e4.trans e8
      have hrow8 := hrow.ext e8
      replace B0 := B0.ext e8
      rw [f67c7_eq]
      simp (config := { maxSteps := 1000000 }) (disch := first | exact Nat.le_of_ble_eq_true rfl | omega) only [AXS, AXB, J.dst, reduceIte, Nat.reduceEqDiff, Nat.reduceAdd, Nat.reduceMul, Nat.reduceLT, Nat.reduceLeDiff]
      refine ⟨fun h9 => ?_, fun h9 => ?_⟩
      · (try simp (config := { maxSteps := 1000000 }) (disch := first | exact Nat.le_of_ble_eq_true rfl | omega) only [AXS, AXB, J.dst, reduceIte, Nat.reduceEqDiff, Nat.reduceAdd, Nat.reduceMul, Nat.reduceLT, Nat.reduceLeDiff]); rw [f67c8_eq]; (try simp (config := { maxSteps := 1000000 }) (disch := first | exact Nat.le_of_ble_eq_true rfl | omega) only [AXS, AXB, J.dst, reduceIte, Nat.reduceEqDiff, Nat.reduceAdd, Nat.reduceMul, Nat.reduceLT, Nat.reduceLeDiff, f67r0, f67r1, f67r2, f67r3, f67r4, f67r5, f67r6, row_cv hrow8])
        refine ⟨by omega, by omega, ?_⟩
        refine wL_stN rfl rfl rfl B0 (by decide) (one_lck v.lock) ?_; rintro h10 u10 (B10 : Blk _ _ _ (eLck v.lock))
        try simp (config := { maxSteps := 1000000 }) (disch := first | exact Nat.le_of_ble_eq_true rfl | omega) only [AXS, AXB, J.dst, reduceIte, Nat.reduceEqDiff, Nat.reduceAdd, Nat.reduceMul, Nat.reduceLT, Nat.reduceLeDiff]
        refine hrt _ _ ?_
        simp (config := { maxSteps := 1000000 }) (disch := first | exact Nat.le_of_ble_eq_true rfl | omega) only [AXS, AXB, J.dst, reduceIte, Nat.reduceEqDiff, Nat.reduceAdd, Nat.reduceMul, Nat.reduceLT, Nat.reduceLeDiff, B10.rd]
        have := hR h10 (u10.ext (e02.trans e38) (by omega))
        rw [hf, h9] at this
        rw [hlo]
        exact this
      · (try simp (config := { maxSteps := 1000000 }) (disch := first | exact Nat.le_of_ble_eq_true rfl | omega) only [AXS, AXB, J.dst, reduceIte, Nat.reduceEqDiff, Nat.reduceAdd, Nat.reduceMul, Nat.reduceLT, Nat.reduceLeDiff]); rw [f67c9_eq]; (try simp (config := { maxSteps := 1000000 }) (disch := first | exact Nat.le_of_ble_eq_true rfl | omega) only [AXS, AXB, J.dst, reduceIte, Nat.reduceEqDiff, Nat.reduceAdd, Nat.reduceMul, Nat.reduceLT, Nat.reduceLeDiff, f67r0, f67r1, f67r2, f67r3, f67r4, f67r5, f67r6])
        rw [i64_wrap (by omega) (by omega)]
        refine hnx (m - 1) _ _ (by omega) ⟨e38, k + 1, by omega, ?_, rfl⟩
        rw [hf, h9]; rfl
    (try simp (config := { maxSteps := 1000000 }) (disch := first | exact Nat.le_of_ble_eq_true rfl | omega) only [AXS, AXB, J.dst, reduceIte, Nat.reduceEqDiff, Nat.reduceAdd, Nat.reduceMul, Nat.reduceLT, Nat.reduceLeDiff]); rw [f67c5_eq]; (try simp (config := { maxSteps := 1000000 }) (disch := first | exact Nat.le_of_ble_eq_true rfl | omega) only [AXS, AXB, J.dst, reduceIte, Nat.reduceEqDiff, Nat.reduceAdd, Nat.reduceMul, Nat.reduceLT, Nat.reduceLeDiff, f67r0, f67r1, f67r2, f67r3, f67r4, f67r5, f67r6])
    rw [f67c6_eq]
    refine drw_lt ?_
    simp (config := { maxSteps := 1000000 }) (disch := first | exact Nat.le_of_ble_eq_true rfl | omega) only [AXJ, AXS, AXB, J.dst, reduceIte, Nat.reduceEqDiff, Nat.reduceAdd, Nat.reduceMul, Nat.reduceLT, Nat.reduceLeDiff, f67r3, row_cv hrow, B1.rd, eSpn, hkey]
    refine ⟨by omega, by omega, by omega, by omega, ?_⟩
    refine in_ok x.key s ?_
    intro h7 e7
    refine ⟨kp_ext (Nat.le_refl _) e7, ?_⟩
    have seg : ∀ (t1 : Bool), (inS s x.key && x.locked) = t1 → wL Try.prog (some ⟨(· < h4.size), h4⟩) f67r3a 0 (fun σ h => wC Try.prog f67c7 (X.inBlock 1 (X.then (fun σ h => wC Try.prog f67c9 Q' σ h) Q')) σ h)
        [(28, .bool t1), (0, .slice (some ⟨b, o, none⟩) cs.length c), (4, ptr b1 0), (5, ptr b2 0), (6, ptr b0 0), (8, vi k)] h7 := by
      intro t1 ht1
      cases t1 with
      | false =>
        have : (inS s x.key && blocksP t x) = false := by
          unfold blocksP
          cases h1 : inS s x.key
          · rfl
          · rw [h1] at ht1; simp at ht1; simp [ht1]
        rw [this] at fin
        simp (config := { maxSteps := 1000000 }) (disch := first | exact Nat.le_of_ble_eq_true rfl | omega) only [AXJ, AXS, AXB, J.dst, reduceIte, Nat.reduceEqDiff, Nat.reduceAdd, Nat.reduceMul, Nat.reduceLT, Nat.reduceLeDiff, f67r3a, Bool.false_eq_true]
        exact ⟨fun h => h.elim, fin _ e7⟩
      | true =>
        have : (inS s x.key && blocksP t x) = !Stamp.lt t x.lock.at_ := by
          simp only [Bool.and_eq_true] at ht1
          unfold blocksP; rw [ht1.1, ht1.2]; rfl
        rw [this] at fin
        simp (config := { maxSteps := 1000000 }) (disch := first | exact Nat.le_of_ble_eq_true rfl | omega) only [AXJ, AXS, AXB, J.dst, reduceIte, Nat.reduceEqDiff, Nat.reduceAdd, Nat.reduceMul, Nat.reduceLT, Nat.reduceLeDiff, f67r3a, row_cv hrow, B2.rd, eStamp, hlo]
        refine ⟨fun _ => by omega, fun _ => by omega, fun _ => by omega, fun _ => by omega, ?_⟩
        refine rless_ok t x.lock.at_ _ ?_
        intro h8 e8
        refine ⟨kp_ext e7.size e8, ?_⟩
        simp (config := { maxSteps := 1000000 }) (disch := first | exact Nat.le_of_ble_eq_true rfl | omega) only [AXJ, AXS, AXB, J.dst, reduceIte, Nat.reduceEqDiff, Nat.reduceAdd, Nat.reduceMul, Nat.reduceLT, Nat.reduceLeDiff]
        exact fin _ (e7.trans e8)
    simp (config := { maxSteps := 1000000 }) (disch := first | exact Nat.le_of_ble_eq_true rfl | omega) only [AXJ, AXS, AXB, J.dst, reduceIte, Nat.reduceEqDiff, Nat.reduceAdd, Nat.reduceMul, Nat.reduceLT, Nat.reduceLeDiff, f67r3, row_cv hrow, hlk]
    refine ⟨fun _ => by omega, fun _ => by omega, fun _ => by omega, ?_⟩
    exact seg _ rfl
  · have hkl : k = cs.length := by have := of_decide_eq_false hh; omega
    refine hex _ _ ?_
    (try simp (config := { maxSteps := 1000000 }) (disch := first | exact Nat.le_of_ble_eq_true rfl | omega) only [AXS, AXB, J.dst, reduceIte, Nat.reduceEqDiff, Nat.reduceAdd, Nat.reduceMul, Nat.reduceLT, Nat.reduceLeDiff]); rw [f67c10_eq]; (try simp (config := { maxSteps := 1000000 }) (disch := first | exact Nat.le_of_ble_eq_true rfl | omega) only [AXS, AXB, J.dst, reduceIte, Nat.reduceEqDiff, Nat.reduceAdd, Nat.reduceMul, Nat.reduceLT, Nat.reduceLeDiff, f67r0, f67r1, f67r2, f67r3, f67r4, f67r5, f67r6])
    refine wL_stN rfl rfl rfl B0 (by decide) (one_lck noLock) ?_; rintro h10 u10 (B10 : Blk _ _ _ (eLck noLock))
    simp (config := { maxSteps := 1000000 }) (disch := first | exact Nat.le_of_ble_eq_true rfl | omega) only [AXS, AXB, J.dst, reduceIte, Nat.reduceEqDiff, Nat.reduceAdd, Nat.reduceMul, Nat.reduceLT, Nat.reduceLeDiff, B10.rd]
    have := hR h10 (u10.ext (e02.trans e4) (by omega))
    rw [hf, hkl, List.drop_length] at this
    exact this

theorem rheldG (g : Gd n cs) (hn : n ≤ 900000) (S : SlC B h a cs) (key : ByteArray) (hR : ∀ h', Ext h h' → R (.tuple #[.agg (eLck (heldK cs key).1).toArray, .bool (heldK cs key).2]) h') : CallsH Try.prog 71 [.slice a cs.length c, .string key] h R := by
  obtain ⟨z1, z2, z3, z4, z5, z6⟩ := szAll g.sz hn
  refine f71ok (by simp) ?_
  (try simp (config := { maxSteps := 1000000 }) (disch := first | exact Nat.le_of_ble_eq_true rfl | omega) only [AXS, AXB, J.dst, reduceIte, Nat.reduceEqDiff, Nat.reduceAdd, Nat.reduceMul, Nat.reduceLT, Nat.reduceLeDiff]); rw [f71c0_eq]; (try simp (config := { maxSteps := 1000000 }) (disch := first | exact Nat.le_of_ble_eq_true rfl | omega) only [AXS, AXB, J.dst, reduceIte, Nat.reduceEqDiff, Nat.reduceAdd, Nat.reduceMul, Nat.reduceLT, Nat.reduceLeDiff, f71r0, f71r1, f71r2, f71r3, f71r4])
  refine wL_newN ?_; rintro b1 h1 e1 s1 hb1 B1
  (try simp (config := { maxSteps := 1000000 }) (disch := first | exact Nat.le_of_ble_eq_true rfl | omega) only [AXS, AXB, J.dst, reduceIte, Nat.reduceEqDiff, Nat.reduceAdd, Nat.reduceMul, Nat.reduceLT, Nat.reduceLeDiff]); rw [f71c1_eq]; (try simp (config := { maxSteps := 1000000 }) (disch := first | exact Nat.le_of_ble_eq_true rfl | omega) only [AXS, AXB, J.dst, reduceIte, Nat.reduceEqDiff, Nat.reduceAdd, Nat.reduceMul, Nat.reduceLT, Nat.reduceLeDiff, f71r0, f71r1, f71r2, f71r3, f71r4])
  refine rfind_ok cs key _ (S.ext e1) z3 ?_
  refine ⟨trivial, ?_⟩
  have hcell := findK_cell cs key
  have hlt := findK_lt cs key
  have fin0 : heldK cs key = (noLock, false) → ∀ τ, AX.look τ 4 = some (ptr b1 0) → wC Try.prog f71c4 (endW [Rs.cell 4 9, Rs.tmp 5] R) τ h1 := by
    intro hk τ l4
    rw [f71c4_eq]
    simp (config := { maxSteps := 1000000 }) (disch := first | exact Nat.le_of_ble_eq_true rfl | omega) only [AXS, AXB, J.dst, reduceIte, Nat.reduceEqDiff, Nat.reduceAdd, Nat.reduceMul, Nat.reduceLT, Nat.reduceLeDiff, f71r3, l4]
    refine wL_stN (o := 0) (by exact l4) rfl rfl B1 (by decide) (one_lck noLock) ?_; rintro h3 u3 (B3 : Blk _ _ _ (eLck noLock))
    simp (config := { maxSteps := 1000000 }) (disch := first | exact Nat.le_of_ble_eq_true rfl | omega) only [AXS, AXB, J.dst, reduceIte, Nat.reduceEqDiff, Nat.reduceAdd, Nat.reduceMul, Nat.reduceLT, Nat.reduceLeDiff, B3.rd, l4]
    have := hR _ (u3.ext e1 (by omega))
    rw [hk] at this
    exact this
  try simp (config := { maxSteps := 1000000 }) (disch := first | exact Nat.le_of_ble_eq_true rfl | omega) only [AXS, AXB, J.dst, reduceIte, Nat.reduceEqDiff, Nat.reduceAdd, Nat.reduceMul, Nat.reduceLT, Nat.reduceLeDiff]
  rw [f71c2_eq]
  by_cases hneg : findK cs key < 0
  · rw [if_pos hneg] at hcell
    simp (config := { maxSteps := 1000000 }) (disch := first | exact Nat.le_of_ble_eq_true rfl | omega) only [AXJ, AXS, AXB, J.dst, reduceIte, Nat.reduceEqDiff, Nat.reduceAdd, Nat.reduceMul, Nat.reduceLT, Nat.reduceLeDiff, f71r2, decide_eq_true hneg]
    rw [f71c3_eq]
    simp (config := { maxSteps := 1000000 }) (disch := first | exact Nat.le_of_ble_eq_true rfl | omega) only [AXS, AXB, J.dst, reduceIte, Nat.reduceEqDiff, Nat.reduceAdd, Nat.reduceMul, Nat.reduceLT, Nat.reduceLeDiff]
    exact fin0 (by unfold heldK; rw [← hcell]) _ rfl
  · rw [if_neg hneg] at hcell
    obtain ⟨k, hk⟩ : ∃ k : Nat, findK cs key = k := ⟨(findK cs key).toNat, by omega⟩
    rw [hk, Int.toNat_natCast] at hcell
    rw [hk] at hlt
    obtain ⟨x, hx⟩ := get_ex (show k < cs.length by omega)
    rw [hx] at hcell
    obtain ⟨b, o, v, rfl, _, hrow, hcr⟩ := (S.ext e1).elem hx
    have hlk := hcr.locked
    have hd : decide (findK cs key < 0) = false := decide_eq_false hneg
    rw [hk] at hd
    rw [hk]
    simp (config := { maxSteps := 1000000 }) (disch := first | exact Nat.le_of_ble_eq_true rfl | omega) only [AXJ, AXS, AXB, J.dst, reduceIte, Nat.reduceEqDiff, Nat.reduceAdd, Nat.reduceMul, Nat.reduceLT, Nat.reduceLeDiff, f71r2, hd, row_cv hrow, hlk]
    refine ⟨fun _ => by omega, fun _ => by omega, ?_⟩
    rw [f71c3_eq]
    simp (config := { maxSteps := 1000000 }) (disch := first | exact Nat.le_of_ble_eq_true rfl | omega) only [AXS, AXB, J.dst, reduceIte, Nat.reduceEqDiff, Nat.reduceAdd, Nat.reduceMul, Nat.reduceLT, Nat.reduceLeDiff]
    refine ⟨fun h3 => ?_, fun h3 => ?_⟩
    · have hl : x.locked = false := by simpa using h3
      exact fin0 (by unfold heldK; rw [← hcell]; simp [hl]) _ rfl
    · have hl : x.locked = true := by simpa using h3
      (try simp (config := { maxSteps := 1000000 }) (disch := first | exact Nat.le_of_ble_eq_true rfl | omega) only [AXS, AXB, J.dst, reduceIte, Nat.reduceEqDiff, Nat.reduceAdd, Nat.reduceMul, Nat.reduceLT, Nat.reduceLeDiff]); rw [f71c5_eq]; (try simp (config := { maxSteps := 1000000 }) (disch := first | exact Nat.le_of_ble_eq_true rfl | omega) only [AXS, AXB, J.dst, reduceIte, Nat.reduceEqDiff, Nat.reduceAdd, Nat.reduceMul, Nat.reduceLT, Nat.reduceLeDiff, f71r0, f71r1, f71r2, f71r3, f71r4, row_cv hrow])
      refine ⟨by omega, by omega, ?_⟩
      refine wL_stN rfl rfl rfl B1 (by decide) (one_lck v.lock) ?_; rintro h3 u3 (B3 : Blk _ _ _ (eLck v.lock))
      simp (config := { maxSteps := 1000000 }) (disch := first | exact Nat.le_of_ble_eq_true rfl | omega) only [AXS, AXB, J.dst, reduceIte, Nat.reduceEqDiff, Nat.reduceAdd, Nat.reduceMul, Nat.reduceLT, Nat.reduceLeDiff, B3.rd]
      have := hR _ (u3.ext e1 (by omega))
      have hk : heldK cs key = (v.lock, true) := by unfold heldK; rw [← hcell, hcr.lock]; simp [hl]
      rw [hk] at this
      exact this

theorem rmineG (g : Gd n cs) (hn : n ≤ 900000) (S : SlC B h a cs) (by_ : Try4) (hR : ∀ h', Ext h h' → R (.bool (mineL cs by_)) h') : CallsH Try.prog 70 [.slice a cs.length c, .agg (eTry by_).toArray] h R := by
  obtain ⟨z1, z2, z3, z4, z5, z6⟩ := szAll g.sz hn
  have hbig : big = 1000000 := rfl
  refine f70ok (by simp) ?_
  (try simp (config := { maxSteps := 1000000 }) (disch := first | exact Nat.le_of_ble_eq_true rfl | omega) only [AXS, AXB, J.dst, reduceIte, Nat.reduceEqDiff, Nat.reduceAdd, Nat.reduceMul, Nat.reduceLT, Nat.reduceLeDiff]); rw [f70c0_eq]; (try simp (config := { maxSteps := 1000000 }) (disch := first | exact Nat.le_of_ble_eq_true rfl | omega) only [AXS, AXB, J.dst, reduceIte, Nat.reduceEqDiff, Nat.reduceAdd, Nat.reduceMul, Nat.reduceLT, Nat.reduceLeDiff, f70r0, f70r1, f70r2, f70r3, f70r4, f70r5, f70r6])
  refine wL_boxN rfl ?_; rintro b1 h1 e1 s1 hb1 (B1 : Blk _ _ _ (eTry by_))
  (try simp (config := { maxSteps := 1000000 }) (disch := first | exact Nat.le_of_ble_eq_true rfl | omega) only [AXS, AXB, J.dst, reduceIte, Nat.reduceEqDiff, Nat.reduceAdd, Nat.reduceMul, Nat.reduceLT, Nat.reduceLeDiff]); rw [f70c1_eq]; (try simp (config := { maxSteps := 1000000 }) (disch := first | exact Nat.le_of_ble_eq_true rfl | omega) only [AXS, AXB, J.dst, reduceIte, Nat.reduceEqDiff, Nat.reduceAdd, Nat.reduceMul, Nat.reduceLT, Nat.reduceLeDiff, f70r0, f70r1, f70r2, f70r3, f70r4, f70r5, f70r6])
  rw [f70c2_eq]
  refine loop_in (fun n σ h' => h' = h1 ∧ ∃ k : Nat, k + n = cs.length ∧ σ = [(0, .slice a cs.length c), (3, ptr b1 0), (5, vi k)] ∧ ∀ j c, j < k → cs[j]? = some c → (c.locked && decide (c.lock.by_ = by_)) = false)
    cs.length ⟨rfl, 0, by omega, rfl, by intros; omega⟩ ?_
  rintro m σ h4 ⟨rfl, k, hk, rfl, hnk⟩ Q' hnx hex hrt _
  have hany := anyK cs (fun c => c.locked && decide (c.lock.by_ = by_)) k hnk
  (try simp (config := { maxSteps := 1000000 }) (disch := first | exact Nat.le_of_ble_eq_true rfl | omega) only [AXS, AXB, J.dst, reduceIte, Nat.reduceEqDiff, Nat.reduceAdd, Nat.reduceMul, Nat.reduceLT, Nat.reduceLeDiff]); rw [f70c3_eq]; (try simp (config := { maxSteps := 1000000 }) (disch := first | exact Nat.le_of_ble_eq_true rfl | omega) only [AXS, AXB, J.dst, reduceIte, Nat.reduceEqDiff, Nat.reduceAdd, Nat.reduceMul, Nat.reduceLT, Nat.reduceLeDiff, f70r0, f70r1, f70r2, f70r3, f70r4, f70r5, f70r6]); rw [f70c4_eq]; (try simp (config := { maxSteps := 1000000 }) (disch := first | exact Nat.le_of_ble_eq_true rfl | omega) only [AXS, AXB, J.dst, reduceIte, Nat.reduceEqDiff, Nat.reduceAdd, Nat.reduceMul, Nat.reduceLT, Nat.reduceLeDiff, f70r0, f70r1, f70r2, f70r3, f70r4, f70r5, f70r6])
  refine ⟨fun h2 => ?_, fun h2 => ?_⟩
  · have hkl : k < cs.length := by have := of_decide_eq_true h2; omega
    obtain ⟨x, hx⟩ := get_ex hkl
    obtain ⟨b, o, v, rfl, _, hrow, hcr⟩ := (S.ext e1).elem hx
    have hlb := hrow.lt (by rw [eCV_len]; omega)
    have hl1 := B1.lt
    have hlk := hcr.locked
    have hlo := hcr.lock
    (try simp (config := { maxSteps := 1000000 }) (disch := first | exact Nat.le_of_ble_eq_true rfl | omega) only [AXS, AXB, J.dst, reduceIte, Nat.reduceEqDiff, Nat.reduceAdd, Nat.reduceMul, Nat.reduceLT, Nat.reduceLeDiff]); rw [f70c5_eq]; (try simp (config := { maxSteps := 1000000 }) (disch := first | exact Nat.le_of_ble_eq_true rfl | omega) only [AXS, AXB, J.dst, reduceIte, Nat.reduceEqDiff, Nat.reduceAdd, Nat.reduceMul, Nat.reduceLT, Nat.reduceLeDiff, f70r0, f70r1, f70r2, f70r3, f70r4, f70r5, f70r6])
    rw [f70c6_eq]
    refine drw_lt ?_
    simp (config := { maxSteps := 1000000 }) (disch := first | exact Nat.le_of_ble_eq_true rfl | omega) only [AXJ, AXS, AXB, J.dst, reduceIte, Nat.reduceEqDiff, Nat.reduceAdd, Nat.reduceMul, Nat.reduceLT, Nat.reduceLeDiff, f70r3, row_cv hrow, B1.rd, eTry, eqA_try, hlk, hlo]
    refine ⟨by omega, by omega, by omega, fun _ => by omega, fun _ => by omega, fun _ => by omega, fun _ => by omega, ?_⟩
    rw [f70c7_eq]
    simp (config := { maxSteps := 1000000 }) (disch := first | exact Nat.le_of_ble_eq_true rfl | omega) only [AXS, AXB, J.dst, reduceIte, Nat.reduceEqDiff, Nat.reduceAdd, Nat.reduceMul, Nat.reduceLT, Nat.reduceLeDiff]
    refine ⟨fun h4 => ?_, fun h4 => ?_⟩
    · (try simp (config := { maxSteps := 1000000 }) (disch := first | exact Nat.le_of_ble_eq_true rfl | omega) only [AXS, AXB, J.dst, reduceIte, Nat.reduceEqDiff, Nat.reduceAdd, Nat.reduceMul, Nat.reduceLT, Nat.reduceLeDiff]); rw [f70c8_eq]; (try simp (config := { maxSteps := 1000000 }) (disch := first | exact Nat.le_of_ble_eq_true rfl | omega) only [AXS, AXB, J.dst, reduceIte, Nat.reduceEqDiff, Nat.reduceAdd, Nat.reduceMul, Nat.reduceLT, Nat.reduceLeDiff, f70r0, f70r1, f70r2, f70r3, f70r4, f70r5, f70r6])
      refine hrt _ _ ?_
      simp (config := { maxSteps := 1000000 }) (disch := first | exact Nat.le_of_ble_eq_true rfl | omega) only [AXS, AXB, J.dst, reduceIte, Nat.reduceEqDiff, Nat.reduceAdd, Nat.reduceMul, Nat.reduceLT, Nat.reduceLeDiff]
      have := hR _ e1
      unfold mineL at this
      rw [hany.1 x hx h4] at this
      exact this
    · (try simp (config := { maxSteps := 1000000 }) (disch := first | exact Nat.le_of_ble_eq_true rfl | omega) only [AXS, AXB, J.dst, reduceIte, Nat.reduceEqDiff, Nat.reduceAdd, Nat.reduceMul, Nat.reduceLT, Nat.reduceLeDiff]); rw [f70c9_eq]; (try simp (config := { maxSteps := 1000000 }) (disch := first | exact Nat.le_of_ble_eq_true rfl | omega) only [AXS, AXB, J.dst, reduceIte, Nat.reduceEqDiff, Nat.reduceAdd, Nat.reduceMul, Nat.reduceLT, Nat.reduceLeDiff, f70r0, f70r1, f70r2, f70r3, f70r4, f70r5, f70r6])
      rw [i64_wrap (by omega) (by omega)]
      refine hnx (m - 1) _ _ (by omega) ⟨rfl, k + 1, by omega, rfl, ?_⟩
      intro j c' hj hc'
      rcases Nat.lt_or_ge j k with hlt | hge
      · exact hnk j c' hlt hc'
      · have : j = k := by omega
        subst this
        rw [hx] at hc'; cases hc'; exact h4
  · have hkl : k = cs.length := by have := of_decide_eq_false h2; omega
    refine hex _ _ ?_
    (try simp (config := { maxSteps := 1000000 }) (disch := first | exact Nat.le_of_ble_eq_true rfl | omega) only [AXS, AXB, J.dst, reduceIte, Nat.reduceEqDiff, Nat.reduceAdd, Nat.reduceMul, Nat.reduceLT, Nat.reduceLeDiff]); rw [f70c10_eq]; (try simp (config := { maxSteps := 1000000 }) (disch := first | exact Nat.le_of_ble_eq_true rfl | omega) only [AXS, AXB, J.dst, reduceIte, Nat.reduceEqDiff, Nat.reduceAdd, Nat.reduceMul, Nat.reduceLT, Nat.reduceLeDiff, f70r0, f70r1, f70r2, f70r3, f70r4, f70r5, f70r6])
    have := hR _ e1
    unfold mineL at this
    rw [hany.2 hkl] at this
    exact this
end
end Go.Proofs.Ytefghfgmkndikaa
/-
  Walks: the document's May.
-/
namespace Go.Proofs.Ytefghfgmkndikaa
open Go Go.AX

set_option maxHeartbeats 4000000 in
theorem rmay_ok {B : Nat → Prop} {a : Option Addr} {c : Nat} (cs : List Cell) (h : Heap) (S : SlC B h a cs) (hn : cs.length ≤ big) (F : ∀ c ∈ cs, c.vers.length ≤ big) {R : Value → Heap → Prop}
    (hR : ∀ b, (b = true ↔ MayP cs) → ∀ h', Ext h h' → R (.bool b) h') : CallsH Try.prog 51 [.slice a cs.length c] h R := by
  have hbig : big = 1000000 := rfl
  refine f51ok (by simp) ?_
  (try simp (config := { maxSteps := 1000000 }) (disch := first | exact Nat.le_of_ble_eq_true rfl | omega) only [AXS, AXB, J.dst, reduceIte, Nat.reduceEqDiff, Nat.reduceAdd, Nat.reduceMul, Nat.reduceLT, Nat.reduceLeDiff]); rw [f51c0_eq]; (try simp (config := { maxSteps := 1000000 }) (disch := first | exact Nat.le_of_ble_eq_true rfl | omega) only [AXS, AXB, J.dst, reduceIte, Nat.reduceEqDiff, Nat.reduceAdd, Nat.reduceMul, Nat.reduceLT, Nat.reduceLeDiff, f51r0, f51r1, f51r2, f51r3, f51r4, f51r5, f51r6, f51r7, f51r8, f51r9, f51r10, f51r11, f51r12, f51r13]); rw [f51c1_eq]; (try simp (config := { maxSteps := 1000000 }) (disch := first | exact Nat.le_of_ble_eq_true rfl | omega) only [AXS, AXB, J.dst, reduceIte, Nat.reduceEqDiff, Nat.reduceAdd, Nat.reduceMul, Nat.reduceLT, Nat.reduceLeDiff, f51r0, f51r1, f51r2, f51r3, f51r4, f51r5, f51r6, f51r7, f51r8, f51r9, f51r10, f51r11, f51r12, f51r13])
  rw [f51c2_eq]
  refine loop_in (fun n σ h' => Ext h h' ∧ ∃ k : Nat, k + n = cs.length ∧ σ = [(0, .slice a cs.length c), (3, vi k)] ∧
      ∀ i x, i < k → cs[i]? = some x → OkC cs i x ∧ ∀ k v, x.vers[k]? = some v → OkV x.vers k v)
    cs.length ⟨Ext.refl _, 0, by omega, rfl, by intros; omega⟩ ?_
  rintro n σ h' ⟨e1, k, hk, rfl, hok⟩ Q' hnx hex hrt _
  (try simp (config := { maxSteps := 1000000 }) (disch := first | exact Nat.le_of_ble_eq_true rfl | omega) only [AXS, AXB, J.dst, reduceIte, Nat.reduceEqDiff, Nat.reduceAdd, Nat.reduceMul, Nat.reduceLT, Nat.reduceLeDiff]); rw [f51c3_eq]; (try simp (config := { maxSteps := 1000000 }) (disch := first | exact Nat.le_of_ble_eq_true rfl | omega) only [AXS, AXB, J.dst, reduceIte, Nat.reduceEqDiff, Nat.reduceAdd, Nat.reduceMul, Nat.reduceLT, Nat.reduceLeDiff, f51r0, f51r1, f51r2, f51r3, f51r4, f51r5, f51r6, f51r7, f51r8, f51r9, f51r10, f51r11, f51r12, f51r13]); rw [f51c4_eq]; (try simp (config := { maxSteps := 1000000 }) (disch := first | exact Nat.le_of_ble_eq_true rfl | omega) only [AXS, AXB, J.dst, reduceIte, Nat.reduceEqDiff, Nat.reduceAdd, Nat.reduceMul, Nat.reduceLT, Nat.reduceLeDiff, f51r0, f51r1, f51r2, f51r3, f51r4, f51r5, f51r6, f51r7, f51r8, f51r9, f51r10, f51r11, f51r12, f51r13])
  refine ⟨fun h2 => ?_, fun h2 => ?_⟩
  · have hkl : k < cs.length := by have := of_decide_eq_true h2; omega
    obtain ⟨x, hx⟩ := get_ex hkl
    obtain ⟨b, o, v, rfl, _, hrow, hcr⟩ := (S.ext e1).elem hx
    have hno : ¬ MayP cs → ∀ h8, Ext h' h8 → Q' .ret [(2, .bool false)] h8 := fun hm h8 e8 => hrt _ _ (by
      try simp (config := { maxSteps := 1000000 }) (disch := first | exact Nat.le_of_ble_eq_true rfl | omega) only [AXS, AXB, J.dst, reduceIte, Nat.reduceEqDiff, Nat.reduceAdd, Nat.reduceMul, Nat.reduceLT, Nat.reduceLeDiff]
      exact hR false ⟨fun h => (by cases h), fun h => absurd h hm⟩ _ (e1.trans e8))
    (try simp (config := { maxSteps := 1000000 }) (disch := first | exact Nat.le_of_ble_eq_true rfl | omega) only [AXS, AXB, J.dst, reduceIte, Nat.reduceEqDiff, Nat.reduceAdd, Nat.reduceMul, Nat.reduceLT, Nat.reduceLeDiff]); rw [f51c5_eq]; (try simp (config := { maxSteps := 1000000 }) (disch := first | exact Nat.le_of_ble_eq_true rfl | omega) only [AXS, AXB, J.dst, reduceIte, Nat.reduceEqDiff, Nat.reduceAdd, Nat.reduceMul, Nat.reduceLT, Nat.reduceLeDiff, f51r0, f51r1, f51r2, f51r3, f51r4, f51r5, f51r6, f51r7, f51r8, f51r9, f51r10, f51r11, f51r12, f51r13, row_cv hrow]); rw [f51c6_eq]; (try simp (config := { maxSteps := 1000000 }) (disch := first | exact Nat.le_of_ble_eq_true rfl | omega) only [AXS, AXB, J.dst, reduceIte, Nat.reduceEqDiff, Nat.reduceAdd, Nat.reduceMul, Nat.reduceLT, Nat.reduceLeDiff, f51r0, f51r1, f51r2, f51r3, f51r4, f51r5, f51r6, f51r7, f51r8, f51r9, f51r10, f51r11, f51r12, f51r13, row_cv hrow])
    refine ⟨by omega, by omega, ?_⟩
    refine wL_newN ?_; rintro b4 h4 e4 s4 hb4 B4
    try simp (config := { maxSteps := 1000000 }) (disch := first | exact Nat.le_of_ble_eq_true rfl | omega) only [AXS, AXB, J.dst, reduceIte, Nat.reduceEqDiff, Nat.reduceAdd, Nat.reduceMul, Nat.reduceLT, Nat.reduceLeDiff]
    refine wL_stN rfl rfl rfl B4 (by decide) (eCV_one v) ?_; rintro h5 u5 (B5 : Blk _ _ _ (eCV v))
    have e5 := u5.ext e4 (by omega)
    try simp (config := { maxSteps := 1000000 }) (disch := first | exact Nat.le_of_ble_eq_true rfl | omega) only [AXS, AXB, J.dst, reduceIte, Nat.reduceEqDiff, Nat.reduceAdd, Nat.reduceMul, Nat.reduceLT, Nat.reduceLeDiff]
    have hlt := B5.lt
    have hvn := hcr.vn
    have fin : ∀ t : Bool, (t = false ↔ OkC cs k x) → wC Try.prog f51c8 (X.inBlock 1 (X.then (fun σ h => wC Try.prog f51c20 Q' σ h) Q')) [(62, .bool t), (0, .slice (some ⟨b, o, none⟩) cs.length c), (3, vi k), (4, ptr b4 0)] h5 := by
      intro t ht
      cases t with
      | true =>
        (try simp (config := { maxSteps := 1000000 }) (disch := first | exact Nat.le_of_ble_eq_true rfl | omega) only [AXS, AXB, J.dst, reduceIte, Nat.reduceEqDiff, Nat.reduceAdd, Nat.reduceMul, Nat.reduceLT, Nat.reduceLeDiff]); rw [f51c8_eq]; (try simp (config := { maxSteps := 1000000 }) (disch := first | exact Nat.le_of_ble_eq_true rfl | omega) only [AXS, AXB, J.dst, reduceIte, Nat.reduceEqDiff, Nat.reduceAdd, Nat.reduceMul, Nat.reduceLT, Nat.reduceLeDiff, f51r0, f51r1, f51r2, f51r3, f51r4, f51r5, f51r6, f51r7, f51r8, f51r9, f51r10, f51r11, f51r12, f51r13]); rw [f51c9_eq]; (try simp (config := { maxSteps := 1000000 }) (disch := first | exact Nat.le_of_ble_eq_true rfl | omega) only [AXS, AXB, J.dst, reduceIte, Nat.reduceEqDiff, Nat.reduceAdd, Nat.reduceMul, Nat.reduceLT, Nat.reduceLeDiff, f51r0, f51r1, f51r2, f51r3, f51r4, f51r5, f51r6, f51r7, f51r8, f51r9, f51r10, f51r11, f51r12, f51r13])
        refine hno ?_ _ e5
        intro hm
        have := ht.2 (hm k x hx).1
        cases this
      | false =>
        have hok0 := ht.1 rfl
        (try simp (config := { maxSteps := 1000000 }) (disch := first | exact Nat.le_of_ble_eq_true rfl | omega) only [AXS, AXB, J.dst, reduceIte, Nat.reduceEqDiff, Nat.reduceAdd, Nat.reduceMul, Nat.reduceLT, Nat.reduceLeDiff]); rw [f51c8_eq]; (try simp (config := { maxSteps := 1000000 }) (disch := first | exact Nat.le_of_ble_eq_true rfl | omega) only [AXS, AXB, J.dst, reduceIte, Nat.reduceEqDiff, Nat.reduceAdd, Nat.reduceMul, Nat.reduceLT, Nat.reduceLeDiff, f51r0, f51r1, f51r2, f51r3, f51r4, f51r5, f51r6, f51r7, f51r8, f51r9, f51r10, f51r11, f51r12, f51r13]); rw [f51c10_eq]; (try simp (config := { maxSteps := 1000000 }) (disch := first | exact Nat.le_of_ble_eq_true rfl | omega) only [AXS, AXB, J.dst, reduceIte, Nat.reduceEqDiff, Nat.reduceAdd, Nat.reduceMul, Nat.reduceLT, Nat.reduceLeDiff, f51r0, f51r1, f51r2, f51r3, f51r4, f51r5, f51r6, f51r7, f51r8, f51r9, f51r10, f51r11, f51r12, f51r13])
        rw [f51c11_eq]
        have SV := hcr.vers.ext e5
        have hvl := F x (List.mem_of_getElem? hx)
        refine loop_in1 (fun n' σ h' => Ext h5 h' ∧ ∃ i : Nat, i + n' = x.vers.length ∧ σ = [(0, .slice (some ⟨b, o, none⟩) cs.length c), (3, vi k), (4, ptr b4 0), (5, vi i)] ∧
          ∀ j w, j < i → x.vers[j]? = some w → OkV x.vers j w) x.vers.length ⟨Ext.refl _, 0, by omega, rfl, by intros; omega⟩ ?_
        rintro n2 σ h6 ⟨e6, i, hi, rfl, hokv⟩ Q2 hnx2 hex2 hrt2 _
        have B56 := B5.ext e6
        (try simp (config := { maxSteps := 1000000 }) (disch := first | exact Nat.le_of_ble_eq_true rfl | omega) only [AXS, AXB, J.dst, reduceIte, Nat.reduceEqDiff, Nat.reduceAdd, Nat.reduceMul, Nat.reduceLT, Nat.reduceLeDiff]); rw [f51c12_eq]; (try simp (config := { maxSteps := 1000000 }) (disch := first | exact Nat.le_of_ble_eq_true rfl | omega) only [AXS, AXB, J.dst, reduceIte, Nat.reduceEqDiff, Nat.reduceAdd, Nat.reduceMul, Nat.reduceLT, Nat.reduceLeDiff, f51r0, f51r1, f51r2, f51r3, f51r4, f51r5, f51r6, f51r7, f51r8, f51r9, f51r10, f51r11, f51r12, f51r13, B56.cel, eCV, hvn])
        (try simp (config := { maxSteps := 1000000 }) (disch := first | exact Nat.le_of_ble_eq_true rfl | omega) only [AXS, AXB, J.dst, reduceIte, Nat.reduceEqDiff, Nat.reduceAdd, Nat.reduceMul, Nat.reduceLT, Nat.reduceLeDiff]); rw [f51c13_eq]; (try simp (config := { maxSteps := 1000000 }) (disch := first | exact Nat.le_of_ble_eq_true rfl | omega) only [AXS, AXB, J.dst, reduceIte, Nat.reduceEqDiff, Nat.reduceAdd, Nat.reduceMul, Nat.reduceLT, Nat.reduceLeDiff, f51r0, f51r1, f51r2, f51r3, f51r4, f51r5, f51r6, f51r7, f51r8, f51r9, f51r10, f51r11, f51r12, f51r13])
        refine ⟨fun h7 => ?_, fun h7 => ?_⟩
        · have hil : i < x.vers.length := by have := of_decide_eq_true h7; omega
          obtain ⟨w, hw⟩ := get_ex hil
          obtain ⟨vb, vo, hva, _, hrowv⟩ := (SV.ext e6).elem eVer_len hw
          (try simp (config := { maxSteps := 1000000 }) (disch := first | exact Nat.le_of_ble_eq_true rfl | omega) only [AXS, AXB, J.dst, reduceIte, Nat.reduceEqDiff, Nat.reduceAdd, Nat.reduceMul, Nat.reduceLT, Nat.reduceLeDiff]); rw [f51c14_eq]; (try simp (config := { maxSteps := 1000000 }) (disch := first | exact Nat.le_of_ble_eq_true rfl | omega) only [AXS, AXB, J.dst, reduceIte, Nat.reduceEqDiff, Nat.reduceAdd, Nat.reduceMul, Nat.reduceLT, Nat.reduceLeDiff, f51r0, f51r1, f51r2, f51r3, f51r4, f51r5, f51r6, f51r7, f51r8, f51r9, f51r10, f51r11, f51r12, f51r13, B56.cel, eCV, hvn, hva, row_ver hrowv]); rw [f51c15_eq]; (try simp (config := { maxSteps := 1000000 }) (disch := first | exact Nat.le_of_ble_eq_true rfl | omega) only [AXS, AXB, J.dst, reduceIte, Nat.reduceEqDiff, Nat.reduceAdd, Nat.reduceMul, Nat.reduceLT, Nat.reduceLeDiff, f51r0, f51r1, f51r2, f51r3, f51r4, f51r5, f51r6, f51r7, f51r8, f51r9, f51r10, f51r11, f51r12, f51r13, B56.cel, eCV, hvn, hva, row_ver hrowv])
          refine ⟨by omega, by omega, ?_⟩
          refine wL_newN ?_; rintro b6 h8 e8 s8 hb6 B6
          try simp (config := { maxSteps := 1000000 }) (disch := first | exact Nat.le_of_ble_eq_true rfl | omega) only [AXS, AXB, J.dst, reduceIte, Nat.reduceEqDiff, Nat.reduceAdd, Nat.reduceMul, Nat.reduceLT, Nat.reduceLeDiff]
          refine wL_stN rfl rfl rfl B6 (by decide) (eVer_one w) ?_; rintro h9 u9 (B9 : Blk _ _ _ (eVer w))
          have e9 := u9.ext e8 (by omega)
          have B59 := B56.ext e9
          have hl9 := B9.lt
          have hl5 := B59.lt
          try simp (config := { maxSteps := 1000000 }) (disch := first | exact Nat.le_of_ble_eq_true rfl | omega) only [AXS, AXB, J.dst, reduceIte, Nat.reduceEqDiff, Nat.reduceAdd, Nat.reduceMul, Nat.reduceLT, Nat.reduceLeDiff]
          have fin2 : ∀ (h10 : Heap) (t : Bool), Ext h9 h10 → (t = false ↔ OkV x.vers i w) → wC Try.prog f51c17 (X.inBlock 3 (X.then (fun σ h => wC Try.prog f51c19 Q2 σ h) Q2)) [(98, .bool t), (0, .slice (some ⟨b, o, none⟩) cs.length c), (3, vi k), (4, ptr b4 0), (5, vi i)] h10 := by
            intro h10 t e10 ht
            cases t with
            | true =>
              (try simp (config := { maxSteps := 1000000 }) (disch := first | exact Nat.le_of_ble_eq_true rfl | omega) only [AXS, AXB, J.dst, reduceIte, Nat.reduceEqDiff, Nat.reduceAdd, Nat.reduceMul, Nat.reduceLT, Nat.reduceLeDiff]); rw [f51c17_eq]; (try simp (config := { maxSteps := 1000000 }) (disch := first | exact Nat.le_of_ble_eq_true rfl | omega) only [AXS, AXB, J.dst, reduceIte, Nat.reduceEqDiff, Nat.reduceAdd, Nat.reduceMul, Nat.reduceLT, Nat.reduceLeDiff, f51r0, f51r1, f51r2, f51r3, f51r4, f51r5, f51r6, f51r7, f51r8, f51r9, f51r10, f51r11, f51r12, f51r13]); rw [f51c18_eq]; (try simp (config := { maxSteps := 1000000 }) (disch := first | exact Nat.le_of_ble_eq_true rfl | omega) only [AXS, AXB, J.dst, reduceIte, Nat.reduceEqDiff, Nat.reduceAdd, Nat.reduceMul, Nat.reduceLT, Nat.reduceLeDiff, f51r0, f51r1, f51r2, f51r3, f51r4, f51r5, f51r6, f51r7, f51r8, f51r9, f51r10, f51r11, f51r12, f51r13])
              refine hrt2 _ _ ?_
              try simp (config := { maxSteps := 1000000 }) (disch := first | exact Nat.le_of_ble_eq_true rfl | omega) only [AXS, AXB, J.dst, reduceIte, Nat.reduceEqDiff, Nat.reduceAdd, Nat.reduceMul, Nat.reduceLT, Nat.reduceLeDiff]
              refine hno ?_ _ (e5.trans (e6.trans (e9.trans e10)))
              intro hm
              have := ht.2 ((hm k x hx).2 i w hw)
              cases this
            | false =>
              (try simp (config := { maxSteps := 1000000 }) (disch := first | exact Nat.le_of_ble_eq_true rfl | omega) only [AXS, AXB, J.dst, reduceIte, Nat.reduceEqDiff, Nat.reduceAdd, Nat.reduceMul, Nat.reduceLT, Nat.reduceLeDiff]); rw [f51c17_eq]; (try simp (config := { maxSteps := 1000000 }) (disch := first | exact Nat.le_of_ble_eq_true rfl | omega) only [AXS, AXB, J.dst, reduceIte, Nat.reduceEqDiff, Nat.reduceAdd, Nat.reduceMul, Nat.reduceLT, Nat.reduceLeDiff, f51r0, f51r1, f51r2, f51r3, f51r4, f51r5, f51r6, f51r7, f51r8, f51r9, f51r10, f51r11, f51r12, f51r13]); rw [f51c19_eq]; (try simp (config := { maxSteps := 1000000 }) (disch := first | exact Nat.le_of_ble_eq_true rfl | omega) only [AXS, AXB, J.dst, reduceIte, Nat.reduceEqDiff, Nat.reduceAdd, Nat.reduceMul, Nat.reduceLT, Nat.reduceLeDiff, f51r0, f51r1, f51r2, f51r3, f51r4, f51r5, f51r6, f51r7, f51r8, f51r9, f51r10, f51r11, f51r12, f51r13])
              rw [i64_wrap (by omega) (by omega)]
              refine hnx2 (n2 - 1) _ _ (by omega) ⟨e6.trans (e9.trans e10), i + 1, by omega, rfl, ?_⟩
              intro j u hj hu
              rcases Nat.lt_or_ge j i with hlt | hge
              · exact hokv j u hlt hu
              · have : j = i := by omega
                subst this
                rw [hw] at hu; cases hu
                exact ht.1 rfl
          rw [f51c16_eq]
          refine drw_lt ?_
          have hdz : ((!w.data.toList == ByteArray.toList ⟨#[]⟩)) = !decide (w.data = noB) := by rw [keq_iff]; rfl
          simp (config := { maxSteps := 1000000 }) (disch := first | exact Nat.le_of_ble_eq_true rfl | omega) only [AXJ, AXS, AXB, J.dst, reduceIte, Nat.reduceEqDiff, Nat.reduceAdd, Nat.reduceMul, Nat.reduceLT, Nat.reduceLeDiff, f51r9, B9.cel, eVer, hdz]
          refine ⟨hl9, fun _ => hl9, ?_⟩
          have lst : ∀ (h10 : Heap) (t2 : Bool), Ext h9 h10 → (t2 = false ↔ ∀ u, 0 < i → x.vers[i - 1]? = some u → Stamp.lt u.at_ w.at_ = true) → wC Try.prog f51c17 (X.inBlock 3 (X.then (fun σ h => wC Try.prog f51c19 Q2 σ h) Q2))
              [(98, .bool (w.drop && !decide (w.data = noB) || t2)), (0, .slice (some ⟨b, o, none⟩) cs.length c), (3, vi k), (4, ptr b4 0), (5, vi i)] h10 := by
            intro h10 t2 e10 ht2
            refine fin2 h10 _ e10 ?_
            unfold OkV
            rw [← ht2]
            cases t2 <;> cases w.drop <;> simp
          cases hbad : (w.drop && !decide (w.data = noB)) with
          | true =>
            rw [hbad] at lst
            simp (config := { maxSteps := 1000000 }) (disch := first | exact Nat.le_of_ble_eq_true rfl | omega) only [AXJ, AXS, AXB, J.dst, reduceIte, Nat.reduceEqDiff, Nat.reduceAdd, Nat.reduceMul, Nat.reduceLT, Nat.reduceLeDiff, f51r9a]
            refine ⟨fun h => (by cases h), fin2 h9 true (Ext.refl _) ⟨fun h => (by cases h), fun h => ?_⟩⟩
            simp only [Bool.and_eq_true, Bool.not_eq_true', decide_eq_false_iff_not] at hbad
            exact absurd (h.2 hbad.1) hbad.2
          | false =>
            rw [hbad] at lst
            simp only [Bool.false_or] at lst
            rcases Nat.eq_zero_or_pos i with hz | hp
            · subst hz
              simp (config := { maxSteps := 1000000 }) (disch := first | exact Nat.le_of_ble_eq_true rfl | omega) only [AXJ, AXS, AXB, J.dst, reduceIte, Nat.reduceEqDiff, Nat.reduceAdd, Nat.reduceMul, Nat.reduceLT, Nat.reduceLeDiff, f51r9a, decide_eq_false (show ¬ (((0 : Nat) : Int) > 0) by omega)]
              exact ⟨fun _ _ => hl5, lst _ false (Ext.refl _) (by simp)⟩
            · obtain ⟨u, hu⟩ := get_ex (show i - 1 < x.vers.length by omega)
              obtain ⟨vb', vo', hva', _, hrowu⟩ := (SV.ext (e6.trans e9)).elem eVer_len hu
              rw [hva] at hva'; cases hva'
              have hw1 : IntKind.i64.wrap ((i : Int) - 1) = ((i - 1 : Nat) : Int) := by rw [i64_wrap (by omega) (by omega)]; omega
              have hbl := hrowu.lt (by rw [eVer_len]; omega)
              simp (config := { maxSteps := 1000000 }) (disch := first | exact Nat.le_of_ble_eq_true rfl | omega) only [AXJ, AXS, AXB, J.dst, reduceIte, Nat.reduceEqDiff, Nat.reduceAdd, Nat.reduceMul, Nat.reduceLT, Nat.reduceLeDiff, f51r9a, decide_eq_true (show ((i : Int) > 0) by omega), B59.cel, B9.cel, B9.rd, eCV, hw1, row_ver hrowu, hva, hvn, eVer, eStamp]
              refine ⟨fun _ _ => hl5, fun _ _ => by omega, fun _ _ => by omega, fun _ _ => hbl, fun _ _ => hl9, ?_⟩
              refine rless_ok u.at_ w.at_ _ ?_
              intro h10 e10
              refine ⟨kp_ext (Nat.le_refl _) e10, ?_⟩
              simp (config := { maxSteps := 1000000 }) (disch := first | exact Nat.le_of_ble_eq_true rfl | omega) only [AXJ, AXS, AXB, J.dst, reduceIte, Nat.reduceEqDiff, Nat.reduceAdd, Nat.reduceMul, Nat.reduceLT, Nat.reduceLeDiff]
              refine lst h10 _ e10 ?_
              refine ⟨fun h0 z _ hz => ?_, fun h0 => by rw [h0 u hp hu]; rfl⟩
              rw [hu] at hz; cases hz
              simpa using h0
        · have hil : i = x.vers.length := by have := of_decide_eq_false h7; omega
          refine hex2 _ _ ?_
          (try simp (config := { maxSteps := 1000000 }) (disch := first | exact Nat.le_of_ble_eq_true rfl | omega) only [AXS, AXB, J.dst, reduceIte, Nat.reduceEqDiff, Nat.reduceAdd, Nat.reduceMul, Nat.reduceLT, Nat.reduceLeDiff]); rw [f51c20_eq]; (try simp (config := { maxSteps := 1000000 }) (disch := first | exact Nat.le_of_ble_eq_true rfl | omega) only [AXS, AXB, J.dst, reduceIte, Nat.reduceEqDiff, Nat.reduceAdd, Nat.reduceMul, Nat.reduceLT, Nat.reduceLeDiff, f51r0, f51r1, f51r2, f51r3, f51r4, f51r5, f51r6, f51r7, f51r8, f51r9, f51r10, f51r11, f51r12, f51r13])
          rw [i64_wrap (by omega) (by omega)]
          refine hnx (n - 1) _ _ (by omega) ⟨e1.trans (e5.trans e6), k + 1, by omega, rfl, ?_⟩
          intro j y hj hy
          rcases Nat.lt_or_ge j k with hlt | hge
          · exact hok j y hlt hy
          · have : j = k := by omega
            subst this
            rw [hx] at hy; cases hy
            exact ⟨hok0, fun m u hu => hokv m u (by have := (List.getElem?_eq_some_iff.1 hu).1; omega) hu⟩
    rw [f51c7_eq]
    refine drw_lt ?_
    have hoc : OkC cs k x ↔ ((∀ y, 0 < k → cs[k - 1]? = some y → klt y.key x.key = true) ∧ (x.locked = false → x.lock = noLock) ∧ (x.locked = false → x.vers ≠ []) ∧ (x.lock.drop = true → x.lock.data = noB)) := Iff.rfl
    have hvz : (((x.vers.length : Nat) : Int) == 0) = decide (x.vers = []) := by
      cases x.vers with
      | nil => rfl
      | cons a l => rw [decide_eq_false (by simp)]; simp; omega
    have hdz : ((!x.lock.data.toList == ByteArray.toList ⟨#[]⟩)) = !decide (x.lock.data = noB) := by rw [keq_iff]; rfl
    have hlk := hcr.locked
    have hlc := hcr.lock
    have seg1 : ∀ t : Bool, (t = false ↔ ∀ y, 0 < k → cs[k - 1]? = some y → klt y.key x.key = true) → wL Try.prog (some ⟨(· < h5.size), h5⟩) f51r4a 0 (fun σ h => wC Try.prog f51c8 (X.inBlock 1 (X.then (fun σ h => wC Try.prog f51c20 Q' σ h) Q')) σ h)
        [(29, .bool t), (0, .slice (some ⟨b, o, none⟩) cs.length c), (3, vi k), (4, ptr b4 0)] h5 := by
      intro t ht
      simp (config := { maxSteps := 1000000 }) (disch := first | exact Nat.le_of_ble_eq_true rfl | omega) only [AXJ, AXS, AXB, J.dst, reduceIte, Nat.reduceEqDiff, Nat.reduceAdd, Nat.reduceMul, Nat.reduceLT, Nat.reduceLeDiff, f51r4a, B5.cel, B5.rd, eCV, hlk, hlc, hvn, eqA_no]
      refine ⟨fun _ => hlt, fun _ _ => hlt, ?_⟩
      simp (config := { maxSteps := 1000000 }) (disch := first | exact Nat.le_of_ble_eq_true rfl | omega) only [AXJ, AXS, AXB, J.dst, reduceIte, Nat.reduceEqDiff, Nat.reduceAdd, Nat.reduceMul, Nat.reduceLT, Nat.reduceLeDiff, f51r4b, B5.cel, B5.rd, eCV, hlk, hlc, hvn, hvz]
      refine ⟨fun _ => hlt, fun _ _ => hlt, ?_⟩
      simp (config := { maxSteps := 1000000 }) (disch := first | exact Nat.le_of_ble_eq_true rfl | omega) only [AXJ, AXS, AXB, J.dst, reduceIte, Nat.reduceEqDiff, Nat.reduceAdd, Nat.reduceMul, Nat.reduceLT, Nat.reduceLeDiff, f51r4c, B5.cel, B5.rd, eCV, hlk, hlc, hvn, hdz]
      refine ⟨fun _ => hlt, fun _ _ => hlt, ?_⟩
      refine fin _ ?_
      rw [hoc, ← ht]
      cases t <;> cases x.locked <;> cases x.lock.drop <;> simp [and_assoc]
    rcases Nat.eq_zero_or_pos k with hz | hp
    · subst hz
      simp (config := { maxSteps := 1000000 }) (disch := first | exact Nat.le_of_ble_eq_true rfl | omega) only [AXJ, AXS, AXB, J.dst, reduceIte, Nat.reduceEqDiff, Nat.reduceAdd, Nat.reduceMul, Nat.reduceLT, Nat.reduceLeDiff, f51r4, decide_eq_false (show ¬ (((0 : Nat) : Int) > 0) by omega)]
      exact ⟨fun h => (by cases h), fun h => (by cases h), fun h => (by cases h), seg1 false (by simp)⟩
    · obtain ⟨y, hy⟩ := get_ex (show k - 1 < cs.length by omega)
      obtain ⟨b', o', yv, hb', _, hrowy, hcy⟩ := (S.ext (e1.trans e5)).elem hy
      cases hb'
      have hw1 : IntKind.i64.wrap ((k : Int) - 1) = ((k - 1 : Nat) : Int) := by rw [i64_wrap (by omega) (by omega)]; omega
      have hbl := hrowy.lt (by rw [eCV_len]; omega)
      simp (config := { maxSteps := 1000000 }) (disch := first | exact Nat.le_of_ble_eq_true rfl | omega) only [AXJ, AXS, AXB, J.dst, reduceIte, Nat.reduceEqDiff, Nat.reduceAdd, Nat.reduceMul, Nat.reduceLT, Nat.reduceLeDiff, f51r4, decide_eq_true (show ((k : Int) > 0) by omega), B5.cel, eCV, hw1, row_cv hrowy]
      refine ⟨fun _ => by omega, fun _ => by omega, fun _ => hbl, fun _ => hlt, ?_⟩
      refine seg1 _ ?_
      rw [hcr.key, hcy.key]
      show ((!klt y.key x.key) = false) ↔ _
      refine ⟨fun h0 z _ hz => ?_, fun h0 => by rw [h0 y hp hy]; rfl⟩
      rw [hy] at hz; cases hz
      simpa using h0
  · have hkl : k = cs.length := by have := of_decide_eq_false h2; omega
    refine hex _ _ ?_
    (try simp (config := { maxSteps := 1000000 }) (disch := first | exact Nat.le_of_ble_eq_true rfl | omega) only [AXS, AXB, J.dst, reduceIte, Nat.reduceEqDiff, Nat.reduceAdd, Nat.reduceMul, Nat.reduceLT, Nat.reduceLeDiff]); rw [f51c21_eq]; (try simp (config := { maxSteps := 1000000 }) (disch := first | exact Nat.le_of_ble_eq_true rfl | omega) only [AXS, AXB, J.dst, reduceIte, Nat.reduceEqDiff, Nat.reduceAdd, Nat.reduceMul, Nat.reduceLT, Nat.reduceLeDiff, f51r0, f51r1, f51r2, f51r3, f51r4, f51r5, f51r6, f51r7, f51r8, f51r9, f51r10, f51r11, f51r12, f51r13])
    refine hR true ⟨fun _ i x hx => hok i x (by have := (List.getElem?_eq_some_iff.1 hx).1; omega) hx, fun _ => rfl⟩ _ e1
end Go.Proofs.Ytefghfgmkndikaa
/-
  Walks: the document's scan; whether what is told is the document's.
-/
namespace Go.Proofs.Ytefghfgmkndikaa
open Go Go.AX

section
variable {B : Nat → Prop} {a : Option Addr} {c n : Nat} {cs : List Cell} {h : Heap} {R : Value → Heap → Prop}
theorem rscanG (g : Gd n cs) (hn : n ≤ 900000) (S : SlC B h a cs) (s : Spn) (t : Stamp) (most : Int)
    (hR : ∀ a' c' h', Own h.size h' 99 2 a' (scanL t most (withinL cs s) []).1.length c' ((scanL t most (withinL cs s) []).1.flatMap ePai) → Ext h h' → R (.tuple #[.slice a' (scanL t most (withinL cs s) []).1.length c', vi (scanL t most (withinL cs s) []).2]) h') :
    CallsH Try.prog 68 [.slice a cs.length c, .agg (eSpn s).toArray, .agg (eStamp t).toArray, vi most] h R := by
  obtain ⟨z1, z2, z3, z4, z5, z6⟩ := szAll g.sz hn
  have hbig : big = 1000000 := rfl
  have hsc : scanL t most (withinL cs s) [] = if ((firstP t s cs cs.length).length : Int) > (if 0 > most then 0 else most) then ([], 3) else (firstP t s cs cs.length, 0) := by
    rw [scanL_eq, withinL_eq s g.good.sorted, ← firstP_all]
    generalize firstP t s cs cs.length = ps
    cases ps with
    | nil => simp; split <;> omega
    | cons p ps =>
      by_cases hm : ((p :: ps).length : Int) ≤ most
      · rw [if_pos (.inr (by simpa using hm)), if_neg]
        · rfl
        · simp at hm ⊢; split <;> omega
      · rw [if_neg (by simp at hm ⊢; omega), if_pos]
        simp at hm ⊢; split <;> omega
  rw [hsc] at hR
  refine f68ok (by simp) ?_
  (try simp (config := { maxSteps := 1000000 }) (disch := first | exact Nat.le_of_ble_eq_true rfl | omega) only [AXS, AXB, J.dst, reduceIte, Nat.reduceEqDiff, Nat.reduceAdd, Nat.reduceMul, Nat.reduceLT, Nat.reduceLeDiff]); rw [f68c0_eq]; (try simp (config := { maxSteps := 1000000 }) (disch := first | exact Nat.le_of_ble_eq_true rfl | omega) only [AXS, AXB, J.dst, reduceIte, Nat.reduceEqDiff, Nat.reduceAdd, Nat.reduceMul, Nat.reduceLT, Nat.reduceLeDiff, f68r0, f68r1, f68r2, f68r3, f68r4, f68r5, f68r6, f68r7, f68r8, f68r9, f68r10, f68r11])
  refine wL_boxN rfl ?_; rintro b1 h1 e1 s1 hb1 (B1 : Blk _ _ _ (eSpn s))
  refine wL_boxN rfl ?_; rintro b2 h2 e2 s2 hb2 (B2 : Blk _ _ _ (eStamp t))
  replace B1 := B1.ext e2
  have e02 := e1.trans e2
  (try simp (config := { maxSteps := 1000000 }) (disch := first | exact Nat.le_of_ble_eq_true rfl | omega) only [AXS, AXB, J.dst, reduceIte, Nat.reduceEqDiff, Nat.reduceAdd, Nat.reduceMul, Nat.reduceLT, Nat.reduceLeDiff]); rw [f68c1_eq]; (try simp (config := { maxSteps := 1000000 }) (disch := first | exact Nat.le_of_ble_eq_true rfl | omega) only [AXS, AXB, J.dst, reduceIte, Nat.reduceEqDiff, Nat.reduceAdd, Nat.reduceMul, Nat.reduceLT, Nat.reduceLeDiff, f68r0, f68r1, f68r2, f68r3, f68r4, f68r5, f68r6, f68r7, f68r8, f68r9, f68r10, f68r11]); rw [f68c2_eq]; (try simp (config := { maxSteps := 1000000 }) (disch := first | exact Nat.le_of_ble_eq_true rfl | omega) only [AXS, AXB, J.dst, reduceIte, Nat.reduceEqDiff, Nat.reduceAdd, Nat.reduceMul, Nat.reduceLT, Nat.reduceLeDiff, f68r0, f68r1, f68r2, f68r3, f68r4, f68r5, f68r6, f68r7, f68r8, f68r9, f68r10, f68r11])
  rw [f68c3_eq]
  refine loop_in (fun n σ h' => Ext h2 h' ∧ ∃ (k c1 : Nat) (a1 : Option Addr), k + n = cs.length ∧ Own h2.size h' 99 2 a1 (firstP t s cs k).length c1 ((firstP t s cs k).flatMap ePai) ∧
      σ = [(0, .slice a cs.length c), (3, vi most), (5, ptr b1 0), (6, ptr b2 0), (10, .slice a1 (firstP t s cs k).length c1), (11, vi k)]) cs.length ⟨Ext.refl _, 0, 0, none, by omega, Own.nil _ _ _ _, rfl⟩ ?_
  rintro m σ h4 ⟨e4, k, c1, a1, hk, O, rfl⟩ Q' hnx hex hrt _
  have hs0 := e02.size
  have hs4 := e4.size
  replace B1 := B1.ext e4; replace B2 := B2.ext e4
  have hpl : (firstP t s cs k).length ≤ cs.length := by
    unfold firstP
    have := pairs_len t ((cs.take k).filter fun c => inS s c.key)
    have := List.length_filter_le (fun c => inS s c.key) (cs.take k)
    have := List.length_take (i := k) (l := cs)
    omega
  (try simp (config := { maxSteps := 1000000 }) (disch := first | exact Nat.le_of_ble_eq_true rfl | omega) only [AXS, AXB, J.dst, reduceIte, Nat.reduceEqDiff, Nat.reduceAdd, Nat.reduceMul, Nat.reduceLT, Nat.reduceLeDiff]); rw [f68c4_eq]; (try simp (config := { maxSteps := 1000000 }) (disch := first | exact Nat.le_of_ble_eq_true rfl | omega) only [AXS, AXB, J.dst, reduceIte, Nat.reduceEqDiff, Nat.reduceAdd, Nat.reduceMul, Nat.reduceLT, Nat.reduceLeDiff, f68r0, f68r1, f68r2, f68r3, f68r4, f68r5, f68r6, f68r7, f68r8, f68r9, f68r10, f68r11]); rw [f68c5_eq]; (try simp (config := { maxSteps := 1000000 }) (disch := first | exact Nat.le_of_ble_eq_true rfl | omega) only [AXS, AXB, J.dst, reduceIte, Nat.reduceEqDiff, Nat.reduceAdd, Nat.reduceMul, Nat.reduceLT, Nat.reduceLeDiff, f68r0, f68r1, f68r2, f68r3, f68r4, f68r5, f68r6, f68r7, f68r8, f68r9, f68r10, f68r11])
  refine ⟨fun hh => ?_, fun hh => ?_⟩
  · have hkl : k < cs.length := by have := of_decide_eq_true hh; omega
    obtain ⟨x, hx⟩ := get_ex hkl
    obtain ⟨b, o, v, rfl, _, hrow, hcr⟩ := (S.ext (e02.trans e4)).elem hx
    have hlb := hrow.lt (by rw [eCV_len]; omega)
    have hl1 := B1.lt
    have hl2 := B2.lt
    have hkey := hcr.key
    have hfs := firstP_succ (t := t) (s := s) hx
    (try simp (config := { maxSteps := 1000000 }) (disch := first | exact Nat.le_of_ble_eq_true rfl | omega) only [AXS, AXB, J.dst, reduceIte, Nat.reduceEqDiff, Nat.reduceAdd, Nat.reduceMul, Nat.reduceLT, Nat.reduceLeDiff]); rw [f68c6_eq]; (try simp (config := { maxSteps := 1000000 }) (disch := first | exact Nat.le_of_ble_eq_true rfl | omega) only [AXS, AXB, J.dst, reduceIte, Nat.reduceEqDiff, Nat.reduceAdd, Nat.reduceMul, Nat.reduceLT, Nat.reduceLeDiff, f68r0, f68r1, f68r2, f68r3, f68r4, f68r5, f68r6, f68r7, f68r8, f68r9, f68r10, f68r11])
    rw [f68c7_eq]
    refine drw_lt ?_
    simp (config := { maxSteps := 1000000 }) (disch := first | exact Nat.le_of_ble_eq_true rfl | omega) only [AXS, AXB, J.dst, reduceIte, Nat.reduceEqDiff, Nat.reduceAdd, Nat.reduceMul, Nat.reduceLT, Nat.reduceLeDiff, f68r4, row_cv hrow, B1.rd, eSpn, hkey]
    refine ⟨by omega, by omega, by omega, by omega, ?_⟩
    refine in_ok x.key s ?_
    intro h5 e5
    refine ⟨kp_ext (Nat.le_refl _) e5, ?_⟩
    replace B1 := B1.ext e5; replace B2 := B2.ext e5; replace O := O.ext e5
    have hrow5 := hrow.ext e5
    try simp (config := { maxSteps := 1000000 }) (disch := first | exact Nat.le_of_ble_eq_true rfl | omega) only [AXS, AXB, J.dst, reduceIte, Nat.reduceEqDiff, Nat.reduceAdd, Nat.reduceMul, Nat.reduceLT, Nat.reduceLeDiff]
    rw [f68c8_eq]
    simp (config := { maxSteps := 1000000 }) (disch := first | exact Nat.le_of_ble_eq_true rfl | omega) only [AXS, AXB, J.dst, reduceIte, Nat.reduceEqDiff, Nat.reduceAdd, Nat.reduceMul, Nat.reduceLT, Nat.reduceLeDiff]
    refine ⟨fun h6 => ?_, fun h6 => ?_⟩
    · have h6 : inS s x.key = false := by simpa using h6
      rw [h6] at hfs
      have hfe : firstP t s cs (k + 1) = firstP t s cs k := by rw [hfs]; simp
      (try simp (config := { maxSteps := 1000000 }) (disch := first | exact Nat.le_of_ble_eq_true rfl | omega) only [AXS, AXB, J.dst, reduceIte, Nat.reduceEqDiff, Nat.reduceAdd, Nat.reduceMul, Nat.reduceLT, Nat.reduceLeDiff]); rw [f68c13_eq]; (try simp (config := { maxSteps := 1000000 }) (disch := first | exact Nat.le_of_ble_eq_true rfl | omega) only [AXS, AXB, J.dst, reduceIte, Nat.reduceEqDiff, Nat.reduceAdd, Nat.reduceMul, Nat.reduceLT, Nat.reduceLeDiff, f68r0, f68r1, f68r2, f68r3, f68r4, f68r5, f68r6, f68r7, f68r8, f68r9, f68r10, f68r11])
      rw [i64_wrap (by omega) (by omega)]
      refine hnx (m - 1) _ _ (by omega) ⟨e4.trans e5, k + 1, c1, a1, by omega, ?_, ?_⟩
      · rw [hfe]; exact O
      · rw [hfe]; rfl
    · have h6 : inS s x.key = true := by simpa using h6
      rw [h6, Bool.true_and] at hfs
      have hl25 := B2.lt
      have hlb5 := hrow5.lt (by rw [eCV_len]; omega)
      rw [f68c9_eq]
      refine drw_lt ?_
      simp (config := { maxSteps := 1000000 }) (disch := first | exact Nat.le_of_ble_eq_true rfl | omega) only [AXS, AXB, J.dst, reduceIte, Nat.reduceEqDiff, Nat.reduceAdd, Nat.reduceMul, Nat.reduceLT, Nat.reduceLeDiff, f68r5, row_cv hrow5, B2.rd, eStamp]
      refine ⟨by omega, by omega, by omega, by omega, ?_⟩
      refine of_ok v x t _ (hcr.ext e5) (z4 x (List.mem_of_getElem? hx)) ?_
      intro h7 e7
      refine ⟨kp_ext (Nat.le_refl _) e7, ?_⟩
      have hrow7 := hrow5.ext e7
      replace O := O.ext e7
      have e47 := e4.trans (e5.trans e7)
      try simp (config := { maxSteps := 1000000 }) (disch := first | exact Nat.le_of_ble_eq_true rfl | omega) only [AXS, AXB, J.dst, reduceIte, Nat.reduceEqDiff, Nat.reduceAdd, Nat.reduceMul, Nat.reduceLT, Nat.reduceLeDiff]
      (try simp (config := { maxSteps := 1000000 }) (disch := first | exact Nat.le_of_ble_eq_true rfl | omega) only [AXS, AXB, J.dst, reduceIte, Nat.reduceEqDiff, Nat.reduceAdd, Nat.reduceMul, Nat.reduceLT, Nat.reduceLeDiff]); rw [f68c10_eq]; (try simp (config := { maxSteps := 1000000 }) (disch := first | exact Nat.le_of_ble_eq_true rfl | omega) only [AXS, AXB, J.dst, reduceIte, Nat.reduceEqDiff, Nat.reduceAdd, Nat.reduceMul, Nat.reduceLT, Nat.reduceLeDiff, f68r0, f68r1, f68r2, f68r3, f68r4, f68r5, f68r6, f68r7, f68r8, f68r9, f68r10, f68r11]); rw [f68c11_eq]; (try simp (config := { maxSteps := 1000000 }) (disch := first | exact Nat.le_of_ble_eq_true rfl | omega) only [AXS, AXB, J.dst, reduceIte, Nat.reduceEqDiff, Nat.reduceAdd, Nat.reduceMul, Nat.reduceLT, Nat.reduceLeDiff, f68r0, f68r1, f68r2, f68r3, f68r4, f68r5, f68r6, f68r7, f68r8, f68r9, f68r10, f68r11])
      refine ⟨fun h8 => ?_, fun h8 => ?_⟩
      · rw [h8, if_pos rfl] at hfs
        (try simp (config := { maxSteps := 1000000 }) (disch := first | exact Nat.le_of_ble_eq_true rfl | omega) only [AXS, AXB, J.dst, reduceIte, Nat.reduceEqDiff, Nat.reduceAdd, Nat.reduceMul, Nat.reduceLT, Nat.reduceLeDiff]); rw [f68c12_eq]; (try simp (config := { maxSteps := 1000000 }) (disch := first | exact Nat.le_of_ble_eq_true rfl | omega) only [AXS, AXB, J.dst, reduceIte, Nat.reduceEqDiff, Nat.reduceAdd, Nat.reduceMul, Nat.reduceLT, Nat.reduceLeDiff, f68r0, f68r1, f68r2, f68r3, f68r4, f68r5, f68r6, f68r7, f68r8, f68r9, f68r10, f68r11, row_cv hrow7, hkey])
        refine ⟨by omega, by omega, ?_⟩
        refine wL_bslN rfl ?_; rintro b10 h10 e10 s10 hb10 (B10 : Blk _ _ _ (ePai ⟨x.key, (tellV x.vers t).1⟩))
        try simp (config := { maxSteps := 1000000 }) (disch := first | exact Nat.le_of_ble_eq_true rfl | omega) only [AXS, AXB, J.dst, reduceIte, Nat.reduceEqDiff, Nat.reduceAdd, Nat.reduceMul, Nat.reduceLT, Nat.reduceLeDiff]
        rw [wL_raw]
        refine raw_append slT45 rfl rfl rfl (O.ext e10) (news := ePai ⟨x.key, (tellV x.vers t).1⟩) (by rw [ePai_len]) (.inr ⟨b10, 0, rfl, B10.row⟩) (ePai_one _) (by unfold maxLen; omega) (by omega) (e47.trans e10).size ?_
        intro a11 c11 h11 O11 G11 A11
        refine ⟨trivial, ?_⟩
        have e311 : Ext h2 h11 := G11.ext (e47.trans e10) (fun j hj => (O.ob j hj).1)
        (try simp (config := { maxSteps := 1000000 }) (disch := first | exact Nat.le_of_ble_eq_true rfl | omega) only [AXS, AXB, J.dst, reduceIte, Nat.reduceEqDiff, Nat.reduceAdd, Nat.reduceMul, Nat.reduceLT, Nat.reduceLeDiff]); rw [f68c13_eq]; (try simp (config := { maxSteps := 1000000 }) (disch := first | exact Nat.le_of_ble_eq_true rfl | omega) only [AXS, AXB, J.dst, reduceIte, Nat.reduceEqDiff, Nat.reduceAdd, Nat.reduceMul, Nat.reduceLT, Nat.reduceLeDiff, f68r0, f68r1, f68r2, f68r3, f68r4, f68r5, f68r6, f68r7, f68r8, f68r9, f68r10, f68r11])
        rw [i64_wrap (by omega) (by omega)]
        refine hnx (m - 1) _ _ (by omega) ⟨e311, k + 1, c11, a11, by omega, ?_, ?_⟩
        · rw [hfs]; simpa using O11
        · rw [hfs]; simp
      · rw [h8] at hfs
        have hfe : firstP t s cs (k + 1) = firstP t s cs k := by rw [hfs]; simp
        (try simp (config := { maxSteps := 1000000 }) (disch := first | exact Nat.le_of_ble_eq_true rfl | omega) only [AXS, AXB, J.dst, reduceIte, Nat.reduceEqDiff, Nat.reduceAdd, Nat.reduceMul, Nat.reduceLT, Nat.reduceLeDiff]); rw [f68c13_eq]; (try simp (config := { maxSteps := 1000000 }) (disch := first | exact Nat.le_of_ble_eq_true rfl | omega) only [AXS, AXB, J.dst, reduceIte, Nat.reduceEqDiff, Nat.reduceAdd, Nat.reduceMul, Nat.reduceLT, Nat.reduceLeDiff, f68r0, f68r1, f68r2, f68r3, f68r4, f68r5, f68r6, f68r7, f68r8, f68r9, f68r10, f68r11])
        rw [i64_wrap (by omega) (by omega)]
        refine hnx (m - 1) _ _ (by omega) ⟨e47, k + 1, c1, a1, by omega, ?_, ?_⟩
        · rw [hfe]; exact O
        · rw [hfe]; rfl
  · have hkl : k = cs.length := by have := of_decide_eq_false hh; omega
    refine hex _ _ ?_
    subst hkl
    (try simp (config := { maxSteps := 1000000 }) (disch := first | exact Nat.le_of_ble_eq_true rfl | omega) only [AXS, AXB, J.dst, reduceIte, Nat.reduceEqDiff, Nat.reduceAdd, Nat.reduceMul, Nat.reduceLT, Nat.reduceLeDiff]); rw [f68c14_eq]; (try simp (config := { maxSteps := 1000000 }) (disch := first | exact Nat.le_of_ble_eq_true rfl | omega) only [AXS, AXB, J.dst, reduceIte, Nat.reduceEqDiff, Nat.reduceAdd, Nat.reduceMul, Nat.reduceLT, Nat.reduceLeDiff, f68r0, f68r1, f68r2, f68r3, f68r4, f68r5, f68r6, f68r7, f68r8, f68r9, f68r10, f68r11]); rw [f68c15_eq]; (try simp (config := { maxSteps := 1000000 }) (disch := first | exact Nat.le_of_ble_eq_true rfl | omega) only [AXS, AXB, J.dst, reduceIte, Nat.reduceEqDiff, Nat.reduceAdd, Nat.reduceMul, Nat.reduceLT, Nat.reduceLeDiff, f68r0, f68r1, f68r2, f68r3, f68r4, f68r5, f68r6, f68r7, f68r8, f68r9, f68r10, f68r11])
    refine ⟨fun h6 => ?_, fun h6 => ?_⟩
    · have h6 := of_decide_eq_true h6
      (try simp (config := { maxSteps := 1000000 }) (disch := first | exact Nat.le_of_ble_eq_true rfl | omega) only [AXS, AXB, J.dst, reduceIte, Nat.reduceEqDiff, Nat.reduceAdd, Nat.reduceMul, Nat.reduceLT, Nat.reduceLeDiff]); rw [f68c16_eq]; (try simp (config := { maxSteps := 1000000 }) (disch := first | exact Nat.le_of_ble_eq_true rfl | omega) only [AXS, AXB, J.dst, reduceIte, Nat.reduceEqDiff, Nat.reduceAdd, Nat.reduceMul, Nat.reduceLT, Nat.reduceLeDiff, f68r0, f68r1, f68r2, f68r3, f68r4, f68r5, f68r6, f68r7, f68r8, f68r9, f68r10, f68r11])
      have := hR none 0 h4
      rw [if_pos h6] at this
      exact this (Own.nil _ _ _ _) (e02.trans e4)
    · have h6 := of_decide_eq_false h6
      (try simp (config := { maxSteps := 1000000 }) (disch := first | exact Nat.le_of_ble_eq_true rfl | omega) only [AXS, AXB, J.dst, reduceIte, Nat.reduceEqDiff, Nat.reduceAdd, Nat.reduceMul, Nat.reduceLT, Nat.reduceLeDiff]); rw [f68c17_eq]; (try simp (config := { maxSteps := 1000000 }) (disch := first | exact Nat.le_of_ble_eq_true rfl | omega) only [AXS, AXB, J.dst, reduceIte, Nat.reduceEqDiff, Nat.reduceAdd, Nat.reduceMul, Nat.reduceLT, Nat.reduceLeDiff, f68r0, f68r1, f68r2, f68r3, f68r4, f68r5, f68r6, f68r7, f68r8, f68r9, f68r10, f68r11])
      have := hR a1 c1 h4
      rw [if_neg h6] at this
      exact this (O.mono hs0) (e02.trans e4)

theorem eqA_lckS (l : Lck) : eqA true [.i .i64, .i .i64, .i .i64, .i .i64, .i .i64, .i .i64, .i .i64, .b, .s] (.agg (eLck l).toArray) (.agg (eLck l).toArray) = some (.bool false) := by rw [eqA_lckN]; simp
theorem one_pai0 : ∀ v ∈ ePai ⟨noB, noB⟩, v.oneCell' = true := ePai_one _
theorem putL_get_ge : ∀ (vs l : List Value) (o j : Nat), o + vs.length ≤ j → (putL l o vs)[j]? = l[j]?
  | [], _, _, _, _ => rfl
  | v :: vs, l, o, j, h => by
    simp only [List.length_cons] at h
    simp only [putL]
    rw [putL_get_ge vs _ _ _ (by omega), List.getElem?_set_ne (by omega)]

set_option maxHeartbeats 1000000 in
theorem toldG (g : Gd n cs) (hn : n ≤ 900000) (S : SlC B h a cs) (hc : cs.length ≤ c) (key : ByteArray) (t : Stamp) (s : Spn) (by_ : Try4) (most : Int) (hR : ∀ h', Ext h h' → R (.bool true) h') :
    CallsH Try.prog 49 [.slice a cs.length c, .string key, .agg (eStamp t).toArray, .agg (eSpn s).toArray, .agg (eTry by_).toArray, vi most] h R := by
  obtain ⟨z1, z2, z3, z4, z5, z6⟩ := szAll g.sz hn
  have hbig : big = 1000000 := rfl
  refine f49ok (by simp) ?_
  (try simp (config := { maxSteps := 1000000 }) (disch := first | exact Nat.le_of_ble_eq_true rfl | omega) only [AXS, AXB, J.dst, reduceIte, Nat.reduceEqDiff, Nat.reduceAdd, Nat.reduceMul, Nat.reduceLT, Nat.reduceLeDiff]); rw [f49c0_eq]; (try simp (config := { maxSteps := 1000000 }) (disch := first | exact Nat.le_of_ble_eq_true rfl | omega) only [AXS, AXB, J.dst, reduceIte, Nat.reduceEqDiff, Nat.reduceAdd, Nat.reduceMul, Nat.reduceLT, Nat.reduceLeDiff, f49r0, f49r1, f49r2, f49r3, f49r4, f49r5, f49r6, f49r7, f49r8, f49r9, f49r10, f49r11, f49r12, f49r13, f49r14, f49r15, f49r16, f49r17])
  refine wL_boxN rfl ?_; rintro b1 h1 e1 s1 hb1 (B1 : Blk _ _ _ (eStamp t))
  refine wL_boxN rfl ?_; rintro b2 h2 e2 s2 hb2 (B2 : Blk _ _ _ (eSpn s))
  refine wL_boxN rfl ?_; rintro b3 h3 e3 s3 hb3 (B3 : Blk _ _ _ (eTry by_))
  replace B1 := B1.ext (e2.trans e3); replace B2 := B2.ext e3
  have e := e1.trans (e2.trans e3)
  replace S := S.ext e
  (try simp (config := { maxSteps := 1000000 }) (disch := first | exact Nat.le_of_ble_eq_true rfl | omega) only [AXS, AXB, J.dst, reduceIte, Nat.reduceEqDiff, Nat.reduceAdd, Nat.reduceMul, Nat.reduceLT, Nat.reduceLeDiff]); rw [f49c1_eq]; (try simp (config := { maxSteps := 1000000 }) (disch := first | exact Nat.le_of_ble_eq_true rfl | omega) only [AXS, AXB, J.dst, reduceIte, Nat.reduceEqDiff, Nat.reduceAdd, Nat.reduceMul, Nat.reduceLT, Nat.reduceLeDiff, f49r0, f49r1, f49r2, f49r3, f49r4, f49r5, f49r6, f49r7, f49r8, f49r9, f49r10, f49r11, f49r12, f49r13, f49r14, f49r15, f49r16, f49r17, B1.rd, eStamp])
  refine getG g hn S key t ?_
  intro h4 e4
  refine ⟨trivial, ?_⟩
  replace B1 := B1.ext e4; replace B2 := B2.ext e4; replace B3 := B3.ext e4; replace S := S.ext e4; replace e := e.trans e4
  (try simp (config := { maxSteps := 1000000 }) (disch := first | exact Nat.le_of_ble_eq_true rfl | omega) only [AXS, AXB, J.dst, reduceIte, Nat.reduceEqDiff, Nat.reduceAdd, Nat.reduceMul, Nat.reduceLT, Nat.reduceLeDiff]); rw [f49c2_eq]; (try simp (config := { maxSteps := 1000000 }) (disch := first | exact Nat.le_of_ble_eq_true rfl | omega) only [AXS, AXB, J.dst, reduceIte, Nat.reduceEqDiff, Nat.reduceAdd, Nat.reduceMul, Nat.reduceLT, Nat.reduceLeDiff, f49r0, f49r1, f49r2, f49r3, f49r4, f49r5, f49r6, f49r7, f49r8, f49r9, f49r10, f49r11, f49r12, f49r13, f49r14, f49r15, f49r16, f49r17, B1.rd, eStamp])
  refine rget_ok cs key t _ S z3 z4 ?_
  rw [← rgetK_get g.good.sorted]
  intro h5 e5
  refine ⟨trivial, ?_⟩
  replace B1 := B1.ext e5; replace B2 := B2.ext e5; replace B3 := B3.ext e5; replace S := S.ext e5; replace e := e.trans e5
  (try simp (config := { maxSteps := 1000000 }) (disch := first | exact Nat.le_of_ble_eq_true rfl | omega) only [AXS, AXB, J.dst, reduceIte, Nat.reduceEqDiff, Nat.reduceAdd, Nat.reduceMul, Nat.reduceLT, Nat.reduceLeDiff]); rw [f49c3_eq]; (try simp (config := { maxSteps := 1000000 }) (disch := first | exact Nat.le_of_ble_eq_true rfl | omega) only [AXS, AXB, J.dst, reduceIte, Nat.reduceEqDiff, Nat.reduceAdd, Nat.reduceMul, Nat.reduceLT, Nat.reduceLeDiff, f49r0, f49r1, f49r2, f49r3, f49r4, f49r5, f49r6, f49r7, f49r8, f49r9, f49r10, f49r11, f49r12, f49r13, f49r14, f49r15, f49r16, f49r17, B1.rd, B2.rd, eStamp, eSpn])
  refine blocksG g hn S hc s t ?_
  intro h6 e6
  refine ⟨trivial, ?_⟩
  replace B1 := B1.ext e6; replace B2 := B2.ext e6; replace B3 := B3.ext e6; replace S := S.ext e6; replace e := e.trans e6
  simp (config := { maxSteps := 1000000 }) (disch := first | exact Nat.le_of_ble_eq_true rfl | omega) only [AXS, AXB, J.dst, reduceIte, Nat.reduceEqDiff, Nat.reduceAdd, Nat.reduceMul, Nat.reduceLT, Nat.reduceLeDiff]
  refine wL_newN ?_; rintro b17 h7 e7 s7 hb17 N17
  try simp (config := { maxSteps := 1000000 }) (disch := first | exact Nat.le_of_ble_eq_true rfl | omega) only [AXS, AXB, J.dst, reduceIte, Nat.reduceEqDiff, Nat.reduceAdd, Nat.reduceMul, Nat.reduceLT, Nat.reduceLeDiff]
  refine wL_stN rfl rfl rfl N17 (by decide) (one_lck _) ?_; rintro h8 u8 (B17 : Blk _ _ _ (eLck (blocksL t (cs.filter fun c => inS s c.key)).1))
  have e8 := u8.ext e7 (by omega)
  replace B1 := B1.ext e8; replace B2 := B2.ext e8; replace B3 := B3.ext e8; replace S := S.ext e8; replace e := e.trans e8
  (try simp (config := { maxSteps := 1000000 }) (disch := first | exact Nat.le_of_ble_eq_true rfl | omega) only [AXS, AXB, J.dst, reduceIte, Nat.reduceEqDiff, Nat.reduceAdd, Nat.reduceMul, Nat.reduceLT, Nat.reduceLeDiff]); rw [f49c4_eq]; (try simp (config := { maxSteps := 1000000 }) (disch := first | exact Nat.le_of_ble_eq_true rfl | omega) only [AXS, AXB, J.dst, reduceIte, Nat.reduceEqDiff, Nat.reduceAdd, Nat.reduceMul, Nat.reduceLT, Nat.reduceLeDiff, f49r0, f49r1, f49r2, f49r3, f49r4, f49r5, f49r6, f49r7, f49r8, f49r9, f49r10, f49r11, f49r12, f49r13, f49r14, f49r15, f49r16, f49r17, B1.rd, B2.rd, eStamp, eSpn])
  refine rblocksG g hn S s t ?_
  intro h9 e9
  refine ⟨trivial, ?_⟩
  replace B1 := B1.ext e9; replace B2 := B2.ext e9; replace B3 := B3.ext e9; replace S := S.ext e9; replace B17 := B17.ext e9; replace e := e.trans e9
  simp (config := { maxSteps := 1000000 }) (disch := first | exact Nat.le_of_ble_eq_true rfl | omega) only [AXS, AXB, J.dst, reduceIte, Nat.reduceEqDiff, Nat.reduceAdd, Nat.reduceMul, Nat.reduceLT, Nat.reduceLeDiff]
  refine wL_newN ?_; rintro b19 h10 e10 s10 hb19 N19
  try simp (config := { maxSteps := 1000000 }) (disch := first | exact Nat.le_of_ble_eq_true rfl | omega) only [AXS, AXB, J.dst, reduceIte, Nat.reduceEqDiff, Nat.reduceAdd, Nat.reduceMul, Nat.reduceLT, Nat.reduceLeDiff]
  refine wL_stN rfl rfl rfl N19 (by decide) (one_lck _) ?_; rintro h11 u11 (B19 : Blk _ _ _ (eLck (blocksL t (cs.filter fun c => inS s c.key)).1))
  have e11 := u11.ext e10 (by omega)
  replace B1 := B1.ext e11; replace B2 := B2.ext e11; replace B3 := B3.ext e11; replace S := S.ext e11; replace B17 := B17.ext e11; replace e := e.trans e11
  (try simp (config := { maxSteps := 1000000 }) (disch := first | exact Nat.le_of_ble_eq_true rfl | omega) only [AXS, AXB, J.dst, reduceIte, Nat.reduceEqDiff, Nat.reduceAdd, Nat.reduceMul, Nat.reduceLT, Nat.reduceLeDiff]); rw [f49c5_eq]; (try simp (config := { maxSteps := 1000000 }) (disch := first | exact Nat.le_of_ble_eq_true rfl | omega) only [AXS, AXB, J.dst, reduceIte, Nat.reduceEqDiff, Nat.reduceAdd, Nat.reduceMul, Nat.reduceLT, Nat.reduceLeDiff, f49r0, f49r1, f49r2, f49r3, f49r4, f49r5, f49r6, f49r7, f49r8, f49r9, f49r10, f49r11, f49r12, f49r13, f49r14, f49r15, f49r16, f49r17, B1.rd, B2.rd, eStamp, eSpn])
  refine scanG g hn S hc s t most ?_
  intro a12 c12 h12 O12 e12
  refine ⟨trivial, ?_⟩
  have hs12 := e.size
  have ob12 := O12.ob
  replace B1 := B1.ext e12; replace B2 := B2.ext e12; replace B3 := B3.ext e12; replace S := S.ext e12; replace B17 := B17.ext e12; replace B19 := B19.ext e12; replace e := e.trans e12
  (try simp (config := { maxSteps := 1000000 }) (disch := first | exact Nat.le_of_ble_eq_true rfl | omega) only [AXS, AXB, J.dst, reduceIte, Nat.reduceEqDiff, Nat.reduceAdd, Nat.reduceMul, Nat.reduceLT, Nat.reduceLeDiff]); rw [f49c6_eq]; (try simp (config := { maxSteps := 1000000 }) (disch := first | exact Nat.le_of_ble_eq_true rfl | omega) only [AXS, AXB, J.dst, reduceIte, Nat.reduceEqDiff, Nat.reduceAdd, Nat.reduceMul, Nat.reduceLT, Nat.reduceLeDiff, f49r0, f49r1, f49r2, f49r3, f49r4, f49r5, f49r6, f49r7, f49r8, f49r9, f49r10, f49r11, f49r12, f49r13, f49r14, f49r15, f49r16, f49r17, B1.rd, B2.rd, eStamp, eSpn])
  refine rscanG g hn S s t most ?_
  intro a13 c13 h13 O13 e13
  refine ⟨trivial, ?_⟩
  replace B3 := B3.ext e13; replace S := S.ext e13; replace B17 := B17.ext e13; replace B19 := B19.ext e13; replace O12 := O12.ext e13; replace e := e.trans e13
  have hpl : (scanL t most (withinL cs s) []).1.length ≤ big := by
    rw [scanL_eq]
    split
    · have := pairs_len t (withinL cs s)
      have := withinL_le cs s
      simp; omega
    · simp
  generalize (scanL t most (withinL cs s) []).1 = ps at *
  generalize (scanL t most (withinL cs s) []).2 = er at *
  generalize blocksL t (cs.filter fun c => inS s c.key) = bl at *
  (try simp (config := { maxSteps := 1000000 }) (disch := first | exact Nat.le_of_ble_eq_true rfl | omega) only [AXS, AXB, J.dst, reduceIte, Nat.reduceEqDiff, Nat.reduceAdd, Nat.reduceMul, Nat.reduceLT, Nat.reduceLeDiff]); rw [f49c7_eq]; (try simp (config := { maxSteps := 1000000 }) (disch := first | exact Nat.le_of_ble_eq_true rfl | omega) only [AXS, AXB, J.dst, reduceIte, Nat.reduceEqDiff, Nat.reduceAdd, Nat.reduceMul, Nat.reduceLT, Nat.reduceLeDiff, f49r0, f49r1, f49r2, f49r3, f49r4, f49r5, f49r6, f49r7, f49r8, f49r9, f49r10, f49r11, f49r12, f49r13, f49r14, f49r15, f49r16, f49r17])
  refine heldG g hn S key ?_
  intro h14 e14
  refine ⟨trivial, ?_⟩
  replace B3 := B3.ext e14; replace S := S.ext e14; replace B17 := B17.ext e14; replace B19 := B19.ext e14; replace O12 := O12.ext e14; replace O13 := O13.ext e14; replace e := e.trans e14
  simp (config := { maxSteps := 1000000 }) (disch := first | exact Nat.le_of_ble_eq_true rfl | omega) only [AXS, AXB, J.dst, reduceIte, Nat.reduceEqDiff, Nat.reduceAdd, Nat.reduceMul, Nat.reduceLT, Nat.reduceLeDiff]
  refine wL_newN ?_; rintro b25 h15 e15 s15 hb25 N25
  try simp (config := { maxSteps := 1000000 }) (disch := first | exact Nat.le_of_ble_eq_true rfl | omega) only [AXS, AXB, J.dst, reduceIte, Nat.reduceEqDiff, Nat.reduceAdd, Nat.reduceMul, Nat.reduceLT, Nat.reduceLeDiff]
  refine wL_stN rfl rfl rfl N25 (by decide) (one_lck _) ?_; rintro h16 u16 (B25 : Blk _ _ _ (eLck (heldK cs key).1))
  have e16 := u16.ext e15 (by omega)
  replace B3 := B3.ext e16; replace S := S.ext e16; replace B17 := B17.ext e16; replace B19 := B19.ext e16; replace O12 := O12.ext e16; replace O13 := O13.ext e16; replace e := e.trans e16
  (try simp (config := { maxSteps := 1000000 }) (disch := first | exact Nat.le_of_ble_eq_true rfl | omega) only [AXS, AXB, J.dst, reduceIte, Nat.reduceEqDiff, Nat.reduceAdd, Nat.reduceMul, Nat.reduceLT, Nat.reduceLeDiff]); rw [f49c8_eq]; (try simp (config := { maxSteps := 1000000 }) (disch := first | exact Nat.le_of_ble_eq_true rfl | omega) only [AXS, AXB, J.dst, reduceIte, Nat.reduceEqDiff, Nat.reduceAdd, Nat.reduceMul, Nat.reduceLT, Nat.reduceLeDiff, f49r0, f49r1, f49r2, f49r3, f49r4, f49r5, f49r6, f49r7, f49r8, f49r9, f49r10, f49r11, f49r12, f49r13, f49r14, f49r15, f49r16, f49r17])
  refine rheldG g hn S key ?_
  intro h17 e17
  refine ⟨trivial, ?_⟩
  replace B3 := B3.ext e17; replace S := S.ext e17; replace B17 := B17.ext e17; replace B19 := B19.ext e17; replace O12 := O12.ext e17; replace O13 := O13.ext e17; replace B25 := B25.ext e17; replace e := e.trans e17
  simp (config := { maxSteps := 1000000 }) (disch := first | exact Nat.le_of_ble_eq_true rfl | omega) only [AXS, AXB, J.dst, reduceIte, Nat.reduceEqDiff, Nat.reduceAdd, Nat.reduceMul, Nat.reduceLT, Nat.reduceLeDiff]
  refine wL_newN ?_; rintro b27 h18 e18 s18 hb27 N27
  try simp (config := { maxSteps := 1000000 }) (disch := first | exact Nat.le_of_ble_eq_true rfl | omega) only [AXS, AXB, J.dst, reduceIte, Nat.reduceEqDiff, Nat.reduceAdd, Nat.reduceMul, Nat.reduceLT, Nat.reduceLeDiff]
  refine wL_stN rfl rfl rfl N27 (by decide) (one_lck _) ?_; rintro h19 u19 (B27 : Blk _ _ _ (eLck (heldK cs key).1))
  have e19 := u19.ext e18 (by omega)
  replace B3 := B3.ext e19; replace S := S.ext e19; replace B17 := B17.ext e19; replace B19 := B19.ext e19; replace O12 := O12.ext e19; replace O13 := O13.ext e19; replace B25 := B25.ext e19; replace e := e.trans e19
  have l3 := B3.lt
  have l17 := B17.lt
  have l19 := B19.lt
  have l25 := B25.lt
  have l27 := B27.lt
  try simp (config := { maxSteps := 1000000 }) (disch := first | exact Nat.le_of_ble_eq_true rfl | omega) only [AXS, AXB, J.dst, reduceIte, Nat.reduceEqDiff, Nat.reduceAdd, Nat.reduceMul, Nat.reduceLT, Nat.reduceLeDiff]
  rw [f49c9_eq]
  refine drw_lt ?_
  simp (config := { maxSteps := 1000000 }) (disch := first | exact Nat.le_of_ble_eq_true rfl | omega) only [AXJ, AXS, AXB, J.dst, reduceIte, Nat.reduceEqDiff, Nat.reduceAdd, Nat.reduceMul, Nat.reduceLT, Nat.reduceLeDiff, f49r9, Bool.false_eq_true]
  simp (config := { maxSteps := 1000000 }) (disch := first | exact Nat.le_of_ble_eq_true rfl | omega) only [AXJ, AXS, AXB, J.dst, reduceIte, Nat.reduceEqDiff, Nat.reduceAdd, Nat.reduceMul, Nat.reduceLT, Nat.reduceLeDiff, f49r9a, B17.rd, B19.rd, take9, eLck_len, eqA_lckS]
  refine ⟨fun _ => by omega, fun _ => by omega, ?_⟩
  simp (config := { maxSteps := 1000000 }) (disch := first | exact Nat.le_of_ble_eq_true rfl | omega) only [AXJ, AXS, AXB, J.dst, reduceIte, Nat.reduceEqDiff, Nat.reduceAdd, Nat.reduceMul, Nat.reduceLT, Nat.reduceLeDiff, f49r9b, Bool.false_eq_true]
  simp (config := { maxSteps := 1000000 }) (disch := first | exact Nat.le_of_ble_eq_true rfl | omega) only [AXJ, AXS, AXB, J.dst, reduceIte, Nat.reduceEqDiff, Nat.reduceAdd, Nat.reduceMul, Nat.reduceLT, Nat.reduceLeDiff, f49r9c, Bool.false_eq_true]
  simp (config := { maxSteps := 1000000 }) (disch := first | exact Nat.le_of_ble_eq_true rfl | omega) only [AXJ, AXS, AXB, J.dst, reduceIte, Nat.reduceEqDiff, Nat.reduceAdd, Nat.reduceMul, Nat.reduceLT, Nat.reduceLeDiff, f49r9d, B25.rd, B27.rd, take9, eLck_len, eqA_lckS]
  refine ⟨fun _ => by omega, fun _ => by omega, ?_⟩
  simp (config := { maxSteps := 1000000 }) (disch := first | exact Nat.le_of_ble_eq_true rfl | omega) only [AXJ, AXS, AXB, J.dst, reduceIte, Nat.reduceEqDiff, Nat.reduceAdd, Nat.reduceMul, Nat.reduceLT, Nat.reduceLeDiff, f49r9e, Bool.false_eq_true]
  simp (config := { maxSteps := 1000000 }) (disch := first | exact Nat.le_of_ble_eq_true rfl | omega) only [AXJ, AXS, AXB, J.dst, reduceIte, Nat.reduceEqDiff, Nat.reduceAdd, Nat.reduceMul, Nat.reduceLT, Nat.reduceLeDiff, f49r9f, Bool.false_eq_true]
  simp (config := { maxSteps := 1000000 }) (disch := first | exact Nat.le_of_ble_eq_true rfl | omega) only [AXJ, AXS, AXB, J.dst, reduceIte, Nat.reduceEqDiff, Nat.reduceAdd, Nat.reduceMul, Nat.reduceLT, Nat.reduceLeDiff, f49r9g, B3.rd, eTry]
  refine ⟨fun _ => by omega, fun _ => by omega, ?_⟩
  refine mineG g hn S by_ ?_
  intro h20 e20
  refine ⟨kp_ext (Nat.le_refl _) e20, ?_⟩
  simp (config := { maxSteps := 1000000 }) (disch := first | exact Nat.le_of_ble_eq_true rfl | omega) only [AXJ, AXS, AXB, J.dst, reduceIte, Nat.reduceEqDiff, Nat.reduceAdd, Nat.reduceMul, Nat.reduceLT, Nat.reduceLeDiff]
  refine rmineG g hn (S.ext e20) by_ ?_
  intro h21 e21
  have e2021 := e20.trans e21
  refine ⟨kp_ext e20.size e21, ?_⟩
  simp (config := { maxSteps := 1000000 }) (disch := first | exact Nat.le_of_ble_eq_true rfl | omega) only [AXJ, AXS, AXB, J.dst, reduceIte, Nat.reduceEqDiff, Nat.reduceAdd, Nat.reduceMul, Nat.reduceLT, Nat.reduceLeDiff, Bool.false_eq_true]
  simp (config := { maxSteps := 1000000 }) (disch := first | exact Nat.le_of_ble_eq_true rfl | omega) only [AXJ, AXS, AXB, J.dst, reduceIte, Nat.reduceEqDiff, Nat.reduceAdd, Nat.reduceMul, Nat.reduceLT, Nat.reduceLeDiff, f49r9h]
  refine mayG g hn (S.ext e2021) ?_
  intro h22 e22
  have e2022 := e2021.trans e22
  refine ⟨kp_ext e2021.size e22, ?_⟩
  simp (config := { maxSteps := 1000000 }) (disch := first | exact Nat.le_of_ble_eq_true rfl | omega) only [AXJ, AXS, AXB, J.dst, reduceIte, Nat.reduceEqDiff, Nat.reduceAdd, Nat.reduceMul, Nat.reduceLT, Nat.reduceLeDiff]
  refine rmay_ok cs _ (S.ext e2022) z5 z6 ?_
  intro b hb h23 e23
  rw [hb.2 ((mayP_iff cs).2 g.good)]
  have e2023 := e2022.trans e23
  refine ⟨kp_ext e2022.size e23, ?_⟩
  simp (config := { maxSteps := 1000000 }) (disch := first | exact Nat.le_of_ble_eq_true rfl | omega) only [AXJ, AXS, AXB, J.dst, reduceIte, Nat.reduceEqDiff, Nat.reduceAdd, Nat.reduceMul, Nat.reduceLT, Nat.reduceLeDiff, Bool.false_eq_true]
  replace O12 := O12.ext e2023; replace O13 := O13.ext e2023; replace e := e.trans e2023
  (try simp (config := { maxSteps := 1000000 }) (disch := first | exact Nat.le_of_ble_eq_true rfl | omega) only [AXS, AXB, J.dst, reduceIte, Nat.reduceEqDiff, Nat.reduceAdd, Nat.reduceMul, Nat.reduceLT, Nat.reduceLeDiff]); rw [f49c10_eq]; (try simp (config := { maxSteps := 1000000 }) (disch := first | exact Nat.le_of_ble_eq_true rfl | omega) only [AXS, AXB, J.dst, reduceIte, Nat.reduceEqDiff, Nat.reduceAdd, Nat.reduceMul, Nat.reduceLT, Nat.reduceLeDiff, f49r0, f49r1, f49r2, f49r3, f49r4, f49r5, f49r6, f49r7, f49r8, f49r9, f49r10, f49r11, f49r12, f49r13, f49r14, f49r15, f49r16, f49r17]); rw [f49c12_eq]; (try simp (config := { maxSteps := 1000000 }) (disch := first | exact Nat.le_of_ble_eq_true rfl | omega) only [AXS, AXB, J.dst, reduceIte, Nat.reduceEqDiff, Nat.reduceAdd, Nat.reduceMul, Nat.reduceLT, Nat.reduceLeDiff, f49r0, f49r1, f49r2, f49r3, f49r4, f49r5, f49r6, f49r7, f49r8, f49r9, f49r10, f49r11, f49r12, f49r13, f49r14, f49r15, f49r16, f49r17])
  rw [f49c13_eq]
  rcases Nat.eq_zero_or_pos ps.length with hz | hp
  · refine loop_in (fun n σ h' => h' = h23 ∧ σ = [(21, .slice a12 ps.length c12), (23, .slice a13 ps.length c13), (29, vi 0)]) 0 ⟨rfl, rfl⟩ ?_
    rintro m σ h' ⟨rfl, rfl⟩ Q' hnx hex hrt _
    (try simp (config := { maxSteps := 1000000 }) (disch := first | exact Nat.le_of_ble_eq_true rfl | omega) only [AXS, AXB, J.dst, reduceIte, Nat.reduceEqDiff, Nat.reduceAdd, Nat.reduceMul, Nat.reduceLT, Nat.reduceLeDiff]); rw [f49c14_eq]; (try simp (config := { maxSteps := 1000000 }) (disch := first | exact Nat.le_of_ble_eq_true rfl | omega) only [AXS, AXB, J.dst, reduceIte, Nat.reduceEqDiff, Nat.reduceAdd, Nat.reduceMul, Nat.reduceLT, Nat.reduceLeDiff, f49r0, f49r1, f49r2, f49r3, f49r4, f49r5, f49r6, f49r7, f49r8, f49r9, f49r10, f49r11, f49r12, f49r13, f49r14, f49r15, f49r16, f49r17, hz]); rw [f49c15_eq]; (try simp (config := { maxSteps := 1000000 }) (disch := first | exact Nat.le_of_ble_eq_true rfl | omega) only [AXS, AXB, J.dst, reduceIte, Nat.reduceEqDiff, Nat.reduceAdd, Nat.reduceMul, Nat.reduceLT, Nat.reduceLeDiff, f49r0, f49r1, f49r2, f49r3, f49r4, f49r5, f49r6, f49r7, f49r8, f49r9, f49r10, f49r11, f49r12, f49r13, f49r14, f49r15, f49r16, f49r17, hz])
    rw [show decide ((0 : Int) < ((0 : Nat) : Int)) = false from rfl]
    try simp (config := { maxSteps := 1000000 }) (disch := first | exact Nat.le_of_ble_eq_true rfl | omega) only [AXS, AXB, J.dst, reduceIte, Nat.reduceEqDiff, Nat.reduceAdd, Nat.reduceMul, Nat.reduceLT, Nat.reduceLeDiff]
    refine hex _ _ ?_
    (try simp (config := { maxSteps := 1000000 }) (disch := first | exact Nat.le_of_ble_eq_true rfl | omega) only [AXS, AXB, J.dst, reduceIte, Nat.reduceEqDiff, Nat.reduceAdd, Nat.reduceMul, Nat.reduceLT, Nat.reduceLeDiff]); rw [f49c22_eq]; (try simp (config := { maxSteps := 1000000 }) (disch := first | exact Nat.le_of_ble_eq_true rfl | omega) only [AXS, AXB, J.dst, reduceIte, Nat.reduceEqDiff, Nat.reduceAdd, Nat.reduceMul, Nat.reduceLT, Nat.reduceLeDiff, f49r0, f49r1, f49r2, f49r3, f49r4, f49r5, f49r6, f49r7, f49r8, f49r9, f49r10, f49r11, f49r12, f49r13, f49r14, f49r15, f49r16, f49r17])
    exact hR _ e
  · obtain ⟨gx, cur0, rfl, hgx, G0, hcl0, hct0⟩ := O12.blk (by have := O12.room.1; omega)
    have F12 := SlF.of_own O12 rfl
    have F13 := SlF.of_own O13 rfl
    refine loop_in (fun n σ h' => ∃ (k : Nat) (cur : List Value), k + n = ps.length ∧ Ext h h' ∧ Blk h' gx 99 cur ∧ cur.length = c12 * 2 ∧ (∀ j, k * 2 ≤ j → cur[j]? = cur0[j]?) ∧ (∀ b, b ≠ gx → h'[b]? = h23[b]?) ∧
      σ = [(21, .slice (some ⟨gx, 0, none⟩) ps.length c12), (23, .slice a13 ps.length c13), (29, vi k)]) ps.length ⟨0, cur0, by omega, e, G0, hcl0, fun _ _ => rfl, fun _ _ => rfl, rfl⟩ ?_
    rintro m σ h' ⟨k, cur, hk, e', G, hcl, hag, hoth, rfl⟩ Q' hnx hex hrt _
    (try simp (config := { maxSteps := 1000000 }) (disch := first | exact Nat.le_of_ble_eq_true rfl | omega) only [AXS, AXB, J.dst, reduceIte, Nat.reduceEqDiff, Nat.reduceAdd, Nat.reduceMul, Nat.reduceLT, Nat.reduceLeDiff]); rw [f49c14_eq]; (try simp (config := { maxSteps := 1000000 }) (disch := first | exact Nat.le_of_ble_eq_true rfl | omega) only [AXS, AXB, J.dst, reduceIte, Nat.reduceEqDiff, Nat.reduceAdd, Nat.reduceMul, Nat.reduceLT, Nat.reduceLeDiff, f49r0, f49r1, f49r2, f49r3, f49r4, f49r5, f49r6, f49r7, f49r8, f49r9, f49r10, f49r11, f49r12, f49r13, f49r14, f49r15, f49r16, f49r17]); rw [f49c15_eq]; (try simp (config := { maxSteps := 1000000 }) (disch := first | exact Nat.le_of_ble_eq_true rfl | omega) only [AXS, AXB, J.dst, reduceIte, Nat.reduceEqDiff, Nat.reduceAdd, Nat.reduceMul, Nat.reduceLT, Nat.reduceLeDiff, f49r0, f49r1, f49r2, f49r3, f49r4, f49r5, f49r6, f49r7, f49r8, f49r9, f49r10, f49r11, f49r12, f49r13, f49r14, f49r15, f49r16, f49r17])
    refine ⟨fun h2 => ?_, fun h2 => ?_⟩
    · have hkl : k < ps.length := by have := of_decide_eq_true h2; omega
      obtain ⟨x, hx⟩ := get_ex hkl
      obtain ⟨q1, o1, hq1, _, hr1⟩ := F12.elem ePai_len hx
      cases hq1
      obtain ⟨q2, o2, rfl, hq2, hr2⟩ := F13.elem ePai_len hx
      have hr1' : Row h' gx (0 + k * 2) (ePai x) := fun j hj => by
        rw [G.cel, hag _ (by omega), ← G0.cel]; exact hr1 j hj
      have hne : q2 ≠ gx := by
        have := (ob12 gx rfl).2
        have := hq2.1
        omega
      have hr2' : Row h' q2 (o2 + k * 2) (ePai x) := hr2.at_ (hoth q2 hne)
      have l1 := hr1'.lt (by rw [ePai_len]; omega)
      have l2 := hr2'.lt (by rw [ePai_len]; omega)
      have hroom := O12.room.1
      (try simp (config := { maxSteps := 1000000 }) (disch := first | exact Nat.le_of_ble_eq_true rfl | omega) only [AXS, AXB, J.dst, reduceIte, Nat.reduceEqDiff, Nat.reduceAdd, Nat.reduceMul, Nat.reduceLT, Nat.reduceLeDiff]); rw [f49c16_eq]; (try simp (config := { maxSteps := 1000000 }) (disch := first | exact Nat.le_of_ble_eq_true rfl | omega) only [AXS, AXB, J.dst, reduceIte, Nat.reduceEqDiff, Nat.reduceAdd, Nat.reduceMul, Nat.reduceLT, Nat.reduceLeDiff, f49r0, f49r1, f49r2, f49r3, f49r4, f49r5, f49r6, f49r7, f49r8, f49r9, f49r10, f49r11, f49r12, f49r13, f49r14, f49r15, f49r16, f49r17])
      rw [f49c17_eq]
      refine drw_lt ?_
      simp (config := { maxSteps := 1000000 }) (disch := first | exact Nat.le_of_ble_eq_true rfl | omega) only [AXS, AXB, J.dst, reduceIte, Nat.reduceEqDiff, Nat.reduceAdd, Nat.reduceMul, Nat.reduceLT, Nat.reduceLeDiff, f49r13, row_pai hr1', row_pai hr2', eqA_paiN]
      refine ⟨by omega, by omega, by omega, by omega, by omega, by omega, ?_⟩
      rw [f49c18_eq]
      simp (config := { maxSteps := 1000000 }) (disch := first | exact Nat.le_of_ble_eq_true rfl | omega) only [AXS, AXB, J.dst, reduceIte, Nat.reduceEqDiff, Nat.reduceAdd, Nat.reduceMul, Nat.reduceLT, Nat.reduceLeDiff, decide_true, Bool.not_true]
      (try simp (config := { maxSteps := 1000000 }) (disch := first | exact Nat.le_of_ble_eq_true rfl | omega) only [AXS, AXB, J.dst, reduceIte, Nat.reduceEqDiff, Nat.reduceAdd, Nat.reduceMul, Nat.reduceLT, Nat.reduceLeDiff]); rw [f49c20_eq]; (try simp (config := { maxSteps := 1000000 }) (disch := first | exact Nat.le_of_ble_eq_true rfl | omega) only [AXS, AXB, J.dst, reduceIte, Nat.reduceEqDiff, Nat.reduceAdd, Nat.reduceMul, Nat.reduceLT, Nat.reduceLeDiff, f49r0, f49r1, f49r2, f49r3, f49r4, f49r5, f49r6, f49r7, f49r8, f49r9, f49r10, f49r11, f49r12, f49r13, f49r14, f49r15, f49r16, f49r17])
      refine ⟨by omega, by omega, ?_⟩
      refine wL_stN rfl rfl rfl G (by show 0 + k * 2 + 2 ≤ _; omega) one_pai0 ?_; rintro h3 u3 G3
      try simp (config := { maxSteps := 1000000 }) (disch := first | exact Nat.le_of_ble_eq_true rfl | omega) only [AXS, AXB, J.dst, reduceIte, Nat.reduceEqDiff, Nat.reduceAdd, Nat.reduceMul, Nat.reduceLT, Nat.reduceLeDiff]
      (try simp (config := { maxSteps := 1000000 }) (disch := first | exact Nat.le_of_ble_eq_true rfl | omega) only [AXS, AXB, J.dst, reduceIte, Nat.reduceEqDiff, Nat.reduceAdd, Nat.reduceMul, Nat.reduceLT, Nat.reduceLeDiff]); rw [f49c21_eq]; (try simp (config := { maxSteps := 1000000 }) (disch := first | exact Nat.le_of_ble_eq_true rfl | omega) only [AXS, AXB, J.dst, reduceIte, Nat.reduceEqDiff, Nat.reduceAdd, Nat.reduceMul, Nat.reduceLT, Nat.reduceLeDiff, f49r0, f49r1, f49r2, f49r3, f49r4, f49r5, f49r6, f49r7, f49r8, f49r9, f49r10, f49r11, f49r12, f49r13, f49r14, f49r15, f49r16, f49r17])
      rw [i64_wrap (by omega) (by omega)]
      refine hnx (m - 1) _ _ (by omega) ⟨k + 1, _, by omega, u3.ext e' (by omega), G3, by rw [putL_length]; exact hcl, ?_, fun b hb => (u3.ne b hb).trans (hoth b hb), rfl⟩
      intro j hj
      rw [putL_get_ge _ _ _ _ (by show 0 + k * 2 + 2 ≤ j; omega)]
      exact hag j (by omega)
    · refine hex _ _ ?_
      (try simp (config := { maxSteps := 1000000 }) (disch := first | exact Nat.le_of_ble_eq_true rfl | omega) only [AXS, AXB, J.dst, reduceIte, Nat.reduceEqDiff, Nat.reduceAdd, Nat.reduceMul, Nat.reduceLT, Nat.reduceLeDiff]); rw [f49c22_eq]; (try simp (config := { maxSteps := 1000000 }) (disch := first | exact Nat.le_of_ble_eq_true rfl | omega) only [AXS, AXB, J.dst, reduceIte, Nat.reduceEqDiff, Nat.reduceAdd, Nat.reduceMul, Nat.reduceLT, Nat.reduceLeDiff, f49r0, f49r1, f49r2, f49r3, f49r4, f49r5, f49r6, f49r7, f49r8, f49r9, f49r10, f49r11, f49r12, f49r13, f49r14, f49r15, f49r16, f49r17])
      exact hR _ e'
end
end Go.Proofs.Ytefghfgmkndikaa
/-
  Walks: whether cells are light. Plain: the document's operations are the program's.
-/
namespace Go.Proofs.Ytefghfgmkndikaa
open Go Go.AX

theorem lightC_ok {B : Nat → Prop} {a : Option Addr} {c : Nat} (cs : List Cell) (h : Heap) (S : SlC B h a cs) (hn : cs.length ≤ maxLen) (F : Fit cs) {R : Value → Heap → Prop}
    (hR : ∀ b : Bool, (b = true → Sz 60 cs) → (cs = [] → b = true) → R (.bool b) h) : CallsH Try.prog 50 [.slice a cs.length c] h R := by
  unfold maxLen at hn
  refine f50ok (by simp) ?_
  (try simp (config := { maxSteps := 1000000 }) (disch := first | exact Nat.le_of_ble_eq_true rfl | omega) only [AXS, AXB, J.dst, reduceIte, Nat.reduceEqDiff, Nat.reduceAdd, Nat.reduceMul, Nat.reduceLT, Nat.reduceLeDiff]); rw [f50c0_eq]; (try simp (config := { maxSteps := 1000000 }) (disch := first | exact Nat.le_of_ble_eq_true rfl | omega) only [AXS, AXB, J.dst, reduceIte, Nat.reduceEqDiff, Nat.reduceAdd, Nat.reduceMul, Nat.reduceLT, Nat.reduceLeDiff, f50r0, f50r1, f50r2, f50r3, f50r4, f50r5, f50r6, f50r7, f50r8, f50r9, f50r10, f50r11, f50r12, f50r13]); rw [f50c1_eq]; (try simp (config := { maxSteps := 1000000 }) (disch := first | exact Nat.le_of_ble_eq_true rfl | omega) only [AXS, AXB, J.dst, reduceIte, Nat.reduceEqDiff, Nat.reduceAdd, Nat.reduceMul, Nat.reduceLT, Nat.reduceLeDiff, f50r0, f50r1, f50r2, f50r3, f50r4, f50r5, f50r6, f50r7, f50r8, f50r9, f50r10, f50r11, f50r12, f50r13]); rw [f50c2_eq]; (try simp (config := { maxSteps := 1000000 }) (disch := first | exact Nat.le_of_ble_eq_true rfl | omega) only [AXS, AXB, J.dst, reduceIte, Nat.reduceEqDiff, Nat.reduceAdd, Nat.reduceMul, Nat.reduceLT, Nat.reduceLeDiff, f50r0, f50r1, f50r2, f50r3, f50r4, f50r5, f50r6, f50r7, f50r8, f50r9, f50r10, f50r11, f50r12, f50r13])
  refine ⟨fun hh => ?_, fun hh => ?_⟩
  · (try simp (config := { maxSteps := 1000000 }) (disch := first | exact Nat.le_of_ble_eq_true rfl | omega) only [AXS, AXB, J.dst, reduceIte, Nat.reduceEqDiff, Nat.reduceAdd, Nat.reduceMul, Nat.reduceLT, Nat.reduceLeDiff]); rw [f50c3_eq]; (try simp (config := { maxSteps := 1000000 }) (disch := first | exact Nat.le_of_ble_eq_true rfl | omega) only [AXS, AXB, J.dst, reduceIte, Nat.reduceEqDiff, Nat.reduceAdd, Nat.reduceMul, Nat.reduceLT, Nat.reduceLeDiff, f50r0, f50r1, f50r2, f50r3, f50r4, f50r5, f50r6, f50r7, f50r8, f50r9, f50r10, f50r11, f50r12, f50r13])
    refine hR false (fun h => (by cases h)) (fun h => ?_)
    subst h; simp at hh
  have h60 : cs.length ≤ 60 := by have := of_decide_eq_false hh; omega
  (try simp (config := { maxSteps := 1000000 }) (disch := first | exact Nat.le_of_ble_eq_true rfl | omega) only [AXS, AXB, J.dst, reduceIte, Nat.reduceEqDiff, Nat.reduceAdd, Nat.reduceMul, Nat.reduceLT, Nat.reduceLeDiff]); rw [f50c4_eq]; (try simp (config := { maxSteps := 1000000 }) (disch := first | exact Nat.le_of_ble_eq_true rfl | omega) only [AXS, AXB, J.dst, reduceIte, Nat.reduceEqDiff, Nat.reduceAdd, Nat.reduceMul, Nat.reduceLT, Nat.reduceLeDiff, f50r0, f50r1, f50r2, f50r3, f50r4, f50r5, f50r6, f50r7, f50r8, f50r9, f50r10, f50r11, f50r12, f50r13])
  rw [f50c5_eq]
  refine loop_in (fun n σ h' => h' = h ∧ ∃ k : Nat, k + n = cs.length ∧ σ = [(0, .slice a cs.length c), (3, vi k)] ∧ ∀ j x, j < k → cs[j]? = some x → x.vers.length ≤ 30) cs.length ⟨rfl, 0, by omega, rfl, by intros; omega⟩ ?_
  rintro n σ h' ⟨rfl, k, hk, rfl, hok⟩ Q' hnx hex hrt _
  (try simp (config := { maxSteps := 1000000 }) (disch := first | exact Nat.le_of_ble_eq_true rfl | omega) only [AXS, AXB, J.dst, reduceIte, Nat.reduceEqDiff, Nat.reduceAdd, Nat.reduceMul, Nat.reduceLT, Nat.reduceLeDiff]); rw [f50c6_eq]; (try simp (config := { maxSteps := 1000000 }) (disch := first | exact Nat.le_of_ble_eq_true rfl | omega) only [AXS, AXB, J.dst, reduceIte, Nat.reduceEqDiff, Nat.reduceAdd, Nat.reduceMul, Nat.reduceLT, Nat.reduceLeDiff, f50r0, f50r1, f50r2, f50r3, f50r4, f50r5, f50r6, f50r7, f50r8, f50r9, f50r10, f50r11, f50r12, f50r13]); rw [f50c7_eq]; (try simp (config := { maxSteps := 1000000 }) (disch := first | exact Nat.le_of_ble_eq_true rfl | omega) only [AXS, AXB, J.dst, reduceIte, Nat.reduceEqDiff, Nat.reduceAdd, Nat.reduceMul, Nat.reduceLT, Nat.reduceLeDiff, f50r0, f50r1, f50r2, f50r3, f50r4, f50r5, f50r6, f50r7, f50r8, f50r9, f50r10, f50r11, f50r12, f50r13])
  refine ⟨fun h2 => ?_, fun h2 => ?_⟩
  · have hkl : k < cs.length := by have := of_decide_eq_true h2; omega
    obtain ⟨x, hx⟩ := get_ex hkl
    obtain ⟨b, o, v, rfl, _, hrow, hcr⟩ := S.elem hx
    have hvn := hcr.vn
    have hno : ∀ h8, h8 = h' → Q' .ret [(2, .bool false)] h8 := by
      rintro h8 rfl
      refine hrt _ _ ?_
      simp (config := { maxSteps := 1000000 }) (disch := first | exact Nat.le_of_ble_eq_true rfl | omega) only [AXS, AXB, J.dst, reduceIte, Nat.reduceEqDiff, Nat.reduceAdd, Nat.reduceMul, Nat.reduceLT, Nat.reduceLeDiff]
      refine hR false (fun h => (by cases h)) (fun h => ?_)
      subst h; simp at hkl
    (try simp (config := { maxSteps := 1000000 }) (disch := first | exact Nat.le_of_ble_eq_true rfl | omega) only [AXS, AXB, J.dst, reduceIte, Nat.reduceEqDiff, Nat.reduceAdd, Nat.reduceMul, Nat.reduceLT, Nat.reduceLeDiff]); rw [f50c8_eq]; (try simp (config := { maxSteps := 1000000 }) (disch := first | exact Nat.le_of_ble_eq_true rfl | omega) only [AXS, AXB, J.dst, reduceIte, Nat.reduceEqDiff, Nat.reduceAdd, Nat.reduceMul, Nat.reduceLT, Nat.reduceLeDiff, f50r0, f50r1, f50r2, f50r3, f50r4, f50r5, f50r6, f50r7, f50r8, f50r9, f50r10, f50r11, f50r12, f50r13])
    rw [f50c9_eq]
    simp (config := { maxSteps := 1000000 }) (disch := first | exact Nat.le_of_ble_eq_true rfl | omega) only [AXJ, AXS, AXB, J.dst, reduceIte, Nat.reduceEqDiff, Nat.reduceAdd, Nat.reduceMul, Nat.reduceLT, Nat.reduceLeDiff, f50r5, row_cv hrow, hvn]
    refine ⟨by omega, by omega, fun _ => by omega, fun _ => by omega, ?_⟩
    simp (config := { maxSteps := 1000000 }) (disch := first | exact Nat.le_of_ble_eq_true rfl | omega) only [AXJ, AXS, AXB, J.dst, reduceIte, Nat.reduceEqDiff, Nat.reduceAdd, Nat.reduceMul, Nat.reduceLT, Nat.reduceLeDiff, f50r5a, row_cv hrow]
    refine ⟨fun _ => by omega, fun _ => by omega, ?_⟩
    rw [f50c10_eq]
    simp (config := { maxSteps := 1000000 }) (disch := first | exact Nat.le_of_ble_eq_true rfl | omega) only [AXS, AXB, J.dst, reduceIte, Nat.reduceEqDiff, Nat.reduceAdd, Nat.reduceMul, Nat.reduceLT, Nat.reduceLeDiff]
    refine ⟨fun h3 => ?_, fun h3 => ?_⟩
    · (try simp (config := { maxSteps := 1000000 }) (disch := first | exact Nat.le_of_ble_eq_true rfl | omega) only [AXS, AXB, J.dst, reduceIte, Nat.reduceEqDiff, Nat.reduceAdd, Nat.reduceMul, Nat.reduceLT, Nat.reduceLeDiff]); rw [f50c11_eq]; (try simp (config := { maxSteps := 1000000 }) (disch := first | exact Nat.le_of_ble_eq_true rfl | omega) only [AXS, AXB, J.dst, reduceIte, Nat.reduceEqDiff, Nat.reduceAdd, Nat.reduceMul, Nat.reduceLT, Nat.reduceLeDiff, f50r0, f50r1, f50r2, f50r3, f50r4, f50r5, f50r6, f50r7, f50r8, f50r9, f50r10, f50r11, f50r12, f50r13])
      exact hno _ rfl
    simp only [Bool.or_eq_false_iff, decide_eq_false_iff_not] at h3
    have h30 : x.vers.length ≤ 30 := by have := h3.1.1; omega
    have SV := hcr.vers
    (try simp (config := { maxSteps := 1000000 }) (disch := first | exact Nat.le_of_ble_eq_true rfl | omega) only [AXS, AXB, J.dst, reduceIte, Nat.reduceEqDiff, Nat.reduceAdd, Nat.reduceMul, Nat.reduceLT, Nat.reduceLeDiff]); rw [f50c12_eq]; (try simp (config := { maxSteps := 1000000 }) (disch := first | exact Nat.le_of_ble_eq_true rfl | omega) only [AXS, AXB, J.dst, reduceIte, Nat.reduceEqDiff, Nat.reduceAdd, Nat.reduceMul, Nat.reduceLT, Nat.reduceLeDiff, f50r0, f50r1, f50r2, f50r3, f50r4, f50r5, f50r6, f50r7, f50r8, f50r9, f50r10, f50r11, f50r12, f50r13])
    rw [f50c13_eq]
    refine loop_in1 (fun n' σ h'' => h'' = h' ∧ ∃ i : Nat, i + n' = x.vers.length ∧ σ = [(0, .slice (some ⟨b, o, none⟩) cs.length c), (3, vi k), (4, vi i)]) x.vers.length ⟨rfl, 0, by omega, rfl⟩ ?_
    rintro n2 σ h6 ⟨rfl, i, hi, rfl⟩ Q2 hnx2 hex2 hrt2 _
    (try simp (config := { maxSteps := 1000000 }) (disch := first | exact Nat.le_of_ble_eq_true rfl | omega) only [AXS, AXB, J.dst, reduceIte, Nat.reduceEqDiff, Nat.reduceAdd, Nat.reduceMul, Nat.reduceLT, Nat.reduceLeDiff]); rw [f50c14_eq]; (try simp (config := { maxSteps := 1000000 }) (disch := first | exact Nat.le_of_ble_eq_true rfl | omega) only [AXS, AXB, J.dst, reduceIte, Nat.reduceEqDiff, Nat.reduceAdd, Nat.reduceMul, Nat.reduceLT, Nat.reduceLeDiff, f50r0, f50r1, f50r2, f50r3, f50r4, f50r5, f50r6, f50r7, f50r8, f50r9, f50r10, f50r11, f50r12, f50r13, row_cv hrow, hvn])
    refine ⟨by omega, by omega, ?_⟩
    (try simp (config := { maxSteps := 1000000 }) (disch := first | exact Nat.le_of_ble_eq_true rfl | omega) only [AXS, AXB, J.dst, reduceIte, Nat.reduceEqDiff, Nat.reduceAdd, Nat.reduceMul, Nat.reduceLT, Nat.reduceLeDiff]); rw [f50c15_eq]; (try simp (config := { maxSteps := 1000000 }) (disch := first | exact Nat.le_of_ble_eq_true rfl | omega) only [AXS, AXB, J.dst, reduceIte, Nat.reduceEqDiff, Nat.reduceAdd, Nat.reduceMul, Nat.reduceLT, Nat.reduceLeDiff, f50r0, f50r1, f50r2, f50r3, f50r4, f50r5, f50r6, f50r7, f50r8, f50r9, f50r10, f50r11, f50r12, f50r13])
    refine ⟨fun h7 => ?_, fun h7 => ?_⟩
    · have hil : i < x.vers.length := by have := of_decide_eq_true h7; omega
      obtain ⟨w, hw⟩ := get_ex hil
      obtain ⟨vb, vo, hva, _, hrowv⟩ := SV.elem eVer_len hw
      (try simp (config := { maxSteps := 1000000 }) (disch := first | exact Nat.le_of_ble_eq_true rfl | omega) only [AXS, AXB, J.dst, reduceIte, Nat.reduceEqDiff, Nat.reduceAdd, Nat.reduceMul, Nat.reduceLT, Nat.reduceLeDiff]); rw [f50c16_eq]; (try simp (config := { maxSteps := 1000000 }) (disch := first | exact Nat.le_of_ble_eq_true rfl | omega) only [AXS, AXB, J.dst, reduceIte, Nat.reduceEqDiff, Nat.reduceAdd, Nat.reduceMul, Nat.reduceLT, Nat.reduceLeDiff, f50r0, f50r1, f50r2, f50r3, f50r4, f50r5, f50r6, f50r7, f50r8, f50r9, f50r10, f50r11, f50r12, f50r13, row_cv hrow, hvn, hva, row_ver hrowv]); rw [f50c17_eq]; (try simp (config := { maxSteps := 1000000 }) (disch := first | exact Nat.le_of_ble_eq_true rfl | omega) only [AXS, AXB, J.dst, reduceIte, Nat.reduceEqDiff, Nat.reduceAdd, Nat.reduceMul, Nat.reduceLT, Nat.reduceLeDiff, f50r0, f50r1, f50r2, f50r3, f50r4, f50r5, f50r6, f50r7, f50r8, f50r9, f50r10, f50r11, f50r12, f50r13, row_cv hrow, hvn, hva, row_ver hrowv])
      refine ⟨by omega, by omega, by omega, by omega, ?_⟩
      (try simp (config := { maxSteps := 1000000 }) (disch := first | exact Nat.le_of_ble_eq_true rfl | omega) only [AXS, AXB, J.dst, reduceIte, Nat.reduceEqDiff, Nat.reduceAdd, Nat.reduceMul, Nat.reduceLT, Nat.reduceLeDiff]); rw [f50c18_eq]; (try simp (config := { maxSteps := 1000000 }) (disch := first | exact Nat.le_of_ble_eq_true rfl | omega) only [AXS, AXB, J.dst, reduceIte, Nat.reduceEqDiff, Nat.reduceAdd, Nat.reduceMul, Nat.reduceLT, Nat.reduceLeDiff, f50r0, f50r1, f50r2, f50r3, f50r4, f50r5, f50r6, f50r7, f50r8, f50r9, f50r10, f50r11, f50r12, f50r13])
      refine ⟨fun h8 => ?_, fun h8 => ?_⟩
      · (try simp (config := { maxSteps := 1000000 }) (disch := first | exact Nat.le_of_ble_eq_true rfl | omega) only [AXS, AXB, J.dst, reduceIte, Nat.reduceEqDiff, Nat.reduceAdd, Nat.reduceMul, Nat.reduceLT, Nat.reduceLeDiff]); rw [f50c19_eq]; (try simp (config := { maxSteps := 1000000 }) (disch := first | exact Nat.le_of_ble_eq_true rfl | omega) only [AXS, AXB, J.dst, reduceIte, Nat.reduceEqDiff, Nat.reduceAdd, Nat.reduceMul, Nat.reduceLT, Nat.reduceLeDiff, f50r0, f50r1, f50r2, f50r3, f50r4, f50r5, f50r6, f50r7, f50r8, f50r9, f50r10, f50r11, f50r12, f50r13])
        refine hrt2 _ _ ?_
        simp (config := { maxSteps := 1000000 }) (disch := first | exact Nat.le_of_ble_eq_true rfl | omega) only [AXS, AXB, J.dst, reduceIte, Nat.reduceEqDiff, Nat.reduceAdd, Nat.reduceMul, Nat.reduceLT, Nat.reduceLeDiff]
        exact hno _ rfl
      · (try simp (config := { maxSteps := 1000000 }) (disch := first | exact Nat.le_of_ble_eq_true rfl | omega) only [AXS, AXB, J.dst, reduceIte, Nat.reduceEqDiff, Nat.reduceAdd, Nat.reduceMul, Nat.reduceLT, Nat.reduceLeDiff]); rw [f50c20_eq]; (try simp (config := { maxSteps := 1000000 }) (disch := first | exact Nat.le_of_ble_eq_true rfl | omega) only [AXS, AXB, J.dst, reduceIte, Nat.reduceEqDiff, Nat.reduceAdd, Nat.reduceMul, Nat.reduceLT, Nat.reduceLeDiff, f50r0, f50r1, f50r2, f50r3, f50r4, f50r5, f50r6, f50r7, f50r8, f50r9, f50r10, f50r11, f50r12, f50r13])
        rw [i64_wrap (by omega) (by omega)]
        exact hnx2 (n2 - 1) _ _ (by omega) ⟨rfl, i + 1, by omega, rfl⟩
    · refine hex2 _ _ ?_
      (try simp (config := { maxSteps := 1000000 }) (disch := first | exact Nat.le_of_ble_eq_true rfl | omega) only [AXS, AXB, J.dst, reduceIte, Nat.reduceEqDiff, Nat.reduceAdd, Nat.reduceMul, Nat.reduceLT, Nat.reduceLeDiff]); rw [f50c21_eq]; (try simp (config := { maxSteps := 1000000 }) (disch := first | exact Nat.le_of_ble_eq_true rfl | omega) only [AXS, AXB, J.dst, reduceIte, Nat.reduceEqDiff, Nat.reduceAdd, Nat.reduceMul, Nat.reduceLT, Nat.reduceLeDiff, f50r0, f50r1, f50r2, f50r3, f50r4, f50r5, f50r6, f50r7, f50r8, f50r9, f50r10, f50r11, f50r12, f50r13])
      rw [i64_wrap (by omega) (by omega)]
      refine hnx (n - 1) _ _ (by omega) ⟨rfl, k + 1, by omega, rfl, ?_⟩
      intro j y hj hy
      rcases Nat.lt_or_ge j k with hlt | hge
      · exact hok j y hlt hy
      · have : j = k := by omega
        subst this
        rw [hx] at hy; cases hy; exact h30
  · have hkl : k = cs.length := by have := of_decide_eq_false h2; omega
    refine hex _ _ ?_
    (try simp (config := { maxSteps := 1000000 }) (disch := first | exact Nat.le_of_ble_eq_true rfl | omega) only [AXS, AXB, J.dst, reduceIte, Nat.reduceEqDiff, Nat.reduceAdd, Nat.reduceMul, Nat.reduceLT, Nat.reduceLeDiff]); rw [f50c22_eq]; (try simp (config := { maxSteps := 1000000 }) (disch := first | exact Nat.le_of_ble_eq_true rfl | omega) only [AXS, AXB, J.dst, reduceIte, Nat.reduceEqDiff, Nat.reduceAdd, Nat.reduceMul, Nat.reduceLT, Nat.reduceLeDiff, f50r0, f50r1, f50r2, f50r3, f50r4, f50r5, f50r6, f50r7, f50r8, f50r9, f50r10, f50r11, f50r12, f50r13])
    refine hR true (fun _ => ⟨h60, fun c hc => ?_⟩) (fun _ => rfl)
    obtain ⟨j, hj, rfl⟩ := List.mem_iff_getElem.1 hc
    have := hok j _ (by omega) (List.getElem?_eq_getElem hj)
    omega

/-! ### The document's operations -/
theorem rsettleL_eq {cs : List Cell} (g : Good cs) (by_ : Try4) (yes : Bool) : rsettleL cs by_ yes = settleL cs by_ yes := by
  unfold rsettleL settleL
  refine fm_congr fun c hc => ?_
  have hv := (g.ok c hc).vs
  have : rsettleC by_ yes c = settleC by_ yes c := by
    unfold rsettleC settleC
    rw [withV_eq _ hv, putV_eq _ hv]
  rw [this]
theorem rtrimL_eq {cs : List Cell} (g : Good cs) (t : Stamp) : rtrimL cs t = trimL cs t := by
  unfold rtrimL trimL
  refine fm_congr fun c hc => ?_
  have hv := (g.ok c hc).vs
  have : rtrimC t c = trimC t c := by
    unfold rtrimC trimC
    rw [cutV_eq hv]
  rw [this]
theorem rlockL_lock {cs : List Cell} (g : Good cs) (w : Wri) (l : Lck) : rlockL cs w l = lockL cs w l := by rw [rlockL_eq w l g.sorted, lockL_eq]
theorem rdoL_eq {cs : List Cell} (g : Good cs) (o : Op8) : rdoL cs o = doL cs o := by
  unfold rdoL doL
  rw [rlockL_lock g, rsettleL_eq g, rtrimL_eq g]
end Go.Proofs.Ytefghfgmkndikaa
