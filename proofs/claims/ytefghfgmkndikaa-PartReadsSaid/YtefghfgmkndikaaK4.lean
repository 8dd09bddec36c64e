/-
  The walks and plain laws under the laws of one package: texts of mine put together, what they do not use left out (wip/tools/prune.py).
-/
import Derived.Test.YtefghfgmkndikaaK3
set_option linter.unusedSimpArgs false
set_option linter.unusedVariables false
namespace Go.Proofs.Ytefghfgmkndikaa
open Go.AX
set_option maxRecDepth 100000
def f93r0 : List I := [.op (.box 4 94 (.tmp 1)),
  .op (.box 5 39 (.tmp 2)),
  .op (.new 6 72 [.int .i64 0, .int .i64 0, .int .i64 0, .int .i64 0, .int .i64 0, .int .i64 0, .int .i64 0, .bool false, .string ⟨#[]⟩]),
  .op (.mov 7 (.const (.bool false))),
  .kp [0, 4, 5, 6]]
def f93r1 : List I := [.op (.mov 10 (.tmp 0)),
  .op (.ld 11 (some 2) (.tmp 4)),
  .op (.call (some 12) 92 [(.tmp 10), (.tmp 11)]),
  .op (.len 13 true (.tmp 12)),
  .op (.mov 14 (.const (.int .i64 0))),
  .kp [5, 6, 12, 13, 14]]
def f93r2 : List I := [.op (.bin 15 .lss (.tmp 14) (.tmp 13)),
  .kp [5, 6, 12, 13, 14, 15]]
def f93r3 : List I := [.op (.iad 16 12 (.tmp 12) (.tmp 14)),
  .op (.ld 17 (some 12) (.tmp 16)),
  .op (.new 9 103 [.string ⟨#[]⟩, .slice none 0 0, .bool false, .int .i64 0, .int .i64 0, .int .i64 0, .int .i64 0, .int .i64 0, .int .i64 0, .int .i64 0, .bool false, .string ⟨#[]⟩]),
  .op (.st 12 (.tmp 9) (.tmp 17)),
  .kp [5, 6, 9, 12, 13, 14]]
def f93r4 : List I := [.op (.fad 18 2 (.tmp 9)),
  .op (.ld 19 none (.tmp 18)),
  .op (.mov 20 (.tmp 19)),
  .sc 20 true 6,
  .g 20 true (.ld 21 (some 2) (.tmp 5)),
  .g 20 true (.fad 22 3 (.tmp 9)),
  .g 20 true (.fad 23 5 (.tmp 22)),
  .g 20 true (.ld 24 (some 2) (.tmp 23)),
  .g 20 true (.call (some 25) 90 [(.tmp 21), (.tmp 24)]),
  .g 20 true (.un 26 .not (.tmp 25)),
  .op (.pick 27 (.tmp 20) (.tmp 26) (.const (.bool false))),
  .kp [27, 5, 6, 9, 12, 13, 14]]
def f93r5 : List I := [.op (.fad 28 3 (.tmp 9)),
  .op (.ld 29 (some 9) (.tmp 28)),
  .op (.st 9 (.tmp 6) (.tmp 29)),
  .op (.mov 7 (.const (.bool true))),
  .kp [6, 7]]
def f93r6 : List I := [.op (.bin 30 .add (.tmp 14) (.const (.int .i64 1))),
  .op (.mov 14 (.tmp 30)),
  .kp [5, 6, 12, 13, 14]]
def f93r7 : List I := [.op (.bld 31 [.int .i64 0, .int .i64 0, .int .i64 0, .int .i64 0, .int .i64 0, .int .i64 0, .int .i64 0, .bool false, .string ⟨#[]⟩] []),
  .op (.st 9 (.tmp 6) (.tmp 31)),
  .op (.mov 7 (.const (.bool false))),
  .kp [6, 7]]
def f93c9 : C := (.seq (.reg f93r5) .ret)
def f93c8 : C := (.cond (.tmp 27) f93c9 .skip)
def f93c7 : C := (.seq (.reg f93r4) f93c8)
def f93c6 : C := (.seq (.reg f93r3) f93c7)
def f93c10 : C := (.reg f93r6)
def f93c5 : C := (.seq (.block 1 f93c6) f93c10)
def f93c4 : C := (.seq (.cond (.tmp 15) .skip (.exit 0)) f93c5)
def f93c3 : C := (.seq (.reg f93r2) f93c4)
def f93c11 : C := (.seq (.reg f93r7) .ret)
def f93c2 : C := (.seq (.block 0 (.loop f93c3)) f93c11)
def f93c1 : C := (.seq (.reg f93r1) f93c2)
def f93c0 : C := (.seq (.reg f93r0) f93c1)
theorem f93cmp : cmpF Try.prog Try.f93 [.l [.o 0, .o 1, .o 2, .o 3, .kp [0, 4, 5, 6]],
  .l [.o 0, .o 1, .o 2, .o 3, .o 4, .kp [5, 6, 12, 13, 14]],
  .l [.o 0, .kp [5, 6, 12, 13, 14, 15]],
  .l [.o 0, .o 1, .o 2, .o 3, .kp [5, 6, 9, 12, 13, 14]],
  .l [.o 0, .o 1, .o 2, .sc 20 true 6, .o 3, .o 4, .o 5, .o 6, .o 7, .o 8, .o 9, .kp [27, 5, 6, 9, 12, 13, 14]],
  .l [.o 0, .o 1, .o 2, .o 3, .kp [6, 7]],
  .l [.o 0, .o 1, .kp [5, 6, 12, 13, 14]],
  .l [.o 0, .o 1, .o 2, .kp [6, 7]]] = some (f93c0, [.cell 6 9, .tmp 7]) := by kernel_rfl
theorem f93ok {args : List Value} {h : Heap} {R : Value → Heap → Prop} (hn : args.length ≤ 32) (H : wC Try.prog f93c0 (endW [.cell 6 9, .tmp 7] R) (envOf 0 args) h) : CallsH Try.prog 93 args h R :=
  fn_ok2 Try.func93 f93cmp hn H
section
variable {Q : X → Env → Heap → Prop} {σ : Env} {h : Heap}
theorem f93c9_eq : wC Try.prog f93c9 Q σ h = (wL Try.prog none f93r5 0 (fun σ h => Q .ret σ h) σ h) := rfl
theorem f93c8_eq : wC Try.prog f93c8 Q σ h = (bd (evO σ (.tmp 27)) fun v => bd (asB v) fun t => br t (wC Try.prog f93c9 Q σ h) (Q .normal σ h)) := rfl
theorem f93c7_eq : wC Try.prog f93c7 Q σ h = (wL Try.prog none f93r4 0 (fun σ h => wC Try.prog f93c8 Q σ h) σ h) := rfl
theorem f93c6_eq : wC Try.prog f93c6 Q σ h = (wL Try.prog none f93r3 0 (fun σ h => wC Try.prog f93c7 Q σ h) σ h) := rfl
theorem f93c10_eq : wC Try.prog f93c10 Q σ h = (wL Try.prog none f93r6 0 (fun σ h => Q .normal σ h) σ h) := rfl
theorem f93c5_eq : wC Try.prog f93c5 Q σ h = (wC Try.prog f93c6 (X.inBlock 1 (X.then (fun σ h => wC Try.prog f93c10 Q σ h) Q)) σ h) := rfl
theorem f93c4_eq : wC Try.prog f93c4 Q σ h = (bd (evO σ (.tmp 15)) fun v => bd (asB v) fun t => br t (wC Try.prog f93c5 Q σ h) (Q (.exit 0) σ h)) := rfl
theorem f93c3_eq : wC Try.prog f93c3 Q σ h = (wL Try.prog none f93r2 0 (fun σ h => wC Try.prog f93c4 Q σ h) σ h) := rfl
theorem f93c11_eq : wC Try.prog f93c11 Q σ h = (wL Try.prog none f93r7 0 (fun σ h => Q .ret σ h) σ h) := rfl
theorem f93c2_eq : wC Try.prog f93c2 Q σ h = (loopW (wC Try.prog f93c3) (X.inBlock 0 (X.then (fun σ h => wC Try.prog f93c11 Q σ h) Q)) σ h) := rfl
theorem f93c1_eq : wC Try.prog f93c1 Q σ h = (wL Try.prog none f93r1 0 (fun σ h => wC Try.prog f93c2 Q σ h) σ h) := rfl
theorem f93c0_eq : wC Try.prog f93c0 Q σ h = (wL Try.prog none f93r0 0 (fun σ h => wC Try.prog f93c1 Q σ h) σ h) := rfl
end
def f67r0 : List I := [.op (.box 4 94 (.tmp 1)),
  .op (.box 5 39 (.tmp 2)),
  .op (.new 6 72 [.int .i64 0, .int .i64 0, .int .i64 0, .int .i64 0, .int .i64 0, .int .i64 0, .int .i64 0, .bool false, .string ⟨#[]⟩]),
  .op (.mov 7 (.const (.bool false))),
  .kp [0, 4, 5, 6]]
def f67r1 : List I := [.op (.mov 8 (.const (.int .i64 0))),
  .kp [0, 4, 5, 6, 8]]
def f67r2 : List I := [.op (.mov 9 (.tmp 8)),
  .op (.mov 10 (.tmp 0)),
  .op (.len 11 true (.tmp 10)),
  .op (.bin 12 .lss (.tmp 9) (.tmp 11)),
  .kp [0, 4, 5, 6, 8, 12]]
def f67r3a : List I := [.op (.mov 29 (.tmp 28)),
  .sc 29 true 9,
  .g 29 true (.ld 30 (some 2) (.tmp 5)),
  .g 29 true (.mov 31 (.tmp 0)),
  .g 29 true (.mov 32 (.tmp 8)),
  .g 29 true (.iad 33 12 (.tmp 31) (.tmp 32)),
  .g 29 true (.fad 34 3 (.tmp 33)),
  .g 29 true (.fad 35 5 (.tmp 34)),
  .g 29 true (.ld 36 (some 2) (.tmp 35)),
  .g 29 true (.call (some 37) 42 [(.tmp 30), (.tmp 36)]),
  .g 29 true (.un 38 .not (.tmp 37)),
  .op (.pick 39 (.tmp 29) (.tmp 38) (.const (.bool false))),
  .kp [39, 0, 4, 5, 6, 8]]
def f67r3 : List I := .op (.mov 15 (.tmp 0)) ::
  .op (.mov 16 (.tmp 8)) ::
  .op (.iad 17 12 (.tmp 15) (.tmp 16)) ::
  .op (.fad 18 0 (.tmp 17)) ::
  .op (.ld 19 none (.tmp 18)) ::
  .op (.ld 20 (some 2) (.tmp 4)) ::
  .op (.call (some 21) 106 [(.tmp 19), (.tmp 20)]) ::
  .op (.mov 22 (.tmp 21)) ::
  .sc 22 true 5 ::
  .g 22 true (.mov 23 (.tmp 0)) ::
  .g 22 true (.mov 24 (.tmp 8)) ::
  .g 22 true (.iad 25 12 (.tmp 23) (.tmp 24)) ::
  .g 22 true (.fad 26 2 (.tmp 25)) ::
  .g 22 true (.ld 27 none (.tmp 26)) ::
  .op (.pick 28 (.tmp 22) (.tmp 27) (.const (.bool false))) ::
  .kp [28, 0, 4, 5, 6, 8] ::
  f67r3a
def f67r4 : List I := [.op (.mov 40 (.tmp 0)),
  .op (.mov 41 (.tmp 8)),
  .op (.iad 42 12 (.tmp 40) (.tmp 41)),
  .op (.fad 43 3 (.tmp 42)),
  .op (.ld 44 (some 9) (.tmp 43)),
  .op (.st 9 (.tmp 6) (.tmp 44)),
  .op (.mov 7 (.const (.bool true))),
  .kp [6, 7]]
def f67r5 : List I := [.op (.mov 13 (.tmp 8)),
  .op (.bin 14 .add (.tmp 13) (.const (.int .i64 1))),
  .op (.mov 8 (.tmp 14)),
  .kp [0, 4, 5, 6, 8]]
def f67r6 : List I := [.op (.bld 45 [.int .i64 0, .int .i64 0, .int .i64 0, .int .i64 0, .int .i64 0, .int .i64 0, .int .i64 0, .bool false, .string ⟨#[]⟩] []),
  .op (.st 9 (.tmp 6) (.tmp 45)),
  .op (.mov 7 (.const (.bool false))),
  .kp [6, 7]]
def f67c8 : C := (.seq (.reg f67r4) .ret)
def f67c7 : C := (.cond (.tmp 39) f67c8 .skip)
def f67c6 : C := (.seq (.drw f67r3) f67c7)
def f67c9 : C := (.reg f67r5)
def f67c5 : C := (.seq (.block 1 f67c6) f67c9)
def f67c4 : C := (.seq (.cond (.tmp 12) .skip (.exit 0)) f67c5)
def f67c3 : C := (.seq (.reg f67r2) f67c4)
def f67c10 : C := (.seq (.reg f67r6) .ret)
def f67c2 : C := (.seq (.block 0 (.loop f67c3)) f67c10)
def f67c1 : C := (.seq (.reg f67r1) f67c2)
def f67c0 : C := (.seq (.reg f67r0) f67c1)
theorem f67cmp : cmpF Try.prog Try.f67 [.l [.o 0, .o 1, .o 2, .o 3, .kp [0, 4, 5, 6]],
  .l [.o 0, .kp [0, 4, 5, 6, 8]],
  .l [.o 0, .o 1, .o 2, .o 3, .kp [0, 4, 5, 6, 8, 12]],
  .l [.o 0, .o 1, .o 2, .o 3, .o 4, .o 5, .o 6, .o 7, .sc 22 true 5, .o 8, .o 9, .o 10, .o 11, .o 12, .o 13, .kp [28, 0, 4, 5, 6, 8], .o 14, .sc 29 true 9, .o 15, .o 16, .o 17, .o 18, .o 19, .o 20, .o 21, .o 22, .o 23, .o 24, .kp [39, 0, 4, 5, 6, 8]],
  .l [.o 0, .o 1, .o 2, .o 3, .o 4, .o 5, .o 6, .kp [6, 7]],
  .l [.o 0, .o 1, .o 2, .kp [0, 4, 5, 6, 8]],
  .l [.o 0, .o 1, .o 2, .kp [6, 7]]] = some (f67c0, [.cell 6 9, .tmp 7]) := by kernel_rfl
theorem f67ok {args : List Value} {h : Heap} {R : Value → Heap → Prop} (hn : args.length ≤ 46) (H : wC Try.prog f67c0 (endW [.cell 6 9, .tmp 7] R) (envOf 0 args) h) : CallsH Try.prog 67 args h R :=
  fn_ok2 Try.func67 f67cmp hn H
section
variable {Q : X → Env → Heap → Prop} {σ : Env} {h : Heap}
theorem f67c8_eq : wC Try.prog f67c8 Q σ h = (wL Try.prog none f67r4 0 (fun σ h => Q .ret σ h) σ h) := rfl
theorem f67c7_eq : wC Try.prog f67c7 Q σ h = (bd (evO σ (.tmp 39)) fun v => bd (asB v) fun t => br t (wC Try.prog f67c8 Q σ h) (Q .normal σ h)) := rfl
theorem f67c6_eq : wC Try.prog f67c6 Q σ h = (drwW Try.prog f67r3 (fun σ h => wC Try.prog f67c7 Q σ h) σ h) := rfl
theorem f67c9_eq : wC Try.prog f67c9 Q σ h = (wL Try.prog none f67r5 0 (fun σ h => Q .normal σ h) σ h) := rfl
theorem f67c5_eq : wC Try.prog f67c5 Q σ h = (wC Try.prog f67c6 (X.inBlock 1 (X.then (fun σ h => wC Try.prog f67c9 Q σ h) Q)) σ h) := rfl
theorem f67c4_eq : wC Try.prog f67c4 Q σ h = (bd (evO σ (.tmp 12)) fun v => bd (asB v) fun t => br t (wC Try.prog f67c5 Q σ h) (Q (.exit 0) σ h)) := rfl
theorem f67c3_eq : wC Try.prog f67c3 Q σ h = (wL Try.prog none f67r2 0 (fun σ h => wC Try.prog f67c4 Q σ h) σ h) := rfl
theorem f67c10_eq : wC Try.prog f67c10 Q σ h = (wL Try.prog none f67r6 0 (fun σ h => Q .ret σ h) σ h) := rfl
theorem f67c2_eq : wC Try.prog f67c2 Q σ h = (loopW (wC Try.prog f67c3) (X.inBlock 0 (X.then (fun σ h => wC Try.prog f67c10 Q σ h) Q)) σ h) := rfl
theorem f67c1_eq : wC Try.prog f67c1 Q σ h = (wL Try.prog none f67r1 0 (fun σ h => wC Try.prog f67c2 Q σ h) σ h) := rfl
theorem f67c0_eq : wC Try.prog f67c0 Q σ h = (wL Try.prog none f67r0 0 (fun σ h => wC Try.prog f67c1 Q σ h) σ h) := rfl
end
def f68r0 : List I := [.op (.box 5 94 (.tmp 1)),
  .op (.box 6 39 (.tmp 2)),
  .op (.mov 8 (.const (.slice none 0 0))),
  .op (.mov 9 (.const (.int .i64 0))),
  .kp [0, 3, 5, 6]]
def f68r1 : List I := [.op (.mov 10 (.const (.slice none 0 0))),
  .kp [0, 3, 5, 6, 10]]
def f68r2 : List I := [.op (.mov 11 (.const (.int .i64 0))),
  .kp [0, 3, 5, 6, 10, 11]]
def f68r3 : List I := [.op (.mov 14 (.tmp 11)),
  .op (.mov 15 (.tmp 0)),
  .op (.len 16 true (.tmp 15)),
  .op (.bin 17 .lss (.tmp 14) (.tmp 16)),
  .kp [0, 3, 5, 6, 10, 11, 17]]
def f68r4 : List I := [.op (.mov 20 (.tmp 0)),
  .op (.mov 21 (.tmp 11)),
  .op (.iad 22 12 (.tmp 20) (.tmp 21)),
  .op (.fad 23 0 (.tmp 22)),
  .op (.ld 24 none (.tmp 23)),
  .op (.ld 25 (some 2) (.tmp 5)),
  .op (.call (some 26) 106 [(.tmp 24), (.tmp 25)]),
  .op (.un 27 .not (.tmp 26)),
  .kp [0, 3, 5, 6, 10, 11, 27]]
def f68r5 : List I := [.op (.mov 29 (.tmp 0)),
  .op (.mov 30 (.tmp 11)),
  .op (.iad 31 12 (.tmp 29) (.tmp 30)),
  .op (.ld 32 (some 12) (.tmp 31)),
  .op (.ld 33 (some 2) (.tmp 6)),
  .op (.call (some 34) 107 [(.tmp 32), (.tmp 33)]),
  .op (.mov 28 (.tmp 34)),
  .op (.ext 35 (.tmp 28) 0),
  .op (.ext 36 (.tmp 28) 1),
  .op (.mov 12 (.tmp 35)),
  .kp [0, 3, 5, 6, 10, 11, 12, 36],
  .op (.mov 13 (.tmp 36)),
  .kp [0, 3, 5, 6, 10, 11, 12, 13]]
def f68r6 : List I := [.op (.mov 37 (.tmp 13)),
  .kp [0, 3, 5, 6, 10, 11, 12, 37]]
def f68r7 : List I := [.op (.mov 38 (.tmp 10)),
  .op (.mov 39 (.tmp 0)),
  .op (.mov 40 (.tmp 11)),
  .op (.iad 41 12 (.tmp 39) (.tmp 40)),
  .op (.fad 42 0 (.tmp 41)),
  .op (.ld 43 none (.tmp 42)),
  .op (.mov 44 (.tmp 12)),
  .op (.bld 45 [.string ⟨#[]⟩, .string ⟨#[]⟩] [(0, 1, (.tmp 43)), (1, 1, (.tmp 44))]),
  .op (.bsl 46 99 1 [.string ⟨#[]⟩, .string ⟨#[]⟩] [(0, 2, (.tmp 45))]),
  .op (.raw (some 47) ⟨(some 47), (.call ⟨(.builtin .append), #[(.tmp 38), (.tmp 46)], #[45, 45]⟩), 45, "ref.go:82", #[⟨0, .data⟩, ⟨8, .data⟩], none⟩),
  .kp [0, 3, 5, 6, 11, 47],
  .op (.mov 10 (.tmp 47)),
  .kp [0, 3, 5, 6, 10, 11]]
def f68r8 : List I := [.op (.mov 18 (.tmp 11)),
  .op (.bin 19 .add (.tmp 18) (.const (.int .i64 1))),
  .op (.mov 11 (.tmp 19)),
  .kp [0, 3, 5, 6, 10, 11]]
def f68r9 : List I := [.op (.mov 48 (.tmp 10)),
  .op (.len 49 true (.tmp 48)),
  .op (.mov 50 (.tmp 3)),
  .op (.mm 51 true (.tmp 50) (.const (.int .i64 0))),
  .op (.bin 52 .gtr (.tmp 49) (.tmp 51)),
  .kp [10, 52]]
def f68r10 : List I := [.op (.mov 8 (.const (.slice none 0 0))),
  .op (.mov 9 (.const (.int .i64 3))),
  .kp [8, 9]]
def f68r11 : List I := [.op (.mov 53 (.tmp 10)),
  .op (.mov 8 (.tmp 53)),
  .op (.mov 9 (.const (.int .i64 0))),
  .kp [8, 9]]
def f68c12 : C := (.reg f68r7)
def f68c11 : C := (.cond (.tmp 37) f68c12 .skip)
def f68c10 : C := (.seq (.reg f68r6) f68c11)
def f68c9 : C := (.seq (.drw f68r5) f68c10)
def f68c8 : C := (.seq (.cond (.tmp 27) (.exit 1) .skip) f68c9)
def f68c7 : C := (.seq (.drw f68r4) f68c8)
def f68c13 : C := (.reg f68r8)
def f68c6 : C := (.seq (.block 1 f68c7) f68c13)
def f68c5 : C := (.seq (.cond (.tmp 17) .skip (.exit 0)) f68c6)
def f68c4 : C := (.seq (.reg f68r3) f68c5)
def f68c16 : C := (.seq (.reg f68r10) .ret)
def f68c17 : C := (.seq (.reg f68r11) .ret)
def f68c15 : C := (.seq (.cond (.tmp 52) f68c16 .skip) f68c17)
def f68c14 : C := (.seq (.reg f68r9) f68c15)
def f68c3 : C := (.seq (.block 0 (.loop f68c4)) f68c14)
def f68c2 : C := (.seq (.reg f68r2) f68c3)
def f68c1 : C := (.seq (.reg f68r1) f68c2)
def f68c0 : C := (.seq (.reg f68r0) f68c1)
theorem f68cmp : cmpF Try.prog Try.f68 [.l [.o 0, .o 1, .o 2, .o 3, .kp [0, 3, 5, 6]],
  .l [.o 0, .kp [0, 3, 5, 6, 10]],
  .l [.o 0, .kp [0, 3, 5, 6, 10, 11]],
  .l [.o 0, .o 1, .o 2, .o 3, .kp [0, 3, 5, 6, 10, 11, 17]],
  .l [.o 0, .o 1, .o 2, .o 3, .o 4, .o 5, .o 6, .o 7, .kp [0, 3, 5, 6, 10, 11, 27]],
  .l [.o 0, .o 1, .o 2, .o 3, .o 4, .o 5, .o 6, .o 7, .o 8, .o 9, .kp [0, 3, 5, 6, 10, 11, 12, 36], .o 10, .kp [0, 3, 5, 6, 10, 11, 12, 13]],
  .l [.o 0, .kp [0, 3, 5, 6, 10, 11, 12, 37]],
  .l [.o 0, .o 1, .o 2, .o 3, .o 4, .o 5, .o 6, .o 7, .o 8, .o 9, .kp [0, 3, 5, 6, 11, 47], .o 10, .kp [0, 3, 5, 6, 10, 11]],
  .l [.o 0, .o 1, .o 2, .kp [0, 3, 5, 6, 10, 11]],
  .l [.o 0, .o 1, .o 2, .o 3, .o 4, .kp [10, 52]],
  .l [.o 0, .o 1, .kp [8, 9]],
  .l [.o 0, .o 1, .o 2, .kp [8, 9]]] = some (f68c0, [.tmp 8, .tmp 9]) := by kernel_rfl
theorem f68ok {args : List Value} {h : Heap} {R : Value → Heap → Prop} (hn : args.length ≤ 54) (H : wC Try.prog f68c0 (endW [.tmp 8, .tmp 9] R) (envOf 0 args) h) : CallsH Try.prog 68 args h R :=
  fn_ok2 Try.func68 f68cmp hn H
section
variable {Q : X → Env → Heap → Prop} {σ : Env} {h : Heap}
theorem f68c12_eq : wC Try.prog f68c12 Q σ h = (wL Try.prog none f68r7 0 (fun σ h => Q .normal σ h) σ h) := rfl
theorem f68c11_eq : wC Try.prog f68c11 Q σ h = (bd (evO σ (.tmp 37)) fun v => bd (asB v) fun t => br t (wC Try.prog f68c12 Q σ h) (Q .normal σ h)) := rfl
theorem f68c10_eq : wC Try.prog f68c10 Q σ h = (wL Try.prog none f68r6 0 (fun σ h => wC Try.prog f68c11 Q σ h) σ h) := rfl
theorem f68c9_eq : wC Try.prog f68c9 Q σ h = (drwW Try.prog f68r5 (fun σ h => wC Try.prog f68c10 Q σ h) σ h) := rfl
theorem f68c8_eq : wC Try.prog f68c8 Q σ h = (bd (evO σ (.tmp 27)) fun v => bd (asB v) fun t => br t (Q (.exit 1) σ h) (wC Try.prog f68c9 Q σ h)) := rfl
theorem f68c7_eq : wC Try.prog f68c7 Q σ h = (drwW Try.prog f68r4 (fun σ h => wC Try.prog f68c8 Q σ h) σ h) := rfl
theorem f68c13_eq : wC Try.prog f68c13 Q σ h = (wL Try.prog none f68r8 0 (fun σ h => Q .normal σ h) σ h) := rfl
theorem f68c6_eq : wC Try.prog f68c6 Q σ h = (wC Try.prog f68c7 (X.inBlock 1 (X.then (fun σ h => wC Try.prog f68c13 Q σ h) Q)) σ h) := rfl
theorem f68c5_eq : wC Try.prog f68c5 Q σ h = (bd (evO σ (.tmp 17)) fun v => bd (asB v) fun t => br t (wC Try.prog f68c6 Q σ h) (Q (.exit 0) σ h)) := rfl
theorem f68c4_eq : wC Try.prog f68c4 Q σ h = (wL Try.prog none f68r3 0 (fun σ h => wC Try.prog f68c5 Q σ h) σ h) := rfl
theorem f68c16_eq : wC Try.prog f68c16 Q σ h = (wL Try.prog none f68r10 0 (fun σ h => Q .ret σ h) σ h) := rfl
theorem f68c17_eq : wC Try.prog f68c17 Q σ h = (wL Try.prog none f68r11 0 (fun σ h => Q .ret σ h) σ h) := rfl
theorem f68c15_eq : wC Try.prog f68c15 Q σ h = (bd (evO σ (.tmp 52)) fun v => bd (asB v) fun t => br t (wC Try.prog f68c16 (X.then (fun σ h => wC Try.prog f68c17 Q σ h) Q) σ h) (wC Try.prog f68c17 Q σ h)) := rfl
theorem f68c14_eq : wC Try.prog f68c14 Q σ h = (wL Try.prog none f68r9 0 (fun σ h => wC Try.prog f68c15 Q σ h) σ h) := rfl
theorem f68c3_eq : wC Try.prog f68c3 Q σ h = (loopW (wC Try.prog f68c4) (X.inBlock 0 (X.then (fun σ h => wC Try.prog f68c14 Q σ h) Q)) σ h) := rfl
theorem f68c2_eq : wC Try.prog f68c2 Q σ h = (wL Try.prog none f68r2 0 (fun σ h => wC Try.prog f68c3 Q σ h) σ h) := rfl
theorem f68c1_eq : wC Try.prog f68c1 Q σ h = (wL Try.prog none f68r1 0 (fun σ h => wC Try.prog f68c2 Q σ h) σ h) := rfl
theorem f68c0_eq : wC Try.prog f68c0 Q σ h = (wL Try.prog none f68r0 0 (fun σ h => wC Try.prog f68c1 Q σ h) σ h) := rfl
end
section
variable {Q : X → Env → Heap → Prop} {σ : Env} {h : Heap}
end
section
variable {Q : X → Env → Heap → Prop} {σ : Env} {h : Heap}
end
def f106r0 : List I := [.op (.box 3 94 (.tmp 1)),
  .op (.mov 4 (.const (.bool false))),
  .kp [0, 3]]
def f106r1a : List I := [.op (.mov 4 (.tmp 14)),
  .kp [4]]
def f106r1 : List I := .op (.mov 5 (.tmp 0)) ::
  .op (.fad 6 0 (.tmp 3)) ::
  .op (.ld 7 none (.tmp 6)) ::
  .op (.bin 8 .geq (.tmp 5) (.tmp 7)) ::
  .op (.mov 9 (.tmp 8)) ::
  .sc 9 true 4 ::
  .g 9 true (.mov 10 (.tmp 0)) ::
  .g 9 true (.fad 11 1 (.tmp 3)) ::
  .g 9 true (.ld 12 none (.tmp 11)) ::
  .g 9 true (.bin 13 .lss (.tmp 10) (.tmp 12)) ::
  .op (.pick 14 (.tmp 9) (.tmp 13) (.const (.bool false))) ::
  .kp [14] ::
  f106r1a
def f106c1 : C := (.seq (.reg f106r1) .ret)
def f106c0 : C := (.seq (.reg f106r0) f106c1)
theorem f106cmp : cmpF Try.prog Try.f106 [.l [.o 0, .o 1, .kp [0, 3]],
  .l [.o 0, .o 1, .o 2, .o 3, .o 4, .sc 9 true 4, .o 5, .o 6, .o 7, .o 8, .o 9, .kp [14], .o 10, .kp [4]]] = some (f106c0, [.tmp 4]) := by kernel_rfl
theorem f106ok {args : List Value} {h : Heap} {R : Value → Heap → Prop} (hn : args.length ≤ 15) (H : wC Try.prog f106c0 (endW [.tmp 4] R) (envOf 0 args) h) : CallsH Try.prog 106 args h R :=
  fn_ok2 Try.func106 f106cmp hn H
section
variable {Q : X → Env → Heap → Prop} {σ : Env} {h : Heap}
theorem f106c1_eq : wC Try.prog f106c1 Q σ h = (wL Try.prog none f106r1 0 (fun σ h => Q .ret σ h) σ h) := rfl
theorem f106c0_eq : wC Try.prog f106c0 Q σ h = (wL Try.prog none f106r0 0 (fun σ h => wC Try.prog f106c1 Q σ h) σ h) := rfl
end
end Go.Proofs.Ytefghfgmkndikaa
namespace Go.AX
open Go
def blocksP (t : Stamp) (x : Cell) : Bool := x.locked && !Stamp.lt t x.lock.at_
def blocksL (t : Stamp) (xs : List Cell) : Lck × Bool := match xs.find? (blocksP t) with | some x => (x.lock, true) | none => (noLock, false)
theorem find_drop {α : Type} (p : α → Bool) {l : List α} {k : Nat} {x : α} (hx : l[k]? = some x) : (l.drop k).find? p = if p x then some x else (l.drop (k + 1)).find? p := by
  obtain ⟨hk, rfl⟩ := List.getElem?_eq_some_iff.1 hx
  rw [List.drop_eq_getElem_cons hk, List.find?_cons]
  cases p l[k] <;> rfl
end Go.AX
namespace Go.Proofs.Ytefghfgmkndikaa
open Go Go.AX
section
variable {B : Nat → Prop} {a : Option Addr} {c n : Nat} {cs : List Cell} {h : Heap} {R : Value → Heap → Prop}
theorem blocksG (g : Gd n cs) (hn : n ≤ 900000) (S : SlC B h a cs) (hc : cs.length ≤ c) (s : Spn) (t : Stamp) (hR : ∀ h', Ext h h' → R (.tuple #[.agg (eLck (blocksL t (cs.filter fun c => inS s c.key)).1).toArray, .bool (blocksL t (cs.filter fun c => inS s c.key)).2]) h') :
    CallsH Try.prog 93 [.slice a cs.length c, .agg (eSpn s).toArray, .agg (eStamp t).toArray] h R := by
  obtain ⟨z1, z2, z3, z4, z5, z6⟩ := szAll g.sz hn
  have hbig : big = 1000000 := rfl
  rw [← withinL_eq s g.good.sorted] at hR
  refine f93ok (by simp) ?_
  (try simp (config := { maxSteps := 1000000 }) (disch := first | exact Nat.le_of_ble_eq_true rfl | omega) only [AXS, AXB, J.dst, reduceIte, Nat.reduceEqDiff, Nat.reduceAdd, Nat.reduceMul, Nat.reduceLT, Nat.reduceLeDiff]); rw [f93c0_eq]; (try simp (config := { maxSteps := 1000000 }) (disch := first | exact Nat.le_of_ble_eq_true rfl | omega) only [AXS, AXB, J.dst, reduceIte, Nat.reduceEqDiff, Nat.reduceAdd, Nat.reduceMul, Nat.reduceLT, Nat.reduceLeDiff, f93r0])
  refine wL_boxN rfl ?_; rintro b1 h1 e1 s1 hb1 (B1 : Blk _ _ _ (eSpn s))
  refine wL_boxN rfl ?_; rintro b2 h2 e2 s2 hb2 (B2 : Blk _ _ _ (eStamp t))
  refine wL_newN ?_; rintro b0 h0 e0 s0 hb0 B0
  replace B1 := B1.ext (e2.trans e0); replace B2 := B2.ext e0
  have e02 := e1.trans (e2.trans e0)
  (try simp (config := { maxSteps := 1000000 }) (disch := first | exact Nat.le_of_ble_eq_true rfl | omega) only [AXS, AXB, J.dst, reduceIte, Nat.reduceEqDiff, Nat.reduceAdd, Nat.reduceMul, Nat.reduceLT, Nat.reduceLeDiff]); rw [f93c1_eq]; (try simp (config := { maxSteps := 1000000 }) (disch := first | exact Nat.le_of_ble_eq_true rfl | omega) only [AXS, AXB, J.dst, reduceIte, Nat.reduceEqDiff, Nat.reduceAdd, Nat.reduceMul, Nat.reduceLT, Nat.reduceLeDiff, f93r1, B1.rd, eSpn])
  refine withinG g hn (S.ext e02) hc s ?_
  intro aw cw h3 W hw e3
  refine ⟨trivial, ?_⟩
  have hwl := withinL_le cs s
  generalize withinL cs s = ws at *
  replace B2 := B2.ext e3; replace B0 := B0.ext e3
  have e03 := e02.trans e3
  try simp (config := { maxSteps := 1000000 }) (disch := first | exact Nat.le_of_ble_eq_true rfl | omega) only [AXS, AXB, J.dst, reduceIte, Nat.reduceEqDiff, Nat.reduceAdd, Nat.reduceMul, Nat.reduceLT, Nat.reduceLeDiff]
  rw [f93c2_eq]
  refine loop_in (fun n σ h' => Ext h3 h' ∧ ∃ k : Nat, k + n = ws.length ∧ ws.find? (blocksP t) = (ws.drop k).find? (blocksP t) ∧
      σ = [(5, ptr b2 0), (6, ptr b0 0), (12, .slice aw ws.length cw), (13, vi ws.length), (14, vi k)]) ws.length ⟨Ext.refl _, 0, by omega, rfl, rfl⟩ ?_
  rintro m σ h4 ⟨e4, k, hk, hf, rfl⟩ Q' hnx hex hrt _
  have hs0 := e03.size
  have hs4 := e4.size
  replace B2 := B2.ext e4; replace B0 := B0.ext e4
  (try simp (config := { maxSteps := 1000000 }) (disch := first | exact Nat.le_of_ble_eq_true rfl | omega) only [AXS, AXB, J.dst, reduceIte, Nat.reduceEqDiff, Nat.reduceAdd, Nat.reduceMul, Nat.reduceLT, Nat.reduceLeDiff]); rw [f93c3_eq]; (try simp (config := { maxSteps := 1000000 }) (disch := first | exact Nat.le_of_ble_eq_true rfl | omega) only [AXS, AXB, J.dst, reduceIte, Nat.reduceEqDiff, Nat.reduceAdd, Nat.reduceMul, Nat.reduceLT, Nat.reduceLeDiff, f93r2]); rw [f93c4_eq]; (try simp (config := { maxSteps := 1000000 }) (disch := first | exact Nat.le_of_ble_eq_true rfl | omega) only [AXS, AXB, J.dst, reduceIte, Nat.reduceEqDiff, Nat.reduceAdd, Nat.reduceMul, Nat.reduceLT, Nat.reduceLeDiff])
  refine ⟨fun hh => ?_, fun hh => ?_⟩
  · have hkl : k < ws.length := by have := of_decide_eq_true hh; omega
    obtain ⟨x, hx⟩ := get_ex hkl
    obtain ⟨b, o, v, rfl, _, hrow, hcr⟩ := (W.ext e4).elem hx
    rw [find_drop _ hx] at hf
    (try simp (config := { maxSteps := 1000000 }) (disch := first | exact Nat.le_of_ble_eq_true rfl | omega) only [AXS, AXB, J.dst, reduceIte, Nat.reduceEqDiff, Nat.reduceAdd, Nat.reduceMul, Nat.reduceLT, Nat.reduceLeDiff]); rw [f93c5_eq]; (try simp (config := { maxSteps := 1000000 }) (disch := first | exact Nat.le_of_ble_eq_true rfl | omega) only [AXS, AXB, J.dst, reduceIte, Nat.reduceEqDiff, Nat.reduceAdd, Nat.reduceMul, Nat.reduceLT, Nat.reduceLeDiff, row_cv hrow]); rw [f93c6_eq]; (try simp (config := { maxSteps := 1000000 }) (disch := first | exact Nat.le_of_ble_eq_true rfl | omega) only [AXS, AXB, J.dst, reduceIte, Nat.reduceEqDiff, Nat.reduceAdd, Nat.reduceMul, Nat.reduceLT, Nat.reduceLeDiff, f93r3, row_cv hrow])
    refine ⟨by omega, by omega, ?_⟩
    refine wL_newN ?_; rintro b5 h5 e5 s5 hb5 B5
    try simp (config := { maxSteps := 1000000 }) (disch := first | exact Nat.le_of_ble_eq_true rfl | omega) only [AXS, AXB, J.dst, reduceIte, Nat.reduceEqDiff, Nat.reduceAdd, Nat.reduceMul, Nat.reduceLT, Nat.reduceLeDiff]
    refine wL_stN rfl rfl rfl B5 (by decide) (eCV_one v) ?_; rintro h6 u6 (B6 : Blk _ _ _ (eCV v))
    have e6 := u6.ext e5 (by omega)
    replace B2 := B2.ext e6; replace B0 := B0.ext e6
    have hlk := hcr.locked
    have hlo := hcr.lock
    have fin : ∀ (h8 : Heap), Ext h6 h8 → wC Try.prog f93c8 (X.inBlock 1 (X.then (fun σ h => wC Try.prog f93c10 Q' σ h) Q')) [(27, .bool (blocksP t x)), (5, ptr b2 0), (6, ptr b0 0), (9, ptr b5 0), (12, .slice (some ⟨b, o, none⟩) ws.length cw), (13, vi ws.length), (14, vi k)] h8 := by
      intro h8 e8
      have e38 := e4.trans (e6.trans e8)
      replace B6 := B6.ext e8; replace B0 := B0.ext e8
      rw [f93c8_eq]
      simp (config := { maxSteps := 1000000 }) (disch := first | exact Nat.le_of_ble_eq_true rfl | omega) only [AXS, AXB, J.dst, reduceIte, Nat.reduceEqDiff, Nat.reduceAdd, Nat.reduceMul, Nat.reduceLT, Nat.reduceLeDiff]
      refine ⟨fun h9 => ?_, fun h9 => ?_⟩
      · (try simp (config := { maxSteps := 1000000 }) (disch := first | exact Nat.le_of_ble_eq_true rfl | omega) only [AXS, AXB, J.dst, reduceIte, Nat.reduceEqDiff, Nat.reduceAdd, Nat.reduceMul, Nat.reduceLT, Nat.reduceLeDiff]); rw [f93c9_eq]; (try simp (config := { maxSteps := 1000000 }) (disch := first | exact Nat.le_of_ble_eq_true rfl | omega) only [AXS, AXB, J.dst, reduceIte, Nat.reduceEqDiff, Nat.reduceAdd, Nat.reduceMul, Nat.reduceLT, Nat.reduceLeDiff, f93r5, B6.rd, eCV])
        refine wL_stN rfl rfl rfl B0 (by decide) (one_lck v.lock) ?_; rintro h10 u10 (B10 : Blk _ _ _ (eLck v.lock))
        try simp (config := { maxSteps := 1000000 }) (disch := first | exact Nat.le_of_ble_eq_true rfl | omega) only [AXS, AXB, J.dst, reduceIte, Nat.reduceEqDiff, Nat.reduceAdd, Nat.reduceMul, Nat.reduceLT, Nat.reduceLeDiff]
        refine hrt _ _ ?_
        simp (config := { maxSteps := 1000000 }) (disch := first | exact Nat.le_of_ble_eq_true rfl | omega) only [AXS, AXB, J.dst, reduceIte, Nat.reduceEqDiff, Nat.reduceAdd, Nat.reduceMul, Nat.reduceLT, Nat.reduceLeDiff, B10.rd]
        have hb : blocksL t ws = (v.lock, true) := by
          unfold blocksL; rw [hf, h9, hlo]; rfl
        have := hR h10 (u10.ext (e03.trans e38) (by omega))
        rw [hb] at this
        exact this
      · (try simp (config := { maxSteps := 1000000 }) (disch := first | exact Nat.le_of_ble_eq_true rfl | omega) only [AXS, AXB, J.dst, reduceIte, Nat.reduceEqDiff, Nat.reduceAdd, Nat.reduceMul, Nat.reduceLT, Nat.reduceLeDiff]); rw [f93c10_eq]; (try simp (config := { maxSteps := 1000000 }) (disch := first | exact Nat.le_of_ble_eq_true rfl | omega) only [AXS, AXB, J.dst, reduceIte, Nat.reduceEqDiff, Nat.reduceAdd, Nat.reduceMul, Nat.reduceLT, Nat.reduceLeDiff, f93r6])
        rw [i64_wrap (by omega) (by omega)]
        refine hnx (m - 1) _ _ (by omega) ⟨e38, k + 1, by omega, ?_, rfl⟩
        rw [hf, h9]; rfl
    (try simp (config := { maxSteps := 1000000 }) (disch := first | exact Nat.le_of_ble_eq_true rfl | omega) only [AXS, AXB, J.dst, reduceIte, Nat.reduceEqDiff, Nat.reduceAdd, Nat.reduceMul, Nat.reduceLT, Nat.reduceLeDiff]); rw [f93c7_eq]; (try simp (config := { maxSteps := 1000000 }) (disch := first | exact Nat.le_of_ble_eq_true rfl | omega) only [AXS, AXB, J.dst, reduceIte, Nat.reduceEqDiff, Nat.reduceAdd, Nat.reduceMul, Nat.reduceLT, Nat.reduceLeDiff, f93r4])
    cases hl : x.locked with
    | false =>
      have : blocksP t x = false := by unfold blocksP; rw [hl]; rfl
      rw [this] at fin
      simp (config := { maxSteps := 1000000 }) (disch := first | exact Nat.le_of_ble_eq_true rfl | omega) only [AXJ, AXS, AXB, J.dst, reduceIte, Nat.reduceEqDiff, Nat.reduceAdd, Nat.reduceMul, Nat.reduceLT, Nat.reduceLeDiff, f93r4, B6.cel, eCV, hlk, hl]
      exact fin _ (Ext.refl _)
    | true =>
      have : blocksP t x = !Stamp.lt t x.lock.at_ := by unfold blocksP; rw [hl]; rfl
      rw [this] at fin
      simp (config := { maxSteps := 1000000 }) (disch := first | exact Nat.le_of_ble_eq_true rfl | omega) only [AXJ, AXS, AXB, J.dst, reduceIte, Nat.reduceEqDiff, Nat.reduceAdd, Nat.reduceMul, Nat.reduceLT, Nat.reduceLeDiff, f93r4, B6.cel, B6.rd, B2.rd, eCV, eStamp, hlk, hl, hlo]
      refine less_ok t x.lock.at_ _ ?_
      intro h8 e8
      refine ⟨trivial, ?_⟩
      simp (config := { maxSteps := 1000000 }) (disch := first | exact Nat.le_of_ble_eq_true rfl | omega) only [AXJ, AXS, AXB, J.dst, reduceIte, Nat.reduceEqDiff, Nat.reduceAdd, Nat.reduceMul, Nat.reduceLT, Nat.reduceLeDiff]
      exact fin _ e8
  · have hkl : k = ws.length := by have := of_decide_eq_false hh; omega
    refine hex _ _ ?_
    (try simp (config := { maxSteps := 1000000 }) (disch := first | exact Nat.le_of_ble_eq_true rfl | omega) only [AXS, AXB, J.dst, reduceIte, Nat.reduceEqDiff, Nat.reduceAdd, Nat.reduceMul, Nat.reduceLT, Nat.reduceLeDiff]); rw [f93c11_eq]; (try simp (config := { maxSteps := 1000000 }) (disch := first | exact Nat.le_of_ble_eq_true rfl | omega) only [AXS, AXB, J.dst, reduceIte, Nat.reduceEqDiff, Nat.reduceAdd, Nat.reduceMul, Nat.reduceLT, Nat.reduceLeDiff, f93r7])
    refine wL_stN rfl rfl rfl B0 (by decide) (one_lck noLock) ?_; rintro h10 u10 (B10 : Blk _ _ _ (eLck noLock))
    simp (config := { maxSteps := 1000000 }) (disch := first | exact Nat.le_of_ble_eq_true rfl | omega) only [AXS, AXB, J.dst, reduceIte, Nat.reduceEqDiff, Nat.reduceAdd, Nat.reduceMul, Nat.reduceLT, Nat.reduceLeDiff, B10.rd]
    have hb : blocksL t ws = (noLock, false) := by
      unfold blocksL; rw [hf, hkl, List.drop_length]; rfl
    have := hR h10 (u10.ext (e03.trans e4) (by omega))
    rw [hb] at this
    exact this
theorem in_ok (key : ByteArray) (s : Spn) (hR : ∀ h', Ext h h' → R (.bool (inS s key)) h') : CallsH Try.prog 106 [.string key, .agg (eSpn s).toArray] h R := by
  refine f106ok (by simp) ?_
  (try simp (config := { maxSteps := 1000000 }) (disch := first | exact Nat.le_of_ble_eq_true rfl | omega) only [AXS, AXB, J.dst, reduceIte, Nat.reduceEqDiff, Nat.reduceAdd, Nat.reduceMul, Nat.reduceLT, Nat.reduceLeDiff]); rw [f106c0_eq]; (try simp (config := { maxSteps := 1000000 }) (disch := first | exact Nat.le_of_ble_eq_true rfl | omega) only [AXS, AXB, J.dst, reduceIte, Nat.reduceEqDiff, Nat.reduceAdd, Nat.reduceMul, Nat.reduceLT, Nat.reduceLeDiff, f106r0])
  refine wL_boxN rfl ?_; rintro b1 h1 e1 s1 hb1 (B1 : Blk _ _ _ (eSpn s))
  try simp (config := { maxSteps := 1000000 }) (disch := first | exact Nat.le_of_ble_eq_true rfl | omega) only [AXS, AXB, J.dst, reduceIte, Nat.reduceEqDiff, Nat.reduceAdd, Nat.reduceMul, Nat.reduceLT, Nat.reduceLeDiff]
  rw [f106c1_eq]
  simp (config := { maxSteps := 1000000 }) (disch := first | exact Nat.le_of_ble_eq_true rfl | omega) only [AXJ, AXS, AXB, J.dst, reduceIte, Nat.reduceEqDiff, Nat.reduceAdd, Nat.reduceMul, Nat.reduceLT, Nat.reduceLeDiff, f106r1, B1.cel, eSpn]
  simp (config := { maxSteps := 1000000 }) (disch := first | exact Nat.le_of_ble_eq_true rfl | omega) only [AXJ, AXS, AXB, J.dst, reduceIte, Nat.reduceEqDiff, Nat.reduceAdd, Nat.reduceMul, Nat.reduceLT, Nat.reduceLeDiff, f106r1a]
  exact hR h1 e1
theorem rfilter_find (t : Stamp) (s : Spn) (xs : List Cell) : (xs.filter fun c => inS s c.key).find? (blocksP t) = xs.find? fun c => inS s c.key && blocksP t c := by
  rw [List.find?_filter]
  congr 1
  funext x
  cases inS s x.key <;> cases blocksP t x <;> rfl
theorem rblocksG (g : Gd n cs) (hn : n ≤ 900000) (S : SlC B h a cs) (s : Spn) (t : Stamp) (hR : ∀ h', Ext h h' → R (.tuple #[.agg (eLck (blocksL t (cs.filter fun c => inS s c.key)).1).toArray, .bool (blocksL t (cs.filter fun c => inS s c.key)).2]) h') :
    CallsH Try.prog 67 [.slice a cs.length c, .agg (eSpn s).toArray, .agg (eStamp t).toArray] h R := by
  obtain ⟨z1, z2, z3, z4, z5, z6⟩ := szAll g.sz hn
  have hbig : big = 1000000 := rfl
  have hbl : blocksL t (cs.filter fun c => inS s c.key) = match cs.find? (fun c => inS s c.key && blocksP t c) with | some x => (x.lock, true) | none => (noLock, false) := by
    unfold blocksL; rw [rfilter_find]
  rw [hbl] at hR
  refine f67ok (by simp) ?_
  (try simp (config := { maxSteps := 1000000 }) (disch := first | exact Nat.le_of_ble_eq_true rfl | omega) only [AXS, AXB, J.dst, reduceIte, Nat.reduceEqDiff, Nat.reduceAdd, Nat.reduceMul, Nat.reduceLT, Nat.reduceLeDiff]); rw [f67c0_eq]; (try simp (config := { maxSteps := 1000000 }) (disch := first | exact Nat.le_of_ble_eq_true rfl | omega) only [AXS, AXB, J.dst, reduceIte, Nat.reduceEqDiff, Nat.reduceAdd, Nat.reduceMul, Nat.reduceLT, Nat.reduceLeDiff, f67r0])
  refine wL_boxN rfl ?_; rintro b1 h1 e1 s1 hb1 (B1 : Blk _ _ _ (eSpn s))
  refine wL_boxN rfl ?_; rintro b2 h2 e2 s2 hb2 (B2 : Blk _ _ _ (eStamp t))
  refine wL_newN ?_; rintro b0 h0 e0 s0 hb0 B0
  replace B1 := B1.ext (e2.trans e0); replace B2 := B2.ext e0
  have e02 := e1.trans (e2.trans e0)
  (try simp (config := { maxSteps := 1000000 }) (disch := first | exact Nat.le_of_ble_eq_true rfl | omega) only [AXS, AXB, J.dst, reduceIte, Nat.reduceEqDiff, Nat.reduceAdd, Nat.reduceMul, Nat.reduceLT, Nat.reduceLeDiff]); rw [f67c1_eq]; (try simp (config := { maxSteps := 1000000 }) (disch := first | exact Nat.le_of_ble_eq_true rfl | omega) only [AXS, AXB, J.dst, reduceIte, Nat.reduceEqDiff, Nat.reduceAdd, Nat.reduceMul, Nat.reduceLT, Nat.reduceLeDiff, f67r1])
  rw [f67c2_eq]
  refine loop_in (fun n σ h' => Ext h0 h' ∧ ∃ k : Nat, k + n = cs.length ∧ cs.find? (fun c => inS s c.key && blocksP t c) = (cs.drop k).find? (fun c => inS s c.key && blocksP t c) ∧
      σ = [(0, .slice a cs.length c), (4, ptr b1 0), (5, ptr b2 0), (6, ptr b0 0), (8, vi k)]) cs.length ⟨Ext.refl _, 0, by omega, rfl, rfl⟩ ?_
  rintro m σ h4 ⟨e4, k, hk, hf, rfl⟩ Q' hnx hex hrt _
  have hs0 := e02.size
  have hs4 := e4.size
  replace B1 := B1.ext e4; replace B2 := B2.ext e4; replace B0 := B0.ext e4
  (try simp (config := { maxSteps := 1000000 }) (disch := first | exact Nat.le_of_ble_eq_true rfl | omega) only [AXS, AXB, J.dst, reduceIte, Nat.reduceEqDiff, Nat.reduceAdd, Nat.reduceMul, Nat.reduceLT, Nat.reduceLeDiff]); rw [f67c3_eq]; (try simp (config := { maxSteps := 1000000 }) (disch := first | exact Nat.le_of_ble_eq_true rfl | omega) only [AXS, AXB, J.dst, reduceIte, Nat.reduceEqDiff, Nat.reduceAdd, Nat.reduceMul, Nat.reduceLT, Nat.reduceLeDiff, f67r2]); rw [f67c4_eq]; (try simp (config := { maxSteps := 1000000 }) (disch := first | exact Nat.le_of_ble_eq_true rfl | omega) only [AXS, AXB, J.dst, reduceIte, Nat.reduceEqDiff, Nat.reduceAdd, Nat.reduceMul, Nat.reduceLT, Nat.reduceLeDiff])
  refine ⟨fun hh => ?_, fun hh => ?_⟩
  · have hkl : k < cs.length := by have := of_decide_eq_true hh; omega
    obtain ⟨x, hx⟩ := get_ex hkl
    obtain ⟨b, o, v, rfl, _, hrow, hcr⟩ := (S.ext (e02.trans e4)).elem hx
    have hlb := hrow.lt (by rw [eCV_len]; omega)
    have hl1 := B1.lt
    have hl2 := B2.lt
    rw [find_drop _ hx] at hf
    have hlk := hcr.locked
    have hlo := hcr.lock
    have hkey := hcr.key
    have fin : ∀ (h8 : Heap), Ext h4 h8 → wC Try.prog f67c7 (X.inBlock 1 (X.then (fun σ h => wC Try.prog f67c9 Q' σ h) Q')) [(39, .bool (inS s x.key && blocksP t x)), (0, .slice (some ⟨b, o, none⟩) cs.length c), (4, ptr b1 0), (5, ptr b2 0), (6, ptr b0 0), (8, vi k)] h8 := by
      intro h8 e8
      have e38 := e4.trans e8
      have hrow8 := hrow.ext e8
      replace B0 := B0.ext e8
      rw [f67c7_eq]
      simp (config := { maxSteps := 1000000 }) (disch := first | exact Nat.le_of_ble_eq_true rfl | omega) only [AXS, AXB, J.dst, reduceIte, Nat.reduceEqDiff, Nat.reduceAdd, Nat.reduceMul, Nat.reduceLT, Nat.reduceLeDiff]
      refine ⟨fun h9 => ?_, fun h9 => ?_⟩
      · (try simp (config := { maxSteps := 1000000 }) (disch := first | exact Nat.le_of_ble_eq_true rfl | omega) only [AXS, AXB, J.dst, reduceIte, Nat.reduceEqDiff, Nat.reduceAdd, Nat.reduceMul, Nat.reduceLT, Nat.reduceLeDiff]); rw [f67c8_eq]; (try simp (config := { maxSteps := 1000000 }) (disch := first | exact Nat.le_of_ble_eq_true rfl | omega) only [AXS, AXB, J.dst, reduceIte, Nat.reduceEqDiff, Nat.reduceAdd, Nat.reduceMul, Nat.reduceLT, Nat.reduceLeDiff, f67r4, row_cv hrow8])
        refine ⟨by omega, by omega, ?_⟩
        refine wL_stN rfl rfl rfl B0 (by decide) (one_lck v.lock) ?_; rintro h10 u10 (B10 : Blk _ _ _ (eLck v.lock))
        try simp (config := { maxSteps := 1000000 }) (disch := first | exact Nat.le_of_ble_eq_true rfl | omega) only [AXS, AXB, J.dst, reduceIte, Nat.reduceEqDiff, Nat.reduceAdd, Nat.reduceMul, Nat.reduceLT, Nat.reduceLeDiff]
        refine hrt _ _ ?_
        simp (config := { maxSteps := 1000000 }) (disch := first | exact Nat.le_of_ble_eq_true rfl | omega) only [AXS, AXB, J.dst, reduceIte, Nat.reduceEqDiff, Nat.reduceAdd, Nat.reduceMul, Nat.reduceLT, Nat.reduceLeDiff, B10.rd]
        have := hR h10 (u10.ext (e02.trans e38) (by omega))
        rw [hf, h9] at this
        rw [hlo]
        exact this
      · (try simp (config := { maxSteps := 1000000 }) (disch := first | exact Nat.le_of_ble_eq_true rfl | omega) only [AXS, AXB, J.dst, reduceIte, Nat.reduceEqDiff, Nat.reduceAdd, Nat.reduceMul, Nat.reduceLT, Nat.reduceLeDiff]); rw [f67c9_eq]; (try simp (config := { maxSteps := 1000000 }) (disch := first | exact Nat.le_of_ble_eq_true rfl | omega) only [AXS, AXB, J.dst, reduceIte, Nat.reduceEqDiff, Nat.reduceAdd, Nat.reduceMul, Nat.reduceLT, Nat.reduceLeDiff, f67r5])
        rw [i64_wrap (by omega) (by omega)]
        refine hnx (m - 1) _ _ (by omega) ⟨e38, k + 1, by omega, ?_, rfl⟩
        rw [hf, h9]; rfl
    (try simp (config := { maxSteps := 1000000 }) (disch := first | exact Nat.le_of_ble_eq_true rfl | omega) only [AXS, AXB, J.dst, reduceIte, Nat.reduceEqDiff, Nat.reduceAdd, Nat.reduceMul, Nat.reduceLT, Nat.reduceLeDiff]); rw [f67c5_eq]; (try simp (config := { maxSteps := 1000000 }) (disch := first | exact Nat.le_of_ble_eq_true rfl | omega) only [AXS, AXB, J.dst, reduceIte, Nat.reduceEqDiff, Nat.reduceAdd, Nat.reduceMul, Nat.reduceLT, Nat.reduceLeDiff])
    rw [f67c6_eq]
    refine drw_lt ?_
    simp (config := { maxSteps := 1000000 }) (disch := first | exact Nat.le_of_ble_eq_true rfl | omega) only [AXJ, AXS, AXB, J.dst, reduceIte, Nat.reduceEqDiff, Nat.reduceAdd, Nat.reduceMul, Nat.reduceLT, Nat.reduceLeDiff, f67r3, row_cv hrow, B1.rd, eSpn, hkey]
    refine ⟨by omega, by omega, by omega, by omega, ?_⟩
    refine in_ok x.key s ?_
    intro h7 e7
    refine ⟨kp_ext (Nat.le_refl _) e7, ?_⟩
    have seg : ∀ (t1 : Bool), (inS s x.key && x.locked) = t1 → wL Try.prog (some ⟨(· < h4.size), h4⟩) f67r3a 0 (fun σ h => wC Try.prog f67c7 (X.inBlock 1 (X.then (fun σ h => wC Try.prog f67c9 Q' σ h) Q')) σ h)
        [(28, .bool t1), (0, .slice (some ⟨b, o, none⟩) cs.length c), (4, ptr b1 0), (5, ptr b2 0), (6, ptr b0 0), (8, vi k)] h7 := by
      intro t1 ht1
      cases t1 with
      | false =>
        have : (inS s x.key && blocksP t x) = false := by
          unfold blocksP
          cases h1 : inS s x.key
          · rfl
          · rw [h1] at ht1; simp at ht1; simp [ht1]
        rw [this] at fin
        simp (config := { maxSteps := 1000000 }) (disch := first | exact Nat.le_of_ble_eq_true rfl | omega) only [AXJ, AXS, AXB, J.dst, reduceIte, Nat.reduceEqDiff, Nat.reduceAdd, Nat.reduceMul, Nat.reduceLT, Nat.reduceLeDiff, f67r3a, Bool.false_eq_true]
        exact ⟨fun h => h.elim, fin _ e7⟩
      | true =>
        have : (inS s x.key && blocksP t x) = !Stamp.lt t x.lock.at_ := by
          simp only [Bool.and_eq_true] at ht1
          unfold blocksP; rw [ht1.1, ht1.2]; rfl
        rw [this] at fin
        simp (config := { maxSteps := 1000000 }) (disch := first | exact Nat.le_of_ble_eq_true rfl | omega) only [AXJ, AXS, AXB, J.dst, reduceIte, Nat.reduceEqDiff, Nat.reduceAdd, Nat.reduceMul, Nat.reduceLT, Nat.reduceLeDiff, f67r3a, row_cv hrow, B2.rd, eStamp, hlo]
        refine ⟨fun _ => by omega, fun _ => by omega, fun _ => by omega, fun _ => by omega, ?_⟩
        refine rless_ok t x.lock.at_ _ ?_
        intro h8 e8
        refine ⟨kp_ext e7.size e8, ?_⟩
        simp (config := { maxSteps := 1000000 }) (disch := first | exact Nat.le_of_ble_eq_true rfl | omega) only [AXJ, AXS, AXB, J.dst, reduceIte, Nat.reduceEqDiff, Nat.reduceAdd, Nat.reduceMul, Nat.reduceLT, Nat.reduceLeDiff]
        exact fin _ (e7.trans e8)
    simp (config := { maxSteps := 1000000 }) (disch := first | exact Nat.le_of_ble_eq_true rfl | omega) only [AXJ, AXS, AXB, J.dst, reduceIte, Nat.reduceEqDiff, Nat.reduceAdd, Nat.reduceMul, Nat.reduceLT, Nat.reduceLeDiff, f67r3, row_cv hrow, hlk]
    refine ⟨fun _ => by omega, fun _ => by omega, fun _ => by omega, ?_⟩
    exact seg _ rfl
  · have hkl : k = cs.length := by have := of_decide_eq_false hh; omega
    refine hex _ _ ?_
    (try simp (config := { maxSteps := 1000000 }) (disch := first | exact Nat.le_of_ble_eq_true rfl | omega) only [AXS, AXB, J.dst, reduceIte, Nat.reduceEqDiff, Nat.reduceAdd, Nat.reduceMul, Nat.reduceLT, Nat.reduceLeDiff]); rw [f67c10_eq]; (try simp (config := { maxSteps := 1000000 }) (disch := first | exact Nat.le_of_ble_eq_true rfl | omega) only [AXS, AXB, J.dst, reduceIte, Nat.reduceEqDiff, Nat.reduceAdd, Nat.reduceMul, Nat.reduceLT, Nat.reduceLeDiff, f67r6])
    refine wL_stN rfl rfl rfl B0 (by decide) (one_lck noLock) ?_; rintro h10 u10 (B10 : Blk _ _ _ (eLck noLock))
    simp (config := { maxSteps := 1000000 }) (disch := first | exact Nat.le_of_ble_eq_true rfl | omega) only [AXS, AXB, J.dst, reduceIte, Nat.reduceEqDiff, Nat.reduceAdd, Nat.reduceMul, Nat.reduceLT, Nat.reduceLeDiff, B10.rd]
    have := hR h10 (u10.ext (e02.trans e4) (by omega))
    rw [hf, hkl, List.drop_length] at this
    exact this
end
end Go.Proofs.Ytefghfgmkndikaa
namespace Go.Proofs.Ytefghfgmkndikaa
open Go Go.AX
end Go.Proofs.Ytefghfgmkndikaa
namespace Go.Proofs.Ytefghfgmkndikaa
open Go Go.AX
section
variable {B : Nat → Prop} {a : Option Addr} {c n : Nat} {cs : List Cell} {h : Heap} {R : Value → Heap → Prop}
theorem rscanG (g : Gd n cs) (hn : n ≤ 900000) (S : SlC B h a cs) (s : Spn) (t : Stamp) (most : Int)
    (hR : ∀ a' c' h', Own h.size h' 99 2 a' (scanL t most (withinL cs s) []).1.length c' ((scanL t most (withinL cs s) []).1.flatMap ePai) → Ext h h' → R (.tuple #[.slice a' (scanL t most (withinL cs s) []).1.length c', vi (scanL t most (withinL cs s) []).2]) h') :
    CallsH Try.prog 68 [.slice a cs.length c, .agg (eSpn s).toArray, .agg (eStamp t).toArray, vi most] h R := by
  obtain ⟨z1, z2, z3, z4, z5, z6⟩ := szAll g.sz hn
  have hbig : big = 1000000 := rfl
  have hsc : scanL t most (withinL cs s) [] = if ((firstP t s cs cs.length).length : Int) > (if 0 > most then 0 else most) then ([], 3) else (firstP t s cs cs.length, 0) := by
    rw [scanL_eq, withinL_eq s g.good.sorted, ← firstP_all]
    generalize firstP t s cs cs.length = ps
    cases ps with
    | nil => simp; split <;> omega
    | cons p ps =>
      by_cases hm : ((p :: ps).length : Int) ≤ most
      · rw [if_pos (.inr (by simpa using hm)), if_neg]
        · rfl
        · simp at hm ⊢; split <;> omega
      · rw [if_neg (by simp at hm ⊢; omega), if_pos]
        simp at hm ⊢; split <;> omega
  rw [hsc] at hR
  refine f68ok (by simp) ?_
  (try simp (config := { maxSteps := 1000000 }) (disch := first | exact Nat.le_of_ble_eq_true rfl | omega) only [AXS, AXB, J.dst, reduceIte, Nat.reduceEqDiff, Nat.reduceAdd, Nat.reduceMul, Nat.reduceLT, Nat.reduceLeDiff]); rw [f68c0_eq]; (try simp (config := { maxSteps := 1000000 }) (disch := first | exact Nat.le_of_ble_eq_true rfl | omega) only [AXS, AXB, J.dst, reduceIte, Nat.reduceEqDiff, Nat.reduceAdd, Nat.reduceMul, Nat.reduceLT, Nat.reduceLeDiff, f68r0])
  refine wL_boxN rfl ?_; rintro b1 h1 e1 s1 hb1 (B1 : Blk _ _ _ (eSpn s))
  refine wL_boxN rfl ?_; rintro b2 h2 e2 s2 hb2 (B2 : Blk _ _ _ (eStamp t))
  replace B1 := B1.ext e2
  have e02 := e1.trans e2
  (try simp (config := { maxSteps := 1000000 }) (disch := first | exact Nat.le_of_ble_eq_true rfl | omega) only [AXS, AXB, J.dst, reduceIte, Nat.reduceEqDiff, Nat.reduceAdd, Nat.reduceMul, Nat.reduceLT, Nat.reduceLeDiff]); rw [f68c1_eq]; (try simp (config := { maxSteps := 1000000 }) (disch := first | exact Nat.le_of_ble_eq_true rfl | omega) only [AXS, AXB, J.dst, reduceIte, Nat.reduceEqDiff, Nat.reduceAdd, Nat.reduceMul, Nat.reduceLT, Nat.reduceLeDiff, f68r1]); rw [f68c2_eq]; (try simp (config := { maxSteps := 1000000 }) (disch := first | exact Nat.le_of_ble_eq_true rfl | omega) only [AXS, AXB, J.dst, reduceIte, Nat.reduceEqDiff, Nat.reduceAdd, Nat.reduceMul, Nat.reduceLT, Nat.reduceLeDiff, f68r2])
  rw [f68c3_eq]
  refine loop_in (fun n σ h' => Ext h2 h' ∧ ∃ (k c1 : Nat) (a1 : Option Addr), k + n = cs.length ∧ Own h2.size h' 99 2 a1 (firstP t s cs k).length c1 ((firstP t s cs k).flatMap ePai) ∧
      σ = [(0, .slice a cs.length c), (3, vi most), (5, ptr b1 0), (6, ptr b2 0), (10, .slice a1 (firstP t s cs k).length c1), (11, vi k)]) cs.length ⟨Ext.refl _, 0, 0, none, by omega, Own.nil _ _ _ _, rfl⟩ ?_
  rintro m σ h4 ⟨e4, k, c1, a1, hk, O, rfl⟩ Q' hnx hex hrt _
  have hs0 := e02.size
  have hs4 := e4.size
  replace B1 := B1.ext e4; replace B2 := B2.ext e4
  have hpl : (firstP t s cs k).length ≤ cs.length := by
    unfold firstP
    have := pairs_len t ((cs.take k).filter fun c => inS s c.key)
    have := List.length_filter_le (fun c => inS s c.key) (cs.take k)
    have := List.length_take (i := k) (l := cs)
    omega
  (try simp (config := { maxSteps := 1000000 }) (disch := first | exact Nat.le_of_ble_eq_true rfl | omega) only [AXS, AXB, J.dst, reduceIte, Nat.reduceEqDiff, Nat.reduceAdd, Nat.reduceMul, Nat.reduceLT, Nat.reduceLeDiff]); rw [f68c4_eq]; (try simp (config := { maxSteps := 1000000 }) (disch := first | exact Nat.le_of_ble_eq_true rfl | omega) only [AXS, AXB, J.dst, reduceIte, Nat.reduceEqDiff, Nat.reduceAdd, Nat.reduceMul, Nat.reduceLT, Nat.reduceLeDiff, f68r3]); rw [f68c5_eq]; (try simp (config := { maxSteps := 1000000 }) (disch := first | exact Nat.le_of_ble_eq_true rfl | omega) only [AXS, AXB, J.dst, reduceIte, Nat.reduceEqDiff, Nat.reduceAdd, Nat.reduceMul, Nat.reduceLT, Nat.reduceLeDiff])
  refine ⟨fun hh => ?_, fun hh => ?_⟩
  · have hkl : k < cs.length := by have := of_decide_eq_true hh; omega
    obtain ⟨x, hx⟩ := get_ex hkl
    obtain ⟨b, o, v, rfl, _, hrow, hcr⟩ := (S.ext (e02.trans e4)).elem hx
    have hlb := hrow.lt (by rw [eCV_len]; omega)
    have hl1 := B1.lt
    have hl2 := B2.lt
    have hkey := hcr.key
    have hfs := firstP_succ (t := t) (s := s) hx
    (try simp (config := { maxSteps := 1000000 }) (disch := first | exact Nat.le_of_ble_eq_true rfl | omega) only [AXS, AXB, J.dst, reduceIte, Nat.reduceEqDiff, Nat.reduceAdd, Nat.reduceMul, Nat.reduceLT, Nat.reduceLeDiff]); rw [f68c6_eq]; (try simp (config := { maxSteps := 1000000 }) (disch := first | exact Nat.le_of_ble_eq_true rfl | omega) only [AXS, AXB, J.dst, reduceIte, Nat.reduceEqDiff, Nat.reduceAdd, Nat.reduceMul, Nat.reduceLT, Nat.reduceLeDiff])
    rw [f68c7_eq]
    refine drw_lt ?_
    simp (config := { maxSteps := 1000000 }) (disch := first | exact Nat.le_of_ble_eq_true rfl | omega) only [AXS, AXB, J.dst, reduceIte, Nat.reduceEqDiff, Nat.reduceAdd, Nat.reduceMul, Nat.reduceLT, Nat.reduceLeDiff, f68r4, row_cv hrow, B1.rd, eSpn, hkey]
    refine ⟨by omega, by omega, by omega, by omega, ?_⟩
    refine in_ok x.key s ?_
    intro h5 e5
    refine ⟨kp_ext (Nat.le_refl _) e5, ?_⟩
    replace B1 := B1.ext e5; replace B2 := B2.ext e5; replace O := O.ext e5
    have hrow5 := hrow.ext e5
    try simp (config := { maxSteps := 1000000 }) (disch := first | exact Nat.le_of_ble_eq_true rfl | omega) only [AXS, AXB, J.dst, reduceIte, Nat.reduceEqDiff, Nat.reduceAdd, Nat.reduceMul, Nat.reduceLT, Nat.reduceLeDiff]
    rw [f68c8_eq]
    simp (config := { maxSteps := 1000000 }) (disch := first | exact Nat.le_of_ble_eq_true rfl | omega) only [AXS, AXB, J.dst, reduceIte, Nat.reduceEqDiff, Nat.reduceAdd, Nat.reduceMul, Nat.reduceLT, Nat.reduceLeDiff]
    refine ⟨fun h6 => ?_, fun h6 => ?_⟩
    · have h6 : inS s x.key = false := by simpa using h6
      rw [h6] at hfs
      have hfe : firstP t s cs (k + 1) = firstP t s cs k := by rw [hfs]; simp
      (try simp (config := { maxSteps := 1000000 }) (disch := first | exact Nat.le_of_ble_eq_true rfl | omega) only [AXS, AXB, J.dst, reduceIte, Nat.reduceEqDiff, Nat.reduceAdd, Nat.reduceMul, Nat.reduceLT, Nat.reduceLeDiff]); rw [f68c13_eq]; (try simp (config := { maxSteps := 1000000 }) (disch := first | exact Nat.le_of_ble_eq_true rfl | omega) only [AXS, AXB, J.dst, reduceIte, Nat.reduceEqDiff, Nat.reduceAdd, Nat.reduceMul, Nat.reduceLT, Nat.reduceLeDiff, f68r8])
      rw [i64_wrap (by omega) (by omega)]
      refine hnx (m - 1) _ _ (by omega) ⟨e4.trans e5, k + 1, c1, a1, by omega, ?_, ?_⟩
      · rw [hfe]; exact O
      · rw [hfe]; rfl
    · have h6 : inS s x.key = true := by simpa using h6
      rw [h6, Bool.true_and] at hfs
      have hl25 := B2.lt
      have hlb5 := hrow5.lt (by rw [eCV_len]; omega)
      rw [f68c9_eq]
      refine drw_lt ?_
      simp (config := { maxSteps := 1000000 }) (disch := first | exact Nat.le_of_ble_eq_true rfl | omega) only [AXS, AXB, J.dst, reduceIte, Nat.reduceEqDiff, Nat.reduceAdd, Nat.reduceMul, Nat.reduceLT, Nat.reduceLeDiff, f68r5, row_cv hrow5, B2.rd, eStamp]
      refine ⟨by omega, by omega, by omega, by omega, ?_⟩
      refine of_ok v x t _ (hcr.ext e5) (z4 x (List.mem_of_getElem? hx)) ?_
      intro h7 e7
      refine ⟨kp_ext (Nat.le_refl _) e7, ?_⟩
      have hrow7 := hrow5.ext e7
      replace O := O.ext e7
      have e47 := e4.trans (e5.trans e7)
      try simp (config := { maxSteps := 1000000 }) (disch := first | exact Nat.le_of_ble_eq_true rfl | omega) only [AXS, AXB, J.dst, reduceIte, Nat.reduceEqDiff, Nat.reduceAdd, Nat.reduceMul, Nat.reduceLT, Nat.reduceLeDiff]
      (try simp (config := { maxSteps := 1000000 }) (disch := first | exact Nat.le_of_ble_eq_true rfl | omega) only [AXS, AXB, J.dst, reduceIte, Nat.reduceEqDiff, Nat.reduceAdd, Nat.reduceMul, Nat.reduceLT, Nat.reduceLeDiff]); rw [f68c10_eq]; (try simp (config := { maxSteps := 1000000 }) (disch := first | exact Nat.le_of_ble_eq_true rfl | omega) only [AXS, AXB, J.dst, reduceIte, Nat.reduceEqDiff, Nat.reduceAdd, Nat.reduceMul, Nat.reduceLT, Nat.reduceLeDiff, f68r6]); rw [f68c11_eq]; (try simp (config := { maxSteps := 1000000 }) (disch := first | exact Nat.le_of_ble_eq_true rfl | omega) only [AXS, AXB, J.dst, reduceIte, Nat.reduceEqDiff, Nat.reduceAdd, Nat.reduceMul, Nat.reduceLT, Nat.reduceLeDiff])
      refine ⟨fun h8 => ?_, fun h8 => ?_⟩
      · rw [h8, if_pos rfl] at hfs
        (try simp (config := { maxSteps := 1000000 }) (disch := first | exact Nat.le_of_ble_eq_true rfl | omega) only [AXS, AXB, J.dst, reduceIte, Nat.reduceEqDiff, Nat.reduceAdd, Nat.reduceMul, Nat.reduceLT, Nat.reduceLeDiff]); rw [f68c12_eq]; (try simp (config := { maxSteps := 1000000 }) (disch := first | exact Nat.le_of_ble_eq_true rfl | omega) only [AXS, AXB, J.dst, reduceIte, Nat.reduceEqDiff, Nat.reduceAdd, Nat.reduceMul, Nat.reduceLT, Nat.reduceLeDiff, f68r7, row_cv hrow7, hkey])
        refine ⟨by omega, by omega, ?_⟩
        refine wL_bslN rfl ?_; rintro b10 h10 e10 s10 hb10 (B10 : Blk _ _ _ (ePai ⟨x.key, (tellV x.vers t).1⟩))
        try simp (config := { maxSteps := 1000000 }) (disch := first | exact Nat.le_of_ble_eq_true rfl | omega) only [AXS, AXB, J.dst, reduceIte, Nat.reduceEqDiff, Nat.reduceAdd, Nat.reduceMul, Nat.reduceLT, Nat.reduceLeDiff]
        rw [wL_raw]
        refine raw_append slT45 rfl rfl rfl (O.ext e10) (news := ePai ⟨x.key, (tellV x.vers t).1⟩) (by rw [ePai_len]) (.inr ⟨b10, 0, rfl, B10.row⟩) (ePai_one _) (by unfold maxLen; omega) (by omega) (e47.trans e10).size ?_
        intro a11 c11 h11 O11 G11 A11
        refine ⟨trivial, ?_⟩
        have e311 : Ext h2 h11 := G11.ext (e47.trans e10) (fun j hj => (O.ob j hj).1)
        (try simp (config := { maxSteps := 1000000 }) (disch := first | exact Nat.le_of_ble_eq_true rfl | omega) only [AXS, AXB, J.dst, reduceIte, Nat.reduceEqDiff, Nat.reduceAdd, Nat.reduceMul, Nat.reduceLT, Nat.reduceLeDiff]); rw [f68c13_eq]; (try simp (config := { maxSteps := 1000000 }) (disch := first | exact Nat.le_of_ble_eq_true rfl | omega) only [AXS, AXB, J.dst, reduceIte, Nat.reduceEqDiff, Nat.reduceAdd, Nat.reduceMul, Nat.reduceLT, Nat.reduceLeDiff, f68r8])
        rw [i64_wrap (by omega) (by omega)]
        refine hnx (m - 1) _ _ (by omega) ⟨e311, k + 1, c11, a11, by omega, ?_, ?_⟩
        · rw [hfs]; simpa using O11
        · rw [hfs]; simp
      · rw [h8] at hfs
        have hfe : firstP t s cs (k + 1) = firstP t s cs k := by rw [hfs]; simp
        (try simp (config := { maxSteps := 1000000 }) (disch := first | exact Nat.le_of_ble_eq_true rfl | omega) only [AXS, AXB, J.dst, reduceIte, Nat.reduceEqDiff, Nat.reduceAdd, Nat.reduceMul, Nat.reduceLT, Nat.reduceLeDiff]); rw [f68c13_eq]; (try simp (config := { maxSteps := 1000000 }) (disch := first | exact Nat.le_of_ble_eq_true rfl | omega) only [AXS, AXB, J.dst, reduceIte, Nat.reduceEqDiff, Nat.reduceAdd, Nat.reduceMul, Nat.reduceLT, Nat.reduceLeDiff, f68r8])
        rw [i64_wrap (by omega) (by omega)]
        refine hnx (m - 1) _ _ (by omega) ⟨e47, k + 1, c1, a1, by omega, ?_, ?_⟩
        · rw [hfe]; exact O
        · rw [hfe]; rfl
  · have hkl : k = cs.length := by have := of_decide_eq_false hh; omega
    refine hex _ _ ?_
    subst hkl
    (try simp (config := { maxSteps := 1000000 }) (disch := first | exact Nat.le_of_ble_eq_true rfl | omega) only [AXS, AXB, J.dst, reduceIte, Nat.reduceEqDiff, Nat.reduceAdd, Nat.reduceMul, Nat.reduceLT, Nat.reduceLeDiff]); rw [f68c14_eq]; (try simp (config := { maxSteps := 1000000 }) (disch := first | exact Nat.le_of_ble_eq_true rfl | omega) only [AXS, AXB, J.dst, reduceIte, Nat.reduceEqDiff, Nat.reduceAdd, Nat.reduceMul, Nat.reduceLT, Nat.reduceLeDiff, f68r9]); rw [f68c15_eq]; (try simp (config := { maxSteps := 1000000 }) (disch := first | exact Nat.le_of_ble_eq_true rfl | omega) only [AXS, AXB, J.dst, reduceIte, Nat.reduceEqDiff, Nat.reduceAdd, Nat.reduceMul, Nat.reduceLT, Nat.reduceLeDiff])
    refine ⟨fun h6 => ?_, fun h6 => ?_⟩
    · have h6 := of_decide_eq_true h6
      (try simp (config := { maxSteps := 1000000 }) (disch := first | exact Nat.le_of_ble_eq_true rfl | omega) only [AXS, AXB, J.dst, reduceIte, Nat.reduceEqDiff, Nat.reduceAdd, Nat.reduceMul, Nat.reduceLT, Nat.reduceLeDiff]); rw [f68c16_eq]; (try simp (config := { maxSteps := 1000000 }) (disch := first | exact Nat.le_of_ble_eq_true rfl | omega) only [AXS, AXB, J.dst, reduceIte, Nat.reduceEqDiff, Nat.reduceAdd, Nat.reduceMul, Nat.reduceLT, Nat.reduceLeDiff, f68r10])
      have := hR none 0 h4
      rw [if_pos h6] at this
      exact this (Own.nil _ _ _ _) (e02.trans e4)
    · have h6 := of_decide_eq_false h6
      (try simp (config := { maxSteps := 1000000 }) (disch := first | exact Nat.le_of_ble_eq_true rfl | omega) only [AXS, AXB, J.dst, reduceIte, Nat.reduceEqDiff, Nat.reduceAdd, Nat.reduceMul, Nat.reduceLT, Nat.reduceLeDiff]); rw [f68c17_eq]; (try simp (config := { maxSteps := 1000000 }) (disch := first | exact Nat.le_of_ble_eq_true rfl | omega) only [AXS, AXB, J.dst, reduceIte, Nat.reduceEqDiff, Nat.reduceAdd, Nat.reduceMul, Nat.reduceLT, Nat.reduceLeDiff, f68r11])
      have := hR a1 c1 h4
      rw [if_neg h6] at this
      exact this (O.mono hs0) (e02.trans e4)
end
end Go.Proofs.Ytefghfgmkndikaa
namespace Go.Proofs.Ytefghfgmkndikaa
open Go Go.AX
end Go.Proofs.Ytefghfgmkndikaa
namespace Go.Proofs.Ytefghfgmkndikaa
open Go.AX
set_option maxRecDepth 100000
def f95r0 : List I := [.op (.box 1 116 (.tmp 0)),
  .op (.new 2 116 [.int .i64 0, .int .i64 0, .int .i64 0, .int .i64 0, .int .i64 0, .int .i64 0, .slice none 0 0, .slice none 0 0, .slice none 0 0]),
  .kp [1, 2]]
def f95r1 : List I := [.op (.fad 3 6 (.tmp 1)),
  .op (.ld 4 none (.tmp 3)),
  .op (.call (some 5) 123 [(.tmp 4), (.func 124)]),
  .op (.fad 6 6 (.tmp 1)),
  .op (.st 1 (.tmp 6) (.tmp 5)),
  .kp [1, 2]]
def f95r2 : L := (.one [.op (.fad 7 7 (.tmp 1)),
  .op (.fad 10 8 (.tmp 1))] (.alt (.one [.opn (.ld 8 none (.tmp 7))] (.alt (.one [.op (.call (some 9) 125 [(.tmp 8)]),
  .opn (.ld 11 none (.tmp 10)),
  .op (.fad 13 7 (.tmp 1)),
  .op (.call (some 12) 125 [(.tmp 11)]),
  .op (.st 1 (.tmp 13) (.tmp 9)),
  .op (.fad 14 8 (.tmp 1)),
  .op (.st 1 (.tmp 14) (.tmp 12)),
  .kp [1, 2]] .nil) (.one [.opn (.ld 11 none (.tmp 10)),
  .op (.call (some 9) 125 [(.tmp 8)]),
  .op (.fad 13 7 (.tmp 1)),
  .op (.call (some 12) 125 [(.tmp 11)]),
  .op (.st 1 (.tmp 13) (.tmp 9)),
  .op (.fad 14 8 (.tmp 1)),
  .op (.st 1 (.tmp 14) (.tmp 12)),
  .kp [1, 2]] .nil))) (.one [.opn (.ld 11 none (.tmp 10)),
  .opn (.ld 8 none (.tmp 7)),
  .op (.call (some 9) 125 [(.tmp 8)]),
  .op (.fad 13 7 (.tmp 1)),
  .op (.call (some 12) 125 [(.tmp 11)]),
  .op (.st 1 (.tmp 13) (.tmp 9)),
  .op (.fad 14 8 (.tmp 1)),
  .op (.st 1 (.tmp 14) (.tmp 12)),
  .kp [1, 2]] .nil)))
def f95r3 : List I := [.op (.ld 15 (some 9) (.tmp 1)),
  .op (.st 9 (.tmp 2) (.tmp 15)),
  .kp [2]]
def f95c3 : C := (.seq (.reg f95r3) .ret)
def f95c2 : C := (.seq (.drt f95r2) f95c3)
def f95c1 : C := (.seq (.reg f95r1) f95c2)
def f95c0 : C := (.seq (.reg f95r0) f95c1)
theorem f95cmp : cmpF Try.prog Try.f95 [.l [.o 0, .o 1, .kp [1, 2]],
  .l [.o 0, .o 1, .o 2, .o 3, .o 4, .kp [1, 2]],
  .t (.one [.o 0, .o 3] (.alt (.one [.x 1] (.alt (.one [.o 2, .x 4, .o 6, .o 5, .o 7, .o 8, .o 9, .kp [1, 2]] .nil) (.one [.x 4, .o 2, .o 6, .o 5, .o 7, .o 8, .o 9, .kp [1, 2]] .nil))) (.one [.x 4, .x 1, .o 2, .o 6, .o 5, .o 7, .o 8, .o 9, .kp [1, 2]] .nil))),
  .l [.o 0, .o 1, .kp [2]]] = some (f95c0, [.cell 2 9]) := by kernel_rfl
theorem f95ok {args : List Value} {h : Heap} {R : Value → Heap → Prop} (hn : args.length ≤ 16) (H : wC Try.prog f95c0 (endW [.cell 2 9] R) (envOf 0 args) h) : CallsH Try.prog 95 args h R :=
  fn_ok2 Try.func95 f95cmp hn H
section
variable {Q : X → Env → Heap → Prop} {σ : Env} {h : Heap}
theorem f95c3_eq : wC Try.prog f95c3 Q σ h = (wL Try.prog none f95r3 0 (fun σ h => Q .ret σ h) σ h) := rfl
theorem f95c2_eq : wC Try.prog f95c2 Q σ h = (drtW Try.prog f95r2 (fun σ h => wC Try.prog f95c3 Q σ h) σ h) := rfl
theorem f95c1_eq : wC Try.prog f95c1 Q σ h = (wL Try.prog none f95r1 0 (fun σ h => wC Try.prog f95c2 Q σ h) σ h) := rfl
theorem f95c0_eq : wC Try.prog f95c0 Q σ h = (wL Try.prog none f95r0 0 (fun σ h => wC Try.prog f95c1 Q σ h) σ h) := rfl
end
def f123r0 : List I := [.op (.mov 4 (.const (.slice none 0 0))),
  .kp [0, 1]]
def f123r1 : List I := [.op (.mov 5 (.const (.slice none 0 0))),
  .kp [0, 1, 5]]
def f123r2 : List I := [.op (.mov 8 (.tmp 0)),
  .op (.len 9 true (.tmp 8)),
  .op (.mov 10 (.const (.int .i64 0))),
  .kp [1, 5, 8, 9, 10]]
def f123r3 : List I := [.op (.bin 11 .lss (.tmp 10) (.tmp 9)),
  .kp [1, 5, 8, 9, 10, 11]]
def f123r4 : List I := [.op (.iad 12 12 (.tmp 8) (.tmp 10)),
  .op (.ld 13 (some 12) (.tmp 12)),
  .op (.new 7 103 [.string ⟨#[]⟩, .slice none 0 0, .bool false, .int .i64 0, .int .i64 0, .int .i64 0, .int .i64 0, .int .i64 0, .int .i64 0, .int .i64 0, .bool false, .string ⟨#[]⟩]),
  .op (.st 12 (.tmp 7) (.tmp 13)),
  .kp [1, 5, 7, 8, 9, 10]]
def f123r5 : List I := [.op (.mov 14 (.tmp 5)),
  .op (.mov 15 (.tmp 1)),
  .op (.ld 16 (some 12) (.tmp 7)),
  .op (.cav (some 17) (.tmp 15) [(.tmp 16)]),
  .op (.bsl 18 103 1 [.string ⟨#[]⟩, .slice none 0 0, .bool false, .int .i64 0, .int .i64 0, .int .i64 0, .int .i64 0, .int .i64 0, .int .i64 0, .int .i64 0, .bool false, .string ⟨#[]⟩] [(0, 12, (.tmp 17))]),
  .op (.raw (some 19) ⟨(some 19), (.call ⟨(.builtin .append), #[(.tmp 14), (.tmp 18)], #[74, 74]⟩), 74, "twin.go:14", #[⟨0, .data⟩, ⟨4, .data⟩, ⟨3, .chain⟩], none⟩),
  .op (.mov 5 (.tmp 19)),
  .kp [1, 5, 8, 9, 10]]
def f123r6 : List I := [.op (.bin 20 .add (.tmp 10) (.const (.int .i64 1))),
  .op (.mov 10 (.tmp 20)),
  .kp [1, 5, 8, 9, 10]]
def f123r7 : List I := [.op (.mov 21 (.tmp 5)),
  .op (.mov 4 (.tmp 21)),
  .kp [4]]
def f123c8 : C := (.reg f123r5)
def f123c7 : C := (.seq (.reg f123r4) f123c8)
def f123c9 : C := (.reg f123r6)
def f123c6 : C := (.seq (.block 1 f123c7) f123c9)
def f123c5 : C := (.seq (.cond (.tmp 11) .skip (.exit 0)) f123c6)
def f123c4 : C := (.seq (.reg f123r3) f123c5)
def f123c10 : C := (.seq (.reg f123r7) .ret)
def f123c3 : C := (.seq (.block 0 (.loop f123c4)) f123c10)
def f123c2 : C := (.seq (.reg f123r2) f123c3)
def f123c1 : C := (.seq (.reg f123r1) f123c2)
def f123c0 : C := (.seq (.reg f123r0) f123c1)
theorem f123cmp : cmpF Try.prog Try.f123 [.l [.o 0, .kp [0, 1]],
  .l [.o 0, .kp [0, 1, 5]],
  .l [.o 0, .o 1, .o 2, .kp [1, 5, 8, 9, 10]],
  .l [.o 0, .kp [1, 5, 8, 9, 10, 11]],
  .l [.o 0, .o 1, .o 2, .o 3, .kp [1, 5, 7, 8, 9, 10]],
  .l [.o 0, .o 1, .o 2, .o 3, .o 4, .o 5, .o 6, .kp [1, 5, 8, 9, 10]],
  .l [.o 0, .o 1, .kp [1, 5, 8, 9, 10]],
  .l [.o 0, .o 1, .kp [4]]] = some (f123c0, [.tmp 4]) := by kernel_rfl
theorem f123ok {args : List Value} {h : Heap} {R : Value → Heap → Prop} (hn : args.length ≤ 22) (H : wC Try.prog f123c0 (endW [.tmp 4] R) (envOf 0 args) h) : CallsH Try.prog 123 args h R :=
  fn_ok2 Try.func123 f123cmp hn H
section
variable {Q : X → Env → Heap → Prop} {σ : Env} {h : Heap}
theorem f123c8_eq : wC Try.prog f123c8 Q σ h = (wL Try.prog none f123r5 0 (fun σ h => Q .normal σ h) σ h) := rfl
theorem f123c7_eq : wC Try.prog f123c7 Q σ h = (wL Try.prog none f123r4 0 (fun σ h => wC Try.prog f123c8 Q σ h) σ h) := rfl
theorem f123c9_eq : wC Try.prog f123c9 Q σ h = (wL Try.prog none f123r6 0 (fun σ h => Q .normal σ h) σ h) := rfl
theorem f123c6_eq : wC Try.prog f123c6 Q σ h = (wC Try.prog f123c7 (X.inBlock 1 (X.then (fun σ h => wC Try.prog f123c9 Q σ h) Q)) σ h) := rfl
theorem f123c5_eq : wC Try.prog f123c5 Q σ h = (bd (evO σ (.tmp 11)) fun v => bd (asB v) fun t => br t (wC Try.prog f123c6 Q σ h) (Q (.exit 0) σ h)) := rfl
theorem f123c4_eq : wC Try.prog f123c4 Q σ h = (wL Try.prog none f123r3 0 (fun σ h => wC Try.prog f123c5 Q σ h) σ h) := rfl
theorem f123c10_eq : wC Try.prog f123c10 Q σ h = (wL Try.prog none f123r7 0 (fun σ h => Q .ret σ h) σ h) := rfl
theorem f123c3_eq : wC Try.prog f123c3 Q σ h = (loopW (wC Try.prog f123c4) (X.inBlock 0 (X.then (fun σ h => wC Try.prog f123c10 Q σ h) Q)) σ h) := rfl
theorem f123c2_eq : wC Try.prog f123c2 Q σ h = (wL Try.prog none f123r2 0 (fun σ h => wC Try.prog f123c3 Q σ h) σ h) := rfl
theorem f123c1_eq : wC Try.prog f123c1 Q σ h = (wL Try.prog none f123r1 0 (fun σ h => wC Try.prog f123c2 Q σ h) σ h) := rfl
theorem f123c0_eq : wC Try.prog f123c0 Q σ h = (wL Try.prog none f123r0 0 (fun σ h => wC Try.prog f123c1 Q σ h) σ h) := rfl
end
def f124r0 : List I := [.op (.box 1 103 (.tmp 0)),
  .op (.new 2 103 [.string ⟨#[]⟩, .slice none 0 0, .bool false, .int .i64 0, .int .i64 0, .int .i64 0, .int .i64 0, .int .i64 0, .int .i64 0, .int .i64 0, .bool false, .string ⟨#[]⟩]),
  .kp [1, 2]]
def f124r1 : List I := [.op (.fad 3 1 (.tmp 1)),
  .op (.ld 4 none (.tmp 3)),
  .op (.call (some 5) 114 [(.tmp 4)]),
  .op (.fad 6 1 (.tmp 1)),
  .op (.st 1 (.tmp 6) (.tmp 5)),
  .kp [1, 2]]
def f124r2 : List I := [.op (.ld 7 (some 12) (.tmp 1)),
  .op (.st 12 (.tmp 2) (.tmp 7)),
  .kp [2]]
def f124c2 : C := (.seq (.reg f124r2) .ret)
def f124c1 : C := (.seq (.reg f124r1) f124c2)
def f124c0 : C := (.seq (.reg f124r0) f124c1)
theorem f124cmp : cmpF Try.prog Try.f124 [.l [.o 0, .o 1, .kp [1, 2]],
  .l [.o 0, .o 1, .o 2, .o 3, .o 4, .kp [1, 2]],
  .l [.o 0, .o 1, .kp [2]]] = some (f124c0, [.cell 2 12]) := by kernel_rfl
theorem f124ok {args : List Value} {h : Heap} {R : Value → Heap → Prop} (hn : args.length ≤ 8) (H : wC Try.prog f124c0 (endW [.cell 2 12] R) (envOf 0 args) h) : CallsH Try.prog 124 args h R :=
  fn_ok2 Try.func124 f124cmp hn H
theorem f124cal : callable Try.prog 124 = true := by kernel_rfl
section
variable {Q : X → Env → Heap → Prop} {σ : Env} {h : Heap}
theorem f124c2_eq : wC Try.prog f124c2 Q σ h = (wL Try.prog none f124r2 0 (fun σ h => Q .ret σ h) σ h) := rfl
theorem f124c1_eq : wC Try.prog f124c1 Q σ h = (wL Try.prog none f124r1 0 (fun σ h => wC Try.prog f124c2 Q σ h) σ h) := rfl
theorem f124c0_eq : wC Try.prog f124c0 Q σ h = (wL Try.prog none f124r0 0 (fun σ h => wC Try.prog f124c1 Q σ h) σ h) := rfl
end
def f125r0 : List I := [.op (.mov 2 (.const (.slice none 0 0))),
  .kp [0]]
def f125r1 : List I := [.op (.mov 3 (.tmp 0)),
  .op (.eqn 4 true false (.tmp 3) (.const (.slice none 0 0))),
  .kp [0, 4]]
def f125r2 : List I := [.op (.mov 2 (.const (.slice none 0 0))),
  .kp [2]]
def f125r3 : List I := [.op (.bsl 5 126 0 [] []),
  .op (.mov 6 (.tmp 0)),
  .op (.raw (some 7) ⟨(some 7), (.call ⟨(.builtin .append), #[(.tmp 5), (.tmp 6)], #[114, 114]⟩), 114, "slices.go:362", #[⟨0, .data⟩, ⟨1, .data⟩], none⟩),
  .op (.mov 2 (.tmp 7)),
  .kp [2]]
def f125c3 : C := (.seq (.reg f125r2) .ret)
def f125c4 : C := (.seq (.reg f125r3) .ret)
def f125c2 : C := (.seq (.cond (.tmp 4) f125c3 .skip) f125c4)
def f125c1 : C := (.seq (.reg f125r1) f125c2)
def f125c0 : C := (.seq (.reg f125r0) f125c1)
theorem f125cmp : cmpF Try.prog Try.f125 [.l [.o 0, .kp [0]],
  .l [.o 0, .o 1, .kp [0, 4]],
  .l [.o 0, .kp [2]],
  .l [.o 0, .o 1, .o 2, .o 3, .kp [2]]] = some (f125c0, [.tmp 2]) := by kernel_rfl
theorem f125ok {args : List Value} {h : Heap} {R : Value → Heap → Prop} (hn : args.length ≤ 8) (H : wC Try.prog f125c0 (endW [.tmp 2] R) (envOf 0 args) h) : CallsH Try.prog 125 args h R :=
  fn_ok2 Try.func125 f125cmp hn H
section
variable {Q : X → Env → Heap → Prop} {σ : Env} {h : Heap}
theorem f125c3_eq : wC Try.prog f125c3 Q σ h = (wL Try.prog none f125r2 0 (fun σ h => Q .ret σ h) σ h) := rfl
theorem f125c4_eq : wC Try.prog f125c4 Q σ h = (wL Try.prog none f125r3 0 (fun σ h => Q .ret σ h) σ h) := rfl
theorem f125c2_eq : wC Try.prog f125c2 Q σ h = (bd (evO σ (.tmp 4)) fun v => bd (asB v) fun t => br t (wC Try.prog f125c3 (X.then (fun σ h => wC Try.prog f125c4 Q σ h) Q) σ h) (wC Try.prog f125c4 Q σ h)) := rfl
theorem f125c1_eq : wC Try.prog f125c1 Q σ h = (wL Try.prog none f125r1 0 (fun σ h => wC Try.prog f125c2 Q σ h) σ h) := rfl
theorem f125c0_eq : wC Try.prog f125c0 Q σ h = (wL Try.prog none f125r0 0 (fun σ h => wC Try.prog f125c1 Q σ h) σ h) := rfl
end
def f96r0 : List I := [.op (.box 3 43 (.tmp 1)),
  .op (.new 4 47 [.int .i64 0, .slice none 0 0, .int .i64 0, .int .i64 0, .int .i64 0, .int .i64 0, .int .i64 0, .int .i64 0, .int .i64 0, .int .i64 0, .bool false]),
  .kp [0, 3, 4]]
def f96r1a : List I := [.op (.mov 20 (.tmp 19)),
  .sc 20 false 3,
  .g 20 false (.fad 21 1 (.tmp 3)),
  .g 20 false (.ld 22 none (.tmp 21)),
  .g 20 false (.bin 23 .gtr (.tmp 22) (.const (.int .i64 1099511627776))),
  .op (.pick 24 (.tmp 20) (.const (.bool true)) (.tmp 23)),
  .kp [24, 0, 3, 4]]
def f96r1 : List I := .op (.mov 5 (.tmp 0)) ::
  .op (.nch (some 6) (.tmp 5)) ::
  .op (.fad 7 0 (.tmp 6)) ::
  .op (.ld 8 none (.tmp 7)) ::
  .op (.bin 9 .geq (.tmp 8) (.const (.int .i64 1099511627776))) ::
  .op (.mov 10 (.tmp 9)) ::
  .sc 10 false 8 ::
  .g 10 false (.fad 11 1 (.tmp 3)) ::
  .g 10 false (.ld 12 none (.tmp 11)) ::
  .g 10 false (.mov 13 (.tmp 0)) ::
  .g 10 false (.nch (some 14) (.tmp 13)) ::
  .g 10 false (.fad 15 0 (.tmp 14)) ::
  .g 10 false (.ld 16 none (.tmp 15)) ::
  .g 10 false (.bin 17 .add (.tmp 16) (.const (.int .i64 1))) ::
  .g 10 false (.bin 18 .neq (.tmp 12) (.tmp 17)) ::
  .op (.pick 19 (.tmp 10) (.const (.bool true)) (.tmp 18)) ::
  .kp [19, 0, 3, 4] ::
  f96r1a
def f96r2 : List I := [.op (.bld 25 [.int .i64 0, .slice none 0 0, .int .i64 0, .int .i64 0, .int .i64 0, .int .i64 0, .int .i64 0, .int .i64 0, .int .i64 0, .int .i64 0, .bool false] [(0, 1, (.const (.int .i64 25)))]),
  .op (.st 11 (.tmp 4) (.tmp 25)),
  .kp [4]]
def f96r3 : List I := [.op (.mov 26 (.tmp 0)),
  .op (.mov 27 (.tmp 0)),
  .op (.fad 28 1 (.tmp 3)),
  .op (.ld 29 none (.tmp 28)),
  .op (.fad 30 2 (.tmp 3)),
  .op (.ld 31 none (.tmp 30)),
  .op (.nch (some 32) (.tmp 26)),
  .op (.fad 33 0 (.tmp 32)),
  .op (.st 1 (.tmp 33) (.tmp 29)),
  .op (.nch (some 34) (.tmp 27)),
  .kp [4, 31, 34],
  .op (.fad 35 1 (.tmp 34)),
  .op (.st 1 (.tmp 35) (.tmp 31)),
  .kp [4]]
def f96r4 : List I := [.op (.bld 36 [.int .i64 0, .slice none 0 0, .int .i64 0, .int .i64 0, .int .i64 0, .int .i64 0, .int .i64 0, .int .i64 0, .int .i64 0, .int .i64 0, .bool false] []),
  .op (.st 11 (.tmp 4) (.tmp 36)),
  .kp [4]]
def f96c3 : C := (.seq (.reg f96r2) .ret)
def f96c5 : C := (.seq (.reg f96r4) .ret)
def f96c4 : C := (.seq (.drw f96r3) f96c5)
def f96c2 : C := (.seq (.cond (.tmp 24) f96c3 .skip) f96c4)
def f96c1 : C := (.seq (.drw f96r1) f96c2)
def f96c0 : C := (.seq (.reg f96r0) f96c1)
theorem f96cmp : cmpF Try.prog Try.f96 [.l [.o 0, .o 1, .kp [0, 3, 4]],
  .l [.o 0, .o 1, .o 2, .o 3, .o 4, .o 5, .sc 10 false 8, .o 6, .o 7, .o 8, .o 9, .o 10, .o 11, .o 12, .o 13, .o 14, .kp [19, 0, 3, 4], .o 15, .sc 20 false 3, .o 16, .o 17, .o 18, .o 19, .kp [24, 0, 3, 4]],
  .l [.o 0, .o 1, .kp [4]],
  .l [.o 0, .o 1, .o 2, .o 3, .o 4, .o 5, .o 6, .o 7, .o 8, .o 9, .kp [4, 31, 34], .o 10, .o 11, .kp [4]],
  .l [.o 0, .o 1, .kp [4]]] = some (f96c0, [.cell 4 11]) := by kernel_rfl
theorem f96ok {args : List Value} {h : Heap} {R : Value → Heap → Prop} (hn : args.length ≤ 37) (H : wC Try.prog f96c0 (endW [.cell 4 11] R) (envOf 0 args) h) : CallsH Try.prog 96 args h R :=
  fn_ok2 Try.func96 f96cmp hn H
section
variable {Q : X → Env → Heap → Prop} {σ : Env} {h : Heap}
theorem f96c3_eq : wC Try.prog f96c3 Q σ h = (wL Try.prog none f96r2 0 (fun σ h => Q .ret σ h) σ h) := rfl
theorem f96c5_eq : wC Try.prog f96c5 Q σ h = (wL Try.prog none f96r4 0 (fun σ h => Q .ret σ h) σ h) := rfl
theorem f96c4_eq : wC Try.prog f96c4 Q σ h = (drwW Try.prog f96r3 (fun σ h => wC Try.prog f96c5 Q σ h) σ h) := rfl
theorem f96c2_eq : wC Try.prog f96c2 Q σ h = (bd (evO σ (.tmp 24)) fun v => bd (asB v) fun t => br t (wC Try.prog f96c3 (X.then (fun σ h => wC Try.prog f96c4 Q σ h) Q) σ h) (wC Try.prog f96c4 Q σ h)) := rfl
theorem f96c1_eq : wC Try.prog f96c1 Q σ h = (drwW Try.prog f96r1 (fun σ h => wC Try.prog f96c2 Q σ h) σ h) := rfl
theorem f96c0_eq : wC Try.prog f96c0 Q σ h = (wL Try.prog none f96r0 0 (fun σ h => wC Try.prog f96c1 Q σ h) σ h) := rfl
end
def f63r0 : List I := [.op (.box 3 37 (.tmp 1)),
  .op (.new 4 126 [.int .i64 0, .int .i64 0, .int .i64 0, .int .i64 0, .int .i64 0, .int .i64 0, .bool false]),
  .op (.mov 5 (.const (.bool false))),
  .kp [0, 3, 4]]
def f63r1 : List I := [.op (.mov 7 (.tmp 0)),
  .op (.fn 8 105 [(.tmp 3)]),
  .op (.call (some 9) 104 [(.tmp 7), (.tmp 8)]),
  .op (.mov 6 (.tmp 9)),
  .kp [0, 4, 6]]
def f63r2 : List I := [.op (.mov 10 (.tmp 6)),
  .op (.bin 11 .lss (.tmp 10) (.const (.int .i64 0))),
  .kp [0, 4, 6, 11]]
def f63r3 : List I := [.op (.bld 12 [.int .i64 0, .int .i64 0, .int .i64 0, .int .i64 0, .int .i64 0, .int .i64 0, .bool false] []),
  .op (.st 7 (.tmp 4) (.tmp 12)),
  .op (.mov 5 (.const (.bool false))),
  .kp [4, 5]]
def f63r4 : List I := [.op (.mov 13 (.tmp 0)),
  .op (.mov 14 (.tmp 6)),
  .op (.iad 15 7 (.tmp 13) (.tmp 14)),
  .op (.ld 16 (some 7) (.tmp 15)),
  .op (.st 7 (.tmp 4) (.tmp 16)),
  .op (.mov 5 (.const (.bool true))),
  .kp [4, 5]]
def f63c4 : C := (.seq (.reg f63r3) .ret)
def f63c5 : C := (.seq (.reg f63r4) .ret)
def f63c3 : C := (.seq (.cond (.tmp 11) f63c4 .skip) f63c5)
def f63c2 : C := (.seq (.reg f63r2) f63c3)
def f63c1 : C := (.seq (.reg f63r1) f63c2)
def f63c0 : C := (.seq (.reg f63r0) f63c1)
theorem f63cmp : cmpF Try.prog Try.f63 [.l [.o 0, .o 1, .o 2, .kp [0, 3, 4]],
  .l [.o 0, .o 1, .o 2, .o 3, .kp [0, 4, 6]],
  .l [.o 0, .o 1, .kp [0, 4, 6, 11]],
  .l [.o 0, .o 1, .o 2, .kp [4, 5]],
  .l [.o 0, .o 1, .o 2, .o 3, .o 4, .o 5, .kp [4, 5]]] = some (f63c0, [.cell 4 7, .tmp 5]) := by kernel_rfl
theorem f63ok {args : List Value} {h : Heap} {R : Value → Heap → Prop} (hn : args.length ≤ 17) (H : wC Try.prog f63c0 (endW [.cell 4 7, .tmp 5] R) (envOf 0 args) h) : CallsH Try.prog 63 args h R :=
  fn_ok2 Try.func63 f63cmp hn H
section
variable {Q : X → Env → Heap → Prop} {σ : Env} {h : Heap}
theorem f63c4_eq : wC Try.prog f63c4 Q σ h = (wL Try.prog none f63r3 0 (fun σ h => Q .ret σ h) σ h) := rfl
theorem f63c5_eq : wC Try.prog f63c5 Q σ h = (wL Try.prog none f63r4 0 (fun σ h => Q .ret σ h) σ h) := rfl
theorem f63c3_eq : wC Try.prog f63c3 Q σ h = (bd (evO σ (.tmp 11)) fun v => bd (asB v) fun t => br t (wC Try.prog f63c4 (X.then (fun σ h => wC Try.prog f63c5 Q σ h) Q) σ h) (wC Try.prog f63c5 Q σ h)) := rfl
theorem f63c2_eq : wC Try.prog f63c2 Q σ h = (wL Try.prog none f63r2 0 (fun σ h => wC Try.prog f63c3 Q σ h) σ h) := rfl
theorem f63c1_eq : wC Try.prog f63c1 Q σ h = (wL Try.prog none f63r1 0 (fun σ h => wC Try.prog f63c2 Q σ h) σ h) := rfl
theorem f63c0_eq : wC Try.prog f63c0 Q σ h = (wL Try.prog none f63r0 0 (fun σ h => wC Try.prog f63c1 Q σ h) σ h) := rfl
end
def f104r0 : List I := [.op (.mov 4 (.const (.int .i64 0))),
  .kp [0, 1]]
def f104r1 : List I := [.op (.mov 6 (.tmp 0)),
  .op (.len 7 true (.tmp 6)),
  .op (.mov 8 (.const (.int .i64 0))),
  .kp [0, 1, 7, 8]]
def f104r2 : List I := [.op (.bin 9 .lss (.tmp 8) (.tmp 7)),
  .kp [0, 1, 7, 8, 9]]
def f104r3 : List I := [.op (.mov 10 (.tmp 8)),
  .op (.mov 5 (.tmp 10)),
  .kp [0, 1, 5, 7, 8]]
def f104r4 : List I := [.op (.mov 11 (.tmp 1)),
  .op (.mov 12 (.tmp 0)),
  .op (.mov 13 (.tmp 5)),
  .op (.iad 14 7 (.tmp 12) (.tmp 13)),
  .op (.ld 15 (some 7) (.tmp 14)),
  .op (.cav (some 16) (.tmp 11) [(.tmp 15)]),
  .kp [0, 1, 5, 7, 8, 16]]
def f104r5 : List I := [.op (.mov 17 (.tmp 5)),
  .op (.mov 4 (.tmp 17)),
  .kp [4]]
def f104r6 : List I := [.op (.bin 18 .add (.tmp 8) (.const (.int .i64 1))),
  .op (.mov 8 (.tmp 18)),
  .kp [0, 1, 7, 8]]
def f104r7 : List I := [.op (.mov 4 (.const (.int .i64 (-1)))),
  .kp [4]]
def f104c9 : C := (.seq (.reg f104r5) .ret)
def f104c8 : C := (.cond (.tmp 16) f104c9 .skip)
def f104c7 : C := (.seq (.reg f104r4) f104c8)
def f104c6 : C := (.seq (.reg f104r3) f104c7)
def f104c10 : C := (.reg f104r6)
def f104c5 : C := (.seq (.block 1 f104c6) f104c10)
def f104c4 : C := (.seq (.cond (.tmp 9) .skip (.exit 0)) f104c5)
def f104c3 : C := (.seq (.reg f104r2) f104c4)
def f104c11 : C := (.seq (.reg f104r7) .ret)
def f104c2 : C := (.seq (.block 0 (.loop f104c3)) f104c11)
def f104c1 : C := (.seq (.reg f104r1) f104c2)
def f104c0 : C := (.seq (.reg f104r0) f104c1)
theorem f104cmp : cmpF Try.prog Try.f104 [.l [.o 0, .kp [0, 1]],
  .l [.o 0, .o 1, .o 2, .kp [0, 1, 7, 8]],
  .l [.o 0, .kp [0, 1, 7, 8, 9]],
  .l [.o 0, .o 1, .kp [0, 1, 5, 7, 8]],
  .l [.o 0, .o 1, .o 2, .o 3, .o 4, .o 5, .kp [0, 1, 5, 7, 8, 16]],
  .l [.o 0, .o 1, .kp [4]],
  .l [.o 0, .o 1, .kp [0, 1, 7, 8]],
  .l [.o 0, .kp [4]]] = some (f104c0, [.tmp 4]) := by kernel_rfl
theorem f104ok {args : List Value} {h : Heap} {R : Value → Heap → Prop} (hn : args.length ≤ 19) (H : wC Try.prog f104c0 (endW [.tmp 4] R) (envOf 0 args) h) : CallsH Try.prog 104 args h R :=
  fn_ok2 Try.func104 f104cmp hn H
section
variable {Q : X → Env → Heap → Prop} {σ : Env} {h : Heap}
theorem f104c9_eq : wC Try.prog f104c9 Q σ h = (wL Try.prog none f104r5 0 (fun σ h => Q .ret σ h) σ h) := rfl
theorem f104c8_eq : wC Try.prog f104c8 Q σ h = (bd (evO σ (.tmp 16)) fun v => bd (asB v) fun t => br t (wC Try.prog f104c9 Q σ h) (Q .normal σ h)) := rfl
theorem f104c7_eq : wC Try.prog f104c7 Q σ h = (wL Try.prog none f104r4 0 (fun σ h => wC Try.prog f104c8 Q σ h) σ h) := rfl
theorem f104c6_eq : wC Try.prog f104c6 Q σ h = (wL Try.prog none f104r3 0 (fun σ h => wC Try.prog f104c7 Q σ h) σ h) := rfl
theorem f104c10_eq : wC Try.prog f104c10 Q σ h = (wL Try.prog none f104r6 0 (fun σ h => Q .normal σ h) σ h) := rfl
theorem f104c5_eq : wC Try.prog f104c5 Q σ h = (wC Try.prog f104c6 (X.inBlock 1 (X.then (fun σ h => wC Try.prog f104c10 Q σ h) Q)) σ h) := rfl
theorem f104c4_eq : wC Try.prog f104c4 Q σ h = (bd (evO σ (.tmp 9)) fun v => bd (asB v) fun t => br t (wC Try.prog f104c5 Q σ h) (Q (.exit 0) σ h)) := rfl
theorem f104c3_eq : wC Try.prog f104c3 Q σ h = (wL Try.prog none f104r2 0 (fun σ h => wC Try.prog f104c4 Q σ h) σ h) := rfl
theorem f104c11_eq : wC Try.prog f104c11 Q σ h = (wL Try.prog none f104r7 0 (fun σ h => Q .ret σ h) σ h) := rfl
theorem f104c2_eq : wC Try.prog f104c2 Q σ h = (loopW (wC Try.prog f104c3) (X.inBlock 0 (X.then (fun σ h => wC Try.prog f104c11 Q σ h) Q)) σ h) := rfl
theorem f104c1_eq : wC Try.prog f104c1 Q σ h = (wL Try.prog none f104r1 0 (fun σ h => wC Try.prog f104c2 Q σ h) σ h) := rfl
theorem f104c0_eq : wC Try.prog f104c0 Q σ h = (wL Try.prog none f104r0 0 (fun σ h => wC Try.prog f104c1 Q σ h) σ h) := rfl
end
def f105r0 : List I := [.op (.box 2 126 (.tmp 0)),
  .op (.mov 3 (.const (.bool false))),
  .kp [1, 2]]
def f105r1 : List I := [.op (.fad 4 0 (.tmp 2)),
  .op (.ld 5 (some 4) (.tmp 4)),
  .op (.ld 6 (some 4) (.tmp 1)),
  .op (.eqa 7 false [.i .i64, .i .i64, .i .i64, .i .i64] (.tmp 5) (.tmp 6)),
  .op (.mov 3 (.tmp 7)),
  .kp [3]]
def f105c1 : C := (.seq (.reg f105r1) .ret)
def f105c0 : C := (.seq (.reg f105r0) f105c1)
theorem f105cmp : cmpF Try.prog Try.f105 [.l [.o 0, .o 1, .kp [1, 2]],
  .l [.o 0, .o 1, .o 2, .o 3, .o 4, .kp [3]]] = some (f105c0, [.tmp 3]) := by kernel_rfl
theorem f105ok {args : List Value} {h : Heap} {R : Value → Heap → Prop} (hn : args.length ≤ 8) (H : wC Try.prog f105c0 (endW [.tmp 3] R) (envOf 0 args) h) : CallsH Try.prog 105 args h R :=
  fn_ok2 Try.func105 f105cmp hn H
theorem f105cal : callable Try.prog 105 = true := by kernel_rfl
section
variable {Q : X → Env → Heap → Prop} {σ : Env} {h : Heap}
theorem f105c1_eq : wC Try.prog f105c1 Q σ h = (wL Try.prog none f105r1 0 (fun σ h => Q .ret σ h) σ h) := rfl
theorem f105c0_eq : wC Try.prog f105c0 Q σ h = (wL Try.prog none f105r0 0 (fun σ h => wC Try.prog f105c1 Q σ h) σ h) := rfl
end
def f142r0 : List I := [.op (.box 1 72 (.tmp 0)),
  .op (.new 2 47 [.int .i64 0, .slice none 0 0, .int .i64 0, .int .i64 0, .int .i64 0, .int .i64 0, .int .i64 0, .int .i64 0, .int .i64 0, .int .i64 0, .bool false]),
  .kp [1, 2]]
def f142r1 : List I := [.op (.fad 3 0 (.tmp 1)),
  .op (.ld 4 (some 4) (.tmp 3)),
  .op (.fad 5 4 (.tmp 1)),
  .op (.ld 6 none (.tmp 5)),
  .op (.fad 7 5 (.tmp 1)),
  .op (.ld 8 (some 2) (.tmp 7)),
  .op (.bld 9 [.int .i64 0, .slice none 0 0, .int .i64 0, .int .i64 0, .int .i64 0, .int .i64 0, .int .i64 0, .int .i64 0, .int .i64 0, .int .i64 0, .bool false] [(0, 1, (.const (.int .i64 20))), (2, 4, (.tmp 4)), (6, 1, (.tmp 6)), (7, 2, (.tmp 8))]),
  .op (.st 11 (.tmp 2) (.tmp 9)),
  .kp [2]]
def f142c1 : C := (.seq (.reg f142r1) .ret)
def f142c0 : C := (.seq (.reg f142r0) f142c1)
theorem f142cmp : cmpF Try.prog Try.f142 [.l [.o 0, .o 1, .kp [1, 2]],
  .l [.o 0, .o 1, .o 2, .o 3, .o 4, .o 5, .o 6, .o 7, .kp [2]]] = some (f142c0, [.cell 2 11]) := by kernel_rfl
theorem f142ok {args : List Value} {h : Heap} {R : Value → Heap → Prop} (hn : args.length ≤ 10) (H : wC Try.prog f142c0 (endW [.cell 2 11] R) (envOf 0 args) h) : CallsH Try.prog 142 args h R :=
  fn_ok2 Try.func142 f142cmp hn H
section
variable {Q : X → Env → Heap → Prop} {σ : Env} {h : Heap}
theorem f142c1_eq : wC Try.prog f142c1 Q σ h = (wL Try.prog none f142r1 0 (fun σ h => Q .ret σ h) σ h) := rfl
theorem f142c0_eq : wC Try.prog f142c0 Q σ h = (wL Try.prog none f142r0 0 (fun σ h => wC Try.prog f142c1 Q σ h) σ h) := rfl
end
def f143r0 : List I := [.op (.box 2 39 (.tmp 0)),
  .op (.box 3 39 (.tmp 1)),
  .op (.new 4 39 [.int .i64 0, .int .i64 0]),
  .kp [2, 3, 4]]
def f143r1 : List I := [.op (.ld 5 (some 2) (.tmp 2)),
  .op (.ld 6 (some 2) (.tmp 3)),
  .op (.call (some 7) 90 [(.tmp 5), (.tmp 6)]),
  .kp [2, 3, 4, 7]]
def f143r2 : List I := [.op (.ld 8 (some 2) (.tmp 3)),
  .op (.st 2 (.tmp 4) (.tmp 8)),
  .kp [4]]
def f143r3 : List I := [.op (.ld 9 (some 2) (.tmp 2)),
  .op (.st 2 (.tmp 4) (.tmp 9)),
  .kp [4]]
def f143c3 : C := (.seq (.reg f143r2) .ret)
def f143c4 : C := (.seq (.reg f143r3) .ret)
def f143c2 : C := (.seq (.cond (.tmp 7) f143c3 .skip) f143c4)
def f143c1 : C := (.seq (.reg f143r1) f143c2)
def f143c0 : C := (.seq (.reg f143r0) f143c1)
theorem f143cmp : cmpF Try.prog Try.f143 [.l [.o 0, .o 1, .o 2, .kp [2, 3, 4]],
  .l [.o 0, .o 1, .o 2, .kp [2, 3, 4, 7]],
  .l [.o 0, .o 1, .kp [4]],
  .l [.o 0, .o 1, .kp [4]]] = some (f143c0, [.cell 4 2]) := by kernel_rfl
theorem f143ok {args : List Value} {h : Heap} {R : Value → Heap → Prop} (hn : args.length ≤ 10) (H : wC Try.prog f143c0 (endW [.cell 4 2] R) (envOf 0 args) h) : CallsH Try.prog 143 args h R :=
  fn_ok2 Try.func143 f143cmp hn H
section
variable {Q : X → Env → Heap → Prop} {σ : Env} {h : Heap}
theorem f143c3_eq : wC Try.prog f143c3 Q σ h = (wL Try.prog none f143r2 0 (fun σ h => Q .ret σ h) σ h) := rfl
theorem f143c4_eq : wC Try.prog f143c4 Q σ h = (wL Try.prog none f143r3 0 (fun σ h => Q .ret σ h) σ h) := rfl
theorem f143c2_eq : wC Try.prog f143c2 Q σ h = (bd (evO σ (.tmp 7)) fun v => bd (asB v) fun t => br t (wC Try.prog f143c3 (X.then (fun σ h => wC Try.prog f143c4 Q σ h) Q) σ h) (wC Try.prog f143c4 Q σ h)) := rfl
theorem f143c1_eq : wC Try.prog f143c1 Q σ h = (wL Try.prog none f143r1 0 (fun σ h => wC Try.prog f143c2 Q σ h) σ h) := rfl
theorem f143c0_eq : wC Try.prog f143c0 Q σ h = (wL Try.prog none f143r0 0 (fun σ h => wC Try.prog f143c1 Q σ h) σ h) := rfl
end
def f102r0 : List I := [.op (.mov 2 (.const (.bool false))),
  .kp [0]]
def f102r1 : List I := [.op (.raw (some 6) ⟨(some 6), (.makeMap 182 none), 182, "part.go:29", #[], none⟩),
  .op (.mov 3 (.tmp 6)),
  .kp [0, 3]]
def f102r2 : List I := [.op (.mov 7 (.tmp 0)),
  .op (.len 8 true (.tmp 7)),
  .op (.mov 9 (.const (.int .i64 0))),
  .kp [3, 7, 8, 9]]
def f102r3 : List I := [.op (.bin 10 .lss (.tmp 9) (.tmp 8)),
  .kp [3, 7, 8, 9, 10]]
def f102r4 : List I := [.op (.iad 11 7 (.tmp 7) (.tmp 9)),
  .op (.ld 12 (some 7) (.tmp 11)),
  .op (.new 5 126 [.int .i64 0, .int .i64 0, .int .i64 0, .int .i64 0, .int .i64 0, .int .i64 0, .bool false]),
  .op (.st 7 (.tmp 5) (.tmp 12)),
  .kp [3, 5, 7, 8, 9]]
def f102r5 : L := (.one [.op (.mov 13 (.tmp 3)),
  .op (.fad 14 0 (.tmp 5)),
  .op (.ld 15 (some 4) (.tmp 14))] (.alt (.one [.op (.raw (some 16) ⟨(some 16), (.lookup 182 (.tmp 13) (.tmp 15) false), 3, "part.go:31", #[⟨0, .data⟩, ⟨2, .data⟩], none⟩),
  .op (.bin 17 .add (.tmp 16) (.const (.int .i64 1))),
  .op (.raw (some 18) ⟨(some 18), (.mapEntry 182 (.tmp 13) (.tmp 15)), 0, "part.go:31", #[⟨0, .data⟩, ⟨2, .data⟩, ⟨0, .phase⟩, ⟨1, .phase⟩, ⟨2, .phase⟩, ⟨3, (.textOnly .mapOpAssignEntry)⟩, ⟨4, (.textOnly .mapOpAssignEntry)⟩], none⟩),
  .op (.ext 19 (.tmp 18) 1),
  .op (.raw none ⟨none, (.entryStore 182 (.tmp 13) (.tmp 19) (.tmp 17)), 0, "part.go:31", #[⟨0, .data⟩, ⟨6, .data⟩, ⟨4, .data⟩, ⟨5, .chain⟩, ⟨0, .phase⟩, ⟨1, .phase⟩, ⟨2, .phase⟩, ⟨3, .phase⟩, ⟨4, .phase⟩, ⟨5, .phase⟩, ⟨6, .phase⟩], none⟩),
  .kp [3, 5, 7, 8, 9]] .nil) (.one [.op (.raw (some 18) ⟨(some 18), (.mapEntry 182 (.tmp 13) (.tmp 15)), 0, "part.go:31", #[⟨0, .data⟩, ⟨2, .data⟩, ⟨0, .phase⟩, ⟨1, .phase⟩, ⟨2, .phase⟩, ⟨3, (.textOnly .mapOpAssignEntry)⟩, ⟨4, (.textOnly .mapOpAssignEntry)⟩], none⟩),
  .op (.ext 19 (.tmp 18) 1),
  .op (.raw (some 16) ⟨(some 16), (.lookup 182 (.tmp 13) (.tmp 15) false), 3, "part.go:31", #[⟨0, .data⟩, ⟨2, .data⟩], none⟩),
  .op (.bin 17 .add (.tmp 16) (.const (.int .i64 1))),
  .op (.raw none ⟨none, (.entryStore 182 (.tmp 13) (.tmp 19) (.tmp 17)), 0, "part.go:31", #[⟨0, .data⟩, ⟨6, .data⟩, ⟨4, .data⟩, ⟨5, .chain⟩, ⟨0, .phase⟩, ⟨1, .phase⟩, ⟨2, .phase⟩, ⟨3, .phase⟩, ⟨4, .phase⟩, ⟨5, .phase⟩, ⟨6, .phase⟩], none⟩),
  .kp [3, 5, 7, 8, 9]] .nil)))
def f102r6 : List I := [.op (.mov 20 (.tmp 3)),
  .op (.fad 21 0 (.tmp 5)),
  .op (.ld 22 (some 4) (.tmp 21)),
  .op (.raw (some 23) ⟨(some 23), (.lookup 182 (.tmp 20) (.tmp 22) false), 3, "part.go:31", #[⟨0, .data⟩, ⟨2, .data⟩], none⟩),
  .op (.bin 24 .gtr (.tmp 23) (.const (.int .i64 1))),
  .kp [3, 7, 8, 9, 24]]
def f102r7 : List I := [.op (.mov 2 (.const (.bool false))),
  .kp [2]]
def f102r8 : List I := [.op (.bin 25 .add (.tmp 9) (.const (.int .i64 1))),
  .op (.mov 9 (.tmp 25)),
  .kp [3, 7, 8, 9]]
def f102r9 : List I := [.op (.mov 2 (.const (.bool true))),
  .kp [2]]
def f102c11 : C := (.seq (.reg f102r7) .ret)
def f102c10 : C := (.cond (.tmp 24) f102c11 .skip)
def f102c9 : C := (.seq (.reg f102r6) f102c10)
def f102c8 : C := (.seq (.drt f102r5) f102c9)
def f102c7 : C := (.seq (.reg f102r4) f102c8)
def f102c12 : C := (.reg f102r8)
def f102c6 : C := (.seq (.block 1 f102c7) f102c12)
def f102c5 : C := (.seq (.cond (.tmp 10) .skip (.exit 0)) f102c6)
def f102c4 : C := (.seq (.reg f102r3) f102c5)
def f102c13 : C := (.seq (.reg f102r9) .ret)
def f102c3 : C := (.seq (.block 0 (.loop f102c4)) f102c13)
def f102c2 : C := (.seq (.reg f102r2) f102c3)
def f102c1 : C := (.seq (.reg f102r1) f102c2)
def f102c0 : C := (.seq (.reg f102r0) f102c1)
theorem f102cmp : cmpF Try.prog Try.f102 [.l [.o 0, .kp [0]],
  .l [.o 0, .o 1, .kp [0, 3]],
  .l [.o 0, .o 1, .o 2, .kp [3, 7, 8, 9]],
  .l [.o 0, .kp [3, 7, 8, 9, 10]],
  .l [.o 0, .o 1, .o 2, .o 3, .kp [3, 5, 7, 8, 9]],
  .t (.one [.o 0, .o 1, .o 2] (.alt (.one [.o 3, .o 4, .o 5, .o 6, .o 7, .kp [3, 5, 7, 8, 9]] .nil) (.one [.o 5, .o 6, .o 3, .o 4, .o 7, .kp [3, 5, 7, 8, 9]] .nil))),
  .l [.o 0, .o 1, .o 2, .o 3, .o 4, .kp [3, 7, 8, 9, 24]],
  .l [.o 0, .kp [2]],
  .l [.o 0, .o 1, .kp [3, 7, 8, 9]],
  .l [.o 0, .kp [2]]] = some (f102c0, [.tmp 2]) := by kernel_rfl
theorem f102ok {args : List Value} {h : Heap} {R : Value → Heap → Prop} (hn : args.length ≤ 26) (H : wC Try.prog f102c0 (endW [.tmp 2] R) (envOf 0 args) h) : CallsH Try.prog 102 args h R :=
  fn_ok2 Try.func102 f102cmp hn H
section
variable {Q : X → Env → Heap → Prop} {σ : Env} {h : Heap}
theorem f102c5_eq : wC Try.prog f102c5 Q σ h = (bd (evO σ (.tmp 10)) fun v => bd (asB v) fun t => br t (wC Try.prog f102c6 Q σ h) (Q (.exit 0) σ h)) := rfl
theorem f102c4_eq : wC Try.prog f102c4 Q σ h = (wL Try.prog none f102r3 0 (fun σ h => wC Try.prog f102c5 Q σ h) σ h) := rfl
theorem f102c13_eq : wC Try.prog f102c13 Q σ h = (wL Try.prog none f102r9 0 (fun σ h => Q .ret σ h) σ h) := rfl
theorem f102c3_eq : wC Try.prog f102c3 Q σ h = (loopW (wC Try.prog f102c4) (X.inBlock 0 (X.then (fun σ h => wC Try.prog f102c13 Q σ h) Q)) σ h) := rfl
theorem f102c2_eq : wC Try.prog f102c2 Q σ h = (wL Try.prog none f102r2 0 (fun σ h => wC Try.prog f102c3 Q σ h) σ h) := rfl
theorem f102c1_eq : wC Try.prog f102c1 Q σ h = (wL Try.prog none f102r1 0 (fun σ h => wC Try.prog f102c2 Q σ h) σ h) := rfl
theorem f102c0_eq : wC Try.prog f102c0 Q σ h = (wL Try.prog none f102r0 0 (fun σ h => wC Try.prog f102c1 Q σ h) σ h) := rfl
end
def f60r0 : List I := [.op (.box 1 116 (.tmp 0)),
  .op (.mov 2 (.const (.bool false))),
  .kp [1]]
def f60r1e : List I := [.op (.mov 2 (.tmp 37)),
  .kp [2]]
def f60r1d : List I := .op (.mov 26 (.tmp 25)) ::
  .sc 26 true 11 ::
  .g 26 true (.fad 27 5 (.tmp 1)) ::
  .g 26 true (.ld 28 none (.tmp 27)) ::
  .g 26 true (.fad 29 4 (.tmp 1)) ::
  .g 26 true (.ld 30 none (.tmp 29)) ::
  .g 26 true (.bin 31 .leq (.tmp 28) (.tmp 30)) ::
  .g 26 true (.mov 32 (.tmp 31)) ::
  .sc 32 false 3 ::
  .g 32 false (.fad 33 5 (.tmp 1)) ::
  .g 32 false (.ld 34 none (.tmp 33)) ::
  .g 32 false (.bin 35 .eql (.tmp 34) (.const (.int .i64 0))) ::
  .g 26 true (.pick 36 (.tmp 32) (.const (.bool true)) (.tmp 35)) ::
  .op (.pick 37 (.tmp 26) (.tmp 36) (.const (.bool false))) ::
  .kp [37] ::
  f60r1e
def f60r1c : List I := .op (.mov 21 (.tmp 20)) ::
  .sc 21 true 3 ::
  .g 21 true (.fad 22 0 (.tmp 1)) ::
  .g 21 true (.ld 23 none (.tmp 22)) ::
  .g 21 true (.bin 24 .leq (.tmp 23) (.const (.int .i64 1099511627776))) ::
  .op (.pick 25 (.tmp 21) (.tmp 24) (.const (.bool false))) ::
  .kp [25, 1] ::
  f60r1d
def f60r1b : List I := .op (.mov 16 (.tmp 15)) ::
  .sc 16 true 3 ::
  .g 16 true (.fad 17 0 (.tmp 1)) ::
  .g 16 true (.ld 18 none (.tmp 17)) ::
  .g 16 true (.bin 19 .geq (.tmp 18) (.const (.int .i64 0))) ::
  .op (.pick 20 (.tmp 16) (.tmp 19) (.const (.bool false))) ::
  .kp [20, 1] ::
  f60r1c
def f60r1a : List I := .op (.mov 11 (.tmp 10)) ::
  .sc 11 true 3 ::
  .g 11 true (.fad 12 8 (.tmp 1)) ::
  .g 11 true (.ld 13 none (.tmp 12)) ::
  .g 11 true (.call (some 14) 102 [(.tmp 13)]) ::
  .op (.pick 15 (.tmp 11) (.tmp 14) (.const (.bool false))) ::
  .kp [15, 1] ::
  f60r1b
def f60r1 : List I := .op (.fad 3 6 (.tmp 1)) ::
  .op (.ld 4 none (.tmp 3)) ::
  .op (.call (some 5) 45 [(.tmp 4)]) ::
  .op (.mov 6 (.tmp 5)) ::
  .sc 6 true 3 ::
  .g 6 true (.fad 7 7 (.tmp 1)) ::
  .g 6 true (.ld 8 none (.tmp 7)) ::
  .g 6 true (.call (some 9) 102 [(.tmp 8)]) ::
  .op (.pick 10 (.tmp 6) (.tmp 9) (.const (.bool false))) ::
  .kp [10, 1] ::
  f60r1a
def f60c1 : C := (.seq (.reg f60r1) .ret)
def f60c0 : C := (.seq (.reg f60r0) f60c1)
theorem f60cmp : cmpF Try.prog Try.f60 [.l [.o 0, .o 1, .kp [1]],
  .l [.o 0, .o 1, .o 2, .o 3, .sc 6 true 3, .o 4, .o 5, .o 6, .o 7, .kp [10, 1], .o 8, .sc 11 true 3, .o 9, .o 10, .o 11, .o 12, .kp [15, 1], .o 13, .sc 16 true 3, .o 14, .o 15, .o 16, .o 17, .kp [20, 1], .o 18, .sc 21 true 3, .o 19, .o 20, .o 21, .o 22, .kp [25, 1], .o 23, .sc 26 true 11, .o 24, .o 25, .o 26, .o 27, .o 28, .o 29, .sc 32 false 3, .o 30, .o 31, .o 32, .o 33, .o 34, .kp [37], .o 35, .kp [2]]] = some (f60c0, [.tmp 2]) := by kernel_rfl
theorem f60ok {args : List Value} {h : Heap} {R : Value → Heap → Prop} (hn : args.length ≤ 38) (H : wC Try.prog f60c0 (endW [.tmp 2] R) (envOf 0 args) h) : CallsH Try.prog 60 args h R :=
  fn_ok2 Try.func60 f60cmp hn H
section
variable {Q : X → Env → Heap → Prop} {σ : Env} {h : Heap}
theorem f60c1_eq : wC Try.prog f60c1 Q σ h = (wL Try.prog none f60r1 0 (fun σ h => Q .ret σ h) σ h) := rfl
theorem f60c0_eq : wC Try.prog f60c0 Q σ h = (wL Try.prog none f60r0 0 (fun σ h => wC Try.prog f60c1 Q σ h) σ h) := rfl
end
def f56r0 : List I := [.op (.box 2 116 (.tmp 0)),
  .op (.box 3 43 (.tmp 1)),
  .op (.new 4 116 [.int .i64 0, .int .i64 0, .int .i64 0, .int .i64 0, .int .i64 0, .int .i64 0, .slice none 0 0, .slice none 0 0, .slice none 0 0]),
  .op (.new 5 47 [.int .i64 0, .slice none 0 0, .int .i64 0, .int .i64 0, .int .i64 0, .int .i64 0, .int .i64 0, .int .i64 0, .int .i64 0, .int .i64 0, .bool false]),
  .kp [2, 3, 4, 5]]
def f56r1 : List I := [.op (.ld 8 (some 9) (.tmp 2)),
  .op (.call (some 9) 95 [(.tmp 8)]),
  .op (.new 6 116 [.int .i64 0, .int .i64 0, .int .i64 0, .int .i64 0, .int .i64 0, .int .i64 0, .slice none 0 0, .slice none 0 0, .slice none 0 0]),
  .op (.st 9 (.tmp 6) (.tmp 9)),
  .kp [2, 3, 4, 5, 6]]
def f56r2 : List I := [.op (.bld 10 [.int .i64 0, .slice none 0 0, .int .i64 0, .int .i64 0, .int .i64 0, .int .i64 0, .int .i64 0, .int .i64 0, .int .i64 0, .int .i64 0, .bool false] []),
  .op (.new 7 47 [.int .i64 0, .slice none 0 0, .int .i64 0, .int .i64 0, .int .i64 0, .int .i64 0, .int .i64 0, .int .i64 0, .int .i64 0, .int .i64 0, .bool false]),
  .op (.st 11 (.tmp 7) (.tmp 10)),
  .kp [2, 3, 4, 5, 6, 7]]
def f56r3 : List I := [.op (.fad 14 0 (.tmp 3)),
  .op (.ld 15 none (.tmp 14)),
  .op (.bin 16 .eql (.tmp 15) (.const (.int .i64 1))),
  .op (.mov 13 (.tmp 16)),
  .kp [2, 3, 4, 5, 6, 7, 13]]
def f56r4 : List I := [.op (.ld 17 (some 14) (.tmp 3)),
  .op (.call (some 18) 96 [(.tmp 6), (.tmp 17)]),
  .op (.st 11 (.tmp 7) (.tmp 18)),
  .kp [2, 4, 5, 6, 7]]
def f56r5a : List I := [.op (.mov 19 (.tmp 29)),
  .kp [2, 3, 4, 5, 6, 7, 19]]
def f56r5 : List I := .op (.fad 20 0 (.tmp 2)) ::
  .op (.ld 21 none (.tmp 20)) ::
  .op (.bin 22 .eql (.tmp 21) (.const (.int .i64 0))) ::
  .op (.mov 23 (.tmp 22)) ::
  .sc 23 false 5 ::
  .g 23 false (.fad 24 1 (.tmp 3)) ::
  .g 23 false (.ld 25 none (.tmp 24)) ::
  .g 23 false (.fad 26 0 (.tmp 2)) ::
  .g 23 false (.ld 27 none (.tmp 26)) ::
  .g 23 false (.bin 28 .neq (.tmp 25) (.tmp 27)) ::
  .op (.pick 29 (.tmp 23) (.const (.bool true)) (.tmp 28)) ::
  .kp [29, 2, 3, 4, 5, 6, 7] ::
  f56r5a
def f56r6 : List I := [.op (.fad 30 0 (.tmp 7)),
  .op (.st 1 (.tmp 30) (.const (.int .i64 25))),
  .kp [2, 4, 5, 6, 7]]
def f56r7 : List I := [.op (.ld 11 (some 14) (.tmp 3)),
  .op (.call (some 12) 97 [(.tmp 6), (.tmp 11)]),
  .op (.st 11 (.tmp 7) (.tmp 12)),
  .kp [2, 4, 5, 6, 7]]
def f56r8 : List I := [.op (.fad 31 0 (.tmp 7)),
  .op (.ld 32 none (.tmp 31)),
  .op (.bin 33 .neq (.tmp 32) (.const (.int .i64 0))),
  .kp [2, 4, 5, 6, 7, 33]]
def f56r9 : List I := [.op (.ld 34 (some 9) (.tmp 2)),
  .op (.ld 36 (some 11) (.tmp 7)),
  .op (.call (some 35) 95 [(.tmp 34)]),
  .op (.st 9 (.tmp 4) (.tmp 35)),
  .op (.st 11 (.tmp 5) (.tmp 36)),
  .kp [4, 5]]
def f56r10 : List I := [.op (.ld 37 (some 9) (.tmp 6)),
  .op (.ld 38 (some 11) (.tmp 7)),
  .op (.st 9 (.tmp 4) (.tmp 37)),
  .op (.st 11 (.tmp 5) (.tmp 38)),
  .kp [4, 5]]
def f56c6 : C := (.reg f56r4)
def f56c9 : C := (.reg f56r6)
def f56c10 : C := (.reg f56r7)
def f56c8 : C := (.cond (.tmp 19) f56c9 f56c10)
def f56c7 : C := (.seq (.reg f56r5) f56c8)
def f56c5 : C := (.cond (.tmp 13) f56c6 f56c7)
def f56c4 : C := (.seq (.reg f56r3) f56c5)
def f56c13 : C := (.seq (.drw f56r9) .ret)
def f56c14 : C := (.seq (.drw f56r10) .ret)
def f56c12 : C := (.seq (.cond (.tmp 33) f56c13 .skip) f56c14)
def f56c11 : C := (.seq (.reg f56r8) f56c12)
def f56c3 : C := (.seq (.block 0 f56c4) f56c11)
def f56c2 : C := (.seq (.reg f56r2) f56c3)
def f56c1 : C := (.seq (.reg f56r1) f56c2)
def f56c0 : C := (.seq (.reg f56r0) f56c1)
theorem f56cmp : cmpF Try.prog Try.f56 [.l [.o 0, .o 1, .o 2, .o 3, .kp [2, 3, 4, 5]],
  .l [.o 0, .o 1, .o 2, .o 3, .kp [2, 3, 4, 5, 6]],
  .l [.o 0, .o 1, .o 2, .kp [2, 3, 4, 5, 6, 7]],
  .l [.o 0, .o 1, .o 2, .o 3, .kp [2, 3, 4, 5, 6, 7, 13]],
  .l [.o 0, .o 1, .o 2, .kp [2, 4, 5, 6, 7]],
  .l [.o 0, .o 1, .o 2, .o 3, .sc 23 false 5, .o 4, .o 5, .o 6, .o 7, .o 8, .o 9, .kp [29, 2, 3, 4, 5, 6, 7], .o 10, .kp [2, 3, 4, 5, 6, 7, 19]],
  .l [.o 0, .o 1, .kp [2, 4, 5, 6, 7]],
  .l [.o 0, .o 1, .o 2, .kp [2, 4, 5, 6, 7]],
  .l [.o 0, .o 1, .o 2, .kp [2, 4, 5, 6, 7, 33]],
  .l [.o 0, .o 2, .o 1, .o 3, .o 4, .kp [4, 5]],
  .l [.o 0, .o 1, .o 2, .o 3, .kp [4, 5]]] = some (f56c0, [.cell 4 9, .cell 5 11]) := by kernel_rfl
theorem f56ok {args : List Value} {h : Heap} {R : Value → Heap → Prop} (hn : args.length ≤ 39) (H : wC Try.prog f56c0 (endW [.cell 4 9, .cell 5 11] R) (envOf 0 args) h) : CallsH Try.prog 56 args h R :=
  fn_ok2 Try.func56 f56cmp hn H
section
variable {Q : X → Env → Heap → Prop} {σ : Env} {h : Heap}
theorem f56c6_eq : wC Try.prog f56c6 Q σ h = (wL Try.prog none f56r4 0 (fun σ h => Q .normal σ h) σ h) := rfl
theorem f56c9_eq : wC Try.prog f56c9 Q σ h = (wL Try.prog none f56r6 0 (fun σ h => Q .normal σ h) σ h) := rfl
theorem f56c10_eq : wC Try.prog f56c10 Q σ h = (wL Try.prog none f56r7 0 (fun σ h => Q .normal σ h) σ h) := rfl
theorem f56c8_eq : wC Try.prog f56c8 Q σ h = (bd (evO σ (.tmp 19)) fun v => bd (asB v) fun t => br t (wC Try.prog f56c9 Q σ h) (wC Try.prog f56c10 Q σ h)) := rfl
theorem f56c7_eq : wC Try.prog f56c7 Q σ h = (wL Try.prog none f56r5 0 (fun σ h => wC Try.prog f56c8 Q σ h) σ h) := rfl
theorem f56c5_eq : wC Try.prog f56c5 Q σ h = (bd (evO σ (.tmp 13)) fun v => bd (asB v) fun t => br t (wC Try.prog f56c6 Q σ h) (wC Try.prog f56c7 Q σ h)) := rfl
theorem f56c4_eq : wC Try.prog f56c4 Q σ h = (wL Try.prog none f56r3 0 (fun σ h => wC Try.prog f56c5 Q σ h) σ h) := rfl
theorem f56c13_eq : wC Try.prog f56c13 Q σ h = (drwW Try.prog f56r9 (fun σ h => Q .ret σ h) σ h) := rfl
theorem f56c14_eq : wC Try.prog f56c14 Q σ h = (drwW Try.prog f56r10 (fun σ h => Q .ret σ h) σ h) := rfl
theorem f56c12_eq : wC Try.prog f56c12 Q σ h = (bd (evO σ (.tmp 33)) fun v => bd (asB v) fun t => br t (wC Try.prog f56c13 (X.then (fun σ h => wC Try.prog f56c14 Q σ h) Q) σ h) (wC Try.prog f56c14 Q σ h)) := rfl
theorem f56c11_eq : wC Try.prog f56c11 Q σ h = (wL Try.prog none f56r8 0 (fun σ h => wC Try.prog f56c12 Q σ h) σ h) := rfl
theorem f56c3_eq : wC Try.prog f56c3 Q σ h = (wC Try.prog f56c4 (X.inBlock 0 (X.then (fun σ h => wC Try.prog f56c11 Q σ h) Q)) σ h) := rfl
theorem f56c2_eq : wC Try.prog f56c2 Q σ h = (wL Try.prog none f56r2 0 (fun σ h => wC Try.prog f56c3 Q σ h) σ h) := rfl
theorem f56c1_eq : wC Try.prog f56c1 Q σ h = (wL Try.prog none f56r1 0 (fun σ h => wC Try.prog f56c2 Q σ h) σ h) := rfl
theorem f56c0_eq : wC Try.prog f56c0 Q σ h = (wL Try.prog none f56r0 0 (fun σ h => wC Try.prog f56c1 Q σ h) σ h) := rfl
end
end Go.Proofs.Ytefghfgmkndikaa
namespace Go.AX
open Go
structure Out where
  by_ : Try4
  at_ : Stamp
  yes : Bool
  deriving Inhabited, DecidableEq
def eOut (o : Out) : List Value := [vi o.by_.node, vi o.by_.life, vi o.by_.seq, vi o.by_.attempt, vi o.at_.wall, vi o.at_.tie, .bool o.yes]
theorem eOut_len (o : Out) : (eOut o).length = 7 := rfl
theorem eOut_one (x : Out) : ∀ v ∈ eOut x, v.oneCell' = true := by
  intro v hv; simp only [eOut, List.mem_cons, List.not_mem_nil, or_false] at hv
  rcases hv with rfl | rfl | rfl | rfl | rfl | rfl | rfl <;> rfl
def noOut : Out := ⟨⟨0, 0, 0, 0⟩, ⟨0, 0⟩, false⟩
/-- A command, but for its lists. -/
structure CmS where
  kind : Int
  epoch : Int
  node : Int
  home : Int
  by_ : Try4
  at_ : Stamp
  wall : Int
  yes : Bool
structure Cmd where
  s : CmS
  spans : List Spn
  writes : List Wri
structure CmV where
  s : CmS
  sa : Option Addr
  sn : Nat
  sc : Nat
  wa : Option Addr
  wn : Nat
  wc : Nat
def eCm (c : CmV) : List Value := [vi c.s.kind, vi c.s.epoch, vi c.s.node, vi c.s.home, vi c.s.by_.node, vi c.s.by_.life, vi c.s.by_.seq, vi c.s.by_.attempt, vi c.s.at_.wall, vi c.s.at_.tie, vi c.s.wall, .bool c.s.yes, .slice c.sa c.sn c.sc, .slice c.wa c.wn c.wc]
theorem eCm_len (c : CmV) : (eCm c).length = 14 := rfl
/-- A reply, but for its list. -/
structure RpS where
  err : Int
  by_ : Try4
  home : Int
  at_ : Stamp
  wall : Int
  yes : Bool
def okS : RpS := ⟨0, ⟨0, 0, 0, 0⟩, 0, ⟨0, 0⟩, 0, false⟩
structure Rep where
  s : RpS
  pairs : List Pai
structure RpV where
  s : RpS
  pa : Option Addr
  pn : Nat
  pc : Nat
def eRp (r : RpV) : List Value := [vi r.s.err, .slice r.pa r.pn r.pc, vi r.s.by_.node, vi r.s.by_.life, vi r.s.by_.seq, vi r.s.by_.attempt, vi r.s.home, vi r.s.at_.wall, vi r.s.at_.tie, vi r.s.wall, .bool r.s.yes]
theorem eRp_len (r : RpV) : (eRp r).length = 11 := rfl
theorem eRp_one (x : RpV) : ∀ v ∈ eRp x, v.oneCell' = true := by
  intro v hv; simp only [eRp, List.mem_cons, List.not_mem_nil, or_false] at hv
  rcases hv with rfl | rfl | rfl | rfl | rfl | rfl | rfl | rfl | rfl | rfl | rfl <;> rfl
/-- A state, but for its lists. -/
structure PrS where
  epoch : Int
  holder : Int
  floor : Stamp
  closed : Int
  low : Int
structure Prt where
  s : PrS
  cells : List Cell
  records : List Out
  done : List Out
structure PrV where
  s : PrS
  ca : Option Addr
  cn : Nat
  cc : Nat
  ra : Option Addr
  rn : Nat
  rc : Nat
  da : Option Addr
  dn : Nat
  dc : Nat
def ePr (p : PrV) : List Value := [vi p.s.epoch, vi p.s.holder, vi p.s.floor.wall, vi p.s.floor.tie, vi p.s.closed, vi p.s.low, .slice p.ca p.cn p.cc, .slice p.ra p.rn p.rc, .slice p.da p.dn p.dc]
theorem ePr_len (p : PrV) : (ePr p).length = 9 := rfl
theorem ePr_one (x : PrV) : ∀ v ∈ ePr x, v.oneCell' = true := by
  intro v hv; simp only [ePr, List.mem_cons, List.not_mem_nil, or_false] at hv
  rcases hv with rfl | rfl | rfl | rfl | rfl | rfl | rfl | rfl | rfl <;> rfl
theorem eCm_one (x : CmV) : ∀ v ∈ eCm x, v.oneCell' = true := by
  intro v hv; simp only [eCm, List.mem_cons, List.not_mem_nil, or_false] at hv
  rcases hv with rfl | rfl | rfl | rfl | rfl | rfl | rfl | rfl | rfl | rfl | rfl | rfl | rfl | rfl <;> rfl
/-- The command c lies as v. -/
structure CmR (B : Nat → Prop) (h : Heap) (v : CmV) (c : Cmd) : Prop where
  s : v.s = c.s
  sn : v.sn = c.spans.length
  wn : v.wn = c.writes.length
  spans : SlF B h eSpn v.sa c.spans
  writes : SlF B h eWri v.wa c.writes
theorem CmR.ext {B : Nat → Prop} {h h' : Heap} {v : CmV} {c : Cmd} (r : CmR B h v c) (x : Ext h h') : CmR B h' v c := ⟨r.s, r.sn, r.wn, r.spans.ext x, r.writes.ext x⟩
theorem CmR.at_ {B : Nat → Prop} {h h' : Heap} {v : CmV} {c : Cmd} (r : CmR B h v c) (hB : ∀ b, B b → h'[b]? = h[b]?) : CmR B h' v c := ⟨r.s, r.sn, r.wn, r.spans.at_ hB, r.writes.at_ hB⟩
theorem CmR.imp {B B' : Nat → Prop} {h : Heap} {v : CmV} {c : Cmd} (r : CmR B h v c) (hB : ∀ b, B b → B' b) : CmR B' h v c := ⟨r.s, r.sn, r.wn, r.spans.imp hB, r.writes.imp hB⟩
/-- The state p lies as v. -/
structure PrR (B : Nat → Prop) (h : Heap) (v : PrV) (p : Prt) : Prop where
  s : v.s = p.s
  cn : v.cn = p.cells.length
  cc : v.cn ≤ v.cc
  rn : v.rn = p.records.length
  dn : v.dn = p.done.length
  cells : SlC B h v.ca p.cells
  records : SlF B h eOut v.ra p.records
  done : SlF B h eOut v.da p.done
theorem PrR.ext {B : Nat → Prop} {h h' : Heap} {v : PrV} {p : Prt} (r : PrR B h v p) (x : Ext h h') : PrR B h' v p := ⟨r.s, r.cn, r.cc, r.rn, r.dn, r.cells.ext x, r.records.ext x, r.done.ext x⟩
theorem PrR.at_ {B : Nat → Prop} {h h' : Heap} {v : PrV} {p : Prt} (r : PrR B h v p) (hB : ∀ b, B b → h'[b]? = h[b]?) : PrR B h' v p := ⟨r.s, r.cn, r.cc, r.rn, r.dn, r.cells.at_ hB, r.records.at_ hB, r.done.at_ hB⟩
theorem PrR.imp {B B' : Nat → Prop} {h : Heap} {v : PrV} {p : Prt} (r : PrR B h v p) (hB : ∀ b, B b → B' b) : PrR B' h v p := ⟨r.s, r.cn, r.cc, r.rn, r.dn, r.cells.imp hB, r.records.imp hB, r.done.imp hB⟩
theorem row_out {h : Heap} {b o : Nat} {v : Out} (r : Row h b o (eOut v)) : rd h b o 7 = some (eOut v) ∧ rd h b (o + 0) 4 = some (eTry v.by_) := ⟨r.rd0 7 (Nat.le_refl _), r.rd 0 4 (by rw [eOut_len]; omega)⟩
theorem row_spn {h : Heap} {b o : Nat} {v : Spn} (r : Row h b o (eSpn v)) : rd h b o 2 = some (eSpn v) := r.rd0 2 (Nat.le_refl _)
theorem row_wri {h : Heap} {b o : Nat} {v : Wri} (r : Row h b o (eWri v)) : rd h b o 3 = some (eWri v) ∧ cel h b (o + 0) = some (.string v.key) ∧ cel h b (o + 2) = some (.string v.data) := ⟨r.rd0 3 (Nat.le_refl _), r 0 (by rw [eWri_len]; omega), r 2 (by rw [eWri_len]; omega)⟩
end Go.AX
namespace Go.Proofs.Ytefghfgmkndikaa
open Go Go.AX
def mostEpoch : Int := 1099511627776
def mostWall : Int := 4611686018427387904
def maxI (x y : Int) : Int := if y > x then y else x
def minI (x y : Int) : Int := if y < x then y else x
/-- How an attempt ended. -/
def findO (l : List Out) (by_ : Try4) : Option Out := l.find? fun o => decide (o.by_ = by_)
def errR (e : Int) : Rep := ⟨{ okS with err := e }, []⟩
def lockedR (l : Lck) : Rep := ⟨{ okS with err := 20, by_ := l.by_, home := l.home, at_ := l.at_ }, []⟩
def maxS (a b : Stamp) : Stamp := if Stamp.lt a b then b else a
def cellsIn (p : Prt) (s : Spn) : List Cell := p.cells.filter fun c => inS s c.key
/-- The pairs of spans, so long as they are not too many. -/
def readL (p : Prt) (t : Stamp) : List Spn → List Pai → List Pai × Int
  | [], acc => (acc, 0)
  | s :: ss, acc =>
    let r := scanL t (512 - acc.length) (withinL p.cells s) []
    if r.2 = 0 then readL p t ss (acc ++ r.1) else (acc, r.2)
def readP (p : Prt) (c : Cmd) : Prt × Rep :=
  if c.s.at_.wall < p.s.low then (p, ⟨{ okS with err := 24, wall := p.s.low }, []⟩)
  else match c.spans.find? fun s => (blocksL c.s.at_ (cellsIn p s)).2 with
  | some s => (p, lockedR (blocksL c.s.at_ (cellsIn p s)).1)
  | none =>
    let r := readL p c.s.at_ c.spans []
    if r.2 = 0 then ({ p with s := { p.s with floor := maxS p.s.floor c.s.at_ } }, ⟨okS, r.1⟩) else (p, errR r.2)
def lkC (c : Cmd) : Lck := ⟨c.s.by_, c.s.home, c.s.at_, false, noB⟩
def prepP (p : Prt) (c : Cmd) : Prt × Rep :=
  match findO p.done c.s.by_ with
  | some o => (p, ⟨{ okS with err := 26, yes := o.yes }, []⟩)
  | none =>
    if mineL p.cells c.s.by_ then (p, ⟨okS, []⟩)
    else if c.s.at_.wall ≤ p.s.closed then (p, ⟨{ okS with err := 21, wall := p.s.closed }, []⟩)
    else if Stamp.lt c.s.at_ p.s.floor then (p, ⟨{ okS with err := 22, at_ := p.s.floor }, []⟩)
    else match c.writes.find? fun w => (heldK p.cells w.key).2 with
    | some w => (p, lockedR (heldK p.cells w.key).1)
    | none => ({ p with cells := c.writes.foldl (fun cs w => lockL cs w (lkC c)) p.cells }, ⟨okS, []⟩)
def outC (c : Cmd) : Out := ⟨c.s.by_, c.s.at_, c.s.yes⟩
def doesP (p : Prt) (c : Cmd) : Prt × Rep :=
  if c.s.kind = 2 then readP p c
  else if c.s.kind = 3 then prepP p c
  else if c.s.kind = 4 then match findO p.records c.s.by_ with
    | some o => (p, ⟨{ okS with yes := o.yes, at_ := o.at_ }, []⟩)
    | none => ({ p with records := p.records ++ [outC c] }, ⟨{ okS with yes := c.s.yes, at_ := c.s.at_ }, []⟩)
  else if c.s.kind = 5 then ({ p with cells := settleL p.cells c.s.by_ c.s.yes, done := match findO p.done c.s.by_ with | some _ => p.done | none => p.done ++ [outC c] }, ⟨okS, []⟩)
  else if c.s.kind = 6 then ({ p with s := { p.s with closed := maxI p.s.closed (minI c.s.wall mostWall) } }, ⟨{ okS with wall := maxI p.s.closed (minI c.s.wall mostWall) }, []⟩)
  else if c.s.kind = 7 then ({ p with s := { p.s with low := maxI p.s.low (minI c.s.wall p.s.closed) }, cells := trimL p.cells ⟨maxI p.s.low (minI c.s.wall p.s.closed), 0⟩ }, ⟨{ okS with wall := maxI p.s.low (minI c.s.wall p.s.closed) }, []⟩)
  else (p, errR 9)
def leaseP (p : Prt) (c : Cmd) : Prt × Rep :=
  if p.s.epoch ≥ mostEpoch ∨ c.s.epoch ≠ p.s.epoch + 1 ∨ c.s.epoch > mostEpoch then (p, errR 25)
  else ({ p with s := { p.s with epoch := c.s.epoch, holder := c.s.node } }, ⟨okS, []⟩)
/-- A command that is not carried out turns nothing. -/
def applyP (p : Prt) (c : Cmd) : Prt × Rep :=
  let r := if c.s.kind = 1 then leaseP p c else if p.s.epoch = 0 ∨ c.s.epoch ≠ p.s.epoch then (p, errR 25) else doesP p c
  if r.2.s.err = 0 then r else (p, r.2)
end Go.Proofs.Ytefghfgmkndikaa
namespace Go.AX
open Go
theorem OwnC.gr {lo : Nat} {h h' : Heap} {a : Option Addr} {n c : Nat} {cs : List Cell} (O : OwnC lo h a n c cs) {row : Option Nat} (g : Gr row h h') (hr : ∀ k, row = some k → k < lo) : OwnC lo h' a n c cs := by
  obtain ⟨vs, h1, h2, h3⟩ := O
  have hne : ∀ b, lo ≤ b → some b ≠ row := fun b hb e => by have := hr b e.symm; omega
  exact ⟨vs, h1.gr g (fun k hk e => hne k (h1.ob k hk).1 e.symm), h2, h3.imp fun _ _ r => r.to fun b hb => ⟨⟨hb.1, Nat.lt_of_lt_of_le hb.2.1 g.size, hb.2.2⟩, g.at_ b hb.2.1 (hne b hb.1)⟩⟩
/-- The state p lies as v: its cells in the heap hc of an earlier time, outcomes in rows of the call's own that came later. -/
structure PrO (l0 lo : Nat) (hc h : Heap) (v : PrV) (p : Prt) : Prop where
  s : v.s = p.s
  cn : v.cn = p.cells.length
  rn : v.rn = p.records.length
  dn : v.dn = p.done.length
  cells : OwnC lo hc v.ca v.cn v.cc p.cells
  le : l0 ≤ lo ∧ lo ≤ hc.size ∧ hc.size ≤ h.size
  kept : ∀ b, lo ≤ b → b < hc.size → h[b]? = hc[b]?
  records : Own l0 h 126 7 v.ra v.rn v.rc (p.records.flatMap eOut)
  done : Own l0 h 126 7 v.da v.dn v.dc (p.done.flatMap eOut)
  ra : ∀ k, ob v.ra = some k → k < lo ∨ hc.size ≤ k
  da : ∀ k, ob v.da = some k → k < lo ∨ hc.size ≤ k
  apart : ∀ k, ob v.ra = some k → ob v.da ≠ some k
theorem PrO.exts {l0 lo : Nat} {hc h h' : Heap} {v : PrV} {p : Prt} (O : PrO l0 lo hc h v p) (x : Ext h h') : PrO l0 lo hc h' v p := ⟨O.s, O.cn, O.rn, O.dn, O.cells, ⟨O.le.1, O.le.2.1, Nat.le_trans O.le.2.2 x.size⟩, fun b h1 h2 => (x.at_ b (Nat.lt_of_lt_of_le h2 O.le.2.2)).trans (O.kept b h1 h2), O.records.ext x, O.done.ext x, O.ra, O.da, O.apart⟩
theorem PrO.upd {l0 lo : Nat} {hc h h' : Heap} {v : PrV} {p : Prt} (O : PrO l0 lo hc h v p) {b : Nat} (u : Upd b h h') (hb : b < lo ∨ hc.size ≤ b) (h1 : ob v.ra ≠ some b) (h2 : ob v.da ≠ some b) : PrO l0 lo hc h' v p :=
  ⟨O.s, O.cn, O.rn, O.dn, O.cells, ⟨O.le.1, O.le.2.1, by rw [u.size]; exact O.le.2.2⟩, fun c h3 h4 => (u.ne c (by omega)).trans (O.kept c h3 h4), O.records.gr u.gr (fun k hk e => by cases e; exact h1 hk), O.done.gr u.gr (fun k hk e => by cases e; exact h2 hk), O.ra, O.da, O.apart⟩
/-- The state p lies as v, all of it in what came from lo on. -/
structure PrF (lo : Nat) (h : Heap) (v : PrV) (p : Prt) : Prop where
  s : v.s = p.s
  cn : v.cn = p.cells.length
  rn : v.rn = p.records.length
  dn : v.dn = p.done.length
  cells : OwnC lo h v.ca v.cn v.cc p.cells
  records : Own lo h 126 7 v.ra v.rn v.rc (p.records.flatMap eOut)
  done : Own lo h 126 7 v.da v.dn v.dc (p.done.flatMap eOut)
theorem PrF.ext {lo : Nat} {h h' : Heap} {v : PrV} {p : Prt} (O : PrF lo h v p) (x : Ext h h') : PrF lo h' v p := ⟨O.s, O.cn, O.rn, O.dn, O.cells.ext x, O.records.ext x, O.done.ext x⟩
theorem OwnC.kept {lo : Nat} {h h' : Heap} {a : Option Addr} {n c : Nat} {cs : List Cell} (O : OwnC lo h a n c cs) (hs : h.size ≤ h'.size) (hk : ∀ b, lo ≤ b → b < h.size → h'[b]? = h[b]?) : OwnC lo h' a n c cs := by
  obtain ⟨vs, h1, h2, h3⟩ := O
  refine ⟨vs, ?_, h2, h3.imp fun _ _ r => r.to fun b hb => ⟨⟨hb.1, Nat.lt_of_lt_of_le hb.2.1 hs, hb.2.2⟩, hk b hb.1 hb.2.1⟩⟩
  have hob := h1.ob
  refine ⟨h1.1, h1.2.imp id ?_⟩
  rintro ⟨b, cur, rfl, h4, h5, h6⟩
  exact ⟨b, cur, rfl, h4, by rw [hk b (hob b rfl).1 (hob b rfl).2]; exact h5, h6⟩
theorem PrO.fin {l0 lo : Nat} {hc h : Heap} {v : PrV} {p : Prt} (O : PrO l0 lo hc h v p) : PrF l0 h v p := ⟨O.s, O.cn, O.rn, O.dn, (O.cells.kept O.le.2.2 O.kept).mono O.le.1, O.records, O.done⟩
theorem PrF.prr {lo : Nat} {h : Heap} {v : PrV} {p : Prt} (O : PrF lo h v p) : PrR (fun b => lo ≤ b ∧ b < h.size) h v p :=
  ⟨O.s, O.cn, (by obtain ⟨_, h1, _⟩ := O.cells; exact h1.room.1), O.rn, O.dn, O.cells.slc, (SlF.of_own O.records O.rn).imp fun b hb => ⟨hb.1, hb.2.1⟩, (SlF.of_own O.done O.dn).imp fun b hb => ⟨hb.1, hb.2.1⟩⟩
theorem PrF.mono {lo lo' : Nat} {h : Heap} {v : PrV} {p : Prt} (O : PrF lo h v p) (hl : lo' ≤ lo) : PrF lo' h v p := ⟨O.s, O.cn, O.rn, O.dn, O.cells.mono hl, O.records.mono hl, O.done.mono hl⟩
end Go.AX
namespace Go.Proofs.Ytefghfgmkndikaa
open Go Go.AX
theorem slT114 : slT Try.prog 114 126 7 56 = true := by kernel_rfl
/-- Not too many. -/
structure SzP (n : Nat) (p : Prt) : Prop where
  cells : Gd n p.cells
  records : p.records.length ≤ n
  done : p.done.length ≤ n
theorem SzP.mono {n m : Nat} {p : Prt} (g : SzP n p) (h : n ≤ m) : SzP m p := ⟨g.cells.mono h, Nat.le_trans g.records h, Nat.le_trans g.done h⟩
theorem cloneO_ok {B : Nat → Prop} {a : Option Addr} {c : Nat} (vs : List Out) (h : Heap) (S : SlF B h eOut a vs) (hn : vs.length ≤ big) {R : Value → Heap → Prop}
    (hR : ∀ a' c' h', Own h.size h' 126 7 a' vs.length c' (vs.flatMap eOut) → Ext h h' → R (.slice a' vs.length c') h') : CallsH Try.prog 125 [.slice a vs.length c] h R := by
  unfold big at hn
  refine f125ok (by simp) ?_
  (try simp (config := { maxSteps := 1000000 }) (disch := first | exact Nat.le_of_ble_eq_true rfl | omega) only [AXS, AXB, J.dst, reduceIte, Nat.reduceEqDiff, Nat.reduceAdd, Nat.reduceMul, Nat.reduceLT, Nat.reduceLeDiff]); rw [f125c0_eq]; (try simp (config := { maxSteps := 1000000 }) (disch := first | exact Nat.le_of_ble_eq_true rfl | omega) only [AXS, AXB, J.dst, reduceIte, Nat.reduceEqDiff, Nat.reduceAdd, Nat.reduceMul, Nat.reduceLT, Nat.reduceLeDiff, f125r0]); rw [f125c1_eq]; (try simp (config := { maxSteps := 1000000 }) (disch := first | exact Nat.le_of_ble_eq_true rfl | omega) only [AXS, AXB, J.dst, reduceIte, Nat.reduceEqDiff, Nat.reduceAdd, Nat.reduceMul, Nat.reduceLT, Nat.reduceLeDiff, f125r1])
  cases a with
  | none =>
    have hv : vs = [] := by
      cases vs with
      | nil => rfl
      | cons v vs => obtain ⟨b, o, h1, _⟩ := S (by simp); cases h1
    subst hv
    rw [show eqN true false (.slice none ([] : List Out).length c) (.slice none 0 0) = some (.bool true) from rfl]
    (try simp (config := { maxSteps := 1000000 }) (disch := first | exact Nat.le_of_ble_eq_true rfl | omega) only [AXS, AXB, J.dst, reduceIte, Nat.reduceEqDiff, Nat.reduceAdd, Nat.reduceMul, Nat.reduceLT, Nat.reduceLeDiff]); rw [f125c2_eq]; (try simp (config := { maxSteps := 1000000 }) (disch := first | exact Nat.le_of_ble_eq_true rfl | omega) only [AXS, AXB, J.dst, reduceIte, Nat.reduceEqDiff, Nat.reduceAdd, Nat.reduceMul, Nat.reduceLT, Nat.reduceLeDiff]); rw [f125c3_eq]; (try simp (config := { maxSteps := 1000000 }) (disch := first | exact Nat.le_of_ble_eq_true rfl | omega) only [AXS, AXB, J.dst, reduceIte, Nat.reduceEqDiff, Nat.reduceAdd, Nat.reduceMul, Nat.reduceLT, Nat.reduceLeDiff, f125r2])
    exact hR none 0 h (Own.nil _ _ _ _) (Ext.refl h)
  | some ad =>
    rw [show eqN true false (.slice (some ad) vs.length c) (.slice none 0 0) = some (.bool false) from rfl]
    (try simp (config := { maxSteps := 1000000 }) (disch := first | exact Nat.le_of_ble_eq_true rfl | omega) only [AXS, AXB, J.dst, reduceIte, Nat.reduceEqDiff, Nat.reduceAdd, Nat.reduceMul, Nat.reduceLT, Nat.reduceLeDiff]); rw [f125c2_eq]; (try simp (config := { maxSteps := 1000000 }) (disch := first | exact Nat.le_of_ble_eq_true rfl | omega) only [AXS, AXB, J.dst, reduceIte, Nat.reduceEqDiff, Nat.reduceAdd, Nat.reduceMul, Nat.reduceLT, Nat.reduceLeDiff]); rw [f125c4_eq]; (try simp (config := { maxSteps := 1000000 }) (disch := first | exact Nat.le_of_ble_eq_true rfl | omega) only [AXS, AXB, J.dst, reduceIte, Nat.reduceEqDiff, Nat.reduceAdd, Nat.reduceMul, Nat.reduceLT, Nat.reduceLeDiff, f125r3])
    refine wL_bslN rfl ?_; intro b1 h1 e1 s1 hb1 B1
    try simp (config := { maxSteps := 1000000 }) (disch := first | exact Nat.le_of_ble_eq_true rfl | omega) only [AXS, AXB, J.dst, reduceIte, Nat.reduceEqDiff, Nat.reduceAdd, Nat.reduceMul, Nat.reduceLT, Nat.reduceLeDiff]
    rw [wL_raw]
    have O1 : Own h.size h1 126 7 (some ⟨b1, 0, none⟩) 0 0 [] := Own.of_blk (by omega) B1 (by simp) (Nat.le_refl _) (Nat.zero_le _) (by simp)
    have hfl := flatMap_length eOut_len vs
    refine raw_append slT114 rfl rfl rfl O1 hfl ?_ (one_flatMap eOut_one vs) (by unfold maxLen; omega) (by omega) e1.size ?_
    · by_cases hv : vs = []
      · left; rw [hv]; rfl
      · obtain ⟨b, o, h1', _, h3⟩ := (S.ext e1) hv
        cases h1'
        exact .inr ⟨b, o, rfl, h3⟩
    · intro a' c' h' O' G A
      refine ⟨trivial, ?_⟩
      try simp (config := { maxSteps := 1000000 }) (disch := first | exact Nat.le_of_ble_eq_true rfl | omega) only [AXS, AXB, J.dst, reduceIte, Nat.reduceEqDiff, Nat.reduceAdd, Nat.reduceMul, Nat.reduceLT, Nat.reduceLeDiff]
      simp only [Nat.zero_add, List.nil_append] at O' ⊢
      exact hR _ _ _ O' (G.ext e1 (fun k hk => by cases hk; show h.size ≤ b1; omega))
theorem ownP_ok {B : Nat → Prop} (x : CV) (c : Cell) (h : Heap) (S : CR B h x c) (hn : c.vers.length ≤ big) {R : Value → Heap → Prop}
    (hR : ∀ x' h', OC h.size h' x' c → Ext h h' → R (.agg (eCV x').toArray) h') : CallsH Try.prog 124 [.agg (eCV x).toArray] h R := by
  refine f124ok (by simp) ?_
  (try simp (config := { maxSteps := 1000000 }) (disch := first | exact Nat.le_of_ble_eq_true rfl | omega) only [AXS, AXB, J.dst, reduceIte, Nat.reduceEqDiff, Nat.reduceAdd, Nat.reduceMul, Nat.reduceLT, Nat.reduceLeDiff]); rw [f124c0_eq]; (try simp (config := { maxSteps := 1000000 }) (disch := first | exact Nat.le_of_ble_eq_true rfl | omega) only [AXS, AXB, J.dst, reduceIte, Nat.reduceEqDiff, Nat.reduceAdd, Nat.reduceMul, Nat.reduceLT, Nat.reduceLeDiff, f124r0])
  refine wL_boxN rfl ?_; rintro b1 h1 e1 s1 hb1 (B1 : Blk _ _ _ (eCV x))
  refine wL_newN ?_; rintro b2 h2 e2 s2 hb2 B2
  have B1 := B1.ext e2
  (try simp (config := { maxSteps := 1000000 }) (disch := first | exact Nat.le_of_ble_eq_true rfl | omega) only [AXS, AXB, J.dst, reduceIte, Nat.reduceEqDiff, Nat.reduceAdd, Nat.reduceMul, Nat.reduceLT, Nat.reduceLeDiff]); rw [f124c1_eq]; (try simp (config := { maxSteps := 1000000 }) (disch := first | exact Nat.le_of_ble_eq_true rfl | omega) only [AXS, AXB, J.dst, reduceIte, Nat.reduceEqDiff, Nat.reduceAdd, Nat.reduceMul, Nat.reduceLT, Nat.reduceLeDiff, f124r1, B1.cel, eCV, S.vn])
  refine clone_ok c.vers _ (S.vers.ext (e1.trans e2)) hn ?_
  intro a' c' h3 O3 e3
  refine ⟨trivial, ?_⟩
  try simp (config := { maxSteps := 1000000 }) (disch := first | exact Nat.le_of_ble_eq_true rfl | omega) only [AXS, AXB, J.dst, reduceIte, Nat.reduceEqDiff, Nat.reduceAdd, Nat.reduceMul, Nat.reduceLT, Nat.reduceLeDiff]
  replace B1 := B1.ext e3
  replace B2 := B2.ext e3
  have hl3 := O3.ob
  have e12 := e1.trans e2
  refine wL_stN rfl rfl rfl B1 (by rw [eCV_len]; exact Nat.le_of_ble_eq_true rfl) (fun v hv => by simp only [cells_slice, List.mem_toArray, List.mem_cons, List.not_mem_nil, or_false] at hv; subst hv; rfl) ?_
  rintro h4 u4 (B4 : Blk _ _ _ (eCV { x with va := a', vn := c.vers.length, vc := c' }))
  have B2 := u4.blk B2 (by omega)
  (try simp (config := { maxSteps := 1000000 }) (disch := first | exact Nat.le_of_ble_eq_true rfl | omega) only [AXS, AXB, J.dst, reduceIte, Nat.reduceEqDiff, Nat.reduceAdd, Nat.reduceMul, Nat.reduceLT, Nat.reduceLeDiff]); rw [f124c2_eq]; (try simp (config := { maxSteps := 1000000 }) (disch := first | exact Nat.le_of_ble_eq_true rfl | omega) only [AXS, AXB, J.dst, reduceIte, Nat.reduceEqDiff, Nat.reduceAdd, Nat.reduceMul, Nat.reduceLT, Nat.reduceLeDiff, f124r2, B4.rd, eCV])
  refine wL_stN rfl rfl rfl B2 (by decide) (eCV_one { x with va := a', vn := c.vers.length, vc := c' }) ?_
  rintro h5 u5 (B5 : Blk _ _ _ (eCV { x with va := a', vn := c.vers.length, vc := c' }))
  simp (config := { maxSteps := 1000000 }) (disch := first | exact Nat.le_of_ble_eq_true rfl | omega) only [AXS, AXB, J.dst, reduceIte, Nat.reduceEqDiff, Nat.reduceAdd, Nat.reduceMul, Nat.reduceLT, Nat.reduceLeDiff, B5.rd, eCV]
  have hne : ∀ k, ob a' = some k → k ≠ b1 ∧ k ≠ b2 := fun k hk => by have := hl3 k hk; omega
  have e34 : Ext h h3 := e12.trans e3
  refine hR { x with va := a', vn := c.vers.length, vc := c' } h5 ⟨S.key, S.locked, S.lock, rfl, ?_⟩ (u5.ext (u4.ext e34 (by omega)) (by omega))
  exact ((O3.mono e12.size).gr u4.gr (fun k hk => by have := (hne k hk).1; intro e; cases e; exact this rfl)).gr u5.gr (fun k hk => by have := (hne k hk).2; intro e; cases e; exact this rfl)
theorem each_ok {B : Nat → Prop} {a : Option Addr} {c : Nat} (cs : List Cell) (h : Heap) (S : SlC B h a cs) (hn : cs.length ≤ big) (F : ∀ c ∈ cs, c.vers.length ≤ big) {R : Value → Heap → Prop}
    (hR : ∀ a' c' h', OwnC h.size h' a' cs.length c' cs → Ext h h' → R (.slice a' cs.length c') h') : CallsH Try.prog 123 [.slice a cs.length c, .func (.func 124) #[] #[]] h R := by
  have hbig : big = 1000000 := rfl
  refine f123ok (by simp) ?_
  (try simp (config := { maxSteps := 1000000 }) (disch := first | exact Nat.le_of_ble_eq_true rfl | omega) only [AXS, AXB, J.dst, reduceIte, Nat.reduceEqDiff, Nat.reduceAdd, Nat.reduceMul, Nat.reduceLT, Nat.reduceLeDiff]); rw [f123c0_eq]; (try simp (config := { maxSteps := 1000000 }) (disch := first | exact Nat.le_of_ble_eq_true rfl | omega) only [AXS, AXB, J.dst, reduceIte, Nat.reduceEqDiff, Nat.reduceAdd, Nat.reduceMul, Nat.reduceLT, Nat.reduceLeDiff, f123r0]); rw [f123c1_eq]; (try simp (config := { maxSteps := 1000000 }) (disch := first | exact Nat.le_of_ble_eq_true rfl | omega) only [AXS, AXB, J.dst, reduceIte, Nat.reduceEqDiff, Nat.reduceAdd, Nat.reduceMul, Nat.reduceLT, Nat.reduceLeDiff, f123r1]); rw [f123c2_eq]; (try simp (config := { maxSteps := 1000000 }) (disch := first | exact Nat.le_of_ble_eq_true rfl | omega) only [AXS, AXB, J.dst, reduceIte, Nat.reduceEqDiff, Nat.reduceAdd, Nat.reduceMul, Nat.reduceLT, Nat.reduceLeDiff, f123r2])
  rw [f123c3_eq]
  refine loop_in (fun n σ h' => Ext h h' ∧ ∃ (k c' : Nat) (a' : Option Addr), k + n = cs.length ∧ OwnC h.size h' a' k c' (cs.take k) ∧ σ = [(1, .func (.func 124) #[] #[]), (5, .slice a' k c'), (8, .slice a cs.length c), (9, vi cs.length), (10, vi k)])
    cs.length ⟨Ext.refl _, 0, 0, none, by omega, OwnC.nil _ _, rfl⟩ ?_
  rintro n σ h' ⟨e1, k, c', a', hk, O, rfl⟩ Q' hnx hex hrt _
  (try simp (config := { maxSteps := 1000000 }) (disch := first | exact Nat.le_of_ble_eq_true rfl | omega) only [AXS, AXB, J.dst, reduceIte, Nat.reduceEqDiff, Nat.reduceAdd, Nat.reduceMul, Nat.reduceLT, Nat.reduceLeDiff]); rw [f123c4_eq]; (try simp (config := { maxSteps := 1000000 }) (disch := first | exact Nat.le_of_ble_eq_true rfl | omega) only [AXS, AXB, J.dst, reduceIte, Nat.reduceEqDiff, Nat.reduceAdd, Nat.reduceMul, Nat.reduceLT, Nat.reduceLeDiff, f123r3]); rw [f123c5_eq]; (try simp (config := { maxSteps := 1000000 }) (disch := first | exact Nat.le_of_ble_eq_true rfl | omega) only [AXS, AXB, J.dst, reduceIte, Nat.reduceEqDiff, Nat.reduceAdd, Nat.reduceMul, Nat.reduceLT, Nat.reduceLeDiff])
  refine ⟨fun h2 => ?_, fun h2 => ?_⟩
  · have hkl : k < cs.length := by have := of_decide_eq_true h2; omega
    obtain ⟨x, hx⟩ := get_ex hkl
    obtain ⟨b, o, v, rfl, _, hrow, hcr⟩ := (S.ext e1).elem hx
    (try simp (config := { maxSteps := 1000000 }) (disch := first | exact Nat.le_of_ble_eq_true rfl | omega) only [AXS, AXB, J.dst, reduceIte, Nat.reduceEqDiff, Nat.reduceAdd, Nat.reduceMul, Nat.reduceLT, Nat.reduceLeDiff]); rw [f123c6_eq]; (try simp (config := { maxSteps := 1000000 }) (disch := first | exact Nat.le_of_ble_eq_true rfl | omega) only [AXS, AXB, J.dst, reduceIte, Nat.reduceEqDiff, Nat.reduceAdd, Nat.reduceMul, Nat.reduceLT, Nat.reduceLeDiff, row_cv hrow]); rw [f123c7_eq]; (try simp (config := { maxSteps := 1000000 }) (disch := first | exact Nat.le_of_ble_eq_true rfl | omega) only [AXS, AXB, J.dst, reduceIte, Nat.reduceEqDiff, Nat.reduceAdd, Nat.reduceMul, Nat.reduceLT, Nat.reduceLeDiff, f123r4, row_cv hrow])
    refine ⟨by omega, by omega, ?_⟩
    refine wL_newN ?_; rintro b4 h4 e4 s4 hb4 B4
    try simp (config := { maxSteps := 1000000 }) (disch := first | exact Nat.le_of_ble_eq_true rfl | omega) only [AXS, AXB, J.dst, reduceIte, Nat.reduceEqDiff, Nat.reduceAdd, Nat.reduceMul, Nat.reduceLT, Nat.reduceLeDiff]
    refine wL_stN rfl rfl rfl B4 (by decide) (eCV_one v) ?_; rintro h5 u5 (B5 : Blk _ _ _ (eCV v))
    have e5 := u5.ext e4 (by omega)
    (try simp (config := { maxSteps := 1000000 }) (disch := first | exact Nat.le_of_ble_eq_true rfl | omega) only [AXS, AXB, J.dst, reduceIte, Nat.reduceEqDiff, Nat.reduceAdd, Nat.reduceMul, Nat.reduceLT, Nat.reduceLeDiff]); rw [f123c8_eq]; (try simp (config := { maxSteps := 1000000 }) (disch := first | exact Nat.le_of_ble_eq_true rfl | omega) only [AXS, AXB, J.dst, reduceIte, Nat.reduceEqDiff, Nat.reduceAdd, Nat.reduceMul, Nat.reduceLT, Nat.reduceLeDiff, f123r5, B5.rd, eCV])
    refine wL_cav _ _ _ _ _ _ _ rfl rfl f124cal ?_
    refine ownP_ok v x _ (hcr.ext e5) (F x (List.mem_of_getElem? hx)) ?_
    intro x' h6 O6 e6
    refine ⟨trivial, ?_⟩
    try simp (config := { maxSteps := 1000000 }) (disch := first | exact Nat.le_of_ble_eq_true rfl | omega) only [AXS, AXB, J.dst, reduceIte, Nat.reduceEqDiff, Nat.reduceAdd, Nat.reduceMul, Nat.reduceLT, Nat.reduceLeDiff]
    refine wL_bslN rfl ?_; rintro b7 h7 e7 s7 hb7 (B7 : Blk _ _ _ (eCV x'))
    have e57 := e6.trans e7
    have ea := e5.trans e57
    have O7 := O.ext ea
    have hO := O.row
    try simp (config := { maxSteps := 1000000 }) (disch := first | exact Nat.le_of_ble_eq_true rfl | omega) only [AXS, AXB, J.dst, reduceIte, Nat.reduceEqDiff, Nat.reduceAdd, Nat.reduceMul, Nat.reduceLT, Nat.reduceLeDiff]
    rw [wL_raw]
    refine raw_push rfl rfl rfl O7 B7 ((O6.ext e7).cr.to fun b hb => ⟨⟨?_, hb.2.1, ?_⟩, rfl⟩) (by omega) (Nat.le_trans e1.size ea.size) ?_
    · have := e1.size; have := e5.size; omega
    · intro e; have := hO b e.symm; have := e5.size; omega
    intro a8 c8 h8 O8 G8 A8
    refine ⟨trivial, ?_⟩
    (try simp (config := { maxSteps := 1000000 }) (disch := first | exact Nat.le_of_ble_eq_true rfl | omega) only [AXS, AXB, J.dst, reduceIte, Nat.reduceEqDiff, Nat.reduceAdd, Nat.reduceMul, Nat.reduceLT, Nat.reduceLeDiff]); rw [f123c9_eq]; (try simp (config := { maxSteps := 1000000 }) (disch := first | exact Nat.le_of_ble_eq_true rfl | omega) only [AXS, AXB, J.dst, reduceIte, Nat.reduceEqDiff, Nat.reduceAdd, Nat.reduceMul, Nat.reduceLT, Nat.reduceLeDiff, f123r6])
    rw [i64_wrap (by omega) (by omega)]
    refine hnx (n - 1) _ _ (by omega) ⟨G8.ext (e1.trans ea) (fun j hj => (hO j hj).1), k + 1, c8, a8, by omega, ?_, rfl⟩
    rw [List.take_add_one, hx]
    exact O8
  · have hkl : k = cs.length := by have := of_decide_eq_false h2; omega
    subst hkl
    refine hex _ _ ?_
    (try simp (config := { maxSteps := 1000000 }) (disch := first | exact Nat.le_of_ble_eq_true rfl | omega) only [AXS, AXB, J.dst, reduceIte, Nat.reduceEqDiff, Nat.reduceAdd, Nat.reduceMul, Nat.reduceLT, Nat.reduceLeDiff]); rw [f123c10_eq]; (try simp (config := { maxSteps := 1000000 }) (disch := first | exact Nat.le_of_ble_eq_true rfl | omega) only [AXS, AXB, J.dst, reduceIte, Nat.reduceEqDiff, Nat.reduceAdd, Nat.reduceMul, Nat.reduceLT, Nat.reduceLeDiff, f123r7])
    rw [List.take_length] at O
    exact hR _ _ _ O e1
theorem found1_ok (x : Out) (by_ : Try4) (b : Nat) (h : Heap) (B : Blk h b 37 (eTry by_)) {R : Value → Heap → Prop} (hR : ∀ h', Ext h h' → R (.bool (decide (x.by_ = by_))) h') :
    CallsH Try.prog 105 [.agg (eOut x).toArray, ptr b 0] h R := by
  refine f105ok (by simp) ?_
  (try simp (config := { maxSteps := 1000000 }) (disch := first | exact Nat.le_of_ble_eq_true rfl | omega) only [AXS, AXB, J.dst, reduceIte, Nat.reduceEqDiff, Nat.reduceAdd, Nat.reduceMul, Nat.reduceLT, Nat.reduceLeDiff]); rw [f105c0_eq]; (try simp (config := { maxSteps := 1000000 }) (disch := first | exact Nat.le_of_ble_eq_true rfl | omega) only [AXS, AXB, J.dst, reduceIte, Nat.reduceEqDiff, Nat.reduceAdd, Nat.reduceMul, Nat.reduceLT, Nat.reduceLeDiff, f105r0])
  refine wL_boxN rfl ?_; rintro b1 h1 e1 s1 hb1 (B1 : Blk _ _ _ (eOut x))
  (try simp (config := { maxSteps := 1000000 }) (disch := first | exact Nat.le_of_ble_eq_true rfl | omega) only [AXS, AXB, J.dst, reduceIte, Nat.reduceEqDiff, Nat.reduceAdd, Nat.reduceMul, Nat.reduceLT, Nat.reduceLeDiff]); rw [f105c1_eq]; (try simp (config := { maxSteps := 1000000 }) (disch := first | exact Nat.le_of_ble_eq_true rfl | omega) only [AXS, AXB, J.dst, reduceIte, Nat.reduceEqDiff, Nat.reduceAdd, Nat.reduceMul, Nat.reduceLT, Nat.reduceLeDiff, f105r1, B1.cel, B1.rd, (B.ext e1).rd, eOut, eTry, eqA_try])
  exact hR _ e1
theorem findIdx_none {α : Type} {f : α → Bool} {l : List α} (h : ∀ j x, j < l.length → l[j]? = some x → f x = false) : l.find? f = none := by
  rw [List.find?_eq_none]
  intro x hx
  obtain ⟨j, hj, rfl⟩ := List.mem_iff_getElem.1 hx
  simpa using h j _ hj (List.getElem?_eq_getElem hj)
theorem findIdx_some {α : Type} {f : α → Bool} : ∀ {l : List α} {k : Nat} {x : α}, l[k]? = some x → f x = true → (∀ j y, j < k → l[j]? = some y → f y = false) → l.find? f = some x
  | [], k, x, h, _, _ => by simp at h
  | a :: l, 0, x, h, hx, _ => by simp at h; subst h; simp [hx]
  | a :: l, k + 1, x, h, hx, hj => by
    have h0 := hj 0 a (by omega) rfl
    rw [List.find?_cons_of_neg (by simp [h0])]
    exact findIdx_some (by simpa using h) hx fun j y hlt hy => hj (j + 1) y (by omega) (by simpa using hy)
theorem indexO_ok {B : Nat → Prop} {a : Option Addr} {c : Nat} (cs : List Out) (by_ : Try4) (b : Nat) (h : Heap) (S : SlF B h eOut a cs) (hn : cs.length ≤ maxLen) (B0 : Blk h b 37 (eTry by_)) {R : Value → Heap → Prop}
    (hR : ∀ i : Int, (i < 0 ∧ findO cs by_ = none ∨ ∃ (k : Nat) (x : Out), i = k ∧ cs[k]? = some x ∧ findO cs by_ = some x) → ∀ h', Ext h h' → R (vi i) h') : CallsH Try.prog 104 [.slice a cs.length c, .func (.func 105) #[] #[ptr b 0]] h R := by
  refine f104ok (by simp) ?_
  (try simp (config := { maxSteps := 1000000 }) (disch := first | exact Nat.le_of_ble_eq_true rfl | omega) only [AXS, AXB, J.dst, reduceIte, Nat.reduceEqDiff, Nat.reduceAdd, Nat.reduceMul, Nat.reduceLT, Nat.reduceLeDiff]); rw [f104c0_eq]; (try simp (config := { maxSteps := 1000000 }) (disch := first | exact Nat.le_of_ble_eq_true rfl | omega) only [AXS, AXB, J.dst, reduceIte, Nat.reduceEqDiff, Nat.reduceAdd, Nat.reduceMul, Nat.reduceLT, Nat.reduceLeDiff, f104r0]); rw [f104c1_eq]; (try simp (config := { maxSteps := 1000000 }) (disch := first | exact Nat.le_of_ble_eq_true rfl | omega) only [AXS, AXB, J.dst, reduceIte, Nat.reduceEqDiff, Nat.reduceAdd, Nat.reduceMul, Nat.reduceLT, Nat.reduceLeDiff, f104r1])
  unfold maxLen at hn
  rw [f104c2_eq]
  refine loop_in (fun n σ h' => Ext h h' ∧ ∃ k : Nat, k + n = cs.length ∧ σ = [(0, .slice a cs.length c), (1, .func (.func 105) #[] #[ptr b 0]), (7, vi cs.length), (8, vi k)] ∧ ∀ j x, j < k → cs[j]? = some x → decide (x.by_ = by_) = false)
    cs.length ⟨Ext.refl _, 0, by omega, rfl, by intros; omega⟩ ?_
  rintro n σ h' ⟨e1, k, hk, rfl, hnk⟩ Q' hnx hex hrt _
  (try simp (config := { maxSteps := 1000000 }) (disch := first | exact Nat.le_of_ble_eq_true rfl | omega) only [AXS, AXB, J.dst, reduceIte, Nat.reduceEqDiff, Nat.reduceAdd, Nat.reduceMul, Nat.reduceLT, Nat.reduceLeDiff]); rw [f104c3_eq]; (try simp (config := { maxSteps := 1000000 }) (disch := first | exact Nat.le_of_ble_eq_true rfl | omega) only [AXS, AXB, J.dst, reduceIte, Nat.reduceEqDiff, Nat.reduceAdd, Nat.reduceMul, Nat.reduceLT, Nat.reduceLeDiff, f104r2]); rw [f104c4_eq]; (try simp (config := { maxSteps := 1000000 }) (disch := first | exact Nat.le_of_ble_eq_true rfl | omega) only [AXS, AXB, J.dst, reduceIte, Nat.reduceEqDiff, Nat.reduceAdd, Nat.reduceMul, Nat.reduceLT, Nat.reduceLeDiff])
  refine ⟨fun h2 => ?_, fun h2 => ?_⟩
  · have hkl : k < cs.length := by have := of_decide_eq_true h2; omega
    obtain ⟨x, hx⟩ := get_ex hkl
    obtain ⟨b', o, rfl, _, hrow⟩ := (S.ext e1).elem eOut_len hx
    rw [f104c5_eq]
    (try simp (config := { maxSteps := 1000000 }) (disch := first | exact Nat.le_of_ble_eq_true rfl | omega) only [AXS, AXB, J.dst, reduceIte, Nat.reduceEqDiff, Nat.reduceAdd, Nat.reduceMul, Nat.reduceLT, Nat.reduceLeDiff]); rw [f104c6_eq]; (try simp (config := { maxSteps := 1000000 }) (disch := first | exact Nat.le_of_ble_eq_true rfl | omega) only [AXS, AXB, J.dst, reduceIte, Nat.reduceEqDiff, Nat.reduceAdd, Nat.reduceMul, Nat.reduceLT, Nat.reduceLeDiff, f104r3, row_out hrow]); rw [f104c7_eq]; (try simp (config := { maxSteps := 1000000 }) (disch := first | exact Nat.le_of_ble_eq_true rfl | omega) only [AXS, AXB, J.dst, reduceIte, Nat.reduceEqDiff, Nat.reduceAdd, Nat.reduceMul, Nat.reduceLT, Nat.reduceLeDiff, f104r4, row_out hrow])
    refine ⟨by omega, by omega, ?_⟩
    refine wL_cav _ _ _ _ _ _ _ rfl rfl f105cal ?_
    refine found1_ok x by_ b _ (B0.ext e1) ?_
    intro h3 e3
    refine ⟨trivial, ?_⟩
    try simp (config := { maxSteps := 1000000 }) (disch := first | exact Nat.le_of_ble_eq_true rfl | omega) only [AXS, AXB, J.dst, reduceIte, Nat.reduceEqDiff, Nat.reduceAdd, Nat.reduceMul, Nat.reduceLT, Nat.reduceLeDiff]
    (try simp (config := { maxSteps := 1000000 }) (disch := first | exact Nat.le_of_ble_eq_true rfl | omega) only [AXS, AXB, J.dst, reduceIte, Nat.reduceEqDiff, Nat.reduceAdd, Nat.reduceMul, Nat.reduceLT, Nat.reduceLeDiff]); rw [f104c8_eq]; (try simp (config := { maxSteps := 1000000 }) (disch := first | exact Nat.le_of_ble_eq_true rfl | omega) only [AXS, AXB, J.dst, reduceIte, Nat.reduceEqDiff, Nat.reduceAdd, Nat.reduceMul, Nat.reduceLT, Nat.reduceLeDiff])
    refine ⟨fun h4 => ?_, fun h4 => ?_⟩
    · (try simp (config := { maxSteps := 1000000 }) (disch := first | exact Nat.le_of_ble_eq_true rfl | omega) only [AXS, AXB, J.dst, reduceIte, Nat.reduceEqDiff, Nat.reduceAdd, Nat.reduceMul, Nat.reduceLT, Nat.reduceLeDiff]); rw [f104c9_eq]; (try simp (config := { maxSteps := 1000000 }) (disch := first | exact Nat.le_of_ble_eq_true rfl | omega) only [AXS, AXB, J.dst, reduceIte, Nat.reduceEqDiff, Nat.reduceAdd, Nat.reduceMul, Nat.reduceLT, Nat.reduceLeDiff, f104r5])
      refine hrt _ _ ?_
      try simp (config := { maxSteps := 1000000 }) (disch := first | exact Nat.le_of_ble_eq_true rfl | omega) only [AXS, AXB, J.dst, reduceIte, Nat.reduceEqDiff, Nat.reduceAdd, Nat.reduceMul, Nat.reduceLT, Nat.reduceLeDiff]
      exact hR k (.inr ⟨k, x, rfl, hx, findIdx_some hx h4 hnk⟩) _ (e1.trans e3)
    · (try simp (config := { maxSteps := 1000000 }) (disch := first | exact Nat.le_of_ble_eq_true rfl | omega) only [AXS, AXB, J.dst, reduceIte, Nat.reduceEqDiff, Nat.reduceAdd, Nat.reduceMul, Nat.reduceLT, Nat.reduceLeDiff]); rw [f104c10_eq]; (try simp (config := { maxSteps := 1000000 }) (disch := first | exact Nat.le_of_ble_eq_true rfl | omega) only [AXS, AXB, J.dst, reduceIte, Nat.reduceEqDiff, Nat.reduceAdd, Nat.reduceMul, Nat.reduceLT, Nat.reduceLeDiff, f104r6])
      rw [i64_wrap (by omega) (by omega)]
      refine hnx (n - 1) _ _ (by omega) ⟨e1.trans e3, k + 1, by omega, rfl, ?_⟩
      intro j c' hj hc'
      rcases Nat.lt_or_ge j k with hlt | hge
      · exact hnk j c' hlt hc'
      · have : j = k := by omega
        subst this
        rw [hx] at hc'; cases hc'; exact h4
  · have hkl : k = cs.length := by have := of_decide_eq_false h2; omega
    refine hex _ _ ?_
    (try simp (config := { maxSteps := 1000000 }) (disch := first | exact Nat.le_of_ble_eq_true rfl | omega) only [AXS, AXB, J.dst, reduceIte, Nat.reduceEqDiff, Nat.reduceAdd, Nat.reduceMul, Nat.reduceLT, Nat.reduceLeDiff]); rw [f104c11_eq]; (try simp (config := { maxSteps := 1000000 }) (disch := first | exact Nat.le_of_ble_eq_true rfl | omega) only [AXS, AXB, J.dst, reduceIte, Nat.reduceEqDiff, Nat.reduceAdd, Nat.reduceMul, Nat.reduceLT, Nat.reduceLeDiff, f104r7])
    exact hR (-1) (.inl ⟨by omega, findIdx_none fun j x hj hx => hnk j x (by omega) hx⟩) _ e1
/-- How an attempt ended, and whether. -/
theorem findO_ok {B : Nat → Prop} {a : Option Addr} {c : Nat} (cs : List Out) (by_ : Try4) (h : Heap) (S : SlF B h eOut a cs) (hn : cs.length ≤ maxLen) {R : Value → Heap → Prop}
    (hR : ∀ h', Ext h h' → R (.tuple #[.agg (eOut ((findO cs by_).getD noOut)).toArray, .bool (findO cs by_).isSome]) h') : CallsH Try.prog 63 [.slice a cs.length c, .agg (eTry by_).toArray] h R := by
  refine f63ok (by simp) ?_
  (try simp (config := { maxSteps := 1000000 }) (disch := first | exact Nat.le_of_ble_eq_true rfl | omega) only [AXS, AXB, J.dst, reduceIte, Nat.reduceEqDiff, Nat.reduceAdd, Nat.reduceMul, Nat.reduceLT, Nat.reduceLeDiff]); rw [f63c0_eq]; (try simp (config := { maxSteps := 1000000 }) (disch := first | exact Nat.le_of_ble_eq_true rfl | omega) only [AXS, AXB, J.dst, reduceIte, Nat.reduceEqDiff, Nat.reduceAdd, Nat.reduceMul, Nat.reduceLT, Nat.reduceLeDiff, f63r0])
  refine wL_boxN rfl ?_; rintro b1 h1 e1 s1 hb1 (B1 : Blk _ _ _ (eTry by_))
  refine wL_newN ?_; rintro b2 h2 e2 s2 hb2 B2
  replace B1 := B1.ext e2
  have e02 := e1.trans e2
  (try simp (config := { maxSteps := 1000000 }) (disch := first | exact Nat.le_of_ble_eq_true rfl | omega) only [AXS, AXB, J.dst, reduceIte, Nat.reduceEqDiff, Nat.reduceAdd, Nat.reduceMul, Nat.reduceLT, Nat.reduceLeDiff]); rw [f63c1_eq]; (try simp (config := { maxSteps := 1000000 }) (disch := first | exact Nat.le_of_ble_eq_true rfl | omega) only [AXS, AXB, J.dst, reduceIte, Nat.reduceEqDiff, Nat.reduceAdd, Nat.reduceMul, Nat.reduceLT, Nat.reduceLeDiff, f63r1])
  refine indexO_ok cs by_ b1 _ (S.ext e02) hn B1 ?_
  intro i hi h3 e3
  refine ⟨trivial, ?_⟩
  replace B2 := B2.ext e3
  have e03 := e02.trans e3
  (try simp (config := { maxSteps := 1000000 }) (disch := first | exact Nat.le_of_ble_eq_true rfl | omega) only [AXS, AXB, J.dst, reduceIte, Nat.reduceEqDiff, Nat.reduceAdd, Nat.reduceMul, Nat.reduceLT, Nat.reduceLeDiff]); rw [f63c2_eq]; (try simp (config := { maxSteps := 1000000 }) (disch := first | exact Nat.le_of_ble_eq_true rfl | omega) only [AXS, AXB, J.dst, reduceIte, Nat.reduceEqDiff, Nat.reduceAdd, Nat.reduceMul, Nat.reduceLT, Nat.reduceLeDiff, f63r2]); rw [f63c3_eq]; (try simp (config := { maxSteps := 1000000 }) (disch := first | exact Nat.le_of_ble_eq_true rfl | omega) only [AXS, AXB, J.dst, reduceIte, Nat.reduceEqDiff, Nat.reduceAdd, Nat.reduceMul, Nat.reduceLT, Nat.reduceLeDiff])
  refine ⟨fun hh => ?_, fun hh => ?_⟩
  · have hlt : i < 0 := of_decide_eq_true hh
    rcases hi with ⟨_, hf⟩ | ⟨k, x, hk, _, _⟩
    · (try simp (config := { maxSteps := 1000000 }) (disch := first | exact Nat.le_of_ble_eq_true rfl | omega) only [AXS, AXB, J.dst, reduceIte, Nat.reduceEqDiff, Nat.reduceAdd, Nat.reduceMul, Nat.reduceLT, Nat.reduceLeDiff]); rw [f63c4_eq]; (try simp (config := { maxSteps := 1000000 }) (disch := first | exact Nat.le_of_ble_eq_true rfl | omega) only [AXS, AXB, J.dst, reduceIte, Nat.reduceEqDiff, Nat.reduceAdd, Nat.reduceMul, Nat.reduceLT, Nat.reduceLeDiff, f63r3])
      refine wL_stN rfl rfl rfl B2 (by decide) (eOut_one noOut) ?_; rintro h4 u4 (B4 : Blk _ _ _ (eOut noOut))
      try simp (config := { maxSteps := 1000000 }) (disch := first | exact Nat.le_of_ble_eq_true rfl | omega) only [AXS, AXB, J.dst, reduceIte, Nat.reduceEqDiff, Nat.reduceAdd, Nat.reduceMul, Nat.reduceLT, Nat.reduceLeDiff, B4.rd, eOut]
      have := hR h4 (u4.ext e03 (by omega))
      rw [hf] at this
      exact this
    · omega
  · have hge : ¬ i < 0 := of_decide_eq_false hh
    rcases hi with ⟨hlt, _⟩ | ⟨k, x, rfl, hx, hf⟩
    · exact absurd hlt hge
    · have hkl : k < cs.length := by
        rcases Nat.lt_or_ge k cs.length with h | h
        · exact h
        · rw [List.getElem?_eq_none h] at hx; cases hx
      obtain ⟨b', o, rfl, _, hrow⟩ := (S.ext e03).elem eOut_len hx
      (try simp (config := { maxSteps := 1000000 }) (disch := first | exact Nat.le_of_ble_eq_true rfl | omega) only [AXS, AXB, J.dst, reduceIte, Nat.reduceEqDiff, Nat.reduceAdd, Nat.reduceMul, Nat.reduceLT, Nat.reduceLeDiff]); rw [f63c5_eq]; (try simp (config := { maxSteps := 1000000 }) (disch := first | exact Nat.le_of_ble_eq_true rfl | omega) only [AXS, AXB, J.dst, reduceIte, Nat.reduceEqDiff, Nat.reduceAdd, Nat.reduceMul, Nat.reduceLT, Nat.reduceLeDiff, f63r4, row_out hrow])
      refine ⟨by omega, by omega, ?_⟩
      refine wL_stN rfl rfl rfl B2 (by decide) (eOut_one x) ?_; rintro h4 u4 (B4 : Blk _ _ _ (eOut x))
      try simp (config := { maxSteps := 1000000 }) (disch := first | exact Nat.le_of_ble_eq_true rfl | omega) only [AXS, AXB, J.dst, reduceIte, Nat.reduceEqDiff, Nat.reduceAdd, Nat.reduceMul, Nat.reduceLT, Nat.reduceLeDiff, B4.rd, eOut]
      have := hR h4 (u4.ext e03 (by omega))
      rw [hf] at this
      exact this
end Go.Proofs.Ytefghfgmkndikaa
namespace Go.Proofs.Ytefghfgmkndikaa
open Go Go.AX
theorem slice_one {a : Option Addr} {n c : Nat} : ∀ v ∈ (Value.slice a n c).cells.toList, v.oneCell' = true := fun v hv => by simp only [cells_slice, List.mem_cons, List.not_mem_nil, or_false] at hv; subst hv; rfl
theorem int_one {k : IntKind} {n : Int} : ∀ v ∈ (Value.int k n).cells.toList, v.oneCell' = true := fun v hv => by simp only [cells_int, List.mem_cons, List.not_mem_nil, or_false] at hv; subst hv; rfl
theorem partC_ok {B : Nat → Prop} {n : Nat} (pv : PrV) (p : Prt) (h : Heap) (S : PrR B h pv p) (g : SzP n p) (hn : n ≤ 900000) {R : Value → Heap → Prop}
    (hR : ∀ pv' lo hc h', PrO h.size lo hc h' pv' p → Ext h h' → R (.agg (ePr pv').toArray) h') : CallsH Try.prog 95 [.agg (ePr pv).toArray] h R := by
  obtain ⟨z1, z2, z3, z4, z5, z6⟩ := szAll g.cells.sz hn
  have gr := g.records
  have gd := g.done
  have hbig : big = 1000000 := rfl
  refine f95ok (by simp) ?_
  (try simp (config := { maxSteps := 1000000 }) (disch := first | exact Nat.le_of_ble_eq_true rfl | omega) only [AXS, AXB, J.dst, reduceIte, Nat.reduceEqDiff, Nat.reduceAdd, Nat.reduceMul, Nat.reduceLT, Nat.reduceLeDiff]); rw [f95c0_eq]; (try simp (config := { maxSteps := 1000000 }) (disch := first | exact Nat.le_of_ble_eq_true rfl | omega) only [AXS, AXB, J.dst, reduceIte, Nat.reduceEqDiff, Nat.reduceAdd, Nat.reduceMul, Nat.reduceLT, Nat.reduceLeDiff, f95r0])
  refine wL_boxN rfl ?_; rintro b1 h1 e1 s1 hb1 (B1 : Blk _ _ _ (ePr pv))
  refine wL_newN ?_; rintro b2 h2 e2 s2 hb2 B2
  replace B1 := B1.ext e2
  have e02 := e1.trans e2
  (try simp (config := { maxSteps := 1000000 }) (disch := first | exact Nat.le_of_ble_eq_true rfl | omega) only [AXS, AXB, J.dst, reduceIte, Nat.reduceEqDiff, Nat.reduceAdd, Nat.reduceMul, Nat.reduceLT, Nat.reduceLeDiff]); rw [f95c1_eq]; (try simp (config := { maxSteps := 1000000 }) (disch := first | exact Nat.le_of_ble_eq_true rfl | omega) only [AXS, AXB, J.dst, reduceIte, Nat.reduceEqDiff, Nat.reduceAdd, Nat.reduceMul, Nat.reduceLT, Nat.reduceLeDiff, f95r1, B1.cel, ePr, S.cn])
  refine each_ok p.cells _ (S.cells.ext e02) (by omega) (fun c hc => by have := z2 c hc; omega) ?_
  intro ca cc h3 O3 e3
  refine ⟨trivial, ?_⟩
  replace B1 := B1.ext e3; replace B2 := B2.ext e3
  try simp (config := { maxSteps := 1000000 }) (disch := first | exact Nat.le_of_ble_eq_true rfl | omega) only [AXS, AXB, J.dst, reduceIte, Nat.reduceEqDiff, Nat.reduceAdd, Nat.reduceMul, Nat.reduceLT, Nat.reduceLeDiff]
  have hl3 := O3.row
  refine wL_stN rfl rfl rfl B1 (by rw [ePr_len]; exact Nat.le_of_ble_eq_true rfl) slice_one ?_
  rintro h4 u4 (B4 : Blk _ _ _ (ePr { pv with ca := ca, cn := p.cells.length, cc := cc }))
  replace B2 := u4.blk B2 (by omega)
  have e03 := e02.trans e3
  have e04 := u4.ext e03 (by omega)
  have O4 : OwnC h2.size h4 ca p.cells.length cc p.cells := O3.gr u4.gr (fun k hk => by cases hk; omega)
  try simp (config := { maxSteps := 1000000 }) (disch := first | exact Nat.le_of_ble_eq_true rfl | omega) only [AXS, AXB, J.dst, reduceIte, Nat.reduceEqDiff, Nat.reduceAdd, Nat.reduceMul, Nat.reduceLT, Nat.reduceLeDiff]
  rw [f95c2_eq]
  refine ⟨fun b => b < h4.size ∧ b ≠ b1, fun b hb => hb.1, ?_⟩
  simp only [f95r2, wT_one, wT_alt, wT_nil]
  try simp (config := { maxSteps := 1000000 }) (disch := first | exact Nat.le_of_ble_eq_true rfl | omega) only [AXS, AXB, J.dst, reduceIte, Nat.reduceEqDiff, Nat.reduceAdd, Nat.reduceMul, Nat.reduceLT, Nat.reduceLeDiff, B4.cel, ePr, S.rn, S.dn]
  refine ⟨⟨?_, ?_⟩, ?_⟩
  all_goals
    refine cloneO_ok p.records _ (S.records.ext e04) (by omega) ?_
    intro ra rc h5 R5 e5
    refine ⟨fun b hb => e5.at_ b hb.1, ?_⟩
    have B5 := B4.ext e5
    try simp (config := { maxSteps := 1000000 }) (disch := first | exact Nat.le_of_ble_eq_true rfl | omega) only [AXS, AXB, J.dst, reduceIte, Nat.reduceEqDiff, Nat.reduceAdd, Nat.reduceMul, Nat.reduceLT, Nat.reduceLeDiff, B5.cel, ePr, S.dn]
    refine cloneO_ok p.done _ (S.done.ext (e04.trans e5)) (by omega) ?_
    intro da dc h6 D6 e6
    refine ⟨fun b hb => e6.at_ b (Nat.lt_of_lt_of_le hb.1 e5.size), ?_⟩
    have B6 := B5.ext e6
    have R6 := R5.ext e6
    have s04 := e04.size
    have s3 := e3.size
    have s4 := u4.size
    have s5 := e5.size
    have s6 := e6.size
    have hr5 := R5.ob
    have hd6 := D6.ob
    try simp (config := { maxSteps := 1000000 }) (disch := first | exact Nat.le_of_ble_eq_true rfl | omega) only [AXS, AXB, J.dst, reduceIte, Nat.reduceEqDiff, Nat.reduceAdd, Nat.reduceMul, Nat.reduceLT, Nat.reduceLeDiff]
    refine wL_stD rfl rfl (fun hb => hb.2 rfl) rfl B6 (by rw [ePr_len]; exact Nat.le_of_ble_eq_true rfl) slice_one ?_
    rintro h7 u7 (B7 : Blk _ _ _ (ePr { pv with ca := ca, cn := p.cells.length, cc := cc, ra := ra, rn := p.records.length, rc := rc }))
    try simp (config := { maxSteps := 1000000 }) (disch := first | exact Nat.le_of_ble_eq_true rfl | omega) only [AXS, AXB, J.dst, reduceIte, Nat.reduceEqDiff, Nat.reduceAdd, Nat.reduceMul, Nat.reduceLT, Nat.reduceLeDiff]
    refine wL_stD rfl rfl (fun hb => hb.2 rfl) rfl B7 (by rw [ePr_len]; exact Nat.le_of_ble_eq_true rfl) slice_one ?_
    rintro h8 u8 (B8 : Blk _ _ _ (ePr ⟨pv.s, ca, p.cells.length, cc, ra, p.records.length, rc, da, p.done.length, dc⟩))
    try simp (config := { maxSteps := 1000000 }) (disch := first | exact Nat.le_of_ble_eq_true rfl | omega) only [AXS, AXB, J.dst, reduceIte, Nat.reduceEqDiff, Nat.reduceAdd, Nat.reduceMul, Nat.reduceLT, Nat.reduceLeDiff]
    (try simp (config := { maxSteps := 1000000 }) (disch := first | exact Nat.le_of_ble_eq_true rfl | omega) only [AXS, AXB, J.dst, reduceIte, Nat.reduceEqDiff, Nat.reduceAdd, Nat.reduceMul, Nat.reduceLT, Nat.reduceLeDiff]); rw [f95c3_eq]; (try simp (config := { maxSteps := 1000000 }) (disch := first | exact Nat.le_of_ble_eq_true rfl | omega) only [AXS, AXB, J.dst, reduceIte, Nat.reduceEqDiff, Nat.reduceAdd, Nat.reduceMul, Nat.reduceLT, Nat.reduceLeDiff, f95r3, B8.rd, ePr])
    have C2 := u8.blk (u7.blk ((B2.ext e5).ext e6) (by omega)) (by omega)
    refine wL_stN rfl rfl rfl C2 (by decide) (ePr_one ⟨pv.s, ca, p.cells.length, cc, ra, p.records.length, rc, da, p.done.length, dc⟩) ?_
    rintro h9 u9 (B9 : Blk _ _ _ (ePr ⟨pv.s, ca, p.cells.length, cc, ra, p.records.length, rc, da, p.done.length, dc⟩))
    simp (config := { maxSteps := 1000000 }) (disch := first | exact Nat.le_of_ble_eq_true rfl | omega) only [AXS, AXB, J.dst, reduceIte, Nat.reduceEqDiff, Nat.reduceAdd, Nat.reduceMul, Nat.reduceLT, Nat.reduceLeDiff, B9.rd, ePr]
    have O6 : PrO h.size h2.size h4 h6 ⟨pv.s, ca, p.cells.length, cc, ra, p.records.length, rc, da, p.done.length, dc⟩ p :=
      ⟨S.s, rfl, rfl, rfl, O4, ⟨by omega, by omega, by omega⟩, fun b _ hb => (e5.trans e6).at_ b hb, R6.mono (by omega), D6.mono (by omega), fun k hk => by have := hr5 k hk; omega, fun k hk => by have := hd6 k hk; omega, fun k hk hk' => by have := hr5 k hk; have := hd6 k hk'; omega⟩
    have nr : ∀ b, b < h4.size → ob ra ≠ some b := fun b hb e => by have := hr5 b e; omega
    have nd : ∀ b, b < h4.size → ob da ≠ some b := fun b hb e => by have := hd6 b e; omega
    have O9 := ((O6.upd u7 (.inl (by omega)) (nr b1 (by omega)) (nd b1 (by omega))).upd u8 (.inl (by omega)) (nr b1 (by omega)) (nd b1 (by omega))).upd u9 (.inl (by omega)) (nr b2 (by omega)) (nd b2 (by omega))
    exact hR ⟨pv.s, ca, p.cells.length, cc, ra, p.records.length, rc, da, p.done.length, dc⟩ _ _ h9 O9 (u9.ext (u8.ext (u7.ext ((e04.trans e5).trans e6) (by omega)) (by omega)) (by omega))
theorem eStamp_one (x : Stamp) : ∀ v ∈ eStamp x, v.oneCell' = true := by
  intro v hv; simp only [eStamp, List.mem_cons, List.not_mem_nil, or_false] at hv
  rcases hv with rfl | rfl <;> rfl
theorem eLck_one (x : Lck) : ∀ v ∈ eLck x, v.oneCell' = true := by
  intro v hv; simp only [eLck, List.mem_cons, List.not_mem_nil, or_false] at hv
  rcases hv with rfl | rfl | rfl | rfl | rfl | rfl | rfl | rfl | rfl <;> rfl
theorem locked_ok (l : Lck) (h : Heap) {R : Value → Heap → Prop} (hR : ∀ h', Ext h h' → R (.agg (eRp ⟨(lockedR l).s, none, 0, 0⟩).toArray) h') : CallsH Try.prog 142 [.agg (eLck l).toArray] h R := by
  refine f142ok (by simp) ?_
  (try simp (config := { maxSteps := 1000000 }) (disch := first | exact Nat.le_of_ble_eq_true rfl | omega) only [AXS, AXB, J.dst, reduceIte, Nat.reduceEqDiff, Nat.reduceAdd, Nat.reduceMul, Nat.reduceLT, Nat.reduceLeDiff]); rw [f142c0_eq]; (try simp (config := { maxSteps := 1000000 }) (disch := first | exact Nat.le_of_ble_eq_true rfl | omega) only [AXS, AXB, J.dst, reduceIte, Nat.reduceEqDiff, Nat.reduceAdd, Nat.reduceMul, Nat.reduceLT, Nat.reduceLeDiff, f142r0])
  refine wL_boxN rfl ?_; rintro b1 h1 e1 s1 hb1 (B1 : Blk _ _ _ (eLck l))
  refine wL_newN ?_; rintro b2 h2 e2 s2 hb2 B2
  replace B1 := B1.ext e2
  (try simp (config := { maxSteps := 1000000 }) (disch := first | exact Nat.le_of_ble_eq_true rfl | omega) only [AXS, AXB, J.dst, reduceIte, Nat.reduceEqDiff, Nat.reduceAdd, Nat.reduceMul, Nat.reduceLT, Nat.reduceLeDiff]); rw [f142c1_eq]; (try simp (config := { maxSteps := 1000000 }) (disch := first | exact Nat.le_of_ble_eq_true rfl | omega) only [AXS, AXB, J.dst, reduceIte, Nat.reduceEqDiff, Nat.reduceAdd, Nat.reduceMul, Nat.reduceLT, Nat.reduceLeDiff, f142r1, B1.cel, B1.rd, eLck])
  refine wL_stN rfl rfl rfl B2 (by decide) (eRp_one ⟨(lockedR l).s, none, 0, 0⟩) ?_
  rintro h3 u3 (B3 : Blk _ _ _ (eRp ⟨(lockedR l).s, none, 0, 0⟩))
  simp (config := { maxSteps := 1000000 }) (disch := first | exact Nat.le_of_ble_eq_true rfl | omega) only [AXS, AXB, J.dst, reduceIte, Nat.reduceEqDiff, Nat.reduceAdd, Nat.reduceMul, Nat.reduceLT, Nat.reduceLeDiff, B3.rd, eRp]
  exact hR h3 (u3.ext (e1.trans e2) (by omega))
theorem max_ok (s t : Stamp) (h : Heap) {R : Value → Heap → Prop} (hR : ∀ h', Ext h h' → R (.agg (eStamp (maxS s t)).toArray) h') : CallsH Try.prog 143 [.agg (eStamp s).toArray, .agg (eStamp t).toArray] h R := by
  refine f143ok (by simp) ?_
  (try simp (config := { maxSteps := 1000000 }) (disch := first | exact Nat.le_of_ble_eq_true rfl | omega) only [AXS, AXB, J.dst, reduceIte, Nat.reduceEqDiff, Nat.reduceAdd, Nat.reduceMul, Nat.reduceLT, Nat.reduceLeDiff]); rw [f143c0_eq]; (try simp (config := { maxSteps := 1000000 }) (disch := first | exact Nat.le_of_ble_eq_true rfl | omega) only [AXS, AXB, J.dst, reduceIte, Nat.reduceEqDiff, Nat.reduceAdd, Nat.reduceMul, Nat.reduceLT, Nat.reduceLeDiff, f143r0])
  refine wL_boxN rfl ?_; rintro b1 h1 e1 s1 hb1 (B1 : Blk _ _ _ (eStamp s))
  refine wL_boxN rfl ?_; rintro b2 h2 e2 s2 hb2 (B2 : Blk _ _ _ (eStamp t))
  replace B1 := B1.ext e2
  refine wL_newN ?_; rintro b3 h3 e3 s3 hb3 B3
  replace B1 := B1.ext e3; replace B2 := B2.ext e3
  have e03 := (e1.trans e2).trans e3
  (try simp (config := { maxSteps := 1000000 }) (disch := first | exact Nat.le_of_ble_eq_true rfl | omega) only [AXS, AXB, J.dst, reduceIte, Nat.reduceEqDiff, Nat.reduceAdd, Nat.reduceMul, Nat.reduceLT, Nat.reduceLeDiff]); rw [f143c1_eq]; (try simp (config := { maxSteps := 1000000 }) (disch := first | exact Nat.le_of_ble_eq_true rfl | omega) only [AXS, AXB, J.dst, reduceIte, Nat.reduceEqDiff, Nat.reduceAdd, Nat.reduceMul, Nat.reduceLT, Nat.reduceLeDiff, f143r1, B1.rd, B2.rd, eStamp])
  refine less_ok s t _ ?_
  intro h4 e4
  refine ⟨trivial, ?_⟩
  replace B1 := B1.ext e4; replace B2 := B2.ext e4; replace B3 := B3.ext e4
  have s4 := e4.size
  try simp (config := { maxSteps := 1000000 }) (disch := first | exact Nat.le_of_ble_eq_true rfl | omega) only [AXS, AXB, J.dst, reduceIte, Nat.reduceEqDiff, Nat.reduceAdd, Nat.reduceMul, Nat.reduceLT, Nat.reduceLeDiff]
  (try simp (config := { maxSteps := 1000000 }) (disch := first | exact Nat.le_of_ble_eq_true rfl | omega) only [AXS, AXB, J.dst, reduceIte, Nat.reduceEqDiff, Nat.reduceAdd, Nat.reduceMul, Nat.reduceLT, Nat.reduceLeDiff]); rw [f143c2_eq]; (try simp (config := { maxSteps := 1000000 }) (disch := first | exact Nat.le_of_ble_eq_true rfl | omega) only [AXS, AXB, J.dst, reduceIte, Nat.reduceEqDiff, Nat.reduceAdd, Nat.reduceMul, Nat.reduceLT, Nat.reduceLeDiff])
  refine ⟨fun hh => ?_, fun hh => ?_⟩
  · (try simp (config := { maxSteps := 1000000 }) (disch := first | exact Nat.le_of_ble_eq_true rfl | omega) only [AXS, AXB, J.dst, reduceIte, Nat.reduceEqDiff, Nat.reduceAdd, Nat.reduceMul, Nat.reduceLT, Nat.reduceLeDiff]); rw [f143c3_eq]; (try simp (config := { maxSteps := 1000000 }) (disch := first | exact Nat.le_of_ble_eq_true rfl | omega) only [AXS, AXB, J.dst, reduceIte, Nat.reduceEqDiff, Nat.reduceAdd, Nat.reduceMul, Nat.reduceLT, Nat.reduceLeDiff, f143r2, B2.rd, eStamp])
    refine wL_stN rfl rfl rfl B3 (by decide) (eStamp_one t) ?_
    rintro h5 u5 (B5 : Blk _ _ _ (eStamp t))
    simp (config := { maxSteps := 1000000 }) (disch := first | exact Nat.le_of_ble_eq_true rfl | omega) only [AXS, AXB, J.dst, reduceIte, Nat.reduceEqDiff, Nat.reduceAdd, Nat.reduceMul, Nat.reduceLT, Nat.reduceLeDiff, B5.rd, eStamp]
    have := hR h5 (u5.ext (e03.trans e4) (by omega))
    unfold maxS at this
    rw [hh] at this
    exact this
  · (try simp (config := { maxSteps := 1000000 }) (disch := first | exact Nat.le_of_ble_eq_true rfl | omega) only [AXS, AXB, J.dst, reduceIte, Nat.reduceEqDiff, Nat.reduceAdd, Nat.reduceMul, Nat.reduceLT, Nat.reduceLeDiff]); rw [f143c4_eq]; (try simp (config := { maxSteps := 1000000 }) (disch := first | exact Nat.le_of_ble_eq_true rfl | omega) only [AXS, AXB, J.dst, reduceIte, Nat.reduceEqDiff, Nat.reduceAdd, Nat.reduceMul, Nat.reduceLT, Nat.reduceLeDiff, f143r3, B1.rd, eStamp])
    refine wL_stN rfl rfl rfl B3 (by decide) (eStamp_one s) ?_
    rintro h5 u5 (B5 : Blk _ _ _ (eStamp s))
    simp (config := { maxSteps := 1000000 }) (disch := first | exact Nat.le_of_ble_eq_true rfl | omega) only [AXS, AXB, J.dst, reduceIte, Nat.reduceEqDiff, Nat.reduceAdd, Nat.reduceMul, Nat.reduceLT, Nat.reduceLeDiff, B5.rd, eStamp]
    have := hR h5 (u5.ext (e03.trans e4) (by omega))
    unfold maxS at this
    rw [hh] at this
    exact this
end Go.Proofs.Ytefghfgmkndikaa
namespace Go.AX
open Go
/-- Within a command: the state p lies as v behind the pointer bp; all of it came behind h0. -/
structure InP (h0 h : Heap) (bp : Nat) (v : PrV) (p : Prt) (lo : Nat) (hc : Heap) : Prop where
  ext : Ext h0 h
  o : PrO h0.size lo hc h v p
  b : Blk h bp 116 (ePr v)
  at_ : h0.size ≤ bp ∧ (bp < lo ∨ hc.size ≤ bp)
  ra : ob v.ra ≠ some bp
  da : ob v.da ≠ some bp
theorem InP.exts {h0 h h' hc : Heap} {bp lo : Nat} {v : PrV} {p : Prt} (I : InP h0 h bp v p lo hc) (x : Ext h h') : InP h0 h' bp v p lo hc := ⟨I.ext.trans x, I.o.exts x, I.b.ext x, I.at_, I.ra, I.da⟩
theorem InP.sizes {h0 h hc : Heap} {bp lo : Nat} {v : PrV} {p : Prt} (I : InP h0 h bp v p lo hc) : h0.size ≤ lo ∧ lo ≤ hc.size ∧ hc.size ≤ h.size ∧ bp < h.size ∧ h0.size ≤ bp := ⟨I.o.le.1, I.o.le.2.1, I.o.le.2.2, I.b.lt, I.at_.1⟩
theorem InP.cells {h0 h hc : Heap} {bp lo : Nat} {v : PrV} {p : Prt} (I : InP h0 h bp v p lo hc) : SlC (fun b => lo ≤ b ∧ b < h.size) h v.ca p.cells := (I.o.cells.kept I.o.le.2.2 I.o.kept).slc
theorem InP.cap {h0 h hc : Heap} {bp lo : Nat} {v : PrV} {p : Prt} (I : InP h0 h bp v p lo hc) : p.cells.length ≤ v.cc := by
  obtain ⟨_, h1, h2, _⟩ := I.o.cells
  have := h1.room.1
  omega
theorem InP.dones {h0 h hc : Heap} {bp lo : Nat} {v : PrV} {p : Prt} (I : InP h0 h bp v p lo hc) : SlF (fun b => b < h.size) h eOut v.da p.done := (SlF.of_own I.o.done I.o.dn).imp fun _ hb => hb.2.1
theorem InP.recs {h0 h hc : Heap} {bp lo : Nat} {v : PrV} {p : Prt} (I : InP h0 h bp v p lo hc) : SlF (fun b => b < h.size) h eOut v.ra p.records := (SlF.of_own I.o.records I.o.rn).imp fun _ hb => hb.2.1
/-- The state's cells are written: new ones. -/
theorem InP.putC {h0 h h1 h' hc : Heap} {bp lo : Nat} {v : PrV} {p : Prt} (I : InP h0 h bp v p lo hc) {a : Option Addr} {c : Nat} {cs : List Cell} (O : OwnC h.size h1 a cs.length c cs) (x : Ext h h1) (u : Upd bp h1 h') (B : Blk h' bp 116 (ePr { v with ca := a, cn := cs.length, cc := c })) :
    InP h0 h' bp { v with ca := a, cn := cs.length, cc := c } { p with cells := cs } h.size h1 :=
  have z := I.sizes
  have hr := I.o.records.ob
  have hd := I.o.done.ob
  have o := (I.o.exts x).upd u I.at_.2 I.ra I.da
  ⟨u.ext (I.ext.trans x) z.2.2.2.2, ⟨o.s, rfl, o.rn, o.dn, O, ⟨by omega, x.size, by rw [u.size]; exact Nat.le_refl _⟩, fun b h1 _ => u.ne b (by omega), o.records, o.done, fun k hk => .inl (hr k hk).2, fun k hk => .inl (hd k hk).2, o.apart⟩,
    B, ⟨z.2.2.2.2, .inl z.2.2.2.1⟩, I.ra, I.da⟩
/-- Another block is written. -/
theorem InP.upd {h0 h h1 h' hc : Heap} {bp lo b : Nat} {v : PrV} {p : Prt} (I : InP h0 h bp v p lo hc) (x : Ext h h1) (hb : h.size ≤ b) (u : Upd b h1 h') : InP h0 h' bp v p lo hc := I.exts (u.ext x hb)
theorem InP.box {h0 h h' hc : Heap} {bp lo b : Nat} {v : PrV} {p : Prt} (I : InP h0 h bp v p lo hc) (h1 : h0.size ≤ b ∧ (b < lo ∨ hc.size ≤ b)) (h2 : b ≠ bp) (h3 : ob v.ra ≠ some b) (h4 : ob v.da ≠ some b) (u : Upd b h h') : InP h0 h' bp v p lo hc :=
  ⟨u.ext I.ext h1.1, I.o.upd u h1.2 h3 h4, u.blk I.b (Ne.symm h2), I.at_, I.ra, I.da⟩
theorem InP.apart {h0 h hc : Heap} {bp lo b : Nat} {v : PrV} {p : Prt} (I : InP h0 h bp v p lo hc) (hb : h.size ≤ b) : ob v.ra ≠ some b ∧ ob v.da ≠ some b :=
  ⟨fun e => by have := (I.o.records.ob b e).2; omega, fun e => by have := (I.o.done.ob b e).2; omega⟩
/-- The state's numbers are written. -/
theorem InP.put {h0 h h' hc : Heap} {bp lo : Nat} {v : PrV} {p : Prt} (I : InP h0 h bp v p lo hc) (s : PrS) (u : Upd bp h h') (B : Blk h' bp 116 (ePr { v with s := s })) : InP h0 h' bp { v with s := s } { p with s := s } lo hc :=
  have z := I.sizes
  have o := I.o.upd u I.at_.2 I.ra I.da
  ⟨u.ext I.ext z.2.2.2.2, ⟨rfl, o.cn, o.rn, o.dn, o.cells, o.le, o.kept, o.records, o.done, o.ra, o.da, o.apart⟩, B, I.at_, I.ra, I.da⟩
/-- The answer r lies as v, its pairs in a row of the call's own. -/
structure RpO (lo : Nat) (h : Heap) (v : RpV) (r : Rep) : Prop where
  s : v.s = r.s
  pn : v.pn = r.pairs.length
  pairs : Own lo h 99 2 v.pa v.pn v.pc (r.pairs.flatMap ePai)
theorem RpO.ext {lo : Nat} {h h' : Heap} {v : RpV} {r : Rep} (O : RpO lo h v r) (x : Ext h h') : RpO lo h' v r := ⟨O.s, O.pn, O.pairs.ext x⟩
theorem RpO.none (lo : Nat) (h : Heap) (s : RpS) : RpO lo h ⟨s, .none, 0, 0⟩ ⟨s, []⟩ := ⟨rfl, rfl, Own.nil _ _ _ _⟩
/-- A block that is none of the state's. -/
def ApP (b lo : Nat) (hc : Heap) (v : PrV) : Prop := (b < lo ∨ hc.size ≤ b) ∧ ob v.ra ≠ some b ∧ ob v.da ≠ some b
theorem InP.ap {h0 h hc : Heap} {bp lo b : Nat} {v : PrV} {p : Prt} (I : InP h0 h bp v p lo hc) (hb : h.size ≤ b) : ApP b lo hc v := ⟨.inr (Nat.le_trans I.o.le.2.2 hb), I.apart hb⟩
theorem InP.boxA {h0 h h' hc : Heap} {bp lo b : Nat} {v : PrV} {p : Prt} (I : InP h0 h bp v p lo hc) (h1 : h0.size ≤ b) (h2 : b ≠ bp) (h3 : ApP b lo hc v) (u : Upd b h h') : InP h0 h' bp v p lo hc := I.box ⟨h1, h3.1⟩ h2 h3.2.1 h3.2.2 u
/-- What a command leaves (h as it began, h' as it ended). -/
def OutP (h0 h h' : Heap) (bp : Nat) (v0 : PrV) (lo0 : Nat) (hc0 : Heap) (v : PrV) (p : Prt) (rv : RpV) (r : Rep) : Prop :=
  h.size ≤ h'.size ∧ ∃ lo hc, InP h0 h' bp v p lo hc ∧ RpO h.size h' rv r ∧ (∀ b, b < h.size → ApP b lo0 hc0 v0 → ApP b lo hc v) ∧ ∀ b, b < h.size → b ≠ bp → ApP b lo0 hc0 v0 → h'[b]? = h[b]?
theorem OutP.same {h0 h h1 h2 hc : Heap} {bp lo b : Nat} {v : PrV} {p : Prt} (I : InP h0 h bp v p lo hc) (x : Ext h h1) (hb : h.size ≤ b) (u : Upd b h1 h2) (s : RpS) : OutP h0 h h2 bp v lo hc v p ⟨s, none, 0, 0⟩ ⟨s, []⟩ :=
  ⟨(u.ext x hb).size, lo, hc, I.upd x hb u, RpO.none _ _ _, fun _ _ h => h, fun b h1 _ _ => (u.ext x hb).at_ b h1⟩
theorem OutP.ret {h0 hI h h' h'' hc0 : Heap} {bp lo0 b : Nat} {v0 v : PrV} {p : Prt} {rv : RpV} {r : Rep} (x : Ext hI h) (O : OutP h0 h h' bp v0 lo0 hc0 v p rv r) (h1 : hI.size ≤ b) (h2 : b < h.size) (h3 : b ≠ bp) (h4 : h0.size ≤ b) (h5 : ApP b lo0 hc0 v0) (u : Upd b h' h'') :
    OutP h0 hI h'' bp v0 lo0 hc0 v p rv r := by
  obtain ⟨z, lo, hc, I, k, f, kp⟩ := O
  have hk := k.pairs.ob
  have zx := x.size
  refine ⟨by rw [u.size]; omega, lo, hc, I.boxA h4 h3 (f b h2 h5) u, ⟨k.s, k.pn, (k.pairs.mono zx).gr u.gr fun j hj e => by cases e; have := hk b hj; omega⟩, fun c hc h6 => f c (by omega) h6, fun c hc h6 h7 => ?_⟩
  rw [u.ne c (by omega), kp c (by omega) h6 h7, x.at_ c hc]
theorem Gr.exts {row : Option Nat} {h h1 h2 : Heap} (g : Gr row h h1) (e : Ext h1 h2) : Gr row h h2 := g.trans (e.gr row)
theorem Gr.upd {row : Option Nat} {h h1 h2 : Heap} {b : Nat} (g : Gr row h h1) (u : Upd b h1 h2) (hb : some b = row ∨ h.size ≤ b) : Gr row h h2 :=
  ⟨by rw [u.size]; exact g.size, fun k hk hne => (u.ne k (fun e => by subst e; rcases hb with hb | hb; exact hne hb; omega)).trans (g.at_ k hk hne)⟩
theorem InP.out {h0 h h' hc hc0 : Heap} {bp lo lo0 : Nat} {v v0 : PrV} {p : Prt} (I : InP h0 h' bp v p lo hc) {rv : RpV} {r : Rep} (k : RpO h.size h' rv r) (G : Gr (some bp) h h') (F : ∀ b, b < h.size → ApP b lo0 hc0 v0 → ApP b lo hc v) : OutP h0 h h' bp v0 lo0 hc0 v p rv r :=
  ⟨G.size, lo, hc, I, k, F, fun b h1 h2 _ => G.at_ b h1 (fun e => h2 (by cases e; rfl))⟩
end Go.AX
namespace Go.Proofs.Ytefghfgmkndikaa
open Go Go.AX
theorem lease_ok {h0 h hc : Heap} {bp lo : Nat} {pv : PrV} {p : Prt} {cv : CmV} {c : Cmd} {B : Nat → Prop} (I : InP h0 h bp pv p lo hc) (C : CmR B h cv c) (he : 0 ≤ p.s.epoch) {R : Value → Heap → Prop}
    (hR : ∀ pv' rv h', OutP h0 h h' bp pv lo hc pv' (leaseP p c).1 rv (leaseP p c).2 → R (.agg (eRp rv).toArray) h') : CallsH Try.prog 96 [ptr bp 0, .agg (eCm cv).toArray] h R := by
  have hm : mostEpoch = 1099511627776 := rfl
  have hps := I.o.s
  have hcs := C.s
  refine f96ok (by simp) ?_
  (try simp (config := { maxSteps := 1000000 }) (disch := first | exact Nat.le_of_ble_eq_true rfl | omega) only [AXS, AXB, J.dst, reduceIte, Nat.reduceEqDiff, Nat.reduceAdd, Nat.reduceMul, Nat.reduceLT, Nat.reduceLeDiff]); rw [f96c0_eq]; (try simp (config := { maxSteps := 1000000 }) (disch := first | exact Nat.le_of_ble_eq_true rfl | omega) only [AXS, AXB, J.dst, reduceIte, Nat.reduceEqDiff, Nat.reduceAdd, Nat.reduceMul, Nat.reduceLT, Nat.reduceLeDiff, f96r0])
  refine wL_boxN rfl ?_; rintro b1 h1 e1 s1 hb1 (B1 : Blk _ _ _ (eCm cv))
  refine wL_newN ?_; rintro b2 h2 e2 s2 hb2 B2
  replace B1 := B1.ext e2
  have e02 := e1.trans e2
  have I2 := I.exts e02
  have Bp := I2.b
  try simp (config := { maxSteps := 1000000 }) (disch := first | exact Nat.le_of_ble_eq_true rfl | omega) only [AXS, AXB, J.dst, reduceIte, Nat.reduceEqDiff, Nat.reduceAdd, Nat.reduceMul, Nat.reduceLT, Nat.reduceLeDiff]
  rw [f96c1_eq]
  refine drw_lt ?_
  simp (config := { maxSteps := 1000000 }) (disch := first | exact Nat.le_of_ble_eq_true rfl | omega) only [AXJ, AXS, AXB, J.dst, reduceIte, Nat.reduceEqDiff, Nat.reduceAdd, Nat.reduceMul, Nat.reduceLT, Nat.reduceLeDiff, f96r1, Bp.cel, ePr, B1.cel, eCm, hps, hcs]
  have hz := I.sizes
  have z1 := e1.size
  have z2 := e2.size
  refine ⟨by omega, fun _ => by omega, fun _ => by omega, ?_⟩
  simp (config := { maxSteps := 1000000 }) (disch := first | exact Nat.le_of_ble_eq_true rfl | omega) only [AXJ, AXS, AXB, J.dst, reduceIte, Nat.reduceEqDiff, Nat.reduceAdd, Nat.reduceMul, Nat.reduceLT, Nat.reduceLeDiff, f96r1a, B1.cel, eCm, hcs]
  refine ⟨fun _ => by omega, ?_⟩
  (try simp (config := { maxSteps := 1000000 }) (disch := first | exact Nat.le_of_ble_eq_true rfl | omega) only [AXS, AXB, J.dst, reduceIte, Nat.reduceEqDiff, Nat.reduceAdd, Nat.reduceMul, Nat.reduceLT, Nat.reduceLeDiff]); rw [f96c2_eq]; (try simp (config := { maxSteps := 1000000 }) (disch := first | exact Nat.le_of_ble_eq_true rfl | omega) only [AXS, AXB, J.dst, reduceIte, Nat.reduceEqDiff, Nat.reduceAdd, Nat.reduceMul, Nat.reduceLT, Nat.reduceLeDiff])
  generalize hcd : (decide (p.s.epoch ≥ 1099511627776) || c.s.epoch != IntKind.i64.wrap (p.s.epoch + 1) || decide (c.s.epoch > 1099511627776)) = cd
  have hcd' : cd = true ↔ (p.s.epoch ≥ mostEpoch ∨ c.s.epoch ≠ p.s.epoch + 1 ∨ c.s.epoch > mostEpoch) := by
    rw [← hcd, hm]
    by_cases hp : p.s.epoch ≥ 1099511627776
    · simp [hp]
    · rw [i64_wrap (by omega) (by omega)]; simp [hp]
  refine ⟨fun hh => ?_, fun hh => ?_⟩
  · have hl : leaseP p c = (p, errR 25) := by unfold leaseP; rw [if_pos (hcd'.1 hh)]
    (try simp (config := { maxSteps := 1000000 }) (disch := first | exact Nat.le_of_ble_eq_true rfl | omega) only [AXS, AXB, J.dst, reduceIte, Nat.reduceEqDiff, Nat.reduceAdd, Nat.reduceMul, Nat.reduceLT, Nat.reduceLeDiff]); rw [f96c3_eq]; (try simp (config := { maxSteps := 1000000 }) (disch := first | exact Nat.le_of_ble_eq_true rfl | omega) only [AXS, AXB, J.dst, reduceIte, Nat.reduceEqDiff, Nat.reduceAdd, Nat.reduceMul, Nat.reduceLT, Nat.reduceLeDiff, f96r2])
    refine wL_stN rfl rfl rfl B2 (by decide) (eRp_one ⟨(errR 25).s, none, 0, 0⟩) ?_
    rintro h3 u3 (B3 : Blk _ _ _ (eRp ⟨(errR 25).s, none, 0, 0⟩))
    simp (config := { maxSteps := 1000000 }) (disch := first | exact Nat.le_of_ble_eq_true rfl | omega) only [AXS, AXB, J.dst, reduceIte, Nat.reduceEqDiff, Nat.reduceAdd, Nat.reduceMul, Nat.reduceLT, Nat.reduceLeDiff, B3.rd, eRp]
    have := hR pv ⟨(errR 25).s, none, 0, 0⟩ h3 (by rw [hl]; exact OutP.same I e02 (by omega) u3 _)
    exact this
  · have hl : leaseP p c = ({ p with s := { p.s with epoch := c.s.epoch, holder := c.s.node } }, ⟨okS, []⟩) := by
      unfold leaseP; rw [if_neg (fun hx => by rw [hcd'.2 hx] at hh; cases hh)]
    try simp (config := { maxSteps := 1000000 }) (disch := first | exact Nat.le_of_ble_eq_true rfl | omega) only [AXS, AXB, J.dst, reduceIte, Nat.reduceEqDiff, Nat.reduceAdd, Nat.reduceMul, Nat.reduceLT, Nat.reduceLeDiff]
    rw [f96c4_eq]
    refine ⟨fun b => b < h2.size ∧ b ≠ bp, fun b hb => hb.1, ?_⟩
    have hb1p : b1 ≠ bp := by omega
    simp (config := { maxSteps := 1000000 }) (disch := first | exact Nat.le_of_ble_eq_true rfl | omega) only [AXS, AXB, J.dst, reduceIte, Nat.reduceEqDiff, Nat.reduceAdd, Nat.reduceMul, Nat.reduceLT, Nat.reduceLeDiff, f96r3, B1.cel, eCm, hcs, hb1p]
    refine ⟨⟨by omega, hb1p⟩, ⟨by omega, hb1p⟩, ?_⟩
    have I2b := I2.b
    refine wL_stD rfl rfl (fun hb => hb.2 rfl) rfl I2.b (by rw [ePr_len]; exact Nat.le_of_ble_eq_true rfl) int_one ?_
    rintro h3 u3 (B3 : Blk _ _ _ (ePr { pv with s := { pv.s with epoch := c.s.epoch } }))
    simp (config := { maxSteps := 1000000 }) (disch := first | exact Nat.le_of_ble_eq_true rfl | omega) only [AXS, AXB, J.dst, reduceIte, Nat.reduceEqDiff, Nat.reduceAdd, Nat.reduceMul, Nat.reduceLT, Nat.reduceLeDiff]
    refine wL_stD rfl rfl (fun hb => hb.2 rfl) rfl B3 (by rw [ePr_len]; exact Nat.le_of_ble_eq_true rfl) int_one ?_
    rintro h4 u4 (B4 : Blk _ _ _ (ePr { pv with s := { pv.s with epoch := c.s.epoch, holder := c.s.node } }))
    simp (config := { maxSteps := 1000000 }) (disch := first | exact Nat.le_of_ble_eq_true rfl | omega) only [AXS, AXB, J.dst, reduceIte, Nat.reduceEqDiff, Nat.reduceAdd, Nat.reduceMul, Nat.reduceLT, Nat.reduceLeDiff]
    (try simp (config := { maxSteps := 1000000 }) (disch := first | exact Nat.le_of_ble_eq_true rfl | omega) only [AXS, AXB, J.dst, reduceIte, Nat.reduceEqDiff, Nat.reduceAdd, Nat.reduceMul, Nat.reduceLT, Nat.reduceLeDiff]); rw [f96c5_eq]; (try simp (config := { maxSteps := 1000000 }) (disch := first | exact Nat.le_of_ble_eq_true rfl | omega) only [AXS, AXB, J.dst, reduceIte, Nat.reduceEqDiff, Nat.reduceAdd, Nat.reduceMul, Nat.reduceLT, Nat.reduceLeDiff, f96r4])
    have C2 := u4.blk (u3.blk B2 (by omega)) (by omega)
    have u34 : Upd bp h2 h4 := ⟨u4.size.trans u3.size, fun b hb => (u4.ne b hb).trans (u3.ne b hb)⟩
    have I4 := I2.put { pv.s with epoch := c.s.epoch, holder := c.s.node } u34 B4
    have s34 := u34.size
    refine wL_stN rfl rfl rfl C2 (by decide) (eRp_one ⟨okS, none, 0, 0⟩) ?_
    rintro h5 u5 (B5 : Blk _ _ _ (eRp ⟨okS, none, 0, 0⟩))
    simp (config := { maxSteps := 1000000 }) (disch := first | exact Nat.le_of_ble_eq_true rfl | omega) only [AXS, AXB, J.dst, reduceIte, Nat.reduceEqDiff, Nat.reduceAdd, Nat.reduceMul, Nat.reduceLT, Nat.reduceLeDiff, B5.rd, eRp]
    have := hR _ ⟨okS, none, 0, 0⟩ h5 (by
      rw [hl, ← hps]
      have hap := I.apart (b := b2) (by omega)
      exact (I4.box ⟨by omega, .inr (by omega)⟩ (by omega) hap.1 hap.2 u5).out (RpO.none _ _ _) ((Gr.upd (e02.gr _) u34 (.inl rfl)).upd u5 (.inr (by omega))) (fun _ _ h => h))
    exact this
end Go.Proofs.Ytefghfgmkndikaa
namespace Go.Proofs.Ytefghfgmkndikaa
open Go.AX
set_option maxRecDepth 100000
def f97r0 : List I := [.op (.box 3 43 (.tmp 1)),
  .op (.new 4 47 [.int .i64 0, .slice none 0 0, .int .i64 0, .int .i64 0, .int .i64 0, .int .i64 0, .int .i64 0, .int .i64 0, .int .i64 0, .int .i64 0, .bool false]),
  .kp [0, 3, 4]]
def f97r1 : List I := [.op (.fad 9 0 (.tmp 3)),
  .op (.ld 10 none (.tmp 9)),
  .kp [0, 3, 4, 10]]
def f97r2 : List I := [.op (.bin 12 .eql (.tmp 10) (.const (.int .i64 2))),
  .op (.mov 11 (.tmp 12)),
  .kp [0, 3, 4, 10, 11]]
def f97r3 : List I := [.op (.mov 13 (.tmp 0)),
  .op (.ld 14 (some 14) (.tmp 3)),
  .op (.call (some 15) 126 [(.tmp 13), (.tmp 14)]),
  .op (.st 11 (.tmp 4) (.tmp 15)),
  .kp [4]]
def f97r4 : List I := [.op (.bin 17 .eql (.tmp 10) (.const (.int .i64 3))),
  .op (.mov 16 (.tmp 17)),
  .kp [0, 3, 4, 10, 16]]
def f97r5 : List I := [.op (.mov 18 (.tmp 0)),
  .op (.ld 19 (some 14) (.tmp 3)),
  .op (.call (some 20) 127 [(.tmp 18), (.tmp 19)]),
  .op (.st 11 (.tmp 4) (.tmp 20)),
  .kp [4]]
def f97r6 : List I := [.op (.bin 22 .eql (.tmp 10) (.const (.int .i64 4))),
  .op (.mov 21 (.tmp 22)),
  .kp [0, 3, 4, 10, 21]]
def f97r7 : L := (.one [.op (.mov 24 (.tmp 0)),
  .op (.nch (some 25) (.tmp 24)),
  .op (.fad 26 7 (.tmp 25)),
  .op (.ld 27 none (.tmp 26)),
  .op (.fad 28 4 (.tmp 3)),
  .op (.ld 29 (some 4) (.tmp 28))] (.alt (.one [.op (.call (some 30) 63 [(.tmp 27), (.tmp 29)]),
  .op (.mov 23 (.tmp 30)),
  .op (.ext 31 (.tmp 23) 0),
  .op (.ext 32 (.tmp 23) 1),
  .op (.new 5 126 [.int .i64 0, .int .i64 0, .int .i64 0, .int .i64 0, .int .i64 0, .int .i64 0, .bool false]),
  .op (.st 7 (.tmp 5) (.tmp 31)),
  .op (.mov 6 (.tmp 32)),
  .kp [0, 3, 4, 5, 6]] .nil) (.one [.op (.new 5 126 [.int .i64 0, .int .i64 0, .int .i64 0, .int .i64 0, .int .i64 0, .int .i64 0, .bool false]),
  .op (.call (some 30) 63 [(.tmp 27), (.tmp 29)]),
  .op (.mov 23 (.tmp 30)),
  .op (.ext 31 (.tmp 23) 0),
  .op (.ext 32 (.tmp 23) 1),
  .op (.st 7 (.tmp 5) (.tmp 31)),
  .op (.mov 6 (.tmp 32)),
  .kp [0, 3, 4, 5, 6]] .nil)))
def f97r8 : List I := [.op (.mov 33 (.tmp 6)),
  .kp [0, 3, 4, 5, 33]]
def f97r9 : List I := [.op (.fad 34 6 (.tmp 5)),
  .op (.ld 35 none (.tmp 34)),
  .op (.fad 36 4 (.tmp 5)),
  .op (.ld 37 (some 2) (.tmp 36)),
  .op (.bld 38 [.int .i64 0, .slice none 0 0, .int .i64 0, .int .i64 0, .int .i64 0, .int .i64 0, .int .i64 0, .int .i64 0, .int .i64 0, .int .i64 0, .bool false] [(10, 1, (.tmp 35)), (7, 2, (.tmp 37))]),
  .op (.st 11 (.tmp 4) (.tmp 38)),
  .kp [4]]
def f97r10 : L := (.one [.op (.mov 39 (.tmp 0)),
  .op (.mov 40 (.tmp 0)),
  .op (.nch (some 41) (.tmp 40)),
  .op (.fad 42 7 (.tmp 41)),
  .op (.fad 44 4 (.tmp 3)),
  .op (.ld 45 (some 4) (.tmp 44)),
  .op (.fad 46 8 (.tmp 3)),
  .op (.ld 47 (some 2) (.tmp 46)),
  .op (.fad 48 11 (.tmp 3)),
  .op (.ld 49 none (.tmp 48)),
  .kp [3, 4, 39, 42, 45, 47, 49],
  .op (.bld 50 [.int .i64 0, .int .i64 0, .int .i64 0, .int .i64 0, .int .i64 0, .int .i64 0, .bool false] [(0, 4, (.tmp 45)), (4, 2, (.tmp 47)), (6, 1, (.tmp 49))])] (.alt (.one [.opn (.ld 43 none (.tmp 42)),
  .op (.bsl 51 126 1 [.int .i64 0, .int .i64 0, .int .i64 0, .int .i64 0, .int .i64 0, .int .i64 0, .bool false] [(0, 7, (.tmp 50))]),
  .op (.raw (some 52) ⟨(some 52), (.call ⟨(.builtin .append), #[(.tmp 43), (.tmp 51)], #[114, 114]⟩), 114, "part.go:79", #[⟨4, .data⟩, ⟨12, .data⟩], none⟩),
  .op (.nch (some 53) (.tmp 39)),
  .op (.fad 54 7 (.tmp 53)),
  .op (.st 1 (.tmp 54) (.tmp 52)),
  .kp [3, 4]] .nil) (.one [.op (.bsl 51 126 1 [.int .i64 0, .int .i64 0, .int .i64 0, .int .i64 0, .int .i64 0, .int .i64 0, .bool false] [(0, 7, (.tmp 50))]),
  .opn (.ld 43 none (.tmp 42)),
  .op (.raw (some 52) ⟨(some 52), (.call ⟨(.builtin .append), #[(.tmp 43), (.tmp 51)], #[114, 114]⟩), 114, "part.go:79", #[⟨4, .data⟩, ⟨12, .data⟩], none⟩),
  .op (.nch (some 53) (.tmp 39)),
  .op (.fad 54 7 (.tmp 53)),
  .op (.st 1 (.tmp 54) (.tmp 52)),
  .kp [3, 4]] .nil)))
def f97r11 : List I := [.op (.fad 55 11 (.tmp 3)),
  .op (.ld 56 none (.tmp 55)),
  .op (.fad 57 8 (.tmp 3)),
  .op (.ld 58 (some 2) (.tmp 57)),
  .op (.bld 59 [.int .i64 0, .slice none 0 0, .int .i64 0, .int .i64 0, .int .i64 0, .int .i64 0, .int .i64 0, .int .i64 0, .int .i64 0, .int .i64 0, .bool false] [(10, 1, (.tmp 56)), (7, 2, (.tmp 58))]),
  .op (.st 11 (.tmp 4) (.tmp 59)),
  .kp [4]]
def f97r12 : List I := [.op (.bin 61 .eql (.tmp 10) (.const (.int .i64 5))),
  .op (.mov 60 (.tmp 61)),
  .kp [0, 3, 4, 10, 60]]
def f97r13 : List I := [.op (.mov 62 (.tmp 0)),
  .op (.mov 63 (.tmp 0)),
  .op (.nch (some 64) (.tmp 63)),
  .op (.fad 65 6 (.tmp 64)),
  .op (.fad 67 4 (.tmp 3)),
  .op (.ld 68 (some 4) (.tmp 67)),
  .op (.fad 69 11 (.tmp 3)),
  .op (.ld 70 none (.tmp 69)),
  .opn (.ld 66 none (.tmp 65)),
  .op (.call (some 71) 39 [(.tmp 66), (.tmp 68), (.tmp 70)]),
  .kp [0, 3, 4, 62, 71],
  .op (.nch (some 72) (.tmp 62)),
  .op (.fad 73 6 (.tmp 72)),
  .op (.st 1 (.tmp 73) (.tmp 71)),
  .kp [0, 3, 4]]
def f97r14 : L := (.one [.op (.mov 75 (.tmp 0)),
  .op (.nch (some 76) (.tmp 75)),
  .op (.fad 77 8 (.tmp 76)),
  .op (.ld 78 none (.tmp 77)),
  .op (.fad 79 4 (.tmp 3)),
  .op (.ld 80 (some 4) (.tmp 79))] (.alt (.one [.op (.call (some 81) 63 [(.tmp 78), (.tmp 80)]),
  .op (.mov 74 (.tmp 81)),
  .op (.ext 82 (.tmp 74) 0),
  .op (.ext 83 (.tmp 74) 1),
  .op (.new 7 126 [.int .i64 0, .int .i64 0, .int .i64 0, .int .i64 0, .int .i64 0, .int .i64 0, .bool false]),
  .op (.st 7 (.tmp 7) (.tmp 82)),
  .op (.mov 8 (.tmp 83)),
  .kp [0, 3, 4, 8]] .nil) (.one [.op (.new 7 126 [.int .i64 0, .int .i64 0, .int .i64 0, .int .i64 0, .int .i64 0, .int .i64 0, .bool false]),
  .op (.call (some 81) 63 [(.tmp 78), (.tmp 80)]),
  .op (.mov 74 (.tmp 81)),
  .op (.ext 82 (.tmp 74) 0),
  .op (.ext 83 (.tmp 74) 1),
  .op (.st 7 (.tmp 7) (.tmp 82)),
  .op (.mov 8 (.tmp 83)),
  .kp [0, 3, 4, 8]] .nil)))
def f97r15 : List I := [.op (.mov 84 (.tmp 8)),
  .op (.un 85 .not (.tmp 84)),
  .kp [0, 3, 4, 85]]
def f97r16 : L := (.one [.op (.mov 86 (.tmp 0)),
  .op (.mov 87 (.tmp 0)),
  .op (.nch (some 88) (.tmp 87)),
  .op (.fad 89 8 (.tmp 88)),
  .op (.fad 91 4 (.tmp 3)),
  .op (.ld 92 (some 4) (.tmp 91)),
  .op (.fad 93 8 (.tmp 3)),
  .op (.ld 94 (some 2) (.tmp 93)),
  .op (.fad 95 11 (.tmp 3)),
  .op (.ld 96 none (.tmp 95)),
  .kp [4, 86, 89, 92, 94, 96],
  .op (.bld 97 [.int .i64 0, .int .i64 0, .int .i64 0, .int .i64 0, .int .i64 0, .int .i64 0, .bool false] [(0, 4, (.tmp 92)), (4, 2, (.tmp 94)), (6, 1, (.tmp 96))])] (.alt (.one [.opn (.ld 90 none (.tmp 89)),
  .op (.bsl 98 126 1 [.int .i64 0, .int .i64 0, .int .i64 0, .int .i64 0, .int .i64 0, .int .i64 0, .bool false] [(0, 7, (.tmp 97))]),
  .op (.raw (some 99) ⟨(some 99), (.call ⟨(.builtin .append), #[(.tmp 90), (.tmp 98)], #[114, 114]⟩), 114, "part.go:84", #[⟨4, .data⟩, ⟨12, .data⟩], none⟩),
  .op (.nch (some 100) (.tmp 86)),
  .op (.fad 101 8 (.tmp 100)),
  .op (.st 1 (.tmp 101) (.tmp 99)),
  .kp [4]] .nil) (.one [.op (.bsl 98 126 1 [.int .i64 0, .int .i64 0, .int .i64 0, .int .i64 0, .int .i64 0, .int .i64 0, .bool false] [(0, 7, (.tmp 97))]),
  .opn (.ld 90 none (.tmp 89)),
  .op (.raw (some 99) ⟨(some 99), (.call ⟨(.builtin .append), #[(.tmp 90), (.tmp 98)], #[114, 114]⟩), 114, "part.go:84", #[⟨4, .data⟩, ⟨12, .data⟩], none⟩),
  .op (.nch (some 100) (.tmp 86)),
  .op (.fad 101 8 (.tmp 100)),
  .op (.st 1 (.tmp 101) (.tmp 99)),
  .kp [4]] .nil)))
def f97r17 : List I := [.op (.bld 102 [.int .i64 0, .slice none 0 0, .int .i64 0, .int .i64 0, .int .i64 0, .int .i64 0, .int .i64 0, .int .i64 0, .int .i64 0, .int .i64 0, .bool false] []),
  .op (.st 11 (.tmp 4) (.tmp 102)),
  .kp [4]]
def f97r18 : List I := [.op (.bin 104 .eql (.tmp 10) (.const (.int .i64 6))),
  .op (.mov 103 (.tmp 104)),
  .kp [0, 3, 4, 10, 103]]
def f97r19 : List I := [.op (.mov 105 (.tmp 0)),
  .op (.mov 106 (.tmp 0)),
  .op (.nch (some 107) (.tmp 106)),
  .op (.fad 108 4 (.tmp 107)),
  .op (.fad 110 10 (.tmp 3)),
  .op (.ld 111 none (.tmp 110)),
  .op (.mm 112 false (.tmp 111) (.const (.int .i64 4611686018427387904))),
  .opn (.ld 109 none (.tmp 108)),
  .op (.mm 113 true (.tmp 109) (.tmp 112)),
  .op (.nch (some 114) (.tmp 105)),
  .kp [0, 4, 113, 114],
  .op (.fad 115 4 (.tmp 114)),
  .op (.st 1 (.tmp 115) (.tmp 113)),
  .kp [0, 4]]
def f97r20 : List I := [.op (.mov 116 (.tmp 0)),
  .op (.nch (some 117) (.tmp 116)),
  .op (.fad 118 4 (.tmp 117)),
  .op (.ld 119 none (.tmp 118)),
  .op (.bld 120 [.int .i64 0, .slice none 0 0, .int .i64 0, .int .i64 0, .int .i64 0, .int .i64 0, .int .i64 0, .int .i64 0, .int .i64 0, .int .i64 0, .bool false] [(9, 1, (.tmp 119))]),
  .op (.st 11 (.tmp 4) (.tmp 120)),
  .kp [4]]
def f97r21 : List I := [.op (.bin 122 .eql (.tmp 10) (.const (.int .i64 7))),
  .op (.mov 121 (.tmp 122)),
  .kp [0, 3, 4, 121]]
def f97r22 : L := (.one [.op (.mov 123 (.tmp 0)),
  .op (.mov 124 (.tmp 0)),
  .op (.nch (some 125) (.tmp 124)),
  .op (.fad 126 5 (.tmp 125)),
  .op (.fad 128 10 (.tmp 3)),
  .op (.ld 129 none (.tmp 128)),
  .op (.mov 130 (.tmp 0)),
  .op (.nch (some 131) (.tmp 130)),
  .op (.fad 132 4 (.tmp 131))] (.alt (.one [.opn (.ld 127 none (.tmp 126)),
  .opn (.ld 133 none (.tmp 132)),
  .op (.mm 134 false (.tmp 129) (.tmp 133)),
  .op (.mm 135 true (.tmp 127) (.tmp 134)),
  .op (.nch (some 136) (.tmp 123)),
  .op (.fad 137 5 (.tmp 136)),
  .op (.st 1 (.tmp 137) (.tmp 135)),
  .kp [0, 4]] .nil) (.one [.opn (.ld 133 none (.tmp 132)),
  .op (.mm 134 false (.tmp 129) (.tmp 133)),
  .opn (.ld 127 none (.tmp 126)),
  .op (.mm 135 true (.tmp 127) (.tmp 134)),
  .op (.nch (some 136) (.tmp 123)),
  .op (.fad 137 5 (.tmp 136)),
  .op (.st 1 (.tmp 137) (.tmp 135)),
  .kp [0, 4]] .nil)))
def f97r23 : L := (.one [.op (.mov 138 (.tmp 0)),
  .op (.mov 139 (.tmp 0)),
  .op (.nch (some 140) (.tmp 139)),
  .op (.fad 141 6 (.tmp 140)),
  .op (.mov 143 (.tmp 0)),
  .op (.nch (some 144) (.tmp 143)),
  .op (.fad 145 5 (.tmp 144))] (.alt (.one [.opn (.ld 142 none (.tmp 141)),
  .opn (.ld 146 none (.tmp 145)),
  .op (.bld 147 [.int .i64 0, .int .i64 0] [(0, 1, (.tmp 146))]),
  .op (.call (some 148) 46 [(.tmp 142), (.tmp 147)]),
  .op (.nch (some 149) (.tmp 138)),
  .op (.fad 150 6 (.tmp 149)),
  .op (.st 1 (.tmp 150) (.tmp 148)),
  .kp [0, 4]] .nil) (.one [.opn (.ld 146 none (.tmp 145)),
  .op (.bld 147 [.int .i64 0, .int .i64 0] [(0, 1, (.tmp 146))]),
  .opn (.ld 142 none (.tmp 141)),
  .op (.call (some 148) 46 [(.tmp 142), (.tmp 147)]),
  .op (.nch (some 149) (.tmp 138)),
  .op (.fad 150 6 (.tmp 149)),
  .op (.st 1 (.tmp 150) (.tmp 148)),
  .kp [0, 4]] .nil)))
def f97r24 : List I := [.op (.mov 151 (.tmp 0)),
  .op (.nch (some 152) (.tmp 151)),
  .op (.fad 153 5 (.tmp 152)),
  .op (.ld 154 none (.tmp 153)),
  .op (.bld 155 [.int .i64 0, .slice none 0 0, .int .i64 0, .int .i64 0, .int .i64 0, .int .i64 0, .int .i64 0, .int .i64 0, .int .i64 0, .int .i64 0, .bool false] [(9, 1, (.tmp 154))]),
  .op (.st 11 (.tmp 4) (.tmp 155)),
  .kp [4]]
def f97r25 : List I := [.op (.bld 156 [.int .i64 0, .slice none 0 0, .int .i64 0, .int .i64 0, .int .i64 0, .int .i64 0, .int .i64 0, .int .i64 0, .int .i64 0, .int .i64 0, .bool false] [(0, 1, (.const (.int .i64 9)))]),
  .op (.st 11 (.tmp 4) (.tmp 156)),
  .kp [4]]
def f97c5 : C := (.seq (.reg f97r3) .ret)
def f97c8 : C := (.seq (.reg f97r5) .ret)
def f97c14 : C := (.seq (.reg f97r9) .ret)
def f97c16 : C := (.seq (.reg f97r11) .ret)
def f97c15 : C := (.seq (.drt f97r10) f97c16)
def f97c13 : C := (.seq (.cond (.tmp 33) f97c14 .skip) f97c15)
def f97c12 : C := (.seq (.reg f97r8) f97c13)
def f97c11 : C := (.seq (.drt f97r7) f97c12)
def f97c23 : C := (.drt f97r16)
def f97c24 : C := (.seq (.reg f97r17) .ret)
def f97c22 : C := (.seq (.cond (.tmp 85) f97c23 .skip) f97c24)
def f97c21 : C := (.seq (.reg f97r15) f97c22)
def f97c20 : C := (.seq (.drt f97r14) f97c21)
def f97c19 : C := (.seq (.drw f97r13) f97c20)
def f97c28 : C := (.seq (.reg f97r20) .ret)
def f97c27 : C := (.seq (.drw f97r19) f97c28)
def f97c33 : C := (.seq (.reg f97r24) .ret)
def f97c32 : C := (.seq (.drt f97r23) f97c33)
def f97c31 : C := (.seq (.drt f97r22) f97c32)
def f97c30 : C := (.cond (.tmp 121) f97c31 .skip)
def f97c29 : C := (.seq (.reg f97r21) f97c30)
def f97c26 : C := (.cond (.tmp 103) f97c27 f97c29)
def f97c25 : C := (.seq (.reg f97r18) f97c26)
def f97c18 : C := (.cond (.tmp 60) f97c19 f97c25)
def f97c17 : C := (.seq (.reg f97r12) f97c18)
def f97c10 : C := (.cond (.tmp 21) f97c11 f97c17)
def f97c9 : C := (.seq (.reg f97r6) f97c10)
def f97c7 : C := (.cond (.tmp 16) f97c8 f97c9)
def f97c6 : C := (.seq (.reg f97r4) f97c7)
def f97c4 : C := (.cond (.tmp 11) f97c5 f97c6)
def f97c3 : C := (.seq (.reg f97r2) f97c4)
def f97c34 : C := (.seq (.reg f97r25) .ret)
def f97c2 : C := (.seq (.block 0 f97c3) f97c34)
def f97c1 : C := (.seq (.reg f97r1) f97c2)
def f97c0 : C := (.seq (.reg f97r0) f97c1)
theorem f97cmp : cmpF Try.prog Try.f97 [.l [.o 0, .o 1, .kp [0, 3, 4]],
  .l [.o 0, .o 1, .kp [0, 3, 4, 10]],
  .l [.o 0, .o 1, .kp [0, 3, 4, 10, 11]],
  .l [.o 0, .o 1, .o 2, .o 3, .kp [4]],
  .l [.o 0, .o 1, .kp [0, 3, 4, 10, 16]],
  .l [.o 0, .o 1, .o 2, .o 3, .kp [4]],
  .l [.o 0, .o 1, .kp [0, 3, 4, 10, 21]],
  .t (.one [.o 0, .o 1, .o 2, .o 3, .o 4, .o 5] (.alt (.one [.o 6, .o 7, .o 8, .o 9, .o 10, .o 11, .o 12, .kp [0, 3, 4, 5, 6]] .nil) (.one [.o 10, .o 6, .o 7, .o 8, .o 9, .o 11, .o 12, .kp [0, 3, 4, 5, 6]] .nil))),
  .l [.o 0, .kp [0, 3, 4, 5, 33]],
  .l [.o 0, .o 1, .o 2, .o 3, .o 4, .o 5, .kp [4]],
  .t (.one [.o 0, .o 1, .o 2, .o 3, .o 5, .o 6, .o 7, .o 8, .o 9, .o 10, .kp [3, 4, 39, 42, 45, 47, 49], .o 11] (.alt (.one [.x 4, .o 12, .o 13, .o 14, .o 15, .o 16, .kp [3, 4]] .nil) (.one [.o 12, .x 4, .o 13, .o 14, .o 15, .o 16, .kp [3, 4]] .nil))),
  .l [.o 0, .o 1, .o 2, .o 3, .o 4, .o 5, .kp [4]],
  .l [.o 0, .o 1, .kp [0, 3, 4, 10, 60]],
  .l [.o 0, .o 1, .o 2, .o 3, .o 5, .o 6, .o 7, .o 8, .x 4, .o 9, .kp [0, 3, 4, 62, 71], .o 10, .o 11, .o 12, .kp [0, 3, 4]],
  .t (.one [.o 0, .o 1, .o 2, .o 3, .o 4, .o 5] (.alt (.one [.o 6, .o 7, .o 8, .o 9, .o 10, .o 11, .o 12, .kp [0, 3, 4, 8]] .nil) (.one [.o 10, .o 6, .o 7, .o 8, .o 9, .o 11, .o 12, .kp [0, 3, 4, 8]] .nil))),
  .l [.o 0, .o 1, .kp [0, 3, 4, 85]],
  .t (.one [.o 0, .o 1, .o 2, .o 3, .o 5, .o 6, .o 7, .o 8, .o 9, .o 10, .kp [4, 86, 89, 92, 94, 96], .o 11] (.alt (.one [.x 4, .o 12, .o 13, .o 14, .o 15, .o 16, .kp [4]] .nil) (.one [.o 12, .x 4, .o 13, .o 14, .o 15, .o 16, .kp [4]] .nil))),
  .l [.o 0, .o 1, .kp [4]],
  .l [.o 0, .o 1, .kp [0, 3, 4, 10, 103]],
  .l [.o 0, .o 1, .o 2, .o 3, .o 5, .o 6, .o 7, .x 4, .o 8, .o 9, .kp [0, 4, 113, 114], .o 10, .o 11, .kp [0, 4]],
  .l [.o 0, .o 1, .o 2, .o 3, .o 4, .o 5, .kp [4]],
  .l [.o 0, .o 1, .kp [0, 3, 4, 121]],
  .t (.one [.o 0, .o 1, .o 2, .o 3, .o 5, .o 6, .o 7, .o 8, .o 9] (.alt (.one [.x 4, .x 10, .o 11, .o 12, .o 13, .o 14, .o 15, .kp [0, 4]] .nil) (.one [.x 10, .o 11, .x 4, .o 12, .o 13, .o 14, .o 15, .kp [0, 4]] .nil))),
  .t (.one [.o 0, .o 1, .o 2, .o 3, .o 5, .o 6, .o 7] (.alt (.one [.x 4, .x 8, .o 9, .o 10, .o 11, .o 12, .o 13, .kp [0, 4]] .nil) (.one [.x 8, .o 9, .x 4, .o 10, .o 11, .o 12, .o 13, .kp [0, 4]] .nil))),
  .l [.o 0, .o 1, .o 2, .o 3, .o 4, .o 5, .kp [4]],
  .l [.o 0, .o 1, .kp [4]]] = some (f97c0, [.cell 4 11]) := by kernel_rfl
theorem f97ok {args : List Value} {h : Heap} {R : Value → Heap → Prop} (hn : args.length ≤ 157) (H : wC Try.prog f97c0 (endW [.cell 4 11] R) (envOf 0 args) h) : CallsH Try.prog 97 args h R :=
  fn_ok2 Try.func97 f97cmp hn H
section
variable {Q : X → Env → Heap → Prop} {σ : Env} {h : Heap}
theorem f97c5_eq : wC Try.prog f97c5 Q σ h = (wL Try.prog none f97r3 0 (fun σ h => Q .ret σ h) σ h) := rfl
theorem f97c8_eq : wC Try.prog f97c8 Q σ h = (wL Try.prog none f97r5 0 (fun σ h => Q .ret σ h) σ h) := rfl
theorem f97c14_eq : wC Try.prog f97c14 Q σ h = (wL Try.prog none f97r9 0 (fun σ h => Q .ret σ h) σ h) := rfl
theorem f97c16_eq : wC Try.prog f97c16 Q σ h = (wL Try.prog none f97r11 0 (fun σ h => Q .ret σ h) σ h) := rfl
theorem f97c15_eq : wC Try.prog f97c15 Q σ h = (drtW Try.prog f97r10 (fun σ h => wC Try.prog f97c16 Q σ h) σ h) := rfl
theorem f97c13_eq : wC Try.prog f97c13 Q σ h = (bd (evO σ (.tmp 33)) fun v => bd (asB v) fun t => br t (wC Try.prog f97c14 (X.then (fun σ h => wC Try.prog f97c15 Q σ h) Q) σ h) (wC Try.prog f97c15 Q σ h)) := rfl
theorem f97c12_eq : wC Try.prog f97c12 Q σ h = (wL Try.prog none f97r8 0 (fun σ h => wC Try.prog f97c13 Q σ h) σ h) := rfl
theorem f97c11_eq : wC Try.prog f97c11 Q σ h = (drtW Try.prog f97r7 (fun σ h => wC Try.prog f97c12 Q σ h) σ h) := rfl
theorem f97c23_eq : wC Try.prog f97c23 Q σ h = (drtW Try.prog f97r16 (fun σ h => Q .normal σ h) σ h) := rfl
theorem f97c24_eq : wC Try.prog f97c24 Q σ h = (wL Try.prog none f97r17 0 (fun σ h => Q .ret σ h) σ h) := rfl
theorem f97c22_eq : wC Try.prog f97c22 Q σ h = (bd (evO σ (.tmp 85)) fun v => bd (asB v) fun t => br t (wC Try.prog f97c23 (X.then (fun σ h => wC Try.prog f97c24 Q σ h) Q) σ h) (wC Try.prog f97c24 Q σ h)) := rfl
theorem f97c21_eq : wC Try.prog f97c21 Q σ h = (wL Try.prog none f97r15 0 (fun σ h => wC Try.prog f97c22 Q σ h) σ h) := rfl
theorem f97c20_eq : wC Try.prog f97c20 Q σ h = (drtW Try.prog f97r14 (fun σ h => wC Try.prog f97c21 Q σ h) σ h) := rfl
theorem f97c19_eq : wC Try.prog f97c19 Q σ h = (drwW Try.prog f97r13 (fun σ h => wC Try.prog f97c20 Q σ h) σ h) := rfl
theorem f97c28_eq : wC Try.prog f97c28 Q σ h = (wL Try.prog none f97r20 0 (fun σ h => Q .ret σ h) σ h) := rfl
theorem f97c27_eq : wC Try.prog f97c27 Q σ h = (drwW Try.prog f97r19 (fun σ h => wC Try.prog f97c28 Q σ h) σ h) := rfl
theorem f97c33_eq : wC Try.prog f97c33 Q σ h = (wL Try.prog none f97r24 0 (fun σ h => Q .ret σ h) σ h) := rfl
theorem f97c32_eq : wC Try.prog f97c32 Q σ h = (drtW Try.prog f97r23 (fun σ h => wC Try.prog f97c33 Q σ h) σ h) := rfl
theorem f97c31_eq : wC Try.prog f97c31 Q σ h = (drtW Try.prog f97r22 (fun σ h => wC Try.prog f97c32 Q σ h) σ h) := rfl
theorem f97c30_eq : wC Try.prog f97c30 Q σ h = (bd (evO σ (.tmp 121)) fun v => bd (asB v) fun t => br t (wC Try.prog f97c31 Q σ h) (Q .normal σ h)) := rfl
theorem f97c29_eq : wC Try.prog f97c29 Q σ h = (wL Try.prog none f97r21 0 (fun σ h => wC Try.prog f97c30 Q σ h) σ h) := rfl
theorem f97c26_eq : wC Try.prog f97c26 Q σ h = (bd (evO σ (.tmp 103)) fun v => bd (asB v) fun t => br t (wC Try.prog f97c27 Q σ h) (wC Try.prog f97c29 Q σ h)) := rfl
theorem f97c25_eq : wC Try.prog f97c25 Q σ h = (wL Try.prog none f97r18 0 (fun σ h => wC Try.prog f97c26 Q σ h) σ h) := rfl
theorem f97c18_eq : wC Try.prog f97c18 Q σ h = (bd (evO σ (.tmp 60)) fun v => bd (asB v) fun t => br t (wC Try.prog f97c19 Q σ h) (wC Try.prog f97c25 Q σ h)) := rfl
theorem f97c17_eq : wC Try.prog f97c17 Q σ h = (wL Try.prog none f97r12 0 (fun σ h => wC Try.prog f97c18 Q σ h) σ h) := rfl
theorem f97c10_eq : wC Try.prog f97c10 Q σ h = (bd (evO σ (.tmp 21)) fun v => bd (asB v) fun t => br t (wC Try.prog f97c11 Q σ h) (wC Try.prog f97c17 Q σ h)) := rfl
theorem f97c9_eq : wC Try.prog f97c9 Q σ h = (wL Try.prog none f97r6 0 (fun σ h => wC Try.prog f97c10 Q σ h) σ h) := rfl
theorem f97c7_eq : wC Try.prog f97c7 Q σ h = (bd (evO σ (.tmp 16)) fun v => bd (asB v) fun t => br t (wC Try.prog f97c8 Q σ h) (wC Try.prog f97c9 Q σ h)) := rfl
theorem f97c6_eq : wC Try.prog f97c6 Q σ h = (wL Try.prog none f97r4 0 (fun σ h => wC Try.prog f97c7 Q σ h) σ h) := rfl
theorem f97c4_eq : wC Try.prog f97c4 Q σ h = (bd (evO σ (.tmp 11)) fun v => bd (asB v) fun t => br t (wC Try.prog f97c5 Q σ h) (wC Try.prog f97c6 Q σ h)) := rfl
theorem f97c3_eq : wC Try.prog f97c3 Q σ h = (wL Try.prog none f97r2 0 (fun σ h => wC Try.prog f97c4 Q σ h) σ h) := rfl
theorem f97c34_eq : wC Try.prog f97c34 Q σ h = (wL Try.prog none f97r25 0 (fun σ h => Q .ret σ h) σ h) := rfl
theorem f97c2_eq : wC Try.prog f97c2 Q σ h = (wC Try.prog f97c3 (X.inBlock 0 (X.then (fun σ h => wC Try.prog f97c34 Q σ h) Q)) σ h) := rfl
theorem f97c1_eq : wC Try.prog f97c1 Q σ h = (wL Try.prog none f97r1 0 (fun σ h => wC Try.prog f97c2 Q σ h) σ h) := rfl
theorem f97c0_eq : wC Try.prog f97c0 Q σ h = (wL Try.prog none f97r0 0 (fun σ h => wC Try.prog f97c1 Q σ h) σ h) := rfl
end
def f126r0 : List I := [.op (.box 3 43 (.tmp 1)),
  .op (.new 4 47 [.int .i64 0, .slice none 0 0, .int .i64 0, .int .i64 0, .int .i64 0, .int .i64 0, .int .i64 0, .int .i64 0, .int .i64 0, .int .i64 0, .bool false]),
  .kp [0, 3, 4]]
def f126r1 : List I := [.op (.fad 14 8 (.tmp 3)),
  .op (.fad 15 0 (.tmp 14)),
  .op (.ld 16 none (.tmp 15)),
  .op (.mov 17 (.tmp 0)),
  .op (.nch (some 18) (.tmp 17)),
  .op (.fad 19 5 (.tmp 18)),
  .op (.ld 20 none (.tmp 19)),
  .op (.bin 21 .lss (.tmp 16) (.tmp 20)),
  .kp [0, 3, 4, 21]]
def f126r2 : List I := [.op (.mov 22 (.tmp 0)),
  .op (.nch (some 23) (.tmp 22)),
  .op (.fad 24 5 (.tmp 23)),
  .op (.ld 25 none (.tmp 24)),
  .op (.bld 26 [.int .i64 0, .slice none 0 0, .int .i64 0, .int .i64 0, .int .i64 0, .int .i64 0, .int .i64 0, .int .i64 0, .int .i64 0, .int .i64 0, .bool false] [(0, 1, (.const (.int .i64 24))), (9, 1, (.tmp 25))]),
  .op (.st 11 (.tmp 4) (.tmp 26)),
  .kp [4]]
def f126r3 : List I := [.op (.fad 27 12 (.tmp 3)),
  .op (.ld 28 none (.tmp 27)),
  .op (.len 29 true (.tmp 28)),
  .op (.mov 30 (.const (.int .i64 0))),
  .kp [0, 3, 4, 28, 29, 30]]
def f126r4 : List I := [.op (.bin 31 .lss (.tmp 30) (.tmp 29)),
  .kp [0, 3, 4, 28, 29, 30, 31]]
def f126r5 : List I := [.op (.iad 32 2 (.tmp 28) (.tmp 30)),
  .op (.ld 33 (some 2) (.tmp 32)),
  .op (.new 6 94 [.string ⟨#[]⟩, .string ⟨#[]⟩]),
  .op (.st 2 (.tmp 6) (.tmp 33)),
  .kp [0, 3, 4, 6, 28, 29, 30]]
def f126r6 : L := (.one [.op (.mov 35 (.tmp 0)),
  .op (.nch (some 36) (.tmp 35)),
  .op (.fad 37 6 (.tmp 36)),
  .op (.ld 38 none (.tmp 37)),
  .op (.ld 39 (some 2) (.tmp 6)),
  .op (.fad 40 8 (.tmp 3)),
  .op (.ld 41 (some 2) (.tmp 40))] (.alt (.one [.op (.call (some 42) 93 [(.tmp 38), (.tmp 39), (.tmp 41)]),
  .op (.mov 34 (.tmp 42)),
  .op (.ext 43 (.tmp 34) 0),
  .op (.ext 44 (.tmp 34) 1),
  .op (.new 7 72 [.int .i64 0, .int .i64 0, .int .i64 0, .int .i64 0, .int .i64 0, .int .i64 0, .int .i64 0, .bool false, .string ⟨#[]⟩]),
  .op (.st 9 (.tmp 7) (.tmp 43)),
  .op (.mov 8 (.tmp 44)),
  .kp [0, 3, 4, 7, 8, 28, 29, 30]] .nil) (.one [.op (.new 7 72 [.int .i64 0, .int .i64 0, .int .i64 0, .int .i64 0, .int .i64 0, .int .i64 0, .int .i64 0, .bool false, .string ⟨#[]⟩]),
  .op (.call (some 42) 93 [(.tmp 38), (.tmp 39), (.tmp 41)]),
  .op (.mov 34 (.tmp 42)),
  .op (.ext 43 (.tmp 34) 0),
  .op (.ext 44 (.tmp 34) 1),
  .op (.st 9 (.tmp 7) (.tmp 43)),
  .op (.mov 8 (.tmp 44)),
  .kp [0, 3, 4, 7, 8, 28, 29, 30]] .nil)))
def f126r7 : List I := [.op (.mov 45 (.tmp 8)),
  .kp [0, 3, 4, 7, 28, 29, 30, 45]]
def f126r8 : List I := [.op (.ld 46 (some 9) (.tmp 7)),
  .op (.call (some 47) 142 [(.tmp 46)]),
  .op (.st 11 (.tmp 4) (.tmp 47)),
  .kp [4]]
def f126r9 : List I := [.op (.bin 48 .add (.tmp 30) (.const (.int .i64 1))),
  .op (.mov 30 (.tmp 48)),
  .kp [0, 3, 4, 28, 29, 30]]
def f126r10 : List I := [.op (.bld 49 [.int .i64 0, .slice none 0 0, .int .i64 0, .int .i64 0, .int .i64 0, .int .i64 0, .int .i64 0, .int .i64 0, .int .i64 0, .int .i64 0, .bool false] []),
  .op (.new 9 47 [.int .i64 0, .slice none 0 0, .int .i64 0, .int .i64 0, .int .i64 0, .int .i64 0, .int .i64 0, .int .i64 0, .int .i64 0, .int .i64 0, .bool false]),
  .op (.st 11 (.tmp 9) (.tmp 49)),
  .kp [0, 3, 4, 9]]
def f126r11 : List I := [.op (.fad 50 12 (.tmp 3)),
  .op (.ld 51 none (.tmp 50)),
  .op (.len 52 true (.tmp 51)),
  .op (.mov 53 (.const (.int .i64 0))),
  .kp [0, 3, 4, 9, 51, 52, 53]]
def f126r12 : List I := [.op (.bin 54 .lss (.tmp 53) (.tmp 52)),
  .kp [0, 3, 4, 9, 51, 52, 53, 54]]
def f126r13 : List I := [.op (.iad 55 2 (.tmp 51) (.tmp 53)),
  .op (.ld 56 (some 2) (.tmp 55)),
  .op (.new 11 94 [.string ⟨#[]⟩, .string ⟨#[]⟩]),
  .op (.st 2 (.tmp 11) (.tmp 56)),
  .kp [0, 3, 4, 9, 11, 51, 52, 53]]
def f126r14 : List I := [.op (.mov 58 (.tmp 0)),
  .op (.nch (some 59) (.tmp 58)),
  .op (.fad 60 6 (.tmp 59)),
  .op (.ld 61 none (.tmp 60)),
  .op (.ld 62 (some 2) (.tmp 11)),
  .op (.fad 63 8 (.tmp 3)),
  .op (.ld 64 (some 2) (.tmp 63)),
  .op (.fad 65 1 (.tmp 9)),
  .op (.ld 66 none (.tmp 65)),
  .op (.len 67 true (.tmp 66)),
  .kp [0, 3, 4, 9, 51, 52, 53, 61, 62, 64, 67],
  .op (.bin 68 .sub (.const (.int .i64 512)) (.tmp 67)),
  .op (.call (some 69) 47 [(.tmp 61), (.tmp 62), (.tmp 64), (.tmp 68)]),
  .op (.mov 57 (.tmp 69)),
  .op (.ext 70 (.tmp 57) 0),
  .op (.ext 71 (.tmp 57) 1),
  .op (.mov 12 (.tmp 70)),
  .op (.mov 13 (.tmp 71)),
  .kp [0, 3, 4, 9, 12, 13, 51, 52, 53]]
def f126r15 : List I := [.op (.mov 72 (.tmp 13)),
  .op (.bin 73 .neq (.tmp 72) (.const (.int .i64 0))),
  .kp [0, 3, 4, 9, 12, 13, 51, 52, 53, 73]]
def f126r16 : List I := [.op (.mov 74 (.tmp 13)),
  .op (.bld 75 [.int .i64 0, .slice none 0 0, .int .i64 0, .int .i64 0, .int .i64 0, .int .i64 0, .int .i64 0, .int .i64 0, .int .i64 0, .int .i64 0, .bool false] [(0, 1, (.tmp 74))]),
  .op (.st 11 (.tmp 4) (.tmp 75)),
  .kp [4]]
def f126r17 : List I := [.op (.fad 76 1 (.tmp 9)),
  .op (.ld 77 none (.tmp 76)),
  .op (.mov 78 (.tmp 12)),
  .op (.raw (some 79) ⟨(some 79), (.call ⟨(.builtin .append), #[(.tmp 77), (.tmp 78)], #[45, 45]⟩), 45, "part.go:118", #[⟨1, .data⟩, ⟨2, .data⟩], none⟩),
  .op (.fad 80 1 (.tmp 9)),
  .op (.st 1 (.tmp 80) (.tmp 79)),
  .kp [0, 3, 4, 9, 51, 52, 53]]
def f126r18 : List I := [.op (.bin 81 .add (.tmp 53) (.const (.int .i64 1))),
  .op (.mov 53 (.tmp 81)),
  .kp [0, 3, 4, 9, 51, 52, 53]]
def f126r19 : List I := [.op (.mov 82 (.tmp 0)),
  .op (.mov 83 (.tmp 0)),
  .op (.nch (some 84) (.tmp 83)),
  .op (.fad 85 2 (.tmp 84)),
  .op (.fad 87 8 (.tmp 3)),
  .op (.ld 88 (some 2) (.tmp 87)),
  .opn (.ld 86 (some 2) (.tmp 85)),
  .op (.call (some 89) 143 [(.tmp 86), (.tmp 88)]),
  .op (.nch (some 90) (.tmp 82)),
  .op (.fad 91 2 (.tmp 90)),
  .kp [4, 9, 89, 91],
  .op (.st 2 (.tmp 91) (.tmp 89)),
  .kp [4, 9]]
def f126r20 : List I := [.op (.ld 92 (some 11) (.tmp 9)),
  .op (.st 11 (.tmp 4) (.tmp 92)),
  .kp [4]]
def f126c3 : C := (.seq (.reg f126r2) .ret)
def f126c13 : C := (.seq (.reg f126r8) .ret)
def f126c12 : C := (.cond (.tmp 45) f126c13 .skip)
def f126c11 : C := (.seq (.reg f126r7) f126c12)
def f126c10 : C := (.seq (.drt f126r6) f126c11)
def f126c9 : C := (.seq (.reg f126r5) f126c10)
def f126c14 : C := (.reg f126r9)
def f126c8 : C := (.seq (.block 1 f126c9) f126c14)
def f126c7 : C := (.seq (.cond (.tmp 31) .skip (.exit 0)) f126c8)
def f126c6 : C := (.seq (.reg f126r4) f126c7)
def f126c25 : C := (.seq (.reg f126r16) .ret)
def f126c26 : C := (.reg f126r17)
def f126c24 : C := (.seq (.cond (.tmp 73) f126c25 .skip) f126c26)
def f126c23 : C := (.seq (.reg f126r15) f126c24)
def f126c22 : C := (.seq (.drw f126r14) f126c23)
def f126c21 : C := (.seq (.reg f126r13) f126c22)
def f126c27 : C := (.reg f126r18)
def f126c20 : C := (.seq (.block 3 f126c21) f126c27)
def f126c19 : C := (.seq (.cond (.tmp 54) .skip (.exit 2)) f126c20)
def f126c18 : C := (.seq (.reg f126r12) f126c19)
def f126c29 : C := (.seq (.reg f126r20) .ret)
def f126c28 : C := (.seq (.drw f126r19) f126c29)
def f126c17 : C := (.seq (.block 2 (.loop f126c18)) f126c28)
def f126c16 : C := (.seq (.reg f126r11) f126c17)
def f126c15 : C := (.seq (.reg f126r10) f126c16)
def f126c5 : C := (.seq (.block 0 (.loop f126c6)) f126c15)
def f126c4 : C := (.seq (.reg f126r3) f126c5)
def f126c2 : C := (.seq (.cond (.tmp 21) f126c3 .skip) f126c4)
def f126c1 : C := (.seq (.drw f126r1) f126c2)
def f126c0 : C := (.seq (.reg f126r0) f126c1)
theorem f126cmp : cmpF Try.prog Try.f126 [.l [.o 0, .o 1, .kp [0, 3, 4]],
  .l [.o 0, .o 1, .o 2, .o 3, .o 4, .o 5, .o 6, .o 7, .kp [0, 3, 4, 21]],
  .l [.o 0, .o 1, .o 2, .o 3, .o 4, .o 5, .kp [4]],
  .l [.o 0, .o 1, .o 2, .o 3, .kp [0, 3, 4, 28, 29, 30]],
  .l [.o 0, .kp [0, 3, 4, 28, 29, 30, 31]],
  .l [.o 0, .o 1, .o 2, .o 3, .kp [0, 3, 4, 6, 28, 29, 30]],
  .t (.one [.o 0, .o 1, .o 2, .o 3, .o 4, .o 5, .o 6] (.alt (.one [.o 7, .o 8, .o 9, .o 10, .o 11, .o 12, .o 13, .kp [0, 3, 4, 7, 8, 28, 29, 30]] .nil) (.one [.o 11, .o 7, .o 8, .o 9, .o 10, .o 12, .o 13, .kp [0, 3, 4, 7, 8, 28, 29, 30]] .nil))),
  .l [.o 0, .kp [0, 3, 4, 7, 28, 29, 30, 45]],
  .l [.o 0, .o 1, .o 2, .kp [4]],
  .l [.o 0, .o 1, .kp [0, 3, 4, 28, 29, 30]],
  .l [.o 0, .o 1, .o 2, .kp [0, 3, 4, 9]],
  .l [.o 0, .o 1, .o 2, .o 3, .kp [0, 3, 4, 9, 51, 52, 53]],
  .l [.o 0, .kp [0, 3, 4, 9, 51, 52, 53, 54]],
  .l [.o 0, .o 1, .o 2, .o 3, .kp [0, 3, 4, 9, 11, 51, 52, 53]],
  .l [.o 0, .o 1, .o 2, .o 3, .o 4, .o 5, .o 6, .o 7, .o 8, .o 9, .kp [0, 3, 4, 9, 51, 52, 53, 61, 62, 64, 67], .o 10, .o 11, .o 12, .o 13, .o 14, .o 15, .o 16, .kp [0, 3, 4, 9, 12, 13, 51, 52, 53]],
  .l [.o 0, .o 1, .kp [0, 3, 4, 9, 12, 13, 51, 52, 53, 73]],
  .l [.o 0, .o 1, .o 2, .kp [4]],
  .l [.o 0, .o 1, .o 2, .o 3, .o 4, .o 5, .kp [0, 3, 4, 9, 51, 52, 53]],
  .l [.o 0, .o 1, .kp [0, 3, 4, 9, 51, 52, 53]],
  .l [.o 0, .o 1, .o 2, .o 3, .o 5, .o 6, .x 4, .o 7, .o 8, .o 9, .kp [4, 9, 89, 91], .o 10, .kp [4, 9]],
  .l [.o 0, .o 1, .kp [4]]] = some (f126c0, [.cell 4 11]) := by kernel_rfl
theorem f126ok {args : List Value} {h : Heap} {R : Value → Heap → Prop} (hn : args.length ≤ 93) (H : wC Try.prog f126c0 (endW [.cell 4 11] R) (envOf 0 args) h) : CallsH Try.prog 126 args h R :=
  fn_ok2 Try.func126 f126cmp hn H
section
variable {Q : X → Env → Heap → Prop} {σ : Env} {h : Heap}
theorem f126c3_eq : wC Try.prog f126c3 Q σ h = (wL Try.prog none f126r2 0 (fun σ h => Q .ret σ h) σ h) := rfl
theorem f126c13_eq : wC Try.prog f126c13 Q σ h = (wL Try.prog none f126r8 0 (fun σ h => Q .ret σ h) σ h) := rfl
theorem f126c12_eq : wC Try.prog f126c12 Q σ h = (bd (evO σ (.tmp 45)) fun v => bd (asB v) fun t => br t (wC Try.prog f126c13 Q σ h) (Q .normal σ h)) := rfl
theorem f126c11_eq : wC Try.prog f126c11 Q σ h = (wL Try.prog none f126r7 0 (fun σ h => wC Try.prog f126c12 Q σ h) σ h) := rfl
theorem f126c10_eq : wC Try.prog f126c10 Q σ h = (drtW Try.prog f126r6 (fun σ h => wC Try.prog f126c11 Q σ h) σ h) := rfl
theorem f126c9_eq : wC Try.prog f126c9 Q σ h = (wL Try.prog none f126r5 0 (fun σ h => wC Try.prog f126c10 Q σ h) σ h) := rfl
theorem f126c14_eq : wC Try.prog f126c14 Q σ h = (wL Try.prog none f126r9 0 (fun σ h => Q .normal σ h) σ h) := rfl
theorem f126c8_eq : wC Try.prog f126c8 Q σ h = (wC Try.prog f126c9 (X.inBlock 1 (X.then (fun σ h => wC Try.prog f126c14 Q σ h) Q)) σ h) := rfl
theorem f126c7_eq : wC Try.prog f126c7 Q σ h = (bd (evO σ (.tmp 31)) fun v => bd (asB v) fun t => br t (wC Try.prog f126c8 Q σ h) (Q (.exit 0) σ h)) := rfl
theorem f126c6_eq : wC Try.prog f126c6 Q σ h = (wL Try.prog none f126r4 0 (fun σ h => wC Try.prog f126c7 Q σ h) σ h) := rfl
theorem f126c25_eq : wC Try.prog f126c25 Q σ h = (wL Try.prog none f126r16 0 (fun σ h => Q .ret σ h) σ h) := rfl
theorem f126c26_eq : wC Try.prog f126c26 Q σ h = (wL Try.prog none f126r17 0 (fun σ h => Q .normal σ h) σ h) := rfl
theorem f126c24_eq : wC Try.prog f126c24 Q σ h = (bd (evO σ (.tmp 73)) fun v => bd (asB v) fun t => br t (wC Try.prog f126c25 (X.then (fun σ h => wC Try.prog f126c26 Q σ h) Q) σ h) (wC Try.prog f126c26 Q σ h)) := rfl
theorem f126c23_eq : wC Try.prog f126c23 Q σ h = (wL Try.prog none f126r15 0 (fun σ h => wC Try.prog f126c24 Q σ h) σ h) := rfl
theorem f126c22_eq : wC Try.prog f126c22 Q σ h = (drwW Try.prog f126r14 (fun σ h => wC Try.prog f126c23 Q σ h) σ h) := rfl
theorem f126c21_eq : wC Try.prog f126c21 Q σ h = (wL Try.prog none f126r13 0 (fun σ h => wC Try.prog f126c22 Q σ h) σ h) := rfl
theorem f126c27_eq : wC Try.prog f126c27 Q σ h = (wL Try.prog none f126r18 0 (fun σ h => Q .normal σ h) σ h) := rfl
theorem f126c20_eq : wC Try.prog f126c20 Q σ h = (wC Try.prog f126c21 (X.inBlock 3 (X.then (fun σ h => wC Try.prog f126c27 Q σ h) Q)) σ h) := rfl
theorem f126c19_eq : wC Try.prog f126c19 Q σ h = (bd (evO σ (.tmp 54)) fun v => bd (asB v) fun t => br t (wC Try.prog f126c20 Q σ h) (Q (.exit 2) σ h)) := rfl
theorem f126c18_eq : wC Try.prog f126c18 Q σ h = (wL Try.prog none f126r12 0 (fun σ h => wC Try.prog f126c19 Q σ h) σ h) := rfl
theorem f126c29_eq : wC Try.prog f126c29 Q σ h = (wL Try.prog none f126r20 0 (fun σ h => Q .ret σ h) σ h) := rfl
theorem f126c28_eq : wC Try.prog f126c28 Q σ h = (drwW Try.prog f126r19 (fun σ h => wC Try.prog f126c29 Q σ h) σ h) := rfl
theorem f126c17_eq : wC Try.prog f126c17 Q σ h = (loopW (wC Try.prog f126c18) (X.inBlock 2 (X.then (fun σ h => wC Try.prog f126c28 Q σ h) Q)) σ h) := rfl
theorem f126c16_eq : wC Try.prog f126c16 Q σ h = (wL Try.prog none f126r11 0 (fun σ h => wC Try.prog f126c17 Q σ h) σ h) := rfl
theorem f126c15_eq : wC Try.prog f126c15 Q σ h = (wL Try.prog none f126r10 0 (fun σ h => wC Try.prog f126c16 Q σ h) σ h) := rfl
theorem f126c5_eq : wC Try.prog f126c5 Q σ h = (loopW (wC Try.prog f126c6) (X.inBlock 0 (X.then (fun σ h => wC Try.prog f126c15 Q σ h) Q)) σ h) := rfl
theorem f126c4_eq : wC Try.prog f126c4 Q σ h = (wL Try.prog none f126r3 0 (fun σ h => wC Try.prog f126c5 Q σ h) σ h) := rfl
theorem f126c2_eq : wC Try.prog f126c2 Q σ h = (bd (evO σ (.tmp 21)) fun v => bd (asB v) fun t => br t (wC Try.prog f126c3 (X.then (fun σ h => wC Try.prog f126c4 Q σ h) Q) σ h) (wC Try.prog f126c4 Q σ h)) := rfl
theorem f126c1_eq : wC Try.prog f126c1 Q σ h = (drwW Try.prog f126r1 (fun σ h => wC Try.prog f126c2 Q σ h) σ h) := rfl
theorem f126c0_eq : wC Try.prog f126c0 Q σ h = (wL Try.prog none f126r0 0 (fun σ h => wC Try.prog f126c1 Q σ h) σ h) := rfl
end
def f127r0 : List I := [.op (.box 3 43 (.tmp 1)),
  .op (.new 4 47 [.int .i64 0, .slice none 0 0, .int .i64 0, .int .i64 0, .int .i64 0, .int .i64 0, .int .i64 0, .int .i64 0, .int .i64 0, .int .i64 0, .bool false]),
  .kp [0, 3, 4]]
def f127r1 : L := (.one [.op (.mov 14 (.tmp 0)),
  .op (.nch (some 15) (.tmp 14)),
  .op (.fad 16 8 (.tmp 15)),
  .op (.ld 17 none (.tmp 16)),
  .op (.fad 18 4 (.tmp 3)),
  .op (.ld 19 (some 4) (.tmp 18))] (.alt (.one [.op (.call (some 20) 63 [(.tmp 17), (.tmp 19)]),
  .op (.mov 13 (.tmp 20)),
  .op (.ext 21 (.tmp 13) 0),
  .op (.ext 22 (.tmp 13) 1),
  .op (.new 5 126 [.int .i64 0, .int .i64 0, .int .i64 0, .int .i64 0, .int .i64 0, .int .i64 0, .bool false]),
  .op (.st 7 (.tmp 5) (.tmp 21)),
  .op (.mov 6 (.tmp 22)),
  .kp [0, 3, 4, 5, 6]] .nil) (.one [.op (.new 5 126 [.int .i64 0, .int .i64 0, .int .i64 0, .int .i64 0, .int .i64 0, .int .i64 0, .bool false]),
  .op (.call (some 20) 63 [(.tmp 17), (.tmp 19)]),
  .op (.mov 13 (.tmp 20)),
  .op (.ext 21 (.tmp 13) 0),
  .op (.ext 22 (.tmp 13) 1),
  .op (.st 7 (.tmp 5) (.tmp 21)),
  .op (.mov 6 (.tmp 22)),
  .kp [0, 3, 4, 5, 6]] .nil)))
def f127r2 : List I := [.op (.mov 23 (.tmp 6)),
  .kp [0, 3, 4, 5, 23]]
def f127r3 : List I := [.op (.fad 24 6 (.tmp 5)),
  .op (.ld 25 none (.tmp 24)),
  .op (.bld 26 [.int .i64 0, .slice none 0 0, .int .i64 0, .int .i64 0, .int .i64 0, .int .i64 0, .int .i64 0, .int .i64 0, .int .i64 0, .int .i64 0, .bool false] [(0, 1, (.const (.int .i64 26))), (10, 1, (.tmp 25))]),
  .op (.st 11 (.tmp 4) (.tmp 26)),
  .kp [4]]
def f127r4 : List I := [.op (.mov 28 (.tmp 0)),
  .op (.nch (some 29) (.tmp 28)),
  .op (.fad 30 6 (.tmp 29)),
  .op (.ld 31 none (.tmp 30)),
  .op (.fad 32 4 (.tmp 3)),
  .op (.ld 33 (some 4) (.tmp 32)),
  .op (.call (some 34) 38 [(.tmp 31), (.tmp 33)]),
  .op (.mov 27 (.tmp 34)),
  .kp [0, 3, 4, 27]]
def f127r5 : List I := [.op (.bld 35 [.int .i64 0, .slice none 0 0, .int .i64 0, .int .i64 0, .int .i64 0, .int .i64 0, .int .i64 0, .int .i64 0, .int .i64 0, .int .i64 0, .bool false] []),
  .op (.st 11 (.tmp 4) (.tmp 35)),
  .kp [4]]
def f127r6 : List I := [.op (.fad 37 8 (.tmp 3)),
  .op (.fad 38 0 (.tmp 37)),
  .op (.ld 39 none (.tmp 38)),
  .op (.mov 40 (.tmp 0)),
  .op (.nch (some 41) (.tmp 40)),
  .op (.fad 42 4 (.tmp 41)),
  .op (.ld 43 none (.tmp 42)),
  .op (.bin 44 .leq (.tmp 39) (.tmp 43)),
  .op (.mov 36 (.tmp 44)),
  .kp [0, 3, 4, 36]]
def f127r7 : List I := [.op (.mov 45 (.tmp 0)),
  .op (.nch (some 46) (.tmp 45)),
  .op (.fad 47 4 (.tmp 46)),
  .op (.ld 48 none (.tmp 47)),
  .op (.bld 49 [.int .i64 0, .slice none 0 0, .int .i64 0, .int .i64 0, .int .i64 0, .int .i64 0, .int .i64 0, .int .i64 0, .int .i64 0, .int .i64 0, .bool false] [(0, 1, (.const (.int .i64 21))), (9, 1, (.tmp 48))]),
  .op (.st 11 (.tmp 4) (.tmp 49)),
  .kp [4]]
def f127r8 : List I := [.op (.fad 51 8 (.tmp 3)),
  .op (.ld 52 (some 2) (.tmp 51)),
  .op (.mov 53 (.tmp 0)),
  .op (.nch (some 54) (.tmp 53)),
  .op (.fad 55 2 (.tmp 54)),
  .op (.ld 56 (some 2) (.tmp 55)),
  .op (.call (some 57) 90 [(.tmp 52), (.tmp 56)]),
  .op (.mov 50 (.tmp 57)),
  .kp [0, 3, 4, 50]]
def f127r9 : List I := [.op (.mov 58 (.tmp 0)),
  .op (.nch (some 59) (.tmp 58)),
  .op (.fad 60 2 (.tmp 59)),
  .op (.ld 61 (some 2) (.tmp 60)),
  .op (.bld 62 [.int .i64 0, .slice none 0 0, .int .i64 0, .int .i64 0, .int .i64 0, .int .i64 0, .int .i64 0, .int .i64 0, .int .i64 0, .int .i64 0, .bool false] [(0, 1, (.const (.int .i64 22))), (7, 2, (.tmp 61))]),
  .op (.st 11 (.tmp 4) (.tmp 62)),
  .kp [4]]
def f127r10 : List I := [.op (.fad 63 13 (.tmp 3)),
  .op (.ld 64 none (.tmp 63)),
  .op (.len 65 true (.tmp 64)),
  .op (.mov 66 (.const (.int .i64 0))),
  .kp [0, 3, 4, 64, 65, 66]]
def f127r11 : List I := [.op (.bin 67 .lss (.tmp 66) (.tmp 65)),
  .kp [0, 3, 4, 64, 65, 66, 67]]
def f127r12 : List I := [.op (.iad 68 3 (.tmp 64) (.tmp 66)),
  .op (.ld 69 (some 3) (.tmp 68)),
  .op (.new 8 70 [.string ⟨#[]⟩, .bool false, .string ⟨#[]⟩]),
  .op (.st 3 (.tmp 8) (.tmp 69)),
  .kp [0, 3, 4, 8, 64, 65, 66]]
def f127r13 : L := (.one [.op (.mov 71 (.tmp 0)),
  .op (.nch (some 72) (.tmp 71)),
  .op (.fad 73 6 (.tmp 72)),
  .op (.ld 74 none (.tmp 73)),
  .op (.fad 75 0 (.tmp 8)),
  .op (.ld 76 none (.tmp 75))] (.alt (.one [.op (.call (some 77) 44 [(.tmp 74), (.tmp 76)]),
  .op (.mov 70 (.tmp 77)),
  .op (.ext 78 (.tmp 70) 0),
  .op (.ext 79 (.tmp 70) 1),
  .op (.new 9 72 [.int .i64 0, .int .i64 0, .int .i64 0, .int .i64 0, .int .i64 0, .int .i64 0, .int .i64 0, .bool false, .string ⟨#[]⟩]),
  .op (.st 9 (.tmp 9) (.tmp 78)),
  .op (.mov 10 (.tmp 79)),
  .kp [0, 3, 4, 9, 10, 64, 65, 66]] .nil) (.one [.op (.new 9 72 [.int .i64 0, .int .i64 0, .int .i64 0, .int .i64 0, .int .i64 0, .int .i64 0, .int .i64 0, .bool false, .string ⟨#[]⟩]),
  .op (.call (some 77) 44 [(.tmp 74), (.tmp 76)]),
  .op (.mov 70 (.tmp 77)),
  .op (.ext 78 (.tmp 70) 0),
  .op (.ext 79 (.tmp 70) 1),
  .op (.st 9 (.tmp 9) (.tmp 78)),
  .op (.mov 10 (.tmp 79)),
  .kp [0, 3, 4, 9, 10, 64, 65, 66]] .nil)))
def f127r14 : List I := [.op (.mov 80 (.tmp 10)),
  .kp [0, 3, 4, 9, 64, 65, 66, 80]]
def f127r15 : List I := [.op (.ld 81 (some 9) (.tmp 9)),
  .op (.call (some 82) 142 [(.tmp 81)]),
  .op (.st 11 (.tmp 4) (.tmp 82)),
  .kp [4]]
def f127r16 : List I := [.op (.bin 83 .add (.tmp 66) (.const (.int .i64 1))),
  .op (.mov 66 (.tmp 83)),
  .kp [0, 3, 4, 64, 65, 66]]
def f127r17 : List I := [.op (.fad 84 13 (.tmp 3)),
  .op (.ld 85 none (.tmp 84)),
  .op (.len 86 true (.tmp 85)),
  .op (.mov 87 (.const (.int .i64 0))),
  .kp [0, 3, 4, 85, 86, 87]]
def f127r18 : List I := [.op (.bin 88 .lss (.tmp 87) (.tmp 86)),
  .kp [0, 3, 4, 85, 86, 87, 88]]
def f127r19 : List I := [.op (.iad 89 3 (.tmp 85) (.tmp 87)),
  .op (.ld 90 (some 3) (.tmp 89)),
  .op (.new 12 70 [.string ⟨#[]⟩, .bool false, .string ⟨#[]⟩]),
  .op (.st 3 (.tmp 12) (.tmp 90)),
  .kp [0, 3, 4, 12, 85, 86, 87]]
def f127r20 : List I := [.op (.mov 91 (.tmp 0)),
  .op (.mov 92 (.tmp 0)),
  .op (.nch (some 93) (.tmp 92)),
  .op (.fad 94 6 (.tmp 93)),
  .op (.ld 96 (some 3) (.tmp 12)),
  .op (.fad 97 4 (.tmp 3)),
  .op (.ld 98 (some 4) (.tmp 97)),
  .op (.fad 99 3 (.tmp 3)),
  .op (.ld 100 none (.tmp 99)),
  .op (.fad 101 8 (.tmp 3)),
  .kp [0, 3, 4, 85, 86, 87, 91, 94, 96, 98, 100, 101],
  .op (.ld 102 (some 2) (.tmp 101)),
  .op (.bld 103 [.int .i64 0, .int .i64 0, .int .i64 0, .int .i64 0, .int .i64 0, .int .i64 0, .int .i64 0, .bool false, .string ⟨#[]⟩] [(0, 4, (.tmp 98)), (4, 1, (.tmp 100)), (5, 2, (.tmp 102))]),
  .opn (.ld 95 none (.tmp 94)),
  .op (.call (some 104) 40 [(.tmp 95), (.tmp 96), (.tmp 103)]),
  .op (.nch (some 105) (.tmp 91)),
  .op (.fad 106 6 (.tmp 105)),
  .op (.st 1 (.tmp 106) (.tmp 104)),
  .kp [0, 3, 4, 85, 86, 87]]
def f127r21 : List I := [.op (.bin 107 .add (.tmp 87) (.const (.int .i64 1))),
  .op (.mov 87 (.tmp 107)),
  .kp [0, 3, 4, 85, 86, 87]]
def f127r22 : List I := [.op (.bld 108 [.int .i64 0, .slice none 0 0, .int .i64 0, .int .i64 0, .int .i64 0, .int .i64 0, .int .i64 0, .int .i64 0, .int .i64 0, .int .i64 0, .bool false] []),
  .op (.st 11 (.tmp 4) (.tmp 108)),
  .kp [4]]
def f127c4 : C := (.seq (.reg f127r3) .ret)
def f127c8 : C := (.seq (.reg f127r5) .ret)
def f127c11 : C := (.seq (.reg f127r7) .ret)
def f127c14 : C := (.seq (.reg f127r9) .ret)
def f127c13 : C := (.cond (.tmp 50) f127c14 .skip)
def f127c12 : C := (.seq (.drw f127r8) f127c13)
def f127c10 : C := (.cond (.tmp 36) f127c11 f127c12)
def f127c9 : C := (.seq (.drw f127r6) f127c10)
def f127c7 : C := (.cond (.tmp 27) f127c8 f127c9)
def f127c6 : C := (.seq (.drw f127r4) f127c7)
def f127c24 : C := (.seq (.reg f127r15) .ret)
def f127c23 : C := (.cond (.tmp 80) f127c24 .skip)
def f127c22 : C := (.seq (.reg f127r14) f127c23)
def f127c21 : C := (.seq (.drt f127r13) f127c22)
def f127c20 : C := (.seq (.reg f127r12) f127c21)
def f127c25 : C := (.reg f127r16)
def f127c19 : C := (.seq (.block 2 f127c20) f127c25)
def f127c18 : C := (.seq (.cond (.tmp 67) .skip (.exit 1)) f127c19)
def f127c17 : C := (.seq (.reg f127r11) f127c18)
def f127c32 : C := (.drw f127r20)
def f127c31 : C := (.seq (.reg f127r19) f127c32)
def f127c33 : C := (.reg f127r21)
def f127c30 : C := (.seq (.block 4 f127c31) f127c33)
def f127c29 : C := (.seq (.cond (.tmp 88) .skip (.exit 3)) f127c30)
def f127c28 : C := (.seq (.reg f127r18) f127c29)
def f127c34 : C := (.seq (.reg f127r22) .ret)
def f127c27 : C := (.seq (.block 3 (.loop f127c28)) f127c34)
def f127c26 : C := (.seq (.reg f127r17) f127c27)
def f127c16 : C := (.seq (.block 1 (.loop f127c17)) f127c26)
def f127c15 : C := (.seq (.reg f127r10) f127c16)
def f127c5 : C := (.seq (.block 0 f127c6) f127c15)
def f127c3 : C := (.seq (.cond (.tmp 23) f127c4 .skip) f127c5)
def f127c2 : C := (.seq (.reg f127r2) f127c3)
def f127c1 : C := (.seq (.drt f127r1) f127c2)
def f127c0 : C := (.seq (.reg f127r0) f127c1)
theorem f127cmp : cmpF Try.prog Try.f127 [.l [.o 0, .o 1, .kp [0, 3, 4]],
  .t (.one [.o 0, .o 1, .o 2, .o 3, .o 4, .o 5] (.alt (.one [.o 6, .o 7, .o 8, .o 9, .o 10, .o 11, .o 12, .kp [0, 3, 4, 5, 6]] .nil) (.one [.o 10, .o 6, .o 7, .o 8, .o 9, .o 11, .o 12, .kp [0, 3, 4, 5, 6]] .nil))),
  .l [.o 0, .kp [0, 3, 4, 5, 23]],
  .l [.o 0, .o 1, .o 2, .o 3, .kp [4]],
  .l [.o 0, .o 1, .o 2, .o 3, .o 4, .o 5, .o 6, .o 7, .kp [0, 3, 4, 27]],
  .l [.o 0, .o 1, .kp [4]],
  .l [.o 0, .o 1, .o 2, .o 3, .o 4, .o 5, .o 6, .o 7, .o 8, .kp [0, 3, 4, 36]],
  .l [.o 0, .o 1, .o 2, .o 3, .o 4, .o 5, .kp [4]],
  .l [.o 0, .o 1, .o 2, .o 3, .o 4, .o 5, .o 6, .o 7, .kp [0, 3, 4, 50]],
  .l [.o 0, .o 1, .o 2, .o 3, .o 4, .o 5, .kp [4]],
  .l [.o 0, .o 1, .o 2, .o 3, .kp [0, 3, 4, 64, 65, 66]],
  .l [.o 0, .kp [0, 3, 4, 64, 65, 66, 67]],
  .l [.o 0, .o 1, .o 2, .o 3, .kp [0, 3, 4, 8, 64, 65, 66]],
  .t (.one [.o 0, .o 1, .o 2, .o 3, .o 4, .o 5] (.alt (.one [.o 6, .o 7, .o 8, .o 9, .o 10, .o 11, .o 12, .kp [0, 3, 4, 9, 10, 64, 65, 66]] .nil) (.one [.o 10, .o 6, .o 7, .o 8, .o 9, .o 11, .o 12, .kp [0, 3, 4, 9, 10, 64, 65, 66]] .nil))),
  .l [.o 0, .kp [0, 3, 4, 9, 64, 65, 66, 80]],
  .l [.o 0, .o 1, .o 2, .kp [4]],
  .l [.o 0, .o 1, .kp [0, 3, 4, 64, 65, 66]],
  .l [.o 0, .o 1, .o 2, .o 3, .kp [0, 3, 4, 85, 86, 87]],
  .l [.o 0, .kp [0, 3, 4, 85, 86, 87, 88]],
  .l [.o 0, .o 1, .o 2, .o 3, .kp [0, 3, 4, 12, 85, 86, 87]],
  .l [.o 0, .o 1, .o 2, .o 3, .o 5, .o 6, .o 7, .o 8, .o 9, .o 10, .kp [0, 3, 4, 85, 86, 87, 91, 94, 96, 98, 100, 101], .o 11, .o 12, .x 4, .o 13, .o 14, .o 15, .o 16, .kp [0, 3, 4, 85, 86, 87]],
  .l [.o 0, .o 1, .kp [0, 3, 4, 85, 86, 87]],
  .l [.o 0, .o 1, .kp [4]]] = some (f127c0, [.cell 4 11]) := by kernel_rfl
theorem f127ok {args : List Value} {h : Heap} {R : Value → Heap → Prop} (hn : args.length ≤ 109) (H : wC Try.prog f127c0 (endW [.cell 4 11] R) (envOf 0 args) h) : CallsH Try.prog 127 args h R :=
  fn_ok2 Try.func127 f127cmp hn H
section
variable {Q : X → Env → Heap → Prop} {σ : Env} {h : Heap}
theorem f127c4_eq : wC Try.prog f127c4 Q σ h = (wL Try.prog none f127r3 0 (fun σ h => Q .ret σ h) σ h) := rfl
theorem f127c8_eq : wC Try.prog f127c8 Q σ h = (wL Try.prog none f127r5 0 (fun σ h => Q .ret σ h) σ h) := rfl
theorem f127c11_eq : wC Try.prog f127c11 Q σ h = (wL Try.prog none f127r7 0 (fun σ h => Q .ret σ h) σ h) := rfl
theorem f127c14_eq : wC Try.prog f127c14 Q σ h = (wL Try.prog none f127r9 0 (fun σ h => Q .ret σ h) σ h) := rfl
theorem f127c13_eq : wC Try.prog f127c13 Q σ h = (bd (evO σ (.tmp 50)) fun v => bd (asB v) fun t => br t (wC Try.prog f127c14 Q σ h) (Q .normal σ h)) := rfl
theorem f127c12_eq : wC Try.prog f127c12 Q σ h = (drwW Try.prog f127r8 (fun σ h => wC Try.prog f127c13 Q σ h) σ h) := rfl
theorem f127c10_eq : wC Try.prog f127c10 Q σ h = (bd (evO σ (.tmp 36)) fun v => bd (asB v) fun t => br t (wC Try.prog f127c11 Q σ h) (wC Try.prog f127c12 Q σ h)) := rfl
theorem f127c9_eq : wC Try.prog f127c9 Q σ h = (drwW Try.prog f127r6 (fun σ h => wC Try.prog f127c10 Q σ h) σ h) := rfl
theorem f127c7_eq : wC Try.prog f127c7 Q σ h = (bd (evO σ (.tmp 27)) fun v => bd (asB v) fun t => br t (wC Try.prog f127c8 Q σ h) (wC Try.prog f127c9 Q σ h)) := rfl
theorem f127c6_eq : wC Try.prog f127c6 Q σ h = (drwW Try.prog f127r4 (fun σ h => wC Try.prog f127c7 Q σ h) σ h) := rfl
theorem f127c24_eq : wC Try.prog f127c24 Q σ h = (wL Try.prog none f127r15 0 (fun σ h => Q .ret σ h) σ h) := rfl
theorem f127c23_eq : wC Try.prog f127c23 Q σ h = (bd (evO σ (.tmp 80)) fun v => bd (asB v) fun t => br t (wC Try.prog f127c24 Q σ h) (Q .normal σ h)) := rfl
theorem f127c22_eq : wC Try.prog f127c22 Q σ h = (wL Try.prog none f127r14 0 (fun σ h => wC Try.prog f127c23 Q σ h) σ h) := rfl
theorem f127c21_eq : wC Try.prog f127c21 Q σ h = (drtW Try.prog f127r13 (fun σ h => wC Try.prog f127c22 Q σ h) σ h) := rfl
theorem f127c20_eq : wC Try.prog f127c20 Q σ h = (wL Try.prog none f127r12 0 (fun σ h => wC Try.prog f127c21 Q σ h) σ h) := rfl
theorem f127c25_eq : wC Try.prog f127c25 Q σ h = (wL Try.prog none f127r16 0 (fun σ h => Q .normal σ h) σ h) := rfl
theorem f127c19_eq : wC Try.prog f127c19 Q σ h = (wC Try.prog f127c20 (X.inBlock 2 (X.then (fun σ h => wC Try.prog f127c25 Q σ h) Q)) σ h) := rfl
theorem f127c18_eq : wC Try.prog f127c18 Q σ h = (bd (evO σ (.tmp 67)) fun v => bd (asB v) fun t => br t (wC Try.prog f127c19 Q σ h) (Q (.exit 1) σ h)) := rfl
theorem f127c17_eq : wC Try.prog f127c17 Q σ h = (wL Try.prog none f127r11 0 (fun σ h => wC Try.prog f127c18 Q σ h) σ h) := rfl
theorem f127c32_eq : wC Try.prog f127c32 Q σ h = (drwW Try.prog f127r20 (fun σ h => Q .normal σ h) σ h) := rfl
theorem f127c31_eq : wC Try.prog f127c31 Q σ h = (wL Try.prog none f127r19 0 (fun σ h => wC Try.prog f127c32 Q σ h) σ h) := rfl
theorem f127c33_eq : wC Try.prog f127c33 Q σ h = (wL Try.prog none f127r21 0 (fun σ h => Q .normal σ h) σ h) := rfl
theorem f127c30_eq : wC Try.prog f127c30 Q σ h = (wC Try.prog f127c31 (X.inBlock 4 (X.then (fun σ h => wC Try.prog f127c33 Q σ h) Q)) σ h) := rfl
theorem f127c29_eq : wC Try.prog f127c29 Q σ h = (bd (evO σ (.tmp 88)) fun v => bd (asB v) fun t => br t (wC Try.prog f127c30 Q σ h) (Q (.exit 3) σ h)) := rfl
theorem f127c28_eq : wC Try.prog f127c28 Q σ h = (wL Try.prog none f127r18 0 (fun σ h => wC Try.prog f127c29 Q σ h) σ h) := rfl
theorem f127c34_eq : wC Try.prog f127c34 Q σ h = (wL Try.prog none f127r22 0 (fun σ h => Q .ret σ h) σ h) := rfl
theorem f127c27_eq : wC Try.prog f127c27 Q σ h = (loopW (wC Try.prog f127c28) (X.inBlock 3 (X.then (fun σ h => wC Try.prog f127c34 Q σ h) Q)) σ h) := rfl
theorem f127c26_eq : wC Try.prog f127c26 Q σ h = (wL Try.prog none f127r17 0 (fun σ h => wC Try.prog f127c27 Q σ h) σ h) := rfl
theorem f127c16_eq : wC Try.prog f127c16 Q σ h = (loopW (wC Try.prog f127c17) (X.inBlock 1 (X.then (fun σ h => wC Try.prog f127c26 Q σ h) Q)) σ h) := rfl
theorem f127c15_eq : wC Try.prog f127c15 Q σ h = (wL Try.prog none f127r10 0 (fun σ h => wC Try.prog f127c16 Q σ h) σ h) := rfl
theorem f127c5_eq : wC Try.prog f127c5 Q σ h = (wC Try.prog f127c6 (X.inBlock 0 (X.then (fun σ h => wC Try.prog f127c15 Q σ h) Q)) σ h) := rfl
theorem f127c3_eq : wC Try.prog f127c3 Q σ h = (bd (evO σ (.tmp 23)) fun v => bd (asB v) fun t => br t (wC Try.prog f127c4 (X.then (fun σ h => wC Try.prog f127c5 Q σ h) Q) σ h) (wC Try.prog f127c5 Q σ h)) := rfl
theorem f127c2_eq : wC Try.prog f127c2 Q σ h = (wL Try.prog none f127r2 0 (fun σ h => wC Try.prog f127c3 Q σ h) σ h) := rfl
theorem f127c1_eq : wC Try.prog f127c1 Q σ h = (drtW Try.prog f127r1 (fun σ h => wC Try.prog f127c2 Q σ h) σ h) := rfl
theorem f127c0_eq : wC Try.prog f127c0 Q σ h = (wL Try.prog none f127r0 0 (fun σ h => wC Try.prog f127c1 Q σ h) σ h) := rfl
end
end Go.Proofs.Ytefghfgmkndikaa
namespace Go.Proofs.Ytefghfgmkndikaa
open Go Go.AX
theorem scanL_len (t : Stamp) (most : Int) (xs : List Cell) (h : (scanL t most xs []).2 = 0) : (scanL t most xs []).1 = [] ∨ ((scanL t most xs []).1.length : Int) ≤ most := by
  rw [scanL_eq] at h ⊢
  split
  · rename_i h1
    rcases h1 with h1 | h1
    · left; simp [h1]
    · right; simpa using h1
  · left; rfl
theorem flat_len (ps : List Pai) : (ps.flatMap ePai).length = ps.length * 2 := flatMap_length ePai_len ps
theorem own_news {lo : Nat} {h : Heap} {a : Option Addr} {n c : Nat} {xs : List Value} (O : Own lo h 99 2 a n c xs) : n = 0 ∨ ∃ b q, a = some ⟨b, q, none⟩ ∧ Row h b q xs := by
  rcases Nat.eq_zero_or_pos n with h0 | h0
  · exact .inl h0
  · obtain ⟨g, h1, _, h2⟩ := O.row h0
    exact .inr ⟨g, 0, h1, h2⟩
theorem read_ok {h0 h hc : Heap} {bp lo n : Nat} {pv : PrV} {p : Prt} {cv : CmV} {c : Cmd} {B : Nat → Prop} (I : InP h0 h bp pv p lo hc) (C : CmR B h cv c) (g : SzP n p) (hn : n ≤ 900000) (hs : c.spans.length ≤ big) {R : Value → Heap → Prop}
    (hR : ∀ pv' rv h', OutP h0 h h' bp pv lo hc pv' (readP p c).1 rv (readP p c).2 → R (.agg (eRp rv).toArray) h') : CallsH Try.prog 126 [ptr bp 0, .agg (eCm cv).toArray] h R := by
  have hbig : big = 1000000 := rfl
  have hps := I.o.s
  have hcs := C.s
  have hz := I.sizes
  have hcn := I.o.cn
  refine f126ok (by simp) ?_
  (try simp (config := { maxSteps := 1000000 }) (disch := first | exact Nat.le_of_ble_eq_true rfl | omega) only [AXS, AXB, J.dst, reduceIte, Nat.reduceEqDiff, Nat.reduceAdd, Nat.reduceMul, Nat.reduceLT, Nat.reduceLeDiff]); rw [f126c0_eq]; (try simp (config := { maxSteps := 1000000 }) (disch := first | exact Nat.le_of_ble_eq_true rfl | omega) only [AXS, AXB, J.dst, reduceIte, Nat.reduceEqDiff, Nat.reduceAdd, Nat.reduceMul, Nat.reduceLT, Nat.reduceLeDiff, f126r0])
  refine wL_boxN rfl ?_; rintro b1 h1 e1 s1 hb1 (B1 : Blk _ _ _ (eCm cv))
  refine wL_newN ?_; rintro b2 h2 e2 s2 hb2 B2
  replace B1 := B1.ext e2
  have e02 := e1.trans e2
  have I2 := I.exts e02
  have Bp := I2.b
  try simp (config := { maxSteps := 1000000 }) (disch := first | exact Nat.le_of_ble_eq_true rfl | omega) only [AXS, AXB, J.dst, reduceIte, Nat.reduceEqDiff, Nat.reduceAdd, Nat.reduceMul, Nat.reduceLT, Nat.reduceLeDiff]
  rw [f126c1_eq]
  refine drw_lt ?_
  simp (config := { maxSteps := 1000000 }) (disch := first | exact Nat.le_of_ble_eq_true rfl | omega) only [AXS, AXB, J.dst, reduceIte, Nat.reduceEqDiff, Nat.reduceAdd, Nat.reduceMul, Nat.reduceLT, Nat.reduceLeDiff, f126r1, B1.cel, eCm, hcs, Bp.cel, ePr, hps]
  refine ⟨by omega, by omega, ?_⟩
  (try simp (config := { maxSteps := 1000000 }) (disch := first | exact Nat.le_of_ble_eq_true rfl | omega) only [AXS, AXB, J.dst, reduceIte, Nat.reduceEqDiff, Nat.reduceAdd, Nat.reduceMul, Nat.reduceLT, Nat.reduceLeDiff]); rw [f126c2_eq]; (try simp (config := { maxSteps := 1000000 }) (disch := first | exact Nat.le_of_ble_eq_true rfl | omega) only [AXS, AXB, J.dst, reduceIte, Nat.reduceEqDiff, Nat.reduceAdd, Nat.reduceMul, Nat.reduceLT, Nat.reduceLeDiff])
  refine ⟨fun hh => ?_, fun hh => ?_⟩
  · have hl : readP p c = (p, ⟨{ okS with err := 24, wall := p.s.low }, []⟩) := by unfold readP; rw [if_pos (of_decide_eq_true hh)]
    (try simp (config := { maxSteps := 1000000 }) (disch := first | exact Nat.le_of_ble_eq_true rfl | omega) only [AXS, AXB, J.dst, reduceIte, Nat.reduceEqDiff, Nat.reduceAdd, Nat.reduceMul, Nat.reduceLT, Nat.reduceLeDiff]); rw [f126c3_eq]; (try simp (config := { maxSteps := 1000000 }) (disch := first | exact Nat.le_of_ble_eq_true rfl | omega) only [AXS, AXB, J.dst, reduceIte, Nat.reduceEqDiff, Nat.reduceAdd, Nat.reduceMul, Nat.reduceLT, Nat.reduceLeDiff, f126r2, Bp.cel, ePr, hps])
    refine wL_stN rfl rfl rfl B2 (by decide) (eRp_one ⟨{ okS with err := 24, wall := p.s.low }, none, 0, 0⟩) ?_
    rintro h3 u3 (B3 : Blk _ _ _ (eRp ⟨{ okS with err := 24, wall := p.s.low }, none, 0, 0⟩))
    simp (config := { maxSteps := 1000000 }) (disch := first | exact Nat.le_of_ble_eq_true rfl | omega) only [AXS, AXB, J.dst, reduceIte, Nat.reduceEqDiff, Nat.reduceAdd, Nat.reduceMul, Nat.reduceLT, Nat.reduceLeDiff, B3.rd, eRp]
    have := hR pv ⟨{ okS with err := 24, wall := p.s.low }, none, 0, 0⟩ h3 (by rw [hl]; exact OutP.same I e02 (by omega) u3 _)
    exact this
  · have hlow : ¬ c.s.at_.wall < p.s.low := of_decide_eq_false hh
    (try simp (config := { maxSteps := 1000000 }) (disch := first | exact Nat.le_of_ble_eq_true rfl | omega) only [AXS, AXB, J.dst, reduceIte, Nat.reduceEqDiff, Nat.reduceAdd, Nat.reduceMul, Nat.reduceLT, Nat.reduceLeDiff]); rw [f126c4_eq]; (try simp (config := { maxSteps := 1000000 }) (disch := first | exact Nat.le_of_ble_eq_true rfl | omega) only [AXS, AXB, J.dst, reduceIte, Nat.reduceEqDiff, Nat.reduceAdd, Nat.reduceMul, Nat.reduceLT, Nat.reduceLeDiff, f126r3, B1.cel, eCm, C.sn])
    rw [f126c5_eq]
    refine loop_in (fun n σ h' => Ext h2 h' ∧ ∃ k : Nat, k + n = c.spans.length ∧ (∀ j s, j < k → c.spans[j]? = some s → (blocksL c.s.at_ (cellsIn p s)).2 = false) ∧
      σ = [(0, ptr bp 0), (3, ptr b1 0), (4, ptr b2 0), (28, .slice cv.sa c.spans.length cv.sc), (29, vi c.spans.length), (30, vi k)]) c.spans.length ⟨Ext.refl _, 0, by omega, by intros; omega, rfl⟩ ?_
    rintro m σ h3 ⟨e3, k, hk, hnb, rfl⟩ Q' hnx hex hrt _
    (try simp (config := { maxSteps := 1000000 }) (disch := first | exact Nat.le_of_ble_eq_true rfl | omega) only [AXS, AXB, J.dst, reduceIte, Nat.reduceEqDiff, Nat.reduceAdd, Nat.reduceMul, Nat.reduceLT, Nat.reduceLeDiff]); rw [f126c6_eq]; (try simp (config := { maxSteps := 1000000 }) (disch := first | exact Nat.le_of_ble_eq_true rfl | omega) only [AXS, AXB, J.dst, reduceIte, Nat.reduceEqDiff, Nat.reduceAdd, Nat.reduceMul, Nat.reduceLT, Nat.reduceLeDiff, f126r4]); rw [f126c7_eq]; (try simp (config := { maxSteps := 1000000 }) (disch := first | exact Nat.le_of_ble_eq_true rfl | omega) only [AXS, AXB, J.dst, reduceIte, Nat.reduceEqDiff, Nat.reduceAdd, Nat.reduceMul, Nat.reduceLT, Nat.reduceLeDiff])
    refine ⟨fun hh => ?_, fun hh => ?_⟩
    · have hkl : k < c.spans.length := by have := of_decide_eq_true hh; omega
      obtain ⟨s, hx⟩ := get_ex hkl
      obtain ⟨b', o, hsa, _, hrow⟩ := (C.spans.ext (e02.trans e3)).elem eSpn_len hx
      (try simp (config := { maxSteps := 1000000 }) (disch := first | exact Nat.le_of_ble_eq_true rfl | omega) only [AXS, AXB, J.dst, reduceIte, Nat.reduceEqDiff, Nat.reduceAdd, Nat.reduceMul, Nat.reduceLT, Nat.reduceLeDiff]); rw [f126c8_eq]; (try simp (config := { maxSteps := 1000000 }) (disch := first | exact Nat.le_of_ble_eq_true rfl | omega) only [AXS, AXB, J.dst, reduceIte, Nat.reduceEqDiff, Nat.reduceAdd, Nat.reduceMul, Nat.reduceLT, Nat.reduceLeDiff, row_spn hrow, hsa]); rw [f126c9_eq]; (try simp (config := { maxSteps := 1000000 }) (disch := first | exact Nat.le_of_ble_eq_true rfl | omega) only [AXS, AXB, J.dst, reduceIte, Nat.reduceEqDiff, Nat.reduceAdd, Nat.reduceMul, Nat.reduceLT, Nat.reduceLeDiff, f126r5, row_spn hrow, hsa])
      refine ⟨by omega, by omega, ?_⟩
      refine wL_newN ?_; rintro b5 h5 e5 s5 hb5 B5
      try simp (config := { maxSteps := 1000000 }) (disch := first | exact Nat.le_of_ble_eq_true rfl | omega) only [AXS, AXB, J.dst, reduceIte, Nat.reduceEqDiff, Nat.reduceAdd, Nat.reduceMul, Nat.reduceLT, Nat.reduceLeDiff]
      refine wL_stN rfl rfl rfl B5 (by decide) (fun v hv => by simp only [eSpn, cells_agg, List.mem_toArray, List.mem_cons, List.not_mem_nil, or_false] at hv; rcases hv with rfl | rfl <;> rfl) ?_
      rintro h6 u6 (B6 : Blk _ _ _ (eSpn s))
      try simp (config := { maxSteps := 1000000 }) (disch := first | exact Nat.le_of_ble_eq_true rfl | omega) only [AXS, AXB, J.dst, reduceIte, Nat.reduceEqDiff, Nat.reduceAdd, Nat.reduceMul, Nat.reduceLT, Nat.reduceLeDiff]
      rw [f126c10_eq]
      refine drt_lt ?_
      simp only [f126r6, wT_one, wT_alt, wT_nil]
      have e36 := u6.ext e5 (by omega)
      have I6 := I2.exts (e3.trans e36)
      have Bp6 := I6.b
      have C6 := B1.ext (e3.trans e36)
      simp (config := { maxSteps := 1000000 }) (disch := first | exact Nat.le_of_ble_eq_true rfl | omega) only [AXS, AXB, J.dst, reduceIte, Nat.reduceEqDiff, Nat.reduceAdd, Nat.reduceMul, Nat.reduceLT, Nat.reduceLeDiff, Bp6.cel, ePr, B6.rd, eSpn, C6.rd, eCm, hcn, hcs]
      have z3 := e3.size
      have z5 := e36.size
      have z6 := u6.size
      have z1 := e02.size
      refine ⟨by omega, by omega, by omega, ?_⟩
      generalize hbl : blocksL c.s.at_ (cellsIn p s) = bl
      have app : ∀ h8 b7, Ext h6 h8 → Blk h8 b7 72 (eLck bl.1) → h6.size ≤ b7 → wC Try.prog f126c11 (X.inBlock 1 (X.then (fun σ h => wC Try.prog f126c14 Q' σ h) Q'))
          [(0, ptr bp 0), (3, ptr b1 0), (4, ptr b2 0), (7, ptr b7 0), (8, .bool bl.2), (28, .slice (some ⟨b', o, none⟩) c.spans.length cv.sc), (29, vi c.spans.length), (30, vi k)] h8 := by
        intro h8 b7 e68 B7 hb7
        have e28 := (e3.trans e36).trans e68
        (try simp (config := { maxSteps := 1000000 }) (disch := first | exact Nat.le_of_ble_eq_true rfl | omega) only [AXS, AXB, J.dst, reduceIte, Nat.reduceEqDiff, Nat.reduceAdd, Nat.reduceMul, Nat.reduceLT, Nat.reduceLeDiff]); rw [f126c11_eq]; (try simp (config := { maxSteps := 1000000 }) (disch := first | exact Nat.le_of_ble_eq_true rfl | omega) only [AXS, AXB, J.dst, reduceIte, Nat.reduceEqDiff, Nat.reduceAdd, Nat.reduceMul, Nat.reduceLT, Nat.reduceLeDiff, f126r7]); rw [f126c12_eq]; (try simp (config := { maxSteps := 1000000 }) (disch := first | exact Nat.le_of_ble_eq_true rfl | omega) only [AXS, AXB, J.dst, reduceIte, Nat.reduceEqDiff, Nat.reduceAdd, Nat.reduceMul, Nat.reduceLT, Nat.reduceLeDiff])
        refine ⟨fun h11 => ?_, fun h11 => ?_⟩
        · (try simp (config := { maxSteps := 1000000 }) (disch := first | exact Nat.le_of_ble_eq_true rfl | omega) only [AXS, AXB, J.dst, reduceIte, Nat.reduceEqDiff, Nat.reduceAdd, Nat.reduceMul, Nat.reduceLT, Nat.reduceLeDiff]); rw [f126c13_eq]; (try simp (config := { maxSteps := 1000000 }) (disch := first | exact Nat.le_of_ble_eq_true rfl | omega) only [AXS, AXB, J.dst, reduceIte, Nat.reduceEqDiff, Nat.reduceAdd, Nat.reduceMul, Nat.reduceLT, Nat.reduceLeDiff, f126r8, B7.rd, eLck])
          refine locked_ok bl.1 _ ?_
          intro h9 e9
          refine ⟨trivial, ?_⟩
          try simp (config := { maxSteps := 1000000 }) (disch := first | exact Nat.le_of_ble_eq_true rfl | omega) only [AXS, AXB, J.dst, reduceIte, Nat.reduceEqDiff, Nat.reduceAdd, Nat.reduceMul, Nat.reduceLT, Nat.reduceLeDiff]
          have C2 := (B2.ext e28).ext e9
          refine wL_stN rfl rfl rfl C2 (by decide) (eRp_one ⟨(lockedR bl.1).s, none, 0, 0⟩) ?_
          rintro h10 u10 (B10 : Blk _ _ _ (eRp ⟨(lockedR bl.1).s, none, 0, 0⟩))
          try simp (config := { maxSteps := 1000000 }) (disch := first | exact Nat.le_of_ble_eq_true rfl | omega) only [AXS, AXB, J.dst, reduceIte, Nat.reduceEqDiff, Nat.reduceAdd, Nat.reduceMul, Nat.reduceLT, Nat.reduceLeDiff]
          refine hrt _ _ ?_
          simp (config := { maxSteps := 1000000 }) (disch := first | exact Nat.le_of_ble_eq_true rfl | omega) only [AXS, AXB, J.dst, reduceIte, Nat.reduceEqDiff, Nat.reduceAdd, Nat.reduceMul, Nat.reduceLT, Nat.reduceLeDiff, B10.rd, eRp]
          have hl : readP p c = (p, lockedR bl.1) := by
            unfold readP
            rw [if_neg hlow, findIdx_some hx (by rw [hbl]; exact h11) hnb]
            simp only [hbl]
          have := hR pv ⟨(lockedR bl.1).s, none, 0, 0⟩ h10 (by rw [hl]; exact OutP.same I (e02.trans (e28.trans e9)) (by omega) u10 _)
          exact this
        · (try simp (config := { maxSteps := 1000000 }) (disch := first | exact Nat.le_of_ble_eq_true rfl | omega) only [AXS, AXB, J.dst, reduceIte, Nat.reduceEqDiff, Nat.reduceAdd, Nat.reduceMul, Nat.reduceLT, Nat.reduceLeDiff]); rw [f126c14_eq]; (try simp (config := { maxSteps := 1000000 }) (disch := first | exact Nat.le_of_ble_eq_true rfl | omega) only [AXS, AXB, J.dst, reduceIte, Nat.reduceEqDiff, Nat.reduceAdd, Nat.reduceMul, Nat.reduceLT, Nat.reduceLeDiff, f126r9])
          rw [i64_wrap (by omega) (by omega)]
          refine hnx (m - 1) _ _ (by omega) ⟨e28, k + 1, by omega, ?_, by rw [hsa]; rfl⟩
          intro j s' hj hs'
          rcases Nat.lt_or_ge j k with hlt | hge
          · exact hnb j s' hlt hs'
          · have : j = k := by omega
            subst this
            rw [hx] at hs'; cases hs'; rw [hbl]; exact h11
      refine ⟨?_, ?_⟩
      · refine blocksG g.cells hn I6.cells I6.cap s c.s.at_ ?_
        intro h7 e7
        refine ⟨kp_ext (Nat.le_refl _) e7, ?_⟩
        try simp (config := { maxSteps := 1000000 }) (disch := first | exact Nat.le_of_ble_eq_true rfl | omega) only [AXS, AXB, J.dst, reduceIte, Nat.reduceEqDiff, Nat.reduceAdd, Nat.reduceMul, Nat.reduceLT, Nat.reduceLeDiff]
        refine wL_newD e7.size ?_; rintro b7 h8 e8 s8 hb7 B7
        have z7 := e7.size
        try simp (config := { maxSteps := 1000000 }) (disch := first | exact Nat.le_of_ble_eq_true rfl | omega) only [AXS, AXB, J.dst, reduceIte, Nat.reduceEqDiff, Nat.reduceAdd, Nat.reduceMul, Nat.reduceLT, Nat.reduceLeDiff]
        refine wL_stD rfl rfl (by omega) rfl B7 (by decide) (eLck_one (blocksL c.s.at_ (cellsIn p s)).1) ?_
        rintro h9 u9 (B9 : Blk _ _ _ (eLck (blocksL c.s.at_ (cellsIn p s)).1))
        try simp (config := { maxSteps := 1000000 }) (disch := first | exact Nat.le_of_ble_eq_true rfl | omega) only [AXS, AXB, J.dst, reduceIte, Nat.reduceEqDiff, Nat.reduceAdd, Nat.reduceMul, Nat.reduceLT, Nat.reduceLeDiff]
        have := app h9 b7 (u9.ext (e7.trans e8) (by omega)) (by rw [← hbl]; exact B9) (by omega)
        rw [← hbl] at this
        exact this
      · refine wL_newD (Nat.le_refl _) ?_; rintro b7 h7 e7 s7 hb7 B7
        try simp (config := { maxSteps := 1000000 }) (disch := first | exact Nat.le_of_ble_eq_true rfl | omega) only [AXS, AXB, J.dst, reduceIte, Nat.reduceEqDiff, Nat.reduceAdd, Nat.reduceMul, Nat.reduceLT, Nat.reduceLeDiff]
        refine blocksG g.cells hn (I6.exts e7).cells I6.cap s c.s.at_ ?_
        intro h8 e8
        refine ⟨kp_ext e7.size e8, ?_⟩
        try simp (config := { maxSteps := 1000000 }) (disch := first | exact Nat.le_of_ble_eq_true rfl | omega) only [AXS, AXB, J.dst, reduceIte, Nat.reduceEqDiff, Nat.reduceAdd, Nat.reduceMul, Nat.reduceLT, Nat.reduceLeDiff]
        have z8 := e8.size
        refine wL_stD rfl rfl (by omega) rfl (B7.ext e8) (by decide) (eLck_one (blocksL c.s.at_ (cellsIn p s)).1) ?_
        rintro h9 u9 (B9 : Blk _ _ _ (eLck (blocksL c.s.at_ (cellsIn p s)).1))
        try simp (config := { maxSteps := 1000000 }) (disch := first | exact Nat.le_of_ble_eq_true rfl | omega) only [AXS, AXB, J.dst, reduceIte, Nat.reduceEqDiff, Nat.reduceAdd, Nat.reduceMul, Nat.reduceLT, Nat.reduceLeDiff]
        have := app h9 b7 (u9.ext (e7.trans e8) (by omega)) (by rw [← hbl]; exact B9) (by omega)
        rw [← hbl] at this
        exact this
    · have hkl : k = c.spans.length := by have := of_decide_eq_false hh; omega
      subst hkl
      have hnone : (c.spans.find? fun s => (blocksL c.s.at_ (cellsIn p s)).2) = none := findIdx_none hnb
      refine hex _ _ ?_
      have z1 := e02.size
      have z3 := e3.size
      have e03 := e02.trans e3
      (try simp (config := { maxSteps := 1000000 }) (disch := first | exact Nat.le_of_ble_eq_true rfl | omega) only [AXS, AXB, J.dst, reduceIte, Nat.reduceEqDiff, Nat.reduceAdd, Nat.reduceMul, Nat.reduceLT, Nat.reduceLeDiff]); rw [f126c15_eq]; (try simp (config := { maxSteps := 1000000 }) (disch := first | exact Nat.le_of_ble_eq_true rfl | omega) only [AXS, AXB, J.dst, reduceIte, Nat.reduceEqDiff, Nat.reduceAdd, Nat.reduceMul, Nat.reduceLT, Nat.reduceLeDiff, f126r10])
      refine wL_newN ?_; rintro b4 h4 e4 s4 hb4 B4
      try simp (config := { maxSteps := 1000000 }) (disch := first | exact Nat.le_of_ble_eq_true rfl | omega) only [AXS, AXB, J.dst, reduceIte, Nat.reduceEqDiff, Nat.reduceAdd, Nat.reduceMul, Nat.reduceLT, Nat.reduceLeDiff]
      refine wL_stN rfl rfl rfl B4 (by decide) (eRp_one ⟨okS, none, 0, 0⟩) ?_
      rintro h5 u5 (B5 : Blk _ _ _ (eRp ⟨okS, none, 0, 0⟩))
      have e35 := u5.ext e4 (by omega)
      have e05 := e03.trans e35
      have z5 := u5.size
      have C1 := (B1.ext e3).ext e35
      (try simp (config := { maxSteps := 1000000 }) (disch := first | exact Nat.le_of_ble_eq_true rfl | omega) only [AXS, AXB, J.dst, reduceIte, Nat.reduceEqDiff, Nat.reduceAdd, Nat.reduceMul, Nat.reduceLT, Nat.reduceLeDiff]); rw [f126c16_eq]; (try simp (config := { maxSteps := 1000000 }) (disch := first | exact Nat.le_of_ble_eq_true rfl | omega) only [AXS, AXB, J.dst, reduceIte, Nat.reduceEqDiff, Nat.reduceAdd, Nat.reduceMul, Nat.reduceLT, Nat.reduceLeDiff, f126r11, C1.cel, eCm, C.sn])
      rw [f126c17_eq]
      refine loop_in (fun m σ h' => Gr (some b4) h5 h' ∧ ∃ (k : Nat) (acc : List Pai) (pa : Option Addr) (pc : Nat), k + m = c.spans.length ∧ readL p c.s.at_ c.spans [] = readL p c.s.at_ (c.spans.drop k) acc ∧ acc.length ≤ 512 ∧
        Blk h' b4 47 (eRp ⟨okS, pa, acc.length, pc⟩) ∧ Own h5.size h' 99 2 pa acc.length pc (acc.flatMap ePai) ∧
        σ = [(0, ptr bp 0), (3, ptr b1 0), (4, ptr b2 0), (9, ptr b4 0), (51, .slice cv.sa c.spans.length cv.sc), (52, vi c.spans.length), (53, vi k)]) c.spans.length
        ⟨(Ext.refl _).gr _, 0, [], none, 0, by omega, rfl, by simp, B5, Own.nil _ _ _ _, rfl⟩ ?_
      rintro m σ h6 ⟨G6, k, acc, pa, pc, hk, hrl, hal, B6, O6, rfl⟩ Q2 hnx2 hex2 hrt2 _
      have e36 : Ext h3 h6 := G6.ext e35 (fun j hj => by cases hj; omega)
      have e06 := e03.trans e36
      have I6 := I.exts e06
      have Bp6 := I6.b
      have C6 := (B1.ext e3).ext e36
      have z6 := G6.size
      (try simp (config := { maxSteps := 1000000 }) (disch := first | exact Nat.le_of_ble_eq_true rfl | omega) only [AXS, AXB, J.dst, reduceIte, Nat.reduceEqDiff, Nat.reduceAdd, Nat.reduceMul, Nat.reduceLT, Nat.reduceLeDiff]); rw [f126c18_eq]; (try simp (config := { maxSteps := 1000000 }) (disch := first | exact Nat.le_of_ble_eq_true rfl | omega) only [AXS, AXB, J.dst, reduceIte, Nat.reduceEqDiff, Nat.reduceAdd, Nat.reduceMul, Nat.reduceLT, Nat.reduceLeDiff, f126r12]); rw [f126c19_eq]; (try simp (config := { maxSteps := 1000000 }) (disch := first | exact Nat.le_of_ble_eq_true rfl | omega) only [AXS, AXB, J.dst, reduceIte, Nat.reduceEqDiff, Nat.reduceAdd, Nat.reduceMul, Nat.reduceLT, Nat.reduceLeDiff])
      refine ⟨fun hh => ?_, fun hh => ?_⟩
      · have hkl : k < c.spans.length := by have := of_decide_eq_true hh; omega
        obtain ⟨s, hx⟩ := get_ex hkl
        obtain ⟨b', o, hsa, _, hrow⟩ := (C.spans.ext e06).elem eSpn_len hx
        have hdrop : c.spans.drop k = s :: c.spans.drop (k + 1) := by
          rw [List.drop_eq_getElem_cons hkl]
          rw [List.getElem?_eq_getElem hkl] at hx; cases hx; rfl
        (try simp (config := { maxSteps := 1000000 }) (disch := first | exact Nat.le_of_ble_eq_true rfl | omega) only [AXS, AXB, J.dst, reduceIte, Nat.reduceEqDiff, Nat.reduceAdd, Nat.reduceMul, Nat.reduceLT, Nat.reduceLeDiff]); rw [f126c20_eq]; (try simp (config := { maxSteps := 1000000 }) (disch := first | exact Nat.le_of_ble_eq_true rfl | omega) only [AXS, AXB, J.dst, reduceIte, Nat.reduceEqDiff, Nat.reduceAdd, Nat.reduceMul, Nat.reduceLT, Nat.reduceLeDiff, row_spn hrow, hsa]); rw [f126c21_eq]; (try simp (config := { maxSteps := 1000000 }) (disch := first | exact Nat.le_of_ble_eq_true rfl | omega) only [AXS, AXB, J.dst, reduceIte, Nat.reduceEqDiff, Nat.reduceAdd, Nat.reduceMul, Nat.reduceLT, Nat.reduceLeDiff, f126r13, row_spn hrow, hsa])
        refine ⟨by omega, by omega, ?_⟩
        refine wL_newN ?_; rintro b7 h7 e7 s7 hb7 B7
        try simp (config := { maxSteps := 1000000 }) (disch := first | exact Nat.le_of_ble_eq_true rfl | omega) only [AXS, AXB, J.dst, reduceIte, Nat.reduceEqDiff, Nat.reduceAdd, Nat.reduceMul, Nat.reduceLT, Nat.reduceLeDiff]
        refine wL_stN rfl rfl rfl B7 (by decide) (fun v hv => by simp only [eSpn, cells_agg, List.mem_toArray, List.mem_cons, List.not_mem_nil, or_false] at hv; rcases hv with rfl | rfl <;> rfl) ?_
        rintro h8 u8 (B8 : Blk _ _ _ (eSpn s))
        have e68 := u8.ext e7 (by omega)
        have I8 := I6.exts e68
        have Bp8 := I8.b
        have C8 := C6.ext e68
        have D8 := B6.ext e68
        have z8 := e68.size
        have z8' := u8.size
        try simp (config := { maxSteps := 1000000 }) (disch := first | exact Nat.le_of_ble_eq_true rfl | omega) only [AXS, AXB, J.dst, reduceIte, Nat.reduceEqDiff, Nat.reduceAdd, Nat.reduceMul, Nat.reduceLT, Nat.reduceLeDiff]
        rw [f126c22_eq]
        refine drw_lt ?_
        simp (config := { maxSteps := 1000000 }) (disch := first | exact Nat.le_of_ble_eq_true rfl | omega) only [AXS, AXB, J.dst, reduceIte, Nat.reduceEqDiff, Nat.reduceAdd, Nat.reduceMul, Nat.reduceLT, Nat.reduceLeDiff, f126r14, Bp8.cel, ePr, hcn, B8.rd, eSpn, C8.rd, eCm, hcs, D8.cel, eRp]
        refine ⟨by omega, by omega, by omega, by omega, ?_⟩
        rw [i64_wrap (by omega) (by omega)]
        refine scanG g.cells hn I8.cells I8.cap s c.s.at_ (512 - acc.length) ?_
        intro sa sc h9 O9 e9
        refine ⟨kp_ext (Nat.le_refl _) e9, ?_⟩
        try simp (config := { maxSteps := 1000000 }) (disch := first | exact Nat.le_of_ble_eq_true rfl | omega) only [AXS, AXB, J.dst, reduceIte, Nat.reduceEqDiff, Nat.reduceAdd, Nat.reduceMul, Nat.reduceLT, Nat.reduceLeDiff]
        have hlen := scanL_len c.s.at_ (512 - acc.length) (withinL p.cells s)
        have hstep : readL p c.s.at_ (c.spans.drop k) acc = if (scanL c.s.at_ (512 - acc.length) (withinL p.cells s) []).2 = 0 then readL p c.s.at_ (c.spans.drop (k + 1)) (acc ++ (scanL c.s.at_ (512 - acc.length) (withinL p.cells s) []).1) else (acc, (scanL c.s.at_ (512 - acc.length) (withinL p.cells s) []).2) := by rw [hdrop]; rfl
        generalize scanL c.s.at_ (512 - acc.length) (withinL p.cells s) [] = sr at O9 hlen hstep ⊢
        have e69 := e68.trans e9
        have z9 := e69.size
        have z9' := e9.size
        (try simp (config := { maxSteps := 1000000 }) (disch := first | exact Nat.le_of_ble_eq_true rfl | omega) only [AXS, AXB, J.dst, reduceIte, Nat.reduceEqDiff, Nat.reduceAdd, Nat.reduceMul, Nat.reduceLT, Nat.reduceLeDiff]); rw [f126c23_eq]; (try simp (config := { maxSteps := 1000000 }) (disch := first | exact Nat.le_of_ble_eq_true rfl | omega) only [AXS, AXB, J.dst, reduceIte, Nat.reduceEqDiff, Nat.reduceAdd, Nat.reduceMul, Nat.reduceLT, Nat.reduceLeDiff, f126r15]); rw [f126c24_eq]; (try simp (config := { maxSteps := 1000000 }) (disch := first | exact Nat.le_of_ble_eq_true rfl | omega) only [AXS, AXB, J.dst, reduceIte, Nat.reduceEqDiff, Nat.reduceAdd, Nat.reduceMul, Nat.reduceLT, Nat.reduceLeDiff])
        refine ⟨fun h10 => ?_, fun h10 => ?_⟩
        · have hne : sr.2 ≠ 0 := by simpa using h10
          (try simp (config := { maxSteps := 1000000 }) (disch := first | exact Nat.le_of_ble_eq_true rfl | omega) only [AXS, AXB, J.dst, reduceIte, Nat.reduceEqDiff, Nat.reduceAdd, Nat.reduceMul, Nat.reduceLT, Nat.reduceLeDiff]); rw [f126c25_eq]; (try simp (config := { maxSteps := 1000000 }) (disch := first | exact Nat.le_of_ble_eq_true rfl | omega) only [AXS, AXB, J.dst, reduceIte, Nat.reduceEqDiff, Nat.reduceAdd, Nat.reduceMul, Nat.reduceLT, Nat.reduceLeDiff, f126r16])
          have C2 := (B2.ext e3).ext (e36.trans e69)
          refine wL_stN rfl rfl rfl C2 (by decide) (eRp_one ⟨(errR sr.2).s, none, 0, 0⟩) ?_
          rintro h11 u11 (B11 : Blk _ _ _ (eRp ⟨(errR sr.2).s, none, 0, 0⟩))
          try simp (config := { maxSteps := 1000000 }) (disch := first | exact Nat.le_of_ble_eq_true rfl | omega) only [AXS, AXB, J.dst, reduceIte, Nat.reduceEqDiff, Nat.reduceAdd, Nat.reduceMul, Nat.reduceLT, Nat.reduceLeDiff]
          refine hrt2 _ _ ?_
          simp (config := { maxSteps := 1000000 }) (disch := first | exact Nat.le_of_ble_eq_true rfl | omega) only [AXS, AXB, J.dst, reduceIte, Nat.reduceEqDiff, Nat.reduceAdd, Nat.reduceMul, Nat.reduceLT, Nat.reduceLeDiff, B11.rd, eRp]
          have hl : readP p c = (p, errR sr.2) := by
            unfold readP
            rw [if_neg hlow, hnone]
            simp only [hrl, hstep, if_neg hne]
          have := hR pv ⟨(errR sr.2).s, none, 0, 0⟩ h11 (by rw [hl]; exact OutP.same I (e06.trans e69) (by omega) u11 _)
          exact this
        · have he0 : sr.2 = 0 := by simpa using h10
          rw [if_pos he0] at hstep
          have D9 := D8.ext e9
          have hO6 := O6.ob
          have hl9 : acc.length + sr.1.length ≤ 512 := by
            rcases hlen he0 with h | h
            · rw [h]; simpa using hal
            · omega
          (try simp (config := { maxSteps := 1000000 }) (disch := first | exact Nat.le_of_ble_eq_true rfl | omega) only [AXS, AXB, J.dst, reduceIte, Nat.reduceEqDiff, Nat.reduceAdd, Nat.reduceMul, Nat.reduceLT, Nat.reduceLeDiff]); rw [f126c26_eq]; (try simp (config := { maxSteps := 1000000 }) (disch := first | exact Nat.le_of_ble_eq_true rfl | omega) only [AXS, AXB, J.dst, reduceIte, Nat.reduceEqDiff, Nat.reduceAdd, Nat.reduceMul, Nat.reduceLT, Nat.reduceLeDiff, f126r17, D9.cel, eRp])
          rw [wL_raw]
          refine raw_append slT45 rfl rfl rfl (O6.ext e69) (flat_len sr.1) (own_news O9) (one_flatMap ePai_one sr.1) (by unfold maxLen; omega) (by omega) (by omega) ?_
          intro pa' pc' h11 O11 G11 A11
          refine ⟨trivial, ?_⟩
          try simp (config := { maxSteps := 1000000 }) (disch := first | exact Nat.le_of_ble_eq_true rfl | omega) only [AXS, AXB, J.dst, reduceIte, Nat.reduceEqDiff, Nat.reduceAdd, Nat.reduceMul, Nat.reduceLT, Nat.reduceLeDiff]
          have D11 := G11.blk D9 (by intro e; have := hO6 b4 e.symm; omega)
          have z11 := G11.size
          refine wL_stN rfl rfl rfl D11 (by rw [eRp_len]; exact Nat.le_of_ble_eq_true rfl) slice_one ?_
          rintro h12 u12 (B12 : Blk _ _ _ (eRp ⟨okS, pa', acc.length + sr.1.length, pc'⟩))
          have z12 := u12.size
          (try simp (config := { maxSteps := 1000000 }) (disch := first | exact Nat.le_of_ble_eq_true rfl | omega) only [AXS, AXB, J.dst, reduceIte, Nat.reduceEqDiff, Nat.reduceAdd, Nat.reduceMul, Nat.reduceLT, Nat.reduceLeDiff]); rw [f126c27_eq]; (try simp (config := { maxSteps := 1000000 }) (disch := first | exact Nat.le_of_ble_eq_true rfl | omega) only [AXS, AXB, J.dst, reduceIte, Nat.reduceEqDiff, Nat.reduceAdd, Nat.reduceMul, Nat.reduceLT, Nat.reduceLeDiff, f126r18])
          rw [i64_wrap (by omega) (by omega)]
          have hO11 := O11.ob
          refine hnx2 (m - 1) _ _ (by omega) ⟨⟨by omega, fun j hj hne => ?_⟩, k + 1, acc ++ sr.1, pa', pc', by omega, ?_, by rw [List.length_append]; exact hl9, by rw [List.length_append]; exact B12, ?_, by rw [hsa]; rfl⟩
          · rw [u12.ne j (fun e => hne (by rw [e])), G11.at_ j (by omega) (fun e => by have := hO6 j e.symm; omega), e69.at_ j (by omega), G6.at_ j hj hne]
          · rw [hrl, hstep]
          · rw [List.length_append, List.flatMap_append]
            exact O11.gr u12.gr (fun j hj e => by cases e; have := hO11 b4 hj; omega)
      · have hkl : k = c.spans.length := by have := of_decide_eq_false hh; omega
        have hfin : readL p c.s.at_ c.spans [] = (acc, 0) := by rw [hrl, hkl, List.drop_length]; rfl
        have hl : readP p c = ({ p with s := { p.s with floor := maxS p.s.floor c.s.at_ } }, ⟨okS, acc⟩) := by
          unfold readP
          rw [if_neg hlow, hnone]
          simp only [hfin, if_true]
        refine hex2 _ _ ?_
        try simp (config := { maxSteps := 1000000 }) (disch := first | exact Nat.le_of_ble_eq_true rfl | omega) only [AXS, AXB, J.dst, reduceIte, Nat.reduceEqDiff, Nat.reduceAdd, Nat.reduceMul, Nat.reduceLT, Nat.reduceLeDiff]
        rw [f126c28_eq]
        refine ⟨fun b => b < h6.size ∧ b ≠ bp, fun b hb => hb.1, ?_⟩
        have hb1p : b1 ≠ bp := by omega
        simp (config := { maxSteps := 1000000 }) (disch := first | exact Nat.le_of_ble_eq_true rfl | omega) only [AXS, AXB, J.dst, reduceIte, Nat.reduceEqDiff, Nat.reduceAdd, Nat.reduceMul, Nat.reduceLT, Nat.reduceLeDiff, f126r19, C6.rd, eCm, hcs, Bp6.rd, ePr, hps]
        refine ⟨⟨by omega, hb1p⟩, ?_⟩
        refine max_ok p.s.floor c.s.at_ _ ?_
        intro h7 e7
        refine ⟨fun b hb => e7.at_ b hb.1, ?_⟩
        try simp (config := { maxSteps := 1000000 }) (disch := first | exact Nat.le_of_ble_eq_true rfl | omega) only [AXS, AXB, J.dst, reduceIte, Nat.reduceEqDiff, Nat.reduceAdd, Nat.reduceMul, Nat.reduceLT, Nat.reduceLeDiff]
        have I7 := I6.exts e7
        have z7 := e7.size
        refine wL_stD rfl rfl (fun hb => hb.2 rfl) rfl I7.b (by rw [ePr_len]; exact Nat.le_of_ble_eq_true rfl) (eStamp_one _) ?_
        rintro h8 u8 (B8 : Blk _ _ _ (ePr { pv with s := { pv.s with floor := maxS p.s.floor c.s.at_ } }))
        try simp (config := { maxSteps := 1000000 }) (disch := first | exact Nat.le_of_ble_eq_true rfl | omega) only [AXS, AXB, J.dst, reduceIte, Nat.reduceEqDiff, Nat.reduceAdd, Nat.reduceMul, Nat.reduceLT, Nat.reduceLeDiff]
        have I8 := I7.put _ u8 B8
        rw [hps] at I8
        have D8 := u8.blk (B6.ext e7) (by omega)
        have C2 := u8.blk ((B2.ext (e3.trans e36)).ext e7) (by omega)
        (try simp (config := { maxSteps := 1000000 }) (disch := first | exact Nat.le_of_ble_eq_true rfl | omega) only [AXS, AXB, J.dst, reduceIte, Nat.reduceEqDiff, Nat.reduceAdd, Nat.reduceMul, Nat.reduceLT, Nat.reduceLeDiff]); rw [f126c29_eq]; (try simp (config := { maxSteps := 1000000 }) (disch := first | exact Nat.le_of_ble_eq_true rfl | omega) only [AXS, AXB, J.dst, reduceIte, Nat.reduceEqDiff, Nat.reduceAdd, Nat.reduceMul, Nat.reduceLT, Nat.reduceLeDiff, f126r20, D8.rd, eRp])
        refine wL_stN rfl rfl rfl C2 (by decide) (eRp_one ⟨okS, pa, acc.length, pc⟩) ?_
        rintro h9 u9 (B9 : Blk _ _ _ (eRp ⟨okS, pa, acc.length, pc⟩))
        simp (config := { maxSteps := 1000000 }) (disch := first | exact Nat.le_of_ble_eq_true rfl | omega) only [AXS, AXB, J.dst, reduceIte, Nat.reduceEqDiff, Nat.reduceAdd, Nat.reduceMul, Nat.reduceLT, Nat.reduceLeDiff, B9.rd, eRp]
        have hap := I.apart (b := b2) (by omega)
        have hO6 := O6.ob
        have := hR _ ⟨okS, pa, acc.length, pc⟩ h9 (by
          rw [hl]
          refine (I8.box ⟨by omega, .inr (by omega)⟩ (by omega) hap.1 hap.2 u9).out (h := h) (rv := ⟨okS, pa, acc.length, pc⟩) (r := ⟨okS, acc⟩) ⟨rfl, rfl, ?_⟩ ((Gr.upd ((e06.trans e7).gr _) u8 (.inl rfl)).upd u9 (.inr (by omega))) (fun _ _ h => h)
          refine (((O6.mono (by omega)).ext e7).gr u8.gr (fun j hj e => ?_)).gr u9.gr (fun j hj e => ?_)
          · cases e; have := hO6 bp hj; omega
          · cases e; have := hO6 b2 hj; omega)
        exact this
end Go.Proofs.Ytefghfgmkndikaa
