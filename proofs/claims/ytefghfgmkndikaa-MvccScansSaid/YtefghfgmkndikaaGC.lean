/-
  By a program of mine (wip/tools/gen.py): the code of functions of the seat in the small instruction language, and that it is their code.
-/
import Derived.Test.YtefghfgmkndikaaFM
import Derived.Test.YtefghfgmkndikaaProg
set_option linter.unusedSimpArgs false
set_option linter.unusedVariables false
namespace Go.Proofs.Ytefghfgmkndikaa
open Go.AX
set_option maxRecDepth 100000
/-! ### f114: slices.Clone[[]antipode/api.Version,antipode/api.Version] -/
def f114r0 : List I := [.op (.mov 2 (.const (.slice none 0 0))),
  .kp [0]]
def f114r1 : List I := [.op (.mov 3 (.tmp 0)),
  .op (.eqn 4 true false (.tmp 3) (.const (.slice none 0 0))),
  .kp [0, 4]]
def f114r2 : List I := [.op (.mov 2 (.const (.slice none 0 0))),
  .kp [2]]
def f114r3 : List I := [.op (.bsl 5 108 0 [] []),
  .op (.mov 6 (.tmp 0)),
  .op (.raw (some 7) ⟨(some 7), (.call ⟨(.builtin .append), #[(.tmp 5), (.tmp 6)], #[101, 101]⟩), 101, "slices.go:362", #[⟨0, .data⟩, ⟨1, .data⟩], none⟩),
  .op (.mov 2 (.tmp 7)),
  .kp [2]]
def f114c3 : C := (.seq (.reg f114r2) .ret)
def f114c4 : C := (.seq (.reg f114r3) .ret)
def f114c2 : C := (.seq (.cond (.tmp 4) f114c3 .skip) f114c4)
def f114c1 : C := (.seq (.reg f114r1) f114c2)
def f114c0 : C := (.seq (.reg f114r0) f114c1)
theorem f114cmp : cmpF Try.prog Try.f114 [.l [.o 0, .kp [0]],
  .l [.o 0, .o 1, .kp [0, 4]],
  .l [.o 0, .kp [2]],
  .l [.o 0, .o 1, .o 2, .o 3, .kp [2]]] = some (f114c0, [.tmp 2]) := by kernel_rfl
theorem f114ok {args : List Value} {h : Heap} {R : Value → Heap → Prop} (hn : args.length ≤ 8) (H : wC Try.prog f114c0 (endW [.tmp 2] R) (envOf 0 args) h) : CallsH Try.prog 114 args h R :=
  fn_ok2 Try.func114 f114cmp hn H
theorem f114cal : callable Try.prog 114 = true := by kernel_rfl
section
variable {Q : X → Env → Heap → Prop} {σ : Env} {h : Heap}
theorem f114c3_eq : wC Try.prog f114c3 Q σ h = (wL Try.prog none f114r2 0 (fun σ h => Q .ret σ h) σ h) := rfl
theorem f114c4_eq : wC Try.prog f114c4 Q σ h = (wL Try.prog none f114r3 0 (fun σ h => Q .ret σ h) σ h) := rfl
theorem f114c2_eq : wC Try.prog f114c2 Q σ h = (bd (evO σ (.tmp 4)) fun v => bd (asB v) fun t => br t (wC Try.prog f114c3 (X.then (fun σ h => wC Try.prog f114c4 Q σ h) Q) σ h) (wC Try.prog f114c4 Q σ h)) := rfl
theorem f114c1_eq : wC Try.prog f114c1 Q σ h = (wL Try.prog none f114r1 0 (fun σ h => wC Try.prog f114c2 Q σ h) σ h) := rfl
theorem f114c0_eq : wC Try.prog f114c0 Q σ h = (wL Try.prog none f114r0 0 (fun σ h => wC Try.prog f114c1 Q σ h) σ h) := rfl
end
/-! ### f84: antipode/mvcc.own -/
def f84r0 : List I := [.op (.box 1 103 (.tmp 0)),
  .op (.new 2 103 [.string ⟨#[]⟩, .slice none 0 0, .bool false, .int .i64 0, .int .i64 0, .int .i64 0, .int .i64 0, .int .i64 0, .int .i64 0, .int .i64 0, .bool false, .string ⟨#[]⟩]),
  .kp [1, 2]]
def f84r1 : List I := [.op (.fad 3 1 (.tmp 1)),
  .op (.ld 4 none (.tmp 3)),
  .op (.call (some 5) 114 [(.tmp 4)]),
  .op (.fad 6 1 (.tmp 1)),
  .op (.st 1 (.tmp 6) (.tmp 5)),
  .kp [1, 2]]
def f84r2 : List I := [.op (.ld 7 (some 12) (.tmp 1)),
  .op (.st 12 (.tmp 2) (.tmp 7)),
  .kp [2]]
def f84c2 : C := (.seq (.reg f84r2) .ret)
def f84c1 : C := (.seq (.reg f84r1) f84c2)
def f84c0 : C := (.seq (.reg f84r0) f84c1)
theorem f84cmp : cmpF Try.prog Try.f84 [.l [.o 0, .o 1, .kp [1, 2]],
  .l [.o 0, .o 1, .o 2, .o 3, .o 4, .kp [1, 2]],
  .l [.o 0, .o 1, .kp [2]]] = some (f84c0, [.cell 2 12]) := by kernel_rfl
theorem f84ok {args : List Value} {h : Heap} {R : Value → Heap → Prop} (hn : args.length ≤ 8) (H : wC Try.prog f84c0 (endW [.cell 2 12] R) (envOf 0 args) h) : CallsH Try.prog 84 args h R :=
  fn_ok2 Try.func84 f84cmp hn H
theorem f84cal : callable Try.prog 84 = true := by kernel_rfl
section
variable {Q : X → Env → Heap → Prop} {σ : Env} {h : Heap}
theorem f84c2_eq : wC Try.prog f84c2 Q σ h = (wL Try.prog none f84r2 0 (fun σ h => Q .ret σ h) σ h) := rfl
theorem f84c1_eq : wC Try.prog f84c1 Q σ h = (wL Try.prog none f84r1 0 (fun σ h => wC Try.prog f84c2 Q σ h) σ h) := rfl
theorem f84c0_eq : wC Try.prog f84c0 Q σ h = (wL Try.prog none f84r0 0 (fun σ h => wC Try.prog f84c1 Q σ h) σ h) := rfl
end
/-! ### f86: antipode/mvcc.all -/
def f86r0 : List I := [.op (.mov 2 (.const (.slice none 0 0))),
  .kp [0]]
def f86r1 : List I := [.op (.mov 3 (.const (.slice none 0 0))),
  .kp [0, 3]]
def f86r2 : List I := [.op (.mov 6 (.tmp 0)),
  .op (.len 7 true (.tmp 6)),
  .op (.mov 8 (.const (.int .i64 0))),
  .kp [3, 6, 7, 8]]
def f86r3 : List I := [.op (.bin 9 .lss (.tmp 8) (.tmp 7)),
  .kp [3, 6, 7, 8, 9]]
def f86r4 : List I := [.op (.iad 10 12 (.tmp 6) (.tmp 8)),
  .op (.ld 11 (some 12) (.tmp 10)),
  .op (.new 5 103 [.string ⟨#[]⟩, .slice none 0 0, .bool false, .int .i64 0, .int .i64 0, .int .i64 0, .int .i64 0, .int .i64 0, .int .i64 0, .int .i64 0, .bool false, .string ⟨#[]⟩]),
  .op (.st 12 (.tmp 5) (.tmp 11)),
  .kp [3, 5, 6, 7, 8]]
def f86r5 : List I := [.op (.mov 12 (.tmp 3)),
  .op (.ld 13 (some 12) (.tmp 5)),
  .op (.call (some 14) 84 [(.tmp 13)]),
  .op (.bsl 15 103 1 [.string ⟨#[]⟩, .slice none 0 0, .bool false, .int .i64 0, .int .i64 0, .int .i64 0, .int .i64 0, .int .i64 0, .int .i64 0, .int .i64 0, .bool false, .string ⟨#[]⟩] [(0, 12, (.tmp 14))]),
  .op (.raw (some 16) ⟨(some 16), (.call ⟨(.builtin .append), #[(.tmp 12), (.tmp 15)], #[74, 74]⟩), 74, "mvcc.go:106", #[⟨0, .data⟩, ⟨3, .data⟩, ⟨2, .chain⟩], none⟩),
  .op (.mov 3 (.tmp 16)),
  .kp [3, 6, 7, 8]]
def f86r6 : List I := [.op (.bin 17 .add (.tmp 8) (.const (.int .i64 1))),
  .op (.mov 8 (.tmp 17)),
  .kp [3, 6, 7, 8]]
def f86r7 : List I := [.op (.mov 18 (.tmp 3)),
  .op (.mov 2 (.tmp 18)),
  .kp [2]]
def f86c8 : C := (.reg f86r5)
def f86c7 : C := (.seq (.reg f86r4) f86c8)
def f86c9 : C := (.reg f86r6)
def f86c6 : C := (.seq (.block 1 f86c7) f86c9)
def f86c5 : C := (.seq (.cond (.tmp 9) .skip (.exit 0)) f86c6)
def f86c4 : C := (.seq (.reg f86r3) f86c5)
def f86c10 : C := (.seq (.reg f86r7) .ret)
def f86c3 : C := (.seq (.block 0 (.loop f86c4)) f86c10)
def f86c2 : C := (.seq (.reg f86r2) f86c3)
def f86c1 : C := (.seq (.reg f86r1) f86c2)
def f86c0 : C := (.seq (.reg f86r0) f86c1)
theorem f86cmp : cmpF Try.prog Try.f86 [.l [.o 0, .kp [0]],
  .l [.o 0, .kp [0, 3]],
  .l [.o 0, .o 1, .o 2, .kp [3, 6, 7, 8]],
  .l [.o 0, .kp [3, 6, 7, 8, 9]],
  .l [.o 0, .o 1, .o 2, .o 3, .kp [3, 5, 6, 7, 8]],
  .l [.o 0, .o 1, .o 2, .o 3, .o 4, .o 5, .kp [3, 6, 7, 8]],
  .l [.o 0, .o 1, .kp [3, 6, 7, 8]],
  .l [.o 0, .o 1, .kp [2]]] = some (f86c0, [.tmp 2]) := by kernel_rfl
theorem f86ok {args : List Value} {h : Heap} {R : Value → Heap → Prop} (hn : args.length ≤ 19) (H : wC Try.prog f86c0 (endW [.tmp 2] R) (envOf 0 args) h) : CallsH Try.prog 86 args h R :=
  fn_ok2 Try.func86 f86cmp hn H
theorem f86cal : callable Try.prog 86 = true := by kernel_rfl
section
variable {Q : X → Env → Heap → Prop} {σ : Env} {h : Heap}
theorem f86c8_eq : wC Try.prog f86c8 Q σ h = (wL Try.prog none f86r5 0 (fun σ h => Q .normal σ h) σ h) := rfl
theorem f86c7_eq : wC Try.prog f86c7 Q σ h = (wL Try.prog none f86r4 0 (fun σ h => wC Try.prog f86c8 Q σ h) σ h) := rfl
theorem f86c9_eq : wC Try.prog f86c9 Q σ h = (wL Try.prog none f86r6 0 (fun σ h => Q .normal σ h) σ h) := rfl
theorem f86c6_eq : wC Try.prog f86c6 Q σ h = (wC Try.prog f86c7 (X.inBlock 1 (X.then (fun σ h => wC Try.prog f86c9 Q σ h) Q)) σ h) := rfl
theorem f86c5_eq : wC Try.prog f86c5 Q σ h = (bd (evO σ (.tmp 9)) fun v => bd (asB v) fun t => br t (wC Try.prog f86c6 Q σ h) (Q (.exit 0) σ h)) := rfl
theorem f86c4_eq : wC Try.prog f86c4 Q σ h = (wL Try.prog none f86r3 0 (fun σ h => wC Try.prog f86c5 Q σ h) σ h) := rfl
theorem f86c10_eq : wC Try.prog f86c10 Q σ h = (wL Try.prog none f86r7 0 (fun σ h => Q .ret σ h) σ h) := rfl
theorem f86c3_eq : wC Try.prog f86c3 Q σ h = (loopW (wC Try.prog f86c4) (X.inBlock 0 (X.then (fun σ h => wC Try.prog f86c10 Q σ h) Q)) σ h) := rfl
theorem f86c2_eq : wC Try.prog f86c2 Q σ h = (wL Try.prog none f86r2 0 (fun σ h => wC Try.prog f86c3 Q σ h) σ h) := rfl
theorem f86c1_eq : wC Try.prog f86c1 Q σ h = (wL Try.prog none f86r1 0 (fun σ h => wC Try.prog f86c2 Q σ h) σ h) := rfl
theorem f86c0_eq : wC Try.prog f86c0 Q σ h = (wL Try.prog none f86r0 0 (fun σ h => wC Try.prog f86c1 Q σ h) σ h) := rfl
end
/-! ### f48: antipode/antipoderef8.Copy -/
def f48r0 : List I := [.op (.mov 2 (.const (.slice none 0 0))),
  .kp [0]]
def f48r1 : List I := [.op (.mov 3 (.const (.slice none 0 0))),
  .kp [0, 3]]
def f48r2 : List I := [.op (.mov 4 (.const (.int .i64 0))),
  .kp [0, 3, 4]]
def f48r3 : List I := [.op (.mov 6 (.tmp 4)),
  .op (.mov 7 (.tmp 0)),
  .op (.len 8 true (.tmp 7)),
  .op (.bin 9 .lss (.tmp 6) (.tmp 8)),
  .kp [0, 3, 4, 9]]
def f48r4 : List I := [.op (.mov 12 (.tmp 0)),
  .op (.mov 13 (.tmp 4)),
  .op (.iad 14 12 (.tmp 12) (.tmp 13)),
  .op (.ld 15 (some 12) (.tmp 14)),
  .op (.new 5 103 [.string ⟨#[]⟩, .slice none 0 0, .bool false, .int .i64 0, .int .i64 0, .int .i64 0, .int .i64 0, .int .i64 0, .int .i64 0, .int .i64 0, .bool false, .string ⟨#[]⟩]),
  .op (.st 12 (.tmp 5) (.tmp 15)),
  .kp [0, 3, 4, 5]]
def f48r5 : List I := [.op (.bsl 16 108 0 [] []),
  .op (.fad 17 1 (.tmp 5)),
  .op (.ld 18 none (.tmp 17)),
  .op (.raw (some 19) ⟨(some 19), (.call ⟨(.builtin .append), #[(.tmp 16), (.tmp 18)], #[101, 101]⟩), 101, "ref.go:96", #[⟨0, .data⟩, ⟨2, .data⟩], none⟩),
  .op (.fad 20 1 (.tmp 5)),
  .op (.st 1 (.tmp 20) (.tmp 19)),
  .kp [0, 3, 4, 5]]
def f48r6 : List I := [.op (.mov 21 (.tmp 3)),
  .op (.ld 22 (some 12) (.tmp 5)),
  .op (.bsl 23 103 1 [.string ⟨#[]⟩, .slice none 0 0, .bool false, .int .i64 0, .int .i64 0, .int .i64 0, .int .i64 0, .int .i64 0, .int .i64 0, .int .i64 0, .bool false, .string ⟨#[]⟩] [(0, 12, (.tmp 22))]),
  .op (.raw (some 24) ⟨(some 24), (.call ⟨(.builtin .append), #[(.tmp 21), (.tmp 23)], #[74, 74]⟩), 74, "ref.go:97", #[⟨0, .data⟩, ⟨2, .data⟩], none⟩),
  .op (.mov 3 (.tmp 24)),
  .kp [0, 3, 4]]
def f48r7 : List I := [.op (.mov 10 (.tmp 4)),
  .op (.bin 11 .add (.tmp 10) (.const (.int .i64 1))),
  .op (.mov 4 (.tmp 11)),
  .kp [0, 3, 4]]
def f48r8 : List I := [.op (.mov 25 (.tmp 3)),
  .op (.mov 2 (.tmp 25)),
  .kp [2]]
def f48c9 : C := (.reg f48r6)
def f48c8 : C := (.seq (.reg f48r5) f48c9)
def f48c7 : C := (.seq (.reg f48r4) f48c8)
def f48c10 : C := (.reg f48r7)
def f48c6 : C := (.seq (.block 1 f48c7) f48c10)
def f48c5 : C := (.seq (.cond (.tmp 9) .skip (.exit 0)) f48c6)
def f48c4 : C := (.seq (.reg f48r3) f48c5)
def f48c11 : C := (.seq (.reg f48r8) .ret)
def f48c3 : C := (.seq (.block 0 (.loop f48c4)) f48c11)
def f48c2 : C := (.seq (.reg f48r2) f48c3)
def f48c1 : C := (.seq (.reg f48r1) f48c2)
def f48c0 : C := (.seq (.reg f48r0) f48c1)
theorem f48cmp : cmpF Try.prog Try.f48 [.l [.o 0, .kp [0]],
  .l [.o 0, .kp [0, 3]],
  .l [.o 0, .kp [0, 3, 4]],
  .l [.o 0, .o 1, .o 2, .o 3, .kp [0, 3, 4, 9]],
  .l [.o 0, .o 1, .o 2, .o 3, .o 4, .o 5, .kp [0, 3, 4, 5]],
  .l [.o 0, .o 1, .o 2, .o 3, .o 4, .o 5, .kp [0, 3, 4, 5]],
  .l [.o 0, .o 1, .o 2, .o 3, .o 4, .kp [0, 3, 4]],
  .l [.o 0, .o 1, .o 2, .kp [0, 3, 4]],
  .l [.o 0, .o 1, .kp [2]]] = some (f48c0, [.tmp 2]) := by kernel_rfl
theorem f48ok {args : List Value} {h : Heap} {R : Value → Heap → Prop} (hn : args.length ≤ 26) (H : wC Try.prog f48c0 (endW [.tmp 2] R) (envOf 0 args) h) : CallsH Try.prog 48 args h R :=
  fn_ok2 Try.func48 f48cmp hn H
theorem f48cal : callable Try.prog 48 = true := by kernel_rfl
section
variable {Q : X → Env → Heap → Prop} {σ : Env} {h : Heap}
theorem f48c9_eq : wC Try.prog f48c9 Q σ h = (wL Try.prog none f48r6 0 (fun σ h => Q .normal σ h) σ h) := rfl
theorem f48c8_eq : wC Try.prog f48c8 Q σ h = (wL Try.prog none f48r5 0 (fun σ h => wC Try.prog f48c9 Q σ h) σ h) := rfl
theorem f48c7_eq : wC Try.prog f48c7 Q σ h = (wL Try.prog none f48r4 0 (fun σ h => wC Try.prog f48c8 Q σ h) σ h) := rfl
theorem f48c10_eq : wC Try.prog f48c10 Q σ h = (wL Try.prog none f48r7 0 (fun σ h => Q .normal σ h) σ h) := rfl
theorem f48c6_eq : wC Try.prog f48c6 Q σ h = (wC Try.prog f48c7 (X.inBlock 1 (X.then (fun σ h => wC Try.prog f48c10 Q σ h) Q)) σ h) := rfl
theorem f48c5_eq : wC Try.prog f48c5 Q σ h = (bd (evO σ (.tmp 9)) fun v => bd (asB v) fun t => br t (wC Try.prog f48c6 Q σ h) (Q (.exit 0) σ h)) := rfl
theorem f48c4_eq : wC Try.prog f48c4 Q σ h = (wL Try.prog none f48r3 0 (fun σ h => wC Try.prog f48c5 Q σ h) σ h) := rfl
theorem f48c11_eq : wC Try.prog f48c11 Q σ h = (wL Try.prog none f48r8 0 (fun σ h => Q .ret σ h) σ h) := rfl
theorem f48c3_eq : wC Try.prog f48c3 Q σ h = (loopW (wC Try.prog f48c4) (X.inBlock 0 (X.then (fun σ h => wC Try.prog f48c11 Q σ h) Q)) σ h) := rfl
theorem f48c2_eq : wC Try.prog f48c2 Q σ h = (wL Try.prog none f48r2 0 (fun σ h => wC Try.prog f48c3 Q σ h) σ h) := rfl
theorem f48c1_eq : wC Try.prog f48c1 Q σ h = (wL Try.prog none f48r1 0 (fun σ h => wC Try.prog f48c2 Q σ h) σ h) := rfl
theorem f48c0_eq : wC Try.prog f48c0 Q σ h = (wL Try.prog none f48r0 0 (fun σ h => wC Try.prog f48c1 Q σ h) σ h) := rfl
end
/-! ### f115: slices.Insert[[]antipode/api.Version,antipode/api.Version] -/
def f115r0 : List I := [.op (.mov 6 (.const (.slice none 0 0))),
  .kp [0, 1, 2]]
def f115r1 : List I := [.op (.mov 10 (.tmp 0)),
  .op (.mov 11 (.tmp 1)),
  .op (.slc 12 4 (.tmp 10) (some (.tmp 11)) none none),
  .kp [0, 1, 2]]
def f115r2 : List I := [.op (.mov 13 (.tmp 2)),
  .op (.len 14 true (.tmp 13)),
  .op (.mov 7 (.tmp 14)),
  .kp [0, 1, 2, 7]]
def f115r3 : List I := [.op (.mov 15 (.tmp 7)),
  .op (.bin 16 .eql (.tmp 15) (.const (.int .i64 0))),
  .kp [0, 1, 2, 7, 16]]
def f115r4 : List I := [.op (.mov 17 (.tmp 0)),
  .op (.mov 6 (.tmp 17)),
  .kp [6]]
def f115r5 : List I := [.op (.mov 18 (.tmp 0)),
  .op (.len 19 true (.tmp 18)),
  .op (.mov 8 (.tmp 19)),
  .kp [0, 1, 2, 7, 8]]
def f115r6 : List I := [.op (.mov 20 (.tmp 1)),
  .op (.mov 21 (.tmp 8)),
  .op (.bin 22 .eql (.tmp 20) (.tmp 21)),
  .kp [0, 1, 2, 7, 8, 22]]
def f115r7 : List I := [.op (.mov 23 (.tmp 0)),
  .op (.mov 24 (.tmp 2)),
  .op (.raw (some 25) ⟨(some 25), (.call ⟨(.builtin .append), #[(.tmp 23), (.tmp 24)], #[101, 101]⟩), 101, "slices.go:145", #[⟨0, .data⟩, ⟨1, .data⟩], none⟩),
  .op (.mov 6 (.tmp 25)),
  .kp [6]]
def f115r8 : List I := [.op (.mov 26 (.tmp 8)),
  .op (.mov 27 (.tmp 7)),
  .op (.bin 28 .add (.tmp 26) (.tmp 27)),
  .op (.mov 29 (.tmp 0)),
  .op (.cap 30 (.tmp 29)),
  .op (.bin 31 .gtr (.tmp 28) (.tmp 30)),
  .kp [0, 1, 2, 7, 8, 31]]
def f115r9 : List I := [.op (.mov 32 (.tmp 0)),
  .op (.mov 33 (.tmp 1)),
  .op (.slc 34 4 (.tmp 32) none (some (.tmp 33)) none),
  .op (.mov 35 (.tmp 8)),
  .op (.mov 36 (.tmp 7)),
  .op (.bin 37 .add (.tmp 35) (.tmp 36)),
  .op (.mov 38 (.tmp 1)),
  .op (.bin 39 .sub (.tmp 37) (.tmp 38)),
  .op (.raw (some 40) ⟨(some 40), (.call ⟨(.builtin .append), #[(.tmp 34), (.tmp 39)], #[101, 3]⟩), 101, "slices.go:152", #[⟨2, .data⟩, ⟨7, .data⟩], none⟩),
  .op (.mov 9 (.tmp 40)),
  .kp [0, 1, 2, 7, 9]]
def f115r10 : List I := [.op (.mov 41 (.tmp 9)),
  .op (.mov 42 (.tmp 1)),
  .op (.slc 43 4 (.tmp 41) (some (.tmp 42)) none none),
  .op (.mov 44 (.tmp 2)),
  .op (.raw (some 45) ⟨(some 45), (.call ⟨(.builtin .copy), #[(.tmp 43), (.tmp 44)], #[101, 101]⟩), 3, "slices.go:153", #[⟨2, .data⟩, ⟨3, .data⟩], none⟩),
  .kp [0, 1, 7, 9]]
def f115r11 : List I := [.op (.mov 46 (.tmp 9)),
  .op (.mov 47 (.tmp 1)),
  .op (.mov 48 (.tmp 7)),
  .op (.bin 49 .add (.tmp 47) (.tmp 48)),
  .op (.slc 50 4 (.tmp 46) (some (.tmp 49)) none none),
  .op (.mov 51 (.tmp 0)),
  .op (.mov 52 (.tmp 1)),
  .op (.slc 53 4 (.tmp 51) (some (.tmp 52)) none none),
  .op (.raw (some 54) ⟨(some 54), (.call ⟨(.builtin .copy), #[(.tmp 50), (.tmp 53)], #[101, 101]⟩), 3, "slices.go:154", #[⟨4, .data⟩, ⟨7, .data⟩], none⟩),
  .kp [9]]
def f115r12 : List I := [.op (.mov 55 (.tmp 9)),
  .op (.mov 6 (.tmp 55)),
  .kp [6]]
def f115r13 : List I := [.op (.mov 56 (.tmp 0)),
  .op (.mov 57 (.tmp 8)),
  .op (.mov 58 (.tmp 7)),
  .op (.bin 59 .add (.tmp 57) (.tmp 58)),
  .op (.slc 60 4 (.tmp 56) none (some (.tmp 59)) none),
  .op (.mov 0 (.tmp 60)),
  .kp [0, 1, 2, 7, 8]]
def f115r14 : List I := [.op (.mov 61 (.tmp 2)),
  .op (.mov 62 (.tmp 0)),
  .op (.mov 63 (.tmp 1)),
  .op (.mov 64 (.tmp 7)),
  .op (.bin 65 .add (.tmp 63) (.tmp 64)),
  .op (.slc 66 4 (.tmp 62) (some (.tmp 65)) none none),
  .op (.raw (some 67) ⟨(some 67), (.call ⟨(.value (.func 137)), #[(.tmp 61), (.tmp 66)], #[101, 101]⟩), 4, "slices.go:173", #[⟨0, .data⟩, ⟨5, .data⟩], none⟩),
  .op (.un 68 .not (.tmp 67)),
  .kp [0, 1, 2, 7, 8, 68]]
def f115r15 : List I := [.op (.mov 69 (.tmp 0)),
  .op (.mov 70 (.tmp 1)),
  .op (.mov 71 (.tmp 7)),
  .op (.bin 72 .add (.tmp 70) (.tmp 71)),
  .op (.slc 73 4 (.tmp 69) (some (.tmp 72)) none none),
  .op (.mov 74 (.tmp 0)),
  .op (.mov 75 (.tmp 1)),
  .op (.slc 76 4 (.tmp 74) (some (.tmp 75)) none none),
  .op (.raw (some 77) ⟨(some 77), (.call ⟨(.builtin .copy), #[(.tmp 73), (.tmp 76)], #[101, 101]⟩), 3, "slices.go:178", #[⟨4, .data⟩, ⟨7, .data⟩], none⟩),
  .kp [0, 1, 2]]
def f115r16 : List I := [.op (.mov 78 (.tmp 0)),
  .op (.mov 79 (.tmp 1)),
  .op (.slc 80 4 (.tmp 78) (some (.tmp 79)) none none),
  .op (.mov 81 (.tmp 2)),
  .op (.raw (some 82) ⟨(some 82), (.call ⟨(.builtin .copy), #[(.tmp 80), (.tmp 81)], #[101, 101]⟩), 3, "slices.go:186", #[⟨2, .data⟩, ⟨3, .data⟩], none⟩),
  .kp [0]]
def f115r17 : List I := [.op (.mov 83 (.tmp 0)),
  .op (.mov 6 (.tmp 83)),
  .kp [6]]
def f115r18 : List I := [.op (.mov 84 (.tmp 0)),
  .op (.mov 85 (.tmp 8)),
  .op (.slc 86 4 (.tmp 84) (some (.tmp 85)) none none),
  .op (.mov 87 (.tmp 2)),
  .op (.raw (some 88) ⟨(some 88), (.call ⟨(.builtin .copy), #[(.tmp 86), (.tmp 87)], #[101, 101]⟩), 3, "slices.go:200", #[⟨2, .data⟩, ⟨3, .data⟩], none⟩),
  .kp [0, 1, 7]]
def f115r19 : List I := [.op (.mov 89 (.tmp 0)),
  .op (.mov 90 (.tmp 1)),
  .op (.slc 91 4 (.tmp 89) (some (.tmp 90)) none none),
  .op (.mov 92 (.tmp 7)),
  .op (.call (some 93) 138 [(.tmp 91), (.tmp 92)]),
  .kp [0]]
def f115r20 : List I := [.op (.mov 94 (.tmp 0)),
  .op (.mov 6 (.tmp 94)),
  .kp [6]]
def f115c5 : C := (.seq (.reg f115r4) .ret)
def f115c9 : C := (.seq (.reg f115r7) .ret)
def f115c15 : C := (.seq (.reg f115r12) .ret)
def f115c14 : C := (.seq (.drw f115r11) f115c15)
def f115c13 : C := (.seq (.reg f115r10) f115c14)
def f115c12 : C := (.seq (.reg f115r9) f115c13)
def f115c21 : C := (.seq (.reg f115r17) .ret)
def f115c20 : C := (.seq (.reg f115r16) f115c21)
def f115c19 : C := (.seq (.drw f115r15) f115c20)
def f115c24 : C := (.seq (.reg f115r20) .ret)
def f115c23 : C := (.seq (.reg f115r19) f115c24)
def f115c22 : C := (.seq (.reg f115r18) f115c23)
def f115c18 : C := (.seq (.cond (.tmp 68) f115c19 .skip) f115c22)
def f115c17 : C := (.seq (.reg f115r14) f115c18)
def f115c16 : C := (.seq (.reg f115r13) f115c17)
def f115c11 : C := (.seq (.cond (.tmp 31) f115c12 .skip) f115c16)
def f115c10 : C := (.seq (.reg f115r8) f115c11)
def f115c8 : C := (.seq (.cond (.tmp 22) f115c9 .skip) f115c10)
def f115c7 : C := (.seq (.reg f115r6) f115c8)
def f115c6 : C := (.seq (.reg f115r5) f115c7)
def f115c4 : C := (.seq (.cond (.tmp 16) f115c5 .skip) f115c6)
def f115c3 : C := (.seq (.reg f115r3) f115c4)
def f115c2 : C := (.seq (.reg f115r2) f115c3)
def f115c1 : C := (.seq (.reg f115r1) f115c2)
def f115c0 : C := (.seq (.reg f115r0) f115c1)
theorem f115cmp : cmpF Try.prog Try.f115 [.l [.o 0, .kp [0, 1, 2]],
  .l [.o 0, .o 1, .o 2, .kp [0, 1, 2]],
  .l [.o 0, .o 1, .o 2, .kp [0, 1, 2, 7]],
  .l [.o 0, .o 1, .kp [0, 1, 2, 7, 16]],
  .l [.o 0, .o 1, .kp [6]],
  .l [.o 0, .o 1, .o 2, .kp [0, 1, 2, 7, 8]],
  .l [.o 0, .o 1, .o 2, .kp [0, 1, 2, 7, 8, 22]],
  .l [.o 0, .o 1, .o 2, .o 3, .kp [6]],
  .l [.o 0, .o 1, .o 2, .o 3, .o 4, .o 5, .kp [0, 1, 2, 7, 8, 31]],
  .l [.o 0, .o 1, .o 2, .o 3, .o 4, .o 5, .o 6, .o 7, .o 8, .o 9, .kp [0, 1, 2, 7, 9]],
  .l [.o 0, .o 1, .o 2, .o 3, .o 4, .kp [0, 1, 7, 9]],
  .l [.o 0, .o 1, .o 2, .o 3, .o 4, .o 5, .o 6, .o 7, .o 8, .kp [9]],
  .l [.o 0, .o 1, .kp [6]],
  .l [.o 0, .o 1, .o 2, .o 3, .o 4, .o 5, .kp [0, 1, 2, 7, 8]],
  .l [.o 0, .o 1, .o 2, .o 3, .o 4, .o 5, .o 6, .o 7, .kp [0, 1, 2, 7, 8, 68]],
  .l [.o 0, .o 1, .o 2, .o 3, .o 4, .o 5, .o 6, .o 7, .o 8, .kp [0, 1, 2]],
  .l [.o 0, .o 1, .o 2, .o 3, .o 4, .kp [0]],
  .l [.o 0, .o 1, .kp [6]],
  .l [.o 0, .o 1, .o 2, .o 3, .o 4, .kp [0, 1, 7]],
  .l [.o 0, .o 1, .o 2, .o 3, .o 4, .kp [0]],
  .l [.o 0, .o 1, .kp [6]]] = some (f115c0, [.tmp 6]) := by kernel_rfl
theorem f115ok {args : List Value} {h : Heap} {R : Value → Heap → Prop} (hn : args.length ≤ 95) (H : wC Try.prog f115c0 (endW [.tmp 6] R) (envOf 0 args) h) : CallsH Try.prog 115 args h R :=
  fn_ok2 Try.func115 f115cmp hn H
theorem f115cal : callable Try.prog 115 = true := by kernel_rfl
section
variable {Q : X → Env → Heap → Prop} {σ : Env} {h : Heap}
theorem f115c5_eq : wC Try.prog f115c5 Q σ h = (wL Try.prog none f115r4 0 (fun σ h => Q .ret σ h) σ h) := rfl
theorem f115c9_eq : wC Try.prog f115c9 Q σ h = (wL Try.prog none f115r7 0 (fun σ h => Q .ret σ h) σ h) := rfl
theorem f115c15_eq : wC Try.prog f115c15 Q σ h = (wL Try.prog none f115r12 0 (fun σ h => Q .ret σ h) σ h) := rfl
theorem f115c14_eq : wC Try.prog f115c14 Q σ h = (drwW Try.prog f115r11 (fun σ h => wC Try.prog f115c15 Q σ h) σ h) := rfl
theorem f115c13_eq : wC Try.prog f115c13 Q σ h = (wL Try.prog none f115r10 0 (fun σ h => wC Try.prog f115c14 Q σ h) σ h) := rfl
theorem f115c12_eq : wC Try.prog f115c12 Q σ h = (wL Try.prog none f115r9 0 (fun σ h => wC Try.prog f115c13 Q σ h) σ h) := rfl
theorem f115c21_eq : wC Try.prog f115c21 Q σ h = (wL Try.prog none f115r17 0 (fun σ h => Q .ret σ h) σ h) := rfl
theorem f115c20_eq : wC Try.prog f115c20 Q σ h = (wL Try.prog none f115r16 0 (fun σ h => wC Try.prog f115c21 Q σ h) σ h) := rfl
theorem f115c19_eq : wC Try.prog f115c19 Q σ h = (drwW Try.prog f115r15 (fun σ h => wC Try.prog f115c20 Q σ h) σ h) := rfl
theorem f115c24_eq : wC Try.prog f115c24 Q σ h = (wL Try.prog none f115r20 0 (fun σ h => Q .ret σ h) σ h) := rfl
theorem f115c23_eq : wC Try.prog f115c23 Q σ h = (wL Try.prog none f115r19 0 (fun σ h => wC Try.prog f115c24 Q σ h) σ h) := rfl
theorem f115c22_eq : wC Try.prog f115c22 Q σ h = (wL Try.prog none f115r18 0 (fun σ h => wC Try.prog f115c23 Q σ h) σ h) := rfl
theorem f115c18_eq : wC Try.prog f115c18 Q σ h = (bd (evO σ (.tmp 68)) fun v => bd (asB v) fun t => br t (wC Try.prog f115c19 (X.then (fun σ h => wC Try.prog f115c22 Q σ h) Q) σ h) (wC Try.prog f115c22 Q σ h)) := rfl
theorem f115c17_eq : wC Try.prog f115c17 Q σ h = (wL Try.prog none f115r14 0 (fun σ h => wC Try.prog f115c18 Q σ h) σ h) := rfl
theorem f115c16_eq : wC Try.prog f115c16 Q σ h = (wL Try.prog none f115r13 0 (fun σ h => wC Try.prog f115c17 Q σ h) σ h) := rfl
theorem f115c11_eq : wC Try.prog f115c11 Q σ h = (bd (evO σ (.tmp 31)) fun v => bd (asB v) fun t => br t (wC Try.prog f115c12 (X.then (fun σ h => wC Try.prog f115c16 Q σ h) Q) σ h) (wC Try.prog f115c16 Q σ h)) := rfl
theorem f115c10_eq : wC Try.prog f115c10 Q σ h = (wL Try.prog none f115r8 0 (fun σ h => wC Try.prog f115c11 Q σ h) σ h) := rfl
theorem f115c8_eq : wC Try.prog f115c8 Q σ h = (bd (evO σ (.tmp 22)) fun v => bd (asB v) fun t => br t (wC Try.prog f115c9 (X.then (fun σ h => wC Try.prog f115c10 Q σ h) Q) σ h) (wC Try.prog f115c10 Q σ h)) := rfl
theorem f115c7_eq : wC Try.prog f115c7 Q σ h = (wL Try.prog none f115r6 0 (fun σ h => wC Try.prog f115c8 Q σ h) σ h) := rfl
theorem f115c6_eq : wC Try.prog f115c6 Q σ h = (wL Try.prog none f115r5 0 (fun σ h => wC Try.prog f115c7 Q σ h) σ h) := rfl
theorem f115c4_eq : wC Try.prog f115c4 Q σ h = (bd (evO σ (.tmp 16)) fun v => bd (asB v) fun t => br t (wC Try.prog f115c5 (X.then (fun σ h => wC Try.prog f115c6 Q σ h) Q) σ h) (wC Try.prog f115c6 Q σ h)) := rfl
theorem f115c3_eq : wC Try.prog f115c3 Q σ h = (wL Try.prog none f115r3 0 (fun σ h => wC Try.prog f115c4 Q σ h) σ h) := rfl
theorem f115c2_eq : wC Try.prog f115c2 Q σ h = (wL Try.prog none f115r2 0 (fun σ h => wC Try.prog f115c3 Q σ h) σ h) := rfl
theorem f115c1_eq : wC Try.prog f115c1 Q σ h = (wL Try.prog none f115r1 0 (fun σ h => wC Try.prog f115c2 Q σ h) σ h) := rfl
theorem f115c0_eq : wC Try.prog f115c0 Q σ h = (wL Try.prog none f115r0 0 (fun σ h => wC Try.prog f115c1 Q σ h) σ h) := rfl
end
/-! ### f88: slices.Insert[[]antipode/api.Cell,antipode/api.Cell] -/
def f88r0 : List I := [.op (.mov 6 (.const (.slice none 0 0))),
  .kp [0, 1, 2]]
def f88r1 : List I := [.op (.mov 10 (.tmp 0)),
  .op (.mov 11 (.tmp 1)),
  .op (.slc 12 12 (.tmp 10) (some (.tmp 11)) none none),
  .kp [0, 1, 2]]
def f88r2 : List I := [.op (.mov 13 (.tmp 2)),
  .op (.len 14 true (.tmp 13)),
  .op (.mov 7 (.tmp 14)),
  .kp [0, 1, 2, 7]]
def f88r3 : List I := [.op (.mov 15 (.tmp 7)),
  .op (.bin 16 .eql (.tmp 15) (.const (.int .i64 0))),
  .kp [0, 1, 2, 7, 16]]
def f88r4 : List I := [.op (.mov 17 (.tmp 0)),
  .op (.mov 6 (.tmp 17)),
  .kp [6]]
def f88r5 : List I := [.op (.mov 18 (.tmp 0)),
  .op (.len 19 true (.tmp 18)),
  .op (.mov 8 (.tmp 19)),
  .kp [0, 1, 2, 7, 8]]
def f88r6 : List I := [.op (.mov 20 (.tmp 1)),
  .op (.mov 21 (.tmp 8)),
  .op (.bin 22 .eql (.tmp 20) (.tmp 21)),
  .kp [0, 1, 2, 7, 8, 22]]
def f88r7 : List I := [.op (.mov 23 (.tmp 0)),
  .op (.mov 24 (.tmp 2)),
  .op (.raw (some 25) ⟨(some 25), (.call ⟨(.builtin .append), #[(.tmp 23), (.tmp 24)], #[74, 74]⟩), 74, "slices.go:145", #[⟨0, .data⟩, ⟨1, .data⟩], none⟩),
  .op (.mov 6 (.tmp 25)),
  .kp [6]]
def f88r8 : List I := [.op (.mov 26 (.tmp 8)),
  .op (.mov 27 (.tmp 7)),
  .op (.bin 28 .add (.tmp 26) (.tmp 27)),
  .op (.mov 29 (.tmp 0)),
  .op (.cap 30 (.tmp 29)),
  .op (.bin 31 .gtr (.tmp 28) (.tmp 30)),
  .kp [0, 1, 2, 7, 8, 31]]
def f88r9 : List I := [.op (.mov 32 (.tmp 0)),
  .op (.mov 33 (.tmp 1)),
  .op (.slc 34 12 (.tmp 32) none (some (.tmp 33)) none),
  .op (.mov 35 (.tmp 8)),
  .op (.mov 36 (.tmp 7)),
  .op (.bin 37 .add (.tmp 35) (.tmp 36)),
  .op (.mov 38 (.tmp 1)),
  .op (.bin 39 .sub (.tmp 37) (.tmp 38)),
  .op (.raw (some 40) ⟨(some 40), (.call ⟨(.builtin .append), #[(.tmp 34), (.tmp 39)], #[74, 3]⟩), 74, "slices.go:152", #[⟨2, .data⟩, ⟨7, .data⟩], none⟩),
  .op (.mov 9 (.tmp 40)),
  .kp [0, 1, 2, 7, 9]]
def f88r10 : List I := [.op (.mov 41 (.tmp 9)),
  .op (.mov 42 (.tmp 1)),
  .op (.slc 43 12 (.tmp 41) (some (.tmp 42)) none none),
  .op (.mov 44 (.tmp 2)),
  .op (.raw (some 45) ⟨(some 45), (.call ⟨(.builtin .copy), #[(.tmp 43), (.tmp 44)], #[74, 74]⟩), 3, "slices.go:153", #[⟨2, .data⟩, ⟨3, .data⟩], none⟩),
  .kp [0, 1, 7, 9]]
def f88r11 : List I := [.op (.mov 46 (.tmp 9)),
  .op (.mov 47 (.tmp 1)),
  .op (.mov 48 (.tmp 7)),
  .op (.bin 49 .add (.tmp 47) (.tmp 48)),
  .op (.slc 50 12 (.tmp 46) (some (.tmp 49)) none none),
  .op (.mov 51 (.tmp 0)),
  .op (.mov 52 (.tmp 1)),
  .op (.slc 53 12 (.tmp 51) (some (.tmp 52)) none none),
  .op (.raw (some 54) ⟨(some 54), (.call ⟨(.builtin .copy), #[(.tmp 50), (.tmp 53)], #[74, 74]⟩), 3, "slices.go:154", #[⟨4, .data⟩, ⟨7, .data⟩], none⟩),
  .kp [9]]
def f88r12 : List I := [.op (.mov 55 (.tmp 9)),
  .op (.mov 6 (.tmp 55)),
  .kp [6]]
def f88r13 : List I := [.op (.mov 56 (.tmp 0)),
  .op (.mov 57 (.tmp 8)),
  .op (.mov 58 (.tmp 7)),
  .op (.bin 59 .add (.tmp 57) (.tmp 58)),
  .op (.slc 60 12 (.tmp 56) none (some (.tmp 59)) none),
  .op (.mov 0 (.tmp 60)),
  .kp [0, 1, 2, 7, 8]]
def f88r14 : List I := [.op (.mov 61 (.tmp 2)),
  .op (.mov 62 (.tmp 0)),
  .op (.mov 63 (.tmp 1)),
  .op (.mov 64 (.tmp 7)),
  .op (.bin 65 .add (.tmp 63) (.tmp 64)),
  .op (.slc 66 12 (.tmp 62) (some (.tmp 65)) none none),
  .op (.raw (some 67) ⟨(some 67), (.call ⟨(.value (.func 119)), #[(.tmp 61), (.tmp 66)], #[74, 74]⟩), 4, "slices.go:173", #[⟨0, .data⟩, ⟨5, .data⟩], none⟩),
  .op (.un 68 .not (.tmp 67)),
  .kp [0, 1, 2, 7, 8, 68]]
def f88r15 : List I := [.op (.mov 69 (.tmp 0)),
  .op (.mov 70 (.tmp 1)),
  .op (.mov 71 (.tmp 7)),
  .op (.bin 72 .add (.tmp 70) (.tmp 71)),
  .op (.slc 73 12 (.tmp 69) (some (.tmp 72)) none none),
  .op (.mov 74 (.tmp 0)),
  .op (.mov 75 (.tmp 1)),
  .op (.slc 76 12 (.tmp 74) (some (.tmp 75)) none none),
  .op (.raw (some 77) ⟨(some 77), (.call ⟨(.builtin .copy), #[(.tmp 73), (.tmp 76)], #[74, 74]⟩), 3, "slices.go:178", #[⟨4, .data⟩, ⟨7, .data⟩], none⟩),
  .kp [0, 1, 2]]
def f88r16 : List I := [.op (.mov 78 (.tmp 0)),
  .op (.mov 79 (.tmp 1)),
  .op (.slc 80 12 (.tmp 78) (some (.tmp 79)) none none),
  .op (.mov 81 (.tmp 2)),
  .op (.raw (some 82) ⟨(some 82), (.call ⟨(.builtin .copy), #[(.tmp 80), (.tmp 81)], #[74, 74]⟩), 3, "slices.go:186", #[⟨2, .data⟩, ⟨3, .data⟩], none⟩),
  .kp [0]]
def f88r17 : List I := [.op (.mov 83 (.tmp 0)),
  .op (.mov 6 (.tmp 83)),
  .kp [6]]
def f88r18 : List I := [.op (.mov 84 (.tmp 0)),
  .op (.mov 85 (.tmp 8)),
  .op (.slc 86 12 (.tmp 84) (some (.tmp 85)) none none),
  .op (.mov 87 (.tmp 2)),
  .op (.raw (some 88) ⟨(some 88), (.call ⟨(.builtin .copy), #[(.tmp 86), (.tmp 87)], #[74, 74]⟩), 3, "slices.go:200", #[⟨2, .data⟩, ⟨3, .data⟩], none⟩),
  .kp [0, 1, 7]]
def f88r19 : List I := [.op (.mov 89 (.tmp 0)),
  .op (.mov 90 (.tmp 1)),
  .op (.slc 91 12 (.tmp 89) (some (.tmp 90)) none none),
  .op (.mov 92 (.tmp 7)),
  .op (.call (some 93) 120 [(.tmp 91), (.tmp 92)]),
  .kp [0]]
def f88r20 : List I := [.op (.mov 94 (.tmp 0)),
  .op (.mov 6 (.tmp 94)),
  .kp [6]]
def f88c5 : C := (.seq (.reg f88r4) .ret)
def f88c9 : C := (.seq (.reg f88r7) .ret)
def f88c15 : C := (.seq (.reg f88r12) .ret)
def f88c14 : C := (.seq (.drw f88r11) f88c15)
def f88c13 : C := (.seq (.reg f88r10) f88c14)
def f88c12 : C := (.seq (.reg f88r9) f88c13)
def f88c21 : C := (.seq (.reg f88r17) .ret)
def f88c20 : C := (.seq (.reg f88r16) f88c21)
def f88c19 : C := (.seq (.drw f88r15) f88c20)
def f88c24 : C := (.seq (.reg f88r20) .ret)
def f88c23 : C := (.seq (.reg f88r19) f88c24)
def f88c22 : C := (.seq (.reg f88r18) f88c23)
def f88c18 : C := (.seq (.cond (.tmp 68) f88c19 .skip) f88c22)
def f88c17 : C := (.seq (.reg f88r14) f88c18)
def f88c16 : C := (.seq (.reg f88r13) f88c17)
def f88c11 : C := (.seq (.cond (.tmp 31) f88c12 .skip) f88c16)
def f88c10 : C := (.seq (.reg f88r8) f88c11)
def f88c8 : C := (.seq (.cond (.tmp 22) f88c9 .skip) f88c10)
def f88c7 : C := (.seq (.reg f88r6) f88c8)
def f88c6 : C := (.seq (.reg f88r5) f88c7)
def f88c4 : C := (.seq (.cond (.tmp 16) f88c5 .skip) f88c6)
def f88c3 : C := (.seq (.reg f88r3) f88c4)
def f88c2 : C := (.seq (.reg f88r2) f88c3)
def f88c1 : C := (.seq (.reg f88r1) f88c2)
def f88c0 : C := (.seq (.reg f88r0) f88c1)
theorem f88cmp : cmpF Try.prog Try.f88 [.l [.o 0, .kp [0, 1, 2]],
  .l [.o 0, .o 1, .o 2, .kp [0, 1, 2]],
  .l [.o 0, .o 1, .o 2, .kp [0, 1, 2, 7]],
  .l [.o 0, .o 1, .kp [0, 1, 2, 7, 16]],
  .l [.o 0, .o 1, .kp [6]],
  .l [.o 0, .o 1, .o 2, .kp [0, 1, 2, 7, 8]],
  .l [.o 0, .o 1, .o 2, .kp [0, 1, 2, 7, 8, 22]],
  .l [.o 0, .o 1, .o 2, .o 3, .kp [6]],
  .l [.o 0, .o 1, .o 2, .o 3, .o 4, .o 5, .kp [0, 1, 2, 7, 8, 31]],
  .l [.o 0, .o 1, .o 2, .o 3, .o 4, .o 5, .o 6, .o 7, .o 8, .o 9, .kp [0, 1, 2, 7, 9]],
  .l [.o 0, .o 1, .o 2, .o 3, .o 4, .kp [0, 1, 7, 9]],
  .l [.o 0, .o 1, .o 2, .o 3, .o 4, .o 5, .o 6, .o 7, .o 8, .kp [9]],
  .l [.o 0, .o 1, .kp [6]],
  .l [.o 0, .o 1, .o 2, .o 3, .o 4, .o 5, .kp [0, 1, 2, 7, 8]],
  .l [.o 0, .o 1, .o 2, .o 3, .o 4, .o 5, .o 6, .o 7, .kp [0, 1, 2, 7, 8, 68]],
  .l [.o 0, .o 1, .o 2, .o 3, .o 4, .o 5, .o 6, .o 7, .o 8, .kp [0, 1, 2]],
  .l [.o 0, .o 1, .o 2, .o 3, .o 4, .kp [0]],
  .l [.o 0, .o 1, .kp [6]],
  .l [.o 0, .o 1, .o 2, .o 3, .o 4, .kp [0, 1, 7]],
  .l [.o 0, .o 1, .o 2, .o 3, .o 4, .kp [0]],
  .l [.o 0, .o 1, .kp [6]]] = some (f88c0, [.tmp 6]) := by kernel_rfl
theorem f88ok {args : List Value} {h : Heap} {R : Value → Heap → Prop} (hn : args.length ≤ 95) (H : wC Try.prog f88c0 (endW [.tmp 6] R) (envOf 0 args) h) : CallsH Try.prog 88 args h R :=
  fn_ok2 Try.func88 f88cmp hn H
theorem f88cal : callable Try.prog 88 = true := by kernel_rfl
section
variable {Q : X → Env → Heap → Prop} {σ : Env} {h : Heap}
theorem f88c5_eq : wC Try.prog f88c5 Q σ h = (wL Try.prog none f88r4 0 (fun σ h => Q .ret σ h) σ h) := rfl
theorem f88c9_eq : wC Try.prog f88c9 Q σ h = (wL Try.prog none f88r7 0 (fun σ h => Q .ret σ h) σ h) := rfl
theorem f88c15_eq : wC Try.prog f88c15 Q σ h = (wL Try.prog none f88r12 0 (fun σ h => Q .ret σ h) σ h) := rfl
theorem f88c14_eq : wC Try.prog f88c14 Q σ h = (drwW Try.prog f88r11 (fun σ h => wC Try.prog f88c15 Q σ h) σ h) := rfl
theorem f88c13_eq : wC Try.prog f88c13 Q σ h = (wL Try.prog none f88r10 0 (fun σ h => wC Try.prog f88c14 Q σ h) σ h) := rfl
theorem f88c12_eq : wC Try.prog f88c12 Q σ h = (wL Try.prog none f88r9 0 (fun σ h => wC Try.prog f88c13 Q σ h) σ h) := rfl
theorem f88c21_eq : wC Try.prog f88c21 Q σ h = (wL Try.prog none f88r17 0 (fun σ h => Q .ret σ h) σ h) := rfl
theorem f88c20_eq : wC Try.prog f88c20 Q σ h = (wL Try.prog none f88r16 0 (fun σ h => wC Try.prog f88c21 Q σ h) σ h) := rfl
theorem f88c19_eq : wC Try.prog f88c19 Q σ h = (drwW Try.prog f88r15 (fun σ h => wC Try.prog f88c20 Q σ h) σ h) := rfl
theorem f88c24_eq : wC Try.prog f88c24 Q σ h = (wL Try.prog none f88r20 0 (fun σ h => Q .ret σ h) σ h) := rfl
theorem f88c23_eq : wC Try.prog f88c23 Q σ h = (wL Try.prog none f88r19 0 (fun σ h => wC Try.prog f88c24 Q σ h) σ h) := rfl
theorem f88c22_eq : wC Try.prog f88c22 Q σ h = (wL Try.prog none f88r18 0 (fun σ h => wC Try.prog f88c23 Q σ h) σ h) := rfl
theorem f88c18_eq : wC Try.prog f88c18 Q σ h = (bd (evO σ (.tmp 68)) fun v => bd (asB v) fun t => br t (wC Try.prog f88c19 (X.then (fun σ h => wC Try.prog f88c22 Q σ h) Q) σ h) (wC Try.prog f88c22 Q σ h)) := rfl
theorem f88c17_eq : wC Try.prog f88c17 Q σ h = (wL Try.prog none f88r14 0 (fun σ h => wC Try.prog f88c18 Q σ h) σ h) := rfl
theorem f88c16_eq : wC Try.prog f88c16 Q σ h = (wL Try.prog none f88r13 0 (fun σ h => wC Try.prog f88c17 Q σ h) σ h) := rfl
theorem f88c11_eq : wC Try.prog f88c11 Q σ h = (bd (evO σ (.tmp 31)) fun v => bd (asB v) fun t => br t (wC Try.prog f88c12 (X.then (fun σ h => wC Try.prog f88c16 Q σ h) Q) σ h) (wC Try.prog f88c16 Q σ h)) := rfl
theorem f88c10_eq : wC Try.prog f88c10 Q σ h = (wL Try.prog none f88r8 0 (fun σ h => wC Try.prog f88c11 Q σ h) σ h) := rfl
theorem f88c8_eq : wC Try.prog f88c8 Q σ h = (bd (evO σ (.tmp 22)) fun v => bd (asB v) fun t => br t (wC Try.prog f88c9 (X.then (fun σ h => wC Try.prog f88c10 Q σ h) Q) σ h) (wC Try.prog f88c10 Q σ h)) := rfl
theorem f88c7_eq : wC Try.prog f88c7 Q σ h = (wL Try.prog none f88r6 0 (fun σ h => wC Try.prog f88c8 Q σ h) σ h) := rfl
theorem f88c6_eq : wC Try.prog f88c6 Q σ h = (wL Try.prog none f88r5 0 (fun σ h => wC Try.prog f88c7 Q σ h) σ h) := rfl
theorem f88c4_eq : wC Try.prog f88c4 Q σ h = (bd (evO σ (.tmp 16)) fun v => bd (asB v) fun t => br t (wC Try.prog f88c5 (X.then (fun σ h => wC Try.prog f88c6 Q σ h) Q) σ h) (wC Try.prog f88c6 Q σ h)) := rfl
theorem f88c3_eq : wC Try.prog f88c3 Q σ h = (wL Try.prog none f88r3 0 (fun σ h => wC Try.prog f88c4 Q σ h) σ h) := rfl
theorem f88c2_eq : wC Try.prog f88c2 Q σ h = (wL Try.prog none f88r2 0 (fun σ h => wC Try.prog f88c3 Q σ h) σ h) := rfl
theorem f88c1_eq : wC Try.prog f88c1 Q σ h = (wL Try.prog none f88r1 0 (fun σ h => wC Try.prog f88c2 Q σ h) σ h) := rfl
theorem f88c0_eq : wC Try.prog f88c0 Q σ h = (wL Try.prog none f88r0 0 (fun σ h => wC Try.prog f88c1 Q σ h) σ h) := rfl
end
/-! ### f85: antipode/mvcc.put -/
def f85r0 : List I := [.op (.box 3 108 (.tmp 1)),
  .op (.mov 4 (.const (.slice none 0 0))),
  .kp [0, 3]]
def f85r1 : List I := [.op (.mov 6 (.tmp 0)),
  .op (.fad 7 0 (.tmp 3)),
  .op (.ld 8 (some 2) (.tmp 7)),
  .op (.call (some 9) 91 [(.tmp 6), (.tmp 8)]),
  .op (.mov 5 (.tmp 9)),
  .kp [0, 3, 5]]
def f85r2 : List I := [.op (.mov 10 (.tmp 5)),
  .op (.bin 11 .geq (.tmp 10) (.const (.int .i64 0))),
  .op (.mov 12 (.tmp 11)),
  .sc 12 true 8,
  .g 12 true (.mov 13 (.tmp 0)),
  .g 12 true (.mov 14 (.tmp 5)),
  .g 12 true (.iad 15 4 (.tmp 13) (.tmp 14)),
  .g 12 true (.fad 16 0 (.tmp 15)),
  .g 12 true (.ld 17 (some 2) (.tmp 16)),
  .g 12 true (.fad 18 0 (.tmp 3)),
  .g 12 true (.ld 19 (some 2) (.tmp 18)),
  .g 12 true (.eqa 20 false [.i .i64, .i .i64] (.tmp 17) (.tmp 19)),
  .op (.pick 21 (.tmp 12) (.tmp 20) (.const (.bool false))),
  .kp [0, 3, 5, 21]]
def f85r3 : List I := [.op (.mov 22 (.tmp 0)),
  .op (.mov 23 (.tmp 5)),
  .op (.ld 24 (some 4) (.tmp 3)),
  .op (.iad 25 4 (.tmp 22) (.tmp 23)),
  .op (.st 4 (.tmp 25) (.tmp 24)),
  .kp [0]]
def f85r4 : List I := [.op (.mov 26 (.tmp 0)),
  .op (.mov 4 (.tmp 26)),
  .kp [4]]
def f85r5 : List I := [.op (.mov 27 (.tmp 0)),
  .op (.mov 28 (.tmp 5)),
  .op (.bin 29 .add (.tmp 28) (.const (.int .i64 1))),
  .op (.ld 30 (some 4) (.tmp 3)),
  .op (.bsl 31 108 1 [.int .i64 0, .int .i64 0, .bool false, .string ⟨#[]⟩] [(0, 4, (.tmp 30))]),
  .op (.call (some 32) 115 [(.tmp 27), (.tmp 29), (.tmp 31)]),
  .op (.mov 4 (.tmp 32)),
  .kp [4]]
def f85c5 : C := (.seq (.reg f85r4) .ret)
def f85c4 : C := (.seq (.reg f85r3) f85c5)
def f85c6 : C := (.seq (.reg f85r5) .ret)
def f85c3 : C := (.seq (.cond (.tmp 21) f85c4 .skip) f85c6)
def f85c2 : C := (.seq (.drw f85r2) f85c3)
def f85c1 : C := (.seq (.reg f85r1) f85c2)
def f85c0 : C := (.seq (.reg f85r0) f85c1)
theorem f85cmp : cmpF Try.prog Try.f85 [.l [.o 0, .o 1, .kp [0, 3]],
  .l [.o 0, .o 1, .o 2, .o 3, .o 4, .kp [0, 3, 5]],
  .l [.o 0, .o 1, .o 2, .sc 12 true 8, .o 3, .o 4, .o 5, .o 6, .o 7, .o 8, .o 9, .o 10, .o 11, .kp [0, 3, 5, 21]],
  .l [.o 0, .o 1, .o 2, .o 3, .o 4, .kp [0]],
  .l [.o 0, .o 1, .kp [4]],
  .l [.o 0, .o 1, .o 2, .o 3, .o 4, .o 5, .o 6, .kp [4]]] = some (f85c0, [.tmp 4]) := by kernel_rfl
theorem f85ok {args : List Value} {h : Heap} {R : Value → Heap → Prop} (hn : args.length ≤ 33) (H : wC Try.prog f85c0 (endW [.tmp 4] R) (envOf 0 args) h) : CallsH Try.prog 85 args h R :=
  fn_ok2 Try.func85 f85cmp hn H
theorem f85cal : callable Try.prog 85 = true := by kernel_rfl
section
variable {Q : X → Env → Heap → Prop} {σ : Env} {h : Heap}
theorem f85c5_eq : wC Try.prog f85c5 Q σ h = (wL Try.prog none f85r4 0 (fun σ h => Q .ret σ h) σ h) := rfl
theorem f85c4_eq : wC Try.prog f85c4 Q σ h = (wL Try.prog none f85r3 0 (fun σ h => wC Try.prog f85c5 Q σ h) σ h) := rfl
theorem f85c6_eq : wC Try.prog f85c6 Q σ h = (wL Try.prog none f85r5 0 (fun σ h => Q .ret σ h) σ h) := rfl
theorem f85c3_eq : wC Try.prog f85c3 Q σ h = (bd (evO σ (.tmp 21)) fun v => bd (asB v) fun t => br t (wC Try.prog f85c4 (X.then (fun σ h => wC Try.prog f85c6 Q σ h) Q) σ h) (wC Try.prog f85c6 Q σ h)) := rfl
theorem f85c2_eq : wC Try.prog f85c2 Q σ h = (drwW Try.prog f85r2 (fun σ h => wC Try.prog f85c3 Q σ h) σ h) := rfl
theorem f85c1_eq : wC Try.prog f85c1 Q σ h = (wL Try.prog none f85r1 0 (fun σ h => wC Try.prog f85c2 Q σ h) σ h) := rfl
theorem f85c0_eq : wC Try.prog f85c0 Q σ h = (wL Try.prog none f85r0 0 (fun σ h => wC Try.prog f85c1 Q σ h) σ h) := rfl
end
/-! ### f112: antipode/antipoderef8.with -/
def f112r0 : List I := [.op (.box 3 108 (.tmp 1)),
  .op (.mov 4 (.const (.slice none 0 0))),
  .kp [0, 3]]
def f112r1 : List I := [.op (.mov 5 (.const (.slice none 0 0))),
  .kp [0, 3, 5]]
def f112r2 : List I := [.op (.mov 6 (.const (.bool false))),
  .kp [0, 3, 5, 6]]
def f112r3 : List I := [.op (.mov 7 (.const (.int .i64 0))),
  .kp [0, 3, 5, 6, 7]]
def f112r4 : List I := [.op (.mov 8 (.tmp 7)),
  .op (.mov 9 (.tmp 0)),
  .op (.len 10 true (.tmp 9)),
  .op (.bin 11 .lss (.tmp 8) (.tmp 10)),
  .kp [0, 3, 5, 6, 7, 11]]
def f112r5 : List I := [.op (.mov 14 (.tmp 6)),
  .op (.un 15 .not (.tmp 14)),
  .op (.mov 16 (.tmp 15)),
  .sc 16 true 9,
  .g 16 true (.mov 17 (.tmp 0)),
  .g 16 true (.mov 18 (.tmp 7)),
  .g 16 true (.iad 19 4 (.tmp 17) (.tmp 18)),
  .g 16 true (.fad 20 0 (.tmp 19)),
  .g 16 true (.ld 21 (some 2) (.tmp 20)),
  .g 16 true (.fad 22 0 (.tmp 3)),
  .g 16 true (.ld 23 (some 2) (.tmp 22)),
  .g 16 true (.call (some 24) 42 [(.tmp 21), (.tmp 23)]),
  .g 16 true (.un 25 .not (.tmp 24)),
  .op (.pick 26 (.tmp 16) (.tmp 25) (.const (.bool false))),
  .kp [0, 3, 5, 6, 7, 26]]
def f112r6 : List I := [.op (.mov 27 (.tmp 5)),
  .op (.ld 28 (some 4) (.tmp 3)),
  .op (.bsl 29 108 1 [.int .i64 0, .int .i64 0, .bool false, .string ⟨#[]⟩] [(0, 4, (.tmp 28))]),
  .op (.raw (some 30) ⟨(some 30), (.call ⟨(.builtin .append), #[(.tmp 27), (.tmp 29)], #[101, 101]⟩), 101, "ref.go:146", #[⟨0, .data⟩, ⟨2, .data⟩], none⟩),
  .op (.mov 5 (.tmp 30)),
  .op (.mov 6 (.const (.bool true))),
  .kp [0, 3, 5, 6, 7]]
def f112r7 : List I := [.op (.mov 31 (.tmp 0)),
  .op (.mov 32 (.tmp 7)),
  .op (.iad 33 4 (.tmp 31) (.tmp 32)),
  .op (.fad 34 0 (.tmp 33)),
  .op (.ld 35 (some 2) (.tmp 34)),
  .op (.fad 36 0 (.tmp 3)),
  .op (.ld 37 (some 2) (.tmp 36)),
  .op (.eqa 38 true [.i .i64, .i .i64] (.tmp 35) (.tmp 37)),
  .kp [0, 3, 5, 6, 7, 38]]
def f112r8 : List I := [.op (.mov 39 (.tmp 5)),
  .op (.mov 40 (.tmp 0)),
  .op (.mov 41 (.tmp 7)),
  .op (.iad 42 4 (.tmp 40) (.tmp 41)),
  .op (.ld 43 (some 4) (.tmp 42)),
  .op (.bsl 44 108 1 [.int .i64 0, .int .i64 0, .bool false, .string ⟨#[]⟩] [(0, 4, (.tmp 43))]),
  .op (.raw (some 45) ⟨(some 45), (.call ⟨(.builtin .append), #[(.tmp 39), (.tmp 44)], #[101, 101]⟩), 101, "ref.go:149", #[⟨0, .data⟩, ⟨5, .data⟩], none⟩),
  .op (.mov 5 (.tmp 45)),
  .kp [0, 3, 5, 6, 7]]
def f112r9 : List I := [.op (.mov 12 (.tmp 7)),
  .op (.bin 13 .add (.tmp 12) (.const (.int .i64 1))),
  .op (.mov 7 (.tmp 13)),
  .kp [0, 3, 5, 6, 7]]
def f112r10 : List I := [.op (.mov 46 (.tmp 6)),
  .op (.un 47 .not (.tmp 46)),
  .kp [3, 5, 47]]
def f112r11 : List I := [.op (.mov 48 (.tmp 5)),
  .op (.ld 49 (some 4) (.tmp 3)),
  .op (.bsl 50 108 1 [.int .i64 0, .int .i64 0, .bool false, .string ⟨#[]⟩] [(0, 4, (.tmp 49))]),
  .op (.raw (some 51) ⟨(some 51), (.call ⟨(.builtin .append), #[(.tmp 48), (.tmp 50)], #[101, 101]⟩), 101, "ref.go:153", #[⟨0, .data⟩, ⟨2, .data⟩], none⟩),
  .op (.mov 5 (.tmp 51)),
  .kp [5]]
def f112r12 : List I := [.op (.mov 52 (.tmp 5)),
  .op (.mov 4 (.tmp 52)),
  .kp [4]]
def f112c10 : C := (.reg f112r6)
def f112c13 : C := (.reg f112r8)
def f112c12 : C := (.cond (.tmp 38) f112c13 .skip)
def f112c11 : C := (.seq (.drw f112r7) f112c12)
def f112c9 : C := (.seq (.cond (.tmp 26) f112c10 .skip) f112c11)
def f112c8 : C := (.seq (.drw f112r5) f112c9)
def f112c14 : C := (.reg f112r9)
def f112c7 : C := (.seq (.block 1 f112c8) f112c14)
def f112c6 : C := (.seq (.cond (.tmp 11) .skip (.exit 0)) f112c7)
def f112c5 : C := (.seq (.reg f112r4) f112c6)
def f112c17 : C := (.reg f112r11)
def f112c18 : C := (.seq (.reg f112r12) .ret)
def f112c16 : C := (.seq (.cond (.tmp 47) f112c17 .skip) f112c18)
def f112c15 : C := (.seq (.reg f112r10) f112c16)
def f112c4 : C := (.seq (.block 0 (.loop f112c5)) f112c15)
def f112c3 : C := (.seq (.reg f112r3) f112c4)
def f112c2 : C := (.seq (.reg f112r2) f112c3)
def f112c1 : C := (.seq (.reg f112r1) f112c2)
def f112c0 : C := (.seq (.reg f112r0) f112c1)
theorem f112cmp : cmpF Try.prog Try.f112 [.l [.o 0, .o 1, .kp [0, 3]],
  .l [.o 0, .kp [0, 3, 5]],
  .l [.o 0, .kp [0, 3, 5, 6]],
  .l [.o 0, .kp [0, 3, 5, 6, 7]],
  .l [.o 0, .o 1, .o 2, .o 3, .kp [0, 3, 5, 6, 7, 11]],
  .l [.o 0, .o 1, .o 2, .sc 16 true 9, .o 3, .o 4, .o 5, .o 6, .o 7, .o 8, .o 9, .o 10, .o 11, .o 12, .kp [0, 3, 5, 6, 7, 26]],
  .l [.o 0, .o 1, .o 2, .o 3, .o 4, .o 5, .kp [0, 3, 5, 6, 7]],
  .l [.o 0, .o 1, .o 2, .o 3, .o 4, .o 5, .o 6, .o 7, .kp [0, 3, 5, 6, 7, 38]],
  .l [.o 0, .o 1, .o 2, .o 3, .o 4, .o 5, .o 6, .o 7, .kp [0, 3, 5, 6, 7]],
  .l [.o 0, .o 1, .o 2, .kp [0, 3, 5, 6, 7]],
  .l [.o 0, .o 1, .kp [3, 5, 47]],
  .l [.o 0, .o 1, .o 2, .o 3, .o 4, .kp [5]],
  .l [.o 0, .o 1, .kp [4]]] = some (f112c0, [.tmp 4]) := by kernel_rfl
theorem f112ok {args : List Value} {h : Heap} {R : Value → Heap → Prop} (hn : args.length ≤ 53) (H : wC Try.prog f112c0 (endW [.tmp 4] R) (envOf 0 args) h) : CallsH Try.prog 112 args h R :=
  fn_ok2 Try.func112 f112cmp hn H
theorem f112cal : callable Try.prog 112 = true := by kernel_rfl
section
variable {Q : X → Env → Heap → Prop} {σ : Env} {h : Heap}
theorem f112c10_eq : wC Try.prog f112c10 Q σ h = (wL Try.prog none f112r6 0 (fun σ h => Q .normal σ h) σ h) := rfl
theorem f112c13_eq : wC Try.prog f112c13 Q σ h = (wL Try.prog none f112r8 0 (fun σ h => Q .normal σ h) σ h) := rfl
theorem f112c12_eq : wC Try.prog f112c12 Q σ h = (bd (evO σ (.tmp 38)) fun v => bd (asB v) fun t => br t (wC Try.prog f112c13 Q σ h) (Q .normal σ h)) := rfl
theorem f112c11_eq : wC Try.prog f112c11 Q σ h = (drwW Try.prog f112r7 (fun σ h => wC Try.prog f112c12 Q σ h) σ h) := rfl
theorem f112c9_eq : wC Try.prog f112c9 Q σ h = (bd (evO σ (.tmp 26)) fun v => bd (asB v) fun t => br t (wC Try.prog f112c10 (X.then (fun σ h => wC Try.prog f112c11 Q σ h) Q) σ h) (wC Try.prog f112c11 Q σ h)) := rfl
theorem f112c8_eq : wC Try.prog f112c8 Q σ h = (drwW Try.prog f112r5 (fun σ h => wC Try.prog f112c9 Q σ h) σ h) := rfl
theorem f112c14_eq : wC Try.prog f112c14 Q σ h = (wL Try.prog none f112r9 0 (fun σ h => Q .normal σ h) σ h) := rfl
theorem f112c7_eq : wC Try.prog f112c7 Q σ h = (wC Try.prog f112c8 (X.inBlock 1 (X.then (fun σ h => wC Try.prog f112c14 Q σ h) Q)) σ h) := rfl
theorem f112c6_eq : wC Try.prog f112c6 Q σ h = (bd (evO σ (.tmp 11)) fun v => bd (asB v) fun t => br t (wC Try.prog f112c7 Q σ h) (Q (.exit 0) σ h)) := rfl
theorem f112c5_eq : wC Try.prog f112c5 Q σ h = (wL Try.prog none f112r4 0 (fun σ h => wC Try.prog f112c6 Q σ h) σ h) := rfl
theorem f112c17_eq : wC Try.prog f112c17 Q σ h = (wL Try.prog none f112r11 0 (fun σ h => Q .normal σ h) σ h) := rfl
theorem f112c18_eq : wC Try.prog f112c18 Q σ h = (wL Try.prog none f112r12 0 (fun σ h => Q .ret σ h) σ h) := rfl
theorem f112c16_eq : wC Try.prog f112c16 Q σ h = (bd (evO σ (.tmp 47)) fun v => bd (asB v) fun t => br t (wC Try.prog f112c17 (X.then (fun σ h => wC Try.prog f112c18 Q σ h) Q) σ h) (wC Try.prog f112c18 Q σ h)) := rfl
theorem f112c15_eq : wC Try.prog f112c15 Q σ h = (wL Try.prog none f112r10 0 (fun σ h => wC Try.prog f112c16 Q σ h) σ h) := rfl
theorem f112c4_eq : wC Try.prog f112c4 Q σ h = (loopW (wC Try.prog f112c5) (X.inBlock 0 (X.then (fun σ h => wC Try.prog f112c15 Q σ h) Q)) σ h) := rfl
theorem f112c3_eq : wC Try.prog f112c3 Q σ h = (wL Try.prog none f112r3 0 (fun σ h => wC Try.prog f112c4 Q σ h) σ h) := rfl
theorem f112c2_eq : wC Try.prog f112c2 Q σ h = (wL Try.prog none f112r2 0 (fun σ h => wC Try.prog f112c3 Q σ h) σ h) := rfl
theorem f112c1_eq : wC Try.prog f112c1 Q σ h = (wL Try.prog none f112r1 0 (fun σ h => wC Try.prog f112c2 Q σ h) σ h) := rfl
theorem f112c0_eq : wC Try.prog f112c0 Q σ h = (wL Try.prog none f112r0 0 (fun σ h => wC Try.prog f112c1 Q σ h) σ h) := rfl
end
end Go.Proofs.Ytefghfgmkndikaa
