/-
  By a program of mine (wip/tools/gen.py): the code of functions of the seat in the small instruction language, and that it is their code.
-/
import Derived.Test.YtefghfgmkndikaaM2
import Derived.Test.YtefghfgmkndikaaProg
set_option linter.unusedSimpArgs false
set_option linter.unusedVariables false
namespace Go.Proofs.Ytefghfgmkndikaa
open Go.AX
set_option maxRecDepth 100000
/-! ### f40: antipode/mvcc.Lock -/
def f40r0 : List I := [.op (.box 4 70 (.tmp 1)),
  .op (.box 5 72 (.tmp 2)),
  .op (.mov 6 (.const (.slice none 0 0))),
  .kp [0, 4, 5]]
def f40r1 : List I := [.op (.fad 10 1 (.tmp 4)),
  .op (.ld 11 none (.tmp 10)),
  .op (.fad 12 2 (.tmp 4)),
  .op (.ld 13 none (.tmp 12)),
  .op (.fad 14 7 (.tmp 5)),
  .op (.st 1 (.tmp 14) (.tmp 11)),
  .op (.fad 15 8 (.tmp 5)),
  .op (.st 1 (.tmp 15) (.tmp 13)),
  .kp [0, 4, 5]]
def f40r2 : List I := [.op (.fad 16 1 (.tmp 4)),
  .op (.ld 17 none (.tmp 16)),
  .kp [0, 4, 5, 17]]
def f40r3 : List I := [.op (.fad 18 8 (.tmp 5)),
  .op (.st 1 (.tmp 18) (.const (.string ⟨#[]⟩))),
  .kp [0, 4, 5]]
def f40r4 : List I := [.op (.mov 19 (.tmp 0)),
  .op (.call (some 20) 86 [(.tmp 19)]),
  .op (.mov 7 (.tmp 20)),
  .kp [4, 5, 7]]
def f40r5 : List I := [.op (.mov 22 (.tmp 7)),
  .op (.fad 23 0 (.tmp 4)),
  .op (.ld 24 none (.tmp 23)),
  .op (.call (some 25) 87 [(.tmp 22), (.tmp 24)]),
  .op (.mov 21 (.tmp 25)),
  .op (.ext 26 (.tmp 21) 0),
  .op (.ext 27 (.tmp 21) 1),
  .op (.mov 8 (.tmp 26)),
  .op (.mov 9 (.tmp 27)),
  .kp [4, 5, 7, 8, 9]]
def f40r6 : List I := [.op (.mov 28 (.tmp 9)),
  .op (.un 29 .not (.tmp 28)),
  .kp [4, 5, 7, 8, 29]]
def f40r7 : List I := [.op (.mov 30 (.tmp 7)),
  .op (.mov 31 (.tmp 8)),
  .op (.fad 32 0 (.tmp 4)),
  .op (.ld 33 none (.tmp 32)),
  .op (.bld 34 [.string ⟨#[]⟩, .slice none 0 0, .bool false, .int .i64 0, .int .i64 0, .int .i64 0, .int .i64 0, .int .i64 0, .int .i64 0, .int .i64 0, .bool false, .string ⟨#[]⟩] [(0, 1, (.tmp 33))]),
  .op (.bsl 35 103 1 [.string ⟨#[]⟩, .slice none 0 0, .bool false, .int .i64 0, .int .i64 0, .int .i64 0, .int .i64 0, .int .i64 0, .int .i64 0, .int .i64 0, .bool false, .string ⟨#[]⟩] [(0, 12, (.tmp 34))]),
  .op (.call (some 36) 88 [(.tmp 30), (.tmp 31), (.tmp 35)]),
  .op (.mov 7 (.tmp 36)),
  .kp [5, 7, 8]]
def f40r8 : List I := [.op (.mov 37 (.tmp 7)),
  .op (.mov 38 (.tmp 8)),
  .op (.mov 39 (.tmp 7)),
  .op (.mov 40 (.tmp 8)),
  .op (.ld 41 (some 9) (.tmp 5)),
  .op (.iad 42 12 (.tmp 37) (.tmp 38)),
  .op (.fad 43 2 (.tmp 42)),
  .op (.st 1 (.tmp 43) (.const (.bool true))),
  .op (.iad 44 12 (.tmp 39) (.tmp 40)),
  .op (.fad 45 3 (.tmp 44)),
  .kp [7, 41, 45],
  .op (.st 9 (.tmp 45) (.tmp 41)),
  .kp [7]]
def f40r9 : List I := [.op (.mov 46 (.tmp 7)),
  .op (.mov 6 (.tmp 46)),
  .kp [6]]
def f40c4 : C := (.reg f40r3)
def f40c9 : C := (.reg f40r7)
def f40c11 : C := (.seq (.reg f40r9) .ret)
def f40c10 : C := (.seq (.drw f40r8) f40c11)
def f40c8 : C := (.seq (.cond (.tmp 29) f40c9 .skip) f40c10)
def f40c7 : C := (.seq (.reg f40r6) f40c8)
def f40c6 : C := (.seq (.reg f40r5) f40c7)
def f40c5 : C := (.seq (.reg f40r4) f40c6)
def f40c3 : C := (.seq (.cond (.tmp 17) f40c4 .skip) f40c5)
def f40c2 : C := (.seq (.reg f40r2) f40c3)
def f40c1 : C := (.seq (.drw f40r1) f40c2)
def f40c0 : C := (.seq (.reg f40r0) f40c1)
theorem f40cmp : cmpF Try.prog Try.f40 [.l [.o 0, .o 1, .o 2, .kp [0, 4, 5]],
  .l [.o 0, .o 1, .o 2, .o 3, .o 4, .o 5, .o 6, .o 7, .kp [0, 4, 5]],
  .l [.o 0, .o 1, .kp [0, 4, 5, 17]],
  .l [.o 0, .o 1, .kp [0, 4, 5]],
  .l [.o 0, .o 1, .o 2, .kp [4, 5, 7]],
  .l [.o 0, .o 1, .o 2, .o 3, .o 4, .o 5, .o 6, .o 7, .o 8, .kp [4, 5, 7, 8, 9]],
  .l [.o 0, .o 1, .kp [4, 5, 7, 8, 29]],
  .l [.o 0, .o 1, .o 2, .o 3, .o 4, .o 5, .o 6, .o 7, .kp [5, 7, 8]],
  .l [.o 0, .o 1, .o 2, .o 3, .o 4, .o 5, .o 6, .o 7, .o 8, .o 9, .kp [7, 41, 45], .o 10, .kp [7]],
  .l [.o 0, .o 1, .kp [6]]] = some (f40c0, [.tmp 6]) := by kernel_rfl
theorem f40ok {args : List Value} {h : Heap} {R : Value → Heap → Prop} (hn : args.length ≤ 47) (H : wC Try.prog f40c0 (endW [.tmp 6] R) (envOf 0 args) h) : CallsH Try.prog 40 args h R :=
  fn_ok2 Try.func40 f40cmp hn H
theorem f40cal : callable Try.prog 40 = true := by kernel_rfl
section
variable {Q : X → Env → Heap → Prop} {σ : Env} {h : Heap}
theorem f40c4_eq : wC Try.prog f40c4 Q σ h = (wL Try.prog none f40r3 0 (fun σ h => Q .normal σ h) σ h) := rfl
theorem f40c9_eq : wC Try.prog f40c9 Q σ h = (wL Try.prog none f40r7 0 (fun σ h => Q .normal σ h) σ h) := rfl
theorem f40c11_eq : wC Try.prog f40c11 Q σ h = (wL Try.prog none f40r9 0 (fun σ h => Q .ret σ h) σ h) := rfl
theorem f40c10_eq : wC Try.prog f40c10 Q σ h = (drwW Try.prog f40r8 (fun σ h => wC Try.prog f40c11 Q σ h) σ h) := rfl
theorem f40c8_eq : wC Try.prog f40c8 Q σ h = (bd (evO σ (.tmp 29)) fun v => bd (asB v) fun t => br t (wC Try.prog f40c9 (X.then (fun σ h => wC Try.prog f40c10 Q σ h) Q) σ h) (wC Try.prog f40c10 Q σ h)) := rfl
theorem f40c7_eq : wC Try.prog f40c7 Q σ h = (wL Try.prog none f40r6 0 (fun σ h => wC Try.prog f40c8 Q σ h) σ h) := rfl
theorem f40c6_eq : wC Try.prog f40c6 Q σ h = (wL Try.prog none f40r5 0 (fun σ h => wC Try.prog f40c7 Q σ h) σ h) := rfl
theorem f40c5_eq : wC Try.prog f40c5 Q σ h = (wL Try.prog none f40r4 0 (fun σ h => wC Try.prog f40c6 Q σ h) σ h) := rfl
theorem f40c3_eq : wC Try.prog f40c3 Q σ h = (bd (evO σ (.tmp 17)) fun v => bd (asB v) fun t => br t (wC Try.prog f40c4 (X.then (fun σ h => wC Try.prog f40c5 Q σ h) Q) σ h) (wC Try.prog f40c5 Q σ h)) := rfl
theorem f40c2_eq : wC Try.prog f40c2 Q σ h = (wL Try.prog none f40r2 0 (fun σ h => wC Try.prog f40c3 Q σ h) σ h) := rfl
theorem f40c1_eq : wC Try.prog f40c1 Q σ h = (drwW Try.prog f40r1 (fun σ h => wC Try.prog f40c2 Q σ h) σ h) := rfl
theorem f40c0_eq : wC Try.prog f40c0 Q σ h = (wL Try.prog none f40r0 0 (fun σ h => wC Try.prog f40c1 Q σ h) σ h) := rfl
end
/-! ### f79: antipode/antipoderef8.Lock -/
def f79r0 : List I := [.op (.box 4 70 (.tmp 1)),
  .op (.box 5 72 (.tmp 2)),
  .op (.mov 6 (.const (.slice none 0 0))),
  .kp [0, 4, 5]]
def f79r1 : List I := [.op (.mov 9 (.tmp 0)),
  .op (.call (some 10) 48 [(.tmp 9)]),
  .op (.mov 7 (.tmp 10)),
  .kp [4, 5, 7]]
def f79r2 : List I := [.op (.fad 11 1 (.tmp 4)),
  .op (.ld 12 none (.tmp 11)),
  .op (.fad 13 2 (.tmp 4)),
  .op (.ld 14 none (.tmp 13)),
  .op (.fad 15 7 (.tmp 5)),
  .op (.st 1 (.tmp 15) (.tmp 12)),
  .op (.fad 16 8 (.tmp 5)),
  .op (.st 1 (.tmp 16) (.tmp 14)),
  .kp [4, 5, 7]]
def f79r3 : List I := [.op (.fad 17 1 (.tmp 4)),
  .op (.ld 18 none (.tmp 17)),
  .kp [4, 5, 7, 18]]
def f79r4 : List I := [.op (.fad 19 8 (.tmp 5)),
  .op (.st 1 (.tmp 19) (.const (.string ⟨#[]⟩))),
  .kp [4, 5, 7]]
def f79r5 : List I := [.op (.mov 20 (.tmp 7)),
  .op (.fad 21 0 (.tmp 4)),
  .op (.ld 22 none (.tmp 21)),
  .op (.call (some 23) 108 [(.tmp 20), (.tmp 22)]),
  .op (.mov 8 (.tmp 23)),
  .kp [4, 5, 7, 8]]
def f79r6 : List I := [.op (.mov 24 (.tmp 8)),
  .op (.bin 25 .lss (.tmp 24) (.const (.int .i64 0))),
  .kp [4, 5, 7, 8, 25]]
def f79r7 : List I := [.op (.mov 8 (.const (.int .i64 0))),
  .kp [4, 5, 7, 8]]
def f79r8 : List I := [.op (.mov 26 (.tmp 8)),
  .op (.mov 27 (.tmp 7)),
  .op (.len 28 true (.tmp 27)),
  .op (.bin 29 .lss (.tmp 26) (.tmp 28)),
  .op (.mov 30 (.tmp 29)),
  .sc 30 true 8,
  .g 30 true (.mov 31 (.tmp 7)),
  .g 30 true (.mov 32 (.tmp 8)),
  .g 30 true (.iad 33 12 (.tmp 31) (.tmp 32)),
  .g 30 true (.fad 34 0 (.tmp 33)),
  .g 30 true (.ld 35 none (.tmp 34)),
  .g 30 true (.fad 36 0 (.tmp 4)),
  .g 30 true (.ld 37 none (.tmp 36)),
  .g 30 true (.bin 38 .lss (.tmp 35) (.tmp 37)),
  .op (.pick 39 (.tmp 30) (.tmp 38) (.const (.bool false))),
  .kp [4, 5, 7, 8, 39]]
def f79r9 : List I := [.op (.mov 40 (.tmp 8)),
  .op (.bin 41 .add (.tmp 40) (.const (.int .i64 1))),
  .op (.mov 8 (.tmp 41)),
  .kp [4, 5, 7, 8]]
def f79r10 : L := (.one [.op (.mov 43 (.tmp 7)),
  .op (.mov 44 (.tmp 8)),
  .op (.slc 45 12 (.tmp 43) none (some (.tmp 44)) none),
  .op (.fad 47 0 (.tmp 4)),
  .op (.ld 48 none (.tmp 47)),
  .op (.bld 49 [.string ⟨#[]⟩, .slice none 0 0, .bool false, .int .i64 0, .int .i64 0, .int .i64 0, .int .i64 0, .int .i64 0, .int .i64 0, .int .i64 0, .bool false, .string ⟨#[]⟩] [(0, 1, (.tmp 48))]),
  .op (.mov 52 (.tmp 7)),
  .op (.mov 53 (.tmp 8)),
  .op (.slc 54 12 (.tmp 52) (some (.tmp 53)) none none)] (.alt (.one [.op (.bsl 42 103 0 [] [])] (.alt (.one [.op (.raw (some 46) ⟨(some 46), (.call ⟨(.builtin .append), #[(.tmp 42), (.tmp 45)], #[74, 74]⟩), 74, "ref.go:115", #[⟨0, .data⟩, ⟨3, .data⟩], none⟩),
  .op (.bsl 50 103 1 [.string ⟨#[]⟩, .slice none 0 0, .bool false, .int .i64 0, .int .i64 0, .int .i64 0, .int .i64 0, .int .i64 0, .int .i64 0, .int .i64 0, .bool false, .string ⟨#[]⟩] [(0, 12, (.tmp 49))]),
  .op (.raw (some 51) ⟨(some 51), (.call ⟨(.builtin .append), #[(.tmp 46), (.tmp 50)], #[74, 74]⟩), 74, "ref.go:115", #[⟨4, .data⟩, ⟨8, .data⟩, ⟨4, .chain⟩], none⟩),
  .op (.raw (some 55) ⟨(some 55), (.call ⟨(.builtin .append), #[(.tmp 51), (.tmp 54)], #[74, 74]⟩), 74, "ref.go:115", #[⟨9, .data⟩, ⟨12, .data⟩, ⟨9, .chain⟩], none⟩),
  .op (.mov 7 (.tmp 55)),
  .kp [5, 7, 8]] .nil) (.one [.op (.bsl 50 103 1 [.string ⟨#[]⟩, .slice none 0 0, .bool false, .int .i64 0, .int .i64 0, .int .i64 0, .int .i64 0, .int .i64 0, .int .i64 0, .int .i64 0, .bool false, .string ⟨#[]⟩] [(0, 12, (.tmp 49))]),
  .op (.raw (some 46) ⟨(some 46), (.call ⟨(.builtin .append), #[(.tmp 42), (.tmp 45)], #[74, 74]⟩), 74, "ref.go:115", #[⟨0, .data⟩, ⟨3, .data⟩], none⟩),
  .op (.raw (some 51) ⟨(some 51), (.call ⟨(.builtin .append), #[(.tmp 46), (.tmp 50)], #[74, 74]⟩), 74, "ref.go:115", #[⟨4, .data⟩, ⟨8, .data⟩, ⟨4, .chain⟩], none⟩),
  .op (.raw (some 55) ⟨(some 55), (.call ⟨(.builtin .append), #[(.tmp 51), (.tmp 54)], #[74, 74]⟩), 74, "ref.go:115", #[⟨9, .data⟩, ⟨12, .data⟩, ⟨9, .chain⟩], none⟩),
  .op (.mov 7 (.tmp 55)),
  .kp [5, 7, 8]] .nil))) (.one [.op (.bsl 50 103 1 [.string ⟨#[]⟩, .slice none 0 0, .bool false, .int .i64 0, .int .i64 0, .int .i64 0, .int .i64 0, .int .i64 0, .int .i64 0, .int .i64 0, .bool false, .string ⟨#[]⟩] [(0, 12, (.tmp 49))]),
  .op (.bsl 42 103 0 [] []),
  .op (.raw (some 46) ⟨(some 46), (.call ⟨(.builtin .append), #[(.tmp 42), (.tmp 45)], #[74, 74]⟩), 74, "ref.go:115", #[⟨0, .data⟩, ⟨3, .data⟩], none⟩),
  .op (.raw (some 51) ⟨(some 51), (.call ⟨(.builtin .append), #[(.tmp 46), (.tmp 50)], #[74, 74]⟩), 74, "ref.go:115", #[⟨4, .data⟩, ⟨8, .data⟩, ⟨4, .chain⟩], none⟩),
  .op (.raw (some 55) ⟨(some 55), (.call ⟨(.builtin .append), #[(.tmp 51), (.tmp 54)], #[74, 74]⟩), 74, "ref.go:115", #[⟨9, .data⟩, ⟨12, .data⟩, ⟨9, .chain⟩], none⟩),
  .op (.mov 7 (.tmp 55)),
  .kp [5, 7, 8]] .nil)))
def f79r11 : List I := [.op (.mov 56 (.tmp 7)),
  .op (.mov 57 (.tmp 8)),
  .op (.mov 58 (.tmp 7)),
  .op (.mov 59 (.tmp 8)),
  .op (.ld 60 (some 9) (.tmp 5)),
  .op (.iad 61 12 (.tmp 56) (.tmp 57)),
  .op (.fad 62 2 (.tmp 61)),
  .op (.st 1 (.tmp 62) (.const (.bool true))),
  .op (.iad 63 12 (.tmp 58) (.tmp 59)),
  .op (.fad 64 3 (.tmp 63)),
  .kp [7, 60, 64],
  .op (.st 9 (.tmp 64) (.tmp 60)),
  .kp [7]]
def f79r12 : List I := [.op (.mov 65 (.tmp 7)),
  .op (.mov 6 (.tmp 65)),
  .kp [6]]
def f79c5 : C := (.reg f79r4)
def f79c14 : C := (.reg f79r9)
def f79c13 : C := (.block 1 f79c14)
def f79c12 : C := (.seq (.cond (.tmp 39) .skip (.exit 0)) f79c13)
def f79c11 : C := (.seq (.drw f79r8) f79c12)
def f79c15 : C := (.drt f79r10)
def f79c10 : C := (.seq (.block 0 (.loop f79c11)) f79c15)
def f79c9 : C := (.seq (.reg f79r7) f79c10)
def f79c17 : C := (.seq (.reg f79r12) .ret)
def f79c16 : C := (.seq (.drw f79r11) f79c17)
def f79c8 : C := (.seq (.cond (.tmp 25) f79c9 .skip) f79c16)
def f79c7 : C := (.seq (.reg f79r6) f79c8)
def f79c6 : C := (.seq (.reg f79r5) f79c7)
def f79c4 : C := (.seq (.cond (.tmp 18) f79c5 .skip) f79c6)
def f79c3 : C := (.seq (.reg f79r3) f79c4)
def f79c2 : C := (.seq (.drw f79r2) f79c3)
def f79c1 : C := (.seq (.reg f79r1) f79c2)
def f79c0 : C := (.seq (.reg f79r0) f79c1)
theorem f79cmp : cmpF Try.prog Try.f79 [.l [.o 0, .o 1, .o 2, .kp [0, 4, 5]],
  .l [.o 0, .o 1, .o 2, .kp [4, 5, 7]],
  .l [.o 0, .o 1, .o 2, .o 3, .o 4, .o 5, .o 6, .o 7, .kp [4, 5, 7]],
  .l [.o 0, .o 1, .kp [4, 5, 7, 18]],
  .l [.o 0, .o 1, .kp [4, 5, 7]],
  .l [.o 0, .o 1, .o 2, .o 3, .o 4, .kp [4, 5, 7, 8]],
  .l [.o 0, .o 1, .kp [4, 5, 7, 8, 25]],
  .l [.o 0, .kp [4, 5, 7, 8]],
  .l [.o 0, .o 1, .o 2, .o 3, .o 4, .sc 30 true 8, .o 5, .o 6, .o 7, .o 8, .o 9, .o 10, .o 11, .o 12, .o 13, .kp [4, 5, 7, 8, 39]],
  .l [.o 0, .o 1, .o 2, .kp [4, 5, 7, 8]],
  .t (.one [.o 1, .o 2, .o 3, .o 5, .o 6, .o 7, .o 10, .o 11, .o 12] (.alt (.one [.o 0] (.alt (.one [.o 4, .o 8, .o 9, .o 13, .o 14, .kp [5, 7, 8]] .nil) (.one [.o 8, .o 4, .o 9, .o 13, .o 14, .kp [5, 7, 8]] .nil))) (.one [.o 8, .o 0, .o 4, .o 9, .o 13, .o 14, .kp [5, 7, 8]] .nil))),
  .l [.o 0, .o 1, .o 2, .o 3, .o 4, .o 5, .o 6, .o 7, .o 8, .o 9, .kp [7, 60, 64], .o 10, .kp [7]],
  .l [.o 0, .o 1, .kp [6]]] = some (f79c0, [.tmp 6]) := by kernel_rfl
theorem f79ok {args : List Value} {h : Heap} {R : Value → Heap → Prop} (hn : args.length ≤ 66) (H : wC Try.prog f79c0 (endW [.tmp 6] R) (envOf 0 args) h) : CallsH Try.prog 79 args h R :=
  fn_ok2 Try.func79 f79cmp hn H
theorem f79cal : callable Try.prog 79 = true := by kernel_rfl
section
variable {Q : X → Env → Heap → Prop} {σ : Env} {h : Heap}
theorem f79c5_eq : wC Try.prog f79c5 Q σ h = (wL Try.prog none f79r4 0 (fun σ h => Q .normal σ h) σ h) := rfl
theorem f79c14_eq : wC Try.prog f79c14 Q σ h = (wL Try.prog none f79r9 0 (fun σ h => Q .normal σ h) σ h) := rfl
theorem f79c13_eq : wC Try.prog f79c13 Q σ h = (wC Try.prog f79c14 (X.inBlock 1 Q) σ h) := rfl
theorem f79c12_eq : wC Try.prog f79c12 Q σ h = (bd (evO σ (.tmp 39)) fun v => bd (asB v) fun t => br t (wC Try.prog f79c13 Q σ h) (Q (.exit 0) σ h)) := rfl
theorem f79c11_eq : wC Try.prog f79c11 Q σ h = (drwW Try.prog f79r8 (fun σ h => wC Try.prog f79c12 Q σ h) σ h) := rfl
theorem f79c15_eq : wC Try.prog f79c15 Q σ h = (drtW Try.prog f79r10 (fun σ h => Q .normal σ h) σ h) := rfl
theorem f79c10_eq : wC Try.prog f79c10 Q σ h = (loopW (wC Try.prog f79c11) (X.inBlock 0 (X.then (fun σ h => wC Try.prog f79c15 Q σ h) Q)) σ h) := rfl
theorem f79c9_eq : wC Try.prog f79c9 Q σ h = (wL Try.prog none f79r7 0 (fun σ h => wC Try.prog f79c10 Q σ h) σ h) := rfl
theorem f79c17_eq : wC Try.prog f79c17 Q σ h = (wL Try.prog none f79r12 0 (fun σ h => Q .ret σ h) σ h) := rfl
theorem f79c16_eq : wC Try.prog f79c16 Q σ h = (drwW Try.prog f79r11 (fun σ h => wC Try.prog f79c17 Q σ h) σ h) := rfl
theorem f79c8_eq : wC Try.prog f79c8 Q σ h = (bd (evO σ (.tmp 25)) fun v => bd (asB v) fun t => br t (wC Try.prog f79c9 (X.then (fun σ h => wC Try.prog f79c16 Q σ h) Q) σ h) (wC Try.prog f79c16 Q σ h)) := rfl
theorem f79c7_eq : wC Try.prog f79c7 Q σ h = (wL Try.prog none f79r6 0 (fun σ h => wC Try.prog f79c8 Q σ h) σ h) := rfl
theorem f79c6_eq : wC Try.prog f79c6 Q σ h = (wL Try.prog none f79r5 0 (fun σ h => wC Try.prog f79c7 Q σ h) σ h) := rfl
theorem f79c4_eq : wC Try.prog f79c4 Q σ h = (bd (evO σ (.tmp 18)) fun v => bd (asB v) fun t => br t (wC Try.prog f79c5 (X.then (fun σ h => wC Try.prog f79c6 Q σ h) Q) σ h) (wC Try.prog f79c6 Q σ h)) := rfl
theorem f79c3_eq : wC Try.prog f79c3 Q σ h = (wL Try.prog none f79r3 0 (fun σ h => wC Try.prog f79c4 Q σ h) σ h) := rfl
theorem f79c2_eq : wC Try.prog f79c2 Q σ h = (drwW Try.prog f79r2 (fun σ h => wC Try.prog f79c3 Q σ h) σ h) := rfl
theorem f79c1_eq : wC Try.prog f79c1 Q σ h = (wL Try.prog none f79r1 0 (fun σ h => wC Try.prog f79c2 Q σ h) σ h) := rfl
theorem f79c0_eq : wC Try.prog f79c0 Q σ h = (wL Try.prog none f79r0 0 (fun σ h => wC Try.prog f79c1 Q σ h) σ h) := rfl
end
/-! ### f39: antipode/mvcc.Settle -/
def f39r0 : List I := [.op (.box 4 37 (.tmp 1)),
  .op (.mov 6 (.const (.slice none 0 0))),
  .kp [0, 2, 4]]
def f39r1 : List I := [.op (.mov 7 (.const (.slice none 0 0))),
  .kp [0, 2, 4, 7]]
def f39r2 : List I := [.op (.mov 10 (.tmp 0)),
  .op (.len 11 true (.tmp 10)),
  .op (.mov 12 (.const (.int .i64 0))),
  .kp [2, 4, 7, 10, 11, 12]]
def f39r3 : List I := [.op (.bin 13 .lss (.tmp 12) (.tmp 11)),
  .kp [2, 4, 7, 10, 11, 12, 13]]
def f39r4 : List I := [.op (.iad 14 12 (.tmp 10) (.tmp 12)),
  .op (.ld 15 (some 12) (.tmp 14)),
  .op (.new 9 103 [.string ⟨#[]⟩, .slice none 0 0, .bool false, .int .i64 0, .int .i64 0, .int .i64 0, .int .i64 0, .int .i64 0, .int .i64 0, .int .i64 0, .bool false, .string ⟨#[]⟩]),
  .op (.st 12 (.tmp 9) (.tmp 15)),
  .kp [2, 4, 7, 9, 10, 11, 12]]
def f39r5 : List I := [.op (.ld 16 (some 12) (.tmp 9)),
  .op (.call (some 17) 84 [(.tmp 16)]),
  .op (.st 12 (.tmp 9) (.tmp 17)),
  .kp [2, 4, 7, 9, 10, 11, 12]]
def f39r6 : List I := [.op (.fad 18 2 (.tmp 9)),
  .op (.ld 19 none (.tmp 18)),
  .op (.mov 20 (.tmp 19)),
  .sc 20 true 5,
  .g 20 true (.fad 21 3 (.tmp 9)),
  .g 20 true (.fad 22 0 (.tmp 21)),
  .g 20 true (.ld 23 (some 4) (.tmp 22)),
  .g 20 true (.ld 24 (some 4) (.tmp 4)),
  .g 20 true (.eqa 25 false [.i .i64, .i .i64, .i .i64, .i .i64] (.tmp 23) (.tmp 24)),
  .op (.pick 26 (.tmp 20) (.tmp 25) (.const (.bool false))),
  .kp [2, 4, 7, 9, 10, 11, 12, 26]]
def f39r7 : List I := [.op (.mov 27 (.tmp 2)),
  .kp [2, 4, 7, 9, 10, 11, 12, 27]]
def f39r8 : List I := [.op (.fad 28 1 (.tmp 9)),
  .op (.ld 29 none (.tmp 28)),
  .op (.fad 30 3 (.tmp 9)),
  .op (.fad 31 5 (.tmp 30)),
  .op (.ld 32 (some 2) (.tmp 31)),
  .op (.fad 33 3 (.tmp 9)),
  .op (.fad 34 7 (.tmp 33)),
  .op (.ld 35 none (.tmp 34)),
  .op (.fad 36 3 (.tmp 9)),
  .op (.fad 37 8 (.tmp 36)),
  .kp [2, 4, 7, 9, 10, 11, 12, 29, 32, 35, 37],
  .op (.ld 38 none (.tmp 37)),
  .op (.bld 39 [.int .i64 0, .int .i64 0, .bool false, .string ⟨#[]⟩] [(0, 2, (.tmp 32)), (2, 1, (.tmp 35)), (3, 1, (.tmp 38))]),
  .op (.call (some 40) 85 [(.tmp 29), (.tmp 39)]),
  .op (.fad 41 1 (.tmp 9)),
  .op (.st 1 (.tmp 41) (.tmp 40)),
  .kp [2, 4, 7, 9, 10, 11, 12]]
def f39r9 : List I := [.op (.bld 42 [.int .i64 0, .int .i64 0, .int .i64 0, .int .i64 0, .int .i64 0, .int .i64 0, .int .i64 0, .bool false, .string ⟨#[]⟩] []),
  .op (.fad 43 2 (.tmp 9)),
  .op (.st 1 (.tmp 43) (.const (.bool false))),
  .op (.fad 44 3 (.tmp 9)),
  .op (.st 9 (.tmp 44) (.tmp 42)),
  .kp [2, 4, 7, 9, 10, 11, 12]]
def f39r10 : List I := [.op (.fad 45 2 (.tmp 9)),
  .op (.ld 46 none (.tmp 45)),
  .op (.mov 47 (.tmp 46)),
  .sc 47 false 4,
  .g 47 false (.fad 48 1 (.tmp 9)),
  .g 47 false (.ld 49 none (.tmp 48)),
  .g 47 false (.len 50 true (.tmp 49)),
  .g 47 false (.bin 51 .gtr (.tmp 50) (.const (.int .i64 0))),
  .op (.pick 52 (.tmp 47) (.const (.bool true)) (.tmp 51)),
  .kp [2, 4, 7, 9, 10, 11, 12, 52]]
def f39r11 : List I := [.op (.mov 53 (.tmp 7)),
  .op (.ld 54 (some 12) (.tmp 9)),
  .op (.bsl 55 103 1 [.string ⟨#[]⟩, .slice none 0 0, .bool false, .int .i64 0, .int .i64 0, .int .i64 0, .int .i64 0, .int .i64 0, .int .i64 0, .int .i64 0, .bool false, .string ⟨#[]⟩] [(0, 12, (.tmp 54))]),
  .op (.raw (some 56) ⟨(some 56), (.call ⟨(.builtin .append), #[(.tmp 53), (.tmp 55)], #[74, 74]⟩), 74, "mvcc.go:162", #[⟨0, .data⟩, ⟨2, .data⟩], none⟩),
  .op (.mov 7 (.tmp 56)),
  .kp [2, 4, 7, 10, 11, 12]]
def f39r12 : List I := [.op (.bin 57 .add (.tmp 12) (.const (.int .i64 1))),
  .op (.mov 12 (.tmp 57)),
  .kp [2, 4, 7, 10, 11, 12]]
def f39r13 : List I := [.op (.mov 58 (.tmp 7)),
  .op (.mov 6 (.tmp 58)),
  .kp [6]]
def f39c13 : C := (.reg f39r8)
def f39c14 : C := (.reg f39r9)
def f39c12 : C := (.seq (.cond (.tmp 27) f39c13 .skip) f39c14)
def f39c11 : C := (.seq (.reg f39r7) f39c12)
def f39c17 : C := (.reg f39r11)
def f39c16 : C := (.cond (.tmp 52) f39c17 .skip)
def f39c15 : C := (.seq (.reg f39r10) f39c16)
def f39c10 : C := (.seq (.cond (.tmp 26) f39c11 .skip) f39c15)
def f39c9 : C := (.seq (.reg f39r6) f39c10)
def f39c8 : C := (.seq (.reg f39r5) f39c9)
def f39c7 : C := (.seq (.reg f39r4) f39c8)
def f39c18 : C := (.reg f39r12)
def f39c6 : C := (.seq (.block 1 f39c7) f39c18)
def f39c5 : C := (.seq (.cond (.tmp 13) .skip (.exit 0)) f39c6)
def f39c4 : C := (.seq (.reg f39r3) f39c5)
def f39c19 : C := (.seq (.reg f39r13) .ret)
def f39c3 : C := (.seq (.block 0 (.loop f39c4)) f39c19)
def f39c2 : C := (.seq (.reg f39r2) f39c3)
def f39c1 : C := (.seq (.reg f39r1) f39c2)
def f39c0 : C := (.seq (.reg f39r0) f39c1)
theorem f39cmp : cmpF Try.prog Try.f39 [.l [.o 0, .o 1, .kp [0, 2, 4]],
  .l [.o 0, .kp [0, 2, 4, 7]],
  .l [.o 0, .o 1, .o 2, .kp [2, 4, 7, 10, 11, 12]],
  .l [.o 0, .kp [2, 4, 7, 10, 11, 12, 13]],
  .l [.o 0, .o 1, .o 2, .o 3, .kp [2, 4, 7, 9, 10, 11, 12]],
  .l [.o 0, .o 1, .o 2, .kp [2, 4, 7, 9, 10, 11, 12]],
  .l [.o 0, .o 1, .o 2, .sc 20 true 5, .o 3, .o 4, .o 5, .o 6, .o 7, .o 8, .kp [2, 4, 7, 9, 10, 11, 12, 26]],
  .l [.o 0, .kp [2, 4, 7, 9, 10, 11, 12, 27]],
  .l [.o 0, .o 1, .o 2, .o 3, .o 4, .o 5, .o 6, .o 7, .o 8, .o 9, .kp [2, 4, 7, 9, 10, 11, 12, 29, 32, 35, 37], .o 10, .o 11, .o 12, .o 13, .o 14, .kp [2, 4, 7, 9, 10, 11, 12]],
  .l [.o 0, .o 1, .o 2, .o 3, .o 4, .kp [2, 4, 7, 9, 10, 11, 12]],
  .l [.o 0, .o 1, .o 2, .sc 47 false 4, .o 3, .o 4, .o 5, .o 6, .o 7, .kp [2, 4, 7, 9, 10, 11, 12, 52]],
  .l [.o 0, .o 1, .o 2, .o 3, .o 4, .kp [2, 4, 7, 10, 11, 12]],
  .l [.o 0, .o 1, .kp [2, 4, 7, 10, 11, 12]],
  .l [.o 0, .o 1, .kp [6]]] = some (f39c0, [.tmp 6]) := by kernel_rfl
theorem f39ok {args : List Value} {h : Heap} {R : Value → Heap → Prop} (hn : args.length ≤ 59) (H : wC Try.prog f39c0 (endW [.tmp 6] R) (envOf 0 args) h) : CallsH Try.prog 39 args h R :=
  fn_ok2 Try.func39 f39cmp hn H
theorem f39cal : callable Try.prog 39 = true := by kernel_rfl
section
variable {Q : X → Env → Heap → Prop} {σ : Env} {h : Heap}
theorem f39c13_eq : wC Try.prog f39c13 Q σ h = (wL Try.prog none f39r8 0 (fun σ h => Q .normal σ h) σ h) := rfl
theorem f39c14_eq : wC Try.prog f39c14 Q σ h = (wL Try.prog none f39r9 0 (fun σ h => Q .normal σ h) σ h) := rfl
theorem f39c12_eq : wC Try.prog f39c12 Q σ h = (bd (evO σ (.tmp 27)) fun v => bd (asB v) fun t => br t (wC Try.prog f39c13 (X.then (fun σ h => wC Try.prog f39c14 Q σ h) Q) σ h) (wC Try.prog f39c14 Q σ h)) := rfl
theorem f39c11_eq : wC Try.prog f39c11 Q σ h = (wL Try.prog none f39r7 0 (fun σ h => wC Try.prog f39c12 Q σ h) σ h) := rfl
theorem f39c17_eq : wC Try.prog f39c17 Q σ h = (wL Try.prog none f39r11 0 (fun σ h => Q .normal σ h) σ h) := rfl
theorem f39c16_eq : wC Try.prog f39c16 Q σ h = (bd (evO σ (.tmp 52)) fun v => bd (asB v) fun t => br t (wC Try.prog f39c17 Q σ h) (Q .normal σ h)) := rfl
theorem f39c15_eq : wC Try.prog f39c15 Q σ h = (wL Try.prog none f39r10 0 (fun σ h => wC Try.prog f39c16 Q σ h) σ h) := rfl
theorem f39c10_eq : wC Try.prog f39c10 Q σ h = (bd (evO σ (.tmp 26)) fun v => bd (asB v) fun t => br t (wC Try.prog f39c11 (X.then (fun σ h => wC Try.prog f39c15 Q σ h) Q) σ h) (wC Try.prog f39c15 Q σ h)) := rfl
theorem f39c9_eq : wC Try.prog f39c9 Q σ h = (wL Try.prog none f39r6 0 (fun σ h => wC Try.prog f39c10 Q σ h) σ h) := rfl
theorem f39c8_eq : wC Try.prog f39c8 Q σ h = (wL Try.prog none f39r5 0 (fun σ h => wC Try.prog f39c9 Q σ h) σ h) := rfl
theorem f39c7_eq : wC Try.prog f39c7 Q σ h = (wL Try.prog none f39r4 0 (fun σ h => wC Try.prog f39c8 Q σ h) σ h) := rfl
theorem f39c18_eq : wC Try.prog f39c18 Q σ h = (wL Try.prog none f39r12 0 (fun σ h => Q .normal σ h) σ h) := rfl
theorem f39c6_eq : wC Try.prog f39c6 Q σ h = (wC Try.prog f39c7 (X.inBlock 1 (X.then (fun σ h => wC Try.prog f39c18 Q σ h) Q)) σ h) := rfl
theorem f39c5_eq : wC Try.prog f39c5 Q σ h = (bd (evO σ (.tmp 13)) fun v => bd (asB v) fun t => br t (wC Try.prog f39c6 Q σ h) (Q (.exit 0) σ h)) := rfl
theorem f39c4_eq : wC Try.prog f39c4 Q σ h = (wL Try.prog none f39r3 0 (fun σ h => wC Try.prog f39c5 Q σ h) σ h) := rfl
theorem f39c19_eq : wC Try.prog f39c19 Q σ h = (wL Try.prog none f39r13 0 (fun σ h => Q .ret σ h) σ h) := rfl
theorem f39c3_eq : wC Try.prog f39c3 Q σ h = (loopW (wC Try.prog f39c4) (X.inBlock 0 (X.then (fun σ h => wC Try.prog f39c19 Q σ h) Q)) σ h) := rfl
theorem f39c2_eq : wC Try.prog f39c2 Q σ h = (wL Try.prog none f39r2 0 (fun σ h => wC Try.prog f39c3 Q σ h) σ h) := rfl
theorem f39c1_eq : wC Try.prog f39c1 Q σ h = (wL Try.prog none f39r1 0 (fun σ h => wC Try.prog f39c2 Q σ h) σ h) := rfl
theorem f39c0_eq : wC Try.prog f39c0 Q σ h = (wL Try.prog none f39r0 0 (fun σ h => wC Try.prog f39c1 Q σ h) σ h) := rfl
end
/-! ### f80: antipode/antipoderef8.Settle -/
def f80r0 : List I := [.op (.box 4 37 (.tmp 1)),
  .op (.mov 6 (.const (.slice none 0 0))),
  .kp [0, 2, 4]]
def f80r1 : List I := [.op (.mov 7 (.const (.slice none 0 0))),
  .kp [0, 2, 4, 7]]
def f80r2 : List I := [.op (.mov 11 (.tmp 0)),
  .op (.call (some 12) 48 [(.tmp 11)]),
  .op (.mov 8 (.tmp 12)),
  .kp [2, 4, 7, 8]]
def f80r3 : List I := [.op (.mov 9 (.const (.int .i64 0))),
  .kp [2, 4, 7, 8, 9]]
def f80r4 : List I := [.op (.mov 13 (.tmp 9)),
  .op (.mov 14 (.tmp 8)),
  .op (.len 15 true (.tmp 14)),
  .op (.bin 16 .lss (.tmp 13) (.tmp 15)),
  .kp [2, 4, 7, 8, 9, 16]]
def f80r5 : List I := [.op (.mov 19 (.tmp 8)),
  .op (.mov 20 (.tmp 9)),
  .op (.iad 21 12 (.tmp 19) (.tmp 20)),
  .op (.ld 22 (some 12) (.tmp 21)),
  .op (.new 10 103 [.string ⟨#[]⟩, .slice none 0 0, .bool false, .int .i64 0, .int .i64 0, .int .i64 0, .int .i64 0, .int .i64 0, .int .i64 0, .int .i64 0, .bool false, .string ⟨#[]⟩]),
  .op (.st 12 (.tmp 10) (.tmp 22)),
  .kp [2, 4, 7, 8, 9, 10]]
def f80r6 : List I := [.op (.fad 23 2 (.tmp 10)),
  .op (.ld 24 none (.tmp 23)),
  .op (.mov 25 (.tmp 24)),
  .sc 25 true 5,
  .g 25 true (.fad 26 3 (.tmp 10)),
  .g 25 true (.fad 27 0 (.tmp 26)),
  .g 25 true (.ld 28 (some 4) (.tmp 27)),
  .g 25 true (.ld 29 (some 4) (.tmp 4)),
  .g 25 true (.eqa 30 false [.i .i64, .i .i64, .i .i64, .i .i64] (.tmp 28) (.tmp 29)),
  .op (.pick 31 (.tmp 25) (.tmp 30) (.const (.bool false))),
  .kp [2, 4, 7, 8, 9, 10, 31]]
def f80r7 : List I := [.op (.mov 32 (.tmp 2)),
  .kp [2, 4, 7, 8, 9, 10, 32]]
def f80r8 : List I := [.op (.fad 33 1 (.tmp 10)),
  .op (.ld 34 none (.tmp 33)),
  .op (.fad 35 3 (.tmp 10)),
  .op (.fad 36 5 (.tmp 35)),
  .op (.ld 37 (some 2) (.tmp 36)),
  .op (.fad 38 3 (.tmp 10)),
  .op (.fad 39 7 (.tmp 38)),
  .op (.ld 40 none (.tmp 39)),
  .op (.fad 41 3 (.tmp 10)),
  .op (.fad 42 8 (.tmp 41)),
  .kp [2, 4, 7, 8, 9, 10, 34, 37, 40, 42],
  .op (.ld 43 none (.tmp 42)),
  .op (.bld 44 [.int .i64 0, .int .i64 0, .bool false, .string ⟨#[]⟩] [(0, 2, (.tmp 37)), (2, 1, (.tmp 40)), (3, 1, (.tmp 43))]),
  .op (.call (some 45) 112 [(.tmp 34), (.tmp 44)]),
  .op (.fad 46 1 (.tmp 10)),
  .op (.st 1 (.tmp 46) (.tmp 45)),
  .kp [2, 4, 7, 8, 9, 10]]
def f80r9 : List I := [.op (.bld 47 [.int .i64 0, .int .i64 0, .int .i64 0, .int .i64 0, .int .i64 0, .int .i64 0, .int .i64 0, .bool false, .string ⟨#[]⟩] []),
  .op (.fad 48 2 (.tmp 10)),
  .op (.st 1 (.tmp 48) (.const (.bool false))),
  .op (.fad 49 3 (.tmp 10)),
  .op (.st 9 (.tmp 49) (.tmp 47)),
  .kp [2, 4, 7, 8, 9, 10]]
def f80r10 : List I := [.op (.fad 50 2 (.tmp 10)),
  .op (.ld 51 none (.tmp 50)),
  .op (.mov 52 (.tmp 51)),
  .sc 52 false 4,
  .g 52 false (.fad 53 1 (.tmp 10)),
  .g 52 false (.ld 54 none (.tmp 53)),
  .g 52 false (.len 55 true (.tmp 54)),
  .g 52 false (.bin 56 .gtr (.tmp 55) (.const (.int .i64 0))),
  .op (.pick 57 (.tmp 52) (.const (.bool true)) (.tmp 56)),
  .kp [2, 4, 7, 8, 9, 10, 57]]
def f80r11 : List I := [.op (.mov 58 (.tmp 7)),
  .op (.ld 59 (some 12) (.tmp 10)),
  .op (.bsl 60 103 1 [.string ⟨#[]⟩, .slice none 0 0, .bool false, .int .i64 0, .int .i64 0, .int .i64 0, .int .i64 0, .int .i64 0, .int .i64 0, .int .i64 0, .bool false, .string ⟨#[]⟩] [(0, 12, (.tmp 59))]),
  .op (.raw (some 61) ⟨(some 61), (.call ⟨(.builtin .append), #[(.tmp 58), (.tmp 60)], #[74, 74]⟩), 74, "ref.go:171", #[⟨0, .data⟩, ⟨2, .data⟩], none⟩),
  .op (.mov 7 (.tmp 61)),
  .kp [2, 4, 7, 8, 9]]
def f80r12 : List I := [.op (.mov 17 (.tmp 9)),
  .op (.bin 18 .add (.tmp 17) (.const (.int .i64 1))),
  .op (.mov 9 (.tmp 18)),
  .kp [2, 4, 7, 8, 9]]
def f80r13 : List I := [.op (.mov 62 (.tmp 7)),
  .op (.mov 6 (.tmp 62)),
  .kp [6]]
def f80c13 : C := (.reg f80r8)
def f80c14 : C := (.reg f80r9)
def f80c12 : C := (.seq (.cond (.tmp 32) f80c13 .skip) f80c14)
def f80c11 : C := (.seq (.reg f80r7) f80c12)
def f80c17 : C := (.reg f80r11)
def f80c16 : C := (.cond (.tmp 57) f80c17 .skip)
def f80c15 : C := (.seq (.reg f80r10) f80c16)
def f80c10 : C := (.seq (.cond (.tmp 31) f80c11 .skip) f80c15)
def f80c9 : C := (.seq (.reg f80r6) f80c10)
def f80c8 : C := (.seq (.reg f80r5) f80c9)
def f80c18 : C := (.reg f80r12)
def f80c7 : C := (.seq (.block 1 f80c8) f80c18)
def f80c6 : C := (.seq (.cond (.tmp 16) .skip (.exit 0)) f80c7)
def f80c5 : C := (.seq (.reg f80r4) f80c6)
def f80c19 : C := (.seq (.reg f80r13) .ret)
def f80c4 : C := (.seq (.block 0 (.loop f80c5)) f80c19)
def f80c3 : C := (.seq (.reg f80r3) f80c4)
def f80c2 : C := (.seq (.reg f80r2) f80c3)
def f80c1 : C := (.seq (.reg f80r1) f80c2)
def f80c0 : C := (.seq (.reg f80r0) f80c1)
theorem f80cmp : cmpF Try.prog Try.f80 [.l [.o 0, .o 1, .kp [0, 2, 4]],
  .l [.o 0, .kp [0, 2, 4, 7]],
  .l [.o 0, .o 1, .o 2, .kp [2, 4, 7, 8]],
  .l [.o 0, .kp [2, 4, 7, 8, 9]],
  .l [.o 0, .o 1, .o 2, .o 3, .kp [2, 4, 7, 8, 9, 16]],
  .l [.o 0, .o 1, .o 2, .o 3, .o 4, .o 5, .kp [2, 4, 7, 8, 9, 10]],
  .l [.o 0, .o 1, .o 2, .sc 25 true 5, .o 3, .o 4, .o 5, .o 6, .o 7, .o 8, .kp [2, 4, 7, 8, 9, 10, 31]],
  .l [.o 0, .kp [2, 4, 7, 8, 9, 10, 32]],
  .l [.o 0, .o 1, .o 2, .o 3, .o 4, .o 5, .o 6, .o 7, .o 8, .o 9, .kp [2, 4, 7, 8, 9, 10, 34, 37, 40, 42], .o 10, .o 11, .o 12, .o 13, .o 14, .kp [2, 4, 7, 8, 9, 10]],
  .l [.o 0, .o 1, .o 2, .o 3, .o 4, .kp [2, 4, 7, 8, 9, 10]],
  .l [.o 0, .o 1, .o 2, .sc 52 false 4, .o 3, .o 4, .o 5, .o 6, .o 7, .kp [2, 4, 7, 8, 9, 10, 57]],
  .l [.o 0, .o 1, .o 2, .o 3, .o 4, .kp [2, 4, 7, 8, 9]],
  .l [.o 0, .o 1, .o 2, .kp [2, 4, 7, 8, 9]],
  .l [.o 0, .o 1, .kp [6]]] = some (f80c0, [.tmp 6]) := by kernel_rfl
theorem f80ok {args : List Value} {h : Heap} {R : Value → Heap → Prop} (hn : args.length ≤ 63) (H : wC Try.prog f80c0 (endW [.tmp 6] R) (envOf 0 args) h) : CallsH Try.prog 80 args h R :=
  fn_ok2 Try.func80 f80cmp hn H
theorem f80cal : callable Try.prog 80 = true := by kernel_rfl
section
variable {Q : X → Env → Heap → Prop} {σ : Env} {h : Heap}
theorem f80c13_eq : wC Try.prog f80c13 Q σ h = (wL Try.prog none f80r8 0 (fun σ h => Q .normal σ h) σ h) := rfl
theorem f80c14_eq : wC Try.prog f80c14 Q σ h = (wL Try.prog none f80r9 0 (fun σ h => Q .normal σ h) σ h) := rfl
theorem f80c12_eq : wC Try.prog f80c12 Q σ h = (bd (evO σ (.tmp 32)) fun v => bd (asB v) fun t => br t (wC Try.prog f80c13 (X.then (fun σ h => wC Try.prog f80c14 Q σ h) Q) σ h) (wC Try.prog f80c14 Q σ h)) := rfl
theorem f80c11_eq : wC Try.prog f80c11 Q σ h = (wL Try.prog none f80r7 0 (fun σ h => wC Try.prog f80c12 Q σ h) σ h) := rfl
theorem f80c17_eq : wC Try.prog f80c17 Q σ h = (wL Try.prog none f80r11 0 (fun σ h => Q .normal σ h) σ h) := rfl
theorem f80c16_eq : wC Try.prog f80c16 Q σ h = (bd (evO σ (.tmp 57)) fun v => bd (asB v) fun t => br t (wC Try.prog f80c17 Q σ h) (Q .normal σ h)) := rfl
theorem f80c15_eq : wC Try.prog f80c15 Q σ h = (wL Try.prog none f80r10 0 (fun σ h => wC Try.prog f80c16 Q σ h) σ h) := rfl
theorem f80c10_eq : wC Try.prog f80c10 Q σ h = (bd (evO σ (.tmp 31)) fun v => bd (asB v) fun t => br t (wC Try.prog f80c11 (X.then (fun σ h => wC Try.prog f80c15 Q σ h) Q) σ h) (wC Try.prog f80c15 Q σ h)) := rfl
theorem f80c9_eq : wC Try.prog f80c9 Q σ h = (wL Try.prog none f80r6 0 (fun σ h => wC Try.prog f80c10 Q σ h) σ h) := rfl
theorem f80c8_eq : wC Try.prog f80c8 Q σ h = (wL Try.prog none f80r5 0 (fun σ h => wC Try.prog f80c9 Q σ h) σ h) := rfl
theorem f80c18_eq : wC Try.prog f80c18 Q σ h = (wL Try.prog none f80r12 0 (fun σ h => Q .normal σ h) σ h) := rfl
theorem f80c7_eq : wC Try.prog f80c7 Q σ h = (wC Try.prog f80c8 (X.inBlock 1 (X.then (fun σ h => wC Try.prog f80c18 Q σ h) Q)) σ h) := rfl
theorem f80c6_eq : wC Try.prog f80c6 Q σ h = (bd (evO σ (.tmp 16)) fun v => bd (asB v) fun t => br t (wC Try.prog f80c7 Q σ h) (Q (.exit 0) σ h)) := rfl
theorem f80c5_eq : wC Try.prog f80c5 Q σ h = (wL Try.prog none f80r4 0 (fun σ h => wC Try.prog f80c6 Q σ h) σ h) := rfl
theorem f80c19_eq : wC Try.prog f80c19 Q σ h = (wL Try.prog none f80r13 0 (fun σ h => Q .ret σ h) σ h) := rfl
theorem f80c4_eq : wC Try.prog f80c4 Q σ h = (loopW (wC Try.prog f80c5) (X.inBlock 0 (X.then (fun σ h => wC Try.prog f80c19 Q σ h) Q)) σ h) := rfl
theorem f80c3_eq : wC Try.prog f80c3 Q σ h = (wL Try.prog none f80r3 0 (fun σ h => wC Try.prog f80c4 Q σ h) σ h) := rfl
theorem f80c2_eq : wC Try.prog f80c2 Q σ h = (wL Try.prog none f80r2 0 (fun σ h => wC Try.prog f80c3 Q σ h) σ h) := rfl
theorem f80c1_eq : wC Try.prog f80c1 Q σ h = (wL Try.prog none f80r1 0 (fun σ h => wC Try.prog f80c2 Q σ h) σ h) := rfl
theorem f80c0_eq : wC Try.prog f80c0 Q σ h = (wL Try.prog none f80r0 0 (fun σ h => wC Try.prog f80c1 Q σ h) σ h) := rfl
end
/-! ### f46: antipode/mvcc.Trim -/
def f46r0 : List I := [.op (.box 3 39 (.tmp 1)),
  .op (.mov 4 (.const (.slice none 0 0))),
  .kp [0, 3]]
def f46r1 : List I := [.op (.mov 5 (.const (.slice none 0 0))),
  .kp [0, 3, 5]]
def f46r2 : List I := [.op (.mov 9 (.tmp 0)),
  .op (.len 10 true (.tmp 9)),
  .op (.mov 11 (.const (.int .i64 0))),
  .kp [3, 5, 9, 10, 11]]
def f46r3 : List I := [.op (.bin 12 .lss (.tmp 11) (.tmp 10)),
  .kp [3, 5, 9, 10, 11, 12]]
def f46r4 : List I := [.op (.iad 13 12 (.tmp 9) (.tmp 11)),
  .op (.ld 14 (some 12) (.tmp 13)),
  .op (.new 7 103 [.string ⟨#[]⟩, .slice none 0 0, .bool false, .int .i64 0, .int .i64 0, .int .i64 0, .int .i64 0, .int .i64 0, .int .i64 0, .int .i64 0, .bool false, .string ⟨#[]⟩]),
  .op (.st 12 (.tmp 7) (.tmp 14)),
  .kp [3, 5, 7, 9, 10, 11]]
def f46r5 : List I := [.op (.ld 15 (some 12) (.tmp 7)),
  .op (.call (some 16) 84 [(.tmp 15)]),
  .op (.st 12 (.tmp 7) (.tmp 16)),
  .kp [3, 5, 7, 9, 10, 11]]
def f46r6 : List I := [.op (.fad 17 1 (.tmp 7)),
  .op (.ld 18 none (.tmp 17)),
  .op (.ld 19 (some 2) (.tmp 3)),
  .op (.call (some 20) 91 [(.tmp 18), (.tmp 19)]),
  .op (.mov 8 (.tmp 20)),
  .kp [3, 5, 7, 8, 9, 10, 11]]
def f46r7 : List I := [.op (.mov 21 (.tmp 8)),
  .op (.bin 22 .geq (.tmp 21) (.const (.int .i64 0))),
  .kp [3, 5, 7, 8, 9, 10, 11, 22]]
def f46r8 : List I := [.op (.fad 23 1 (.tmp 7)),
  .op (.ld 24 none (.tmp 23)),
  .op (.mov 25 (.tmp 8)),
  .op (.iad 26 4 (.tmp 24) (.tmp 25)),
  .op (.fad 27 2 (.tmp 26)),
  .op (.ld 28 none (.tmp 27)),
  .kp [3, 5, 7, 8, 9, 10, 11, 28]]
def f46r9 : List I := [.op (.mov 29 (.tmp 8)),
  .op (.bin 30 .add (.tmp 29) (.const (.int .i64 1))),
  .op (.mov 8 (.tmp 30)),
  .kp [3, 5, 7, 8, 9, 10, 11]]
def f46r10 : List I := [.op (.fad 31 1 (.tmp 7)),
  .op (.ld 32 none (.tmp 31)),
  .op (.mov 33 (.tmp 8)),
  .op (.slc 34 4 (.tmp 32) (some (.tmp 33)) none none),
  .op (.fad 35 1 (.tmp 7)),
  .op (.st 1 (.tmp 35) (.tmp 34)),
  .kp [3, 5, 7, 9, 10, 11]]
def f46r11 : List I := [.op (.fad 36 2 (.tmp 7)),
  .op (.ld 37 none (.tmp 36)),
  .op (.mov 38 (.tmp 37)),
  .sc 38 false 4,
  .g 38 false (.fad 39 1 (.tmp 7)),
  .g 38 false (.ld 40 none (.tmp 39)),
  .g 38 false (.len 41 true (.tmp 40)),
  .g 38 false (.bin 42 .gtr (.tmp 41) (.const (.int .i64 0))),
  .op (.pick 43 (.tmp 38) (.const (.bool true)) (.tmp 42)),
  .kp [3, 5, 7, 9, 10, 11, 43]]
def f46r12 : List I := [.op (.mov 44 (.tmp 5)),
  .op (.ld 45 (some 12) (.tmp 7)),
  .op (.bsl 46 103 1 [.string ⟨#[]⟩, .slice none 0 0, .bool false, .int .i64 0, .int .i64 0, .int .i64 0, .int .i64 0, .int .i64 0, .int .i64 0, .int .i64 0, .bool false, .string ⟨#[]⟩] [(0, 12, (.tmp 45))]),
  .op (.raw (some 47) ⟨(some 47), (.call ⟨(.builtin .append), #[(.tmp 44), (.tmp 46)], #[74, 74]⟩), 74, "mvcc.go:180", #[⟨0, .data⟩, ⟨2, .data⟩], none⟩),
  .op (.mov 5 (.tmp 47)),
  .kp [3, 5, 9, 10, 11]]
def f46r13 : List I := [.op (.bin 48 .add (.tmp 11) (.const (.int .i64 1))),
  .op (.mov 11 (.tmp 48)),
  .kp [3, 5, 9, 10, 11]]
def f46r14 : List I := [.op (.mov 49 (.tmp 5)),
  .op (.mov 4 (.tmp 49)),
  .kp [4]]
def f46c14 : C := (.reg f46r9)
def f46c15 : C := (.reg f46r10)
def f46c13 : C := (.seq (.cond (.tmp 28) f46c14 .skip) f46c15)
def f46c12 : C := (.seq (.reg f46r8) f46c13)
def f46c18 : C := (.reg f46r12)
def f46c17 : C := (.cond (.tmp 43) f46c18 .skip)
def f46c16 : C := (.seq (.reg f46r11) f46c17)
def f46c11 : C := (.seq (.cond (.tmp 22) f46c12 .skip) f46c16)
def f46c10 : C := (.seq (.reg f46r7) f46c11)
def f46c9 : C := (.seq (.reg f46r6) f46c10)
def f46c8 : C := (.seq (.reg f46r5) f46c9)
def f46c7 : C := (.seq (.reg f46r4) f46c8)
def f46c19 : C := (.reg f46r13)
def f46c6 : C := (.seq (.block 1 f46c7) f46c19)
def f46c5 : C := (.seq (.cond (.tmp 12) .skip (.exit 0)) f46c6)
def f46c4 : C := (.seq (.reg f46r3) f46c5)
def f46c20 : C := (.seq (.reg f46r14) .ret)
def f46c3 : C := (.seq (.block 0 (.loop f46c4)) f46c20)
def f46c2 : C := (.seq (.reg f46r2) f46c3)
def f46c1 : C := (.seq (.reg f46r1) f46c2)
def f46c0 : C := (.seq (.reg f46r0) f46c1)
theorem f46cmp : cmpF Try.prog Try.f46 [.l [.o 0, .o 1, .kp [0, 3]],
  .l [.o 0, .kp [0, 3, 5]],
  .l [.o 0, .o 1, .o 2, .kp [3, 5, 9, 10, 11]],
  .l [.o 0, .kp [3, 5, 9, 10, 11, 12]],
  .l [.o 0, .o 1, .o 2, .o 3, .kp [3, 5, 7, 9, 10, 11]],
  .l [.o 0, .o 1, .o 2, .kp [3, 5, 7, 9, 10, 11]],
  .l [.o 0, .o 1, .o 2, .o 3, .o 4, .kp [3, 5, 7, 8, 9, 10, 11]],
  .l [.o 0, .o 1, .kp [3, 5, 7, 8, 9, 10, 11, 22]],
  .l [.o 0, .o 1, .o 2, .o 3, .o 4, .o 5, .kp [3, 5, 7, 8, 9, 10, 11, 28]],
  .l [.o 0, .o 1, .o 2, .kp [3, 5, 7, 8, 9, 10, 11]],
  .l [.o 0, .o 1, .o 2, .o 3, .o 4, .o 5, .kp [3, 5, 7, 9, 10, 11]],
  .l [.o 0, .o 1, .o 2, .sc 38 false 4, .o 3, .o 4, .o 5, .o 6, .o 7, .kp [3, 5, 7, 9, 10, 11, 43]],
  .l [.o 0, .o 1, .o 2, .o 3, .o 4, .kp [3, 5, 9, 10, 11]],
  .l [.o 0, .o 1, .kp [3, 5, 9, 10, 11]],
  .l [.o 0, .o 1, .kp [4]]] = some (f46c0, [.tmp 4]) := by kernel_rfl
theorem f46ok {args : List Value} {h : Heap} {R : Value → Heap → Prop} (hn : args.length ≤ 50) (H : wC Try.prog f46c0 (endW [.tmp 4] R) (envOf 0 args) h) : CallsH Try.prog 46 args h R :=
  fn_ok2 Try.func46 f46cmp hn H
theorem f46cal : callable Try.prog 46 = true := by kernel_rfl
section
variable {Q : X → Env → Heap → Prop} {σ : Env} {h : Heap}
theorem f46c14_eq : wC Try.prog f46c14 Q σ h = (wL Try.prog none f46r9 0 (fun σ h => Q .normal σ h) σ h) := rfl
theorem f46c15_eq : wC Try.prog f46c15 Q σ h = (wL Try.prog none f46r10 0 (fun σ h => Q .normal σ h) σ h) := rfl
theorem f46c13_eq : wC Try.prog f46c13 Q σ h = (bd (evO σ (.tmp 28)) fun v => bd (asB v) fun t => br t (wC Try.prog f46c14 (X.then (fun σ h => wC Try.prog f46c15 Q σ h) Q) σ h) (wC Try.prog f46c15 Q σ h)) := rfl
theorem f46c12_eq : wC Try.prog f46c12 Q σ h = (wL Try.prog none f46r8 0 (fun σ h => wC Try.prog f46c13 Q σ h) σ h) := rfl
theorem f46c18_eq : wC Try.prog f46c18 Q σ h = (wL Try.prog none f46r12 0 (fun σ h => Q .normal σ h) σ h) := rfl
theorem f46c17_eq : wC Try.prog f46c17 Q σ h = (bd (evO σ (.tmp 43)) fun v => bd (asB v) fun t => br t (wC Try.prog f46c18 Q σ h) (Q .normal σ h)) := rfl
theorem f46c16_eq : wC Try.prog f46c16 Q σ h = (wL Try.prog none f46r11 0 (fun σ h => wC Try.prog f46c17 Q σ h) σ h) := rfl
theorem f46c11_eq : wC Try.prog f46c11 Q σ h = (bd (evO σ (.tmp 22)) fun v => bd (asB v) fun t => br t (wC Try.prog f46c12 (X.then (fun σ h => wC Try.prog f46c16 Q σ h) Q) σ h) (wC Try.prog f46c16 Q σ h)) := rfl
theorem f46c10_eq : wC Try.prog f46c10 Q σ h = (wL Try.prog none f46r7 0 (fun σ h => wC Try.prog f46c11 Q σ h) σ h) := rfl
theorem f46c9_eq : wC Try.prog f46c9 Q σ h = (wL Try.prog none f46r6 0 (fun σ h => wC Try.prog f46c10 Q σ h) σ h) := rfl
theorem f46c8_eq : wC Try.prog f46c8 Q σ h = (wL Try.prog none f46r5 0 (fun σ h => wC Try.prog f46c9 Q σ h) σ h) := rfl
theorem f46c7_eq : wC Try.prog f46c7 Q σ h = (wL Try.prog none f46r4 0 (fun σ h => wC Try.prog f46c8 Q σ h) σ h) := rfl
theorem f46c19_eq : wC Try.prog f46c19 Q σ h = (wL Try.prog none f46r13 0 (fun σ h => Q .normal σ h) σ h) := rfl
theorem f46c6_eq : wC Try.prog f46c6 Q σ h = (wC Try.prog f46c7 (X.inBlock 1 (X.then (fun σ h => wC Try.prog f46c19 Q σ h) Q)) σ h) := rfl
theorem f46c5_eq : wC Try.prog f46c5 Q σ h = (bd (evO σ (.tmp 12)) fun v => bd (asB v) fun t => br t (wC Try.prog f46c6 Q σ h) (Q (.exit 0) σ h)) := rfl
theorem f46c4_eq : wC Try.prog f46c4 Q σ h = (wL Try.prog none f46r3 0 (fun σ h => wC Try.prog f46c5 Q σ h) σ h) := rfl
theorem f46c20_eq : wC Try.prog f46c20 Q σ h = (wL Try.prog none f46r14 0 (fun σ h => Q .ret σ h) σ h) := rfl
theorem f46c3_eq : wC Try.prog f46c3 Q σ h = (loopW (wC Try.prog f46c4) (X.inBlock 0 (X.then (fun σ h => wC Try.prog f46c20 Q σ h) Q)) σ h) := rfl
theorem f46c2_eq : wC Try.prog f46c2 Q σ h = (wL Try.prog none f46r2 0 (fun σ h => wC Try.prog f46c3 Q σ h) σ h) := rfl
theorem f46c1_eq : wC Try.prog f46c1 Q σ h = (wL Try.prog none f46r1 0 (fun σ h => wC Try.prog f46c2 Q σ h) σ h) := rfl
theorem f46c0_eq : wC Try.prog f46c0 Q σ h = (wL Try.prog none f46r0 0 (fun σ h => wC Try.prog f46c1 Q σ h) σ h) := rfl
end
/-! ### f81: antipode/antipoderef8.Trim -/
def f81r0 : List I := [.op (.box 3 39 (.tmp 1)),
  .op (.mov 4 (.const (.slice none 0 0))),
  .kp [0, 3]]
def f81r1 : List I := [.op (.mov 5 (.const (.slice none 0 0))),
  .kp [0, 3, 5]]
def f81r2 : List I := [.op (.mov 10 (.tmp 0)),
  .op (.call (some 11) 48 [(.tmp 10)]),
  .op (.mov 6 (.tmp 11)),
  .kp [3, 5, 6]]
def f81r3 : List I := [.op (.mov 7 (.const (.int .i64 0))),
  .kp [3, 5, 6, 7]]
def f81r4 : List I := [.op (.mov 12 (.tmp 7)),
  .op (.mov 13 (.tmp 6)),
  .op (.len 14 true (.tmp 13)),
  .op (.bin 15 .lss (.tmp 12) (.tmp 14)),
  .kp [3, 5, 6, 7, 15]]
def f81r5 : List I := [.op (.mov 18 (.tmp 6)),
  .op (.mov 19 (.tmp 7)),
  .op (.iad 20 12 (.tmp 18) (.tmp 19)),
  .op (.ld 21 (some 12) (.tmp 20)),
  .op (.new 8 103 [.string ⟨#[]⟩, .slice none 0 0, .bool false, .int .i64 0, .int .i64 0, .int .i64 0, .int .i64 0, .int .i64 0, .int .i64 0, .int .i64 0, .bool false, .string ⟨#[]⟩]),
  .op (.st 12 (.tmp 8) (.tmp 21)),
  .kp [3, 5, 6, 7, 8]]
def f81r6 : List I := [.op (.mov 9 (.const (.int .i64 0))),
  .kp [3, 5, 6, 7, 8, 9]]
def f81r7 : List I := [.op (.mov 22 (.tmp 9)),
  .op (.fad 23 1 (.tmp 8)),
  .op (.ld 24 none (.tmp 23)),
  .op (.len 25 true (.tmp 24)),
  .op (.bin 26 .lss (.tmp 22) (.tmp 25)),
  .op (.mov 27 (.tmp 26)),
  .sc 27 true 9,
  .g 27 true (.ld 28 (some 2) (.tmp 3)),
  .g 27 true (.fad 29 1 (.tmp 8)),
  .g 27 true (.ld 30 none (.tmp 29)),
  .g 27 true (.mov 31 (.tmp 9)),
  .g 27 true (.iad 32 4 (.tmp 30) (.tmp 31)),
  .g 27 true (.fad 33 0 (.tmp 32)),
  .g 27 true (.ld 34 (some 2) (.tmp 33)),
  .g 27 true (.call (some 35) 42 [(.tmp 28), (.tmp 34)]),
  .g 27 true (.un 36 .not (.tmp 35)),
  .op (.pick 37 (.tmp 27) (.tmp 36) (.const (.bool false))),
  .kp [3, 5, 6, 7, 8, 9, 37]]
def f81r8 : List I := [.op (.mov 38 (.tmp 9)),
  .op (.bin 39 .add (.tmp 38) (.const (.int .i64 1))),
  .op (.mov 9 (.tmp 39)),
  .kp [3, 5, 6, 7, 8, 9]]
def f81r9 : List I := [.op (.mov 40 (.tmp 9)),
  .op (.bin 41 .gtr (.tmp 40) (.const (.int .i64 0))),
  .op (.mov 42 (.tmp 41)),
  .sc 42 true 8,
  .g 42 true (.fad 43 1 (.tmp 8)),
  .g 42 true (.ld 44 none (.tmp 43)),
  .g 42 true (.mov 45 (.tmp 9)),
  .g 42 true (.bin 46 .sub (.tmp 45) (.const (.int .i64 1))),
  .g 42 true (.iad 47 4 (.tmp 44) (.tmp 46)),
  .g 42 true (.fad 48 2 (.tmp 47)),
  .g 42 true (.ld 49 none (.tmp 48)),
  .g 42 true (.un 50 .not (.tmp 49)),
  .op (.pick 51 (.tmp 42) (.tmp 50) (.const (.bool false))),
  .kp [3, 5, 6, 7, 8, 9, 51]]
def f81r10 : List I := [.op (.mov 52 (.tmp 9)),
  .op (.bin 53 .sub (.tmp 52) (.const (.int .i64 1))),
  .op (.mov 9 (.tmp 53)),
  .kp [3, 5, 6, 7, 8, 9]]
def f81r11 : List I := [.op (.fad 54 1 (.tmp 8)),
  .op (.ld 55 none (.tmp 54)),
  .op (.mov 56 (.tmp 9)),
  .op (.slc 57 4 (.tmp 55) (some (.tmp 56)) none none),
  .op (.fad 58 1 (.tmp 8)),
  .op (.st 1 (.tmp 58) (.tmp 57)),
  .kp [3, 5, 6, 7, 8]]
def f81r12 : List I := [.op (.fad 59 2 (.tmp 8)),
  .op (.ld 60 none (.tmp 59)),
  .op (.mov 61 (.tmp 60)),
  .sc 61 false 4,
  .g 61 false (.fad 62 1 (.tmp 8)),
  .g 61 false (.ld 63 none (.tmp 62)),
  .g 61 false (.len 64 true (.tmp 63)),
  .g 61 false (.bin 65 .gtr (.tmp 64) (.const (.int .i64 0))),
  .op (.pick 66 (.tmp 61) (.const (.bool true)) (.tmp 65)),
  .kp [3, 5, 6, 7, 8, 66]]
def f81r13 : List I := [.op (.mov 67 (.tmp 5)),
  .op (.ld 68 (some 12) (.tmp 8)),
  .op (.bsl 69 103 1 [.string ⟨#[]⟩, .slice none 0 0, .bool false, .int .i64 0, .int .i64 0, .int .i64 0, .int .i64 0, .int .i64 0, .int .i64 0, .int .i64 0, .bool false, .string ⟨#[]⟩] [(0, 12, (.tmp 68))]),
  .op (.raw (some 70) ⟨(some 70), (.call ⟨(.builtin .append), #[(.tmp 67), (.tmp 69)], #[74, 74]⟩), 74, "ref.go:192", #[⟨0, .data⟩, ⟨2, .data⟩], none⟩),
  .op (.mov 5 (.tmp 70)),
  .kp [3, 5, 6, 7]]
def f81r14 : List I := [.op (.mov 16 (.tmp 7)),
  .op (.bin 17 .add (.tmp 16) (.const (.int .i64 1))),
  .op (.mov 7 (.tmp 17)),
  .kp [3, 5, 6, 7]]
def f81r15 : List I := [.op (.mov 71 (.tmp 5)),
  .op (.mov 4 (.tmp 71)),
  .kp [4]]
def f81c14 : C := (.reg f81r8)
def f81c13 : C := (.block 3 f81c14)
def f81c12 : C := (.seq (.cond (.tmp 37) .skip (.exit 2)) f81c13)
def f81c11 : C := (.seq (.drw f81r7) f81c12)
def f81c17 : C := (.reg f81r10)
def f81c21 : C := (.reg f81r13)
def f81c20 : C := (.cond (.tmp 66) f81c21 .skip)
def f81c19 : C := (.seq (.reg f81r12) f81c20)
def f81c18 : C := (.seq (.reg f81r11) f81c19)
def f81c16 : C := (.seq (.cond (.tmp 51) f81c17 .skip) f81c18)
def f81c15 : C := (.seq (.reg f81r9) f81c16)
def f81c10 : C := (.seq (.block 2 (.loop f81c11)) f81c15)
def f81c9 : C := (.seq (.reg f81r6) f81c10)
def f81c8 : C := (.seq (.reg f81r5) f81c9)
def f81c22 : C := (.reg f81r14)
def f81c7 : C := (.seq (.block 1 f81c8) f81c22)
def f81c6 : C := (.seq (.cond (.tmp 15) .skip (.exit 0)) f81c7)
def f81c5 : C := (.seq (.reg f81r4) f81c6)
def f81c23 : C := (.seq (.reg f81r15) .ret)
def f81c4 : C := (.seq (.block 0 (.loop f81c5)) f81c23)
def f81c3 : C := (.seq (.reg f81r3) f81c4)
def f81c2 : C := (.seq (.reg f81r2) f81c3)
def f81c1 : C := (.seq (.reg f81r1) f81c2)
def f81c0 : C := (.seq (.reg f81r0) f81c1)
theorem f81cmp : cmpF Try.prog Try.f81 [.l [.o 0, .o 1, .kp [0, 3]],
  .l [.o 0, .kp [0, 3, 5]],
  .l [.o 0, .o 1, .o 2, .kp [3, 5, 6]],
  .l [.o 0, .kp [3, 5, 6, 7]],
  .l [.o 0, .o 1, .o 2, .o 3, .kp [3, 5, 6, 7, 15]],
  .l [.o 0, .o 1, .o 2, .o 3, .o 4, .o 5, .kp [3, 5, 6, 7, 8]],
  .l [.o 0, .kp [3, 5, 6, 7, 8, 9]],
  .l [.o 0, .o 1, .o 2, .o 3, .o 4, .o 5, .sc 27 true 9, .o 6, .o 7, .o 8, .o 9, .o 10, .o 11, .o 12, .o 13, .o 14, .o 15, .kp [3, 5, 6, 7, 8, 9, 37]],
  .l [.o 0, .o 1, .o 2, .kp [3, 5, 6, 7, 8, 9]],
  .l [.o 0, .o 1, .o 2, .sc 42 true 8, .o 3, .o 4, .o 5, .o 6, .o 7, .o 8, .o 9, .o 10, .o 11, .kp [3, 5, 6, 7, 8, 9, 51]],
  .l [.o 0, .o 1, .o 2, .kp [3, 5, 6, 7, 8, 9]],
  .l [.o 0, .o 1, .o 2, .o 3, .o 4, .o 5, .kp [3, 5, 6, 7, 8]],
  .l [.o 0, .o 1, .o 2, .sc 61 false 4, .o 3, .o 4, .o 5, .o 6, .o 7, .kp [3, 5, 6, 7, 8, 66]],
  .l [.o 0, .o 1, .o 2, .o 3, .o 4, .kp [3, 5, 6, 7]],
  .l [.o 0, .o 1, .o 2, .kp [3, 5, 6, 7]],
  .l [.o 0, .o 1, .kp [4]]] = some (f81c0, [.tmp 4]) := by kernel_rfl
theorem f81ok {args : List Value} {h : Heap} {R : Value → Heap → Prop} (hn : args.length ≤ 72) (H : wC Try.prog f81c0 (endW [.tmp 4] R) (envOf 0 args) h) : CallsH Try.prog 81 args h R :=
  fn_ok2 Try.func81 f81cmp hn H
theorem f81cal : callable Try.prog 81 = true := by kernel_rfl
section
variable {Q : X → Env → Heap → Prop} {σ : Env} {h : Heap}
theorem f81c14_eq : wC Try.prog f81c14 Q σ h = (wL Try.prog none f81r8 0 (fun σ h => Q .normal σ h) σ h) := rfl
theorem f81c13_eq : wC Try.prog f81c13 Q σ h = (wC Try.prog f81c14 (X.inBlock 3 Q) σ h) := rfl
theorem f81c12_eq : wC Try.prog f81c12 Q σ h = (bd (evO σ (.tmp 37)) fun v => bd (asB v) fun t => br t (wC Try.prog f81c13 Q σ h) (Q (.exit 2) σ h)) := rfl
theorem f81c11_eq : wC Try.prog f81c11 Q σ h = (drwW Try.prog f81r7 (fun σ h => wC Try.prog f81c12 Q σ h) σ h) := rfl
theorem f81c17_eq : wC Try.prog f81c17 Q σ h = (wL Try.prog none f81r10 0 (fun σ h => Q .normal σ h) σ h) := rfl
theorem f81c21_eq : wC Try.prog f81c21 Q σ h = (wL Try.prog none f81r13 0 (fun σ h => Q .normal σ h) σ h) := rfl
theorem f81c20_eq : wC Try.prog f81c20 Q σ h = (bd (evO σ (.tmp 66)) fun v => bd (asB v) fun t => br t (wC Try.prog f81c21 Q σ h) (Q .normal σ h)) := rfl
theorem f81c19_eq : wC Try.prog f81c19 Q σ h = (wL Try.prog none f81r12 0 (fun σ h => wC Try.prog f81c20 Q σ h) σ h) := rfl
theorem f81c18_eq : wC Try.prog f81c18 Q σ h = (wL Try.prog none f81r11 0 (fun σ h => wC Try.prog f81c19 Q σ h) σ h) := rfl
theorem f81c16_eq : wC Try.prog f81c16 Q σ h = (bd (evO σ (.tmp 51)) fun v => bd (asB v) fun t => br t (wC Try.prog f81c17 (X.then (fun σ h => wC Try.prog f81c18 Q σ h) Q) σ h) (wC Try.prog f81c18 Q σ h)) := rfl
theorem f81c15_eq : wC Try.prog f81c15 Q σ h = (wL Try.prog none f81r9 0 (fun σ h => wC Try.prog f81c16 Q σ h) σ h) := rfl
theorem f81c10_eq : wC Try.prog f81c10 Q σ h = (loopW (wC Try.prog f81c11) (X.inBlock 2 (X.then (fun σ h => wC Try.prog f81c15 Q σ h) Q)) σ h) := rfl
theorem f81c9_eq : wC Try.prog f81c9 Q σ h = (wL Try.prog none f81r6 0 (fun σ h => wC Try.prog f81c10 Q σ h) σ h) := rfl
theorem f81c8_eq : wC Try.prog f81c8 Q σ h = (wL Try.prog none f81r5 0 (fun σ h => wC Try.prog f81c9 Q σ h) σ h) := rfl
theorem f81c22_eq : wC Try.prog f81c22 Q σ h = (wL Try.prog none f81r14 0 (fun σ h => Q .normal σ h) σ h) := rfl
theorem f81c7_eq : wC Try.prog f81c7 Q σ h = (wC Try.prog f81c8 (X.inBlock 1 (X.then (fun σ h => wC Try.prog f81c22 Q σ h) Q)) σ h) := rfl
theorem f81c6_eq : wC Try.prog f81c6 Q σ h = (bd (evO σ (.tmp 15)) fun v => bd (asB v) fun t => br t (wC Try.prog f81c7 Q σ h) (Q (.exit 0) σ h)) := rfl
theorem f81c5_eq : wC Try.prog f81c5 Q σ h = (wL Try.prog none f81r4 0 (fun σ h => wC Try.prog f81c6 Q σ h) σ h) := rfl
theorem f81c23_eq : wC Try.prog f81c23 Q σ h = (wL Try.prog none f81r15 0 (fun σ h => Q .ret σ h) σ h) := rfl
theorem f81c4_eq : wC Try.prog f81c4 Q σ h = (loopW (wC Try.prog f81c5) (X.inBlock 0 (X.then (fun σ h => wC Try.prog f81c23 Q σ h) Q)) σ h) := rfl
theorem f81c3_eq : wC Try.prog f81c3 Q σ h = (wL Try.prog none f81r3 0 (fun σ h => wC Try.prog f81c4 Q σ h) σ h) := rfl
theorem f81c2_eq : wC Try.prog f81c2 Q σ h = (wL Try.prog none f81r2 0 (fun σ h => wC Try.prog f81c3 Q σ h) σ h) := rfl
theorem f81c1_eq : wC Try.prog f81c1 Q σ h = (wL Try.prog none f81r1 0 (fun σ h => wC Try.prog f81c2 Q σ h) σ h) := rfl
theorem f81c0_eq : wC Try.prog f81c0 Q σ h = (wL Try.prog none f81r0 0 (fun σ h => wC Try.prog f81c1 Q σ h) σ h) := rfl
end
end Go.Proofs.Ytefghfgmkndikaa
/-
  By a program of mine (wip/tools/gen.py): the code of functions of the seat in the small instruction language, and that it is their code.
-/
namespace Go.Proofs.Ytefghfgmkndikaa
open Go.AX
set_option maxRecDepth 100000
/-! ### f45: antipode/mvcc.May -/
def f45r0 : List I := [.op (.mov 2 (.const (.bool false))),
  .kp [0]]
def f45r1 : List I := [.op (.mov 7 (.tmp 0)),
  .op (.len 8 true (.tmp 7)),
  .op (.mov 9 (.const (.int .i64 0))),
  .kp [0, 7, 8, 9]]
def f45r2 : List I := [.op (.bin 10 .lss (.tmp 9) (.tmp 8)),
  .kp [0, 7, 8, 9, 10]]
def f45r3 : List I := [.op (.mov 11 (.tmp 9)),
  .op (.iad 12 12 (.tmp 7) (.tmp 9)),
  .op (.ld 13 (some 12) (.tmp 12)),
  .op (.new 4 103 [.string ⟨#[]⟩, .slice none 0 0, .bool false, .int .i64 0, .int .i64 0, .int .i64 0, .int .i64 0, .int .i64 0, .int .i64 0, .int .i64 0, .bool false, .string ⟨#[]⟩]),
  .op (.mov 3 (.tmp 11)),
  .op (.st 12 (.tmp 4) (.tmp 13)),
  .kp [0, 3, 4, 7, 8, 9]]
def f45r4c : List I := [.op (.mov 49 (.tmp 48)),
  .sc 49 false 10,
  .g 49 false (.fad 50 3 (.tmp 4)),
  .g 49 false (.fad 51 7 (.tmp 50)),
  .g 49 false (.ld 52 none (.tmp 51)),
  .g 49 false (.mov 53 (.tmp 52)),
  .sc 53 true 4,
  .g 53 true (.fad 54 3 (.tmp 4)),
  .g 53 true (.fad 55 8 (.tmp 54)),
  .g 53 true (.ld 56 none (.tmp 55)),
  .g 53 true (.bin 57 .neq (.tmp 56) (.const (.string ⟨#[]⟩))),
  .g 49 false (.pick 58 (.tmp 53) (.tmp 57) (.const (.bool false))),
  .op (.pick 59 (.tmp 49) (.const (.bool true)) (.tmp 58)),
  .kp [59, 0, 4, 7, 8, 9]]
def f45r4b : List I := .op (.mov 38 (.tmp 37)) ::
  .sc 38 false 10 ::
  .g 38 false (.fad 39 2 (.tmp 4)) ::
  .g 38 false (.ld 40 none (.tmp 39)) ::
  .g 38 false (.un 41 .not (.tmp 40)) ::
  .g 38 false (.mov 42 (.tmp 41)) ::
  .sc 42 true 4 ::
  .g 42 true (.fad 43 1 (.tmp 4)) ::
  .g 42 true (.ld 44 none (.tmp 43)) ::
  .g 42 true (.len 45 true (.tmp 44)) ::
  .g 42 true (.bin 46 .eql (.tmp 45) (.const (.int .i64 0))) ::
  .g 38 false (.pick 47 (.tmp 42) (.tmp 46) (.const (.bool false))) ::
  .op (.pick 48 (.tmp 38) (.const (.bool true)) (.tmp 47)) ::
  .kp [48, 0, 4, 7, 8, 9] ::
  f45r4c
def f45r4a : List I := .op (.mov 27 (.tmp 26)) ::
  .sc 27 false 10 ::
  .g 27 false (.fad 28 2 (.tmp 4)) ::
  .g 27 false (.ld 29 none (.tmp 28)) ::
  .g 27 false (.un 30 .not (.tmp 29)) ::
  .g 27 false (.mov 31 (.tmp 30)) ::
  .sc 31 true 4 ::
  .g 31 true (.fad 32 3 (.tmp 4)) ::
  .g 31 true (.ld 33 (some 9) (.tmp 32)) ::
  .g 31 true (.bld 34 [.int .i64 0, .int .i64 0, .int .i64 0, .int .i64 0, .int .i64 0, .int .i64 0, .int .i64 0, .bool false, .string ⟨#[]⟩] []) ::
  .g 31 true (.eqa 35 true [.i .i64, .i .i64, .i .i64, .i .i64, .i .i64, .i .i64, .i .i64, .b, .s] (.tmp 33) (.tmp 34)) ::
  .g 27 false (.pick 36 (.tmp 31) (.tmp 35) (.const (.bool false))) ::
  .op (.pick 37 (.tmp 27) (.const (.bool true)) (.tmp 36)) ::
  .kp [37, 0, 4, 7, 8, 9] ::
  f45r4b
def f45r4 : List I := .op (.mov 14 (.tmp 3)) ::
  .op (.bin 15 .gtr (.tmp 14) (.const (.int .i64 0))) ::
  .op (.mov 16 (.tmp 15)) ::
  .sc 16 true 9 ::
  .g 16 true (.fad 17 0 (.tmp 4)) ::
  .g 16 true (.ld 18 none (.tmp 17)) ::
  .g 16 true (.mov 19 (.tmp 0)) ::
  .g 16 true (.mov 20 (.tmp 3)) ::
  .g 16 true (.bin 21 .sub (.tmp 20) (.const (.int .i64 1))) ::
  .g 16 true (.iad 22 12 (.tmp 19) (.tmp 21)) ::
  .g 16 true (.fad 23 0 (.tmp 22)) ::
  .g 16 true (.ld 24 none (.tmp 23)) ::
  .g 16 true (.bin 25 .leq (.tmp 18) (.tmp 24)) ::
  .op (.pick 26 (.tmp 16) (.tmp 25) (.const (.bool false))) ::
  .kp [26, 0, 4, 7, 8, 9] ::
  f45r4a
def f45r5 : List I := [.op (.mov 2 (.const (.bool false))),
  .kp [2]]
def f45r6 : List I := [.op (.fad 60 1 (.tmp 4)),
  .op (.ld 61 none (.tmp 60)),
  .op (.len 62 true (.tmp 61)),
  .op (.mov 63 (.const (.int .i64 0))),
  .kp [0, 4, 7, 8, 9, 61, 62, 63]]
def f45r7 : List I := [.op (.bin 64 .lss (.tmp 63) (.tmp 62)),
  .kp [0, 4, 7, 8, 9, 61, 62, 63, 64]]
def f45r8 : List I := [.op (.mov 65 (.tmp 63)),
  .op (.iad 66 4 (.tmp 61) (.tmp 63)),
  .op (.ld 67 (some 4) (.tmp 66)),
  .op (.new 6 108 [.int .i64 0, .int .i64 0, .bool false, .string ⟨#[]⟩]),
  .op (.mov 5 (.tmp 65)),
  .op (.st 4 (.tmp 6) (.tmp 67)),
  .kp [0, 4, 5, 6, 7, 8, 9, 61, 62, 63]]
def f45r9a : List I := [.op (.mov 83 (.tmp 82)),
  .sc 83 false 8,
  .g 83 false (.fad 84 2 (.tmp 6)),
  .g 83 false (.ld 85 none (.tmp 84)),
  .g 83 false (.mov 86 (.tmp 85)),
  .sc 86 true 3,
  .g 86 true (.fad 87 3 (.tmp 6)),
  .g 86 true (.ld 88 none (.tmp 87)),
  .g 86 true (.bin 89 .neq (.tmp 88) (.const (.string ⟨#[]⟩))),
  .g 83 false (.pick 90 (.tmp 86) (.tmp 89) (.const (.bool false))),
  .op (.pick 91 (.tmp 83) (.const (.bool true)) (.tmp 90)),
  .kp [91, 0, 4, 7, 8, 9, 61, 62, 63]]
def f45r9 : List I := .op (.mov 68 (.tmp 5)) ::
  .op (.bin 69 .gtr (.tmp 68) (.const (.int .i64 0))) ::
  .op (.mov 70 (.tmp 69)) ::
  .sc 70 true 11 ::
  .g 70 true (.fad 71 1 (.tmp 4)) ::
  .g 70 true (.ld 72 none (.tmp 71)) ::
  .g 70 true (.mov 73 (.tmp 5)) ::
  .g 70 true (.bin 74 .sub (.tmp 73) (.const (.int .i64 1))) ::
  .g 70 true (.iad 75 4 (.tmp 72) (.tmp 74)) ::
  .g 70 true (.fad 76 0 (.tmp 75)) ::
  .g 70 true (.ld 77 (some 2) (.tmp 76)) ::
  .g 70 true (.fad 78 0 (.tmp 6)) ::
  .g 70 true (.ld 79 (some 2) (.tmp 78)) ::
  .g 70 true (.call (some 80) 90 [(.tmp 77), (.tmp 79)]) ::
  .g 70 true (.un 81 .not (.tmp 80)) ::
  .op (.pick 82 (.tmp 70) (.tmp 81) (.const (.bool false))) ::
  .kp [82, 0, 4, 6, 7, 8, 9, 61, 62, 63] ::
  f45r9a
def f45r10 : List I := [.op (.mov 2 (.const (.bool false))),
  .kp [2]]
def f45r11 : List I := [.op (.bin 92 .add (.tmp 63) (.const (.int .i64 1))),
  .op (.mov 63 (.tmp 92)),
  .kp [0, 4, 7, 8, 9, 61, 62, 63]]
def f45r12 : List I := [.op (.bin 93 .add (.tmp 9) (.const (.int .i64 1))),
  .op (.mov 9 (.tmp 93)),
  .kp [0, 7, 8, 9]]
def f45r13 : List I := [.op (.mov 2 (.const (.bool true))),
  .kp [2]]
def f45c9 : C := (.seq (.reg f45r5) .ret)
def f45c18 : C := (.seq (.reg f45r10) .ret)
def f45c17 : C := (.cond (.tmp 91) f45c18 .skip)
def f45c16 : C := (.seq (.drw f45r9) f45c17)
def f45c15 : C := (.seq (.reg f45r8) f45c16)
def f45c19 : C := (.reg f45r11)
def f45c14 : C := (.seq (.block 3 f45c15) f45c19)
def f45c13 : C := (.seq (.cond (.tmp 64) .skip (.exit 2)) f45c14)
def f45c12 : C := (.seq (.reg f45r7) f45c13)
def f45c11 : C := (.block 2 (.loop f45c12))
def f45c10 : C := (.seq (.reg f45r6) f45c11)
def f45c8 : C := (.seq (.cond (.tmp 59) f45c9 .skip) f45c10)
def f45c7 : C := (.seq (.drw f45r4) f45c8)
def f45c6 : C := (.seq (.reg f45r3) f45c7)
def f45c20 : C := (.reg f45r12)
def f45c5 : C := (.seq (.block 1 f45c6) f45c20)
def f45c4 : C := (.seq (.cond (.tmp 10) .skip (.exit 0)) f45c5)
def f45c3 : C := (.seq (.reg f45r2) f45c4)
def f45c21 : C := (.seq (.reg f45r13) .ret)
def f45c2 : C := (.seq (.block 0 (.loop f45c3)) f45c21)
def f45c1 : C := (.seq (.reg f45r1) f45c2)
def f45c0 : C := (.seq (.reg f45r0) f45c1)
theorem f45cmp : cmpF Try.prog Try.f45 [.l [.o 0, .kp [0]],
  .l [.o 0, .o 1, .o 2, .kp [0, 7, 8, 9]],
  .l [.o 0, .kp [0, 7, 8, 9, 10]],
  .l [.o 0, .o 1, .o 2, .o 3, .o 4, .o 5, .kp [0, 3, 4, 7, 8, 9]],
  .l [.o 0, .o 1, .o 2, .sc 16 true 9, .o 3, .o 4, .o 5, .o 6, .o 7, .o 8, .o 9, .o 10, .o 11, .o 12, .kp [26, 0, 4, 7, 8, 9], .o 13, .sc 27 false 10, .o 14, .o 15, .o 16, .o 17, .sc 31 true 4, .o 18, .o 19, .o 20, .o 21, .o 22, .o 23, .kp [37, 0, 4, 7, 8, 9], .o 24, .sc 38 false 10, .o 25, .o 26, .o 27, .o 28, .sc 42 true 4, .o 29, .o 30, .o 31, .o 32, .o 33, .o 34, .kp [48, 0, 4, 7, 8, 9], .o 35, .sc 49 false 10, .o 36, .o 37, .o 38, .o 39, .sc 53 true 4, .o 40, .o 41, .o 42, .o 43, .o 44, .o 45, .kp [59, 0, 4, 7, 8, 9]],
  .l [.o 0, .kp [2]],
  .l [.o 0, .o 1, .o 2, .o 3, .kp [0, 4, 7, 8, 9, 61, 62, 63]],
  .l [.o 0, .kp [0, 4, 7, 8, 9, 61, 62, 63, 64]],
  .l [.o 0, .o 1, .o 2, .o 3, .o 4, .o 5, .kp [0, 4, 5, 6, 7, 8, 9, 61, 62, 63]],
  .l [.o 0, .o 1, .o 2, .sc 70 true 11, .o 3, .o 4, .o 5, .o 6, .o 7, .o 8, .o 9, .o 10, .o 11, .o 12, .o 13, .o 14, .kp [82, 0, 4, 6, 7, 8, 9, 61, 62, 63], .o 15, .sc 83 false 8, .o 16, .o 17, .o 18, .sc 86 true 3, .o 19, .o 20, .o 21, .o 22, .o 23, .kp [91, 0, 4, 7, 8, 9, 61, 62, 63]],
  .l [.o 0, .kp [2]],
  .l [.o 0, .o 1, .kp [0, 4, 7, 8, 9, 61, 62, 63]],
  .l [.o 0, .o 1, .kp [0, 7, 8, 9]],
  .l [.o 0, .kp [2]]] = some (f45c0, [.tmp 2]) := by kernel_rfl
theorem f45ok {args : List Value} {h : Heap} {R : Value → Heap → Prop} (hn : args.length ≤ 94) (H : wC Try.prog f45c0 (endW [.tmp 2] R) (envOf 0 args) h) : CallsH Try.prog 45 args h R :=
  fn_ok2 Try.func45 f45cmp hn H
theorem f45cal : callable Try.prog 45 = true := by kernel_rfl
section
variable {Q : X → Env → Heap → Prop} {σ : Env} {h : Heap}
theorem f45c9_eq : wC Try.prog f45c9 Q σ h = (wL Try.prog none f45r5 0 (fun σ h => Q .ret σ h) σ h) := rfl
theorem f45c18_eq : wC Try.prog f45c18 Q σ h = (wL Try.prog none f45r10 0 (fun σ h => Q .ret σ h) σ h) := rfl
theorem f45c17_eq : wC Try.prog f45c17 Q σ h = (bd (evO σ (.tmp 91)) fun v => bd (asB v) fun t => br t (wC Try.prog f45c18 Q σ h) (Q .normal σ h)) := rfl
theorem f45c16_eq : wC Try.prog f45c16 Q σ h = (drwW Try.prog f45r9 (fun σ h => wC Try.prog f45c17 Q σ h) σ h) := rfl
theorem f45c15_eq : wC Try.prog f45c15 Q σ h = (wL Try.prog none f45r8 0 (fun σ h => wC Try.prog f45c16 Q σ h) σ h) := rfl
theorem f45c19_eq : wC Try.prog f45c19 Q σ h = (wL Try.prog none f45r11 0 (fun σ h => Q .normal σ h) σ h) := rfl
theorem f45c14_eq : wC Try.prog f45c14 Q σ h = (wC Try.prog f45c15 (X.inBlock 3 (X.then (fun σ h => wC Try.prog f45c19 Q σ h) Q)) σ h) := rfl
theorem f45c13_eq : wC Try.prog f45c13 Q σ h = (bd (evO σ (.tmp 64)) fun v => bd (asB v) fun t => br t (wC Try.prog f45c14 Q σ h) (Q (.exit 2) σ h)) := rfl
theorem f45c12_eq : wC Try.prog f45c12 Q σ h = (wL Try.prog none f45r7 0 (fun σ h => wC Try.prog f45c13 Q σ h) σ h) := rfl
theorem f45c11_eq : wC Try.prog f45c11 Q σ h = (loopW (wC Try.prog f45c12) (X.inBlock 2 Q) σ h) := rfl
theorem f45c10_eq : wC Try.prog f45c10 Q σ h = (wL Try.prog none f45r6 0 (fun σ h => wC Try.prog f45c11 Q σ h) σ h) := rfl
theorem f45c8_eq : wC Try.prog f45c8 Q σ h = (bd (evO σ (.tmp 59)) fun v => bd (asB v) fun t => br t (wC Try.prog f45c9 (X.then (fun σ h => wC Try.prog f45c10 Q σ h) Q) σ h) (wC Try.prog f45c10 Q σ h)) := rfl
theorem f45c7_eq : wC Try.prog f45c7 Q σ h = (drwW Try.prog f45r4 (fun σ h => wC Try.prog f45c8 Q σ h) σ h) := rfl
theorem f45c6_eq : wC Try.prog f45c6 Q σ h = (wL Try.prog none f45r3 0 (fun σ h => wC Try.prog f45c7 Q σ h) σ h) := rfl
theorem f45c20_eq : wC Try.prog f45c20 Q σ h = (wL Try.prog none f45r12 0 (fun σ h => Q .normal σ h) σ h) := rfl
theorem f45c5_eq : wC Try.prog f45c5 Q σ h = (wC Try.prog f45c6 (X.inBlock 1 (X.then (fun σ h => wC Try.prog f45c20 Q σ h) Q)) σ h) := rfl
theorem f45c4_eq : wC Try.prog f45c4 Q σ h = (bd (evO σ (.tmp 10)) fun v => bd (asB v) fun t => br t (wC Try.prog f45c5 Q σ h) (Q (.exit 0) σ h)) := rfl
theorem f45c3_eq : wC Try.prog f45c3 Q σ h = (wL Try.prog none f45r2 0 (fun σ h => wC Try.prog f45c4 Q σ h) σ h) := rfl
theorem f45c21_eq : wC Try.prog f45c21 Q σ h = (wL Try.prog none f45r13 0 (fun σ h => Q .ret σ h) σ h) := rfl
theorem f45c2_eq : wC Try.prog f45c2 Q σ h = (loopW (wC Try.prog f45c3) (X.inBlock 0 (X.then (fun σ h => wC Try.prog f45c21 Q σ h) Q)) σ h) := rfl
theorem f45c1_eq : wC Try.prog f45c1 Q σ h = (wL Try.prog none f45r1 0 (fun σ h => wC Try.prog f45c2 Q σ h) σ h) := rfl
theorem f45c0_eq : wC Try.prog f45c0 Q σ h = (wL Try.prog none f45r0 0 (fun σ h => wC Try.prog f45c1 Q σ h) σ h) := rfl
end
/-! ### f35: antipode/antipodelaw8.begun -/
def f35r0 : List I := [.op (.mov 0 (.const (.bool false))),
  .kp []]
def f35r1 : List I := [.op (.bld 8 [.int .i64 0, .int .i64 0, .int .i64 0, .int .i64 0] [(0, 1, (.const (.int .i64 1)))]),
  .op (.bld 9 [.int .i64 0, .int .i64 0] [(0, 1, (.const (.int .i64 5)))]),
  .op (.bld 10 [.int .i64 0, .int .i64 0, .int .i64 0, .int .i64 0, .int .i64 0, .int .i64 0, .int .i64 0, .bool false, .string ⟨#[]⟩] [(0, 4, (.tmp 8)), (5, 2, (.tmp 9))]),
  .op (.new 1 72 [.int .i64 0, .int .i64 0, .int .i64 0, .int .i64 0, .int .i64 0, .int .i64 0, .int .i64 0, .bool false, .string ⟨#[]⟩]),
  .op (.st 9 (.tmp 1) (.tmp 10)),
  .kp [1]]
def f35r2 : List I := [.op (.bld 11 [.string ⟨#[]⟩, .bool false, .string ⟨#[]⟩] [(0, 1, (.const (.string ⟨#[107]⟩))), (2, 1, (.const (.string ⟨#[120]⟩)))]),
  .op (.ld 12 (some 9) (.tmp 1)),
  .op (.call (some 13) 40 [(.const (.slice none 0 0)), (.tmp 11), (.tmp 12)]),
  .op (.mov 2 (.tmp 13)),
  .kp [1, 2]]
def f35r3 : List I := [.op (.mov 15 (.tmp 2)),
  .op (.bld 16 [.int .i64 0, .int .i64 0] [(0, 1, (.const (.int .i64 9)))]),
  .op (.call (some 17) 41 [(.tmp 15), (.const (.string ⟨#[107]⟩)), (.tmp 16)]),
  .op (.mov 14 (.tmp 17)),
  .op (.ext 18 (.tmp 14) 0),
  .op (.ext 19 (.tmp 14) 1),
  .op (.mov 3 (.tmp 18)),
  .op (.mov 4 (.tmp 19)),
  .kp [1, 2, 4]]
def f35r4 : List I := [.op (.mov 20 (.tmp 2)),
  .op (.fad 21 0 (.tmp 1)),
  .op (.ld 22 (some 4) (.tmp 21)),
  .op (.call (some 23) 39 [(.tmp 20), (.tmp 22), (.const (.bool true))]),
  .op (.mov 5 (.tmp 23)),
  .kp [1, 2, 4, 5]]
def f35r5 : List I := [.op (.mov 25 (.tmp 5)),
  .op (.bld 26 [.int .i64 0, .int .i64 0] [(0, 1, (.const (.int .i64 5)))]),
  .op (.call (some 27) 41 [(.tmp 25), (.const (.string ⟨#[107]⟩)), (.tmp 26)]),
  .op (.mov 24 (.tmp 27)),
  .op (.ext 28 (.tmp 24) 0),
  .op (.ext 29 (.tmp 24) 1),
  .op (.mov 6 (.tmp 28)),
  .op (.mov 7 (.tmp 29)),
  .kp [1, 2, 4, 5, 6, 7]]
def f35r6e : List I := [.op (.mov 0 (.tmp 55)),
  .kp [0]]
def f35r6d : List I := .op (.mov 52 (.tmp 51)) ::
  .sc 52 true 2 ::
  .g 52 true (.mov 53 (.tmp 5)) ::
  .g 52 true (.call (some 54) 45 [(.tmp 53)]) ::
  .op (.pick 55 (.tmp 52) (.tmp 54) (.const (.bool false))) ::
  .kp [55] ::
  f35r6e
def f35r6c : List I := .op (.mov 45 (.tmp 44)) ::
  .sc 45 true 5 ::
  .g 45 true (.mov 46 (.tmp 5)) ::
  .g 45 true (.fad 47 0 (.tmp 1)) ::
  .g 45 true (.ld 48 (some 4) (.tmp 47)) ::
  .g 45 true (.call (some 49) 38 [(.tmp 46), (.tmp 48)]) ::
  .g 45 true (.un 50 .not (.tmp 49)) ::
  .op (.pick 51 (.tmp 45) (.tmp 50) (.const (.bool false))) ::
  .kp [51, 5] ::
  f35r6d
def f35r6b : List I := .op (.mov 39 (.tmp 38)) ::
  .sc 39 true 4 ::
  .g 39 true (.mov 40 (.tmp 2)) ::
  .g 39 true (.fad 41 0 (.tmp 1)) ::
  .g 39 true (.ld 42 (some 4) (.tmp 41)) ::
  .g 39 true (.call (some 43) 38 [(.tmp 40), (.tmp 42)]) ::
  .op (.pick 44 (.tmp 39) (.tmp 43) (.const (.bool false))) ::
  .kp [44, 1, 5] ::
  f35r6c
def f35r6a : List I := .op (.mov 35 (.tmp 34)) ::
  .sc 35 true 2 ::
  .g 35 true (.mov 36 (.tmp 6)) ::
  .g 35 true (.bin 37 .eql (.tmp 36) (.const (.string ⟨#[120]⟩))) ::
  .op (.pick 38 (.tmp 35) (.tmp 37) (.const (.bool false))) ::
  .kp [38, 1, 2, 5] ::
  f35r6b
def f35r6 : List I := .op (.mov 30 (.tmp 4)) ::
  .op (.un 31 .not (.tmp 30)) ::
  .op (.mov 32 (.tmp 31)) ::
  .sc 32 true 1 ::
  .g 32 true (.mov 33 (.tmp 7)) ::
  .op (.pick 34 (.tmp 32) (.tmp 33) (.const (.bool false))) ::
  .kp [34, 1, 2, 5, 6] ::
  f35r6a
def f35c6 : C := (.seq (.reg f35r6) .ret)
def f35c5 : C := (.seq (.reg f35r5) f35c6)
def f35c4 : C := (.seq (.reg f35r4) f35c5)
def f35c3 : C := (.seq (.reg f35r3) f35c4)
def f35c2 : C := (.seq (.reg f35r2) f35c3)
def f35c1 : C := (.seq (.reg f35r1) f35c2)
def f35c0 : C := (.seq (.reg f35r0) f35c1)
theorem f35cmp : cmpF Try.prog Try.f35 [.l [.o 0, .kp []],
  .l [.o 0, .o 1, .o 2, .o 3, .o 4, .kp [1]],
  .l [.o 0, .o 1, .o 2, .o 3, .kp [1, 2]],
  .l [.o 0, .o 1, .o 2, .o 3, .o 4, .o 5, .o 6, .o 7, .kp [1, 2, 4]],
  .l [.o 0, .o 1, .o 2, .o 3, .o 4, .kp [1, 2, 4, 5]],
  .l [.o 0, .o 1, .o 2, .o 3, .o 4, .o 5, .o 6, .o 7, .kp [1, 2, 4, 5, 6, 7]],
  .l [.o 0, .o 1, .o 2, .sc 32 true 1, .o 3, .o 4, .kp [34, 1, 2, 5, 6], .o 5, .sc 35 true 2, .o 6, .o 7, .o 8, .kp [38, 1, 2, 5], .o 9, .sc 39 true 4, .o 10, .o 11, .o 12, .o 13, .o 14, .kp [44, 1, 5], .o 15, .sc 45 true 5, .o 16, .o 17, .o 18, .o 19, .o 20, .o 21, .kp [51, 5], .o 22, .sc 52 true 2, .o 23, .o 24, .o 25, .kp [55], .o 26, .kp [0]]] = some (f35c0, [.tmp 0]) := by kernel_rfl
theorem f35ok {args : List Value} {h : Heap} {R : Value → Heap → Prop} (hn : args.length ≤ 56) (H : wC Try.prog f35c0 (endW [.tmp 0] R) (envOf 0 args) h) : CallsH Try.prog 35 args h R :=
  fn_ok2 Try.func35 f35cmp hn H
theorem f35cal : callable Try.prog 35 = true := by kernel_rfl
section
variable {Q : X → Env → Heap → Prop} {σ : Env} {h : Heap}
theorem f35c6_eq : wC Try.prog f35c6 Q σ h = (wL Try.prog none f35r6 0 (fun σ h => Q .ret σ h) σ h) := rfl
theorem f35c5_eq : wC Try.prog f35c5 Q σ h = (wL Try.prog none f35r5 0 (fun σ h => wC Try.prog f35c6 Q σ h) σ h) := rfl
theorem f35c4_eq : wC Try.prog f35c4 Q σ h = (wL Try.prog none f35r4 0 (fun σ h => wC Try.prog f35c5 Q σ h) σ h) := rfl
theorem f35c3_eq : wC Try.prog f35c3 Q σ h = (wL Try.prog none f35r3 0 (fun σ h => wC Try.prog f35c4 Q σ h) σ h) := rfl
theorem f35c2_eq : wC Try.prog f35c2 Q σ h = (wL Try.prog none f35r2 0 (fun σ h => wC Try.prog f35c3 Q σ h) σ h) := rfl
theorem f35c1_eq : wC Try.prog f35c1 Q σ h = (wL Try.prog none f35r1 0 (fun σ h => wC Try.prog f35c2 Q σ h) σ h) := rfl
theorem f35c0_eq : wC Try.prog f35c0 Q σ h = (wL Try.prog none f35r0 0 (fun σ h => wC Try.prog f35c1 Q σ h) σ h) := rfl
end
/-! ### f36: antipode/antipodelaw8.light -/
def f36r0 : List I := [.op (.mov 4 (.const (.bool false))),
  .kp [0, 1]]
def f36r1 : List I := [.op (.mov 6 (.tmp 0)),
  .op (.len 7 true (.tmp 6)),
  .op (.mov 8 (.tmp 1)),
  .op (.bin 9 .gtr (.tmp 7) (.tmp 8)),
  .kp [0, 9]]
def f36r2 : List I := [.op (.mov 4 (.const (.bool false))),
  .kp [4]]
def f36r3 : List I := [.op (.mov 5 (.const (.int .i64 0))),
  .kp [0, 5]]
def f36r4 : List I := [.op (.mov 10 (.tmp 5)),
  .op (.mov 11 (.tmp 0)),
  .op (.len 12 true (.tmp 11)),
  .op (.bin 13 .lss (.tmp 10) (.tmp 12)),
  .kp [0, 5, 13]]
def f36r5 : List I := [.op (.mov 16 (.tmp 0)),
  .op (.mov 17 (.tmp 5)),
  .op (.iad 18 14 (.tmp 16) (.tmp 17)),
  .op (.fad 19 1 (.tmp 18)),
  .op (.fad 20 0 (.tmp 19)),
  .op (.ld 21 none (.tmp 20)),
  .op (.len 22 false (.tmp 21)),
  .op (.bin 23 .gtr (.tmp 22) (.const (.int .i64 50))),
  .op (.mov 24 (.tmp 23)),
  .sc 24 false 8,
  .g 24 false (.mov 25 (.tmp 0)),
  .g 24 false (.mov 26 (.tmp 5)),
  .g 24 false (.iad 27 14 (.tmp 25) (.tmp 26)),
  .g 24 false (.fad 28 1 (.tmp 27)),
  .g 24 false (.fad 29 2 (.tmp 28)),
  .g 24 false (.ld 30 none (.tmp 29)),
  .g 24 false (.len 31 false (.tmp 30)),
  .g 24 false (.bin 32 .gtr (.tmp 31) (.const (.int .i64 200))),
  .op (.pick 33 (.tmp 24) (.const (.bool true)) (.tmp 32)),
  .kp [33, 0, 5]]
def f36r6 : List I := [.op (.mov 4 (.const (.bool false))),
  .kp [4]]
def f36r7 : List I := [.op (.mov 14 (.tmp 5)),
  .op (.bin 15 .add (.tmp 14) (.const (.int .i64 1))),
  .op (.mov 5 (.tmp 15)),
  .kp [0, 5]]
def f36r8 : List I := [.op (.mov 4 (.const (.bool true))),
  .kp [4]]
def f36c3 : C := (.seq (.reg f36r2) .ret)
def f36c11 : C := (.seq (.reg f36r6) .ret)
def f36c10 : C := (.cond (.tmp 33) f36c11 .skip)
def f36c9 : C := (.seq (.reg f36r5) f36c10)
def f36c12 : C := (.reg f36r7)
def f36c8 : C := (.seq (.block 1 f36c9) f36c12)
def f36c7 : C := (.seq (.cond (.tmp 13) .skip (.exit 0)) f36c8)
def f36c6 : C := (.seq (.reg f36r4) f36c7)
def f36c13 : C := (.seq (.reg f36r8) .ret)
def f36c5 : C := (.seq (.block 0 (.loop f36c6)) f36c13)
def f36c4 : C := (.seq (.reg f36r3) f36c5)
def f36c2 : C := (.seq (.cond (.tmp 9) f36c3 .skip) f36c4)
def f36c1 : C := (.seq (.reg f36r1) f36c2)
def f36c0 : C := (.seq (.reg f36r0) f36c1)
theorem f36cmp : cmpF Try.prog Try.f36 [.l [.o 0, .kp [0, 1]],
  .l [.o 0, .o 1, .o 2, .o 3, .kp [0, 9]],
  .l [.o 0, .kp [4]],
  .l [.o 0, .kp [0, 5]],
  .l [.o 0, .o 1, .o 2, .o 3, .kp [0, 5, 13]],
  .l [.o 0, .o 1, .o 2, .o 3, .o 4, .o 5, .o 6, .o 7, .o 8, .sc 24 false 8, .o 9, .o 10, .o 11, .o 12, .o 13, .o 14, .o 15, .o 16, .o 17, .kp [33, 0, 5]],
  .l [.o 0, .kp [4]],
  .l [.o 0, .o 1, .o 2, .kp [0, 5]],
  .l [.o 0, .kp [4]]] = some (f36c0, [.tmp 4]) := by kernel_rfl
theorem f36ok {args : List Value} {h : Heap} {R : Value → Heap → Prop} (hn : args.length ≤ 34) (H : wC Try.prog f36c0 (endW [.tmp 4] R) (envOf 0 args) h) : CallsH Try.prog 36 args h R :=
  fn_ok2 Try.func36 f36cmp hn H
theorem f36cal : callable Try.prog 36 = true := by kernel_rfl
section
variable {Q : X → Env → Heap → Prop} {σ : Env} {h : Heap}
theorem f36c3_eq : wC Try.prog f36c3 Q σ h = (wL Try.prog none f36r2 0 (fun σ h => Q .ret σ h) σ h) := rfl
theorem f36c11_eq : wC Try.prog f36c11 Q σ h = (wL Try.prog none f36r6 0 (fun σ h => Q .ret σ h) σ h) := rfl
theorem f36c10_eq : wC Try.prog f36c10 Q σ h = (bd (evO σ (.tmp 33)) fun v => bd (asB v) fun t => br t (wC Try.prog f36c11 Q σ h) (Q .normal σ h)) := rfl
theorem f36c9_eq : wC Try.prog f36c9 Q σ h = (wL Try.prog none f36r5 0 (fun σ h => wC Try.prog f36c10 Q σ h) σ h) := rfl
theorem f36c12_eq : wC Try.prog f36c12 Q σ h = (wL Try.prog none f36r7 0 (fun σ h => Q .normal σ h) σ h) := rfl
theorem f36c8_eq : wC Try.prog f36c8 Q σ h = (wC Try.prog f36c9 (X.inBlock 1 (X.then (fun σ h => wC Try.prog f36c12 Q σ h) Q)) σ h) := rfl
theorem f36c7_eq : wC Try.prog f36c7 Q σ h = (bd (evO σ (.tmp 13)) fun v => bd (asB v) fun t => br t (wC Try.prog f36c8 Q σ h) (Q (.exit 0) σ h)) := rfl
theorem f36c6_eq : wC Try.prog f36c6 Q σ h = (wL Try.prog none f36r4 0 (fun σ h => wC Try.prog f36c7 Q σ h) σ h) := rfl
theorem f36c13_eq : wC Try.prog f36c13 Q σ h = (wL Try.prog none f36r8 0 (fun σ h => Q .ret σ h) σ h) := rfl
theorem f36c5_eq : wC Try.prog f36c5 Q σ h = (loopW (wC Try.prog f36c6) (X.inBlock 0 (X.then (fun σ h => wC Try.prog f36c13 Q σ h) Q)) σ h) := rfl
theorem f36c4_eq : wC Try.prog f36c4 Q σ h = (wL Try.prog none f36r3 0 (fun σ h => wC Try.prog f36c5 Q σ h) σ h) := rfl
theorem f36c2_eq : wC Try.prog f36c2 Q σ h = (bd (evO σ (.tmp 9)) fun v => bd (asB v) fun t => br t (wC Try.prog f36c3 (X.then (fun σ h => wC Try.prog f36c4 Q σ h) Q) σ h) (wC Try.prog f36c4 Q σ h)) := rfl
theorem f36c1_eq : wC Try.prog f36c1 Q σ h = (wL Try.prog none f36r1 0 (fun σ h => wC Try.prog f36c2 Q σ h) σ h) := rfl
theorem f36c0_eq : wC Try.prog f36c0 Q σ h = (wL Try.prog none f36r0 0 (fun σ h => wC Try.prog f36c1 Q σ h) σ h) := rfl
end
/-! ### f37: antipode/antipodelaw8.do -/
def f37r0 : List I := [.op (.box 3 78 (.tmp 1)),
  .op (.mov 4 (.const (.slice none 0 0))),
  .op (.mov 5 (.const (.slice none 0 0))),
  .kp [0, 3]]
def f37r1 : List I := [.op (.fad 6 0 (.tmp 3)),
  .op (.ld 7 none (.tmp 6)),
  .op (.call (some 8) 78 [(.tmp 7)]),
  .kp [0, 3, 8]]
def f37r2 : List I := [.op (.bin 10 .eql (.tmp 8) (.const (.int .i64 0))),
  .op (.mov 9 (.tmp 10)),
  .kp [0, 3, 8, 9]]
def f37r3 : List I := [.op (.mov 11 (.tmp 0)),
  .op (.fad 12 1 (.tmp 3)),
  .op (.ld 13 (some 3) (.tmp 12)),
  .op (.fad 14 4 (.tmp 3)),
  .op (.ld 15 (some 9) (.tmp 14)),
  .op (.mov 17 (.tmp 0)),
  .op (.fad 18 1 (.tmp 3)),
  .op (.ld 19 (some 3) (.tmp 18)),
  .op (.fad 20 4 (.tmp 3)),
  .op (.ld 21 (some 9) (.tmp 20)),
  .kp [11, 13, 15, 17, 19, 21],
  .op (.call (some 16) 40 [(.tmp 11), (.tmp 13), (.tmp 15)]),
  .op (.call (some 22) 79 [(.tmp 17), (.tmp 19), (.tmp 21)]),
  .op (.mov 4 (.tmp 16)),
  .op (.mov 5 (.tmp 22)),
  .kp [4, 5]]
def f37r4 : List I := [.op (.bin 24 .eql (.tmp 8) (.const (.int .i64 1))),
  .op (.mov 23 (.tmp 24)),
  .kp [0, 3, 23]]
def f37r5 : List I := [.op (.mov 25 (.tmp 0)),
  .op (.fad 26 4 (.tmp 3)),
  .op (.fad 27 0 (.tmp 26)),
  .op (.ld 28 (some 4) (.tmp 27)),
  .op (.fad 29 13 (.tmp 3)),
  .op (.ld 30 none (.tmp 29)),
  .op (.mov 32 (.tmp 0)),
  .op (.fad 33 4 (.tmp 3)),
  .op (.fad 34 0 (.tmp 33)),
  .op (.ld 35 (some 4) (.tmp 34)),
  .kp [3, 25, 28, 30, 32, 35],
  .op (.fad 36 13 (.tmp 3)),
  .op (.ld 37 none (.tmp 36)),
  .op (.call (some 31) 39 [(.tmp 25), (.tmp 28), (.tmp 30)]),
  .op (.call (some 38) 80 [(.tmp 32), (.tmp 35), (.tmp 37)]),
  .op (.mov 4 (.tmp 31)),
  .op (.mov 5 (.tmp 38)),
  .kp [4, 5]]
def f37r6 : List I := [.op (.mov 39 (.tmp 0)),
  .op (.fad 40 4 (.tmp 3)),
  .op (.fad 41 5 (.tmp 40)),
  .op (.ld 42 (some 2) (.tmp 41)),
  .op (.mov 44 (.tmp 0)),
  .op (.fad 45 4 (.tmp 3)),
  .op (.fad 46 5 (.tmp 45)),
  .op (.ld 47 (some 2) (.tmp 46)),
  .op (.call (some 43) 46 [(.tmp 39), (.tmp 42)]),
  .op (.call (some 48) 81 [(.tmp 44), (.tmp 47)]),
  .kp [43, 48],
  .op (.mov 4 (.tmp 43)),
  .op (.mov 5 (.tmp 48)),
  .kp [4, 5]]
def f37c5 : C := (.seq (.drw f37r3) .ret)
def f37c8 : C := (.seq (.drw f37r5) .ret)
def f37c7 : C := (.cond (.tmp 23) f37c8 .skip)
def f37c6 : C := (.seq (.reg f37r4) f37c7)
def f37c4 : C := (.cond (.tmp 9) f37c5 f37c6)
def f37c3 : C := (.seq (.reg f37r2) f37c4)
def f37c9 : C := (.seq (.drw f37r6) .ret)
def f37c2 : C := (.seq (.block 0 f37c3) f37c9)
def f37c1 : C := (.seq (.reg f37r1) f37c2)
def f37c0 : C := (.seq (.reg f37r0) f37c1)
theorem f37cmp : cmpF Try.prog Try.f37 [.l [.o 0, .o 1, .o 2, .kp [0, 3]],
  .l [.o 0, .o 1, .o 2, .kp [0, 3, 8]],
  .l [.o 0, .o 1, .kp [0, 3, 8, 9]],
  .l [.o 0, .o 1, .o 2, .o 3, .o 4, .o 6, .o 7, .o 8, .o 9, .o 10, .kp [11, 13, 15, 17, 19, 21], .o 5, .o 11, .o 12, .o 13, .kp [4, 5]],
  .l [.o 0, .o 1, .kp [0, 3, 23]],
  .l [.o 0, .o 1, .o 2, .o 3, .o 4, .o 5, .o 7, .o 8, .o 9, .o 10, .kp [3, 25, 28, 30, 32, 35], .o 11, .o 12, .o 6, .o 13, .o 14, .o 15, .kp [4, 5]],
  .l [.o 0, .o 1, .o 2, .o 3, .o 5, .o 6, .o 7, .o 8, .o 4, .o 9, .kp [43, 48], .o 10, .o 11, .kp [4, 5]]] = some (f37c0, [.tmp 4, .tmp 5]) := by kernel_rfl
theorem f37ok {args : List Value} {h : Heap} {R : Value → Heap → Prop} (hn : args.length ≤ 49) (H : wC Try.prog f37c0 (endW [.tmp 4, .tmp 5] R) (envOf 0 args) h) : CallsH Try.prog 37 args h R :=
  fn_ok2 Try.func37 f37cmp hn H
theorem f37cal : callable Try.prog 37 = true := by kernel_rfl
section
variable {Q : X → Env → Heap → Prop} {σ : Env} {h : Heap}
theorem f37c5_eq : wC Try.prog f37c5 Q σ h = (drwW Try.prog f37r3 (fun σ h => Q .ret σ h) σ h) := rfl
theorem f37c8_eq : wC Try.prog f37c8 Q σ h = (drwW Try.prog f37r5 (fun σ h => Q .ret σ h) σ h) := rfl
theorem f37c7_eq : wC Try.prog f37c7 Q σ h = (bd (evO σ (.tmp 23)) fun v => bd (asB v) fun t => br t (wC Try.prog f37c8 Q σ h) (Q .normal σ h)) := rfl
theorem f37c6_eq : wC Try.prog f37c6 Q σ h = (wL Try.prog none f37r4 0 (fun σ h => wC Try.prog f37c7 Q σ h) σ h) := rfl
theorem f37c4_eq : wC Try.prog f37c4 Q σ h = (bd (evO σ (.tmp 9)) fun v => bd (asB v) fun t => br t (wC Try.prog f37c5 Q σ h) (wC Try.prog f37c6 Q σ h)) := rfl
theorem f37c3_eq : wC Try.prog f37c3 Q σ h = (wL Try.prog none f37r2 0 (fun σ h => wC Try.prog f37c4 Q σ h) σ h) := rfl
theorem f37c9_eq : wC Try.prog f37c9 Q σ h = (drwW Try.prog f37r6 (fun σ h => Q .ret σ h) σ h) := rfl
theorem f37c2_eq : wC Try.prog f37c2 Q σ h = (wC Try.prog f37c3 (X.inBlock 0 (X.then (fun σ h => wC Try.prog f37c9 Q σ h) Q)) σ h) := rfl
theorem f37c1_eq : wC Try.prog f37c1 Q σ h = (wL Try.prog none f37r1 0 (fun σ h => wC Try.prog f37c2 Q σ h) σ h) := rfl
theorem f37c0_eq : wC Try.prog f37c0 Q σ h = (wL Try.prog none f37r0 0 (fun σ h => wC Try.prog f37c1 Q σ h) σ h) := rfl
end
/-! ### f78: antipode/antipodelaw8.number -/
def f78r0 : List I := [.op (.mov 2 (.const (.int .i64 0))),
  .kp [0]]
def f78r1 : List I := [.op (.mov 3 (.tmp 0)),
  .op (.raw (some 4) ⟨(some 4), (.binOp .rem 3 (.tmp 3) (.const (.int .i64 3)) 3), 3, "law.go:60", #[⟨0, .data⟩], none⟩),
  .op (.bin 5 .add (.tmp 4) (.const (.int .i64 3))),
  .op (.raw (some 6) ⟨(some 6), (.binOp .rem 3 (.tmp 5) (.const (.int .i64 3)) 3), 3, "law.go:60", #[⟨2, .data⟩], none⟩),
  .op (.mov 2 (.tmp 6)),
  .kp [2]]
def f78c1 : C := (.seq (.reg f78r1) .ret)
def f78c0 : C := (.seq (.reg f78r0) f78c1)
theorem f78cmp : cmpF Try.prog Try.f78 [.l [.o 0, .kp [0]],
  .l [.o 0, .o 1, .o 2, .o 3, .o 4, .kp [2]]] = some (f78c0, [.tmp 2]) := by kernel_rfl
theorem f78ok {args : List Value} {h : Heap} {R : Value → Heap → Prop} (hn : args.length ≤ 7) (H : wC Try.prog f78c0 (endW [.tmp 2] R) (envOf 0 args) h) : CallsH Try.prog 78 args h R :=
  fn_ok2 Try.func78 f78cmp hn H
theorem f78cal : callable Try.prog 78 = true := by kernel_rfl
section
variable {Q : X → Env → Heap → Prop} {σ : Env} {h : Heap}
theorem f78c1_eq : wC Try.prog f78c1 Q σ h = (wL Try.prog none f78r1 0 (fun σ h => Q .ret σ h) σ h) := rfl
theorem f78c0_eq : wC Try.prog f78c0 Q σ h = (wL Try.prog none f78r0 0 (fun σ h => wC Try.prog f78c1 Q σ h) σ h) := rfl
end
end Go.Proofs.Ytefghfgmkndikaa
