/-
  By a program of mine (wip/tools/gen.py): the code of functions of the seat in the small instruction language, and that it is their code.
-/
import Derived.Test.YtefghfgmkndikaaFM
import Derived.Test.YtefghfgmkndikaaProg
set_option linter.unusedSimpArgs false
set_option linter.unusedVariables false
namespace Go.Proofs.Ytefghfgmkndikaa
open Go.AX
set_option maxRecDepth 100000
/-! ### f40: antipode/mvcc.Lock -/
def f40r0 : List I := [.op (.box 4 70 (.tmp 1)),
  .op (.box 5 72 (.tmp 2)),
  .op (.mov 6 (.const (.slice none 0 0))),
  .kp [0, 4, 5]]
def f40r1 : List I := [.op (.fad 10 1 (.tmp 4)),
  .op (.ld 11 none (.tmp 10)),
  .op (.fad 12 2 (.tmp 4)),
  .op (.ld 13 none (.tmp 12)),
  .op (.fad 14 7 (.tmp 5)),
  .op (.st 1 (.tmp 14) (.tmp 11)),
  .op (.fad 15 8 (.tmp 5)),
  .op (.st 1 (.tmp 15) (.tmp 13)),
  .kp [0, 4, 5]]
def f40r2 : List I := [.op (.fad 16 1 (.tmp 4)),
  .op (.ld 17 none (.tmp 16)),
  .kp [0, 4, 5, 17]]
def f40r3 : List I := [.op (.fad 18 8 (.tmp 5)),
  .op (.st 1 (.tmp 18) (.const (.string ⟨#[]⟩))),
  .kp [0, 4, 5]]
def f40r4 : List I := [.op (.mov 19 (.tmp 0)),
  .op (.call (some 20) 86 [(.tmp 19)]),
  .op (.mov 7 (.tmp 20)),
  .kp [4, 5, 7]]
def f40r5 : List I := [.op (.mov 22 (.tmp 7)),
  .op (.fad 23 0 (.tmp 4)),
  .op (.ld 24 none (.tmp 23)),
  .op (.call (some 25) 87 [(.tmp 22), (.tmp 24)]),
  .op (.mov 21 (.tmp 25)),
  .op (.ext 26 (.tmp 21) 0),
  .op (.ext 27 (.tmp 21) 1),
  .op (.mov 8 (.tmp 26)),
  .op (.mov 9 (.tmp 27)),
  .kp [4, 5, 7, 8, 9]]
def f40r6 : List I := [.op (.mov 28 (.tmp 9)),
  .op (.un 29 .not (.tmp 28)),
  .kp [4, 5, 7, 8, 29]]
def f40r7 : List I := [.op (.mov 30 (.tmp 7)),
  .op (.mov 31 (.tmp 8)),
  .op (.fad 32 0 (.tmp 4)),
  .op (.ld 33 none (.tmp 32)),
  .op (.bld 34 [.string ⟨#[]⟩, .slice none 0 0, .bool false, .int .i64 0, .int .i64 0, .int .i64 0, .int .i64 0, .int .i64 0, .int .i64 0, .int .i64 0, .bool false, .string ⟨#[]⟩] [(0, 1, (.tmp 33))]),
  .op (.bsl 35 103 1 [.string ⟨#[]⟩, .slice none 0 0, .bool false, .int .i64 0, .int .i64 0, .int .i64 0, .int .i64 0, .int .i64 0, .int .i64 0, .int .i64 0, .bool false, .string ⟨#[]⟩] [(0, 12, (.tmp 34))]),
  .op (.call (some 36) 88 [(.tmp 30), (.tmp 31), (.tmp 35)]),
  .op (.mov 7 (.tmp 36)),
  .kp [5, 7, 8]]
def f40r8 : List I := [.op (.mov 37 (.tmp 7)),
  .op (.mov 38 (.tmp 8)),
  .op (.mov 39 (.tmp 7)),
  .op (.mov 40 (.tmp 8)),
  .op (.ld 41 (some 9) (.tmp 5)),
  .op (.iad 42 12 (.tmp 37) (.tmp 38)),
  .op (.fad 43 2 (.tmp 42)),
  .op (.st 1 (.tmp 43) (.const (.bool true))),
  .op (.iad 44 12 (.tmp 39) (.tmp 40)),
  .op (.fad 45 3 (.tmp 44)),
  .kp [7, 41, 45],
  .op (.st 9 (.tmp 45) (.tmp 41)),
  .kp [7]]
def f40r9 : List I := [.op (.mov 46 (.tmp 7)),
  .op (.mov 6 (.tmp 46)),
  .kp [6]]
def f40c4 : C := (.reg f40r3)
def f40c9 : C := (.reg f40r7)
def f40c11 : C := (.seq (.reg f40r9) .ret)
def f40c10 : C := (.seq (.drw f40r8) f40c11)
def f40c8 : C := (.seq (.cond (.tmp 29) f40c9 .skip) f40c10)
def f40c7 : C := (.seq (.reg f40r6) f40c8)
def f40c6 : C := (.seq (.reg f40r5) f40c7)
def f40c5 : C := (.seq (.reg f40r4) f40c6)
def f40c3 : C := (.seq (.cond (.tmp 17) f40c4 .skip) f40c5)
def f40c2 : C := (.seq (.reg f40r2) f40c3)
def f40c1 : C := (.seq (.drw f40r1) f40c2)
def f40c0 : C := (.seq (.reg f40r0) f40c1)
theorem f40cmp : cmpF Try.prog Try.f40 [.l [.o 0, .o 1, .o 2, .kp [0, 4, 5]],
  .l [.o 0, .o 1, .o 2, .o 3, .o 4, .o 5, .o 6, .o 7, .kp [0, 4, 5]],
  .l [.o 0, .o 1, .kp [0, 4, 5, 17]],
  .l [.o 0, .o 1, .kp [0, 4, 5]],
  .l [.o 0, .o 1, .o 2, .kp [4, 5, 7]],
  .l [.o 0, .o 1, .o 2, .o 3, .o 4, .o 5, .o 6, .o 7, .o 8, .kp [4, 5, 7, 8, 9]],
  .l [.o 0, .o 1, .kp [4, 5, 7, 8, 29]],
  .l [.o 0, .o 1, .o 2, .o 3, .o 4, .o 5, .o 6, .o 7, .kp [5, 7, 8]],
  .l [.o 0, .o 1, .o 2, .o 3, .o 4, .o 5, .o 6, .o 7, .o 8, .o 9, .kp [7, 41, 45], .o 10, .kp [7]],
  .l [.o 0, .o 1, .kp [6]]] = some (f40c0, [.tmp 6]) := by kernel_rfl
theorem f40ok {args : List Value} {h : Heap} {R : Value → Heap → Prop} (hn : args.length ≤ 47) (H : wC Try.prog f40c0 (endW [.tmp 6] R) (envOf 0 args) h) : CallsH Try.prog 40 args h R :=
  fn_ok2 Try.func40 f40cmp hn H
theorem f40cal : callable Try.prog 40 = true := by kernel_rfl
section
variable {Q : X → Env → Heap → Prop} {σ : Env} {h : Heap}
theorem f40c4_eq : wC Try.prog f40c4 Q σ h = (wL Try.prog none f40r3 0 (fun σ h => Q .normal σ h) σ h) := rfl
theorem f40c9_eq : wC Try.prog f40c9 Q σ h = (wL Try.prog none f40r7 0 (fun σ h => Q .normal σ h) σ h) := rfl
theorem f40c11_eq : wC Try.prog f40c11 Q σ h = (wL Try.prog none f40r9 0 (fun σ h => Q .ret σ h) σ h) := rfl
theorem f40c10_eq : wC Try.prog f40c10 Q σ h = (drwW Try.prog f40r8 (fun σ h => wC Try.prog f40c11 Q σ h) σ h) := rfl
theorem f40c8_eq : wC Try.prog f40c8 Q σ h = (bd (evO σ (.tmp 29)) fun v => bd (asB v) fun t => br t (wC Try.prog f40c9 (X.then (fun σ h => wC Try.prog f40c10 Q σ h) Q) σ h) (wC Try.prog f40c10 Q σ h)) := rfl
theorem f40c7_eq : wC Try.prog f40c7 Q σ h = (wL Try.prog none f40r6 0 (fun σ h => wC Try.prog f40c8 Q σ h) σ h) := rfl
theorem f40c6_eq : wC Try.prog f40c6 Q σ h = (wL Try.prog none f40r5 0 (fun σ h => wC Try.prog f40c7 Q σ h) σ h) := rfl
theorem f40c5_eq : wC Try.prog f40c5 Q σ h = (wL Try.prog none f40r4 0 (fun σ h => wC Try.prog f40c6 Q σ h) σ h) := rfl
theorem f40c3_eq : wC Try.prog f40c3 Q σ h = (bd (evO σ (.tmp 17)) fun v => bd (asB v) fun t => br t (wC Try.prog f40c4 (X.then (fun σ h => wC Try.prog f40c5 Q σ h) Q) σ h) (wC Try.prog f40c5 Q σ h)) := rfl
theorem f40c2_eq : wC Try.prog f40c2 Q σ h = (wL Try.prog none f40r2 0 (fun σ h => wC Try.prog f40c3 Q σ h) σ h) := rfl
theorem f40c1_eq : wC Try.prog f40c1 Q σ h = (drwW Try.prog f40r1 (fun σ h => wC Try.prog f40c2 Q σ h) σ h) := rfl
theorem f40c0_eq : wC Try.prog f40c0 Q σ h = (wL Try.prog none f40r0 0 (fun σ h => wC Try.prog f40c1 Q σ h) σ h) := rfl
end
/-! ### f79: antipode/antipoderef8.Lock -/
def f79r0 : List I := [.op (.box 4 70 (.tmp 1)),
  .op (.box 5 72 (.tmp 2)),
  .op (.mov 6 (.const (.slice none 0 0))),
  .kp [0, 4, 5]]
def f79r1 : List I := [.op (.mov 9 (.tmp 0)),
  .op (.call (some 10) 48 [(.tmp 9)]),
  .op (.mov 7 (.tmp 10)),
  .kp [4, 5, 7]]
def f79r2 : List I := [.op (.fad 11 1 (.tmp 4)),
  .op (.ld 12 none (.tmp 11)),
  .op (.fad 13 2 (.tmp 4)),
  .op (.ld 14 none (.tmp 13)),
  .op (.fad 15 7 (.tmp 5)),
  .op (.st 1 (.tmp 15) (.tmp 12)),
  .op (.fad 16 8 (.tmp 5)),
  .op (.st 1 (.tmp 16) (.tmp 14)),
  .kp [4, 5, 7]]
def f79r3 : List I := [.op (.fad 17 1 (.tmp 4)),
  .op (.ld 18 none (.tmp 17)),
  .kp [4, 5, 7, 18]]
def f79r4 : List I := [.op (.fad 19 8 (.tmp 5)),
  .op (.st 1 (.tmp 19) (.const (.string ⟨#[]⟩))),
  .kp [4, 5, 7]]
def f79r5 : List I := [.op (.mov 20 (.tmp 7)),
  .op (.fad 21 0 (.tmp 4)),
  .op (.ld 22 none (.tmp 21)),
  .op (.call (some 23) 108 [(.tmp 20), (.tmp 22)]),
  .op (.mov 8 (.tmp 23)),
  .kp [4, 5, 7, 8]]
def f79r6 : List I := [.op (.mov 24 (.tmp 8)),
  .op (.bin 25 .lss (.tmp 24) (.const (.int .i64 0))),
  .kp [4, 5, 7, 8, 25]]
def f79r7 : List I := [.op (.mov 8 (.const (.int .i64 0))),
  .kp [4, 5, 7, 8]]
def f79r8 : List I := [.op (.mov 26 (.tmp 8)),
  .op (.mov 27 (.tmp 7)),
  .op (.len 28 true (.tmp 27)),
  .op (.bin 29 .lss (.tmp 26) (.tmp 28)),
  .op (.mov 30 (.tmp 29)),
  .sc 30 true 8,
  .g 30 true (.mov 31 (.tmp 7)),
  .g 30 true (.mov 32 (.tmp 8)),
  .g 30 true (.iad 33 12 (.tmp 31) (.tmp 32)),
  .g 30 true (.fad 34 0 (.tmp 33)),
  .g 30 true (.ld 35 none (.tmp 34)),
  .g 30 true (.fad 36 0 (.tmp 4)),
  .g 30 true (.ld 37 none (.tmp 36)),
  .g 30 true (.bin 38 .lss (.tmp 35) (.tmp 37)),
  .op (.pick 39 (.tmp 30) (.tmp 38) (.const (.bool false))),
  .kp [4, 5, 7, 8, 39]]
def f79r9 : List I := [.op (.mov 40 (.tmp 8)),
  .op (.bin 41 .add (.tmp 40) (.const (.int .i64 1))),
  .op (.mov 8 (.tmp 41)),
  .kp [4, 5, 7, 8]]
def f79r10 : L := (.one [.op (.mov 43 (.tmp 7)),
  .op (.mov 44 (.tmp 8)),
  .op (.slc 45 12 (.tmp 43) none (some (.tmp 44)) none),
  .op (.fad 47 0 (.tmp 4)),
  .op (.ld 48 none (.tmp 47)),
  .op (.bld 49 [.string ⟨#[]⟩, .slice none 0 0, .bool false, .int .i64 0, .int .i64 0, .int .i64 0, .int .i64 0, .int .i64 0, .int .i64 0, .int .i64 0, .bool false, .string ⟨#[]⟩] [(0, 1, (.tmp 48))]),
  .op (.mov 52 (.tmp 7)),
  .op (.mov 53 (.tmp 8)),
  .op (.slc 54 12 (.tmp 52) (some (.tmp 53)) none none)] (.alt (.one [.op (.bsl 42 103 0 [] [])] (.alt (.one [.op (.raw (some 46) ⟨(some 46), (.call ⟨(.builtin .append), #[(.tmp 42), (.tmp 45)], #[74, 74]⟩), 74, "ref.go:115", #[⟨0, .data⟩, ⟨3, .data⟩], none⟩),
  .op (.bsl 50 103 1 [.string ⟨#[]⟩, .slice none 0 0, .bool false, .int .i64 0, .int .i64 0, .int .i64 0, .int .i64 0, .int .i64 0, .int .i64 0, .int .i64 0, .bool false, .string ⟨#[]⟩] [(0, 12, (.tmp 49))]),
  .op (.raw (some 51) ⟨(some 51), (.call ⟨(.builtin .append), #[(.tmp 46), (.tmp 50)], #[74, 74]⟩), 74, "ref.go:115", #[⟨4, .data⟩, ⟨8, .data⟩, ⟨4, .chain⟩], none⟩),
  .op (.raw (some 55) ⟨(some 55), (.call ⟨(.builtin .append), #[(.tmp 51), (.tmp 54)], #[74, 74]⟩), 74, "ref.go:115", #[⟨9, .data⟩, ⟨12, .data⟩, ⟨9, .chain⟩], none⟩),
  .op (.mov 7 (.tmp 55)),
  .kp [5, 7, 8]] .nil) (.one [.op (.bsl 50 103 1 [.string ⟨#[]⟩, .slice none 0 0, .bool false, .int .i64 0, .int .i64 0, .int .i64 0, .int .i64 0, .int .i64 0, .int .i64 0, .int .i64 0, .bool false, .string ⟨#[]⟩] [(0, 12, (.tmp 49))]),
  .op (.raw (some 46) ⟨(some 46), (.call ⟨(.builtin .append), #[(.tmp 42), (.tmp 45)], #[74, 74]⟩), 74, "ref.go:115", #[⟨0, .data⟩, ⟨3, .data⟩], none⟩),
  .op (.raw (some 51) ⟨(some 51), (.call ⟨(.builtin .append), #[(.tmp 46), (.tmp 50)], #[74, 74]⟩), 74, "ref.go:115", #[⟨4, .data⟩, ⟨8, .data⟩, ⟨4, .chain⟩], none⟩),
  .op (.raw (some 55) ⟨(some 55), (.call ⟨(.builtin .append), #[(.tmp 51), (.tmp 54)], #[74, 74]⟩), 74, "ref.go:115", #[⟨9, .data⟩, ⟨12, .data⟩, ⟨9, .chain⟩], none⟩),
  .op (.mov 7 (.tmp 55)),
  .kp [5, 7, 8]] .nil))) (.one [.op (.bsl 50 103 1 [.string ⟨#[]⟩, .slice none 0 0, .bool false, .int .i64 0, .int .i64 0, .int .i64 0, .int .i64 0, .int .i64 0, .int .i64 0, .int .i64 0, .bool false, .string ⟨#[]⟩] [(0, 12, (.tmp 49))]),
  .op (.bsl 42 103 0 [] []),
  .op (.raw (some 46) ⟨(some 46), (.call ⟨(.builtin .append), #[(.tmp 42), (.tmp 45)], #[74, 74]⟩), 74, "ref.go:115", #[⟨0, .data⟩, ⟨3, .data⟩], none⟩),
  .op (.raw (some 51) ⟨(some 51), (.call ⟨(.builtin .append), #[(.tmp 46), (.tmp 50)], #[74, 74]⟩), 74, "ref.go:115", #[⟨4, .data⟩, ⟨8, .data⟩, ⟨4, .chain⟩], none⟩),
  .op (.raw (some 55) ⟨(some 55), (.call ⟨(.builtin .append), #[(.tmp 51), (.tmp 54)], #[74, 74]⟩), 74, "ref.go:115", #[⟨9, .data⟩, ⟨12, .data⟩, ⟨9, .chain⟩], none⟩),
  .op (.mov 7 (.tmp 55)),
  .kp [5, 7, 8]] .nil)))
def f79r11 : List I := [.op (.mov 56 (.tmp 7)),
  .op (.mov 57 (.tmp 8)),
  .op (.mov 58 (.tmp 7)),
  .op (.mov 59 (.tmp 8)),
  .op (.ld 60 (some 9) (.tmp 5)),
  .op (.iad 61 12 (.tmp 56) (.tmp 57)),
  .op (.fad 62 2 (.tmp 61)),
  .op (.st 1 (.tmp 62) (.const (.bool true))),
  .op (.iad 63 12 (.tmp 58) (.tmp 59)),
  .op (.fad 64 3 (.tmp 63)),
  .kp [7, 60, 64],
  .op (.st 9 (.tmp 64) (.tmp 60)),
  .kp [7]]
def f79r12 : List I := [.op (.mov 65 (.tmp 7)),
  .op (.mov 6 (.tmp 65)),
  .kp [6]]
def f79c5 : C := (.reg f79r4)
def f79c14 : C := (.reg f79r9)
def f79c13 : C := (.block 1 f79c14)
def f79c12 : C := (.seq (.cond (.tmp 39) .skip (.exit 0)) f79c13)
def f79c11 : C := (.seq (.drw f79r8) f79c12)
def f79c15 : C := (.drt f79r10)
def f79c10 : C := (.seq (.block 0 (.loop f79c11)) f79c15)
def f79c9 : C := (.seq (.reg f79r7) f79c10)
def f79c17 : C := (.seq (.reg f79r12) .ret)
def f79c16 : C := (.seq (.drw f79r11) f79c17)
def f79c8 : C := (.seq (.cond (.tmp 25) f79c9 .skip) f79c16)
def f79c7 : C := (.seq (.reg f79r6) f79c8)
def f79c6 : C := (.seq (.reg f79r5) f79c7)
def f79c4 : C := (.seq (.cond (.tmp 18) f79c5 .skip) f79c6)
def f79c3 : C := (.seq (.reg f79r3) f79c4)
def f79c2 : C := (.seq (.drw f79r2) f79c3)
def f79c1 : C := (.seq (.reg f79r1) f79c2)
def f79c0 : C := (.seq (.reg f79r0) f79c1)
theorem f79cmp : cmpF Try.prog Try.f79 [.l [.o 0, .o 1, .o 2, .kp [0, 4, 5]],
  .l [.o 0, .o 1, .o 2, .kp [4, 5, 7]],
  .l [.o 0, .o 1, .o 2, .o 3, .o 4, .o 5, .o 6, .o 7, .kp [4, 5, 7]],
  .l [.o 0, .o 1, .kp [4, 5, 7, 18]],
  .l [.o 0, .o 1, .kp [4, 5, 7]],
  .l [.o 0, .o 1, .o 2, .o 3, .o 4, .kp [4, 5, 7, 8]],
  .l [.o 0, .o 1, .kp [4, 5, 7, 8, 25]],
  .l [.o 0, .kp [4, 5, 7, 8]],
  .l [.o 0, .o 1, .o 2, .o 3, .o 4, .sc 30 true 8, .o 5, .o 6, .o 7, .o 8, .o 9, .o 10, .o 11, .o 12, .o 13, .kp [4, 5, 7, 8, 39]],
  .l [.o 0, .o 1, .o 2, .kp [4, 5, 7, 8]],
  .t (.one [.o 1, .o 2, .o 3, .o 5, .o 6, .o 7, .o 10, .o 11, .o 12] (.alt (.one [.o 0] (.alt (.one [.o 4, .o 8, .o 9, .o 13, .o 14, .kp [5, 7, 8]] .nil) (.one [.o 8, .o 4, .o 9, .o 13, .o 14, .kp [5, 7, 8]] .nil))) (.one [.o 8, .o 0, .o 4, .o 9, .o 13, .o 14, .kp [5, 7, 8]] .nil))),
  .l [.o 0, .o 1, .o 2, .o 3, .o 4, .o 5, .o 6, .o 7, .o 8, .o 9, .kp [7, 60, 64], .o 10, .kp [7]],
  .l [.o 0, .o 1, .kp [6]]] = some (f79c0, [.tmp 6]) := by kernel_rfl
theorem f79ok {args : List Value} {h : Heap} {R : Value → Heap → Prop} (hn : args.length ≤ 66) (H : wC Try.prog f79c0 (endW [.tmp 6] R) (envOf 0 args) h) : CallsH Try.prog 79 args h R :=
  fn_ok2 Try.func79 f79cmp hn H
theorem f79cal : callable Try.prog 79 = true := by kernel_rfl
section
variable {Q : X → Env → Heap → Prop} {σ : Env} {h : Heap}
theorem f79c5_eq : wC Try.prog f79c5 Q σ h = (wL Try.prog none f79r4 0 (fun σ h => Q .normal σ h) σ h) := rfl
theorem f79c14_eq : wC Try.prog f79c14 Q σ h = (wL Try.prog none f79r9 0 (fun σ h => Q .normal σ h) σ h) := rfl
theorem f79c13_eq : wC Try.prog f79c13 Q σ h = (wC Try.prog f79c14 (X.inBlock 1 Q) σ h) := rfl
theorem f79c12_eq : wC Try.prog f79c12 Q σ h = (bd (evO σ (.tmp 39)) fun v => bd (asB v) fun t => br t (wC Try.prog f79c13 Q σ h) (Q (.exit 0) σ h)) := rfl
theorem f79c11_eq : wC Try.prog f79c11 Q σ h = (drwW Try.prog f79r8 (fun σ h => wC Try.prog f79c12 Q σ h) σ h) := rfl
theorem f79c15_eq : wC Try.prog f79c15 Q σ h = (drtW Try.prog f79r10 (fun σ h => Q .normal σ h) σ h) := rfl
theorem f79c10_eq : wC Try.prog f79c10 Q σ h = (loopW (wC Try.prog f79c11) (X.inBlock 0 (X.then (fun σ h => wC Try.prog f79c15 Q σ h) Q)) σ h) := rfl
theorem f79c9_eq : wC Try.prog f79c9 Q σ h = (wL Try.prog none f79r7 0 (fun σ h => wC Try.prog f79c10 Q σ h) σ h) := rfl
theorem f79c17_eq : wC Try.prog f79c17 Q σ h = (wL Try.prog none f79r12 0 (fun σ h => Q .ret σ h) σ h) := rfl
theorem f79c16_eq : wC Try.prog f79c16 Q σ h = (drwW Try.prog f79r11 (fun σ h => wC Try.prog f79c17 Q σ h) σ h) := rfl
theorem f79c8_eq : wC Try.prog f79c8 Q σ h = (bd (evO σ (.tmp 25)) fun v => bd (asB v) fun t => br t (wC Try.prog f79c9 (X.then (fun σ h => wC Try.prog f79c16 Q σ h) Q) σ h) (wC Try.prog f79c16 Q σ h)) := rfl
theorem f79c7_eq : wC Try.prog f79c7 Q σ h = (wL Try.prog none f79r6 0 (fun σ h => wC Try.prog f79c8 Q σ h) σ h) := rfl
theorem f79c6_eq : wC Try.prog f79c6 Q σ h = (wL Try.prog none f79r5 0 (fun σ h => wC Try.prog f79c7 Q σ h) σ h) := rfl
theorem f79c4_eq : wC Try.prog f79c4 Q σ h = (bd (evO σ (.tmp 18)) fun v => bd (asB v) fun t => br t (wC Try.prog f79c5 (X.then (fun σ h => wC Try.prog f79c6 Q σ h) Q) σ h) (wC Try.prog f79c6 Q σ h)) := rfl
theorem f79c3_eq : wC Try.prog f79c3 Q σ h = (wL Try.prog none f79r3 0 (fun σ h => wC Try.prog f79c4 Q σ h) σ h) := rfl
theorem f79c2_eq : wC Try.prog f79c2 Q σ h = (drwW Try.prog f79r2 (fun σ h => wC Try.prog f79c3 Q σ h) σ h) := rfl
theorem f79c1_eq : wC Try.prog f79c1 Q σ h = (wL Try.prog none f79r1 0 (fun σ h => wC Try.prog f79c2 Q σ h) σ h) := rfl
theorem f79c0_eq : wC Try.prog f79c0 Q σ h = (wL Try.prog none f79r0 0 (fun σ h => wC Try.prog f79c1 Q σ h) σ h) := rfl
end
/-! ### f39: antipode/mvcc.Settle -/
def f39r0 : List I := [.op (.box 4 37 (.tmp 1)),
  .op (.mov 6 (.const (.slice none 0 0))),
  .kp [0, 2, 4]]
def f39r1 : List I := [.op (.mov 7 (.const (.slice none 0 0))),
  .kp [0, 2, 4, 7]]
def f39r2 : List I := [.op (.mov 10 (.tmp 0)),
  .op (.len 11 true (.tmp 10)),
  .op (.mov 12 (.const (.int .i64 0))),
  .kp [2, 4, 7, 10, 11, 12]]
def f39r3 : List I := [.op (.bin 13 .lss (.tmp 12) (.tmp 11)),
  .kp [2, 4, 7, 10, 11, 12, 13]]
def f39r4 : List I := [.op (.iad 14 12 (.tmp 10) (.tmp 12)),
  .op (.ld 15 (some 12) (.tmp 14)),
  .op (.new 9 103 [.string ⟨#[]⟩, .slice none 0 0, .bool false, .int .i64 0, .int .i64 0, .int .i64 0, .int .i64 0, .int .i64 0, .int .i64 0, .int .i64 0, .bool false, .string ⟨#[]⟩]),
  .op (.st 12 (.tmp 9) (.tmp 15)),
  .kp [2, 4, 7, 9, 10, 11, 12]]
def f39r5 : List I := [.op (.ld 16 (some 12) (.tmp 9)),
  .op (.call (some 17) 84 [(.tmp 16)]),
  .op (.st 12 (.tmp 9) (.tmp 17)),
  .kp [2, 4, 7, 9, 10, 11, 12]]
def f39r6 : List I := [.op (.fad 18 2 (.tmp 9)),
  .op (.ld 19 none (.tmp 18)),
  .op (.mov 20 (.tmp 19)),
  .sc 20 true 5,
  .g 20 true (.fad 21 3 (.tmp 9)),
  .g 20 true (.fad 22 0 (.tmp 21)),
  .g 20 true (.ld 23 (some 4) (.tmp 22)),
  .g 20 true (.ld 24 (some 4) (.tmp 4)),
  .g 20 true (.eqa 25 false [.i .i64, .i .i64, .i .i64, .i .i64] (.tmp 23) (.tmp 24)),
  .op (.pick 26 (.tmp 20) (.tmp 25) (.const (.bool false))),
  .kp [2, 4, 7, 9, 10, 11, 12, 26]]
def f39r7 : List I := [.op (.mov 27 (.tmp 2)),
  .kp [2, 4, 7, 9, 10, 11, 12, 27]]
def f39r8 : List I := [.op (.fad 28 1 (.tmp 9)),
  .op (.ld 29 none (.tmp 28)),
  .op (.fad 30 3 (.tmp 9)),
  .op (.fad 31 5 (.tmp 30)),
  .op (.ld 32 (some 2) (.tmp 31)),
  .op (.fad 33 3 (.tmp 9)),
  .op (.fad 34 7 (.tmp 33)),
  .op (.ld 35 none (.tmp 34)),
  .op (.fad 36 3 (.tmp 9)),
  .op (.fad 37 8 (.tmp 36)),
  .kp [2, 4, 7, 9, 10, 11, 12, 29, 32, 35, 37],
  .op (.ld 38 none (.tmp 37)),
  .op (.bld 39 [.int .i64 0, .int .i64 0, .bool false, .string ⟨#[]⟩] [(0, 2, (.tmp 32)), (2, 1, (.tmp 35)), (3, 1, (.tmp 38))]),
  .op (.call (some 40) 85 [(.tmp 29), (.tmp 39)]),
  .op (.fad 41 1 (.tmp 9)),
  .op (.st 1 (.tmp 41) (.tmp 40)),
  .kp [2, 4, 7, 9, 10, 11, 12]]
def f39r9 : List I := [.op (.bld 42 [.int .i64 0, .int .i64 0, .int .i64 0, .int .i64 0, .int .i64 0, .int .i64 0, .int .i64 0, .bool false, .string ⟨#[]⟩] []),
  .op (.fad 43 2 (.tmp 9)),
  .op (.st 1 (.tmp 43) (.const (.bool false))),
  .op (.fad 44 3 (.tmp 9)),
  .op (.st 9 (.tmp 44) (.tmp 42)),
  .kp [2, 4, 7, 9, 10, 11, 12]]
def f39r10 : List I := [.op (.fad 45 2 (.tmp 9)),
  .op (.ld 46 none (.tmp 45)),
  .op (.mov 47 (.tmp 46)),
  .sc 47 false 4,
  .g 47 false (.fad 48 1 (.tmp 9)),
  .g 47 false (.ld 49 none (.tmp 48)),
  .g 47 false (.len 50 true (.tmp 49)),
  .g 47 false (.bin 51 .gtr (.tmp 50) (.const (.int .i64 0))),
  .op (.pick 52 (.tmp 47) (.const (.bool true)) (.tmp 51)),
  .kp [2, 4, 7, 9, 10, 11, 12, 52]]
def f39r11 : List I := [.op (.mov 53 (.tmp 7)),
  .op (.ld 54 (some 12) (.tmp 9)),
  .op (.bsl 55 103 1 [.string ⟨#[]⟩, .slice none 0 0, .bool false, .int .i64 0, .int .i64 0, .int .i64 0, .int .i64 0, .int .i64 0, .int .i64 0, .int .i64 0, .bool false, .string ⟨#[]⟩] [(0, 12, (.tmp 54))]),
  .op (.raw (some 56) ⟨(some 56), (.call ⟨(.builtin .append), #[(.tmp 53), (.tmp 55)], #[74, 74]⟩), 74, "mvcc.go:162", #[⟨0, .data⟩, ⟨2, .data⟩], none⟩),
  .op (.mov 7 (.tmp 56)),
  .kp [2, 4, 7, 10, 11, 12]]
def f39r12 : List I := [.op (.bin 57 .add (.tmp 12) (.const (.int .i64 1))),
  .op (.mov 12 (.tmp 57)),
  .kp [2, 4, 7, 10, 11, 12]]
def f39r13 : List I := [.op (.mov 58 (.tmp 7)),
  .op (.mov 6 (.tmp 58)),
  .kp [6]]
def f39c13 : C := (.reg f39r8)
def f39c14 : C := (.reg f39r9)
def f39c12 : C := (.seq (.cond (.tmp 27) f39c13 .skip) f39c14)
def f39c11 : C := (.seq (.reg f39r7) f39c12)
def f39c17 : C := (.reg f39r11)
def f39c16 : C := (.cond (.tmp 52) f39c17 .skip)
def f39c15 : C := (.seq (.reg f39r10) f39c16)
def f39c10 : C := (.seq (.cond (.tmp 26) f39c11 .skip) f39c15)
def f39c9 : C := (.seq (.reg f39r6) f39c10)
def f39c8 : C := (.seq (.reg f39r5) f39c9)
def f39c7 : C := (.seq (.reg f39r4) f39c8)
def f39c18 : C := (.reg f39r12)
def f39c6 : C := (.seq (.block 1 f39c7) f39c18)
def f39c5 : C := (.seq (.cond (.tmp 13) .skip (.exit 0)) f39c6)
def f39c4 : C := (.seq (.reg f39r3) f39c5)
def f39c19 : C := (.seq (.reg f39r13) .ret)
def f39c3 : C := (.seq (.block 0 (.loop f39c4)) f39c19)
def f39c2 : C := (.seq (.reg f39r2) f39c3)
def f39c1 : C := (.seq (.reg f39r1) f39c2)
def f39c0 : C := (.seq (.reg f39r0) f39c1)
theorem f39cmp : cmpF Try.prog Try.f39 [.l [.o 0, .o 1, .kp [0, 2, 4]],
  .l [.o 0, .kp [0, 2, 4, 7]],
  .l [.o 0, .o 1, .o 2, .kp [2, 4, 7, 10, 11, 12]],
  .l [.o 0, .kp [2, 4, 7, 10, 11, 12, 13]],
  .l [.o 0, .o 1, .o 2, .o 3, .kp [2, 4, 7, 9, 10, 11, 12]],
  .l [.o 0, .o 1, .o 2, .kp [2, 4, 7, 9, 10, 11, 12]],
  .l [.o 0, .o 1, .o 2, .sc 20 true 5, .o 3, .o 4, .o 5, .o 6, .o 7, .o 8, .kp [2, 4, 7, 9, 10, 11, 12, 26]],
  .l [.o 0, .kp [2, 4, 7, 9, 10, 11, 12, 27]],
  .l [.o 0, .o 1, .o 2, .o 3, .o 4, .o 5, .o 6, .o 7, .o 8, .o 9, .kp [2, 4, 7, 9, 10, 11, 12, 29, 32, 35, 37], .o 10, .o 11, .o 12, .o 13, .o 14, .kp [2, 4, 7, 9, 10, 11, 12]],
  .l [.o 0, .o 1, .o 2, .o 3, .o 4, .kp [2, 4, 7, 9, 10, 11, 12]],
  .l [.o 0, .o 1, .o 2, .sc 47 false 4, .o 3, .o 4, .o 5, .o 6, .o 7, .kp [2, 4, 7, 9, 10, 11, 12, 52]],
  .l [.o 0, .o 1, .o 2, .o 3, .o 4, .kp [2, 4, 7, 10, 11, 12]],
  .l [.o 0, .o 1, .kp [2, 4, 7, 10, 11, 12]],
  .l [.o 0, .o 1, .kp [6]]] = some (f39c0, [.tmp 6]) := by kernel_rfl
theorem f39ok {args : List Value} {h : Heap} {R : Value → Heap → Prop} (hn : args.length ≤ 59) (H : wC Try.prog f39c0 (endW [.tmp 6] R) (envOf 0 args) h) : CallsH Try.prog 39 args h R :=
  fn_ok2 Try.func39 f39cmp hn H
theorem f39cal : callable Try.prog 39 = true := by kernel_rfl
section
variable {Q : X → Env → Heap → Prop} {σ : Env} {h : Heap}
theorem f39c13_eq : wC Try.prog f39c13 Q σ h = (wL Try.prog none f39r8 0 (fun σ h => Q .normal σ h) σ h) := rfl
theorem f39c14_eq : wC Try.prog f39c14 Q σ h = (wL Try.prog none f39r9 0 (fun σ h => Q .normal σ h) σ h) := rfl
theorem f39c12_eq : wC Try.prog f39c12 Q σ h = (bd (evO σ (.tmp 27)) fun v => bd (asB v) fun t => br t (wC Try.prog f39c13 (X.then (fun σ h => wC Try.prog f39c14 Q σ h) Q) σ h) (wC Try.prog f39c14 Q σ h)) := rfl
theorem f39c11_eq : wC Try.prog f39c11 Q σ h = (wL Try.prog none f39r7 0 (fun σ h => wC Try.prog f39c12 Q σ h) σ h) := rfl
theorem f39c17_eq : wC Try.prog f39c17 Q σ h = (wL Try.prog none f39r11 0 (fun σ h => Q .normal σ h) σ h) := rfl
theorem f39c16_eq : wC Try.prog f39c16 Q σ h = (bd (evO σ (.tmp 52)) fun v => bd (asB v) fun t => br t (wC Try.prog f39c17 Q σ h) (Q .normal σ h)) := rfl
theorem f39c15_eq : wC Try.prog f39c15 Q σ h = (wL Try.prog none f39r10 0 (fun σ h => wC Try.prog f39c16 Q σ h) σ h) := rfl
theorem f39c10_eq : wC Try.prog f39c10 Q σ h = (bd (evO σ (.tmp 26)) fun v => bd (asB v) fun t => br t (wC Try.prog f39c11 (X.then (fun σ h => wC Try.prog f39c15 Q σ h) Q) σ h) (wC Try.prog f39c15 Q σ h)) := rfl
theorem f39c9_eq : wC Try.prog f39c9 Q σ h = (wL Try.prog none f39r6 0 (fun σ h => wC Try.prog f39c10 Q σ h) σ h) := rfl
theorem f39c8_eq : wC Try.prog f39c8 Q σ h = (wL Try.prog none f39r5 0 (fun σ h => wC Try.prog f39c9 Q σ h) σ h) := rfl
theorem f39c7_eq : wC Try.prog f39c7 Q σ h = (wL Try.prog none f39r4 0 (fun σ h => wC Try.prog f39c8 Q σ h) σ h) := rfl
theorem f39c18_eq : wC Try.prog f39c18 Q σ h = (wL Try.prog none f39r12 0 (fun σ h => Q .normal σ h) σ h) := rfl
theorem f39c6_eq : wC Try.prog f39c6 Q σ h = (wC Try.prog f39c7 (X.inBlock 1 (X.then (fun σ h => wC Try.prog f39c18 Q σ h) Q)) σ h) := rfl
theorem f39c5_eq : wC Try.prog f39c5 Q σ h = (bd (evO σ (.tmp 13)) fun v => bd (asB v) fun t => br t (wC Try.prog f39c6 Q σ h) (Q (.exit 0) σ h)) := rfl
theorem f39c4_eq : wC Try.prog f39c4 Q σ h = (wL Try.prog none f39r3 0 (fun σ h => wC Try.prog f39c5 Q σ h) σ h) := rfl
theorem f39c19_eq : wC Try.prog f39c19 Q σ h = (wL Try.prog none f39r13 0 (fun σ h => Q .ret σ h) σ h) := rfl
theorem f39c3_eq : wC Try.prog f39c3 Q σ h = (loopW (wC Try.prog f39c4) (X.inBlock 0 (X.then (fun σ h => wC Try.prog f39c19 Q σ h) Q)) σ h) := rfl
theorem f39c2_eq : wC Try.prog f39c2 Q σ h = (wL Try.prog none f39r2 0 (fun σ h => wC Try.prog f39c3 Q σ h) σ h) := rfl
theorem f39c1_eq : wC Try.prog f39c1 Q σ h = (wL Try.prog none f39r1 0 (fun σ h => wC Try.prog f39c2 Q σ h) σ h) := rfl
theorem f39c0_eq : wC Try.prog f39c0 Q σ h = (wL Try.prog none f39r0 0 (fun σ h => wC Try.prog f39c1 Q σ h) σ h) := rfl
end
/-! ### f80: antipode/antipoderef8.Settle -/
def f80r0 : List I := [.op (.box 4 37 (.tmp 1)),
  .op (.mov 6 (.const (.slice none 0 0))),
  .kp [0, 2, 4]]
def f80r1 : List I := [.op (.mov 7 (.const (.slice none 0 0))),
  .kp [0, 2, 4, 7]]
def f80r2 : List I := [.op (.mov 11 (.tmp 0)),
  .op (.call (some 12) 48 [(.tmp 11)]),
  .op (.mov 8 (.tmp 12)),
  .kp [2, 4, 7, 8]]
def f80r3 : List I := [.op (.mov 9 (.const (.int .i64 0))),
  .kp [2, 4, 7, 8, 9]]
def f80r4 : List I := [.op (.mov 13 (.tmp 9)),
  .op (.mov 14 (.tmp 8)),
  .op (.len 15 true (.tmp 14)),
  .op (.bin 16 .lss (.tmp 13) (.tmp 15)),
  .kp [2, 4, 7, 8, 9, 16]]
def f80r5 : List I := [.op (.mov 19 (.tmp 8)),
  .op (.mov 20 (.tmp 9)),
  .op (.iad 21 12 (.tmp 19) (.tmp 20)),
  .op (.ld 22 (some 12) (.tmp 21)),
  .op (.new 10 103 [.string ⟨#[]⟩, .slice none 0 0, .bool false, .int .i64 0, .int .i64 0, .int .i64 0, .int .i64 0, .int .i64 0, .int .i64 0, .int .i64 0, .bool false, .string ⟨#[]⟩]),
  .op (.st 12 (.tmp 10) (.tmp 22)),
  .kp [2, 4, 7, 8, 9, 10]]
def f80r6 : List I := [.op (.fad 23 2 (.tmp 10)),
  .op (.ld 24 none (.tmp 23)),
  .op (.mov 25 (.tmp 24)),
  .sc 25 true 5,
  .g 25 true (.fad 26 3 (.tmp 10)),
  .g 25 true (.fad 27 0 (.tmp 26)),
  .g 25 true (.ld 28 (some 4) (.tmp 27)),
  .g 25 true (.ld 29 (some 4) (.tmp 4)),
  .g 25 true (.eqa 30 false [.i .i64, .i .i64, .i .i64, .i .i64] (.tmp 28) (.tmp 29)),
  .op (.pick 31 (.tmp 25) (.tmp 30) (.const (.bool false))),
  .kp [2, 4, 7, 8, 9, 10, 31]]
def f80r7 : List I := [.op (.mov 32 (.tmp 2)),
  .kp [2, 4, 7, 8, 9, 10, 32]]
def f80r8 : List I := [.op (.fad 33 1 (.tmp 10)),
  .op (.ld 34 none (.tmp 33)),
  .op (.fad 35 3 (.tmp 10)),
  .op (.fad 36 5 (.tmp 35)),
  .op (.ld 37 (some 2) (.tmp 36)),
  .op (.fad 38 3 (.tmp 10)),
  .op (.fad 39 7 (.tmp 38)),
  .op (.ld 40 none (.tmp 39)),
  .op (.fad 41 3 (.tmp 10)),
  .op (.fad 42 8 (.tmp 41)),
  .kp [2, 4, 7, 8, 9, 10, 34, 37, 40, 42],
  .op (.ld 43 none (.tmp 42)),
  .op (.bld 44 [.int .i64 0, .int .i64 0, .bool false, .string ⟨#[]⟩] [(0, 2, (.tmp 37)), (2, 1, (.tmp 40)), (3, 1, (.tmp 43))]),
  .op (.call (some 45) 112 [(.tmp 34), (.tmp 44)]),
  .op (.fad 46 1 (.tmp 10)),
  .op (.st 1 (.tmp 46) (.tmp 45)),
  .kp [2, 4, 7, 8, 9, 10]]
def f80r9 : List I := [.op (.bld 47 [.int .i64 0, .int .i64 0, .int .i64 0, .int .i64 0, .int .i64 0, .int .i64 0, .int .i64 0, .bool false, .string ⟨#[]⟩] []),
  .op (.fad 48 2 (.tmp 10)),
  .op (.st 1 (.tmp 48) (.const (.bool false))),
  .op (.fad 49 3 (.tmp 10)),
  .op (.st 9 (.tmp 49) (.tmp 47)),
  .kp [2, 4, 7, 8, 9, 10]]
def f80r10 : List I := [.op (.fad 50 2 (.tmp 10)),
  .op (.ld 51 none (.tmp 50)),
  .op (.mov 52 (.tmp 51)),
  .sc 52 false 4,
  .g 52 false (.fad 53 1 (.tmp 10)),
  .g 52 false (.ld 54 none (.tmp 53)),
  .g 52 false (.len 55 true (.tmp 54)),
  .g 52 false (.bin 56 .gtr (.tmp 55) (.const (.int .i64 0))),
  .op (.pick 57 (.tmp 52) (.const (.bool true)) (.tmp 56)),
  .kp [2, 4, 7, 8, 9, 10, 57]]
def f80r11 : List I := [.op (.mov 58 (.tmp 7)),
  .op (.ld 59 (some 12) (.tmp 10)),
  .op (.bsl 60 103 1 [.string ⟨#[]⟩, .slice none 0 0, .bool false, .int .i64 0, .int .i64 0, .int .i64 0, .int .i64 0, .int .i64 0, .int .i64 0, .int .i64 0, .bool false, .string ⟨#[]⟩] [(0, 12, (.tmp 59))]),
  .op (.raw (some 61) ⟨(some 61), (.call ⟨(.builtin .append), #[(.tmp 58), (.tmp 60)], #[74, 74]⟩), 74, "ref.go:171", #[⟨0, .data⟩, ⟨2, .data⟩], none⟩),
  .op (.mov 7 (.tmp 61)),
  .kp [2, 4, 7, 8, 9]]
def f80r12 : List I := [.op (.mov 17 (.tmp 9)),
  .op (.bin 18 .add (.tmp 17) (.const (.int .i64 1))),
  .op (.mov 9 (.tmp 18)),
  .kp [2, 4, 7, 8, 9]]
def f80r13 : List I := [.op (.mov 62 (.tmp 7)),
  .op (.mov 6 (.tmp 62)),
  .kp [6]]
def f80c13 : C := (.reg f80r8)
def f80c14 : C := (.reg f80r9)
def f80c12 : C := (.seq (.cond (.tmp 32) f80c13 .skip) f80c14)
def f80c11 : C := (.seq (.reg f80r7) f80c12)
def f80c17 : C := (.reg f80r11)
def f80c16 : C := (.cond (.tmp 57) f80c17 .skip)
def f80c15 : C := (.seq (.reg f80r10) f80c16)
def f80c10 : C := (.seq (.cond (.tmp 31) f80c11 .skip) f80c15)
def f80c9 : C := (.seq (.reg f80r6) f80c10)
def f80c8 : C := (.seq (.reg f80r5) f80c9)
def f80c18 : C := (.reg f80r12)
def f80c7 : C := (.seq (.block 1 f80c8) f80c18)
def f80c6 : C := (.seq (.cond (.tmp 16) .skip (.exit 0)) f80c7)
def f80c5 : C := (.seq (.reg f80r4) f80c6)
def f80c19 : C := (.seq (.reg f80r13) .ret)
def f80c4 : C := (.seq (.block 0 (.loop f80c5)) f80c19)
def f80c3 : C := (.seq (.reg f80r3) f80c4)
def f80c2 : C := (.seq (.reg f80r2) f80c3)
def f80c1 : C := (.seq (.reg f80r1) f80c2)
def f80c0 : C := (.seq (.reg f80r0) f80c1)
theorem f80cmp : cmpF Try.prog Try.f80 [.l [.o 0, .o 1, .kp [0, 2, 4]],
  .l [.o 0, .kp [0, 2, 4, 7]],
  .l [.o 0, .o 1, .o 2, .kp [2, 4, 7, 8]],
  .l [.o 0, .kp [2, 4, 7, 8, 9]],
  .l [.o 0, .o 1, .o 2, .o 3, .kp [2, 4, 7, 8, 9, 16]],
  .l [.o 0, .o 1, .o 2, .o 3, .o 4, .o 5, .kp [2, 4, 7, 8, 9, 10]],
  .l [.o 0, .o 1, .o 2, .sc 25 true 5, .o 3, .o 4, .o 5, .o 6, .o 7, .o 8, .kp [2, 4, 7, 8, 9, 10, 31]],
  .l [.o 0, .kp [2, 4, 7, 8, 9, 10, 32]],
  .l [.o 0, .o 1, .o 2, .o 3, .o 4, .o 5, .o 6, .o 7, .o 8, .o 9, .kp [2, 4, 7, 8, 9, 10, 34, 37, 40, 42], .o 10, .o 11, .o 12, .o 13, .o 14, .kp [2, 4, 7, 8, 9, 10]],
  .l [.o 0, .o 1, .o 2, .o 3, .o 4, .kp [2, 4, 7, 8, 9, 10]],
  .l [.o 0, .o 1, .o 2, .sc 52 false 4, .o 3, .o 4, .o 5, .o 6, .o 7, .kp [2, 4, 7, 8, 9, 10, 57]],
  .l [.o 0, .o 1, .o 2, .o 3, .o 4, .kp [2, 4, 7, 8, 9]],
  .l [.o 0, .o 1, .o 2, .kp [2, 4, 7, 8, 9]],
  .l [.o 0, .o 1, .kp [6]]] = some (f80c0, [.tmp 6]) := by kernel_rfl
theorem f80ok {args : List Value} {h : Heap} {R : Value → Heap → Prop} (hn : args.length ≤ 63) (H : wC Try.prog f80c0 (endW [.tmp 6] R) (envOf 0 args) h) : CallsH Try.prog 80 args h R :=
  fn_ok2 Try.func80 f80cmp hn H
theorem f80cal : callable Try.prog 80 = true := by kernel_rfl
section
variable {Q : X → Env → Heap → Prop} {σ : Env} {h : Heap}
theorem f80c13_eq : wC Try.prog f80c13 Q σ h = (wL Try.prog none f80r8 0 (fun σ h => Q .normal σ h) σ h) := rfl
theorem f80c14_eq : wC Try.prog f80c14 Q σ h = (wL Try.prog none f80r9 0 (fun σ h => Q .normal σ h) σ h) := rfl
theorem f80c12_eq : wC Try.prog f80c12 Q σ h = (bd (evO σ (.tmp 32)) fun v => bd (asB v) fun t => br t (wC Try.prog f80c13 (X.then (fun σ h => wC Try.prog f80c14 Q σ h) Q) σ h) (wC Try.prog f80c14 Q σ h)) := rfl
theorem f80c11_eq : wC Try.prog f80c11 Q σ h = (wL Try.prog none f80r7 0 (fun σ h => wC Try.prog f80c12 Q σ h) σ h) := rfl
theorem f80c17_eq : wC Try.prog f80c17 Q σ h = (wL Try.prog none f80r11 0 (fun σ h => Q .normal σ h) σ h) := rfl
theorem f80c16_eq : wC Try.prog f80c16 Q σ h = (bd (evO σ (.tmp 57)) fun v => bd (asB v) fun t => br t (wC Try.prog f80c17 Q σ h) (Q .normal σ h)) := rfl
theorem f80c15_eq : wC Try.prog f80c15 Q σ h = (wL Try.prog none f80r10 0 (fun σ h => wC Try.prog f80c16 Q σ h) σ h) := rfl
theorem f80c10_eq : wC Try.prog f80c10 Q σ h = (bd (evO σ (.tmp 31)) fun v => bd (asB v) fun t => br t (wC Try.prog f80c11 (X.then (fun σ h => wC Try.prog f80c15 Q σ h) Q) σ h) (wC Try.prog f80c15 Q σ h)) := rfl
theorem f80c9_eq : wC Try.prog f80c9 Q σ h = (wL Try.prog none f80r6 0 (fun σ h => wC Try.prog f80c10 Q σ h) σ h) := rfl
theorem f80c8_eq : wC Try.prog f80c8 Q σ h = (wL Try.prog none f80r5 0 (fun σ h => wC Try.prog f80c9 Q σ h) σ h) := rfl
theorem f80c18_eq : wC Try.prog f80c18 Q σ h = (wL Try.prog none f80r12 0 (fun σ h => Q .normal σ h) σ h) := rfl
theorem f80c7_eq : wC Try.prog f80c7 Q σ h = (wC Try.prog f80c8 (X.inBlock 1 (X.then (fun σ h => wC Try.prog f80c18 Q σ h) Q)) σ h) := rfl
theorem f80c6_eq : wC Try.prog f80c6 Q σ h = (bd (evO σ (.tmp 16)) fun v => bd (asB v) fun t => br t (wC Try.prog f80c7 Q σ h) (Q (.exit 0) σ h)) := rfl
theorem f80c5_eq : wC Try.prog f80c5 Q σ h = (wL Try.prog none f80r4 0 (fun σ h => wC Try.prog f80c6 Q σ h) σ h) := rfl
theorem f80c19_eq : wC Try.prog f80c19 Q σ h = (wL Try.prog none f80r13 0 (fun σ h => Q .ret σ h) σ h) := rfl
theorem f80c4_eq : wC Try.prog f80c4 Q σ h = (loopW (wC Try.prog f80c5) (X.inBlock 0 (X.then (fun σ h => wC Try.prog f80c19 Q σ h) Q)) σ h) := rfl
theorem f80c3_eq : wC Try.prog f80c3 Q σ h = (wL Try.prog none f80r3 0 (fun σ h => wC Try.prog f80c4 Q σ h) σ h) := rfl
theorem f80c2_eq : wC Try.prog f80c2 Q σ h = (wL Try.prog none f80r2 0 (fun σ h => wC Try.prog f80c3 Q σ h) σ h) := rfl
theorem f80c1_eq : wC Try.prog f80c1 Q σ h = (wL Try.prog none f80r1 0 (fun σ h => wC Try.prog f80c2 Q σ h) σ h) := rfl
theorem f80c0_eq : wC Try.prog f80c0 Q σ h = (wL Try.prog none f80r0 0 (fun σ h => wC Try.prog f80c1 Q σ h) σ h) := rfl
end
/-! ### f46: antipode/mvcc.Trim -/
def f46r0 : List I := [.op (.box 3 39 (.tmp 1)),
  .op (.mov 4 (.const (.slice none 0 0))),
  .kp [0, 3]]
def f46r1 : List I := [.op (.mov 5 (.const (.slice none 0 0))),
  .kp [0, 3, 5]]
def f46r2 : List I := [.op (.mov 9 (.tmp 0)),
  .op (.len 10 true (.tmp 9)),
  .op (.mov 11 (.const (.int .i64 0))),
  .kp [3, 5, 9, 10, 11]]
def f46r3 : List I := [.op (.bin 12 .lss (.tmp 11) (.tmp 10)),
  .kp [3, 5, 9, 10, 11, 12]]
def f46r4 : List I := [.op (.iad 13 12 (.tmp 9) (.tmp 11)),
  .op (.ld 14 (some 12) (.tmp 13)),
  .op (.new 7 103 [.string ⟨#[]⟩, .slice none 0 0, .bool false, .int .i64 0, .int .i64 0, .int .i64 0, .int .i64 0, .int .i64 0, .int .i64 0, .int .i64 0, .bool false, .string ⟨#[]⟩]),
  .op (.st 12 (.tmp 7) (.tmp 14)),
  .kp [3, 5, 7, 9, 10, 11]]
def f46r5 : List I := [.op (.ld 15 (some 12) (.tmp 7)),
  .op (.call (some 16) 84 [(.tmp 15)]),
  .op (.st 12 (.tmp 7) (.tmp 16)),
  .kp [3, 5, 7, 9, 10, 11]]
def f46r6 : List I := [.op (.fad 17 1 (.tmp 7)),
  .op (.ld 18 none (.tmp 17)),
  .op (.ld 19 (some 2) (.tmp 3)),
  .op (.call (some 20) 91 [(.tmp 18), (.tmp 19)]),
  .op (.mov 8 (.tmp 20)),
  .kp [3, 5, 7, 8, 9, 10, 11]]
def f46r7 : List I := [.op (.mov 21 (.tmp 8)),
  .op (.bin 22 .geq (.tmp 21) (.const (.int .i64 0))),
  .kp [3, 5, 7, 8, 9, 10, 11, 22]]
def f46r8 : List I := [.op (.fad 23 1 (.tmp 7)),
  .op (.ld 24 none (.tmp 23)),
  .op (.mov 25 (.tmp 8)),
  .op (.iad 26 4 (.tmp 24) (.tmp 25)),
  .op (.fad 27 2 (.tmp 26)),
  .op (.ld 28 none (.tmp 27)),
  .kp [3, 5, 7, 8, 9, 10, 11, 28]]
def f46r9 : List I := [.op (.mov 29 (.tmp 8)),
  .op (.bin 30 .add (.tmp 29) (.const (.int .i64 1))),
  .op (.mov 8 (.tmp 30)),
  .kp [3, 5, 7, 8, 9, 10, 11]]
def f46r10 : List I := [.op (.fad 31 1 (.tmp 7)),
  .op (.ld 32 none (.tmp 31)),
  .op (.mov 33 (.tmp 8)),
  .op (.slc 34 4 (.tmp 32) (some (.tmp 33)) none none),
  .op (.fad 35 1 (.tmp 7)),
  .op (.st 1 (.tmp 35) (.tmp 34)),
  .kp [3, 5, 7, 9, 10, 11]]
def f46r11 : List I := [.op (.fad 36 2 (.tmp 7)),
  .op (.ld 37 none (.tmp 36)),
  .op (.mov 38 (.tmp 37)),
  .sc 38 false 4,
  .g 38 false (.fad 39 1 (.tmp 7)),
  .g 38 false (.ld 40 none (.tmp 39)),
  .g 38 false (.len 41 true (.tmp 40)),
  .g 38 false (.bin 42 .gtr (.tmp 41) (.const (.int .i64 0))),
  .op (.pick 43 (.tmp 38) (.const (.bool true)) (.tmp 42)),
  .kp [3, 5, 7, 9, 10, 11, 43]]
def f46r12 : List I := [.op (.mov 44 (.tmp 5)),
  .op (.ld 45 (some 12) (.tmp 7)),
  .op (.bsl 46 103 1 [.string ⟨#[]⟩, .slice none 0 0, .bool false, .int .i64 0, .int .i64 0, .int .i64 0, .int .i64 0, .int .i64 0, .int .i64 0, .int .i64 0, .bool false, .string ⟨#[]⟩] [(0, 12, (.tmp 45))]),
  .op (.raw (some 47) ⟨(some 47), (.call ⟨(.builtin .append), #[(.tmp 44), (.tmp 46)], #[74, 74]⟩), 74, "mvcc.go:180", #[⟨0, .data⟩, ⟨2, .data⟩], none⟩),
  .op (.mov 5 (.tmp 47)),
  .kp [3, 5, 9, 10, 11]]
def f46r13 : List I := [.op (.bin 48 .add (.tmp 11) (.const (.int .i64 1))),
  .op (.mov 11 (.tmp 48)),
  .kp [3, 5, 9, 10, 11]]
def f46r14 : List I := [.op (.mov 49 (.tmp 5)),
  .op (.mov 4 (.tmp 49)),
  .kp [4]]
def f46c14 : C := (.reg f46r9)
def f46c15 : C := (.reg f46r10)
def f46c13 : C := (.seq (.cond (.tmp 28) f46c14 .skip) f46c15)
def f46c12 : C := (.seq (.reg f46r8) f46c13)
def f46c18 : C := (.reg f46r12)
def f46c17 : C := (.cond (.tmp 43) f46c18 .skip)
def f46c16 : C := (.seq (.reg f46r11) f46c17)
def f46c11 : C := (.seq (.cond (.tmp 22) f46c12 .skip) f46c16)
def f46c10 : C := (.seq (.reg f46r7) f46c11)
def f46c9 : C := (.seq (.reg f46r6) f46c10)
def f46c8 : C := (.seq (.reg f46r5) f46c9)
def f46c7 : C := (.seq (.reg f46r4) f46c8)
def f46c19 : C := (.reg f46r13)
def f46c6 : C := (.seq (.block 1 f46c7) f46c19)
def f46c5 : C := (.seq (.cond (.tmp 12) .skip (.exit 0)) f46c6)
def f46c4 : C := (.seq (.reg f46r3) f46c5)
def f46c20 : C := (.seq (.reg f46r14) .ret)
def f46c3 : C := (.seq (.block 0 (.loop f46c4)) f46c20)
def f46c2 : C := (.seq (.reg f46r2) f46c3)
def f46c1 : C := (.seq (.reg f46r1) f46c2)
def f46c0 : C := (.seq (.reg f46r0) f46c1)
theorem f46cmp : cmpF Try.prog Try.f46 [.l [.o 0, .o 1, .kp [0, 3]],
  .l [.o 0, .kp [0, 3, 5]],
  .l [.o 0, .o 1, .o 2, .kp [3, 5, 9, 10, 11]],
  .l [.o 0, .kp [3, 5, 9, 10, 11, 12]],
  .l [.o 0, .o 1, .o 2, .o 3, .kp [3, 5, 7, 9, 10, 11]],
  .l [.o 0, .o 1, .o 2, .kp [3, 5, 7, 9, 10, 11]],
  .l [.o 0, .o 1, .o 2, .o 3, .o 4, .kp [3, 5, 7, 8, 9, 10, 11]],
  .l [.o 0, .o 1, .kp [3, 5, 7, 8, 9, 10, 11, 22]],
  .l [.o 0, .o 1, .o 2, .o 3, .o 4, .o 5, .kp [3, 5, 7, 8, 9, 10, 11, 28]],
  .l [.o 0, .o 1, .o 2, .kp [3, 5, 7, 8, 9, 10, 11]],
  .l [.o 0, .o 1, .o 2, .o 3, .o 4, .o 5, .kp [3, 5, 7, 9, 10, 11]],
  .l [.o 0, .o 1, .o 2, .sc 38 false 4, .o 3, .o 4, .o 5, .o 6, .o 7, .kp [3, 5, 7, 9, 10, 11, 43]],
  .l [.o 0, .o 1, .o 2, .o 3, .o 4, .kp [3, 5, 9, 10, 11]],
  .l [.o 0, .o 1, .kp [3, 5, 9, 10, 11]],
  .l [.o 0, .o 1, .kp [4]]] = some (f46c0, [.tmp 4]) := by kernel_rfl
theorem f46ok {args : List Value} {h : Heap} {R : Value → Heap → Prop} (hn : args.length ≤ 50) (H : wC Try.prog f46c0 (endW [.tmp 4] R) (envOf 0 args) h) : CallsH Try.prog 46 args h R :=
  fn_ok2 Try.func46 f46cmp hn H
theorem f46cal : callable Try.prog 46 = true := by kernel_rfl
section
variable {Q : X → Env → Heap → Prop} {σ : Env} {h : Heap}
theorem f46c14_eq : wC Try.prog f46c14 Q σ h = (wL Try.prog none f46r9 0 (fun σ h => Q .normal σ h) σ h) := rfl
theorem f46c15_eq : wC Try.prog f46c15 Q σ h = (wL Try.prog none f46r10 0 (fun σ h => Q .normal σ h) σ h) := rfl
theorem f46c13_eq : wC Try.prog f46c13 Q σ h = (bd (evO σ (.tmp 28)) fun v => bd (asB v) fun t => br t (wC Try.prog f46c14 (X.then (fun σ h => wC Try.prog f46c15 Q σ h) Q) σ h) (wC Try.prog f46c15 Q σ h)) := rfl
theorem f46c12_eq : wC Try.prog f46c12 Q σ h = (wL Try.prog none f46r8 0 (fun σ h => wC Try.prog f46c13 Q σ h) σ h) := rfl
theorem f46c18_eq : wC Try.prog f46c18 Q σ h = (wL Try.prog none f46r12 0 (fun σ h => Q .normal σ h) σ h) := rfl
theorem f46c17_eq : wC Try.prog f46c17 Q σ h = (bd (evO σ (.tmp 43)) fun v => bd (asB v) fun t => br t (wC Try.prog f46c18 Q σ h) (Q .normal σ h)) := rfl
theorem f46c16_eq : wC Try.prog f46c16 Q σ h = (wL Try.prog none f46r11 0 (fun σ h => wC Try.prog f46c17 Q σ h) σ h) := rfl
theorem f46c11_eq : wC Try.prog f46c11 Q σ h = (bd (evO σ (.tmp 22)) fun v => bd (asB v) fun t => br t (wC Try.prog f46c12 (X.then (fun σ h => wC Try.prog f46c16 Q σ h) Q) σ h) (wC Try.prog f46c16 Q σ h)) := rfl
theorem f46c10_eq : wC Try.prog f46c10 Q σ h = (wL Try.prog none f46r7 0 (fun σ h => wC Try.prog f46c11 Q σ h) σ h) := rfl
theorem f46c9_eq : wC Try.prog f46c9 Q σ h = (wL Try.prog none f46r6 0 (fun σ h => wC Try.prog f46c10 Q σ h) σ h) := rfl
theorem f46c8_eq : wC Try.prog f46c8 Q σ h = (wL Try.prog none f46r5 0 (fun σ h => wC Try.prog f46c9 Q σ h) σ h) := rfl
theorem f46c7_eq : wC Try.prog f46c7 Q σ h = (wL Try.prog none f46r4 0 (fun σ h => wC Try.prog f46c8 Q σ h) σ h) := rfl
theorem f46c19_eq : wC Try.prog f46c19 Q σ h = (wL Try.prog none f46r13 0 (fun σ h => Q .normal σ h) σ h) := rfl
theorem f46c6_eq : wC Try.prog f46c6 Q σ h = (wC Try.prog f46c7 (X.inBlock 1 (X.then (fun σ h => wC Try.prog f46c19 Q σ h) Q)) σ h) := rfl
theorem f46c5_eq : wC Try.prog f46c5 Q σ h = (bd (evO σ (.tmp 12)) fun v => bd (asB v) fun t => br t (wC Try.prog f46c6 Q σ h) (Q (.exit 0) σ h)) := rfl
theorem f46c4_eq : wC Try.prog f46c4 Q σ h = (wL Try.prog none f46r3 0 (fun σ h => wC Try.prog f46c5 Q σ h) σ h) := rfl
theorem f46c20_eq : wC Try.prog f46c20 Q σ h = (wL Try.prog none f46r14 0 (fun σ h => Q .ret σ h) σ h) := rfl
theorem f46c3_eq : wC Try.prog f46c3 Q σ h = (loopW (wC Try.prog f46c4) (X.inBlock 0 (X.then (fun σ h => wC Try.prog f46c20 Q σ h) Q)) σ h) := rfl
theorem f46c2_eq : wC Try.prog f46c2 Q σ h = (wL Try.prog none f46r2 0 (fun σ h => wC Try.prog f46c3 Q σ h) σ h) := rfl
theorem f46c1_eq : wC Try.prog f46c1 Q σ h = (wL Try.prog none f46r1 0 (fun σ h => wC Try.prog f46c2 Q σ h) σ h) := rfl
theorem f46c0_eq : wC Try.prog f46c0 Q σ h = (wL Try.prog none f46r0 0 (fun σ h => wC Try.prog f46c1 Q σ h) σ h) := rfl
end
/-! ### f81: antipode/antipoderef8.Trim -/
def f81r0 : List I := [.op (.box 3 39 (.tmp 1)),
  .op (.mov 4 (.const (.slice none 0 0))),
  .kp [0, 3]]
def f81r1 : List I := [.op (.mov 5 (.const (.slice none 0 0))),
  .kp [0, 3, 5]]
def f81r2 : List I := [.op (.mov 10 (.tmp 0)),
  .op (.call (some 11) 48 [(.tmp 10)]),
  .op (.mov 6 (.tmp 11)),
  .kp [3, 5, 6]]
def f81r3 : List I := [.op (.mov 7 (.const (.int .i64 0))),
  .kp [3, 5, 6, 7]]
def f81r4 : List I := [.op (.mov 12 (.tmp 7)),
  .op (.mov 13 (.tmp 6)),
  .op (.len 14 true (.tmp 13)),
  .op (.bin 15 .lss (.tmp 12) (.tmp 14)),
  .kp [3, 5, 6, 7, 15]]
def f81r5 : List I := [.op (.mov 18 (.tmp 6)),
  .op (.mov 19 (.tmp 7)),
  .op (.iad 20 12 (.tmp 18) (.tmp 19)),
  .op (.ld 21 (some 12) (.tmp 20)),
  .op (.new 8 103 [.string ⟨#[]⟩, .slice none 0 0, .bool false, .int .i64 0, .int .i64 0, .int .i64 0, .int .i64 0, .int .i64 0, .int .i64 0, .int .i64 0, .bool false, .string ⟨#[]⟩]),
  .op (.st 12 (.tmp 8) (.tmp 21)),
  .kp [3, 5, 6, 7, 8]]
def f81r6 : List I := [.op (.mov 9 (.const (.int .i64 0))),
  .kp [3, 5, 6, 7, 8, 9]]
def f81r7 : List I := [.op (.mov 22 (.tmp 9)),
  .op (.fad 23 1 (.tmp 8)),
  .op (.ld 24 none (.tmp 23)),
  .op (.len 25 true (.tmp 24)),
  .op (.bin 26 .lss (.tmp 22) (.tmp 25)),
  .op (.mov 27 (.tmp 26)),
  .sc 27 true 9,
  .g 27 true (.ld 28 (some 2) (.tmp 3)),
  .g 27 true (.fad 29 1 (.tmp 8)),
  .g 27 true (.ld 30 none (.tmp 29)),
  .g 27 true (.mov 31 (.tmp 9)),
  .g 27 true (.iad 32 4 (.tmp 30) (.tmp 31)),
  .g 27 true (.fad 33 0 (.tmp 32)),
  .g 27 true (.ld 34 (some 2) (.tmp 33)),
  .g 27 true (.call (some 35) 42 [(.tmp 28), (.tmp 34)]),
  .g 27 true (.un 36 .not (.tmp 35)),
  .op (.pick 37 (.tmp 27) (.tmp 36) (.const (.bool false))),
  .kp [3, 5, 6, 7, 8, 9, 37]]
def f81r8 : List I := [.op (.mov 38 (.tmp 9)),
  .op (.bin 39 .add (.tmp 38) (.const (.int .i64 1))),
  .op (.mov 9 (.tmp 39)),
  .kp [3, 5, 6, 7, 8, 9]]
def f81r9 : List I := [.op (.mov 40 (.tmp 9)),
  .op (.bin 41 .gtr (.tmp 40) (.const (.int .i64 0))),
  .op (.mov 42 (.tmp 41)),
  .sc 42 true 8,
  .g 42 true (.fad 43 1 (.tmp 8)),
  .g 42 true (.ld 44 none (.tmp 43)),
  .g 42 true (.mov 45 (.tmp 9)),
  .g 42 true (.bin 46 .sub (.tmp 45) (.const (.int .i64 1))),
  .g 42 true (.iad 47 4 (.tmp 44) (.tmp 46)),
  .g 42 true (.fad 48 2 (.tmp 47)),
  .g 42 true (.ld 49 none (.tmp 48)),
  .g 42 true (.un 50 .not (.tmp 49)),
  .op (.pick 51 (.tmp 42) (.tmp 50) (.const (.bool false))),
  .kp [3, 5, 6, 7, 8, 9, 51]]
def f81r10 : List I := [.op (.mov 52 (.tmp 9)),
  .op (.bin 53 .sub (.tmp 52) (.const (.int .i64 1))),
  .op (.mov 9 (.tmp 53)),
  .kp [3, 5, 6, 7, 8, 9]]
def f81r11 : List I := [.op (.fad 54 1 (.tmp 8)),
  .op (.ld 55 none (.tmp 54)),
  .op (.mov 56 (.tmp 9)),
  .op (.slc 57 4 (.tmp 55) (some (.tmp 56)) none none),
  .op (.fad 58 1 (.tmp 8)),
  .op (.st 1 (.tmp 58) (.tmp 57)),
  .kp [3, 5, 6, 7, 8]]
def f81r12 : List I := [.op (.fad 59 2 (.tmp 8)),
  .op (.ld 60 none (.tmp 59)),
  .op (.mov 61 (.tmp 60)),
  .sc 61 false 4,
  .g 61 false (.fad 62 1 (.tmp 8)),
  .g 61 false (.ld 63 none (.tmp 62)),
  .g 61 false (.len 64 true (.tmp 63)),
  .g 61 false (.bin 65 .gtr (.tmp 64) (.const (.int .i64 0))),
  .op (.pick 66 (.tmp 61) (.const (.bool true)) (.tmp 65)),
  .kp [3, 5, 6, 7, 8, 66]]
def f81r13 : List I := [.op (.mov 67 (.tmp 5)),
  .op (.ld 68 (some 12) (.tmp 8)),
  .op (.bsl 69 103 1 [.string ⟨#[]⟩, .slice none 0 0, .bool false, .int .i64 0, .int .i64 0, .int .i64 0, .int .i64 0, .int .i64 0, .int .i64 0, .int .i64 0, .bool false, .string ⟨#[]⟩] [(0, 12, (.tmp 68))]),
  .op (.raw (some 70) ⟨(some 70), (.call ⟨(.builtin .append), #[(.tmp 67), (.tmp 69)], #[74, 74]⟩), 74, "ref.go:192", #[⟨0, .data⟩, ⟨2, .data⟩], none⟩),
  .op (.mov 5 (.tmp 70)),
  .kp [3, 5, 6, 7]]
def f81r14 : List I := [.op (.mov 16 (.tmp 7)),
  .op (.bin 17 .add (.tmp 16) (.const (.int .i64 1))),
  .op (.mov 7 (.tmp 17)),
  .kp [3, 5, 6, 7]]
def f81r15 : List I := [.op (.mov 71 (.tmp 5)),
  .op (.mov 4 (.tmp 71)),
  .kp [4]]
def f81c14 : C := (.reg f81r8)
def f81c13 : C := (.block 3 f81c14)
def f81c12 : C := (.seq (.cond (.tmp 37) .skip (.exit 2)) f81c13)
def f81c11 : C := (.seq (.drw f81r7) f81c12)
def f81c17 : C := (.reg f81r10)
def f81c21 : C := (.reg f81r13)
def f81c20 : C := (.cond (.tmp 66) f81c21 .skip)
def f81c19 : C := (.seq (.reg f81r12) f81c20)
def f81c18 : C := (.seq (.reg f81r11) f81c19)
def f81c16 : C := (.seq (.cond (.tmp 51) f81c17 .skip) f81c18)
def f81c15 : C := (.seq (.reg f81r9) f81c16)
def f81c10 : C := (.seq (.block 2 (.loop f81c11)) f81c15)
def f81c9 : C := (.seq (.reg f81r6) f81c10)
def f81c8 : C := (.seq (.reg f81r5) f81c9)
def f81c22 : C := (.reg f81r14)
def f81c7 : C := (.seq (.block 1 f81c8) f81c22)
def f81c6 : C := (.seq (.cond (.tmp 15) .skip (.exit 0)) f81c7)
def f81c5 : C := (.seq (.reg f81r4) f81c6)
def f81c23 : C := (.seq (.reg f81r15) .ret)
def f81c4 : C := (.seq (.block 0 (.loop f81c5)) f81c23)
def f81c3 : C := (.seq (.reg f81r3) f81c4)
def f81c2 : C := (.seq (.reg f81r2) f81c3)
def f81c1 : C := (.seq (.reg f81r1) f81c2)
def f81c0 : C := (.seq (.reg f81r0) f81c1)
theorem f81cmp : cmpF Try.prog Try.f81 [.l [.o 0, .o 1, .kp [0, 3]],
  .l [.o 0, .kp [0, 3, 5]],
  .l [.o 0, .o 1, .o 2, .kp [3, 5, 6]],
  .l [.o 0, .kp [3, 5, 6, 7]],
  .l [.o 0, .o 1, .o 2, .o 3, .kp [3, 5, 6, 7, 15]],
  .l [.o 0, .o 1, .o 2, .o 3, .o 4, .o 5, .kp [3, 5, 6, 7, 8]],
  .l [.o 0, .kp [3, 5, 6, 7, 8, 9]],
  .l [.o 0, .o 1, .o 2, .o 3, .o 4, .o 5, .sc 27 true 9, .o 6, .o 7, .o 8, .o 9, .o 10, .o 11, .o 12, .o 13, .o 14, .o 15, .kp [3, 5, 6, 7, 8, 9, 37]],
  .l [.o 0, .o 1, .o 2, .kp [3, 5, 6, 7, 8, 9]],
  .l [.o 0, .o 1, .o 2, .sc 42 true 8, .o 3, .o 4, .o 5, .o 6, .o 7, .o 8, .o 9, .o 10, .o 11, .kp [3, 5, 6, 7, 8, 9, 51]],
  .l [.o 0, .o 1, .o 2, .kp [3, 5, 6, 7, 8, 9]],
  .l [.o 0, .o 1, .o 2, .o 3, .o 4, .o 5, .kp [3, 5, 6, 7, 8]],
  .l [.o 0, .o 1, .o 2, .sc 61 false 4, .o 3, .o 4, .o 5, .o 6, .o 7, .kp [3, 5, 6, 7, 8, 66]],
  .l [.o 0, .o 1, .o 2, .o 3, .o 4, .kp [3, 5, 6, 7]],
  .l [.o 0, .o 1, .o 2, .kp [3, 5, 6, 7]],
  .l [.o 0, .o 1, .kp [4]]] = some (f81c0, [.tmp 4]) := by kernel_rfl
theorem f81ok {args : List Value} {h : Heap} {R : Value → Heap → Prop} (hn : args.length ≤ 72) (H : wC Try.prog f81c0 (endW [.tmp 4] R) (envOf 0 args) h) : CallsH Try.prog 81 args h R :=
  fn_ok2 Try.func81 f81cmp hn H
theorem f81cal : callable Try.prog 81 = true := by kernel_rfl
section
variable {Q : X → Env → Heap → Prop} {σ : Env} {h : Heap}
theorem f81c14_eq : wC Try.prog f81c14 Q σ h = (wL Try.prog none f81r8 0 (fun σ h => Q .normal σ h) σ h) := rfl
theorem f81c13_eq : wC Try.prog f81c13 Q σ h = (wC Try.prog f81c14 (X.inBlock 3 Q) σ h) := rfl
theorem f81c12_eq : wC Try.prog f81c12 Q σ h = (bd (evO σ (.tmp 37)) fun v => bd (asB v) fun t => br t (wC Try.prog f81c13 Q σ h) (Q (.exit 2) σ h)) := rfl
theorem f81c11_eq : wC Try.prog f81c11 Q σ h = (drwW Try.prog f81r7 (fun σ h => wC Try.prog f81c12 Q σ h) σ h) := rfl
theorem f81c17_eq : wC Try.prog f81c17 Q σ h = (wL Try.prog none f81r10 0 (fun σ h => Q .normal σ h) σ h) := rfl
theorem f81c21_eq : wC Try.prog f81c21 Q σ h = (wL Try.prog none f81r13 0 (fun σ h => Q .normal σ h) σ h) := rfl
theorem f81c20_eq : wC Try.prog f81c20 Q σ h = (bd (evO σ (.tmp 66)) fun v => bd (asB v) fun t => br t (wC Try.prog f81c21 Q σ h) (Q .normal σ h)) := rfl
theorem f81c19_eq : wC Try.prog f81c19 Q σ h = (wL Try.prog none f81r12 0 (fun σ h => wC Try.prog f81c20 Q σ h) σ h) := rfl
theorem f81c18_eq : wC Try.prog f81c18 Q σ h = (wL Try.prog none f81r11 0 (fun σ h => wC Try.prog f81c19 Q σ h) σ h) := rfl
theorem f81c16_eq : wC Try.prog f81c16 Q σ h = (bd (evO σ (.tmp 51)) fun v => bd (asB v) fun t => br t (wC Try.prog f81c17 (X.then (fun σ h => wC Try.prog f81c18 Q σ h) Q) σ h) (wC Try.prog f81c18 Q σ h)) := rfl
theorem f81c15_eq : wC Try.prog f81c15 Q σ h = (wL Try.prog none f81r9 0 (fun σ h => wC Try.prog f81c16 Q σ h) σ h) := rfl
theorem f81c10_eq : wC Try.prog f81c10 Q σ h = (loopW (wC Try.prog f81c11) (X.inBlock 2 (X.then (fun σ h => wC Try.prog f81c15 Q σ h) Q)) σ h) := rfl
theorem f81c9_eq : wC Try.prog f81c9 Q σ h = (wL Try.prog none f81r6 0 (fun σ h => wC Try.prog f81c10 Q σ h) σ h) := rfl
theorem f81c8_eq : wC Try.prog f81c8 Q σ h = (wL Try.prog none f81r5 0 (fun σ h => wC Try.prog f81c9 Q σ h) σ h) := rfl
theorem f81c22_eq : wC Try.prog f81c22 Q σ h = (wL Try.prog none f81r14 0 (fun σ h => Q .normal σ h) σ h) := rfl
theorem f81c7_eq : wC Try.prog f81c7 Q σ h = (wC Try.prog f81c8 (X.inBlock 1 (X.then (fun σ h => wC Try.prog f81c22 Q σ h) Q)) σ h) := rfl
theorem f81c6_eq : wC Try.prog f81c6 Q σ h = (bd (evO σ (.tmp 15)) fun v => bd (asB v) fun t => br t (wC Try.prog f81c7 Q σ h) (Q (.exit 0) σ h)) := rfl
theorem f81c5_eq : wC Try.prog f81c5 Q σ h = (wL Try.prog none f81r4 0 (fun σ h => wC Try.prog f81c6 Q σ h) σ h) := rfl
theorem f81c23_eq : wC Try.prog f81c23 Q σ h = (wL Try.prog none f81r15 0 (fun σ h => Q .ret σ h) σ h) := rfl
theorem f81c4_eq : wC Try.prog f81c4 Q σ h = (loopW (wC Try.prog f81c5) (X.inBlock 0 (X.then (fun σ h => wC Try.prog f81c23 Q σ h) Q)) σ h) := rfl
theorem f81c3_eq : wC Try.prog f81c3 Q σ h = (wL Try.prog none f81r3 0 (fun σ h => wC Try.prog f81c4 Q σ h) σ h) := rfl
theorem f81c2_eq : wC Try.prog f81c2 Q σ h = (wL Try.prog none f81r2 0 (fun σ h => wC Try.prog f81c3 Q σ h) σ h) := rfl
theorem f81c1_eq : wC Try.prog f81c1 Q σ h = (wL Try.prog none f81r1 0 (fun σ h => wC Try.prog f81c2 Q σ h) σ h) := rfl
theorem f81c0_eq : wC Try.prog f81c0 Q σ h = (wL Try.prog none f81r0 0 (fun σ h => wC Try.prog f81c1 Q σ h) σ h) := rfl
end
end Go.Proofs.Ytefghfgmkndikaa
