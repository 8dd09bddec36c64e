/-
  By a program of mine (wip/tools/gen.py): the code of functions of the seat in the small instruction language, and that it is their code.
-/
import Derived.Test.YtefghfgmkndikaaFM
import Derived.Test.YtefghfgmkndikaaProg
set_option linter.unusedSimpArgs false
set_option linter.unusedVariables false
namespace Go.Proofs.Ytefghfgmkndikaa
open Go.AX
set_option maxRecDepth 100000
/-! ### f9: antipode/antipodelaw8.MvccFree -/
def f9r0 : List I := [.op (.box 4 70 (.tmp 1)),
  .op (.box 5 72 (.tmp 2)),
  .op (.mov 6 (.const (.bool false))),
  .kp [0, 4, 5]]
def f9r1 : List I := [.op (.call (some 14) 35 []),
  .op (.un 15 .not (.tmp 14)),
  .kp [0, 4, 5, 15]]
def f9r2 : List I := [.op (.mov 6 (.const (.bool false))),
  .kp [6]]
def f9r3a : List I := [.op (.mov 25 (.tmp 24)),
  .sc 25 false 4,
  .g 25 false (.fad 26 2 (.tmp 4)),
  .g 25 false (.ld 27 none (.tmp 26)),
  .g 25 false (.len 28 false (.tmp 27)),
  .g 25 false (.bin 29 .gtr (.tmp 28) (.const (.int .i64 200))),
  .op (.pick 30 (.tmp 25) (.const (.bool true)) (.tmp 29)),
  .kp [30, 0, 4, 5]]
def f9r3 : List I := .op (.mov 16 (.tmp 0)) ::
  .op (.call (some 17) 36 [(.tmp 16), (.const (.int .i64 40))]) ::
  .op (.un 18 .not (.tmp 17)) ::
  .op (.mov 19 (.tmp 18)) ::
  .sc 19 false 4 ::
  .g 19 false (.fad 20 0 (.tmp 4)) ::
  .g 19 false (.ld 21 none (.tmp 20)) ::
  .g 19 false (.len 22 false (.tmp 21)) ::
  .g 19 false (.bin 23 .gtr (.tmp 22) (.const (.int .i64 50))) ::
  .op (.pick 24 (.tmp 19) (.const (.bool true)) (.tmp 23)) ::
  .kp [24, 0, 4, 5] ::
  f9r3a
def f9r4 : List I := [.op (.mov 6 (.const (.bool true))),
  .kp [6]]
def f9r5 : List I := [.op (.mov 7 (.const (.slice none 0 0))),
  .kp [0, 4, 5, 7]]
def f9r6 : List I := [.op (.mov 8 (.const (.int .i64 0))),
  .kp [0, 4, 5, 7, 8]]
def f9r7 : List I := [.op (.mov 31 (.tmp 8)),
  .op (.mov 32 (.tmp 0)),
  .op (.len 33 true (.tmp 32)),
  .op (.bin 34 .lss (.tmp 31) (.tmp 33)),
  .kp [0, 4, 5, 7, 8, 34]]
def f9r8 : List I := [.op (.mov 38 (.tmp 7)),
  .op (.mov 39 (.tmp 0)),
  .op (.mov 40 (.tmp 8)),
  .op (.iad 41 14 (.tmp 39) (.tmp 40)),
  .op (.ld 42 (some 14) (.tmp 41)),
  .op (.call (some 43) 37 [(.tmp 38), (.tmp 42)]),
  .op (.mov 37 (.tmp 43)),
  .op (.ext 44 (.tmp 37) 0),
  .op (.ext 45 (.tmp 37) 1),
  .op (.mov 7 (.tmp 44)),
  .kp [0, 4, 5, 7, 8]]
def f9r9 : List I := [.op (.mov 35 (.tmp 8)),
  .op (.bin 36 .add (.tmp 35) (.const (.int .i64 1))),
  .op (.mov 8 (.tmp 36)),
  .kp [0, 4, 5, 7, 8]]
def f9r10 : List I := [.op (.mov 47 (.tmp 7)),
  .op (.fad 48 0 (.tmp 4)),
  .op (.ld 49 none (.tmp 48)),
  .op (.call (some 50) 44 [(.tmp 47), (.tmp 49)]),
  .op (.mov 46 (.tmp 50)),
  .op (.ext 51 (.tmp 46) 0),
  .op (.ext 52 (.tmp 46) 1),
  .op (.new 9 72 [.int .i64 0, .int .i64 0, .int .i64 0, .int .i64 0, .int .i64 0, .int .i64 0, .int .i64 0, .bool false, .string ⟨#[]⟩]),
  .op (.st 9 (.tmp 9) (.tmp 51)),
  .op (.mov 10 (.tmp 52)),
  .kp [4, 5, 7, 10]]
def f9r11 : List I := [.op (.mov 53 (.tmp 7)),
  .op (.ld 54 (some 3) (.tmp 4)),
  .op (.ld 55 (some 9) (.tmp 5)),
  .op (.call (some 56) 40 [(.tmp 53), (.tmp 54), (.tmp 55)]),
  .op (.mov 11 (.tmp 56)),
  .kp [4, 5, 7, 10, 11]]
def f9r12 : List I := [.op (.mov 58 (.tmp 11)),
  .op (.fad 59 0 (.tmp 4)),
  .op (.ld 60 none (.tmp 59)),
  .op (.call (some 61) 44 [(.tmp 58), (.tmp 60)]),
  .op (.mov 57 (.tmp 61)),
  .op (.ext 62 (.tmp 57) 0),
  .op (.ext 63 (.tmp 57) 1),
  .op (.new 12 72 [.int .i64 0, .int .i64 0, .int .i64 0, .int .i64 0, .int .i64 0, .int .i64 0, .int .i64 0, .bool false, .string ⟨#[]⟩]),
  .op (.st 9 (.tmp 12) (.tmp 62)),
  .op (.mov 13 (.tmp 63)),
  .kp [4, 5, 7, 10, 11, 12, 13]]
def f9r13d : List I := [.op (.mov 94 (.tmp 93)),
  .sc 94 false 3,
  .g 94 false (.mov 95 (.tmp 11)),
  .g 94 false (.call (some 96) 45 [(.tmp 95)]),
  .g 94 false (.un 97 .not (.tmp 96)),
  .op (.pick 98 (.tmp 94) (.const (.bool true)) (.tmp 97)),
  .kp [98, 5, 7, 10, 11]]
def f9r13c : List I := .op (.mov 87 (.tmp 86)) ::
  .sc 87 false 5 ::
  .g 87 false (.fad 88 7 (.tmp 12)) ::
  .g 87 false (.ld 89 none (.tmp 88)) ::
  .g 87 false (.fad 90 1 (.tmp 4)) ::
  .g 87 false (.ld 91 none (.tmp 90)) ::
  .g 87 false (.eqb 92 true (.tmp 89) (.tmp 91)) ::
  .op (.pick 93 (.tmp 87) (.const (.bool true)) (.tmp 92)) ::
  .kp [93, 5, 7, 10, 11] ::
  f9r13d
def f9r13b : List I := .op (.mov 80 (.tmp 79)) ::
  .sc 80 false 5 ::
  .g 80 false (.fad 81 4 (.tmp 12)) ::
  .g 80 false (.ld 82 none (.tmp 81)) ::
  .g 80 false (.fad 83 4 (.tmp 5)) ::
  .g 80 false (.ld 84 none (.tmp 83)) ::
  .g 80 false (.bin 85 .neq (.tmp 82) (.tmp 84)) ::
  .op (.pick 86 (.tmp 80) (.const (.bool true)) (.tmp 85)) ::
  .kp [86, 4, 5, 7, 10, 11, 12] ::
  f9r13c
def f9r13a : List I := .op (.mov 73 (.tmp 72)) ::
  .sc 73 false 5 ::
  .g 73 false (.fad 74 5 (.tmp 12)) ::
  .g 73 false (.ld 75 (some 2) (.tmp 74)) ::
  .g 73 false (.fad 76 5 (.tmp 5)) ::
  .g 73 false (.ld 77 (some 2) (.tmp 76)) ::
  .g 73 false (.eqa 78 true [.i .i64, .i .i64] (.tmp 75) (.tmp 77)) ::
  .op (.pick 79 (.tmp 73) (.const (.bool true)) (.tmp 78)) ::
  .kp [79, 4, 5, 7, 10, 11, 12] ::
  f9r13b
def f9r13 : List I := .op (.mov 64 (.tmp 13)) ::
  .op (.un 65 .not (.tmp 64)) ::
  .op (.mov 66 (.tmp 65)) ::
  .sc 66 false 5 ::
  .g 66 false (.fad 67 0 (.tmp 12)) ::
  .g 66 false (.ld 68 (some 4) (.tmp 67)) ::
  .g 66 false (.fad 69 0 (.tmp 5)) ::
  .g 66 false (.ld 70 (some 4) (.tmp 69)) ::
  .g 66 false (.eqa 71 true [.i .i64, .i .i64, .i .i64, .i .i64] (.tmp 68) (.tmp 70)) ::
  .op (.pick 72 (.tmp 66) (.const (.bool true)) (.tmp 71)) ::
  .kp [72, 4, 5, 7, 10, 11, 12] ::
  f9r13a
def f9r14 : List I := [.op (.mov 6 (.const (.bool false))),
  .kp [6]]
def f9r15b : List I := [.op (.mov 6 (.tmp 113)),
  .kp [6]]
def f9r15a : List I := .op (.mov 106 (.tmp 105)) ::
  .sc 106 false 6 ::
  .g 106 false (.mov 107 (.tmp 11)) ::
  .g 106 false (.fad 108 0 (.tmp 5)) ::
  .g 106 false (.ld 109 (some 4) (.tmp 108)) ::
  .g 106 false (.call (some 110) 39 [(.tmp 107), (.tmp 109), (.const (.bool false))]) ::
  .g 106 false (.mov 111 (.tmp 7)) ::
  .g 106 false (.call (some 112) 43 [(.tmp 110), (.tmp 111)]) ::
  .op (.pick 113 (.tmp 106) (.const (.bool true)) (.tmp 112)) ::
  .kp [113] ::
  f9r15b
def f9r15 : List I := .op (.mov 99 (.tmp 10)) ::
  .op (.mov 100 (.tmp 99)) ::
  .sc 100 false 4 ::
  .g 100 false (.mov 101 (.tmp 7)) ::
  .g 100 false (.fad 102 0 (.tmp 5)) ::
  .g 100 false (.ld 103 (some 4) (.tmp 102)) ::
  .g 100 false (.call (some 104) 38 [(.tmp 101), (.tmp 103)]) ::
  .op (.pick 105 (.tmp 100) (.const (.bool true)) (.tmp 104)) ::
  .kp [105, 5, 7, 11] ::
  f9r15a
def f9c3 : C := (.seq (.reg f9r2) .ret)
def f9c6 : C := (.seq (.reg f9r4) .ret)
def f9c13 : C := (.reg f9r8)
def f9c14 : C := (.reg f9r9)
def f9c12 : C := (.seq (.block 1 f9c13) f9c14)
def f9c11 : C := (.seq (.cond (.tmp 34) .skip (.exit 0)) f9c12)
def f9c10 : C := (.seq (.reg f9r7) f9c11)
def f9c20 : C := (.seq (.reg f9r14) .ret)
def f9c21 : C := (.seq (.reg f9r15) .ret)
def f9c19 : C := (.seq (.cond (.tmp 98) f9c20 .skip) f9c21)
def f9c18 : C := (.seq (.reg f9r13) f9c19)
def f9c17 : C := (.seq (.reg f9r12) f9c18)
def f9c16 : C := (.seq (.reg f9r11) f9c17)
def f9c15 : C := (.seq (.reg f9r10) f9c16)
def f9c9 : C := (.seq (.block 0 (.loop f9c10)) f9c15)
def f9c8 : C := (.seq (.reg f9r6) f9c9)
def f9c7 : C := (.seq (.reg f9r5) f9c8)
def f9c5 : C := (.seq (.cond (.tmp 30) f9c6 .skip) f9c7)
def f9c4 : C := (.seq (.reg f9r3) f9c5)
def f9c2 : C := (.seq (.cond (.tmp 15) f9c3 .skip) f9c4)
def f9c1 : C := (.seq (.reg f9r1) f9c2)
def f9c0 : C := (.seq (.reg f9r0) f9c1)
theorem f9cmp : cmpF Try.prog Try.f9 [.l [.o 0, .o 1, .o 2, .kp [0, 4, 5]],
  .l [.o 0, .o 1, .kp [0, 4, 5, 15]],
  .l [.o 0, .kp [6]],
  .l [.o 0, .o 1, .o 2, .o 3, .sc 19 false 4, .o 4, .o 5, .o 6, .o 7, .o 8, .kp [24, 0, 4, 5], .o 9, .sc 25 false 4, .o 10, .o 11, .o 12, .o 13, .o 14, .kp [30, 0, 4, 5]],
  .l [.o 0, .kp [6]],
  .l [.o 0, .kp [0, 4, 5, 7]],
  .l [.o 0, .kp [0, 4, 5, 7, 8]],
  .l [.o 0, .o 1, .o 2, .o 3, .kp [0, 4, 5, 7, 8, 34]],
  .l [.o 0, .o 1, .o 2, .o 3, .o 4, .o 5, .o 6, .o 7, .o 8, .o 9, .kp [0, 4, 5, 7, 8]],
  .l [.o 0, .o 1, .o 2, .kp [0, 4, 5, 7, 8]],
  .l [.o 0, .o 1, .o 2, .o 3, .o 4, .o 5, .o 6, .o 7, .o 8, .o 9, .kp [4, 5, 7, 10]],
  .l [.o 0, .o 1, .o 2, .o 3, .o 4, .kp [4, 5, 7, 10, 11]],
  .l [.o 0, .o 1, .o 2, .o 3, .o 4, .o 5, .o 6, .o 7, .o 8, .o 9, .kp [4, 5, 7, 10, 11, 12, 13]],
  .l [.o 0, .o 1, .o 2, .sc 66 false 5, .o 3, .o 4, .o 5, .o 6, .o 7, .o 8, .kp [72, 4, 5, 7, 10, 11, 12], .o 9, .sc 73 false 5, .o 10, .o 11, .o 12, .o 13, .o 14, .o 15, .kp [79, 4, 5, 7, 10, 11, 12], .o 16, .sc 80 false 5, .o 17, .o 18, .o 19, .o 20, .o 21, .o 22, .kp [86, 4, 5, 7, 10, 11, 12], .o 23, .sc 87 false 5, .o 24, .o 25, .o 26, .o 27, .o 28, .o 29, .kp [93, 5, 7, 10, 11], .o 30, .sc 94 false 3, .o 31, .o 32, .o 33, .o 34, .kp [98, 5, 7, 10, 11]],
  .l [.o 0, .kp [6]],
  .l [.o 0, .o 1, .sc 100 false 4, .o 2, .o 3, .o 4, .o 5, .o 6, .kp [105, 5, 7, 11], .o 7, .sc 106 false 6, .o 8, .o 9, .o 10, .o 11, .o 12, .o 13, .o 14, .kp [113], .o 15, .kp [6]]] = some (f9c0, [.tmp 6]) := by kernel_rfl
theorem f9ok {args : List Value} {h : Heap} {R : Value → Heap → Prop} (hn : args.length ≤ 114) (H : wC Try.prog f9c0 (endW [.tmp 6] R) (envOf 0 args) h) : CallsH Try.prog 9 args h R :=
  fn_ok2 Try.func9 f9cmp hn H
theorem f9cal : callable Try.prog 9 = true := by kernel_rfl
section
variable {Q : X → Env → Heap → Prop} {σ : Env} {h : Heap}
theorem f9c3_eq : wC Try.prog f9c3 Q σ h = (wL Try.prog none f9r2 0 (fun σ h => Q .ret σ h) σ h) := rfl
theorem f9c6_eq : wC Try.prog f9c6 Q σ h = (wL Try.prog none f9r4 0 (fun σ h => Q .ret σ h) σ h) := rfl
theorem f9c13_eq : wC Try.prog f9c13 Q σ h = (wL Try.prog none f9r8 0 (fun σ h => Q .normal σ h) σ h) := rfl
theorem f9c14_eq : wC Try.prog f9c14 Q σ h = (wL Try.prog none f9r9 0 (fun σ h => Q .normal σ h) σ h) := rfl
theorem f9c12_eq : wC Try.prog f9c12 Q σ h = (wC Try.prog f9c13 (X.inBlock 1 (X.then (fun σ h => wC Try.prog f9c14 Q σ h) Q)) σ h) := rfl
theorem f9c11_eq : wC Try.prog f9c11 Q σ h = (bd (evO σ (.tmp 34)) fun v => bd (asB v) fun t => br t (wC Try.prog f9c12 Q σ h) (Q (.exit 0) σ h)) := rfl
theorem f9c10_eq : wC Try.prog f9c10 Q σ h = (wL Try.prog none f9r7 0 (fun σ h => wC Try.prog f9c11 Q σ h) σ h) := rfl
theorem f9c20_eq : wC Try.prog f9c20 Q σ h = (wL Try.prog none f9r14 0 (fun σ h => Q .ret σ h) σ h) := rfl
theorem f9c21_eq : wC Try.prog f9c21 Q σ h = (wL Try.prog none f9r15 0 (fun σ h => Q .ret σ h) σ h) := rfl
theorem f9c19_eq : wC Try.prog f9c19 Q σ h = (bd (evO σ (.tmp 98)) fun v => bd (asB v) fun t => br t (wC Try.prog f9c20 (X.then (fun σ h => wC Try.prog f9c21 Q σ h) Q) σ h) (wC Try.prog f9c21 Q σ h)) := rfl
theorem f9c18_eq : wC Try.prog f9c18 Q σ h = (wL Try.prog none f9r13 0 (fun σ h => wC Try.prog f9c19 Q σ h) σ h) := rfl
theorem f9c17_eq : wC Try.prog f9c17 Q σ h = (wL Try.prog none f9r12 0 (fun σ h => wC Try.prog f9c18 Q σ h) σ h) := rfl
theorem f9c16_eq : wC Try.prog f9c16 Q σ h = (wL Try.prog none f9r11 0 (fun σ h => wC Try.prog f9c17 Q σ h) σ h) := rfl
theorem f9c15_eq : wC Try.prog f9c15 Q σ h = (wL Try.prog none f9r10 0 (fun σ h => wC Try.prog f9c16 Q σ h) σ h) := rfl
theorem f9c9_eq : wC Try.prog f9c9 Q σ h = (loopW (wC Try.prog f9c10) (X.inBlock 0 (X.then (fun σ h => wC Try.prog f9c15 Q σ h) Q)) σ h) := rfl
theorem f9c8_eq : wC Try.prog f9c8 Q σ h = (wL Try.prog none f9r6 0 (fun σ h => wC Try.prog f9c9 Q σ h) σ h) := rfl
theorem f9c7_eq : wC Try.prog f9c7 Q σ h = (wL Try.prog none f9r5 0 (fun σ h => wC Try.prog f9c8 Q σ h) σ h) := rfl
theorem f9c5_eq : wC Try.prog f9c5 Q σ h = (bd (evO σ (.tmp 30)) fun v => bd (asB v) fun t => br t (wC Try.prog f9c6 (X.then (fun σ h => wC Try.prog f9c7 Q σ h) Q) σ h) (wC Try.prog f9c7 Q σ h)) := rfl
theorem f9c4_eq : wC Try.prog f9c4 Q σ h = (wL Try.prog none f9r3 0 (fun σ h => wC Try.prog f9c5 Q σ h) σ h) := rfl
theorem f9c2_eq : wC Try.prog f9c2 Q σ h = (bd (evO σ (.tmp 15)) fun v => bd (asB v) fun t => br t (wC Try.prog f9c3 (X.then (fun σ h => wC Try.prog f9c4 Q σ h) Q) σ h) (wC Try.prog f9c4 Q σ h)) := rfl
theorem f9c1_eq : wC Try.prog f9c1 Q σ h = (wL Try.prog none f9r1 0 (fun σ h => wC Try.prog f9c2 Q σ h) σ h) := rfl
theorem f9c0_eq : wC Try.prog f9c0 Q σ h = (wL Try.prog none f9r0 0 (fun σ h => wC Try.prog f9c1 Q σ h) σ h) := rfl
end
end Go.Proofs.Ytefghfgmkndikaa
