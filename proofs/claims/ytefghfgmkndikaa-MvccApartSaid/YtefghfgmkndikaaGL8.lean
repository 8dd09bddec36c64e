/-
  By a program of mine (wip/tools/gen.py): the code of functions of the seat in the small instruction language, and that it is their code.
-/
import Derived.Test.YtefghfgmkndikaaFM
import Derived.Test.YtefghfgmkndikaaProg
set_option linter.unusedSimpArgs false
set_option linter.unusedVariables false
namespace Go.Proofs.Ytefghfgmkndikaa
open Go.AX
set_option maxRecDepth 100000
/-! ### f8: antipode/antipodelaw8.MvccApart -/
def f8r0 : List I := [.op (.box 7 70 (.tmp 1)),
  .op (.box 8 72 (.tmp 2)),
  .op (.box 11 39 (.tmp 5)),
  .op (.mov 12 (.const (.bool false))),
  .kp [0, 3, 4, 7, 8, 11]]
def f8r1 : List I := [.op (.call (some 25) 35 []),
  .op (.un 26 .not (.tmp 25)),
  .kp [0, 3, 4, 7, 8, 11, 26]]
def f8r2 : List I := [.op (.mov 12 (.const (.bool false))),
  .kp [12]]
def f8r3c : List I := [.op (.mov 48 (.tmp 47)),
  .sc 48 false 3,
  .g 48 false (.mov 49 (.tmp 4)),
  .g 48 false (.len 50 false (.tmp 49)),
  .g 48 false (.bin 51 .gtr (.tmp 50) (.const (.int .i64 100))),
  .op (.pick 52 (.tmp 48) (.const (.bool true)) (.tmp 51)),
  .kp [52, 0, 3, 4, 7, 8, 11]]
def f8r3b : List I := .op (.mov 42 (.tmp 41)) ::
  .sc 42 false 4 ::
  .g 42 false (.mov 43 (.tmp 4)) ::
  .g 42 false (.fad 44 0 (.tmp 7)) ::
  .g 42 false (.ld 45 none (.tmp 44)) ::
  .g 42 false (.bin 46 .eql (.tmp 43) (.tmp 45)) ::
  .op (.pick 47 (.tmp 42) (.const (.bool true)) (.tmp 46)) ::
  .kp [47, 0, 3, 4, 7, 8, 11] ::
  f8r3c
def f8r3a : List I := .op (.mov 36 (.tmp 35)) ::
  .sc 36 false 4 ::
  .g 36 false (.fad 37 2 (.tmp 7)) ::
  .g 36 false (.ld 38 none (.tmp 37)) ::
  .g 36 false (.len 39 false (.tmp 38)) ::
  .g 36 false (.bin 40 .gtr (.tmp 39) (.const (.int .i64 200))) ::
  .op (.pick 41 (.tmp 36) (.const (.bool true)) (.tmp 40)) ::
  .kp [41, 0, 3, 4, 7, 8, 11] ::
  f8r3b
def f8r3 : List I := .op (.mov 27 (.tmp 0)) ::
  .op (.call (some 28) 36 [(.tmp 27), (.const (.int .i64 40))]) ::
  .op (.un 29 .not (.tmp 28)) ::
  .op (.mov 30 (.tmp 29)) ::
  .sc 30 false 4 ::
  .g 30 false (.fad 31 0 (.tmp 7)) ::
  .g 30 false (.ld 32 none (.tmp 31)) ::
  .g 30 false (.len 33 false (.tmp 32)) ::
  .g 30 false (.bin 34 .gtr (.tmp 33) (.const (.int .i64 50))) ::
  .op (.pick 35 (.tmp 30) (.const (.bool true)) (.tmp 34)) ::
  .kp [35, 0, 3, 4, 7, 8, 11] ::
  f8r3a
def f8r4 : List I := [.op (.mov 12 (.const (.bool true))),
  .kp [12]]
def f8r5 : List I := [.op (.mov 13 (.const (.slice none 0 0))),
  .kp [0, 3, 4, 7, 8, 11, 13]]
def f8r6 : List I := [.op (.mov 14 (.const (.int .i64 0))),
  .kp [0, 3, 4, 7, 8, 11, 13, 14]]
def f8r7 : List I := [.op (.mov 53 (.tmp 14)),
  .op (.mov 54 (.tmp 0)),
  .op (.len 55 true (.tmp 54)),
  .op (.bin 56 .lss (.tmp 53) (.tmp 55)),
  .kp [0, 3, 4, 7, 8, 11, 13, 14, 56]]
def f8r8 : List I := [.op (.mov 60 (.tmp 13)),
  .op (.mov 61 (.tmp 0)),
  .op (.mov 62 (.tmp 14)),
  .op (.iad 63 14 (.tmp 61) (.tmp 62)),
  .op (.ld 64 (some 14) (.tmp 63)),
  .op (.call (some 65) 37 [(.tmp 60), (.tmp 64)]),
  .op (.mov 59 (.tmp 65)),
  .op (.ext 66 (.tmp 59) 0),
  .op (.ext 67 (.tmp 59) 1),
  .op (.mov 13 (.tmp 66)),
  .kp [0, 3, 4, 7, 8, 11, 13, 14]]
def f8r9 : List I := [.op (.mov 57 (.tmp 14)),
  .op (.bin 58 .add (.tmp 57) (.const (.int .i64 1))),
  .op (.mov 14 (.tmp 58)),
  .kp [0, 3, 4, 7, 8, 11, 13, 14]]
def f8r10 : List I := [.op (.mov 68 (.tmp 13)),
  .op (.fad 69 0 (.tmp 8)),
  .op (.ld 70 (some 4) (.tmp 69)),
  .op (.call (some 71) 38 [(.tmp 68), (.tmp 70)]),
  .kp [3, 4, 7, 8, 11, 13, 71]]
def f8r11 : List I := [.op (.mov 12 (.const (.bool true))),
  .kp [12]]
def f8r12 : List I := [.op (.mov 72 (.tmp 13)),
  .op (.ld 73 (some 3) (.tmp 7)),
  .op (.ld 74 (some 9) (.tmp 8)),
  .op (.call (some 75) 40 [(.tmp 72), (.tmp 73), (.tmp 74)]),
  .op (.mov 15 (.tmp 75)),
  .kp [3, 4, 8, 11, 13, 15]]
def f8r13 : List I := [.op (.mov 76 (.tmp 15)),
  .op (.fad 77 0 (.tmp 8)),
  .op (.ld 78 (some 4) (.tmp 77)),
  .op (.mov 79 (.tmp 3)),
  .op (.call (some 80) 39 [(.tmp 76), (.tmp 78), (.tmp 79)]),
  .op (.mov 16 (.tmp 80)),
  .kp [4, 11, 13, 15, 16]]
def f8r14 : List I := [.op (.mov 82 (.tmp 13)),
  .op (.mov 83 (.tmp 4)),
  .op (.ld 84 (some 2) (.tmp 11)),
  .op (.call (some 85) 41 [(.tmp 82), (.tmp 83), (.tmp 84)]),
  .op (.mov 81 (.tmp 85)),
  .op (.ext 86 (.tmp 81) 0),
  .op (.ext 87 (.tmp 81) 1),
  .op (.mov 17 (.tmp 86)),
  .op (.mov 18 (.tmp 87)),
  .kp [4, 11, 13, 15, 16, 17, 18]]
def f8r15 : List I := [.op (.mov 89 (.tmp 16)),
  .op (.mov 90 (.tmp 4)),
  .op (.ld 91 (some 2) (.tmp 11)),
  .op (.call (some 92) 41 [(.tmp 89), (.tmp 90), (.tmp 91)]),
  .op (.mov 88 (.tmp 92)),
  .op (.ext 93 (.tmp 88) 0),
  .op (.ext 94 (.tmp 88) 1),
  .op (.mov 19 (.tmp 93)),
  .op (.mov 20 (.tmp 94)),
  .kp [4, 13, 15, 17, 18, 19, 20]]
def f8r16 : List I := [.op (.mov 96 (.tmp 13)),
  .op (.mov 97 (.tmp 4)),
  .op (.call (some 98) 44 [(.tmp 96), (.tmp 97)]),
  .op (.mov 95 (.tmp 98)),
  .op (.ext 99 (.tmp 95) 0),
  .op (.ext 100 (.tmp 95) 1),
  .op (.new 21 72 [.int .i64 0, .int .i64 0, .int .i64 0, .int .i64 0, .int .i64 0, .int .i64 0, .int .i64 0, .bool false, .string ⟨#[]⟩]),
  .op (.st 9 (.tmp 21) (.tmp 99)),
  .op (.mov 22 (.tmp 100)),
  .kp [4, 15, 17, 18, 19, 20, 21, 22]]
def f8r17 : List I := [.op (.mov 102 (.tmp 15)),
  .op (.mov 103 (.tmp 4)),
  .op (.call (some 104) 44 [(.tmp 102), (.tmp 103)]),
  .op (.mov 101 (.tmp 104)),
  .op (.ext 105 (.tmp 101) 0),
  .op (.ext 106 (.tmp 101) 1),
  .op (.new 23 72 [.int .i64 0, .int .i64 0, .int .i64 0, .int .i64 0, .int .i64 0, .int .i64 0, .int .i64 0, .bool false, .string ⟨#[]⟩]),
  .op (.st 9 (.tmp 23) (.tmp 105)),
  .op (.mov 24 (.tmp 106)),
  .kp [17, 18, 19, 20, 21, 22, 23, 24]]
def f8r18c : List I := [.op (.mov 12 (.tmp 124)),
  .kp [12]]
def f8r18b : List I := .op (.mov 120 (.tmp 119)) ::
  .sc 120 true 3 ::
  .g 120 true (.mov 121 (.tmp 22)) ::
  .g 120 true (.mov 122 (.tmp 24)) ::
  .g 120 true (.eqb 123 false (.tmp 121) (.tmp 122)) ::
  .op (.pick 124 (.tmp 120) (.tmp 123) (.const (.bool false))) ::
  .kp [124] ::
  f8r18c
def f8r18a : List I := .op (.mov 115 (.tmp 114)) ::
  .sc 115 true 3 ::
  .g 115 true (.ld 116 (some 9) (.tmp 21)) ::
  .g 115 true (.ld 117 (some 9) (.tmp 23)) ::
  .g 115 true (.eqa 118 false [.i .i64, .i .i64, .i .i64, .i .i64, .i .i64, .i .i64, .i .i64, .b, .s] (.tmp 116) (.tmp 117)) ::
  .op (.pick 119 (.tmp 115) (.tmp 118) (.const (.bool false))) ::
  .kp [119, 22, 24] ::
  f8r18b
def f8r18 : List I := .op (.mov 107 (.tmp 17)) ::
  .op (.mov 108 (.tmp 19)) ::
  .op (.bin 109 .eql (.tmp 107) (.tmp 108)) ::
  .op (.mov 110 (.tmp 109)) ::
  .sc 110 true 3 ::
  .g 110 true (.mov 111 (.tmp 18)) ::
  .g 110 true (.mov 112 (.tmp 20)) ::
  .g 110 true (.eqb 113 false (.tmp 111) (.tmp 112)) ::
  .op (.pick 114 (.tmp 110) (.tmp 113) (.const (.bool false))) ::
  .kp [114, 21, 22, 23, 24] ::
  f8r18a
def f8c3 : C := (.seq (.reg f8r2) .ret)
def f8c6 : C := (.seq (.reg f8r4) .ret)
def f8c13 : C := (.reg f8r8)
def f8c14 : C := (.reg f8r9)
def f8c12 : C := (.seq (.block 1 f8c13) f8c14)
def f8c11 : C := (.seq (.cond (.tmp 56) .skip (.exit 0)) f8c12)
def f8c10 : C := (.seq (.reg f8r7) f8c11)
def f8c17 : C := (.seq (.reg f8r11) .ret)
def f8c24 : C := (.seq (.reg f8r18) .ret)
def f8c23 : C := (.seq (.reg f8r17) f8c24)
def f8c22 : C := (.seq (.reg f8r16) f8c23)
def f8c21 : C := (.seq (.reg f8r15) f8c22)
def f8c20 : C := (.seq (.reg f8r14) f8c21)
def f8c19 : C := (.seq (.reg f8r13) f8c20)
def f8c18 : C := (.seq (.reg f8r12) f8c19)
def f8c16 : C := (.seq (.cond (.tmp 71) f8c17 .skip) f8c18)
def f8c15 : C := (.seq (.reg f8r10) f8c16)
def f8c9 : C := (.seq (.block 0 (.loop f8c10)) f8c15)
def f8c8 : C := (.seq (.reg f8r6) f8c9)
def f8c7 : C := (.seq (.reg f8r5) f8c8)
def f8c5 : C := (.seq (.cond (.tmp 52) f8c6 .skip) f8c7)
def f8c4 : C := (.seq (.reg f8r3) f8c5)
def f8c2 : C := (.seq (.cond (.tmp 26) f8c3 .skip) f8c4)
def f8c1 : C := (.seq (.reg f8r1) f8c2)
def f8c0 : C := (.seq (.reg f8r0) f8c1)
theorem f8cmp : cmpF Try.prog Try.f8 [.l [.o 0, .o 1, .o 2, .o 3, .kp [0, 3, 4, 7, 8, 11]],
  .l [.o 0, .o 1, .kp [0, 3, 4, 7, 8, 11, 26]],
  .l [.o 0, .kp [12]],
  .l [.o 0, .o 1, .o 2, .o 3, .sc 30 false 4, .o 4, .o 5, .o 6, .o 7, .o 8, .kp [35, 0, 3, 4, 7, 8, 11], .o 9, .sc 36 false 4, .o 10, .o 11, .o 12, .o 13, .o 14, .kp [41, 0, 3, 4, 7, 8, 11], .o 15, .sc 42 false 4, .o 16, .o 17, .o 18, .o 19, .o 20, .kp [47, 0, 3, 4, 7, 8, 11], .o 21, .sc 48 false 3, .o 22, .o 23, .o 24, .o 25, .kp [52, 0, 3, 4, 7, 8, 11]],
  .l [.o 0, .kp [12]],
  .l [.o 0, .kp [0, 3, 4, 7, 8, 11, 13]],
  .l [.o 0, .kp [0, 3, 4, 7, 8, 11, 13, 14]],
  .l [.o 0, .o 1, .o 2, .o 3, .kp [0, 3, 4, 7, 8, 11, 13, 14, 56]],
  .l [.o 0, .o 1, .o 2, .o 3, .o 4, .o 5, .o 6, .o 7, .o 8, .o 9, .kp [0, 3, 4, 7, 8, 11, 13, 14]],
  .l [.o 0, .o 1, .o 2, .kp [0, 3, 4, 7, 8, 11, 13, 14]],
  .l [.o 0, .o 1, .o 2, .o 3, .kp [3, 4, 7, 8, 11, 13, 71]],
  .l [.o 0, .kp [12]],
  .l [.o 0, .o 1, .o 2, .o 3, .o 4, .kp [3, 4, 8, 11, 13, 15]],
  .l [.o 0, .o 1, .o 2, .o 3, .o 4, .o 5, .kp [4, 11, 13, 15, 16]],
  .l [.o 0, .o 1, .o 2, .o 3, .o 4, .o 5, .o 6, .o 7, .o 8, .kp [4, 11, 13, 15, 16, 17, 18]],
  .l [.o 0, .o 1, .o 2, .o 3, .o 4, .o 5, .o 6, .o 7, .o 8, .kp [4, 13, 15, 17, 18, 19, 20]],
  .l [.o 0, .o 1, .o 2, .o 3, .o 4, .o 5, .o 6, .o 7, .o 8, .kp [4, 15, 17, 18, 19, 20, 21, 22]],
  .l [.o 0, .o 1, .o 2, .o 3, .o 4, .o 5, .o 6, .o 7, .o 8, .kp [17, 18, 19, 20, 21, 22, 23, 24]],
  .l [.o 0, .o 1, .o 2, .o 3, .sc 110 true 3, .o 4, .o 5, .o 6, .o 7, .kp [114, 21, 22, 23, 24], .o 8, .sc 115 true 3, .o 9, .o 10, .o 11, .o 12, .kp [119, 22, 24], .o 13, .sc 120 true 3, .o 14, .o 15, .o 16, .o 17, .kp [124], .o 18, .kp [12]]] = some (f8c0, [.tmp 12]) := by kernel_rfl
theorem f8ok {args : List Value} {h : Heap} {R : Value → Heap → Prop} (hn : args.length ≤ 125) (H : wC Try.prog f8c0 (endW [.tmp 12] R) (envOf 0 args) h) : CallsH Try.prog 8 args h R :=
  fn_ok2 Try.func8 f8cmp hn H
theorem f8cal : callable Try.prog 8 = true := by kernel_rfl
section
variable {Q : X → Env → Heap → Prop} {σ : Env} {h : Heap}
theorem f8c3_eq : wC Try.prog f8c3 Q σ h = (wL Try.prog none f8r2 0 (fun σ h => Q .ret σ h) σ h) := rfl
theorem f8c6_eq : wC Try.prog f8c6 Q σ h = (wL Try.prog none f8r4 0 (fun σ h => Q .ret σ h) σ h) := rfl
theorem f8c13_eq : wC Try.prog f8c13 Q σ h = (wL Try.prog none f8r8 0 (fun σ h => Q .normal σ h) σ h) := rfl
theorem f8c14_eq : wC Try.prog f8c14 Q σ h = (wL Try.prog none f8r9 0 (fun σ h => Q .normal σ h) σ h) := rfl
theorem f8c12_eq : wC Try.prog f8c12 Q σ h = (wC Try.prog f8c13 (X.inBlock 1 (X.then (fun σ h => wC Try.prog f8c14 Q σ h) Q)) σ h) := rfl
theorem f8c11_eq : wC Try.prog f8c11 Q σ h = (bd (evO σ (.tmp 56)) fun v => bd (asB v) fun t => br t (wC Try.prog f8c12 Q σ h) (Q (.exit 0) σ h)) := rfl
theorem f8c10_eq : wC Try.prog f8c10 Q σ h = (wL Try.prog none f8r7 0 (fun σ h => wC Try.prog f8c11 Q σ h) σ h) := rfl
theorem f8c17_eq : wC Try.prog f8c17 Q σ h = (wL Try.prog none f8r11 0 (fun σ h => Q .ret σ h) σ h) := rfl
theorem f8c24_eq : wC Try.prog f8c24 Q σ h = (wL Try.prog none f8r18 0 (fun σ h => Q .ret σ h) σ h) := rfl
theorem f8c23_eq : wC Try.prog f8c23 Q σ h = (wL Try.prog none f8r17 0 (fun σ h => wC Try.prog f8c24 Q σ h) σ h) := rfl
theorem f8c22_eq : wC Try.prog f8c22 Q σ h = (wL Try.prog none f8r16 0 (fun σ h => wC Try.prog f8c23 Q σ h) σ h) := rfl
theorem f8c21_eq : wC Try.prog f8c21 Q σ h = (wL Try.prog none f8r15 0 (fun σ h => wC Try.prog f8c22 Q σ h) σ h) := rfl
theorem f8c20_eq : wC Try.prog f8c20 Q σ h = (wL Try.prog none f8r14 0 (fun σ h => wC Try.prog f8c21 Q σ h) σ h) := rfl
theorem f8c19_eq : wC Try.prog f8c19 Q σ h = (wL Try.prog none f8r13 0 (fun σ h => wC Try.prog f8c20 Q σ h) σ h) := rfl
theorem f8c18_eq : wC Try.prog f8c18 Q σ h = (wL Try.prog none f8r12 0 (fun σ h => wC Try.prog f8c19 Q σ h) σ h) := rfl
theorem f8c16_eq : wC Try.prog f8c16 Q σ h = (bd (evO σ (.tmp 71)) fun v => bd (asB v) fun t => br t (wC Try.prog f8c17 (X.then (fun σ h => wC Try.prog f8c18 Q σ h) Q) σ h) (wC Try.prog f8c18 Q σ h)) := rfl
theorem f8c15_eq : wC Try.prog f8c15 Q σ h = (wL Try.prog none f8r10 0 (fun σ h => wC Try.prog f8c16 Q σ h) σ h) := rfl
theorem f8c9_eq : wC Try.prog f8c9 Q σ h = (loopW (wC Try.prog f8c10) (X.inBlock 0 (X.then (fun σ h => wC Try.prog f8c15 Q σ h) Q)) σ h) := rfl
theorem f8c8_eq : wC Try.prog f8c8 Q σ h = (wL Try.prog none f8r6 0 (fun σ h => wC Try.prog f8c9 Q σ h) σ h) := rfl
theorem f8c7_eq : wC Try.prog f8c7 Q σ h = (wL Try.prog none f8r5 0 (fun σ h => wC Try.prog f8c8 Q σ h) σ h) := rfl
theorem f8c5_eq : wC Try.prog f8c5 Q σ h = (bd (evO σ (.tmp 52)) fun v => bd (asB v) fun t => br t (wC Try.prog f8c6 (X.then (fun σ h => wC Try.prog f8c7 Q σ h) Q) σ h) (wC Try.prog f8c7 Q σ h)) := rfl
theorem f8c4_eq : wC Try.prog f8c4 Q σ h = (wL Try.prog none f8r3 0 (fun σ h => wC Try.prog f8c5 Q σ h) σ h) := rfl
theorem f8c2_eq : wC Try.prog f8c2 Q σ h = (bd (evO σ (.tmp 26)) fun v => bd (asB v) fun t => br t (wC Try.prog f8c3 (X.then (fun σ h => wC Try.prog f8c4 Q σ h) Q) σ h) (wC Try.prog f8c4 Q σ h)) := rfl
theorem f8c1_eq : wC Try.prog f8c1 Q σ h = (wL Try.prog none f8r1 0 (fun σ h => wC Try.prog f8c2 Q σ h) σ h) := rfl
theorem f8c0_eq : wC Try.prog f8c0 Q σ h = (wL Try.prog none f8r0 0 (fun σ h => wC Try.prog f8c1 Q σ h) σ h) := rfl
end
end Go.Proofs.Ytefghfgmkndikaa
