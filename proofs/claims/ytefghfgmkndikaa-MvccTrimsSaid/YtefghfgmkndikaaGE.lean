/-
  By a program of mine (wip/tools/gen.py): the code of functions of the seat in the small instruction language, and that it is their code.
-/
import Derived.Test.YtefghfgmkndikaaFM
import Derived.Test.YtefghfgmkndikaaProg
set_option linter.unusedSimpArgs false
set_option linter.unusedVariables false
namespace Go.Proofs.Ytefghfgmkndikaa
open Go.AX
set_option maxRecDepth 100000
/-! ### f45: antipode/mvcc.May -/
def f45r0 : List I := [.op (.mov 2 (.const (.bool false))),
  .kp [0]]
def f45r1 : List I := [.op (.mov 7 (.tmp 0)),
  .op (.len 8 true (.tmp 7)),
  .op (.mov 9 (.const (.int .i64 0))),
  .kp [0, 7, 8, 9]]
def f45r2 : List I := [.op (.bin 10 .lss (.tmp 9) (.tmp 8)),
  .kp [0, 7, 8, 9, 10]]
def f45r3 : List I := [.op (.mov 11 (.tmp 9)),
  .op (.iad 12 12 (.tmp 7) (.tmp 9)),
  .op (.ld 13 (some 12) (.tmp 12)),
  .op (.new 4 103 [.string ⟨#[]⟩, .slice none 0 0, .bool false, .int .i64 0, .int .i64 0, .int .i64 0, .int .i64 0, .int .i64 0, .int .i64 0, .int .i64 0, .bool false, .string ⟨#[]⟩]),
  .op (.mov 3 (.tmp 11)),
  .op (.st 12 (.tmp 4) (.tmp 13)),
  .kp [0, 3, 4, 7, 8, 9]]
def f45r4c : List I := [.op (.mov 49 (.tmp 48)),
  .sc 49 false 10,
  .g 49 false (.fad 50 3 (.tmp 4)),
  .g 49 false (.fad 51 7 (.tmp 50)),
  .g 49 false (.ld 52 none (.tmp 51)),
  .g 49 false (.mov 53 (.tmp 52)),
  .sc 53 true 4,
  .g 53 true (.fad 54 3 (.tmp 4)),
  .g 53 true (.fad 55 8 (.tmp 54)),
  .g 53 true (.ld 56 none (.tmp 55)),
  .g 53 true (.bin 57 .neq (.tmp 56) (.const (.string ⟨#[]⟩))),
  .g 49 false (.pick 58 (.tmp 53) (.tmp 57) (.const (.bool false))),
  .op (.pick 59 (.tmp 49) (.const (.bool true)) (.tmp 58)),
  .kp [59, 0, 4, 7, 8, 9]]
def f45r4b : List I := .op (.mov 38 (.tmp 37)) ::
  .sc 38 false 10 ::
  .g 38 false (.fad 39 2 (.tmp 4)) ::
  .g 38 false (.ld 40 none (.tmp 39)) ::
  .g 38 false (.un 41 .not (.tmp 40)) ::
  .g 38 false (.mov 42 (.tmp 41)) ::
  .sc 42 true 4 ::
  .g 42 true (.fad 43 1 (.tmp 4)) ::
  .g 42 true (.ld 44 none (.tmp 43)) ::
  .g 42 true (.len 45 true (.tmp 44)) ::
  .g 42 true (.bin 46 .eql (.tmp 45) (.const (.int .i64 0))) ::
  .g 38 false (.pick 47 (.tmp 42) (.tmp 46) (.const (.bool false))) ::
  .op (.pick 48 (.tmp 38) (.const (.bool true)) (.tmp 47)) ::
  .kp [48, 0, 4, 7, 8, 9] ::
  f45r4c
def f45r4a : List I := .op (.mov 27 (.tmp 26)) ::
  .sc 27 false 10 ::
  .g 27 false (.fad 28 2 (.tmp 4)) ::
  .g 27 false (.ld 29 none (.tmp 28)) ::
  .g 27 false (.un 30 .not (.tmp 29)) ::
  .g 27 false (.mov 31 (.tmp 30)) ::
  .sc 31 true 4 ::
  .g 31 true (.fad 32 3 (.tmp 4)) ::
  .g 31 true (.ld 33 (some 9) (.tmp 32)) ::
  .g 31 true (.bld 34 [.int .i64 0, .int .i64 0, .int .i64 0, .int .i64 0, .int .i64 0, .int .i64 0, .int .i64 0, .bool false, .string ⟨#[]⟩] []) ::
  .g 31 true (.eqa 35 true [.i .i64, .i .i64, .i .i64, .i .i64, .i .i64, .i .i64, .i .i64, .b, .s] (.tmp 33) (.tmp 34)) ::
  .g 27 false (.pick 36 (.tmp 31) (.tmp 35) (.const (.bool false))) ::
  .op (.pick 37 (.tmp 27) (.const (.bool true)) (.tmp 36)) ::
  .kp [37, 0, 4, 7, 8, 9] ::
  f45r4b
def f45r4 : List I := .op (.mov 14 (.tmp 3)) ::
  .op (.bin 15 .gtr (.tmp 14) (.const (.int .i64 0))) ::
  .op (.mov 16 (.tmp 15)) ::
  .sc 16 true 9 ::
  .g 16 true (.fad 17 0 (.tmp 4)) ::
  .g 16 true (.ld 18 none (.tmp 17)) ::
  .g 16 true (.mov 19 (.tmp 0)) ::
  .g 16 true (.mov 20 (.tmp 3)) ::
  .g 16 true (.bin 21 .sub (.tmp 20) (.const (.int .i64 1))) ::
  .g 16 true (.iad 22 12 (.tmp 19) (.tmp 21)) ::
  .g 16 true (.fad 23 0 (.tmp 22)) ::
  .g 16 true (.ld 24 none (.tmp 23)) ::
  .g 16 true (.bin 25 .leq (.tmp 18) (.tmp 24)) ::
  .op (.pick 26 (.tmp 16) (.tmp 25) (.const (.bool false))) ::
  .kp [26, 0, 4, 7, 8, 9] ::
  f45r4a
def f45r5 : List I := [.op (.mov 2 (.const (.bool false))),
  .kp [2]]
def f45r6 : List I := [.op (.fad 60 1 (.tmp 4)),
  .op (.ld 61 none (.tmp 60)),
  .op (.len 62 true (.tmp 61)),
  .op (.mov 63 (.const (.int .i64 0))),
  .kp [0, 4, 7, 8, 9, 61, 62, 63]]
def f45r7 : List I := [.op (.bin 64 .lss (.tmp 63) (.tmp 62)),
  .kp [0, 4, 7, 8, 9, 61, 62, 63, 64]]
def f45r8 : List I := [.op (.mov 65 (.tmp 63)),
  .op (.iad 66 4 (.tmp 61) (.tmp 63)),
  .op (.ld 67 (some 4) (.tmp 66)),
  .op (.new 6 108 [.int .i64 0, .int .i64 0, .bool false, .string ⟨#[]⟩]),
  .op (.mov 5 (.tmp 65)),
  .op (.st 4 (.tmp 6) (.tmp 67)),
  .kp [0, 4, 5, 6, 7, 8, 9, 61, 62, 63]]
def f45r9a : List I := [.op (.mov 83 (.tmp 82)),
  .sc 83 false 8,
  .g 83 false (.fad 84 2 (.tmp 6)),
  .g 83 false (.ld 85 none (.tmp 84)),
  .g 83 false (.mov 86 (.tmp 85)),
  .sc 86 true 3,
  .g 86 true (.fad 87 3 (.tmp 6)),
  .g 86 true (.ld 88 none (.tmp 87)),
  .g 86 true (.bin 89 .neq (.tmp 88) (.const (.string ⟨#[]⟩))),
  .g 83 false (.pick 90 (.tmp 86) (.tmp 89) (.const (.bool false))),
  .op (.pick 91 (.tmp 83) (.const (.bool true)) (.tmp 90)),
  .kp [91, 0, 4, 7, 8, 9, 61, 62, 63]]
def f45r9 : List I := .op (.mov 68 (.tmp 5)) ::
  .op (.bin 69 .gtr (.tmp 68) (.const (.int .i64 0))) ::
  .op (.mov 70 (.tmp 69)) ::
  .sc 70 true 11 ::
  .g 70 true (.fad 71 1 (.tmp 4)) ::
  .g 70 true (.ld 72 none (.tmp 71)) ::
  .g 70 true (.mov 73 (.tmp 5)) ::
  .g 70 true (.bin 74 .sub (.tmp 73) (.const (.int .i64 1))) ::
  .g 70 true (.iad 75 4 (.tmp 72) (.tmp 74)) ::
  .g 70 true (.fad 76 0 (.tmp 75)) ::
  .g 70 true (.ld 77 (some 2) (.tmp 76)) ::
  .g 70 true (.fad 78 0 (.tmp 6)) ::
  .g 70 true (.ld 79 (some 2) (.tmp 78)) ::
  .g 70 true (.call (some 80) 90 [(.tmp 77), (.tmp 79)]) ::
  .g 70 true (.un 81 .not (.tmp 80)) ::
  .op (.pick 82 (.tmp 70) (.tmp 81) (.const (.bool false))) ::
  .kp [82, 0, 4, 6, 7, 8, 9, 61, 62, 63] ::
  f45r9a
def f45r10 : List I := [.op (.mov 2 (.const (.bool false))),
  .kp [2]]
def f45r11 : List I := [.op (.bin 92 .add (.tmp 63) (.const (.int .i64 1))),
  .op (.mov 63 (.tmp 92)),
  .kp [0, 4, 7, 8, 9, 61, 62, 63]]
def f45r12 : List I := [.op (.bin 93 .add (.tmp 9) (.const (.int .i64 1))),
  .op (.mov 9 (.tmp 93)),
  .kp [0, 7, 8, 9]]
def f45r13 : List I := [.op (.mov 2 (.const (.bool true))),
  .kp [2]]
def f45c9 : C := (.seq (.reg f45r5) .ret)
def f45c18 : C := (.seq (.reg f45r10) .ret)
def f45c17 : C := (.cond (.tmp 91) f45c18 .skip)
def f45c16 : C := (.seq (.drw f45r9) f45c17)
def f45c15 : C := (.seq (.reg f45r8) f45c16)
def f45c19 : C := (.reg f45r11)
def f45c14 : C := (.seq (.block 3 f45c15) f45c19)
def f45c13 : C := (.seq (.cond (.tmp 64) .skip (.exit 2)) f45c14)
def f45c12 : C := (.seq (.reg f45r7) f45c13)
def f45c11 : C := (.block 2 (.loop f45c12))
def f45c10 : C := (.seq (.reg f45r6) f45c11)
def f45c8 : C := (.seq (.cond (.tmp 59) f45c9 .skip) f45c10)
def f45c7 : C := (.seq (.drw f45r4) f45c8)
def f45c6 : C := (.seq (.reg f45r3) f45c7)
def f45c20 : C := (.reg f45r12)
def f45c5 : C := (.seq (.block 1 f45c6) f45c20)
def f45c4 : C := (.seq (.cond (.tmp 10) .skip (.exit 0)) f45c5)
def f45c3 : C := (.seq (.reg f45r2) f45c4)
def f45c21 : C := (.seq (.reg f45r13) .ret)
def f45c2 : C := (.seq (.block 0 (.loop f45c3)) f45c21)
def f45c1 : C := (.seq (.reg f45r1) f45c2)
def f45c0 : C := (.seq (.reg f45r0) f45c1)
theorem f45cmp : cmpF Try.prog Try.f45 [.l [.o 0, .kp [0]],
  .l [.o 0, .o 1, .o 2, .kp [0, 7, 8, 9]],
  .l [.o 0, .kp [0, 7, 8, 9, 10]],
  .l [.o 0, .o 1, .o 2, .o 3, .o 4, .o 5, .kp [0, 3, 4, 7, 8, 9]],
  .l [.o 0, .o 1, .o 2, .sc 16 true 9, .o 3, .o 4, .o 5, .o 6, .o 7, .o 8, .o 9, .o 10, .o 11, .o 12, .kp [26, 0, 4, 7, 8, 9], .o 13, .sc 27 false 10, .o 14, .o 15, .o 16, .o 17, .sc 31 true 4, .o 18, .o 19, .o 20, .o 21, .o 22, .o 23, .kp [37, 0, 4, 7, 8, 9], .o 24, .sc 38 false 10, .o 25, .o 26, .o 27, .o 28, .sc 42 true 4, .o 29, .o 30, .o 31, .o 32, .o 33, .o 34, .kp [48, 0, 4, 7, 8, 9], .o 35, .sc 49 false 10, .o 36, .o 37, .o 38, .o 39, .sc 53 true 4, .o 40, .o 41, .o 42, .o 43, .o 44, .o 45, .kp [59, 0, 4, 7, 8, 9]],
  .l [.o 0, .kp [2]],
  .l [.o 0, .o 1, .o 2, .o 3, .kp [0, 4, 7, 8, 9, 61, 62, 63]],
  .l [.o 0, .kp [0, 4, 7, 8, 9, 61, 62, 63, 64]],
  .l [.o 0, .o 1, .o 2, .o 3, .o 4, .o 5, .kp [0, 4, 5, 6, 7, 8, 9, 61, 62, 63]],
  .l [.o 0, .o 1, .o 2, .sc 70 true 11, .o 3, .o 4, .o 5, .o 6, .o 7, .o 8, .o 9, .o 10, .o 11, .o 12, .o 13, .o 14, .kp [82, 0, 4, 6, 7, 8, 9, 61, 62, 63], .o 15, .sc 83 false 8, .o 16, .o 17, .o 18, .sc 86 true 3, .o 19, .o 20, .o 21, .o 22, .o 23, .kp [91, 0, 4, 7, 8, 9, 61, 62, 63]],
  .l [.o 0, .kp [2]],
  .l [.o 0, .o 1, .kp [0, 4, 7, 8, 9, 61, 62, 63]],
  .l [.o 0, .o 1, .kp [0, 7, 8, 9]],
  .l [.o 0, .kp [2]]] = some (f45c0, [.tmp 2]) := by kernel_rfl
theorem f45ok {args : List Value} {h : Heap} {R : Value → Heap → Prop} (hn : args.length ≤ 94) (H : wC Try.prog f45c0 (endW [.tmp 2] R) (envOf 0 args) h) : CallsH Try.prog 45 args h R :=
  fn_ok2 Try.func45 f45cmp hn H
theorem f45cal : callable Try.prog 45 = true := by kernel_rfl
section
variable {Q : X → Env → Heap → Prop} {σ : Env} {h : Heap}
theorem f45c9_eq : wC Try.prog f45c9 Q σ h = (wL Try.prog none f45r5 0 (fun σ h => Q .ret σ h) σ h) := rfl
theorem f45c18_eq : wC Try.prog f45c18 Q σ h = (wL Try.prog none f45r10 0 (fun σ h => Q .ret σ h) σ h) := rfl
theorem f45c17_eq : wC Try.prog f45c17 Q σ h = (bd (evO σ (.tmp 91)) fun v => bd (asB v) fun t => br t (wC Try.prog f45c18 Q σ h) (Q .normal σ h)) := rfl
theorem f45c16_eq : wC Try.prog f45c16 Q σ h = (drwW Try.prog f45r9 (fun σ h => wC Try.prog f45c17 Q σ h) σ h) := rfl
theorem f45c15_eq : wC Try.prog f45c15 Q σ h = (wL Try.prog none f45r8 0 (fun σ h => wC Try.prog f45c16 Q σ h) σ h) := rfl
theorem f45c19_eq : wC Try.prog f45c19 Q σ h = (wL Try.prog none f45r11 0 (fun σ h => Q .normal σ h) σ h) := rfl
theorem f45c14_eq : wC Try.prog f45c14 Q σ h = (wC Try.prog f45c15 (X.inBlock 3 (X.then (fun σ h => wC Try.prog f45c19 Q σ h) Q)) σ h) := rfl
theorem f45c13_eq : wC Try.prog f45c13 Q σ h = (bd (evO σ (.tmp 64)) fun v => bd (asB v) fun t => br t (wC Try.prog f45c14 Q σ h) (Q (.exit 2) σ h)) := rfl
theorem f45c12_eq : wC Try.prog f45c12 Q σ h = (wL Try.prog none f45r7 0 (fun σ h => wC Try.prog f45c13 Q σ h) σ h) := rfl
theorem f45c11_eq : wC Try.prog f45c11 Q σ h = (loopW (wC Try.prog f45c12) (X.inBlock 2 Q) σ h) := rfl
theorem f45c10_eq : wC Try.prog f45c10 Q σ h = (wL Try.prog none f45r6 0 (fun σ h => wC Try.prog f45c11 Q σ h) σ h) := rfl
theorem f45c8_eq : wC Try.prog f45c8 Q σ h = (bd (evO σ (.tmp 59)) fun v => bd (asB v) fun t => br t (wC Try.prog f45c9 (X.then (fun σ h => wC Try.prog f45c10 Q σ h) Q) σ h) (wC Try.prog f45c10 Q σ h)) := rfl
theorem f45c7_eq : wC Try.prog f45c7 Q σ h = (drwW Try.prog f45r4 (fun σ h => wC Try.prog f45c8 Q σ h) σ h) := rfl
theorem f45c6_eq : wC Try.prog f45c6 Q σ h = (wL Try.prog none f45r3 0 (fun σ h => wC Try.prog f45c7 Q σ h) σ h) := rfl
theorem f45c20_eq : wC Try.prog f45c20 Q σ h = (wL Try.prog none f45r12 0 (fun σ h => Q .normal σ h) σ h) := rfl
theorem f45c5_eq : wC Try.prog f45c5 Q σ h = (wC Try.prog f45c6 (X.inBlock 1 (X.then (fun σ h => wC Try.prog f45c20 Q σ h) Q)) σ h) := rfl
theorem f45c4_eq : wC Try.prog f45c4 Q σ h = (bd (evO σ (.tmp 10)) fun v => bd (asB v) fun t => br t (wC Try.prog f45c5 Q σ h) (Q (.exit 0) σ h)) := rfl
theorem f45c3_eq : wC Try.prog f45c3 Q σ h = (wL Try.prog none f45r2 0 (fun σ h => wC Try.prog f45c4 Q σ h) σ h) := rfl
theorem f45c21_eq : wC Try.prog f45c21 Q σ h = (wL Try.prog none f45r13 0 (fun σ h => Q .ret σ h) σ h) := rfl
theorem f45c2_eq : wC Try.prog f45c2 Q σ h = (loopW (wC Try.prog f45c3) (X.inBlock 0 (X.then (fun σ h => wC Try.prog f45c21 Q σ h) Q)) σ h) := rfl
theorem f45c1_eq : wC Try.prog f45c1 Q σ h = (wL Try.prog none f45r1 0 (fun σ h => wC Try.prog f45c2 Q σ h) σ h) := rfl
theorem f45c0_eq : wC Try.prog f45c0 Q σ h = (wL Try.prog none f45r0 0 (fun σ h => wC Try.prog f45c1 Q σ h) σ h) := rfl
end
/-! ### f35: antipode/antipodelaw8.begun -/
def f35r0 : List I := [.op (.mov 0 (.const (.bool false))),
  .kp []]
def f35r1 : List I := [.op (.bld 8 [.int .i64 0, .int .i64 0, .int .i64 0, .int .i64 0] [(0, 1, (.const (.int .i64 1)))]),
  .op (.bld 9 [.int .i64 0, .int .i64 0] [(0, 1, (.const (.int .i64 5)))]),
  .op (.bld 10 [.int .i64 0, .int .i64 0, .int .i64 0, .int .i64 0, .int .i64 0, .int .i64 0, .int .i64 0, .bool false, .string ⟨#[]⟩] [(0, 4, (.tmp 8)), (5, 2, (.tmp 9))]),
  .op (.new 1 72 [.int .i64 0, .int .i64 0, .int .i64 0, .int .i64 0, .int .i64 0, .int .i64 0, .int .i64 0, .bool false, .string ⟨#[]⟩]),
  .op (.st 9 (.tmp 1) (.tmp 10)),
  .kp [1]]
def f35r2 : List I := [.op (.bld 11 [.string ⟨#[]⟩, .bool false, .string ⟨#[]⟩] [(0, 1, (.const (.string ⟨#[107]⟩))), (2, 1, (.const (.string ⟨#[120]⟩)))]),
  .op (.ld 12 (some 9) (.tmp 1)),
  .op (.call (some 13) 40 [(.const (.slice none 0 0)), (.tmp 11), (.tmp 12)]),
  .op (.mov 2 (.tmp 13)),
  .kp [1, 2]]
def f35r3 : List I := [.op (.mov 15 (.tmp 2)),
  .op (.bld 16 [.int .i64 0, .int .i64 0] [(0, 1, (.const (.int .i64 9)))]),
  .op (.call (some 17) 41 [(.tmp 15), (.const (.string ⟨#[107]⟩)), (.tmp 16)]),
  .op (.mov 14 (.tmp 17)),
  .op (.ext 18 (.tmp 14) 0),
  .op (.ext 19 (.tmp 14) 1),
  .op (.mov 3 (.tmp 18)),
  .op (.mov 4 (.tmp 19)),
  .kp [1, 2, 4]]
def f35r4 : List I := [.op (.mov 20 (.tmp 2)),
  .op (.fad 21 0 (.tmp 1)),
  .op (.ld 22 (some 4) (.tmp 21)),
  .op (.call (some 23) 39 [(.tmp 20), (.tmp 22), (.const (.bool true))]),
  .op (.mov 5 (.tmp 23)),
  .kp [1, 2, 4, 5]]
def f35r5 : List I := [.op (.mov 25 (.tmp 5)),
  .op (.bld 26 [.int .i64 0, .int .i64 0] [(0, 1, (.const (.int .i64 5)))]),
  .op (.call (some 27) 41 [(.tmp 25), (.const (.string ⟨#[107]⟩)), (.tmp 26)]),
  .op (.mov 24 (.tmp 27)),
  .op (.ext 28 (.tmp 24) 0),
  .op (.ext 29 (.tmp 24) 1),
  .op (.mov 6 (.tmp 28)),
  .op (.mov 7 (.tmp 29)),
  .kp [1, 2, 4, 5, 6, 7]]
def f35r6e : List I := [.op (.mov 0 (.tmp 55)),
  .kp [0]]
def f35r6d : List I := .op (.mov 52 (.tmp 51)) ::
  .sc 52 true 2 ::
  .g 52 true (.mov 53 (.tmp 5)) ::
  .g 52 true (.call (some 54) 45 [(.tmp 53)]) ::
  .op (.pick 55 (.tmp 52) (.tmp 54) (.const (.bool false))) ::
  .kp [55] ::
  f35r6e
def f35r6c : List I := .op (.mov 45 (.tmp 44)) ::
  .sc 45 true 5 ::
  .g 45 true (.mov 46 (.tmp 5)) ::
  .g 45 true (.fad 47 0 (.tmp 1)) ::
  .g 45 true (.ld 48 (some 4) (.tmp 47)) ::
  .g 45 true (.call (some 49) 38 [(.tmp 46), (.tmp 48)]) ::
  .g 45 true (.un 50 .not (.tmp 49)) ::
  .op (.pick 51 (.tmp 45) (.tmp 50) (.const (.bool false))) ::
  .kp [51, 5] ::
  f35r6d
def f35r6b : List I := .op (.mov 39 (.tmp 38)) ::
  .sc 39 true 4 ::
  .g 39 true (.mov 40 (.tmp 2)) ::
  .g 39 true (.fad 41 0 (.tmp 1)) ::
  .g 39 true (.ld 42 (some 4) (.tmp 41)) ::
  .g 39 true (.call (some 43) 38 [(.tmp 40), (.tmp 42)]) ::
  .op (.pick 44 (.tmp 39) (.tmp 43) (.const (.bool false))) ::
  .kp [44, 1, 5] ::
  f35r6c
def f35r6a : List I := .op (.mov 35 (.tmp 34)) ::
  .sc 35 true 2 ::
  .g 35 true (.mov 36 (.tmp 6)) ::
  .g 35 true (.bin 37 .eql (.tmp 36) (.const (.string ⟨#[120]⟩))) ::
  .op (.pick 38 (.tmp 35) (.tmp 37) (.const (.bool false))) ::
  .kp [38, 1, 2, 5] ::
  f35r6b
def f35r6 : List I := .op (.mov 30 (.tmp 4)) ::
  .op (.un 31 .not (.tmp 30)) ::
  .op (.mov 32 (.tmp 31)) ::
  .sc 32 true 1 ::
  .g 32 true (.mov 33 (.tmp 7)) ::
  .op (.pick 34 (.tmp 32) (.tmp 33) (.const (.bool false))) ::
  .kp [34, 1, 2, 5, 6] ::
  f35r6a
def f35c6 : C := (.seq (.reg f35r6) .ret)
def f35c5 : C := (.seq (.reg f35r5) f35c6)
def f35c4 : C := (.seq (.reg f35r4) f35c5)
def f35c3 : C := (.seq (.reg f35r3) f35c4)
def f35c2 : C := (.seq (.reg f35r2) f35c3)
def f35c1 : C := (.seq (.reg f35r1) f35c2)
def f35c0 : C := (.seq (.reg f35r0) f35c1)
theorem f35cmp : cmpF Try.prog Try.f35 [.l [.o 0, .kp []],
  .l [.o 0, .o 1, .o 2, .o 3, .o 4, .kp [1]],
  .l [.o 0, .o 1, .o 2, .o 3, .kp [1, 2]],
  .l [.o 0, .o 1, .o 2, .o 3, .o 4, .o 5, .o 6, .o 7, .kp [1, 2, 4]],
  .l [.o 0, .o 1, .o 2, .o 3, .o 4, .kp [1, 2, 4, 5]],
  .l [.o 0, .o 1, .o 2, .o 3, .o 4, .o 5, .o 6, .o 7, .kp [1, 2, 4, 5, 6, 7]],
  .l [.o 0, .o 1, .o 2, .sc 32 true 1, .o 3, .o 4, .kp [34, 1, 2, 5, 6], .o 5, .sc 35 true 2, .o 6, .o 7, .o 8, .kp [38, 1, 2, 5], .o 9, .sc 39 true 4, .o 10, .o 11, .o 12, .o 13, .o 14, .kp [44, 1, 5], .o 15, .sc 45 true 5, .o 16, .o 17, .o 18, .o 19, .o 20, .o 21, .kp [51, 5], .o 22, .sc 52 true 2, .o 23, .o 24, .o 25, .kp [55], .o 26, .kp [0]]] = some (f35c0, [.tmp 0]) := by kernel_rfl
theorem f35ok {args : List Value} {h : Heap} {R : Value → Heap → Prop} (hn : args.length ≤ 56) (H : wC Try.prog f35c0 (endW [.tmp 0] R) (envOf 0 args) h) : CallsH Try.prog 35 args h R :=
  fn_ok2 Try.func35 f35cmp hn H
theorem f35cal : callable Try.prog 35 = true := by kernel_rfl
section
variable {Q : X → Env → Heap → Prop} {σ : Env} {h : Heap}
theorem f35c6_eq : wC Try.prog f35c6 Q σ h = (wL Try.prog none f35r6 0 (fun σ h => Q .ret σ h) σ h) := rfl
theorem f35c5_eq : wC Try.prog f35c5 Q σ h = (wL Try.prog none f35r5 0 (fun σ h => wC Try.prog f35c6 Q σ h) σ h) := rfl
theorem f35c4_eq : wC Try.prog f35c4 Q σ h = (wL Try.prog none f35r4 0 (fun σ h => wC Try.prog f35c5 Q σ h) σ h) := rfl
theorem f35c3_eq : wC Try.prog f35c3 Q σ h = (wL Try.prog none f35r3 0 (fun σ h => wC Try.prog f35c4 Q σ h) σ h) := rfl
theorem f35c2_eq : wC Try.prog f35c2 Q σ h = (wL Try.prog none f35r2 0 (fun σ h => wC Try.prog f35c3 Q σ h) σ h) := rfl
theorem f35c1_eq : wC Try.prog f35c1 Q σ h = (wL Try.prog none f35r1 0 (fun σ h => wC Try.prog f35c2 Q σ h) σ h) := rfl
theorem f35c0_eq : wC Try.prog f35c0 Q σ h = (wL Try.prog none f35r0 0 (fun σ h => wC Try.prog f35c1 Q σ h) σ h) := rfl
end
/-! ### f36: antipode/antipodelaw8.light -/
def f36r0 : List I := [.op (.mov 4 (.const (.bool false))),
  .kp [0, 1]]
def f36r1 : List I := [.op (.mov 6 (.tmp 0)),
  .op (.len 7 true (.tmp 6)),
  .op (.mov 8 (.tmp 1)),
  .op (.bin 9 .gtr (.tmp 7) (.tmp 8)),
  .kp [0, 9]]
def f36r2 : List I := [.op (.mov 4 (.const (.bool false))),
  .kp [4]]
def f36r3 : List I := [.op (.mov 5 (.const (.int .i64 0))),
  .kp [0, 5]]
def f36r4 : List I := [.op (.mov 10 (.tmp 5)),
  .op (.mov 11 (.tmp 0)),
  .op (.len 12 true (.tmp 11)),
  .op (.bin 13 .lss (.tmp 10) (.tmp 12)),
  .kp [0, 5, 13]]
def f36r5 : List I := [.op (.mov 16 (.tmp 0)),
  .op (.mov 17 (.tmp 5)),
  .op (.iad 18 14 (.tmp 16) (.tmp 17)),
  .op (.fad 19 1 (.tmp 18)),
  .op (.fad 20 0 (.tmp 19)),
  .op (.ld 21 none (.tmp 20)),
  .op (.len 22 false (.tmp 21)),
  .op (.bin 23 .gtr (.tmp 22) (.const (.int .i64 50))),
  .op (.mov 24 (.tmp 23)),
  .sc 24 false 8,
  .g 24 false (.mov 25 (.tmp 0)),
  .g 24 false (.mov 26 (.tmp 5)),
  .g 24 false (.iad 27 14 (.tmp 25) (.tmp 26)),
  .g 24 false (.fad 28 1 (.tmp 27)),
  .g 24 false (.fad 29 2 (.tmp 28)),
  .g 24 false (.ld 30 none (.tmp 29)),
  .g 24 false (.len 31 false (.tmp 30)),
  .g 24 false (.bin 32 .gtr (.tmp 31) (.const (.int .i64 200))),
  .op (.pick 33 (.tmp 24) (.const (.bool true)) (.tmp 32)),
  .kp [33, 0, 5]]
def f36r6 : List I := [.op (.mov 4 (.const (.bool false))),
  .kp [4]]
def f36r7 : List I := [.op (.mov 14 (.tmp 5)),
  .op (.bin 15 .add (.tmp 14) (.const (.int .i64 1))),
  .op (.mov 5 (.tmp 15)),
  .kp [0, 5]]
def f36r8 : List I := [.op (.mov 4 (.const (.bool true))),
  .kp [4]]
def f36c3 : C := (.seq (.reg f36r2) .ret)
def f36c11 : C := (.seq (.reg f36r6) .ret)
def f36c10 : C := (.cond (.tmp 33) f36c11 .skip)
def f36c9 : C := (.seq (.reg f36r5) f36c10)
def f36c12 : C := (.reg f36r7)
def f36c8 : C := (.seq (.block 1 f36c9) f36c12)
def f36c7 : C := (.seq (.cond (.tmp 13) .skip (.exit 0)) f36c8)
def f36c6 : C := (.seq (.reg f36r4) f36c7)
def f36c13 : C := (.seq (.reg f36r8) .ret)
def f36c5 : C := (.seq (.block 0 (.loop f36c6)) f36c13)
def f36c4 : C := (.seq (.reg f36r3) f36c5)
def f36c2 : C := (.seq (.cond (.tmp 9) f36c3 .skip) f36c4)
def f36c1 : C := (.seq (.reg f36r1) f36c2)
def f36c0 : C := (.seq (.reg f36r0) f36c1)
theorem f36cmp : cmpF Try.prog Try.f36 [.l [.o 0, .kp [0, 1]],
  .l [.o 0, .o 1, .o 2, .o 3, .kp [0, 9]],
  .l [.o 0, .kp [4]],
  .l [.o 0, .kp [0, 5]],
  .l [.o 0, .o 1, .o 2, .o 3, .kp [0, 5, 13]],
  .l [.o 0, .o 1, .o 2, .o 3, .o 4, .o 5, .o 6, .o 7, .o 8, .sc 24 false 8, .o 9, .o 10, .o 11, .o 12, .o 13, .o 14, .o 15, .o 16, .o 17, .kp [33, 0, 5]],
  .l [.o 0, .kp [4]],
  .l [.o 0, .o 1, .o 2, .kp [0, 5]],
  .l [.o 0, .kp [4]]] = some (f36c0, [.tmp 4]) := by kernel_rfl
theorem f36ok {args : List Value} {h : Heap} {R : Value → Heap → Prop} (hn : args.length ≤ 34) (H : wC Try.prog f36c0 (endW [.tmp 4] R) (envOf 0 args) h) : CallsH Try.prog 36 args h R :=
  fn_ok2 Try.func36 f36cmp hn H
theorem f36cal : callable Try.prog 36 = true := by kernel_rfl
section
variable {Q : X → Env → Heap → Prop} {σ : Env} {h : Heap}
theorem f36c3_eq : wC Try.prog f36c3 Q σ h = (wL Try.prog none f36r2 0 (fun σ h => Q .ret σ h) σ h) := rfl
theorem f36c11_eq : wC Try.prog f36c11 Q σ h = (wL Try.prog none f36r6 0 (fun σ h => Q .ret σ h) σ h) := rfl
theorem f36c10_eq : wC Try.prog f36c10 Q σ h = (bd (evO σ (.tmp 33)) fun v => bd (asB v) fun t => br t (wC Try.prog f36c11 Q σ h) (Q .normal σ h)) := rfl
theorem f36c9_eq : wC Try.prog f36c9 Q σ h = (wL Try.prog none f36r5 0 (fun σ h => wC Try.prog f36c10 Q σ h) σ h) := rfl
theorem f36c12_eq : wC Try.prog f36c12 Q σ h = (wL Try.prog none f36r7 0 (fun σ h => Q .normal σ h) σ h) := rfl
theorem f36c8_eq : wC Try.prog f36c8 Q σ h = (wC Try.prog f36c9 (X.inBlock 1 (X.then (fun σ h => wC Try.prog f36c12 Q σ h) Q)) σ h) := rfl
theorem f36c7_eq : wC Try.prog f36c7 Q σ h = (bd (evO σ (.tmp 13)) fun v => bd (asB v) fun t => br t (wC Try.prog f36c8 Q σ h) (Q (.exit 0) σ h)) := rfl
theorem f36c6_eq : wC Try.prog f36c6 Q σ h = (wL Try.prog none f36r4 0 (fun σ h => wC Try.prog f36c7 Q σ h) σ h) := rfl
theorem f36c13_eq : wC Try.prog f36c13 Q σ h = (wL Try.prog none f36r8 0 (fun σ h => Q .ret σ h) σ h) := rfl
theorem f36c5_eq : wC Try.prog f36c5 Q σ h = (loopW (wC Try.prog f36c6) (X.inBlock 0 (X.then (fun σ h => wC Try.prog f36c13 Q σ h) Q)) σ h) := rfl
theorem f36c4_eq : wC Try.prog f36c4 Q σ h = (wL Try.prog none f36r3 0 (fun σ h => wC Try.prog f36c5 Q σ h) σ h) := rfl
theorem f36c2_eq : wC Try.prog f36c2 Q σ h = (bd (evO σ (.tmp 9)) fun v => bd (asB v) fun t => br t (wC Try.prog f36c3 (X.then (fun σ h => wC Try.prog f36c4 Q σ h) Q) σ h) (wC Try.prog f36c4 Q σ h)) := rfl
theorem f36c1_eq : wC Try.prog f36c1 Q σ h = (wL Try.prog none f36r1 0 (fun σ h => wC Try.prog f36c2 Q σ h) σ h) := rfl
theorem f36c0_eq : wC Try.prog f36c0 Q σ h = (wL Try.prog none f36r0 0 (fun σ h => wC Try.prog f36c1 Q σ h) σ h) := rfl
end
/-! ### f37: antipode/antipodelaw8.do -/
def f37r0 : List I := [.op (.box 3 78 (.tmp 1)),
  .op (.mov 4 (.const (.slice none 0 0))),
  .op (.mov 5 (.const (.slice none 0 0))),
  .kp [0, 3]]
def f37r1 : List I := [.op (.fad 6 0 (.tmp 3)),
  .op (.ld 7 none (.tmp 6)),
  .op (.call (some 8) 78 [(.tmp 7)]),
  .kp [0, 3, 8]]
def f37r2 : List I := [.op (.bin 10 .eql (.tmp 8) (.const (.int .i64 0))),
  .op (.mov 9 (.tmp 10)),
  .kp [0, 3, 8, 9]]
def f37r3 : List I := [.op (.mov 11 (.tmp 0)),
  .op (.fad 12 1 (.tmp 3)),
  .op (.ld 13 (some 3) (.tmp 12)),
  .op (.fad 14 4 (.tmp 3)),
  .op (.ld 15 (some 9) (.tmp 14)),
  .op (.mov 17 (.tmp 0)),
  .op (.fad 18 1 (.tmp 3)),
  .op (.ld 19 (some 3) (.tmp 18)),
  .op (.fad 20 4 (.tmp 3)),
  .op (.ld 21 (some 9) (.tmp 20)),
  .kp [11, 13, 15, 17, 19, 21],
  .op (.call (some 16) 40 [(.tmp 11), (.tmp 13), (.tmp 15)]),
  .op (.call (some 22) 79 [(.tmp 17), (.tmp 19), (.tmp 21)]),
  .op (.mov 4 (.tmp 16)),
  .op (.mov 5 (.tmp 22)),
  .kp [4, 5]]
def f37r4 : List I := [.op (.bin 24 .eql (.tmp 8) (.const (.int .i64 1))),
  .op (.mov 23 (.tmp 24)),
  .kp [0, 3, 23]]
def f37r5 : List I := [.op (.mov 25 (.tmp 0)),
  .op (.fad 26 4 (.tmp 3)),
  .op (.fad 27 0 (.tmp 26)),
  .op (.ld 28 (some 4) (.tmp 27)),
  .op (.fad 29 13 (.tmp 3)),
  .op (.ld 30 none (.tmp 29)),
  .op (.mov 32 (.tmp 0)),
  .op (.fad 33 4 (.tmp 3)),
  .op (.fad 34 0 (.tmp 33)),
  .op (.ld 35 (some 4) (.tmp 34)),
  .kp [3, 25, 28, 30, 32, 35],
  .op (.fad 36 13 (.tmp 3)),
  .op (.ld 37 none (.tmp 36)),
  .op (.call (some 31) 39 [(.tmp 25), (.tmp 28), (.tmp 30)]),
  .op (.call (some 38) 80 [(.tmp 32), (.tmp 35), (.tmp 37)]),
  .op (.mov 4 (.tmp 31)),
  .op (.mov 5 (.tmp 38)),
  .kp [4, 5]]
def f37r6 : List I := [.op (.mov 39 (.tmp 0)),
  .op (.fad 40 4 (.tmp 3)),
  .op (.fad 41 5 (.tmp 40)),
  .op (.ld 42 (some 2) (.tmp 41)),
  .op (.mov 44 (.tmp 0)),
  .op (.fad 45 4 (.tmp 3)),
  .op (.fad 46 5 (.tmp 45)),
  .op (.ld 47 (some 2) (.tmp 46)),
  .op (.call (some 43) 46 [(.tmp 39), (.tmp 42)]),
  .op (.call (some 48) 81 [(.tmp 44), (.tmp 47)]),
  .kp [43, 48],
  .op (.mov 4 (.tmp 43)),
  .op (.mov 5 (.tmp 48)),
  .kp [4, 5]]
def f37c5 : C := (.seq (.drw f37r3) .ret)
def f37c8 : C := (.seq (.drw f37r5) .ret)
def f37c7 : C := (.cond (.tmp 23) f37c8 .skip)
def f37c6 : C := (.seq (.reg f37r4) f37c7)
def f37c4 : C := (.cond (.tmp 9) f37c5 f37c6)
def f37c3 : C := (.seq (.reg f37r2) f37c4)
def f37c9 : C := (.seq (.drw f37r6) .ret)
def f37c2 : C := (.seq (.block 0 f37c3) f37c9)
def f37c1 : C := (.seq (.reg f37r1) f37c2)
def f37c0 : C := (.seq (.reg f37r0) f37c1)
theorem f37cmp : cmpF Try.prog Try.f37 [.l [.o 0, .o 1, .o 2, .kp [0, 3]],
  .l [.o 0, .o 1, .o 2, .kp [0, 3, 8]],
  .l [.o 0, .o 1, .kp [0, 3, 8, 9]],
  .l [.o 0, .o 1, .o 2, .o 3, .o 4, .o 6, .o 7, .o 8, .o 9, .o 10, .kp [11, 13, 15, 17, 19, 21], .o 5, .o 11, .o 12, .o 13, .kp [4, 5]],
  .l [.o 0, .o 1, .kp [0, 3, 23]],
  .l [.o 0, .o 1, .o 2, .o 3, .o 4, .o 5, .o 7, .o 8, .o 9, .o 10, .kp [3, 25, 28, 30, 32, 35], .o 11, .o 12, .o 6, .o 13, .o 14, .o 15, .kp [4, 5]],
  .l [.o 0, .o 1, .o 2, .o 3, .o 5, .o 6, .o 7, .o 8, .o 4, .o 9, .kp [43, 48], .o 10, .o 11, .kp [4, 5]]] = some (f37c0, [.tmp 4, .tmp 5]) := by kernel_rfl
theorem f37ok {args : List Value} {h : Heap} {R : Value → Heap → Prop} (hn : args.length ≤ 49) (H : wC Try.prog f37c0 (endW [.tmp 4, .tmp 5] R) (envOf 0 args) h) : CallsH Try.prog 37 args h R :=
  fn_ok2 Try.func37 f37cmp hn H
theorem f37cal : callable Try.prog 37 = true := by kernel_rfl
section
variable {Q : X → Env → Heap → Prop} {σ : Env} {h : Heap}
theorem f37c5_eq : wC Try.prog f37c5 Q σ h = (drwW Try.prog f37r3 (fun σ h => Q .ret σ h) σ h) := rfl
theorem f37c8_eq : wC Try.prog f37c8 Q σ h = (drwW Try.prog f37r5 (fun σ h => Q .ret σ h) σ h) := rfl
theorem f37c7_eq : wC Try.prog f37c7 Q σ h = (bd (evO σ (.tmp 23)) fun v => bd (asB v) fun t => br t (wC Try.prog f37c8 Q σ h) (Q .normal σ h)) := rfl
theorem f37c6_eq : wC Try.prog f37c6 Q σ h = (wL Try.prog none f37r4 0 (fun σ h => wC Try.prog f37c7 Q σ h) σ h) := rfl
theorem f37c4_eq : wC Try.prog f37c4 Q σ h = (bd (evO σ (.tmp 9)) fun v => bd (asB v) fun t => br t (wC Try.prog f37c5 Q σ h) (wC Try.prog f37c6 Q σ h)) := rfl
theorem f37c3_eq : wC Try.prog f37c3 Q σ h = (wL Try.prog none f37r2 0 (fun σ h => wC Try.prog f37c4 Q σ h) σ h) := rfl
theorem f37c9_eq : wC Try.prog f37c9 Q σ h = (drwW Try.prog f37r6 (fun σ h => Q .ret σ h) σ h) := rfl
theorem f37c2_eq : wC Try.prog f37c2 Q σ h = (wC Try.prog f37c3 (X.inBlock 0 (X.then (fun σ h => wC Try.prog f37c9 Q σ h) Q)) σ h) := rfl
theorem f37c1_eq : wC Try.prog f37c1 Q σ h = (wL Try.prog none f37r1 0 (fun σ h => wC Try.prog f37c2 Q σ h) σ h) := rfl
theorem f37c0_eq : wC Try.prog f37c0 Q σ h = (wL Try.prog none f37r0 0 (fun σ h => wC Try.prog f37c1 Q σ h) σ h) := rfl
end
/-! ### f78: antipode/antipodelaw8.number -/
def f78r0 : List I := [.op (.mov 2 (.const (.int .i64 0))),
  .kp [0]]
def f78r1 : List I := [.op (.mov 3 (.tmp 0)),
  .op (.raw (some 4) ⟨(some 4), (.binOp .rem 3 (.tmp 3) (.const (.int .i64 3)) 3), 3, "law.go:60", #[⟨0, .data⟩], none⟩),
  .op (.bin 5 .add (.tmp 4) (.const (.int .i64 3))),
  .op (.raw (some 6) ⟨(some 6), (.binOp .rem 3 (.tmp 5) (.const (.int .i64 3)) 3), 3, "law.go:60", #[⟨2, .data⟩], none⟩),
  .op (.mov 2 (.tmp 6)),
  .kp [2]]
def f78c1 : C := (.seq (.reg f78r1) .ret)
def f78c0 : C := (.seq (.reg f78r0) f78c1)
theorem f78cmp : cmpF Try.prog Try.f78 [.l [.o 0, .kp [0]],
  .l [.o 0, .o 1, .o 2, .o 3, .o 4, .kp [2]]] = some (f78c0, [.tmp 2]) := by kernel_rfl
theorem f78ok {args : List Value} {h : Heap} {R : Value → Heap → Prop} (hn : args.length ≤ 7) (H : wC Try.prog f78c0 (endW [.tmp 2] R) (envOf 0 args) h) : CallsH Try.prog 78 args h R :=
  fn_ok2 Try.func78 f78cmp hn H
theorem f78cal : callable Try.prog 78 = true := by kernel_rfl
section
variable {Q : X → Env → Heap → Prop} {σ : Env} {h : Heap}
theorem f78c1_eq : wC Try.prog f78c1 Q σ h = (wL Try.prog none f78r1 0 (fun σ h => Q .ret σ h) σ h) := rfl
theorem f78c0_eq : wC Try.prog f78c0 Q σ h = (wL Try.prog none f78r0 0 (fun σ h => wC Try.prog f78c1 Q σ h) σ h) := rfl
end
end Go.Proofs.Ytefghfgmkndikaa
