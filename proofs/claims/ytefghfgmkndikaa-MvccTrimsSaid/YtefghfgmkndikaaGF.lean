/-
  By a program of mine (wip/tools/gen.py): the code of functions of the seat in the small instruction language, and that it is their code.
-/
import Derived.Test.YtefghfgmkndikaaFM
import Derived.Test.YtefghfgmkndikaaProg
set_option linter.unusedSimpArgs false
set_option linter.unusedVariables false
namespace Go.Proofs.Ytefghfgmkndikaa
open Go.AX
set_option maxRecDepth 100000
/-! ### f51: antipode/antipoderef8.May -/
def f51r0 : List I := [.op (.mov 2 (.const (.bool false))),
  .kp [0]]
def f51r1 : List I := [.op (.mov 3 (.const (.int .i64 0))),
  .kp [0, 3]]
def f51r2 : List I := [.op (.mov 7 (.tmp 3)),
  .op (.mov 8 (.tmp 0)),
  .op (.len 9 true (.tmp 8)),
  .op (.bin 10 .lss (.tmp 7) (.tmp 9)),
  .kp [0, 3, 10]]
def f51r3 : List I := [.op (.mov 13 (.tmp 0)),
  .op (.mov 14 (.tmp 3)),
  .op (.iad 15 12 (.tmp 13) (.tmp 14)),
  .op (.ld 16 (some 12) (.tmp 15)),
  .op (.new 4 103 [.string ⟨#[]⟩, .slice none 0 0, .bool false, .int .i64 0, .int .i64 0, .int .i64 0, .int .i64 0, .int .i64 0, .int .i64 0, .int .i64 0, .bool false, .string ⟨#[]⟩]),
  .op (.st 12 (.tmp 4) (.tmp 16)),
  .kp [0, 3, 4]]
def f51r4c : List I := [.op (.mov 52 (.tmp 51)),
  .sc 52 false 10,
  .g 52 false (.fad 53 3 (.tmp 4)),
  .g 52 false (.fad 54 7 (.tmp 53)),
  .g 52 false (.ld 55 none (.tmp 54)),
  .g 52 false (.mov 56 (.tmp 55)),
  .sc 56 true 4,
  .g 56 true (.fad 57 3 (.tmp 4)),
  .g 56 true (.fad 58 8 (.tmp 57)),
  .g 56 true (.ld 59 none (.tmp 58)),
  .g 56 true (.bin 60 .neq (.tmp 59) (.const (.string ⟨#[]⟩))),
  .g 52 false (.pick 61 (.tmp 56) (.tmp 60) (.const (.bool false))),
  .op (.pick 62 (.tmp 52) (.const (.bool true)) (.tmp 61)),
  .kp [62, 0, 3, 4]]
def f51r4b : List I := .op (.mov 41 (.tmp 40)) ::
  .sc 41 false 10 ::
  .g 41 false (.fad 42 1 (.tmp 4)) ::
  .g 41 false (.ld 43 none (.tmp 42)) ::
  .g 41 false (.len 44 true (.tmp 43)) ::
  .g 41 false (.bin 45 .eql (.tmp 44) (.const (.int .i64 0))) ::
  .g 41 false (.mov 46 (.tmp 45)) ::
  .sc 46 true 3 ::
  .g 46 true (.fad 47 2 (.tmp 4)) ::
  .g 46 true (.ld 48 none (.tmp 47)) ::
  .g 46 true (.un 49 .not (.tmp 48)) ::
  .g 41 false (.pick 50 (.tmp 46) (.tmp 49) (.const (.bool false))) ::
  .op (.pick 51 (.tmp 41) (.const (.bool true)) (.tmp 50)) ::
  .kp [51, 0, 3, 4] ::
  f51r4c
def f51r4a : List I := .op (.mov 30 (.tmp 29)) ::
  .sc 30 false 10 ::
  .g 30 false (.fad 31 2 (.tmp 4)) ::
  .g 30 false (.ld 32 none (.tmp 31)) ::
  .g 30 false (.un 33 .not (.tmp 32)) ::
  .g 30 false (.mov 34 (.tmp 33)) ::
  .sc 34 true 4 ::
  .g 34 true (.fad 35 3 (.tmp 4)) ::
  .g 34 true (.ld 36 (some 9) (.tmp 35)) ::
  .g 34 true (.bld 37 [.int .i64 0, .int .i64 0, .int .i64 0, .int .i64 0, .int .i64 0, .int .i64 0, .int .i64 0, .bool false, .string ⟨#[]⟩] []) ::
  .g 34 true (.eqa 38 true [.i .i64, .i .i64, .i .i64, .i .i64, .i .i64, .i .i64, .i .i64, .b, .s] (.tmp 36) (.tmp 37)) ::
  .g 30 false (.pick 39 (.tmp 34) (.tmp 38) (.const (.bool false))) ::
  .op (.pick 40 (.tmp 30) (.const (.bool true)) (.tmp 39)) ::
  .kp [40, 0, 3, 4] ::
  f51r4b
def f51r4 : List I := .op (.mov 17 (.tmp 3)) ::
  .op (.bin 18 .gtr (.tmp 17) (.const (.int .i64 0))) ::
  .op (.mov 19 (.tmp 18)) ::
  .sc 19 true 9 ::
  .g 19 true (.mov 20 (.tmp 0)) ::
  .g 19 true (.mov 21 (.tmp 3)) ::
  .g 19 true (.bin 22 .sub (.tmp 21) (.const (.int .i64 1))) ::
  .g 19 true (.iad 23 12 (.tmp 20) (.tmp 22)) ::
  .g 19 true (.fad 24 0 (.tmp 23)) ::
  .g 19 true (.ld 25 none (.tmp 24)) ::
  .g 19 true (.fad 26 0 (.tmp 4)) ::
  .g 19 true (.ld 27 none (.tmp 26)) ::
  .g 19 true (.bin 28 .geq (.tmp 25) (.tmp 27)) ::
  .op (.pick 29 (.tmp 19) (.tmp 28) (.const (.bool false))) ::
  .kp [29, 0, 3, 4] ::
  f51r4a
def f51r5 : List I := [.op (.mov 2 (.const (.bool false))),
  .kp [2]]
def f51r6 : List I := [.op (.mov 5 (.const (.int .i64 0))),
  .kp [0, 3, 4, 5]]
def f51r7 : List I := [.op (.mov 63 (.tmp 5)),
  .op (.fad 64 1 (.tmp 4)),
  .op (.ld 65 none (.tmp 64)),
  .op (.len 66 true (.tmp 65)),
  .op (.bin 67 .lss (.tmp 63) (.tmp 66)),
  .kp [0, 3, 4, 5, 67]]
def f51r8 : List I := [.op (.fad 70 1 (.tmp 4)),
  .op (.ld 71 none (.tmp 70)),
  .op (.mov 72 (.tmp 5)),
  .op (.iad 73 4 (.tmp 71) (.tmp 72)),
  .op (.ld 74 (some 4) (.tmp 73)),
  .op (.new 6 108 [.int .i64 0, .int .i64 0, .bool false, .string ⟨#[]⟩]),
  .op (.st 4 (.tmp 6) (.tmp 74)),
  .kp [0, 3, 4, 5, 6]]
def f51r9a : List I := [.op (.mov 82 (.tmp 81)),
  .sc 82 false 16,
  .g 82 false (.mov 83 (.tmp 5)),
  .g 82 false (.bin 84 .gtr (.tmp 83) (.const (.int .i64 0))),
  .g 82 false (.mov 85 (.tmp 84)),
  .sc 85 true 11,
  .g 85 true (.fad 86 1 (.tmp 4)),
  .g 85 true (.ld 87 none (.tmp 86)),
  .g 85 true (.mov 88 (.tmp 5)),
  .g 85 true (.bin 89 .sub (.tmp 88) (.const (.int .i64 1))),
  .g 85 true (.iad 90 4 (.tmp 87) (.tmp 89)),
  .g 85 true (.fad 91 0 (.tmp 90)),
  .g 85 true (.ld 92 (some 2) (.tmp 91)),
  .g 85 true (.fad 93 0 (.tmp 6)),
  .g 85 true (.ld 94 (some 2) (.tmp 93)),
  .g 85 true (.call (some 95) 42 [(.tmp 92), (.tmp 94)]),
  .g 85 true (.un 96 .not (.tmp 95)),
  .g 82 false (.pick 97 (.tmp 85) (.tmp 96) (.const (.bool false))),
  .op (.pick 98 (.tmp 82) (.const (.bool true)) (.tmp 97)),
  .kp [98, 0, 3, 4, 5]]
def f51r9 : List I := .op (.fad 75 2 (.tmp 6)) ::
  .op (.ld 76 none (.tmp 75)) ::
  .op (.mov 77 (.tmp 76)) ::
  .sc 77 true 3 ::
  .g 77 true (.fad 78 3 (.tmp 6)) ::
  .g 77 true (.ld 79 none (.tmp 78)) ::
  .g 77 true (.bin 80 .neq (.tmp 79) (.const (.string ⟨#[]⟩))) ::
  .op (.pick 81 (.tmp 77) (.tmp 80) (.const (.bool false))) ::
  .kp [81, 0, 3, 4, 5, 6] ::
  f51r9a
def f51r10 : List I := [.op (.mov 2 (.const (.bool false))),
  .kp [2]]
def f51r11 : List I := [.op (.mov 68 (.tmp 5)),
  .op (.bin 69 .add (.tmp 68) (.const (.int .i64 1))),
  .op (.mov 5 (.tmp 69)),
  .kp [0, 3, 4, 5]]
def f51r12 : List I := [.op (.mov 11 (.tmp 3)),
  .op (.bin 12 .add (.tmp 11) (.const (.int .i64 1))),
  .op (.mov 3 (.tmp 12)),
  .kp [0, 3]]
def f51r13 : List I := [.op (.mov 2 (.const (.bool true))),
  .kp [2]]
def f51c9 : C := (.seq (.reg f51r5) .ret)
def f51c18 : C := (.seq (.reg f51r10) .ret)
def f51c17 : C := (.cond (.tmp 98) f51c18 .skip)
def f51c16 : C := (.seq (.drw f51r9) f51c17)
def f51c15 : C := (.seq (.reg f51r8) f51c16)
def f51c19 : C := (.reg f51r11)
def f51c14 : C := (.seq (.block 3 f51c15) f51c19)
def f51c13 : C := (.seq (.cond (.tmp 67) .skip (.exit 2)) f51c14)
def f51c12 : C := (.seq (.reg f51r7) f51c13)
def f51c11 : C := (.block 2 (.loop f51c12))
def f51c10 : C := (.seq (.reg f51r6) f51c11)
def f51c8 : C := (.seq (.cond (.tmp 62) f51c9 .skip) f51c10)
def f51c7 : C := (.seq (.drw f51r4) f51c8)
def f51c6 : C := (.seq (.reg f51r3) f51c7)
def f51c20 : C := (.reg f51r12)
def f51c5 : C := (.seq (.block 1 f51c6) f51c20)
def f51c4 : C := (.seq (.cond (.tmp 10) .skip (.exit 0)) f51c5)
def f51c3 : C := (.seq (.reg f51r2) f51c4)
def f51c21 : C := (.seq (.reg f51r13) .ret)
def f51c2 : C := (.seq (.block 0 (.loop f51c3)) f51c21)
def f51c1 : C := (.seq (.reg f51r1) f51c2)
def f51c0 : C := (.seq (.reg f51r0) f51c1)
theorem f51cmp : cmpF Try.prog Try.f51 [.l [.o 0, .kp [0]],
  .l [.o 0, .kp [0, 3]],
  .l [.o 0, .o 1, .o 2, .o 3, .kp [0, 3, 10]],
  .l [.o 0, .o 1, .o 2, .o 3, .o 4, .o 5, .kp [0, 3, 4]],
  .l [.o 0, .o 1, .o 2, .sc 19 true 9, .o 3, .o 4, .o 5, .o 6, .o 7, .o 8, .o 9, .o 10, .o 11, .o 12, .kp [29, 0, 3, 4], .o 13, .sc 30 false 10, .o 14, .o 15, .o 16, .o 17, .sc 34 true 4, .o 18, .o 19, .o 20, .o 21, .o 22, .o 23, .kp [40, 0, 3, 4], .o 24, .sc 41 false 10, .o 25, .o 26, .o 27, .o 28, .o 29, .sc 46 true 3, .o 30, .o 31, .o 32, .o 33, .o 34, .kp [51, 0, 3, 4], .o 35, .sc 52 false 10, .o 36, .o 37, .o 38, .o 39, .sc 56 true 4, .o 40, .o 41, .o 42, .o 43, .o 44, .o 45, .kp [62, 0, 3, 4]],
  .l [.o 0, .kp [2]],
  .l [.o 0, .kp [0, 3, 4, 5]],
  .l [.o 0, .o 1, .o 2, .o 3, .o 4, .kp [0, 3, 4, 5, 67]],
  .l [.o 0, .o 1, .o 2, .o 3, .o 4, .o 5, .o 6, .kp [0, 3, 4, 5, 6]],
  .l [.o 0, .o 1, .o 2, .sc 77 true 3, .o 3, .o 4, .o 5, .o 6, .kp [81, 0, 3, 4, 5, 6], .o 7, .sc 82 false 16, .o 8, .o 9, .o 10, .sc 85 true 11, .o 11, .o 12, .o 13, .o 14, .o 15, .o 16, .o 17, .o 18, .o 19, .o 20, .o 21, .o 22, .o 23, .kp [98, 0, 3, 4, 5]],
  .l [.o 0, .kp [2]],
  .l [.o 0, .o 1, .o 2, .kp [0, 3, 4, 5]],
  .l [.o 0, .o 1, .o 2, .kp [0, 3]],
  .l [.o 0, .kp [2]]] = some (f51c0, [.tmp 2]) := by kernel_rfl
theorem f51ok {args : List Value} {h : Heap} {R : Value → Heap → Prop} (hn : args.length ≤ 99) (H : wC Try.prog f51c0 (endW [.tmp 2] R) (envOf 0 args) h) : CallsH Try.prog 51 args h R :=
  fn_ok2 Try.func51 f51cmp hn H
theorem f51cal : callable Try.prog 51 = true := by kernel_rfl
section
variable {Q : X → Env → Heap → Prop} {σ : Env} {h : Heap}
theorem f51c9_eq : wC Try.prog f51c9 Q σ h = (wL Try.prog none f51r5 0 (fun σ h => Q .ret σ h) σ h) := rfl
theorem f51c18_eq : wC Try.prog f51c18 Q σ h = (wL Try.prog none f51r10 0 (fun σ h => Q .ret σ h) σ h) := rfl
theorem f51c17_eq : wC Try.prog f51c17 Q σ h = (bd (evO σ (.tmp 98)) fun v => bd (asB v) fun t => br t (wC Try.prog f51c18 Q σ h) (Q .normal σ h)) := rfl
theorem f51c16_eq : wC Try.prog f51c16 Q σ h = (drwW Try.prog f51r9 (fun σ h => wC Try.prog f51c17 Q σ h) σ h) := rfl
theorem f51c15_eq : wC Try.prog f51c15 Q σ h = (wL Try.prog none f51r8 0 (fun σ h => wC Try.prog f51c16 Q σ h) σ h) := rfl
theorem f51c19_eq : wC Try.prog f51c19 Q σ h = (wL Try.prog none f51r11 0 (fun σ h => Q .normal σ h) σ h) := rfl
theorem f51c14_eq : wC Try.prog f51c14 Q σ h = (wC Try.prog f51c15 (X.inBlock 3 (X.then (fun σ h => wC Try.prog f51c19 Q σ h) Q)) σ h) := rfl
theorem f51c13_eq : wC Try.prog f51c13 Q σ h = (bd (evO σ (.tmp 67)) fun v => bd (asB v) fun t => br t (wC Try.prog f51c14 Q σ h) (Q (.exit 2) σ h)) := rfl
theorem f51c12_eq : wC Try.prog f51c12 Q σ h = (wL Try.prog none f51r7 0 (fun σ h => wC Try.prog f51c13 Q σ h) σ h) := rfl
theorem f51c11_eq : wC Try.prog f51c11 Q σ h = (loopW (wC Try.prog f51c12) (X.inBlock 2 Q) σ h) := rfl
theorem f51c10_eq : wC Try.prog f51c10 Q σ h = (wL Try.prog none f51r6 0 (fun σ h => wC Try.prog f51c11 Q σ h) σ h) := rfl
theorem f51c8_eq : wC Try.prog f51c8 Q σ h = (bd (evO σ (.tmp 62)) fun v => bd (asB v) fun t => br t (wC Try.prog f51c9 (X.then (fun σ h => wC Try.prog f51c10 Q σ h) Q) σ h) (wC Try.prog f51c10 Q σ h)) := rfl
theorem f51c7_eq : wC Try.prog f51c7 Q σ h = (drwW Try.prog f51r4 (fun σ h => wC Try.prog f51c8 Q σ h) σ h) := rfl
theorem f51c6_eq : wC Try.prog f51c6 Q σ h = (wL Try.prog none f51r3 0 (fun σ h => wC Try.prog f51c7 Q σ h) σ h) := rfl
theorem f51c20_eq : wC Try.prog f51c20 Q σ h = (wL Try.prog none f51r12 0 (fun σ h => Q .normal σ h) σ h) := rfl
theorem f51c5_eq : wC Try.prog f51c5 Q σ h = (wC Try.prog f51c6 (X.inBlock 1 (X.then (fun σ h => wC Try.prog f51c20 Q σ h) Q)) σ h) := rfl
theorem f51c4_eq : wC Try.prog f51c4 Q σ h = (bd (evO σ (.tmp 10)) fun v => bd (asB v) fun t => br t (wC Try.prog f51c5 Q σ h) (Q (.exit 0) σ h)) := rfl
theorem f51c3_eq : wC Try.prog f51c3 Q σ h = (wL Try.prog none f51r2 0 (fun σ h => wC Try.prog f51c4 Q σ h) σ h) := rfl
theorem f51c21_eq : wC Try.prog f51c21 Q σ h = (wL Try.prog none f51r13 0 (fun σ h => Q .ret σ h) σ h) := rfl
theorem f51c2_eq : wC Try.prog f51c2 Q σ h = (loopW (wC Try.prog f51c3) (X.inBlock 0 (X.then (fun σ h => wC Try.prog f51c21 Q σ h) Q)) σ h) := rfl
theorem f51c1_eq : wC Try.prog f51c1 Q σ h = (wL Try.prog none f51r1 0 (fun σ h => wC Try.prog f51c2 Q σ h) σ h) := rfl
theorem f51c0_eq : wC Try.prog f51c0 Q σ h = (wL Try.prog none f51r0 0 (fun σ h => wC Try.prog f51c1 Q σ h) σ h) := rfl
end
/-! ### f43: antipode/antipoderef8.Same -/
def f43r0 : List I := [.op (.mov 4 (.const (.bool false))),
  .kp [0, 1]]
def f43r1 : List I := [.op (.mov 9 (.tmp 0)),
  .op (.len 10 true (.tmp 9)),
  .op (.mov 11 (.tmp 1)),
  .op (.len 12 true (.tmp 11)),
  .op (.bin 13 .neq (.tmp 10) (.tmp 12)),
  .kp [0, 1, 13]]
def f43r2 : List I := [.op (.mov 4 (.const (.bool false))),
  .kp [4]]
def f43r3 : List I := [.op (.mov 5 (.const (.int .i64 0))),
  .kp [0, 1, 5]]
def f43r4 : List I := [.op (.mov 14 (.tmp 5)),
  .op (.mov 15 (.tmp 0)),
  .op (.len 16 true (.tmp 15)),
  .op (.bin 17 .lss (.tmp 14) (.tmp 16)),
  .kp [0, 1, 5, 17]]
def f43r5 : L := (.one [.op (.mov 20 (.tmp 0)),
  .op (.mov 21 (.tmp 5)),
  .op (.iad 22 12 (.tmp 20) (.tmp 21)),
  .op (.ld 23 (some 12) (.tmp 22)),
  .op (.mov 24 (.tmp 1)),
  .op (.mov 25 (.tmp 5)),
  .op (.iad 26 12 (.tmp 24) (.tmp 25)),
  .op (.ld 27 (some 12) (.tmp 26))] (.alt (.one [.op (.new 6 103 [.string ⟨#[]⟩, .slice none 0 0, .bool false, .int .i64 0, .int .i64 0, .int .i64 0, .int .i64 0, .int .i64 0, .int .i64 0, .int .i64 0, .bool false, .string ⟨#[]⟩]),
  .op (.new 7 103 [.string ⟨#[]⟩, .slice none 0 0, .bool false, .int .i64 0, .int .i64 0, .int .i64 0, .int .i64 0, .int .i64 0, .int .i64 0, .int .i64 0, .bool false, .string ⟨#[]⟩]),
  .op (.st 12 (.tmp 6) (.tmp 23)),
  .op (.st 12 (.tmp 7) (.tmp 27)),
  .kp [0, 1, 5, 6, 7]] .nil) (.one [.op (.new 7 103 [.string ⟨#[]⟩, .slice none 0 0, .bool false, .int .i64 0, .int .i64 0, .int .i64 0, .int .i64 0, .int .i64 0, .int .i64 0, .int .i64 0, .bool false, .string ⟨#[]⟩]),
  .op (.new 6 103 [.string ⟨#[]⟩, .slice none 0 0, .bool false, .int .i64 0, .int .i64 0, .int .i64 0, .int .i64 0, .int .i64 0, .int .i64 0, .int .i64 0, .bool false, .string ⟨#[]⟩]),
  .op (.st 12 (.tmp 6) (.tmp 23)),
  .op (.st 12 (.tmp 7) (.tmp 27)),
  .kp [0, 1, 5, 6, 7]] .nil)))
def f43r6b : List I := [.op (.mov 47 (.tmp 46)),
  .sc 47 false 7,
  .g 47 false (.fad 48 1 (.tmp 6)),
  .g 47 false (.ld 49 none (.tmp 48)),
  .g 47 false (.len 50 true (.tmp 49)),
  .g 47 false (.fad 51 1 (.tmp 7)),
  .g 47 false (.ld 52 none (.tmp 51)),
  .g 47 false (.len 53 true (.tmp 52)),
  .g 47 false (.bin 54 .neq (.tmp 50) (.tmp 53)),
  .op (.pick 55 (.tmp 47) (.const (.bool true)) (.tmp 54)),
  .kp [55, 0, 1, 5, 6, 7]]
def f43r6a : List I := .op (.mov 40 (.tmp 39)) ::
  .sc 40 false 5 ::
  .g 40 false (.fad 41 3 (.tmp 6)) ::
  .g 40 false (.ld 42 (some 9) (.tmp 41)) ::
  .g 40 false (.fad 43 3 (.tmp 7)) ::
  .g 40 false (.ld 44 (some 9) (.tmp 43)) ::
  .g 40 false (.eqa 45 true [.i .i64, .i .i64, .i .i64, .i .i64, .i .i64, .i .i64, .i .i64, .b, .s] (.tmp 42) (.tmp 44)) ::
  .op (.pick 46 (.tmp 40) (.const (.bool true)) (.tmp 45)) ::
  .kp [46, 0, 1, 5, 6, 7] ::
  f43r6b
def f43r6 : List I := .op (.fad 28 0 (.tmp 6)) ::
  .op (.ld 29 none (.tmp 28)) ::
  .op (.fad 30 0 (.tmp 7)) ::
  .op (.ld 31 none (.tmp 30)) ::
  .op (.bin 32 .neq (.tmp 29) (.tmp 31)) ::
  .op (.mov 33 (.tmp 32)) ::
  .sc 33 false 5 ::
  .g 33 false (.fad 34 2 (.tmp 6)) ::
  .g 33 false (.ld 35 none (.tmp 34)) ::
  .g 33 false (.fad 36 2 (.tmp 7)) ::
  .g 33 false (.ld 37 none (.tmp 36)) ::
  .g 33 false (.eqb 38 true (.tmp 35) (.tmp 37)) ::
  .op (.pick 39 (.tmp 33) (.const (.bool true)) (.tmp 38)) ::
  .kp [39, 0, 1, 5, 6, 7] ::
  f43r6a
def f43r7 : List I := [.op (.mov 4 (.const (.bool false))),
  .kp [4]]
def f43r8 : List I := [.op (.mov 8 (.const (.int .i64 0))),
  .kp [0, 1, 5, 6, 7, 8]]
def f43r9 : List I := [.op (.mov 56 (.tmp 8)),
  .op (.fad 57 1 (.tmp 6)),
  .op (.ld 58 none (.tmp 57)),
  .op (.len 59 true (.tmp 58)),
  .op (.bin 60 .lss (.tmp 56) (.tmp 59)),
  .kp [0, 1, 5, 6, 7, 8, 60]]
def f43r10 : List I := [.op (.fad 63 1 (.tmp 6)),
  .op (.ld 64 none (.tmp 63)),
  .op (.mov 65 (.tmp 8)),
  .op (.iad 66 4 (.tmp 64) (.tmp 65)),
  .op (.ld 67 (some 4) (.tmp 66)),
  .op (.fad 68 1 (.tmp 7)),
  .op (.ld 69 none (.tmp 68)),
  .op (.mov 70 (.tmp 8)),
  .op (.iad 71 4 (.tmp 69) (.tmp 70)),
  .op (.ld 72 (some 4) (.tmp 71)),
  .kp [0, 1, 5, 6, 7, 8, 67, 72],
  .op (.eqa 73 true [.i .i64, .i .i64, .b, .s] (.tmp 67) (.tmp 72)),
  .kp [0, 1, 5, 6, 7, 8, 73]]
def f43r11 : List I := [.op (.mov 4 (.const (.bool false))),
  .kp [4]]
def f43r12 : List I := [.op (.mov 61 (.tmp 8)),
  .op (.bin 62 .add (.tmp 61) (.const (.int .i64 1))),
  .op (.mov 8 (.tmp 62)),
  .kp [0, 1, 5, 6, 7, 8]]
def f43r13 : List I := [.op (.mov 18 (.tmp 5)),
  .op (.bin 19 .add (.tmp 18) (.const (.int .i64 1))),
  .op (.mov 5 (.tmp 19)),
  .kp [0, 1, 5]]
def f43r14 : List I := [.op (.mov 4 (.const (.bool true))),
  .kp [4]]
def f43c3 : C := (.seq (.reg f43r2) .ret)
def f43c12 : C := (.seq (.reg f43r7) .ret)
def f43c20 : C := (.seq (.reg f43r11) .ret)
def f43c19 : C := (.cond (.tmp 73) f43c20 .skip)
def f43c18 : C := (.seq (.drw f43r10) f43c19)
def f43c21 : C := (.reg f43r12)
def f43c17 : C := (.seq (.block 3 f43c18) f43c21)
def f43c16 : C := (.seq (.cond (.tmp 60) .skip (.exit 2)) f43c17)
def f43c15 : C := (.seq (.reg f43r9) f43c16)
def f43c14 : C := (.block 2 (.loop f43c15))
def f43c13 : C := (.seq (.reg f43r8) f43c14)
def f43c11 : C := (.seq (.cond (.tmp 55) f43c12 .skip) f43c13)
def f43c10 : C := (.seq (.reg f43r6) f43c11)
def f43c9 : C := (.seq (.drt f43r5) f43c10)
def f43c22 : C := (.reg f43r13)
def f43c8 : C := (.seq (.block 1 f43c9) f43c22)
def f43c7 : C := (.seq (.cond (.tmp 17) .skip (.exit 0)) f43c8)
def f43c6 : C := (.seq (.reg f43r4) f43c7)
def f43c23 : C := (.seq (.reg f43r14) .ret)
def f43c5 : C := (.seq (.block 0 (.loop f43c6)) f43c23)
def f43c4 : C := (.seq (.reg f43r3) f43c5)
def f43c2 : C := (.seq (.cond (.tmp 13) f43c3 .skip) f43c4)
def f43c1 : C := (.seq (.reg f43r1) f43c2)
def f43c0 : C := (.seq (.reg f43r0) f43c1)
theorem f43cmp : cmpF Try.prog Try.f43 [.l [.o 0, .kp [0, 1]],
  .l [.o 0, .o 1, .o 2, .o 3, .o 4, .kp [0, 1, 13]],
  .l [.o 0, .kp [4]],
  .l [.o 0, .kp [0, 1, 5]],
  .l [.o 0, .o 1, .o 2, .o 3, .kp [0, 1, 5, 17]],
  .t (.one [.o 0, .o 1, .o 2, .o 3, .o 4, .o 5, .o 6, .o 7] (.alt (.one [.o 8, .o 9, .o 10, .o 11, .kp [0, 1, 5, 6, 7]] .nil) (.one [.o 9, .o 8, .o 10, .o 11, .kp [0, 1, 5, 6, 7]] .nil))),
  .l [.o 0, .o 1, .o 2, .o 3, .o 4, .o 5, .sc 33 false 5, .o 6, .o 7, .o 8, .o 9, .o 10, .o 11, .kp [39, 0, 1, 5, 6, 7], .o 12, .sc 40 false 5, .o 13, .o 14, .o 15, .o 16, .o 17, .o 18, .kp [46, 0, 1, 5, 6, 7], .o 19, .sc 47 false 7, .o 20, .o 21, .o 22, .o 23, .o 24, .o 25, .o 26, .o 27, .kp [55, 0, 1, 5, 6, 7]],
  .l [.o 0, .kp [4]],
  .l [.o 0, .kp [0, 1, 5, 6, 7, 8]],
  .l [.o 0, .o 1, .o 2, .o 3, .o 4, .kp [0, 1, 5, 6, 7, 8, 60]],
  .l [.o 0, .o 1, .o 2, .o 3, .o 4, .o 5, .o 6, .o 7, .o 8, .o 9, .kp [0, 1, 5, 6, 7, 8, 67, 72], .o 10, .kp [0, 1, 5, 6, 7, 8, 73]],
  .l [.o 0, .kp [4]],
  .l [.o 0, .o 1, .o 2, .kp [0, 1, 5, 6, 7, 8]],
  .l [.o 0, .o 1, .o 2, .kp [0, 1, 5]],
  .l [.o 0, .kp [4]]] = some (f43c0, [.tmp 4]) := by kernel_rfl
theorem f43ok {args : List Value} {h : Heap} {R : Value → Heap → Prop} (hn : args.length ≤ 74) (H : wC Try.prog f43c0 (endW [.tmp 4] R) (envOf 0 args) h) : CallsH Try.prog 43 args h R :=
  fn_ok2 Try.func43 f43cmp hn H
theorem f43cal : callable Try.prog 43 = true := by kernel_rfl
section
variable {Q : X → Env → Heap → Prop} {σ : Env} {h : Heap}
theorem f43c3_eq : wC Try.prog f43c3 Q σ h = (wL Try.prog none f43r2 0 (fun σ h => Q .ret σ h) σ h) := rfl
theorem f43c12_eq : wC Try.prog f43c12 Q σ h = (wL Try.prog none f43r7 0 (fun σ h => Q .ret σ h) σ h) := rfl
theorem f43c20_eq : wC Try.prog f43c20 Q σ h = (wL Try.prog none f43r11 0 (fun σ h => Q .ret σ h) σ h) := rfl
theorem f43c19_eq : wC Try.prog f43c19 Q σ h = (bd (evO σ (.tmp 73)) fun v => bd (asB v) fun t => br t (wC Try.prog f43c20 Q σ h) (Q .normal σ h)) := rfl
theorem f43c18_eq : wC Try.prog f43c18 Q σ h = (drwW Try.prog f43r10 (fun σ h => wC Try.prog f43c19 Q σ h) σ h) := rfl
theorem f43c21_eq : wC Try.prog f43c21 Q σ h = (wL Try.prog none f43r12 0 (fun σ h => Q .normal σ h) σ h) := rfl
theorem f43c17_eq : wC Try.prog f43c17 Q σ h = (wC Try.prog f43c18 (X.inBlock 3 (X.then (fun σ h => wC Try.prog f43c21 Q σ h) Q)) σ h) := rfl
theorem f43c16_eq : wC Try.prog f43c16 Q σ h = (bd (evO σ (.tmp 60)) fun v => bd (asB v) fun t => br t (wC Try.prog f43c17 Q σ h) (Q (.exit 2) σ h)) := rfl
theorem f43c15_eq : wC Try.prog f43c15 Q σ h = (wL Try.prog none f43r9 0 (fun σ h => wC Try.prog f43c16 Q σ h) σ h) := rfl
theorem f43c14_eq : wC Try.prog f43c14 Q σ h = (loopW (wC Try.prog f43c15) (X.inBlock 2 Q) σ h) := rfl
theorem f43c13_eq : wC Try.prog f43c13 Q σ h = (wL Try.prog none f43r8 0 (fun σ h => wC Try.prog f43c14 Q σ h) σ h) := rfl
theorem f43c11_eq : wC Try.prog f43c11 Q σ h = (bd (evO σ (.tmp 55)) fun v => bd (asB v) fun t => br t (wC Try.prog f43c12 (X.then (fun σ h => wC Try.prog f43c13 Q σ h) Q) σ h) (wC Try.prog f43c13 Q σ h)) := rfl
theorem f43c10_eq : wC Try.prog f43c10 Q σ h = (wL Try.prog none f43r6 0 (fun σ h => wC Try.prog f43c11 Q σ h) σ h) := rfl
theorem f43c9_eq : wC Try.prog f43c9 Q σ h = (drtW Try.prog f43r5 (fun σ h => wC Try.prog f43c10 Q σ h) σ h) := rfl
theorem f43c22_eq : wC Try.prog f43c22 Q σ h = (wL Try.prog none f43r13 0 (fun σ h => Q .normal σ h) σ h) := rfl
theorem f43c8_eq : wC Try.prog f43c8 Q σ h = (wC Try.prog f43c9 (X.inBlock 1 (X.then (fun σ h => wC Try.prog f43c22 Q σ h) Q)) σ h) := rfl
theorem f43c7_eq : wC Try.prog f43c7 Q σ h = (bd (evO σ (.tmp 17)) fun v => bd (asB v) fun t => br t (wC Try.prog f43c8 Q σ h) (Q (.exit 0) σ h)) := rfl
theorem f43c6_eq : wC Try.prog f43c6 Q σ h = (wL Try.prog none f43r4 0 (fun σ h => wC Try.prog f43c7 Q σ h) σ h) := rfl
theorem f43c23_eq : wC Try.prog f43c23 Q σ h = (wL Try.prog none f43r14 0 (fun σ h => Q .ret σ h) σ h) := rfl
theorem f43c5_eq : wC Try.prog f43c5 Q σ h = (loopW (wC Try.prog f43c6) (X.inBlock 0 (X.then (fun σ h => wC Try.prog f43c23 Q σ h) Q)) σ h) := rfl
theorem f43c4_eq : wC Try.prog f43c4 Q σ h = (wL Try.prog none f43r3 0 (fun σ h => wC Try.prog f43c5 Q σ h) σ h) := rfl
theorem f43c2_eq : wC Try.prog f43c2 Q σ h = (bd (evO σ (.tmp 13)) fun v => bd (asB v) fun t => br t (wC Try.prog f43c3 (X.then (fun σ h => wC Try.prog f43c4 Q σ h) Q) σ h) (wC Try.prog f43c4 Q σ h)) := rfl
theorem f43c1_eq : wC Try.prog f43c1 Q σ h = (wL Try.prog none f43r1 0 (fun σ h => wC Try.prog f43c2 Q σ h) σ h) := rfl
theorem f43c0_eq : wC Try.prog f43c0 Q σ h = (wL Try.prog none f43r0 0 (fun σ h => wC Try.prog f43c1 Q σ h) σ h) := rfl
end
/-! ### f49: antipode/antipodelaw8.told -/
def f49r0 : List I := [.op (.box 8 39 (.tmp 2)),
  .op (.box 9 94 (.tmp 3)),
  .op (.box 10 37 (.tmp 4)),
  .op (.mov 12 (.const (.bool false))),
  .kp [0, 1, 5, 8, 9, 10]]
def f49r1 : List I := [.op (.mov 31 (.tmp 0)),
  .op (.mov 32 (.tmp 1)),
  .op (.ld 33 (some 2) (.tmp 8)),
  .op (.call (some 34) 41 [(.tmp 31), (.tmp 32), (.tmp 33)]),
  .op (.mov 30 (.tmp 34)),
  .op (.ext 35 (.tmp 30) 0),
  .op (.ext 36 (.tmp 30) 1),
  .op (.mov 13 (.tmp 35)),
  .op (.mov 14 (.tmp 36)),
  .kp [0, 1, 5, 8, 9, 10, 13, 14]]
def f49r2 : List I := [.op (.mov 38 (.tmp 0)),
  .op (.mov 39 (.tmp 1)),
  .op (.ld 40 (some 2) (.tmp 8)),
  .op (.call (some 41) 72 [(.tmp 38), (.tmp 39), (.tmp 40)]),
  .op (.mov 37 (.tmp 41)),
  .op (.ext 42 (.tmp 37) 0),
  .op (.ext 43 (.tmp 37) 1),
  .op (.mov 15 (.tmp 42)),
  .op (.mov 16 (.tmp 43)),
  .kp [0, 1, 5, 8, 9, 10, 13, 14, 15, 16]]
def f49r3 : List I := [.op (.mov 45 (.tmp 0)),
  .op (.ld 46 (some 2) (.tmp 9)),
  .op (.ld 47 (some 2) (.tmp 8)),
  .op (.call (some 48) 93 [(.tmp 45), (.tmp 46), (.tmp 47)]),
  .op (.mov 44 (.tmp 48)),
  .op (.ext 49 (.tmp 44) 0),
  .op (.ext 50 (.tmp 44) 1),
  .op (.new 17 72 [.int .i64 0, .int .i64 0, .int .i64 0, .int .i64 0, .int .i64 0, .int .i64 0, .int .i64 0, .bool false, .string ⟨#[]⟩]),
  .op (.st 9 (.tmp 17) (.tmp 49)),
  .op (.mov 18 (.tmp 50)),
  .kp [0, 1, 5, 8, 9, 10, 13, 14, 15, 16, 17, 18]]
def f49r4 : List I := [.op (.mov 52 (.tmp 0)),
  .op (.ld 53 (some 2) (.tmp 9)),
  .op (.ld 54 (some 2) (.tmp 8)),
  .op (.call (some 55) 67 [(.tmp 52), (.tmp 53), (.tmp 54)]),
  .op (.mov 51 (.tmp 55)),
  .op (.ext 56 (.tmp 51) 0),
  .op (.ext 57 (.tmp 51) 1),
  .op (.new 19 72 [.int .i64 0, .int .i64 0, .int .i64 0, .int .i64 0, .int .i64 0, .int .i64 0, .int .i64 0, .bool false, .string ⟨#[]⟩]),
  .op (.st 9 (.tmp 19) (.tmp 56)),
  .op (.mov 20 (.tmp 57)),
  .kp [0, 1, 5, 8, 9, 10, 13, 14, 15, 16, 17, 18, 19, 20]]
def f49r5 : List I := [.op (.mov 59 (.tmp 0)),
  .op (.ld 60 (some 2) (.tmp 9)),
  .op (.ld 61 (some 2) (.tmp 8)),
  .op (.mov 62 (.tmp 5)),
  .op (.call (some 63) 47 [(.tmp 59), (.tmp 60), (.tmp 61), (.tmp 62)]),
  .op (.mov 58 (.tmp 63)),
  .op (.ext 64 (.tmp 58) 0),
  .op (.ext 65 (.tmp 58) 1),
  .op (.mov 21 (.tmp 64)),
  .op (.mov 22 (.tmp 65)),
  .kp [0, 1, 5, 8, 9, 10, 13, 14, 15, 16, 17, 18, 19, 20, 21, 22]]
def f49r6 : List I := [.op (.mov 67 (.tmp 0)),
  .op (.ld 68 (some 2) (.tmp 9)),
  .op (.ld 69 (some 2) (.tmp 8)),
  .op (.mov 70 (.tmp 5)),
  .op (.call (some 71) 68 [(.tmp 67), (.tmp 68), (.tmp 69), (.tmp 70)]),
  .op (.mov 66 (.tmp 71)),
  .op (.ext 72 (.tmp 66) 0),
  .op (.ext 73 (.tmp 66) 1),
  .op (.mov 23 (.tmp 72)),
  .op (.mov 24 (.tmp 73)),
  .kp [0, 1, 10, 13, 14, 15, 16, 17, 18, 19, 20, 21, 22, 23, 24]]
def f49r7 : List I := [.op (.mov 75 (.tmp 0)),
  .op (.mov 76 (.tmp 1)),
  .op (.call (some 77) 44 [(.tmp 75), (.tmp 76)]),
  .op (.mov 74 (.tmp 77)),
  .op (.ext 78 (.tmp 74) 0),
  .op (.ext 79 (.tmp 74) 1),
  .op (.new 25 72 [.int .i64 0, .int .i64 0, .int .i64 0, .int .i64 0, .int .i64 0, .int .i64 0, .int .i64 0, .bool false, .string ⟨#[]⟩]),
  .op (.st 9 (.tmp 25) (.tmp 78)),
  .op (.mov 26 (.tmp 79)),
  .kp [0, 1, 10, 13, 14, 15, 16, 17, 18, 19, 20, 21, 22, 23, 24, 25, 26]]
def f49r8 : List I := [.op (.mov 81 (.tmp 0)),
  .op (.mov 82 (.tmp 1)),
  .op (.call (some 83) 71 [(.tmp 81), (.tmp 82)]),
  .op (.mov 80 (.tmp 83)),
  .op (.ext 84 (.tmp 80) 0),
  .op (.ext 85 (.tmp 80) 1),
  .op (.new 27 72 [.int .i64 0, .int .i64 0, .int .i64 0, .int .i64 0, .int .i64 0, .int .i64 0, .int .i64 0, .bool false, .string ⟨#[]⟩]),
  .op (.st 9 (.tmp 27) (.tmp 84)),
  .op (.mov 28 (.tmp 85)),
  .kp [0, 10, 13, 14, 15, 16, 17, 18, 19, 20, 21, 22, 23, 24, 25, 26, 27, 28]]
def f49r9h : List I := [.op (.mov 135 (.tmp 134)),
  .sc 135 false 5,
  .g 135 false (.mov 136 (.tmp 0)),
  .g 135 false (.mov 138 (.tmp 0)),
  .g 135 false (.call (some 137) 45 [(.tmp 136)]),
  .g 135 false (.call (some 139) 51 [(.tmp 138)]),
  .g 135 false (.eqb 140 true (.tmp 137) (.tmp 139)),
  .op (.pick 141 (.tmp 135) (.const (.bool true)) (.tmp 140)),
  .kp [141, 21, 23]]
def f49r9g : List I := .op (.mov 126 (.tmp 125)) ::
  .sc 126 false 7 ::
  .g 126 false (.mov 127 (.tmp 0)) ::
  .g 126 false (.ld 128 (some 4) (.tmp 10)) ::
  .g 126 false (.mov 130 (.tmp 0)) ::
  .g 126 false (.ld 131 (some 4) (.tmp 10)) ::
  .g 126 false (.call (some 129) 38 [(.tmp 127), (.tmp 128)]) ::
  .g 126 false (.call (some 132) 70 [(.tmp 130), (.tmp 131)]) ::
  .g 126 false (.eqb 133 true (.tmp 129) (.tmp 132)) ::
  .op (.pick 134 (.tmp 126) (.const (.bool true)) (.tmp 133)) ::
  .kp [134, 0, 21, 23] ::
  f49r9h
def f49r9f : List I := .op (.mov 119 (.tmp 118)) ::
  .sc 119 false 5 ::
  .g 119 false (.mov 120 (.tmp 21)) ::
  .g 119 false (.len 121 true (.tmp 120)) ::
  .g 119 false (.mov 122 (.tmp 23)) ::
  .g 119 false (.len 123 true (.tmp 122)) ::
  .g 119 false (.bin 124 .neq (.tmp 121) (.tmp 123)) ::
  .op (.pick 125 (.tmp 119) (.const (.bool true)) (.tmp 124)) ::
  .kp [125, 0, 10, 21, 23] ::
  f49r9g
def f49r9e : List I := .op (.mov 114 (.tmp 113)) ::
  .sc 114 false 3 ::
  .g 114 false (.mov 115 (.tmp 26)) ::
  .g 114 false (.mov 116 (.tmp 28)) ::
  .g 114 false (.eqb 117 true (.tmp 115) (.tmp 116)) ::
  .op (.pick 118 (.tmp 114) (.const (.bool true)) (.tmp 117)) ::
  .kp [118, 0, 10, 21, 23] ::
  f49r9f
def f49r9d : List I := .op (.mov 109 (.tmp 108)) ::
  .sc 109 false 3 ::
  .g 109 false (.ld 110 (some 9) (.tmp 25)) ::
  .g 109 false (.ld 111 (some 9) (.tmp 27)) ::
  .g 109 false (.eqa 112 true [.i .i64, .i .i64, .i .i64, .i .i64, .i .i64, .i .i64, .i .i64, .b, .s] (.tmp 110) (.tmp 111)) ::
  .op (.pick 113 (.tmp 109) (.const (.bool true)) (.tmp 112)) ::
  .kp [113, 0, 10, 21, 23, 26, 28] ::
  f49r9e
def f49r9c : List I := .op (.mov 104 (.tmp 103)) ::
  .sc 104 false 3 ::
  .g 104 false (.mov 105 (.tmp 22)) ::
  .g 104 false (.mov 106 (.tmp 24)) ::
  .g 104 false (.bin 107 .neq (.tmp 105) (.tmp 106)) ::
  .op (.pick 108 (.tmp 104) (.const (.bool true)) (.tmp 107)) ::
  .kp [108, 0, 10, 21, 23, 25, 26, 27, 28] ::
  f49r9d
def f49r9b : List I := .op (.mov 99 (.tmp 98)) ::
  .sc 99 false 3 ::
  .g 99 false (.mov 100 (.tmp 18)) ::
  .g 99 false (.mov 101 (.tmp 20)) ::
  .g 99 false (.eqb 102 true (.tmp 100) (.tmp 101)) ::
  .op (.pick 103 (.tmp 99) (.const (.bool true)) (.tmp 102)) ::
  .kp [103, 0, 10, 21, 22, 23, 24, 25, 26, 27, 28] ::
  f49r9c
def f49r9a : List I := .op (.mov 94 (.tmp 93)) ::
  .sc 94 false 3 ::
  .g 94 false (.ld 95 (some 9) (.tmp 17)) ::
  .g 94 false (.ld 96 (some 9) (.tmp 19)) ::
  .g 94 false (.eqa 97 true [.i .i64, .i .i64, .i .i64, .i .i64, .i .i64, .i .i64, .i .i64, .b, .s] (.tmp 95) (.tmp 96)) ::
  .op (.pick 98 (.tmp 94) (.const (.bool true)) (.tmp 97)) ::
  .kp [98, 0, 10, 18, 20, 21, 22, 23, 24, 25, 26, 27, 28] ::
  f49r9b
def f49r9 : List I := .op (.mov 86 (.tmp 13)) ::
  .op (.mov 87 (.tmp 15)) ::
  .op (.bin 88 .neq (.tmp 86) (.tmp 87)) ::
  .op (.mov 89 (.tmp 88)) ::
  .sc 89 false 3 ::
  .g 89 false (.mov 90 (.tmp 14)) ::
  .g 89 false (.mov 91 (.tmp 16)) ::
  .g 89 false (.eqb 92 true (.tmp 90) (.tmp 91)) ::
  .op (.pick 93 (.tmp 89) (.const (.bool true)) (.tmp 92)) ::
  .kp [93, 0, 10, 17, 18, 19, 20, 21, 22, 23, 24, 25, 26, 27, 28] ::
  f49r9a
def f49r10 : List I := [.op (.mov 12 (.const (.bool false))),
  .kp [12]]
def f49r11 : List I := [.op (.mov 29 (.const (.int .i64 0))),
  .kp [21, 23, 29]]
def f49r12 : List I := [.op (.mov 142 (.tmp 29)),
  .op (.mov 143 (.tmp 23)),
  .op (.len 144 true (.tmp 143)),
  .op (.bin 145 .lss (.tmp 142) (.tmp 144)),
  .kp [21, 23, 29, 145]]
def f49r13 : List I := [.op (.mov 148 (.tmp 21)),
  .op (.mov 149 (.tmp 29)),
  .op (.iad 150 2 (.tmp 148) (.tmp 149)),
  .op (.ld 151 (some 2) (.tmp 150)),
  .op (.mov 152 (.tmp 23)),
  .op (.mov 153 (.tmp 29)),
  .op (.iad 154 2 (.tmp 152) (.tmp 153)),
  .op (.ld 155 (some 2) (.tmp 154)),
  .op (.eqa 156 true [.s, .s] (.tmp 151) (.tmp 155)),
  .kp [21, 23, 29, 156]]
def f49r14 : List I := [.op (.mov 12 (.const (.bool false))),
  .kp [12]]
def f49r15 : List I := [.op (.mov 157 (.tmp 21)),
  .op (.mov 158 (.tmp 29)),
  .op (.bld 159 [.string ⟨#[]⟩, .string ⟨#[]⟩] []),
  .op (.iad 160 2 (.tmp 157) (.tmp 158)),
  .op (.st 2 (.tmp 160) (.tmp 159)),
  .kp [21, 23, 29]]
def f49r16 : List I := [.op (.mov 146 (.tmp 29)),
  .op (.bin 147 .add (.tmp 146) (.const (.int .i64 1))),
  .op (.mov 29 (.tmp 147)),
  .kp [21, 23, 29]]
def f49r17 : List I := [.op (.mov 12 (.const (.bool true))),
  .kp [12]]
def f49c11 : C := (.seq (.reg f49r10) .ret)
def f49c19 : C := (.seq (.reg f49r14) .ret)
def f49c20 : C := (.reg f49r15)
def f49c18 : C := (.seq (.cond (.tmp 156) f49c19 .skip) f49c20)
def f49c17 : C := (.seq (.drw f49r13) f49c18)
def f49c21 : C := (.reg f49r16)
def f49c16 : C := (.seq (.block 1 f49c17) f49c21)
def f49c15 : C := (.seq (.cond (.tmp 145) .skip (.exit 0)) f49c16)
def f49c14 : C := (.seq (.reg f49r12) f49c15)
def f49c22 : C := (.seq (.reg f49r17) .ret)
def f49c13 : C := (.seq (.block 0 (.loop f49c14)) f49c22)
def f49c12 : C := (.seq (.reg f49r11) f49c13)
def f49c10 : C := (.seq (.cond (.tmp 141) f49c11 .skip) f49c12)
def f49c9 : C := (.seq (.drw f49r9) f49c10)
def f49c8 : C := (.seq (.reg f49r8) f49c9)
def f49c7 : C := (.seq (.reg f49r7) f49c8)
def f49c6 : C := (.seq (.reg f49r6) f49c7)
def f49c5 : C := (.seq (.reg f49r5) f49c6)
def f49c4 : C := (.seq (.reg f49r4) f49c5)
def f49c3 : C := (.seq (.reg f49r3) f49c4)
def f49c2 : C := (.seq (.reg f49r2) f49c3)
def f49c1 : C := (.seq (.reg f49r1) f49c2)
def f49c0 : C := (.seq (.reg f49r0) f49c1)
theorem f49cmp : cmpF Try.prog Try.f49 [.l [.o 0, .o 1, .o 2, .o 3, .kp [0, 1, 5, 8, 9, 10]],
  .l [.o 0, .o 1, .o 2, .o 3, .o 4, .o 5, .o 6, .o 7, .o 8, .kp [0, 1, 5, 8, 9, 10, 13, 14]],
  .l [.o 0, .o 1, .o 2, .o 3, .o 4, .o 5, .o 6, .o 7, .o 8, .kp [0, 1, 5, 8, 9, 10, 13, 14, 15, 16]],
  .l [.o 0, .o 1, .o 2, .o 3, .o 4, .o 5, .o 6, .o 7, .o 8, .o 9, .kp [0, 1, 5, 8, 9, 10, 13, 14, 15, 16, 17, 18]],
  .l [.o 0, .o 1, .o 2, .o 3, .o 4, .o 5, .o 6, .o 7, .o 8, .o 9, .kp [0, 1, 5, 8, 9, 10, 13, 14, 15, 16, 17, 18, 19, 20]],
  .l [.o 0, .o 1, .o 2, .o 3, .o 4, .o 5, .o 6, .o 7, .o 8, .o 9, .kp [0, 1, 5, 8, 9, 10, 13, 14, 15, 16, 17, 18, 19, 20, 21, 22]],
  .l [.o 0, .o 1, .o 2, .o 3, .o 4, .o 5, .o 6, .o 7, .o 8, .o 9, .kp [0, 1, 10, 13, 14, 15, 16, 17, 18, 19, 20, 21, 22, 23, 24]],
  .l [.o 0, .o 1, .o 2, .o 3, .o 4, .o 5, .o 6, .o 7, .o 8, .kp [0, 1, 10, 13, 14, 15, 16, 17, 18, 19, 20, 21, 22, 23, 24, 25, 26]],
  .l [.o 0, .o 1, .o 2, .o 3, .o 4, .o 5, .o 6, .o 7, .o 8, .kp [0, 10, 13, 14, 15, 16, 17, 18, 19, 20, 21, 22, 23, 24, 25, 26, 27, 28]],
  .l [.o 0, .o 1, .o 2, .o 3, .sc 89 false 3, .o 4, .o 5, .o 6, .o 7, .kp [93, 0, 10, 17, 18, 19, 20, 21, 22, 23, 24, 25, 26, 27, 28], .o 8, .sc 94 false 3, .o 9, .o 10, .o 11, .o 12, .kp [98, 0, 10, 18, 20, 21, 22, 23, 24, 25, 26, 27, 28], .o 13, .sc 99 false 3, .o 14, .o 15, .o 16, .o 17, .kp [103, 0, 10, 21, 22, 23, 24, 25, 26, 27, 28], .o 18, .sc 104 false 3, .o 19, .o 20, .o 21, .o 22, .kp [108, 0, 10, 21, 23, 25, 26, 27, 28], .o 23, .sc 109 false 3, .o 24, .o 25, .o 26, .o 27, .kp [113, 0, 10, 21, 23, 26, 28], .o 28, .sc 114 false 3, .o 29, .o 30, .o 31, .o 32, .kp [118, 0, 10, 21, 23], .o 33, .sc 119 false 5, .o 34, .o 35, .o 36, .o 37, .o 38, .o 39, .kp [125, 0, 10, 21, 23], .o 40, .sc 126 false 7, .o 41, .o 42, .o 44, .o 45, .o 43, .o 46, .o 47, .o 48, .kp [134, 0, 21, 23], .o 49, .sc 135 false 5, .o 50, .o 52, .o 51, .o 53, .o 54, .o 55, .kp [141, 21, 23]],
  .l [.o 0, .kp [12]],
  .l [.o 0, .kp [21, 23, 29]],
  .l [.o 0, .o 1, .o 2, .o 3, .kp [21, 23, 29, 145]],
  .l [.o 0, .o 1, .o 2, .o 3, .o 4, .o 5, .o 6, .o 7, .o 8, .kp [21, 23, 29, 156]],
  .l [.o 0, .kp [12]],
  .l [.o 0, .o 1, .o 2, .o 3, .o 4, .kp [21, 23, 29]],
  .l [.o 0, .o 1, .o 2, .kp [21, 23, 29]],
  .l [.o 0, .kp [12]]] = some (f49c0, [.tmp 12]) := by kernel_rfl
theorem f49ok {args : List Value} {h : Heap} {R : Value → Heap → Prop} (hn : args.length ≤ 161) (H : wC Try.prog f49c0 (endW [.tmp 12] R) (envOf 0 args) h) : CallsH Try.prog 49 args h R :=
  fn_ok2 Try.func49 f49cmp hn H
theorem f49cal : callable Try.prog 49 = true := by kernel_rfl
section
variable {Q : X → Env → Heap → Prop} {σ : Env} {h : Heap}
theorem f49c11_eq : wC Try.prog f49c11 Q σ h = (wL Try.prog none f49r10 0 (fun σ h => Q .ret σ h) σ h) := rfl
theorem f49c19_eq : wC Try.prog f49c19 Q σ h = (wL Try.prog none f49r14 0 (fun σ h => Q .ret σ h) σ h) := rfl
theorem f49c20_eq : wC Try.prog f49c20 Q σ h = (wL Try.prog none f49r15 0 (fun σ h => Q .normal σ h) σ h) := rfl
theorem f49c18_eq : wC Try.prog f49c18 Q σ h = (bd (evO σ (.tmp 156)) fun v => bd (asB v) fun t => br t (wC Try.prog f49c19 (X.then (fun σ h => wC Try.prog f49c20 Q σ h) Q) σ h) (wC Try.prog f49c20 Q σ h)) := rfl
theorem f49c17_eq : wC Try.prog f49c17 Q σ h = (drwW Try.prog f49r13 (fun σ h => wC Try.prog f49c18 Q σ h) σ h) := rfl
theorem f49c21_eq : wC Try.prog f49c21 Q σ h = (wL Try.prog none f49r16 0 (fun σ h => Q .normal σ h) σ h) := rfl
theorem f49c16_eq : wC Try.prog f49c16 Q σ h = (wC Try.prog f49c17 (X.inBlock 1 (X.then (fun σ h => wC Try.prog f49c21 Q σ h) Q)) σ h) := rfl
theorem f49c15_eq : wC Try.prog f49c15 Q σ h = (bd (evO σ (.tmp 145)) fun v => bd (asB v) fun t => br t (wC Try.prog f49c16 Q σ h) (Q (.exit 0) σ h)) := rfl
theorem f49c14_eq : wC Try.prog f49c14 Q σ h = (wL Try.prog none f49r12 0 (fun σ h => wC Try.prog f49c15 Q σ h) σ h) := rfl
theorem f49c22_eq : wC Try.prog f49c22 Q σ h = (wL Try.prog none f49r17 0 (fun σ h => Q .ret σ h) σ h) := rfl
theorem f49c13_eq : wC Try.prog f49c13 Q σ h = (loopW (wC Try.prog f49c14) (X.inBlock 0 (X.then (fun σ h => wC Try.prog f49c22 Q σ h) Q)) σ h) := rfl
theorem f49c12_eq : wC Try.prog f49c12 Q σ h = (wL Try.prog none f49r11 0 (fun σ h => wC Try.prog f49c13 Q σ h) σ h) := rfl
theorem f49c10_eq : wC Try.prog f49c10 Q σ h = (bd (evO σ (.tmp 141)) fun v => bd (asB v) fun t => br t (wC Try.prog f49c11 (X.then (fun σ h => wC Try.prog f49c12 Q σ h) Q) σ h) (wC Try.prog f49c12 Q σ h)) := rfl
theorem f49c9_eq : wC Try.prog f49c9 Q σ h = (drwW Try.prog f49r9 (fun σ h => wC Try.prog f49c10 Q σ h) σ h) := rfl
theorem f49c8_eq : wC Try.prog f49c8 Q σ h = (wL Try.prog none f49r8 0 (fun σ h => wC Try.prog f49c9 Q σ h) σ h) := rfl
theorem f49c7_eq : wC Try.prog f49c7 Q σ h = (wL Try.prog none f49r7 0 (fun σ h => wC Try.prog f49c8 Q σ h) σ h) := rfl
theorem f49c6_eq : wC Try.prog f49c6 Q σ h = (wL Try.prog none f49r6 0 (fun σ h => wC Try.prog f49c7 Q σ h) σ h) := rfl
theorem f49c5_eq : wC Try.prog f49c5 Q σ h = (wL Try.prog none f49r5 0 (fun σ h => wC Try.prog f49c6 Q σ h) σ h) := rfl
theorem f49c4_eq : wC Try.prog f49c4 Q σ h = (wL Try.prog none f49r4 0 (fun σ h => wC Try.prog f49c5 Q σ h) σ h) := rfl
theorem f49c3_eq : wC Try.prog f49c3 Q σ h = (wL Try.prog none f49r3 0 (fun σ h => wC Try.prog f49c4 Q σ h) σ h) := rfl
theorem f49c2_eq : wC Try.prog f49c2 Q σ h = (wL Try.prog none f49r2 0 (fun σ h => wC Try.prog f49c3 Q σ h) σ h) := rfl
theorem f49c1_eq : wC Try.prog f49c1 Q σ h = (wL Try.prog none f49r1 0 (fun σ h => wC Try.prog f49c2 Q σ h) σ h) := rfl
theorem f49c0_eq : wC Try.prog f49c0 Q σ h = (wL Try.prog none f49r0 0 (fun σ h => wC Try.prog f49c1 Q σ h) σ h) := rfl
end
/-! ### f50: antipode/antipodelaw8.Light -/
def f50r0 : List I := [.op (.mov 2 (.const (.bool false))),
  .kp [0]]
def f50r1 : List I := [.op (.mov 5 (.tmp 0)),
  .op (.len 6 true (.tmp 5)),
  .op (.bin 7 .gtr (.tmp 6) (.const (.int .i64 60))),
  .kp [0, 7]]
def f50r2 : List I := [.op (.mov 2 (.const (.bool false))),
  .kp [2]]
def f50r3 : List I := [.op (.mov 3 (.const (.int .i64 0))),
  .kp [0, 3]]
def f50r4 : List I := [.op (.mov 8 (.tmp 3)),
  .op (.mov 9 (.tmp 0)),
  .op (.len 10 true (.tmp 9)),
  .op (.bin 11 .lss (.tmp 8) (.tmp 10)),
  .kp [0, 3, 11]]
def f50r5a : List I := [.op (.mov 30 (.tmp 29)),
  .sc 30 false 8,
  .g 30 false (.mov 31 (.tmp 0)),
  .g 30 false (.mov 32 (.tmp 3)),
  .g 30 false (.iad 33 12 (.tmp 31) (.tmp 32)),
  .g 30 false (.fad 34 3 (.tmp 33)),
  .g 30 false (.fad 35 8 (.tmp 34)),
  .g 30 false (.ld 36 none (.tmp 35)),
  .g 30 false (.len 37 false (.tmp 36)),
  .g 30 false (.bin 38 .gtr (.tmp 37) (.const (.int .i64 300))),
  .op (.pick 39 (.tmp 30) (.const (.bool true)) (.tmp 38)),
  .kp [39, 0, 3]]
def f50r5 : List I := .op (.mov 14 (.tmp 0)) ::
  .op (.mov 15 (.tmp 3)) ::
  .op (.iad 16 12 (.tmp 14) (.tmp 15)) ::
  .op (.fad 17 1 (.tmp 16)) ::
  .op (.ld 18 none (.tmp 17)) ::
  .op (.len 19 true (.tmp 18)) ::
  .op (.bin 20 .gtr (.tmp 19) (.const (.int .i64 30))) ::
  .op (.mov 21 (.tmp 20)) ::
  .sc 21 false 7 ::
  .g 21 false (.mov 22 (.tmp 0)) ::
  .g 21 false (.mov 23 (.tmp 3)) ::
  .g 21 false (.iad 24 12 (.tmp 22) (.tmp 23)) ::
  .g 21 false (.fad 25 0 (.tmp 24)) ::
  .g 21 false (.ld 26 none (.tmp 25)) ::
  .g 21 false (.len 27 false (.tmp 26)) ::
  .g 21 false (.bin 28 .gtr (.tmp 27) (.const (.int .i64 100))) ::
  .op (.pick 29 (.tmp 21) (.const (.bool true)) (.tmp 28)) ::
  .kp [29, 0, 3] ::
  f50r5a
def f50r6 : List I := [.op (.mov 2 (.const (.bool false))),
  .kp [2]]
def f50r7 : List I := [.op (.mov 4 (.const (.int .i64 0))),
  .kp [0, 3, 4]]
def f50r8 : List I := [.op (.mov 40 (.tmp 4)),
  .op (.mov 41 (.tmp 0)),
  .op (.mov 42 (.tmp 3)),
  .op (.iad 43 12 (.tmp 41) (.tmp 42)),
  .op (.fad 44 1 (.tmp 43)),
  .op (.ld 45 none (.tmp 44)),
  .op (.len 46 true (.tmp 45)),
  .op (.bin 47 .lss (.tmp 40) (.tmp 46)),
  .kp [0, 3, 4, 47]]
def f50r9 : List I := [.op (.mov 50 (.tmp 0)),
  .op (.mov 51 (.tmp 3)),
  .op (.iad 52 12 (.tmp 50) (.tmp 51)),
  .op (.fad 53 1 (.tmp 52)),
  .op (.ld 54 none (.tmp 53)),
  .op (.mov 55 (.tmp 4)),
  .op (.iad 56 4 (.tmp 54) (.tmp 55)),
  .op (.fad 57 3 (.tmp 56)),
  .op (.ld 58 none (.tmp 57)),
  .op (.len 59 false (.tmp 58)),
  .kp [0, 3, 4, 59],
  .op (.bin 60 .gtr (.tmp 59) (.const (.int .i64 300))),
  .kp [0, 3, 4, 60]]
def f50r10 : List I := [.op (.mov 2 (.const (.bool false))),
  .kp [2]]
def f50r11 : List I := [.op (.mov 48 (.tmp 4)),
  .op (.bin 49 .add (.tmp 48) (.const (.int .i64 1))),
  .op (.mov 4 (.tmp 49)),
  .kp [0, 3, 4]]
def f50r12 : List I := [.op (.mov 12 (.tmp 3)),
  .op (.bin 13 .add (.tmp 12) (.const (.int .i64 1))),
  .op (.mov 3 (.tmp 13)),
  .kp [0, 3]]
def f50r13 : List I := [.op (.mov 2 (.const (.bool true))),
  .kp [2]]
def f50c3 : C := (.seq (.reg f50r2) .ret)
def f50c11 : C := (.seq (.reg f50r6) .ret)
def f50c19 : C := (.seq (.reg f50r10) .ret)
def f50c18 : C := (.cond (.tmp 60) f50c19 .skip)
def f50c17 : C := (.seq (.reg f50r9) f50c18)
def f50c20 : C := (.reg f50r11)
def f50c16 : C := (.seq (.block 3 f50c17) f50c20)
def f50c15 : C := (.seq (.cond (.tmp 47) .skip (.exit 2)) f50c16)
def f50c14 : C := (.seq (.reg f50r8) f50c15)
def f50c13 : C := (.block 2 (.loop f50c14))
def f50c12 : C := (.seq (.reg f50r7) f50c13)
def f50c10 : C := (.seq (.cond (.tmp 39) f50c11 .skip) f50c12)
def f50c9 : C := (.seq (.reg f50r5) f50c10)
def f50c21 : C := (.reg f50r12)
def f50c8 : C := (.seq (.block 1 f50c9) f50c21)
def f50c7 : C := (.seq (.cond (.tmp 11) .skip (.exit 0)) f50c8)
def f50c6 : C := (.seq (.reg f50r4) f50c7)
def f50c22 : C := (.seq (.reg f50r13) .ret)
def f50c5 : C := (.seq (.block 0 (.loop f50c6)) f50c22)
def f50c4 : C := (.seq (.reg f50r3) f50c5)
def f50c2 : C := (.seq (.cond (.tmp 7) f50c3 .skip) f50c4)
def f50c1 : C := (.seq (.reg f50r1) f50c2)
def f50c0 : C := (.seq (.reg f50r0) f50c1)
theorem f50cmp : cmpF Try.prog Try.f50 [.l [.o 0, .kp [0]],
  .l [.o 0, .o 1, .o 2, .kp [0, 7]],
  .l [.o 0, .kp [2]],
  .l [.o 0, .kp [0, 3]],
  .l [.o 0, .o 1, .o 2, .o 3, .kp [0, 3, 11]],
  .l [.o 0, .o 1, .o 2, .o 3, .o 4, .o 5, .o 6, .o 7, .sc 21 false 7, .o 8, .o 9, .o 10, .o 11, .o 12, .o 13, .o 14, .o 15, .kp [29, 0, 3], .o 16, .sc 30 false 8, .o 17, .o 18, .o 19, .o 20, .o 21, .o 22, .o 23, .o 24, .o 25, .kp [39, 0, 3]],
  .l [.o 0, .kp [2]],
  .l [.o 0, .kp [0, 3, 4]],
  .l [.o 0, .o 1, .o 2, .o 3, .o 4, .o 5, .o 6, .o 7, .kp [0, 3, 4, 47]],
  .l [.o 0, .o 1, .o 2, .o 3, .o 4, .o 5, .o 6, .o 7, .o 8, .o 9, .kp [0, 3, 4, 59], .o 10, .kp [0, 3, 4, 60]],
  .l [.o 0, .kp [2]],
  .l [.o 0, .o 1, .o 2, .kp [0, 3, 4]],
  .l [.o 0, .o 1, .o 2, .kp [0, 3]],
  .l [.o 0, .kp [2]]] = some (f50c0, [.tmp 2]) := by kernel_rfl
theorem f50ok {args : List Value} {h : Heap} {R : Value → Heap → Prop} (hn : args.length ≤ 61) (H : wC Try.prog f50c0 (endW [.tmp 2] R) (envOf 0 args) h) : CallsH Try.prog 50 args h R :=
  fn_ok2 Try.func50 f50cmp hn H
theorem f50cal : callable Try.prog 50 = true := by kernel_rfl
section
variable {Q : X → Env → Heap → Prop} {σ : Env} {h : Heap}
theorem f50c3_eq : wC Try.prog f50c3 Q σ h = (wL Try.prog none f50r2 0 (fun σ h => Q .ret σ h) σ h) := rfl
theorem f50c11_eq : wC Try.prog f50c11 Q σ h = (wL Try.prog none f50r6 0 (fun σ h => Q .ret σ h) σ h) := rfl
theorem f50c19_eq : wC Try.prog f50c19 Q σ h = (wL Try.prog none f50r10 0 (fun σ h => Q .ret σ h) σ h) := rfl
theorem f50c18_eq : wC Try.prog f50c18 Q σ h = (bd (evO σ (.tmp 60)) fun v => bd (asB v) fun t => br t (wC Try.prog f50c19 Q σ h) (Q .normal σ h)) := rfl
theorem f50c17_eq : wC Try.prog f50c17 Q σ h = (wL Try.prog none f50r9 0 (fun σ h => wC Try.prog f50c18 Q σ h) σ h) := rfl
theorem f50c20_eq : wC Try.prog f50c20 Q σ h = (wL Try.prog none f50r11 0 (fun σ h => Q .normal σ h) σ h) := rfl
theorem f50c16_eq : wC Try.prog f50c16 Q σ h = (wC Try.prog f50c17 (X.inBlock 3 (X.then (fun σ h => wC Try.prog f50c20 Q σ h) Q)) σ h) := rfl
theorem f50c15_eq : wC Try.prog f50c15 Q σ h = (bd (evO σ (.tmp 47)) fun v => bd (asB v) fun t => br t (wC Try.prog f50c16 Q σ h) (Q (.exit 2) σ h)) := rfl
theorem f50c14_eq : wC Try.prog f50c14 Q σ h = (wL Try.prog none f50r8 0 (fun σ h => wC Try.prog f50c15 Q σ h) σ h) := rfl
theorem f50c13_eq : wC Try.prog f50c13 Q σ h = (loopW (wC Try.prog f50c14) (X.inBlock 2 Q) σ h) := rfl
theorem f50c12_eq : wC Try.prog f50c12 Q σ h = (wL Try.prog none f50r7 0 (fun σ h => wC Try.prog f50c13 Q σ h) σ h) := rfl
theorem f50c10_eq : wC Try.prog f50c10 Q σ h = (bd (evO σ (.tmp 39)) fun v => bd (asB v) fun t => br t (wC Try.prog f50c11 (X.then (fun σ h => wC Try.prog f50c12 Q σ h) Q) σ h) (wC Try.prog f50c12 Q σ h)) := rfl
theorem f50c9_eq : wC Try.prog f50c9 Q σ h = (wL Try.prog none f50r5 0 (fun σ h => wC Try.prog f50c10 Q σ h) σ h) := rfl
theorem f50c21_eq : wC Try.prog f50c21 Q σ h = (wL Try.prog none f50r12 0 (fun σ h => Q .normal σ h) σ h) := rfl
theorem f50c8_eq : wC Try.prog f50c8 Q σ h = (wC Try.prog f50c9 (X.inBlock 1 (X.then (fun σ h => wC Try.prog f50c21 Q σ h) Q)) σ h) := rfl
theorem f50c7_eq : wC Try.prog f50c7 Q σ h = (bd (evO σ (.tmp 11)) fun v => bd (asB v) fun t => br t (wC Try.prog f50c8 Q σ h) (Q (.exit 0) σ h)) := rfl
theorem f50c6_eq : wC Try.prog f50c6 Q σ h = (wL Try.prog none f50r4 0 (fun σ h => wC Try.prog f50c7 Q σ h) σ h) := rfl
theorem f50c22_eq : wC Try.prog f50c22 Q σ h = (wL Try.prog none f50r13 0 (fun σ h => Q .ret σ h) σ h) := rfl
theorem f50c5_eq : wC Try.prog f50c5 Q σ h = (loopW (wC Try.prog f50c6) (X.inBlock 0 (X.then (fun σ h => wC Try.prog f50c22 Q σ h) Q)) σ h) := rfl
theorem f50c4_eq : wC Try.prog f50c4 Q σ h = (wL Try.prog none f50r3 0 (fun σ h => wC Try.prog f50c5 Q σ h) σ h) := rfl
theorem f50c2_eq : wC Try.prog f50c2 Q σ h = (bd (evO σ (.tmp 7)) fun v => bd (asB v) fun t => br t (wC Try.prog f50c3 (X.then (fun σ h => wC Try.prog f50c4 Q σ h) Q) σ h) (wC Try.prog f50c4 Q σ h)) := rfl
theorem f50c1_eq : wC Try.prog f50c1 Q σ h = (wL Try.prog none f50r1 0 (fun σ h => wC Try.prog f50c2 Q σ h) σ h) := rfl
theorem f50c0_eq : wC Try.prog f50c0 Q σ h = (wL Try.prog none f50r0 0 (fun σ h => wC Try.prog f50c1 Q σ h) σ h) := rfl
end
end Go.Proofs.Ytefghfgmkndikaa
