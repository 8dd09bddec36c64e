/-
  By a program of mine (wip/tools/gen.py): the code of functions of the seat in the small instruction language, and that it is their code.
-/
import Derived.Test.YtefghfgmkndikaaM2
import Derived.Test.YtefghfgmkndikaaProg
import Derived.Test.YtefghfgmkndikaaM8
set_option linter.unusedSimpArgs false
set_option linter.unusedVariables false
namespace Go.Proofs.Ytefghfgmkndikaa
open Go.AX
set_option maxRecDepth 100000
/-! ### f51: antipode/antipoderef8.May -/
def f51r0 : List I := [.op (.mov 2 (.const (.bool false))),
  .kp [0]]
def f51r1 : List I := [.op (.mov 3 (.const (.int .i64 0))),
  .kp [0, 3]]
def f51r2 : List I := [.op (.mov 7 (.tmp 3)),
  .op (.mov 8 (.tmp 0)),
  .op (.len 9 true (.tmp 8)),
  .op (.bin 10 .lss (.tmp 7) (.tmp 9)),
  .kp [0, 3, 10]]
def f51r3 : List I := [.op (.mov 13 (.tmp 0)),
  .op (.mov 14 (.tmp 3)),
  .op (.iad 15 12 (.tmp 13) (.tmp 14)),
  .op (.ld 16 (some 12) (.tmp 15)),
  .op (.new 4 103 [.string ⟨#[]⟩, .slice none 0 0, .bool false, .int .i64 0, .int .i64 0, .int .i64 0, .int .i64 0, .int .i64 0, .int .i64 0, .int .i64 0, .bool false, .string ⟨#[]⟩]),
  .op (.st 12 (.tmp 4) (.tmp 16)),
  .kp [0, 3, 4]]
def f51r4c : List I := [.op (.mov 52 (.tmp 51)),
  .sc 52 false 10,
  .g 52 false (.fad 53 3 (.tmp 4)),
  .g 52 false (.fad 54 7 (.tmp 53)),
  .g 52 false (.ld 55 none (.tmp 54)),
  .g 52 false (.mov 56 (.tmp 55)),
  .sc 56 true 4,
  .g 56 true (.fad 57 3 (.tmp 4)),
  .g 56 true (.fad 58 8 (.tmp 57)),
  .g 56 true (.ld 59 none (.tmp 58)),
  .g 56 true (.bin 60 .neq (.tmp 59) (.const (.string ⟨#[]⟩))),
  .g 52 false (.pick 61 (.tmp 56) (.tmp 60) (.const (.bool false))),
  .op (.pick 62 (.tmp 52) (.const (.bool true)) (.tmp 61)),
  .kp [62, 0, 3, 4]]
def f51r4b : List I := .op (.mov 41 (.tmp 40)) ::
  .sc 41 false 10 ::
  .g 41 false (.fad 42 1 (.tmp 4)) ::
  .g 41 false (.ld 43 none (.tmp 42)) ::
  .g 41 false (.len 44 true (.tmp 43)) ::
  .g 41 false (.bin 45 .eql (.tmp 44) (.const (.int .i64 0))) ::
  .g 41 false (.mov 46 (.tmp 45)) ::
  .sc 46 true 3 ::
  .g 46 true (.fad 47 2 (.tmp 4)) ::
  .g 46 true (.ld 48 none (.tmp 47)) ::
  .g 46 true (.un 49 .not (.tmp 48)) ::
  .g 41 false (.pick 50 (.tmp 46) (.tmp 49) (.const (.bool false))) ::
  .op (.pick 51 (.tmp 41) (.const (.bool true)) (.tmp 50)) ::
  .kp [51, 0, 3, 4] ::
  f51r4c
def f51r4a : List I := .op (.mov 30 (.tmp 29)) ::
  .sc 30 false 10 ::
  .g 30 false (.fad 31 2 (.tmp 4)) ::
  .g 30 false (.ld 32 none (.tmp 31)) ::
  .g 30 false (.un 33 .not (.tmp 32)) ::
  .g 30 false (.mov 34 (.tmp 33)) ::
  .sc 34 true 4 ::
  .g 34 true (.fad 35 3 (.tmp 4)) ::
  .g 34 true (.ld 36 (some 9) (.tmp 35)) ::
  .g 34 true (.bld 37 [.int .i64 0, .int .i64 0, .int .i64 0, .int .i64 0, .int .i64 0, .int .i64 0, .int .i64 0, .bool false, .string ⟨#[]⟩] []) ::
  .g 34 true (.eqa 38 true [.i .i64, .i .i64, .i .i64, .i .i64, .i .i64, .i .i64, .i .i64, .b, .s] (.tmp 36) (.tmp 37)) ::
  .g 30 false (.pick 39 (.tmp 34) (.tmp 38) (.const (.bool false))) ::
  .op (.pick 40 (.tmp 30) (.const (.bool true)) (.tmp 39)) ::
  .kp [40, 0, 3, 4] ::
  f51r4b
def f51r4 : List I := .op (.mov 17 (.tmp 3)) ::
  .op (.bin 18 .gtr (.tmp 17) (.const (.int .i64 0))) ::
  .op (.mov 19 (.tmp 18)) ::
  .sc 19 true 9 ::
  .g 19 true (.mov 20 (.tmp 0)) ::
  .g 19 true (.mov 21 (.tmp 3)) ::
  .g 19 true (.bin 22 .sub (.tmp 21) (.const (.int .i64 1))) ::
  .g 19 true (.iad 23 12 (.tmp 20) (.tmp 22)) ::
  .g 19 true (.fad 24 0 (.tmp 23)) ::
  .g 19 true (.ld 25 none (.tmp 24)) ::
  .g 19 true (.fad 26 0 (.tmp 4)) ::
  .g 19 true (.ld 27 none (.tmp 26)) ::
  .g 19 true (.bin 28 .geq (.tmp 25) (.tmp 27)) ::
  .op (.pick 29 (.tmp 19) (.tmp 28) (.const (.bool false))) ::
  .kp [29, 0, 3, 4] ::
  f51r4a
def f51r5 : List I := [.op (.mov 2 (.const (.bool false))),
  .kp [2]]
def f51r6 : List I := [.op (.mov 5 (.const (.int .i64 0))),
  .kp [0, 3, 4, 5]]
def f51r7 : List I := [.op (.mov 63 (.tmp 5)),
  .op (.fad 64 1 (.tmp 4)),
  .op (.ld 65 none (.tmp 64)),
  .op (.len 66 true (.tmp 65)),
  .op (.bin 67 .lss (.tmp 63) (.tmp 66)),
  .kp [0, 3, 4, 5, 67]]
def f51r8 : List I := [.op (.fad 70 1 (.tmp 4)),
  .op (.ld 71 none (.tmp 70)),
  .op (.mov 72 (.tmp 5)),
  .op (.iad 73 4 (.tmp 71) (.tmp 72)),
  .op (.ld 74 (some 4) (.tmp 73)),
  .op (.new 6 108 [.int .i64 0, .int .i64 0, .bool false, .string ⟨#[]⟩]),
  .op (.st 4 (.tmp 6) (.tmp 74)),
  .kp [0, 3, 4, 5, 6]]
def f51r9a : List I := [.op (.mov 82 (.tmp 81)),
  .sc 82 false 16,
  .g 82 false (.mov 83 (.tmp 5)),
  .g 82 false (.bin 84 .gtr (.tmp 83) (.const (.int .i64 0))),
  .g 82 false (.mov 85 (.tmp 84)),
  .sc 85 true 11,
  .g 85 true (.fad 86 1 (.tmp 4)),
  .g 85 true (.ld 87 none (.tmp 86)),
  .g 85 true (.mov 88 (.tmp 5)),
  .g 85 true (.bin 89 .sub (.tmp 88) (.const (.int .i64 1))),
  .g 85 true (.iad 90 4 (.tmp 87) (.tmp 89)),
  .g 85 true (.fad 91 0 (.tmp 90)),
  .g 85 true (.ld 92 (some 2) (.tmp 91)),
  .g 85 true (.fad 93 0 (.tmp 6)),
  .g 85 true (.ld 94 (some 2) (.tmp 93)),
  .g 85 true (.call (some 95) 42 [(.tmp 92), (.tmp 94)]),
  .g 85 true (.un 96 .not (.tmp 95)),
  .g 82 false (.pick 97 (.tmp 85) (.tmp 96) (.const (.bool false))),
  .op (.pick 98 (.tmp 82) (.const (.bool true)) (.tmp 97)),
  .kp [98, 0, 3, 4, 5]]
def f51r9 : List I := .op (.fad 75 2 (.tmp 6)) ::
  .op (.ld 76 none (.tmp 75)) ::
  .op (.mov 77 (.tmp 76)) ::
  .sc 77 true 3 ::
  .g 77 true (.fad 78 3 (.tmp 6)) ::
  .g 77 true (.ld 79 none (.tmp 78)) ::
  .g 77 true (.bin 80 .neq (.tmp 79) (.const (.string ⟨#[]⟩))) ::
  .op (.pick 81 (.tmp 77) (.tmp 80) (.const (.bool false))) ::
  .kp [81, 0, 3, 4, 5, 6] ::
  f51r9a
def f51r10 : List I := [.op (.mov 2 (.const (.bool false))),
  .kp [2]]
def f51r11 : List I := [.op (.mov 68 (.tmp 5)),
  .op (.bin 69 .add (.tmp 68) (.const (.int .i64 1))),
  .op (.mov 5 (.tmp 69)),
  .kp [0, 3, 4, 5]]
def f51r12 : List I := [.op (.mov 11 (.tmp 3)),
  .op (.bin 12 .add (.tmp 11) (.const (.int .i64 1))),
  .op (.mov 3 (.tmp 12)),
  .kp [0, 3]]
def f51r13 : List I := [.op (.mov 2 (.const (.bool true))),
  .kp [2]]
def f51c9 : C := (.seq (.reg f51r5) .ret)
def f51c18 : C := (.seq (.reg f51r10) .ret)
def f51c17 : C := (.cond (.tmp 98) f51c18 .skip)
def f51c16 : C := (.seq (.drw f51r9) f51c17)
def f51c15 : C := (.seq (.reg f51r8) f51c16)
def f51c19 : C := (.reg f51r11)
def f51c14 : C := (.seq (.block 3 f51c15) f51c19)
def f51c13 : C := (.seq (.cond (.tmp 67) .skip (.exit 2)) f51c14)
def f51c12 : C := (.seq (.reg f51r7) f51c13)
def f51c11 : C := (.block 2 (.loop f51c12))
def f51c10 : C := (.seq (.reg f51r6) f51c11)
def f51c8 : C := (.seq (.cond (.tmp 62) f51c9 .skip) f51c10)
def f51c7 : C := (.seq (.drw f51r4) f51c8)
def f51c6 : C := (.seq (.reg f51r3) f51c7)
def f51c20 : C := (.reg f51r12)
def f51c5 : C := (.seq (.block 1 f51c6) f51c20)
def f51c4 : C := (.seq (.cond (.tmp 10) .skip (.exit 0)) f51c5)
def f51c3 : C := (.seq (.reg f51r2) f51c4)
def f51c21 : C := (.seq (.reg f51r13) .ret)
def f51c2 : C := (.seq (.block 0 (.loop f51c3)) f51c21)
def f51c1 : C := (.seq (.reg f51r1) f51c2)
def f51c0 : C := (.seq (.reg f51r0) f51c1)
theorem f51cmp : cmpF Try.prog Try.f51 [.l [.o 0, .kp [0]],
  .l [.o 0, .kp [0, 3]],
  .l [.o 0, .o 1, .o 2, .o 3, .kp [0, 3, 10]],
  .l [.o 0, .o 1, .o 2, .o 3, .o 4, .o 5, .kp [0, 3, 4]],
  .l [.o 0, .o 1, .o 2, .sc 19 true 9, .o 3, .o 4, .o 5, .o 6, .o 7, .o 8, .o 9, .o 10, .o 11, .o 12, .kp [29, 0, 3, 4], .o 13, .sc 30 false 10, .o 14, .o 15, .o 16, .o 17, .sc 34 true 4, .o 18, .o 19, .o 20, .o 21, .o 22, .o 23, .kp [40, 0, 3, 4], .o 24, .sc 41 false 10, .o 25, .o 26, .o 27, .o 28, .o 29, .sc 46 true 3, .o 30, .o 31, .o 32, .o 33, .o 34, .kp [51, 0, 3, 4], .o 35, .sc 52 false 10, .o 36, .o 37, .o 38, .o 39, .sc 56 true 4, .o 40, .o 41, .o 42, .o 43, .o 44, .o 45, .kp [62, 0, 3, 4]],
  .l [.o 0, .kp [2]],
  .l [.o 0, .kp [0, 3, 4, 5]],
  .l [.o 0, .o 1, .o 2, .o 3, .o 4, .kp [0, 3, 4, 5, 67]],
  .l [.o 0, .o 1, .o 2, .o 3, .o 4, .o 5, .o 6, .kp [0, 3, 4, 5, 6]],
  .l [.o 0, .o 1, .o 2, .sc 77 true 3, .o 3, .o 4, .o 5, .o 6, .kp [81, 0, 3, 4, 5, 6], .o 7, .sc 82 false 16, .o 8, .o 9, .o 10, .sc 85 true 11, .o 11, .o 12, .o 13, .o 14, .o 15, .o 16, .o 17, .o 18, .o 19, .o 20, .o 21, .o 22, .o 23, .kp [98, 0, 3, 4, 5]],
  .l [.o 0, .kp [2]],
  .l [.o 0, .o 1, .o 2, .kp [0, 3, 4, 5]],
  .l [.o 0, .o 1, .o 2, .kp [0, 3]],
  .l [.o 0, .kp [2]]] = some (f51c0, [.tmp 2]) := by kernel_rfl
theorem f51ok {args : List Value} {h : Heap} {R : Value → Heap → Prop} (hn : args.length ≤ 99) (H : wC Try.prog f51c0 (endW [.tmp 2] R) (envOf 0 args) h) : CallsH Try.prog 51 args h R :=
  fn_ok2 Try.func51 f51cmp hn H
theorem f51cal : callable Try.prog 51 = true := by kernel_rfl
section
variable {Q : X → Env → Heap → Prop} {σ : Env} {h : Heap}
theorem f51c9_eq : wC Try.prog f51c9 Q σ h = (wL Try.prog none f51r5 0 (fun σ h => Q .ret σ h) σ h) := rfl
theorem f51c18_eq : wC Try.prog f51c18 Q σ h = (wL Try.prog none f51r10 0 (fun σ h => Q .ret σ h) σ h) := rfl
theorem f51c17_eq : wC Try.prog f51c17 Q σ h = (bd (evO σ (.tmp 98)) fun v => bd (asB v) fun t => br t (wC Try.prog f51c18 Q σ h) (Q .normal σ h)) := rfl
theorem f51c16_eq : wC Try.prog f51c16 Q σ h = (drwW Try.prog f51r9 (fun σ h => wC Try.prog f51c17 Q σ h) σ h) := rfl
theorem f51c15_eq : wC Try.prog f51c15 Q σ h = (wL Try.prog none f51r8 0 (fun σ h => wC Try.prog f51c16 Q σ h) σ h) := rfl
theorem f51c19_eq : wC Try.prog f51c19 Q σ h = (wL Try.prog none f51r11 0 (fun σ h => Q .normal σ h) σ h) := rfl
theorem f51c14_eq : wC Try.prog f51c14 Q σ h = (wC Try.prog f51c15 (X.inBlock 3 (X.then (fun σ h => wC Try.prog f51c19 Q σ h) Q)) σ h) := rfl
theorem f51c13_eq : wC Try.prog f51c13 Q σ h = (bd (evO σ (.tmp 67)) fun v => bd (asB v) fun t => br t (wC Try.prog f51c14 Q σ h) (Q (.exit 2) σ h)) := rfl
theorem f51c12_eq : wC Try.prog f51c12 Q σ h = (wL Try.prog none f51r7 0 (fun σ h => wC Try.prog f51c13 Q σ h) σ h) := rfl
theorem f51c11_eq : wC Try.prog f51c11 Q σ h = (loopW (wC Try.prog f51c12) (X.inBlock 2 Q) σ h) := rfl
theorem f51c10_eq : wC Try.prog f51c10 Q σ h = (wL Try.prog none f51r6 0 (fun σ h => wC Try.prog f51c11 Q σ h) σ h) := rfl
theorem f51c8_eq : wC Try.prog f51c8 Q σ h = (bd (evO σ (.tmp 62)) fun v => bd (asB v) fun t => br t (wC Try.prog f51c9 (X.then (fun σ h => wC Try.prog f51c10 Q σ h) Q) σ h) (wC Try.prog f51c10 Q σ h)) := rfl
theorem f51c7_eq : wC Try.prog f51c7 Q σ h = (drwW Try.prog f51r4 (fun σ h => wC Try.prog f51c8 Q σ h) σ h) := rfl
theorem f51c6_eq : wC Try.prog f51c6 Q σ h = (wL Try.prog none f51r3 0 (fun σ h => wC Try.prog f51c7 Q σ h) σ h) := rfl
theorem f51c20_eq : wC Try.prog f51c20 Q σ h = (wL Try.prog none f51r12 0 (fun σ h => Q .normal σ h) σ h) := rfl
theorem f51c5_eq : wC Try.prog f51c5 Q σ h = (wC Try.prog f51c6 (X.inBlock 1 (X.then (fun σ h => wC Try.prog f51c20 Q σ h) Q)) σ h) := rfl
theorem f51c4_eq : wC Try.prog f51c4 Q σ h = (bd (evO σ (.tmp 10)) fun v => bd (asB v) fun t => br t (wC Try.prog f51c5 Q σ h) (Q (.exit 0) σ h)) := rfl
theorem f51c3_eq : wC Try.prog f51c3 Q σ h = (wL Try.prog none f51r2 0 (fun σ h => wC Try.prog f51c4 Q σ h) σ h) := rfl
theorem f51c21_eq : wC Try.prog f51c21 Q σ h = (wL Try.prog none f51r13 0 (fun σ h => Q .ret σ h) σ h) := rfl
theorem f51c2_eq : wC Try.prog f51c2 Q σ h = (loopW (wC Try.prog f51c3) (X.inBlock 0 (X.then (fun σ h => wC Try.prog f51c21 Q σ h) Q)) σ h) := rfl
theorem f51c1_eq : wC Try.prog f51c1 Q σ h = (wL Try.prog none f51r1 0 (fun σ h => wC Try.prog f51c2 Q σ h) σ h) := rfl
theorem f51c0_eq : wC Try.prog f51c0 Q σ h = (wL Try.prog none f51r0 0 (fun σ h => wC Try.prog f51c1 Q σ h) σ h) := rfl
end
/-! ### f43: antipode/antipoderef8.Same -/
def f43r0 : List I := [.op (.mov 4 (.const (.bool false))),
  .kp [0, 1]]
def f43r1 : List I := [.op (.mov 9 (.tmp 0)),
  .op (.len 10 true (.tmp 9)),
  .op (.mov 11 (.tmp 1)),
  .op (.len 12 true (.tmp 11)),
  .op (.bin 13 .neq (.tmp 10) (.tmp 12)),
  .kp [0, 1, 13]]
def f43r2 : List I := [.op (.mov 4 (.const (.bool false))),
  .kp [4]]
def f43r3 : List I := [.op (.mov 5 (.const (.int .i64 0))),
  .kp [0, 1, 5]]
def f43r4 : List I := [.op (.mov 14 (.tmp 5)),
  .op (.mov 15 (.tmp 0)),
  .op (.len 16 true (.tmp 15)),
  .op (.bin 17 .lss (.tmp 14) (.tmp 16)),
  .kp [0, 1, 5, 17]]
def f43r5 : L := (.one [.op (.mov 20 (.tmp 0)),
  .op (.mov 21 (.tmp 5)),
  .op (.iad 22 12 (.tmp 20) (.tmp 21)),
  .op (.ld 23 (some 12) (.tmp 22)),
  .op (.mov 24 (.tmp 1)),
  .op (.mov 25 (.tmp 5)),
  .op (.iad 26 12 (.tmp 24) (.tmp 25)),
  .op (.ld 27 (some 12) (.tmp 26))] (.alt (.one [.op (.new 6 103 [.string ⟨#[]⟩, .slice none 0 0, .bool false, .int .i64 0, .int .i64 0, .int .i64 0, .int .i64 0, .int .i64 0, .int .i64 0, .int .i64 0, .bool false, .string ⟨#[]⟩]),
  .op (.new 7 103 [.string ⟨#[]⟩, .slice none 0 0, .bool false, .int .i64 0, .int .i64 0, .int .i64 0, .int .i64 0, .int .i64 0, .int .i64 0, .int .i64 0, .bool false, .string ⟨#[]⟩]),
  .op (.st 12 (.tmp 6) (.tmp 23)),
  .op (.st 12 (.tmp 7) (.tmp 27)),
  .kp [0, 1, 5, 6, 7]] .nil) (.one [.op (.new 7 103 [.string ⟨#[]⟩, .slice none 0 0, .bool false, .int .i64 0, .int .i64 0, .int .i64 0, .int .i64 0, .int .i64 0, .int .i64 0, .int .i64 0, .bool false, .string ⟨#[]⟩]),
  .op (.new 6 103 [.string ⟨#[]⟩, .slice none 0 0, .bool false, .int .i64 0, .int .i64 0, .int .i64 0, .int .i64 0, .int .i64 0, .int .i64 0, .int .i64 0, .bool false, .string ⟨#[]⟩]),
  .op (.st 12 (.tmp 6) (.tmp 23)),
  .op (.st 12 (.tmp 7) (.tmp 27)),
  .kp [0, 1, 5, 6, 7]] .nil)))
def f43r6b : List I := [.op (.mov 47 (.tmp 46)),
  .sc 47 false 7,
  .g 47 false (.fad 48 1 (.tmp 6)),
  .g 47 false (.ld 49 none (.tmp 48)),
  .g 47 false (.len 50 true (.tmp 49)),
  .g 47 false (.fad 51 1 (.tmp 7)),
  .g 47 false (.ld 52 none (.tmp 51)),
  .g 47 false (.len 53 true (.tmp 52)),
  .g 47 false (.bin 54 .neq (.tmp 50) (.tmp 53)),
  .op (.pick 55 (.tmp 47) (.const (.bool true)) (.tmp 54)),
  .kp [55, 0, 1, 5, 6, 7]]
def f43r6a : List I := .op (.mov 40 (.tmp 39)) ::
  .sc 40 false 5 ::
  .g 40 false (.fad 41 3 (.tmp 6)) ::
  .g 40 false (.ld 42 (some 9) (.tmp 41)) ::
  .g 40 false (.fad 43 3 (.tmp 7)) ::
  .g 40 false (.ld 44 (some 9) (.tmp 43)) ::
  .g 40 false (.eqa 45 true [.i .i64, .i .i64, .i .i64, .i .i64, .i .i64, .i .i64, .i .i64, .b, .s] (.tmp 42) (.tmp 44)) ::
  .op (.pick 46 (.tmp 40) (.const (.bool true)) (.tmp 45)) ::
  .kp [46, 0, 1, 5, 6, 7] ::
  f43r6b
def f43r6 : List I := .op (.fad 28 0 (.tmp 6)) ::
  .op (.ld 29 none (.tmp 28)) ::
  .op (.fad 30 0 (.tmp 7)) ::
  .op (.ld 31 none (.tmp 30)) ::
  .op (.bin 32 .neq (.tmp 29) (.tmp 31)) ::
  .op (.mov 33 (.tmp 32)) ::
  .sc 33 false 5 ::
  .g 33 false (.fad 34 2 (.tmp 6)) ::
  .g 33 false (.ld 35 none (.tmp 34)) ::
  .g 33 false (.fad 36 2 (.tmp 7)) ::
  .g 33 false (.ld 37 none (.tmp 36)) ::
  .g 33 false (.eqb 38 true (.tmp 35) (.tmp 37)) ::
  .op (.pick 39 (.tmp 33) (.const (.bool true)) (.tmp 38)) ::
  .kp [39, 0, 1, 5, 6, 7] ::
  f43r6a
def f43r7 : List I := [.op (.mov 4 (.const (.bool false))),
  .kp [4]]
def f43r8 : List I := [.op (.mov 8 (.const (.int .i64 0))),
  .kp [0, 1, 5, 6, 7, 8]]
def f43r9 : List I := [.op (.mov 56 (.tmp 8)),
  .op (.fad 57 1 (.tmp 6)),
  .op (.ld 58 none (.tmp 57)),
  .op (.len 59 true (.tmp 58)),
  .op (.bin 60 .lss (.tmp 56) (.tmp 59)),
  .kp [0, 1, 5, 6, 7, 8, 60]]
def f43r10 : List I := [.op (.fad 63 1 (.tmp 6)),
  .op (.ld 64 none (.tmp 63)),
  .op (.mov 65 (.tmp 8)),
  .op (.iad 66 4 (.tmp 64) (.tmp 65)),
  .op (.ld 67 (some 4) (.tmp 66)),
  .op (.fad 68 1 (.tmp 7)),
  .op (.ld 69 none (.tmp 68)),
  .op (.mov 70 (.tmp 8)),
  .op (.iad 71 4 (.tmp 69) (.tmp 70)),
  .op (.ld 72 (some 4) (.tmp 71)),
  .kp [0, 1, 5, 6, 7, 8, 67, 72],
  .op (.eqa 73 true [.i .i64, .i .i64, .b, .s] (.tmp 67) (.tmp 72)),
  .kp [0, 1, 5, 6, 7, 8, 73]]
def f43r11 : List I := [.op (.mov 4 (.const (.bool false))),
  .kp [4]]
def f43r12 : List I := [.op (.mov 61 (.tmp 8)),
  .op (.bin 62 .add (.tmp 61) (.const (.int .i64 1))),
  .op (.mov 8 (.tmp 62)),
  .kp [0, 1, 5, 6, 7, 8]]
def f43r13 : List I := [.op (.mov 18 (.tmp 5)),
  .op (.bin 19 .add (.tmp 18) (.const (.int .i64 1))),
  .op (.mov 5 (.tmp 19)),
  .kp [0, 1, 5]]
def f43r14 : List I := [.op (.mov 4 (.const (.bool true))),
  .kp [4]]
def f43c3 : C := (.seq (.reg f43r2) .ret)
def f43c12 : C := (.seq (.reg f43r7) .ret)
def f43c20 : C := (.seq (.reg f43r11) .ret)
def f43c19 : C := (.cond (.tmp 73) f43c20 .skip)
def f43c18 : C := (.seq (.drw f43r10) f43c19)
def f43c21 : C := (.reg f43r12)
def f43c17 : C := (.seq (.block 3 f43c18) f43c21)
def f43c16 : C := (.seq (.cond (.tmp 60) .skip (.exit 2)) f43c17)
def f43c15 : C := (.seq (.reg f43r9) f43c16)
def f43c14 : C := (.block 2 (.loop f43c15))
def f43c13 : C := (.seq (.reg f43r8) f43c14)
def f43c11 : C := (.seq (.cond (.tmp 55) f43c12 .skip) f43c13)
def f43c10 : C := (.seq (.reg f43r6) f43c11)
def f43c9 : C := (.seq (.drt f43r5) f43c10)
def f43c22 : C := (.reg f43r13)
def f43c8 : C := (.seq (.block 1 f43c9) f43c22)
def f43c7 : C := (.seq (.cond (.tmp 17) .skip (.exit 0)) f43c8)
def f43c6 : C := (.seq (.reg f43r4) f43c7)
def f43c23 : C := (.seq (.reg f43r14) .ret)
def f43c5 : C := (.seq (.block 0 (.loop f43c6)) f43c23)
def f43c4 : C := (.seq (.reg f43r3) f43c5)
def f43c2 : C := (.seq (.cond (.tmp 13) f43c3 .skip) f43c4)
def f43c1 : C := (.seq (.reg f43r1) f43c2)
def f43c0 : C := (.seq (.reg f43r0) f43c1)
theorem f43cmp : cmpF Try.prog Try.f43 [.l [.o 0, .kp [0, 1]],
  .l [.o 0, .o 1, .o 2, .o 3, .o 4, .kp [0, 1, 13]],
  .l [.o 0, .kp [4]],
  .l [.o 0, .kp [0, 1, 5]],
  .l [.o 0, .o 1, .o 2, .o 3, .kp [0, 1, 5, 17]],
  .t (.one [.o 0, .o 1, .o 2, .o 3, .o 4, .o 5, .o 6, .o 7] (.alt (.one [.o 8, .o 9, .o 10, .o 11, .kp [0, 1, 5, 6, 7]] .nil) (.one [.o 9, .o 8, .o 10, .o 11, .kp [0, 1, 5, 6, 7]] .nil))),
  .l [.o 0, .o 1, .o 2, .o 3, .o 4, .o 5, .sc 33 false 5, .o 6, .o 7, .o 8, .o 9, .o 10, .o 11, .kp [39, 0, 1, 5, 6, 7], .o 12, .sc 40 false 5, .o 13, .o 14, .o 15, .o 16, .o 17, .o 18, .kp [46, 0, 1, 5, 6, 7], .o 19, .sc 47 false 7, .o 20, .o 21, .o 22, .o 23, .o 24, .o 25, .o 26, .o 27, .kp [55, 0, 1, 5, 6, 7]],
  .l [.o 0, .kp [4]],
  .l [.o 0, .kp [0, 1, 5, 6, 7, 8]],
  .l [.o 0, .o 1, .o 2, .o 3, .o 4, .kp [0, 1, 5, 6, 7, 8, 60]],
  .l [.o 0, .o 1, .o 2, .o 3, .o 4, .o 5, .o 6, .o 7, .o 8, .o 9, .kp [0, 1, 5, 6, 7, 8, 67, 72], .o 10, .kp [0, 1, 5, 6, 7, 8, 73]],
  .l [.o 0, .kp [4]],
  .l [.o 0, .o 1, .o 2, .kp [0, 1, 5, 6, 7, 8]],
  .l [.o 0, .o 1, .o 2, .kp [0, 1, 5]],
  .l [.o 0, .kp [4]]] = some (f43c0, [.tmp 4]) := by kernel_rfl
theorem f43ok {args : List Value} {h : Heap} {R : Value → Heap → Prop} (hn : args.length ≤ 74) (H : wC Try.prog f43c0 (endW [.tmp 4] R) (envOf 0 args) h) : CallsH Try.prog 43 args h R :=
  fn_ok2 Try.func43 f43cmp hn H
theorem f43cal : callable Try.prog 43 = true := by kernel_rfl
section
variable {Q : X → Env → Heap → Prop} {σ : Env} {h : Heap}
theorem f43c3_eq : wC Try.prog f43c3 Q σ h = (wL Try.prog none f43r2 0 (fun σ h => Q .ret σ h) σ h) := rfl
theorem f43c12_eq : wC Try.prog f43c12 Q σ h = (wL Try.prog none f43r7 0 (fun σ h => Q .ret σ h) σ h) := rfl
theorem f43c20_eq : wC Try.prog f43c20 Q σ h = (wL Try.prog none f43r11 0 (fun σ h => Q .ret σ h) σ h) := rfl
theorem f43c19_eq : wC Try.prog f43c19 Q σ h = (bd (evO σ (.tmp 73)) fun v => bd (asB v) fun t => br t (wC Try.prog f43c20 Q σ h) (Q .normal σ h)) := rfl
theorem f43c18_eq : wC Try.prog f43c18 Q σ h = (drwW Try.prog f43r10 (fun σ h => wC Try.prog f43c19 Q σ h) σ h) := rfl
theorem f43c21_eq : wC Try.prog f43c21 Q σ h = (wL Try.prog none f43r12 0 (fun σ h => Q .normal σ h) σ h) := rfl
theorem f43c17_eq : wC Try.prog f43c17 Q σ h = (wC Try.prog f43c18 (X.inBlock 3 (X.then (fun σ h => wC Try.prog f43c21 Q σ h) Q)) σ h) := rfl
theorem f43c16_eq : wC Try.prog f43c16 Q σ h = (bd (evO σ (.tmp 60)) fun v => bd (asB v) fun t => br t (wC Try.prog f43c17 Q σ h) (Q (.exit 2) σ h)) := rfl
theorem f43c15_eq : wC Try.prog f43c15 Q σ h = (wL Try.prog none f43r9 0 (fun σ h => wC Try.prog f43c16 Q σ h) σ h) := rfl
theorem f43c14_eq : wC Try.prog f43c14 Q σ h = (loopW (wC Try.prog f43c15) (X.inBlock 2 Q) σ h) := rfl
theorem f43c13_eq : wC Try.prog f43c13 Q σ h = (wL Try.prog none f43r8 0 (fun σ h => wC Try.prog f43c14 Q σ h) σ h) := rfl
theorem f43c11_eq : wC Try.prog f43c11 Q σ h = (bd (evO σ (.tmp 55)) fun v => bd (asB v) fun t => br t (wC Try.prog f43c12 (X.then (fun σ h => wC Try.prog f43c13 Q σ h) Q) σ h) (wC Try.prog f43c13 Q σ h)) := rfl
theorem f43c10_eq : wC Try.prog f43c10 Q σ h = (wL Try.prog none f43r6 0 (fun σ h => wC Try.prog f43c11 Q σ h) σ h) := rfl
theorem f43c9_eq : wC Try.prog f43c9 Q σ h = (drtW Try.prog f43r5 (fun σ h => wC Try.prog f43c10 Q σ h) σ h) := rfl
theorem f43c22_eq : wC Try.prog f43c22 Q σ h = (wL Try.prog none f43r13 0 (fun σ h => Q .normal σ h) σ h) := rfl
theorem f43c8_eq : wC Try.prog f43c8 Q σ h = (wC Try.prog f43c9 (X.inBlock 1 (X.then (fun σ h => wC Try.prog f43c22 Q σ h) Q)) σ h) := rfl
theorem f43c7_eq : wC Try.prog f43c7 Q σ h = (bd (evO σ (.tmp 17)) fun v => bd (asB v) fun t => br t (wC Try.prog f43c8 Q σ h) (Q (.exit 0) σ h)) := rfl
theorem f43c6_eq : wC Try.prog f43c6 Q σ h = (wL Try.prog none f43r4 0 (fun σ h => wC Try.prog f43c7 Q σ h) σ h) := rfl
theorem f43c23_eq : wC Try.prog f43c23 Q σ h = (wL Try.prog none f43r14 0 (fun σ h => Q .ret σ h) σ h) := rfl
theorem f43c5_eq : wC Try.prog f43c5 Q σ h = (loopW (wC Try.prog f43c6) (X.inBlock 0 (X.then (fun σ h => wC Try.prog f43c23 Q σ h) Q)) σ h) := rfl
theorem f43c4_eq : wC Try.prog f43c4 Q σ h = (wL Try.prog none f43r3 0 (fun σ h => wC Try.prog f43c5 Q σ h) σ h) := rfl
theorem f43c2_eq : wC Try.prog f43c2 Q σ h = (bd (evO σ (.tmp 13)) fun v => bd (asB v) fun t => br t (wC Try.prog f43c3 (X.then (fun σ h => wC Try.prog f43c4 Q σ h) Q) σ h) (wC Try.prog f43c4 Q σ h)) := rfl
theorem f43c1_eq : wC Try.prog f43c1 Q σ h = (wL Try.prog none f43r1 0 (fun σ h => wC Try.prog f43c2 Q σ h) σ h) := rfl
theorem f43c0_eq : wC Try.prog f43c0 Q σ h = (wL Try.prog none f43r0 0 (fun σ h => wC Try.prog f43c1 Q σ h) σ h) := rfl
end
/-! ### f49: antipode/antipodelaw8.told -/
def f49r0 : List I := [.op (.box 8 39 (.tmp 2)),
  .op (.box 9 94 (.tmp 3)),
  .op (.box 10 37 (.tmp 4)),
  .op (.mov 12 (.const (.bool false))),
  .kp [0, 1, 5, 8, 9, 10]]
def f49r1 : List I := [.op (.mov 31 (.tmp 0)),
  .op (.mov 32 (.tmp 1)),
  .op (.ld 33 (some 2) (.tmp 8)),
  .op (.call (some 34) 41 [(.tmp 31), (.tmp 32), (.tmp 33)]),
  .op (.mov 30 (.tmp 34)),
  .op (.ext 35 (.tmp 30) 0),
  .op (.ext 36 (.tmp 30) 1),
  .op (.mov 13 (.tmp 35)),
  .op (.mov 14 (.tmp 36)),
  .kp [0, 1, 5, 8, 9, 10, 13, 14]]
def f49r2 : List I := [.op (.mov 38 (.tmp 0)),
  .op (.mov 39 (.tmp 1)),
  .op (.ld 40 (some 2) (.tmp 8)),
  .op (.call (some 41) 72 [(.tmp 38), (.tmp 39), (.tmp 40)]),
  .op (.mov 37 (.tmp 41)),
  .op (.ext 42 (.tmp 37) 0),
  .op (.ext 43 (.tmp 37) 1),
  .op (.mov 15 (.tmp 42)),
  .op (.mov 16 (.tmp 43)),
  .kp [0, 1, 5, 8, 9, 10, 13, 14, 15, 16]]
def f49r3 : List I := [.op (.mov 45 (.tmp 0)),
  .op (.ld 46 (some 2) (.tmp 9)),
  .op (.ld 47 (some 2) (.tmp 8)),
  .op (.call (some 48) 93 [(.tmp 45), (.tmp 46), (.tmp 47)]),
  .op (.mov 44 (.tmp 48)),
  .op (.ext 49 (.tmp 44) 0),
  .op (.ext 50 (.tmp 44) 1),
  .op (.new 17 72 [.int .i64 0, .int .i64 0, .int .i64 0, .int .i64 0, .int .i64 0, .int .i64 0, .int .i64 0, .bool false, .string ⟨#[]⟩]),
  .op (.st 9 (.tmp 17) (.tmp 49)),
  .op (.mov 18 (.tmp 50)),
  .kp [0, 1, 5, 8, 9, 10, 13, 14, 15, 16, 17, 18]]
def f49r4 : List I := [.op (.mov 52 (.tmp 0)),
  .op (.ld 53 (some 2) (.tmp 9)),
  .op (.ld 54 (some 2) (.tmp 8)),
  .op (.call (some 55) 67 [(.tmp 52), (.tmp 53), (.tmp 54)]),
  .op (.mov 51 (.tmp 55)),
  .op (.ext 56 (.tmp 51) 0),
  .op (.ext 57 (.tmp 51) 1),
  .op (.new 19 72 [.int .i64 0, .int .i64 0, .int .i64 0, .int .i64 0, .int .i64 0, .int .i64 0, .int .i64 0, .bool false, .string ⟨#[]⟩]),
  .op (.st 9 (.tmp 19) (.tmp 56)),
  .op (.mov 20 (.tmp 57)),
  .kp [0, 1, 5, 8, 9, 10, 13, 14, 15, 16, 17, 18, 19, 20]]
def f49r5 : List I := [.op (.mov 59 (.tmp 0)),
  .op (.ld 60 (some 2) (.tmp 9)),
  .op (.ld 61 (some 2) (.tmp 8)),
  .op (.mov 62 (.tmp 5)),
  .op (.call (some 63) 47 [(.tmp 59), (.tmp 60), (.tmp 61), (.tmp 62)]),
  .op (.mov 58 (.tmp 63)),
  .op (.ext 64 (.tmp 58) 0),
  .op (.ext 65 (.tmp 58) 1),
  .op (.mov 21 (.tmp 64)),
  .op (.mov 22 (.tmp 65)),
  .kp [0, 1, 5, 8, 9, 10, 13, 14, 15, 16, 17, 18, 19, 20, 21, 22]]
def f49r6 : List I := [.op (.mov 67 (.tmp 0)),
  .op (.ld 68 (some 2) (.tmp 9)),
  .op (.ld 69 (some 2) (.tmp 8)),
  .op (.mov 70 (.tmp 5)),
  .op (.call (some 71) 68 [(.tmp 67), (.tmp 68), (.tmp 69), (.tmp 70)]),
  .op (.mov 66 (.tmp 71)),
  .op (.ext 72 (.tmp 66) 0),
  .op (.ext 73 (.tmp 66) 1),
  .op (.mov 23 (.tmp 72)),
  .op (.mov 24 (.tmp 73)),
  .kp [0, 1, 10, 13, 14, 15, 16, 17, 18, 19, 20, 21, 22, 23, 24]]
def f49r7 : List I := [.op (.mov 75 (.tmp 0)),
  .op (.mov 76 (.tmp 1)),
  .op (.call (some 77) 44 [(.tmp 75), (.tmp 76)]),
  .op (.mov 74 (.tmp 77)),
  .op (.ext 78 (.tmp 74) 0),
  .op (.ext 79 (.tmp 74) 1),
  .op (.new 25 72 [.int .i64 0, .int .i64 0, .int .i64 0, .int .i64 0, .int .i64 0, .int .i64 0, .int .i64 0, .bool false, .string ⟨#[]⟩]),
  .op (.st 9 (.tmp 25) (.tmp 78)),
  .op (.mov 26 (.tmp 79)),
  .kp [0, 1, 10, 13, 14, 15, 16, 17, 18, 19, 20, 21, 22, 23, 24, 25, 26]]
def f49r8 : List I := [.op (.mov 81 (.tmp 0)),
  .op (.mov 82 (.tmp 1)),
  .op (.call (some 83) 71 [(.tmp 81), (.tmp 82)]),
  .op (.mov 80 (.tmp 83)),
  .op (.ext 84 (.tmp 80) 0),
  .op (.ext 85 (.tmp 80) 1),
  .op (.new 27 72 [.int .i64 0, .int .i64 0, .int .i64 0, .int .i64 0, .int .i64 0, .int .i64 0, .int .i64 0, .bool false, .string ⟨#[]⟩]),
  .op (.st 9 (.tmp 27) (.tmp 84)),
  .op (.mov 28 (.tmp 85)),
  .kp [0, 10, 13, 14, 15, 16, 17, 18, 19, 20, 21, 22, 23, 24, 25, 26, 27, 28]]
def f49r9h : List I := [.op (.mov 135 (.tmp 134)),
  .sc 135 false 5,
  .g 135 false (.mov 136 (.tmp 0)),
  .g 135 false (.mov 138 (.tmp 0)),
  .g 135 false (.call (some 137) 45 [(.tmp 136)]),
  .g 135 false (.call (some 139) 51 [(.tmp 138)]),
  .g 135 false (.eqb 140 true (.tmp 137) (.tmp 139)),
  .op (.pick 141 (.tmp 135) (.const (.bool true)) (.tmp 140)),
  .kp [141, 21, 23]]
def f49r9g : List I := .op (.mov 126 (.tmp 125)) ::
  .sc 126 false 7 ::
  .g 126 false (.mov 127 (.tmp 0)) ::
  .g 126 false (.ld 128 (some 4) (.tmp 10)) ::
  .g 126 false (.mov 130 (.tmp 0)) ::
  .g 126 false (.ld 131 (some 4) (.tmp 10)) ::
  .g 126 false (.call (some 129) 38 [(.tmp 127), (.tmp 128)]) ::
  .g 126 false (.call (some 132) 70 [(.tmp 130), (.tmp 131)]) ::
  .g 126 false (.eqb 133 true (.tmp 129) (.tmp 132)) ::
  .op (.pick 134 (.tmp 126) (.const (.bool true)) (.tmp 133)) ::
  .kp [134, 0, 21, 23] ::
  f49r9h
def f49r9f : List I := .op (.mov 119 (.tmp 118)) ::
  .sc 119 false 5 ::
  .g 119 false (.mov 120 (.tmp 21)) ::
  .g 119 false (.len 121 true (.tmp 120)) ::
  .g 119 false (.mov 122 (.tmp 23)) ::
  .g 119 false (.len 123 true (.tmp 122)) ::
  .g 119 false (.bin 124 .neq (.tmp 121) (.tmp 123)) ::
  .op (.pick 125 (.tmp 119) (.const (.bool true)) (.tmp 124)) ::
  .kp [125, 0, 10, 21, 23] ::
  f49r9g
def f49r9e : List I := .op (.mov 114 (.tmp 113)) ::
  .sc 114 false 3 ::
  .g 114 false (.mov 115 (.tmp 26)) ::
  .g 114 false (.mov 116 (.tmp 28)) ::
  .g 114 false (.eqb 117 true (.tmp 115) (.tmp 116)) ::
  .op (.pick 118 (.tmp 114) (.const (.bool true)) (.tmp 117)) ::
  .kp [118, 0, 10, 21, 23] ::
  f49r9f
def f49r9d : List I := .op (.mov 109 (.tmp 108)) ::
  .sc 109 false 3 ::
  .g 109 false (.ld 110 (some 9) (.tmp 25)) ::
  .g 109 false (.ld 111 (some 9) (.tmp 27)) ::
  .g 109 false (.eqa 112 true [.i .i64, .i .i64, .i .i64, .i .i64, .i .i64, .i .i64, .i .i64, .b, .s] (.tmp 110) (.tmp 111)) ::
  .op (.pick 113 (.tmp 109) (.const (.bool true)) (.tmp 112)) ::
  .kp [113, 0, 10, 21, 23, 26, 28] ::
  f49r9e
def f49r9c : List I := .op (.mov 104 (.tmp 103)) ::
  .sc 104 false 3 ::
  .g 104 false (.mov 105 (.tmp 22)) ::
  .g 104 false (.mov 106 (.tmp 24)) ::
  .g 104 false (.bin 107 .neq (.tmp 105) (.tmp 106)) ::
  .op (.pick 108 (.tmp 104) (.const (.bool true)) (.tmp 107)) ::
  .kp [108, 0, 10, 21, 23, 25, 26, 27, 28] ::
  f49r9d
def f49r9b : List I := .op (.mov 99 (.tmp 98)) ::
  .sc 99 false 3 ::
  .g 99 false (.mov 100 (.tmp 18)) ::
  .g 99 false (.mov 101 (.tmp 20)) ::
  .g 99 false (.eqb 102 true (.tmp 100) (.tmp 101)) ::
  .op (.pick 103 (.tmp 99) (.const (.bool true)) (.tmp 102)) ::
  .kp [103, 0, 10, 21, 22, 23, 24, 25, 26, 27, 28] ::
  f49r9c
def f49r9a : List I := .op (.mov 94 (.tmp 93)) ::
  .sc 94 false 3 ::
  .g 94 false (.ld 95 (some 9) (.tmp 17)) ::
  .g 94 false (.ld 96 (some 9) (.tmp 19)) ::
  .g 94 false (.eqa 97 true [.i .i64, .i .i64, .i .i64, .i .i64, .i .i64, .i .i64, .i .i64, .b, .s] (.tmp 95) (.tmp 96)) ::
  .op (.pick 98 (.tmp 94) (.const (.bool true)) (.tmp 97)) ::
  .kp [98, 0, 10, 18, 20, 21, 22, 23, 24, 25, 26, 27, 28] ::
  f49r9b
def f49r9 : List I := .op (.mov 86 (.tmp 13)) ::
  .op (.mov 87 (.tmp 15)) ::
  .op (.bin 88 .neq (.tmp 86) (.tmp 87)) ::
  .op (.mov 89 (.tmp 88)) ::
  .sc 89 false 3 ::
  .g 89 false (.mov 90 (.tmp 14)) ::
  .g 89 false (.mov 91 (.tmp 16)) ::
  .g 89 false (.eqb 92 true (.tmp 90) (.tmp 91)) ::
  .op (.pick 93 (.tmp 89) (.const (.bool true)) (.tmp 92)) ::
  .kp [93, 0, 10, 17, 18, 19, 20, 21, 22, 23, 24, 25, 26, 27, 28] ::
  f49r9a
def f49r10 : List I := [.op (.mov 12 (.const (.bool false))),
  .kp [12]]
def f49r11 : List I := [.op (.mov 29 (.const (.int .i64 0))),
  .kp [21, 23, 29]]
def f49r12 : List I := [.op (.mov 142 (.tmp 29)),
  .op (.mov 143 (.tmp 23)),
  .op (.len 144 true (.tmp 143)),
  .op (.bin 145 .lss (.tmp 142) (.tmp 144)),
  .kp [21, 23, 29, 145]]
def f49r13 : List I := [.op (.mov 148 (.tmp 21)),
  .op (.mov 149 (.tmp 29)),
  .op (.iad 150 2 (.tmp 148) (.tmp 149)),
  .op (.ld 151 (some 2) (.tmp 150)),
  .op (.mov 152 (.tmp 23)),
  .op (.mov 153 (.tmp 29)),
  .op (.iad 154 2 (.tmp 152) (.tmp 153)),
  .op (.ld 155 (some 2) (.tmp 154)),
  .op (.eqa 156 true [.s, .s] (.tmp 151) (.tmp 155)),
  .kp [21, 23, 29, 156]]
def f49r14 : List I := [.op (.mov 12 (.const (.bool false))),
  .kp [12]]
def f49r15 : List I := [.op (.mov 157 (.tmp 21)),
  .op (.mov 158 (.tmp 29)),
  .op (.bld 159 [.string ⟨#[]⟩, .string ⟨#[]⟩] []),
  .op (.iad 160 2 (.tmp 157) (.tmp 158)),
  .op (.st 2 (.tmp 160) (.tmp 159)),
  .kp [21, 23, 29]]
def f49r16 : List I := [.op (.mov 146 (.tmp 29)),
  .op (.bin 147 .add (.tmp 146) (.const (.int .i64 1))),
  .op (.mov 29 (.tmp 147)),
  .kp [21, 23, 29]]
def f49r17 : List I := [.op (.mov 12 (.const (.bool true))),
  .kp [12]]
def f49c11 : C := (.seq (.reg f49r10) .ret)
def f49c19 : C := (.seq (.reg f49r14) .ret)
def f49c20 : C := (.reg f49r15)
def f49c18 : C := (.seq (.cond (.tmp 156) f49c19 .skip) f49c20)
def f49c17 : C := (.seq (.drw f49r13) f49c18)
def f49c21 : C := (.reg f49r16)
def f49c16 : C := (.seq (.block 1 f49c17) f49c21)
def f49c15 : C := (.seq (.cond (.tmp 145) .skip (.exit 0)) f49c16)
def f49c14 : C := (.seq (.reg f49r12) f49c15)
def f49c22 : C := (.seq (.reg f49r17) .ret)
def f49c13 : C := (.seq (.block 0 (.loop f49c14)) f49c22)
def f49c12 : C := (.seq (.reg f49r11) f49c13)
def f49c10 : C := (.seq (.cond (.tmp 141) f49c11 .skip) f49c12)
def f49c9 : C := (.seq (.drw f49r9) f49c10)
def f49c8 : C := (.seq (.reg f49r8) f49c9)
def f49c7 : C := (.seq (.reg f49r7) f49c8)
def f49c6 : C := (.seq (.reg f49r6) f49c7)
def f49c5 : C := (.seq (.reg f49r5) f49c6)
def f49c4 : C := (.seq (.reg f49r4) f49c5)
def f49c3 : C := (.seq (.reg f49r3) f49c4)
def f49c2 : C := (.seq (.reg f49r2) f49c3)
def f49c1 : C := (.seq (.reg f49r1) f49c2)
def f49c0 : C := (.seq (.reg f49r0) f49c1)
theorem f49cmp : cmpF Try.prog Try.f49 [.l [.o 0, .o 1, .o 2, .o 3, .kp [0, 1, 5, 8, 9, 10]],
  .l [.o 0, .o 1, .o 2, .o 3, .o 4, .o 5, .o 6, .o 7, .o 8, .kp [0, 1, 5, 8, 9, 10, 13, 14]],
  .l [.o 0, .o 1, .o 2, .o 3, .o 4, .o 5, .o 6, .o 7, .o 8, .kp [0, 1, 5, 8, 9, 10, 13, 14, 15, 16]],
  .l [.o 0, .o 1, .o 2, .o 3, .o 4, .o 5, .o 6, .o 7, .o 8, .o 9, .kp [0, 1, 5, 8, 9, 10, 13, 14, 15, 16, 17, 18]],
  .l [.o 0, .o 1, .o 2, .o 3, .o 4, .o 5, .o 6, .o 7, .o 8, .o 9, .kp [0, 1, 5, 8, 9, 10, 13, 14, 15, 16, 17, 18, 19, 20]],
  .l [.o 0, .o 1, .o 2, .o 3, .o 4, .o 5, .o 6, .o 7, .o 8, .o 9, .kp [0, 1, 5, 8, 9, 10, 13, 14, 15, 16, 17, 18, 19, 20, 21, 22]],
  .l [.o 0, .o 1, .o 2, .o 3, .o 4, .o 5, .o 6, .o 7, .o 8, .o 9, .kp [0, 1, 10, 13, 14, 15, 16, 17, 18, 19, 20, 21, 22, 23, 24]],
  .l [.o 0, .o 1, .o 2, .o 3, .o 4, .o 5, .o 6, .o 7, .o 8, .kp [0, 1, 10, 13, 14, 15, 16, 17, 18, 19, 20, 21, 22, 23, 24, 25, 26]],
  .l [.o 0, .o 1, .o 2, .o 3, .o 4, .o 5, .o 6, .o 7, .o 8, .kp [0, 10, 13, 14, 15, 16, 17, 18, 19, 20, 21, 22, 23, 24, 25, 26, 27, 28]],
  .l [.o 0, .o 1, .o 2, .o 3, .sc 89 false 3, .o 4, .o 5, .o 6, .o 7, .kp [93, 0, 10, 17, 18, 19, 20, 21, 22, 23, 24, 25, 26, 27, 28], .o 8, .sc 94 false 3, .o 9, .o 10, .o 11, .o 12, .kp [98, 0, 10, 18, 20, 21, 22, 23, 24, 25, 26, 27, 28], .o 13, .sc 99 false 3, .o 14, .o 15, .o 16, .o 17, .kp [103, 0, 10, 21, 22, 23, 24, 25, 26, 27, 28], .o 18, .sc 104 false 3, .o 19, .o 20, .o 21, .o 22, .kp [108, 0, 10, 21, 23, 25, 26, 27, 28], .o 23, .sc 109 false 3, .o 24, .o 25, .o 26, .o 27, .kp [113, 0, 10, 21, 23, 26, 28], .o 28, .sc 114 false 3, .o 29, .o 30, .o 31, .o 32, .kp [118, 0, 10, 21, 23], .o 33, .sc 119 false 5, .o 34, .o 35, .o 36, .o 37, .o 38, .o 39, .kp [125, 0, 10, 21, 23], .o 40, .sc 126 false 7, .o 41, .o 42, .o 44, .o 45, .o 43, .o 46, .o 47, .o 48, .kp [134, 0, 21, 23], .o 49, .sc 135 false 5, .o 50, .o 52, .o 51, .o 53, .o 54, .o 55, .kp [141, 21, 23]],
  .l [.o 0, .kp [12]],
  .l [.o 0, .kp [21, 23, 29]],
  .l [.o 0, .o 1, .o 2, .o 3, .kp [21, 23, 29, 145]],
  .l [.o 0, .o 1, .o 2, .o 3, .o 4, .o 5, .o 6, .o 7, .o 8, .kp [21, 23, 29, 156]],
  .l [.o 0, .kp [12]],
  .l [.o 0, .o 1, .o 2, .o 3, .o 4, .kp [21, 23, 29]],
  .l [.o 0, .o 1, .o 2, .kp [21, 23, 29]],
  .l [.o 0, .kp [12]]] = some (f49c0, [.tmp 12]) := by kernel_rfl
theorem f49ok {args : List Value} {h : Heap} {R : Value → Heap → Prop} (hn : args.length ≤ 161) (H : wC Try.prog f49c0 (endW [.tmp 12] R) (envOf 0 args) h) : CallsH Try.prog 49 args h R :=
  fn_ok2 Try.func49 f49cmp hn H
theorem f49cal : callable Try.prog 49 = true := by kernel_rfl
section
variable {Q : X → Env → Heap → Prop} {σ : Env} {h : Heap}
theorem f49c11_eq : wC Try.prog f49c11 Q σ h = (wL Try.prog none f49r10 0 (fun σ h => Q .ret σ h) σ h) := rfl
theorem f49c19_eq : wC Try.prog f49c19 Q σ h = (wL Try.prog none f49r14 0 (fun σ h => Q .ret σ h) σ h) := rfl
theorem f49c20_eq : wC Try.prog f49c20 Q σ h = (wL Try.prog none f49r15 0 (fun σ h => Q .normal σ h) σ h) := rfl
theorem f49c18_eq : wC Try.prog f49c18 Q σ h = (bd (evO σ (.tmp 156)) fun v => bd (asB v) fun t => br t (wC Try.prog f49c19 (X.then (fun σ h => wC Try.prog f49c20 Q σ h) Q) σ h) (wC Try.prog f49c20 Q σ h)) := rfl
theorem f49c17_eq : wC Try.prog f49c17 Q σ h = (drwW Try.prog f49r13 (fun σ h => wC Try.prog f49c18 Q σ h) σ h) := rfl
theorem f49c21_eq : wC Try.prog f49c21 Q σ h = (wL Try.prog none f49r16 0 (fun σ h => Q .normal σ h) σ h) := rfl
theorem f49c16_eq : wC Try.prog f49c16 Q σ h = (wC Try.prog f49c17 (X.inBlock 1 (X.then (fun σ h => wC Try.prog f49c21 Q σ h) Q)) σ h) := rfl
theorem f49c15_eq : wC Try.prog f49c15 Q σ h = (bd (evO σ (.tmp 145)) fun v => bd (asB v) fun t => br t (wC Try.prog f49c16 Q σ h) (Q (.exit 0) σ h)) := rfl
theorem f49c14_eq : wC Try.prog f49c14 Q σ h = (wL Try.prog none f49r12 0 (fun σ h => wC Try.prog f49c15 Q σ h) σ h) := rfl
theorem f49c22_eq : wC Try.prog f49c22 Q σ h = (wL Try.prog none f49r17 0 (fun σ h => Q .ret σ h) σ h) := rfl
theorem f49c13_eq : wC Try.prog f49c13 Q σ h = (loopW (wC Try.prog f49c14) (X.inBlock 0 (X.then (fun σ h => wC Try.prog f49c22 Q σ h) Q)) σ h) := rfl
theorem f49c12_eq : wC Try.prog f49c12 Q σ h = (wL Try.prog none f49r11 0 (fun σ h => wC Try.prog f49c13 Q σ h) σ h) := rfl
theorem f49c10_eq : wC Try.prog f49c10 Q σ h = (bd (evO σ (.tmp 141)) fun v => bd (asB v) fun t => br t (wC Try.prog f49c11 (X.then (fun σ h => wC Try.prog f49c12 Q σ h) Q) σ h) (wC Try.prog f49c12 Q σ h)) := rfl
theorem f49c9_eq : wC Try.prog f49c9 Q σ h = (drwW Try.prog f49r9 (fun σ h => wC Try.prog f49c10 Q σ h) σ h) := rfl
theorem f49c8_eq : wC Try.prog f49c8 Q σ h = (wL Try.prog none f49r8 0 (fun σ h => wC Try.prog f49c9 Q σ h) σ h) := rfl
theorem f49c7_eq : wC Try.prog f49c7 Q σ h = (wL Try.prog none f49r7 0 (fun σ h => wC Try.prog f49c8 Q σ h) σ h) := rfl
theorem f49c6_eq : wC Try.prog f49c6 Q σ h = (wL Try.prog none f49r6 0 (fun σ h => wC Try.prog f49c7 Q σ h) σ h) := rfl
theorem f49c5_eq : wC Try.prog f49c5 Q σ h = (wL Try.prog none f49r5 0 (fun σ h => wC Try.prog f49c6 Q σ h) σ h) := rfl
theorem f49c4_eq : wC Try.prog f49c4 Q σ h = (wL Try.prog none f49r4 0 (fun σ h => wC Try.prog f49c5 Q σ h) σ h) := rfl
theorem f49c3_eq : wC Try.prog f49c3 Q σ h = (wL Try.prog none f49r3 0 (fun σ h => wC Try.prog f49c4 Q σ h) σ h) := rfl
theorem f49c2_eq : wC Try.prog f49c2 Q σ h = (wL Try.prog none f49r2 0 (fun σ h => wC Try.prog f49c3 Q σ h) σ h) := rfl
theorem f49c1_eq : wC Try.prog f49c1 Q σ h = (wL Try.prog none f49r1 0 (fun σ h => wC Try.prog f49c2 Q σ h) σ h) := rfl
theorem f49c0_eq : wC Try.prog f49c0 Q σ h = (wL Try.prog none f49r0 0 (fun σ h => wC Try.prog f49c1 Q σ h) σ h) := rfl
end
/-! ### f50: antipode/antipodelaw8.Light -/
def f50r0 : List I := [.op (.mov 2 (.const (.bool false))),
  .kp [0]]
def f50r1 : List I := [.op (.mov 5 (.tmp 0)),
  .op (.len 6 true (.tmp 5)),
  .op (.bin 7 .gtr (.tmp 6) (.const (.int .i64 60))),
  .kp [0, 7]]
def f50r2 : List I := [.op (.mov 2 (.const (.bool false))),
  .kp [2]]
def f50r3 : List I := [.op (.mov 3 (.const (.int .i64 0))),
  .kp [0, 3]]
def f50r4 : List I := [.op (.mov 8 (.tmp 3)),
  .op (.mov 9 (.tmp 0)),
  .op (.len 10 true (.tmp 9)),
  .op (.bin 11 .lss (.tmp 8) (.tmp 10)),
  .kp [0, 3, 11]]
def f50r5a : List I := [.op (.mov 30 (.tmp 29)),
  .sc 30 false 8,
  .g 30 false (.mov 31 (.tmp 0)),
  .g 30 false (.mov 32 (.tmp 3)),
  .g 30 false (.iad 33 12 (.tmp 31) (.tmp 32)),
  .g 30 false (.fad 34 3 (.tmp 33)),
  .g 30 false (.fad 35 8 (.tmp 34)),
  .g 30 false (.ld 36 none (.tmp 35)),
  .g 30 false (.len 37 false (.tmp 36)),
  .g 30 false (.bin 38 .gtr (.tmp 37) (.const (.int .i64 300))),
  .op (.pick 39 (.tmp 30) (.const (.bool true)) (.tmp 38)),
  .kp [39, 0, 3]]
def f50r5 : List I := .op (.mov 14 (.tmp 0)) ::
  .op (.mov 15 (.tmp 3)) ::
  .op (.iad 16 12 (.tmp 14) (.tmp 15)) ::
  .op (.fad 17 1 (.tmp 16)) ::
  .op (.ld 18 none (.tmp 17)) ::
  .op (.len 19 true (.tmp 18)) ::
  .op (.bin 20 .gtr (.tmp 19) (.const (.int .i64 30))) ::
  .op (.mov 21 (.tmp 20)) ::
  .sc 21 false 7 ::
  .g 21 false (.mov 22 (.tmp 0)) ::
  .g 21 false (.mov 23 (.tmp 3)) ::
  .g 21 false (.iad 24 12 (.tmp 22) (.tmp 23)) ::
  .g 21 false (.fad 25 0 (.tmp 24)) ::
  .g 21 false (.ld 26 none (.tmp 25)) ::
  .g 21 false (.len 27 false (.tmp 26)) ::
  .g 21 false (.bin 28 .gtr (.tmp 27) (.const (.int .i64 100))) ::
  .op (.pick 29 (.tmp 21) (.const (.bool true)) (.tmp 28)) ::
  .kp [29, 0, 3] ::
  f50r5a
def f50r6 : List I := [.op (.mov 2 (.const (.bool false))),
  .kp [2]]
def f50r7 : List I := [.op (.mov 4 (.const (.int .i64 0))),
  .kp [0, 3, 4]]
def f50r8 : List I := [.op (.mov 40 (.tmp 4)),
  .op (.mov 41 (.tmp 0)),
  .op (.mov 42 (.tmp 3)),
  .op (.iad 43 12 (.tmp 41) (.tmp 42)),
  .op (.fad 44 1 (.tmp 43)),
  .op (.ld 45 none (.tmp 44)),
  .op (.len 46 true (.tmp 45)),
  .op (.bin 47 .lss (.tmp 40) (.tmp 46)),
  .kp [0, 3, 4, 47]]
def f50r9 : List I := [.op (.mov 50 (.tmp 0)),
  .op (.mov 51 (.tmp 3)),
  .op (.iad 52 12 (.tmp 50) (.tmp 51)),
  .op (.fad 53 1 (.tmp 52)),
  .op (.ld 54 none (.tmp 53)),
  .op (.mov 55 (.tmp 4)),
  .op (.iad 56 4 (.tmp 54) (.tmp 55)),
  .op (.fad 57 3 (.tmp 56)),
  .op (.ld 58 none (.tmp 57)),
  .op (.len 59 false (.tmp 58)),
  .kp [0, 3, 4, 59],
  .op (.bin 60 .gtr (.tmp 59) (.const (.int .i64 300))),
  .kp [0, 3, 4, 60]]
def f50r10 : List I := [.op (.mov 2 (.const (.bool false))),
  .kp [2]]
def f50r11 : List I := [.op (.mov 48 (.tmp 4)),
  .op (.bin 49 .add (.tmp 48) (.const (.int .i64 1))),
  .op (.mov 4 (.tmp 49)),
  .kp [0, 3, 4]]
def f50r12 : List I := [.op (.mov 12 (.tmp 3)),
  .op (.bin 13 .add (.tmp 12) (.const (.int .i64 1))),
  .op (.mov 3 (.tmp 13)),
  .kp [0, 3]]
def f50r13 : List I := [.op (.mov 2 (.const (.bool true))),
  .kp [2]]
def f50c3 : C := (.seq (.reg f50r2) .ret)
def f50c11 : C := (.seq (.reg f50r6) .ret)
def f50c19 : C := (.seq (.reg f50r10) .ret)
def f50c18 : C := (.cond (.tmp 60) f50c19 .skip)
def f50c17 : C := (.seq (.reg f50r9) f50c18)
def f50c20 : C := (.reg f50r11)
def f50c16 : C := (.seq (.block 3 f50c17) f50c20)
def f50c15 : C := (.seq (.cond (.tmp 47) .skip (.exit 2)) f50c16)
def f50c14 : C := (.seq (.reg f50r8) f50c15)
def f50c13 : C := (.block 2 (.loop f50c14))
def f50c12 : C := (.seq (.reg f50r7) f50c13)
def f50c10 : C := (.seq (.cond (.tmp 39) f50c11 .skip) f50c12)
def f50c9 : C := (.seq (.reg f50r5) f50c10)
def f50c21 : C := (.reg f50r12)
def f50c8 : C := (.seq (.block 1 f50c9) f50c21)
def f50c7 : C := (.seq (.cond (.tmp 11) .skip (.exit 0)) f50c8)
def f50c6 : C := (.seq (.reg f50r4) f50c7)
def f50c22 : C := (.seq (.reg f50r13) .ret)
def f50c5 : C := (.seq (.block 0 (.loop f50c6)) f50c22)
def f50c4 : C := (.seq (.reg f50r3) f50c5)
def f50c2 : C := (.seq (.cond (.tmp 7) f50c3 .skip) f50c4)
def f50c1 : C := (.seq (.reg f50r1) f50c2)
def f50c0 : C := (.seq (.reg f50r0) f50c1)
theorem f50cmp : cmpF Try.prog Try.f50 [.l [.o 0, .kp [0]],
  .l [.o 0, .o 1, .o 2, .kp [0, 7]],
  .l [.o 0, .kp [2]],
  .l [.o 0, .kp [0, 3]],
  .l [.o 0, .o 1, .o 2, .o 3, .kp [0, 3, 11]],
  .l [.o 0, .o 1, .o 2, .o 3, .o 4, .o 5, .o 6, .o 7, .sc 21 false 7, .o 8, .o 9, .o 10, .o 11, .o 12, .o 13, .o 14, .o 15, .kp [29, 0, 3], .o 16, .sc 30 false 8, .o 17, .o 18, .o 19, .o 20, .o 21, .o 22, .o 23, .o 24, .o 25, .kp [39, 0, 3]],
  .l [.o 0, .kp [2]],
  .l [.o 0, .kp [0, 3, 4]],
  .l [.o 0, .o 1, .o 2, .o 3, .o 4, .o 5, .o 6, .o 7, .kp [0, 3, 4, 47]],
  .l [.o 0, .o 1, .o 2, .o 3, .o 4, .o 5, .o 6, .o 7, .o 8, .o 9, .kp [0, 3, 4, 59], .o 10, .kp [0, 3, 4, 60]],
  .l [.o 0, .kp [2]],
  .l [.o 0, .o 1, .o 2, .kp [0, 3, 4]],
  .l [.o 0, .o 1, .o 2, .kp [0, 3]],
  .l [.o 0, .kp [2]]] = some (f50c0, [.tmp 2]) := by kernel_rfl
theorem f50ok {args : List Value} {h : Heap} {R : Value → Heap → Prop} (hn : args.length ≤ 61) (H : wC Try.prog f50c0 (endW [.tmp 2] R) (envOf 0 args) h) : CallsH Try.prog 50 args h R :=
  fn_ok2 Try.func50 f50cmp hn H
theorem f50cal : callable Try.prog 50 = true := by kernel_rfl
section
variable {Q : X → Env → Heap → Prop} {σ : Env} {h : Heap}
theorem f50c3_eq : wC Try.prog f50c3 Q σ h = (wL Try.prog none f50r2 0 (fun σ h => Q .ret σ h) σ h) := rfl
theorem f50c11_eq : wC Try.prog f50c11 Q σ h = (wL Try.prog none f50r6 0 (fun σ h => Q .ret σ h) σ h) := rfl
theorem f50c19_eq : wC Try.prog f50c19 Q σ h = (wL Try.prog none f50r10 0 (fun σ h => Q .ret σ h) σ h) := rfl
theorem f50c18_eq : wC Try.prog f50c18 Q σ h = (bd (evO σ (.tmp 60)) fun v => bd (asB v) fun t => br t (wC Try.prog f50c19 Q σ h) (Q .normal σ h)) := rfl
theorem f50c17_eq : wC Try.prog f50c17 Q σ h = (wL Try.prog none f50r9 0 (fun σ h => wC Try.prog f50c18 Q σ h) σ h) := rfl
theorem f50c20_eq : wC Try.prog f50c20 Q σ h = (wL Try.prog none f50r11 0 (fun σ h => Q .normal σ h) σ h) := rfl
theorem f50c16_eq : wC Try.prog f50c16 Q σ h = (wC Try.prog f50c17 (X.inBlock 3 (X.then (fun σ h => wC Try.prog f50c20 Q σ h) Q)) σ h) := rfl
theorem f50c15_eq : wC Try.prog f50c15 Q σ h = (bd (evO σ (.tmp 47)) fun v => bd (asB v) fun t => br t (wC Try.prog f50c16 Q σ h) (Q (.exit 2) σ h)) := rfl
theorem f50c14_eq : wC Try.prog f50c14 Q σ h = (wL Try.prog none f50r8 0 (fun σ h => wC Try.prog f50c15 Q σ h) σ h) := rfl
theorem f50c13_eq : wC Try.prog f50c13 Q σ h = (loopW (wC Try.prog f50c14) (X.inBlock 2 Q) σ h) := rfl
theorem f50c12_eq : wC Try.prog f50c12 Q σ h = (wL Try.prog none f50r7 0 (fun σ h => wC Try.prog f50c13 Q σ h) σ h) := rfl
theorem f50c10_eq : wC Try.prog f50c10 Q σ h = (bd (evO σ (.tmp 39)) fun v => bd (asB v) fun t => br t (wC Try.prog f50c11 (X.then (fun σ h => wC Try.prog f50c12 Q σ h) Q) σ h) (wC Try.prog f50c12 Q σ h)) := rfl
theorem f50c9_eq : wC Try.prog f50c9 Q σ h = (wL Try.prog none f50r5 0 (fun σ h => wC Try.prog f50c10 Q σ h) σ h) := rfl
theorem f50c21_eq : wC Try.prog f50c21 Q σ h = (wL Try.prog none f50r12 0 (fun σ h => Q .normal σ h) σ h) := rfl
theorem f50c8_eq : wC Try.prog f50c8 Q σ h = (wC Try.prog f50c9 (X.inBlock 1 (X.then (fun σ h => wC Try.prog f50c21 Q σ h) Q)) σ h) := rfl
theorem f50c7_eq : wC Try.prog f50c7 Q σ h = (bd (evO σ (.tmp 11)) fun v => bd (asB v) fun t => br t (wC Try.prog f50c8 Q σ h) (Q (.exit 0) σ h)) := rfl
theorem f50c6_eq : wC Try.prog f50c6 Q σ h = (wL Try.prog none f50r4 0 (fun σ h => wC Try.prog f50c7 Q σ h) σ h) := rfl
theorem f50c22_eq : wC Try.prog f50c22 Q σ h = (wL Try.prog none f50r13 0 (fun σ h => Q .ret σ h) σ h) := rfl
theorem f50c5_eq : wC Try.prog f50c5 Q σ h = (loopW (wC Try.prog f50c6) (X.inBlock 0 (X.then (fun σ h => wC Try.prog f50c22 Q σ h) Q)) σ h) := rfl
theorem f50c4_eq : wC Try.prog f50c4 Q σ h = (wL Try.prog none f50r3 0 (fun σ h => wC Try.prog f50c5 Q σ h) σ h) := rfl
theorem f50c2_eq : wC Try.prog f50c2 Q σ h = (bd (evO σ (.tmp 7)) fun v => bd (asB v) fun t => br t (wC Try.prog f50c3 (X.then (fun σ h => wC Try.prog f50c4 Q σ h) Q) σ h) (wC Try.prog f50c4 Q σ h)) := rfl
theorem f50c1_eq : wC Try.prog f50c1 Q σ h = (wL Try.prog none f50r1 0 (fun σ h => wC Try.prog f50c2 Q σ h) σ h) := rfl
theorem f50c0_eq : wC Try.prog f50c0 Q σ h = (wL Try.prog none f50r0 0 (fun σ h => wC Try.prog f50c1 Q σ h) σ h) := rfl
end
end Go.Proofs.Ytefghfgmkndikaa
/-
  By a program of mine (wip/tools/gen.py): the code of functions of the seat in the small instruction language, and that it is their code.
-/
namespace Go.Proofs.Ytefghfgmkndikaa
open Go.AX
set_option maxRecDepth 100000
/-! ### f92: antipode/mvcc.within -/
def f92r0 : List I := [.op (.box 3 94 (.tmp 1)),
  .op (.mov 4 (.const (.slice none 0 0))),
  .kp [0, 3]]
def f92r1 : List I := [.op (.fad 9 1 (.tmp 3)),
  .op (.ld 10 none (.tmp 9)),
  .op (.fad 11 0 (.tmp 3)),
  .op (.ld 12 none (.tmp 11)),
  .op (.bin 13 .leq (.tmp 10) (.tmp 12)),
  .kp [0, 3, 13]]
def f92r2 : List I := [.op (.mov 4 (.const (.slice none 0 0))),
  .kp [4]]
def f92r3 : List I := [.op (.mov 15 (.tmp 0)),
  .op (.fad 16 0 (.tmp 3)),
  .op (.ld 17 none (.tmp 16)),
  .op (.call (some 18) 87 [(.tmp 15), (.tmp 17)]),
  .op (.mov 14 (.tmp 18)),
  .op (.ext 19 (.tmp 14) 0),
  .op (.ext 20 (.tmp 14) 1),
  .op (.mov 5 (.tmp 19)),
  .op (.mov 6 (.tmp 20)),
  .kp [0, 3, 5]]
def f92r4 : List I := [.op (.mov 22 (.tmp 0)),
  .op (.fad 23 1 (.tmp 3)),
  .op (.ld 24 none (.tmp 23)),
  .op (.call (some 25) 87 [(.tmp 22), (.tmp 24)]),
  .op (.mov 21 (.tmp 25)),
  .op (.ext 26 (.tmp 21) 0),
  .op (.ext 27 (.tmp 21) 1),
  .op (.mov 7 (.tmp 26)),
  .op (.mov 8 (.tmp 27)),
  .kp [0, 5, 7]]
def f92r5 : List I := [.op (.mov 28 (.tmp 0)),
  .op (.mov 29 (.tmp 5)),
  .op (.mov 30 (.tmp 7)),
  .op (.mov 31 (.tmp 5)),
  .op (.mm 32 true (.tmp 30) (.tmp 31)),
  .op (.slc 33 12 (.tmp 28) (some (.tmp 29)) (some (.tmp 32)) none),
  .op (.mov 4 (.tmp 33)),
  .kp [4]]
def f92c3 : C := (.seq (.reg f92r2) .ret)
def f92c6 : C := (.seq (.reg f92r5) .ret)
def f92c5 : C := (.seq (.reg f92r4) f92c6)
def f92c4 : C := (.seq (.reg f92r3) f92c5)
def f92c2 : C := (.seq (.cond (.tmp 13) f92c3 .skip) f92c4)
def f92c1 : C := (.seq (.reg f92r1) f92c2)
def f92c0 : C := (.seq (.reg f92r0) f92c1)
theorem f92cmp : cmpF Try.prog Try.f92 [.l [.o 0, .o 1, .kp [0, 3]],
  .l [.o 0, .o 1, .o 2, .o 3, .o 4, .kp [0, 3, 13]],
  .l [.o 0, .kp [4]],
  .l [.o 0, .o 1, .o 2, .o 3, .o 4, .o 5, .o 6, .o 7, .o 8, .kp [0, 3, 5]],
  .l [.o 0, .o 1, .o 2, .o 3, .o 4, .o 5, .o 6, .o 7, .o 8, .kp [0, 5, 7]],
  .l [.o 0, .o 1, .o 2, .o 3, .o 4, .o 5, .o 6, .kp [4]]] = some (f92c0, [.tmp 4]) := by kernel_rfl
theorem f92ok {args : List Value} {h : Heap} {R : Value → Heap → Prop} (hn : args.length ≤ 34) (H : wC Try.prog f92c0 (endW [.tmp 4] R) (envOf 0 args) h) : CallsH Try.prog 92 args h R :=
  fn_ok2 Try.func92 f92cmp hn H
theorem f92cal : callable Try.prog 92 = true := by kernel_rfl
section
variable {Q : X → Env → Heap → Prop} {σ : Env} {h : Heap}
theorem f92c3_eq : wC Try.prog f92c3 Q σ h = (wL Try.prog none f92r2 0 (fun σ h => Q .ret σ h) σ h) := rfl
theorem f92c6_eq : wC Try.prog f92c6 Q σ h = (wL Try.prog none f92r5 0 (fun σ h => Q .ret σ h) σ h) := rfl
theorem f92c5_eq : wC Try.prog f92c5 Q σ h = (wL Try.prog none f92r4 0 (fun σ h => wC Try.prog f92c6 Q σ h) σ h) := rfl
theorem f92c4_eq : wC Try.prog f92c4 Q σ h = (wL Try.prog none f92r3 0 (fun σ h => wC Try.prog f92c5 Q σ h) σ h) := rfl
theorem f92c2_eq : wC Try.prog f92c2 Q σ h = (bd (evO σ (.tmp 13)) fun v => bd (asB v) fun t => br t (wC Try.prog f92c3 (X.then (fun σ h => wC Try.prog f92c4 Q σ h) Q) σ h) (wC Try.prog f92c4 Q σ h)) := rfl
theorem f92c1_eq : wC Try.prog f92c1 Q σ h = (wL Try.prog none f92r1 0 (fun σ h => wC Try.prog f92c2 Q σ h) σ h) := rfl
theorem f92c0_eq : wC Try.prog f92c0 Q σ h = (wL Try.prog none f92r0 0 (fun σ h => wC Try.prog f92c1 Q σ h) σ h) := rfl
end
/-! ### f44: antipode/mvcc.Held -/
def f44r0 : List I := [.op (.new 4 72 [.int .i64 0, .int .i64 0, .int .i64 0, .int .i64 0, .int .i64 0, .int .i64 0, .int .i64 0, .bool false, .string ⟨#[]⟩]),
  .op (.mov 5 (.const (.bool false))),
  .kp [0, 1, 4]]
def f44r1 : List I := [.op (.mov 9 (.tmp 0)),
  .op (.mov 10 (.tmp 1)),
  .op (.call (some 11) 87 [(.tmp 9), (.tmp 10)]),
  .op (.mov 8 (.tmp 11)),
  .op (.ext 12 (.tmp 8) 0),
  .op (.ext 13 (.tmp 8) 1),
  .op (.mov 6 (.tmp 12)),
  .op (.mov 7 (.tmp 13)),
  .kp [0, 4, 6, 7]]
def f44r2 : List I := [.op (.mov 14 (.tmp 7)),
  .op (.un 15 .not (.tmp 14)),
  .op (.mov 16 (.tmp 15)),
  .sc 16 false 6,
  .g 16 false (.mov 17 (.tmp 0)),
  .g 16 false (.mov 18 (.tmp 6)),
  .g 16 false (.iad 19 12 (.tmp 17) (.tmp 18)),
  .g 16 false (.fad 20 2 (.tmp 19)),
  .g 16 false (.ld 21 none (.tmp 20)),
  .g 16 false (.un 22 .not (.tmp 21)),
  .op (.pick 23 (.tmp 16) (.const (.bool true)) (.tmp 22)),
  .kp [23, 0, 4, 6]]
def f44r3 : List I := [.op (.bld 24 [.int .i64 0, .int .i64 0, .int .i64 0, .int .i64 0, .int .i64 0, .int .i64 0, .int .i64 0, .bool false, .string ⟨#[]⟩] []),
  .op (.st 9 (.tmp 4) (.tmp 24)),
  .op (.mov 5 (.const (.bool false))),
  .kp [4, 5]]
def f44r4 : List I := [.op (.mov 25 (.tmp 0)),
  .op (.mov 26 (.tmp 6)),
  .op (.iad 27 12 (.tmp 25) (.tmp 26)),
  .op (.fad 28 3 (.tmp 27)),
  .op (.ld 29 (some 9) (.tmp 28)),
  .op (.st 9 (.tmp 4) (.tmp 29)),
  .op (.mov 5 (.const (.bool true))),
  .kp [4, 5]]
def f44c4 : C := (.seq (.reg f44r3) .ret)
def f44c5 : C := (.seq (.reg f44r4) .ret)
def f44c3 : C := (.seq (.cond (.tmp 23) f44c4 .skip) f44c5)
def f44c2 : C := (.seq (.reg f44r2) f44c3)
def f44c1 : C := (.seq (.reg f44r1) f44c2)
def f44c0 : C := (.seq (.reg f44r0) f44c1)
theorem f44cmp : cmpF Try.prog Try.f44 [.l [.o 0, .o 1, .kp [0, 1, 4]],
  .l [.o 0, .o 1, .o 2, .o 3, .o 4, .o 5, .o 6, .o 7, .kp [0, 4, 6, 7]],
  .l [.o 0, .o 1, .o 2, .sc 16 false 6, .o 3, .o 4, .o 5, .o 6, .o 7, .o 8, .o 9, .kp [23, 0, 4, 6]],
  .l [.o 0, .o 1, .o 2, .kp [4, 5]],
  .l [.o 0, .o 1, .o 2, .o 3, .o 4, .o 5, .o 6, .kp [4, 5]]] = some (f44c0, [.cell 4 9, .tmp 5]) := by kernel_rfl
theorem f44ok {args : List Value} {h : Heap} {R : Value → Heap → Prop} (hn : args.length ≤ 30) (H : wC Try.prog f44c0 (endW [.cell 4 9, .tmp 5] R) (envOf 0 args) h) : CallsH Try.prog 44 args h R :=
  fn_ok2 Try.func44 f44cmp hn H
theorem f44cal : callable Try.prog 44 = true := by kernel_rfl
section
variable {Q : X → Env → Heap → Prop} {σ : Env} {h : Heap}
theorem f44c4_eq : wC Try.prog f44c4 Q σ h = (wL Try.prog none f44r3 0 (fun σ h => Q .ret σ h) σ h) := rfl
theorem f44c5_eq : wC Try.prog f44c5 Q σ h = (wL Try.prog none f44r4 0 (fun σ h => Q .ret σ h) σ h) := rfl
theorem f44c3_eq : wC Try.prog f44c3 Q σ h = (bd (evO σ (.tmp 23)) fun v => bd (asB v) fun t => br t (wC Try.prog f44c4 (X.then (fun σ h => wC Try.prog f44c5 Q σ h) Q) σ h) (wC Try.prog f44c5 Q σ h)) := rfl
theorem f44c2_eq : wC Try.prog f44c2 Q σ h = (wL Try.prog none f44r2 0 (fun σ h => wC Try.prog f44c3 Q σ h) σ h) := rfl
theorem f44c1_eq : wC Try.prog f44c1 Q σ h = (wL Try.prog none f44r1 0 (fun σ h => wC Try.prog f44c2 Q σ h) σ h) := rfl
theorem f44c0_eq : wC Try.prog f44c0 Q σ h = (wL Try.prog none f44r0 0 (fun σ h => wC Try.prog f44c1 Q σ h) σ h) := rfl
end
/-! ### f47: antipode/mvcc.Scan -/
def f47r0 : List I := [.op (.box 5 94 (.tmp 1)),
  .op (.box 6 39 (.tmp 2)),
  .op (.mov 8 (.const (.slice none 0 0))),
  .op (.mov 9 (.const (.int .i64 0))),
  .kp [0, 3, 5, 6]]
def f47r1 : List I := [.op (.mov 10 (.const (.slice none 0 0))),
  .kp [0, 3, 5, 6, 10]]
def f47r2 : List I := [.op (.mov 15 (.tmp 0)),
  .op (.ld 16 (some 2) (.tmp 5)),
  .op (.call (some 17) 92 [(.tmp 15), (.tmp 16)]),
  .op (.len 18 true (.tmp 17)),
  .op (.mov 19 (.const (.int .i64 0))),
  .kp [3, 6, 10, 17, 18, 19]]
def f47r3 : List I := [.op (.bin 20 .lss (.tmp 19) (.tmp 18)),
  .kp [3, 6, 10, 17, 18, 19, 20]]
def f47r4 : List I := [.op (.iad 21 12 (.tmp 17) (.tmp 19)),
  .op (.ld 22 (some 12) (.tmp 21)),
  .op (.new 12 103 [.string ⟨#[]⟩, .slice none 0 0, .bool false, .int .i64 0, .int .i64 0, .int .i64 0, .int .i64 0, .int .i64 0, .int .i64 0, .int .i64 0, .bool false, .string ⟨#[]⟩]),
  .op (.st 12 (.tmp 12) (.tmp 22)),
  .kp [3, 6, 10, 12, 17, 18, 19]]
def f47r5 : List I := [.op (.ld 24 (some 12) (.tmp 12)),
  .op (.ld 25 (some 2) (.tmp 6)),
  .op (.call (some 26) 89 [(.tmp 24), (.tmp 25)]),
  .op (.mov 23 (.tmp 26)),
  .op (.ext 27 (.tmp 23) 0),
  .op (.ext 28 (.tmp 23) 1),
  .op (.mov 13 (.tmp 27)),
  .op (.mov 14 (.tmp 28)),
  .kp [3, 6, 10, 12, 13, 14, 17, 18, 19]]
def f47r6 : List I := [.op (.mov 29 (.tmp 14)),
  .op (.un 30 .not (.tmp 29)),
  .kp [3, 6, 10, 12, 13, 17, 18, 19, 30]]
def f47r7 : List I := [.op (.mov 31 (.tmp 10)),
  .op (.len 32 true (.tmp 31)),
  .op (.mov 33 (.tmp 3)),
  .op (.bin 34 .geq (.tmp 32) (.tmp 33)),
  .kp [3, 6, 10, 12, 13, 17, 18, 19, 34]]
def f47r8 : List I := [.op (.mov 8 (.const (.slice none 0 0))),
  .op (.mov 9 (.const (.int .i64 3))),
  .kp [8, 9]]
def f47r9 : List I := [.op (.mov 35 (.tmp 10)),
  .op (.fad 36 0 (.tmp 12)),
  .op (.ld 37 none (.tmp 36)),
  .op (.mov 38 (.tmp 13)),
  .op (.bld 39 [.string ⟨#[]⟩, .string ⟨#[]⟩] [(0, 1, (.tmp 37)), (1, 1, (.tmp 38))]),
  .op (.bsl 40 99 1 [.string ⟨#[]⟩, .string ⟨#[]⟩] [(0, 2, (.tmp 39))]),
  .op (.raw (some 41) ⟨(some 41), (.call ⟨(.builtin .append), #[(.tmp 35), (.tmp 40)], #[45, 45]⟩), 45, "mvcc.go:91", #[⟨0, .data⟩, ⟨5, .data⟩], none⟩),
  .op (.mov 10 (.tmp 41)),
  .kp [3, 6, 10, 17, 18, 19]]
def f47r10 : List I := [.op (.bin 42 .add (.tmp 19) (.const (.int .i64 1))),
  .op (.mov 19 (.tmp 42)),
  .kp [3, 6, 10, 17, 18, 19]]
def f47r11 : List I := [.op (.mov 43 (.tmp 10)),
  .op (.mov 8 (.tmp 43)),
  .op (.mov 9 (.const (.int .i64 0))),
  .kp [8, 9]]
def f47c13 : C := (.seq (.reg f47r8) .ret)
def f47c14 : C := (.reg f47r9)
def f47c12 : C := (.seq (.cond (.tmp 34) f47c13 .skip) f47c14)
def f47c11 : C := (.seq (.reg f47r7) f47c12)
def f47c10 : C := (.seq (.cond (.tmp 30) (.exit 1) .skip) f47c11)
def f47c9 : C := (.seq (.reg f47r6) f47c10)
def f47c8 : C := (.seq (.reg f47r5) f47c9)
def f47c7 : C := (.seq (.reg f47r4) f47c8)
def f47c15 : C := (.reg f47r10)
def f47c6 : C := (.seq (.block 1 f47c7) f47c15)
def f47c5 : C := (.seq (.cond (.tmp 20) .skip (.exit 0)) f47c6)
def f47c4 : C := (.seq (.reg f47r3) f47c5)
def f47c16 : C := (.seq (.reg f47r11) .ret)
def f47c3 : C := (.seq (.block 0 (.loop f47c4)) f47c16)
def f47c2 : C := (.seq (.reg f47r2) f47c3)
def f47c1 : C := (.seq (.reg f47r1) f47c2)
def f47c0 : C := (.seq (.reg f47r0) f47c1)
theorem f47cmp : cmpF Try.prog Try.f47 [.l [.o 0, .o 1, .o 2, .o 3, .kp [0, 3, 5, 6]],
  .l [.o 0, .kp [0, 3, 5, 6, 10]],
  .l [.o 0, .o 1, .o 2, .o 3, .o 4, .kp [3, 6, 10, 17, 18, 19]],
  .l [.o 0, .kp [3, 6, 10, 17, 18, 19, 20]],
  .l [.o 0, .o 1, .o 2, .o 3, .kp [3, 6, 10, 12, 17, 18, 19]],
  .l [.o 0, .o 1, .o 2, .o 3, .o 4, .o 5, .o 6, .o 7, .kp [3, 6, 10, 12, 13, 14, 17, 18, 19]],
  .l [.o 0, .o 1, .kp [3, 6, 10, 12, 13, 17, 18, 19, 30]],
  .l [.o 0, .o 1, .o 2, .o 3, .kp [3, 6, 10, 12, 13, 17, 18, 19, 34]],
  .l [.o 0, .o 1, .kp [8, 9]],
  .l [.o 0, .o 1, .o 2, .o 3, .o 4, .o 5, .o 6, .o 7, .kp [3, 6, 10, 17, 18, 19]],
  .l [.o 0, .o 1, .kp [3, 6, 10, 17, 18, 19]],
  .l [.o 0, .o 1, .o 2, .kp [8, 9]]] = some (f47c0, [.tmp 8, .tmp 9]) := by kernel_rfl
theorem f47ok {args : List Value} {h : Heap} {R : Value → Heap → Prop} (hn : args.length ≤ 44) (H : wC Try.prog f47c0 (endW [.tmp 8, .tmp 9] R) (envOf 0 args) h) : CallsH Try.prog 47 args h R :=
  fn_ok2 Try.func47 f47cmp hn H
theorem f47cal : callable Try.prog 47 = true := by kernel_rfl
section
variable {Q : X → Env → Heap → Prop} {σ : Env} {h : Heap}
theorem f47c13_eq : wC Try.prog f47c13 Q σ h = (wL Try.prog none f47r8 0 (fun σ h => Q .ret σ h) σ h) := rfl
theorem f47c14_eq : wC Try.prog f47c14 Q σ h = (wL Try.prog none f47r9 0 (fun σ h => Q .normal σ h) σ h) := rfl
theorem f47c12_eq : wC Try.prog f47c12 Q σ h = (bd (evO σ (.tmp 34)) fun v => bd (asB v) fun t => br t (wC Try.prog f47c13 (X.then (fun σ h => wC Try.prog f47c14 Q σ h) Q) σ h) (wC Try.prog f47c14 Q σ h)) := rfl
theorem f47c11_eq : wC Try.prog f47c11 Q σ h = (wL Try.prog none f47r7 0 (fun σ h => wC Try.prog f47c12 Q σ h) σ h) := rfl
theorem f47c10_eq : wC Try.prog f47c10 Q σ h = (bd (evO σ (.tmp 30)) fun v => bd (asB v) fun t => br t (Q (.exit 1) σ h) (wC Try.prog f47c11 Q σ h)) := rfl
theorem f47c9_eq : wC Try.prog f47c9 Q σ h = (wL Try.prog none f47r6 0 (fun σ h => wC Try.prog f47c10 Q σ h) σ h) := rfl
theorem f47c8_eq : wC Try.prog f47c8 Q σ h = (wL Try.prog none f47r5 0 (fun σ h => wC Try.prog f47c9 Q σ h) σ h) := rfl
theorem f47c7_eq : wC Try.prog f47c7 Q σ h = (wL Try.prog none f47r4 0 (fun σ h => wC Try.prog f47c8 Q σ h) σ h) := rfl
theorem f47c15_eq : wC Try.prog f47c15 Q σ h = (wL Try.prog none f47r10 0 (fun σ h => Q .normal σ h) σ h) := rfl
theorem f47c6_eq : wC Try.prog f47c6 Q σ h = (wC Try.prog f47c7 (X.inBlock 1 (X.then (fun σ h => wC Try.prog f47c15 Q σ h) Q)) σ h) := rfl
theorem f47c5_eq : wC Try.prog f47c5 Q σ h = (bd (evO σ (.tmp 20)) fun v => bd (asB v) fun t => br t (wC Try.prog f47c6 Q σ h) (Q (.exit 0) σ h)) := rfl
theorem f47c4_eq : wC Try.prog f47c4 Q σ h = (wL Try.prog none f47r3 0 (fun σ h => wC Try.prog f47c5 Q σ h) σ h) := rfl
theorem f47c16_eq : wC Try.prog f47c16 Q σ h = (wL Try.prog none f47r11 0 (fun σ h => Q .ret σ h) σ h) := rfl
theorem f47c3_eq : wC Try.prog f47c3 Q σ h = (loopW (wC Try.prog f47c4) (X.inBlock 0 (X.then (fun σ h => wC Try.prog f47c16 Q σ h) Q)) σ h) := rfl
theorem f47c2_eq : wC Try.prog f47c2 Q σ h = (wL Try.prog none f47r2 0 (fun σ h => wC Try.prog f47c3 Q σ h) σ h) := rfl
theorem f47c1_eq : wC Try.prog f47c1 Q σ h = (wL Try.prog none f47r1 0 (fun σ h => wC Try.prog f47c2 Q σ h) σ h) := rfl
theorem f47c0_eq : wC Try.prog f47c0 Q σ h = (wL Try.prog none f47r0 0 (fun σ h => wC Try.prog f47c1 Q σ h) σ h) := rfl
end
end Go.Proofs.Ytefghfgmkndikaa
/-
  Walks: whether two lists of cells are the same.
-/
namespace Go.Proofs.Ytefghfgmkndikaa
open Go Go.AX

theorem cell_eq_iff (x y : Cell) : x = y ↔ x.key = y.key ∧ x.locked = y.locked ∧ x.lock = y.lock ∧ x.vers = y.vers := by
  constructor
  · rintro rfl; simp
  · rintro ⟨h1, h2, h3, h4⟩
    cases x; cases y; simp_all
theorem list_eq_iff {α : Type} {l m : List α} (hl : l.length = m.length) (h : ∀ (i : Nat) (a b : α), l[i]? = some a → m[i]? = some b → a = b) : l = m := by
  apply List.ext_getElem hl
  intro i h1 h2
  exact h i _ _ (List.getElem?_eq_getElem h1) (List.getElem?_eq_getElem h2)
theorem eqA_ver (neg : Bool) (s t : Ver) : eqA neg [.i .i64, .i .i64, .b, .s] (.agg (eVer s).toArray) (.agg (eVer t).toArray) = some (.bool (if neg then !decide (s = t) else decide (s = t))) := by
  obtain ⟨⟨a1, a2⟩, b1, c1⟩ := s
  obtain ⟨⟨a1', a2'⟩, b1', c1'⟩ := t
  have : (a1 == a1' && (a2 == a2' && (b1 == b1' && c1.toList == c1'.toList))) = decide ((⟨⟨a1, a2⟩, b1, c1⟩ : Ver) = ⟨⟨a1', a2'⟩, b1', c1'⟩) := by
    rw [keq_iff, Bool.eq_iff_iff]; simp [and_assoc]
  simp only [eqA, eVer, eqKds, eqKd, and_self, if_true, Option.bind_some, Option.map_some, Bool.and_true, this]
theorem eqA_verN (s t : Ver) : eqA true [.i .i64, .i .i64, .b, .s] (.agg (eVer s).toArray) (.agg (eVer t).toArray) = some (.bool (!decide (s = t))) := eqA_ver true s t

theorem eqA_lck2 (s t : Lck) : eqA true [.i .i64, .i .i64, .i .i64, .i .i64, .i .i64, .i .i64, .i .i64, .b, .s] (.agg #[vi s.by_.node, vi s.by_.life, vi s.by_.seq, vi s.by_.attempt, vi s.home, vi s.at_.wall, vi s.at_.tie, .bool s.drop, .string s.data])
    (.agg #[vi t.by_.node, vi t.by_.life, vi t.by_.seq, vi t.by_.attempt, vi t.home, vi t.at_.wall, vi t.at_.tie, .bool t.drop, .string t.data]) = some (.bool (!decide (s = t))) := eqA_lckN s t

theorem same_ok {B B' : Nat → Prop} {a a' : Option Addr} {c c' : Nat} (cs ds : List Cell) (h : Heap) (S : SlC B h a cs) (S' : SlC B' h a' ds) (hn : cs.length ≤ big) (F : ∀ c ∈ cs, c.vers.length ≤ big) {R : Value → Heap → Prop}
    (hR : ∀ b, (b = true ↔ cs = ds) → ∀ h', Ext h h' → R (.bool b) h') : CallsH Try.prog 43 [.slice a cs.length c, .slice a' ds.length c'] h R := by
  have hbig : big = 1000000 := rfl
  refine f43ok (by simp) ?_
  (try simp (config := { maxSteps := 1000000 }) (disch := first | exact Nat.le_of_ble_eq_true rfl | omega) only [AXS, AXB, J.dst, reduceIte, Nat.reduceEqDiff, Nat.reduceAdd, Nat.reduceMul, Nat.reduceLT, Nat.reduceLeDiff]); rw [f43c0_eq]; (try simp (config := { maxSteps := 1000000 }) (disch := first | exact Nat.le_of_ble_eq_true rfl | omega) only [AXS, AXB, J.dst, reduceIte, Nat.reduceEqDiff, Nat.reduceAdd, Nat.reduceMul, Nat.reduceLT, Nat.reduceLeDiff, f43r0, f43r1, f43r2, f43r3, f43r4, f43r5, f43r6, f43r7, f43r8, f43r9, f43r10, f43r11, f43r12, f43r13, f43r14]); rw [f43c1_eq]; (try simp (config := { maxSteps := 1000000 }) (disch := first | exact Nat.le_of_ble_eq_true rfl | omega) only [AXS, AXB, J.dst, reduceIte, Nat.reduceEqDiff, Nat.reduceAdd, Nat.reduceMul, Nat.reduceLT, Nat.reduceLeDiff, f43r0, f43r1, f43r2, f43r3, f43r4, f43r5, f43r6, f43r7, f43r8, f43r9, f43r10, f43r11, f43r12, f43r13, f43r14]); rw [f43c2_eq]; (try simp (config := { maxSteps := 1000000 }) (disch := first | exact Nat.le_of_ble_eq_true rfl | omega) only [AXS, AXB, J.dst, reduceIte, Nat.reduceEqDiff, Nat.reduceAdd, Nat.reduceMul, Nat.reduceLT, Nat.reduceLeDiff, f43r0, f43r1, f43r2, f43r3, f43r4, f43r5, f43r6, f43r7, f43r8, f43r9, f43r10, f43r11, f43r12, f43r13, f43r14])
  refine ⟨fun hh => ?_, fun hh => ?_⟩
  · (try simp (config := { maxSteps := 1000000 }) (disch := first | exact Nat.le_of_ble_eq_true rfl | omega) only [AXS, AXB, J.dst, reduceIte, Nat.reduceEqDiff, Nat.reduceAdd, Nat.reduceMul, Nat.reduceLT, Nat.reduceLeDiff]); rw [f43c3_eq]; (try simp (config := { maxSteps := 1000000 }) (disch := first | exact Nat.le_of_ble_eq_true rfl | omega) only [AXS, AXB, J.dst, reduceIte, Nat.reduceEqDiff, Nat.reduceAdd, Nat.reduceMul, Nat.reduceLT, Nat.reduceLeDiff, f43r0, f43r1, f43r2, f43r3, f43r4, f43r5, f43r6, f43r7, f43r8, f43r9, f43r10, f43r11, f43r12, f43r13, f43r14])
    refine hR false ⟨fun h => (by cases h), fun h => ?_⟩ _ (Ext.refl _)
    subst h; simp at hh
  have hlen : cs.length = ds.length := Int.ofNat.inj (by simpa using hh)
  (try simp (config := { maxSteps := 1000000 }) (disch := first | exact Nat.le_of_ble_eq_true rfl | omega) only [AXS, AXB, J.dst, reduceIte, Nat.reduceEqDiff, Nat.reduceAdd, Nat.reduceMul, Nat.reduceLT, Nat.reduceLeDiff]); rw [f43c4_eq]; (try simp (config := { maxSteps := 1000000 }) (disch := first | exact Nat.le_of_ble_eq_true rfl | omega) only [AXS, AXB, J.dst, reduceIte, Nat.reduceEqDiff, Nat.reduceAdd, Nat.reduceMul, Nat.reduceLT, Nat.reduceLeDiff, f43r0, f43r1, f43r2, f43r3, f43r4, f43r5, f43r6, f43r7, f43r8, f43r9, f43r10, f43r11, f43r12, f43r13, f43r14])
  rw [f43c5_eq]
  refine loop_in (fun n σ h' => Ext h h' ∧ ∃ k : Nat, k + n = cs.length ∧ σ = [(0, .slice a cs.length c), (1, .slice a' ds.length c'), (5, vi k)] ∧ ∀ j x y, j < k → cs[j]? = some x → ds[j]? = some y → x = y) cs.length ⟨Ext.refl _, 0, by omega, rfl, by intros; omega⟩ ?_
  rintro n σ h1 ⟨e1, k, hk, rfl, hok⟩ Q' hnx hex hrt _
  (try simp (config := { maxSteps := 1000000 }) (disch := first | exact Nat.le_of_ble_eq_true rfl | omega) only [AXS, AXB, J.dst, reduceIte, Nat.reduceEqDiff, Nat.reduceAdd, Nat.reduceMul, Nat.reduceLT, Nat.reduceLeDiff]); rw [f43c6_eq]; (try simp (config := { maxSteps := 1000000 }) (disch := first | exact Nat.le_of_ble_eq_true rfl | omega) only [AXS, AXB, J.dst, reduceIte, Nat.reduceEqDiff, Nat.reduceAdd, Nat.reduceMul, Nat.reduceLT, Nat.reduceLeDiff, f43r0, f43r1, f43r2, f43r3, f43r4, f43r5, f43r6, f43r7, f43r8, f43r9, f43r10, f43r11, f43r12, f43r13, f43r14]); rw [f43c7_eq]; (try simp (config := { maxSteps := 1000000 }) (disch := first | exact Nat.le_of_ble_eq_true rfl | omega) only [AXS, AXB, J.dst, reduceIte, Nat.reduceEqDiff, Nat.reduceAdd, Nat.reduceMul, Nat.reduceLT, Nat.reduceLeDiff, f43r0, f43r1, f43r2, f43r3, f43r4, f43r5, f43r6, f43r7, f43r8, f43r9, f43r10, f43r11, f43r12, f43r13, f43r14])
  refine ⟨fun h2 => ?_, fun h2 => ?_⟩
  · have hkl : k < cs.length := by have := of_decide_eq_true h2; omega
    obtain ⟨x, hx⟩ := get_ex hkl
    obtain ⟨y, hy⟩ := get_ex (l := ds) (k := k) (by omega)
    obtain ⟨b, o, v, rfl, _, hrow, hcr⟩ := (S.ext e1).elem hx
    obtain ⟨b', o', v', rfl, _, hrow', hcr'⟩ := (S'.ext e1).elem hy
    have hlb := hrow.lt (by rw [eCV_len]; omega)
    have hlb' := hrow'.lt (by rw [eCV_len]; omega)
    have hno : x ≠ y → ∀ h8, Ext h1 h8 → Q' .ret [(4, .bool false)] h8 := fun hne h8 e8 => hrt _ _ (by
      try simp (config := { maxSteps := 1000000 }) (disch := first | exact Nat.le_of_ble_eq_true rfl | omega) only [AXS, AXB, J.dst, reduceIte, Nat.reduceEqDiff, Nat.reduceAdd, Nat.reduceMul, Nat.reduceLT, Nat.reduceLeDiff]
      refine hR false ⟨fun h => (by cases h), fun h => ?_⟩ _ (e1.trans e8)
      subst h
      rw [hx] at hy; cases hy
      exact absurd rfl hne)
    -- behind the two new variables
    have mid : ∀ (h5 : Heap) (b6 b7 : Nat), Ext h1 h5 → Blk h5 b6 103 (eCV v) → Blk h5 b7 103 (eCV v') →
        wC Try.prog f43c10 (X.inBlock 1 (X.then (fun σ h => wC Try.prog f43c22 Q' σ h) Q')) [(0, .slice (some ⟨b, o, none⟩) cs.length c), (1, .slice (some ⟨b', o', none⟩) ds.length c'), (5, vi k), (6, ptr b6 0), (7, ptr b7 0)] h5 := by
      intro h5 b6 b7 e5 B6 B7
      have h1k := hcr.key
      have h2k := hcr'.key
      have h1l := hcr.locked
      have h2l := hcr'.locked
      have h1o := hcr.lock
      have h2o := hcr'.lock
      have h1v := hcr.vn
      have h2v := hcr'.vn
      rw [f43c10_eq]
      simp (config := { maxSteps := 1000000 }) (disch := first | exact Nat.le_of_ble_eq_true rfl | omega) only [AXJ, AXS, AXB, J.dst, reduceIte, Nat.reduceEqDiff, Nat.reduceAdd, Nat.reduceMul, Nat.reduceLT, Nat.reduceLeDiff, f43r6, B6.cel, B7.cel, eCV, h1k, h2k, h1l, h2l, keq_iff]
      simp (config := { maxSteps := 1000000 }) (disch := first | exact Nat.le_of_ble_eq_true rfl | omega) only [AXJ, AXS, AXB, J.dst, reduceIte, Nat.reduceEqDiff, Nat.reduceAdd, Nat.reduceMul, Nat.reduceLT, Nat.reduceLeDiff, f43r6a, B6.rd, B7.rd, eCV, h1o, h2o, eqA_lck2]
      simp (config := { maxSteps := 1000000 }) (disch := first | exact Nat.le_of_ble_eq_true rfl | omega) only [AXJ, AXS, AXB, J.dst, reduceIte, Nat.reduceEqDiff, Nat.reduceAdd, Nat.reduceMul, Nat.reduceLT, Nat.reduceLeDiff, f43r6b, B6.cel, B7.cel, eCV, h1v, h2v]
      have ht : ((!decide (x.key = y.key) || !x.locked == y.locked || !decide (x.lock = y.lock) || (x.vers.length : Int) != y.vers.length) = false) ↔ (x.key = y.key ∧ x.locked = y.locked ∧ x.lock = y.lock ∧ x.vers.length = y.vers.length) := by
        simp [and_assoc]
        omega
      revert ht
      generalize (!decide (x.key = y.key) || !x.locked == y.locked || !decide (x.lock = y.lock) || (x.vers.length : Int) != y.vers.length) = t
      intro ht
      cases t with
      | true =>
        (try simp (config := { maxSteps := 1000000 }) (disch := first | exact Nat.le_of_ble_eq_true rfl | omega) only [AXS, AXB, J.dst, reduceIte, Nat.reduceEqDiff, Nat.reduceAdd, Nat.reduceMul, Nat.reduceLT, Nat.reduceLeDiff]); rw [f43c11_eq]; (try simp (config := { maxSteps := 1000000 }) (disch := first | exact Nat.le_of_ble_eq_true rfl | omega) only [AXS, AXB, J.dst, reduceIte, Nat.reduceEqDiff, Nat.reduceAdd, Nat.reduceMul, Nat.reduceLT, Nat.reduceLeDiff, f43r0, f43r1, f43r2, f43r3, f43r4, f43r5, f43r6, f43r7, f43r8, f43r9, f43r10, f43r11, f43r12, f43r13, f43r14]); rw [f43c12_eq]; (try simp (config := { maxSteps := 1000000 }) (disch := first | exact Nat.le_of_ble_eq_true rfl | omega) only [AXS, AXB, J.dst, reduceIte, Nat.reduceEqDiff, Nat.reduceAdd, Nat.reduceMul, Nat.reduceLT, Nat.reduceLeDiff, f43r0, f43r1, f43r2, f43r3, f43r4, f43r5, f43r6, f43r7, f43r8, f43r9, f43r10, f43r11, f43r12, f43r13, f43r14])
        refine hno ?_ _ e5
        rintro rfl
        have := ht.2 ⟨rfl, rfl, rfl, rfl⟩
        cases this
      | false =>
        obtain ⟨q1, q2, q3, q4⟩ := ht.1 rfl
        have SV := hcr.vers.ext e5
        have SV' := hcr'.vers.ext e5
        have hvl := F x (List.mem_of_getElem? hx)
        (try simp (config := { maxSteps := 1000000 }) (disch := first | exact Nat.le_of_ble_eq_true rfl | omega) only [AXS, AXB, J.dst, reduceIte, Nat.reduceEqDiff, Nat.reduceAdd, Nat.reduceMul, Nat.reduceLT, Nat.reduceLeDiff]); rw [f43c11_eq]; (try simp (config := { maxSteps := 1000000 }) (disch := first | exact Nat.le_of_ble_eq_true rfl | omega) only [AXS, AXB, J.dst, reduceIte, Nat.reduceEqDiff, Nat.reduceAdd, Nat.reduceMul, Nat.reduceLT, Nat.reduceLeDiff, f43r0, f43r1, f43r2, f43r3, f43r4, f43r5, f43r6, f43r7, f43r8, f43r9, f43r10, f43r11, f43r12, f43r13, f43r14]); rw [f43c13_eq]; (try simp (config := { maxSteps := 1000000 }) (disch := first | exact Nat.le_of_ble_eq_true rfl | omega) only [AXS, AXB, J.dst, reduceIte, Nat.reduceEqDiff, Nat.reduceAdd, Nat.reduceMul, Nat.reduceLT, Nat.reduceLeDiff, f43r0, f43r1, f43r2, f43r3, f43r4, f43r5, f43r6, f43r7, f43r8, f43r9, f43r10, f43r11, f43r12, f43r13, f43r14])
        rw [f43c14_eq]
        refine loop_in1 (fun n' σ h' => Ext h5 h' ∧ ∃ i : Nat, i + n' = x.vers.length ∧ σ = [(0, .slice (some ⟨b, o, none⟩) cs.length c), (1, .slice (some ⟨b', o', none⟩) ds.length c'), (5, vi k), (6, ptr b6 0), (7, ptr b7 0), (8, vi i)] ∧
          ∀ j w w', j < i → x.vers[j]? = some w → y.vers[j]? = some w' → w = w') x.vers.length ⟨Ext.refl _, 0, by omega, rfl, by intros; omega⟩ ?_
        rintro n2 σ h6 ⟨e6, i, hi, rfl, hokv⟩ Q2 hnx2 hex2 hrt2 _
        replace B6 := B6.ext e6
        replace B7 := B7.ext e6
        (try simp (config := { maxSteps := 1000000 }) (disch := first | exact Nat.le_of_ble_eq_true rfl | omega) only [AXS, AXB, J.dst, reduceIte, Nat.reduceEqDiff, Nat.reduceAdd, Nat.reduceMul, Nat.reduceLT, Nat.reduceLeDiff]); rw [f43c15_eq]; (try simp (config := { maxSteps := 1000000 }) (disch := first | exact Nat.le_of_ble_eq_true rfl | omega) only [AXS, AXB, J.dst, reduceIte, Nat.reduceEqDiff, Nat.reduceAdd, Nat.reduceMul, Nat.reduceLT, Nat.reduceLeDiff, f43r0, f43r1, f43r2, f43r3, f43r4, f43r5, f43r6, f43r7, f43r8, f43r9, f43r10, f43r11, f43r12, f43r13, f43r14, B6.cel, eCV, h1v])
        (try simp (config := { maxSteps := 1000000 }) (disch := first | exact Nat.le_of_ble_eq_true rfl | omega) only [AXS, AXB, J.dst, reduceIte, Nat.reduceEqDiff, Nat.reduceAdd, Nat.reduceMul, Nat.reduceLT, Nat.reduceLeDiff]); rw [f43c16_eq]; (try simp (config := { maxSteps := 1000000 }) (disch := first | exact Nat.le_of_ble_eq_true rfl | omega) only [AXS, AXB, J.dst, reduceIte, Nat.reduceEqDiff, Nat.reduceAdd, Nat.reduceMul, Nat.reduceLT, Nat.reduceLeDiff, f43r0, f43r1, f43r2, f43r3, f43r4, f43r5, f43r6, f43r7, f43r8, f43r9, f43r10, f43r11, f43r12, f43r13, f43r14])
        refine ⟨fun h7 => ?_, fun h7 => ?_⟩
        · have hil : i < x.vers.length := by have := of_decide_eq_true h7; omega
          obtain ⟨w, hw⟩ := get_ex hil
          obtain ⟨w', hw'⟩ := get_ex (l := y.vers) (k := i) (by omega)
          obtain ⟨vb, vo, hva, _, hrowv⟩ := (SV.ext e6).elem eVer_len hw
          obtain ⟨vb', vo', hva', _, hrowv'⟩ := (SV'.ext e6).elem eVer_len hw'
          have l1 := hrowv.lt (by rw [eVer_len]; omega)
          have l2 := hrowv'.lt (by rw [eVer_len]; omega)
          have l3 := B6.lt
          have l4 := B7.lt
          (try simp (config := { maxSteps := 1000000 }) (disch := first | exact Nat.le_of_ble_eq_true rfl | omega) only [AXS, AXB, J.dst, reduceIte, Nat.reduceEqDiff, Nat.reduceAdd, Nat.reduceMul, Nat.reduceLT, Nat.reduceLeDiff]); rw [f43c17_eq]; (try simp (config := { maxSteps := 1000000 }) (disch := first | exact Nat.le_of_ble_eq_true rfl | omega) only [AXS, AXB, J.dst, reduceIte, Nat.reduceEqDiff, Nat.reduceAdd, Nat.reduceMul, Nat.reduceLT, Nat.reduceLeDiff, f43r0, f43r1, f43r2, f43r3, f43r4, f43r5, f43r6, f43r7, f43r8, f43r9, f43r10, f43r11, f43r12, f43r13, f43r14])
          rw [f43c18_eq]
          refine drw_lt ?_
          simp (config := { maxSteps := 1000000 }) (disch := first | exact Nat.le_of_ble_eq_true rfl | omega) only [AXS, AXB, J.dst, reduceIte, Nat.reduceEqDiff, Nat.reduceAdd, Nat.reduceMul, Nat.reduceLT, Nat.reduceLeDiff, f43r10, B6.cel, B7.cel, eCV, h1v, h2v, hva, hva', row_ver hrowv, row_ver hrowv', eqA_verN]
          refine ⟨by omega, by omega, by omega, by omega, by omega, by omega, by omega, by omega, ?_⟩
          (try simp (config := { maxSteps := 1000000 }) (disch := first | exact Nat.le_of_ble_eq_true rfl | omega) only [AXS, AXB, J.dst, reduceIte, Nat.reduceEqDiff, Nat.reduceAdd, Nat.reduceMul, Nat.reduceLT, Nat.reduceLeDiff]); rw [f43c19_eq]; (try simp (config := { maxSteps := 1000000 }) (disch := first | exact Nat.le_of_ble_eq_true rfl | omega) only [AXS, AXB, J.dst, reduceIte, Nat.reduceEqDiff, Nat.reduceAdd, Nat.reduceMul, Nat.reduceLT, Nat.reduceLeDiff, f43r0, f43r1, f43r2, f43r3, f43r4, f43r5, f43r6, f43r7, f43r8, f43r9, f43r10, f43r11, f43r12, f43r13, f43r14])
          refine ⟨fun h8 => ?_, fun h8 => ?_⟩
          · have hne : ¬ w = w' := by simpa using h8
            (try simp (config := { maxSteps := 1000000 }) (disch := first | exact Nat.le_of_ble_eq_true rfl | omega) only [AXS, AXB, J.dst, reduceIte, Nat.reduceEqDiff, Nat.reduceAdd, Nat.reduceMul, Nat.reduceLT, Nat.reduceLeDiff]); rw [f43c20_eq]; (try simp (config := { maxSteps := 1000000 }) (disch := first | exact Nat.le_of_ble_eq_true rfl | omega) only [AXS, AXB, J.dst, reduceIte, Nat.reduceEqDiff, Nat.reduceAdd, Nat.reduceMul, Nat.reduceLT, Nat.reduceLeDiff, f43r0, f43r1, f43r2, f43r3, f43r4, f43r5, f43r6, f43r7, f43r8, f43r9, f43r10, f43r11, f43r12, f43r13, f43r14])
            refine hrt2 _ _ ?_
            simp (config := { maxSteps := 1000000 }) (disch := first | exact Nat.le_of_ble_eq_true rfl | omega) only [AXS, AXB, J.dst, reduceIte, Nat.reduceEqDiff, Nat.reduceAdd, Nat.reduceMul, Nat.reduceLT, Nat.reduceLeDiff]
            refine hno ?_ _ (e5.trans e6)
            rintro rfl
            rw [hw] at hw'; cases hw'
            exact hne rfl
          · have he : w = w' := by simpa using h8
            (try simp (config := { maxSteps := 1000000 }) (disch := first | exact Nat.le_of_ble_eq_true rfl | omega) only [AXS, AXB, J.dst, reduceIte, Nat.reduceEqDiff, Nat.reduceAdd, Nat.reduceMul, Nat.reduceLT, Nat.reduceLeDiff]); rw [f43c21_eq]; (try simp (config := { maxSteps := 1000000 }) (disch := first | exact Nat.le_of_ble_eq_true rfl | omega) only [AXS, AXB, J.dst, reduceIte, Nat.reduceEqDiff, Nat.reduceAdd, Nat.reduceMul, Nat.reduceLT, Nat.reduceLeDiff, f43r0, f43r1, f43r2, f43r3, f43r4, f43r5, f43r6, f43r7, f43r8, f43r9, f43r10, f43r11, f43r12, f43r13, f43r14])
            rw [i64_wrap (by omega) (by omega)]
            refine hnx2 (n2 - 1) _ _ (by omega) ⟨e6, i + 1, by omega, rfl, ?_⟩
            intro j u u' hj hu hu'
            rcases Nat.lt_or_ge j i with hlt | hge
            · exact hokv j u u' hlt hu hu'
            · have : j = i := by omega
              subst this
              rw [hw] at hu; cases hu
              rw [hw'] at hu'; cases hu'
              exact he
        · have hil : i = x.vers.length := by have := of_decide_eq_false h7; omega
          refine hex2 _ _ ?_
          (try simp (config := { maxSteps := 1000000 }) (disch := first | exact Nat.le_of_ble_eq_true rfl | omega) only [AXS, AXB, J.dst, reduceIte, Nat.reduceEqDiff, Nat.reduceAdd, Nat.reduceMul, Nat.reduceLT, Nat.reduceLeDiff]); rw [f43c22_eq]; (try simp (config := { maxSteps := 1000000 }) (disch := first | exact Nat.le_of_ble_eq_true rfl | omega) only [AXS, AXB, J.dst, reduceIte, Nat.reduceEqDiff, Nat.reduceAdd, Nat.reduceMul, Nat.reduceLT, Nat.reduceLeDiff, f43r0, f43r1, f43r2, f43r3, f43r4, f43r5, f43r6, f43r7, f43r8, f43r9, f43r10, f43r11, f43r12, f43r13, f43r14])
          rw [i64_wrap (by omega) (by omega)]
          refine hnx (n - 1) _ _ (by omega) ⟨e1.trans (e5.trans e6), k + 1, by omega, rfl, ?_⟩
          intro j u u' hj hu hu'
          rcases Nat.lt_or_ge j k with hlt | hge
          · exact hok j u u' hlt hu hu'
          · have : j = k := by omega
            subst this
            rw [hx] at hu; cases hu
            rw [hy] at hu'; cases hu'
            exact (cell_eq_iff _ _).2 ⟨q1, q2, q3, list_eq_iff q4 fun m w w' hw hw' => hokv m w w' (by have := (List.getElem?_eq_some_iff.1 hw).1; omega) hw hw'⟩
    (try simp (config := { maxSteps := 1000000 }) (disch := first | exact Nat.le_of_ble_eq_true rfl | omega) only [AXS, AXB, J.dst, reduceIte, Nat.reduceEqDiff, Nat.reduceAdd, Nat.reduceMul, Nat.reduceLT, Nat.reduceLeDiff]); rw [f43c8_eq]; (try simp (config := { maxSteps := 1000000 }) (disch := first | exact Nat.le_of_ble_eq_true rfl | omega) only [AXS, AXB, J.dst, reduceIte, Nat.reduceEqDiff, Nat.reduceAdd, Nat.reduceMul, Nat.reduceLT, Nat.reduceLeDiff, f43r0, f43r1, f43r2, f43r3, f43r4, f43r5, f43r6, f43r7, f43r8, f43r9, f43r10, f43r11, f43r12, f43r13, f43r14])
    rw [f43c9_eq]
    refine drt_lt ?_
    have hS := e1.size
    simp only [f43r5, wT_one, wT_alt, wT_nil]
    simp (config := { maxSteps := 1000000 }) (disch := first | exact Nat.le_of_ble_eq_true rfl | omega) only [AXS, AXB, J.dst, reduceIte, Nat.reduceEqDiff, Nat.reduceAdd, Nat.reduceMul, Nat.reduceLT, Nat.reduceLeDiff, row_cv hrow, row_cv hrow']
    refine ⟨by omega, by omega, by omega, by omega, by omega, by omega, ?_⟩
    refine ⟨?_, ?_⟩
    · refine wL_newD (Nat.le_refl _) ?_; rintro b6 h6 e6 s6 hb6 B6
      refine wL_newD (by omega) ?_; rintro b7 h7 e7 s7 hb7 B7
      replace B6 := B6.ext e7
      try simp (config := { maxSteps := 1000000 }) (disch := first | exact Nat.le_of_ble_eq_true rfl | omega) only [AXS, AXB, J.dst, reduceIte, Nat.reduceEqDiff, Nat.reduceAdd, Nat.reduceMul, Nat.reduceLT, Nat.reduceLeDiff]
      refine wL_stD rfl rfl (by show ¬ b6 < _; omega) rfl B6 (by decide) (eCV_one v) ?_; rintro h8 u8 (B8 : Blk _ _ _ (eCV v))
      replace B7 := u8.blk B7 (by omega)
      refine wL_stD rfl rfl (by show ¬ b7 < _; omega) rfl B7 (by decide) (eCV_one v') ?_; rintro h9 u9 (B9 : Blk _ _ _ (eCV v'))
      replace B8 := u9.blk B8 (by omega)
      try simp (config := { maxSteps := 1000000 }) (disch := first | exact Nat.le_of_ble_eq_true rfl | omega) only [AXS, AXB, J.dst, reduceIte, Nat.reduceEqDiff, Nat.reduceAdd, Nat.reduceMul, Nat.reduceLT, Nat.reduceLeDiff]
      exact mid _ _ _ (u9.ext (u8.ext (e6.trans e7) (by omega)) (by omega)) B8 B9
    · refine wL_newD (Nat.le_refl _) ?_; rintro b7 h6 e6 s6 hb6 B7
      refine wL_newD (by omega) ?_; rintro b6 h7 e7 s7 hb7 B6
      replace B7 := B7.ext e7
      try simp (config := { maxSteps := 1000000 }) (disch := first | exact Nat.le_of_ble_eq_true rfl | omega) only [AXS, AXB, J.dst, reduceIte, Nat.reduceEqDiff, Nat.reduceAdd, Nat.reduceMul, Nat.reduceLT, Nat.reduceLeDiff]
      refine wL_stD rfl rfl (by show ¬ b6 < _; omega) rfl B6 (by decide) (eCV_one v) ?_; rintro h8 u8 (B8 : Blk _ _ _ (eCV v))
      replace B7 := u8.blk B7 (by omega)
      refine wL_stD rfl rfl (by show ¬ b7 < _; omega) rfl B7 (by decide) (eCV_one v') ?_; rintro h9 u9 (B9 : Blk _ _ _ (eCV v'))
      replace B8 := u9.blk B8 (by omega)
      try simp (config := { maxSteps := 1000000 }) (disch := first | exact Nat.le_of_ble_eq_true rfl | omega) only [AXS, AXB, J.dst, reduceIte, Nat.reduceEqDiff, Nat.reduceAdd, Nat.reduceMul, Nat.reduceLT, Nat.reduceLeDiff]
      exact mid _ _ _ (u9.ext (u8.ext (e6.trans e7) (by omega)) (by omega)) B8 B9
  · have hkl : k = cs.length := by have := of_decide_eq_false h2; omega
    refine hex _ _ ?_
    (try simp (config := { maxSteps := 1000000 }) (disch := first | exact Nat.le_of_ble_eq_true rfl | omega) only [AXS, AXB, J.dst, reduceIte, Nat.reduceEqDiff, Nat.reduceAdd, Nat.reduceMul, Nat.reduceLT, Nat.reduceLeDiff]); rw [f43c23_eq]; (try simp (config := { maxSteps := 1000000 }) (disch := first | exact Nat.le_of_ble_eq_true rfl | omega) only [AXS, AXB, J.dst, reduceIte, Nat.reduceEqDiff, Nat.reduceAdd, Nat.reduceMul, Nat.reduceLT, Nat.reduceLeDiff, f43r0, f43r1, f43r2, f43r3, f43r4, f43r5, f43r6, f43r7, f43r8, f43r9, f43r10, f43r11, f43r12, f43r13, f43r14])
    refine hR true ⟨fun _ => list_eq_iff hlen fun i x y hx hy => hok i x y (by have := (List.getElem?_eq_some_iff.1 hx).1; omega) hx hy, fun _ => rfl⟩ _ e1
end Go.Proofs.Ytefghfgmkndikaa
/-
  The contracts of mvcc's operations for cells that may be and are not too great.
-/
namespace Go.Proofs.Ytefghfgmkndikaa
open Go Go.AX

/-- Few enough for all. -/
structure Gd (n : Nat) (cs : List Cell) : Prop where
  good : Good cs
  sz : Sz n cs
theorem szAll {cs : List Cell} {n : Nat} (h : Sz n cs) (hn : n ≤ 900000) : cs.length < big ∧ (∀ c ∈ cs, c.vers.length < big) ∧ cs.length ≤ maxLen ∧ Fit cs ∧ cs.length ≤ big ∧ (∀ c ∈ cs, c.vers.length ≤ big) := by
  have hbig : big = 1000000 := rfl
  have h1 := h.1
  refine ⟨by omega, fun c hc => ?_, by unfold maxLen; omega, fun c hc => ?_, by omega, fun c hc => ?_⟩
  · have := h.2 c hc; omega
  · have := h.2 c hc; unfold maxLen; omega
  · have := h.2 c hc; omega

section
variable {B B' : Nat → Prop} {a a' : Option Addr} {c c' n n' : Nat} {cs ds : List Cell} {h : Heap} {R : Value → Heap → Prop}
theorem lockG (g : Gd n cs) (hn : n ≤ 900000) (S : SlC B h a cs) (w : Wri) (l : Lck) (hR : ∀ a' c' h', Gd (n + 1) (lockL cs w l) → OwnC h.size h' a' (lockL cs w l).length c' (lockL cs w l) → Ext h h' → R (.slice a' (lockL cs w l).length c') h') :
    CallsH Try.prog 40 [.slice a cs.length c, .agg (eWri w).toArray, .agg (eLck l).toArray] h R := by
  obtain ⟨z1, z2, z3, z4, z5, z6⟩ := szAll g.sz hn
  refine lock_ok cs w l h S g.good.sorted z1 z6 ?_
  intro a' n' c' h' O e
  obtain rfl := OwnC.len O
  exact hR _ _ _ ⟨lock_good w l g.good, lock_sz w l g.sz⟩ O e
theorem settleG (g : Gd n cs) (hn : n ≤ 900000) (S : SlC B h a cs) (by_ : Try4) (yes : Bool) (hR : ∀ a' c' h', Gd (n + 1) (settleL cs by_ yes) → OwnC h.size h' a' (settleL cs by_ yes).length c' (settleL cs by_ yes) → Ext h h' → R (.slice a' (settleL cs by_ yes).length c') h') :
    CallsH Try.prog 39 [.slice a cs.length c, .agg (eTry by_).toArray, .bool yes] h R := by
  obtain ⟨z1, z2, z3, z4, z5, z6⟩ := szAll g.sz hn
  refine settle_ok cs by_ yes h S z5 z2 ?_
  intro a' n' c' h' O e
  obtain rfl := OwnC.len O
  exact hR _ _ _ ⟨settle_good by_ yes g.good, settle_sz by_ yes g.good g.sz⟩ O e
theorem trimG (g : Gd n cs) (hn : n ≤ 900000) (S : SlC B h a cs) (t : Stamp) (hR : ∀ a' c' h', Gd n (trimL cs t) → OwnC h.size h' a' (trimL cs t).length c' (trimL cs t) → Ext h h' → R (.slice a' (trimL cs t).length c') h') :
    CallsH Try.prog 46 [.slice a cs.length c, .agg (eStamp t).toArray] h R := by
  obtain ⟨z1, z2, z3, z4, z5, z6⟩ := szAll g.sz hn
  refine trim_ok cs t h S z5 z2 ?_
  intro a' n' c' h' O e
  obtain rfl := OwnC.len O
  exact hR _ _ _ ⟨trim_good t g.good, trim_sz t g.sz⟩ O e
theorem doG (g : Gd n cs) (hn : n ≤ 900000) (S : SlC B h a cs) (o : Op8) (hR : ∀ a' c' ay ny cy h', Gd (n + 1) (doL cs o) → OwnC h.size h' a' (doL cs o).length c' (doL cs o) → OwnC h.size h' ay ny cy (rdoL cs o) → Ext h h' →
    R (.tuple #[.slice a' (doL cs o).length c', .slice ay ny cy]) h') : CallsH Try.prog 37 [.slice a cs.length c, .agg (eOp8 o).toArray] h R := by
  obtain ⟨z1, z2, z3, z4, z5, z6⟩ := szAll g.sz hn
  refine do_ok cs o h S g.good.sorted z1 z2 ?_
  intro a' n' c' ay ny cy h' O Oy e
  obtain rfl := OwnC.len O
  exact hR _ _ _ _ _ _ ⟨do_good o g.good, do_sz o g.good g.sz⟩ O Oy e
theorem getG (g : Gd n cs) (hn : n ≤ 900000) (S : SlC B h a cs) (key : ByteArray) (t : Stamp) (hR : ∀ h', Ext h h' → R (.tuple #[.string (getK cs key t).1, .bool (getK cs key t).2]) h') : CallsH Try.prog 41 [.slice a cs.length c, .string key, .agg (eStamp t).toArray] h R := by
  obtain ⟨z1, z2, z3, z4, z5, z6⟩ := szAll g.sz hn
  exact get_ok cs key t h S g.good.sorted z3 z4 hR
theorem mineG (g : Gd n cs) (hn : n ≤ 900000) (S : SlC B h a cs) (by_ : Try4) (hR : ∀ h', Ext h h' → R (.bool (mineL cs by_)) h') : CallsH Try.prog 38 [.slice a cs.length c, .agg (eTry by_).toArray] h R := by
  obtain ⟨z1, z2, z3, z4, z5, z6⟩ := szAll g.sz hn
  exact mine_ok cs by_ h S z3 hR
theorem mayG (g : Gd n cs) (hn : n ≤ 900000) (S : SlC B h a cs) (hR : ∀ h', Ext h h' → R (.bool true) h') : CallsH Try.prog 45 [.slice a cs.length c] h R := by
  obtain ⟨z1, z2, z3, z4, z5, z6⟩ := szAll g.sz hn
  refine may_ok cs h S z5 z6 ?_
  intro b hb h' e
  rw [hb.2 ((mayP_iff cs).2 g.good)]
  exact hR h' e
theorem sameG (g : Gd n cs) (hn : n ≤ 900000) (S : SlC B h a cs) (S' : SlC B' h a' ds) (he : cs = ds) (hR : ∀ h', Ext h h' → R (.bool true) h') : CallsH Try.prog 43 [.slice a cs.length c, .slice a' ds.length c'] h R := by
  obtain ⟨z1, z2, z3, z4, z5, z6⟩ := szAll g.sz hn
  refine same_ok cs ds h S S' z5 z6 ?_
  intro b hb h' e
  rw [hb.2 he]
  exact hR h' e
end
theorem gdRun (ops : List Op8) : Gd ops.length (runL ops) := ⟨(runL_good ops).1, (runL_good ops).2⟩
theorem Gd.mono {n m : Nat} {cs : List Cell} (g : Gd n cs) (h : n ≤ m) : Gd m cs := ⟨g.good, g.sz.mono h⟩
theorem lightL_len {ops : List Op8} {m : Int} (h : lightL ops m = true) : (ops.length : Int) ≤ m := by
  unfold lightL at h
  simp only [Bool.and_eq_true, Bool.not_eq_true', decide_eq_false_iff_not] at h
  omega
end Go.Proofs.Ytefghfgmkndikaa
/-
  Walks: a key's lock, the cells of a span, a scan.
-/
namespace Go.AX
open Go
theorem slc_lh' {sz n c l u : Nat} {a : Option Addr} {K : Value → Prop} (h1 : l ≤ u) (h2 : u ≤ c) (H : ∀ a', (l < c → a' = a.map (·.add (l * sz))) → K (.slice a' (u - l) (c - l))) : slcV sz (.slice a n c) (some (vi l)) (some (vi u)) none K := by
  simp only [slcV, asI_int, bd_some, Int.toNat_natCast]
  refine ⟨by omega, by omega, by omega, by omega, H _ ?_⟩
  intro hl
  rw [if_neg (by omega)]
/-- A part of a slice. -/
theorem SlF.sub {α : Type} {e : α → List Value} {s : Nat} (he : ∀ x, (e x).length = s) {B : Nat → Prop} {h : Heap} {a a' : Option Addr} {ds : List α} (S : SlF B h e a ds) {l m c : Nat} (hc : ds.length ≤ c) (ha : l < c → a' = a.map (·.add (l * s))) : SlF B h e a' ((ds.drop l).take m) := by
  intro hne
  have hlt : l < ds.length := by
    rcases Nat.lt_or_ge l ds.length with h | h
    · exact h
    · rw [List.drop_of_length_le h] at hne; simp at hne
  obtain ⟨b, o, rfl, hb, hrow⟩ := S (by rintro rfl; simp at hlt)
  refine ⟨b, o + l * s, by rw [ha (by omega), Option.map_some, add_mk], hb, ?_⟩
  have := hrow.sub (l * s) (m * s)
  rw [flatMap_drop he, flatMap_take he] at this
  exact this
theorem SlC.sub {B : Nat → Prop} {h : Heap} {a a' : Option Addr} {cs : List Cell} (S : SlC B h a cs) {l m c : Nat} (hc : cs.length ≤ c) (ha : l < c → a' = a.map (·.add (l * 12))) : SlC B h a' ((cs.drop l).take m) := by
  obtain ⟨vs, h1, h2⟩ := S
  exact ⟨(vs.drop l).take m, (h1.drop l).take m, h2.sub eCV_len (by rw [h1.length]; exact hc) ha⟩
end Go.AX
namespace Go.Proofs.Ytefghfgmkndikaa
open Go Go.AX

theorem hasK_cell {cs : List Cell} (hs : Sorted cs) (key : ByteArray) : (hasK cs key = true → cs[lbK cs key]? = cellK cs key ∧ (cellK cs key).isSome = true) ∧ (hasK cs key = false → cellK cs key = none) := by
  have := at_lb key hs
  rw [← this]
  unfold hasK
  cases cs[lbK cs key]? with
  | none => simp
  | some c => by_cases h : c.key = key <;> simp [h]

theorem noLck_eq : (.agg #[.int .i64 0, .int .i64 0, .int .i64 0, .int .i64 0, .int .i64 0, .int .i64 0, .int .i64 0, .bool false, .string ⟨#[]⟩] : Value) = .agg (eLck noLock).toArray := rfl

theorem take9 (l : Lck) : List.take 9 (eLck l) = eLck l := rfl
section
variable {B : Nat → Prop} {a : Option Addr} {c n : Nat} {cs : List Cell} {h : Heap} {R : Value → Heap → Prop}
theorem heldG (g : Gd n cs) (hn : n ≤ 900000) (S : SlC B h a cs) (key : ByteArray) (hR : ∀ h', Ext h h' → R (.tuple #[.agg (eLck (heldK cs key).1).toArray, .bool (heldK cs key).2]) h') : CallsH Try.prog 44 [.slice a cs.length c, .string key] h R := by
  obtain ⟨z1, z2, z3, z4, z5, z6⟩ := szAll g.sz hn
  refine f44ok (by simp) ?_
  (try simp (config := { maxSteps := 1000000 }) (disch := first | exact Nat.le_of_ble_eq_true rfl | omega) only [AXS, AXB, J.dst, reduceIte, Nat.reduceEqDiff, Nat.reduceAdd, Nat.reduceMul, Nat.reduceLT, Nat.reduceLeDiff]); rw [f44c0_eq]; (try simp (config := { maxSteps := 1000000 }) (disch := first | exact Nat.le_of_ble_eq_true rfl | omega) only [AXS, AXB, J.dst, reduceIte, Nat.reduceEqDiff, Nat.reduceAdd, Nat.reduceMul, Nat.reduceLT, Nat.reduceLeDiff, f44r0, f44r1, f44r2, f44r3, f44r4])
  refine wL_newN ?_; rintro b1 h1 e1 s1 hb1 B1
  (try simp (config := { maxSteps := 1000000 }) (disch := first | exact Nat.le_of_ble_eq_true rfl | omega) only [AXS, AXB, J.dst, reduceIte, Nat.reduceEqDiff, Nat.reduceAdd, Nat.reduceMul, Nat.reduceLT, Nat.reduceLeDiff]); rw [f44c1_eq]; (try simp (config := { maxSteps := 1000000 }) (disch := first | exact Nat.le_of_ble_eq_true rfl | omega) only [AXS, AXB, J.dst, reduceIte, Nat.reduceEqDiff, Nat.reduceAdd, Nat.reduceMul, Nat.reduceLT, Nat.reduceLeDiff, f44r0, f44r1, f44r2, f44r3, f44r4])
  refine find_ok cs key _ (S.ext e1) g.good.sorted z3 ?_
  intro h2 e2
  refine ⟨trivial, ?_⟩
  replace B1 := B1.ext e2
  have e02 := e1.trans e2
  obtain ⟨hk1, hk2⟩ := hasK_cell g.good.sorted key
  have fin0 : heldK cs key = (noLock, false) → ∀ τ, AX.look τ 4 = some (ptr b1 0) → wC Try.prog f44c4 (endW [Rs.cell 4 9, Rs.tmp 5] R) τ h2 := by
    intro hk τ l4
    rw [f44c4_eq]
    simp (config := { maxSteps := 1000000 }) (disch := first | exact Nat.le_of_ble_eq_true rfl | omega) only [AXS, AXB, J.dst, reduceIte, Nat.reduceEqDiff, Nat.reduceAdd, Nat.reduceMul, Nat.reduceLT, Nat.reduceLeDiff, f44r3, l4]
    refine wL_stN (o := 0) (by exact l4) rfl rfl B1 (by decide) (one_lck noLock) ?_; rintro h3 u3 (B3 : Blk _ _ _ (eLck noLock))
    simp (config := { maxSteps := 1000000 }) (disch := first | exact Nat.le_of_ble_eq_true rfl | omega) only [AXS, AXB, J.dst, reduceIte, Nat.reduceEqDiff, Nat.reduceAdd, Nat.reduceMul, Nat.reduceLT, Nat.reduceLeDiff, B3.rd, l4]
    have := hR _ (u3.ext e02 (by omega))
    rw [hk] at this
    exact this
  try simp (config := { maxSteps := 1000000 }) (disch := first | exact Nat.le_of_ble_eq_true rfl | omega) only [AXS, AXB, J.dst, reduceIte, Nat.reduceEqDiff, Nat.reduceAdd, Nat.reduceMul, Nat.reduceLT, Nat.reduceLeDiff]
  cases hh : hasK cs key with
  | false =>
    have hc := hk2 hh
    rw [f44c2_eq]
    simp (config := { maxSteps := 1000000 }) (disch := first | exact Nat.le_of_ble_eq_true rfl | omega) only [AXJ, AXS, AXB, J.dst, reduceIte, Nat.reduceEqDiff, Nat.reduceAdd, Nat.reduceMul, Nat.reduceLT, Nat.reduceLeDiff, f44r2]
    rw [f44c3_eq]
    simp (config := { maxSteps := 1000000 }) (disch := first | exact Nat.le_of_ble_eq_true rfl | omega) only [AXS, AXB, J.dst, reduceIte, Nat.reduceEqDiff, Nat.reduceAdd, Nat.reduceMul, Nat.reduceLT, Nat.reduceLeDiff]
    exact fin0 (by unfold heldK; rw [hc]) _ rfl
  | true =>
    obtain ⟨hc1, hc2⟩ := hk1 hh
    obtain ⟨x, hx⟩ := Option.isSome_iff_exists.1 hc2
    rw [hx] at hc1
    have hlt := (List.getElem?_eq_some_iff.1 hc1).1
    obtain ⟨b, o, v, rfl, _, hrow, hcr⟩ := (S.ext e02).elem hc1
    rw [f44c2_eq]
    have hlk := hcr.locked
    simp (config := { maxSteps := 1000000 }) (disch := first | exact Nat.le_of_ble_eq_true rfl | omega) only [AXJ, AXS, AXB, J.dst, reduceIte, Nat.reduceEqDiff, Nat.reduceAdd, Nat.reduceMul, Nat.reduceLT, Nat.reduceLeDiff, f44r2, row_cv hrow, hlk]
    refine ⟨fun _ => by omega, fun _ => by omega, ?_⟩
    rw [f44c3_eq]
    simp (config := { maxSteps := 1000000 }) (disch := first | exact Nat.le_of_ble_eq_true rfl | omega) only [AXS, AXB, J.dst, reduceIte, Nat.reduceEqDiff, Nat.reduceAdd, Nat.reduceMul, Nat.reduceLT, Nat.reduceLeDiff]
    refine ⟨fun h3 => ?_, fun h3 => ?_⟩
    · have hl : x.locked = false := by simpa using h3
      exact fin0 (by unfold heldK; rw [hx]; simp [hl]) _ rfl
    · have hl : x.locked = true := by simpa using h3
      (try simp (config := { maxSteps := 1000000 }) (disch := first | exact Nat.le_of_ble_eq_true rfl | omega) only [AXS, AXB, J.dst, reduceIte, Nat.reduceEqDiff, Nat.reduceAdd, Nat.reduceMul, Nat.reduceLT, Nat.reduceLeDiff]); rw [f44c5_eq]; (try simp (config := { maxSteps := 1000000 }) (disch := first | exact Nat.le_of_ble_eq_true rfl | omega) only [AXS, AXB, J.dst, reduceIte, Nat.reduceEqDiff, Nat.reduceAdd, Nat.reduceMul, Nat.reduceLT, Nat.reduceLeDiff, f44r0, f44r1, f44r2, f44r3, f44r4, row_cv hrow])
      refine ⟨by omega, by omega, ?_⟩
      refine wL_stN rfl rfl rfl B1 (by decide) (one_lck v.lock) ?_; rintro h3 u3 (B3 : Blk _ _ _ (eLck v.lock))
      simp (config := { maxSteps := 1000000 }) (disch := first | exact Nat.le_of_ble_eq_true rfl | omega) only [AXS, AXB, J.dst, reduceIte, Nat.reduceEqDiff, Nat.reduceAdd, Nat.reduceMul, Nat.reduceLT, Nat.reduceLeDiff, B3.rd]
      have := hR _ (u3.ext e02 (by omega))
      have hk : heldK cs key = (v.lock, true) := by unfold heldK; rw [hx, hcr.lock]; simp [hl]
      rw [hk] at this
      exact this

/-- The cells of a span. -/
def withinL (cs : List Cell) (s : Spn) : List Cell := if !klt s.lo s.hi then [] else (cs.drop (lbK cs s.lo)).take (max (lbK cs s.hi) (lbK cs s.lo) - lbK cs s.lo)

theorem withinG (g : Gd n cs) (hn : n ≤ 900000) (S : SlC B h a cs) (hc : cs.length ≤ c) (s : Spn) (hR : ∀ a' c' h', SlC B h' a' (withinL cs s) → (withinL cs s).length ≤ c' → Ext h h' → R (.slice a' (withinL cs s).length c') h') :
    CallsH Try.prog 92 [.slice a cs.length c, .agg (eSpn s).toArray] h R := by
  obtain ⟨z1, z2, z3, z4, z5, z6⟩ := szAll g.sz hn
  refine f92ok (by simp) ?_
  (try simp (config := { maxSteps := 1000000 }) (disch := first | exact Nat.le_of_ble_eq_true rfl | omega) only [AXS, AXB, J.dst, reduceIte, Nat.reduceEqDiff, Nat.reduceAdd, Nat.reduceMul, Nat.reduceLT, Nat.reduceLeDiff]); rw [f92c0_eq]; (try simp (config := { maxSteps := 1000000 }) (disch := first | exact Nat.le_of_ble_eq_true rfl | omega) only [AXS, AXB, J.dst, reduceIte, Nat.reduceEqDiff, Nat.reduceAdd, Nat.reduceMul, Nat.reduceLT, Nat.reduceLeDiff, f92r0, f92r1, f92r2, f92r3, f92r4, f92r5])
  refine wL_boxN rfl ?_; rintro b1 h1 e1 s1 hb1 (B1 : Blk _ _ _ (eSpn s))
  (try simp (config := { maxSteps := 1000000 }) (disch := first | exact Nat.le_of_ble_eq_true rfl | omega) only [AXS, AXB, J.dst, reduceIte, Nat.reduceEqDiff, Nat.reduceAdd, Nat.reduceMul, Nat.reduceLT, Nat.reduceLeDiff]); rw [f92c1_eq]; (try simp (config := { maxSteps := 1000000 }) (disch := first | exact Nat.le_of_ble_eq_true rfl | omega) only [AXS, AXB, J.dst, reduceIte, Nat.reduceEqDiff, Nat.reduceAdd, Nat.reduceMul, Nat.reduceLT, Nat.reduceLeDiff, f92r0, f92r1, f92r2, f92r3, f92r4, f92r5, B1.cel, eSpn]); rw [f92c2_eq]; (try simp (config := { maxSteps := 1000000 }) (disch := first | exact Nat.le_of_ble_eq_true rfl | omega) only [AXS, AXB, J.dst, reduceIte, Nat.reduceEqDiff, Nat.reduceAdd, Nat.reduceMul, Nat.reduceLT, Nat.reduceLeDiff, f92r0, f92r1, f92r2, f92r3, f92r4, f92r5, B1.cel, eSpn])
  have hkle : (Op.bytesLess s.hi.toList s.lo.toList || s.hi.toList == s.lo.toList) = !klt s.lo s.hi := by
    rw [keq_iff]; exact kle_iff s.hi s.lo
  rw [hkle]
  refine ⟨fun hh => ?_, fun hh => ?_⟩
  · have hw : withinL cs s = [] := by unfold withinL; rw [if_pos hh]
    (try simp (config := { maxSteps := 1000000 }) (disch := first | exact Nat.le_of_ble_eq_true rfl | omega) only [AXS, AXB, J.dst, reduceIte, Nat.reduceEqDiff, Nat.reduceAdd, Nat.reduceMul, Nat.reduceLT, Nat.reduceLeDiff]); rw [f92c3_eq]; (try simp (config := { maxSteps := 1000000 }) (disch := first | exact Nat.le_of_ble_eq_true rfl | omega) only [AXS, AXB, J.dst, reduceIte, Nat.reduceEqDiff, Nat.reduceAdd, Nat.reduceMul, Nat.reduceLT, Nat.reduceLeDiff, f92r0, f92r1, f92r2, f92r3, f92r4, f92r5])
    have := hR none 0 h1 (by rw [hw]; exact SlC.nil) (by rw [hw]; simp) e1
    rw [hw] at this
    exact this
  · have hw : withinL cs s = (cs.drop (lbK cs s.lo)).take (max (lbK cs s.hi) (lbK cs s.lo) - lbK cs s.lo) := by unfold withinL; rw [if_neg (by rw [hh]; simp)]
    (try simp (config := { maxSteps := 1000000 }) (disch := first | exact Nat.le_of_ble_eq_true rfl | omega) only [AXS, AXB, J.dst, reduceIte, Nat.reduceEqDiff, Nat.reduceAdd, Nat.reduceMul, Nat.reduceLT, Nat.reduceLeDiff]); rw [f92c4_eq]; (try simp (config := { maxSteps := 1000000 }) (disch := first | exact Nat.le_of_ble_eq_true rfl | omega) only [AXS, AXB, J.dst, reduceIte, Nat.reduceEqDiff, Nat.reduceAdd, Nat.reduceMul, Nat.reduceLT, Nat.reduceLeDiff, f92r0, f92r1, f92r2, f92r3, f92r4, f92r5, B1.cel, eSpn])
    refine find_ok cs s.lo _ (S.ext e1) g.good.sorted z3 ?_
    intro h2 e2
    refine ⟨trivial, ?_⟩
    replace B1 := B1.ext e2
    (try simp (config := { maxSteps := 1000000 }) (disch := first | exact Nat.le_of_ble_eq_true rfl | omega) only [AXS, AXB, J.dst, reduceIte, Nat.reduceEqDiff, Nat.reduceAdd, Nat.reduceMul, Nat.reduceLT, Nat.reduceLeDiff]); rw [f92c5_eq]; (try simp (config := { maxSteps := 1000000 }) (disch := first | exact Nat.le_of_ble_eq_true rfl | omega) only [AXS, AXB, J.dst, reduceIte, Nat.reduceEqDiff, Nat.reduceAdd, Nat.reduceMul, Nat.reduceLT, Nat.reduceLeDiff, f92r0, f92r1, f92r2, f92r3, f92r4, f92r5, B1.cel, eSpn])
    refine find_ok cs s.hi _ (S.ext (e1.trans e2)) g.good.sorted z3 ?_
    intro h3 e3
    refine ⟨trivial, ?_⟩
    have e03 := e1.trans (e2.trans e3)
    have l1 := lbK_le cs s.lo
    have l2 := lbK_le cs s.hi
    have hmx : (if (lbK cs s.lo : Int) > lbK cs s.hi then (lbK cs s.lo : Int) else lbK cs s.hi) = ((max (lbK cs s.hi) (lbK cs s.lo) : Nat) : Int) := by
      split <;> omega
    (try simp (config := { maxSteps := 1000000 }) (disch := first | exact Nat.le_of_ble_eq_true rfl | omega) only [AXS, AXB, J.dst, reduceIte, Nat.reduceEqDiff, Nat.reduceAdd, Nat.reduceMul, Nat.reduceLT, Nat.reduceLeDiff]); rw [f92c6_eq]; (try simp (config := { maxSteps := 1000000 }) (disch := first | exact Nat.le_of_ble_eq_true rfl | omega) only [AXS, AXB, J.dst, reduceIte, Nat.reduceEqDiff, Nat.reduceAdd, Nat.reduceMul, Nat.reduceLT, Nat.reduceLeDiff, f92r0, f92r1, f92r2, f92r3, f92r4, f92r5, hmx])
    refine slc_lh' (by omega) (by omega) ?_
    intro a' ha'
    simp (config := { maxSteps := 1000000 }) (disch := first | exact Nat.le_of_ble_eq_true rfl | omega) only [AXS, AXB, J.dst, reduceIte, Nat.reduceEqDiff, Nat.reduceAdd, Nat.reduceMul, Nat.reduceLT, Nat.reduceLeDiff]
    have hl : (withinL cs s).length = max (lbK cs s.hi) (lbK cs s.lo) - lbK cs s.lo := by
      rw [hw, List.length_take, List.length_drop]; omega
    have := hR a' (c - lbK cs s.lo) h3 (by rw [hw]; exact (S.ext e03).sub hc ha') (by rw [hl]; omega) e03
    rw [hl] at this
    exact this
end
end Go.Proofs.Ytefghfgmkndikaa
/-
  Walks: a scan.
-/
namespace Go.AX
open Go
/-- One pair is appended. -/
def scanL (t : Stamp) (most : Int) : List Cell → List Pai → List Pai × Int
  | [], acc => (acc, 0)
  | x :: xs, acc => if (tellV x.vers t).2 = false then scanL t most xs acc else if (acc.length : Int) ≥ most then ([], 3) else scanL t most xs (acc ++ [⟨x.key, (tellV x.vers t).1⟩])
end Go.AX
namespace Go.Proofs.Ytefghfgmkndikaa
open Go Go.AX

section
variable {B : Nat → Prop} {a : Option Addr} {c n : Nat} {cs : List Cell} {h : Heap} {R : Value → Heap → Prop}
theorem withinL_sub (cs : List Cell) (s : Spn) : ∀ x ∈ withinL cs s, x ∈ cs := by
  unfold withinL
  split
  · simp
  · intro x hx; exact List.mem_of_mem_drop (List.mem_of_mem_take hx)
theorem withinL_le (cs : List Cell) (s : Spn) : (withinL cs s).length ≤ cs.length := by
  unfold withinL
  split
  · simp
  · rw [List.length_take, List.length_drop]; omega

theorem scanG (g : Gd n cs) (hn : n ≤ 900000) (S : SlC B h a cs) (hc : cs.length ≤ c) (s : Spn) (t : Stamp) (most : Int)
    (hR : ∀ a' c' h', Own h.size h' 99 2 a' (scanL t most (withinL cs s) []).1.length c' ((scanL t most (withinL cs s) []).1.flatMap ePai) → Ext h h' → R (.tuple #[.slice a' (scanL t most (withinL cs s) []).1.length c', vi (scanL t most (withinL cs s) []).2]) h') :
    CallsH Try.prog 47 [.slice a cs.length c, .agg (eSpn s).toArray, .agg (eStamp t).toArray, vi most] h R := by
  obtain ⟨z1, z2, z3, z4, z5, z6⟩ := szAll g.sz hn
  have hbig : big = 1000000 := rfl
  refine f47ok (by simp) ?_
  (try simp (config := { maxSteps := 1000000 }) (disch := first | exact Nat.le_of_ble_eq_true rfl | omega) only [AXS, AXB, J.dst, reduceIte, Nat.reduceEqDiff, Nat.reduceAdd, Nat.reduceMul, Nat.reduceLT, Nat.reduceLeDiff]); rw [f47c0_eq]; (try simp (config := { maxSteps := 1000000 }) (disch := first | exact Nat.le_of_ble_eq_true rfl | omega) only [AXS, AXB, J.dst, reduceIte, Nat.reduceEqDiff, Nat.reduceAdd, Nat.reduceMul, Nat.reduceLT, Nat.reduceLeDiff, f47r0, f47r1, f47r2, f47r3, f47r4, f47r5, f47r6, f47r7, f47r8, f47r9, f47r10, f47r11])
  refine wL_boxN rfl ?_; rintro b1 h1 e1 s1 hb1 (B1 : Blk _ _ _ (eSpn s))
  refine wL_boxN rfl ?_; rintro b2 h2 e2 s2 hb2 (B2 : Blk _ _ _ (eStamp t))
  replace B1 := B1.ext e2
  have e02 := e1.trans e2
  (try simp (config := { maxSteps := 1000000 }) (disch := first | exact Nat.le_of_ble_eq_true rfl | omega) only [AXS, AXB, J.dst, reduceIte, Nat.reduceEqDiff, Nat.reduceAdd, Nat.reduceMul, Nat.reduceLT, Nat.reduceLeDiff]); rw [f47c1_eq]; (try simp (config := { maxSteps := 1000000 }) (disch := first | exact Nat.le_of_ble_eq_true rfl | omega) only [AXS, AXB, J.dst, reduceIte, Nat.reduceEqDiff, Nat.reduceAdd, Nat.reduceMul, Nat.reduceLT, Nat.reduceLeDiff, f47r0, f47r1, f47r2, f47r3, f47r4, f47r5, f47r6, f47r7, f47r8, f47r9, f47r10, f47r11, B1.rd, eSpn]); rw [f47c2_eq]; (try simp (config := { maxSteps := 1000000 }) (disch := first | exact Nat.le_of_ble_eq_true rfl | omega) only [AXS, AXB, J.dst, reduceIte, Nat.reduceEqDiff, Nat.reduceAdd, Nat.reduceMul, Nat.reduceLT, Nat.reduceLeDiff, f47r0, f47r1, f47r2, f47r3, f47r4, f47r5, f47r6, f47r7, f47r8, f47r9, f47r10, f47r11, B1.rd, eSpn])
  refine withinG g hn (S.ext e02) hc s ?_
  intro aw cw h3 W hw e3
  refine ⟨trivial, ?_⟩
  have hws := withinL_sub cs s
  have hwl := withinL_le cs s
  generalize withinL cs s = ws at *
  replace B2 := B2.ext e3
  have e03 := e02.trans e3
  try simp (config := { maxSteps := 1000000 }) (disch := first | exact Nat.le_of_ble_eq_true rfl | omega) only [AXS, AXB, J.dst, reduceIte, Nat.reduceEqDiff, Nat.reduceAdd, Nat.reduceMul, Nat.reduceLT, Nat.reduceLeDiff]
  rw [f47c3_eq]
  refine loop_in (fun n σ h' => Ext h3 h' ∧ ∃ (k c1 : Nat) (a1 : Option Addr) (acc : List Pai), k + n = ws.length ∧ acc.length ≤ k ∧ scanL t most ws [] = scanL t most (ws.drop k) acc ∧ Own h3.size h' 99 2 a1 acc.length c1 (acc.flatMap ePai) ∧
      σ = [(3, vi most), (6, ptr b2 0), (10, .slice a1 acc.length c1), (17, .slice aw ws.length cw), (18, vi ws.length), (19, vi k)]) ws.length ⟨Ext.refl _, 0, 0, none, [], by omega, by simp, rfl, Own.nil _ _ _ _, rfl⟩ ?_
  rintro m σ h4 ⟨e4, k, c1, a1, acc, hk, hak, hsc, O, rfl⟩ Q' hnx hex hrt _
  (try simp (config := { maxSteps := 1000000 }) (disch := first | exact Nat.le_of_ble_eq_true rfl | omega) only [AXS, AXB, J.dst, reduceIte, Nat.reduceEqDiff, Nat.reduceAdd, Nat.reduceMul, Nat.reduceLT, Nat.reduceLeDiff]); rw [f47c4_eq]; (try simp (config := { maxSteps := 1000000 }) (disch := first | exact Nat.le_of_ble_eq_true rfl | omega) only [AXS, AXB, J.dst, reduceIte, Nat.reduceEqDiff, Nat.reduceAdd, Nat.reduceMul, Nat.reduceLT, Nat.reduceLeDiff, f47r0, f47r1, f47r2, f47r3, f47r4, f47r5, f47r6, f47r7, f47r8, f47r9, f47r10, f47r11]); rw [f47c5_eq]; (try simp (config := { maxSteps := 1000000 }) (disch := first | exact Nat.le_of_ble_eq_true rfl | omega) only [AXS, AXB, J.dst, reduceIte, Nat.reduceEqDiff, Nat.reduceAdd, Nat.reduceMul, Nat.reduceLT, Nat.reduceLeDiff, f47r0, f47r1, f47r2, f47r3, f47r4, f47r5, f47r6, f47r7, f47r8, f47r9, f47r10, f47r11])
  refine ⟨fun hh => ?_, fun hh => ?_⟩
  · have hkl : k < ws.length := by have := of_decide_eq_true hh; omega
    obtain ⟨x, hx⟩ := get_ex hkl
    obtain ⟨b, o, v, rfl, _, hrow, hcr⟩ := (W.ext e4).elem hx
    have hdrop : ws.drop k = x :: ws.drop (k + 1) := by
      rw [List.drop_eq_getElem_cons hkl]
      rw [List.getElem?_eq_getElem hkl] at hx; cases hx; rfl
    have hxv := z4 x (hws x (List.mem_of_getElem? hx))
    rw [hdrop] at hsc
    (try simp (config := { maxSteps := 1000000 }) (disch := first | exact Nat.le_of_ble_eq_true rfl | omega) only [AXS, AXB, J.dst, reduceIte, Nat.reduceEqDiff, Nat.reduceAdd, Nat.reduceMul, Nat.reduceLT, Nat.reduceLeDiff]); rw [f47c6_eq]; (try simp (config := { maxSteps := 1000000 }) (disch := first | exact Nat.le_of_ble_eq_true rfl | omega) only [AXS, AXB, J.dst, reduceIte, Nat.reduceEqDiff, Nat.reduceAdd, Nat.reduceMul, Nat.reduceLT, Nat.reduceLeDiff, f47r0, f47r1, f47r2, f47r3, f47r4, f47r5, f47r6, f47r7, f47r8, f47r9, f47r10, f47r11, row_cv hrow]); rw [f47c7_eq]; (try simp (config := { maxSteps := 1000000 }) (disch := first | exact Nat.le_of_ble_eq_true rfl | omega) only [AXS, AXB, J.dst, reduceIte, Nat.reduceEqDiff, Nat.reduceAdd, Nat.reduceMul, Nat.reduceLT, Nat.reduceLeDiff, f47r0, f47r1, f47r2, f47r3, f47r4, f47r5, f47r6, f47r7, f47r8, f47r9, f47r10, f47r11, row_cv hrow])
    refine ⟨by omega, by omega, ?_⟩
    refine wL_newN ?_; rintro b5 h5 e5 s5 hb5 B5
    try simp (config := { maxSteps := 1000000 }) (disch := first | exact Nat.le_of_ble_eq_true rfl | omega) only [AXS, AXB, J.dst, reduceIte, Nat.reduceEqDiff, Nat.reduceAdd, Nat.reduceMul, Nat.reduceLT, Nat.reduceLeDiff]
    refine wL_stN rfl rfl rfl B5 (by decide) (eCV_one v) ?_; rintro h6 u6 (B6 : Blk _ _ _ (eCV v))
    have e6 := u6.ext e5 (by omega)
    have hs0 := e03.size
    have hs4 := e4.size
    replace B2 := B2.ext (e4.trans e6)
    have O6 : Own h3.size h6 99 2 a1 acc.length c1 (acc.flatMap ePai) := O.ext e6
    (try simp (config := { maxSteps := 1000000 }) (disch := first | exact Nat.le_of_ble_eq_true rfl | omega) only [AXS, AXB, J.dst, reduceIte, Nat.reduceEqDiff, Nat.reduceAdd, Nat.reduceMul, Nat.reduceLT, Nat.reduceLeDiff]); rw [f47c8_eq]; (try simp (config := { maxSteps := 1000000 }) (disch := first | exact Nat.le_of_ble_eq_true rfl | omega) only [AXS, AXB, J.dst, reduceIte, Nat.reduceEqDiff, Nat.reduceAdd, Nat.reduceMul, Nat.reduceLT, Nat.reduceLeDiff, f47r0, f47r1, f47r2, f47r3, f47r4, f47r5, f47r6, f47r7, f47r8, f47r9, f47r10, f47r11, B6.rd, B2.rd, eCV, eStamp])
    refine tells_ok v x t _ (hcr.ext e6) hxv ?_
    intro h7 e7
    refine ⟨trivial, ?_⟩
    replace B6 := B6.ext e7; replace O6 := O6.ext e7
    have e37 := e4.trans (e6.trans e7)
    (try simp (config := { maxSteps := 1000000 }) (disch := first | exact Nat.le_of_ble_eq_true rfl | omega) only [AXS, AXB, J.dst, reduceIte, Nat.reduceEqDiff, Nat.reduceAdd, Nat.reduceMul, Nat.reduceLT, Nat.reduceLeDiff]); rw [f47c9_eq]; (try simp (config := { maxSteps := 1000000 }) (disch := first | exact Nat.le_of_ble_eq_true rfl | omega) only [AXS, AXB, J.dst, reduceIte, Nat.reduceEqDiff, Nat.reduceAdd, Nat.reduceMul, Nat.reduceLT, Nat.reduceLeDiff, f47r0, f47r1, f47r2, f47r3, f47r4, f47r5, f47r6, f47r7, f47r8, f47r9, f47r10, f47r11]); rw [f47c10_eq]; (try simp (config := { maxSteps := 1000000 }) (disch := first | exact Nat.le_of_ble_eq_true rfl | omega) only [AXS, AXB, J.dst, reduceIte, Nat.reduceEqDiff, Nat.reduceAdd, Nat.reduceMul, Nat.reduceLT, Nat.reduceLeDiff, f47r0, f47r1, f47r2, f47r3, f47r4, f47r5, f47r6, f47r7, f47r8, f47r9, f47r10, f47r11])
    refine ⟨fun h8 => ?_, fun h8 => ?_⟩
    · have hno : (tellV x.vers t).2 = false := by simpa using h8
      (try simp (config := { maxSteps := 1000000 }) (disch := first | exact Nat.le_of_ble_eq_true rfl | omega) only [AXS, AXB, J.dst, reduceIte, Nat.reduceEqDiff, Nat.reduceAdd, Nat.reduceMul, Nat.reduceLT, Nat.reduceLeDiff]); rw [f47c15_eq]; (try simp (config := { maxSteps := 1000000 }) (disch := first | exact Nat.le_of_ble_eq_true rfl | omega) only [AXS, AXB, J.dst, reduceIte, Nat.reduceEqDiff, Nat.reduceAdd, Nat.reduceMul, Nat.reduceLT, Nat.reduceLeDiff, f47r0, f47r1, f47r2, f47r3, f47r4, f47r5, f47r6, f47r7, f47r8, f47r9, f47r10, f47r11])
      rw [i64_wrap (by omega) (by omega)]
      refine hnx (m - 1) _ _ (by omega) ⟨e37, k + 1, c1, a1, acc, by omega, by omega, ?_, O6, rfl⟩
      rw [hsc]
      show (if _ then _ else _) = _
      rw [if_pos hno]
    · have hyes : ¬ (tellV x.vers t).2 = false := by simpa using h8
      (try simp (config := { maxSteps := 1000000 }) (disch := first | exact Nat.le_of_ble_eq_true rfl | omega) only [AXS, AXB, J.dst, reduceIte, Nat.reduceEqDiff, Nat.reduceAdd, Nat.reduceMul, Nat.reduceLT, Nat.reduceLeDiff]); rw [f47c11_eq]; (try simp (config := { maxSteps := 1000000 }) (disch := first | exact Nat.le_of_ble_eq_true rfl | omega) only [AXS, AXB, J.dst, reduceIte, Nat.reduceEqDiff, Nat.reduceAdd, Nat.reduceMul, Nat.reduceLT, Nat.reduceLeDiff, f47r0, f47r1, f47r2, f47r3, f47r4, f47r5, f47r6, f47r7, f47r8, f47r9, f47r10, f47r11]); rw [f47c12_eq]; (try simp (config := { maxSteps := 1000000 }) (disch := first | exact Nat.le_of_ble_eq_true rfl | omega) only [AXS, AXB, J.dst, reduceIte, Nat.reduceEqDiff, Nat.reduceAdd, Nat.reduceMul, Nat.reduceLT, Nat.reduceLeDiff, f47r0, f47r1, f47r2, f47r3, f47r4, f47r5, f47r6, f47r7, f47r8, f47r9, f47r10, f47r11])
      refine ⟨fun h9 => ?_, fun h9 => ?_⟩
      · have hge : (acc.length : Int) ≥ most := of_decide_eq_true h9
        have hfin : scanL t most ws [] = ([], 3) := by
          rw [hsc]
          show (if _ then _ else if _ then _ else _) = _
          rw [if_neg hyes, if_pos hge]
        (try simp (config := { maxSteps := 1000000 }) (disch := first | exact Nat.le_of_ble_eq_true rfl | omega) only [AXS, AXB, J.dst, reduceIte, Nat.reduceEqDiff, Nat.reduceAdd, Nat.reduceMul, Nat.reduceLT, Nat.reduceLeDiff]); rw [f47c13_eq]; (try simp (config := { maxSteps := 1000000 }) (disch := first | exact Nat.le_of_ble_eq_true rfl | omega) only [AXS, AXB, J.dst, reduceIte, Nat.reduceEqDiff, Nat.reduceAdd, Nat.reduceMul, Nat.reduceLT, Nat.reduceLeDiff, f47r0, f47r1, f47r2, f47r3, f47r4, f47r5, f47r6, f47r7, f47r8, f47r9, f47r10, f47r11])
        refine hrt _ _ ?_
        simp (config := { maxSteps := 1000000 }) (disch := first | exact Nat.le_of_ble_eq_true rfl | omega) only [AXS, AXB, J.dst, reduceIte, Nat.reduceEqDiff, Nat.reduceAdd, Nat.reduceMul, Nat.reduceLT, Nat.reduceLeDiff]
        have := hR none 0 h7 (by rw [hfin]; exact Own.nil _ _ _ _) (e03.trans e37)
        rw [hfin] at this
        exact this
      · have hlt : ¬ (acc.length : Int) ≥ most := of_decide_eq_false h9
        have hkey := hcr.key
        (try simp (config := { maxSteps := 1000000 }) (disch := first | exact Nat.le_of_ble_eq_true rfl | omega) only [AXS, AXB, J.dst, reduceIte, Nat.reduceEqDiff, Nat.reduceAdd, Nat.reduceMul, Nat.reduceLT, Nat.reduceLeDiff]); rw [f47c14_eq]; (try simp (config := { maxSteps := 1000000 }) (disch := first | exact Nat.le_of_ble_eq_true rfl | omega) only [AXS, AXB, J.dst, reduceIte, Nat.reduceEqDiff, Nat.reduceAdd, Nat.reduceMul, Nat.reduceLT, Nat.reduceLeDiff, f47r0, f47r1, f47r2, f47r3, f47r4, f47r5, f47r6, f47r7, f47r8, f47r9, f47r10, f47r11, B6.cel, eCV, hkey])
        refine wL_bslN rfl ?_; rintro b10 h10 e10 s10 hb10 (B10 : Blk _ _ _ (ePai ⟨x.key, (tellV x.vers t).1⟩))
        try simp (config := { maxSteps := 1000000 }) (disch := first | exact Nat.le_of_ble_eq_true rfl | omega) only [AXS, AXB, J.dst, reduceIte, Nat.reduceEqDiff, Nat.reduceAdd, Nat.reduceMul, Nat.reduceLT, Nat.reduceLeDiff]
        rw [wL_raw]
        refine raw_append slT45 rfl rfl rfl (O6.ext e10) (news := ePai ⟨x.key, (tellV x.vers t).1⟩) (by rw [ePai_len]) (.inr ⟨b10, 0, rfl, B10.row⟩) (ePai_one _) (by unfold maxLen; omega) (by omega) (e37.trans e10).size ?_
        intro a11 c11 h11 O11 G11 A11
        refine ⟨trivial, ?_⟩
        have e311 : Ext h3 h11 := G11.ext (e37.trans e10) (fun j hj => (O6.ob j hj).1)
        (try simp (config := { maxSteps := 1000000 }) (disch := first | exact Nat.le_of_ble_eq_true rfl | omega) only [AXS, AXB, J.dst, reduceIte, Nat.reduceEqDiff, Nat.reduceAdd, Nat.reduceMul, Nat.reduceLT, Nat.reduceLeDiff]); rw [f47c15_eq]; (try simp (config := { maxSteps := 1000000 }) (disch := first | exact Nat.le_of_ble_eq_true rfl | omega) only [AXS, AXB, J.dst, reduceIte, Nat.reduceEqDiff, Nat.reduceAdd, Nat.reduceMul, Nat.reduceLT, Nat.reduceLeDiff, f47r0, f47r1, f47r2, f47r3, f47r4, f47r5, f47r6, f47r7, f47r8, f47r9, f47r10, f47r11])
        rw [i64_wrap (by omega) (by omega)]
        refine hnx (m - 1) _ _ (by omega) ⟨e311, k + 1, c11, a11, acc ++ [⟨x.key, (tellV x.vers t).1⟩], by omega, by simp; omega, ?_, ?_, ?_⟩
        · rw [hsc]
          show (if _ then _ else if _ then _ else _) = _
          rw [if_neg hyes, if_neg hlt]
        · simpa using O11
        · simp
  · have hkl : k = ws.length := by have := of_decide_eq_false hh; omega
    have hs0 := e03.size
    refine hex _ _ ?_
    have hfin : scanL t most ws [] = (acc, 0) := by
      rw [hsc, hkl, List.drop_length]; rfl
    (try simp (config := { maxSteps := 1000000 }) (disch := first | exact Nat.le_of_ble_eq_true rfl | omega) only [AXS, AXB, J.dst, reduceIte, Nat.reduceEqDiff, Nat.reduceAdd, Nat.reduceMul, Nat.reduceLT, Nat.reduceLeDiff]); rw [f47c16_eq]; (try simp (config := { maxSteps := 1000000 }) (disch := first | exact Nat.le_of_ble_eq_true rfl | omega) only [AXS, AXB, J.dst, reduceIte, Nat.reduceEqDiff, Nat.reduceAdd, Nat.reduceMul, Nat.reduceLT, Nat.reduceLeDiff, f47r0, f47r1, f47r2, f47r3, f47r4, f47r5, f47r6, f47r7, f47r8, f47r9, f47r10, f47r11])
    have := hR a1 c1 h4 (by rw [hfin]; exact O.mono hs0) (e03.trans e4)
    rw [hfin] at this
    exact this
end
end Go.Proofs.Ytefghfgmkndikaa
/-
  Plain laws of scans.
-/
namespace Go.Proofs.Ytefghfgmkndikaa
open Go Go.AX

/-- Is a key within a span? -/
def inS (s : Spn) (k : ByteArray) : Bool := !klt k s.lo && klt k s.hi
def pairO (t : Stamp) (x : Cell) : Option Pai := if (tellV x.vers t).2 then some ⟨x.key, (tellV x.vers t).1⟩ else none
def pairsL (t : Stamp) (xs : List Cell) : List Pai := xs.filterMap (pairO t)
theorem scanL_eq (t : Stamp) (most : Int) : ∀ (xs : List Cell) (acc : List Pai), scanL t most xs acc = if pairsL t xs = [] ∨ (acc.length + (pairsL t xs).length : Int) ≤ most then (acc ++ pairsL t xs, 0) else ([], 3)
  | [], acc => by simp [scanL, pairsL]
  | x :: xs, acc => by
    unfold scanL
    cases hx : (tellV x.vers t).2 with
    | false =>
      have : pairsL t (x :: xs) = pairsL t xs := by unfold pairsL; rw [List.filterMap_cons]; simp [pairO, hx]
      rw [if_pos rfl, scanL_eq t most xs acc, this]
    | true =>
      have : pairsL t (x :: xs) = ⟨x.key, (tellV x.vers t).1⟩ :: pairsL t xs := by unfold pairsL; rw [List.filterMap_cons]; simp [pairO, hx]
      rw [if_neg (by simp), this]
      by_cases hm : (acc.length : Int) ≥ most
      · rw [if_pos hm, if_neg (by simp; omega)]
      · rw [if_neg hm, scanL_eq t most xs]
        by_cases h2 : pairsL t xs = [] ∨ ((acc ++ [(⟨x.key, (tellV x.vers t).1⟩ : Pai)]).length + (pairsL t xs).length : Int) ≤ most
        · rw [if_pos h2, if_pos]
          · simp
          · refine .inr ?_
            rcases h2 with h2 | h2
            · rw [h2]; simp; omega
            · simp at h2 ⊢; omega
        · rw [if_neg h2, if_neg]
          simp only [List.length_append, List.length_cons, List.length_nil, not_or] at h2 ⊢
          refine ⟨by simp, ?_⟩
          omega
theorem kge_trans {a b c : ByteArray} (h : klt a b = true) (k : klt a c = false) : klt b c = false := by
  cases hb : klt b c with
  | false => rfl
  | true => rw [klt_trans h hb] at k; cases k
theorem lbK_zero {cs : List Cell} {key : ByteArray} (h : ∀ c ∈ cs, klt c.key key = false) : lbK cs key = 0 := by
  cases cs with
  | nil => rfl
  | cons c cs => rw [lbK_cons, h c (by simp)]; rfl
theorem withinL_eq (s : Spn) : ∀ {cs : List Cell}, Sorted cs → withinL cs s = cs.filter fun c => inS s c.key := by
  intro cs hs
  unfold withinL
  by_cases hlh : klt s.lo s.hi = true
  · rw [if_neg (by rw [hlh]; simp)]
    induction cs with
    | nil => simp
    | cons c cs ih =>
      have h1 := sorted_cons.1 hs
      have ih := ih h1.2
      rw [lbK_cons, lbK_cons, List.filter_cons]
      cases ha : klt c.key s.lo with
      | true =>
        have hin : inS s c.key = false := by simp [inS, ha]
        have hhi : klt c.key s.hi = true := klt_trans ha hlh
        simp only [if_true, hhi, hin, Bool.false_eq_true, if_false, List.drop_succ_cons]
        rw [← ih]
        congr 1
        omega
      | false =>
        have hlo : ∀ d ∈ cs, klt d.key s.lo = false := fun d hd => kge_trans (h1.1 d hd) ha
        have hz := lbK_zero hlo
        rw [hz] at ih
        simp only [Bool.false_eq_true, if_false, List.drop_zero] at ih ⊢
        cases hb : klt c.key s.hi with
        | true =>
          have hin : inS s c.key = true := by simp [inS, ha, hb]
          simp only [if_true, hin]
          rw [← ih]
          simp
        | false =>
          have hin : inS s c.key = false := by simp [inS, hb]
          simp only [Bool.false_eq_true, if_false, hin]
          have : cs.filter (fun c => inS s c.key) = [] := by
            rw [List.filter_eq_nil_iff]
            intro d hd
            simp [inS, kge_trans (h1.1 d hd) hb]
          rw [this]; simp
  · rw [if_pos (by simpa using hlh)]
    symm
    rw [List.filter_eq_nil_iff]
    intro d _ hd
    simp only [inS, Bool.and_eq_true, Bool.not_eq_true'] at hd
    have hlh : klt s.lo s.hi = false := by simpa using hlh
    rcases klt_total s.lo d.key with h | h | h
    · rw [klt_trans h hd.2] at hlh; cases hlh
    · rw [← h] at hd; rw [hd.2] at hlh; cases hlh
    · rw [h] at hd; cases hd.1
theorem pairs_len (t : Stamp) (xs : List Cell) : (pairsL t xs).length ≤ xs.length := List.length_filterMap_le _ _

/-! ### Trims -/
theorem trim_pairs {below t : Stamp} (h : Stamp.lt t below = false) (P : ByteArray → Bool) : ∀ {cs : List Cell}, (∀ c ∈ cs, VS c.vers) → pairsL t ((trimL cs below).filter fun c => P c.key) = pairsL t (cs.filter fun c => P c.key)
  | [], _ => rfl
  | c :: cs, hv => by
    have ih := trim_pairs h P (cs := cs) (fun c hc => hv c (by simp [hc]))
    have ht := tell_trim (hv c (by simp)) h
    unfold trimL at ih ⊢
    rw [List.filterMap_cons]
    by_cases hl : (trimC below c).locked = true ∨ (trimC below c).vers ≠ []
    · rw [leftC_of hl]
      simp only
      rw [List.filter_cons, List.filter_cons]
      have hk : (trimC below c).key = c.key := rfl
      rw [hk]
      split
      · unfold pairsL at ih ⊢
        rw [List.filterMap_cons, List.filterMap_cons, ih]
        have : pairO t (trimC below c) = pairO t c := by
          unfold pairO
          have e : tellV (trimC below c).vers t = tellV c.vers t := ht
          rw [e, hk]
        rw [this]
      · exact ih
    · simp only [not_or, Decidable.not_not, Bool.not_eq_true] at hl
      rw [leftC_not hl.1 hl.2]
      simp only
      rw [List.filter_cons]
      split
      · rw [ih]
        unfold pairsL
        rw [List.filterMap_cons]
        have e : tellV (trimC below c).vers t = tellV c.vers t := ht
        rw [hl.2] at e
        have : pairO t c = none := by
          unfold pairO
          rw [← e]; rfl
        rw [this]
      · exact ih
theorem trim_scan {cs : List Cell} (g : Good cs) {below t : Stamp} (h : Stamp.lt t below = false) (s : Spn) (most : Int) : scanL t most (withinL (trimL cs below) s) [] = scanL t most (withinL cs s) [] := by
  rw [scanL_eq, scanL_eq, withinL_eq s (trim_good below g).sorted, withinL_eq s g.sorted, trim_pairs h (inS s) fun c hc => (g.ok c hc).vs]
theorem trim_again {cs : List Cell} (g : Good cs) (t : Stamp) : trimL (trimL cs t) t = trimL cs t := by
  unfold trimL
  rw [List.filterMap_filterMap]
  refine fm_congr fun c hc => ?_
  cases hd : leftC (trimC t c) with
  | none => rfl
  | some d =>
    rw [Option.bind_some]
    obtain ⟨rfl, hl⟩ := leftC_some hd
    rw [trimC_twice t c (g.ok c hc).vs]; exact hd

/-! ### Scans -/
theorem cellK_self {cs : List Cell} (hs : Sorted cs) {c : Cell} (hc : c ∈ cs) : cellK cs c.key = some c := by
  induction cs with
  | nil => simp at hc
  | cons d cs ih =>
    rw [cellK_cons]
    rcases List.mem_cons.1 hc with rfl | hc
    · rw [if_pos rfl]
    · have := klt_ne ((sorted_cons.1 hs).1 c hc)
      rw [if_neg this]
      exact ih (sorted_cons.1 hs).2 hc
theorem getK_self {cs : List Cell} (hs : Sorted cs) {c : Cell} (hc : c ∈ cs) (t : Stamp) : getK cs c.key t = tellV c.vers t := by
  rw [getK_eq hs, cellK_self hs hc]
theorem eqA_pai (neg : Bool) (s t : Pai) : eqA neg [.s, .s] (.agg (ePai s).toArray) (.agg (ePai t).toArray) = some (.bool (if neg then !decide (s = t) else decide (s = t))) := by
  obtain ⟨a1, a2⟩ := s
  obtain ⟨b1, b2⟩ := t
  have : (a1.toList == b1.toList && a2.toList == b2.toList) = decide ((⟨a1, a2⟩ : Pai) = ⟨b1, b2⟩) := by
    rw [keq_iff, keq_iff, Bool.eq_iff_iff]; simp
  simp only [eqA, ePai, eqKds, eqKd, Option.bind_some, Option.map_some, Bool.and_true, this]
theorem eqA_paiN (s t : Pai) : eqA true [.s, .s] (.agg (ePai s).toArray) (.agg (ePai t).toArray) = some (.bool (!decide (s = t))) := eqA_pai true s t
theorem row_pai {h : Heap} {b o : Nat} {v : Pai} (r : Row h b o (ePai v)) : rd h b o 2 = some (ePai v) := r.rd0 2 (Nat.le_refl _)
theorem OwnC.cap {lo : Nat} {h : Heap} {a : Option Addr} {n c : Nat} {cs : List Cell} (O : OwnC lo h a n c cs) : n ≤ c := by
  obtain ⟨_, h1, _⟩ := O
  exact h1.room.1
/-- The pairs of the first k cells. -/
def firstP (t : Stamp) (s : Spn) (cs : List Cell) (k : Nat) : List Pai := pairsL t ((cs.take k).filter fun c => inS s c.key)
theorem firstP_succ {t : Stamp} {s : Spn} {cs : List Cell} {k : Nat} {c : Cell} (h : cs[k]? = some c) : firstP t s cs (k + 1) = firstP t s cs k ++ (if inS s c.key && (tellV c.vers t).2 then [⟨c.key, (tellV c.vers t).1⟩] else []) := by
  unfold firstP pairsL
  rw [List.take_add_one, h, Option.toList_some, List.filter_append, List.filterMap_append]
  congr 1
  cases h1 : inS s c.key <;> cases h2 : (tellV c.vers t).2 <;> simp [h1, h2, pairO]
theorem firstP_all (t : Stamp) (s : Spn) (cs : List Cell) : firstP t s cs cs.length = pairsL t (cs.filter fun c => inS s c.key) := by unfold firstP; rw [List.take_length]
theorem firstP_pre (t : Stamp) (s : Spn) (cs : List Cell) (k : Nat) : firstP t s cs k <+: firstP t s cs cs.length := by
  unfold firstP pairsL
  rw [List.take_length]
  exact ((List.take_prefix k cs).filter _).filterMap _
end Go.Proofs.Ytefghfgmkndikaa
