/-
  The walks and plain laws under the laws of one package: texts of mine put together, what they do not use left out (wip/tools/prune.py).
-/
import Derived.Test.YtefghfgmkndikaaW3
set_option linter.unusedSimpArgs false
set_option linter.unusedVariables false
open Nat renaming reduceEqDiff → Z1, reduceAdd → Z2, reduceMul → Z3, reduceLT → Z4, reduceLeDiff → Z5, le_of_ble_eq_true → Lb
namespace Go.Proofs.Ytefghfgmkndikaa
open Go.AX
set_option maxRecDepth 100000
def f51r0 : List I := [.op (.mov 2 (.const (.bool false))),
 .kp [0]]
def f51r1 : List I := [.op (.mov 3 (.const (.int .i64 0))),
 .kp [0,3]]
def f51r2 : List I := [.op (.mov 7 (.tmp 3)),
 .op (.mov 8 (.tmp 0)),
 .op (.len 9 true (.tmp 8)),
 .op (.bin 10 .lss (.tmp 7) (.tmp 9)),
 .kp [0,3,10]]
def f51r3 : List I := [.op (.mov 13 (.tmp 0)),
 .op (.mov 14 (.tmp 3)),
 .op (.iad 15 12 (.tmp 13) (.tmp 14)),
 .op (.ld 16 (some 12) (.tmp 15)),
 .op (.new 4 103 [.string ⟨#[]⟩,.slice none 0 0,.bool false,.int .i64 0,.int .i64 0,.int .i64 0,.int .i64 0,.int .i64 0,.int .i64 0,.int .i64 0,.bool false,.string ⟨#[]⟩]),
 .op (.st 12 (.tmp 4) (.tmp 16)),
 .kp [0,3,4]]
def f51r4c : List I := [.op (.mov 52 (.tmp 51)),
 .sc 52 false 10,
 .g 52 false (.fad 53 3 (.tmp 4)),
 .g 52 false (.fad 54 7 (.tmp 53)),
 .g 52 false (.ld 55 none (.tmp 54)),
 .g 52 false (.mov 56 (.tmp 55)),
 .sc 56 true 4,
 .g 56 true (.fad 57 3 (.tmp 4)),
 .g 56 true (.fad 58 8 (.tmp 57)),
 .g 56 true (.ld 59 none (.tmp 58)),
 .g 56 true (.bin 60 .neq (.tmp 59) (.const (.string ⟨#[]⟩))),
 .g 52 false (.pick 61 (.tmp 56) (.tmp 60) (.const (.bool false))),
 .op (.pick 62 (.tmp 52) (.const (.bool true)) (.tmp 61)),
 .kp [62,0,3,4]]
def f51r4b : List I := .op (.mov 41 (.tmp 40)) ::
 .sc 41 false 10 ::
 .g 41 false (.fad 42 1 (.tmp 4)) ::
 .g 41 false (.ld 43 none (.tmp 42)) ::
 .g 41 false (.len 44 true (.tmp 43)) ::
 .g 41 false (.bin 45 .eql (.tmp 44) (.const (.int .i64 0))) ::
 .g 41 false (.mov 46 (.tmp 45)) ::
 .sc 46 true 3 ::
 .g 46 true (.fad 47 2 (.tmp 4)) ::
 .g 46 true (.ld 48 none (.tmp 47)) ::
 .g 46 true (.un 49 .not (.tmp 48)) ::
 .g 41 false (.pick 50 (.tmp 46) (.tmp 49) (.const (.bool false))) ::
 .op (.pick 51 (.tmp 41) (.const (.bool true)) (.tmp 50)) ::
 .kp [51,0,3,4] ::
 f51r4c
def f51r4a : List I := .op (.mov 30 (.tmp 29)) ::
 .sc 30 false 10 ::
 .g 30 false (.fad 31 2 (.tmp 4)) ::
 .g 30 false (.ld 32 none (.tmp 31)) ::
 .g 30 false (.un 33 .not (.tmp 32)) ::
 .g 30 false (.mov 34 (.tmp 33)) ::
 .sc 34 true 4 ::
 .g 34 true (.fad 35 3 (.tmp 4)) ::
 .g 34 true (.ld 36 (some 9) (.tmp 35)) ::
 .g 34 true (.bld 37 [.int .i64 0,.int .i64 0,.int .i64 0,.int .i64 0,.int .i64 0,.int .i64 0,.int .i64 0,.bool false,.string ⟨#[]⟩] []) ::
 .g 34 true (.eqa 38 true [.i .i64,.i .i64,.i .i64,.i .i64,.i .i64,.i .i64,.i .i64,.b,.s] (.tmp 36) (.tmp 37)) ::
 .g 30 false (.pick 39 (.tmp 34) (.tmp 38) (.const (.bool false))) ::
 .op (.pick 40 (.tmp 30) (.const (.bool true)) (.tmp 39)) ::
 .kp [40,0,3,4] ::
 f51r4b
def f51r4 : List I := .op (.mov 17 (.tmp 3)) ::
 .op (.bin 18 .gtr (.tmp 17) (.const (.int .i64 0))) ::
 .op (.mov 19 (.tmp 18)) ::
 .sc 19 true 9 ::
 .g 19 true (.mov 20 (.tmp 0)) ::
 .g 19 true (.mov 21 (.tmp 3)) ::
 .g 19 true (.bin 22 .sub (.tmp 21) (.const (.int .i64 1))) ::
 .g 19 true (.iad 23 12 (.tmp 20) (.tmp 22)) ::
 .g 19 true (.fad 24 0 (.tmp 23)) ::
 .g 19 true (.ld 25 none (.tmp 24)) ::
 .g 19 true (.fad 26 0 (.tmp 4)) ::
 .g 19 true (.ld 27 none (.tmp 26)) ::
 .g 19 true (.bin 28 .geq (.tmp 25) (.tmp 27)) ::
 .op (.pick 29 (.tmp 19) (.tmp 28) (.const (.bool false))) ::
 .kp [29,0,3,4] ::
 f51r4a
def f51r5 : List I := [.op (.mov 2 (.const (.bool false))),
 .kp [2]]
def f51r6 : List I := [.op (.mov 5 (.const (.int .i64 0))),
 .kp [0,3,4,5]]
def f51r7 : List I := [.op (.mov 63 (.tmp 5)),
 .op (.fad 64 1 (.tmp 4)),
 .op (.ld 65 none (.tmp 64)),
 .op (.len 66 true (.tmp 65)),
 .op (.bin 67 .lss (.tmp 63) (.tmp 66)),
 .kp [0,3,4,5,67]]
def f51r8 : List I := [.op (.fad 70 1 (.tmp 4)),
 .op (.ld 71 none (.tmp 70)),
 .op (.mov 72 (.tmp 5)),
 .op (.iad 73 4 (.tmp 71) (.tmp 72)),
 .op (.ld 74 (some 4) (.tmp 73)),
 .op (.new 6 108 [.int .i64 0,.int .i64 0,.bool false,.string ⟨#[]⟩]),
 .op (.st 4 (.tmp 6) (.tmp 74)),
 .kp [0,3,4,5,6]]
def f51r9a : List I := [.op (.mov 82 (.tmp 81)),
 .sc 82 false 16,
 .g 82 false (.mov 83 (.tmp 5)),
 .g 82 false (.bin 84 .gtr (.tmp 83) (.const (.int .i64 0))),
 .g 82 false (.mov 85 (.tmp 84)),
 .sc 85 true 11,
 .g 85 true (.fad 86 1 (.tmp 4)),
 .g 85 true (.ld 87 none (.tmp 86)),
 .g 85 true (.mov 88 (.tmp 5)),
 .g 85 true (.bin 89 .sub (.tmp 88) (.const (.int .i64 1))),
 .g 85 true (.iad 90 4 (.tmp 87) (.tmp 89)),
 .g 85 true (.fad 91 0 (.tmp 90)),
 .g 85 true (.ld 92 (some 2) (.tmp 91)),
 .g 85 true (.fad 93 0 (.tmp 6)),
 .g 85 true (.ld 94 (some 2) (.tmp 93)),
 .g 85 true (.call (some 95) 42 [(.tmp 92),(.tmp 94)]),
 .g 85 true (.un 96 .not (.tmp 95)),
 .g 82 false (.pick 97 (.tmp 85) (.tmp 96) (.const (.bool false))),
 .op (.pick 98 (.tmp 82) (.const (.bool true)) (.tmp 97)),
 .kp [98,0,3,4,5]]
def f51r9 : List I := .op (.fad 75 2 (.tmp 6)) ::
 .op (.ld 76 none (.tmp 75)) ::
 .op (.mov 77 (.tmp 76)) ::
 .sc 77 true 3 ::
 .g 77 true (.fad 78 3 (.tmp 6)) ::
 .g 77 true (.ld 79 none (.tmp 78)) ::
 .g 77 true (.bin 80 .neq (.tmp 79) (.const (.string ⟨#[]⟩))) ::
 .op (.pick 81 (.tmp 77) (.tmp 80) (.const (.bool false))) ::
 .kp [81,0,3,4,5,6] ::
 f51r9a
def f51r10 : List I := [.op (.mov 2 (.const (.bool false))),
 .kp [2]]
def f51r11 : List I := [.op (.mov 68 (.tmp 5)),
 .op (.bin 69 .add (.tmp 68) (.const (.int .i64 1))),
 .op (.mov 5 (.tmp 69)),
 .kp [0,3,4,5]]
def f51r12 : List I := [.op (.mov 11 (.tmp 3)),
 .op (.bin 12 .add (.tmp 11) (.const (.int .i64 1))),
 .op (.mov 3 (.tmp 12)),
 .kp [0,3]]
def f51r13 : List I := [.op (.mov 2 (.const (.bool true))),
 .kp [2]]
def f51c9 : C := (.seq (.reg f51r5) .ret)
def f51c18 : C := (.seq (.reg f51r10) .ret)
def f51c17 : C := (.cond (.tmp 98) f51c18 .skip)
def f51c16 : C := (.seq (.drw f51r9) f51c17)
def f51c15 : C := (.seq (.reg f51r8) f51c16)
def f51c19 : C := (.reg f51r11)
def f51c14 : C := (.seq (.block 3 f51c15) f51c19)
def f51c13 : C := (.seq (.cond (.tmp 67) .skip (.exit 2)) f51c14)
def f51c12 : C := (.seq (.reg f51r7) f51c13)
def f51c11 : C := (.block 2 (.loop f51c12))
def f51c10 : C := (.seq (.reg f51r6) f51c11)
def f51c8 : C := (.seq (.cond (.tmp 62) f51c9 .skip) f51c10)
def f51c7 : C := (.seq (.drw f51r4) f51c8)
def f51c6 : C := (.seq (.reg f51r3) f51c7)
def f51c20 : C := (.reg f51r12)
def f51c5 : C := (.seq (.block 1 f51c6) f51c20)
def f51c4 : C := (.seq (.cond (.tmp 10) .skip (.exit 0)) f51c5)
def f51c3 : C := (.seq (.reg f51r2) f51c4)
def f51c21 : C := (.seq (.reg f51r13) .ret)
def f51c2 : C := (.seq (.block 0 (.loop f51c3)) f51c21)
def f51c1 : C := (.seq (.reg f51r1) f51c2)
def f51c0 : C := (.seq (.reg f51r0) f51c1)
theorem f51cmp : cmpF Try.prog Try.f51 [.l [.o 0,.kp [0]],
 .l [.o 0,.kp [0,3]],
 .l [.o 0,.o 1,.o 2,.o 3,.kp [0,3,10]],
 .l [.o 0,.o 1,.o 2,.o 3,.o 4,.o 5,.kp [0,3,4]],
 .l [.o 0,.o 1,.o 2,.sc 19 true 9,.o 3,.o 4,.o 5,.o 6,.o 7,.o 8,.o 9,.o 10,.o 11,.o 12,.kp [29,0,3,4],.o 13,.sc 30 false 10,.o 14,.o 15,.o 16,.o 17,.sc 34 true 4,.o 18,.o 19,.o 20,.o 21,.o 22,.o 23,.kp [40,0,3,4],.o 24,.sc 41 false 10,.o 25,.o 26,.o 27,.o 28,.o 29,.sc 46 true 3,.o 30,.o 31,.o 32,.o 33,.o 34,.kp [51,0,3,4],.o 35,.sc 52 false 10,.o 36,.o 37,.o 38,.o 39,.sc 56 true 4,.o 40,.o 41,.o 42,.o 43,.o 44,.o 45,.kp [62,0,3,4]],
 .l [.o 0,.kp [2]],
 .l [.o 0,.kp [0,3,4,5]],
 .l [.o 0,.o 1,.o 2,.o 3,.o 4,.kp [0,3,4,5,67]],
 .l [.o 0,.o 1,.o 2,.o 3,.o 4,.o 5,.o 6,.kp [0,3,4,5,6]],
 .l [.o 0,.o 1,.o 2,.sc 77 true 3,.o 3,.o 4,.o 5,.o 6,.kp [81,0,3,4,5,6],.o 7,.sc 82 false 16,.o 8,.o 9,.o 10,.sc 85 true 11,.o 11,.o 12,.o 13,.o 14,.o 15,.o 16,.o 17,.o 18,.o 19,.o 20,.o 21,.o 22,.o 23,.kp [98,0,3,4,5]],
 .l [.o 0,.kp [2]],
 .l [.o 0,.o 1,.o 2,.kp [0,3,4,5]],
 .l [.o 0,.o 1,.o 2,.kp [0,3]],
 .l [.o 0,.kp [2]]] = some (f51c0,[.tmp 2]) := by kernel_rfl
theorem f51ok {args : List Value} {h : Heap} {R : Value → Heap → Prop} (hn : args.length ≤ 99) (H : wC Try.prog f51c0 (endW [.tmp 2] R) (envOf 0 args) h) : CallsH Try.prog 51 args h R :=
 fn_ok2 Try.func51 f51cmp hn H
section
variable {P : Program} {Q : X → Env → Heap → Prop} {σ : Env} {h : Heap}
theorem f51c9_eq : wC P f51c9 Q σ h = (wL P none f51r5 0 (fun σ h => Q .ret σ h) σ h) := rfl
theorem f51c18_eq : wC P f51c18 Q σ h = (wL P none f51r10 0 (fun σ h => Q .ret σ h) σ h) := rfl
theorem f51c17_eq : wC P f51c17 Q σ h = (bd (evO σ (.tmp 98)) fun v => bd (asB v) fun t => br t (wC P f51c18 Q σ h) (Q .normal σ h)) := rfl
theorem f51c16_eq : wC P f51c16 Q σ h = (drwW P f51r9 (fun σ h => wC P f51c17 Q σ h) σ h) := rfl
theorem f51c15_eq : wC P f51c15 Q σ h = (wL P none f51r8 0 (fun σ h => wC P f51c16 Q σ h) σ h) := rfl
theorem f51c19_eq : wC P f51c19 Q σ h = (wL P none f51r11 0 (fun σ h => Q .normal σ h) σ h) := rfl
theorem f51c14_eq : wC P f51c14 Q σ h = (wC P f51c15 (X.inBlock 3 (X.then (fun σ h => wC P f51c19 Q σ h) Q)) σ h) := rfl
theorem f51c13_eq : wC P f51c13 Q σ h = (bd (evO σ (.tmp 67)) fun v => bd (asB v) fun t => br t (wC P f51c14 Q σ h) (Q (.exit 2) σ h)) := rfl
theorem f51c12_eq : wC P f51c12 Q σ h = (wL P none f51r7 0 (fun σ h => wC P f51c13 Q σ h) σ h) := rfl
theorem f51c11_eq : wC P f51c11 Q σ h = (loopW (wC P f51c12) (X.inBlock 2 Q) σ h) := rfl
theorem f51c10_eq : wC P f51c10 Q σ h = (wL P none f51r6 0 (fun σ h => wC P f51c11 Q σ h) σ h) := rfl
theorem f51c8_eq : wC P f51c8 Q σ h = (bd (evO σ (.tmp 62)) fun v => bd (asB v) fun t => br t (wC P f51c9 (X.then (fun σ h => wC P f51c10 Q σ h) Q) σ h) (wC P f51c10 Q σ h)) := rfl
theorem f51c7_eq : wC P f51c7 Q σ h = (drwW P f51r4 (fun σ h => wC P f51c8 Q σ h) σ h) := rfl
theorem f51c6_eq : wC P f51c6 Q σ h = (wL P none f51r3 0 (fun σ h => wC P f51c7 Q σ h) σ h) := rfl
theorem f51c20_eq : wC P f51c20 Q σ h = (wL P none f51r12 0 (fun σ h => Q .normal σ h) σ h) := rfl
theorem f51c5_eq : wC P f51c5 Q σ h = (wC P f51c6 (X.inBlock 1 (X.then (fun σ h => wC P f51c20 Q σ h) Q)) σ h) := rfl
theorem f51c4_eq : wC P f51c4 Q σ h = (bd (evO σ (.tmp 10)) fun v => bd (asB v) fun t => br t (wC P f51c5 Q σ h) (Q (.exit 0) σ h)) := rfl
theorem f51c3_eq : wC P f51c3 Q σ h = (wL P none f51r2 0 (fun σ h => wC P f51c4 Q σ h) σ h) := rfl
theorem f51c21_eq : wC P f51c21 Q σ h = (wL P none f51r13 0 (fun σ h => Q .ret σ h) σ h) := rfl
theorem f51c2_eq : wC P f51c2 Q σ h = (loopW (wC P f51c3) (X.inBlock 0 (X.then (fun σ h => wC P f51c21 Q σ h) Q)) σ h) := rfl
theorem f51c1_eq : wC P f51c1 Q σ h = (wL P none f51r1 0 (fun σ h => wC P f51c2 Q σ h) σ h) := rfl
theorem f51c0_eq : wC P f51c0 Q σ h = (wL P none f51r0 0 (fun σ h => wC P f51c1 Q σ h) σ h) := rfl
end
def f43r0 : List I := [.op (.mov 4 (.const (.bool false))),
 .kp [0,1]]
def f43r1 : List I := [.op (.mov 9 (.tmp 0)),
 .op (.len 10 true (.tmp 9)),
 .op (.mov 11 (.tmp 1)),
 .op (.len 12 true (.tmp 11)),
 .op (.bin 13 .neq (.tmp 10) (.tmp 12)),
 .kp [0,1,13]]
def f43r2 : List I := [.op (.mov 4 (.const (.bool false))),
 .kp [4]]
def f43r3 : List I := [.op (.mov 5 (.const (.int .i64 0))),
 .kp [0,1,5]]
def f43r4 : List I := [.op (.mov 14 (.tmp 5)),
 .op (.mov 15 (.tmp 0)),
 .op (.len 16 true (.tmp 15)),
 .op (.bin 17 .lss (.tmp 14) (.tmp 16)),
 .kp [0,1,5,17]]
def f43r5 : L := (.one [.op (.mov 20 (.tmp 0)),
 .op (.mov 21 (.tmp 5)),
 .op (.iad 22 12 (.tmp 20) (.tmp 21)),
 .op (.ld 23 (some 12) (.tmp 22)),
 .op (.mov 24 (.tmp 1)),
 .op (.mov 25 (.tmp 5)),
 .op (.iad 26 12 (.tmp 24) (.tmp 25)),
 .op (.ld 27 (some 12) (.tmp 26))] (.alt (.one [.op (.new 6 103 [.string ⟨#[]⟩,.slice none 0 0,.bool false,.int .i64 0,.int .i64 0,.int .i64 0,.int .i64 0,.int .i64 0,.int .i64 0,.int .i64 0,.bool false,.string ⟨#[]⟩]),
 .op (.new 7 103 [.string ⟨#[]⟩,.slice none 0 0,.bool false,.int .i64 0,.int .i64 0,.int .i64 0,.int .i64 0,.int .i64 0,.int .i64 0,.int .i64 0,.bool false,.string ⟨#[]⟩]),
 .op (.st 12 (.tmp 6) (.tmp 23)),
 .op (.st 12 (.tmp 7) (.tmp 27)),
 .kp [0,1,5,6,7]] .nil) (.one [.op (.new 7 103 [.string ⟨#[]⟩,.slice none 0 0,.bool false,.int .i64 0,.int .i64 0,.int .i64 0,.int .i64 0,.int .i64 0,.int .i64 0,.int .i64 0,.bool false,.string ⟨#[]⟩]),
 .op (.new 6 103 [.string ⟨#[]⟩,.slice none 0 0,.bool false,.int .i64 0,.int .i64 0,.int .i64 0,.int .i64 0,.int .i64 0,.int .i64 0,.int .i64 0,.bool false,.string ⟨#[]⟩]),
 .op (.st 12 (.tmp 6) (.tmp 23)),
 .op (.st 12 (.tmp 7) (.tmp 27)),
 .kp [0,1,5,6,7]] .nil)))
def f43r6b : List I := [.op (.mov 47 (.tmp 46)),
 .sc 47 false 7,
 .g 47 false (.fad 48 1 (.tmp 6)),
 .g 47 false (.ld 49 none (.tmp 48)),
 .g 47 false (.len 50 true (.tmp 49)),
 .g 47 false (.fad 51 1 (.tmp 7)),
 .g 47 false (.ld 52 none (.tmp 51)),
 .g 47 false (.len 53 true (.tmp 52)),
 .g 47 false (.bin 54 .neq (.tmp 50) (.tmp 53)),
 .op (.pick 55 (.tmp 47) (.const (.bool true)) (.tmp 54)),
 .kp [55,0,1,5,6,7]]
def f43r6a : List I := .op (.mov 40 (.tmp 39)) ::
 .sc 40 false 5 ::
 .g 40 false (.fad 41 3 (.tmp 6)) ::
 .g 40 false (.ld 42 (some 9) (.tmp 41)) ::
 .g 40 false (.fad 43 3 (.tmp 7)) ::
 .g 40 false (.ld 44 (some 9) (.tmp 43)) ::
 .g 40 false (.eqa 45 true [.i .i64,.i .i64,.i .i64,.i .i64,.i .i64,.i .i64,.i .i64,.b,.s] (.tmp 42) (.tmp 44)) ::
 .op (.pick 46 (.tmp 40) (.const (.bool true)) (.tmp 45)) ::
 .kp [46,0,1,5,6,7] ::
 f43r6b
def f43r6 : List I := .op (.fad 28 0 (.tmp 6)) ::
 .op (.ld 29 none (.tmp 28)) ::
 .op (.fad 30 0 (.tmp 7)) ::
 .op (.ld 31 none (.tmp 30)) ::
 .op (.bin 32 .neq (.tmp 29) (.tmp 31)) ::
 .op (.mov 33 (.tmp 32)) ::
 .sc 33 false 5 ::
 .g 33 false (.fad 34 2 (.tmp 6)) ::
 .g 33 false (.ld 35 none (.tmp 34)) ::
 .g 33 false (.fad 36 2 (.tmp 7)) ::
 .g 33 false (.ld 37 none (.tmp 36)) ::
 .g 33 false (.eqb 38 true (.tmp 35) (.tmp 37)) ::
 .op (.pick 39 (.tmp 33) (.const (.bool true)) (.tmp 38)) ::
 .kp [39,0,1,5,6,7] ::
 f43r6a
def f43r7 : List I := [.op (.mov 4 (.const (.bool false))),
 .kp [4]]
def f43r8 : List I := [.op (.mov 8 (.const (.int .i64 0))),
 .kp [0,1,5,6,7,8]]
def f43r9 : List I := [.op (.mov 56 (.tmp 8)),
 .op (.fad 57 1 (.tmp 6)),
 .op (.ld 58 none (.tmp 57)),
 .op (.len 59 true (.tmp 58)),
 .op (.bin 60 .lss (.tmp 56) (.tmp 59)),
 .kp [0,1,5,6,7,8,60]]
def f43r10 : List I := [.op (.fad 63 1 (.tmp 6)),
 .op (.ld 64 none (.tmp 63)),
 .op (.mov 65 (.tmp 8)),
 .op (.iad 66 4 (.tmp 64) (.tmp 65)),
 .op (.ld 67 (some 4) (.tmp 66)),
 .op (.fad 68 1 (.tmp 7)),
 .op (.ld 69 none (.tmp 68)),
 .op (.mov 70 (.tmp 8)),
 .op (.iad 71 4 (.tmp 69) (.tmp 70)),
 .op (.ld 72 (some 4) (.tmp 71)),
 .kp [0,1,5,6,7,8,67,72],
 .op (.eqa 73 true [.i .i64,.i .i64,.b,.s] (.tmp 67) (.tmp 72)),
 .kp [0,1,5,6,7,8,73]]
def f43r11 : List I := [.op (.mov 4 (.const (.bool false))),
 .kp [4]]
def f43r12 : List I := [.op (.mov 61 (.tmp 8)),
 .op (.bin 62 .add (.tmp 61) (.const (.int .i64 1))),
 .op (.mov 8 (.tmp 62)),
 .kp [0,1,5,6,7,8]]
def f43r13 : List I := [.op (.mov 18 (.tmp 5)),
 .op (.bin 19 .add (.tmp 18) (.const (.int .i64 1))),
 .op (.mov 5 (.tmp 19)),
 .kp [0,1,5]]
def f43r14 : List I := [.op (.mov 4 (.const (.bool true))),
 .kp [4]]
def f43c3 : C := (.seq (.reg f43r2) .ret)
def f43c12 : C := (.seq (.reg f43r7) .ret)
def f43c20 : C := (.seq (.reg f43r11) .ret)
def f43c19 : C := (.cond (.tmp 73) f43c20 .skip)
def f43c18 : C := (.seq (.drw f43r10) f43c19)
def f43c21 : C := (.reg f43r12)
def f43c17 : C := (.seq (.block 3 f43c18) f43c21)
def f43c16 : C := (.seq (.cond (.tmp 60) .skip (.exit 2)) f43c17)
def f43c15 : C := (.seq (.reg f43r9) f43c16)
def f43c14 : C := (.block 2 (.loop f43c15))
def f43c13 : C := (.seq (.reg f43r8) f43c14)
def f43c11 : C := (.seq (.cond (.tmp 55) f43c12 .skip) f43c13)
def f43c10 : C := (.seq (.reg f43r6) f43c11)
def f43c9 : C := (.seq (.drt f43r5) f43c10)
def f43c22 : C := (.reg f43r13)
def f43c8 : C := (.seq (.block 1 f43c9) f43c22)
def f43c7 : C := (.seq (.cond (.tmp 17) .skip (.exit 0)) f43c8)
def f43c6 : C := (.seq (.reg f43r4) f43c7)
def f43c23 : C := (.seq (.reg f43r14) .ret)
def f43c5 : C := (.seq (.block 0 (.loop f43c6)) f43c23)
def f43c4 : C := (.seq (.reg f43r3) f43c5)
def f43c2 : C := (.seq (.cond (.tmp 13) f43c3 .skip) f43c4)
def f43c1 : C := (.seq (.reg f43r1) f43c2)
def f43c0 : C := (.seq (.reg f43r0) f43c1)
theorem f43cmp : cmpF Try.prog Try.f43 [.l [.o 0,.kp [0,1]],
 .l [.o 0,.o 1,.o 2,.o 3,.o 4,.kp [0,1,13]],
 .l [.o 0,.kp [4]],
 .l [.o 0,.kp [0,1,5]],
 .l [.o 0,.o 1,.o 2,.o 3,.kp [0,1,5,17]],
 .t (.one [.o 0,.o 1,.o 2,.o 3,.o 4,.o 5,.o 6,.o 7] (.alt (.one [.o 8,.o 9,.o 10,.o 11,.kp [0,1,5,6,7]] .nil) (.one [.o 9,.o 8,.o 10,.o 11,.kp [0,1,5,6,7]] .nil))),
 .l [.o 0,.o 1,.o 2,.o 3,.o 4,.o 5,.sc 33 false 5,.o 6,.o 7,.o 8,.o 9,.o 10,.o 11,.kp [39,0,1,5,6,7],.o 12,.sc 40 false 5,.o 13,.o 14,.o 15,.o 16,.o 17,.o 18,.kp [46,0,1,5,6,7],.o 19,.sc 47 false 7,.o 20,.o 21,.o 22,.o 23,.o 24,.o 25,.o 26,.o 27,.kp [55,0,1,5,6,7]],
 .l [.o 0,.kp [4]],
 .l [.o 0,.kp [0,1,5,6,7,8]],
 .l [.o 0,.o 1,.o 2,.o 3,.o 4,.kp [0,1,5,6,7,8,60]],
 .l [.o 0,.o 1,.o 2,.o 3,.o 4,.o 5,.o 6,.o 7,.o 8,.o 9,.kp [0,1,5,6,7,8,67,72],.o 10,.kp [0,1,5,6,7,8,73]],
 .l [.o 0,.kp [4]],
 .l [.o 0,.o 1,.o 2,.kp [0,1,5,6,7,8]],
 .l [.o 0,.o 1,.o 2,.kp [0,1,5]],
 .l [.o 0,.kp [4]]] = some (f43c0,[.tmp 4]) := by kernel_rfl
theorem f43ok {args : List Value} {h : Heap} {R : Value → Heap → Prop} (hn : args.length ≤ 74) (H : wC Try.prog f43c0 (endW [.tmp 4] R) (envOf 0 args) h) : CallsH Try.prog 43 args h R :=
 fn_ok2 Try.func43 f43cmp hn H
section
variable {P : Program} {Q : X → Env → Heap → Prop} {σ : Env} {h : Heap}
theorem f43c3_eq : wC P f43c3 Q σ h = (wL P none f43r2 0 (fun σ h => Q .ret σ h) σ h) := rfl
theorem f43c12_eq : wC P f43c12 Q σ h = (wL P none f43r7 0 (fun σ h => Q .ret σ h) σ h) := rfl
theorem f43c20_eq : wC P f43c20 Q σ h = (wL P none f43r11 0 (fun σ h => Q .ret σ h) σ h) := rfl
theorem f43c19_eq : wC P f43c19 Q σ h = (bd (evO σ (.tmp 73)) fun v => bd (asB v) fun t => br t (wC P f43c20 Q σ h) (Q .normal σ h)) := rfl
theorem f43c18_eq : wC P f43c18 Q σ h = (drwW P f43r10 (fun σ h => wC P f43c19 Q σ h) σ h) := rfl
theorem f43c21_eq : wC P f43c21 Q σ h = (wL P none f43r12 0 (fun σ h => Q .normal σ h) σ h) := rfl
theorem f43c17_eq : wC P f43c17 Q σ h = (wC P f43c18 (X.inBlock 3 (X.then (fun σ h => wC P f43c21 Q σ h) Q)) σ h) := rfl
theorem f43c16_eq : wC P f43c16 Q σ h = (bd (evO σ (.tmp 60)) fun v => bd (asB v) fun t => br t (wC P f43c17 Q σ h) (Q (.exit 2) σ h)) := rfl
theorem f43c15_eq : wC P f43c15 Q σ h = (wL P none f43r9 0 (fun σ h => wC P f43c16 Q σ h) σ h) := rfl
theorem f43c14_eq : wC P f43c14 Q σ h = (loopW (wC P f43c15) (X.inBlock 2 Q) σ h) := rfl
theorem f43c13_eq : wC P f43c13 Q σ h = (wL P none f43r8 0 (fun σ h => wC P f43c14 Q σ h) σ h) := rfl
theorem f43c11_eq : wC P f43c11 Q σ h = (bd (evO σ (.tmp 55)) fun v => bd (asB v) fun t => br t (wC P f43c12 (X.then (fun σ h => wC P f43c13 Q σ h) Q) σ h) (wC P f43c13 Q σ h)) := rfl
theorem f43c10_eq : wC P f43c10 Q σ h = (wL P none f43r6 0 (fun σ h => wC P f43c11 Q σ h) σ h) := rfl
theorem f43c9_eq : wC P f43c9 Q σ h = (drtW P f43r5 (fun σ h => wC P f43c10 Q σ h) σ h) := rfl
theorem f43c22_eq : wC P f43c22 Q σ h = (wL P none f43r13 0 (fun σ h => Q .normal σ h) σ h) := rfl
theorem f43c8_eq : wC P f43c8 Q σ h = (wC P f43c9 (X.inBlock 1 (X.then (fun σ h => wC P f43c22 Q σ h) Q)) σ h) := rfl
theorem f43c7_eq : wC P f43c7 Q σ h = (bd (evO σ (.tmp 17)) fun v => bd (asB v) fun t => br t (wC P f43c8 Q σ h) (Q (.exit 0) σ h)) := rfl
theorem f43c6_eq : wC P f43c6 Q σ h = (wL P none f43r4 0 (fun σ h => wC P f43c7 Q σ h) σ h) := rfl
theorem f43c23_eq : wC P f43c23 Q σ h = (wL P none f43r14 0 (fun σ h => Q .ret σ h) σ h) := rfl
theorem f43c5_eq : wC P f43c5 Q σ h = (loopW (wC P f43c6) (X.inBlock 0 (X.then (fun σ h => wC P f43c23 Q σ h) Q)) σ h) := rfl
theorem f43c4_eq : wC P f43c4 Q σ h = (wL P none f43r3 0 (fun σ h => wC P f43c5 Q σ h) σ h) := rfl
theorem f43c2_eq : wC P f43c2 Q σ h = (bd (evO σ (.tmp 13)) fun v => bd (asB v) fun t => br t (wC P f43c3 (X.then (fun σ h => wC P f43c4 Q σ h) Q) σ h) (wC P f43c4 Q σ h)) := rfl
theorem f43c1_eq : wC P f43c1 Q σ h = (wL P none f43r1 0 (fun σ h => wC P f43c2 Q σ h) σ h) := rfl
theorem f43c0_eq : wC P f43c0 Q σ h = (wL P none f43r0 0 (fun σ h => wC P f43c1 Q σ h) σ h) := rfl
end
section
variable {P : Program} {Q : X → Env → Heap → Prop} {σ : Env} {h : Heap}
end
section
variable {P : Program} {Q : X → Env → Heap → Prop} {σ : Env} {h : Heap}
end
end Go.Proofs.Ytefghfgmkndikaa
namespace Go.Proofs.Ytefghfgmkndikaa
open Go.AX
set_option maxRecDepth 100000
def f92r0 : List I := [.op (.box 3 94 (.tmp 1)),
 .op (.mov 4 (.const (.slice none 0 0))),
 .kp [0,3]]
def f92r1 : List I := [.op (.fad 9 1 (.tmp 3)),
 .op (.ld 10 none (.tmp 9)),
 .op (.fad 11 0 (.tmp 3)),
 .op (.ld 12 none (.tmp 11)),
 .op (.bin 13 .leq (.tmp 10) (.tmp 12)),
 .kp [0,3,13]]
def f92r2 : List I := [.op (.mov 4 (.const (.slice none 0 0))),
 .kp [4]]
def f92r3 : List I := [.op (.mov 15 (.tmp 0)),
 .op (.fad 16 0 (.tmp 3)),
 .op (.ld 17 none (.tmp 16)),
 .op (.call (some 18) 87 [(.tmp 15),(.tmp 17)]),
 .op (.mov 14 (.tmp 18)),
 .op (.ext 19 (.tmp 14) 0),
 .op (.ext 20 (.tmp 14) 1),
 .op (.mov 5 (.tmp 19)),
 .op (.mov 6 (.tmp 20)),
 .kp [0,3,5]]
def f92r4 : List I := [.op (.mov 22 (.tmp 0)),
 .op (.fad 23 1 (.tmp 3)),
 .op (.ld 24 none (.tmp 23)),
 .op (.call (some 25) 87 [(.tmp 22),(.tmp 24)]),
 .op (.mov 21 (.tmp 25)),
 .op (.ext 26 (.tmp 21) 0),
 .op (.ext 27 (.tmp 21) 1),
 .op (.mov 7 (.tmp 26)),
 .op (.mov 8 (.tmp 27)),
 .kp [0,5,7]]
def f92r5 : List I := [.op (.mov 28 (.tmp 0)),
 .op (.mov 29 (.tmp 5)),
 .op (.mov 30 (.tmp 7)),
 .op (.mov 31 (.tmp 5)),
 .op (.mm 32 true (.tmp 30) (.tmp 31)),
 .op (.slc 33 12 (.tmp 28) (some (.tmp 29)) (some (.tmp 32)) none),
 .op (.mov 4 (.tmp 33)),
 .kp [4]]
def f92c3 : C := (.seq (.reg f92r2) .ret)
def f92c6 : C := (.seq (.reg f92r5) .ret)
def f92c5 : C := (.seq (.reg f92r4) f92c6)
def f92c4 : C := (.seq (.reg f92r3) f92c5)
def f92c2 : C := (.seq (.cond (.tmp 13) f92c3 .skip) f92c4)
def f92c1 : C := (.seq (.reg f92r1) f92c2)
def f92c0 : C := (.seq (.reg f92r0) f92c1)
theorem f92cmp : cmpF Try.prog Try.f92 [.l [.o 0,.o 1,.kp [0,3]],
 .l [.o 0,.o 1,.o 2,.o 3,.o 4,.kp [0,3,13]],
 .l [.o 0,.kp [4]],
 .l [.o 0,.o 1,.o 2,.o 3,.o 4,.o 5,.o 6,.o 7,.o 8,.kp [0,3,5]],
 .l [.o 0,.o 1,.o 2,.o 3,.o 4,.o 5,.o 6,.o 7,.o 8,.kp [0,5,7]],
 .l [.o 0,.o 1,.o 2,.o 3,.o 4,.o 5,.o 6,.kp [4]]] = some (f92c0,[.tmp 4]) := by kernel_rfl
theorem f92ok {args : List Value} {h : Heap} {R : Value → Heap → Prop} (hn : args.length ≤ 34) (H : wC Try.prog f92c0 (endW [.tmp 4] R) (envOf 0 args) h) : CallsH Try.prog 92 args h R :=
 fn_ok2 Try.func92 f92cmp hn H
section
variable {P : Program} {Q : X → Env → Heap → Prop} {σ : Env} {h : Heap}
theorem f92c3_eq : wC P f92c3 Q σ h = (wL P none f92r2 0 (fun σ h => Q .ret σ h) σ h) := rfl
theorem f92c6_eq : wC P f92c6 Q σ h = (wL P none f92r5 0 (fun σ h => Q .ret σ h) σ h) := rfl
theorem f92c5_eq : wC P f92c5 Q σ h = (wL P none f92r4 0 (fun σ h => wC P f92c6 Q σ h) σ h) := rfl
theorem f92c4_eq : wC P f92c4 Q σ h = (wL P none f92r3 0 (fun σ h => wC P f92c5 Q σ h) σ h) := rfl
theorem f92c2_eq : wC P f92c2 Q σ h = (bd (evO σ (.tmp 13)) fun v => bd (asB v) fun t => br t (wC P f92c3 (X.then (fun σ h => wC P f92c4 Q σ h) Q) σ h) (wC P f92c4 Q σ h)) := rfl
theorem f92c1_eq : wC P f92c1 Q σ h = (wL P none f92r1 0 (fun σ h => wC P f92c2 Q σ h) σ h) := rfl
theorem f92c0_eq : wC P f92c0 Q σ h = (wL P none f92r0 0 (fun σ h => wC P f92c1 Q σ h) σ h) := rfl
end
def f44r0 : List I := [.op (.new 4 72 [.int .i64 0,.int .i64 0,.int .i64 0,.int .i64 0,.int .i64 0,.int .i64 0,.int .i64 0,.bool false,.string ⟨#[]⟩]),
 .op (.mov 5 (.const (.bool false))),
 .kp [0,1,4]]
def f44r1 : List I := [.op (.mov 9 (.tmp 0)),
 .op (.mov 10 (.tmp 1)),
 .op (.call (some 11) 87 [(.tmp 9),(.tmp 10)]),
 .op (.mov 8 (.tmp 11)),
 .op (.ext 12 (.tmp 8) 0),
 .op (.ext 13 (.tmp 8) 1),
 .op (.mov 6 (.tmp 12)),
 .op (.mov 7 (.tmp 13)),
 .kp [0,4,6,7]]
def f44r2 : List I := [.op (.mov 14 (.tmp 7)),
 .op (.un 15 .not (.tmp 14)),
 .op (.mov 16 (.tmp 15)),
 .sc 16 false 6,
 .g 16 false (.mov 17 (.tmp 0)),
 .g 16 false (.mov 18 (.tmp 6)),
 .g 16 false (.iad 19 12 (.tmp 17) (.tmp 18)),
 .g 16 false (.fad 20 2 (.tmp 19)),
 .g 16 false (.ld 21 none (.tmp 20)),
 .g 16 false (.un 22 .not (.tmp 21)),
 .op (.pick 23 (.tmp 16) (.const (.bool true)) (.tmp 22)),
 .kp [23,0,4,6]]
def f44r3 : List I := [.op (.bld 24 [.int .i64 0,.int .i64 0,.int .i64 0,.int .i64 0,.int .i64 0,.int .i64 0,.int .i64 0,.bool false,.string ⟨#[]⟩] []),
 .op (.st 9 (.tmp 4) (.tmp 24)),
 .op (.mov 5 (.const (.bool false))),
 .kp [4,5]]
def f44r4 : List I := [.op (.mov 25 (.tmp 0)),
 .op (.mov 26 (.tmp 6)),
 .op (.iad 27 12 (.tmp 25) (.tmp 26)),
 .op (.fad 28 3 (.tmp 27)),
 .op (.ld 29 (some 9) (.tmp 28)),
 .op (.st 9 (.tmp 4) (.tmp 29)),
 .op (.mov 5 (.const (.bool true))),
 .kp [4,5]]
def f44c4 : C := (.seq (.reg f44r3) .ret)
def f44c5 : C := (.seq (.reg f44r4) .ret)
def f44c3 : C := (.seq (.cond (.tmp 23) f44c4 .skip) f44c5)
def f44c2 : C := (.seq (.reg f44r2) f44c3)
def f44c1 : C := (.seq (.reg f44r1) f44c2)
def f44c0 : C := (.seq (.reg f44r0) f44c1)
theorem f44cmp : cmpF Try.prog Try.f44 [.l [.o 0,.o 1,.kp [0,1,4]],
 .l [.o 0,.o 1,.o 2,.o 3,.o 4,.o 5,.o 6,.o 7,.kp [0,4,6,7]],
 .l [.o 0,.o 1,.o 2,.sc 16 false 6,.o 3,.o 4,.o 5,.o 6,.o 7,.o 8,.o 9,.kp [23,0,4,6]],
 .l [.o 0,.o 1,.o 2,.kp [4,5]],
 .l [.o 0,.o 1,.o 2,.o 3,.o 4,.o 5,.o 6,.kp [4,5]]] = some (f44c0,[.cell 4 9,.tmp 5]) := by kernel_rfl
theorem f44ok {args : List Value} {h : Heap} {R : Value → Heap → Prop} (hn : args.length ≤ 30) (H : wC Try.prog f44c0 (endW [.cell 4 9,.tmp 5] R) (envOf 0 args) h) : CallsH Try.prog 44 args h R :=
 fn_ok2 Try.func44 f44cmp hn H
section
variable {P : Program} {Q : X → Env → Heap → Prop} {σ : Env} {h : Heap}
theorem f44c4_eq : wC P f44c4 Q σ h = (wL P none f44r3 0 (fun σ h => Q .ret σ h) σ h) := rfl
theorem f44c5_eq : wC P f44c5 Q σ h = (wL P none f44r4 0 (fun σ h => Q .ret σ h) σ h) := rfl
theorem f44c3_eq : wC P f44c3 Q σ h = (bd (evO σ (.tmp 23)) fun v => bd (asB v) fun t => br t (wC P f44c4 (X.then (fun σ h => wC P f44c5 Q σ h) Q) σ h) (wC P f44c5 Q σ h)) := rfl
theorem f44c2_eq : wC P f44c2 Q σ h = (wL P none f44r2 0 (fun σ h => wC P f44c3 Q σ h) σ h) := rfl
theorem f44c1_eq : wC P f44c1 Q σ h = (wL P none f44r1 0 (fun σ h => wC P f44c2 Q σ h) σ h) := rfl
theorem f44c0_eq : wC P f44c0 Q σ h = (wL P none f44r0 0 (fun σ h => wC P f44c1 Q σ h) σ h) := rfl
end
def f47r0 : List I := [.op (.box 5 94 (.tmp 1)),
 .op (.box 6 39 (.tmp 2)),
 .op (.mov 8 (.const (.slice none 0 0))),
 .op (.mov 9 (.const (.int .i64 0))),
 .kp [0,3,5,6]]
def f47r1 : List I := [.op (.mov 10 (.const (.slice none 0 0))),
 .kp [0,3,5,6,10]]
def f47r2 : List I := [.op (.mov 15 (.tmp 0)),
 .op (.ld 16 (some 2) (.tmp 5)),
 .op (.call (some 17) 92 [(.tmp 15),(.tmp 16)]),
 .op (.len 18 true (.tmp 17)),
 .op (.mov 19 (.const (.int .i64 0))),
 .kp [3,6,10,17,18,19]]
def f47r3 : List I := [.op (.bin 20 .lss (.tmp 19) (.tmp 18)),
 .kp [3,6,10,17,18,19,20]]
def f47r4 : List I := [.op (.iad 21 12 (.tmp 17) (.tmp 19)),
 .op (.ld 22 (some 12) (.tmp 21)),
 .op (.new 12 103 [.string ⟨#[]⟩,.slice none 0 0,.bool false,.int .i64 0,.int .i64 0,.int .i64 0,.int .i64 0,.int .i64 0,.int .i64 0,.int .i64 0,.bool false,.string ⟨#[]⟩]),
 .op (.st 12 (.tmp 12) (.tmp 22)),
 .kp [3,6,10,12,17,18,19]]
def f47r5 : List I := [.op (.ld 24 (some 12) (.tmp 12)),
 .op (.ld 25 (some 2) (.tmp 6)),
 .op (.call (some 26) 89 [(.tmp 24),(.tmp 25)]),
 .op (.mov 23 (.tmp 26)),
 .op (.ext 27 (.tmp 23) 0),
 .op (.ext 28 (.tmp 23) 1),
 .op (.mov 13 (.tmp 27)),
 .op (.mov 14 (.tmp 28)),
 .kp [3,6,10,12,13,14,17,18,19]]
def f47r6 : List I := [.op (.mov 29 (.tmp 14)),
 .op (.un 30 .not (.tmp 29)),
 .kp [3,6,10,12,13,17,18,19,30]]
def f47r7 : List I := [.op (.mov 31 (.tmp 10)),
 .op (.len 32 true (.tmp 31)),
 .op (.mov 33 (.tmp 3)),
 .op (.bin 34 .geq (.tmp 32) (.tmp 33)),
 .kp [3,6,10,12,13,17,18,19,34]]
def f47r8 : List I := [.op (.mov 8 (.const (.slice none 0 0))),
 .op (.mov 9 (.const (.int .i64 3))),
 .kp [8,9]]
def f47r9 : List I := [.op (.mov 35 (.tmp 10)),
 .op (.fad 36 0 (.tmp 12)),
 .op (.ld 37 none (.tmp 36)),
 .op (.mov 38 (.tmp 13)),
 .op (.bld 39 [.string ⟨#[]⟩,.string ⟨#[]⟩] [(0,1,(.tmp 37)),(1,1,(.tmp 38))]),
 .op (.bsl 40 99 1 [.string ⟨#[]⟩,.string ⟨#[]⟩] [(0,2,(.tmp 39))]),
 .op (.raw (some 41) ⟨(some 41), (.call ⟨(.builtin .append), #[(.tmp 35), (.tmp 40)], #[45, 45]⟩), 45, "mvcc.go:91", #[⟨0, .data⟩, ⟨5, .data⟩], none⟩),
 .op (.mov 10 (.tmp 41)),
 .kp [3,6,10,17,18,19]]
def f47r10 : List I := [.op (.bin 42 .add (.tmp 19) (.const (.int .i64 1))),
 .op (.mov 19 (.tmp 42)),
 .kp [3,6,10,17,18,19]]
def f47r11 : List I := [.op (.mov 43 (.tmp 10)),
 .op (.mov 8 (.tmp 43)),
 .op (.mov 9 (.const (.int .i64 0))),
 .kp [8,9]]
def f47c13 : C := (.seq (.reg f47r8) .ret)
def f47c14 : C := (.reg f47r9)
def f47c12 : C := (.seq (.cond (.tmp 34) f47c13 .skip) f47c14)
def f47c11 : C := (.seq (.reg f47r7) f47c12)
def f47c10 : C := (.seq (.cond (.tmp 30) (.exit 1) .skip) f47c11)
def f47c9 : C := (.seq (.reg f47r6) f47c10)
def f47c8 : C := (.seq (.reg f47r5) f47c9)
def f47c7 : C := (.seq (.reg f47r4) f47c8)
def f47c15 : C := (.reg f47r10)
def f47c6 : C := (.seq (.block 1 f47c7) f47c15)
def f47c5 : C := (.seq (.cond (.tmp 20) .skip (.exit 0)) f47c6)
def f47c4 : C := (.seq (.reg f47r3) f47c5)
def f47c16 : C := (.seq (.reg f47r11) .ret)
def f47c3 : C := (.seq (.block 0 (.loop f47c4)) f47c16)
def f47c2 : C := (.seq (.reg f47r2) f47c3)
def f47c1 : C := (.seq (.reg f47r1) f47c2)
def f47c0 : C := (.seq (.reg f47r0) f47c1)
theorem f47cmp : cmpF Try.prog Try.f47 [.l [.o 0,.o 1,.o 2,.o 3,.kp [0,3,5,6]],
 .l [.o 0,.kp [0,3,5,6,10]],
 .l [.o 0,.o 1,.o 2,.o 3,.o 4,.kp [3,6,10,17,18,19]],
 .l [.o 0,.kp [3,6,10,17,18,19,20]],
 .l [.o 0,.o 1,.o 2,.o 3,.kp [3,6,10,12,17,18,19]],
 .l [.o 0,.o 1,.o 2,.o 3,.o 4,.o 5,.o 6,.o 7,.kp [3,6,10,12,13,14,17,18,19]],
 .l [.o 0,.o 1,.kp [3,6,10,12,13,17,18,19,30]],
 .l [.o 0,.o 1,.o 2,.o 3,.kp [3,6,10,12,13,17,18,19,34]],
 .l [.o 0,.o 1,.kp [8,9]],
 .l [.o 0,.o 1,.o 2,.o 3,.o 4,.o 5,.o 6,.o 7,.kp [3,6,10,17,18,19]],
 .l [.o 0,.o 1,.kp [3,6,10,17,18,19]],
 .l [.o 0,.o 1,.o 2,.kp [8,9]]] = some (f47c0,[.tmp 8,.tmp 9]) := by kernel_rfl
theorem f47ok {args : List Value} {h : Heap} {R : Value → Heap → Prop} (hn : args.length ≤ 44) (H : wC Try.prog f47c0 (endW [.tmp 8,.tmp 9] R) (envOf 0 args) h) : CallsH Try.prog 47 args h R :=
 fn_ok2 Try.func47 f47cmp hn H
section
variable {P : Program} {Q : X → Env → Heap → Prop} {σ : Env} {h : Heap}
theorem f47c13_eq : wC P f47c13 Q σ h = (wL P none f47r8 0 (fun σ h => Q .ret σ h) σ h) := rfl
theorem f47c14_eq : wC P f47c14 Q σ h = (wL P none f47r9 0 (fun σ h => Q .normal σ h) σ h) := rfl
theorem f47c12_eq : wC P f47c12 Q σ h = (bd (evO σ (.tmp 34)) fun v => bd (asB v) fun t => br t (wC P f47c13 (X.then (fun σ h => wC P f47c14 Q σ h) Q) σ h) (wC P f47c14 Q σ h)) := rfl
theorem f47c11_eq : wC P f47c11 Q σ h = (wL P none f47r7 0 (fun σ h => wC P f47c12 Q σ h) σ h) := rfl
theorem f47c10_eq : wC P f47c10 Q σ h = (bd (evO σ (.tmp 30)) fun v => bd (asB v) fun t => br t (Q (.exit 1) σ h) (wC P f47c11 Q σ h)) := rfl
theorem f47c9_eq : wC P f47c9 Q σ h = (wL P none f47r6 0 (fun σ h => wC P f47c10 Q σ h) σ h) := rfl
theorem f47c8_eq : wC P f47c8 Q σ h = (wL P none f47r5 0 (fun σ h => wC P f47c9 Q σ h) σ h) := rfl
theorem f47c7_eq : wC P f47c7 Q σ h = (wL P none f47r4 0 (fun σ h => wC P f47c8 Q σ h) σ h) := rfl
theorem f47c15_eq : wC P f47c15 Q σ h = (wL P none f47r10 0 (fun σ h => Q .normal σ h) σ h) := rfl
theorem f47c6_eq : wC P f47c6 Q σ h = (wC P f47c7 (X.inBlock 1 (X.then (fun σ h => wC P f47c15 Q σ h) Q)) σ h) := rfl
theorem f47c5_eq : wC P f47c5 Q σ h = (bd (evO σ (.tmp 20)) fun v => bd (asB v) fun t => br t (wC P f47c6 Q σ h) (Q (.exit 0) σ h)) := rfl
theorem f47c4_eq : wC P f47c4 Q σ h = (wL P none f47r3 0 (fun σ h => wC P f47c5 Q σ h) σ h) := rfl
theorem f47c16_eq : wC P f47c16 Q σ h = (wL P none f47r11 0 (fun σ h => Q .ret σ h) σ h) := rfl
theorem f47c3_eq : wC P f47c3 Q σ h = (loopW (wC P f47c4) (X.inBlock 0 (X.then (fun σ h => wC P f47c16 Q σ h) Q)) σ h) := rfl
theorem f47c2_eq : wC P f47c2 Q σ h = (wL P none f47r2 0 (fun σ h => wC P f47c3 Q σ h) σ h) := rfl
theorem f47c1_eq : wC P f47c1 Q σ h = (wL P none f47r1 0 (fun σ h => wC P f47c2 Q σ h) σ h) := rfl
theorem f47c0_eq : wC P f47c0 Q σ h = (wL P none f47r0 0 (fun σ h => wC P f47c1 Q σ h) σ h) := rfl
end
end Go.Proofs.Ytefghfgmkndikaa
namespace Go.Proofs.Ytefghfgmkndikaa
open Go Go.AX
theorem cell_eq_iff (x y : Cell) : x = y ↔ x.key = y.key ∧ x.locked = y.locked ∧ x.lock = y.lock ∧ x.vers = y.vers := by
 constructor
 ·rintro rfl; simp
 ·rintro ⟨h1,h2,h3,h4⟩
  cases x; cases y; simp_all
theorem list_eq_iff {α : Type} {l m : List α} (hl : l.length = m.length) (h : ∀ (i : Nat) (a b : α),l[i]? = some a → m[i]? = some b → a = b) : l = m := by
 apply List.ext_getElem hl
 intro i h1 h2
 exact h i _ _ (List.getElem?_eq_getElem h1) (List.getElem?_eq_getElem h2)
theorem eqA_ver (neg : Bool) (s t : Ver) : eqA neg [.i .i64,.i .i64,.b,.s] (.agg (eVer s).toArray) (.agg (eVer t).toArray) = some (.bool (if neg then !decide (s = t) else decide (s = t))) := by
 obtain ⟨⟨a1,a2⟩,b1,c1⟩ := s
 obtain ⟨⟨a1',a2'⟩,b1',c1'⟩ := t
 have : (a1 == a1' && (a2 == a2' && (b1 == b1' && c1.toList == c1'.toList))) = decide ((⟨⟨a1,a2⟩,b1,c1⟩ : Ver) = ⟨⟨a1',a2'⟩,b1',c1'⟩) := by
  rw [keq_iff,Bool.eq_iff_iff]; simp [and_assoc]
 simp only [eqA,eVer,eqKds,eqKd,and_self,if_true,Option.bind_some,Option.map_some,Bool.and_true,this]
theorem eqA_verN (s t : Ver) : eqA true [.i .i64,.i .i64,.b,.s] (.agg (eVer s).toArray) (.agg (eVer t).toArray) = some (.bool (!decide (s = t))) := eqA_ver true s t
theorem eqA_lck2 (s t : Lck) : eqA true [.i .i64,.i .i64,.i .i64,.i .i64,.i .i64,.i .i64,.i .i64,.b,.s] (.agg #[vi s.by_.node,vi s.by_.life,vi s.by_.seq,vi s.by_.attempt,vi s.home,vi s.at_.wall,vi s.at_.tie,.bool s.drop,.string s.data])
  (.agg #[vi t.by_.node,vi t.by_.life,vi t.by_.seq,vi t.by_.attempt,vi t.home,vi t.at_.wall,vi t.at_.tie,.bool t.drop,.string t.data]) = some (.bool (!decide (s = t))) := eqA_lckN s t
theorem same_ok {B B' : Nat → Prop} {a a' : Option Addr} {c c' : Nat} (cs ds : List Cell) (h : Heap) (S : SlC B h a cs) (S' : SlC B' h a' ds) (hn : cs.length ≤ big) (F : ∀ c ∈ cs,c.vers.length ≤ big) {R : Value → Heap → Prop}
  (hR : ∀ b,(b = true ↔ cs = ds) → ∀ h',Ext h h' → R (.bool b) h') : CallsH Try.prog 43 [.slice a cs.length c,.slice a' ds.length c'] h R := by
 have hbig : big = 1000000 := rfl
 refine f43ok (by simp) ?_
 (try simp (maxSteps:=1000000) (disch:=first|exact Lb rfl|omega) only [AXS,AXB,J.dst,reduceIte,Z1,Z2,Z3,Z4,Z5]); rw [f43c0_eq]; (try simp (maxSteps:=1000000) (disch:=first|exact Lb rfl|omega) only [AXS,AXB,J.dst,reduceIte,Z1,Z2,Z3,Z4,Z5,f43r0]); rw [f43c1_eq]; (try simp (maxSteps:=1000000) (disch:=first|exact Lb rfl|omega) only [AXS,AXB,J.dst,reduceIte,Z1,Z2,Z3,Z4,Z5,f43r1]); rw [f43c2_eq]; (try simp (maxSteps:=1000000) (disch:=first|exact Lb rfl|omega) only [AXS,AXB,J.dst,reduceIte,Z1,Z2,Z3,Z4,Z5])
 refine ⟨fun hh => ?_,fun hh => ?_⟩
 ·(try simp (maxSteps:=1000000) (disch:=first|exact Lb rfl|omega) only [AXS,AXB,J.dst,reduceIte,Z1,Z2,Z3,Z4,Z5]); rw [f43c3_eq]; (try simp (maxSteps:=1000000) (disch:=first|exact Lb rfl|omega) only [AXS,AXB,J.dst,reduceIte,Z1,Z2,Z3,Z4,Z5,f43r2])
  refine hR false ⟨fun h => (by cases h),fun h => ?_⟩ _ (Ext.refl _)
  subst h; simp at hh
 have hlen : cs.length = ds.length := Int.ofNat.inj (by simpa using hh)
 (try simp (maxSteps:=1000000) (disch:=first|exact Lb rfl|omega) only [AXS,AXB,J.dst,reduceIte,Z1,Z2,Z3,Z4,Z5]); rw [f43c4_eq]; (try simp (maxSteps:=1000000) (disch:=first|exact Lb rfl|omega) only [AXS,AXB,J.dst,reduceIte,Z1,Z2,Z3,Z4,Z5,f43r3])
 rw [f43c5_eq]
 refine loop_in (fun n σ h' => Ext h h' ∧ ∃ k : Nat,k + n = cs.length ∧ σ = [(0,.slice a cs.length c),(1,.slice a' ds.length c'),(5,vi k)] ∧ ∀ j x y,j < k → cs[j]? = some x → ds[j]? = some y → x = y) cs.length ⟨Ext.refl _,0,by omega,rfl,by intros; omega⟩ ?_
 rintro n σ h1 ⟨e1,k,hk,rfl,hok⟩ Q' hnx hex hrt _
 (try simp (maxSteps:=1000000) (disch:=first|exact Lb rfl|omega) only [AXS,AXB,J.dst,reduceIte,Z1,Z2,Z3,Z4,Z5]); rw [f43c6_eq]; (try simp (maxSteps:=1000000) (disch:=first|exact Lb rfl|omega) only [AXS,AXB,J.dst,reduceIte,Z1,Z2,Z3,Z4,Z5,f43r4]); rw [f43c7_eq]; (try simp (maxSteps:=1000000) (disch:=first|exact Lb rfl|omega) only [AXS,AXB,J.dst,reduceIte,Z1,Z2,Z3,Z4,Z5])
 refine ⟨fun h2 => ?_,fun h2 => ?_⟩
 ·have hkl : k < cs.length := by have := of_decide_eq_true h2; omega
  obtain ⟨x,hx⟩ := get_ex hkl
  obtain ⟨y,hy⟩ := get_ex (l := ds) (k := k) (by omega)
  obtain ⟨b,o,v,rfl,_,hrow,hcr⟩ := (S.ext e1).elem hx
  obtain ⟨b',o',v',rfl,_,hrow',hcr'⟩ := (S'.ext e1).elem hy
  have hlb := hrow.lt (by rw [eCV_len]; omega)
  have hlb' := hrow'.lt (by rw [eCV_len]; omega)
  have hno : x ≠ y → ∀ h8,Ext h1 h8 → Q' .ret [(4,.bool false)] h8 := fun hne h8 e8 => hrt _ _ (by
   try simp (maxSteps:=1000000) (disch:=first|exact Lb rfl|omega) only [AXS,AXB,J.dst,reduceIte,Z1,Z2,Z3,Z4,Z5]
   refine hR false ⟨fun h => (by cases h),fun h => ?_⟩ _ (e1.trans e8)
   subst h
   rw [hx] at hy; cases hy
   exact absurd rfl hne)
  -- behind the two new variables
  have mid : ∀ (h5 : Heap) (b6 b7 : Nat),Ext h1 h5 → Blk h5 b6 103 (eCV v) → Blk h5 b7 103 (eCV v') →
    wC Try.prog f43c10 (X.inBlock 1 (X.then (fun σ h => wC Try.prog f43c22 Q' σ h) Q')) [(0,.slice (some ⟨b,o,none⟩) cs.length c),(1,.slice (some ⟨b',o',none⟩) ds.length c'),(5,vi k),(6,ptr b6 0),(7,ptr b7 0)] h5 := by
   intro h5 b6 b7 e5 B6 B7
   have h1k := hcr.key
   have h2k := hcr'.key
   have h1l := hcr.locked
   have h2l := hcr'.locked
   have h1o := hcr.lock
   have h2o := hcr'.lock
   have h1v := hcr.vn
   have h2v := hcr'.vn
   rw [f43c10_eq]
   simp (maxSteps:=1000000) (disch:=first|exact Lb rfl|omega) only [AXJ,AXS,AXB,J.dst,reduceIte,Z1,Z2,Z3,Z4,Z5,f43r6,B6.cel,B7.cel,eCV,h1k,h2k,h1l,h2l,keq_iff]
   simp (maxSteps:=1000000) (disch:=first|exact Lb rfl|omega) only [AXJ,AXS,AXB,J.dst,reduceIte,Z1,Z2,Z3,Z4,Z5,f43r6a,B6.rd,B7.rd,eCV,h1o,h2o,eqA_lck2]
   simp (maxSteps:=1000000) (disch:=first|exact Lb rfl|omega) only [AXJ,AXS,AXB,J.dst,reduceIte,Z1,Z2,Z3,Z4,Z5,f43r6b,B6.cel,B7.cel,eCV,h1v,h2v]
   have ht : ((!decide (x.key = y.key) || !x.locked == y.locked || !decide (x.lock = y.lock) || (x.vers.length : Int) != y.vers.length) = false) ↔ (x.key = y.key ∧ x.locked = y.locked ∧ x.lock = y.lock ∧ x.vers.length = y.vers.length) := by
    simp [and_assoc]
    omega
   revert ht
   generalize (!decide (x.key = y.key) || !x.locked == y.locked || !decide (x.lock = y.lock) || (x.vers.length : Int) != y.vers.length) = t
   intro ht
   cases t with
   | true =>
    (try simp (maxSteps:=1000000) (disch:=first|exact Lb rfl|omega) only [AXS,AXB,J.dst,reduceIte,Z1,Z2,Z3,Z4,Z5]); rw [f43c11_eq]; (try simp (maxSteps:=1000000) (disch:=first|exact Lb rfl|omega) only [AXS,AXB,J.dst,reduceIte,Z1,Z2,Z3,Z4,Z5]); rw [f43c12_eq]; (try simp (maxSteps:=1000000) (disch:=first|exact Lb rfl|omega) only [AXS,AXB,J.dst,reduceIte,Z1,Z2,Z3,Z4,Z5,f43r7])
    refine hno ?_ _ e5
    rintro rfl
    have := ht.2 ⟨rfl,rfl,rfl,rfl⟩
    cases this
   | false =>
    obtain ⟨q1,q2,q3,q4⟩ := ht.1 rfl
    have SV := hcr.vers.ext e5
    have SV' := hcr'.vers.ext e5
    have hvl := F x (List.mem_of_getElem? hx)
    (try simp (maxSteps:=1000000) (disch:=first|exact Lb rfl|omega) only [AXS,AXB,J.dst,reduceIte,Z1,Z2,Z3,Z4,Z5]); rw [f43c11_eq]; (try simp (maxSteps:=1000000) (disch:=first|exact Lb rfl|omega) only [AXS,AXB,J.dst,reduceIte,Z1,Z2,Z3,Z4,Z5]); rw [f43c13_eq]; (try simp (maxSteps:=1000000) (disch:=first|exact Lb rfl|omega) only [AXS,AXB,J.dst,reduceIte,Z1,Z2,Z3,Z4,Z5,f43r8])
    rw [f43c14_eq]
    refine loop_in1 (fun n' σ h' => Ext h5 h' ∧ ∃ i : Nat,i + n' = x.vers.length ∧ σ = [(0,.slice (some ⟨b,o,none⟩) cs.length c),(1,.slice (some ⟨b',o',none⟩) ds.length c'),(5,vi k),(6,ptr b6 0),(7,ptr b7 0),(8,vi i)] ∧
     ∀ j w w',j < i → x.vers[j]? = some w → y.vers[j]? = some w' → w = w') x.vers.length ⟨Ext.refl _,0,by omega,rfl,by intros; omega⟩ ?_
    rintro n2 σ h6 ⟨e6,i,hi,rfl,hokv⟩ Q2 hnx2 hex2 hrt2 _
    replace B6 := B6.ext e6
    replace B7 := B7.ext e6
    (try simp (maxSteps:=1000000) (disch:=first|exact Lb rfl|omega) only [AXS,AXB,J.dst,reduceIte,Z1,Z2,Z3,Z4,Z5]); rw [f43c15_eq]; (try simp (maxSteps:=1000000) (disch:=first|exact Lb rfl|omega) only [AXS,AXB,J.dst,reduceIte,Z1,Z2,Z3,Z4,Z5,f43r9,B6.cel,eCV,h1v])
    (try simp (maxSteps:=1000000) (disch:=first|exact Lb rfl|omega) only [AXS,AXB,J.dst,reduceIte,Z1,Z2,Z3,Z4,Z5]); rw [f43c16_eq]; (try simp (maxSteps:=1000000) (disch:=first|exact Lb rfl|omega) only [AXS,AXB,J.dst,reduceIte,Z1,Z2,Z3,Z4,Z5])
    refine ⟨fun h7 => ?_,fun h7 => ?_⟩
    ·have hil : i < x.vers.length := by have := of_decide_eq_true h7; omega
     obtain ⟨w,hw⟩ := get_ex hil
     obtain ⟨w',hw'⟩ := get_ex (l := y.vers) (k := i) (by omega)
     obtain ⟨vb,vo,hva,_,hrowv⟩ := (SV.ext e6).elem eVer_len hw
     obtain ⟨vb',vo',hva',_,hrowv'⟩ := (SV'.ext e6).elem eVer_len hw'
     have l1 := hrowv.lt (by rw [eVer_len]; omega)
     have l2 := hrowv'.lt (by rw [eVer_len]; omega)
     have l3 := B6.lt
     have l4 := B7.lt
     (try simp (maxSteps:=1000000) (disch:=first|exact Lb rfl|omega) only [AXS,AXB,J.dst,reduceIte,Z1,Z2,Z3,Z4,Z5]); rw [f43c17_eq]; (try simp (maxSteps:=1000000) (disch:=first|exact Lb rfl|omega) only [AXS,AXB,J.dst,reduceIte,Z1,Z2,Z3,Z4,Z5])
     rw [f43c18_eq]
     refine drw_lt ?_
     simp (maxSteps:=1000000) (disch:=first|exact Lb rfl|omega) only [AXS,AXB,J.dst,reduceIte,Z1,Z2,Z3,Z4,Z5,f43r10,B6.cel,B7.cel,eCV,h1v,h2v,hva,hva',row_ver hrowv,row_ver hrowv',eqA_verN]
     refine ⟨by omega,by omega,by omega,by omega,by omega,by omega,by omega,by omega,?_⟩
     (try simp (maxSteps:=1000000) (disch:=first|exact Lb rfl|omega) only [AXS,AXB,J.dst,reduceIte,Z1,Z2,Z3,Z4,Z5]); rw [f43c19_eq]; (try simp (maxSteps:=1000000) (disch:=first|exact Lb rfl|omega) only [AXS,AXB,J.dst,reduceIte,Z1,Z2,Z3,Z4,Z5])
     refine ⟨fun h8 => ?_,fun h8 => ?_⟩
     ·have hne : ¬ w = w' := by simpa using h8
      (try simp (maxSteps:=1000000) (disch:=first|exact Lb rfl|omega) only [AXS,AXB,J.dst,reduceIte,Z1,Z2,Z3,Z4,Z5]); rw [f43c20_eq]; (try simp (maxSteps:=1000000) (disch:=first|exact Lb rfl|omega) only [AXS,AXB,J.dst,reduceIte,Z1,Z2,Z3,Z4,Z5,f43r11])
      refine hrt2 _ _ ?_
      simp (maxSteps:=1000000) (disch:=first|exact Lb rfl|omega) only [AXS,AXB,J.dst,reduceIte,Z1,Z2,Z3,Z4,Z5]
      refine hno ?_ _ (e5.trans e6)
      rintro rfl
      rw [hw] at hw'; cases hw'
      exact hne rfl
     ·have he : w = w' := by simpa using h8
      (try simp (maxSteps:=1000000) (disch:=first|exact Lb rfl|omega) only [AXS,AXB,J.dst,reduceIte,Z1,Z2,Z3,Z4,Z5]); rw [f43c21_eq]; (try simp (maxSteps:=1000000) (disch:=first|exact Lb rfl|omega) only [AXS,AXB,J.dst,reduceIte,Z1,Z2,Z3,Z4,Z5,f43r12])
      rw [i64_wrap (by omega) (by omega)]
      refine hnx2 (n2 - 1) _ _ (by omega) ⟨e6,i + 1,by omega,rfl,?_⟩
      intro j u u' hj hu hu'
      rcases Nat.lt_or_ge j i with hlt | hge
      ·exact hokv j u u' hlt hu hu'
      ·have : j = i := by omega
       subst this
       rw [hw] at hu; cases hu
       rw [hw'] at hu'; cases hu'
       exact he
    ·have hil : i = x.vers.length := by have := of_decide_eq_false h7; omega
     refine hex2 _ _ ?_
     (try simp (maxSteps:=1000000) (disch:=first|exact Lb rfl|omega) only [AXS,AXB,J.dst,reduceIte,Z1,Z2,Z3,Z4,Z5]); rw [f43c22_eq]; (try simp (maxSteps:=1000000) (disch:=first|exact Lb rfl|omega) only [AXS,AXB,J.dst,reduceIte,Z1,Z2,Z3,Z4,Z5,f43r13])
     rw [i64_wrap (by omega) (by omega)]
     refine hnx (n - 1) _ _ (by omega) ⟨e1.trans (e5.trans e6),k + 1,by omega,rfl,?_⟩
     intro j u u' hj hu hu'
     rcases Nat.lt_or_ge j k with hlt | hge
     ·exact hok j u u' hlt hu hu'
     ·have : j = k := by omega
      subst this
      rw [hx] at hu; cases hu
      rw [hy] at hu'; cases hu'
      exact (cell_eq_iff _ _).2 ⟨q1,q2,q3,list_eq_iff q4 fun m w w' hw hw' => hokv m w w' (by have := (List.getElem?_eq_some_iff.1 hw).1; omega) hw hw'⟩
  (try simp (maxSteps:=1000000) (disch:=first|exact Lb rfl|omega) only [AXS,AXB,J.dst,reduceIte,Z1,Z2,Z3,Z4,Z5]); rw [f43c8_eq]; (try simp (maxSteps:=1000000) (disch:=first|exact Lb rfl|omega) only [AXS,AXB,J.dst,reduceIte,Z1,Z2,Z3,Z4,Z5])
  rw [f43c9_eq]
  refine drt_lt ?_
  have hS := e1.size
  simp only [f43r5,wT_one,wT_alt,wT_nil]
  simp (maxSteps:=1000000) (disch:=first|exact Lb rfl|omega) only [AXS,AXB,J.dst,reduceIte,Z1,Z2,Z3,Z4,Z5,row_cv hrow,row_cv hrow']
  refine ⟨by omega,by omega,by omega,by omega,by omega,by omega,?_⟩
  refine ⟨?_,?_⟩
  ·refine wL_newD (Nat.le_refl _) ?_; rintro b6 h6 e6 s6 hb6 B6
   refine wL_newD (by omega) ?_; rintro b7 h7 e7 s7 hb7 B7
   replace B6 := B6.ext e7
   try simp (maxSteps:=1000000) (disch:=first|exact Lb rfl|omega) only [AXS,AXB,J.dst,reduceIte,Z1,Z2,Z3,Z4,Z5]
   refine wL_stD rfl rfl (by show ¬ b6 < _; omega) rfl B6 (by decide) (eCV_one v) ?_; rintro h8 u8 (B8 : Blk _ _ _ (eCV v))
   replace B7 := u8.blk B7 (by omega)
   refine wL_stD rfl rfl (by show ¬ b7 < _; omega) rfl B7 (by decide) (eCV_one v') ?_; rintro h9 u9 (B9 : Blk _ _ _ (eCV v'))
   replace B8 := u9.blk B8 (by omega)
   try simp (maxSteps:=1000000) (disch:=first|exact Lb rfl|omega) only [AXS,AXB,J.dst,reduceIte,Z1,Z2,Z3,Z4,Z5]
   exact mid _ _ _ (u9.ext (u8.ext (e6.trans e7) (by omega)) (by omega)) B8 B9
  ·refine wL_newD (Nat.le_refl _) ?_; rintro b7 h6 e6 s6 hb6 B7
   refine wL_newD (by omega) ?_; rintro b6 h7 e7 s7 hb7 B6
   replace B7 := B7.ext e7
   try simp (maxSteps:=1000000) (disch:=first|exact Lb rfl|omega) only [AXS,AXB,J.dst,reduceIte,Z1,Z2,Z3,Z4,Z5]
   refine wL_stD rfl rfl (by show ¬ b6 < _; omega) rfl B6 (by decide) (eCV_one v) ?_; rintro h8 u8 (B8 : Blk _ _ _ (eCV v))
   replace B7 := u8.blk B7 (by omega)
   refine wL_stD rfl rfl (by show ¬ b7 < _; omega) rfl B7 (by decide) (eCV_one v') ?_; rintro h9 u9 (B9 : Blk _ _ _ (eCV v'))
   replace B8 := u9.blk B8 (by omega)
   try simp (maxSteps:=1000000) (disch:=first|exact Lb rfl|omega) only [AXS,AXB,J.dst,reduceIte,Z1,Z2,Z3,Z4,Z5]
   exact mid _ _ _ (u9.ext (u8.ext (e6.trans e7) (by omega)) (by omega)) B8 B9
 ·have hkl : k = cs.length := by have := of_decide_eq_false h2; omega
  refine hex _ _ ?_
  (try simp (maxSteps:=1000000) (disch:=first|exact Lb rfl|omega) only [AXS,AXB,J.dst,reduceIte,Z1,Z2,Z3,Z4,Z5]); rw [f43c23_eq]; (try simp (maxSteps:=1000000) (disch:=first|exact Lb rfl|omega) only [AXS,AXB,J.dst,reduceIte,Z1,Z2,Z3,Z4,Z5,f43r14])
  refine hR true ⟨fun _ => list_eq_iff hlen fun i x y hx hy => hok i x y (by have := (List.getElem?_eq_some_iff.1 hx).1; omega) hx hy,fun _ => rfl⟩ _ e1
end Go.Proofs.Ytefghfgmkndikaa
namespace Go.Proofs.Ytefghfgmkndikaa
open Go Go.AX
/-- Few enough for all. -/
structure Gd (n : Nat) (cs : List Cell) : Prop where
 good : Good cs
 sz : Sz n cs
theorem szAll {cs : List Cell} {n : Nat} (h : Sz n cs) (hn : n ≤ 900000) : cs.length < big ∧ (∀ c ∈ cs,c.vers.length < big) ∧ cs.length ≤ maxLen ∧ Fit cs ∧ cs.length ≤ big ∧ (∀ c ∈ cs,c.vers.length ≤ big) := by
 have hbig : big = 1000000 := rfl
 have h1 := h.1
 refine ⟨by omega,fun c hc => ?_,by unfold maxLen; omega,fun c hc => ?_,by omega,fun c hc => ?_⟩
 ·have := h.2 c hc; omega
 ·have := h.2 c hc; unfold maxLen; omega
 ·have := h.2 c hc; omega
section
variable {B B' : Nat → Prop} {a a' : Option Addr} {c c' n n' : Nat} {cs ds : List Cell} {h : Heap} {R : Value → Heap → Prop}
theorem lockG (g : Gd n cs) (hn : n ≤ 900000) (S : SlC B h a cs) (w : Wri) (l : Lck) (hR : ∀ a' c' h',Gd (n + 1) (lockL cs w l) → OwnC h.size h' a' (lockL cs w l).length c' (lockL cs w l) → Ext h h' → R (.slice a' (lockL cs w l).length c') h') :
  CallsH Try.prog 40 [.slice a cs.length c,.agg (eWri w).toArray,.agg (eLck l).toArray] h R := by
 obtain ⟨z1,z2,z3,z4,z5,z6⟩ := szAll g.sz hn
 refine lock_ok cs w l h S g.good.sorted z1 z6 ?_
 intro a' n' c' h' O e
 obtain rfl := OwnC.len O
 exact hR _ _ _ ⟨lock_good w l g.good,lock_sz w l g.sz⟩ O e
theorem settleG (g : Gd n cs) (hn : n ≤ 900000) (S : SlC B h a cs) (by_ : Try4) (yes : Bool) (hR : ∀ a' c' h',Gd (n + 1) (settleL cs by_ yes) → OwnC h.size h' a' (settleL cs by_ yes).length c' (settleL cs by_ yes) → Ext h h' → R (.slice a' (settleL cs by_ yes).length c') h') :
  CallsH Try.prog 39 [.slice a cs.length c,.agg (eTry by_).toArray,.bool yes] h R := by
 obtain ⟨z1,z2,z3,z4,z5,z6⟩ := szAll g.sz hn
 refine settle_ok cs by_ yes h S z5 z2 ?_
 intro a' n' c' h' O e
 obtain rfl := OwnC.len O
 exact hR _ _ _ ⟨settle_good by_ yes g.good,settle_sz by_ yes g.good g.sz⟩ O e
theorem trimG (g : Gd n cs) (hn : n ≤ 900000) (S : SlC B h a cs) (t : Stamp) (hR : ∀ a' c' h',Gd n (trimL cs t) → OwnC h.size h' a' (trimL cs t).length c' (trimL cs t) → Ext h h' → R (.slice a' (trimL cs t).length c') h') :
  CallsH Try.prog 46 [.slice a cs.length c,.agg (eStamp t).toArray] h R := by
 obtain ⟨z1,z2,z3,z4,z5,z6⟩ := szAll g.sz hn
 refine trim_ok cs t h S z5 z2 ?_
 intro a' n' c' h' O e
 obtain rfl := OwnC.len O
 exact hR _ _ _ ⟨trim_good t g.good,trim_sz t g.sz⟩ O e
theorem mineG (g : Gd n cs) (hn : n ≤ 900000) (S : SlC B h a cs) (by_ : Try4) (hR : ∀ h',Ext h h' → R (.bool (mineL cs by_)) h') : CallsH Try.prog 38 [.slice a cs.length c,.agg (eTry by_).toArray] h R := by
 obtain ⟨z1,z2,z3,z4,z5,z6⟩ := szAll g.sz hn
 exact mine_ok cs by_ h S z3 hR
theorem mayG (g : Gd n cs) (hn : n ≤ 900000) (S : SlC B h a cs) (hR : ∀ h',Ext h h' → R (.bool true) h') : CallsH Try.prog 45 [.slice a cs.length c] h R := by
 obtain ⟨z1,z2,z3,z4,z5,z6⟩ := szAll g.sz hn
 refine may_ok cs h S z5 z6 ?_
 intro b hb h' e
 rw [hb.2 ((mayP_iff cs).2 g.good)]
 exact hR h' e
theorem sameG (g : Gd n cs) (hn : n ≤ 900000) (S : SlC B h a cs) (S' : SlC B' h a' ds) (he : cs = ds) (hR : ∀ h',Ext h h' → R (.bool true) h') : CallsH Try.prog 43 [.slice a cs.length c,.slice a' ds.length c'] h R := by
 obtain ⟨z1,z2,z3,z4,z5,z6⟩ := szAll g.sz hn
 refine same_ok cs ds h S S' z5 z6 ?_
 intro b hb h' e
 rw [hb.2 he]
 exact hR h' e
end
theorem gdRun (ops : List Op8) : Gd ops.length (runL ops) := ⟨(runL_good ops).1,(runL_good ops).2⟩
theorem Gd.mono {n m : Nat} {cs : List Cell} (g : Gd n cs) (h : n ≤ m) : Gd m cs := ⟨g.good,g.sz.mono h⟩
end Go.Proofs.Ytefghfgmkndikaa
namespace Go.AX
open Go
theorem slc_lh' {sz n c l u : Nat} {a : Option Addr} {K : Value → Prop} (h1 : l ≤ u) (h2 : u ≤ c) (H : ∀ a',(l < c → a' = a.map (·.add (l * sz))) → K (.slice a' (u - l) (c - l))) : slcV sz (.slice a n c) (some (vi l)) (some (vi u)) none K := by
 simp only [slcV,asI_int,bd_some,Int.toNat_natCast]
 refine ⟨by omega,by omega,by omega,by omega,H _ ?_⟩
 intro hl
 rw [if_neg (by omega)]
/-- A part of a slice. -/
theorem SlF.sub {α : Type} {e : α → List Value} {s : Nat} (he : ∀ x,(e x).length = s) {B : Nat → Prop} {h : Heap} {a a' : Option Addr} {ds : List α} (S : SlF B h e a ds) {l m c : Nat} (hc : ds.length ≤ c) (ha : l < c → a' = a.map (·.add (l * s))) : SlF B h e a' ((ds.drop l).take m) := by
 intro hne
 have hlt : l < ds.length := by
  rcases Nat.lt_or_ge l ds.length with h | h
  ·exact h
  ·rw [List.drop_of_length_le h] at hne; simp at hne
 obtain ⟨b,o,rfl,hb,hrow⟩ := S (by rintro rfl; simp at hlt)
 refine ⟨b,o + l * s,by rw [ha (by omega),Option.map_some,add_mk],hb,?_⟩
 have := hrow.sub (l * s) (m * s)
 rw [flatMap_drop he,flatMap_take he] at this
 exact this
theorem SlC.sub {B : Nat → Prop} {h : Heap} {a a' : Option Addr} {cs : List Cell} (S : SlC B h a cs) {l m c : Nat} (hc : cs.length ≤ c) (ha : l < c → a' = a.map (·.add (l * 12))) : SlC B h a' ((cs.drop l).take m) := by
 obtain ⟨vs,h1,h2⟩ := S
 exact ⟨(vs.drop l).take m,(h1.drop l).take m,h2.sub eCV_len (by rw [h1.length]; exact hc) ha⟩
end Go.AX
namespace Go.Proofs.Ytefghfgmkndikaa
open Go Go.AX
theorem hasK_cell {cs : List Cell} (hs : Sorted cs) (key : ByteArray) : (hasK cs key = true → cs[lbK cs key]? = cellK cs key ∧ (cellK cs key).isSome = true) ∧ (hasK cs key = false → cellK cs key = none) := by
 have := at_lb key hs
 rw [← this]
 unfold hasK
 cases cs[lbK cs key]? with
 | none => simp
 | some c => by_cases h : c.key = key <;> simp [h]
section
variable {B : Nat → Prop} {a : Option Addr} {c n : Nat} {cs : List Cell} {h : Heap} {R : Value → Heap → Prop}
theorem heldG (g : Gd n cs) (hn : n ≤ 900000) (S : SlC B h a cs) (key : ByteArray) (hR : ∀ h',Ext h h' → R (.tuple #[.agg (eLck (heldK cs key).1).toArray,.bool (heldK cs key).2]) h') : CallsH Try.prog 44 [.slice a cs.length c,.string key] h R := by
 obtain ⟨z1,z2,z3,z4,z5,z6⟩ := szAll g.sz hn
 refine f44ok (by simp) ?_
 (try simp (maxSteps:=1000000) (disch:=first|exact Lb rfl|omega) only [AXS,AXB,J.dst,reduceIte,Z1,Z2,Z3,Z4,Z5]); rw [f44c0_eq]; (try simp (maxSteps:=1000000) (disch:=first|exact Lb rfl|omega) only [AXS,AXB,J.dst,reduceIte,Z1,Z2,Z3,Z4,Z5,f44r0])
 refine wL_newN ?_; rintro b1 h1 e1 s1 hb1 B1
 (try simp (maxSteps:=1000000) (disch:=first|exact Lb rfl|omega) only [AXS,AXB,J.dst,reduceIte,Z1,Z2,Z3,Z4,Z5]); rw [f44c1_eq]; (try simp (maxSteps:=1000000) (disch:=first|exact Lb rfl|omega) only [AXS,AXB,J.dst,reduceIte,Z1,Z2,Z3,Z4,Z5,f44r1])
 refine find_ok cs key _ (S.ext e1) g.good.sorted z3 ?_
 intro h2 e2
 refine ⟨trivial,?_⟩
 replace B1 := B1.ext e2
 have e02 := e1.trans e2
 obtain ⟨hk1,hk2⟩ := hasK_cell g.good.sorted key
 have fin0 : heldK cs key = (noLock,false) → ∀ τ,AX.look τ 4 = some (ptr b1 0) → wC Try.prog f44c4 (endW [Rs.cell 4 9,Rs.tmp 5] R) τ h2 := by
  intro hk τ l4
  rw [f44c4_eq]
  simp (maxSteps:=1000000) (disch:=first|exact Lb rfl|omega) only [AXS,AXB,J.dst,reduceIte,Z1,Z2,Z3,Z4,Z5,f44r3,l4]
  refine wL_stN (o := 0) (by exact l4) rfl rfl B1 (by decide) (one_lck noLock) ?_; rintro h3 u3 (B3 : Blk _ _ _ (eLck noLock))
  simp (maxSteps:=1000000) (disch:=first|exact Lb rfl|omega) only [AXS,AXB,J.dst,reduceIte,Z1,Z2,Z3,Z4,Z5,B3.rd,l4]
  have := hR _ (u3.ext e02 (by omega))
  rw [hk] at this
  exact this
 try simp (maxSteps:=1000000) (disch:=first|exact Lb rfl|omega) only [AXS,AXB,J.dst,reduceIte,Z1,Z2,Z3,Z4,Z5]
 cases hh : hasK cs key with
 | false =>
  have hc := hk2 hh
  rw [f44c2_eq]
  simp (maxSteps:=1000000) (disch:=first|exact Lb rfl|omega) only [AXJ,AXS,AXB,J.dst,reduceIte,Z1,Z2,Z3,Z4,Z5,f44r2]
  rw [f44c3_eq]
  simp (maxSteps:=1000000) (disch:=first|exact Lb rfl|omega) only [AXS,AXB,J.dst,reduceIte,Z1,Z2,Z3,Z4,Z5]
  exact fin0 (by unfold heldK; rw [hc]) _ rfl
 | true =>
  obtain ⟨hc1,hc2⟩ := hk1 hh
  obtain ⟨x,hx⟩ := Option.isSome_iff_exists.1 hc2
  rw [hx] at hc1
  have hlt := (List.getElem?_eq_some_iff.1 hc1).1
  obtain ⟨b,o,v,rfl,_,hrow,hcr⟩ := (S.ext e02).elem hc1
  rw [f44c2_eq]
  have hlk := hcr.locked
  simp (maxSteps:=1000000) (disch:=first|exact Lb rfl|omega) only [AXJ,AXS,AXB,J.dst,reduceIte,Z1,Z2,Z3,Z4,Z5,f44r2,row_cv hrow,hlk]
  refine ⟨fun _ => by omega,fun _ => by omega,?_⟩
  rw [f44c3_eq]
  simp (maxSteps:=1000000) (disch:=first|exact Lb rfl|omega) only [AXS,AXB,J.dst,reduceIte,Z1,Z2,Z3,Z4,Z5]
  refine ⟨fun h3 => ?_,fun h3 => ?_⟩
  ·have hl : x.locked = false := by simpa using h3
   exact fin0 (by unfold heldK; rw [hx]; simp [hl]) _ rfl
  ·have hl : x.locked = true := by simpa using h3
   (try simp (maxSteps:=1000000) (disch:=first|exact Lb rfl|omega) only [AXS,AXB,J.dst,reduceIte,Z1,Z2,Z3,Z4,Z5]); rw [f44c5_eq]; (try simp (maxSteps:=1000000) (disch:=first|exact Lb rfl|omega) only [AXS,AXB,J.dst,reduceIte,Z1,Z2,Z3,Z4,Z5,f44r4,row_cv hrow])
   refine ⟨by omega,by omega,?_⟩
   refine wL_stN rfl rfl rfl B1 (by decide) (one_lck v.lock) ?_; rintro h3 u3 (B3 : Blk _ _ _ (eLck v.lock))
   simp (maxSteps:=1000000) (disch:=first|exact Lb rfl|omega) only [AXS,AXB,J.dst,reduceIte,Z1,Z2,Z3,Z4,Z5,B3.rd]
   have := hR _ (u3.ext e02 (by omega))
   have hk : heldK cs key = (v.lock,true) := by unfold heldK; rw [hx,hcr.lock]; simp [hl]
   rw [hk] at this
   exact this
/-- The cells of a span. -/
def withinL (cs : List Cell) (s : Spn) : List Cell := if !klt s.lo s.hi then [] else (cs.drop (lbK cs s.lo)).take (max (lbK cs s.hi) (lbK cs s.lo) - lbK cs s.lo)
theorem withinG (g : Gd n cs) (hn : n ≤ 900000) (S : SlC B h a cs) (hc : cs.length ≤ c) (s : Spn) (hR : ∀ a' c' h',SlC B h' a' (withinL cs s) → (withinL cs s).length ≤ c' → Ext h h' → R (.slice a' (withinL cs s).length c') h') :
  CallsH Try.prog 92 [.slice a cs.length c,.agg (eSpn s).toArray] h R := by
 obtain ⟨z1,z2,z3,z4,z5,z6⟩ := szAll g.sz hn
 refine f92ok (by simp) ?_
 (try simp (maxSteps:=1000000) (disch:=first|exact Lb rfl|omega) only [AXS,AXB,J.dst,reduceIte,Z1,Z2,Z3,Z4,Z5]); rw [f92c0_eq]; (try simp (maxSteps:=1000000) (disch:=first|exact Lb rfl|omega) only [AXS,AXB,J.dst,reduceIte,Z1,Z2,Z3,Z4,Z5,f92r0])
 refine wL_boxN rfl ?_; rintro b1 h1 e1 s1 hb1 (B1 : Blk _ _ _ (eSpn s))
 (try simp (maxSteps:=1000000) (disch:=first|exact Lb rfl|omega) only [AXS,AXB,J.dst,reduceIte,Z1,Z2,Z3,Z4,Z5]); rw [f92c1_eq]; (try simp (maxSteps:=1000000) (disch:=first|exact Lb rfl|omega) only [AXS,AXB,J.dst,reduceIte,Z1,Z2,Z3,Z4,Z5,f92r1,B1.cel,eSpn]); rw [f92c2_eq]; (try simp (maxSteps:=1000000) (disch:=first|exact Lb rfl|omega) only [AXS,AXB,J.dst,reduceIte,Z1,Z2,Z3,Z4,Z5,B1.cel,eSpn])
 have hkle : (Op.bytesLess s.hi.toList s.lo.toList || s.hi.toList == s.lo.toList) = !klt s.lo s.hi := by
  rw [keq_iff]; exact kle_iff s.hi s.lo
 rw [hkle]
 refine ⟨fun hh => ?_,fun hh => ?_⟩
 ·have hw : withinL cs s = [] := by unfold withinL; rw [if_pos hh]
  (try simp (maxSteps:=1000000) (disch:=first|exact Lb rfl|omega) only [AXS,AXB,J.dst,reduceIte,Z1,Z2,Z3,Z4,Z5]); rw [f92c3_eq]; (try simp (maxSteps:=1000000) (disch:=first|exact Lb rfl|omega) only [AXS,AXB,J.dst,reduceIte,Z1,Z2,Z3,Z4,Z5,f92r2])
  have := hR none 0 h1 (by rw [hw]; exact SlC.nil) (by rw [hw]; simp) e1
  rw [hw] at this
  exact this
 ·have hw : withinL cs s = (cs.drop (lbK cs s.lo)).take (max (lbK cs s.hi) (lbK cs s.lo) - lbK cs s.lo) := by unfold withinL; rw [if_neg (by rw [hh]; simp)]
  (try simp (maxSteps:=1000000) (disch:=first|exact Lb rfl|omega) only [AXS,AXB,J.dst,reduceIte,Z1,Z2,Z3,Z4,Z5]); rw [f92c4_eq]; (try simp (maxSteps:=1000000) (disch:=first|exact Lb rfl|omega) only [AXS,AXB,J.dst,reduceIte,Z1,Z2,Z3,Z4,Z5,f92r3,B1.cel,eSpn])
  refine find_ok cs s.lo _ (S.ext e1) g.good.sorted z3 ?_
  intro h2 e2
  refine ⟨trivial,?_⟩
  replace B1 := B1.ext e2
  (try simp (maxSteps:=1000000) (disch:=first|exact Lb rfl|omega) only [AXS,AXB,J.dst,reduceIte,Z1,Z2,Z3,Z4,Z5]); rw [f92c5_eq]; (try simp (maxSteps:=1000000) (disch:=first|exact Lb rfl|omega) only [AXS,AXB,J.dst,reduceIte,Z1,Z2,Z3,Z4,Z5,f92r4,B1.cel,eSpn])
  refine find_ok cs s.hi _ (S.ext (e1.trans e2)) g.good.sorted z3 ?_
  intro h3 e3
  refine ⟨trivial,?_⟩
  have e03 := e1.trans (e2.trans e3)
  have l1 := lbK_le cs s.lo
  have l2 := lbK_le cs s.hi
  have hmx : (if (lbK cs s.lo : Int) > lbK cs s.hi then (lbK cs s.lo : Int) else lbK cs s.hi) = ((max (lbK cs s.hi) (lbK cs s.lo) : Nat) : Int) := by
   split <;> omega
  (try simp (maxSteps:=1000000) (disch:=first|exact Lb rfl|omega) only [AXS,AXB,J.dst,reduceIte,Z1,Z2,Z3,Z4,Z5]); rw [f92c6_eq]; (try simp (maxSteps:=1000000) (disch:=first|exact Lb rfl|omega) only [AXS,AXB,J.dst,reduceIte,Z1,Z2,Z3,Z4,Z5,f92r5,hmx])
  refine slc_lh' (by omega) (by omega) ?_
  intro a' ha'
  simp (maxSteps:=1000000) (disch:=first|exact Lb rfl|omega) only [AXS,AXB,J.dst,reduceIte,Z1,Z2,Z3,Z4,Z5]
  have hl : (withinL cs s).length = max (lbK cs s.hi) (lbK cs s.lo) - lbK cs s.lo := by
   rw [hw,List.length_take,List.length_drop]; omega
  have := hR a' (c - lbK cs s.lo) h3 (by rw [hw]; exact (S.ext e03).sub hc ha') (by rw [hl]; omega) e03
  rw [hl] at this
  exact this
end
end Go.Proofs.Ytefghfgmkndikaa
namespace Go.AX
open Go
/-- One pair is appended. -/
def scanL (t : Stamp) (most : Int) : List Cell → List Pai → List Pai × Int
 | [],acc => (acc,0)
 | x :: xs,acc => if (tellV x.vers t).2 = false then scanL t most xs acc else if (acc.length : Int) ≥ most then ([],3) else scanL t most xs (acc ++ [⟨x.key,(tellV x.vers t).1⟩])
end Go.AX
namespace Go.Proofs.Ytefghfgmkndikaa
open Go Go.AX
section
variable {B : Nat → Prop} {a : Option Addr} {c n : Nat} {cs : List Cell} {h : Heap} {R : Value → Heap → Prop}
theorem withinL_sub (cs : List Cell) (s : Spn) : ∀ x ∈ withinL cs s,x ∈ cs := by
 unfold withinL
 split
 ·simp
 ·intro x hx; exact List.mem_of_mem_drop (List.mem_of_mem_take hx)
theorem withinL_le (cs : List Cell) (s : Spn) : (withinL cs s).length ≤ cs.length := by
 unfold withinL
 split
 ·simp
 ·rw [List.length_take,List.length_drop]; omega
theorem scanG (g : Gd n cs) (hn : n ≤ 900000) (S : SlC B h a cs) (hc : cs.length ≤ c) (s : Spn) (t : Stamp) (most : Int)
  (hR : ∀ a' c' h',Own h.size h' 99 2 a' (scanL t most (withinL cs s) []).1.length c' ((scanL t most (withinL cs s) []).1.flatMap ePai) → Ext h h' → R (.tuple #[.slice a' (scanL t most (withinL cs s) []).1.length c',vi (scanL t most (withinL cs s) []).2]) h') :
  CallsH Try.prog 47 [.slice a cs.length c,.agg (eSpn s).toArray,.agg (eStamp t).toArray,vi most] h R := by
 obtain ⟨z1,z2,z3,z4,z5,z6⟩ := szAll g.sz hn
 have hbig : big = 1000000 := rfl
 refine f47ok (by simp) ?_
 (try simp (maxSteps:=1000000) (disch:=first|exact Lb rfl|omega) only [AXS,AXB,J.dst,reduceIte,Z1,Z2,Z3,Z4,Z5]); rw [f47c0_eq]; (try simp (maxSteps:=1000000) (disch:=first|exact Lb rfl|omega) only [AXS,AXB,J.dst,reduceIte,Z1,Z2,Z3,Z4,Z5,f47r0])
 refine wL_boxN rfl ?_; rintro b1 h1 e1 s1 hb1 (B1 : Blk _ _ _ (eSpn s))
 refine wL_boxN rfl ?_; rintro b2 h2 e2 s2 hb2 (B2 : Blk _ _ _ (eStamp t))
 replace B1 := B1.ext e2
 have e02 := e1.trans e2
 (try simp (maxSteps:=1000000) (disch:=first|exact Lb rfl|omega) only [AXS,AXB,J.dst,reduceIte,Z1,Z2,Z3,Z4,Z5]); rw [f47c1_eq]; (try simp (maxSteps:=1000000) (disch:=first|exact Lb rfl|omega) only [AXS,AXB,J.dst,reduceIte,Z1,Z2,Z3,Z4,Z5,f47r1,B1.rd,eSpn]); rw [f47c2_eq]; (try simp (maxSteps:=1000000) (disch:=first|exact Lb rfl|omega) only [AXS,AXB,J.dst,reduceIte,Z1,Z2,Z3,Z4,Z5,f47r2,B1.rd,eSpn])
 refine withinG g hn (S.ext e02) hc s ?_
 intro aw cw h3 W hw e3
 refine ⟨trivial,?_⟩
 have hws := withinL_sub cs s
 have hwl := withinL_le cs s
 generalize withinL cs s = ws at *
 replace B2 := B2.ext e3
 have e03 := e02.trans e3
 try simp (maxSteps:=1000000) (disch:=first|exact Lb rfl|omega) only [AXS,AXB,J.dst,reduceIte,Z1,Z2,Z3,Z4,Z5]
 rw [f47c3_eq]
 refine loop_in (fun n σ h' => Ext h3 h' ∧ ∃ (k c1 : Nat) (a1 : Option Addr) (acc : List Pai),k + n = ws.length ∧ acc.length ≤ k ∧ scanL t most ws [] = scanL t most (ws.drop k) acc ∧ Own h3.size h' 99 2 a1 acc.length c1 (acc.flatMap ePai) ∧
   σ = [(3,vi most),(6,ptr b2 0),(10,.slice a1 acc.length c1),(17,.slice aw ws.length cw),(18,vi ws.length),(19,vi k)]) ws.length ⟨Ext.refl _,0,0,none,[],by omega,by simp,rfl,Own.nil _ _ _ _,rfl⟩ ?_
 rintro m σ h4 ⟨e4,k,c1,a1,acc,hk,hak,hsc,O,rfl⟩ Q' hnx hex hrt _
 (try simp (maxSteps:=1000000) (disch:=first|exact Lb rfl|omega) only [AXS,AXB,J.dst,reduceIte,Z1,Z2,Z3,Z4,Z5]); rw [f47c4_eq]; (try simp (maxSteps:=1000000) (disch:=first|exact Lb rfl|omega) only [AXS,AXB,J.dst,reduceIte,Z1,Z2,Z3,Z4,Z5,f47r3]); rw [f47c5_eq]; (try simp (maxSteps:=1000000) (disch:=first|exact Lb rfl|omega) only [AXS,AXB,J.dst,reduceIte,Z1,Z2,Z3,Z4,Z5])
 refine ⟨fun hh => ?_,fun hh => ?_⟩
 ·have hkl : k < ws.length := by have := of_decide_eq_true hh; omega
  obtain ⟨x,hx⟩ := get_ex hkl
  obtain ⟨b,o,v,rfl,_,hrow,hcr⟩ := (W.ext e4).elem hx
  have hdrop : ws.drop k = x :: ws.drop (k + 1) := by
   rw [List.drop_eq_getElem_cons hkl]
   rw [List.getElem?_eq_getElem hkl] at hx; cases hx; rfl
  have hxv := z4 x (hws x (List.mem_of_getElem? hx))
  rw [hdrop] at hsc
  (try simp (maxSteps:=1000000) (disch:=first|exact Lb rfl|omega) only [AXS,AXB,J.dst,reduceIte,Z1,Z2,Z3,Z4,Z5]); rw [f47c6_eq]; (try simp (maxSteps:=1000000) (disch:=first|exact Lb rfl|omega) only [AXS,AXB,J.dst,reduceIte,Z1,Z2,Z3,Z4,Z5,row_cv hrow]); rw [f47c7_eq]; (try simp (maxSteps:=1000000) (disch:=first|exact Lb rfl|omega) only [AXS,AXB,J.dst,reduceIte,Z1,Z2,Z3,Z4,Z5,f47r4,row_cv hrow])
  refine ⟨by omega,by omega,?_⟩
  refine wL_newN ?_; rintro b5 h5 e5 s5 hb5 B5
  try simp (maxSteps:=1000000) (disch:=first|exact Lb rfl|omega) only [AXS,AXB,J.dst,reduceIte,Z1,Z2,Z3,Z4,Z5]
  refine wL_stN rfl rfl rfl B5 (by decide) (eCV_one v) ?_; rintro h6 u6 (B6 : Blk _ _ _ (eCV v))
  have e6 := u6.ext e5 (by omega)
  have hs0 := e03.size
  have hs4 := e4.size
  replace B2 := B2.ext (e4.trans e6)
  have O6 : Own h3.size h6 99 2 a1 acc.length c1 (acc.flatMap ePai) := O.ext e6
  (try simp (maxSteps:=1000000) (disch:=first|exact Lb rfl|omega) only [AXS,AXB,J.dst,reduceIte,Z1,Z2,Z3,Z4,Z5]); rw [f47c8_eq]; (try simp (maxSteps:=1000000) (disch:=first|exact Lb rfl|omega) only [AXS,AXB,J.dst,reduceIte,Z1,Z2,Z3,Z4,Z5,f47r5,B6.rd,B2.rd,eCV,eStamp])
  refine tells_ok v x t _ (hcr.ext e6) hxv ?_
  intro h7 e7
  refine ⟨trivial,?_⟩
  replace B6 := B6.ext e7; replace O6 := O6.ext e7
  have e37 := e4.trans (e6.trans e7)
  (try simp (maxSteps:=1000000) (disch:=first|exact Lb rfl|omega) only [AXS,AXB,J.dst,reduceIte,Z1,Z2,Z3,Z4,Z5]); rw [f47c9_eq]; (try simp (maxSteps:=1000000) (disch:=first|exact Lb rfl|omega) only [AXS,AXB,J.dst,reduceIte,Z1,Z2,Z3,Z4,Z5,f47r6]); rw [f47c10_eq]; (try simp (maxSteps:=1000000) (disch:=first|exact Lb rfl|omega) only [AXS,AXB,J.dst,reduceIte,Z1,Z2,Z3,Z4,Z5])
  refine ⟨fun h8 => ?_,fun h8 => ?_⟩
  ·have hno : (tellV x.vers t).2 = false := by simpa using h8
   (try simp (maxSteps:=1000000) (disch:=first|exact Lb rfl|omega) only [AXS,AXB,J.dst,reduceIte,Z1,Z2,Z3,Z4,Z5]); rw [f47c15_eq]; (try simp (maxSteps:=1000000) (disch:=first|exact Lb rfl|omega) only [AXS,AXB,J.dst,reduceIte,Z1,Z2,Z3,Z4,Z5,f47r10])
   rw [i64_wrap (by omega) (by omega)]
   refine hnx (m - 1) _ _ (by omega) ⟨e37,k + 1,c1,a1,acc,by omega,by omega,?_,O6,rfl⟩
   rw [hsc]
   show (if _ then _ else _) = _
   rw [if_pos hno]
  ·have hyes : ¬ (tellV x.vers t).2 = false := by simpa using h8
   (try simp (maxSteps:=1000000) (disch:=first|exact Lb rfl|omega) only [AXS,AXB,J.dst,reduceIte,Z1,Z2,Z3,Z4,Z5]); rw [f47c11_eq]; (try simp (maxSteps:=1000000) (disch:=first|exact Lb rfl|omega) only [AXS,AXB,J.dst,reduceIte,Z1,Z2,Z3,Z4,Z5,f47r7]); rw [f47c12_eq]; (try simp (maxSteps:=1000000) (disch:=first|exact Lb rfl|omega) only [AXS,AXB,J.dst,reduceIte,Z1,Z2,Z3,Z4,Z5])
   refine ⟨fun h9 => ?_,fun h9 => ?_⟩
   ·have hge : (acc.length : Int) ≥ most := of_decide_eq_true h9
    have hfin : scanL t most ws [] = ([],3) := by
     rw [hsc]
     show (if _ then _ else if _ then _ else _) = _
     rw [if_neg hyes,if_pos hge]
    (try simp (maxSteps:=1000000) (disch:=first|exact Lb rfl|omega) only [AXS,AXB,J.dst,reduceIte,Z1,Z2,Z3,Z4,Z5]); rw [f47c13_eq]; (try simp (maxSteps:=1000000) (disch:=first|exact Lb rfl|omega) only [AXS,AXB,J.dst,reduceIte,Z1,Z2,Z3,Z4,Z5,f47r8])
    refine hrt _ _ ?_
    simp (maxSteps:=1000000) (disch:=first|exact Lb rfl|omega) only [AXS,AXB,J.dst,reduceIte,Z1,Z2,Z3,Z4,Z5]
    have := hR none 0 h7 (by rw [hfin]; exact Own.nil _ _ _ _) (e03.trans e37)
    rw [hfin] at this
    exact this
   ·have hlt : ¬ (acc.length : Int) ≥ most := of_decide_eq_false h9
    have hkey := hcr.key
    (try simp (maxSteps:=1000000) (disch:=first|exact Lb rfl|omega) only [AXS,AXB,J.dst,reduceIte,Z1,Z2,Z3,Z4,Z5]); rw [f47c14_eq]; (try simp (maxSteps:=1000000) (disch:=first|exact Lb rfl|omega) only [AXS,AXB,J.dst,reduceIte,Z1,Z2,Z3,Z4,Z5,f47r9,B6.cel,eCV,hkey])
    refine wL_bslN rfl ?_; rintro b10 h10 e10 s10 hb10 (B10 : Blk _ _ _ (ePai ⟨x.key,(tellV x.vers t).1⟩))
    try simp (maxSteps:=1000000) (disch:=first|exact Lb rfl|omega) only [AXS,AXB,J.dst,reduceIte,Z1,Z2,Z3,Z4,Z5]
    rw [wL_raw]
    refine raw_append slT45 rfl rfl rfl (O6.ext e10) (news := ePai ⟨x.key,(tellV x.vers t).1⟩) (by rw [ePai_len]) (.inr ⟨b10,0,rfl,B10.row⟩) (ePai_one _) (by unfold maxLen; omega) (by omega) (e37.trans e10).size ?_
    intro a11 c11 h11 O11 G11 A11
    refine ⟨trivial,?_⟩
    have e311 : Ext h3 h11 := G11.ext (e37.trans e10) (fun j hj => (O6.ob j hj).1)
    (try simp (maxSteps:=1000000) (disch:=first|exact Lb rfl|omega) only [AXS,AXB,J.dst,reduceIte,Z1,Z2,Z3,Z4,Z5]); rw [f47c15_eq]; (try simp (maxSteps:=1000000) (disch:=first|exact Lb rfl|omega) only [AXS,AXB,J.dst,reduceIte,Z1,Z2,Z3,Z4,Z5,f47r10])
    rw [i64_wrap (by omega) (by omega)]
    refine hnx (m - 1) _ _ (by omega) ⟨e311,k + 1,c11,a11,acc ++ [⟨x.key,(tellV x.vers t).1⟩],by omega,by simp; omega,?_,?_,?_⟩
    ·rw [hsc]
     show (if _ then _ else if _ then _ else _) = _
     rw [if_neg hyes,if_neg hlt]
    ·simpa using O11
    ·simp
 ·have hkl : k = ws.length := by have := of_decide_eq_false hh; omega
  have hs0 := e03.size
  refine hex _ _ ?_
  have hfin : scanL t most ws [] = (acc,0) := by
   rw [hsc,hkl,List.drop_length]; rfl
  (try simp (maxSteps:=1000000) (disch:=first|exact Lb rfl|omega) only [AXS,AXB,J.dst,reduceIte,Z1,Z2,Z3,Z4,Z5]); rw [f47c16_eq]; (try simp (maxSteps:=1000000) (disch:=first|exact Lb rfl|omega) only [AXS,AXB,J.dst,reduceIte,Z1,Z2,Z3,Z4,Z5,f47r11])
  have := hR a1 c1 h4 (by rw [hfin]; exact O.mono hs0) (e03.trans e4)
  rw [hfin] at this
  exact this
end
end Go.Proofs.Ytefghfgmkndikaa
namespace Go.Proofs.Ytefghfgmkndikaa
open Go Go.AX
/-- Is a key within a span? -/
def inS (s : Spn) (k : ByteArray) : Bool := !klt k s.lo && klt k s.hi
def pairO (t : Stamp) (x : Cell) : Option Pai := if (tellV x.vers t).2 then some ⟨x.key,(tellV x.vers t).1⟩ else none
def pairsL (t : Stamp) (xs : List Cell) : List Pai := xs.filterMap (pairO t)
theorem scanL_eq (t : Stamp) (most : Int) : ∀ (xs : List Cell) (acc : List Pai),scanL t most xs acc = if pairsL t xs = [] ∨ (acc.length + (pairsL t xs).length : Int) ≤ most then (acc ++ pairsL t xs,0) else ([],3)
 | [],acc => by simp [scanL,pairsL]
 | x :: xs,acc => by
  unfold scanL
  cases hx : (tellV x.vers t).2 with
  | false =>
   have : pairsL t (x :: xs) = pairsL t xs := by unfold pairsL; rw [List.filterMap_cons]; simp [pairO,hx]
   rw [if_pos rfl,scanL_eq t most xs acc,this]
  | true =>
   have : pairsL t (x :: xs) = ⟨x.key,(tellV x.vers t).1⟩ :: pairsL t xs := by unfold pairsL; rw [List.filterMap_cons]; simp [pairO,hx]
   rw [if_neg (by simp),this]
   by_cases hm : (acc.length : Int) ≥ most
   ·rw [if_pos hm,if_neg (by simp; omega)]
   ·rw [if_neg hm,scanL_eq t most xs]
    by_cases h2 : pairsL t xs = [] ∨ ((acc ++ [(⟨x.key,(tellV x.vers t).1⟩ : Pai)]).length + (pairsL t xs).length : Int) ≤ most
    ·rw [if_pos h2,if_pos]
     ·simp
     ·refine .inr ?_
      rcases h2 with h2 | h2
      ·rw [h2]; simp; omega
      ·simp at h2 ⊢; omega
    ·rw [if_neg h2,if_neg]
     simp only [List.length_append,List.length_cons,List.length_nil,not_or] at h2 ⊢
     refine ⟨by simp,?_⟩
     omega
theorem kge_trans {a b c : ByteArray} (h : klt a b = true) (k : klt a c = false) : klt b c = false := by
 cases hb : klt b c with
 | false => rfl
 | true => rw [klt_trans h hb] at k; cases k
theorem lbK_zero {cs : List Cell} {key : ByteArray} (h : ∀ c ∈ cs,klt c.key key = false) : lbK cs key = 0 := by
 cases cs with
 | nil => rfl
 | cons c cs => rw [lbK_cons,h c (by simp)]; rfl
theorem withinL_eq (s : Spn) : ∀ {cs : List Cell},Sorted cs → withinL cs s = cs.filter fun c => inS s c.key := by
 intro cs hs
 unfold withinL
 by_cases hlh : klt s.lo s.hi = true
 ·rw [if_neg (by rw [hlh]; simp)]
  induction cs with
  | nil => simp
  | cons c cs ih =>
   have h1 := sorted_cons.1 hs
   have ih := ih h1.2
   rw [lbK_cons,lbK_cons,List.filter_cons]
   cases ha : klt c.key s.lo with
   | true =>
    have hin : inS s c.key = false := by simp [inS,ha]
    have hhi : klt c.key s.hi = true := klt_trans ha hlh
    simp only [if_true,hhi,hin,Bool.false_eq_true,if_false,List.drop_succ_cons]
    rw [← ih]
    congr 1
    omega
   | false =>
    have hlo : ∀ d ∈ cs,klt d.key s.lo = false := fun d hd => kge_trans (h1.1 d hd) ha
    have hz := lbK_zero hlo
    rw [hz] at ih
    simp only [Bool.false_eq_true,if_false,List.drop_zero] at ih ⊢
    cases hb : klt c.key s.hi with
    | true =>
     have hin : inS s c.key = true := by simp [inS,ha,hb]
     simp only [if_true,hin]
     rw [← ih]
     simp
    | false =>
     have hin : inS s c.key = false := by simp [inS,hb]
     simp only [Bool.false_eq_true,if_false,hin]
     have : cs.filter (fun c => inS s c.key) = [] := by
      rw [List.filter_eq_nil_iff]
      intro d hd
      simp [inS,kge_trans (h1.1 d hd) hb]
     rw [this]; simp
 ·rw [if_pos (by simpa using hlh)]
  symm
  rw [List.filter_eq_nil_iff]
  intro d _ hd
  simp only [inS,Bool.and_eq_true,Bool.not_eq_true'] at hd
  have hlh : klt s.lo s.hi = false := by simpa using hlh
  rcases klt_total s.lo d.key with h | h | h
  ·rw [klt_trans h hd.2] at hlh; cases hlh
  ·rw [← h] at hd; rw [hd.2] at hlh; cases hlh
  ·rw [h] at hd; cases hd.1
theorem pairs_len (t : Stamp) (xs : List Cell) : (pairsL t xs).length ≤ xs.length := List.length_filterMap_le _ _
theorem eqA_pai (neg : Bool) (s t : Pai) : eqA neg [.s,.s] (.agg (ePai s).toArray) (.agg (ePai t).toArray) = some (.bool (if neg then !decide (s = t) else decide (s = t))) := by
 obtain ⟨a1,a2⟩ := s
 obtain ⟨b1,b2⟩ := t
 have : (a1.toList == b1.toList && a2.toList == b2.toList) = decide ((⟨a1,a2⟩ : Pai) = ⟨b1,b2⟩) := by
  rw [keq_iff,keq_iff,Bool.eq_iff_iff]; simp
 simp only [eqA,ePai,eqKds,eqKd,Option.bind_some,Option.map_some,Bool.and_true,this]
theorem eqA_paiN (s t : Pai) : eqA true [.s,.s] (.agg (ePai s).toArray) (.agg (ePai t).toArray) = some (.bool (!decide (s = t))) := eqA_pai true s t
theorem row_pai {h : Heap} {b o : Nat} {v : Pai} (r : Row h b o (ePai v)) : rd h b o 2 = some (ePai v) := r.rd0 2 (Nat.le_refl _)
/-- The pairs of the first k cells. -/
def firstP (t : Stamp) (s : Spn) (cs : List Cell) (k : Nat) : List Pai := pairsL t ((cs.take k).filter fun c => inS s c.key)
theorem firstP_succ {t : Stamp} {s : Spn} {cs : List Cell} {k : Nat} {c : Cell} (h : cs[k]? = some c) : firstP t s cs (k + 1) = firstP t s cs k ++ (if inS s c.key && (tellV c.vers t).2 then [⟨c.key,(tellV c.vers t).1⟩] else []) := by
 unfold firstP pairsL
 rw [List.take_add_one,h,Option.toList_some,List.filter_append,List.filterMap_append]
 congr 1
 cases h1 : inS s c.key <;> cases h2 : (tellV c.vers t).2 <;> simp [h1,h2,pairO]
theorem firstP_all (t : Stamp) (s : Spn) (cs : List Cell) : firstP t s cs cs.length = pairsL t (cs.filter fun c => inS s c.key) := by unfold firstP; rw [List.take_length]
end Go.Proofs.Ytefghfgmkndikaa
namespace Go.Proofs.Ytefghfgmkndikaa
open Go.AX
set_option maxRecDepth 100000
def f93r0 : List I := [.op (.box 4 94 (.tmp 1)),
 .op (.box 5 39 (.tmp 2)),
 .op (.new 6 72 [.int .i64 0,.int .i64 0,.int .i64 0,.int .i64 0,.int .i64 0,.int .i64 0,.int .i64 0,.bool false,.string ⟨#[]⟩]),
 .op (.mov 7 (.const (.bool false))),
 .kp [0,4,5,6]]
def f93r1 : List I := [.op (.mov 10 (.tmp 0)),
 .op (.ld 11 (some 2) (.tmp 4)),
 .op (.call (some 12) 92 [(.tmp 10),(.tmp 11)]),
 .op (.len 13 true (.tmp 12)),
 .op (.mov 14 (.const (.int .i64 0))),
 .kp [5,6,12,13,14]]
def f93r2 : List I := [.op (.bin 15 .lss (.tmp 14) (.tmp 13)),
 .kp [5,6,12,13,14,15]]
def f93r3 : List I := [.op (.iad 16 12 (.tmp 12) (.tmp 14)),
 .op (.ld 17 (some 12) (.tmp 16)),
 .op (.new 9 103 [.string ⟨#[]⟩,.slice none 0 0,.bool false,.int .i64 0,.int .i64 0,.int .i64 0,.int .i64 0,.int .i64 0,.int .i64 0,.int .i64 0,.bool false,.string ⟨#[]⟩]),
 .op (.st 12 (.tmp 9) (.tmp 17)),
 .kp [5,6,9,12,13,14]]
def f93r4 : List I := [.op (.fad 18 2 (.tmp 9)),
 .op (.ld 19 none (.tmp 18)),
 .op (.mov 20 (.tmp 19)),
 .sc 20 true 6,
 .g 20 true (.ld 21 (some 2) (.tmp 5)),
 .g 20 true (.fad 22 3 (.tmp 9)),
 .g 20 true (.fad 23 5 (.tmp 22)),
 .g 20 true (.ld 24 (some 2) (.tmp 23)),
 .g 20 true (.call (some 25) 90 [(.tmp 21),(.tmp 24)]),
 .g 20 true (.un 26 .not (.tmp 25)),
 .op (.pick 27 (.tmp 20) (.tmp 26) (.const (.bool false))),
 .kp [27,5,6,9,12,13,14]]
def f93r5 : List I := [.op (.fad 28 3 (.tmp 9)),
 .op (.ld 29 (some 9) (.tmp 28)),
 .op (.st 9 (.tmp 6) (.tmp 29)),
 .op (.mov 7 (.const (.bool true))),
 .kp [6,7]]
def f93r6 : List I := [.op (.bin 30 .add (.tmp 14) (.const (.int .i64 1))),
 .op (.mov 14 (.tmp 30)),
 .kp [5,6,12,13,14]]
def f93r7 : List I := [.op (.bld 31 [.int .i64 0,.int .i64 0,.int .i64 0,.int .i64 0,.int .i64 0,.int .i64 0,.int .i64 0,.bool false,.string ⟨#[]⟩] []),
 .op (.st 9 (.tmp 6) (.tmp 31)),
 .op (.mov 7 (.const (.bool false))),
 .kp [6,7]]
def f93c9 : C := (.seq (.reg f93r5) .ret)
def f93c8 : C := (.cond (.tmp 27) f93c9 .skip)
def f93c7 : C := (.seq (.reg f93r4) f93c8)
def f93c6 : C := (.seq (.reg f93r3) f93c7)
def f93c10 : C := (.reg f93r6)
def f93c5 : C := (.seq (.block 1 f93c6) f93c10)
def f93c4 : C := (.seq (.cond (.tmp 15) .skip (.exit 0)) f93c5)
def f93c3 : C := (.seq (.reg f93r2) f93c4)
def f93c11 : C := (.seq (.reg f93r7) .ret)
def f93c2 : C := (.seq (.block 0 (.loop f93c3)) f93c11)
def f93c1 : C := (.seq (.reg f93r1) f93c2)
def f93c0 : C := (.seq (.reg f93r0) f93c1)
theorem f93cmp : cmpF Try.prog Try.f93 [.l [.o 0,.o 1,.o 2,.o 3,.kp [0,4,5,6]],
 .l [.o 0,.o 1,.o 2,.o 3,.o 4,.kp [5,6,12,13,14]],
 .l [.o 0,.kp [5,6,12,13,14,15]],
 .l [.o 0,.o 1,.o 2,.o 3,.kp [5,6,9,12,13,14]],
 .l [.o 0,.o 1,.o 2,.sc 20 true 6,.o 3,.o 4,.o 5,.o 6,.o 7,.o 8,.o 9,.kp [27,5,6,9,12,13,14]],
 .l [.o 0,.o 1,.o 2,.o 3,.kp [6,7]],
 .l [.o 0,.o 1,.kp [5,6,12,13,14]],
 .l [.o 0,.o 1,.o 2,.kp [6,7]]] = some (f93c0,[.cell 6 9,.tmp 7]) := by kernel_rfl
theorem f93ok {args : List Value} {h : Heap} {R : Value → Heap → Prop} (hn : args.length ≤ 32) (H : wC Try.prog f93c0 (endW [.cell 6 9,.tmp 7] R) (envOf 0 args) h) : CallsH Try.prog 93 args h R :=
 fn_ok2 Try.func93 f93cmp hn H
section
variable {P : Program} {Q : X → Env → Heap → Prop} {σ : Env} {h : Heap}
theorem f93c9_eq : wC P f93c9 Q σ h = (wL P none f93r5 0 (fun σ h => Q .ret σ h) σ h) := rfl
theorem f93c8_eq : wC P f93c8 Q σ h = (bd (evO σ (.tmp 27)) fun v => bd (asB v) fun t => br t (wC P f93c9 Q σ h) (Q .normal σ h)) := rfl
theorem f93c7_eq : wC P f93c7 Q σ h = (wL P none f93r4 0 (fun σ h => wC P f93c8 Q σ h) σ h) := rfl
theorem f93c6_eq : wC P f93c6 Q σ h = (wL P none f93r3 0 (fun σ h => wC P f93c7 Q σ h) σ h) := rfl
theorem f93c10_eq : wC P f93c10 Q σ h = (wL P none f93r6 0 (fun σ h => Q .normal σ h) σ h) := rfl
theorem f93c5_eq : wC P f93c5 Q σ h = (wC P f93c6 (X.inBlock 1 (X.then (fun σ h => wC P f93c10 Q σ h) Q)) σ h) := rfl
theorem f93c4_eq : wC P f93c4 Q σ h = (bd (evO σ (.tmp 15)) fun v => bd (asB v) fun t => br t (wC P f93c5 Q σ h) (Q (.exit 0) σ h)) := rfl
theorem f93c3_eq : wC P f93c3 Q σ h = (wL P none f93r2 0 (fun σ h => wC P f93c4 Q σ h) σ h) := rfl
theorem f93c11_eq : wC P f93c11 Q σ h = (wL P none f93r7 0 (fun σ h => Q .ret σ h) σ h) := rfl
theorem f93c2_eq : wC P f93c2 Q σ h = (loopW (wC P f93c3) (X.inBlock 0 (X.then (fun σ h => wC P f93c11 Q σ h) Q)) σ h) := rfl
theorem f93c1_eq : wC P f93c1 Q σ h = (wL P none f93r1 0 (fun σ h => wC P f93c2 Q σ h) σ h) := rfl
theorem f93c0_eq : wC P f93c0 Q σ h = (wL P none f93r0 0 (fun σ h => wC P f93c1 Q σ h) σ h) := rfl
end
def f67r0 : List I := [.op (.box 4 94 (.tmp 1)),
 .op (.box 5 39 (.tmp 2)),
 .op (.new 6 72 [.int .i64 0,.int .i64 0,.int .i64 0,.int .i64 0,.int .i64 0,.int .i64 0,.int .i64 0,.bool false,.string ⟨#[]⟩]),
 .op (.mov 7 (.const (.bool false))),
 .kp [0,4,5,6]]
def f67r1 : List I := [.op (.mov 8 (.const (.int .i64 0))),
 .kp [0,4,5,6,8]]
def f67r2 : List I := [.op (.mov 9 (.tmp 8)),
 .op (.mov 10 (.tmp 0)),
 .op (.len 11 true (.tmp 10)),
 .op (.bin 12 .lss (.tmp 9) (.tmp 11)),
 .kp [0,4,5,6,8,12]]
def f67r3a : List I := [.op (.mov 29 (.tmp 28)),
 .sc 29 true 9,
 .g 29 true (.ld 30 (some 2) (.tmp 5)),
 .g 29 true (.mov 31 (.tmp 0)),
 .g 29 true (.mov 32 (.tmp 8)),
 .g 29 true (.iad 33 12 (.tmp 31) (.tmp 32)),
 .g 29 true (.fad 34 3 (.tmp 33)),
 .g 29 true (.fad 35 5 (.tmp 34)),
 .g 29 true (.ld 36 (some 2) (.tmp 35)),
 .g 29 true (.call (some 37) 42 [(.tmp 30),(.tmp 36)]),
 .g 29 true (.un 38 .not (.tmp 37)),
 .op (.pick 39 (.tmp 29) (.tmp 38) (.const (.bool false))),
 .kp [39,0,4,5,6,8]]
def f67r3 : List I := .op (.mov 15 (.tmp 0)) ::
 .op (.mov 16 (.tmp 8)) ::
 .op (.iad 17 12 (.tmp 15) (.tmp 16)) ::
 .op (.fad 18 0 (.tmp 17)) ::
 .op (.ld 19 none (.tmp 18)) ::
 .op (.ld 20 (some 2) (.tmp 4)) ::
 .op (.call (some 21) 106 [(.tmp 19),(.tmp 20)]) ::
 .op (.mov 22 (.tmp 21)) ::
 .sc 22 true 5 ::
 .g 22 true (.mov 23 (.tmp 0)) ::
 .g 22 true (.mov 24 (.tmp 8)) ::
 .g 22 true (.iad 25 12 (.tmp 23) (.tmp 24)) ::
 .g 22 true (.fad 26 2 (.tmp 25)) ::
 .g 22 true (.ld 27 none (.tmp 26)) ::
 .op (.pick 28 (.tmp 22) (.tmp 27) (.const (.bool false))) ::
 .kp [28,0,4,5,6,8] ::
 f67r3a
def f67r4 : List I := [.op (.mov 40 (.tmp 0)),
 .op (.mov 41 (.tmp 8)),
 .op (.iad 42 12 (.tmp 40) (.tmp 41)),
 .op (.fad 43 3 (.tmp 42)),
 .op (.ld 44 (some 9) (.tmp 43)),
 .op (.st 9 (.tmp 6) (.tmp 44)),
 .op (.mov 7 (.const (.bool true))),
 .kp [6,7]]
def f67r5 : List I := [.op (.mov 13 (.tmp 8)),
 .op (.bin 14 .add (.tmp 13) (.const (.int .i64 1))),
 .op (.mov 8 (.tmp 14)),
 .kp [0,4,5,6,8]]
def f67r6 : List I := [.op (.bld 45 [.int .i64 0,.int .i64 0,.int .i64 0,.int .i64 0,.int .i64 0,.int .i64 0,.int .i64 0,.bool false,.string ⟨#[]⟩] []),
 .op (.st 9 (.tmp 6) (.tmp 45)),
 .op (.mov 7 (.const (.bool false))),
 .kp [6,7]]
def f67c8 : C := (.seq (.reg f67r4) .ret)
def f67c7 : C := (.cond (.tmp 39) f67c8 .skip)
def f67c6 : C := (.seq (.drw f67r3) f67c7)
def f67c9 : C := (.reg f67r5)
def f67c5 : C := (.seq (.block 1 f67c6) f67c9)
def f67c4 : C := (.seq (.cond (.tmp 12) .skip (.exit 0)) f67c5)
def f67c3 : C := (.seq (.reg f67r2) f67c4)
def f67c10 : C := (.seq (.reg f67r6) .ret)
def f67c2 : C := (.seq (.block 0 (.loop f67c3)) f67c10)
def f67c1 : C := (.seq (.reg f67r1) f67c2)
def f67c0 : C := (.seq (.reg f67r0) f67c1)
theorem f67cmp : cmpF Try.prog Try.f67 [.l [.o 0,.o 1,.o 2,.o 3,.kp [0,4,5,6]],
 .l [.o 0,.kp [0,4,5,6,8]],
 .l [.o 0,.o 1,.o 2,.o 3,.kp [0,4,5,6,8,12]],
 .l [.o 0,.o 1,.o 2,.o 3,.o 4,.o 5,.o 6,.o 7,.sc 22 true 5,.o 8,.o 9,.o 10,.o 11,.o 12,.o 13,.kp [28,0,4,5,6,8],.o 14,.sc 29 true 9,.o 15,.o 16,.o 17,.o 18,.o 19,.o 20,.o 21,.o 22,.o 23,.o 24,.kp [39,0,4,5,6,8]],
 .l [.o 0,.o 1,.o 2,.o 3,.o 4,.o 5,.o 6,.kp [6,7]],
 .l [.o 0,.o 1,.o 2,.kp [0,4,5,6,8]],
 .l [.o 0,.o 1,.o 2,.kp [6,7]]] = some (f67c0,[.cell 6 9,.tmp 7]) := by kernel_rfl
theorem f67ok {args : List Value} {h : Heap} {R : Value → Heap → Prop} (hn : args.length ≤ 46) (H : wC Try.prog f67c0 (endW [.cell 6 9,.tmp 7] R) (envOf 0 args) h) : CallsH Try.prog 67 args h R :=
 fn_ok2 Try.func67 f67cmp hn H
section
variable {P : Program} {Q : X → Env → Heap → Prop} {σ : Env} {h : Heap}
theorem f67c8_eq : wC P f67c8 Q σ h = (wL P none f67r4 0 (fun σ h => Q .ret σ h) σ h) := rfl
theorem f67c7_eq : wC P f67c7 Q σ h = (bd (evO σ (.tmp 39)) fun v => bd (asB v) fun t => br t (wC P f67c8 Q σ h) (Q .normal σ h)) := rfl
theorem f67c6_eq : wC P f67c6 Q σ h = (drwW P f67r3 (fun σ h => wC P f67c7 Q σ h) σ h) := rfl
theorem f67c9_eq : wC P f67c9 Q σ h = (wL P none f67r5 0 (fun σ h => Q .normal σ h) σ h) := rfl
theorem f67c5_eq : wC P f67c5 Q σ h = (wC P f67c6 (X.inBlock 1 (X.then (fun σ h => wC P f67c9 Q σ h) Q)) σ h) := rfl
theorem f67c4_eq : wC P f67c4 Q σ h = (bd (evO σ (.tmp 12)) fun v => bd (asB v) fun t => br t (wC P f67c5 Q σ h) (Q (.exit 0) σ h)) := rfl
theorem f67c3_eq : wC P f67c3 Q σ h = (wL P none f67r2 0 (fun σ h => wC P f67c4 Q σ h) σ h) := rfl
theorem f67c10_eq : wC P f67c10 Q σ h = (wL P none f67r6 0 (fun σ h => Q .ret σ h) σ h) := rfl
theorem f67c2_eq : wC P f67c2 Q σ h = (loopW (wC P f67c3) (X.inBlock 0 (X.then (fun σ h => wC P f67c10 Q σ h) Q)) σ h) := rfl
theorem f67c1_eq : wC P f67c1 Q σ h = (wL P none f67r1 0 (fun σ h => wC P f67c2 Q σ h) σ h) := rfl
theorem f67c0_eq : wC P f67c0 Q σ h = (wL P none f67r0 0 (fun σ h => wC P f67c1 Q σ h) σ h) := rfl
end
def f68r0 : List I := [.op (.box 5 94 (.tmp 1)),
 .op (.box 6 39 (.tmp 2)),
 .op (.mov 8 (.const (.slice none 0 0))),
 .op (.mov 9 (.const (.int .i64 0))),
 .kp [0,3,5,6]]
def f68r1 : List I := [.op (.mov 10 (.const (.slice none 0 0))),
 .kp [0,3,5,6,10]]
def f68r2 : List I := [.op (.mov 11 (.const (.int .i64 0))),
 .kp [0,3,5,6,10,11]]
def f68r3 : List I := [.op (.mov 14 (.tmp 11)),
 .op (.mov 15 (.tmp 0)),
 .op (.len 16 true (.tmp 15)),
 .op (.bin 17 .lss (.tmp 14) (.tmp 16)),
 .kp [0,3,5,6,10,11,17]]
def f68r4 : List I := [.op (.mov 20 (.tmp 0)),
 .op (.mov 21 (.tmp 11)),
 .op (.iad 22 12 (.tmp 20) (.tmp 21)),
 .op (.fad 23 0 (.tmp 22)),
 .op (.ld 24 none (.tmp 23)),
 .op (.ld 25 (some 2) (.tmp 5)),
 .op (.call (some 26) 106 [(.tmp 24),(.tmp 25)]),
 .op (.un 27 .not (.tmp 26)),
 .kp [0,3,5,6,10,11,27]]
def f68r5 : List I := [.op (.mov 29 (.tmp 0)),
 .op (.mov 30 (.tmp 11)),
 .op (.iad 31 12 (.tmp 29) (.tmp 30)),
 .op (.ld 32 (some 12) (.tmp 31)),
 .op (.ld 33 (some 2) (.tmp 6)),
 .op (.call (some 34) 107 [(.tmp 32),(.tmp 33)]),
 .op (.mov 28 (.tmp 34)),
 .op (.ext 35 (.tmp 28) 0),
 .op (.ext 36 (.tmp 28) 1),
 .op (.mov 12 (.tmp 35)),
 .kp [0,3,5,6,10,11,12,36],
 .op (.mov 13 (.tmp 36)),
 .kp [0,3,5,6,10,11,12,13]]
def f68r6 : List I := [.op (.mov 37 (.tmp 13)),
 .kp [0,3,5,6,10,11,12,37]]
def f68r7 : List I := [.op (.mov 38 (.tmp 10)),
 .op (.mov 39 (.tmp 0)),
 .op (.mov 40 (.tmp 11)),
 .op (.iad 41 12 (.tmp 39) (.tmp 40)),
 .op (.fad 42 0 (.tmp 41)),
 .op (.ld 43 none (.tmp 42)),
 .op (.mov 44 (.tmp 12)),
 .op (.bld 45 [.string ⟨#[]⟩,.string ⟨#[]⟩] [(0,1,(.tmp 43)),(1,1,(.tmp 44))]),
 .op (.bsl 46 99 1 [.string ⟨#[]⟩,.string ⟨#[]⟩] [(0,2,(.tmp 45))]),
 .op (.raw (some 47) ⟨(some 47), (.call ⟨(.builtin .append), #[(.tmp 38), (.tmp 46)], #[45, 45]⟩), 45, "ref.go:82", #[⟨0, .data⟩, ⟨8, .data⟩], none⟩),
 .kp [0,3,5,6,11,47],
 .op (.mov 10 (.tmp 47)),
 .kp [0,3,5,6,10,11]]
def f68r8 : List I := [.op (.mov 18 (.tmp 11)),
 .op (.bin 19 .add (.tmp 18) (.const (.int .i64 1))),
 .op (.mov 11 (.tmp 19)),
 .kp [0,3,5,6,10,11]]
def f68r9 : List I := [.op (.mov 48 (.tmp 10)),
 .op (.len 49 true (.tmp 48)),
 .op (.mov 50 (.tmp 3)),
 .op (.mm 51 true (.tmp 50) (.const (.int .i64 0))),
 .op (.bin 52 .gtr (.tmp 49) (.tmp 51)),
 .kp [10,52]]
def f68r10 : List I := [.op (.mov 8 (.const (.slice none 0 0))),
 .op (.mov 9 (.const (.int .i64 3))),
 .kp [8,9]]
def f68r11 : List I := [.op (.mov 53 (.tmp 10)),
 .op (.mov 8 (.tmp 53)),
 .op (.mov 9 (.const (.int .i64 0))),
 .kp [8,9]]
def f68c12 : C := (.reg f68r7)
def f68c11 : C := (.cond (.tmp 37) f68c12 .skip)
def f68c10 : C := (.seq (.reg f68r6) f68c11)
def f68c9 : C := (.seq (.drw f68r5) f68c10)
def f68c8 : C := (.seq (.cond (.tmp 27) (.exit 1) .skip) f68c9)
def f68c7 : C := (.seq (.drw f68r4) f68c8)
def f68c13 : C := (.reg f68r8)
def f68c6 : C := (.seq (.block 1 f68c7) f68c13)
def f68c5 : C := (.seq (.cond (.tmp 17) .skip (.exit 0)) f68c6)
def f68c4 : C := (.seq (.reg f68r3) f68c5)
def f68c16 : C := (.seq (.reg f68r10) .ret)
def f68c17 : C := (.seq (.reg f68r11) .ret)
def f68c15 : C := (.seq (.cond (.tmp 52) f68c16 .skip) f68c17)
def f68c14 : C := (.seq (.reg f68r9) f68c15)
def f68c3 : C := (.seq (.block 0 (.loop f68c4)) f68c14)
def f68c2 : C := (.seq (.reg f68r2) f68c3)
def f68c1 : C := (.seq (.reg f68r1) f68c2)
def f68c0 : C := (.seq (.reg f68r0) f68c1)
theorem f68cmp : cmpF Try.prog Try.f68 [.l [.o 0,.o 1,.o 2,.o 3,.kp [0,3,5,6]],
 .l [.o 0,.kp [0,3,5,6,10]],
 .l [.o 0,.kp [0,3,5,6,10,11]],
 .l [.o 0,.o 1,.o 2,.o 3,.kp [0,3,5,6,10,11,17]],
 .l [.o 0,.o 1,.o 2,.o 3,.o 4,.o 5,.o 6,.o 7,.kp [0,3,5,6,10,11,27]],
 .l [.o 0,.o 1,.o 2,.o 3,.o 4,.o 5,.o 6,.o 7,.o 8,.o 9,.kp [0,3,5,6,10,11,12,36],.o 10,.kp [0,3,5,6,10,11,12,13]],
 .l [.o 0,.kp [0,3,5,6,10,11,12,37]],
 .l [.o 0,.o 1,.o 2,.o 3,.o 4,.o 5,.o 6,.o 7,.o 8,.o 9,.kp [0,3,5,6,11,47],.o 10,.kp [0,3,5,6,10,11]],
 .l [.o 0,.o 1,.o 2,.kp [0,3,5,6,10,11]],
 .l [.o 0,.o 1,.o 2,.o 3,.o 4,.kp [10,52]],
 .l [.o 0,.o 1,.kp [8,9]],
 .l [.o 0,.o 1,.o 2,.kp [8,9]]] = some (f68c0,[.tmp 8,.tmp 9]) := by kernel_rfl
theorem f68ok {args : List Value} {h : Heap} {R : Value → Heap → Prop} (hn : args.length ≤ 54) (H : wC Try.prog f68c0 (endW [.tmp 8,.tmp 9] R) (envOf 0 args) h) : CallsH Try.prog 68 args h R :=
 fn_ok2 Try.func68 f68cmp hn H
section
variable {P : Program} {Q : X → Env → Heap → Prop} {σ : Env} {h : Heap}
theorem f68c12_eq : wC P f68c12 Q σ h = (wL P none f68r7 0 (fun σ h => Q .normal σ h) σ h) := rfl
theorem f68c11_eq : wC P f68c11 Q σ h = (bd (evO σ (.tmp 37)) fun v => bd (asB v) fun t => br t (wC P f68c12 Q σ h) (Q .normal σ h)) := rfl
theorem f68c10_eq : wC P f68c10 Q σ h = (wL P none f68r6 0 (fun σ h => wC P f68c11 Q σ h) σ h) := rfl
theorem f68c9_eq : wC P f68c9 Q σ h = (drwW P f68r5 (fun σ h => wC P f68c10 Q σ h) σ h) := rfl
theorem f68c8_eq : wC P f68c8 Q σ h = (bd (evO σ (.tmp 27)) fun v => bd (asB v) fun t => br t (Q (.exit 1) σ h) (wC P f68c9 Q σ h)) := rfl
theorem f68c7_eq : wC P f68c7 Q σ h = (drwW P f68r4 (fun σ h => wC P f68c8 Q σ h) σ h) := rfl
theorem f68c13_eq : wC P f68c13 Q σ h = (wL P none f68r8 0 (fun σ h => Q .normal σ h) σ h) := rfl
theorem f68c6_eq : wC P f68c6 Q σ h = (wC P f68c7 (X.inBlock 1 (X.then (fun σ h => wC P f68c13 Q σ h) Q)) σ h) := rfl
theorem f68c5_eq : wC P f68c5 Q σ h = (bd (evO σ (.tmp 17)) fun v => bd (asB v) fun t => br t (wC P f68c6 Q σ h) (Q (.exit 0) σ h)) := rfl
theorem f68c4_eq : wC P f68c4 Q σ h = (wL P none f68r3 0 (fun σ h => wC P f68c5 Q σ h) σ h) := rfl
theorem f68c16_eq : wC P f68c16 Q σ h = (wL P none f68r10 0 (fun σ h => Q .ret σ h) σ h) := rfl
theorem f68c17_eq : wC P f68c17 Q σ h = (wL P none f68r11 0 (fun σ h => Q .ret σ h) σ h) := rfl
theorem f68c15_eq : wC P f68c15 Q σ h = (bd (evO σ (.tmp 52)) fun v => bd (asB v) fun t => br t (wC P f68c16 (X.then (fun σ h => wC P f68c17 Q σ h) Q) σ h) (wC P f68c17 Q σ h)) := rfl
theorem f68c14_eq : wC P f68c14 Q σ h = (wL P none f68r9 0 (fun σ h => wC P f68c15 Q σ h) σ h) := rfl
theorem f68c3_eq : wC P f68c3 Q σ h = (loopW (wC P f68c4) (X.inBlock 0 (X.then (fun σ h => wC P f68c14 Q σ h) Q)) σ h) := rfl
theorem f68c2_eq : wC P f68c2 Q σ h = (wL P none f68r2 0 (fun σ h => wC P f68c3 Q σ h) σ h) := rfl
theorem f68c1_eq : wC P f68c1 Q σ h = (wL P none f68r1 0 (fun σ h => wC P f68c2 Q σ h) σ h) := rfl
theorem f68c0_eq : wC P f68c0 Q σ h = (wL P none f68r0 0 (fun σ h => wC P f68c1 Q σ h) σ h) := rfl
end
def f71r0 : List I := [.op (.new 4 72 [.int .i64 0,.int .i64 0,.int .i64 0,.int .i64 0,.int .i64 0,.int .i64 0,.int .i64 0,.bool false,.string ⟨#[]⟩]),
 .op (.mov 5 (.const (.bool false))),
 .kp [0,1,4]]
def f71r1 : List I := [.op (.mov 7 (.tmp 0)),
 .op (.mov 8 (.tmp 1)),
 .op (.call (some 9) 108 [(.tmp 7),(.tmp 8)]),
 .op (.mov 6 (.tmp 9)),
 .kp [0,4,6]]
def f71r2 : List I := [.op (.mov 10 (.tmp 6)),
 .op (.bin 11 .lss (.tmp 10) (.const (.int .i64 0))),
 .op (.mov 12 (.tmp 11)),
 .sc 12 false 6,
 .g 12 false (.mov 13 (.tmp 0)),
 .g 12 false (.mov 14 (.tmp 6)),
 .g 12 false (.iad 15 12 (.tmp 13) (.tmp 14)),
 .g 12 false (.fad 16 2 (.tmp 15)),
 .g 12 false (.ld 17 none (.tmp 16)),
 .g 12 false (.un 18 .not (.tmp 17)),
 .op (.pick 19 (.tmp 12) (.const (.bool true)) (.tmp 18)),
 .kp [19,0,4,6]]
def f71r3 : List I := [.op (.bld 20 [.int .i64 0,.int .i64 0,.int .i64 0,.int .i64 0,.int .i64 0,.int .i64 0,.int .i64 0,.bool false,.string ⟨#[]⟩] []),
 .op (.st 9 (.tmp 4) (.tmp 20)),
 .op (.mov 5 (.const (.bool false))),
 .kp [4,5]]
def f71r4 : List I := [.op (.mov 21 (.tmp 0)),
 .op (.mov 22 (.tmp 6)),
 .op (.iad 23 12 (.tmp 21) (.tmp 22)),
 .op (.fad 24 3 (.tmp 23)),
 .op (.ld 25 (some 9) (.tmp 24)),
 .op (.st 9 (.tmp 4) (.tmp 25)),
 .op (.mov 5 (.const (.bool true))),
 .kp [4,5]]
def f71c4 : C := (.seq (.reg f71r3) .ret)
def f71c5 : C := (.seq (.reg f71r4) .ret)
def f71c3 : C := (.seq (.cond (.tmp 19) f71c4 .skip) f71c5)
def f71c2 : C := (.seq (.reg f71r2) f71c3)
def f71c1 : C := (.seq (.reg f71r1) f71c2)
def f71c0 : C := (.seq (.reg f71r0) f71c1)
theorem f71cmp : cmpF Try.prog Try.f71 [.l [.o 0,.o 1,.kp [0,1,4]],
 .l [.o 0,.o 1,.o 2,.o 3,.kp [0,4,6]],
 .l [.o 0,.o 1,.o 2,.sc 12 false 6,.o 3,.o 4,.o 5,.o 6,.o 7,.o 8,.o 9,.kp [19,0,4,6]],
 .l [.o 0,.o 1,.o 2,.kp [4,5]],
 .l [.o 0,.o 1,.o 2,.o 3,.o 4,.o 5,.o 6,.kp [4,5]]] = some (f71c0,[.cell 4 9,.tmp 5]) := by kernel_rfl
theorem f71ok {args : List Value} {h : Heap} {R : Value → Heap → Prop} (hn : args.length ≤ 26) (H : wC Try.prog f71c0 (endW [.cell 4 9,.tmp 5] R) (envOf 0 args) h) : CallsH Try.prog 71 args h R :=
 fn_ok2 Try.func71 f71cmp hn H
section
variable {P : Program} {Q : X → Env → Heap → Prop} {σ : Env} {h : Heap}
theorem f71c4_eq : wC P f71c4 Q σ h = (wL P none f71r3 0 (fun σ h => Q .ret σ h) σ h) := rfl
theorem f71c5_eq : wC P f71c5 Q σ h = (wL P none f71r4 0 (fun σ h => Q .ret σ h) σ h) := rfl
theorem f71c3_eq : wC P f71c3 Q σ h = (bd (evO σ (.tmp 19)) fun v => bd (asB v) fun t => br t (wC P f71c4 (X.then (fun σ h => wC P f71c5 Q σ h) Q) σ h) (wC P f71c5 Q σ h)) := rfl
theorem f71c2_eq : wC P f71c2 Q σ h = (wL P none f71r2 0 (fun σ h => wC P f71c3 Q σ h) σ h) := rfl
theorem f71c1_eq : wC P f71c1 Q σ h = (wL P none f71r1 0 (fun σ h => wC P f71c2 Q σ h) σ h) := rfl
theorem f71c0_eq : wC P f71c0 Q σ h = (wL P none f71r0 0 (fun σ h => wC P f71c1 Q σ h) σ h) := rfl
end
def f70r0 : List I := [.op (.box 3 37 (.tmp 1)),
 .op (.mov 4 (.const (.bool false))),
 .kp [0,3]]
def f70r1 : List I := [.op (.mov 5 (.const (.int .i64 0))),
 .kp [0,3,5]]
def f70r2 : List I := [.op (.mov 6 (.tmp 5)),
 .op (.mov 7 (.tmp 0)),
 .op (.len 8 true (.tmp 7)),
 .op (.bin 9 .lss (.tmp 6) (.tmp 8)),
 .kp [0,3,5,9]]
def f70r3 : List I := [.op (.mov 12 (.tmp 0)),
 .op (.mov 13 (.tmp 5)),
 .op (.iad 14 12 (.tmp 12) (.tmp 13)),
 .op (.fad 15 2 (.tmp 14)),
 .op (.ld 16 none (.tmp 15)),
 .op (.mov 17 (.tmp 16)),
 .sc 17 true 8,
 .g 17 true (.mov 18 (.tmp 0)),
 .g 17 true (.mov 19 (.tmp 5)),
 .g 17 true (.iad 20 12 (.tmp 18) (.tmp 19)),
 .g 17 true (.fad 21 3 (.tmp 20)),
 .g 17 true (.fad 22 0 (.tmp 21)),
 .g 17 true (.ld 23 (some 4) (.tmp 22)),
 .g 17 true (.ld 24 (some 4) (.tmp 3)),
 .g 17 true (.eqa 25 false [.i .i64,.i .i64,.i .i64,.i .i64] (.tmp 23) (.tmp 24)),
 .op (.pick 26 (.tmp 17) (.tmp 25) (.const (.bool false))),
 .kp [26,0,3,5]]
def f70r4 : List I := [.op (.mov 4 (.const (.bool true))),
 .kp [4]]
def f70r5 : List I := [.op (.mov 10 (.tmp 5)),
 .op (.bin 11 .add (.tmp 10) (.const (.int .i64 1))),
 .op (.mov 5 (.tmp 11)),
 .kp [0,3,5]]
def f70r6 : List I := [.op (.mov 4 (.const (.bool false))),
 .kp [4]]
def f70c8 : C := (.seq (.reg f70r4) .ret)
def f70c7 : C := (.cond (.tmp 26) f70c8 .skip)
def f70c6 : C := (.seq (.drw f70r3) f70c7)
def f70c9 : C := (.reg f70r5)
def f70c5 : C := (.seq (.block 1 f70c6) f70c9)
def f70c4 : C := (.seq (.cond (.tmp 9) .skip (.exit 0)) f70c5)
def f70c3 : C := (.seq (.reg f70r2) f70c4)
def f70c10 : C := (.seq (.reg f70r6) .ret)
def f70c2 : C := (.seq (.block 0 (.loop f70c3)) f70c10)
def f70c1 : C := (.seq (.reg f70r1) f70c2)
def f70c0 : C := (.seq (.reg f70r0) f70c1)
theorem f70cmp : cmpF Try.prog Try.f70 [.l [.o 0,.o 1,.kp [0,3]],
 .l [.o 0,.kp [0,3,5]],
 .l [.o 0,.o 1,.o 2,.o 3,.kp [0,3,5,9]],
 .l [.o 0,.o 1,.o 2,.o 3,.o 4,.o 5,.sc 17 true 8,.o 6,.o 7,.o 8,.o 9,.o 10,.o 11,.o 12,.o 13,.o 14,.kp [26,0,3,5]],
 .l [.o 0,.kp [4]],
 .l [.o 0,.o 1,.o 2,.kp [0,3,5]],
 .l [.o 0,.kp [4]]] = some (f70c0,[.tmp 4]) := by kernel_rfl
theorem f70ok {args : List Value} {h : Heap} {R : Value → Heap → Prop} (hn : args.length ≤ 27) (H : wC Try.prog f70c0 (endW [.tmp 4] R) (envOf 0 args) h) : CallsH Try.prog 70 args h R :=
 fn_ok2 Try.func70 f70cmp hn H
section
variable {P : Program} {Q : X → Env → Heap → Prop} {σ : Env} {h : Heap}
theorem f70c8_eq : wC P f70c8 Q σ h = (wL P none f70r4 0 (fun σ h => Q .ret σ h) σ h) := rfl
theorem f70c7_eq : wC P f70c7 Q σ h = (bd (evO σ (.tmp 26)) fun v => bd (asB v) fun t => br t (wC P f70c8 Q σ h) (Q .normal σ h)) := rfl
theorem f70c6_eq : wC P f70c6 Q σ h = (drwW P f70r3 (fun σ h => wC P f70c7 Q σ h) σ h) := rfl
theorem f70c9_eq : wC P f70c9 Q σ h = (wL P none f70r5 0 (fun σ h => Q .normal σ h) σ h) := rfl
theorem f70c5_eq : wC P f70c5 Q σ h = (wC P f70c6 (X.inBlock 1 (X.then (fun σ h => wC P f70c9 Q σ h) Q)) σ h) := rfl
theorem f70c4_eq : wC P f70c4 Q σ h = (bd (evO σ (.tmp 9)) fun v => bd (asB v) fun t => br t (wC P f70c5 Q σ h) (Q (.exit 0) σ h)) := rfl
theorem f70c3_eq : wC P f70c3 Q σ h = (wL P none f70r2 0 (fun σ h => wC P f70c4 Q σ h) σ h) := rfl
theorem f70c10_eq : wC P f70c10 Q σ h = (wL P none f70r6 0 (fun σ h => Q .ret σ h) σ h) := rfl
theorem f70c2_eq : wC P f70c2 Q σ h = (loopW (wC P f70c3) (X.inBlock 0 (X.then (fun σ h => wC P f70c10 Q σ h) Q)) σ h) := rfl
theorem f70c1_eq : wC P f70c1 Q σ h = (wL P none f70r1 0 (fun σ h => wC P f70c2 Q σ h) σ h) := rfl
theorem f70c0_eq : wC P f70c0 Q σ h = (wL P none f70r0 0 (fun σ h => wC P f70c1 Q σ h) σ h) := rfl
end
def f106r0 : List I := [.op (.box 3 94 (.tmp 1)),
 .op (.mov 4 (.const (.bool false))),
 .kp [0,3]]
def f106r1a : List I := [.op (.mov 4 (.tmp 14)),
 .kp [4]]
def f106r1 : List I := .op (.mov 5 (.tmp 0)) ::
 .op (.fad 6 0 (.tmp 3)) ::
 .op (.ld 7 none (.tmp 6)) ::
 .op (.bin 8 .geq (.tmp 5) (.tmp 7)) ::
 .op (.mov 9 (.tmp 8)) ::
 .sc 9 true 4 ::
 .g 9 true (.mov 10 (.tmp 0)) ::
 .g 9 true (.fad 11 1 (.tmp 3)) ::
 .g 9 true (.ld 12 none (.tmp 11)) ::
 .g 9 true (.bin 13 .lss (.tmp 10) (.tmp 12)) ::
 .op (.pick 14 (.tmp 9) (.tmp 13) (.const (.bool false))) ::
 .kp [14] ::
 f106r1a
def f106c1 : C := (.seq (.reg f106r1) .ret)
def f106c0 : C := (.seq (.reg f106r0) f106c1)
theorem f106cmp : cmpF Try.prog Try.f106 [.l [.o 0,.o 1,.kp [0,3]],
 .l [.o 0,.o 1,.o 2,.o 3,.o 4,.sc 9 true 4,.o 5,.o 6,.o 7,.o 8,.o 9,.kp [14],.o 10,.kp [4]]] = some (f106c0,[.tmp 4]) := by kernel_rfl
theorem f106ok {args : List Value} {h : Heap} {R : Value → Heap → Prop} (hn : args.length ≤ 15) (H : wC Try.prog f106c0 (endW [.tmp 4] R) (envOf 0 args) h) : CallsH Try.prog 106 args h R :=
 fn_ok2 Try.func106 f106cmp hn H
section
variable {P : Program} {Q : X → Env → Heap → Prop} {σ : Env} {h : Heap}
theorem f106c1_eq : wC P f106c1 Q σ h = (wL P none f106r1 0 (fun σ h => Q .ret σ h) σ h) := rfl
theorem f106c0_eq : wC P f106c0 Q σ h = (wL P none f106r0 0 (fun σ h => wC P f106c1 Q σ h) σ h) := rfl
end
end Go.Proofs.Ytefghfgmkndikaa
namespace Go.AX
open Go
def blocksP (t : Stamp) (x : Cell) : Bool := x.locked && !Stamp.lt t x.lock.at_
def blocksL (t : Stamp) (xs : List Cell) : Lck × Bool := match xs.find? (blocksP t) with | some x => (x.lock,true) | none => (noLock,false)
theorem find_drop {α : Type} (p : α → Bool) {l : List α} {k : Nat} {x : α} (hx : l[k]? = some x) : (l.drop k).find? p = if p x then some x else (l.drop (k + 1)).find? p := by
 obtain ⟨hk,rfl⟩ := List.getElem?_eq_some_iff.1 hx
 rw [List.drop_eq_getElem_cons hk,List.find?_cons]
 cases p l[k] <;> rfl
end Go.AX
namespace Go.Proofs.Ytefghfgmkndikaa
open Go Go.AX
section
variable {B : Nat → Prop} {a : Option Addr} {c n : Nat} {cs : List Cell} {h : Heap} {R : Value → Heap → Prop}
theorem blocksG (g : Gd n cs) (hn : n ≤ 900000) (S : SlC B h a cs) (hc : cs.length ≤ c) (s : Spn) (t : Stamp) (hR : ∀ h',Ext h h' → R (.tuple #[.agg (eLck (blocksL t (cs.filter fun c => inS s c.key)).1).toArray,.bool (blocksL t (cs.filter fun c => inS s c.key)).2]) h') :
  CallsH Try.prog 93 [.slice a cs.length c,.agg (eSpn s).toArray,.agg (eStamp t).toArray] h R := by
 obtain ⟨z1,z2,z3,z4,z5,z6⟩ := szAll g.sz hn
 have hbig : big = 1000000 := rfl
 rw [← withinL_eq s g.good.sorted] at hR
 refine f93ok (by simp) ?_
 (try simp (maxSteps:=1000000) (disch:=first|exact Lb rfl|omega) only [AXS,AXB,J.dst,reduceIte,Z1,Z2,Z3,Z4,Z5]); rw [f93c0_eq]; (try simp (maxSteps:=1000000) (disch:=first|exact Lb rfl|omega) only [AXS,AXB,J.dst,reduceIte,Z1,Z2,Z3,Z4,Z5,f93r0])
 refine wL_boxN rfl ?_; rintro b1 h1 e1 s1 hb1 (B1 : Blk _ _ _ (eSpn s))
 refine wL_boxN rfl ?_; rintro b2 h2 e2 s2 hb2 (B2 : Blk _ _ _ (eStamp t))
 refine wL_newN ?_; rintro b0 h0 e0 s0 hb0 B0
 replace B1 := B1.ext (e2.trans e0); replace B2 := B2.ext e0
 have e02 := e1.trans (e2.trans e0)
 (try simp (maxSteps:=1000000) (disch:=first|exact Lb rfl|omega) only [AXS,AXB,J.dst,reduceIte,Z1,Z2,Z3,Z4,Z5]); rw [f93c1_eq]; (try simp (maxSteps:=1000000) (disch:=first|exact Lb rfl|omega) only [AXS,AXB,J.dst,reduceIte,Z1,Z2,Z3,Z4,Z5,f93r1,B1.rd,eSpn])
 refine withinG g hn (S.ext e02) hc s ?_
 intro aw cw h3 W hw e3
 refine ⟨trivial,?_⟩
 have hwl := withinL_le cs s
 generalize withinL cs s = ws at *
 replace B2 := B2.ext e3; replace B0 := B0.ext e3
 have e03 := e02.trans e3
 try simp (maxSteps:=1000000) (disch:=first|exact Lb rfl|omega) only [AXS,AXB,J.dst,reduceIte,Z1,Z2,Z3,Z4,Z5]
 rw [f93c2_eq]
 refine loop_in (fun n σ h' => Ext h3 h' ∧ ∃ k : Nat,k + n = ws.length ∧ ws.find? (blocksP t) = (ws.drop k).find? (blocksP t) ∧
   σ = [(5,ptr b2 0),(6,ptr b0 0),(12,.slice aw ws.length cw),(13,vi ws.length),(14,vi k)]) ws.length ⟨Ext.refl _,0,by omega,rfl,rfl⟩ ?_
 rintro m σ h4 ⟨e4,k,hk,hf,rfl⟩ Q' hnx hex hrt _
 have hs0 := e03.size
 have hs4 := e4.size
 replace B2 := B2.ext e4; replace B0 := B0.ext e4
 (try simp (maxSteps:=1000000) (disch:=first|exact Lb rfl|omega) only [AXS,AXB,J.dst,reduceIte,Z1,Z2,Z3,Z4,Z5]); rw [f93c3_eq]; (try simp (maxSteps:=1000000) (disch:=first|exact Lb rfl|omega) only [AXS,AXB,J.dst,reduceIte,Z1,Z2,Z3,Z4,Z5,f93r2]); rw [f93c4_eq]; (try simp (maxSteps:=1000000) (disch:=first|exact Lb rfl|omega) only [AXS,AXB,J.dst,reduceIte,Z1,Z2,Z3,Z4,Z5])
 refine ⟨fun hh => ?_,fun hh => ?_⟩
 ·have hkl : k < ws.length := by have := of_decide_eq_true hh; omega
  obtain ⟨x,hx⟩ := get_ex hkl
  obtain ⟨b,o,v,rfl,_,hrow,hcr⟩ := (W.ext e4).elem hx
  rw [find_drop _ hx] at hf
  (try simp (maxSteps:=1000000) (disch:=first|exact Lb rfl|omega) only [AXS,AXB,J.dst,reduceIte,Z1,Z2,Z3,Z4,Z5]); rw [f93c5_eq]; (try simp (maxSteps:=1000000) (disch:=first|exact Lb rfl|omega) only [AXS,AXB,J.dst,reduceIte,Z1,Z2,Z3,Z4,Z5,row_cv hrow]); rw [f93c6_eq]; (try simp (maxSteps:=1000000) (disch:=first|exact Lb rfl|omega) only [AXS,AXB,J.dst,reduceIte,Z1,Z2,Z3,Z4,Z5,f93r3,row_cv hrow])
  refine ⟨by omega,by omega,?_⟩
  refine wL_newN ?_; rintro b5 h5 e5 s5 hb5 B5
  try simp (maxSteps:=1000000) (disch:=first|exact Lb rfl|omega) only [AXS,AXB,J.dst,reduceIte,Z1,Z2,Z3,Z4,Z5]
  refine wL_stN rfl rfl rfl B5 (by decide) (eCV_one v) ?_; rintro h6 u6 (B6 : Blk _ _ _ (eCV v))
  have e6 := u6.ext e5 (by omega)
  replace B2 := B2.ext e6; replace B0 := B0.ext e6
  have hlk := hcr.locked
  have hlo := hcr.lock
  have fin : ∀ (h8 : Heap),Ext h6 h8 → wC Try.prog f93c8 (X.inBlock 1 (X.then (fun σ h => wC Try.prog f93c10 Q' σ h) Q')) [(27,.bool (blocksP t x)),(5,ptr b2 0),(6,ptr b0 0),(9,ptr b5 0),(12,.slice (some ⟨b,o,none⟩) ws.length cw),(13,vi ws.length),(14,vi k)] h8 := by
   intro h8 e8
   have e38 := e4.trans (e6.trans e8)
   replace B6 := B6.ext e8; replace B0 := B0.ext e8
   rw [f93c8_eq]
   simp (maxSteps:=1000000) (disch:=first|exact Lb rfl|omega) only [AXS,AXB,J.dst,reduceIte,Z1,Z2,Z3,Z4,Z5]
   refine ⟨fun h9 => ?_,fun h9 => ?_⟩
   ·(try simp (maxSteps:=1000000) (disch:=first|exact Lb rfl|omega) only [AXS,AXB,J.dst,reduceIte,Z1,Z2,Z3,Z4,Z5]); rw [f93c9_eq]; (try simp (maxSteps:=1000000) (disch:=first|exact Lb rfl|omega) only [AXS,AXB,J.dst,reduceIte,Z1,Z2,Z3,Z4,Z5,f93r5,B6.rd,eCV])
    refine wL_stN rfl rfl rfl B0 (by decide) (one_lck v.lock) ?_; rintro h10 u10 (B10 : Blk _ _ _ (eLck v.lock))
    try simp (maxSteps:=1000000) (disch:=first|exact Lb rfl|omega) only [AXS,AXB,J.dst,reduceIte,Z1,Z2,Z3,Z4,Z5]
    refine hrt _ _ ?_
    simp (maxSteps:=1000000) (disch:=first|exact Lb rfl|omega) only [AXS,AXB,J.dst,reduceIte,Z1,Z2,Z3,Z4,Z5,B10.rd]
    have hb : blocksL t ws = (v.lock,true) := by
     unfold blocksL; rw [hf,h9,hlo]; rfl
    have := hR h10 (u10.ext (e03.trans e38) (by omega))
    rw [hb] at this
    exact this
   ·(try simp (maxSteps:=1000000) (disch:=first|exact Lb rfl|omega) only [AXS,AXB,J.dst,reduceIte,Z1,Z2,Z3,Z4,Z5]); rw [f93c10_eq]; (try simp (maxSteps:=1000000) (disch:=first|exact Lb rfl|omega) only [AXS,AXB,J.dst,reduceIte,Z1,Z2,Z3,Z4,Z5,f93r6])
    rw [i64_wrap (by omega) (by omega)]
    refine hnx (m - 1) _ _ (by omega) ⟨e38,k + 1,by omega,?_,rfl⟩
    rw [hf,h9]; rfl
  (try simp (maxSteps:=1000000) (disch:=first|exact Lb rfl|omega) only [AXS,AXB,J.dst,reduceIte,Z1,Z2,Z3,Z4,Z5]); rw [f93c7_eq]; (try simp (maxSteps:=1000000) (disch:=first|exact Lb rfl|omega) only [AXS,AXB,J.dst,reduceIte,Z1,Z2,Z3,Z4,Z5,f93r4])
  cases hl : x.locked with
  | false =>
   have : blocksP t x = false := by unfold blocksP; rw [hl]; rfl
   rw [this] at fin
   simp (maxSteps:=1000000) (disch:=first|exact Lb rfl|omega) only [AXJ,AXS,AXB,J.dst,reduceIte,Z1,Z2,Z3,Z4,Z5,f93r4,B6.cel,eCV,hlk,hl]
   exact fin _ (Ext.refl _)
  | true =>
   have : blocksP t x = !Stamp.lt t x.lock.at_ := by unfold blocksP; rw [hl]; rfl
   rw [this] at fin
   simp (maxSteps:=1000000) (disch:=first|exact Lb rfl|omega) only [AXJ,AXS,AXB,J.dst,reduceIte,Z1,Z2,Z3,Z4,Z5,f93r4,B6.cel,B6.rd,B2.rd,eCV,eStamp,hlk,hl,hlo]
   refine less_ok t x.lock.at_ _ ?_
   intro h8 e8
   refine ⟨trivial,?_⟩
   simp (maxSteps:=1000000) (disch:=first|exact Lb rfl|omega) only [AXJ,AXS,AXB,J.dst,reduceIte,Z1,Z2,Z3,Z4,Z5]
   exact fin _ e8
 ·have hkl : k = ws.length := by have := of_decide_eq_false hh; omega
  refine hex _ _ ?_
  (try simp (maxSteps:=1000000) (disch:=first|exact Lb rfl|omega) only [AXS,AXB,J.dst,reduceIte,Z1,Z2,Z3,Z4,Z5]); rw [f93c11_eq]; (try simp (maxSteps:=1000000) (disch:=first|exact Lb rfl|omega) only [AXS,AXB,J.dst,reduceIte,Z1,Z2,Z3,Z4,Z5,f93r7])
  refine wL_stN rfl rfl rfl B0 (by decide) (one_lck noLock) ?_; rintro h10 u10 (B10 : Blk _ _ _ (eLck noLock))
  simp (maxSteps:=1000000) (disch:=first|exact Lb rfl|omega) only [AXS,AXB,J.dst,reduceIte,Z1,Z2,Z3,Z4,Z5,B10.rd]
  have hb : blocksL t ws = (noLock,false) := by
   unfold blocksL; rw [hf,hkl,List.drop_length]; rfl
  have := hR h10 (u10.ext (e03.trans e4) (by omega))
  rw [hb] at this
  exact this
theorem in_ok (key : ByteArray) (s : Spn) (hR : ∀ h',Ext h h' → R (.bool (inS s key)) h') : CallsH Try.prog 106 [.string key,.agg (eSpn s).toArray] h R := by
 refine f106ok (by simp) ?_
 (try simp (maxSteps:=1000000) (disch:=first|exact Lb rfl|omega) only [AXS,AXB,J.dst,reduceIte,Z1,Z2,Z3,Z4,Z5]); rw [f106c0_eq]; (try simp (maxSteps:=1000000) (disch:=first|exact Lb rfl|omega) only [AXS,AXB,J.dst,reduceIte,Z1,Z2,Z3,Z4,Z5,f106r0])
 refine wL_boxN rfl ?_; rintro b1 h1 e1 s1 hb1 (B1 : Blk _ _ _ (eSpn s))
 try simp (maxSteps:=1000000) (disch:=first|exact Lb rfl|omega) only [AXS,AXB,J.dst,reduceIte,Z1,Z2,Z3,Z4,Z5]
 rw [f106c1_eq]
 simp (maxSteps:=1000000) (disch:=first|exact Lb rfl|omega) only [AXJ,AXS,AXB,J.dst,reduceIte,Z1,Z2,Z3,Z4,Z5,f106r1,B1.cel,eSpn]
 simp (maxSteps:=1000000) (disch:=first|exact Lb rfl|omega) only [AXJ,AXS,AXB,J.dst,reduceIte,Z1,Z2,Z3,Z4,Z5,f106r1a]
 exact hR h1 e1
theorem rfilter_find (t : Stamp) (s : Spn) (xs : List Cell) : (xs.filter fun c => inS s c.key).find? (blocksP t) = xs.find? fun c => inS s c.key && blocksP t c := by
 rw [List.find?_filter]
 congr 1
 funext x
 cases inS s x.key <;> cases blocksP t x <;> rfl
theorem rblocksG (g : Gd n cs) (hn : n ≤ 900000) (S : SlC B h a cs) (s : Spn) (t : Stamp) (hR : ∀ h',Ext h h' → R (.tuple #[.agg (eLck (blocksL t (cs.filter fun c => inS s c.key)).1).toArray,.bool (blocksL t (cs.filter fun c => inS s c.key)).2]) h') :
  CallsH Try.prog 67 [.slice a cs.length c,.agg (eSpn s).toArray,.agg (eStamp t).toArray] h R := by
 obtain ⟨z1,z2,z3,z4,z5,z6⟩ := szAll g.sz hn
 have hbig : big = 1000000 := rfl
 have hbl : blocksL t (cs.filter fun c => inS s c.key) = match cs.find? (fun c => inS s c.key && blocksP t c) with | some x => (x.lock,true) | none => (noLock,false) := by
  unfold blocksL; rw [rfilter_find]
 rw [hbl] at hR
 refine f67ok (by simp) ?_
 (try simp (maxSteps:=1000000) (disch:=first|exact Lb rfl|omega) only [AXS,AXB,J.dst,reduceIte,Z1,Z2,Z3,Z4,Z5]); rw [f67c0_eq]; (try simp (maxSteps:=1000000) (disch:=first|exact Lb rfl|omega) only [AXS,AXB,J.dst,reduceIte,Z1,Z2,Z3,Z4,Z5,f67r0])
 refine wL_boxN rfl ?_; rintro b1 h1 e1 s1 hb1 (B1 : Blk _ _ _ (eSpn s))
 refine wL_boxN rfl ?_; rintro b2 h2 e2 s2 hb2 (B2 : Blk _ _ _ (eStamp t))
 refine wL_newN ?_; rintro b0 h0 e0 s0 hb0 B0
 replace B1 := B1.ext (e2.trans e0); replace B2 := B2.ext e0
 have e02 := e1.trans (e2.trans e0)
 (try simp (maxSteps:=1000000) (disch:=first|exact Lb rfl|omega) only [AXS,AXB,J.dst,reduceIte,Z1,Z2,Z3,Z4,Z5]); rw [f67c1_eq]; (try simp (maxSteps:=1000000) (disch:=first|exact Lb rfl|omega) only [AXS,AXB,J.dst,reduceIte,Z1,Z2,Z3,Z4,Z5,f67r1])
 rw [f67c2_eq]
 refine loop_in (fun n σ h' => Ext h0 h' ∧ ∃ k : Nat,k + n = cs.length ∧ cs.find? (fun c => inS s c.key && blocksP t c) = (cs.drop k).find? (fun c => inS s c.key && blocksP t c) ∧
   σ = [(0,.slice a cs.length c),(4,ptr b1 0),(5,ptr b2 0),(6,ptr b0 0),(8,vi k)]) cs.length ⟨Ext.refl _,0,by omega,rfl,rfl⟩ ?_
 rintro m σ h4 ⟨e4,k,hk,hf,rfl⟩ Q' hnx hex hrt _
 have hs0 := e02.size
 have hs4 := e4.size
 replace B1 := B1.ext e4; replace B2 := B2.ext e4; replace B0 := B0.ext e4
 (try simp (maxSteps:=1000000) (disch:=first|exact Lb rfl|omega) only [AXS,AXB,J.dst,reduceIte,Z1,Z2,Z3,Z4,Z5]); rw [f67c3_eq]; (try simp (maxSteps:=1000000) (disch:=first|exact Lb rfl|omega) only [AXS,AXB,J.dst,reduceIte,Z1,Z2,Z3,Z4,Z5,f67r2]); rw [f67c4_eq]; (try simp (maxSteps:=1000000) (disch:=first|exact Lb rfl|omega) only [AXS,AXB,J.dst,reduceIte,Z1,Z2,Z3,Z4,Z5])
 refine ⟨fun hh => ?_,fun hh => ?_⟩
 ·have hkl : k < cs.length := by have := of_decide_eq_true hh; omega
  obtain ⟨x,hx⟩ := get_ex hkl
  obtain ⟨b,o,v,rfl,_,hrow,hcr⟩ := (S.ext (e02.trans e4)).elem hx
  have hlb := hrow.lt (by rw [eCV_len]; omega)
  have hl1 := B1.lt
  have hl2 := B2.lt
  rw [find_drop _ hx] at hf
  have hlk := hcr.locked
  have hlo := hcr.lock
  have hkey := hcr.key
  have fin : ∀ (h8 : Heap),Ext h4 h8 → wC Try.prog f67c7 (X.inBlock 1 (X.then (fun σ h => wC Try.prog f67c9 Q' σ h) Q')) [(39,.bool (inS s x.key && blocksP t x)),(0,.slice (some ⟨b,o,none⟩) cs.length c),(4,ptr b1 0),(5,ptr b2 0),(6,ptr b0 0),(8,vi k)] h8 := by
   intro h8 e8
   have e38 := e4.trans e8
   have hrow8 := hrow.ext e8
   replace B0 := B0.ext e8
   rw [f67c7_eq]
   simp (maxSteps:=1000000) (disch:=first|exact Lb rfl|omega) only [AXS,AXB,J.dst,reduceIte,Z1,Z2,Z3,Z4,Z5]
   refine ⟨fun h9 => ?_,fun h9 => ?_⟩
   ·(try simp (maxSteps:=1000000) (disch:=first|exact Lb rfl|omega) only [AXS,AXB,J.dst,reduceIte,Z1,Z2,Z3,Z4,Z5]); rw [f67c8_eq]; (try simp (maxSteps:=1000000) (disch:=first|exact Lb rfl|omega) only [AXS,AXB,J.dst,reduceIte,Z1,Z2,Z3,Z4,Z5,f67r4,row_cv hrow8])
    refine ⟨by omega,by omega,?_⟩
    refine wL_stN rfl rfl rfl B0 (by decide) (one_lck v.lock) ?_; rintro h10 u10 (B10 : Blk _ _ _ (eLck v.lock))
    try simp (maxSteps:=1000000) (disch:=first|exact Lb rfl|omega) only [AXS,AXB,J.dst,reduceIte,Z1,Z2,Z3,Z4,Z5]
    refine hrt _ _ ?_
    simp (maxSteps:=1000000) (disch:=first|exact Lb rfl|omega) only [AXS,AXB,J.dst,reduceIte,Z1,Z2,Z3,Z4,Z5,B10.rd]
    have := hR h10 (u10.ext (e02.trans e38) (by omega))
    rw [hf,h9] at this
    rw [hlo]
    exact this
   ·(try simp (maxSteps:=1000000) (disch:=first|exact Lb rfl|omega) only [AXS,AXB,J.dst,reduceIte,Z1,Z2,Z3,Z4,Z5]); rw [f67c9_eq]; (try simp (maxSteps:=1000000) (disch:=first|exact Lb rfl|omega) only [AXS,AXB,J.dst,reduceIte,Z1,Z2,Z3,Z4,Z5,f67r5])
    rw [i64_wrap (by omega) (by omega)]
    refine hnx (m - 1) _ _ (by omega) ⟨e38,k + 1,by omega,?_,rfl⟩
    rw [hf,h9]; rfl
  (try simp (maxSteps:=1000000) (disch:=first|exact Lb rfl|omega) only [AXS,AXB,J.dst,reduceIte,Z1,Z2,Z3,Z4,Z5]); rw [f67c5_eq]; (try simp (maxSteps:=1000000) (disch:=first|exact Lb rfl|omega) only [AXS,AXB,J.dst,reduceIte,Z1,Z2,Z3,Z4,Z5])
  rw [f67c6_eq]
  refine drw_lt ?_
  simp (maxSteps:=1000000) (disch:=first|exact Lb rfl|omega) only [AXJ,AXS,AXB,J.dst,reduceIte,Z1,Z2,Z3,Z4,Z5,f67r3,row_cv hrow,B1.rd,eSpn,hkey]
  refine ⟨by omega,by omega,by omega,by omega,?_⟩
  refine in_ok x.key s ?_
  intro h7 e7
  refine ⟨kp_ext (Nat.le_refl _) e7,?_⟩
  have seg : ∀ (t1 : Bool),(inS s x.key && x.locked) = t1 → wL Try.prog (some ⟨(· < h4.size),h4⟩) f67r3a 0 (fun σ h => wC Try.prog f67c7 (X.inBlock 1 (X.then (fun σ h => wC Try.prog f67c9 Q' σ h) Q')) σ h)
    [(28,.bool t1),(0,.slice (some ⟨b,o,none⟩) cs.length c),(4,ptr b1 0),(5,ptr b2 0),(6,ptr b0 0),(8,vi k)] h7 := by
   intro t1 ht1
   cases t1 with
   | false =>
    have : (inS s x.key && blocksP t x) = false := by
     unfold blocksP
     cases h1 : inS s x.key
     ·rfl
     ·rw [h1] at ht1; simp at ht1; simp [ht1]
    rw [this] at fin
    simp (maxSteps:=1000000) (disch:=first|exact Lb rfl|omega) only [AXJ,AXS,AXB,J.dst,reduceIte,Z1,Z2,Z3,Z4,Z5,f67r3a,Bool.false_eq_true]
    exact ⟨fun h => h.elim,fin _ e7⟩
   | true =>
    have : (inS s x.key && blocksP t x) = !Stamp.lt t x.lock.at_ := by
     simp only [Bool.and_eq_true] at ht1
     unfold blocksP; rw [ht1.1,ht1.2]; rfl
    rw [this] at fin
    simp (maxSteps:=1000000) (disch:=first|exact Lb rfl|omega) only [AXJ,AXS,AXB,J.dst,reduceIte,Z1,Z2,Z3,Z4,Z5,f67r3a,row_cv hrow,B2.rd,eStamp,hlo]
    refine ⟨fun _ => by omega,fun _ => by omega,fun _ => by omega,fun _ => by omega,?_⟩
    refine rless_ok t x.lock.at_ _ ?_
    intro h8 e8
    refine ⟨kp_ext e7.size e8,?_⟩
    simp (maxSteps:=1000000) (disch:=first|exact Lb rfl|omega) only [AXJ,AXS,AXB,J.dst,reduceIte,Z1,Z2,Z3,Z4,Z5]
    exact fin _ (e7.trans e8)
  simp (maxSteps:=1000000) (disch:=first|exact Lb rfl|omega) only [AXJ,AXS,AXB,J.dst,reduceIte,Z1,Z2,Z3,Z4,Z5,f67r3,row_cv hrow,hlk]
  refine ⟨fun _ => by omega,fun _ => by omega,fun _ => by omega,?_⟩
  exact seg _ rfl
 ·have hkl : k = cs.length := by have := of_decide_eq_false hh; omega
  refine hex _ _ ?_
  (try simp (maxSteps:=1000000) (disch:=first|exact Lb rfl|omega) only [AXS,AXB,J.dst,reduceIte,Z1,Z2,Z3,Z4,Z5]); rw [f67c10_eq]; (try simp (maxSteps:=1000000) (disch:=first|exact Lb rfl|omega) only [AXS,AXB,J.dst,reduceIte,Z1,Z2,Z3,Z4,Z5,f67r6])
  refine wL_stN rfl rfl rfl B0 (by decide) (one_lck noLock) ?_; rintro h10 u10 (B10 : Blk _ _ _ (eLck noLock))
  simp (maxSteps:=1000000) (disch:=first|exact Lb rfl|omega) only [AXS,AXB,J.dst,reduceIte,Z1,Z2,Z3,Z4,Z5,B10.rd]
  have := hR h10 (u10.ext (e02.trans e4) (by omega))
  rw [hf,hkl,List.drop_length] at this
  exact this
theorem rheldG (g : Gd n cs) (hn : n ≤ 900000) (S : SlC B h a cs) (key : ByteArray) (hR : ∀ h',Ext h h' → R (.tuple #[.agg (eLck (heldK cs key).1).toArray,.bool (heldK cs key).2]) h') : CallsH Try.prog 71 [.slice a cs.length c,.string key] h R := by
 obtain ⟨z1,z2,z3,z4,z5,z6⟩ := szAll g.sz hn
 refine f71ok (by simp) ?_
 (try simp (maxSteps:=1000000) (disch:=first|exact Lb rfl|omega) only [AXS,AXB,J.dst,reduceIte,Z1,Z2,Z3,Z4,Z5]); rw [f71c0_eq]; (try simp (maxSteps:=1000000) (disch:=first|exact Lb rfl|omega) only [AXS,AXB,J.dst,reduceIte,Z1,Z2,Z3,Z4,Z5,f71r0])
 refine wL_newN ?_; rintro b1 h1 e1 s1 hb1 B1
 (try simp (maxSteps:=1000000) (disch:=first|exact Lb rfl|omega) only [AXS,AXB,J.dst,reduceIte,Z1,Z2,Z3,Z4,Z5]); rw [f71c1_eq]; (try simp (maxSteps:=1000000) (disch:=first|exact Lb rfl|omega) only [AXS,AXB,J.dst,reduceIte,Z1,Z2,Z3,Z4,Z5,f71r1])
 refine rfind_ok cs key _ (S.ext e1) z3 ?_
 refine ⟨trivial,?_⟩
 have hcell := findK_cell cs key
 have hlt := findK_lt cs key
 have fin0 : heldK cs key = (noLock,false) → ∀ τ,AX.look τ 4 = some (ptr b1 0) → wC Try.prog f71c4 (endW [Rs.cell 4 9,Rs.tmp 5] R) τ h1 := by
  intro hk τ l4
  rw [f71c4_eq]
  simp (maxSteps:=1000000) (disch:=first|exact Lb rfl|omega) only [AXS,AXB,J.dst,reduceIte,Z1,Z2,Z3,Z4,Z5,f71r3,l4]
  refine wL_stN (o := 0) (by exact l4) rfl rfl B1 (by decide) (one_lck noLock) ?_; rintro h3 u3 (B3 : Blk _ _ _ (eLck noLock))
  simp (maxSteps:=1000000) (disch:=first|exact Lb rfl|omega) only [AXS,AXB,J.dst,reduceIte,Z1,Z2,Z3,Z4,Z5,B3.rd,l4]
  have := hR _ (u3.ext e1 (by omega))
  rw [hk] at this
  exact this
 try simp (maxSteps:=1000000) (disch:=first|exact Lb rfl|omega) only [AXS,AXB,J.dst,reduceIte,Z1,Z2,Z3,Z4,Z5]
 rw [f71c2_eq]
 by_cases hneg : findK cs key < 0
 ·rw [if_pos hneg] at hcell
  simp (maxSteps:=1000000) (disch:=first|exact Lb rfl|omega) only [AXJ,AXS,AXB,J.dst,reduceIte,Z1,Z2,Z3,Z4,Z5,f71r2,decide_eq_true hneg]
  rw [f71c3_eq]
  simp (maxSteps:=1000000) (disch:=first|exact Lb rfl|omega) only [AXS,AXB,J.dst,reduceIte,Z1,Z2,Z3,Z4,Z5]
  exact fin0 (by unfold heldK; rw [← hcell]) _ rfl
 ·rw [if_neg hneg] at hcell
  obtain ⟨k,hk⟩ : ∃ k : Nat,findK cs key = k := ⟨(findK cs key).toNat,by omega⟩
  rw [hk,Int.toNat_natCast] at hcell
  rw [hk] at hlt
  obtain ⟨x,hx⟩ := get_ex (show k < cs.length by omega)
  rw [hx] at hcell
  obtain ⟨b,o,v,rfl,_,hrow,hcr⟩ := (S.ext e1).elem hx
  have hlk := hcr.locked
  have hd : decide (findK cs key < 0) = false := decide_eq_false hneg
  rw [hk] at hd
  rw [hk]
  simp (maxSteps:=1000000) (disch:=first|exact Lb rfl|omega) only [AXJ,AXS,AXB,J.dst,reduceIte,Z1,Z2,Z3,Z4,Z5,f71r2,hd,row_cv hrow,hlk]
  refine ⟨fun _ => by omega,fun _ => by omega,?_⟩
  rw [f71c3_eq]
  simp (maxSteps:=1000000) (disch:=first|exact Lb rfl|omega) only [AXS,AXB,J.dst,reduceIte,Z1,Z2,Z3,Z4,Z5]
  refine ⟨fun h3 => ?_,fun h3 => ?_⟩
  ·have hl : x.locked = false := by simpa using h3
   exact fin0 (by unfold heldK; rw [← hcell]; simp [hl]) _ rfl
  ·have hl : x.locked = true := by simpa using h3
   (try simp (maxSteps:=1000000) (disch:=first|exact Lb rfl|omega) only [AXS,AXB,J.dst,reduceIte,Z1,Z2,Z3,Z4,Z5]); rw [f71c5_eq]; (try simp (maxSteps:=1000000) (disch:=first|exact Lb rfl|omega) only [AXS,AXB,J.dst,reduceIte,Z1,Z2,Z3,Z4,Z5,f71r4,row_cv hrow])
   refine ⟨by omega,by omega,?_⟩
   refine wL_stN rfl rfl rfl B1 (by decide) (one_lck v.lock) ?_; rintro h3 u3 (B3 : Blk _ _ _ (eLck v.lock))
   simp (maxSteps:=1000000) (disch:=first|exact Lb rfl|omega) only [AXS,AXB,J.dst,reduceIte,Z1,Z2,Z3,Z4,Z5,B3.rd]
   have := hR _ (u3.ext e1 (by omega))
   have hk : heldK cs key = (v.lock,true) := by unfold heldK; rw [← hcell,hcr.lock]; simp [hl]
   rw [hk] at this
   exact this
theorem rmineG (g : Gd n cs) (hn : n ≤ 900000) (S : SlC B h a cs) (by_ : Try4) (hR : ∀ h',Ext h h' → R (.bool (mineL cs by_)) h') : CallsH Try.prog 70 [.slice a cs.length c,.agg (eTry by_).toArray] h R := by
 obtain ⟨z1,z2,z3,z4,z5,z6⟩ := szAll g.sz hn
 have hbig : big = 1000000 := rfl
 refine f70ok (by simp) ?_
 (try simp (maxSteps:=1000000) (disch:=first|exact Lb rfl|omega) only [AXS,AXB,J.dst,reduceIte,Z1,Z2,Z3,Z4,Z5]); rw [f70c0_eq]; (try simp (maxSteps:=1000000) (disch:=first|exact Lb rfl|omega) only [AXS,AXB,J.dst,reduceIte,Z1,Z2,Z3,Z4,Z5,f70r0])
 refine wL_boxN rfl ?_; rintro b1 h1 e1 s1 hb1 (B1 : Blk _ _ _ (eTry by_))
 (try simp (maxSteps:=1000000) (disch:=first|exact Lb rfl|omega) only [AXS,AXB,J.dst,reduceIte,Z1,Z2,Z3,Z4,Z5]); rw [f70c1_eq]; (try simp (maxSteps:=1000000) (disch:=first|exact Lb rfl|omega) only [AXS,AXB,J.dst,reduceIte,Z1,Z2,Z3,Z4,Z5,f70r1])
 rw [f70c2_eq]
 refine loop_in (fun n σ h' => h' = h1 ∧ ∃ k : Nat,k + n = cs.length ∧ σ = [(0,.slice a cs.length c),(3,ptr b1 0),(5,vi k)] ∧ ∀ j c,j < k → cs[j]? = some c → (c.locked && decide (c.lock.by_ = by_)) = false)
  cs.length ⟨rfl,0,by omega,rfl,by intros; omega⟩ ?_
 rintro m σ h4 ⟨rfl,k,hk,rfl,hnk⟩ Q' hnx hex hrt _
 have hany := anyK cs (fun c => c.locked && decide (c.lock.by_ = by_)) k hnk
 (try simp (maxSteps:=1000000) (disch:=first|exact Lb rfl|omega) only [AXS,AXB,J.dst,reduceIte,Z1,Z2,Z3,Z4,Z5]); rw [f70c3_eq]; (try simp (maxSteps:=1000000) (disch:=first|exact Lb rfl|omega) only [AXS,AXB,J.dst,reduceIte,Z1,Z2,Z3,Z4,Z5,f70r2]); rw [f70c4_eq]; (try simp (maxSteps:=1000000) (disch:=first|exact Lb rfl|omega) only [AXS,AXB,J.dst,reduceIte,Z1,Z2,Z3,Z4,Z5])
 refine ⟨fun h2 => ?_,fun h2 => ?_⟩
 ·have hkl : k < cs.length := by have := of_decide_eq_true h2; omega
  obtain ⟨x,hx⟩ := get_ex hkl
  obtain ⟨b,o,v,rfl,_,hrow,hcr⟩ := (S.ext e1).elem hx
  have hlb := hrow.lt (by rw [eCV_len]; omega)
  have hl1 := B1.lt
  have hlk := hcr.locked
  have hlo := hcr.lock
  (try simp (maxSteps:=1000000) (disch:=first|exact Lb rfl|omega) only [AXS,AXB,J.dst,reduceIte,Z1,Z2,Z3,Z4,Z5]); rw [f70c5_eq]; (try simp (maxSteps:=1000000) (disch:=first|exact Lb rfl|omega) only [AXS,AXB,J.dst,reduceIte,Z1,Z2,Z3,Z4,Z5])
  rw [f70c6_eq]
  refine drw_lt ?_
  simp (maxSteps:=1000000) (disch:=first|exact Lb rfl|omega) only [AXJ,AXS,AXB,J.dst,reduceIte,Z1,Z2,Z3,Z4,Z5,f70r3,row_cv hrow,B1.rd,eTry,eqA_try,hlk,hlo]
  refine ⟨by omega,by omega,by omega,fun _ => by omega,fun _ => by omega,fun _ => by omega,fun _ => by omega,?_⟩
  rw [f70c7_eq]
  simp (maxSteps:=1000000) (disch:=first|exact Lb rfl|omega) only [AXS,AXB,J.dst,reduceIte,Z1,Z2,Z3,Z4,Z5]
  refine ⟨fun h4 => ?_,fun h4 => ?_⟩
  ·(try simp (maxSteps:=1000000) (disch:=first|exact Lb rfl|omega) only [AXS,AXB,J.dst,reduceIte,Z1,Z2,Z3,Z4,Z5]); rw [f70c8_eq]; (try simp (maxSteps:=1000000) (disch:=first|exact Lb rfl|omega) only [AXS,AXB,J.dst,reduceIte,Z1,Z2,Z3,Z4,Z5,f70r4])
   refine hrt _ _ ?_
   simp (maxSteps:=1000000) (disch:=first|exact Lb rfl|omega) only [AXS,AXB,J.dst,reduceIte,Z1,Z2,Z3,Z4,Z5]
   have := hR _ e1
   unfold mineL at this
   rw [hany.1 x hx h4] at this
   exact this
  ·(try simp (maxSteps:=1000000) (disch:=first|exact Lb rfl|omega) only [AXS,AXB,J.dst,reduceIte,Z1,Z2,Z3,Z4,Z5]); rw [f70c9_eq]; (try simp (maxSteps:=1000000) (disch:=first|exact Lb rfl|omega) only [AXS,AXB,J.dst,reduceIte,Z1,Z2,Z3,Z4,Z5,f70r5])
   rw [i64_wrap (by omega) (by omega)]
   refine hnx (m - 1) _ _ (by omega) ⟨rfl,k + 1,by omega,rfl,?_⟩
   intro j c' hj hc'
   rcases Nat.lt_or_ge j k with hlt | hge
   ·exact hnk j c' hlt hc'
   ·have : j = k := by omega
    subst this
    rw [hx] at hc'; cases hc'; exact h4
 ·have hkl : k = cs.length := by have := of_decide_eq_false h2; omega
  refine hex _ _ ?_
  (try simp (maxSteps:=1000000) (disch:=first|exact Lb rfl|omega) only [AXS,AXB,J.dst,reduceIte,Z1,Z2,Z3,Z4,Z5]); rw [f70c10_eq]; (try simp (maxSteps:=1000000) (disch:=first|exact Lb rfl|omega) only [AXS,AXB,J.dst,reduceIte,Z1,Z2,Z3,Z4,Z5,f70r6])
  have := hR _ e1
  unfold mineL at this
  rw [hany.2 hkl] at this
  exact this
end
end Go.Proofs.Ytefghfgmkndikaa
namespace Go.Proofs.Ytefghfgmkndikaa
open Go Go.AX
set_option maxHeartbeats 4000000 in
theorem rmay_ok {B : Nat → Prop} {a : Option Addr} {c : Nat} (cs : List Cell) (h : Heap) (S : SlC B h a cs) (hn : cs.length ≤ big) (F : ∀ c ∈ cs,c.vers.length ≤ big) {R : Value → Heap → Prop}
  (hR : ∀ b,(b = true ↔ MayP cs) → ∀ h',Ext h h' → R (.bool b) h') : CallsH Try.prog 51 [.slice a cs.length c] h R := by
 have hbig : big = 1000000 := rfl
 refine f51ok (by simp) ?_
 (try simp (maxSteps:=1000000) (disch:=first|exact Lb rfl|omega) only [AXS,AXB,J.dst,reduceIte,Z1,Z2,Z3,Z4,Z5]); rw [f51c0_eq]; (try simp (maxSteps:=1000000) (disch:=first|exact Lb rfl|omega) only [AXS,AXB,J.dst,reduceIte,Z1,Z2,Z3,Z4,Z5,f51r0]); rw [f51c1_eq]; (try simp (maxSteps:=1000000) (disch:=first|exact Lb rfl|omega) only [AXS,AXB,J.dst,reduceIte,Z1,Z2,Z3,Z4,Z5,f51r1])
 rw [f51c2_eq]
 refine loop_in (fun n σ h' => Ext h h' ∧ ∃ k : Nat,k + n = cs.length ∧ σ = [(0,.slice a cs.length c),(3,vi k)] ∧
   ∀ i x,i < k → cs[i]? = some x → OkC cs i x ∧ ∀ k v,x.vers[k]? = some v → OkV x.vers k v)
  cs.length ⟨Ext.refl _,0,by omega,rfl,by intros; omega⟩ ?_
 rintro n σ h' ⟨e1,k,hk,rfl,hok⟩ Q' hnx hex hrt _
 (try simp (maxSteps:=1000000) (disch:=first|exact Lb rfl|omega) only [AXS,AXB,J.dst,reduceIte,Z1,Z2,Z3,Z4,Z5]); rw [f51c3_eq]; (try simp (maxSteps:=1000000) (disch:=first|exact Lb rfl|omega) only [AXS,AXB,J.dst,reduceIte,Z1,Z2,Z3,Z4,Z5,f51r2]); rw [f51c4_eq]; (try simp (maxSteps:=1000000) (disch:=first|exact Lb rfl|omega) only [AXS,AXB,J.dst,reduceIte,Z1,Z2,Z3,Z4,Z5])
 refine ⟨fun h2 => ?_,fun h2 => ?_⟩
 ·have hkl : k < cs.length := by have := of_decide_eq_true h2; omega
  obtain ⟨x,hx⟩ := get_ex hkl
  obtain ⟨b,o,v,rfl,_,hrow,hcr⟩ := (S.ext e1).elem hx
  have hno : ¬ MayP cs → ∀ h8,Ext h' h8 → Q' .ret [(2,.bool false)] h8 := fun hm h8 e8 => hrt _ _ (by
   try simp (maxSteps:=1000000) (disch:=first|exact Lb rfl|omega) only [AXS,AXB,J.dst,reduceIte,Z1,Z2,Z3,Z4,Z5]
   exact hR false ⟨fun h => (by cases h),fun h => absurd h hm⟩ _ (e1.trans e8))
  (try simp (maxSteps:=1000000) (disch:=first|exact Lb rfl|omega) only [AXS,AXB,J.dst,reduceIte,Z1,Z2,Z3,Z4,Z5]); rw [f51c5_eq]; (try simp (maxSteps:=1000000) (disch:=first|exact Lb rfl|omega) only [AXS,AXB,J.dst,reduceIte,Z1,Z2,Z3,Z4,Z5,row_cv hrow]); rw [f51c6_eq]; (try simp (maxSteps:=1000000) (disch:=first|exact Lb rfl|omega) only [AXS,AXB,J.dst,reduceIte,Z1,Z2,Z3,Z4,Z5,f51r3,row_cv hrow])
  refine ⟨by omega,by omega,?_⟩
  refine wL_newN ?_; rintro b4 h4 e4 s4 hb4 B4
  try simp (maxSteps:=1000000) (disch:=first|exact Lb rfl|omega) only [AXS,AXB,J.dst,reduceIte,Z1,Z2,Z3,Z4,Z5]
  refine wL_stN rfl rfl rfl B4 (by decide) (eCV_one v) ?_; rintro h5 u5 (B5 : Blk _ _ _ (eCV v))
  have e5 := u5.ext e4 (by omega)
  try simp (maxSteps:=1000000) (disch:=first|exact Lb rfl|omega) only [AXS,AXB,J.dst,reduceIte,Z1,Z2,Z3,Z4,Z5]
  have hlt := B5.lt
  have hvn := hcr.vn
  have fin : ∀ t : Bool,(t = false ↔ OkC cs k x) → wC Try.prog f51c8 (X.inBlock 1 (X.then (fun σ h => wC Try.prog f51c20 Q' σ h) Q')) [(62,.bool t),(0,.slice (some ⟨b,o,none⟩) cs.length c),(3,vi k),(4,ptr b4 0)] h5 := by
   intro t ht
   cases t with
   | true =>
    (try simp (maxSteps:=1000000) (disch:=first|exact Lb rfl|omega) only [AXS,AXB,J.dst,reduceIte,Z1,Z2,Z3,Z4,Z5]); rw [f51c8_eq]; (try simp (maxSteps:=1000000) (disch:=first|exact Lb rfl|omega) only [AXS,AXB,J.dst,reduceIte,Z1,Z2,Z3,Z4,Z5]); rw [f51c9_eq]; (try simp (maxSteps:=1000000) (disch:=first|exact Lb rfl|omega) only [AXS,AXB,J.dst,reduceIte,Z1,Z2,Z3,Z4,Z5,f51r5])
    refine hno ?_ _ e5
    intro hm
    have := ht.2 (hm k x hx).1
    cases this
   | false =>
    have hok0 := ht.1 rfl
    (try simp (maxSteps:=1000000) (disch:=first|exact Lb rfl|omega) only [AXS,AXB,J.dst,reduceIte,Z1,Z2,Z3,Z4,Z5]); rw [f51c8_eq]; (try simp (maxSteps:=1000000) (disch:=first|exact Lb rfl|omega) only [AXS,AXB,J.dst,reduceIte,Z1,Z2,Z3,Z4,Z5]); rw [f51c10_eq]; (try simp (maxSteps:=1000000) (disch:=first|exact Lb rfl|omega) only [AXS,AXB,J.dst,reduceIte,Z1,Z2,Z3,Z4,Z5,f51r6])
    rw [f51c11_eq]
    have SV := hcr.vers.ext e5
    have hvl := F x (List.mem_of_getElem? hx)
    refine loop_in1 (fun n' σ h' => Ext h5 h' ∧ ∃ i : Nat,i + n' = x.vers.length ∧ σ = [(0,.slice (some ⟨b,o,none⟩) cs.length c),(3,vi k),(4,ptr b4 0),(5,vi i)] ∧
     ∀ j w,j < i → x.vers[j]? = some w → OkV x.vers j w) x.vers.length ⟨Ext.refl _,0,by omega,rfl,by intros; omega⟩ ?_
    rintro n2 σ h6 ⟨e6,i,hi,rfl,hokv⟩ Q2 hnx2 hex2 hrt2 _
    have B56 := B5.ext e6
    (try simp (maxSteps:=1000000) (disch:=first|exact Lb rfl|omega) only [AXS,AXB,J.dst,reduceIte,Z1,Z2,Z3,Z4,Z5]); rw [f51c12_eq]; (try simp (maxSteps:=1000000) (disch:=first|exact Lb rfl|omega) only [AXS,AXB,J.dst,reduceIte,Z1,Z2,Z3,Z4,Z5,f51r7,B56.cel,eCV,hvn])
    (try simp (maxSteps:=1000000) (disch:=first|exact Lb rfl|omega) only [AXS,AXB,J.dst,reduceIte,Z1,Z2,Z3,Z4,Z5]); rw [f51c13_eq]; (try simp (maxSteps:=1000000) (disch:=first|exact Lb rfl|omega) only [AXS,AXB,J.dst,reduceIte,Z1,Z2,Z3,Z4,Z5])
    refine ⟨fun h7 => ?_,fun h7 => ?_⟩
    ·have hil : i < x.vers.length := by have := of_decide_eq_true h7; omega
     obtain ⟨w,hw⟩ := get_ex hil
     obtain ⟨vb,vo,hva,_,hrowv⟩ := (SV.ext e6).elem eVer_len hw
     (try simp (maxSteps:=1000000) (disch:=first|exact Lb rfl|omega) only [AXS,AXB,J.dst,reduceIte,Z1,Z2,Z3,Z4,Z5]); rw [f51c14_eq]; (try simp (maxSteps:=1000000) (disch:=first|exact Lb rfl|omega) only [AXS,AXB,J.dst,reduceIte,Z1,Z2,Z3,Z4,Z5,B56.cel,eCV,hvn,hva,row_ver hrowv]); rw [f51c15_eq]; (try simp (maxSteps:=1000000) (disch:=first|exact Lb rfl|omega) only [AXS,AXB,J.dst,reduceIte,Z1,Z2,Z3,Z4,Z5,f51r8,B56.cel,eCV,hvn,hva,row_ver hrowv])
     refine ⟨by omega,by omega,?_⟩
     refine wL_newN ?_; rintro b6 h8 e8 s8 hb6 B6
     try simp (maxSteps:=1000000) (disch:=first|exact Lb rfl|omega) only [AXS,AXB,J.dst,reduceIte,Z1,Z2,Z3,Z4,Z5]
     refine wL_stN rfl rfl rfl B6 (by decide) (eVer_one w) ?_; rintro h9 u9 (B9 : Blk _ _ _ (eVer w))
     have e9 := u9.ext e8 (by omega)
     have B59 := B56.ext e9
     have hl9 := B9.lt
     have hl5 := B59.lt
     try simp (maxSteps:=1000000) (disch:=first|exact Lb rfl|omega) only [AXS,AXB,J.dst,reduceIte,Z1,Z2,Z3,Z4,Z5]
     have fin2 : ∀ (h10 : Heap) (t : Bool),Ext h9 h10 → (t = false ↔ OkV x.vers i w) → wC Try.prog f51c17 (X.inBlock 3 (X.then (fun σ h => wC Try.prog f51c19 Q2 σ h) Q2)) [(98,.bool t),(0,.slice (some ⟨b,o,none⟩) cs.length c),(3,vi k),(4,ptr b4 0),(5,vi i)] h10 := by
      intro h10 t e10 ht
      cases t with
      | true =>
       (try simp (maxSteps:=1000000) (disch:=first|exact Lb rfl|omega) only [AXS,AXB,J.dst,reduceIte,Z1,Z2,Z3,Z4,Z5]); rw [f51c17_eq]; (try simp (maxSteps:=1000000) (disch:=first|exact Lb rfl|omega) only [AXS,AXB,J.dst,reduceIte,Z1,Z2,Z3,Z4,Z5]); rw [f51c18_eq]; (try simp (maxSteps:=1000000) (disch:=first|exact Lb rfl|omega) only [AXS,AXB,J.dst,reduceIte,Z1,Z2,Z3,Z4,Z5,f51r10])
       refine hrt2 _ _ ?_
       try simp (maxSteps:=1000000) (disch:=first|exact Lb rfl|omega) only [AXS,AXB,J.dst,reduceIte,Z1,Z2,Z3,Z4,Z5]
       refine hno ?_ _ (e5.trans (e6.trans (e9.trans e10)))
       intro hm
       have := ht.2 ((hm k x hx).2 i w hw)
       cases this
      | false =>
       (try simp (maxSteps:=1000000) (disch:=first|exact Lb rfl|omega) only [AXS,AXB,J.dst,reduceIte,Z1,Z2,Z3,Z4,Z5]); rw [f51c17_eq]; (try simp (maxSteps:=1000000) (disch:=first|exact Lb rfl|omega) only [AXS,AXB,J.dst,reduceIte,Z1,Z2,Z3,Z4,Z5]); rw [f51c19_eq]; (try simp (maxSteps:=1000000) (disch:=first|exact Lb rfl|omega) only [AXS,AXB,J.dst,reduceIte,Z1,Z2,Z3,Z4,Z5,f51r11])
       rw [i64_wrap (by omega) (by omega)]
       refine hnx2 (n2 - 1) _ _ (by omega) ⟨e6.trans (e9.trans e10),i + 1,by omega,rfl,?_⟩
       intro j u hj hu
       rcases Nat.lt_or_ge j i with hlt | hge
       ·exact hokv j u hlt hu
       ·have : j = i := by omega
        subst this
        rw [hw] at hu; cases hu
        exact ht.1 rfl
     rw [f51c16_eq]
     refine drw_lt ?_
     have hdz : ((!w.data.toList == ByteArray.toList ⟨#[]⟩)) = !decide (w.data = noB) := by rw [keq_iff]; rfl
     simp (maxSteps:=1000000) (disch:=first|exact Lb rfl|omega) only [AXJ,AXS,AXB,J.dst,reduceIte,Z1,Z2,Z3,Z4,Z5,f51r9,B9.cel,eVer,hdz]
     refine ⟨hl9,fun _ => hl9,?_⟩
     have lst : ∀ (h10 : Heap) (t2 : Bool),Ext h9 h10 → (t2 = false ↔ ∀ u,0 < i → x.vers[i - 1]? = some u → Stamp.lt u.at_ w.at_ = true) → wC Try.prog f51c17 (X.inBlock 3 (X.then (fun σ h => wC Try.prog f51c19 Q2 σ h) Q2))
       [(98,.bool (w.drop && !decide (w.data = noB) || t2)),(0,.slice (some ⟨b,o,none⟩) cs.length c),(3,vi k),(4,ptr b4 0),(5,vi i)] h10 := by
      intro h10 t2 e10 ht2
      refine fin2 h10 _ e10 ?_
      unfold OkV
      rw [← ht2]
      cases t2 <;> cases w.drop <;> simp
     cases hbad : (w.drop && !decide (w.data = noB)) with
     | true =>
      rw [hbad] at lst
      simp (maxSteps:=1000000) (disch:=first|exact Lb rfl|omega) only [AXJ,AXS,AXB,J.dst,reduceIte,Z1,Z2,Z3,Z4,Z5,f51r9a]
      refine ⟨fun h => (by cases h),fin2 h9 true (Ext.refl _) ⟨fun h => (by cases h),fun h => ?_⟩⟩
      simp only [Bool.and_eq_true,Bool.not_eq_true',decide_eq_false_iff_not] at hbad
      exact absurd (h.2 hbad.1) hbad.2
     | false =>
      rw [hbad] at lst
      simp only [Bool.false_or] at lst
      rcases Nat.eq_zero_or_pos i with hz | hp
      ·subst hz
       simp (maxSteps:=1000000) (disch:=first|exact Lb rfl|omega) only [AXJ,AXS,AXB,J.dst,reduceIte,Z1,Z2,Z3,Z4,Z5,f51r9a,decide_eq_false (show ¬ (((0 : Nat) : Int) > 0) by omega)]
       exact ⟨fun _ _ => hl5,lst _ false (Ext.refl _) (by simp)⟩
      ·obtain ⟨u,hu⟩ := get_ex (show i - 1 < x.vers.length by omega)
       obtain ⟨vb',vo',hva',_,hrowu⟩ := (SV.ext (e6.trans e9)).elem eVer_len hu
       rw [hva] at hva'; cases hva'
       have hw1 : IntKind.i64.wrap ((i : Int) - 1) = ((i - 1 : Nat) : Int) := by rw [i64_wrap (by omega) (by omega)]; omega
       have hbl := hrowu.lt (by rw [eVer_len]; omega)
       simp (maxSteps:=1000000) (disch:=first|exact Lb rfl|omega) only [AXJ,AXS,AXB,J.dst,reduceIte,Z1,Z2,Z3,Z4,Z5,f51r9a,decide_eq_true (show ((i : Int) > 0) by omega),B59.cel,B9.cel,B9.rd,eCV,hw1,row_ver hrowu,hva,hvn,eVer,eStamp]
       refine ⟨fun _ _ => hl5,fun _ _ => by omega,fun _ _ => by omega,fun _ _ => hbl,fun _ _ => hl9,?_⟩
       refine rless_ok u.at_ w.at_ _ ?_
       intro h10 e10
       refine ⟨kp_ext (Nat.le_refl _) e10,?_⟩
       simp (maxSteps:=1000000) (disch:=first|exact Lb rfl|omega) only [AXJ,AXS,AXB,J.dst,reduceIte,Z1,Z2,Z3,Z4,Z5]
       refine lst h10 _ e10 ?_
       refine ⟨fun h0 z _ hz => ?_,fun h0 => by rw [h0 u hp hu]; rfl⟩
       rw [hu] at hz; cases hz
       simpa using h0
    ·have hil : i = x.vers.length := by have := of_decide_eq_false h7; omega
     refine hex2 _ _ ?_
     (try simp (maxSteps:=1000000) (disch:=first|exact Lb rfl|omega) only [AXS,AXB,J.dst,reduceIte,Z1,Z2,Z3,Z4,Z5]); rw [f51c20_eq]; (try simp (maxSteps:=1000000) (disch:=first|exact Lb rfl|omega) only [AXS,AXB,J.dst,reduceIte,Z1,Z2,Z3,Z4,Z5,f51r12])
     rw [i64_wrap (by omega) (by omega)]
     refine hnx (n - 1) _ _ (by omega) ⟨e1.trans (e5.trans e6),k + 1,by omega,rfl,?_⟩
     intro j y hj hy
     rcases Nat.lt_or_ge j k with hlt | hge
     ·exact hok j y hlt hy
     ·have : j = k := by omega
      subst this
      rw [hx] at hy; cases hy
      exact ⟨hok0,fun m u hu => hokv m u (by have := (List.getElem?_eq_some_iff.1 hu).1; omega) hu⟩
  rw [f51c7_eq]
  refine drw_lt ?_
  have hoc : OkC cs k x ↔ ((∀ y,0 < k → cs[k - 1]? = some y → klt y.key x.key = true) ∧ (x.locked = false → x.lock = noLock) ∧ (x.locked = false → x.vers ≠ []) ∧ (x.lock.drop = true → x.lock.data = noB)) := Iff.rfl
  have hvz : (((x.vers.length : Nat) : Int) == 0) = decide (x.vers = []) := by
   cases x.vers with
   | nil => rfl
   | cons a l => rw [decide_eq_false (by simp)]; simp; omega
  have hdz : ((!x.lock.data.toList == ByteArray.toList ⟨#[]⟩)) = !decide (x.lock.data = noB) := by rw [keq_iff]; rfl
  have hlk := hcr.locked
  have hlc := hcr.lock
  have seg1 : ∀ t : Bool,(t = false ↔ ∀ y,0 < k → cs[k - 1]? = some y → klt y.key x.key = true) → wL Try.prog (some ⟨(· < h5.size),h5⟩) f51r4a 0 (fun σ h => wC Try.prog f51c8 (X.inBlock 1 (X.then (fun σ h => wC Try.prog f51c20 Q' σ h) Q')) σ h)
    [(29,.bool t),(0,.slice (some ⟨b,o,none⟩) cs.length c),(3,vi k),(4,ptr b4 0)] h5 := by
   intro t ht
   simp (maxSteps:=1000000) (disch:=first|exact Lb rfl|omega) only [AXJ,AXS,AXB,J.dst,reduceIte,Z1,Z2,Z3,Z4,Z5,f51r4a,B5.cel,B5.rd,eCV,hlk,hlc,hvn,eqA_no]
   refine ⟨fun _ => hlt,fun _ _ => hlt,?_⟩
   simp (maxSteps:=1000000) (disch:=first|exact Lb rfl|omega) only [AXJ,AXS,AXB,J.dst,reduceIte,Z1,Z2,Z3,Z4,Z5,f51r4b,B5.cel,B5.rd,eCV,hlk,hlc,hvn,hvz]
   refine ⟨fun _ => hlt,fun _ _ => hlt,?_⟩
   simp (maxSteps:=1000000) (disch:=first|exact Lb rfl|omega) only [AXJ,AXS,AXB,J.dst,reduceIte,Z1,Z2,Z3,Z4,Z5,f51r4c,B5.cel,B5.rd,eCV,hlk,hlc,hvn,hdz]
   refine ⟨fun _ => hlt,fun _ _ => hlt,?_⟩
   refine fin _ ?_
   rw [hoc,← ht]
   cases t <;> cases x.locked <;> cases x.lock.drop <;> simp [and_assoc]
  rcases Nat.eq_zero_or_pos k with hz | hp
  ·subst hz
   simp (maxSteps:=1000000) (disch:=first|exact Lb rfl|omega) only [AXJ,AXS,AXB,J.dst,reduceIte,Z1,Z2,Z3,Z4,Z5,f51r4,decide_eq_false (show ¬ (((0 : Nat) : Int) > 0) by omega)]
   exact ⟨fun h => (by cases h),fun h => (by cases h),fun h => (by cases h),seg1 false (by simp)⟩
  ·obtain ⟨y,hy⟩ := get_ex (show k - 1 < cs.length by omega)
   obtain ⟨b',o',yv,hb',_,hrowy,hcy⟩ := (S.ext (e1.trans e5)).elem hy
   cases hb'
   have hw1 : IntKind.i64.wrap ((k : Int) - 1) = ((k - 1 : Nat) : Int) := by rw [i64_wrap (by omega) (by omega)]; omega
   have hbl := hrowy.lt (by rw [eCV_len]; omega)
   simp (maxSteps:=1000000) (disch:=first|exact Lb rfl|omega) only [AXJ,AXS,AXB,J.dst,reduceIte,Z1,Z2,Z3,Z4,Z5,f51r4,decide_eq_true (show ((k : Int) > 0) by omega),B5.cel,eCV,hw1,row_cv hrowy]
   refine ⟨fun _ => by omega,fun _ => by omega,fun _ => hbl,fun _ => hlt,?_⟩
   refine seg1 _ ?_
   rw [hcr.key,hcy.key]
   show ((!klt y.key x.key) = false) ↔ _
   refine ⟨fun h0 z _ hz => ?_,fun h0 => by rw [h0 y hp hy]; rfl⟩
   rw [hy] at hz; cases hz
   simpa using h0
 ·have hkl : k = cs.length := by have := of_decide_eq_false h2; omega
  refine hex _ _ ?_
  (try simp (maxSteps:=1000000) (disch:=first|exact Lb rfl|omega) only [AXS,AXB,J.dst,reduceIte,Z1,Z2,Z3,Z4,Z5]); rw [f51c21_eq]; (try simp (maxSteps:=1000000) (disch:=first|exact Lb rfl|omega) only [AXS,AXB,J.dst,reduceIte,Z1,Z2,Z3,Z4,Z5,f51r13])
  refine hR true ⟨fun _ i x hx => hok i x (by have := (List.getElem?_eq_some_iff.1 hx).1; omega) hx,fun _ => rfl⟩ _ e1
end Go.Proofs.Ytefghfgmkndikaa
namespace Go.Proofs.Ytefghfgmkndikaa
open Go Go.AX
section
variable {B : Nat → Prop} {a : Option Addr} {c n : Nat} {cs : List Cell} {h : Heap} {R : Value → Heap → Prop}
theorem rscanG (g : Gd n cs) (hn : n ≤ 900000) (S : SlC B h a cs) (s : Spn) (t : Stamp) (most : Int)
  (hR : ∀ a' c' h',Own h.size h' 99 2 a' (scanL t most (withinL cs s) []).1.length c' ((scanL t most (withinL cs s) []).1.flatMap ePai) → Ext h h' → R (.tuple #[.slice a' (scanL t most (withinL cs s) []).1.length c',vi (scanL t most (withinL cs s) []).2]) h') :
  CallsH Try.prog 68 [.slice a cs.length c,.agg (eSpn s).toArray,.agg (eStamp t).toArray,vi most] h R := by
 obtain ⟨z1,z2,z3,z4,z5,z6⟩ := szAll g.sz hn
 have hbig : big = 1000000 := rfl
 have hsc : scanL t most (withinL cs s) [] = if ((firstP t s cs cs.length).length : Int) > (if 0 > most then 0 else most) then ([],3) else (firstP t s cs cs.length,0) := by
  rw [scanL_eq,withinL_eq s g.good.sorted,← firstP_all]
  generalize firstP t s cs cs.length = ps
  cases ps with
  | nil => simp; split <;> omega
  | cons p ps =>
   by_cases hm : ((p :: ps).length : Int) ≤ most
   ·rw [if_pos (.inr (by simpa using hm)),if_neg]
    ·rfl
    ·simp at hm ⊢; split <;> omega
   ·rw [if_neg (by simp at hm ⊢; omega),if_pos]
    simp at hm ⊢; split <;> omega
 rw [hsc] at hR
 refine f68ok (by simp) ?_
 (try simp (maxSteps:=1000000) (disch:=first|exact Lb rfl|omega) only [AXS,AXB,J.dst,reduceIte,Z1,Z2,Z3,Z4,Z5]); rw [f68c0_eq]; (try simp (maxSteps:=1000000) (disch:=first|exact Lb rfl|omega) only [AXS,AXB,J.dst,reduceIte,Z1,Z2,Z3,Z4,Z5,f68r0])
 refine wL_boxN rfl ?_; rintro b1 h1 e1 s1 hb1 (B1 : Blk _ _ _ (eSpn s))
 refine wL_boxN rfl ?_; rintro b2 h2 e2 s2 hb2 (B2 : Blk _ _ _ (eStamp t))
 replace B1 := B1.ext e2
 have e02 := e1.trans e2
 (try simp (maxSteps:=1000000) (disch:=first|exact Lb rfl|omega) only [AXS,AXB,J.dst,reduceIte,Z1,Z2,Z3,Z4,Z5]); rw [f68c1_eq]; (try simp (maxSteps:=1000000) (disch:=first|exact Lb rfl|omega) only [AXS,AXB,J.dst,reduceIte,Z1,Z2,Z3,Z4,Z5,f68r1]); rw [f68c2_eq]; (try simp (maxSteps:=1000000) (disch:=first|exact Lb rfl|omega) only [AXS,AXB,J.dst,reduceIte,Z1,Z2,Z3,Z4,Z5,f68r2])
 rw [f68c3_eq]
 refine loop_in (fun n σ h' => Ext h2 h' ∧ ∃ (k c1 : Nat) (a1 : Option Addr),k + n = cs.length ∧ Own h2.size h' 99 2 a1 (firstP t s cs k).length c1 ((firstP t s cs k).flatMap ePai) ∧
   σ = [(0,.slice a cs.length c),(3,vi most),(5,ptr b1 0),(6,ptr b2 0),(10,.slice a1 (firstP t s cs k).length c1),(11,vi k)]) cs.length ⟨Ext.refl _,0,0,none,by omega,Own.nil _ _ _ _,rfl⟩ ?_
 rintro m σ h4 ⟨e4,k,c1,a1,hk,O,rfl⟩ Q' hnx hex hrt _
 have hs0 := e02.size
 have hs4 := e4.size
 replace B1 := B1.ext e4; replace B2 := B2.ext e4
 have hpl : (firstP t s cs k).length ≤ cs.length := by
  unfold firstP
  have := pairs_len t ((cs.take k).filter fun c => inS s c.key)
  have := List.length_filter_le (fun c => inS s c.key) (cs.take k)
  have := List.length_take (i := k) (l := cs)
  omega
 (try simp (maxSteps:=1000000) (disch:=first|exact Lb rfl|omega) only [AXS,AXB,J.dst,reduceIte,Z1,Z2,Z3,Z4,Z5]); rw [f68c4_eq]; (try simp (maxSteps:=1000000) (disch:=first|exact Lb rfl|omega) only [AXS,AXB,J.dst,reduceIte,Z1,Z2,Z3,Z4,Z5,f68r3]); rw [f68c5_eq]; (try simp (maxSteps:=1000000) (disch:=first|exact Lb rfl|omega) only [AXS,AXB,J.dst,reduceIte,Z1,Z2,Z3,Z4,Z5])
 refine ⟨fun hh => ?_,fun hh => ?_⟩
 ·have hkl : k < cs.length := by have := of_decide_eq_true hh; omega
  obtain ⟨x,hx⟩ := get_ex hkl
  obtain ⟨b,o,v,rfl,_,hrow,hcr⟩ := (S.ext (e02.trans e4)).elem hx
  have hlb := hrow.lt (by rw [eCV_len]; omega)
  have hl1 := B1.lt
  have hl2 := B2.lt
  have hkey := hcr.key
  have hfs := firstP_succ (t := t) (s := s) hx
  (try simp (maxSteps:=1000000) (disch:=first|exact Lb rfl|omega) only [AXS,AXB,J.dst,reduceIte,Z1,Z2,Z3,Z4,Z5]); rw [f68c6_eq]; (try simp (maxSteps:=1000000) (disch:=first|exact Lb rfl|omega) only [AXS,AXB,J.dst,reduceIte,Z1,Z2,Z3,Z4,Z5])
  rw [f68c7_eq]
  refine drw_lt ?_
  simp (maxSteps:=1000000) (disch:=first|exact Lb rfl|omega) only [AXS,AXB,J.dst,reduceIte,Z1,Z2,Z3,Z4,Z5,f68r4,row_cv hrow,B1.rd,eSpn,hkey]
  refine ⟨by omega,by omega,by omega,by omega,?_⟩
  refine in_ok x.key s ?_
  intro h5 e5
  refine ⟨kp_ext (Nat.le_refl _) e5,?_⟩
  replace B1 := B1.ext e5; replace B2 := B2.ext e5; replace O := O.ext e5
  have hrow5 := hrow.ext e5
  try simp (maxSteps:=1000000) (disch:=first|exact Lb rfl|omega) only [AXS,AXB,J.dst,reduceIte,Z1,Z2,Z3,Z4,Z5]
  rw [f68c8_eq]
  simp (maxSteps:=1000000) (disch:=first|exact Lb rfl|omega) only [AXS,AXB,J.dst,reduceIte,Z1,Z2,Z3,Z4,Z5]
  refine ⟨fun h6 => ?_,fun h6 => ?_⟩
  ·have h6 : inS s x.key = false := by simpa using h6
   rw [h6] at hfs
   have hfe : firstP t s cs (k + 1) = firstP t s cs k := by rw [hfs]; simp
   (try simp (maxSteps:=1000000) (disch:=first|exact Lb rfl|omega) only [AXS,AXB,J.dst,reduceIte,Z1,Z2,Z3,Z4,Z5]); rw [f68c13_eq]; (try simp (maxSteps:=1000000) (disch:=first|exact Lb rfl|omega) only [AXS,AXB,J.dst,reduceIte,Z1,Z2,Z3,Z4,Z5,f68r8])
   rw [i64_wrap (by omega) (by omega)]
   refine hnx (m - 1) _ _ (by omega) ⟨e4.trans e5,k + 1,c1,a1,by omega,?_,?_⟩
   ·rw [hfe]; exact O
   ·rw [hfe]; rfl
  ·have h6 : inS s x.key = true := by simpa using h6
   rw [h6,Bool.true_and] at hfs
   have hl25 := B2.lt
   have hlb5 := hrow5.lt (by rw [eCV_len]; omega)
   rw [f68c9_eq]
   refine drw_lt ?_
   simp (maxSteps:=1000000) (disch:=first|exact Lb rfl|omega) only [AXS,AXB,J.dst,reduceIte,Z1,Z2,Z3,Z4,Z5,f68r5,row_cv hrow5,B2.rd,eStamp]
   refine ⟨by omega,by omega,by omega,by omega,?_⟩
   refine of_ok v x t _ (hcr.ext e5) (z4 x (List.mem_of_getElem? hx)) ?_
   intro h7 e7
   refine ⟨kp_ext (Nat.le_refl _) e7,?_⟩
   have hrow7 := hrow5.ext e7
   replace O := O.ext e7
   have e47 := e4.trans (e5.trans e7)
   try simp (maxSteps:=1000000) (disch:=first|exact Lb rfl|omega) only [AXS,AXB,J.dst,reduceIte,Z1,Z2,Z3,Z4,Z5]
   (try simp (maxSteps:=1000000) (disch:=first|exact Lb rfl|omega) only [AXS,AXB,J.dst,reduceIte,Z1,Z2,Z3,Z4,Z5]); rw [f68c10_eq]; (try simp (maxSteps:=1000000) (disch:=first|exact Lb rfl|omega) only [AXS,AXB,J.dst,reduceIte,Z1,Z2,Z3,Z4,Z5,f68r6]); rw [f68c11_eq]; (try simp (maxSteps:=1000000) (disch:=first|exact Lb rfl|omega) only [AXS,AXB,J.dst,reduceIte,Z1,Z2,Z3,Z4,Z5])
   refine ⟨fun h8 => ?_,fun h8 => ?_⟩
   ·rw [h8,if_pos rfl] at hfs
    (try simp (maxSteps:=1000000) (disch:=first|exact Lb rfl|omega) only [AXS,AXB,J.dst,reduceIte,Z1,Z2,Z3,Z4,Z5]); rw [f68c12_eq]; (try simp (maxSteps:=1000000) (disch:=first|exact Lb rfl|omega) only [AXS,AXB,J.dst,reduceIte,Z1,Z2,Z3,Z4,Z5,f68r7,row_cv hrow7,hkey])
    refine ⟨by omega,by omega,?_⟩
    refine wL_bslN rfl ?_; rintro b10 h10 e10 s10 hb10 (B10 : Blk _ _ _ (ePai ⟨x.key,(tellV x.vers t).1⟩))
    try simp (maxSteps:=1000000) (disch:=first|exact Lb rfl|omega) only [AXS,AXB,J.dst,reduceIte,Z1,Z2,Z3,Z4,Z5]
    rw [wL_raw]
    refine raw_append slT45 rfl rfl rfl (O.ext e10) (news := ePai ⟨x.key,(tellV x.vers t).1⟩) (by rw [ePai_len]) (.inr ⟨b10,0,rfl,B10.row⟩) (ePai_one _) (by unfold maxLen; omega) (by omega) (e47.trans e10).size ?_
    intro a11 c11 h11 O11 G11 A11
    refine ⟨trivial,?_⟩
    have e311 : Ext h2 h11 := G11.ext (e47.trans e10) (fun j hj => (O.ob j hj).1)
    (try simp (maxSteps:=1000000) (disch:=first|exact Lb rfl|omega) only [AXS,AXB,J.dst,reduceIte,Z1,Z2,Z3,Z4,Z5]); rw [f68c13_eq]; (try simp (maxSteps:=1000000) (disch:=first|exact Lb rfl|omega) only [AXS,AXB,J.dst,reduceIte,Z1,Z2,Z3,Z4,Z5,f68r8])
    rw [i64_wrap (by omega) (by omega)]
    refine hnx (m - 1) _ _ (by omega) ⟨e311,k + 1,c11,a11,by omega,?_,?_⟩
    ·rw [hfs]; simpa using O11
    ·rw [hfs]; simp
   ·rw [h8] at hfs
    have hfe : firstP t s cs (k + 1) = firstP t s cs k := by rw [hfs]; simp
    (try simp (maxSteps:=1000000) (disch:=first|exact Lb rfl|omega) only [AXS,AXB,J.dst,reduceIte,Z1,Z2,Z3,Z4,Z5]); rw [f68c13_eq]; (try simp (maxSteps:=1000000) (disch:=first|exact Lb rfl|omega) only [AXS,AXB,J.dst,reduceIte,Z1,Z2,Z3,Z4,Z5,f68r8])
    rw [i64_wrap (by omega) (by omega)]
    refine hnx (m - 1) _ _ (by omega) ⟨e47,k + 1,c1,a1,by omega,?_,?_⟩
    ·rw [hfe]; exact O
    ·rw [hfe]; rfl
 ·have hkl : k = cs.length := by have := of_decide_eq_false hh; omega
  refine hex _ _ ?_
  subst hkl
  (try simp (maxSteps:=1000000) (disch:=first|exact Lb rfl|omega) only [AXS,AXB,J.dst,reduceIte,Z1,Z2,Z3,Z4,Z5]); rw [f68c14_eq]; (try simp (maxSteps:=1000000) (disch:=first|exact Lb rfl|omega) only [AXS,AXB,J.dst,reduceIte,Z1,Z2,Z3,Z4,Z5,f68r9]); rw [f68c15_eq]; (try simp (maxSteps:=1000000) (disch:=first|exact Lb rfl|omega) only [AXS,AXB,J.dst,reduceIte,Z1,Z2,Z3,Z4,Z5])
  refine ⟨fun h6 => ?_,fun h6 => ?_⟩
  ·have h6 := of_decide_eq_true h6
   (try simp (maxSteps:=1000000) (disch:=first|exact Lb rfl|omega) only [AXS,AXB,J.dst,reduceIte,Z1,Z2,Z3,Z4,Z5]); rw [f68c16_eq]; (try simp (maxSteps:=1000000) (disch:=first|exact Lb rfl|omega) only [AXS,AXB,J.dst,reduceIte,Z1,Z2,Z3,Z4,Z5,f68r10])
   have := hR none 0 h4
   rw [if_pos h6] at this
   exact this (Own.nil _ _ _ _) (e02.trans e4)
  ·have h6 := of_decide_eq_false h6
   (try simp (maxSteps:=1000000) (disch:=first|exact Lb rfl|omega) only [AXS,AXB,J.dst,reduceIte,Z1,Z2,Z3,Z4,Z5]); rw [f68c17_eq]; (try simp (maxSteps:=1000000) (disch:=first|exact Lb rfl|omega) only [AXS,AXB,J.dst,reduceIte,Z1,Z2,Z3,Z4,Z5,f68r11])
   have := hR a1 c1 h4
   rw [if_neg h6] at this
   exact this (O.mono hs0) (e02.trans e4)
end
end Go.Proofs.Ytefghfgmkndikaa
namespace Go.Proofs.Ytefghfgmkndikaa
open Go Go.AX
theorem rsettleL_eq {cs : List Cell} (g : Good cs) (by_ : Try4) (yes : Bool) : rsettleL cs by_ yes = settleL cs by_ yes := by
 unfold rsettleL settleL
 refine fm_congr fun c hc => ?_
 have hv := (g.ok c hc).vs
 have : rsettleC by_ yes c = settleC by_ yes c := by
  unfold rsettleC settleC
  rw [withV_eq _ hv,putV_eq _ hv]
 rw [this]
theorem rtrimL_eq {cs : List Cell} (g : Good cs) (t : Stamp) : rtrimL cs t = trimL cs t := by
 unfold rtrimL trimL
 refine fm_congr fun c hc => ?_
 have hv := (g.ok c hc).vs
 have : rtrimC t c = trimC t c := by
  unfold rtrimC trimC
  rw [cutV_eq hv]
 rw [this]
theorem rlockL_lock {cs : List Cell} (g : Good cs) (w : Wri) (l : Lck) : rlockL cs w l = lockL cs w l := by rw [rlockL_eq w l g.sorted,lockL_eq]
end Go.Proofs.Ytefghfgmkndikaa
namespace Go.Proofs.Ytefghfgmkndikaa
open Go.AX
set_option maxRecDepth 100000
def f95r0 : List I := [.op (.box 1 116 (.tmp 0)),
 .op (.new 2 116 [.int .i64 0,.int .i64 0,.int .i64 0,.int .i64 0,.int .i64 0,.int .i64 0,.slice none 0 0,.slice none 0 0,.slice none 0 0]),
 .kp [1,2]]
def f95r1 : List I := [.op (.fad 3 6 (.tmp 1)),
 .op (.ld 4 none (.tmp 3)),
 .op (.call (some 5) 123 [(.tmp 4),(.func 124)]),
 .op (.fad 6 6 (.tmp 1)),
 .op (.st 1 (.tmp 6) (.tmp 5)),
 .kp [1,2]]
def f95r2 : L := (.one [.op (.fad 7 7 (.tmp 1)),
 .op (.fad 10 8 (.tmp 1))] (.alt (.one [.opn (.ld 8 none (.tmp 7))] (.alt (.one [.op (.call (some 9) 125 [(.tmp 8)]),
 .opn (.ld 11 none (.tmp 10)),
 .op (.fad 13 7 (.tmp 1)),
 .op (.call (some 12) 125 [(.tmp 11)]),
 .op (.st 1 (.tmp 13) (.tmp 9)),
 .op (.fad 14 8 (.tmp 1)),
 .op (.st 1 (.tmp 14) (.tmp 12)),
 .kp [1,2]] .nil) (.one [.opn (.ld 11 none (.tmp 10)),
 .op (.call (some 9) 125 [(.tmp 8)]),
 .op (.fad 13 7 (.tmp 1)),
 .op (.call (some 12) 125 [(.tmp 11)]),
 .op (.st 1 (.tmp 13) (.tmp 9)),
 .op (.fad 14 8 (.tmp 1)),
 .op (.st 1 (.tmp 14) (.tmp 12)),
 .kp [1,2]] .nil))) (.one [.opn (.ld 11 none (.tmp 10)),
 .opn (.ld 8 none (.tmp 7)),
 .op (.call (some 9) 125 [(.tmp 8)]),
 .op (.fad 13 7 (.tmp 1)),
 .op (.call (some 12) 125 [(.tmp 11)]),
 .op (.st 1 (.tmp 13) (.tmp 9)),
 .op (.fad 14 8 (.tmp 1)),
 .op (.st 1 (.tmp 14) (.tmp 12)),
 .kp [1,2]] .nil)))
def f95r3 : List I := [.op (.ld 15 (some 9) (.tmp 1)),
 .op (.st 9 (.tmp 2) (.tmp 15)),
 .kp [2]]
def f95c3 : C := (.seq (.reg f95r3) .ret)
def f95c2 : C := (.seq (.drt f95r2) f95c3)
def f95c1 : C := (.seq (.reg f95r1) f95c2)
def f95c0 : C := (.seq (.reg f95r0) f95c1)
theorem f95cmp : cmpF Try.prog Try.f95 [.l [.o 0,.o 1,.kp [1,2]],
 .l [.o 0,.o 1,.o 2,.o 3,.o 4,.kp [1,2]],
 .t (.one [.o 0,.o 3] (.alt (.one [.x 1] (.alt (.one [.o 2,.x 4,.o 6,.o 5,.o 7,.o 8,.o 9,.kp [1,2]] .nil) (.one [.x 4,.o 2,.o 6,.o 5,.o 7,.o 8,.o 9,.kp [1,2]] .nil))) (.one [.x 4,.x 1,.o 2,.o 6,.o 5,.o 7,.o 8,.o 9,.kp [1,2]] .nil))),
 .l [.o 0,.o 1,.kp [2]]] = some (f95c0,[.cell 2 9]) := by kernel_rfl
theorem f95ok {args : List Value} {h : Heap} {R : Value → Heap → Prop} (hn : args.length ≤ 16) (H : wC Try.prog f95c0 (endW [.cell 2 9] R) (envOf 0 args) h) : CallsH Try.prog 95 args h R :=
 fn_ok2 Try.func95 f95cmp hn H
section
variable {P : Program} {Q : X → Env → Heap → Prop} {σ : Env} {h : Heap}
theorem f95c3_eq : wC P f95c3 Q σ h = (wL P none f95r3 0 (fun σ h => Q .ret σ h) σ h) := rfl
theorem f95c2_eq : wC P f95c2 Q σ h = (drtW P f95r2 (fun σ h => wC P f95c3 Q σ h) σ h) := rfl
theorem f95c1_eq : wC P f95c1 Q σ h = (wL P none f95r1 0 (fun σ h => wC P f95c2 Q σ h) σ h) := rfl
theorem f95c0_eq : wC P f95c0 Q σ h = (wL P none f95r0 0 (fun σ h => wC P f95c1 Q σ h) σ h) := rfl
end
def f123r0 : List I := [.op (.mov 4 (.const (.slice none 0 0))),
 .kp [0,1]]
def f123r1 : List I := [.op (.mov 5 (.const (.slice none 0 0))),
 .kp [0,1,5]]
def f123r2 : List I := [.op (.mov 8 (.tmp 0)),
 .op (.len 9 true (.tmp 8)),
 .op (.mov 10 (.const (.int .i64 0))),
 .kp [1,5,8,9,10]]
def f123r3 : List I := [.op (.bin 11 .lss (.tmp 10) (.tmp 9)),
 .kp [1,5,8,9,10,11]]
def f123r4 : List I := [.op (.iad 12 12 (.tmp 8) (.tmp 10)),
 .op (.ld 13 (some 12) (.tmp 12)),
 .op (.new 7 103 [.string ⟨#[]⟩,.slice none 0 0,.bool false,.int .i64 0,.int .i64 0,.int .i64 0,.int .i64 0,.int .i64 0,.int .i64 0,.int .i64 0,.bool false,.string ⟨#[]⟩]),
 .op (.st 12 (.tmp 7) (.tmp 13)),
 .kp [1,5,7,8,9,10]]
def f123r5 : List I := [.op (.mov 14 (.tmp 5)),
 .op (.mov 15 (.tmp 1)),
 .op (.ld 16 (some 12) (.tmp 7)),
 .op (.cav (some 17) (.tmp 15) [(.tmp 16)]),
 .op (.bsl 18 103 1 [.string ⟨#[]⟩,.slice none 0 0,.bool false,.int .i64 0,.int .i64 0,.int .i64 0,.int .i64 0,.int .i64 0,.int .i64 0,.int .i64 0,.bool false,.string ⟨#[]⟩] [(0,12,(.tmp 17))]),
 .op (.raw (some 19) ⟨(some 19), (.call ⟨(.builtin .append), #[(.tmp 14), (.tmp 18)], #[74, 74]⟩), 74, "twin.go:14", #[⟨0, .data⟩, ⟨4, .data⟩, ⟨3, .chain⟩], none⟩),
 .op (.mov 5 (.tmp 19)),
 .kp [1,5,8,9,10]]
def f123r6 : List I := [.op (.bin 20 .add (.tmp 10) (.const (.int .i64 1))),
 .op (.mov 10 (.tmp 20)),
 .kp [1,5,8,9,10]]
def f123r7 : List I := [.op (.mov 21 (.tmp 5)),
 .op (.mov 4 (.tmp 21)),
 .kp [4]]
def f123c8 : C := (.reg f123r5)
def f123c7 : C := (.seq (.reg f123r4) f123c8)
def f123c9 : C := (.reg f123r6)
def f123c6 : C := (.seq (.block 1 f123c7) f123c9)
def f123c5 : C := (.seq (.cond (.tmp 11) .skip (.exit 0)) f123c6)
def f123c4 : C := (.seq (.reg f123r3) f123c5)
def f123c10 : C := (.seq (.reg f123r7) .ret)
def f123c3 : C := (.seq (.block 0 (.loop f123c4)) f123c10)
def f123c2 : C := (.seq (.reg f123r2) f123c3)
def f123c1 : C := (.seq (.reg f123r1) f123c2)
def f123c0 : C := (.seq (.reg f123r0) f123c1)
theorem f123cmp : cmpF Try.prog Try.f123 [.l [.o 0,.kp [0,1]],
 .l [.o 0,.kp [0,1,5]],
 .l [.o 0,.o 1,.o 2,.kp [1,5,8,9,10]],
 .l [.o 0,.kp [1,5,8,9,10,11]],
 .l [.o 0,.o 1,.o 2,.o 3,.kp [1,5,7,8,9,10]],
 .l [.o 0,.o 1,.o 2,.o 3,.o 4,.o 5,.o 6,.kp [1,5,8,9,10]],
 .l [.o 0,.o 1,.kp [1,5,8,9,10]],
 .l [.o 0,.o 1,.kp [4]]] = some (f123c0,[.tmp 4]) := by kernel_rfl
theorem f123ok {args : List Value} {h : Heap} {R : Value → Heap → Prop} (hn : args.length ≤ 22) (H : wC Try.prog f123c0 (endW [.tmp 4] R) (envOf 0 args) h) : CallsH Try.prog 123 args h R :=
 fn_ok2 Try.func123 f123cmp hn H
section
variable {P : Program} {Q : X → Env → Heap → Prop} {σ : Env} {h : Heap}
theorem f123c8_eq : wC P f123c8 Q σ h = (wL P none f123r5 0 (fun σ h => Q .normal σ h) σ h) := rfl
theorem f123c7_eq : wC P f123c7 Q σ h = (wL P none f123r4 0 (fun σ h => wC P f123c8 Q σ h) σ h) := rfl
theorem f123c9_eq : wC P f123c9 Q σ h = (wL P none f123r6 0 (fun σ h => Q .normal σ h) σ h) := rfl
theorem f123c6_eq : wC P f123c6 Q σ h = (wC P f123c7 (X.inBlock 1 (X.then (fun σ h => wC P f123c9 Q σ h) Q)) σ h) := rfl
theorem f123c5_eq : wC P f123c5 Q σ h = (bd (evO σ (.tmp 11)) fun v => bd (asB v) fun t => br t (wC P f123c6 Q σ h) (Q (.exit 0) σ h)) := rfl
theorem f123c4_eq : wC P f123c4 Q σ h = (wL P none f123r3 0 (fun σ h => wC P f123c5 Q σ h) σ h) := rfl
theorem f123c10_eq : wC P f123c10 Q σ h = (wL P none f123r7 0 (fun σ h => Q .ret σ h) σ h) := rfl
theorem f123c3_eq : wC P f123c3 Q σ h = (loopW (wC P f123c4) (X.inBlock 0 (X.then (fun σ h => wC P f123c10 Q σ h) Q)) σ h) := rfl
theorem f123c2_eq : wC P f123c2 Q σ h = (wL P none f123r2 0 (fun σ h => wC P f123c3 Q σ h) σ h) := rfl
theorem f123c1_eq : wC P f123c1 Q σ h = (wL P none f123r1 0 (fun σ h => wC P f123c2 Q σ h) σ h) := rfl
theorem f123c0_eq : wC P f123c0 Q σ h = (wL P none f123r0 0 (fun σ h => wC P f123c1 Q σ h) σ h) := rfl
end
def f124r0 : List I := [.op (.box 1 103 (.tmp 0)),
 .op (.new 2 103 [.string ⟨#[]⟩,.slice none 0 0,.bool false,.int .i64 0,.int .i64 0,.int .i64 0,.int .i64 0,.int .i64 0,.int .i64 0,.int .i64 0,.bool false,.string ⟨#[]⟩]),
 .kp [1,2]]
def f124r1 : List I := [.op (.fad 3 1 (.tmp 1)),
 .op (.ld 4 none (.tmp 3)),
 .op (.call (some 5) 114 [(.tmp 4)]),
 .op (.fad 6 1 (.tmp 1)),
 .op (.st 1 (.tmp 6) (.tmp 5)),
 .kp [1,2]]
def f124r2 : List I := [.op (.ld 7 (some 12) (.tmp 1)),
 .op (.st 12 (.tmp 2) (.tmp 7)),
 .kp [2]]
def f124c2 : C := (.seq (.reg f124r2) .ret)
def f124c1 : C := (.seq (.reg f124r1) f124c2)
def f124c0 : C := (.seq (.reg f124r0) f124c1)
theorem f124cmp : cmpF Try.prog Try.f124 [.l [.o 0,.o 1,.kp [1,2]],
 .l [.o 0,.o 1,.o 2,.o 3,.o 4,.kp [1,2]],
 .l [.o 0,.o 1,.kp [2]]] = some (f124c0,[.cell 2 12]) := by kernel_rfl
theorem f124ok {args : List Value} {h : Heap} {R : Value → Heap → Prop} (hn : args.length ≤ 8) (H : wC Try.prog f124c0 (endW [.cell 2 12] R) (envOf 0 args) h) : CallsH Try.prog 124 args h R :=
 fn_ok2 Try.func124 f124cmp hn H
theorem f124cal : callable Try.prog 124 = true := by kernel_rfl
section
variable {P : Program} {Q : X → Env → Heap → Prop} {σ : Env} {h : Heap}
theorem f124c2_eq : wC P f124c2 Q σ h = (wL P none f124r2 0 (fun σ h => Q .ret σ h) σ h) := rfl
theorem f124c1_eq : wC P f124c1 Q σ h = (wL P none f124r1 0 (fun σ h => wC P f124c2 Q σ h) σ h) := rfl
theorem f124c0_eq : wC P f124c0 Q σ h = (wL P none f124r0 0 (fun σ h => wC P f124c1 Q σ h) σ h) := rfl
end
def f125r0 : List I := [.op (.mov 2 (.const (.slice none 0 0))),
 .kp [0]]
def f125r1 : List I := [.op (.mov 3 (.tmp 0)),
 .op (.eqn 4 true false (.tmp 3) (.const (.slice none 0 0))),
 .kp [0,4]]
def f125r2 : List I := [.op (.mov 2 (.const (.slice none 0 0))),
 .kp [2]]
def f125r3 : List I := [.op (.bsl 5 126 0 [] []),
 .op (.mov 6 (.tmp 0)),
 .op (.raw (some 7) ⟨(some 7), (.call ⟨(.builtin .append), #[(.tmp 5), (.tmp 6)], #[114, 114]⟩), 114, "slices.go:362", #[⟨0, .data⟩, ⟨1, .data⟩], none⟩),
 .op (.mov 2 (.tmp 7)),
 .kp [2]]
def f125c3 : C := (.seq (.reg f125r2) .ret)
def f125c4 : C := (.seq (.reg f125r3) .ret)
def f125c2 : C := (.seq (.cond (.tmp 4) f125c3 .skip) f125c4)
def f125c1 : C := (.seq (.reg f125r1) f125c2)
def f125c0 : C := (.seq (.reg f125r0) f125c1)
theorem f125cmp : cmpF Try.prog Try.f125 [.l [.o 0,.kp [0]],
 .l [.o 0,.o 1,.kp [0,4]],
 .l [.o 0,.kp [2]],
 .l [.o 0,.o 1,.o 2,.o 3,.kp [2]]] = some (f125c0,[.tmp 2]) := by kernel_rfl
theorem f125ok {args : List Value} {h : Heap} {R : Value → Heap → Prop} (hn : args.length ≤ 8) (H : wC Try.prog f125c0 (endW [.tmp 2] R) (envOf 0 args) h) : CallsH Try.prog 125 args h R :=
 fn_ok2 Try.func125 f125cmp hn H
section
variable {P : Program} {Q : X → Env → Heap → Prop} {σ : Env} {h : Heap}
theorem f125c3_eq : wC P f125c3 Q σ h = (wL P none f125r2 0 (fun σ h => Q .ret σ h) σ h) := rfl
theorem f125c4_eq : wC P f125c4 Q σ h = (wL P none f125r3 0 (fun σ h => Q .ret σ h) σ h) := rfl
theorem f125c2_eq : wC P f125c2 Q σ h = (bd (evO σ (.tmp 4)) fun v => bd (asB v) fun t => br t (wC P f125c3 (X.then (fun σ h => wC P f125c4 Q σ h) Q) σ h) (wC P f125c4 Q σ h)) := rfl
theorem f125c1_eq : wC P f125c1 Q σ h = (wL P none f125r1 0 (fun σ h => wC P f125c2 Q σ h) σ h) := rfl
theorem f125c0_eq : wC P f125c0 Q σ h = (wL P none f125r0 0 (fun σ h => wC P f125c1 Q σ h) σ h) := rfl
end
def f96r0 : List I := [.op (.box 3 43 (.tmp 1)),
 .op (.new 4 47 [.int .i64 0,.slice none 0 0,.int .i64 0,.int .i64 0,.int .i64 0,.int .i64 0,.int .i64 0,.int .i64 0,.int .i64 0,.int .i64 0,.bool false]),
 .kp [0,3,4]]
def f96r1a : List I := [.op (.mov 20 (.tmp 19)),
 .sc 20 false 3,
 .g 20 false (.fad 21 1 (.tmp 3)),
 .g 20 false (.ld 22 none (.tmp 21)),
 .g 20 false (.bin 23 .gtr (.tmp 22) (.const (.int .i64 1099511627776))),
 .op (.pick 24 (.tmp 20) (.const (.bool true)) (.tmp 23)),
 .kp [24,0,3,4]]
def f96r1 : List I := .op (.mov 5 (.tmp 0)) ::
 .op (.nch (some 6) (.tmp 5)) ::
 .op (.fad 7 0 (.tmp 6)) ::
 .op (.ld 8 none (.tmp 7)) ::
 .op (.bin 9 .geq (.tmp 8) (.const (.int .i64 1099511627776))) ::
 .op (.mov 10 (.tmp 9)) ::
 .sc 10 false 8 ::
 .g 10 false (.fad 11 1 (.tmp 3)) ::
 .g 10 false (.ld 12 none (.tmp 11)) ::
 .g 10 false (.mov 13 (.tmp 0)) ::
 .g 10 false (.nch (some 14) (.tmp 13)) ::
 .g 10 false (.fad 15 0 (.tmp 14)) ::
 .g 10 false (.ld 16 none (.tmp 15)) ::
 .g 10 false (.bin 17 .add (.tmp 16) (.const (.int .i64 1))) ::
 .g 10 false (.bin 18 .neq (.tmp 12) (.tmp 17)) ::
 .op (.pick 19 (.tmp 10) (.const (.bool true)) (.tmp 18)) ::
 .kp [19,0,3,4] ::
 f96r1a
def f96r2 : List I := [.op (.bld 25 [.int .i64 0,.slice none 0 0,.int .i64 0,.int .i64 0,.int .i64 0,.int .i64 0,.int .i64 0,.int .i64 0,.int .i64 0,.int .i64 0,.bool false] [(0,1,(.const (.int .i64 25)))]),
 .op (.st 11 (.tmp 4) (.tmp 25)),
 .kp [4]]
def f96r3 : List I := [.op (.mov 26 (.tmp 0)),
 .op (.mov 27 (.tmp 0)),
 .op (.fad 28 1 (.tmp 3)),
 .op (.ld 29 none (.tmp 28)),
 .op (.fad 30 2 (.tmp 3)),
 .op (.ld 31 none (.tmp 30)),
 .op (.nch (some 32) (.tmp 26)),
 .op (.fad 33 0 (.tmp 32)),
 .op (.st 1 (.tmp 33) (.tmp 29)),
 .op (.nch (some 34) (.tmp 27)),
 .kp [4,31,34],
 .op (.fad 35 1 (.tmp 34)),
 .op (.st 1 (.tmp 35) (.tmp 31)),
 .kp [4]]
def f96r4 : List I := [.op (.bld 36 [.int .i64 0,.slice none 0 0,.int .i64 0,.int .i64 0,.int .i64 0,.int .i64 0,.int .i64 0,.int .i64 0,.int .i64 0,.int .i64 0,.bool false] []),
 .op (.st 11 (.tmp 4) (.tmp 36)),
 .kp [4]]
def f96c3 : C := (.seq (.reg f96r2) .ret)
def f96c5 : C := (.seq (.reg f96r4) .ret)
def f96c4 : C := (.seq (.drw f96r3) f96c5)
def f96c2 : C := (.seq (.cond (.tmp 24) f96c3 .skip) f96c4)
def f96c1 : C := (.seq (.drw f96r1) f96c2)
def f96c0 : C := (.seq (.reg f96r0) f96c1)
theorem f96cmp : cmpF Try.prog Try.f96 [.l [.o 0,.o 1,.kp [0,3,4]],
 .l [.o 0,.o 1,.o 2,.o 3,.o 4,.o 5,.sc 10 false 8,.o 6,.o 7,.o 8,.o 9,.o 10,.o 11,.o 12,.o 13,.o 14,.kp [19,0,3,4],.o 15,.sc 20 false 3,.o 16,.o 17,.o 18,.o 19,.kp [24,0,3,4]],
 .l [.o 0,.o 1,.kp [4]],
 .l [.o 0,.o 1,.o 2,.o 3,.o 4,.o 5,.o 6,.o 7,.o 8,.o 9,.kp [4,31,34],.o 10,.o 11,.kp [4]],
 .l [.o 0,.o 1,.kp [4]]] = some (f96c0,[.cell 4 11]) := by kernel_rfl
theorem f96ok {args : List Value} {h : Heap} {R : Value → Heap → Prop} (hn : args.length ≤ 37) (H : wC Try.prog f96c0 (endW [.cell 4 11] R) (envOf 0 args) h) : CallsH Try.prog 96 args h R :=
 fn_ok2 Try.func96 f96cmp hn H
section
variable {P : Program} {Q : X → Env → Heap → Prop} {σ : Env} {h : Heap}
theorem f96c3_eq : wC P f96c3 Q σ h = (wL P none f96r2 0 (fun σ h => Q .ret σ h) σ h) := rfl
theorem f96c5_eq : wC P f96c5 Q σ h = (wL P none f96r4 0 (fun σ h => Q .ret σ h) σ h) := rfl
theorem f96c4_eq : wC P f96c4 Q σ h = (drwW P f96r3 (fun σ h => wC P f96c5 Q σ h) σ h) := rfl
theorem f96c2_eq : wC P f96c2 Q σ h = (bd (evO σ (.tmp 24)) fun v => bd (asB v) fun t => br t (wC P f96c3 (X.then (fun σ h => wC P f96c4 Q σ h) Q) σ h) (wC P f96c4 Q σ h)) := rfl
theorem f96c1_eq : wC P f96c1 Q σ h = (drwW P f96r1 (fun σ h => wC P f96c2 Q σ h) σ h) := rfl
theorem f96c0_eq : wC P f96c0 Q σ h = (wL P none f96r0 0 (fun σ h => wC P f96c1 Q σ h) σ h) := rfl
end
def f63r0 : List I := [.op (.box 3 37 (.tmp 1)),
 .op (.new 4 126 [.int .i64 0,.int .i64 0,.int .i64 0,.int .i64 0,.int .i64 0,.int .i64 0,.bool false]),
 .op (.mov 5 (.const (.bool false))),
 .kp [0,3,4]]
def f63r1 : List I := [.op (.mov 7 (.tmp 0)),
 .op (.fn 8 105 [(.tmp 3)]),
 .op (.call (some 9) 104 [(.tmp 7),(.tmp 8)]),
 .op (.mov 6 (.tmp 9)),
 .kp [0,4,6]]
def f63r2 : List I := [.op (.mov 10 (.tmp 6)),
 .op (.bin 11 .lss (.tmp 10) (.const (.int .i64 0))),
 .kp [0,4,6,11]]
def f63r3 : List I := [.op (.bld 12 [.int .i64 0,.int .i64 0,.int .i64 0,.int .i64 0,.int .i64 0,.int .i64 0,.bool false] []),
 .op (.st 7 (.tmp 4) (.tmp 12)),
 .op (.mov 5 (.const (.bool false))),
 .kp [4,5]]
def f63r4 : List I := [.op (.mov 13 (.tmp 0)),
 .op (.mov 14 (.tmp 6)),
 .op (.iad 15 7 (.tmp 13) (.tmp 14)),
 .op (.ld 16 (some 7) (.tmp 15)),
 .op (.st 7 (.tmp 4) (.tmp 16)),
 .op (.mov 5 (.const (.bool true))),
 .kp [4,5]]
def f63c4 : C := (.seq (.reg f63r3) .ret)
def f63c5 : C := (.seq (.reg f63r4) .ret)
def f63c3 : C := (.seq (.cond (.tmp 11) f63c4 .skip) f63c5)
def f63c2 : C := (.seq (.reg f63r2) f63c3)
def f63c1 : C := (.seq (.reg f63r1) f63c2)
def f63c0 : C := (.seq (.reg f63r0) f63c1)
theorem f63cmp : cmpF Try.prog Try.f63 [.l [.o 0,.o 1,.o 2,.kp [0,3,4]],
 .l [.o 0,.o 1,.o 2,.o 3,.kp [0,4,6]],
 .l [.o 0,.o 1,.kp [0,4,6,11]],
 .l [.o 0,.o 1,.o 2,.kp [4,5]],
 .l [.o 0,.o 1,.o 2,.o 3,.o 4,.o 5,.kp [4,5]]] = some (f63c0,[.cell 4 7,.tmp 5]) := by kernel_rfl
theorem f63ok {args : List Value} {h : Heap} {R : Value → Heap → Prop} (hn : args.length ≤ 17) (H : wC Try.prog f63c0 (endW [.cell 4 7,.tmp 5] R) (envOf 0 args) h) : CallsH Try.prog 63 args h R :=
 fn_ok2 Try.func63 f63cmp hn H
section
variable {P : Program} {Q : X → Env → Heap → Prop} {σ : Env} {h : Heap}
theorem f63c4_eq : wC P f63c4 Q σ h = (wL P none f63r3 0 (fun σ h => Q .ret σ h) σ h) := rfl
theorem f63c5_eq : wC P f63c5 Q σ h = (wL P none f63r4 0 (fun σ h => Q .ret σ h) σ h) := rfl
theorem f63c3_eq : wC P f63c3 Q σ h = (bd (evO σ (.tmp 11)) fun v => bd (asB v) fun t => br t (wC P f63c4 (X.then (fun σ h => wC P f63c5 Q σ h) Q) σ h) (wC P f63c5 Q σ h)) := rfl
theorem f63c2_eq : wC P f63c2 Q σ h = (wL P none f63r2 0 (fun σ h => wC P f63c3 Q σ h) σ h) := rfl
theorem f63c1_eq : wC P f63c1 Q σ h = (wL P none f63r1 0 (fun σ h => wC P f63c2 Q σ h) σ h) := rfl
theorem f63c0_eq : wC P f63c0 Q σ h = (wL P none f63r0 0 (fun σ h => wC P f63c1 Q σ h) σ h) := rfl
end
def f104r0 : List I := [.op (.mov 4 (.const (.int .i64 0))),
 .kp [0,1]]
def f104r1 : List I := [.op (.mov 6 (.tmp 0)),
 .op (.len 7 true (.tmp 6)),
 .op (.mov 8 (.const (.int .i64 0))),
 .kp [0,1,7,8]]
def f104r2 : List I := [.op (.bin 9 .lss (.tmp 8) (.tmp 7)),
 .kp [0,1,7,8,9]]
def f104r3 : List I := [.op (.mov 10 (.tmp 8)),
 .op (.mov 5 (.tmp 10)),
 .kp [0,1,5,7,8]]
def f104r4 : List I := [.op (.mov 11 (.tmp 1)),
 .op (.mov 12 (.tmp 0)),
 .op (.mov 13 (.tmp 5)),
 .op (.iad 14 7 (.tmp 12) (.tmp 13)),
 .op (.ld 15 (some 7) (.tmp 14)),
 .op (.cav (some 16) (.tmp 11) [(.tmp 15)]),
 .kp [0,1,5,7,8,16]]
def f104r5 : List I := [.op (.mov 17 (.tmp 5)),
 .op (.mov 4 (.tmp 17)),
 .kp [4]]
def f104r6 : List I := [.op (.bin 18 .add (.tmp 8) (.const (.int .i64 1))),
 .op (.mov 8 (.tmp 18)),
 .kp [0,1,7,8]]
def f104r7 : List I := [.op (.mov 4 (.const (.int .i64 (-1)))),
 .kp [4]]
def f104c9 : C := (.seq (.reg f104r5) .ret)
def f104c8 : C := (.cond (.tmp 16) f104c9 .skip)
def f104c7 : C := (.seq (.reg f104r4) f104c8)
def f104c6 : C := (.seq (.reg f104r3) f104c7)
def f104c10 : C := (.reg f104r6)
def f104c5 : C := (.seq (.block 1 f104c6) f104c10)
def f104c4 : C := (.seq (.cond (.tmp 9) .skip (.exit 0)) f104c5)
def f104c3 : C := (.seq (.reg f104r2) f104c4)
def f104c11 : C := (.seq (.reg f104r7) .ret)
def f104c2 : C := (.seq (.block 0 (.loop f104c3)) f104c11)
def f104c1 : C := (.seq (.reg f104r1) f104c2)
def f104c0 : C := (.seq (.reg f104r0) f104c1)
theorem f104cmp : cmpF Try.prog Try.f104 [.l [.o 0,.kp [0,1]],
 .l [.o 0,.o 1,.o 2,.kp [0,1,7,8]],
 .l [.o 0,.kp [0,1,7,8,9]],
 .l [.o 0,.o 1,.kp [0,1,5,7,8]],
 .l [.o 0,.o 1,.o 2,.o 3,.o 4,.o 5,.kp [0,1,5,7,8,16]],
 .l [.o 0,.o 1,.kp [4]],
 .l [.o 0,.o 1,.kp [0,1,7,8]],
 .l [.o 0,.kp [4]]] = some (f104c0,[.tmp 4]) := by kernel_rfl
theorem f104ok {args : List Value} {h : Heap} {R : Value → Heap → Prop} (hn : args.length ≤ 19) (H : wC Try.prog f104c0 (endW [.tmp 4] R) (envOf 0 args) h) : CallsH Try.prog 104 args h R :=
 fn_ok2 Try.func104 f104cmp hn H
section
variable {P : Program} {Q : X → Env → Heap → Prop} {σ : Env} {h : Heap}
theorem f104c9_eq : wC P f104c9 Q σ h = (wL P none f104r5 0 (fun σ h => Q .ret σ h) σ h) := rfl
theorem f104c8_eq : wC P f104c8 Q σ h = (bd (evO σ (.tmp 16)) fun v => bd (asB v) fun t => br t (wC P f104c9 Q σ h) (Q .normal σ h)) := rfl
theorem f104c7_eq : wC P f104c7 Q σ h = (wL P none f104r4 0 (fun σ h => wC P f104c8 Q σ h) σ h) := rfl
theorem f104c6_eq : wC P f104c6 Q σ h = (wL P none f104r3 0 (fun σ h => wC P f104c7 Q σ h) σ h) := rfl
theorem f104c10_eq : wC P f104c10 Q σ h = (wL P none f104r6 0 (fun σ h => Q .normal σ h) σ h) := rfl
theorem f104c5_eq : wC P f104c5 Q σ h = (wC P f104c6 (X.inBlock 1 (X.then (fun σ h => wC P f104c10 Q σ h) Q)) σ h) := rfl
theorem f104c4_eq : wC P f104c4 Q σ h = (bd (evO σ (.tmp 9)) fun v => bd (asB v) fun t => br t (wC P f104c5 Q σ h) (Q (.exit 0) σ h)) := rfl
theorem f104c3_eq : wC P f104c3 Q σ h = (wL P none f104r2 0 (fun σ h => wC P f104c4 Q σ h) σ h) := rfl
theorem f104c11_eq : wC P f104c11 Q σ h = (wL P none f104r7 0 (fun σ h => Q .ret σ h) σ h) := rfl
theorem f104c2_eq : wC P f104c2 Q σ h = (loopW (wC P f104c3) (X.inBlock 0 (X.then (fun σ h => wC P f104c11 Q σ h) Q)) σ h) := rfl
theorem f104c1_eq : wC P f104c1 Q σ h = (wL P none f104r1 0 (fun σ h => wC P f104c2 Q σ h) σ h) := rfl
theorem f104c0_eq : wC P f104c0 Q σ h = (wL P none f104r0 0 (fun σ h => wC P f104c1 Q σ h) σ h) := rfl
end
def f105r0 : List I := [.op (.box 2 126 (.tmp 0)),
 .op (.mov 3 (.const (.bool false))),
 .kp [1,2]]
def f105r1 : List I := [.op (.fad 4 0 (.tmp 2)),
 .op (.ld 5 (some 4) (.tmp 4)),
 .op (.ld 6 (some 4) (.tmp 1)),
 .op (.eqa 7 false [.i .i64,.i .i64,.i .i64,.i .i64] (.tmp 5) (.tmp 6)),
 .op (.mov 3 (.tmp 7)),
 .kp [3]]
def f105c1 : C := (.seq (.reg f105r1) .ret)
def f105c0 : C := (.seq (.reg f105r0) f105c1)
theorem f105cmp : cmpF Try.prog Try.f105 [.l [.o 0,.o 1,.kp [1,2]],
 .l [.o 0,.o 1,.o 2,.o 3,.o 4,.kp [3]]] = some (f105c0,[.tmp 3]) := by kernel_rfl
theorem f105ok {args : List Value} {h : Heap} {R : Value → Heap → Prop} (hn : args.length ≤ 8) (H : wC Try.prog f105c0 (endW [.tmp 3] R) (envOf 0 args) h) : CallsH Try.prog 105 args h R :=
 fn_ok2 Try.func105 f105cmp hn H
theorem f105cal : callable Try.prog 105 = true := by kernel_rfl
section
variable {P : Program} {Q : X → Env → Heap → Prop} {σ : Env} {h : Heap}
theorem f105c1_eq : wC P f105c1 Q σ h = (wL P none f105r1 0 (fun σ h => Q .ret σ h) σ h) := rfl
theorem f105c0_eq : wC P f105c0 Q σ h = (wL P none f105r0 0 (fun σ h => wC P f105c1 Q σ h) σ h) := rfl
end
def f142r0 : List I := [.op (.box 1 72 (.tmp 0)),
 .op (.new 2 47 [.int .i64 0,.slice none 0 0,.int .i64 0,.int .i64 0,.int .i64 0,.int .i64 0,.int .i64 0,.int .i64 0,.int .i64 0,.int .i64 0,.bool false]),
 .kp [1,2]]
def f142r1 : List I := [.op (.fad 3 0 (.tmp 1)),
 .op (.ld 4 (some 4) (.tmp 3)),
 .op (.fad 5 4 (.tmp 1)),
 .op (.ld 6 none (.tmp 5)),
 .op (.fad 7 5 (.tmp 1)),
 .op (.ld 8 (some 2) (.tmp 7)),
 .op (.bld 9 [.int .i64 0,.slice none 0 0,.int .i64 0,.int .i64 0,.int .i64 0,.int .i64 0,.int .i64 0,.int .i64 0,.int .i64 0,.int .i64 0,.bool false] [(0,1,(.const (.int .i64 20))),(2,4,(.tmp 4)),(6,1,(.tmp 6)),(7,2,(.tmp 8))]),
 .op (.st 11 (.tmp 2) (.tmp 9)),
 .kp [2]]
def f142c1 : C := (.seq (.reg f142r1) .ret)
def f142c0 : C := (.seq (.reg f142r0) f142c1)
theorem f142cmp : cmpF Try.prog Try.f142 [.l [.o 0,.o 1,.kp [1,2]],
 .l [.o 0,.o 1,.o 2,.o 3,.o 4,.o 5,.o 6,.o 7,.kp [2]]] = some (f142c0,[.cell 2 11]) := by kernel_rfl
theorem f142ok {args : List Value} {h : Heap} {R : Value → Heap → Prop} (hn : args.length ≤ 10) (H : wC Try.prog f142c0 (endW [.cell 2 11] R) (envOf 0 args) h) : CallsH Try.prog 142 args h R :=
 fn_ok2 Try.func142 f142cmp hn H
section
variable {P : Program} {Q : X → Env → Heap → Prop} {σ : Env} {h : Heap}
theorem f142c1_eq : wC P f142c1 Q σ h = (wL P none f142r1 0 (fun σ h => Q .ret σ h) σ h) := rfl
theorem f142c0_eq : wC P f142c0 Q σ h = (wL P none f142r0 0 (fun σ h => wC P f142c1 Q σ h) σ h) := rfl
end
def f143r0 : List I := [.op (.box 2 39 (.tmp 0)),
 .op (.box 3 39 (.tmp 1)),
 .op (.new 4 39 [.int .i64 0,.int .i64 0]),
 .kp [2,3,4]]
def f143r1 : List I := [.op (.ld 5 (some 2) (.tmp 2)),
 .op (.ld 6 (some 2) (.tmp 3)),
 .op (.call (some 7) 90 [(.tmp 5),(.tmp 6)]),
 .kp [2,3,4,7]]
def f143r2 : List I := [.op (.ld 8 (some 2) (.tmp 3)),
 .op (.st 2 (.tmp 4) (.tmp 8)),
 .kp [4]]
def f143r3 : List I := [.op (.ld 9 (some 2) (.tmp 2)),
 .op (.st 2 (.tmp 4) (.tmp 9)),
 .kp [4]]
def f143c3 : C := (.seq (.reg f143r2) .ret)
def f143c4 : C := (.seq (.reg f143r3) .ret)
def f143c2 : C := (.seq (.cond (.tmp 7) f143c3 .skip) f143c4)
def f143c1 : C := (.seq (.reg f143r1) f143c2)
def f143c0 : C := (.seq (.reg f143r0) f143c1)
theorem f143cmp : cmpF Try.prog Try.f143 [.l [.o 0,.o 1,.o 2,.kp [2,3,4]],
 .l [.o 0,.o 1,.o 2,.kp [2,3,4,7]],
 .l [.o 0,.o 1,.kp [4]],
 .l [.o 0,.o 1,.kp [4]]] = some (f143c0,[.cell 4 2]) := by kernel_rfl
theorem f143ok {args : List Value} {h : Heap} {R : Value → Heap → Prop} (hn : args.length ≤ 10) (H : wC Try.prog f143c0 (endW [.cell 4 2] R) (envOf 0 args) h) : CallsH Try.prog 143 args h R :=
 fn_ok2 Try.func143 f143cmp hn H
section
variable {P : Program} {Q : X → Env → Heap → Prop} {σ : Env} {h : Heap}
theorem f143c3_eq : wC P f143c3 Q σ h = (wL P none f143r2 0 (fun σ h => Q .ret σ h) σ h) := rfl
theorem f143c4_eq : wC P f143c4 Q σ h = (wL P none f143r3 0 (fun σ h => Q .ret σ h) σ h) := rfl
theorem f143c2_eq : wC P f143c2 Q σ h = (bd (evO σ (.tmp 7)) fun v => bd (asB v) fun t => br t (wC P f143c3 (X.then (fun σ h => wC P f143c4 Q σ h) Q) σ h) (wC P f143c4 Q σ h)) := rfl
theorem f143c1_eq : wC P f143c1 Q σ h = (wL P none f143r1 0 (fun σ h => wC P f143c2 Q σ h) σ h) := rfl
theorem f143c0_eq : wC P f143c0 Q σ h = (wL P none f143r0 0 (fun σ h => wC P f143c1 Q σ h) σ h) := rfl
end
def f102r0 : List I := [.op (.mov 2 (.const (.bool false))),
 .kp [0]]
def f102r1 : List I := [.op (.raw (some 6) ⟨(some 6), (.makeMap 182 none), 182, "part.go:29", #[], none⟩),
 .op (.mov 3 (.tmp 6)),
 .kp [0,3]]
def f102r2 : List I := [.op (.mov 7 (.tmp 0)),
 .op (.len 8 true (.tmp 7)),
 .op (.mov 9 (.const (.int .i64 0))),
 .kp [3,7,8,9]]
def f102r3 : List I := [.op (.bin 10 .lss (.tmp 9) (.tmp 8)),
 .kp [3,7,8,9,10]]
def f102r4 : List I := [.op (.iad 11 7 (.tmp 7) (.tmp 9)),
 .op (.ld 12 (some 7) (.tmp 11)),
 .op (.new 5 126 [.int .i64 0,.int .i64 0,.int .i64 0,.int .i64 0,.int .i64 0,.int .i64 0,.bool false]),
 .op (.st 7 (.tmp 5) (.tmp 12)),
 .kp [3,5,7,8,9]]
def f102r5 : L := (.one [.op (.mov 13 (.tmp 3)),
 .op (.fad 14 0 (.tmp 5)),
 .op (.ld 15 (some 4) (.tmp 14))] (.alt (.one [.op (.raw (some 16) ⟨(some 16), (.lookup 182 (.tmp 13) (.tmp 15) false), 3, "part.go:31", #[⟨0, .data⟩, ⟨2, .data⟩], none⟩),
 .op (.bin 17 .add (.tmp 16) (.const (.int .i64 1))),
 .op (.raw (some 18) ⟨(some 18), (.mapEntry 182 (.tmp 13) (.tmp 15)), 0, "part.go:31", #[⟨0, .data⟩, ⟨2, .data⟩, ⟨0, .phase⟩, ⟨1, .phase⟩, ⟨2, .phase⟩, ⟨3, (.textOnly .mapOpAssignEntry)⟩, ⟨4, (.textOnly .mapOpAssignEntry)⟩], none⟩),
 .op (.ext 19 (.tmp 18) 1),
 .op (.raw none ⟨none, (.entryStore 182 (.tmp 13) (.tmp 19) (.tmp 17)), 0, "part.go:31", #[⟨0, .data⟩, ⟨6, .data⟩, ⟨4, .data⟩, ⟨5, .chain⟩, ⟨0, .phase⟩, ⟨1, .phase⟩, ⟨2, .phase⟩, ⟨3, .phase⟩, ⟨4, .phase⟩, ⟨5, .phase⟩, ⟨6, .phase⟩], none⟩),
 .kp [3, 5, 7, 8, 9]] .nil) (.one [.op (.raw (some 18) ⟨(some 18), (.mapEntry 182 (.tmp 13) (.tmp 15)), 0, "part.go:31", #[⟨0, .data⟩, ⟨2, .data⟩, ⟨0, .phase⟩, ⟨1, .phase⟩, ⟨2, .phase⟩, ⟨3, (.textOnly .mapOpAssignEntry)⟩, ⟨4, (.textOnly .mapOpAssignEntry)⟩], none⟩),
 .op (.ext 19 (.tmp 18) 1),
 .op (.raw (some 16) ⟨(some 16), (.lookup 182 (.tmp 13) (.tmp 15) false), 3, "part.go:31", #[⟨0, .data⟩, ⟨2, .data⟩], none⟩),
 .op (.bin 17 .add (.tmp 16) (.const (.int .i64 1))),
 .op (.raw none ⟨none, (.entryStore 182 (.tmp 13) (.tmp 19) (.tmp 17)), 0, "part.go:31", #[⟨0, .data⟩, ⟨6, .data⟩, ⟨4, .data⟩, ⟨5, .chain⟩, ⟨0, .phase⟩, ⟨1, .phase⟩, ⟨2, .phase⟩, ⟨3, .phase⟩, ⟨4, .phase⟩, ⟨5, .phase⟩, ⟨6, .phase⟩], none⟩),
 .kp [3,5,7,8,9]] .nil)))
def f102r6 : List I := [.op (.mov 20 (.tmp 3)),
 .op (.fad 21 0 (.tmp 5)),
 .op (.ld 22 (some 4) (.tmp 21)),
 .op (.raw (some 23) ⟨(some 23), (.lookup 182 (.tmp 20) (.tmp 22) false), 3, "part.go:31", #[⟨0, .data⟩, ⟨2, .data⟩], none⟩),
 .op (.bin 24 .gtr (.tmp 23) (.const (.int .i64 1))),
 .kp [3,7,8,9,24]]
def f102r7 : List I := [.op (.mov 2 (.const (.bool false))),
 .kp [2]]
def f102r8 : List I := [.op (.bin 25 .add (.tmp 9) (.const (.int .i64 1))),
 .op (.mov 9 (.tmp 25)),
 .kp [3,7,8,9]]
def f102r9 : List I := [.op (.mov 2 (.const (.bool true))),
 .kp [2]]
def f102c11 : C := (.seq (.reg f102r7) .ret)
def f102c10 : C := (.cond (.tmp 24) f102c11 .skip)
def f102c9 : C := (.seq (.reg f102r6) f102c10)
def f102c8 : C := (.seq (.drt f102r5) f102c9)
def f102c7 : C := (.seq (.reg f102r4) f102c8)
def f102c12 : C := (.reg f102r8)
def f102c6 : C := (.seq (.block 1 f102c7) f102c12)
def f102c5 : C := (.seq (.cond (.tmp 10) .skip (.exit 0)) f102c6)
def f102c4 : C := (.seq (.reg f102r3) f102c5)
def f102c13 : C := (.seq (.reg f102r9) .ret)
def f102c3 : C := (.seq (.block 0 (.loop f102c4)) f102c13)
def f102c2 : C := (.seq (.reg f102r2) f102c3)
def f102c1 : C := (.seq (.reg f102r1) f102c2)
def f102c0 : C := (.seq (.reg f102r0) f102c1)
theorem f102cmp : cmpF Try.prog Try.f102 [.l [.o 0,.kp [0]],
 .l [.o 0,.o 1,.kp [0,3]],
 .l [.o 0,.o 1,.o 2,.kp [3,7,8,9]],
 .l [.o 0,.kp [3,7,8,9,10]],
 .l [.o 0,.o 1,.o 2,.o 3,.kp [3,5,7,8,9]],
 .t (.one [.o 0,.o 1,.o 2] (.alt (.one [.o 3,.o 4,.o 5,.o 6,.o 7,.kp [3,5,7,8,9]] .nil) (.one [.o 5,.o 6,.o 3,.o 4,.o 7,.kp [3,5,7,8,9]] .nil))),
 .l [.o 0,.o 1,.o 2,.o 3,.o 4,.kp [3,7,8,9,24]],
 .l [.o 0,.kp [2]],
 .l [.o 0,.o 1,.kp [3,7,8,9]],
 .l [.o 0,.kp [2]]] = some (f102c0,[.tmp 2]) := by kernel_rfl
theorem f102ok {args : List Value} {h : Heap} {R : Value → Heap → Prop} (hn : args.length ≤ 26) (H : wC Try.prog f102c0 (endW [.tmp 2] R) (envOf 0 args) h) : CallsH Try.prog 102 args h R :=
 fn_ok2 Try.func102 f102cmp hn H
section
variable {P : Program} {Q : X → Env → Heap → Prop} {σ : Env} {h : Heap}
theorem f102c11_eq : wC P f102c11 Q σ h = (wL P none f102r7 0 (fun σ h => Q .ret σ h) σ h) := rfl
theorem f102c10_eq : wC P f102c10 Q σ h = (bd (evO σ (.tmp 24)) fun v => bd (asB v) fun t => br t (wC P f102c11 Q σ h) (Q .normal σ h)) := rfl
theorem f102c9_eq : wC P f102c9 Q σ h = (wL P none f102r6 0 (fun σ h => wC P f102c10 Q σ h) σ h) := rfl
theorem f102c8_eq : wC P f102c8 Q σ h = (drtW P f102r5 (fun σ h => wC P f102c9 Q σ h) σ h) := rfl
theorem f102c7_eq : wC P f102c7 Q σ h = (wL P none f102r4 0 (fun σ h => wC P f102c8 Q σ h) σ h) := rfl
theorem f102c12_eq : wC P f102c12 Q σ h = (wL P none f102r8 0 (fun σ h => Q .normal σ h) σ h) := rfl
theorem f102c6_eq : wC P f102c6 Q σ h = (wC P f102c7 (X.inBlock 1 (X.then (fun σ h => wC P f102c12 Q σ h) Q)) σ h) := rfl
theorem f102c5_eq : wC P f102c5 Q σ h = (bd (evO σ (.tmp 10)) fun v => bd (asB v) fun t => br t (wC P f102c6 Q σ h) (Q (.exit 0) σ h)) := rfl
theorem f102c4_eq : wC P f102c4 Q σ h = (wL P none f102r3 0 (fun σ h => wC P f102c5 Q σ h) σ h) := rfl
theorem f102c13_eq : wC P f102c13 Q σ h = (wL P none f102r9 0 (fun σ h => Q .ret σ h) σ h) := rfl
theorem f102c3_eq : wC P f102c3 Q σ h = (loopW (wC P f102c4) (X.inBlock 0 (X.then (fun σ h => wC P f102c13 Q σ h) Q)) σ h) := rfl
theorem f102c2_eq : wC P f102c2 Q σ h = (wL P none f102r2 0 (fun σ h => wC P f102c3 Q σ h) σ h) := rfl
theorem f102c1_eq : wC P f102c1 Q σ h = (wL P none f102r1 0 (fun σ h => wC P f102c2 Q σ h) σ h) := rfl
theorem f102c0_eq : wC P f102c0 Q σ h = (wL P none f102r0 0 (fun σ h => wC P f102c1 Q σ h) σ h) := rfl
end
def f60r0 : List I := [.op (.box 1 116 (.tmp 0)),
 .op (.mov 2 (.const (.bool false))),
 .kp [1]]
def f60r1e : List I := [.op (.mov 2 (.tmp 37)),
 .kp [2]]
def f60r1d : List I := .op (.mov 26 (.tmp 25)) ::
 .sc 26 true 11 ::
 .g 26 true (.fad 27 5 (.tmp 1)) ::
 .g 26 true (.ld 28 none (.tmp 27)) ::
 .g 26 true (.fad 29 4 (.tmp 1)) ::
 .g 26 true (.ld 30 none (.tmp 29)) ::
 .g 26 true (.bin 31 .leq (.tmp 28) (.tmp 30)) ::
 .g 26 true (.mov 32 (.tmp 31)) ::
 .sc 32 false 3 ::
 .g 32 false (.fad 33 5 (.tmp 1)) ::
 .g 32 false (.ld 34 none (.tmp 33)) ::
 .g 32 false (.bin 35 .eql (.tmp 34) (.const (.int .i64 0))) ::
 .g 26 true (.pick 36 (.tmp 32) (.const (.bool true)) (.tmp 35)) ::
 .op (.pick 37 (.tmp 26) (.tmp 36) (.const (.bool false))) ::
 .kp [37] ::
 f60r1e
def f60r1c : List I := .op (.mov 21 (.tmp 20)) ::
 .sc 21 true 3 ::
 .g 21 true (.fad 22 0 (.tmp 1)) ::
 .g 21 true (.ld 23 none (.tmp 22)) ::
 .g 21 true (.bin 24 .leq (.tmp 23) (.const (.int .i64 1099511627776))) ::
 .op (.pick 25 (.tmp 21) (.tmp 24) (.const (.bool false))) ::
 .kp [25,1] ::
 f60r1d
def f60r1b : List I := .op (.mov 16 (.tmp 15)) ::
 .sc 16 true 3 ::
 .g 16 true (.fad 17 0 (.tmp 1)) ::
 .g 16 true (.ld 18 none (.tmp 17)) ::
 .g 16 true (.bin 19 .geq (.tmp 18) (.const (.int .i64 0))) ::
 .op (.pick 20 (.tmp 16) (.tmp 19) (.const (.bool false))) ::
 .kp [20,1] ::
 f60r1c
def f60r1a : List I := .op (.mov 11 (.tmp 10)) ::
 .sc 11 true 3 ::
 .g 11 true (.fad 12 8 (.tmp 1)) ::
 .g 11 true (.ld 13 none (.tmp 12)) ::
 .g 11 true (.call (some 14) 102 [(.tmp 13)]) ::
 .op (.pick 15 (.tmp 11) (.tmp 14) (.const (.bool false))) ::
 .kp [15,1] ::
 f60r1b
def f60r1 : List I := .op (.fad 3 6 (.tmp 1)) ::
 .op (.ld 4 none (.tmp 3)) ::
 .op (.call (some 5) 45 [(.tmp 4)]) ::
 .op (.mov 6 (.tmp 5)) ::
 .sc 6 true 3 ::
 .g 6 true (.fad 7 7 (.tmp 1)) ::
 .g 6 true (.ld 8 none (.tmp 7)) ::
 .g 6 true (.call (some 9) 102 [(.tmp 8)]) ::
 .op (.pick 10 (.tmp 6) (.tmp 9) (.const (.bool false))) ::
 .kp [10,1] ::
 f60r1a
def f60c1 : C := (.seq (.reg f60r1) .ret)
def f60c0 : C := (.seq (.reg f60r0) f60c1)
theorem f60cmp : cmpF Try.prog Try.f60 [.l [.o 0,.o 1,.kp [1]],
 .l [.o 0,.o 1,.o 2,.o 3,.sc 6 true 3,.o 4,.o 5,.o 6,.o 7,.kp [10,1],.o 8,.sc 11 true 3,.o 9,.o 10,.o 11,.o 12,.kp [15,1],.o 13,.sc 16 true 3,.o 14,.o 15,.o 16,.o 17,.kp [20,1],.o 18,.sc 21 true 3,.o 19,.o 20,.o 21,.o 22,.kp [25,1],.o 23,.sc 26 true 11,.o 24,.o 25,.o 26,.o 27,.o 28,.o 29,.sc 32 false 3,.o 30,.o 31,.o 32,.o 33,.o 34,.kp [37],.o 35,.kp [2]]] = some (f60c0,[.tmp 2]) := by kernel_rfl
theorem f60ok {args : List Value} {h : Heap} {R : Value → Heap → Prop} (hn : args.length ≤ 38) (H : wC Try.prog f60c0 (endW [.tmp 2] R) (envOf 0 args) h) : CallsH Try.prog 60 args h R :=
 fn_ok2 Try.func60 f60cmp hn H
section
variable {P : Program} {Q : X → Env → Heap → Prop} {σ : Env} {h : Heap}
theorem f60c1_eq : wC P f60c1 Q σ h = (wL P none f60r1 0 (fun σ h => Q .ret σ h) σ h) := rfl
theorem f60c0_eq : wC P f60c0 Q σ h = (wL P none f60r0 0 (fun σ h => wC P f60c1 Q σ h) σ h) := rfl
end
def f56r0 : List I := [.op (.box 2 116 (.tmp 0)),
 .op (.box 3 43 (.tmp 1)),
 .op (.new 4 116 [.int .i64 0,.int .i64 0,.int .i64 0,.int .i64 0,.int .i64 0,.int .i64 0,.slice none 0 0,.slice none 0 0,.slice none 0 0]),
 .op (.new 5 47 [.int .i64 0,.slice none 0 0,.int .i64 0,.int .i64 0,.int .i64 0,.int .i64 0,.int .i64 0,.int .i64 0,.int .i64 0,.int .i64 0,.bool false]),
 .kp [2,3,4,5]]
def f56r1 : List I := [.op (.ld 8 (some 9) (.tmp 2)),
 .op (.call (some 9) 95 [(.tmp 8)]),
 .op (.new 6 116 [.int .i64 0,.int .i64 0,.int .i64 0,.int .i64 0,.int .i64 0,.int .i64 0,.slice none 0 0,.slice none 0 0,.slice none 0 0]),
 .op (.st 9 (.tmp 6) (.tmp 9)),
 .kp [2,3,4,5,6]]
def f56r2 : List I := [.op (.bld 10 [.int .i64 0,.slice none 0 0,.int .i64 0,.int .i64 0,.int .i64 0,.int .i64 0,.int .i64 0,.int .i64 0,.int .i64 0,.int .i64 0,.bool false] []),
 .op (.new 7 47 [.int .i64 0,.slice none 0 0,.int .i64 0,.int .i64 0,.int .i64 0,.int .i64 0,.int .i64 0,.int .i64 0,.int .i64 0,.int .i64 0,.bool false]),
 .op (.st 11 (.tmp 7) (.tmp 10)),
 .kp [2,3,4,5,6,7]]
def f56r3 : List I := [.op (.fad 14 0 (.tmp 3)),
 .op (.ld 15 none (.tmp 14)),
 .op (.bin 16 .eql (.tmp 15) (.const (.int .i64 1))),
 .op (.mov 13 (.tmp 16)),
 .kp [2,3,4,5,6,7,13]]
def f56r4 : List I := [.op (.ld 17 (some 14) (.tmp 3)),
 .op (.call (some 18) 96 [(.tmp 6),(.tmp 17)]),
 .op (.st 11 (.tmp 7) (.tmp 18)),
 .kp [2,4,5,6,7]]
def f56r5a : List I := [.op (.mov 19 (.tmp 29)),
 .kp [2,3,4,5,6,7,19]]
def f56r5 : List I := .op (.fad 20 0 (.tmp 2)) ::
 .op (.ld 21 none (.tmp 20)) ::
 .op (.bin 22 .eql (.tmp 21) (.const (.int .i64 0))) ::
 .op (.mov 23 (.tmp 22)) ::
 .sc 23 false 5 ::
 .g 23 false (.fad 24 1 (.tmp 3)) ::
 .g 23 false (.ld 25 none (.tmp 24)) ::
 .g 23 false (.fad 26 0 (.tmp 2)) ::
 .g 23 false (.ld 27 none (.tmp 26)) ::
 .g 23 false (.bin 28 .neq (.tmp 25) (.tmp 27)) ::
 .op (.pick 29 (.tmp 23) (.const (.bool true)) (.tmp 28)) ::
 .kp [29,2,3,4,5,6,7] ::
 f56r5a
def f56r6 : List I := [.op (.fad 30 0 (.tmp 7)),
 .op (.st 1 (.tmp 30) (.const (.int .i64 25))),
 .kp [2,4,5,6,7]]
def f56r7 : List I := [.op (.ld 11 (some 14) (.tmp 3)),
 .op (.call (some 12) 97 [(.tmp 6),(.tmp 11)]),
 .op (.st 11 (.tmp 7) (.tmp 12)),
 .kp [2,4,5,6,7]]
def f56r8 : List I := [.op (.fad 31 0 (.tmp 7)),
 .op (.ld 32 none (.tmp 31)),
 .op (.bin 33 .neq (.tmp 32) (.const (.int .i64 0))),
 .kp [2,4,5,6,7,33]]
def f56r9 : List I := [.op (.ld 34 (some 9) (.tmp 2)),
 .op (.ld 36 (some 11) (.tmp 7)),
 .op (.call (some 35) 95 [(.tmp 34)]),
 .op (.st 9 (.tmp 4) (.tmp 35)),
 .op (.st 11 (.tmp 5) (.tmp 36)),
 .kp [4,5]]
def f56r10 : List I := [.op (.ld 37 (some 9) (.tmp 6)),
 .op (.ld 38 (some 11) (.tmp 7)),
 .op (.st 9 (.tmp 4) (.tmp 37)),
 .op (.st 11 (.tmp 5) (.tmp 38)),
 .kp [4,5]]
def f56c6 : C := (.reg f56r4)
def f56c9 : C := (.reg f56r6)
def f56c10 : C := (.reg f56r7)
def f56c8 : C := (.cond (.tmp 19) f56c9 f56c10)
def f56c7 : C := (.seq (.reg f56r5) f56c8)
def f56c5 : C := (.cond (.tmp 13) f56c6 f56c7)
def f56c4 : C := (.seq (.reg f56r3) f56c5)
def f56c13 : C := (.seq (.drw f56r9) .ret)
def f56c14 : C := (.seq (.drw f56r10) .ret)
def f56c12 : C := (.seq (.cond (.tmp 33) f56c13 .skip) f56c14)
def f56c11 : C := (.seq (.reg f56r8) f56c12)
def f56c3 : C := (.seq (.block 0 f56c4) f56c11)
def f56c2 : C := (.seq (.reg f56r2) f56c3)
def f56c1 : C := (.seq (.reg f56r1) f56c2)
def f56c0 : C := (.seq (.reg f56r0) f56c1)
theorem f56cmp : cmpF Try.prog Try.f56 [.l [.o 0,.o 1,.o 2,.o 3,.kp [2,3,4,5]],
 .l [.o 0,.o 1,.o 2,.o 3,.kp [2,3,4,5,6]],
 .l [.o 0,.o 1,.o 2,.kp [2,3,4,5,6,7]],
 .l [.o 0,.o 1,.o 2,.o 3,.kp [2,3,4,5,6,7,13]],
 .l [.o 0,.o 1,.o 2,.kp [2,4,5,6,7]],
 .l [.o 0,.o 1,.o 2,.o 3,.sc 23 false 5,.o 4,.o 5,.o 6,.o 7,.o 8,.o 9,.kp [29,2,3,4,5,6,7],.o 10,.kp [2,3,4,5,6,7,19]],
 .l [.o 0,.o 1,.kp [2,4,5,6,7]],
 .l [.o 0,.o 1,.o 2,.kp [2,4,5,6,7]],
 .l [.o 0,.o 1,.o 2,.kp [2,4,5,6,7,33]],
 .l [.o 0,.o 2,.o 1,.o 3,.o 4,.kp [4,5]],
 .l [.o 0,.o 1,.o 2,.o 3,.kp [4,5]]] = some (f56c0,[.cell 4 9,.cell 5 11]) := by kernel_rfl
theorem f56ok {args : List Value} {h : Heap} {R : Value → Heap → Prop} (hn : args.length ≤ 39) (H : wC Try.prog f56c0 (endW [.cell 4 9,.cell 5 11] R) (envOf 0 args) h) : CallsH Try.prog 56 args h R :=
 fn_ok2 Try.func56 f56cmp hn H
section
variable {P : Program} {Q : X → Env → Heap → Prop} {σ : Env} {h : Heap}
theorem f56c6_eq : wC P f56c6 Q σ h = (wL P none f56r4 0 (fun σ h => Q .normal σ h) σ h) := rfl
theorem f56c9_eq : wC P f56c9 Q σ h = (wL P none f56r6 0 (fun σ h => Q .normal σ h) σ h) := rfl
theorem f56c10_eq : wC P f56c10 Q σ h = (wL P none f56r7 0 (fun σ h => Q .normal σ h) σ h) := rfl
theorem f56c8_eq : wC P f56c8 Q σ h = (bd (evO σ (.tmp 19)) fun v => bd (asB v) fun t => br t (wC P f56c9 Q σ h) (wC P f56c10 Q σ h)) := rfl
theorem f56c7_eq : wC P f56c7 Q σ h = (wL P none f56r5 0 (fun σ h => wC P f56c8 Q σ h) σ h) := rfl
theorem f56c5_eq : wC P f56c5 Q σ h = (bd (evO σ (.tmp 13)) fun v => bd (asB v) fun t => br t (wC P f56c6 Q σ h) (wC P f56c7 Q σ h)) := rfl
theorem f56c4_eq : wC P f56c4 Q σ h = (wL P none f56r3 0 (fun σ h => wC P f56c5 Q σ h) σ h) := rfl
theorem f56c13_eq : wC P f56c13 Q σ h = (drwW P f56r9 (fun σ h => Q .ret σ h) σ h) := rfl
theorem f56c14_eq : wC P f56c14 Q σ h = (drwW P f56r10 (fun σ h => Q .ret σ h) σ h) := rfl
theorem f56c12_eq : wC P f56c12 Q σ h = (bd (evO σ (.tmp 33)) fun v => bd (asB v) fun t => br t (wC P f56c13 (X.then (fun σ h => wC P f56c14 Q σ h) Q) σ h) (wC P f56c14 Q σ h)) := rfl
theorem f56c11_eq : wC P f56c11 Q σ h = (wL P none f56r8 0 (fun σ h => wC P f56c12 Q σ h) σ h) := rfl
theorem f56c3_eq : wC P f56c3 Q σ h = (wC P f56c4 (X.inBlock 0 (X.then (fun σ h => wC P f56c11 Q σ h) Q)) σ h) := rfl
theorem f56c2_eq : wC P f56c2 Q σ h = (wL P none f56r2 0 (fun σ h => wC P f56c3 Q σ h) σ h) := rfl
theorem f56c1_eq : wC P f56c1 Q σ h = (wL P none f56r1 0 (fun σ h => wC P f56c2 Q σ h) σ h) := rfl
theorem f56c0_eq : wC P f56c0 Q σ h = (wL P none f56r0 0 (fun σ h => wC P f56c1 Q σ h) σ h) := rfl
end
end Go.Proofs.Ytefghfgmkndikaa
namespace Go.AX
open Go
structure Out where
 by_ : Try4
 at_ : Stamp
 yes : Bool
 deriving Inhabited,DecidableEq
def eOut (o : Out) : List Value := [vi o.by_.node,vi o.by_.life,vi o.by_.seq,vi o.by_.attempt,vi o.at_.wall,vi o.at_.tie,.bool o.yes]
theorem eOut_len (o : Out) : (eOut o).length = 7 := rfl
theorem eOut_one (x : Out) : ∀ v ∈ eOut x,v.oneCell' = true := by
 intro v hv; simp only [eOut,List.mem_cons,List.not_mem_nil,or_false] at hv
 rcases hv with rfl | rfl | rfl | rfl | rfl | rfl | rfl <;> rfl
def noOut : Out := ⟨⟨0,0,0,0⟩,⟨0,0⟩,false⟩
/-- A command, but for its lists. -/
structure CmS where
 kind : Int
 epoch : Int
 node : Int
 home : Int
 by_ : Try4
 at_ : Stamp
 wall : Int
 yes : Bool
structure Cmd where
 s : CmS
 spans : List Spn
 writes : List Wri
structure CmV where
 s : CmS
 sa : Option Addr
 sn : Nat
 sc : Nat
 wa : Option Addr
 wn : Nat
 wc : Nat
def eCm (c : CmV) : List Value := [vi c.s.kind,vi c.s.epoch,vi c.s.node,vi c.s.home,vi c.s.by_.node,vi c.s.by_.life,vi c.s.by_.seq,vi c.s.by_.attempt,vi c.s.at_.wall,vi c.s.at_.tie,vi c.s.wall,.bool c.s.yes,.slice c.sa c.sn c.sc,.slice c.wa c.wn c.wc]
theorem eCm_len (c : CmV) : (eCm c).length = 14 := rfl
/-- A reply, but for its list. -/
structure RpS where
 err : Int
 by_ : Try4
 home : Int
 at_ : Stamp
 wall : Int
 yes : Bool
def okS : RpS := ⟨0,⟨0,0,0,0⟩,0,⟨0,0⟩,0,false⟩
structure Rep where
 s : RpS
 pairs : List Pai
structure RpV where
 s : RpS
 pa : Option Addr
 pn : Nat
 pc : Nat
def eRp (r : RpV) : List Value := [vi r.s.err,.slice r.pa r.pn r.pc,vi r.s.by_.node,vi r.s.by_.life,vi r.s.by_.seq,vi r.s.by_.attempt,vi r.s.home,vi r.s.at_.wall,vi r.s.at_.tie,vi r.s.wall,.bool r.s.yes]
theorem eRp_len (r : RpV) : (eRp r).length = 11 := rfl
theorem eRp_one (x : RpV) : ∀ v ∈ eRp x,v.oneCell' = true := by
 intro v hv; simp only [eRp,List.mem_cons,List.not_mem_nil,or_false] at hv
 rcases hv with rfl | rfl | rfl | rfl | rfl | rfl | rfl | rfl | rfl | rfl | rfl <;> rfl
/-- A state, but for its lists. -/
structure PrS where
 epoch : Int
 holder : Int
 floor : Stamp
 closed : Int
 low : Int
structure Prt where
 s : PrS
 cells : List Cell
 records : List Out
 done : List Out
structure PrV where
 s : PrS
 ca : Option Addr
 cn : Nat
 cc : Nat
 ra : Option Addr
 rn : Nat
 rc : Nat
 da : Option Addr
 dn : Nat
 dc : Nat
def ePr (p : PrV) : List Value := [vi p.s.epoch,vi p.s.holder,vi p.s.floor.wall,vi p.s.floor.tie,vi p.s.closed,vi p.s.low,.slice p.ca p.cn p.cc,.slice p.ra p.rn p.rc,.slice p.da p.dn p.dc]
theorem ePr_len (p : PrV) : (ePr p).length = 9 := rfl
theorem ePr_one (x : PrV) : ∀ v ∈ ePr x,v.oneCell' = true := by
 intro v hv; simp only [ePr,List.mem_cons,List.not_mem_nil,or_false] at hv
 rcases hv with rfl | rfl | rfl | rfl | rfl | rfl | rfl | rfl | rfl <;> rfl
theorem eCm_one (x : CmV) : ∀ v ∈ eCm x,v.oneCell' = true := by
 intro v hv; simp only [eCm,List.mem_cons,List.not_mem_nil,or_false] at hv
 rcases hv with rfl | rfl | rfl | rfl | rfl | rfl | rfl | rfl | rfl | rfl | rfl | rfl | rfl | rfl <;> rfl
/-- The command c lies as v. -/
structure CmR (B : Nat → Prop) (h : Heap) (v : CmV) (c : Cmd) : Prop where
 s : v.s = c.s
 sn : v.sn = c.spans.length
 wn : v.wn = c.writes.length
 spans : SlF B h eSpn v.sa c.spans
 writes : SlF B h eWri v.wa c.writes
theorem CmR.ext {B : Nat → Prop} {h h' : Heap} {v : CmV} {c : Cmd} (r : CmR B h v c) (x : Ext h h') : CmR B h' v c := ⟨r.s,r.sn,r.wn,r.spans.ext x,r.writes.ext x⟩
theorem CmR.at_ {B : Nat → Prop} {h h' : Heap} {v : CmV} {c : Cmd} (r : CmR B h v c) (hB : ∀ b,B b → h'[b]? = h[b]?) : CmR B h' v c := ⟨r.s,r.sn,r.wn,r.spans.at_ hB,r.writes.at_ hB⟩
/-- The state p lies as v. -/
structure PrR (B : Nat → Prop) (h : Heap) (v : PrV) (p : Prt) : Prop where
 s : v.s = p.s
 cn : v.cn = p.cells.length
 cc : v.cn ≤ v.cc
 rn : v.rn = p.records.length
 dn : v.dn = p.done.length
 cells : SlC B h v.ca p.cells
 records : SlF B h eOut v.ra p.records
 done : SlF B h eOut v.da p.done
theorem PrR.ext {B : Nat → Prop} {h h' : Heap} {v : PrV} {p : Prt} (r : PrR B h v p) (x : Ext h h') : PrR B h' v p := ⟨r.s,r.cn,r.cc,r.rn,r.dn,r.cells.ext x,r.records.ext x,r.done.ext x⟩
theorem PrR.at_ {B : Nat → Prop} {h h' : Heap} {v : PrV} {p : Prt} (r : PrR B h v p) (hB : ∀ b,B b → h'[b]? = h[b]?) : PrR B h' v p := ⟨r.s,r.cn,r.cc,r.rn,r.dn,r.cells.at_ hB,r.records.at_ hB,r.done.at_ hB⟩
theorem row_out {h : Heap} {b o : Nat} {v : Out} (r : Row h b o (eOut v)) : rd h b o 7 = some (eOut v) ∧ rd h b (o + 0) 4 = some (eTry v.by_) := ⟨r.rd0 7 (Nat.le_refl _),r.rd 0 4 (by rw [eOut_len]; omega)⟩
theorem row_spn {h : Heap} {b o : Nat} {v : Spn} (r : Row h b o (eSpn v)) : rd h b o 2 = some (eSpn v) := r.rd0 2 (Nat.le_refl _)
theorem row_wri {h : Heap} {b o : Nat} {v : Wri} (r : Row h b o (eWri v)) : rd h b o 3 = some (eWri v) ∧ cel h b (o + 0) = some (.string v.key) ∧ cel h b (o + 2) = some (.string v.data) := ⟨r.rd0 3 (Nat.le_refl _),r 0 (by rw [eWri_len]; omega),r 2 (by rw [eWri_len]; omega)⟩
end Go.AX
namespace Go.Proofs.Ytefghfgmkndikaa
open Go Go.AX
def mostEpoch : Int := 1099511627776
def mostWall : Int := 4611686018427387904
def maxI (x y : Int) : Int := if y > x then y else x
def minI (x y : Int) : Int := if y < x then y else x
/-- How an attempt ended. -/
def findO (l : List Out) (by_ : Try4) : Option Out := l.find? fun o => decide (o.by_ = by_)
def errR (e : Int) : Rep := ⟨{ okS with err := e },[]⟩
def lockedR (l : Lck) : Rep := ⟨{ okS with err := 20,by_ := l.by_,home := l.home,at_ := l.at_ },[]⟩
def maxS (a b : Stamp) : Stamp := if Stamp.lt a b then b else a
def cellsIn (p : Prt) (s : Spn) : List Cell := p.cells.filter fun c => inS s c.key
/-- The pairs of spans, so long as they are not too many. -/
def readL (p : Prt) (t : Stamp) : List Spn → List Pai → List Pai × Int
 | [],acc => (acc,0)
 | s :: ss,acc =>
  let r := scanL t (512 - acc.length) (withinL p.cells s) []
  if r.2 = 0 then readL p t ss (acc ++ r.1) else (acc,r.2)
def readP (p : Prt) (c : Cmd) : Prt × Rep :=
 if c.s.at_.wall < p.s.low then (p,⟨{ okS with err := 24,wall := p.s.low },[]⟩)
 else match c.spans.find? fun s => (blocksL c.s.at_ (cellsIn p s)).2 with
 | some s => (p,lockedR (blocksL c.s.at_ (cellsIn p s)).1)
 | none =>
  let r := readL p c.s.at_ c.spans []
  if r.2 = 0 then ({ p with s := { p.s with floor := maxS p.s.floor c.s.at_ } },⟨okS,r.1⟩) else (p,errR r.2)
def lkC (c : Cmd) : Lck := ⟨c.s.by_,c.s.home,c.s.at_,false,noB⟩
def prepP (p : Prt) (c : Cmd) : Prt × Rep :=
 match findO p.done c.s.by_ with
 | some o => (p,⟨{ okS with err := 26,yes := o.yes },[]⟩)
 | none =>
  if mineL p.cells c.s.by_ then (p,⟨okS,[]⟩)
  else if c.s.at_.wall ≤ p.s.closed then (p,⟨{ okS with err := 21,wall := p.s.closed },[]⟩)
  else if Stamp.lt c.s.at_ p.s.floor then (p,⟨{ okS with err := 22,at_ := p.s.floor },[]⟩)
  else match c.writes.find? fun w => (heldK p.cells w.key).2 with
  | some w => (p,lockedR (heldK p.cells w.key).1)
  | none => ({ p with cells := c.writes.foldl (fun cs w => lockL cs w (lkC c)) p.cells },⟨okS,[]⟩)
def outC (c : Cmd) : Out := ⟨c.s.by_,c.s.at_,c.s.yes⟩
def doesP (p : Prt) (c : Cmd) : Prt × Rep :=
 if c.s.kind = 2 then readP p c
 else if c.s.kind = 3 then prepP p c
 else if c.s.kind = 4 then match findO p.records c.s.by_ with
  | some o => (p,⟨{ okS with yes := o.yes,at_ := o.at_ },[]⟩)
  | none => ({ p with records := p.records ++ [outC c] },⟨{ okS with yes := c.s.yes,at_ := c.s.at_ },[]⟩)
 else if c.s.kind = 5 then ({ p with cells := settleL p.cells c.s.by_ c.s.yes,done := match findO p.done c.s.by_ with | some _ => p.done | none => p.done ++ [outC c] },⟨okS,[]⟩)
 else if c.s.kind = 6 then ({ p with s := { p.s with closed := maxI p.s.closed (minI c.s.wall mostWall) } },⟨{ okS with wall := maxI p.s.closed (minI c.s.wall mostWall) },[]⟩)
 else if c.s.kind = 7 then ({ p with s := { p.s with low := maxI p.s.low (minI c.s.wall p.s.closed) },cells := trimL p.cells ⟨maxI p.s.low (minI c.s.wall p.s.closed),0⟩ },⟨{ okS with wall := maxI p.s.low (minI c.s.wall p.s.closed) },[]⟩)
 else (p,errR 9)
def leaseP (p : Prt) (c : Cmd) : Prt × Rep :=
 if p.s.epoch ≥ mostEpoch ∨ c.s.epoch ≠ p.s.epoch + 1 ∨ c.s.epoch > mostEpoch then (p,errR 25)
 else ({ p with s := { p.s with epoch := c.s.epoch,holder := c.s.node } },⟨okS,[]⟩)
/-- A command that is not carried out turns nothing. -/
def applyP (p : Prt) (c : Cmd) : Prt × Rep :=
 let r := if c.s.kind = 1 then leaseP p c else if p.s.epoch = 0 ∨ c.s.epoch ≠ p.s.epoch then (p,errR 25) else doesP p c
 if r.2.s.err = 0 then r else (p,r.2)
end Go.Proofs.Ytefghfgmkndikaa
