/-
  The walks and plain laws under the laws of one package: texts of mine put together, what they do not use left out (wip/tools/prune.py).
-/
import Derived.Test.YtefghfgmkndikaaJ5
set_option linter.unusedSimpArgs false
set_option linter.unusedVariables false
namespace Go.Proofs.Ytefghfgmkndikaa
open Go.AX
set_option maxRecDepth 100000
def f17r0 : List I := [.op (.box 7 94 (.tmp 3)),
  .op (.mov 8 (.const (.bool false))),
  .kp [0, 1, 2, 7]]
def f17r1 : List I := [.op (.call (some 21) 52 []),
  .op (.un 22 .not (.tmp 21)),
  .kp [0, 1, 2, 7, 22]]
def f17r2 : List I := [.op (.mov 8 (.const (.bool false))),
  .kp [8]]
def f17r3a : List I := [.op (.mov 32 (.tmp 31)),
  .sc 32 false 4,
  .g 32 false (.fad 33 1 (.tmp 7)),
  .g 32 false (.ld 34 none (.tmp 33)),
  .g 32 false (.len 35 false (.tmp 34)),
  .g 32 false (.bin 36 .gtr (.tmp 35) (.const (.int .i64 200))),
  .op (.pick 37 (.tmp 32) (.const (.bool true)) (.tmp 36)),
  .kp [37, 0, 1, 2, 7]]
def f17r3 : List I := .op (.mov 23 (.tmp 0)) ::
  .op (.call (some 24) 53 [(.tmp 23), (.const (.int .i64 50))]) ::
  .op (.un 25 .not (.tmp 24)) ::
  .op (.mov 26 (.tmp 25)) ::
  .sc 26 false 4 ::
  .g 26 false (.fad 27 0 (.tmp 7)) ::
  .g 26 false (.ld 28 none (.tmp 27)) ::
  .g 26 false (.len 29 false (.tmp 28)) ::
  .g 26 false (.bin 30 .gtr (.tmp 29) (.const (.int .i64 200))) ::
  .op (.pick 31 (.tmp 26) (.const (.bool true)) (.tmp 30)) ::
  .kp [31, 0, 1, 2, 7] ::
  f17r3a
def f17r4 : List I := [.op (.mov 8 (.const (.bool true))),
  .kp [8]]
def f17r5 : List I := [.op (.mov 38 (.tmp 0)),
  .op (.call (some 39) 65 [(.tmp 38)]),
  .op (.mov 9 (.tmp 39)),
  .kp [0, 1, 2, 7, 9]]
def f17r6 : List I := [.op (.mov 40 (.tmp 1)),
  .op (.mov 41 (.tmp 9)),
  .op (.len 42 true (.tmp 41)),
  .op (.raw (some 43) ⟨(some 43), (.binOp .rem 3 (.tmp 40) (.tmp 42) 3), 3, "law.go:165", #[⟨0, .data⟩, ⟨2, .data⟩], none⟩),
  .op (.mov 44 (.tmp 9)),
  .op (.len 45 true (.tmp 44)),
  .op (.bin 46 .add (.tmp 43) (.tmp 45)),
  .op (.mov 47 (.tmp 9)),
  .op (.len 48 true (.tmp 47)),
  .op (.raw (some 49) ⟨(some 49), (.binOp .rem 3 (.tmp 46) (.tmp 48) 3), 3, "law.go:165", #[⟨6, .data⟩, ⟨8, .data⟩], none⟩),
  .kp [0, 2, 7, 9, 49],
  .op (.mov 1 (.tmp 49)),
  .kp [0, 1, 2, 7, 9]]
def f17r7 : List I := [.op (.mov 50 (.tmp 2)),
  .op (.bld 51 [.int .i64 0, .int .i64 0] [(0, 1, (.tmp 50)), (1, 1, (.const (.int .i64 4611686018427387904)))]),
  .op (.new 10 39 [.int .i64 0, .int .i64 0]),
  .op (.st 2 (.tmp 10) (.tmp 51)),
  .kp [0, 1, 2, 7, 9, 10]]
def f17r8 : L := (.one [.op (.mov 53 (.tmp 9)),
  .op (.mov 54 (.tmp 1)),
  .op (.iad 55 9 (.tmp 53) (.tmp 54)),
  .op (.fad 56 6 (.tmp 55)),
  .op (.ld 57 none (.tmp 56)),
  .op (.ld 58 (some 2) (.tmp 7)),
  .op (.ld 59 (some 2) (.tmp 10))] (.alt (.one [.op (.call (some 60) 67 [(.tmp 57), (.tmp 58), (.tmp 59)]),
  .op (.mov 52 (.tmp 60)),
  .op (.ext 61 (.tmp 52) 0),
  .op (.ext 62 (.tmp 52) 1),
  .op (.new 11 72 [.int .i64 0, .int .i64 0, .int .i64 0, .int .i64 0, .int .i64 0, .int .i64 0, .int .i64 0, .bool false, .string ⟨#[]⟩]),
  .op (.st 9 (.tmp 11) (.tmp 61)),
  .op (.mov 12 (.tmp 62)),
  .kp [0, 1, 2, 7, 9, 10, 12]] .nil) (.one [.op (.new 11 72 [.int .i64 0, .int .i64 0, .int .i64 0, .int .i64 0, .int .i64 0, .int .i64 0, .int .i64 0, .bool false, .string ⟨#[]⟩]),
  .op (.call (some 60) 67 [(.tmp 57), (.tmp 58), (.tmp 59)]),
  .op (.mov 52 (.tmp 60)),
  .op (.ext 61 (.tmp 52) 0),
  .op (.ext 62 (.tmp 52) 1),
  .op (.st 9 (.tmp 11) (.tmp 61)),
  .op (.mov 12 (.tmp 62)),
  .kp [0, 1, 2, 7, 9, 10, 12]] .nil)))
def f17r9b : List I := [.op (.mov 82 (.tmp 81)),
  .sc 82 false 2,
  .g 82 false (.mov 83 (.tmp 0)),
  .g 82 false (.call (some 84) 69 [(.tmp 83)]),
  .op (.pick 85 (.tmp 82) (.const (.bool true)) (.tmp 84)),
  .kp [85, 1, 2, 7, 9, 10]]
def f17r9a : List I := .op (.mov 73 (.tmp 72)) ::
  .sc 73 false 7 ::
  .g 73 false (.mov 74 (.tmp 2)) ::
  .g 73 false (.mov 75 (.tmp 9)) ::
  .g 73 false (.mov 76 (.tmp 1)) ::
  .g 73 false (.iad 77 9 (.tmp 75) (.tmp 76)) ::
  .g 73 false (.fad 78 5 (.tmp 77)) ::
  .g 73 false (.ld 79 none (.tmp 78)) ::
  .g 73 false (.bin 80 .lss (.tmp 74) (.tmp 79)) ::
  .op (.pick 81 (.tmp 73) (.const (.bool true)) (.tmp 80)) ::
  .kp [81, 0, 1, 2, 7, 9, 10] ::
  f17r9b
def f17r9 : List I := .op (.mov 63 (.tmp 12)) ::
  .op (.mov 64 (.tmp 63)) ::
  .sc 64 false 7 ::
  .g 64 false (.mov 65 (.tmp 2)) ::
  .g 64 false (.mov 66 (.tmp 9)) ::
  .g 64 false (.mov 67 (.tmp 1)) ::
  .g 64 false (.iad 68 9 (.tmp 66) (.tmp 67)) ::
  .g 64 false (.fad 69 4 (.tmp 68)) ::
  .g 64 false (.ld 70 none (.tmp 69)) ::
  .g 64 false (.bin 71 .gtr (.tmp 65) (.tmp 70)) ::
  .op (.pick 72 (.tmp 64) (.const (.bool true)) (.tmp 71)) ::
  .kp [72, 0, 1, 2, 7, 9, 10] ::
  f17r9a
def f17r10 : List I := [.op (.mov 8 (.const (.bool true))),
  .kp [8]]
def f17r11 : List I := [.op (.mov 87 (.tmp 9)),
  .op (.mov 88 (.tmp 1)),
  .op (.iad 89 9 (.tmp 87) (.tmp 88)),
  .op (.fad 90 6 (.tmp 89)),
  .op (.ld 91 none (.tmp 90)),
  .op (.ld 92 (some 2) (.tmp 7)),
  .op (.ld 93 (some 2) (.tmp 10)),
  .op (.call (some 94) 68 [(.tmp 91), (.tmp 92), (.tmp 93), (.const (.int .i64 10000))]),
  .op (.mov 86 (.tmp 94)),
  .op (.ext 95 (.tmp 86) 0),
  .kp [1, 2, 7, 9, 10, 86, 95],
  .op (.ext 96 (.tmp 86) 1),
  .op (.mov 13 (.tmp 95)),
  .op (.mov 14 (.tmp 96)),
  .kp [1, 2, 7, 9, 10, 13]]
def f17r12 : List I := [.op (.mov 97 (.tmp 1)),
  .op (.mov 15 (.tmp 97)),
  .kp [2, 7, 9, 10, 13, 15]]
def f17r13 : List I := [.op (.mov 98 (.tmp 15)),
  .op (.mov 99 (.tmp 9)),
  .op (.len 100 true (.tmp 99)),
  .op (.bin 101 .lss (.tmp 98) (.tmp 100)),
  .op (.mov 102 (.tmp 101)),
  .sc 102 true 7,
  .g 102 true (.mov 103 (.tmp 2)),
  .g 102 true (.mov 104 (.tmp 9)),
  .g 102 true (.mov 105 (.tmp 15)),
  .g 102 true (.iad 106 9 (.tmp 104) (.tmp 105)),
  .g 102 true (.fad 107 5 (.tmp 106)),
  .g 102 true (.ld 108 none (.tmp 107)),
  .g 102 true (.bin 109 .geq (.tmp 103) (.tmp 108)),
  .op (.pick 110 (.tmp 102) (.tmp 109) (.const (.bool false))),
  .kp [110, 2, 7, 9, 10, 13, 15]]
def f17r14 : L := (.one [.op (.mov 114 (.tmp 9)),
  .op (.mov 115 (.tmp 15)),
  .op (.iad 116 9 (.tmp 114) (.tmp 115)),
  .op (.fad 117 6 (.tmp 116)),
  .op (.ld 118 none (.tmp 117)),
  .op (.ld 119 (some 2) (.tmp 7)),
  .op (.ld 120 (some 2) (.tmp 10))] (.alt (.one [.op (.call (some 121) 67 [(.tmp 118), (.tmp 119), (.tmp 120)]),
  .op (.mov 113 (.tmp 121)),
  .op (.ext 122 (.tmp 113) 0),
  .op (.ext 123 (.tmp 113) 1),
  .op (.new 16 72 [.int .i64 0, .int .i64 0, .int .i64 0, .int .i64 0, .int .i64 0, .int .i64 0, .int .i64 0, .bool false, .string ⟨#[]⟩]),
  .op (.st 9 (.tmp 16) (.tmp 122)),
  .op (.mov 17 (.tmp 123)),
  .kp [2, 7, 9, 10, 13, 15, 17]] .nil) (.one [.op (.new 16 72 [.int .i64 0, .int .i64 0, .int .i64 0, .int .i64 0, .int .i64 0, .int .i64 0, .int .i64 0, .bool false, .string ⟨#[]⟩]),
  .op (.call (some 121) 67 [(.tmp 118), (.tmp 119), (.tmp 120)]),
  .op (.mov 113 (.tmp 121)),
  .op (.ext 122 (.tmp 113) 0),
  .op (.ext 123 (.tmp 113) 1),
  .op (.st 9 (.tmp 16) (.tmp 122)),
  .op (.mov 17 (.tmp 123)),
  .kp [2, 7, 9, 10, 13, 15, 17]] .nil)))
def f17r15 : List I := [.op (.mov 125 (.tmp 9)),
  .op (.mov 126 (.tmp 15)),
  .op (.iad 127 9 (.tmp 125) (.tmp 126)),
  .op (.fad 128 6 (.tmp 127)),
  .op (.ld 129 none (.tmp 128)),
  .op (.ld 130 (some 2) (.tmp 7)),
  .op (.ld 131 (some 2) (.tmp 10)),
  .op (.call (some 132) 68 [(.tmp 129), (.tmp 130), (.tmp 131), (.const (.int .i64 10000))]),
  .op (.mov 124 (.tmp 132)),
  .op (.ext 133 (.tmp 124) 0),
  .kp [2, 7, 9, 10, 13, 15, 17, 124, 133],
  .op (.ext 134 (.tmp 124) 1),
  .op (.mov 18 (.tmp 133)),
  .op (.mov 19 (.tmp 134)),
  .kp [2, 7, 9, 10, 13, 15, 17, 18]]
def f17r16 : List I := [.op (.mov 135 (.tmp 17)),
  .op (.mov 136 (.tmp 135)),
  .sc 136 false 5,
  .g 136 false (.mov 137 (.tmp 18)),
  .g 136 false (.len 138 true (.tmp 137)),
  .g 136 false (.mov 139 (.tmp 13)),
  .g 136 false (.len 140 true (.tmp 139)),
  .g 136 false (.bin 141 .neq (.tmp 138) (.tmp 140)),
  .op (.pick 142 (.tmp 136) (.const (.bool true)) (.tmp 141)),
  .kp [142, 2, 7, 9, 10, 13, 15, 18]]
def f17r17 : List I := [.op (.mov 8 (.const (.bool false))),
  .kp [8]]
def f17r18 : List I := [.op (.mov 20 (.const (.int .i64 0))),
  .kp [2, 7, 9, 10, 13, 15, 18, 20]]
def f17r19 : List I := [.op (.mov 143 (.tmp 20)),
  .op (.mov 144 (.tmp 18)),
  .op (.len 145 true (.tmp 144)),
  .op (.bin 146 .lss (.tmp 143) (.tmp 145)),
  .kp [2, 7, 9, 10, 13, 15, 18, 20, 146]]
def f17r20 : List I := [.op (.mov 149 (.tmp 18)),
  .op (.mov 150 (.tmp 20)),
  .op (.iad 151 2 (.tmp 149) (.tmp 150)),
  .op (.ld 152 (some 2) (.tmp 151)),
  .op (.mov 153 (.tmp 13)),
  .op (.mov 154 (.tmp 20)),
  .op (.iad 155 2 (.tmp 153) (.tmp 154)),
  .op (.ld 156 (some 2) (.tmp 155)),
  .op (.eqa 157 true [.s, .s] (.tmp 152) (.tmp 156)),
  .kp [2, 7, 9, 10, 13, 15, 18, 20, 157]]
def f17r21 : List I := [.op (.mov 8 (.const (.bool false))),
  .kp [8]]
def f17r22 : List I := [.op (.mov 147 (.tmp 20)),
  .op (.bin 148 .add (.tmp 147) (.const (.int .i64 1))),
  .op (.mov 20 (.tmp 148)),
  .kp [2, 7, 9, 10, 13, 15, 18, 20]]
def f17r23 : List I := [.op (.mov 111 (.tmp 15)),
  .op (.bin 112 .add (.tmp 111) (.const (.int .i64 1))),
  .op (.mov 15 (.tmp 112)),
  .kp [2, 7, 9, 10, 13, 15]]
def f17r24 : List I := [.op (.mov 8 (.const (.bool true))),
  .kp [8]]
def f17c3 : C := (.seq (.reg f17r2) .ret)
def f17c6 : C := (.seq (.reg f17r4) .ret)
def f17c13 : C := (.seq (.reg f17r10) .ret)
def f17c24 : C := (.seq (.reg f17r17) .ret)
def f17c32 : C := (.seq (.reg f17r21) .ret)
def f17c31 : C := (.cond (.tmp 157) f17c32 .skip)
def f17c30 : C := (.seq (.drw f17r20) f17c31)
def f17c33 : C := (.reg f17r22)
def f17c29 : C := (.seq (.block 3 f17c30) f17c33)
def f17c28 : C := (.seq (.cond (.tmp 146) .skip (.exit 2)) f17c29)
def f17c27 : C := (.seq (.reg f17r19) f17c28)
def f17c26 : C := (.block 2 (.loop f17c27))
def f17c25 : C := (.seq (.reg f17r18) f17c26)
def f17c23 : C := (.seq (.cond (.tmp 142) f17c24 .skip) f17c25)
def f17c22 : C := (.seq (.reg f17r16) f17c23)
def f17c21 : C := (.seq (.drw f17r15) f17c22)
def f17c20 : C := (.seq (.drt f17r14) f17c21)
def f17c34 : C := (.reg f17r23)
def f17c19 : C := (.seq (.block 1 f17c20) f17c34)
def f17c18 : C := (.seq (.cond (.tmp 110) .skip (.exit 0)) f17c19)
def f17c17 : C := (.seq (.reg f17r13) f17c18)
def f17c35 : C := (.seq (.reg f17r24) .ret)
def f17c16 : C := (.seq (.block 0 (.loop f17c17)) f17c35)
def f17c15 : C := (.seq (.reg f17r12) f17c16)
def f17c14 : C := (.seq (.drw f17r11) f17c15)
def f17c12 : C := (.seq (.cond (.tmp 85) f17c13 .skip) f17c14)
def f17c11 : C := (.seq (.reg f17r9) f17c12)
def f17c10 : C := (.seq (.drt f17r8) f17c11)
def f17c9 : C := (.seq (.reg f17r7) f17c10)
def f17c8 : C := (.seq (.reg f17r6) f17c9)
def f17c7 : C := (.seq (.reg f17r5) f17c8)
def f17c5 : C := (.seq (.cond (.tmp 37) f17c6 .skip) f17c7)
def f17c4 : C := (.seq (.reg f17r3) f17c5)
def f17c2 : C := (.seq (.cond (.tmp 22) f17c3 .skip) f17c4)
def f17c1 : C := (.seq (.reg f17r1) f17c2)
def f17c0 : C := (.seq (.reg f17r0) f17c1)
theorem f17cmp : cmpF Try.prog Try.f17 [.l [.o 0, .o 1, .kp [0, 1, 2, 7]],
  .l [.o 0, .o 1, .kp [0, 1, 2, 7, 22]],
  .l [.o 0, .kp [8]],
  .l [.o 0, .o 1, .o 2, .o 3, .sc 26 false 4, .o 4, .o 5, .o 6, .o 7, .o 8, .kp [31, 0, 1, 2, 7], .o 9, .sc 32 false 4, .o 10, .o 11, .o 12, .o 13, .o 14, .kp [37, 0, 1, 2, 7]],
  .l [.o 0, .kp [8]],
  .l [.o 0, .o 1, .o 2, .kp [0, 1, 2, 7, 9]],
  .l [.o 0, .o 1, .o 2, .o 3, .o 4, .o 5, .o 6, .o 7, .o 8, .o 9, .kp [0, 2, 7, 9, 49], .o 10, .kp [0, 1, 2, 7, 9]],
  .l [.o 0, .o 1, .o 2, .o 3, .kp [0, 1, 2, 7, 9, 10]],
  .t (.one [.o 0, .o 1, .o 2, .o 3, .o 4, .o 5, .o 6] (.alt (.one [.o 7, .o 8, .o 9, .o 10, .o 11, .o 12, .o 13, .kp [0, 1, 2, 7, 9, 10, 12]] .nil) (.one [.o 11, .o 7, .o 8, .o 9, .o 10, .o 12, .o 13, .kp [0, 1, 2, 7, 9, 10, 12]] .nil))),
  .l [.o 0, .o 1, .sc 64 false 7, .o 2, .o 3, .o 4, .o 5, .o 6, .o 7, .o 8, .o 9, .kp [72, 0, 1, 2, 7, 9, 10], .o 10, .sc 73 false 7, .o 11, .o 12, .o 13, .o 14, .o 15, .o 16, .o 17, .o 18, .kp [81, 0, 1, 2, 7, 9, 10], .o 19, .sc 82 false 2, .o 20, .o 21, .o 22, .kp [85, 1, 2, 7, 9, 10]],
  .l [.o 0, .kp [8]],
  .l [.o 0, .o 1, .o 2, .o 3, .o 4, .o 5, .o 6, .o 7, .o 8, .o 9, .kp [1, 2, 7, 9, 10, 86, 95], .o 10, .o 11, .o 12, .kp [1, 2, 7, 9, 10, 13]],
  .l [.o 0, .o 1, .kp [2, 7, 9, 10, 13, 15]],
  .l [.o 0, .o 1, .o 2, .o 3, .o 4, .sc 102 true 7, .o 5, .o 6, .o 7, .o 8, .o 9, .o 10, .o 11, .o 12, .kp [110, 2, 7, 9, 10, 13, 15]],
  .t (.one [.o 0, .o 1, .o 2, .o 3, .o 4, .o 5, .o 6] (.alt (.one [.o 7, .o 8, .o 9, .o 10, .o 11, .o 12, .o 13, .kp [2, 7, 9, 10, 13, 15, 17]] .nil) (.one [.o 11, .o 7, .o 8, .o 9, .o 10, .o 12, .o 13, .kp [2, 7, 9, 10, 13, 15, 17]] .nil))),
  .l [.o 0, .o 1, .o 2, .o 3, .o 4, .o 5, .o 6, .o 7, .o 8, .o 9, .kp [2, 7, 9, 10, 13, 15, 17, 124, 133], .o 10, .o 11, .o 12, .kp [2, 7, 9, 10, 13, 15, 17, 18]],
  .l [.o 0, .o 1, .sc 136 false 5, .o 2, .o 3, .o 4, .o 5, .o 6, .o 7, .kp [142, 2, 7, 9, 10, 13, 15, 18]],
  .l [.o 0, .kp [8]],
  .l [.o 0, .kp [2, 7, 9, 10, 13, 15, 18, 20]],
  .l [.o 0, .o 1, .o 2, .o 3, .kp [2, 7, 9, 10, 13, 15, 18, 20, 146]],
  .l [.o 0, .o 1, .o 2, .o 3, .o 4, .o 5, .o 6, .o 7, .o 8, .kp [2, 7, 9, 10, 13, 15, 18, 20, 157]],
  .l [.o 0, .kp [8]],
  .l [.o 0, .o 1, .o 2, .kp [2, 7, 9, 10, 13, 15, 18, 20]],
  .l [.o 0, .o 1, .o 2, .kp [2, 7, 9, 10, 13, 15]],
  .l [.o 0, .kp [8]]] = some (f17c0, [.tmp 8]) := by kernel_rfl
theorem f17ok {args : List Value} {h : Heap} {R : Value → Heap → Prop} (hn : args.length ≤ 158) (H : wC Try.prog f17c0 (endW [.tmp 8] R) (envOf 0 args) h) : CallsH Try.prog 17 args h R :=
  fn_ok2 Try.func17 f17cmp hn H
section
variable {Q : X → Env → Heap → Prop} {σ : Env} {h : Heap}
theorem f17c6_eq : wC Try.prog f17c6 Q σ h = (wL Try.prog none f17r4 0 (fun σ h => Q .ret σ h) σ h) := rfl
theorem f17c13_eq : wC Try.prog f17c13 Q σ h = (wL Try.prog none f17r10 0 (fun σ h => Q .ret σ h) σ h) := rfl
theorem f17c31_eq : wC Try.prog f17c31 Q σ h = (bd (evO σ (.tmp 157)) fun v => bd (asB v) fun t => br t (wC Try.prog f17c32 Q σ h) (Q .normal σ h)) := rfl
theorem f17c30_eq : wC Try.prog f17c30 Q σ h = (drwW Try.prog f17r20 (fun σ h => wC Try.prog f17c31 Q σ h) σ h) := rfl
theorem f17c33_eq : wC Try.prog f17c33 Q σ h = (wL Try.prog none f17r22 0 (fun σ h => Q .normal σ h) σ h) := rfl
theorem f17c29_eq : wC Try.prog f17c29 Q σ h = (wC Try.prog f17c30 (X.inBlock 3 (X.then (fun σ h => wC Try.prog f17c33 Q σ h) Q)) σ h) := rfl
theorem f17c28_eq : wC Try.prog f17c28 Q σ h = (bd (evO σ (.tmp 146)) fun v => bd (asB v) fun t => br t (wC Try.prog f17c29 Q σ h) (Q (.exit 2) σ h)) := rfl
theorem f17c27_eq : wC Try.prog f17c27 Q σ h = (wL Try.prog none f17r19 0 (fun σ h => wC Try.prog f17c28 Q σ h) σ h) := rfl
theorem f17c26_eq : wC Try.prog f17c26 Q σ h = (loopW (wC Try.prog f17c27) (X.inBlock 2 Q) σ h) := rfl
theorem f17c25_eq : wC Try.prog f17c25 Q σ h = (wL Try.prog none f17r18 0 (fun σ h => wC Try.prog f17c26 Q σ h) σ h) := rfl
theorem f17c23_eq : wC Try.prog f17c23 Q σ h = (bd (evO σ (.tmp 142)) fun v => bd (asB v) fun t => br t (wC Try.prog f17c24 (X.then (fun σ h => wC Try.prog f17c25 Q σ h) Q) σ h) (wC Try.prog f17c25 Q σ h)) := rfl
theorem f17c22_eq : wC Try.prog f17c22 Q σ h = (wL Try.prog none f17r16 0 (fun σ h => wC Try.prog f17c23 Q σ h) σ h) := rfl
theorem f17c21_eq : wC Try.prog f17c21 Q σ h = (drwW Try.prog f17r15 (fun σ h => wC Try.prog f17c22 Q σ h) σ h) := rfl
theorem f17c20_eq : wC Try.prog f17c20 Q σ h = (drtW Try.prog f17r14 (fun σ h => wC Try.prog f17c21 Q σ h) σ h) := rfl
theorem f17c34_eq : wC Try.prog f17c34 Q σ h = (wL Try.prog none f17r23 0 (fun σ h => Q .normal σ h) σ h) := rfl
theorem f17c19_eq : wC Try.prog f17c19 Q σ h = (wC Try.prog f17c20 (X.inBlock 1 (X.then (fun σ h => wC Try.prog f17c34 Q σ h) Q)) σ h) := rfl
theorem f17c18_eq : wC Try.prog f17c18 Q σ h = (bd (evO σ (.tmp 110)) fun v => bd (asB v) fun t => br t (wC Try.prog f17c19 Q σ h) (Q (.exit 0) σ h)) := rfl
theorem f17c17_eq : wC Try.prog f17c17 Q σ h = (wL Try.prog none f17r13 0 (fun σ h => wC Try.prog f17c18 Q σ h) σ h) := rfl
theorem f17c35_eq : wC Try.prog f17c35 Q σ h = (wL Try.prog none f17r24 0 (fun σ h => Q .ret σ h) σ h) := rfl
theorem f17c16_eq : wC Try.prog f17c16 Q σ h = (loopW (wC Try.prog f17c17) (X.inBlock 0 (X.then (fun σ h => wC Try.prog f17c35 Q σ h) Q)) σ h) := rfl
theorem f17c15_eq : wC Try.prog f17c15 Q σ h = (wL Try.prog none f17r12 0 (fun σ h => wC Try.prog f17c16 Q σ h) σ h) := rfl
theorem f17c14_eq : wC Try.prog f17c14 Q σ h = (drwW Try.prog f17r11 (fun σ h => wC Try.prog f17c15 Q σ h) σ h) := rfl
theorem f17c12_eq : wC Try.prog f17c12 Q σ h = (bd (evO σ (.tmp 85)) fun v => bd (asB v) fun t => br t (wC Try.prog f17c13 (X.then (fun σ h => wC Try.prog f17c14 Q σ h) Q) σ h) (wC Try.prog f17c14 Q σ h)) := rfl
theorem f17c11_eq : wC Try.prog f17c11 Q σ h = (wL Try.prog none f17r9 0 (fun σ h => wC Try.prog f17c12 Q σ h) σ h) := rfl
theorem f17c10_eq : wC Try.prog f17c10 Q σ h = (drtW Try.prog f17r8 (fun σ h => wC Try.prog f17c11 Q σ h) σ h) := rfl
theorem f17c9_eq : wC Try.prog f17c9 Q σ h = (wL Try.prog none f17r7 0 (fun σ h => wC Try.prog f17c10 Q σ h) σ h) := rfl
theorem f17c8_eq : wC Try.prog f17c8 Q σ h = (wL Try.prog none f17r6 0 (fun σ h => wC Try.prog f17c9 Q σ h) σ h) := rfl
theorem f17c7_eq : wC Try.prog f17c7 Q σ h = (wL Try.prog none f17r5 0 (fun σ h => wC Try.prog f17c8 Q σ h) σ h) := rfl
theorem f17c5_eq : wC Try.prog f17c5 Q σ h = (bd (evO σ (.tmp 37)) fun v => bd (asB v) fun t => br t (wC Try.prog f17c6 (X.then (fun σ h => wC Try.prog f17c7 Q σ h) Q) σ h) (wC Try.prog f17c7 Q σ h)) := rfl
theorem f17c4_eq : wC Try.prog f17c4 Q σ h = (wL Try.prog none f17r3 0 (fun σ h => wC Try.prog f17c5 Q σ h) σ h) := rfl
theorem f17c2_eq : wC Try.prog f17c2 Q σ h = (bd (evO σ (.tmp 22)) fun v => bd (asB v) fun t => br t (wC Try.prog f17c3 (X.then (fun σ h => wC Try.prog f17c4 Q σ h) Q) σ h) (wC Try.prog f17c4 Q σ h)) := rfl
theorem f17c1_eq : wC Try.prog f17c1 Q σ h = (wL Try.prog none f17r1 0 (fun σ h => wC Try.prog f17c2 Q σ h) σ h) := rfl
theorem f17c0_eq : wC Try.prog f17c0 Q σ h = (wL Try.prog none f17r0 0 (fun σ h => wC Try.prog f17c1 Q σ h) σ h) := rfl
end
end Go.Proofs.Ytefghfgmkndikaa
namespace Go.AX
open Go
theorem row_pr2 {h : Heap} {b o : Nat} {v : PrV} (r : Row h b o (ePr v)) : cel h b (o + 4) = some (vi v.s.closed) ∧ cel h b (o + 5) = some (vi v.s.low) ∧ cel h b (o + 6) = some (.slice v.ca v.cn v.cc) :=
  ⟨r 4 (by rw [ePr_len]; omega), r 5 (by rw [ePr_len]; omega), r 6 (by rw [ePr_len]; omega)⟩
end Go.AX
namespace Go.Proofs.Ytefghfgmkndikaa
open Go Go.AX
set_option maxHeartbeats 4000000 in
theorem closes_ok {B : Nat → Prop} {a : Option Addr} {n : Nat} (l : List Cmd) (at_ wall : Int) (s : Spn) (h : Heap) (S : SlM B h a l) (F : LenM l) {R : Value → Heap → Prop}
    (hR : ∀ h', Ext h h' → R (.bool true) h') : CallsH Try.prog 17 [.slice a l.length n, vi at_, vi wall, .agg (eSpn s).toArray] h R := by
  have hbig : big = 1000000 := rfl
  refine f17ok (by simp) ?_
  (try simp (config := { maxSteps := 1000000 }) (disch := first | exact Nat.le_of_ble_eq_true rfl | omega) only [AXS, AXB, J.dst, reduceIte, Nat.reduceEqDiff, Nat.reduceAdd, Nat.reduceMul, Nat.reduceLT, Nat.reduceLeDiff]); rw [f17c0_eq]; (try simp (config := { maxSteps := 1000000 }) (disch := first | exact Nat.le_of_ble_eq_true rfl | omega) only [AXS, AXB, J.dst, reduceIte, Nat.reduceEqDiff, Nat.reduceAdd, Nat.reduceMul, Nat.reduceLT, Nat.reduceLeDiff, f17r0])
  refine wL_boxN rfl ?_; rintro b7 h1 x1 s1 hb7 (B7 : Blk _ _ _ (eSpn s))
  (try simp (config := { maxSteps := 1000000 }) (disch := first | exact Nat.le_of_ble_eq_true rfl | omega) only [AXS, AXB, J.dst, reduceIte, Nat.reduceEqDiff, Nat.reduceAdd, Nat.reduceMul, Nat.reduceLT, Nat.reduceLeDiff]); rw [f17c1_eq]; (try simp (config := { maxSteps := 1000000 }) (disch := first | exact Nat.le_of_ble_eq_true rfl | omega) only [AXS, AXB, J.dst, reduceIte, Nat.reduceEqDiff, Nat.reduceAdd, Nat.reduceMul, Nat.reduceLT, Nat.reduceLeDiff, f17r1])
  refine begunP_ok _ ?_
  intro h2 x2
  refine ⟨trivial, ?_⟩
  replace B7 := B7.ext x2
  have x02 := x1.trans x2
  (try simp (config := { maxSteps := 1000000 }) (disch := first | exact Nat.le_of_ble_eq_true rfl | omega) only [AXS, AXB, J.dst, reduceIte, Nat.reduceEqDiff, Nat.reduceAdd, Nat.reduceMul, Nat.reduceLT, Nat.reduceLeDiff]); rw [f17c2_eq]; (try simp (config := { maxSteps := 1000000 }) (disch := first | exact Nat.le_of_ble_eq_true rfl | omega) only [AXS, AXB, J.dst, reduceIte, Nat.reduceEqDiff, Nat.reduceAdd, Nat.reduceMul, Nat.reduceLT, Nat.reduceLeDiff])
  rw [f17c4_eq]
  simp (config := { maxSteps := 1000000 }) (disch := first | exact Nat.le_of_ble_eq_true rfl | omega) only [AXJ, AXS, AXB, J.dst, reduceIte, Nat.reduceEqDiff, Nat.reduceAdd, Nat.reduceMul, Nat.reduceLT, Nat.reduceLeDiff, f17r3]
  refine lightP_ok l 50 _ (S.ext x02) F ?_
  intro bl h3 hbl x3
  refine ⟨trivial, ?_⟩
  replace B7 := B7.ext x3
  have x03 := x02.trans x3
  simp (config := { maxSteps := 1000000 }) (disch := first | exact Nat.le_of_ble_eq_true rfl | omega) only [AXJ, AXS, AXB, J.dst, reduceIte, Nat.reduceEqDiff, Nat.reduceAdd, Nat.reduceMul, Nat.reduceLT, Nat.reduceLeDiff, B7.cel, eSpn]
  simp (config := { maxSteps := 1000000 }) (disch := first | exact Nat.le_of_ble_eq_true rfl | omega) only [AXJ, AXS, AXB, J.dst, reduceIte, Nat.reduceEqDiff, Nat.reduceAdd, Nat.reduceMul, Nat.reduceLT, Nat.reduceLeDiff, f17r3a, B7.cel, eSpn]
  (try simp (config := { maxSteps := 1000000 }) (disch := first | exact Nat.le_of_ble_eq_true rfl | omega) only [AXS, AXB, J.dst, reduceIte, Nat.reduceEqDiff, Nat.reduceAdd, Nat.reduceMul, Nat.reduceLT, Nat.reduceLeDiff]); rw [f17c5_eq]; (try simp (config := { maxSteps := 1000000 }) (disch := first | exact Nat.le_of_ble_eq_true rfl | omega) only [AXS, AXB, J.dst, reduceIte, Nat.reduceEqDiff, Nat.reduceAdd, Nat.reduceMul, Nat.reduceLT, Nat.reduceLeDiff])
  refine ⟨fun hh => ?_, fun hh => ?_⟩
  · (try simp (config := { maxSteps := 1000000 }) (disch := first | exact Nat.le_of_ble_eq_true rfl | omega) only [AXS, AXB, J.dst, reduceIte, Nat.reduceEqDiff, Nat.reduceAdd, Nat.reduceMul, Nat.reduceLT, Nat.reduceLeDiff]); rw [f17c6_eq]; (try simp (config := { maxSteps := 1000000 }) (disch := first | exact Nat.le_of_ble_eq_true rfl | omega) only [AXS, AXB, J.dst, reduceIte, Nat.reduceEqDiff, Nat.reduceAdd, Nat.reduceMul, Nat.reduceLT, Nat.reduceLeDiff, f17r4])
    exact hR _ x03
  have hbt : bl = true := by
    cases bl with
    | true => rfl
    | false => simp at hh
  obtain ⟨hL, hF⟩ := hbl hbt
  clear hh hbl
  (try simp (config := { maxSteps := 1000000 }) (disch := first | exact Nat.le_of_ble_eq_true rfl | omega) only [AXS, AXB, J.dst, reduceIte, Nat.reduceEqDiff, Nat.reduceAdd, Nat.reduceMul, Nat.reduceLT, Nat.reduceLeDiff]); rw [f17c7_eq]; (try simp (config := { maxSteps := 1000000 }) (disch := first | exact Nat.le_of_ble_eq_true rfl | omega) only [AXS, AXB, J.dst, reduceIte, Nat.reduceEqDiff, Nat.reduceAdd, Nat.reduceMul, Nat.reduceLT, Nat.reduceLeDiff, f17r5])
  refine run_ok l _ (S.ext x03) hF (by omega) ?_
  intro ao co h4 O x4
  refine ⟨trivial, ?_⟩
  replace B7 := B7.ext x4
  have x04 := x03.trans x4
  obtain ⟨i0, i1, i2, i3⟩ := mod_idx at_ (n := l.length + 1) (by omega)
  (try simp (config := { maxSteps := 1000000 }) (disch := first | exact Nat.le_of_ble_eq_true rfl | omega) only [AXS, AXB, J.dst, reduceIte, Nat.reduceEqDiff, Nat.reduceAdd, Nat.reduceMul, Nat.reduceLT, Nat.reduceLeDiff]); rw [f17c8_eq]; (try simp (config := { maxSteps := 1000000 }) (disch := first | exact Nat.le_of_ble_eq_true rfl | omega) only [AXS, AXB, J.dst, reduceIte, Nat.reduceEqDiff, Nat.reduceAdd, Nat.reduceMul, Nat.reduceLT, Nat.reduceLeDiff, f17r6])
  rw [wL_raw]
  refine raw_rem rfl rfl rfl (by omega) ?_
  refine ⟨trivial, ?_⟩
  simp (config := { maxSteps := 1000000 }) (disch := first | exact Nat.le_of_ble_eq_true rfl | omega) only [AXS, AXB, J.dst, reduceIte, Nat.reduceEqDiff, Nat.reduceAdd, Nat.reduceMul, Nat.reduceLT, Nat.reduceLeDiff]
  rw [i64_wrap (by omega) (by omega), wL_raw]
  refine raw_rem rfl rfl rfl (by omega) ?_
  refine ⟨trivial, ?_⟩
  obtain ⟨k0, hk0⟩ : ∃ k0 : Nat, (at_.tmod ((l.length + 1 : Nat) : Int) + ((l.length + 1 : Nat) : Int)).tmod ((l.length + 1 : Nat) : Int) = (k0 : Int) := ⟨_, (Int.toNat_of_nonneg i0).symm⟩
  rw [hk0] at i1 ⊢
  clear hk0 i0 i2 i3
  have hk0 : k0 ≤ l.length := by omega
  have l7 := B7.lt
  (try simp (config := { maxSteps := 1000000 }) (disch := first | exact Nat.le_of_ble_eq_true rfl | omega) only [AXS, AXB, J.dst, reduceIte, Nat.reduceEqDiff, Nat.reduceAdd, Nat.reduceMul, Nat.reduceLT, Nat.reduceLeDiff]); rw [f17c9_eq]; (try simp (config := { maxSteps := 1000000 }) (disch := first | exact Nat.le_of_ble_eq_true rfl | omega) only [AXS, AXB, J.dst, reduceIte, Nat.reduceEqDiff, Nat.reduceAdd, Nat.reduceMul, Nat.reduceLT, Nat.reduceLeDiff, f17r7])
  refine wL_newN ?_; rintro b10 h5 x5 s5 hb10 B10
  replace B7 := B7.ext x5
  try simp (config := { maxSteps := 1000000 }) (disch := first | exact Nat.le_of_ble_eq_true rfl | omega) only [AXS, AXB, J.dst, reduceIte, Nat.reduceEqDiff, Nat.reduceAdd, Nat.reduceMul, Nat.reduceLT, Nat.reduceLeDiff]
  refine wL_stN rfl rfl rfl B10 (by decide) (eStamp_one ⟨wall, 4611686018427387904⟩) ?_
  rintro h6 u6 (B10 : Blk _ _ _ (eStamp ⟨wall, 4611686018427387904⟩))
  generalize ht : (⟨wall, 4611686018427387904⟩ : Stamp) = t at *
  have htw : t.wall = wall := by rw [← ht]
  have ht0 : 0 ≤ t.tie := by rw [← ht]; show (0 : Int) ≤ 4611686018427387904; decide
  replace B7 := u6.blk B7 (by omega)
  have x46 := u6.ext x5 (by omega)
  have x06 := x04.trans x46
  have O6 := O.ext x46
  obtain ⟨ba, oa, va, hao, hrowa, hpa⟩ := O6.elem (allP_at hk0)
  subst hao
  have g0 := runs_good hF k0 hk0
  have la := hrowa.lt (by rw [ePr_len]; omega)
  have l10 := B10.lt
  replace l7 := B7.lt
  have hva := hpa.s
  try simp (config := { maxSteps := 1000000 }) (disch := first | exact Nat.le_of_ble_eq_true rfl | omega) only [AXS, AXB, J.dst, reduceIte, Nat.reduceEqDiff, Nat.reduceAdd, Nat.reduceMul, Nat.reduceLT, Nat.reduceLeDiff]
  rw [f17c10_eq]
  refine drt_lt ?_
  simp only [f17r8, wT_one, wT_alt, wT_nil]
  simp (config := { maxSteps := 1000000 }) (disch := first | exact Nat.le_of_ble_eq_true rfl | omega) only [AXS, AXB, J.dst, reduceIte, Nat.reduceEqDiff, Nat.reduceAdd, Nat.reduceMul, Nat.reduceLT, Nat.reduceLeDiff, row_pr2 hrowa, B7.rd, eSpn, B10.rd, eStamp, hpa.cn]
  generalize hp0 : runP (l.take k0) = p0 at *
  have app : ∀ h7, Ext h6 h7 → wC Try.prog f17c11 (endW [.tmp 8] R) [(0, .slice a l.length n), (1, vi k0), (2, vi wall), (7, ptr b7 0), (9, .slice (some ⟨ba, oa, none⟩) (l.length + 1) co), (10, ptr b10 0), (12, .bool (blocksL t (p0.cells.filter fun c => inS s c.key)).2)] h7 := by
    intro h7 x7
    replace B7 := B7.ext x7; replace B10 := B10.ext x7; replace hrowa := hrowa.ext x7; replace hpa := hpa.ext x7; replace O6 := O6.ext x7
    have x07 := x06.trans x7
    have hdone : wC Try.prog f17c13 (endW [.tmp 8] R) [(85, .bool true), (1, vi k0), (2, vi wall), (7, ptr b7 0), (9, .slice (some ⟨ba, oa, none⟩) (l.length + 1) co), (10, ptr b10 0)] h7 := by
      (try simp (config := { maxSteps := 1000000 }) (disch := first | exact Nat.le_of_ble_eq_true rfl | omega) only [AXS, AXB, J.dst, reduceIte, Nat.reduceEqDiff, Nat.reduceAdd, Nat.reduceMul, Nat.reduceLT, Nat.reduceLeDiff]); rw [f17c13_eq]; (try simp (config := { maxSteps := 1000000 }) (disch := first | exact Nat.le_of_ble_eq_true rfl | omega) only [AXS, AXB, J.dst, reduceIte, Nat.reduceEqDiff, Nat.reduceAdd, Nat.reduceMul, Nat.reduceLT, Nat.reduceLeDiff, f17r10])
      exact hR _ x07
    rw [f17c11_eq]
    cases hbb : (blocksL t (p0.cells.filter fun c => inS s c.key)).2 with
    | true =>
      simp (config := { maxSteps := 1000000 }) (disch := first | exact Nat.le_of_ble_eq_true rfl | omega) only [AXJ, AXS, AXB, J.dst, reduceIte, Nat.reduceEqDiff, Nat.reduceAdd, Nat.reduceMul, Nat.reduceLT, Nat.reduceLeDiff, ↓br_TT, ↓br_TF, ↓br_FT, ↓br_FF, f17r9]
      simp (config := { maxSteps := 1000000 }) (disch := first | exact Nat.le_of_ble_eq_true rfl | omega) only [AXJ, AXS, AXB, J.dst, reduceIte, Nat.reduceEqDiff, Nat.reduceAdd, Nat.reduceMul, Nat.reduceLT, Nat.reduceLeDiff, ↓br_TT, ↓br_TF, ↓br_FT, ↓br_FF, f17r9a]
      simp (config := { maxSteps := 1000000 }) (disch := first | exact Nat.le_of_ble_eq_true rfl | omega) only [AXJ, AXS, AXB, J.dst, reduceIte, Nat.reduceEqDiff, Nat.reduceAdd, Nat.reduceMul, Nat.reduceLT, Nat.reduceLeDiff, ↓br_TT, ↓br_TF, ↓br_FT, ↓br_FF, f17r9b]
      repeat (with_reducible refine And.intro (by intros; omega) ?_)
      rw [f17c12_eq]
      simp (config := { maxSteps := 1000000 }) (disch := first | exact Nat.le_of_ble_eq_true rfl | omega) only [AXS, AXB, J.dst, reduceIte, Nat.reduceEqDiff, Nat.reduceAdd, Nat.reduceMul, Nat.reduceLT, Nat.reduceLeDiff]
      (try simp (config := { maxSteps := 1000000 }) (disch := first | exact Nat.le_of_ble_eq_true rfl | omega) only [AXS, AXB, J.dst, reduceIte, Nat.reduceEqDiff, Nat.reduceAdd, Nat.reduceMul, Nat.reduceLT, Nat.reduceLeDiff]); rw [f17c13_eq]; (try simp (config := { maxSteps := 1000000 }) (disch := first | exact Nat.le_of_ble_eq_true rfl | omega) only [AXS, AXB, J.dst, reduceIte, Nat.reduceEqDiff, Nat.reduceAdd, Nat.reduceMul, Nat.reduceLT, Nat.reduceLeDiff, f17r10])
      exact hR _ x07
    | false =>
    cases hcc : decide (wall > p0.s.closed) with
    | true =>
      simp (config := { maxSteps := 1000000 }) (disch := first | exact Nat.le_of_ble_eq_true rfl | omega) only [AXJ, AXS, AXB, J.dst, reduceIte, Nat.reduceEqDiff, Nat.reduceAdd, Nat.reduceMul, Nat.reduceLT, Nat.reduceLeDiff, ↓br_TT, ↓br_TF, ↓br_FT, ↓br_FF, f17r9, row_pr2 hrowa, hva, hcc]
      repeat (with_reducible refine And.intro (by intros; omega) ?_)
      simp (config := { maxSteps := 1000000 }) (disch := first | exact Nat.le_of_ble_eq_true rfl | omega) only [AXJ, AXS, AXB, J.dst, reduceIte, Nat.reduceEqDiff, Nat.reduceAdd, Nat.reduceMul, Nat.reduceLT, Nat.reduceLeDiff, ↓br_TT, ↓br_TF, ↓br_FT, ↓br_FF, f17r9a]
      simp (config := { maxSteps := 1000000 }) (disch := first | exact Nat.le_of_ble_eq_true rfl | omega) only [AXJ, AXS, AXB, J.dst, reduceIte, Nat.reduceEqDiff, Nat.reduceAdd, Nat.reduceMul, Nat.reduceLT, Nat.reduceLeDiff, ↓br_TT, ↓br_TF, ↓br_FT, ↓br_FF, f17r9b]
      repeat (with_reducible refine And.intro (by intros; omega) ?_)
      rw [f17c12_eq]
      simp (config := { maxSteps := 1000000 }) (disch := first | exact Nat.le_of_ble_eq_true rfl | omega) only [AXS, AXB, J.dst, reduceIte, Nat.reduceEqDiff, Nat.reduceAdd, Nat.reduceMul, Nat.reduceLT, Nat.reduceLeDiff]
      (try simp (config := { maxSteps := 1000000 }) (disch := first | exact Nat.le_of_ble_eq_true rfl | omega) only [AXS, AXB, J.dst, reduceIte, Nat.reduceEqDiff, Nat.reduceAdd, Nat.reduceMul, Nat.reduceLT, Nat.reduceLeDiff]); rw [f17c13_eq]; (try simp (config := { maxSteps := 1000000 }) (disch := first | exact Nat.le_of_ble_eq_true rfl | omega) only [AXS, AXB, J.dst, reduceIte, Nat.reduceEqDiff, Nat.reduceAdd, Nat.reduceMul, Nat.reduceLT, Nat.reduceLeDiff, f17r10])
      exact hR _ x07
    | false =>
    cases hcl : decide (wall < p0.s.low) with
    | true =>
      simp (config := { maxSteps := 1000000 }) (disch := first | exact Nat.le_of_ble_eq_true rfl | omega) only [AXJ, AXS, AXB, J.dst, reduceIte, Nat.reduceEqDiff, Nat.reduceAdd, Nat.reduceMul, Nat.reduceLT, Nat.reduceLeDiff, ↓br_TT, ↓br_TF, ↓br_FT, ↓br_FF, f17r9, row_pr2 hrowa, hva, hcc]
      repeat (with_reducible refine And.intro (by intros; omega) ?_)
      simp (config := { maxSteps := 1000000 }) (disch := first | exact Nat.le_of_ble_eq_true rfl | omega) only [AXJ, AXS, AXB, J.dst, reduceIte, Nat.reduceEqDiff, Nat.reduceAdd, Nat.reduceMul, Nat.reduceLT, Nat.reduceLeDiff, ↓br_TT, ↓br_TF, ↓br_FT, ↓br_FF, f17r9a, row_pr2 hrowa, hva, hcl]
      repeat (with_reducible refine And.intro (by intros; omega) ?_)
      simp (config := { maxSteps := 1000000 }) (disch := first | exact Nat.le_of_ble_eq_true rfl | omega) only [AXJ, AXS, AXB, J.dst, reduceIte, Nat.reduceEqDiff, Nat.reduceAdd, Nat.reduceMul, Nat.reduceLT, Nat.reduceLeDiff, ↓br_TT, ↓br_TF, ↓br_FT, ↓br_FF, f17r9b]
      repeat (with_reducible refine And.intro (by intros; omega) ?_)
      rw [f17c12_eq]
      simp (config := { maxSteps := 1000000 }) (disch := first | exact Nat.le_of_ble_eq_true rfl | omega) only [AXS, AXB, J.dst, reduceIte, Nat.reduceEqDiff, Nat.reduceAdd, Nat.reduceMul, Nat.reduceLT, Nat.reduceLeDiff]
      (try simp (config := { maxSteps := 1000000 }) (disch := first | exact Nat.le_of_ble_eq_true rfl | omega) only [AXS, AXB, J.dst, reduceIte, Nat.reduceEqDiff, Nat.reduceAdd, Nat.reduceMul, Nat.reduceLT, Nat.reduceLeDiff]); rw [f17c13_eq]; (try simp (config := { maxSteps := 1000000 }) (disch := first | exact Nat.le_of_ble_eq_true rfl | omega) only [AXS, AXB, J.dst, reduceIte, Nat.reduceEqDiff, Nat.reduceAdd, Nat.reduceMul, Nat.reduceLT, Nat.reduceLeDiff, f17r10])
      exact hR _ x07
    | false =>
    simp (config := { maxSteps := 1000000 }) (disch := first | exact Nat.le_of_ble_eq_true rfl | omega) only [AXJ, AXS, AXB, J.dst, reduceIte, Nat.reduceEqDiff, Nat.reduceAdd, Nat.reduceMul, Nat.reduceLT, Nat.reduceLeDiff, ↓br_TT, ↓br_TF, ↓br_FT, ↓br_FF, f17r9, row_pr2 hrowa, hva, hcc]
    repeat (with_reducible refine And.intro (by intros; omega) ?_)
    simp (config := { maxSteps := 1000000 }) (disch := first | exact Nat.le_of_ble_eq_true rfl | omega) only [AXJ, AXS, AXB, J.dst, reduceIte, Nat.reduceEqDiff, Nat.reduceAdd, Nat.reduceMul, Nat.reduceLT, Nat.reduceLeDiff, ↓br_TT, ↓br_TF, ↓br_FT, ↓br_FF, f17r9a, row_pr2 hrowa, hva, hcl]
    repeat (with_reducible refine And.intro (by intros; omega) ?_)
    simp (config := { maxSteps := 1000000 }) (disch := first | exact Nat.le_of_ble_eq_true rfl | omega) only [AXJ, AXS, AXB, J.dst, reduceIte, Nat.reduceEqDiff, Nat.reduceAdd, Nat.reduceMul, Nat.reduceLT, Nat.reduceLeDiff, ↓br_TT, ↓br_TF, ↓br_FT, ↓br_FF, f17r9b]
    refine ties_ok l _ (S.ext x07) (by omega) ?_
    intro bt
    refine ⟨trivial, ?_⟩
    simp (config := { maxSteps := 1000000 }) (disch := first | exact Nat.le_of_ble_eq_true rfl | omega) only [AXJ, AXS, AXB, J.dst, reduceIte, Nat.reduceEqDiff, Nat.reduceAdd, Nat.reduceMul, Nat.reduceLT, Nat.reduceLeDiff]
    rw [f17c12_eq]
    simp (config := { maxSteps := 1000000 }) (disch := first | exact Nat.le_of_ble_eq_true rfl | omega) only [AXS, AXB, J.dst, reduceIte, Nat.reduceEqDiff, Nat.reduceAdd, Nat.reduceMul, Nat.reduceLT, Nat.reduceLeDiff]
    refine ⟨fun q1 => ?_, fun q1 => ?_⟩
    · (try simp (config := { maxSteps := 1000000 }) (disch := first | exact Nat.le_of_ble_eq_true rfl | omega) only [AXS, AXB, J.dst, reduceIte, Nat.reduceEqDiff, Nat.reduceAdd, Nat.reduceMul, Nat.reduceLT, Nat.reduceLeDiff]); rw [f17c13_eq]; (try simp (config := { maxSteps := 1000000 }) (disch := first | exact Nat.le_of_ble_eq_true rfl | omega) only [AXS, AXB, J.dst, reduceIte, Nat.reduceEqDiff, Nat.reduceAdd, Nat.reduceMul, Nat.reduceLT, Nat.reduceLeDiff, f17r10])
      exact hR _ x07
    clear hdone
    have hcw : t.wall ≤ p0.s.closed := by have := of_decide_eq_false hcc; omega
    have hlw : p0.s.low ≤ wall := by have := of_decide_eq_false hcl; omega
    have k7 := B7.lt
    have k10 := B10.lt
    have ka := hrowa.lt (by rw [ePr_len]; omega)
    try simp (config := { maxSteps := 1000000 }) (disch := first | exact Nat.le_of_ble_eq_true rfl | omega) only [AXS, AXB, J.dst, reduceIte, Nat.reduceEqDiff, Nat.reduceAdd, Nat.reduceMul, Nat.reduceLT, Nat.reduceLeDiff]
    rw [f17c14_eq]
    refine drw_lt ?_
    simp (config := { maxSteps := 1000000 }) (disch := first | exact Nat.le_of_ble_eq_true rfl | omega) only [AXS, AXB, J.dst, reduceIte, Nat.reduceEqDiff, Nat.reduceAdd, Nat.reduceMul, Nat.reduceLT, Nat.reduceLeDiff, f17r11, row_pr2 hrowa, B7.rd, eSpn, B10.rd, eStamp, hpa.cn]
    repeat (with_reducible refine And.intro (by intros; omega) ?_)
    refine rscanG g0.sz.cells (by omega) hpa.cells s t 10000 ?_
    intro aw cw h8 W8 x8
    refine ⟨kp_ext (Nat.le_refl _) x8, ?_⟩
    try simp (config := { maxSteps := 1000000 }) (disch := first | exact Nat.le_of_ble_eq_true rfl | omega) only [AXS, AXB, J.dst, reduceIte, Nat.reduceEqDiff, Nat.reduceAdd, Nat.reduceMul, Nat.reduceLT, Nat.reduceLeDiff]
    have hwant := SlF.of_own W8 rfl
    replace B7 := B7.ext x8; replace B10 := B10.ext x8; replace hrowa := hrowa.ext x8; replace hpa := hpa.ext x8; replace O6 := O6.ext x8
    have x08 := x07.trans x8
    have hwl : (scanL t 10000 (withinL p0.cells s) []).1.length ≤ 1000000 := by
      rw [scanL_eq]
      split
      · have h1 := pairs_len t (withinL p0.cells s)
        have h2 := withinL_le p0.cells s
        have h3 := g0.sz.cells.sz.1
        simp only [List.nil_append]
        omega
      · simp
    (try simp (config := { maxSteps := 1000000 }) (disch := first | exact Nat.le_of_ble_eq_true rfl | omega) only [AXS, AXB, J.dst, reduceIte, Nat.reduceEqDiff, Nat.reduceAdd, Nat.reduceMul, Nat.reduceLT, Nat.reduceLeDiff]); rw [f17c15_eq]; (try simp (config := { maxSteps := 1000000 }) (disch := first | exact Nat.le_of_ble_eq_true rfl | omega) only [AXS, AXB, J.dst, reduceIte, Nat.reduceEqDiff, Nat.reduceAdd, Nat.reduceMul, Nat.reduceLT, Nat.reduceLeDiff, f17r12])
    rw [f17c16_eq]
    refine loop_in (fun m σ h' => Ext h8 h' ∧ ∃ k : Nat, k + m = l.length + 1 ∧ (k = k0 ∨ (k0 < k ∧ Cl t s p0 (runP (l.take (k - 1))))) ∧
      σ = [(2, vi wall), (7, ptr b7 0), (9, .slice (some ⟨ba, oa, none⟩) (l.length + 1) co), (10, ptr b10 0), (13, .slice aw (scanL t 10000 (withinL p0.cells s) []).1.length cw), (15, vi k)]) (l.length + 1 - k0) ⟨Ext.refl _, k0, by omega, .inl rfl, rfl⟩ ?_
    rintro m σ h9 ⟨x9, k, hk, hcl, rfl⟩ Q' hnx hex hrt _
    replace B7 := B7.ext x9; replace B10 := B10.ext x9; replace O6 := O6.ext x9; replace hwant := hwant.ext x9
    have x09 := x08.trans x9
    rw [f17c17_eq]
    by_cases hkl : k ≤ l.length
    · have e1 : decide ((k : Int) < ((l.length + 1 : Nat) : Int)) = true := by rw [decide_eq_true_eq]; omega
      obtain ⟨bb, ob', vb, hbo, hrowb, hpb⟩ := O6.elem (allP_at hkl)
      cases hbo
      have gk := runs_good hF k hkl
      have hvb := hpb.s
      generalize hpk : runP (l.take k) = p at *
      simp (config := { maxSteps := 1000000 }) (disch := first | exact Nat.le_of_ble_eq_true rfl | omega) only [AXJ, AXS, AXB, J.dst, reduceIte, Nat.reduceEqDiff, Nat.reduceAdd, Nat.reduceMul, Nat.reduceLT, Nat.reduceLeDiff, ↓br_TT, ↓br_TF, ↓br_FT, ↓br_FF, f17r13, e1, row_pr2 hrowb, hvb]
      repeat (with_reducible refine And.intro (by intros; omega) ?_)
      try simp (config := { maxSteps := 1000000 }) (disch := first | exact Nat.le_of_ble_eq_true rfl | omega) only [AXJ, AXS, AXB, J.dst, reduceIte, Nat.reduceEqDiff, Nat.reduceAdd, Nat.reduceMul, Nat.reduceLT, Nat.reduceLeDiff]
      rw [f17c18_eq]
      simp (config := { maxSteps := 1000000 }) (disch := first | exact Nat.le_of_ble_eq_true rfl | omega) only [AXS, AXB, J.dst, reduceIte, Nat.reduceEqDiff, Nat.reduceAdd, Nat.reduceMul, Nat.reduceLT, Nat.reduceLeDiff]
      refine ⟨fun q2 => ?_, fun q2 => ?_⟩
      · have hlow : p.s.low ≤ wall := by have := of_decide_eq_true q2; omega
        have C : Cl t s p0 p := by
          rcases hcl with e | ⟨e, C⟩
          · subst e
            rw [hp0] at hpk
            subst hpk
            exact Cl.start g0 hbb hcw
          · have hkk : k - 1 < l.length := by omega
            have hr := run_succ (List.getElem?_eq_getElem hkk)
            rw [show k - 1 + 1 = k by omega, hpk] at hr
            have gp := runs_good hF (k - 1) (by omega)
            rw [hr] at hlow ⊢
            exact C.step gp (show Lt100 _ from hF (l[k - 1]) (List.getElem_mem hkk)) ht0 (by rw [htw]; exact hlow)
        have hblk := C.blocks gk
        have hscn := C.scan gk g0 10000
        have k7 := B7.lt
        have k10 := B10.lt
        have kb := hrowb.lt (by rw [ePr_len]; omega)
        try simp (config := { maxSteps := 1000000 }) (disch := first | exact Nat.le_of_ble_eq_true rfl | omega) only [AXS, AXB, J.dst, reduceIte, Nat.reduceEqDiff, Nat.reduceAdd, Nat.reduceMul, Nat.reduceLT, Nat.reduceLeDiff]
        rw [f17c19_eq, f17c20_eq]
        refine drt_lt ?_
        simp only [f17r14, wT_one, wT_alt, wT_nil]
        simp (config := { maxSteps := 1000000 }) (disch := first | exact Nat.le_of_ble_eq_true rfl | omega) only [AXS, AXB, J.dst, reduceIte, Nat.reduceEqDiff, Nat.reduceAdd, Nat.reduceMul, Nat.reduceLT, Nat.reduceLeDiff, row_pr2 hrowb, B7.rd, eSpn, B10.rd, eStamp, hpb.cn]
        have app2 : ∀ h10, Ext h9 h10 → wC Try.prog f17c21 (X.inBlock 1 (X.then (fun σ h => wC Try.prog f17c34 Q' σ h) Q')) [(2, vi wall), (7, ptr b7 0), (9, .slice (some ⟨ba, oa, none⟩) (l.length + 1) co), (10, ptr b10 0), (13, .slice aw (scanL t 10000 (withinL p0.cells s) []).1.length cw), (15, vi k), (17, .bool false)] h10 := by
          intro h10 x10
          replace B7 := B7.ext x10; replace B10 := B10.ext x10; replace hrowb := hrowb.ext x10; replace hpb := hpb.ext x10; replace hwant := hwant.ext x10
          have k7 := B7.lt
          have k10 := B10.lt
          have kb := hrowb.lt (by rw [ePr_len]; omega)
          rw [f17c21_eq]
          refine drw_lt ?_
          simp (config := { maxSteps := 1000000 }) (disch := first | exact Nat.le_of_ble_eq_true rfl | omega) only [AXS, AXB, J.dst, reduceIte, Nat.reduceEqDiff, Nat.reduceAdd, Nat.reduceMul, Nat.reduceLT, Nat.reduceLeDiff, f17r15, row_pr2 hrowb, B7.rd, eSpn, B10.rd, eStamp, hpb.cn]
          repeat (with_reducible refine And.intro (by intros; omega) ?_)
          refine rscanG gk.sz.cells (by omega) hpb.cells s t 10000 ?_
          rw [hscn]
          intro ax cx h11 X11 x11
          refine ⟨kp_ext (Nat.le_refl _) x11, ?_⟩
          try simp (config := { maxSteps := 1000000 }) (disch := first | exact Nat.le_of_ble_eq_true rfl | omega) only [AXS, AXB, J.dst, reduceIte, Nat.reduceEqDiff, Nat.reduceAdd, Nat.reduceMul, Nat.reduceLT, Nat.reduceLeDiff]
          have hx := SlF.of_own X11 rfl
          replace hwant := hwant.ext x11
          generalize (scanL t 10000 (withinL p0.cells s) []).1 = w at *
          rw [f17c22_eq]
          simp (config := { maxSteps := 1000000 }) (disch := first | exact Nat.le_of_ble_eq_true rfl | omega) only [AXJ, AXS, AXB, J.dst, reduceIte, Nat.reduceEqDiff, Nat.reduceAdd, Nat.reduceMul, Nat.reduceLT, Nat.reduceLeDiff, f17r16]
          rw [f17c23_eq]
          simp (config := { maxSteps := 1000000 }) (disch := first | exact Nat.le_of_ble_eq_true rfl | omega) only [AXS, AXB, J.dst, reduceIte, Nat.reduceEqDiff, Nat.reduceAdd, Nat.reduceMul, Nat.reduceLT, Nat.reduceLeDiff]
          (try simp (config := { maxSteps := 1000000 }) (disch := first | exact Nat.le_of_ble_eq_true rfl | omega) only [AXS, AXB, J.dst, reduceIte, Nat.reduceEqDiff, Nat.reduceAdd, Nat.reduceMul, Nat.reduceLT, Nat.reduceLeDiff]); rw [f17c25_eq]; (try simp (config := { maxSteps := 1000000 }) (disch := first | exact Nat.le_of_ble_eq_true rfl | omega) only [AXS, AXB, J.dst, reduceIte, Nat.reduceEqDiff, Nat.reduceAdd, Nat.reduceMul, Nat.reduceLT, Nat.reduceLeDiff, f17r18])
          rw [f17c26_eq]
          refine loop_in1 (fun m σ h' => h' = h11 ∧ ∃ j : Nat, j + m = w.length ∧
            σ = [(2, vi wall), (7, ptr b7 0), (9, .slice (some ⟨ba, oa, none⟩) (l.length + 1) co), (10, ptr b10 0), (13, .slice aw w.length cw), (15, vi k), (18, .slice ax w.length cx), (20, vi j)]) w.length ⟨rfl, 0, by omega, rfl⟩ ?_
          rintro m2 σ h12 ⟨rfl, j, hj, rfl⟩ Q2 hnx2 hex2 hrt2 _
          (try simp (config := { maxSteps := 1000000 }) (disch := first | exact Nat.le_of_ble_eq_true rfl | omega) only [AXS, AXB, J.dst, reduceIte, Nat.reduceEqDiff, Nat.reduceAdd, Nat.reduceMul, Nat.reduceLT, Nat.reduceLeDiff]); rw [f17c27_eq]; (try simp (config := { maxSteps := 1000000 }) (disch := first | exact Nat.le_of_ble_eq_true rfl | omega) only [AXS, AXB, J.dst, reduceIte, Nat.reduceEqDiff, Nat.reduceAdd, Nat.reduceMul, Nat.reduceLT, Nat.reduceLeDiff, f17r19]); rw [f17c28_eq]; (try simp (config := { maxSteps := 1000000 }) (disch := first | exact Nat.le_of_ble_eq_true rfl | omega) only [AXS, AXB, J.dst, reduceIte, Nat.reduceEqDiff, Nat.reduceAdd, Nat.reduceMul, Nat.reduceLT, Nat.reduceLeDiff])
          refine ⟨fun q3 => ?_, fun q3 => ?_⟩
          · have hjl : j < w.length := by have := of_decide_eq_true q3; omega
            obtain ⟨x, hxj⟩ := get_ex hjl
            obtain ⟨c1, o1, r1, _, hrow1⟩ := hx.elem ePai_len hxj
            obtain ⟨c2, o2, r2, _, hrow2⟩ := hwant.elem ePai_len hxj
            have m1 := hrow1.lt (by rw [ePai_len]; omega)
            have m2' := hrow2.lt (by rw [ePai_len]; omega)
            try simp (config := { maxSteps := 1000000 }) (disch := first | exact Nat.le_of_ble_eq_true rfl | omega) only [AXS, AXB, J.dst, reduceIte, Nat.reduceEqDiff, Nat.reduceAdd, Nat.reduceMul, Nat.reduceLT, Nat.reduceLeDiff]
            rw [f17c29_eq, f17c30_eq]
            refine drw_lt ?_
            simp (config := { maxSteps := 1000000 }) (disch := first | exact Nat.le_of_ble_eq_true rfl | omega) only [AXS, AXB, J.dst, reduceIte, Nat.reduceEqDiff, Nat.reduceAdd, Nat.reduceMul, Nat.reduceLT, Nat.reduceLeDiff, f17r20, r1, r2, row_pai hrow1, row_pai hrow2, eqA_paiN, decide_true]
            repeat (with_reducible refine And.intro (by intros; omega) ?_)
            rw [f17c31_eq]
            simp (config := { maxSteps := 1000000 }) (disch := first | exact Nat.le_of_ble_eq_true rfl | omega) only [AXS, AXB, J.dst, reduceIte, Nat.reduceEqDiff, Nat.reduceAdd, Nat.reduceMul, Nat.reduceLT, Nat.reduceLeDiff]
            (try simp (config := { maxSteps := 1000000 }) (disch := first | exact Nat.le_of_ble_eq_true rfl | omega) only [AXS, AXB, J.dst, reduceIte, Nat.reduceEqDiff, Nat.reduceAdd, Nat.reduceMul, Nat.reduceLT, Nat.reduceLeDiff]); rw [f17c33_eq]; (try simp (config := { maxSteps := 1000000 }) (disch := first | exact Nat.le_of_ble_eq_true rfl | omega) only [AXS, AXB, J.dst, reduceIte, Nat.reduceEqDiff, Nat.reduceAdd, Nat.reduceMul, Nat.reduceLT, Nat.reduceLeDiff, f17r22])
            rw [i64_wrap (by omega) (by omega)]
            exact hnx2 (m2 - 1) _ _ (by omega) ⟨rfl, j + 1, by omega, by rw [r1, r2]; rfl⟩
          · refine hex2 _ _ ?_
            (try simp (config := { maxSteps := 1000000 }) (disch := first | exact Nat.le_of_ble_eq_true rfl | omega) only [AXS, AXB, J.dst, reduceIte, Nat.reduceEqDiff, Nat.reduceAdd, Nat.reduceMul, Nat.reduceLT, Nat.reduceLeDiff]); rw [f17c34_eq]; (try simp (config := { maxSteps := 1000000 }) (disch := first | exact Nat.le_of_ble_eq_true rfl | omega) only [AXS, AXB, J.dst, reduceIte, Nat.reduceEqDiff, Nat.reduceAdd, Nat.reduceMul, Nat.reduceLT, Nat.reduceLeDiff, f17r23])
            rw [i64_wrap (by omega) (by omega)]
            exact hnx (m - 1) _ _ (by omega) ⟨x9.trans (x10.trans x11), k + 1, by omega, .inr ⟨by omega, by rw [show k + 1 - 1 = k by omega, hpk]; exact C⟩, rfl⟩
        refine ⟨by omega, by omega, kb, by omega, by omega, ?_, ?_⟩
        · refine rblocksG gk.sz.cells (by omega) hpb.cells s t ?_
          rw [hblk]
          intro h10 x10
          refine ⟨kp_ext (Nat.le_refl _) x10, ?_⟩
          try simp (config := { maxSteps := 1000000 }) (disch := first | exact Nat.le_of_ble_eq_true rfl | omega) only [AXS, AXB, J.dst, reduceIte, Nat.reduceEqDiff, Nat.reduceAdd, Nat.reduceMul, Nat.reduceLT, Nat.reduceLeDiff]
          have j10 := x10.size
          refine wL_newD x10.size ?_; rintro b16 h11 x11 s11 hb16 B16
          try simp (config := { maxSteps := 1000000 }) (disch := first | exact Nat.le_of_ble_eq_true rfl | omega) only [AXS, AXB, J.dst, reduceIte, Nat.reduceEqDiff, Nat.reduceAdd, Nat.reduceMul, Nat.reduceLT, Nat.reduceLeDiff]
          refine wL_stD rfl rfl (by omega) rfl B16 (by decide) (eLck_one _) ?_
          rintro h12 u12 -
          try simp (config := { maxSteps := 1000000 }) (disch := first | exact Nat.le_of_ble_eq_true rfl | omega) only [AXS, AXB, J.dst, reduceIte, Nat.reduceEqDiff, Nat.reduceAdd, Nat.reduceMul, Nat.reduceLT, Nat.reduceLeDiff]
          exact app2 h12 (u12.ext (x10.trans x11) (by omega))
        · refine wL_newD (Nat.le_refl _) ?_; rintro b16 h11 x11 s11 hb16 B16
          try simp (config := { maxSteps := 1000000 }) (disch := first | exact Nat.le_of_ble_eq_true rfl | omega) only [AXS, AXB, J.dst, reduceIte, Nat.reduceEqDiff, Nat.reduceAdd, Nat.reduceMul, Nat.reduceLT, Nat.reduceLeDiff]
          refine rblocksG gk.sz.cells (by omega) (hpb.ext x11).cells s t ?_
          rw [hblk]
          intro h10 x10
          refine ⟨kp_ext x11.size x10, ?_⟩
          try simp (config := { maxSteps := 1000000 }) (disch := first | exact Nat.le_of_ble_eq_true rfl | omega) only [AXS, AXB, J.dst, reduceIte, Nat.reduceEqDiff, Nat.reduceAdd, Nat.reduceMul, Nat.reduceLT, Nat.reduceLeDiff]
          have j10 := x10.size
          refine wL_stD rfl rfl (by omega) rfl (B16.ext x10) (by decide) (eLck_one _) ?_
          rintro h12 u12 -
          try simp (config := { maxSteps := 1000000 }) (disch := first | exact Nat.le_of_ble_eq_true rfl | omega) only [AXS, AXB, J.dst, reduceIte, Nat.reduceEqDiff, Nat.reduceAdd, Nat.reduceMul, Nat.reduceLT, Nat.reduceLeDiff]
          exact app2 h12 (u12.ext (x11.trans x10) (by omega))
      · refine hex _ _ ?_
        (try simp (config := { maxSteps := 1000000 }) (disch := first | exact Nat.le_of_ble_eq_true rfl | omega) only [AXS, AXB, J.dst, reduceIte, Nat.reduceEqDiff, Nat.reduceAdd, Nat.reduceMul, Nat.reduceLT, Nat.reduceLeDiff]); rw [f17c35_eq]; (try simp (config := { maxSteps := 1000000 }) (disch := first | exact Nat.le_of_ble_eq_true rfl | omega) only [AXS, AXB, J.dst, reduceIte, Nat.reduceEqDiff, Nat.reduceAdd, Nat.reduceMul, Nat.reduceLT, Nat.reduceLeDiff, f17r24])
        exact hR _ x09
    · have e1 : decide ((k : Int) < ((l.length + 1 : Nat) : Int)) = false := by rw [decide_eq_false_iff_not]; omega
      simp (config := { maxSteps := 1000000 }) (disch := first | exact Nat.le_of_ble_eq_true rfl | omega) only [AXJ, AXS, AXB, J.dst, reduceIte, Nat.reduceEqDiff, Nat.reduceAdd, Nat.reduceMul, Nat.reduceLT, Nat.reduceLeDiff, ↓br_TT, ↓br_TF, ↓br_FT, ↓br_FF, f17r13, e1]
      repeat (with_reducible refine And.intro (by intros; omega) ?_)
      rw [f17c18_eq]
      simp (config := { maxSteps := 1000000 }) (disch := first | exact Nat.le_of_ble_eq_true rfl | omega) only [AXS, AXB, J.dst, reduceIte, Nat.reduceEqDiff, Nat.reduceAdd, Nat.reduceMul, Nat.reduceLT, Nat.reduceLeDiff]
      refine hex _ _ ?_
      (try simp (config := { maxSteps := 1000000 }) (disch := first | exact Nat.le_of_ble_eq_true rfl | omega) only [AXS, AXB, J.dst, reduceIte, Nat.reduceEqDiff, Nat.reduceAdd, Nat.reduceMul, Nat.reduceLT, Nat.reduceLeDiff]); rw [f17c35_eq]; (try simp (config := { maxSteps := 1000000 }) (disch := first | exact Nat.le_of_ble_eq_true rfl | omega) only [AXS, AXB, J.dst, reduceIte, Nat.reduceEqDiff, Nat.reduceAdd, Nat.reduceMul, Nat.reduceLT, Nat.reduceLeDiff, f17r24])
      exact hR _ x09
  refine ⟨by omega, by omega, la, by omega, by omega, ?_, ?_⟩
  · refine rblocksG g0.sz.cells (by omega) hpa.cells s t ?_
    intro h7 x7
    refine ⟨kp_ext (Nat.le_refl _) x7, ?_⟩
    try simp (config := { maxSteps := 1000000 }) (disch := first | exact Nat.le_of_ble_eq_true rfl | omega) only [AXS, AXB, J.dst, reduceIte, Nat.reduceEqDiff, Nat.reduceAdd, Nat.reduceMul, Nat.reduceLT, Nat.reduceLeDiff]
    have j7 := x7.size
    refine wL_newD x7.size ?_; rintro b11 h8 x8 s8 hb11 B11
    try simp (config := { maxSteps := 1000000 }) (disch := first | exact Nat.le_of_ble_eq_true rfl | omega) only [AXS, AXB, J.dst, reduceIte, Nat.reduceEqDiff, Nat.reduceAdd, Nat.reduceMul, Nat.reduceLT, Nat.reduceLeDiff]
    refine wL_stD rfl rfl (by omega) rfl B11 (by decide) (eLck_one _) ?_
    rintro h9 u9 -
    try simp (config := { maxSteps := 1000000 }) (disch := first | exact Nat.le_of_ble_eq_true rfl | omega) only [AXS, AXB, J.dst, reduceIte, Nat.reduceEqDiff, Nat.reduceAdd, Nat.reduceMul, Nat.reduceLT, Nat.reduceLeDiff]
    exact app h9 (u9.ext (x7.trans x8) (by omega))
  · refine wL_newD (Nat.le_refl _) ?_; rintro b11 h8 x8 s8 hb11 B11
    try simp (config := { maxSteps := 1000000 }) (disch := first | exact Nat.le_of_ble_eq_true rfl | omega) only [AXS, AXB, J.dst, reduceIte, Nat.reduceEqDiff, Nat.reduceAdd, Nat.reduceMul, Nat.reduceLT, Nat.reduceLeDiff]
    refine rblocksG g0.sz.cells (by omega) (hpa.ext x8).cells s t ?_
    intro h7 x7
    refine ⟨kp_ext x8.size x7, ?_⟩
    try simp (config := { maxSteps := 1000000 }) (disch := first | exact Nat.le_of_ble_eq_true rfl | omega) only [AXS, AXB, J.dst, reduceIte, Nat.reduceEqDiff, Nat.reduceAdd, Nat.reduceMul, Nat.reduceLT, Nat.reduceLeDiff]
    have j7 := x7.size
    refine wL_stD rfl rfl (by omega) rfl (B11.ext x7) (by decide) (eLck_one _) ?_
    rintro h9 u9 -
    try simp (config := { maxSteps := 1000000 }) (disch := first | exact Nat.le_of_ble_eq_true rfl | omega) only [AXS, AXB, J.dst, reduceIte, Nat.reduceEqDiff, Nat.reduceAdd, Nat.reduceMul, Nat.reduceLT, Nat.reduceLeDiff]
    exact app h9 (u9.ext (x8.trans x7) (by omega))
end Go.Proofs.Ytefghfgmkndikaa
