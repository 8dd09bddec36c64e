/-
  The walks and plain laws under the laws of one package: texts of mine put together, what they do not use left out (wip/tools/prune.py).
-/
import Derived.Test.YtefghfgmkndikaaK5
set_option linter.unusedSimpArgs false
set_option linter.unusedVariables false
namespace Go.Proofs.Ytefghfgmkndikaa
open Go.AX
set_option maxRecDepth 100000
def f16r0 : List I := [.op (.mov 4 (.const (.bool false))),
  .kp [0, 1]]
def f16r1 : List I := [.op (.call (some 17) 52 []),
  .op (.un 18 .not (.tmp 17)),
  .kp [0, 1, 18]]
def f16r2 : List I := [.op (.mov 4 (.const (.bool false))),
  .kp [4]]
def f16r3 : List I := [.op (.mov 19 (.tmp 0)),
  .op (.call (some 20) 53 [(.tmp 19), (.const (.int .i64 50))]),
  .op (.un 21 .not (.tmp 20)),
  .op (.mov 22 (.tmp 21)),
  .sc 22 false 3,
  .g 22 false (.mov 23 (.tmp 0)),
  .g 22 false (.len 24 true (.tmp 23)),
  .g 22 false (.bin 25 .eql (.tmp 24) (.const (.int .i64 0))),
  .op (.pick 26 (.tmp 22) (.const (.bool true)) (.tmp 25)),
  .kp [26, 0, 1]]
def f16r4 : List I := [.op (.mov 4 (.const (.bool true))),
  .kp [4]]
def f16r5 : List I := [.op (.mov 27 (.tmp 0)),
  .op (.call (some 28) 65 [(.tmp 27)]),
  .op (.mov 5 (.tmp 28)),
  .kp [0, 1, 5]]
def f16r6 : List I := [.op (.mov 29 (.tmp 1)),
  .op (.mov 30 (.tmp 0)),
  .op (.len 31 true (.tmp 30)),
  .op (.raw (some 32) ⟨(some 32), (.binOp .rem 3 (.tmp 29) (.tmp 31) 3), 3, "law.go:120", #[⟨0, .data⟩, ⟨2, .data⟩], none⟩),
  .op (.mov 33 (.tmp 0)),
  .op (.len 34 true (.tmp 33)),
  .op (.bin 35 .add (.tmp 32) (.tmp 34)),
  .op (.mov 36 (.tmp 0)),
  .op (.len 37 true (.tmp 36)),
  .op (.raw (some 38) ⟨(some 38), (.binOp .rem 3 (.tmp 35) (.tmp 37) 3), 3, "law.go:120", #[⟨6, .data⟩, ⟨8, .data⟩], none⟩),
  .kp [0, 5, 38],
  .op (.mov 1 (.tmp 38)),
  .kp [0, 1, 5]]
def f16r7 : L := (.one [.op (.mov 39 (.tmp 5)),
  .op (.mov 40 (.tmp 1)),
  .op (.iad 41 9 (.tmp 39) (.tmp 40)),
  .op (.ld 42 (some 9) (.tmp 41)),
  .op (.mov 43 (.tmp 0)),
  .op (.mov 44 (.tmp 1)),
  .op (.iad 45 14 (.tmp 43) (.tmp 44)),
  .op (.ld 46 (some 14) (.tmp 45))] (.alt (.one [.op (.call (some 47) 54 [(.tmp 42), (.tmp 46), (.const (.bool false))]),
  .op (.new 6 43 [.int .i64 0, .int .i64 0, .int .i64 0, .int .i64 0, .int .i64 0, .int .i64 0, .int .i64 0, .int .i64 0, .int .i64 0, .int .i64 0, .int .i64 0, .bool false, .slice none 0 0, .slice none 0 0]),
  .op (.st 14 (.tmp 6) (.tmp 47)),
  .kp [0, 1, 5, 6]] .nil) (.one [.op (.new 6 43 [.int .i64 0, .int .i64 0, .int .i64 0, .int .i64 0, .int .i64 0, .int .i64 0, .int .i64 0, .int .i64 0, .int .i64 0, .int .i64 0, .int .i64 0, .bool false, .slice none 0 0, .slice none 0 0]),
  .op (.call (some 47) 54 [(.tmp 42), (.tmp 46), (.const (.bool false))]),
  .op (.st 14 (.tmp 6) (.tmp 47)),
  .kp [0, 1, 5, 6]] .nil)))
def f16r8 : List I := [.op (.fad 48 0 (.tmp 6)),
  .op (.st 1 (.tmp 48) (.const (.int .i64 2))),
  .kp [0, 1, 5, 6]]
def f16r9 : L := (.one [.op (.mov 50 (.tmp 5)),
  .op (.mov 51 (.tmp 1)),
  .op (.iad 52 9 (.tmp 50) (.tmp 51)),
  .op (.ld 53 (some 9) (.tmp 52)),
  .op (.ld 54 (some 14) (.tmp 6))] (.alt (.one [.op (.call (some 55) 56 [(.tmp 53), (.tmp 54)]),
  .op (.mov 49 (.tmp 55)),
  .op (.ext 56 (.tmp 49) 0),
  .op (.ext 57 (.tmp 49) 1)] (.alt (.one [.op (.new 7 116 [.int .i64 0, .int .i64 0, .int .i64 0, .int .i64 0, .int .i64 0, .int .i64 0, .slice none 0 0, .slice none 0 0, .slice none 0 0]),
  .op (.new 8 47 [.int .i64 0, .slice none 0 0, .int .i64 0, .int .i64 0, .int .i64 0, .int .i64 0, .int .i64 0, .int .i64 0, .int .i64 0, .int .i64 0, .bool false]),
  .op (.st 9 (.tmp 7) (.tmp 56)),
  .op (.st 11 (.tmp 8) (.tmp 57)),
  .kp [0, 1, 6, 7, 8]] .nil) (.one [.op (.new 8 47 [.int .i64 0, .slice none 0 0, .int .i64 0, .int .i64 0, .int .i64 0, .int .i64 0, .int .i64 0, .int .i64 0, .int .i64 0, .int .i64 0, .bool false]),
  .op (.new 7 116 [.int .i64 0, .int .i64 0, .int .i64 0, .int .i64 0, .int .i64 0, .int .i64 0, .slice none 0 0, .slice none 0 0, .slice none 0 0]),
  .op (.st 9 (.tmp 7) (.tmp 56)),
  .op (.st 11 (.tmp 8) (.tmp 57)),
  .kp [0, 1, 6, 7, 8]] .nil))) (.alt (.one [.op (.new 7 116 [.int .i64 0, .int .i64 0, .int .i64 0, .int .i64 0, .int .i64 0, .int .i64 0, .slice none 0 0, .slice none 0 0, .slice none 0 0])] (.alt (.one [.op (.call (some 55) 56 [(.tmp 53), (.tmp 54)]),
  .op (.mov 49 (.tmp 55)),
  .op (.ext 56 (.tmp 49) 0),
  .op (.ext 57 (.tmp 49) 1),
  .op (.new 8 47 [.int .i64 0, .slice none 0 0, .int .i64 0, .int .i64 0, .int .i64 0, .int .i64 0, .int .i64 0, .int .i64 0, .int .i64 0, .int .i64 0, .bool false]),
  .op (.st 9 (.tmp 7) (.tmp 56)),
  .op (.st 11 (.tmp 8) (.tmp 57)),
  .kp [0, 1, 6, 7, 8]] .nil) (.one [.op (.new 8 47 [.int .i64 0, .slice none 0 0, .int .i64 0, .int .i64 0, .int .i64 0, .int .i64 0, .int .i64 0, .int .i64 0, .int .i64 0, .int .i64 0, .bool false]),
  .op (.call (some 55) 56 [(.tmp 53), (.tmp 54)]),
  .op (.mov 49 (.tmp 55)),
  .op (.ext 56 (.tmp 49) 0),
  .op (.ext 57 (.tmp 49) 1),
  .op (.st 9 (.tmp 7) (.tmp 56)),
  .op (.st 11 (.tmp 8) (.tmp 57)),
  .kp [0, 1, 6, 7, 8]] .nil))) (.one [.op (.new 8 47 [.int .i64 0, .slice none 0 0, .int .i64 0, .int .i64 0, .int .i64 0, .int .i64 0, .int .i64 0, .int .i64 0, .int .i64 0, .int .i64 0, .bool false])] (.alt (.one [.op (.call (some 55) 56 [(.tmp 53), (.tmp 54)]),
  .op (.mov 49 (.tmp 55)),
  .op (.ext 56 (.tmp 49) 0),
  .op (.ext 57 (.tmp 49) 1),
  .op (.new 7 116 [.int .i64 0, .int .i64 0, .int .i64 0, .int .i64 0, .int .i64 0, .int .i64 0, .slice none 0 0, .slice none 0 0, .slice none 0 0]),
  .op (.st 9 (.tmp 7) (.tmp 56)),
  .op (.st 11 (.tmp 8) (.tmp 57)),
  .kp [0, 1, 6, 7, 8]] .nil) (.one [.op (.new 7 116 [.int .i64 0, .int .i64 0, .int .i64 0, .int .i64 0, .int .i64 0, .int .i64 0, .slice none 0 0, .slice none 0 0, .slice none 0 0]),
  .op (.call (some 55) 56 [(.tmp 53), (.tmp 54)]),
  .op (.mov 49 (.tmp 55)),
  .op (.ext 56 (.tmp 49) 0),
  .op (.ext 57 (.tmp 49) 1),
  .op (.st 9 (.tmp 7) (.tmp 56)),
  .op (.st 11 (.tmp 8) (.tmp 57)),
  .kp [0, 1, 6, 7, 8]] .nil))))))
def f16r10 : List I := [.op (.fad 58 0 (.tmp 8)),
  .op (.ld 59 none (.tmp 58)),
  .op (.bin 60 .neq (.tmp 59) (.const (.int .i64 0))),
  .op (.mov 61 (.tmp 60)),
  .sc 61 false 2,
  .g 61 false (.mov 62 (.tmp 0)),
  .g 61 false (.call (some 63) 66 [(.tmp 62)]),
  .op (.pick 64 (.tmp 61) (.const (.bool true)) (.tmp 63)),
  .kp [64, 0, 1, 6, 7, 8]]
def f16r11 : List I := [.op (.mov 4 (.const (.bool true))),
  .kp [4]]
def f16r12 : List I := [.op (.mov 65 (.tmp 1)),
  .op (.bin 66 .add (.tmp 65) (.const (.int .i64 1))),
  .op (.mov 9 (.tmp 66)),
  .kp [0, 6, 7, 8, 9]]
def f16r13 : List I := [.op (.mov 67 (.tmp 9)),
  .op (.mov 68 (.tmp 0)),
  .op (.len 69 true (.tmp 68)),
  .op (.bin 70 .lss (.tmp 67) (.tmp 69)),
  .kp [0, 6, 7, 8, 9, 70]]
def f16r14 : List I := [.op (.mov 73 (.tmp 0)),
  .op (.mov 74 (.tmp 9)),
  .op (.iad 75 14 (.tmp 73) (.tmp 74)),
  .op (.fad 76 0 (.tmp 75)),
  .op (.ld 77 none (.tmp 76)),
  .op (.bin 78 .eql (.tmp 77) (.const (.int .i64 3))),
  .op (.mov 79 (.tmp 78)),
  .sc 79 true 8,
  .g 79 true (.mov 80 (.tmp 0)),
  .g 79 true (.mov 81 (.tmp 9)),
  .g 79 true (.iad 82 14 (.tmp 80) (.tmp 81)),
  .g 79 true (.fad 83 8 (.tmp 82)),
  .g 79 true (.ld 84 (some 2) (.tmp 83)),
  .g 79 true (.fad 85 8 (.tmp 6)),
  .g 79 true (.ld 86 (some 2) (.tmp 85)),
  .g 79 true (.eqa 87 false [.i .i64, .i .i64] (.tmp 84) (.tmp 86)),
  .op (.pick 88 (.tmp 79) (.tmp 87) (.const (.bool false))),
  .kp [88, 0, 6, 7, 8, 9]]
def f16r15 : List I := [.op (.mov 4 (.const (.bool true))),
  .kp [4]]
def f16r16 : L := (.one [.op (.mov 92 (.tmp 0)),
  .op (.mov 93 (.tmp 9)),
  .op (.iad 94 14 (.tmp 92) (.tmp 93)),
  .op (.ld 95 (some 14) (.tmp 94))] (.alt (.one [.opn (.ld 90 (some 9) (.tmp 7)),
  .opn (.ld 91 (some 9) (.tmp 7)),
  .op (.call (some 96) 54 [(.tmp 91), (.tmp 95), (.const (.bool false))]),
  .op (.call (some 97) 56 [(.tmp 90), (.tmp 96)]),
  .op (.mov 89 (.tmp 97)),
  .op (.ext 98 (.tmp 89) 0),
  .op (.ext 99 (.tmp 89) 1),
  .op (.st 9 (.tmp 7) (.tmp 98)),
  .kp [0, 6, 7, 8, 9]] .nil) (.one [.opn (.ld 91 (some 9) (.tmp 7))] (.alt (.one [.opn (.ld 90 (some 9) (.tmp 7)),
  .op (.call (some 96) 54 [(.tmp 91), (.tmp 95), (.const (.bool false))]),
  .op (.call (some 97) 56 [(.tmp 90), (.tmp 96)]),
  .op (.mov 89 (.tmp 97)),
  .op (.ext 98 (.tmp 89) 0),
  .op (.ext 99 (.tmp 89) 1),
  .op (.st 9 (.tmp 7) (.tmp 98)),
  .kp [0, 6, 7, 8, 9]] .nil) (.one [.op (.call (some 96) 54 [(.tmp 91), (.tmp 95), (.const (.bool false))]),
  .opn (.ld 90 (some 9) (.tmp 7)),
  .op (.call (some 97) 56 [(.tmp 90), (.tmp 96)]),
  .op (.mov 89 (.tmp 97)),
  .op (.ext 98 (.tmp 89) 0),
  .op (.ext 99 (.tmp 89) 1),
  .op (.st 9 (.tmp 7) (.tmp 98)),
  .kp [0, 6, 7, 8, 9]] .nil)))))
def f16r17 : List I := [.op (.fad 100 8 (.tmp 6)),
  .op (.fad 101 0 (.tmp 100)),
  .op (.ld 102 none (.tmp 101)),
  .op (.fad 103 5 (.tmp 7)),
  .op (.ld 104 none (.tmp 103)),
  .op (.bin 105 .lss (.tmp 102) (.tmp 104)),
  .kp [0, 6, 7, 8, 9, 105]]
def f16r18 : List I := [.op (.mov 4 (.const (.bool true))),
  .kp [4]]
def f16r19 : List I := [.op (.mov 10 (.const (.slice none 0 0))),
  .kp [0, 6, 7, 8, 9, 10]]
def f16r20 : List I := [.op (.mov 11 (.const (.int .i64 0))),
  .kp [0, 6, 7, 8, 9, 10, 11]]
def f16r21 : List I := [.op (.mov 106 (.tmp 11)),
  .op (.fad 107 12 (.tmp 6)),
  .op (.ld 108 none (.tmp 107)),
  .op (.len 109 true (.tmp 108)),
  .op (.bin 110 .lss (.tmp 106) (.tmp 109)),
  .kp [0, 6, 7, 8, 9, 10, 11, 110]]
def f16r22 : L := (.one [.op (.fad 114 6 (.tmp 7)),
  .op (.ld 115 none (.tmp 114)),
  .op (.fad 116 12 (.tmp 6)),
  .op (.ld 117 none (.tmp 116)),
  .op (.mov 118 (.tmp 11)),
  .op (.iad 119 2 (.tmp 117) (.tmp 118)),
  .op (.ld 120 (some 2) (.tmp 119)),
  .op (.fad 121 8 (.tmp 6)),
  .op (.ld 122 (some 2) (.tmp 121))] (.alt (.one [.op (.call (some 123) 67 [(.tmp 115), (.tmp 120), (.tmp 122)]),
  .op (.mov 113 (.tmp 123)),
  .op (.ext 124 (.tmp 113) 0),
  .op (.ext 125 (.tmp 113) 1),
  .op (.new 12 72 [.int .i64 0, .int .i64 0, .int .i64 0, .int .i64 0, .int .i64 0, .int .i64 0, .int .i64 0, .bool false, .string ⟨#[]⟩]),
  .op (.st 9 (.tmp 12) (.tmp 124)),
  .op (.mov 13 (.tmp 125)),
  .kp [0, 6, 7, 8, 9, 10, 11, 13]] .nil) (.one [.op (.new 12 72 [.int .i64 0, .int .i64 0, .int .i64 0, .int .i64 0, .int .i64 0, .int .i64 0, .int .i64 0, .bool false, .string ⟨#[]⟩]),
  .op (.call (some 123) 67 [(.tmp 115), (.tmp 120), (.tmp 122)]),
  .op (.mov 113 (.tmp 123)),
  .op (.ext 124 (.tmp 113) 0),
  .op (.ext 125 (.tmp 113) 1),
  .op (.st 9 (.tmp 12) (.tmp 124)),
  .op (.mov 13 (.tmp 125)),
  .kp [0, 6, 7, 8, 9, 10, 11, 13]] .nil)))
def f16r23 : List I := [.op (.fad 127 6 (.tmp 7)),
  .op (.ld 128 none (.tmp 127)),
  .op (.fad 129 12 (.tmp 6)),
  .op (.ld 130 none (.tmp 129)),
  .op (.mov 131 (.tmp 11)),
  .op (.iad 132 2 (.tmp 130) (.tmp 131)),
  .op (.ld 133 (some 2) (.tmp 132)),
  .op (.fad 134 8 (.tmp 6)),
  .op (.ld 135 (some 2) (.tmp 134)),
  .op (.call (some 136) 68 [(.tmp 128), (.tmp 133), (.tmp 135), (.const (.int .i64 10000))]),
  .kp [0, 6, 7, 8, 9, 10, 11, 13, 136],
  .op (.mov 126 (.tmp 136)),
  .op (.ext 137 (.tmp 126) 0),
  .op (.ext 138 (.tmp 126) 1),
  .op (.mov 14 (.tmp 137)),
  .op (.mov 15 (.tmp 138)),
  .kp [0, 6, 7, 8, 9, 10, 11, 13, 14, 15]]
def f16r24 : List I := [.op (.mov 139 (.tmp 13)),
  .op (.mov 140 (.tmp 139)),
  .sc 140 false 2,
  .g 140 false (.mov 141 (.tmp 15)),
  .g 140 false (.bin 142 .neq (.tmp 141) (.const (.int .i64 0))),
  .op (.pick 143 (.tmp 140) (.const (.bool true)) (.tmp 142)),
  .kp [143, 0, 6, 7, 8, 9, 10, 11, 14]]
def f16r25 : List I := [.op (.mov 4 (.const (.bool false))),
  .kp [4]]
def f16r26 : List I := [.op (.mov 144 (.tmp 10)),
  .op (.mov 145 (.tmp 14)),
  .op (.raw (some 146) ⟨(some 146), (.call ⟨(.builtin .append), #[(.tmp 144), (.tmp 145)], #[45, 45]⟩), 45, "law.go:142", #[⟨0, .data⟩, ⟨1, .data⟩], none⟩),
  .op (.mov 10 (.tmp 146)),
  .kp [0, 6, 7, 8, 9, 10, 11]]
def f16r27 : List I := [.op (.mov 111 (.tmp 11)),
  .op (.bin 112 .add (.tmp 111) (.const (.int .i64 1))),
  .op (.mov 11 (.tmp 112)),
  .kp [0, 6, 7, 8, 9, 10, 11]]
def f16r28 : List I := [.op (.mov 147 (.tmp 10)),
  .op (.len 148 true (.tmp 147)),
  .op (.fad 149 1 (.tmp 8)),
  .op (.ld 150 none (.tmp 149)),
  .op (.len 151 true (.tmp 150)),
  .op (.bin 152 .neq (.tmp 148) (.tmp 151)),
  .kp [0, 6, 7, 8, 9, 10, 152]]
def f16r29 : List I := [.op (.mov 4 (.const (.bool false))),
  .kp [4]]
def f16r30 : List I := [.op (.mov 16 (.const (.int .i64 0))),
  .kp [0, 6, 7, 8, 9, 10, 16]]
def f16r31 : List I := [.op (.mov 153 (.tmp 16)),
  .op (.mov 154 (.tmp 10)),
  .op (.len 155 true (.tmp 154)),
  .op (.bin 156 .lss (.tmp 153) (.tmp 155)),
  .kp [0, 6, 7, 8, 9, 10, 16, 156]]
def f16r32 : List I := [.op (.mov 159 (.tmp 10)),
  .op (.mov 160 (.tmp 16)),
  .op (.iad 161 2 (.tmp 159) (.tmp 160)),
  .op (.ld 162 (some 2) (.tmp 161)),
  .op (.fad 163 1 (.tmp 8)),
  .op (.ld 164 none (.tmp 163)),
  .op (.mov 165 (.tmp 16)),
  .op (.iad 166 2 (.tmp 164) (.tmp 165)),
  .op (.ld 167 (some 2) (.tmp 166)),
  .op (.eqa 168 true [.s, .s] (.tmp 162) (.tmp 167)),
  .kp [0, 6, 7, 8, 9, 10, 16, 168]]
def f16r33 : List I := [.op (.mov 4 (.const (.bool false))),
  .kp [4]]
def f16r34 : List I := [.op (.mov 157 (.tmp 16)),
  .op (.bin 158 .add (.tmp 157) (.const (.int .i64 1))),
  .op (.mov 16 (.tmp 158)),
  .kp [0, 6, 7, 8, 9, 10, 16]]
def f16r35 : List I := [.op (.mov 71 (.tmp 9)),
  .op (.bin 72 .add (.tmp 71) (.const (.int .i64 1))),
  .op (.mov 9 (.tmp 72)),
  .kp [0, 6, 7, 8, 9]]
def f16r36 : List I := [.op (.mov 4 (.const (.bool true))),
  .kp [4]]
def f16c3 : C := (.seq (.reg f16r2) .ret)
def f16c6 : C := (.seq (.reg f16r4) .ret)
def f16c14 : C := (.seq (.reg f16r11) .ret)
def f16c22 : C := (.seq (.reg f16r15) .ret)
def f16c26 : C := (.seq (.reg f16r18) .ret)
def f16c37 : C := (.seq (.reg f16r25) .ret)
def f16c38 : C := (.reg f16r26)
def f16c36 : C := (.seq (.cond (.tmp 143) f16c37 .skip) f16c38)
def f16c35 : C := (.seq (.reg f16r24) f16c36)
def f16c34 : C := (.seq (.drw f16r23) f16c35)
def f16c33 : C := (.seq (.drt f16r22) f16c34)
def f16c39 : C := (.reg f16r27)
def f16c32 : C := (.seq (.block 3 f16c33) f16c39)
def f16c31 : C := (.seq (.cond (.tmp 110) .skip (.exit 2)) f16c32)
def f16c30 : C := (.seq (.reg f16r21) f16c31)
def f16c42 : C := (.seq (.reg f16r29) .ret)
def f16c50 : C := (.seq (.reg f16r33) .ret)
def f16c49 : C := (.cond (.tmp 168) f16c50 .skip)
def f16c48 : C := (.seq (.drw f16r32) f16c49)
def f16c51 : C := (.reg f16r34)
def f16c47 : C := (.seq (.block 5 f16c48) f16c51)
def f16c46 : C := (.seq (.cond (.tmp 156) .skip (.exit 4)) f16c47)
def f16c45 : C := (.seq (.reg f16r31) f16c46)
def f16c44 : C := (.block 4 (.loop f16c45))
def f16c43 : C := (.seq (.reg f16r30) f16c44)
def f16c41 : C := (.seq (.cond (.tmp 152) f16c42 .skip) f16c43)
def f16c40 : C := (.seq (.reg f16r28) f16c41)
def f16c29 : C := (.seq (.block 2 (.loop f16c30)) f16c40)
def f16c28 : C := (.seq (.reg f16r20) f16c29)
def f16c27 : C := (.seq (.reg f16r19) f16c28)
def f16c25 : C := (.seq (.cond (.tmp 105) f16c26 .skip) f16c27)
def f16c24 : C := (.seq (.reg f16r17) f16c25)
def f16c23 : C := (.seq (.drt f16r16) f16c24)
def f16c21 : C := (.seq (.cond (.tmp 88) f16c22 .skip) f16c23)
def f16c20 : C := (.seq (.drw f16r14) f16c21)
def f16c52 : C := (.reg f16r35)
def f16c19 : C := (.seq (.block 1 f16c20) f16c52)
def f16c18 : C := (.seq (.cond (.tmp 70) .skip (.exit 0)) f16c19)
def f16c17 : C := (.seq (.reg f16r13) f16c18)
def f16c53 : C := (.seq (.reg f16r36) .ret)
def f16c16 : C := (.seq (.block 0 (.loop f16c17)) f16c53)
def f16c15 : C := (.seq (.reg f16r12) f16c16)
def f16c13 : C := (.seq (.cond (.tmp 64) f16c14 .skip) f16c15)
def f16c12 : C := (.seq (.reg f16r10) f16c13)
def f16c11 : C := (.seq (.drt f16r9) f16c12)
def f16c10 : C := (.seq (.reg f16r8) f16c11)
def f16c9 : C := (.seq (.drt f16r7) f16c10)
def f16c8 : C := (.seq (.reg f16r6) f16c9)
def f16c7 : C := (.seq (.reg f16r5) f16c8)
def f16c5 : C := (.seq (.cond (.tmp 26) f16c6 .skip) f16c7)
def f16c4 : C := (.seq (.reg f16r3) f16c5)
def f16c2 : C := (.seq (.cond (.tmp 18) f16c3 .skip) f16c4)
def f16c1 : C := (.seq (.reg f16r1) f16c2)
def f16c0 : C := (.seq (.reg f16r0) f16c1)
theorem f16cmp : cmpF Try.prog Try.f16 [.l [.o 0, .kp [0, 1]],
  .l [.o 0, .o 1, .kp [0, 1, 18]],
  .l [.o 0, .kp [4]],
  .l [.o 0, .o 1, .o 2, .o 3, .sc 22 false 3, .o 4, .o 5, .o 6, .o 7, .kp [26, 0, 1]],
  .l [.o 0, .kp [4]],
  .l [.o 0, .o 1, .o 2, .kp [0, 1, 5]],
  .l [.o 0, .o 1, .o 2, .o 3, .o 4, .o 5, .o 6, .o 7, .o 8, .o 9, .kp [0, 5, 38], .o 10, .kp [0, 1, 5]],
  .t (.one [.o 0, .o 1, .o 2, .o 3, .o 4, .o 5, .o 6, .o 7] (.alt (.one [.o 8, .o 9, .o 10, .kp [0, 1, 5, 6]] .nil) (.one [.o 9, .o 8, .o 10, .kp [0, 1, 5, 6]] .nil))),
  .l [.o 0, .o 1, .kp [0, 1, 5, 6]],
  .t (.one [.o 0, .o 1, .o 2, .o 3, .o 4] (.alt (.one [.o 5, .o 6, .o 7, .o 8] (.alt (.one [.o 9, .o 10, .o 11, .o 12, .kp [0, 1, 6, 7, 8]] .nil) (.one [.o 10, .o 9, .o 11, .o 12, .kp [0, 1, 6, 7, 8]] .nil))) (.alt (.one [.o 9] (.alt (.one [.o 5, .o 6, .o 7, .o 8, .o 10, .o 11, .o 12, .kp [0, 1, 6, 7, 8]] .nil) (.one [.o 10, .o 5, .o 6, .o 7, .o 8, .o 11, .o 12, .kp [0, 1, 6, 7, 8]] .nil))) (.one [.o 10] (.alt (.one [.o 5, .o 6, .o 7, .o 8, .o 9, .o 11, .o 12, .kp [0, 1, 6, 7, 8]] .nil) (.one [.o 9, .o 5, .o 6, .o 7, .o 8, .o 11, .o 12, .kp [0, 1, 6, 7, 8]] .nil)))))),
  .l [.o 0, .o 1, .o 2, .o 3, .sc 61 false 2, .o 4, .o 5, .o 6, .kp [64, 0, 1, 6, 7, 8]],
  .l [.o 0, .kp [4]],
  .l [.o 0, .o 1, .o 2, .kp [0, 6, 7, 8, 9]],
  .l [.o 0, .o 1, .o 2, .o 3, .kp [0, 6, 7, 8, 9, 70]],
  .l [.o 0, .o 1, .o 2, .o 3, .o 4, .o 5, .o 6, .sc 79 true 8, .o 7, .o 8, .o 9, .o 10, .o 11, .o 12, .o 13, .o 14, .o 15, .kp [88, 0, 6, 7, 8, 9]],
  .l [.o 0, .kp [4]],
  .t (.one [.o 2, .o 3, .o 4, .o 5] (.alt (.one [.x 0, .x 1, .o 6, .o 7, .o 8, .o 9, .o 10, .o 11, .kp [0, 6, 7, 8, 9]] .nil) (.one [.x 1] (.alt (.one [.x 0, .o 6, .o 7, .o 8, .o 9, .o 10, .o 11, .kp [0, 6, 7, 8, 9]] .nil) (.one [.o 6, .x 0, .o 7, .o 8, .o 9, .o 10, .o 11, .kp [0, 6, 7, 8, 9]] .nil))))),
  .l [.o 0, .o 1, .o 2, .o 3, .o 4, .o 5, .kp [0, 6, 7, 8, 9, 105]],
  .l [.o 0, .kp [4]],
  .l [.o 0, .kp [0, 6, 7, 8, 9, 10]],
  .l [.o 0, .kp [0, 6, 7, 8, 9, 10, 11]],
  .l [.o 0, .o 1, .o 2, .o 3, .o 4, .kp [0, 6, 7, 8, 9, 10, 11, 110]],
  .t (.one [.o 0, .o 1, .o 2, .o 3, .o 4, .o 5, .o 6, .o 7, .o 8] (.alt (.one [.o 9, .o 10, .o 11, .o 12, .o 13, .o 14, .o 15, .kp [0, 6, 7, 8, 9, 10, 11, 13]] .nil) (.one [.o 13, .o 9, .o 10, .o 11, .o 12, .o 14, .o 15, .kp [0, 6, 7, 8, 9, 10, 11, 13]] .nil))),
  .l [.o 0, .o 1, .o 2, .o 3, .o 4, .o 5, .o 6, .o 7, .o 8, .o 9, .kp [0, 6, 7, 8, 9, 10, 11, 13, 136], .o 10, .o 11, .o 12, .o 13, .o 14, .kp [0, 6, 7, 8, 9, 10, 11, 13, 14, 15]],
  .l [.o 0, .o 1, .sc 140 false 2, .o 2, .o 3, .o 4, .kp [143, 0, 6, 7, 8, 9, 10, 11, 14]],
  .l [.o 0, .kp [4]],
  .l [.o 0, .o 1, .o 2, .o 3, .kp [0, 6, 7, 8, 9, 10, 11]],
  .l [.o 0, .o 1, .o 2, .kp [0, 6, 7, 8, 9, 10, 11]],
  .l [.o 0, .o 1, .o 2, .o 3, .o 4, .o 5, .kp [0, 6, 7, 8, 9, 10, 152]],
  .l [.o 0, .kp [4]],
  .l [.o 0, .kp [0, 6, 7, 8, 9, 10, 16]],
  .l [.o 0, .o 1, .o 2, .o 3, .kp [0, 6, 7, 8, 9, 10, 16, 156]],
  .l [.o 0, .o 1, .o 2, .o 3, .o 4, .o 5, .o 6, .o 7, .o 8, .o 9, .kp [0, 6, 7, 8, 9, 10, 16, 168]],
  .l [.o 0, .kp [4]],
  .l [.o 0, .o 1, .o 2, .kp [0, 6, 7, 8, 9, 10, 16]],
  .l [.o 0, .o 1, .o 2, .kp [0, 6, 7, 8, 9]],
  .l [.o 0, .kp [4]]] = some (f16c0, [.tmp 4]) := by kernel_rfl
theorem f16ok {args : List Value} {h : Heap} {R : Value → Heap → Prop} (hn : args.length ≤ 169) (H : wC Try.prog f16c0 (endW [.tmp 4] R) (envOf 0 args) h) : CallsH Try.prog 16 args h R :=
  fn_ok2 Try.func16 f16cmp hn H
section
variable {Q : X → Env → Heap → Prop} {σ : Env} {h : Heap}
theorem f16c6_eq : wC Try.prog f16c6 Q σ h = (wL Try.prog none f16r4 0 (fun σ h => Q .ret σ h) σ h) := rfl
theorem f16c14_eq : wC Try.prog f16c14 Q σ h = (wL Try.prog none f16r11 0 (fun σ h => Q .ret σ h) σ h) := rfl
theorem f16c22_eq : wC Try.prog f16c22 Q σ h = (wL Try.prog none f16r15 0 (fun σ h => Q .ret σ h) σ h) := rfl
theorem f16c26_eq : wC Try.prog f16c26 Q σ h = (wL Try.prog none f16r18 0 (fun σ h => Q .ret σ h) σ h) := rfl
theorem f16c38_eq : wC Try.prog f16c38 Q σ h = (wL Try.prog none f16r26 0 (fun σ h => Q .normal σ h) σ h) := rfl
theorem f16c36_eq : wC Try.prog f16c36 Q σ h = (bd (evO σ (.tmp 143)) fun v => bd (asB v) fun t => br t (wC Try.prog f16c37 (X.then (fun σ h => wC Try.prog f16c38 Q σ h) Q) σ h) (wC Try.prog f16c38 Q σ h)) := rfl
theorem f16c35_eq : wC Try.prog f16c35 Q σ h = (wL Try.prog none f16r24 0 (fun σ h => wC Try.prog f16c36 Q σ h) σ h) := rfl
theorem f16c34_eq : wC Try.prog f16c34 Q σ h = (drwW Try.prog f16r23 (fun σ h => wC Try.prog f16c35 Q σ h) σ h) := rfl
theorem f16c33_eq : wC Try.prog f16c33 Q σ h = (drtW Try.prog f16r22 (fun σ h => wC Try.prog f16c34 Q σ h) σ h) := rfl
theorem f16c39_eq : wC Try.prog f16c39 Q σ h = (wL Try.prog none f16r27 0 (fun σ h => Q .normal σ h) σ h) := rfl
theorem f16c32_eq : wC Try.prog f16c32 Q σ h = (wC Try.prog f16c33 (X.inBlock 3 (X.then (fun σ h => wC Try.prog f16c39 Q σ h) Q)) σ h) := rfl
theorem f16c31_eq : wC Try.prog f16c31 Q σ h = (bd (evO σ (.tmp 110)) fun v => bd (asB v) fun t => br t (wC Try.prog f16c32 Q σ h) (Q (.exit 2) σ h)) := rfl
theorem f16c30_eq : wC Try.prog f16c30 Q σ h = (wL Try.prog none f16r21 0 (fun σ h => wC Try.prog f16c31 Q σ h) σ h) := rfl
theorem f16c49_eq : wC Try.prog f16c49 Q σ h = (bd (evO σ (.tmp 168)) fun v => bd (asB v) fun t => br t (wC Try.prog f16c50 Q σ h) (Q .normal σ h)) := rfl
theorem f16c48_eq : wC Try.prog f16c48 Q σ h = (drwW Try.prog f16r32 (fun σ h => wC Try.prog f16c49 Q σ h) σ h) := rfl
theorem f16c51_eq : wC Try.prog f16c51 Q σ h = (wL Try.prog none f16r34 0 (fun σ h => Q .normal σ h) σ h) := rfl
theorem f16c47_eq : wC Try.prog f16c47 Q σ h = (wC Try.prog f16c48 (X.inBlock 5 (X.then (fun σ h => wC Try.prog f16c51 Q σ h) Q)) σ h) := rfl
theorem f16c46_eq : wC Try.prog f16c46 Q σ h = (bd (evO σ (.tmp 156)) fun v => bd (asB v) fun t => br t (wC Try.prog f16c47 Q σ h) (Q (.exit 4) σ h)) := rfl
theorem f16c45_eq : wC Try.prog f16c45 Q σ h = (wL Try.prog none f16r31 0 (fun σ h => wC Try.prog f16c46 Q σ h) σ h) := rfl
theorem f16c44_eq : wC Try.prog f16c44 Q σ h = (loopW (wC Try.prog f16c45) (X.inBlock 4 Q) σ h) := rfl
theorem f16c43_eq : wC Try.prog f16c43 Q σ h = (wL Try.prog none f16r30 0 (fun σ h => wC Try.prog f16c44 Q σ h) σ h) := rfl
theorem f16c41_eq : wC Try.prog f16c41 Q σ h = (bd (evO σ (.tmp 152)) fun v => bd (asB v) fun t => br t (wC Try.prog f16c42 (X.then (fun σ h => wC Try.prog f16c43 Q σ h) Q) σ h) (wC Try.prog f16c43 Q σ h)) := rfl
theorem f16c40_eq : wC Try.prog f16c40 Q σ h = (wL Try.prog none f16r28 0 (fun σ h => wC Try.prog f16c41 Q σ h) σ h) := rfl
theorem f16c29_eq : wC Try.prog f16c29 Q σ h = (loopW (wC Try.prog f16c30) (X.inBlock 2 (X.then (fun σ h => wC Try.prog f16c40 Q σ h) Q)) σ h) := rfl
theorem f16c28_eq : wC Try.prog f16c28 Q σ h = (wL Try.prog none f16r20 0 (fun σ h => wC Try.prog f16c29 Q σ h) σ h) := rfl
theorem f16c27_eq : wC Try.prog f16c27 Q σ h = (wL Try.prog none f16r19 0 (fun σ h => wC Try.prog f16c28 Q σ h) σ h) := rfl
theorem f16c25_eq : wC Try.prog f16c25 Q σ h = (bd (evO σ (.tmp 105)) fun v => bd (asB v) fun t => br t (wC Try.prog f16c26 (X.then (fun σ h => wC Try.prog f16c27 Q σ h) Q) σ h) (wC Try.prog f16c27 Q σ h)) := rfl
theorem f16c24_eq : wC Try.prog f16c24 Q σ h = (wL Try.prog none f16r17 0 (fun σ h => wC Try.prog f16c25 Q σ h) σ h) := rfl
theorem f16c23_eq : wC Try.prog f16c23 Q σ h = (drtW Try.prog f16r16 (fun σ h => wC Try.prog f16c24 Q σ h) σ h) := rfl
theorem f16c21_eq : wC Try.prog f16c21 Q σ h = (bd (evO σ (.tmp 88)) fun v => bd (asB v) fun t => br t (wC Try.prog f16c22 (X.then (fun σ h => wC Try.prog f16c23 Q σ h) Q) σ h) (wC Try.prog f16c23 Q σ h)) := rfl
theorem f16c20_eq : wC Try.prog f16c20 Q σ h = (drwW Try.prog f16r14 (fun σ h => wC Try.prog f16c21 Q σ h) σ h) := rfl
theorem f16c52_eq : wC Try.prog f16c52 Q σ h = (wL Try.prog none f16r35 0 (fun σ h => Q .normal σ h) σ h) := rfl
theorem f16c19_eq : wC Try.prog f16c19 Q σ h = (wC Try.prog f16c20 (X.inBlock 1 (X.then (fun σ h => wC Try.prog f16c52 Q σ h) Q)) σ h) := rfl
theorem f16c18_eq : wC Try.prog f16c18 Q σ h = (bd (evO σ (.tmp 70)) fun v => bd (asB v) fun t => br t (wC Try.prog f16c19 Q σ h) (Q (.exit 0) σ h)) := rfl
theorem f16c17_eq : wC Try.prog f16c17 Q σ h = (wL Try.prog none f16r13 0 (fun σ h => wC Try.prog f16c18 Q σ h) σ h) := rfl
theorem f16c53_eq : wC Try.prog f16c53 Q σ h = (wL Try.prog none f16r36 0 (fun σ h => Q .ret σ h) σ h) := rfl
theorem f16c16_eq : wC Try.prog f16c16 Q σ h = (loopW (wC Try.prog f16c17) (X.inBlock 0 (X.then (fun σ h => wC Try.prog f16c53 Q σ h) Q)) σ h) := rfl
theorem f16c15_eq : wC Try.prog f16c15 Q σ h = (wL Try.prog none f16r12 0 (fun σ h => wC Try.prog f16c16 Q σ h) σ h) := rfl
theorem f16c13_eq : wC Try.prog f16c13 Q σ h = (bd (evO σ (.tmp 64)) fun v => bd (asB v) fun t => br t (wC Try.prog f16c14 (X.then (fun σ h => wC Try.prog f16c15 Q σ h) Q) σ h) (wC Try.prog f16c15 Q σ h)) := rfl
theorem f16c12_eq : wC Try.prog f16c12 Q σ h = (wL Try.prog none f16r10 0 (fun σ h => wC Try.prog f16c13 Q σ h) σ h) := rfl
theorem f16c11_eq : wC Try.prog f16c11 Q σ h = (drtW Try.prog f16r9 (fun σ h => wC Try.prog f16c12 Q σ h) σ h) := rfl
theorem f16c10_eq : wC Try.prog f16c10 Q σ h = (wL Try.prog none f16r8 0 (fun σ h => wC Try.prog f16c11 Q σ h) σ h) := rfl
theorem f16c9_eq : wC Try.prog f16c9 Q σ h = (drtW Try.prog f16r7 (fun σ h => wC Try.prog f16c10 Q σ h) σ h) := rfl
theorem f16c8_eq : wC Try.prog f16c8 Q σ h = (wL Try.prog none f16r6 0 (fun σ h => wC Try.prog f16c9 Q σ h) σ h) := rfl
theorem f16c7_eq : wC Try.prog f16c7 Q σ h = (wL Try.prog none f16r5 0 (fun σ h => wC Try.prog f16c8 Q σ h) σ h) := rfl
theorem f16c5_eq : wC Try.prog f16c5 Q σ h = (bd (evO σ (.tmp 26)) fun v => bd (asB v) fun t => br t (wC Try.prog f16c6 (X.then (fun σ h => wC Try.prog f16c7 Q σ h) Q) σ h) (wC Try.prog f16c7 Q σ h)) := rfl
theorem f16c4_eq : wC Try.prog f16c4 Q σ h = (wL Try.prog none f16r3 0 (fun σ h => wC Try.prog f16c5 Q σ h) σ h) := rfl
theorem f16c2_eq : wC Try.prog f16c2 Q σ h = (bd (evO σ (.tmp 18)) fun v => bd (asB v) fun t => br t (wC Try.prog f16c3 (X.then (fun σ h => wC Try.prog f16c4 Q σ h) Q) σ h) (wC Try.prog f16c4 Q σ h)) := rfl
theorem f16c1_eq : wC Try.prog f16c1 Q σ h = (wL Try.prog none f16r1 0 (fun σ h => wC Try.prog f16c2 Q σ h) σ h) := rfl
theorem f16c0_eq : wC Try.prog f16c0 Q σ h = (wL Try.prog none f16r0 0 (fun σ h => wC Try.prog f16c1 Q σ h) σ h) := rfl
end
end Go.Proofs.Ytefghfgmkndikaa
namespace Go.Proofs.Ytefghfgmkndikaa
open Go Go.AX
theorem told_succ {p : Prt} {t : Stamp} {ss : List Spn} {j : Nat} {s : Spn} (h : ss[j]? = some s) : toldL p t (ss.take (j + 1)) = toldL p t (ss.take j) ++ pairsL t (cellsIn p s) := by
  unfold toldL
  rw [List.take_add_one, h]
  simp
theorem told_le (p : Prt) (t : Stamp) (ss : List Spn) (j : Nat) : (toldL p t (ss.take j)).length ≤ (toldL p t ss).length := by
  have : toldL p t ss = toldL p t (ss.take j) ++ toldL p t (ss.drop j) := by
    unfold toldL
    rw [← List.flatMap_append, List.take_append_drop]
  rw [this, List.length_append]
  omega
set_option maxHeartbeats 8000000 in
theorem reads_ok {a : Option Addr} {n : Nat} (l : List Cmd) (read : Int) (h : Heap) (S : SlM (fun b => b < h.size) h a l) (F : LenM l) {R : Value → Heap → Prop}
    (hR : ∀ h', Ext h h' → R (.bool true) h') : CallsH Try.prog 16 [.slice a l.length n, vi read] h R := by
  have hbig : big = 1000000 := rfl
  refine f16ok (by simp) ?_
  (try simp (config := { maxSteps := 1000000 }) (disch := first | exact Nat.le_of_ble_eq_true rfl | omega) only [AXS, AXB, J.dst, reduceIte, Nat.reduceEqDiff, Nat.reduceAdd, Nat.reduceMul, Nat.reduceLT, Nat.reduceLeDiff]); rw [f16c0_eq]; (try simp (config := { maxSteps := 1000000 }) (disch := first | exact Nat.le_of_ble_eq_true rfl | omega) only [AXS, AXB, J.dst, reduceIte, Nat.reduceEqDiff, Nat.reduceAdd, Nat.reduceMul, Nat.reduceLT, Nat.reduceLeDiff, f16r0]); rw [f16c1_eq]; (try simp (config := { maxSteps := 1000000 }) (disch := first | exact Nat.le_of_ble_eq_true rfl | omega) only [AXS, AXB, J.dst, reduceIte, Nat.reduceEqDiff, Nat.reduceAdd, Nat.reduceMul, Nat.reduceLT, Nat.reduceLeDiff, f16r1])
  refine begunP_ok _ ?_
  intro h1 x1
  refine ⟨trivial, ?_⟩
  (try simp (config := { maxSteps := 1000000 }) (disch := first | exact Nat.le_of_ble_eq_true rfl | omega) only [AXS, AXB, J.dst, reduceIte, Nat.reduceEqDiff, Nat.reduceAdd, Nat.reduceMul, Nat.reduceLT, Nat.reduceLeDiff]); rw [f16c2_eq]; (try simp (config := { maxSteps := 1000000 }) (disch := first | exact Nat.le_of_ble_eq_true rfl | omega) only [AXS, AXB, J.dst, reduceIte, Nat.reduceEqDiff, Nat.reduceAdd, Nat.reduceMul, Nat.reduceLT, Nat.reduceLeDiff])
  rw [f16c4_eq]
  simp (config := { maxSteps := 1000000 }) (disch := first | exact Nat.le_of_ble_eq_true rfl | omega) only [AXJ, AXS, AXB, J.dst, reduceIte, Nat.reduceEqDiff, Nat.reduceAdd, Nat.reduceMul, Nat.reduceLT, Nat.reduceLeDiff, f16r3]
  refine lightP_ok l 50 _ (S.ext x1) F ?_
  intro bl h2 hbl x2
  refine ⟨trivial, ?_⟩
  have x02 := x1.trans x2
  try simp (config := { maxSteps := 1000000 }) (disch := first | exact Nat.le_of_ble_eq_true rfl | omega) only [AXJ, AXS, AXB, J.dst, reduceIte, Nat.reduceEqDiff, Nat.reduceAdd, Nat.reduceMul, Nat.reduceLT, Nat.reduceLeDiff]
  (try simp (config := { maxSteps := 1000000 }) (disch := first | exact Nat.le_of_ble_eq_true rfl | omega) only [AXS, AXB, J.dst, reduceIte, Nat.reduceEqDiff, Nat.reduceAdd, Nat.reduceMul, Nat.reduceLT, Nat.reduceLeDiff]); rw [f16c5_eq]; (try simp (config := { maxSteps := 1000000 }) (disch := first | exact Nat.le_of_ble_eq_true rfl | omega) only [AXS, AXB, J.dst, reduceIte, Nat.reduceEqDiff, Nat.reduceAdd, Nat.reduceMul, Nat.reduceLT, Nat.reduceLeDiff])
  refine ⟨fun hh => ?_, fun hh => ?_⟩
  · (try simp (config := { maxSteps := 1000000 }) (disch := first | exact Nat.le_of_ble_eq_true rfl | omega) only [AXS, AXB, J.dst, reduceIte, Nat.reduceEqDiff, Nat.reduceAdd, Nat.reduceMul, Nat.reduceLT, Nat.reduceLeDiff]); rw [f16c6_eq]; (try simp (config := { maxSteps := 1000000 }) (disch := first | exact Nat.le_of_ble_eq_true rfl | omega) only [AXS, AXB, J.dst, reduceIte, Nat.reduceEqDiff, Nat.reduceAdd, Nat.reduceMul, Nat.reduceLT, Nat.reduceLeDiff, f16r4])
    exact hR _ x02
  have hbt : bl = true := by
    cases bl with
    | true => rfl
    | false => simp at hh
  have hl0 : l.length ≠ 0 := by
    intro e
    rw [hbt, e] at hh
    simp at hh
  obtain ⟨hL, hF⟩ := hbl hbt
  clear hh hbl
  (try simp (config := { maxSteps := 1000000 }) (disch := first | exact Nat.le_of_ble_eq_true rfl | omega) only [AXS, AXB, J.dst, reduceIte, Nat.reduceEqDiff, Nat.reduceAdd, Nat.reduceMul, Nat.reduceLT, Nat.reduceLeDiff]); rw [f16c7_eq]; (try simp (config := { maxSteps := 1000000 }) (disch := first | exact Nat.le_of_ble_eq_true rfl | omega) only [AXS, AXB, J.dst, reduceIte, Nat.reduceEqDiff, Nat.reduceAdd, Nat.reduceMul, Nat.reduceLT, Nat.reduceLeDiff, f16r5])
  refine run_ok l _ (S.ext x02) hF (by omega) ?_
  intro ao co h3 O x3
  refine ⟨trivial, ?_⟩
  have x03 := x02.trans x3
  obtain ⟨i0, i1, i2, i3⟩ := mod_idx read (n := l.length) (by omega)
  (try simp (config := { maxSteps := 1000000 }) (disch := first | exact Nat.le_of_ble_eq_true rfl | omega) only [AXS, AXB, J.dst, reduceIte, Nat.reduceEqDiff, Nat.reduceAdd, Nat.reduceMul, Nat.reduceLT, Nat.reduceLeDiff]); rw [f16c8_eq]; (try simp (config := { maxSteps := 1000000 }) (disch := first | exact Nat.le_of_ble_eq_true rfl | omega) only [AXS, AXB, J.dst, reduceIte, Nat.reduceEqDiff, Nat.reduceAdd, Nat.reduceMul, Nat.reduceLT, Nat.reduceLeDiff, f16r6])
  rw [wL_raw]
  refine raw_rem rfl rfl rfl (by omega) ?_
  refine ⟨trivial, ?_⟩
  simp (config := { maxSteps := 1000000 }) (disch := first | exact Nat.le_of_ble_eq_true rfl | omega) only [AXS, AXB, J.dst, reduceIte, Nat.reduceEqDiff, Nat.reduceAdd, Nat.reduceMul, Nat.reduceLT, Nat.reduceLeDiff]
  rw [i64_wrap (by omega) (by omega), wL_raw]
  refine raw_rem rfl rfl rfl (by omega) ?_
  refine ⟨trivial, ?_⟩
  obtain ⟨k0, hk0⟩ : ∃ k0 : Nat, (read.tmod (l.length : Int) + (l.length : Int)).tmod (l.length : Int) = (k0 : Int) := ⟨_, (Int.toNat_of_nonneg i0).symm⟩
  rw [hk0] at i1 ⊢
  clear hk0 i0 i2 i3
  have hk0 : k0 < l.length := by omega
  obtain ⟨c0, hx0⟩ := get_ex hk0
  obtain ⟨b', o, cv, ea, _, hrow, hcr⟩ := (S.ext x03).elem hx0
  subst ea
  obtain ⟨ba, oa, va, eb, hrowa, hpa⟩ := O.elem (allP_at (show k0 ≤ l.length by omega))
  subst eb
  have hg := runs_good hF k0 (by omega)
  have la := hrowa.lt (by rw [ePr_len]; omega)
  have lb := hrow.lt (by rw [eCm_len]; omega)
  have z03 := x03.size
  have hL0 := hF c0 (List.mem_of_getElem? hx0)
  try simp (config := { maxSteps := 1000000 }) (disch := first | exact Nat.le_of_ble_eq_true rfl | omega) only [AXS, AXB, J.dst, reduceIte, Nat.reduceEqDiff, Nat.reduceAdd, Nat.reduceMul, Nat.reduceLT, Nat.reduceLeDiff]
  rw [f16c9_eq]
  refine drt_lt ?_
  simp only [f16r7, wT_one, wT_alt, wT_nil]
  simp (config := { maxSteps := 1000000 }) (disch := first | exact Nat.le_of_ble_eq_true rfl | omega) only [AXS, AXB, J.dst, reduceIte, Nat.reduceEqDiff, Nat.reduceAdd, Nat.reduceMul, Nat.reduceLT, Nat.reduceLeDiff, row_pr hrowa, row_cm hrow]
  generalize hcc : ownM (runP (l.take k0)) c0 = c1 at *
  have hcl : c1.writes.length < 100 ∧ c1.spans.length < 100 := by subst hcc; exact ⟨hL0.2, hL0.1⟩
  have hct : c1.s.at_ = c0.s.at_ := by subst hcc; rfl
  generalize hpp : runP (l.take k0) = p0 at *
  have app : ∀ h5 b6 cv', Ext h3 h5 → Blk h5 b6 43 (eCm cv') → h3.size ≤ b6 → CmR (fun b => b < h.size) h5 cv' c1 →
      wC Try.prog f16c10 (endW [.tmp 4] R) [(0, .slice (some ⟨b', o, none⟩) l.length n), (1, vi k0), (5, .slice (some ⟨ba, oa, none⟩) (l.length + 1) co), (6, ptr b6 0)] h5 := by
    intro h5 b6 cv' x35 B6 l6 C5
    (try simp (config := { maxSteps := 1000000 }) (disch := first | exact Nat.le_of_ble_eq_true rfl | omega) only [AXS, AXB, J.dst, reduceIte, Nat.reduceEqDiff, Nat.reduceAdd, Nat.reduceMul, Nat.reduceLT, Nat.reduceLeDiff]); rw [f16c10_eq]; (try simp (config := { maxSteps := 1000000 }) (disch := first | exact Nat.le_of_ble_eq_true rfl | omega) only [AXS, AXB, J.dst, reduceIte, Nat.reduceEqDiff, Nat.reduceAdd, Nat.reduceMul, Nat.reduceLT, Nat.reduceLeDiff, f16r8])
    refine wL_stN rfl rfl rfl B6 (by rw [eCm_len]; exact Nat.le_of_ble_eq_true rfl) int_one ?_
    rintro h6 u6 (B6 : Blk _ _ _ (eCm { cv' with s := { cv'.s with kind := 2 } }))
    have C6' := C5.at_ (h' := h6) fun b hb => u6.ne b (by have hb' : b < h.size := hb; omega)
    have x36 := u6.ext x35 l6
    generalize hce : ({ c1 with s := { c1.s with kind := 2 } } : Cmd) = c
    have hck : c.s.kind = 2 := by rw [← hce]
    have hcat : c.s.at_ = c0.s.at_ := by rw [← hce]; exact hct
    have hcw : c.writes.length < 100 ∧ c.spans.length < 100 := by rw [← hce]; exact hcl
    have C6 : CmR (fun b => b < h.size) h6 { cv' with s := { cv'.s with kind := 2 } } c := by
      subst hce
      exact ⟨by show ({ cv'.s with kind := 2 } : CmS) = _; rw [C6'.s], C6'.sn, C6'.wn, C6'.spans, C6'.writes⟩
    generalize ({ cv' with s := { cv'.s with kind := 2 } } : CmV) = cv2 at *
    clear C5 C6' hce
    have hcs := C6.s
    have ra6 := hrowa.ext x36
    have pa6 := hpa.ext x36
    have z36 := x36.size
    have l66 := B6.lt
    have x06 := x03.trans x36
    try simp (config := { maxSteps := 1000000 }) (disch := first | exact Nat.le_of_ble_eq_true rfl | omega) only [AXS, AXB, J.dst, reduceIte, Nat.reduceEqDiff, Nat.reduceAdd, Nat.reduceMul, Nat.reduceLT, Nat.reduceLeDiff]
    rw [f16c11_eq]
    refine drt_lt ?_
    simp only [f16r9, wT_one, wT_alt, wT_nil]
    simp (config := { maxSteps := 1000000 }) (disch := first | exact Nat.le_of_ble_eq_true rfl | omega) only [AXS, AXB, J.dst, reduceIte, Nat.reduceEqDiff, Nat.reduceAdd, Nat.reduceMul, Nat.reduceLT, Nat.reduceLeDiff, row_pr ra6, B6.rd, eCm]
    have law := fun h => read_start (c := c) (p := p0) hg.sz.cells.good hck h
    have g1 := applyG (c := c) hg ⟨hcw.2, hcw.1⟩
    have app2 : ∀ hz b7 b8 pv rv, Ext h6 hz → Blk hz b7 116 (ePr pv) → Blk hz b8 47 (eRp rv) → h6.size ≤ b7 → h6.size ≤ b8 → b7 ≠ b8 → PrR (fun b => b ≠ b7) hz pv (applyP p0 c).1 → rv.s = (applyP p0 c).2.s → rv.pn = (applyP p0 c).2.pairs.length →
        SlF (fun b => b ≠ b7 ∧ b < hz.size) hz ePai rv.pa (applyP p0 c).2.pairs → wC Try.prog f16c12 (endW [.tmp 4] R) [(0, .slice (some ⟨b', o, none⟩) l.length n), (1, vi k0), (6, ptr b6 0), (7, ptr b7 0), (8, ptr b8 0)] hz := by
      intro hz b7 b8 pv rv x6z B7 B8 l7 l8 l78 hp hrv hpn hpairs
      have x0z := x06.trans x6z
      rw [f16c12_eq]
      by_cases he : (applyP p0 c).2.s.err = 0
      · obtain ⟨s1, s2, s3, s4⟩ := law he
        simp (config := { maxSteps := 1000000 }) (disch := first | exact Nat.le_of_ble_eq_true rfl | omega) only [AXJ, AXS, AXB, J.dst, reduceIte, Nat.reduceEqDiff, Nat.reduceAdd, Nat.reduceMul, Nat.reduceLT, Nat.reduceLeDiff, ↓br_TT, ↓br_TF, ↓br_FT, ↓br_FF, f16r10, B8.cel, eRp, hrv, he]
        refine negative_ok l _ (S.ext x0z) (by omega) ?_
        intro bn hbn
        refine ⟨trivial, ?_⟩
        try simp (config := { maxSteps := 1000000 }) (disch := first | exact Nat.le_of_ble_eq_true rfl | omega) only [AXJ, AXS, AXB, J.dst, reduceIte, Nat.reduceEqDiff, Nat.reduceAdd, Nat.reduceMul, Nat.reduceLT, Nat.reduceLeDiff]
        rw [f16c13_eq]
        simp (config := { maxSteps := 1000000 }) (disch := first | exact Nat.le_of_ble_eq_true rfl | omega) only [AXS, AXB, J.dst, reduceIte, Nat.reduceEqDiff, Nat.reduceAdd, Nat.reduceMul, Nat.reduceLT, Nat.reduceLeDiff]
        refine ⟨fun q => ?_, fun q => ?_⟩
        · (try simp (config := { maxSteps := 1000000 }) (disch := first | exact Nat.le_of_ble_eq_true rfl | omega) only [AXS, AXB, J.dst, reduceIte, Nat.reduceEqDiff, Nat.reduceAdd, Nat.reduceMul, Nat.reduceLT, Nat.reduceLeDiff]); rw [f16c14_eq]; (try simp (config := { maxSteps := 1000000 }) (disch := first | exact Nat.le_of_ble_eq_true rfl | omega) only [AXS, AXB, J.dst, reduceIte, Nat.reduceEqDiff, Nat.reduceAdd, Nat.reduceMul, Nat.reduceLT, Nat.reduceLeDiff, f16r11])
          exact hR _ x0z
        have ht0 : 0 ≤ c.s.at_.tie := by rw [hcat]; exact hbn q c0 (List.mem_of_getElem? hx0)
        have rd0 : Rd c.s.at_ c.spans p0 (applyP p0 c).1 := by rw [s2]; exact Rd.start hg.sz.cells.good s1
        rw [s3] at hpn hpairs
        have C0 := C6.ext x6z
        have Bz6 := B6.ext x6z
        generalize ht : c.s.at_ = t at *
        generalize hw : toldL p0 t c.spans = w at *
        (try simp (config := { maxSteps := 1000000 }) (disch := first | exact Nat.le_of_ble_eq_true rfl | omega) only [AXS, AXB, J.dst, reduceIte, Nat.reduceEqDiff, Nat.reduceAdd, Nat.reduceMul, Nat.reduceLT, Nat.reduceLeDiff]); rw [f16c15_eq]; (try simp (config := { maxSteps := 1000000 }) (disch := first | exact Nat.le_of_ble_eq_true rfl | omega) only [AXS, AXB, J.dst, reduceIte, Nat.reduceEqDiff, Nat.reduceAdd, Nat.reduceMul, Nat.reduceLT, Nat.reduceLeDiff, f16r12])
        rw [i64_wrap (by omega) (by omega)]
        rw [f16c16_eq]
        refine loop_in (fun m σ h' => Gr (some b7) hz h' ∧ ∃ (k : Nat) (pv : PrV) (p : Prt), k + m = l.length ∧ k0 < k ∧ Blk h' b7 116 (ePr pv) ∧ PrR (fun b => b ≠ b7) h' pv p ∧ GdP (100 * (k + 1)) p ∧ Rd t c.spans p0 p ∧
          σ = [(0, .slice (some ⟨b', o, none⟩) l.length n), (6, ptr b6 0), (7, ptr b7 0), (8, ptr b8 0), (9, vi k)]) (l.length - (k0 + 1)) ⟨(Ext.refl _).gr _, k0 + 1, pv, _, by omega, by omega, B7, hp, g1.mono (by omega), rd0, rfl⟩ ?_
        clear hp B7 pv
        rintro m σ h9 ⟨G9, k, pv, p, hk, hkk, B7, hp, gp, rd, rfl⟩ Q' hnx hex hrt _
        have x09 : Ext h h9 := G9.ext x0z (fun j hj => by cases hj; omega)
        have B6 := G9.blk Bz6 (fun e => by cases e; omega)
        have B8 := G9.blk B8 (fun e => by cases e; exact l78 rfl)
        have C9 := C0.at_ (h' := h9) fun b hb => G9.at_ b (by have hb' : b < h.size := hb; have := x0z.size; omega) (fun e => by cases e; have hb' : b7 < h.size := hb; omega)
        have pr9 := hpairs.to (h' := h9) (B' := fun b => b < hz.size ∧ b ≠ b7) fun b hb => ⟨⟨hb.2, hb.1⟩, G9.at_ b hb.2 (fun e => by cases e; exact hb.1 rfl)⟩
        have m7 := B7.lt
        have m6 := B6.lt
        have m8 := B8.lt
        have zz9 := G9.size
        (try simp (config := { maxSteps := 1000000 }) (disch := first | exact Nat.le_of_ble_eq_true rfl | omega) only [AXS, AXB, J.dst, reduceIte, Nat.reduceEqDiff, Nat.reduceAdd, Nat.reduceMul, Nat.reduceLT, Nat.reduceLeDiff]); rw [f16c17_eq]; (try simp (config := { maxSteps := 1000000 }) (disch := first | exact Nat.le_of_ble_eq_true rfl | omega) only [AXS, AXB, J.dst, reduceIte, Nat.reduceEqDiff, Nat.reduceAdd, Nat.reduceMul, Nat.reduceLT, Nat.reduceLeDiff, f16r13]); rw [f16c18_eq]; (try simp (config := { maxSteps := 1000000 }) (disch := first | exact Nat.le_of_ble_eq_true rfl | omega) only [AXS, AXB, J.dst, reduceIte, Nat.reduceEqDiff, Nat.reduceAdd, Nat.reduceMul, Nat.reduceLT, Nat.reduceLeDiff])
        refine ⟨fun hh => ?_, fun hh => ?_⟩
        · have hkl : k < l.length := by have := of_decide_eq_true hh; omega
          obtain ⟨ci, hxi⟩ := get_ex hkl
          obtain ⟨b1, o1, cvi, ei, hb1, hrowi, hcri⟩ := (S.ext x09).elem hxi
          cases ei
          have hLi := hF ci (List.mem_of_getElem? hxi)
          have mi := hrowi.lt (by rw [eCm_len]; omega)
          have hci := hcri.s
          have hb1' : b' < h.size := hb1
          try simp (config := { maxSteps := 1000000 }) (disch := first | exact Nat.le_of_ble_eq_true rfl | omega) only [AXS, AXB, J.dst, reduceIte, Nat.reduceEqDiff, Nat.reduceAdd, Nat.reduceMul, Nat.reduceLT, Nat.reduceLeDiff]
          rw [f16c19_eq, f16c20_eq]
          refine drw_lt ?_
          by_cases h3 : ci.s.kind = 3 ∧ ci.s.at_ = t
          · have e1 : (ci.s.kind == 3) = true := by simpa using h3.1
            have e2 := h3.2
            simp (config := { maxSteps := 1000000 }) (disch := first | exact Nat.le_of_ble_eq_true rfl | omega) only [AXJ, AXS, AXB, J.dst, reduceIte, Nat.reduceEqDiff, Nat.reduceAdd, Nat.reduceMul, Nat.reduceLT, Nat.reduceLeDiff, ↓br_TT, ↓br_TF, ↓br_FT, ↓br_FF, f16r14, row_cm2 hrowi, hci, B6.rd, eCm, hcs, ht, e1, eStamp, eqA_stamp, e2, decide_true]
            repeat (with_reducible refine And.intro (by intros; omega) ?_)
            rw [f16c21_eq]
            simp (config := { maxSteps := 1000000 }) (disch := first | exact Nat.le_of_ble_eq_true rfl | omega) only [AXS, AXB, J.dst, reduceIte, Nat.reduceEqDiff, Nat.reduceAdd, Nat.reduceMul, Nat.reduceLT, Nat.reduceLeDiff]
            (try simp (config := { maxSteps := 1000000 }) (disch := first | exact Nat.le_of_ble_eq_true rfl | omega) only [AXS, AXB, J.dst, reduceIte, Nat.reduceEqDiff, Nat.reduceAdd, Nat.reduceMul, Nat.reduceLT, Nat.reduceLeDiff]); rw [f16c22_eq]; (try simp (config := { maxSteps := 1000000 }) (disch := first | exact Nat.le_of_ble_eq_true rfl | omega) only [AXS, AXB, J.dst, reduceIte, Nat.reduceEqDiff, Nat.reduceAdd, Nat.reduceMul, Nat.reduceLT, Nat.reduceLeDiff, f16r15])
            refine hrt _ _ ?_
            simp (config := { maxSteps := 1000000 }) (disch := first | exact Nat.le_of_ble_eq_true rfl | omega) only [AXS, AXB, J.dst, reduceIte, Nat.reduceEqDiff, Nat.reduceAdd, Nat.reduceMul, Nat.reduceLT, Nat.reduceLeDiff]
            exact hR _ x09
          have fin3 : wC Try.prog f16c23 (X.inBlock 1 (X.then (fun σ h => wC Try.prog f16c52 Q' σ h) Q')) [(88, .bool false), (0, .slice (some ⟨b', o, none⟩) l.length n), (6, ptr b6 0), (7, ptr b7 0), (8, ptr b8 0), (9, vi k)] h9 := by
            have app4 : ∀ h12 pv4, Gr (some b7) h9 h12 → Blk h12 b7 116 (ePr pv4) → PrR (fun b => b ≠ b7) h12 pv4 (applyP p (ownM p ci)).1 →
                wC Try.prog f16c24 (X.inBlock 1 (X.then (fun σ h => wC Try.prog f16c52 Q' σ h) Q')) [(0, .slice (some ⟨b', o, none⟩) l.length n), (6, ptr b6 0), (7, ptr b7 0), (8, ptr b8 0), (9, vi k)] h12 := by
              intro h12 pv4 G12 B7 hq
              have gq := applyG (c := ownM p ci) gp hLi
              have hqs := hq.s
              have G912 := G9.trans G12
              have x012 : Ext h h12 := G912.ext x0z (fun j hj => by cases hj; omega)
              have B6 := G12.blk B6 (fun e => by cases e; omega)
              have B8 := G12.blk B8 (fun e => by cases e; exact l78 rfl)
              have C12 := C9.at_ (h' := h12) fun b hb => G12.at_ b (by have hb' : b < h.size := hb; have := x09.size; omega) (fun e => by cases e; have hb' : b7 < h.size := hb; omega)
              have pr12 := pr9.to (h' := h12) (B' := fun b => b < h12.size) fun b hb => ⟨by have := G912.size; omega, G12.at_ b (by omega) (fun e => by cases e; exact hb.2 rfl)⟩
              have rds := fun hl => rd.step (c := ownM p ci) gp hLi ht0 h3 hl
              generalize (applyP p (ownM p ci)).1 = q at *
              (try simp (config := { maxSteps := 1000000 }) (disch := first | exact Nat.le_of_ble_eq_true rfl | omega) only [AXS, AXB, J.dst, reduceIte, Nat.reduceEqDiff, Nat.reduceAdd, Nat.reduceMul, Nat.reduceLT, Nat.reduceLeDiff]); rw [f16c24_eq]; (try simp (config := { maxSteps := 1000000 }) (disch := first | exact Nat.le_of_ble_eq_true rfl | omega) only [AXS, AXB, J.dst, reduceIte, Nat.reduceEqDiff, Nat.reduceAdd, Nat.reduceMul, Nat.reduceLT, Nat.reduceLeDiff, f16r17, B6.cel, eCm, hcs, ht, B7.cel, ePr, hqs])
              (try simp (config := { maxSteps := 1000000 }) (disch := first | exact Nat.le_of_ble_eq_true rfl | omega) only [AXS, AXB, J.dst, reduceIte, Nat.reduceEqDiff, Nat.reduceAdd, Nat.reduceMul, Nat.reduceLT, Nat.reduceLeDiff]); rw [f16c25_eq]; (try simp (config := { maxSteps := 1000000 }) (disch := first | exact Nat.le_of_ble_eq_true rfl | omega) only [AXS, AXB, J.dst, reduceIte, Nat.reduceEqDiff, Nat.reduceAdd, Nat.reduceMul, Nat.reduceLT, Nat.reduceLeDiff])
              refine ⟨fun q5 => ?_, fun q5 => ?_⟩
              · (try simp (config := { maxSteps := 1000000 }) (disch := first | exact Nat.le_of_ble_eq_true rfl | omega) only [AXS, AXB, J.dst, reduceIte, Nat.reduceEqDiff, Nat.reduceAdd, Nat.reduceMul, Nat.reduceLT, Nat.reduceLeDiff]); rw [f16c26_eq]; (try simp (config := { maxSteps := 1000000 }) (disch := first | exact Nat.le_of_ble_eq_true rfl | omega) only [AXS, AXB, J.dst, reduceIte, Nat.reduceEqDiff, Nat.reduceAdd, Nat.reduceMul, Nat.reduceLT, Nat.reduceLeDiff, f16r18])
                refine hrt _ _ ?_
                simp (config := { maxSteps := 1000000 }) (disch := first | exact Nat.le_of_ble_eq_true rfl | omega) only [AXS, AXB, J.dst, reduceIte, Nat.reduceEqDiff, Nat.reduceAdd, Nat.reduceMul, Nat.reduceLT, Nat.reduceLeDiff]
                exact hR _ x012
              have rd' := rds (of_decide_eq_false q5)
              (try simp (config := { maxSteps := 1000000 }) (disch := first | exact Nat.le_of_ble_eq_true rfl | omega) only [AXS, AXB, J.dst, reduceIte, Nat.reduceEqDiff, Nat.reduceAdd, Nat.reduceMul, Nat.reduceLT, Nat.reduceLeDiff]); rw [f16c27_eq]; (try simp (config := { maxSteps := 1000000 }) (disch := first | exact Nat.le_of_ble_eq_true rfl | omega) only [AXS, AXB, J.dst, reduceIte, Nat.reduceEqDiff, Nat.reduceAdd, Nat.reduceMul, Nat.reduceLT, Nat.reduceLeDiff, f16r19]); rw [f16c28_eq]; (try simp (config := { maxSteps := 1000000 }) (disch := first | exact Nat.le_of_ble_eq_true rfl | omega) only [AXS, AXB, J.dst, reduceIte, Nat.reduceEqDiff, Nat.reduceAdd, Nat.reduceMul, Nat.reduceLT, Nat.reduceLeDiff, f16r20])
              rw [f16c29_eq]
              refine loop_in (fun m σ h' => Ext h12 h' ∧ ∃ (j : Nat) (na : Option Addr) (nc : Nat), j + m = c.spans.length ∧ Own h12.size h' 99 2 na (toldL p0 t (c.spans.take j)).length nc ((toldL p0 t (c.spans.take j)).flatMap ePai) ∧
                σ = [(0, .slice (some ⟨b', o, none⟩) l.length n), (6, ptr b6 0), (7, ptr b7 0), (8, ptr b8 0), (9, vi k), (10, .slice na (toldL p0 t (c.spans.take j)).length nc), (11, vi j)]) c.spans.length ⟨Ext.refl _, 0, none, 0, by omega, Own.nil _ _ _ _, rfl⟩ ?_
              rintro m2 σ h13 ⟨x13, j, na, nc, hj, On, rfl⟩ Q2 hnx2 hex2 hrt2 _
              replace B6 := B6.ext x13; replace B7 := B7.ext x13; replace B8 := B8.ext x13; replace C12 := C12.ext x13; replace hq := hq.ext x13; replace pr12 := pr12.ext x13
              have n6 := B6.lt
              have n7 := B7.lt
              have n8 := B8.lt
              have z13 := x13.size
              (try simp (config := { maxSteps := 1000000 }) (disch := first | exact Nat.le_of_ble_eq_true rfl | omega) only [AXS, AXB, J.dst, reduceIte, Nat.reduceEqDiff, Nat.reduceAdd, Nat.reduceMul, Nat.reduceLT, Nat.reduceLeDiff]); rw [f16c30_eq]; (try simp (config := { maxSteps := 1000000 }) (disch := first | exact Nat.le_of_ble_eq_true rfl | omega) only [AXS, AXB, J.dst, reduceIte, Nat.reduceEqDiff, Nat.reduceAdd, Nat.reduceMul, Nat.reduceLT, Nat.reduceLeDiff, f16r21, B6.cel, eCm, C12.sn]); rw [f16c31_eq]; (try simp (config := { maxSteps := 1000000 }) (disch := first | exact Nat.le_of_ble_eq_true rfl | omega) only [AXS, AXB, J.dst, reduceIte, Nat.reduceEqDiff, Nat.reduceAdd, Nat.reduceMul, Nat.reduceLT, Nat.reduceLeDiff, B6.cel, eCm, C12.sn])
              refine ⟨fun q6 => ?_, fun q6 => ?_⟩
              · have hjl : j < c.spans.length := by have := of_decide_eq_true q6; omega
                obtain ⟨s, hxs⟩ := get_ex hjl
                obtain ⟨bs, os, es, _, hrows⟩ := C12.spans.elem eSpn_len hxs
                have hs := List.mem_of_getElem? hxs
                have hsl := hrows.lt (by rw [eSpn_len]; omega)
                have hle := told_le p0 t c.spans (j + 1)
                have hsu := told_succ (p := p0) (t := t) hxs
                rw [hsu, List.length_append, hw] at hle
                have hblk := rd'.blocks gq hs
                have hscn := rd'.scan gq hs (most := 10000) (by omega)
                have app5 : ∀ h14, Ext h13 h14 → wC Try.prog f16c34 (X.inBlock 3 (X.then (fun σ h => wC Try.prog f16c39 Q2 σ h) Q2)) [(0, .slice (some ⟨b', o, none⟩) l.length n), (6, ptr b6 0), (7, ptr b7 0), (8, ptr b8 0), (9, vi k), (10, .slice na (toldL p0 t (c.spans.take j)).length nc), (11, vi j), (13, .bool false)] h14 := by
                  intro h14 x14
                  replace B6 := B6.ext x14; replace B7 := B7.ext x14; replace hq := hq.ext x14; replace hrows := hrows.ext x14
                  have z14 := x14.size
                  rw [f16c34_eq]
                  refine drw_lt ?_
                  simp (config := { maxSteps := 1000000 }) (disch := first | exact Nat.le_of_ble_eq_true rfl | omega) only [AXS, AXB, J.dst, reduceIte, Nat.reduceEqDiff, Nat.reduceAdd, Nat.reduceMul, Nat.reduceLT, Nat.reduceLeDiff, f16r23, B7.cel, ePr, hq.cn, B6.cel, B6.rd, eCm, hcs, ht, C12.sn, es, row_spn hrows]
                  repeat (with_reducible refine And.intro (by intros; omega) ?_)
                  refine rscanG gq.sz.cells (by omega) hq.cells s t 10000 ?_
                  rw [hscn]
                  intro xa xc h15 X15 x15
                  refine ⟨kp_ext (Nat.le_refl _) x15, ?_⟩
                  try simp (config := { maxSteps := 1000000 }) (disch := first | exact Nat.le_of_ble_eq_true rfl | omega) only [AXS, AXB, J.dst, reduceIte, Nat.reduceEqDiff, Nat.reduceAdd, Nat.reduceMul, Nat.reduceLT, Nat.reduceLeDiff]
                  have z15 := x15.size
                  rw [f16c35_eq]
                  simp (config := { maxSteps := 1000000 }) (disch := first | exact Nat.le_of_ble_eq_true rfl | omega) only [AXJ, AXS, AXB, J.dst, reduceIte, Nat.reduceEqDiff, Nat.reduceAdd, Nat.reduceMul, Nat.reduceLT, Nat.reduceLeDiff, ↓br_TT, ↓br_TF, ↓br_FT, ↓br_FF, f16r24]
                  rw [f16c36_eq]
                  simp (config := { maxSteps := 1000000 }) (disch := first | exact Nat.le_of_ble_eq_true rfl | omega) only [AXS, AXB, J.dst, reduceIte, Nat.reduceEqDiff, Nat.reduceAdd, Nat.reduceMul, Nat.reduceLT, Nat.reduceLeDiff]
                  (try simp (config := { maxSteps := 1000000 }) (disch := first | exact Nat.le_of_ble_eq_true rfl | omega) only [AXS, AXB, J.dst, reduceIte, Nat.reduceEqDiff, Nat.reduceAdd, Nat.reduceMul, Nat.reduceLT, Nat.reduceLeDiff]); rw [f16c38_eq]; (try simp (config := { maxSteps := 1000000 }) (disch := first | exact Nat.le_of_ble_eq_true rfl | omega) only [AXS, AXB, J.dst, reduceIte, Nat.reduceEqDiff, Nat.reduceAdd, Nat.reduceMul, Nat.reduceLT, Nat.reduceLeDiff, f16r26])
                  rw [wL_raw]
                  refine raw_append slT45 rfl rfl rfl (On.ext (x14.trans x15)) (flat_len (pairsL t (cellsIn p0 s))) (own_news X15) (one_flatMap ePai_one _) (by unfold maxLen; omega) (by omega) (by omega) ?_
                  intro na' nc' h16 O16 G16 A16
                  refine ⟨trivial, ?_⟩
                  try simp (config := { maxSteps := 1000000 }) (disch := first | exact Nat.le_of_ble_eq_true rfl | omega) only [AXS, AXB, J.dst, reduceIte, Nat.reduceEqDiff, Nat.reduceAdd, Nat.reduceMul, Nat.reduceLT, Nat.reduceLeDiff]
                  (try simp (config := { maxSteps := 1000000 }) (disch := first | exact Nat.le_of_ble_eq_true rfl | omega) only [AXS, AXB, J.dst, reduceIte, Nat.reduceEqDiff, Nat.reduceAdd, Nat.reduceMul, Nat.reduceLT, Nat.reduceLeDiff]); rw [f16c39_eq]; (try simp (config := { maxSteps := 1000000 }) (disch := first | exact Nat.le_of_ble_eq_true rfl | omega) only [AXS, AXB, J.dst, reduceIte, Nat.reduceEqDiff, Nat.reduceAdd, Nat.reduceMul, Nat.reduceLT, Nat.reduceLeDiff, f16r27])
                  rw [i64_wrap (by omega) (by omega)]
                  refine hnx2 (m2 - 1) _ _ (by omega) ⟨G16.ext (x13.trans (x14.trans x15)) (fun j hj => (On.ob j hj).1), j + 1, na', nc', by omega, ?_, ?_⟩
                  · rw [hsu, List.length_append, List.flatMap_append]; exact O16
                  · rw [hsu, List.length_append]; rfl
                try simp (config := { maxSteps := 1000000 }) (disch := first | exact Nat.le_of_ble_eq_true rfl | omega) only [AXS, AXB, J.dst, reduceIte, Nat.reduceEqDiff, Nat.reduceAdd, Nat.reduceMul, Nat.reduceLT, Nat.reduceLeDiff]
                rw [f16c32_eq, f16c33_eq]
                refine drt_lt ?_
                simp only [f16r22, wT_one, wT_alt, wT_nil]
                simp (config := { maxSteps := 1000000 }) (disch := first | exact Nat.le_of_ble_eq_true rfl | omega) only [AXS, AXB, J.dst, reduceIte, Nat.reduceEqDiff, Nat.reduceAdd, Nat.reduceMul, Nat.reduceLT, Nat.reduceLeDiff, B7.cel, ePr, hq.cn, B6.cel, B6.rd, eCm, hcs, ht, C12.sn, es, row_spn hrows]
                refine ⟨by omega, by omega, by omega, by omega, by omega, by omega, ?_, ?_⟩
                · refine rblocksG gq.sz.cells (by omega) hq.cells s t ?_
                  rw [hblk]
                  intro h14 x14
                  refine ⟨kp_ext (Nat.le_refl _) x14, ?_⟩
                  try simp (config := { maxSteps := 1000000 }) (disch := first | exact Nat.le_of_ble_eq_true rfl | omega) only [AXS, AXB, J.dst, reduceIte, Nat.reduceEqDiff, Nat.reduceAdd, Nat.reduceMul, Nat.reduceLT, Nat.reduceLeDiff]
                  have z14 := x14.size
                  refine wL_newD x14.size ?_; rintro b12 h15 x15 s15 hb12 B12
                  try simp (config := { maxSteps := 1000000 }) (disch := first | exact Nat.le_of_ble_eq_true rfl | omega) only [AXS, AXB, J.dst, reduceIte, Nat.reduceEqDiff, Nat.reduceAdd, Nat.reduceMul, Nat.reduceLT, Nat.reduceLeDiff]
                  refine wL_stD rfl rfl (by omega) rfl B12 (by decide) (eLck_one _) ?_
                  rintro h16 u16 -
                  try simp (config := { maxSteps := 1000000 }) (disch := first | exact Nat.le_of_ble_eq_true rfl | omega) only [AXS, AXB, J.dst, reduceIte, Nat.reduceEqDiff, Nat.reduceAdd, Nat.reduceMul, Nat.reduceLT, Nat.reduceLeDiff]
                  exact app5 h16 (u16.ext (x14.trans x15) (by omega))
                · refine wL_newD (Nat.le_refl _) ?_; rintro b12 h15 x15 s15 hb12 B12
                  try simp (config := { maxSteps := 1000000 }) (disch := first | exact Nat.le_of_ble_eq_true rfl | omega) only [AXS, AXB, J.dst, reduceIte, Nat.reduceEqDiff, Nat.reduceAdd, Nat.reduceMul, Nat.reduceLT, Nat.reduceLeDiff]
                  refine rblocksG gq.sz.cells (by omega) (hq.ext x15).cells s t ?_
                  rw [hblk]
                  intro h14 x14
                  refine ⟨kp_ext x15.size x14, ?_⟩
                  try simp (config := { maxSteps := 1000000 }) (disch := first | exact Nat.le_of_ble_eq_true rfl | omega) only [AXS, AXB, J.dst, reduceIte, Nat.reduceEqDiff, Nat.reduceAdd, Nat.reduceMul, Nat.reduceLT, Nat.reduceLeDiff]
                  have z14 := x14.size
                  refine wL_stD rfl rfl (by omega) rfl (B12.ext x14) (by decide) (eLck_one _) ?_
                  rintro h16 u16 -
                  try simp (config := { maxSteps := 1000000 }) (disch := first | exact Nat.le_of_ble_eq_true rfl | omega) only [AXS, AXB, J.dst, reduceIte, Nat.reduceEqDiff, Nat.reduceAdd, Nat.reduceMul, Nat.reduceLT, Nat.reduceLeDiff]
                  exact app5 h16 (u16.ext (x15.trans x14) (by omega))
              · have hjl : j = c.spans.length := by have := of_decide_eq_false q6; omega
                subst hjl
                rw [List.take_length, hw] at On ⊢
                refine hex2 _ _ ?_
                clear hj hnx2 hex2 hrt2 q6
                have hnow := SlF.of_own On rfl
                rw [f16c40_eq]
                simp (config := { maxSteps := 1000000 }) (disch := first | exact Nat.le_of_ble_eq_true rfl | omega) only [AXS, AXB, J.dst, reduceIte, Nat.reduceEqDiff, Nat.reduceAdd, Nat.reduceMul, Nat.reduceLT, Nat.reduceLeDiff, f16r28, B8.cel, eRp, hpn]
                rw [f16c41_eq]
                simp (config := { maxSteps := 1000000 }) (disch := first | exact Nat.le_of_ble_eq_true rfl | omega) only [AXS, AXB, J.dst, reduceIte, Nat.reduceEqDiff, Nat.reduceAdd, Nat.reduceMul, Nat.reduceLT, Nat.reduceLeDiff]
                (try simp (config := { maxSteps := 1000000 }) (disch := first | exact Nat.le_of_ble_eq_true rfl | omega) only [AXS, AXB, J.dst, reduceIte, Nat.reduceEqDiff, Nat.reduceAdd, Nat.reduceMul, Nat.reduceLT, Nat.reduceLeDiff]); rw [f16c43_eq]; (try simp (config := { maxSteps := 1000000 }) (disch := first | exact Nat.le_of_ble_eq_true rfl | omega) only [AXS, AXB, J.dst, reduceIte, Nat.reduceEqDiff, Nat.reduceAdd, Nat.reduceMul, Nat.reduceLT, Nat.reduceLeDiff, f16r30])
                rw [f16c44_eq]
                refine loop_in1 (fun m σ h' => h' = h13 ∧ ∃ i : Nat, i + m = w.length ∧ σ = [(0, .slice (some ⟨b', o, none⟩) l.length n), (6, ptr b6 0), (7, ptr b7 0), (8, ptr b8 0), (9, vi k), (10, .slice na w.length nc), (16, vi i)]) w.length ⟨rfl, 0, by omega, rfl⟩ ?_
                rintro m3 σ h14 ⟨rfl, i, hi, rfl⟩ Q3 hnx3 hex3 hrt3 _
                (try simp (config := { maxSteps := 1000000 }) (disch := first | exact Nat.le_of_ble_eq_true rfl | omega) only [AXS, AXB, J.dst, reduceIte, Nat.reduceEqDiff, Nat.reduceAdd, Nat.reduceMul, Nat.reduceLT, Nat.reduceLeDiff]); rw [f16c45_eq]; (try simp (config := { maxSteps := 1000000 }) (disch := first | exact Nat.le_of_ble_eq_true rfl | omega) only [AXS, AXB, J.dst, reduceIte, Nat.reduceEqDiff, Nat.reduceAdd, Nat.reduceMul, Nat.reduceLT, Nat.reduceLeDiff, f16r31]); rw [f16c46_eq]; (try simp (config := { maxSteps := 1000000 }) (disch := first | exact Nat.le_of_ble_eq_true rfl | omega) only [AXS, AXB, J.dst, reduceIte, Nat.reduceEqDiff, Nat.reduceAdd, Nat.reduceMul, Nat.reduceLT, Nat.reduceLeDiff])
                refine ⟨fun q7 => ?_, fun q7 => ?_⟩
                · have hil : i < w.length := by have := of_decide_eq_true q7; omega
                  obtain ⟨x, hxj⟩ := get_ex hil
                  obtain ⟨c1', o1', r1, _, hrow1⟩ := hnow.elem ePai_len hxj
                  obtain ⟨c2', o2', r2, _, hrow2⟩ := pr12.elem ePai_len hxj
                  have m1 := hrow1.lt (by rw [ePai_len]; omega)
                  have m2' := hrow2.lt (by rw [ePai_len]; omega)
                  try simp (config := { maxSteps := 1000000 }) (disch := first | exact Nat.le_of_ble_eq_true rfl | omega) only [AXS, AXB, J.dst, reduceIte, Nat.reduceEqDiff, Nat.reduceAdd, Nat.reduceMul, Nat.reduceLT, Nat.reduceLeDiff]
                  rw [f16c47_eq, f16c48_eq]
                  refine drw_lt ?_
                  simp (config := { maxSteps := 1000000 }) (disch := first | exact Nat.le_of_ble_eq_true rfl | omega) only [AXS, AXB, J.dst, reduceIte, Nat.reduceEqDiff, Nat.reduceAdd, Nat.reduceMul, Nat.reduceLT, Nat.reduceLeDiff, f16r32, r1, row_pai hrow1, B8.cel, eRp, hpn, r2, row_pai hrow2, eqA_paiN, decide_true]
                  repeat (with_reducible refine And.intro (by intros; omega) ?_)
                  rw [f16c49_eq]
                  simp (config := { maxSteps := 1000000 }) (disch := first | exact Nat.le_of_ble_eq_true rfl | omega) only [AXS, AXB, J.dst, reduceIte, Nat.reduceEqDiff, Nat.reduceAdd, Nat.reduceMul, Nat.reduceLT, Nat.reduceLeDiff]
                  (try simp (config := { maxSteps := 1000000 }) (disch := first | exact Nat.le_of_ble_eq_true rfl | omega) only [AXS, AXB, J.dst, reduceIte, Nat.reduceEqDiff, Nat.reduceAdd, Nat.reduceMul, Nat.reduceLT, Nat.reduceLeDiff]); rw [f16c51_eq]; (try simp (config := { maxSteps := 1000000 }) (disch := first | exact Nat.le_of_ble_eq_true rfl | omega) only [AXS, AXB, J.dst, reduceIte, Nat.reduceEqDiff, Nat.reduceAdd, Nat.reduceMul, Nat.reduceLT, Nat.reduceLeDiff, f16r34])
                  rw [i64_wrap (by omega) (by omega)]
                  exact hnx3 (m3 - 1) _ _ (by omega) ⟨rfl, i + 1, by omega, by rw [r1]; rfl⟩
                · refine hex3 _ _ ?_
                  (try simp (config := { maxSteps := 1000000 }) (disch := first | exact Nat.le_of_ble_eq_true rfl | omega) only [AXS, AXB, J.dst, reduceIte, Nat.reduceEqDiff, Nat.reduceAdd, Nat.reduceMul, Nat.reduceLT, Nat.reduceLeDiff]); rw [f16c52_eq]; (try simp (config := { maxSteps := 1000000 }) (disch := first | exact Nat.le_of_ble_eq_true rfl | omega) only [AXS, AXB, J.dst, reduceIte, Nat.reduceEqDiff, Nat.reduceAdd, Nat.reduceMul, Nat.reduceLT, Nat.reduceLeDiff, f16r35])
                  rw [i64_wrap (by omega) (by omega)]
                  exact hnx (m - 1) _ _ (by omega) ⟨G912.exts x13, k + 1, pv4, q, by omega, by omega, B7, hq, gq.mono (by omega), rd', rfl⟩
            rw [f16c23_eq]
            refine ⟨fun b => b < h9.size ∧ b ≠ b7, fun b hb => hb.1, ?_⟩
            have n1 : b' ≠ b7 := by omega
            simp only [f16r16, wT_one, wT_alt, wT_nil]
            simp (config := { maxSteps := 1000000 }) (disch := first | exact Nat.le_of_ble_eq_true rfl | omega) only [AXS, AXB, J.dst, reduceIte, Nat.reduceEqDiff, Nat.reduceAdd, Nat.reduceMul, Nat.reduceLT, Nat.reduceLeDiff, row_cm hrowi, B7.rd, ePr]
            refine ⟨by omega, by omega, ⟨by omega, n1⟩, ?_⟩
            all_goals try (with_reducible refine And.intro ?_ ?_)
            all_goals try (with_reducible refine And.intro ?_ ?_)
            all_goals
              refine own_okP pv p cvi ci false _ hp.s hcri gp.e0 gp.e1 ?_
              intro cv3 h10 C3 x10
              refine ⟨fun b hb => x10.at_ b hb.1, ?_⟩
              have B7x := B7.ext x10
              have z10 := x10.size
              try simp (config := { maxSteps := 1000000 }) (disch := first | exact Nat.le_of_ble_eq_true rfl | omega) only [AXS, AXB, J.dst, reduceIte, Nat.reduceEqDiff, Nat.reduceAdd, Nat.reduceMul, Nat.reduceLT, Nat.reduceLeDiff, B7x.rd, ePr]
              refine apply_ok (n := 100 * (k + 1)) pv p cv3 (ownM p ci) _ (hp.ext x10) C3 gp.sz (by have := hLi.2; show 100 * (k + 1) + ci.writes.length ≤ _; omega) (by have := hLi.1; show ci.spans.length ≤ _; omega) gp.e0 ?_
              intro pv4 rv4 h11 P11 _ x11
              refine ⟨fun b hb => x11.at_ b (Nat.lt_of_lt_of_le hb.1 x10.size), ?_⟩
              have z11 := x11.size
              try simp (config := { maxSteps := 1000000 }) (disch := first | exact Nat.le_of_ble_eq_true rfl | omega) only [AXS, AXB, J.dst, reduceIte, Nat.reduceEqDiff, Nat.reduceAdd, Nat.reduceMul, Nat.reduceLT, Nat.reduceLeDiff]
              refine wL_stD rfl rfl (fun hb => hb.2 rfl) rfl (B7x.ext x11) (by rw [ePr_len]; decide) (ePr_one pv4) ?_
              rintro h12 u12 (B7' : Blk _ _ _ (ePr pv4))
              try simp (config := { maxSteps := 1000000 }) (disch := first | exact Nat.le_of_ble_eq_true rfl | omega) only [AXS, AXB, J.dst, reduceIte, Nat.reduceEqDiff, Nat.reduceAdd, Nat.reduceMul, Nat.reduceLT, Nat.reduceLeDiff]
              exact app4 h12 pv4 (Gr.upd ((x10.trans x11).gr _) u12 (.inl rfl)) B7' ((P11.prr.at_ (h' := h12) fun b hb => u12.ne b (by omega)).imp fun b hb => by omega)
          by_cases e3 : ci.s.kind = 3
          · have e1 : (ci.s.kind == 3) = true := by simpa using e3
            have e2 : decide (ci.s.at_ = t) = false := by rw [decide_eq_false_iff_not]; exact fun e => h3 ⟨e3, e⟩
            simp (config := { maxSteps := 1000000 }) (disch := first | exact Nat.le_of_ble_eq_true rfl | omega) only [AXJ, AXS, AXB, J.dst, reduceIte, Nat.reduceEqDiff, Nat.reduceAdd, Nat.reduceMul, Nat.reduceLT, Nat.reduceLeDiff, ↓br_TT, ↓br_TF, ↓br_FT, ↓br_FF, f16r14, row_cm2 hrowi, hci, B6.rd, eCm, hcs, ht, e1, eStamp, eqA_stamp, e2]
            repeat (with_reducible refine And.intro (by intros; omega) ?_)
            rw [f16c21_eq]
            simp (config := { maxSteps := 1000000 }) (disch := first | exact Nat.le_of_ble_eq_true rfl | omega) only [AXS, AXB, J.dst, reduceIte, Nat.reduceEqDiff, Nat.reduceAdd, Nat.reduceMul, Nat.reduceLT, Nat.reduceLeDiff]
            exact fin3
          · have e1 : (ci.s.kind == 3) = false := by simpa using e3
            simp (config := { maxSteps := 1000000 }) (disch := first | exact Nat.le_of_ble_eq_true rfl | omega) only [AXJ, AXS, AXB, J.dst, reduceIte, Nat.reduceEqDiff, Nat.reduceAdd, Nat.reduceMul, Nat.reduceLT, Nat.reduceLeDiff, ↓br_TT, ↓br_TF, ↓br_FT, ↓br_FF, f16r14, row_cm2 hrowi, hci, e1]
            repeat (with_reducible refine And.intro (by intros; omega) ?_)
            rw [f16c21_eq]
            simp (config := { maxSteps := 1000000 }) (disch := first | exact Nat.le_of_ble_eq_true rfl | omega) only [AXS, AXB, J.dst, reduceIte, Nat.reduceEqDiff, Nat.reduceAdd, Nat.reduceMul, Nat.reduceLT, Nat.reduceLeDiff]
            exact fin3
        · refine hex _ _ ?_
          (try simp (config := { maxSteps := 1000000 }) (disch := first | exact Nat.le_of_ble_eq_true rfl | omega) only [AXS, AXB, J.dst, reduceIte, Nat.reduceEqDiff, Nat.reduceAdd, Nat.reduceMul, Nat.reduceLT, Nat.reduceLeDiff]); rw [f16c53_eq]; (try simp (config := { maxSteps := 1000000 }) (disch := first | exact Nat.le_of_ble_eq_true rfl | omega) only [AXS, AXB, J.dst, reduceIte, Nat.reduceEqDiff, Nat.reduceAdd, Nat.reduceMul, Nat.reduceLT, Nat.reduceLeDiff, f16r36])
          exact hR _ x09
      · have e : ((applyP p0 c).2.s.err != 0) = true := by simpa using he
        simp (config := { maxSteps := 1000000 }) (disch := first | exact Nat.le_of_ble_eq_true rfl | omega) only [AXJ, AXS, AXB, J.dst, reduceIte, Nat.reduceEqDiff, Nat.reduceAdd, Nat.reduceMul, Nat.reduceLT, Nat.reduceLeDiff, ↓br_TT, ↓br_TF, ↓br_FT, ↓br_FF, f16r10, B8.cel, eRp, hrv, e]
        repeat (with_reducible refine And.intro (by intros; omega) ?_)
        rw [f16c13_eq]
        simp (config := { maxSteps := 1000000 }) (disch := first | exact Nat.le_of_ble_eq_true rfl | omega) only [AXS, AXB, J.dst, reduceIte, Nat.reduceEqDiff, Nat.reduceAdd, Nat.reduceMul, Nat.reduceLT, Nat.reduceLeDiff]
        (try simp (config := { maxSteps := 1000000 }) (disch := first | exact Nat.le_of_ble_eq_true rfl | omega) only [AXS, AXB, J.dst, reduceIte, Nat.reduceEqDiff, Nat.reduceAdd, Nat.reduceMul, Nat.reduceLT, Nat.reduceLeDiff]); rw [f16c14_eq]; (try simp (config := { maxSteps := 1000000 }) (disch := first | exact Nat.le_of_ble_eq_true rfl | omega) only [AXS, AXB, J.dst, reduceIte, Nat.reduceEqDiff, Nat.reduceAdd, Nat.reduceMul, Nat.reduceLT, Nat.reduceLeDiff, f16r11])
        exact hR _ x0z
    have X := Ext.refl h6
    refine ⟨by omega, by omega, by omega, l66, ?_⟩
    all_goals try (with_reducible refine And.intro ?_ ?_)
    all_goals try (with_reducible refine And.intro ?_ ?_)
    all_goals try (with_reducible refine And.intro ?_ ?_)
    all_goals first
      | ((with_reducible refine wL_newD (t := 116) X.size ?_); rintro b7 hy ey sy hb7 B7; have zy := ey.size; (try replace B8 := B8.ext ey); (try replace P' := P'.ext ey); (try replace V' := V'.ext ey); replace X := X.trans ey; (try simp (config := { maxSteps := 1000000 }) (disch := first | exact Nat.le_of_ble_eq_true rfl | omega) only [AXS, AXB, J.dst, reduceIte, Nat.reduceEqDiff, Nat.reduceAdd, Nat.reduceMul, Nat.reduceLT, Nat.reduceLeDiff]))
      | ((with_reducible refine wL_newD (t := 47) X.size ?_); rintro b8 hy ey sy hb8 B8; have zy := ey.size; (try replace B7 := B7.ext ey); (try replace P' := P'.ext ey); (try replace V' := V'.ext ey); replace X := X.trans ey; (try simp (config := { maxSteps := 1000000 }) (disch := first | exact Nat.le_of_ble_eq_true rfl | omega) only [AXS, AXB, J.dst, reduceIte, Nat.reduceEqDiff, Nat.reduceAdd, Nat.reduceMul, Nat.reduceLT, Nat.reduceLeDiff]))
      | (refine apply_ok (n := 100 * k0) va p0 cv2 c _ (pa6.ext X) (C6.ext X) hg.sz (by omega) (by omega) hg.e0 ?_; intro pv rv hy O' K' ey; refine ⟨kp_ext X.size ey, ?_⟩; have zy := ey.size; have P' := O'.prr; have V' := SlF.of_own K'.pairs K'.pn; (try replace B7 := B7.ext ey); (try replace B8 := B8.ext ey); replace X := X.trans ey; (try simp (config := { maxSteps := 1000000 }) (disch := first | exact Nat.le_of_ble_eq_true rfl | omega) only [AXS, AXB, J.dst, reduceIte, Nat.reduceEqDiff, Nat.reduceAdd, Nat.reduceMul, Nat.reduceLT, Nat.reduceLeDiff]))
    all_goals try (with_reducible refine And.intro ?_ ?_)
    all_goals try (with_reducible refine And.intro ?_ ?_)
    all_goals first
      | ((with_reducible refine wL_newD (t := 116) X.size ?_); rintro b7 hy ey sy hb7 B7; have zy := ey.size; (try replace B8 := B8.ext ey); (try replace P' := P'.ext ey); (try replace V' := V'.ext ey); replace X := X.trans ey; (try simp (config := { maxSteps := 1000000 }) (disch := first | exact Nat.le_of_ble_eq_true rfl | omega) only [AXS, AXB, J.dst, reduceIte, Nat.reduceEqDiff, Nat.reduceAdd, Nat.reduceMul, Nat.reduceLT, Nat.reduceLeDiff]))
      | ((with_reducible refine wL_newD (t := 47) X.size ?_); rintro b8 hy ey sy hb8 B8; have zy := ey.size; (try replace B7 := B7.ext ey); (try replace P' := P'.ext ey); (try replace V' := V'.ext ey); replace X := X.trans ey; (try simp (config := { maxSteps := 1000000 }) (disch := first | exact Nat.le_of_ble_eq_true rfl | omega) only [AXS, AXB, J.dst, reduceIte, Nat.reduceEqDiff, Nat.reduceAdd, Nat.reduceMul, Nat.reduceLT, Nat.reduceLeDiff]))
      | (refine apply_ok (n := 100 * k0) va p0 cv2 c _ (pa6.ext X) (C6.ext X) hg.sz (by omega) (by omega) hg.e0 ?_; intro pv rv hy O' K' ey; refine ⟨kp_ext X.size ey, ?_⟩; have zy := ey.size; have P' := O'.prr; have V' := SlF.of_own K'.pairs K'.pn; (try replace B7 := B7.ext ey); (try replace B8 := B8.ext ey); replace X := X.trans ey; (try simp (config := { maxSteps := 1000000 }) (disch := first | exact Nat.le_of_ble_eq_true rfl | omega) only [AXS, AXB, J.dst, reduceIte, Nat.reduceEqDiff, Nat.reduceAdd, Nat.reduceMul, Nat.reduceLT, Nat.reduceLeDiff]))
    all_goals try (with_reducible refine And.intro ?_ ?_)
    all_goals try (with_reducible refine And.intro ?_ ?_)
    all_goals first
      | ((with_reducible refine wL_newD (t := 116) X.size ?_); rintro b7 hy ey sy hb7 B7; have zy := ey.size; (try replace B8 := B8.ext ey); (try replace P' := P'.ext ey); (try replace V' := V'.ext ey); replace X := X.trans ey; (try simp (config := { maxSteps := 1000000 }) (disch := first | exact Nat.le_of_ble_eq_true rfl | omega) only [AXS, AXB, J.dst, reduceIte, Nat.reduceEqDiff, Nat.reduceAdd, Nat.reduceMul, Nat.reduceLT, Nat.reduceLeDiff]))
      | ((with_reducible refine wL_newD (t := 47) X.size ?_); rintro b8 hy ey sy hb8 B8; have zy := ey.size; (try replace B7 := B7.ext ey); (try replace P' := P'.ext ey); (try replace V' := V'.ext ey); replace X := X.trans ey; (try simp (config := { maxSteps := 1000000 }) (disch := first | exact Nat.le_of_ble_eq_true rfl | omega) only [AXS, AXB, J.dst, reduceIte, Nat.reduceEqDiff, Nat.reduceAdd, Nat.reduceMul, Nat.reduceLT, Nat.reduceLeDiff]))
      | (refine apply_ok (n := 100 * k0) va p0 cv2 c _ (pa6.ext X) (C6.ext X) hg.sz (by omega) (by omega) hg.e0 ?_; intro pv rv hy O' K' ey; refine ⟨kp_ext X.size ey, ?_⟩; have zy := ey.size; have P' := O'.prr; have V' := SlF.of_own K'.pairs K'.pn; (try replace B7 := B7.ext ey); (try replace B8 := B8.ext ey); replace X := X.trans ey; (try simp (config := { maxSteps := 1000000 }) (disch := first | exact Nat.le_of_ble_eq_true rfl | omega) only [AXS, AXB, J.dst, reduceIte, Nat.reduceEqDiff, Nat.reduceAdd, Nat.reduceMul, Nat.reduceLT, Nat.reduceLeDiff]))
    all_goals
      refine wL_stD rfl rfl (by omega) rfl B7 (by decide) (ePr_one pv) ?_
      rintro hz uz (D7 : Blk _ _ _ (ePr pv))
      try simp (config := { maxSteps := 1000000 }) (disch := first | exact Nat.le_of_ble_eq_true rfl | omega) only [AXS, AXB, J.dst, reduceIte, Nat.reduceEqDiff, Nat.reduceAdd, Nat.reduceMul, Nat.reduceLT, Nat.reduceLeDiff]
      refine wL_stD rfl rfl (by omega) rfl (uz.blk B8 (by omega)) (by decide) (eRp_one rv) ?_
      rintro hw uw (D8 : Blk _ _ _ (eRp rv))
      try simp (config := { maxSteps := 1000000 }) (disch := first | exact Nat.le_of_ble_eq_true rfl | omega) only [AXS, AXB, J.dst, reduceIte, Nat.reduceEqDiff, Nat.reduceAdd, Nat.reduceMul, Nat.reduceLT, Nat.reduceLeDiff]
      have ez := uz.size
      have ew := uw.size
      refine app2 hw b7 b8 pv rv (uw.ext (uz.ext X (by omega)) (by omega)) (uw.blk D7 (by omega)) D8 (by omega) (by omega) (by omega)
        (((P'.at_ (h' := hz) fun b hb => uz.ne b (by omega)).at_ (h' := hw) fun b hb => uw.ne b (by omega)).imp fun b hb => by omega) K'.s (by rw [K'.pn])
        ((V'.at_ (h' := hz) fun b hb => uz.ne b (by omega)).to (h' := hw) fun b hb => ⟨⟨by omega, by omega⟩, uw.ne b (by omega)⟩)
  refine ⟨by omega, by omega, la, by omega, by omega, lb, ?_, ?_⟩
  · refine own_okP va p0 cv c0 false _ hpa.s hcr hg.e0 hg.e1 ?_
    intro cv' h5 C5 x5
    have C5' : CmR (fun b => b < h.size) h5 cv' c1 := by rw [← hcc]; exact C5
    refine ⟨kp_ext (Nat.le_refl _) x5, ?_⟩
    try simp (config := { maxSteps := 1000000 }) (disch := first | exact Nat.le_of_ble_eq_true rfl | omega) only [AXS, AXB, J.dst, reduceIte, Nat.reduceEqDiff, Nat.reduceAdd, Nat.reduceMul, Nat.reduceLT, Nat.reduceLeDiff]
    have i5 := x5.size
    refine wL_newD x5.size ?_; rintro b6 h6 x6 s6 hb6 B6
    try simp (config := { maxSteps := 1000000 }) (disch := first | exact Nat.le_of_ble_eq_true rfl | omega) only [AXS, AXB, J.dst, reduceIte, Nat.reduceEqDiff, Nat.reduceAdd, Nat.reduceMul, Nat.reduceLT, Nat.reduceLeDiff]
    refine wL_stD rfl rfl (by omega) rfl B6 (by decide) (eCm_one cv') ?_
    rintro h7 u7 (B6 : Blk _ _ _ (eCm cv'))
    try simp (config := { maxSteps := 1000000 }) (disch := first | exact Nat.le_of_ble_eq_true rfl | omega) only [AXS, AXB, J.dst, reduceIte, Nat.reduceEqDiff, Nat.reduceAdd, Nat.reduceMul, Nat.reduceLT, Nat.reduceLeDiff]
    exact app h7 b6 cv' (u7.ext (x5.trans x6) (by omega)) B6 (by omega) (C5'.ext (u7.ext x6 (by omega)))
  · refine wL_newD (Nat.le_refl _) ?_; rintro b6 h6 x6 s6 hb6 B6
    try simp (config := { maxSteps := 1000000 }) (disch := first | exact Nat.le_of_ble_eq_true rfl | omega) only [AXS, AXB, J.dst, reduceIte, Nat.reduceEqDiff, Nat.reduceAdd, Nat.reduceMul, Nat.reduceLT, Nat.reduceLeDiff]
    refine own_okP va p0 cv c0 false _ hpa.s (hcr.ext x6) hg.e0 hg.e1 ?_
    intro cv' h5 C5 x5
    refine ⟨kp_ext x6.size x5, ?_⟩
    try simp (config := { maxSteps := 1000000 }) (disch := first | exact Nat.le_of_ble_eq_true rfl | omega) only [AXS, AXB, J.dst, reduceIte, Nat.reduceEqDiff, Nat.reduceAdd, Nat.reduceMul, Nat.reduceLT, Nat.reduceLeDiff]
    have i5 := x5.size
    have C5' : CmR (fun b => b < h.size) h5 cv' c1 := by rw [← hcc]; exact C5
    refine wL_stD rfl rfl (by omega) rfl (B6.ext x5) (by decide) (eCm_one cv') ?_
    rintro h7 u7 (B6 : Blk _ _ _ (eCm cv'))
    try simp (config := { maxSteps := 1000000 }) (disch := first | exact Nat.le_of_ble_eq_true rfl | omega) only [AXS, AXB, J.dst, reduceIte, Nat.reduceEqDiff, Nat.reduceAdd, Nat.reduceMul, Nat.reduceLT, Nat.reduceLeDiff]
    exact app h7 b6 cv' (u7.ext (x6.trans x5) (by omega)) B6 (by omega) (C5'.at_ (h' := h7) fun b hb => u7.ne b (by have hb' : b < h.size := hb; omega))
end Go.Proofs.Ytefghfgmkndikaa
