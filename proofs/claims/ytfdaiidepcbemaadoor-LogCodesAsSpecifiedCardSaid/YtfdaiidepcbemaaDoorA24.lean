/-
  THE PROGRAM's FUNCTIONS, their operations resolved: printed by a program (wip/tools/Print.lean); that they are so: the kernel (AvIs).
-/
import Derived.Test.YtfdaiidepcbemaaDoorA23
section
namespace Go.Av.Pr
open Go Go.Av
set_option maxRecDepth 100000
def F52 : AFn := ⟨9, [.cell 2 true 16, .tmp 3, .tmp 4],
 (.seq (.ops [oo 2 (.alloc [.int .u8 0, .int .u8 0, .int .u8 0, .int .u8 0, .int .u8 0, .int .u8 0, .int .u8 0, .int .u8 0, .int .u8 0, .int .u8 0, .int .u8 0, .int .u8 0, .int .u8 0, .int .u8 0, .int .u8 0, .int .u8 0]),
 oo 3 (.mov (.const (.int .i64 0))),
 oo 4 (.mov (.const (.int .i64 0)))])
 (.seq (.ops [om 5 0,
 oo 6 (.slsl 1 (.tmp 5) none (some (.const (.int .i64 16))) none),
 oo 7 (.s2ap 16 (.tmp 6)),
 oo 8 (.load true 16 (.tmp 7)),
 ⟨none, .store 16 (.tmp 2) (.tmp 8), none⟩,
 oo 3 (.mov (.const (.int .i64 16))),
 oo 4 (.mov (.const (.int .i64 0)))])
 .ret))⟩
def F53 : AFn := ⟨31, [.tmp 4, .tmp 5, .tmp 6],
 (.seq (.ops [oo 4 (.mov (.const (.int .i64 0))),
 oo 5 (.mov (.const (.int .i64 0))),
 oo 6 (.mov (.const (.int .i64 0)))])
 (.seq (.ops [om 11 0,
 oo 12 (.call (.const (.func (.func 54) [] [])) [.tmp 11]),
 om 10 12,
 oo 13 (.extr (.tmp 10) 0),
 oo 14 (.extr (.tmp 10) 1),
 oo 15 (.extr (.tmp 10) 2),
 om 7 13,
 om 8 14,
 om 9 15])
 (.seq (.seq (.ops [om 16 9,
 oo 17 (.bin .neq (.tmp 16) (.const (.int .i64 0)))])
 (.cond (.tmp 17) (.seq (.ops [om 18 9,
 oo 4 (.mov (.const (.int .i64 0))),
 oo 5 (.mov (.const (.int .i64 0))),
 om 6 18])
 .ret)
 .skip))
 (.seq (.seq (.ops [om 19 7,
 oo 20 (.bin .lss (.tmp 19) (.const (.int .i64 0)))])
 (.cond (.tmp 20) (.seq (.ops [oo 4 (.mov (.const (.int .i64 0))),
 oo 5 (.mov (.const (.int .i64 0))),
 oo 6 (.mov (.const (.int .i64 11)))])
 .ret)
 .skip))
 (.seq (.seq (.ops [om 21 7,
 om 22 0,
 oo 23 (.lenl (.tmp 22)),
 om 24 8,
 oo 25 (.bin .sub (.tmp 23) (.tmp 24)),
 om 26 1,
 oo 27 (.bin .quo (.tmp 25) (.tmp 26)),
 oo 28 (.bin .gtr (.tmp 21) (.tmp 27))])
 (.cond (.tmp 28) (.seq (.ops [oo 4 (.mov (.const (.int .i64 0))),
 oo 5 (.mov (.const (.int .i64 0))),
 oo 6 (.mov (.const (.int .i64 10)))])
 .ret)
 .skip))
 (.seq (.ops [om 29 7,
 om 30 8,
 om 4 29,
 om 5 30,
 oo 6 (.mov (.const (.int .i64 0)))])
 .ret))))))⟩
def F54 : AFn := ⟨79, [.tmp 2, .tmp 3, .tmp 4],
 (.seq (.ops [oo 2 (.mov (.const (.int .i64 0))),
 oo 3 (.mov (.const (.int .i64 0))),
 oo 4 (.mov (.const (.int .i64 0)))])
 (.seq (.ops [oo 5 (.mov (.const (.int .i64 0)))])
 (.seq (.block 0 (.loop (.seq (.seq (.ops [om 8 5,
 om 9 0,
 oo 10 (.lenl (.tmp 9)),
 oo 11 (.bin .lss (.tmp 8) (.tmp 10)),
 om 12 11,
 ⟨some 13, .mov (.tmp 5), some (12, true)⟩,
 ⟨some 14, .bin .lss (.tmp 13) (.const (.int .i64 10)), some (12, true)⟩,
 oo 15 (.pick (.tmp 12) (.tmp 14) (.const (.bool false))),
 om 16 15,
 ⟨some 17, .mov (.tmp 0), some (16, true)⟩,
 ⟨some 18, .mov (.tmp 5), some (16, true)⟩,
 ⟨some 19, .iadr none 1 (.tmp 17) (.tmp 18), some (16, true)⟩,
 ⟨some 20, .load false 1 (.tmp 19), some (16, true)⟩,
 ⟨some 21, .bin .geq (.tmp 20) (.const (.int .u8 128)), some (16, true)⟩,
 oo 22 (.pick (.tmp 16) (.tmp 21) (.const (.bool false)))])
 (.cond (.tmp 22) .skip
 (.exit 0)))
 (.block 1 (.ops [om 23 5,
 oo 24 (.bin .add (.tmp 23) (.const (.int .i64 1))),
 om 5 24])))))
 (.seq (.seq (.ops [om 25 5,
 oo 26 (.bin .eql (.tmp 25) (.const (.int .i64 10)))])
 (.cond (.tmp 26) (.seq (.ops [oo 2 (.mov (.const (.int .i64 0))),
 oo 3 (.mov (.const (.int .i64 0))),
 oo 4 (.mov (.const (.int .i64 11)))])
 .ret)
 .skip))
 (.seq (.seq (.ops [om 27 5,
 om 28 0,
 oo 29 (.lenl (.tmp 28)),
 oo 30 (.bin .eql (.tmp 27) (.tmp 29))])
 (.cond (.tmp 30) (.seq (.ops [oo 2 (.mov (.const (.int .i64 0))),
 oo 3 (.mov (.const (.int .i64 0))),
 oo 4 (.mov (.const (.int .i64 10)))])
 .ret)
 .skip))
 (.seq (.seq (.ops [om 31 5,
 oo 32 (.bin .eql (.tmp 31) (.const (.int .i64 9))),
 om 33 32,
 ⟨some 34, .mov (.tmp 0), some (33, true)⟩,
 ⟨some 35, .mov (.tmp 5), some (33, true)⟩,
 ⟨some 36, .iadr none 1 (.tmp 34) (.tmp 35), some (33, true)⟩,
 ⟨some 37, .load false 1 (.tmp 36), some (33, true)⟩,
 ⟨some 38, .bin .gtr (.tmp 37) (.const (.int .u8 1)), some (33, true)⟩,
 oo 39 (.pick (.tmp 33) (.tmp 38) (.const (.bool false))),
 om 40 39,
 ⟨some 41, .mov (.tmp 5), some (40, false)⟩,
 ⟨some 42, .bin .gtr (.tmp 41) (.const (.int .i64 0)), some (40, false)⟩,
 ⟨some 43, .mov (.tmp 42), some (40, false)⟩,
 ⟨some 44, .mov (.tmp 0), some (43, true)⟩,
 ⟨some 45, .mov (.tmp 5), some (43, true)⟩,
 ⟨some 46, .iadr none 1 (.tmp 44) (.tmp 45), some (43, true)⟩,
 ⟨some 47, .load false 1 (.tmp 46), some (43, true)⟩,
 ⟨some 48, .bin .eql (.tmp 47) (.const (.int .u8 0)), some (43, true)⟩,
 ⟨some 49, .pick (.tmp 43) (.tmp 48) (.const (.bool false)), some (40, false)⟩,
 oo 50 (.pick (.tmp 40) (.const (.bool true)) (.tmp 49))])
 (.cond (.tmp 50) (.seq (.ops [oo 2 (.mov (.const (.int .i64 0))),
 oo 3 (.mov (.const (.int .i64 0))),
 oo 4 (.mov (.const (.int .i64 11)))])
 .ret)
 .skip))
 (.seq (.ops [oo 6 (.mov (.const (.int .u64 0)))])
 (.seq (.seq (.ops [om 51 5,
 om 7 51])
 (.block 2 (.loop (.seq (.seq (.ops [om 52 7,
 oo 53 (.bin .geq (.tmp 52) (.const (.int .i64 0)))])
 (.cond (.tmp 53) .skip
 (.exit 2)))
 (.seq (.block 3 (.ops [om 56 6,
 oo 57 (.bin .mul (.tmp 56) (.const (.int .u64 128))),
 om 58 0,
 om 59 7,
 oo 60 (.iadr none 1 (.tmp 58) (.tmp 59)),
 oo 61 (.load false 1 (.tmp 60)),
 oo 62 (.bin .rem (.tmp 61) (.const (.int .u8 128))),
 oo 63 (.convi .u64 (.tmp 62)),
 oo 64 (.bin .add (.tmp 57) (.tmp 63)),
 om 6 64]))
 (.ops [om 54 7,
 oo 55 (.bin .sub (.tmp 54) (.const (.int .i64 1))),
 om 7 55]))))))
 (.seq (.seq (.ops [om 65 6,
 oo 66 (.bin .rem (.tmp 65) (.const (.int .u64 2))),
 oo 67 (.bin .eql (.tmp 66) (.const (.int .u64 1)))])
 (.cond (.tmp 67) (.seq (.ops [om 68 6,
 oo 69 (.bin .quo (.tmp 68) (.const (.int .u64 2))),
 oo 70 (.convi .i64 (.tmp 69)),
 oo 71 (.bin .sub (.const (.int .i64 (-1))) (.tmp 70)),
 om 72 5,
 oo 73 (.bin .add (.tmp 72) (.const (.int .i64 1))),
 om 2 71,
 om 3 73,
 oo 4 (.mov (.const (.int .i64 0)))])
 .ret)
 .skip))
 (.seq (.ops [om 74 6,
 oo 75 (.bin .quo (.tmp 74) (.const (.int .u64 2))),
 oo 76 (.convi .i64 (.tmp 75)),
 om 77 5,
 oo 78 (.bin .add (.tmp 77) (.const (.int .i64 1))),
 om 2 76,
 om 3 78,
 oo 4 (.mov (.const (.int .i64 0)))])
 .ret))))))))))⟩
def F55 : AFn := ⟨21, [.tmp 2],
 (.seq (.ops [oo 1 (.box (.tmp 0)),
 oo 2 (.mov (.const (.int .i64 0)))])
 (.seq (.seq (.ops [oo 5 (.fadr 0 (.tmp 1)),
 oo 6 (.load true 3 (.tmp 5)),
 oo 7 (.mov (.const (.int .i64 0)))])
 (.block 0 (.loop (.seq (.ops [oo 8 (.bin .lss (.tmp 7) (.const (.int .i64 3)))])
 (.seq (.cond (.tmp 8) .skip
 (.exit 0))
 (.seq (.block 1 (.seq (.ops [oo 9 (.idx 3 1 false (.tmp 6) (.tmp 7)),
 om 4 9])
 (.seq (.ops [om 10 4,
 oo 11 (.bin .geq (.tmp 10) (.const (.int .i64 140737488355328))),
 om 12 11,
 ⟨some 13, .mov (.tmp 4), some (12, false)⟩,
 ⟨some 14, .bin .leq (.tmp 13) (.const (.int .i64 (-140737488355328))), some (12, false)⟩,
 oo 15 (.pick (.tmp 12) (.const (.bool true)) (.tmp 14))])
 (.cond (.tmp 15) (.seq (.ops [oo 2 (.mov (.const (.int .i64 1)))])
 .ret)
 .skip))))
 (.ops [oo 16 (.bin .add (.tmp 7) (.const (.int .i64 1))),
 om 7 16])))))))
 (.seq (.seq (.ops [oo 17 (.fadr 3 (.tmp 1)),
 oo 18 (.load true 4 (.tmp 17)),
 oo 19 (.call (.const (.func (.func 71) [] [])) [.tmp 18]),
 oo 20 (.un .not (.tmp 19))])
 (.cond (.tmp 20) (.seq (.ops [oo 2 (.mov (.const (.int .i64 1)))])
 .ret)
 .skip))
 (.seq (.ops [oo 2 (.mov (.const (.int .i64 0)))])
 .ret))))⟩
def F56 : AFn := ⟨24, [.cell 2 true 6, .tmp 3],
 (.seq (.ops [oo 1 (.box (.tmp 0)),
 oo 2 (.alloc [.nilsl, .nilsl, .nilsl, .nilsl, .nilsl, .nilsl]),
 oo 3 (.mov (.const (.int .i64 0)))])
 (.seq (.seq (.ops [oo 7 (.load true 54 (.tmp 1)),
 oo 8 (.call (.const (.func (.func 58) [] [])) [.tmp 7]),
 om 6 8,
 oo 9 (.extr (.tmp 6) 0),
 oo 10 (.extr (.tmp 6) 1),
 oo 4 (.alloc [.nilsl, .nilsl, .nilsl, .nilsl, .nilsl, .nilsl]),
 ⟨none, .store 6 (.tmp 4) (.tmp 9), none⟩,
 om 5 10])
 (.seq (.ops [om 11 5,
 oo 12 (.bin .neq (.tmp 11) (.const (.int .i64 0)))])
 (.cond (.tmp 12) (.seq (.ops [oo 13 (.load true 6 (.tmp 4)),
 om 14 5,
 ⟨none, .store 6 (.tmp 2) (.tmp 13), none⟩,
 om 3 14])
 .ret)
 .skip)))
 (.seq (.ops [oo 15 (.fadr 0 (.tmp 1)),
 oo 16 (.load true 6 (.tmp 15)),
 oo 17 (.fadr 48 (.tmp 1)),
 oo 18 (.load true 6 (.tmp 17)),
 oo 19 (.fadr 6 (.tmp 1)),
 oo 20 (.load true 3 (.tmp 19)),
 oo 21 (.call (.const (.func (.func 72) [] [])) [.tmp 16, .tmp 18, .tmp 20]),
 oo 22 (.extr (.tmp 21) 0),
 oo 23 (.extr (.tmp 21) 1),
 ⟨none, .store 6 (.tmp 2) (.tmp 22), none⟩,
 om 3 23])
 .ret)))⟩
def F57 : AFn := ⟨151, [.cell 2 true 6, .tmp 3],
 (.seq (.ops [oo 1 (.box (.tmp 0)),
 oo 2 (.alloc [.nilsl, .nilsl, .nilsl, .nilsl, .nilsl, .nilsl]),
 oo 3 (.mov (.const (.int .i64 0)))])
 (.seq (.draw [oo 10 (.fadr 9 (.tmp 1)),
 oo 11 (.fadr 4 (.tmp 10)),
 oo 12 (.load false 1 (.tmp 11)),
 oo 13 (.fadr 6 (.tmp 1)),
 oo 14 (.fadr 2 (.tmp 13)),
 oo 15 (.load false 1 (.tmp 14)),
 oo 16 (.lenl (.tmp 15)),
 oo 17 (.bin .sub (.tmp 16) (.const (.int .i64 1))),
 oo 18 (.fadr 6 (.tmp 1)),
 oo 19 (.fadr 1 (.tmp 18)),
 oo 20 (.load false 1 (.tmp 19)),
 oo 21 (.bin .sub (.tmp 20) (.const (.int .i64 1))),
 om 4 12,
 om 5 17,
 om 6 21] [])
 (.seq (.seq (.draw [om 22 4,
 oo 23 (.bin .lss (.tmp 22) (.const (.int .i64 1))),
 om 24 23,
 ⟨some 25, .mov (.tmp 4), some (24, false)⟩,
 ⟨some 26, .mov (.tmp 5), some (24, false)⟩,
 ⟨some 27, .bin .gtr (.tmp 25) (.tmp 26), some (24, false)⟩,
 oo 28 (.pick (.tmp 24) (.const (.bool true)) (.tmp 27)),
 om 29 28,
 ⟨some 30, .fadr 9 (.tmp 1), some (29, false)⟩,
 ⟨some 31, .fadr 22 (.tmp 30), some (29, false)⟩,
 ⟨some 32, .load false 1 (.tmp 31), some (29, false)⟩,
 ⟨some 33, .bin .neq (.tmp 32) (.const (.int .i64 0)), some (29, false)⟩,
 oo 34 (.pick (.tmp 29) (.const (.bool true)) (.tmp 33)),
 om 35 34,
 ⟨some 36, .fadr 9 (.tmp 1), some (35, false)⟩,
 ⟨some 37, .fadr 5 (.tmp 36), some (35, false)⟩,
 ⟨some 38, .load false 1 (.tmp 37), some (35, false)⟩,
 ⟨some 39, .lenl (.tmp 38), some (35, false)⟩,
 ⟨some 40, .bin .neq (.tmp 39) (.const (.int .i64 1)), some (35, false)⟩,
 oo 41 (.pick (.tmp 35) (.const (.bool true)) (.tmp 40)),
 om 42 41,
 ⟨some 43, .fadr 9 (.tmp 1), some (42, false)⟩,
 ⟨some 44, .fadr 5 (.tmp 43), some (42, false)⟩,
 ⟨some 45, .load false 1 (.tmp 44), some (42, false)⟩,
 ⟨some 46, .iadr none 14 (.tmp 45) (.const (.int .i64 0)), some (42, false)⟩,
 ⟨some 47, .load true 14 (.tmp 46), some (42, false)⟩,
 ⟨some 48, .fadr 6 (.tmp 1), some (42, false)⟩,
 ⟨some 49, .fadr 1 (.tmp 48), some (42, false)⟩,
 ⟨some 50, .load false 1 (.tmp 49), some (42, false)⟩,
 ⟨some 51, .fadr 6 (.tmp 1), some (42, false)⟩,
 ⟨some 52, .fadr 2 (.tmp 51), some (42, false)⟩,
 ⟨some 53, .load false 1 (.tmp 52), some (42, false)⟩,
 ⟨some 54, .mov (.tmp 4), some (42, false)⟩,
 ⟨some 55, .iadr none 7 (.tmp 53) (.tmp 54), some (42, false)⟩,
 ⟨some 56, .load true 7 (.tmp 55), some (42, false)⟩,
 ⟨some 57, .build [.int .i64 0, .int .i64 0, .int .i64 0, .int .i64 0, .int .i64 0, .int .i64 0, .int .i64 0, .int .i64 0, .int .i64 0, .int .i64 0, .int .i64 0, .int .i64 0, .int .i64 0, .int .i64 0] [(0, 1, (.tmp 50)), (1, 7, (.tmp 56))], some (42, false)⟩,
 ⟨some 58, .eqf true [.i, .i, .i, .i, .i, .i, .i, .i, .i, .i, .i, .i, .i, .i] (.tmp 47) (.tmp 57), some (42, false)⟩,
 oo 59 (.pick (.tmp 42) (.const (.bool true)) (.tmp 58))] [])
 (.cond (.tmp 59) (.seq (.ops [oo 60 (.fadr 48 (.tmp 1)),
 oo 61 (.load true 6 (.tmp 60)),
 ⟨none, .store 6 (.tmp 2) (.tmp 61), none⟩,
 oo 3 (.mov (.const (.int .i64 1)))])
 .ret)
 .skip))
 (.seq (.seq (.ops [om 62 4,
 oo 63 (.bin .eql (.tmp 62) (.const (.int .i64 1)))])
 (.cond (.tmp 63) (.seq (.ops [oo 65 (.fadr 0 (.tmp 1)),
 oo 66 (.load true 6 (.tmp 65)),
 oo 67 (.fadr 48 (.tmp 1)),
 oo 68 (.load true 6 (.tmp 67)),
 oo 69 (.fadr 6 (.tmp 1)),
 oo 70 (.load true 3 (.tmp 69)),
 oo 71 (.call (.const (.func (.func 72) [] [])) [.tmp 66, .tmp 68, .tmp 70]),
 om 64 71,
 oo 72 (.extr (.tmp 64) 0),
 oo 73 (.extr (.tmp 64) 1),
 oo 7 (.alloc [.nilsl, .nilsl, .nilsl, .nilsl, .nilsl, .nilsl]),
 ⟨none, .store 6 (.tmp 7) (.tmp 72), none⟩,
 om 8 73])
 (.seq (.ops [om 74 8,
 oo 75 (.bin .neq (.tmp 74) (.const (.int .i64 0)))])
 (.cond (.tmp 75) (.seq (.ops [oo 76 (.fadr 48 (.tmp 1)),
 oo 77 (.load true 6 (.tmp 76)),
 om 78 8,
 ⟨none, .store 6 (.tmp 2) (.tmp 77), none⟩,
 om 3 78])
 .ret)
 .skip)))
 (.seq (.draw [oo 79 (.fadr 48 (.tmp 1)),
 oo 80 (.load true 6 (.tmp 79)),
 oo 81 (.call (.const (.func (.func 73) [] [])) [.tmp 80]),
 oo 82 (.un .not (.tmp 81)),
 om 83 82,
 ⟨some 84, .fadr 48 (.tmp 1), some (83, false)⟩,
 ⟨some 85, .fadr 0 (.tmp 84), some (83, false)⟩,
 ⟨some 86, .load false 1 (.tmp 85), some (83, false)⟩,
 ⟨some 87, .mov (.tmp 6), some (83, false)⟩,
 ⟨some 88, .iadr none 1 (.tmp 86) (.tmp 87), some (83, false)⟩,
 ⟨some 89, .load false 1 (.tmp 88), some (83, false)⟩,
 ⟨some 90, .un .not (.tmp 89), some (83, false)⟩,
 oo 91 (.pick (.tmp 83) (.const (.bool true)) (.tmp 90)),
 om 92 91,
 ⟨some 93, .fadr 48 (.tmp 1), some (92, false)⟩,
 ⟨some 94, .fadr 1 (.tmp 93), some (92, false)⟩,
 ⟨some 95, .load false 1 (.tmp 94), some (92, false)⟩,
 ⟨some 96, .mov (.tmp 6), some (92, false)⟩,
 ⟨some 97, .iadr none 7 (.tmp 95) (.tmp 96), some (92, false)⟩,
 ⟨some 98, .load true 7 (.tmp 97), some (92, false)⟩,
 ⟨some 99, .fadr 6 (.tmp 1), some (92, false)⟩,
 ⟨some 100, .fadr 2 (.tmp 99), some (92, false)⟩,
 ⟨some 101, .load false 1 (.tmp 100), some (92, false)⟩,
 ⟨some 102, .mov (.tmp 4), some (92, false)⟩,
 ⟨some 103, .bin .sub (.tmp 102) (.const (.int .i64 1)), some (92, false)⟩,
 ⟨some 104, .iadr none 7 (.tmp 101) (.tmp 103), some (92, false)⟩,
 ⟨some 105, .load true 7 (.tmp 104), some (92, false)⟩,
 ⟨some 106, .eqf true [.i, .i, .i, .i, .i, .i, .i] (.tmp 98) (.tmp 105), some (92, false)⟩,
 oo 107 (.pick (.tmp 92) (.const (.bool true)) (.tmp 106))] [])
 (.cond (.tmp 107) (.seq (.ops [oo 108 (.fadr 48 (.tmp 1)),
 oo 109 (.load true 6 (.tmp 108)),
 ⟨none, .store 6 (.tmp 2) (.tmp 109), none⟩,
 oo 3 (.mov (.const (.int .i64 4)))])
 .ret)
 .skip))))
 (.seq (.ops [oo 110 (.load true 54 (.tmp 1)),
 oo 111 (.call (.const (.func (.func 74) [] [])) [.tmp 110]),
 oo 9 (.alloc [.nilsl, .nilsl, .nilsl, .nilsl, .nilsl, .nilsl]),
 ⟨none, .store 6 (.tmp 9) (.tmp 111), none⟩])
 (.seq (.draw [oo 112 (.fadr 0 (.tmp 9)),
 oo 113 (.load false 1 (.tmp 112)),
 om 114 6,
 oo 115 (.fadr 1 (.tmp 9)),
 oo 116 (.load false 1 (.tmp 115)),
 om 117 6,
 oo 118 (.fadr 6 (.tmp 1)),
 oo 119 (.fadr 2 (.tmp 118)),
 oo 120 (.load false 1 (.tmp 119)),
 om 121 4,
 oo 122 (.iadr none 7 (.tmp 120) (.tmp 121)),
 oo 123 (.load true 7 (.tmp 122)),
 oo 124 (.iadr none 1 (.tmp 113) (.tmp 114)),
 ⟨none, .store 1 (.tmp 124) (.const (.bool true)), none⟩,
 oo 125 (.iadr none 7 (.tmp 116) (.tmp 117)),
 ⟨none, .store 7 (.tmp 125) (.tmp 123), none⟩] [(4, 13)])
 (.seq (.seq (.ops [oo 126 (.fadr 6 (.tmp 1)),
 oo 127 (.fadr 0 (.tmp 126)),
 oo 128 (.load false 1 (.tmp 127)),
 oo 129 (.bin .eql (.tmp 128) (.const (.int .i64 2))),
 om 130 129,
 ⟨some 131, .mov (.tmp 4), some (130, true)⟩,
 ⟨some 132, .mov (.tmp 5), some (130, true)⟩,
 ⟨some 133, .bin .eql (.tmp 131) (.tmp 132), some (130, true)⟩,
 oo 134 (.pick (.tmp 130) (.tmp 133) (.const (.bool false)))])
 (.cond (.tmp 134) (.draw [oo 135 (.fadr 0 (.tmp 9)),
 oo 136 (.load false 1 (.tmp 135)),
 om 137 6,
 oo 138 (.fadr 1 (.tmp 9)),
 oo 139 (.load false 1 (.tmp 138)),
 om 140 6,
 oo 141 (.fadr 0 (.tmp 1)),
 oo 142 (.fadr 3 (.tmp 141)),
 oo 143 (.load false 1 (.tmp 142)),
 om 144 6,
 oo 145 (.iadr none 14 (.tmp 143) (.tmp 144)),
 oo 146 (.fadr 7 (.tmp 145)),
 oo 147 (.load true 7 (.tmp 146)),
 oo 148 (.iadr none 1 (.tmp 136) (.tmp 137)),
 ⟨none, .store 1 (.tmp 148) (.const (.bool false)), none⟩,
 oo 149 (.iadr none 7 (.tmp 139) (.tmp 140)),
 ⟨none, .store 7 (.tmp 149) (.tmp 147), none⟩] [(4, 14)])
 .skip))
 (.seq (.ops [oo 150 (.load true 6 (.tmp 9)),
 ⟨none, .store 6 (.tmp 2) (.tmp 150), none⟩,
 oo 3 (.mov (.const (.int .i64 0)))])
 .ret))))))))⟩
def F58 : AFn := ⟨38, [.cell 2 true 6, .tmp 3],
 (.seq (.ops [oo 1 (.box (.tmp 0)),
 oo 2 (.alloc [.nilsl, .nilsl, .nilsl, .nilsl, .nilsl, .nilsl]),
 oo 3 (.mov (.const (.int .i64 0)))])
 (.seq (.ops [oo 5 (.fadr 9 (.tmp 1)),
 oo 6 (.fadr 22 (.tmp 5)),
 oo 7 (.load false 1 (.tmp 6)),
 oo 8 (.bin .eql (.tmp 7) (.const (.int .i64 0))),
 om 4 8])
 (.seq (.seq (.ops [oo 9 (.fadr 9 (.tmp 1)),
 oo 10 (.fadr 1 (.tmp 9)),
 oo 11 (.load false 1 (.tmp 10))])
 (.block 0 (.seq (.ops [oo 13 (.bin .eql (.tmp 11) (.const (.int .i64 3))),
 om 12 13])
 (.cond (.tmp 12) (.ops [om 14 4,
 om 15 14,
 ⟨some 16, .fadr 9 (.tmp 1), some (15, false)⟩,
 ⟨some 17, .fadr 22 (.tmp 16), some (15, false)⟩,
 ⟨some 18, .load false 1 (.tmp 17), some (15, false)⟩,
 ⟨some 19, .bin .eql (.tmp 18) (.const (.int .i64 240)), some (15, false)⟩,
 oo 20 (.pick (.tmp 15) (.const (.bool true)) (.tmp 19)),
 om 4 20])
 (.seq (.ops [oo 22 (.bin .eql (.tmp 11) (.const (.int .i64 5))),
 om 21 22])
 (.cond (.tmp 21) (.ops [om 23 4,
 oo 24 (.un .not (.tmp 23)),
 om 4 24])
 .skip))))))
 (.seq (.seq (.ops [oo 25 (.fadr 9 (.tmp 1)),
 oo 26 (.fadr 5 (.tmp 25)),
 oo 27 (.load false 1 (.tmp 26)),
 oo 28 (.lenl (.tmp 27)),
 oo 29 (.bin .gtr (.tmp 28) (.const (.int .i64 0))),
 om 30 29,
 ⟨some 31, .mov (.tmp 4), some (30, false)⟩,
 ⟨some 32, .un .not (.tmp 31), some (30, false)⟩,
 oo 33 (.pick (.tmp 30) (.const (.bool true)) (.tmp 32))])
 (.cond (.tmp 33) (.seq (.ops [oo 34 (.fadr 48 (.tmp 1)),
 oo 35 (.load true 6 (.tmp 34)),
 ⟨none, .store 6 (.tmp 2) (.tmp 35), none⟩,
 oo 3 (.mov (.const (.int .i64 1)))])
 .ret)
 .skip))
 (.seq (.ops [oo 36 (.load true 54 (.tmp 1)),
 oo 37 (.call (.const (.func (.func 74) [] [])) [.tmp 36]),
 ⟨none, .store 6 (.tmp 2) (.tmp 37), none⟩,
 oo 3 (.mov (.const (.int .i64 0)))])
 .ret)))))⟩
def F59 : AFn := ⟨116, [.cell 2 true 6, .tmp 3],
 (.seq (.ops [oo 1 (.box (.tmp 0)),
 oo 2 (.alloc [.nilsl, .nilsl, .nilsl, .nilsl, .nilsl, .nilsl]),
 oo 3 (.mov (.const (.int .i64 0)))])
 (.seq (.draw [oo 12 (.fadr 9 (.tmp 1)),
 oo 13 (.fadr 22 (.tmp 12)),
 oo 14 (.load false 1 (.tmp 13)),
 oo 15 (.bin .eql (.tmp 14) (.const (.int .i64 0))),
 om 16 15,
 ⟨some 17, .fadr 9 (.tmp 1), some (16, true)⟩,
 ⟨some 18, .fadr 4 (.tmp 17), some (16, true)⟩,
 ⟨some 19, .load false 1 (.tmp 18), some (16, true)⟩,
 ⟨some 20, .bin .geq (.tmp 19) (.const (.int .i64 0)), some (16, true)⟩,
 oo 21 (.pick (.tmp 16) (.tmp 20) (.const (.bool false))),
 om 22 21,
 ⟨some 23, .fadr 9 (.tmp 1), some (22, true)⟩,
 ⟨some 24, .fadr 4 (.tmp 23), some (22, true)⟩,
 ⟨some 25, .load false 1 (.tmp 24), some (22, true)⟩,
 ⟨some 26, .bin .leq (.tmp 25) (.const (.int .i64 6)), some (22, true)⟩,
 oo 27 (.pick (.tmp 22) (.tmp 26) (.const (.bool false))),
 oo 4 (.mov (.const (.int .i64 0))),
 om 5 27] [])
 (.seq (.seq (.ops [oo 28 (.fadr 9 (.tmp 1)),
 oo 29 (.fadr 5 (.tmp 28)),
 oo 30 (.load false 1 (.tmp 29)),
 oo 31 (.lenl (.tmp 30)),
 oo 32 (.mov (.const (.int .i64 0)))])
 (.block 0 (.loop (.seq (.ops [oo 33 (.bin .lss (.tmp 32) (.tmp 31))])
 (.seq (.cond (.tmp 33) .skip
 (.exit 0))
 (.seq (.block 1 (.seq (.ops [oo 34 (.iadr none 14 (.tmp 30) (.tmp 32)),
 oo 35 (.load true 14 (.tmp 34)),
 oo 7 (.alloc [.int .i64 0, .int .i64 0, .int .i64 0, .int .i64 0, .int .i64 0, .int .i64 0, .int .i64 0, .int .i64 0, .int .i64 0, .int .i64 0, .int .i64 0, .int .i64 0, .int .i64 0, .int .i64 0]),
 ⟨none, .store 14 (.tmp 7) (.tmp 35), none⟩])
 (.seq (.ops [om 36 5,
 om 37 36,
 ⟨some 38, .fadr 0 (.tmp 7), some (37, true)⟩,
 ⟨some 39, .load false 1 (.tmp 38), some (37, true)⟩,
 ⟨some 40, .mov (.tmp 4), some (37, true)⟩,
 ⟨some 41, .bin .gtr (.tmp 39) (.tmp 40), some (37, true)⟩,
 oo 42 (.pick (.tmp 37) (.tmp 41) (.const (.bool false))),
 om 43 42,
 ⟨some 44, .fadr 0 (.tmp 7), some (43, true)⟩,
 ⟨some 45, .load false 1 (.tmp 44), some (43, true)⟩,
 ⟨some 46, .fadr 0 (.tmp 1), some (43, true)⟩,
 ⟨some 47, .fadr 3 (.tmp 46), some (43, true)⟩,
 ⟨some 48, .load false 1 (.tmp 47), some (43, true)⟩,
 ⟨some 49, .lenl (.tmp 48), some (43, true)⟩,
 ⟨some 50, .bin .leq (.tmp 45) (.tmp 49), some (43, true)⟩,
 oo 51 (.pick (.tmp 43) (.tmp 50) (.const (.bool false))),
 om 52 51,
 ⟨some 53, .fadr 1 (.tmp 7), some (52, true)⟩,
 ⟨some 54, .load true 7 (.tmp 53), some (52, true)⟩,
 ⟨some 55, .call (.const (.func (.func 55) [] [])) [.tmp 54], some (52, true)⟩,
 ⟨some 56, .bin .eql (.tmp 55) (.const (.int .i64 0)), some (52, true)⟩,
 oo 57 (.pick (.tmp 52) (.tmp 56) (.const (.bool false))),
 om 58 57,
 ⟨some 59, .fadr 8 (.tmp 7), some (58, true)⟩,
 ⟨some 60, .load true 3 (.tmp 59), some (58, true)⟩,
 ⟨some 61, .call (.const (.func (.func 75) [] [])) [.tmp 60], some (58, true)⟩,
 oo 62 (.pick (.tmp 58) (.tmp 61) (.const (.bool false))),
 om 63 62,
 ⟨some 64, .fadr 11 (.tmp 7), some (63, true)⟩,
 ⟨some 65, .load true 3 (.tmp 64), some (63, true)⟩,
 ⟨some 66, .call (.const (.func (.func 75) [] [])) [.tmp 65], some (63, true)⟩,
 oo 67 (.pick (.tmp 63) (.tmp 66) (.const (.bool false))),
 om 5 67])
 (.ops [oo 68 (.fadr 0 (.tmp 7)),
 oo 69 (.load false 1 (.tmp 68)),
 om 4 69]))))
 (.ops [oo 70 (.bin .add (.tmp 32) (.const (.int .i64 1))),
 om 32 70])))))))
 (.seq (.seq (.ops [om 71 5,
 oo 72 (.un .not (.tmp 71))])
 (.cond (.tmp 72) (.seq (.ops [oo 73 (.fadr 48 (.tmp 1)),
 oo 74 (.load true 6 (.tmp 73)),
 ⟨none, .store 6 (.tmp 2) (.tmp 74), none⟩,
 oo 3 (.mov (.const (.int .i64 1)))])
 .ret)
 .skip))
 (.seq (.ops [oo 75 (.load true 54 (.tmp 1)),
 oo 76 (.call (.const (.func (.func 74) [] [])) [.tmp 75]),
 oo 8 (.alloc [.nilsl, .nilsl, .nilsl, .nilsl, .nilsl, .nilsl]),
 ⟨none, .store 6 (.tmp 8) (.tmp 76), none⟩])
 (.seq (.seq (.ops [oo 77 (.fadr 9 (.tmp 1)),
 oo 78 (.fadr 5 (.tmp 77)),
 oo 79 (.load false 1 (.tmp 78)),
 oo 80 (.lenl (.tmp 79)),
 oo 81 (.mov (.const (.int .i64 0)))])
 (.block 2 (.loop (.seq (.ops [oo 82 (.bin .lss (.tmp 81) (.tmp 80))])
 (.seq (.cond (.tmp 82) .skip
 (.exit 2))
 (.seq (.block 3 (.seq (.ops [oo 83 (.iadr none 14 (.tmp 79) (.tmp 81)),
 oo 84 (.load true 14 (.tmp 83)),
 oo 10 (.alloc [.int .i64 0, .int .i64 0, .int .i64 0, .int .i64 0, .int .i64 0, .int .i64 0, .int .i64 0, .int .i64 0, .int .i64 0, .int .i64 0, .int .i64 0, .int .i64 0, .int .i64 0, .int .i64 0]),
 ⟨none, .store 14 (.tmp 10) (.tmp 84), none⟩])
 (.seq (.ops [oo 85 (.fadr 0 (.tmp 10)),
 oo 86 (.load false 1 (.tmp 85)),
 oo 87 (.bin .sub (.tmp 86) (.const (.int .i64 1))),
 om 11 87])
 (.seq (.seq (.ops [oo 88 (.fadr 0 (.tmp 8)),
 oo 89 (.load false 1 (.tmp 88)),
 om 90 11,
 oo 91 (.iadr none 1 (.tmp 89) (.tmp 90)),
 oo 92 (.load false 1 (.tmp 91)),
 oo 93 (.un .not (.tmp 92))])
 (.cond (.tmp 93) (.seq (.ops [oo 94 (.fadr 48 (.tmp 1)),
 oo 95 (.load true 6 (.tmp 94)),
 ⟨none, .store 6 (.tmp 2) (.tmp 95), none⟩,
 oo 3 (.mov (.const (.int .i64 4)))])
 .ret)
 .skip))
 (.draw [oo 96 (.fadr 1 (.tmp 8)),
 oo 97 (.load false 1 (.tmp 96)),
 om 98 11,
 oo 99 (.fadr 2 (.tmp 8)),
 oo 100 (.load false 1 (.tmp 99)),
 om 101 11,
 oo 102 (.fadr 3 (.tmp 8)),
 oo 103 (.load false 1 (.tmp 102)),
 om 104 11,
 oo 105 (.fadr 1 (.tmp 10)),
 oo 106 (.load true 7 (.tmp 105)),
 oo 107 (.fadr 8 (.tmp 10)),
 oo 108 (.load true 3 (.tmp 107)),
 oo 109 (.fadr 11 (.tmp 10)),
 oo 110 (.load true 3 (.tmp 109)),
 oo 111 (.iadr none 7 (.tmp 97) (.tmp 98)),
 ⟨none, .store 7 (.tmp 111) (.tmp 106), none⟩,
 oo 112 (.iadr none 3 (.tmp 100) (.tmp 101)),
 ⟨none, .store 3 (.tmp 112) (.tmp 108), none⟩,
 oo 113 (.iadr none 3 (.tmp 103) (.tmp 104)),
 ⟨none, .store 3 (.tmp 113) (.tmp 110), none⟩] [(4, 16), (7, 16), (7, 18), (12, 16), (14, 16), (14, 18)])))))
 (.ops [oo 114 (.bin .add (.tmp 81) (.const (.int .i64 1))),
 om 81 114])))))))
 (.seq (.ops [oo 115 (.load true 6 (.tmp 8)),
 ⟨none, .store 6 (.tmp 2) (.tmp 115), none⟩,
 oo 3 (.mov (.const (.int .i64 0)))])
 .ret)))))))⟩
def F60 : AFn := ⟨19, [.tmp 4],
 (.seq (.ops [oo 4 (.mov (.const (.int .i64 0)))])
 (.seq (.seq (.ops [om 6 0,
 oo 7 (.lenl (.tmp 6)),
 oo 8 (.mov (.const (.int .i64 0)))])
 (.block 0 (.loop (.seq (.ops [oo 9 (.bin .lss (.tmp 8) (.tmp 7))])
 (.seq (.cond (.tmp 9) .skip
 (.exit 0))
 (.seq (.block 1 (.seq (.ops [om 10 8,
 om 5 10])
 (.seq (.ops [om 11 1,
 om 12 0,
 om 13 5,
 oo 14 (.iadr none 1 (.tmp 12) (.tmp 13)),
 oo 15 (.load false 1 (.tmp 14)),
 oo 16 (.bin .eql (.tmp 11) (.tmp 15))])
 (.cond (.tmp 16) (.seq (.ops [om 17 5,
 om 4 17])
 .ret)
 .skip))))
 (.ops [oo 18 (.bin .add (.tmp 8) (.const (.int .i64 1))),
 om 8 18])))))))
 (.seq (.ops [oo 4 (.mov (.const (.int .i64 (-1))))])
 .ret)))⟩
def F61 : AFn := ⟨22, [.tmp 2],
 (.seq (.ops [oo 2 (.mov (.const .nilsl))])
 (.seq (.ops [oo 3 (.mov (.const .nilsl))])
 (.seq (.seq (.ops [oo 4 (.mov (.const (.int .i64 0)))])
 (.block 0 (.loop (.seq (.seq (.ops [om 5 4,
 om 6 0,
 oo 7 (.lenl (.tmp 6)),
 oo 8 (.bin .lss (.tmp 5) (.tmp 7))])
 (.cond (.tmp 8) .skip
 (.exit 0)))
 (.seq (.block 1 (.seq (.ops [om 11 0,
 om 12 4,
 oo 13 (.iadr none 1 (.tmp 11) (.tmp 12)),
 oo 14 (.load false 1 (.tmp 13))])
 (.cond (.tmp 14) (.ops [om 15 3,
 oo 16 (.mklit 1 [(.const (.int .i64 1))]),
 oo 17 (.append 1 8 false (.tmp 15) (.tmp 16)),
 om 3 17])
 (.ops [om 18 3,
 oo 19 (.mklit 1 [(.const (.int .i64 0))]),
 oo 20 (.append 1 8 false (.tmp 18) (.tmp 19)),
 om 3 20]))))
 (.ops [om 9 4,
 oo 10 (.bin .add (.tmp 9) (.const (.int .i64 1))),
 om 4 10]))))))
 (.seq (.ops [om 21 3,
 om 2 21])
 .ret))))⟩
def F62 : AFn := ⟨22, [.tmp 2],
 (.seq (.ops [oo 2 (.mov (.const .nilsl))])
 (.seq (.ops [om 5 0,
 oo 6 (.lenl (.tmp 5)),
 oo 7 (.call (.const (.func (.func 43) [] [])) [.tmp 6]),
 om 3 7])
 (.seq (.seq (.ops [oo 4 (.mov (.const (.int .i64 0)))])
 (.block 0 (.loop (.seq (.seq (.ops [om 8 4,
 om 9 0,
 oo 10 (.lenl (.tmp 9)),
 oo 11 (.bin .lss (.tmp 8) (.tmp 10))])
 (.cond (.tmp 11) .skip
 (.exit 0)))
 (.seq (.block 1 (.ops [om 14 3,
 om 15 0,
 om 16 4,
 oo 17 (.iadr none 7 (.tmp 15) (.tmp 16)),
 oo 18 (.load true 7 (.tmp 17)),
 oo 19 (.call (.const (.func (.func 76) [] [])) [.tmp 18]),
 oo 20 (.append 1 1 false (.tmp 14) (.tmp 19)),
 om 3 20]))
 (.ops [om 12 4,
 oo 13 (.bin .add (.tmp 12) (.const (.int .i64 1))),
 om 4 13]))))))
 (.seq (.ops [om 21 3,
 om 2 21])
 .ret))))⟩
def F63 : AFn := ⟨23, [.tmp 4],
 (.seq (.ops [oo 4 (.mov (.const .nilsl))])
 (.seq (.ops [oo 7 (.mklit 1 []),
 om 8 0,
 oo 9 (.append 1 8 false (.tmp 7) (.tmp 8)),
 om 5 9])
 (.seq (.seq (.ops [oo 6 (.mov (.const (.int .i64 0)))])
 (.block 0 (.loop (.seq (.seq (.ops [om 10 6,
 om 11 1,
 oo 12 (.lenl (.tmp 11)),
 oo 13 (.bin .lss (.tmp 10) (.tmp 12))])
 (.cond (.tmp 13) .skip
 (.exit 0)))
 (.seq (.block 1 (.ops [om 16 5,
 om 17 1,
 om 18 6,
 oo 19 (.iadr none 3 (.tmp 17) (.tmp 18)),
 oo 20 (.slarr 3 1 (.tmp 19) none none none),
 oo 21 (.append 1 8 false (.tmp 16) (.tmp 20)),
 om 5 21]))
 (.ops [om 14 6,
 oo 15 (.bin .add (.tmp 14) (.const (.int .i64 1))),
 om 6 15]))))))
 (.seq (.ops [om 22 5,
 om 4 22])
 .ret))))⟩
def F64 : AFn := ⟨8, [.tmp 2],
 (.seq (.ops [oo 2 (.mov (.const .nilsl))])
 (.seq (.seq (.ops [om 3 0,
 oo 4 (.eqn false .sli true (.tmp 3) (.const .nilsl))])
 (.cond (.tmp 4) (.seq (.ops [oo 2 (.mov (.const .nilsl))])
 .ret)
 .skip))
 (.seq (.ops [oo 5 (.mklit 1 []),
 om 6 0,
 oo 7 (.append 1 1 false (.tmp 5) (.tmp 6)),
 om 2 7])
 .ret)))⟩
def F65 : AFn := ⟨116, [.cell 4 true 8],
 (.seq (.ops [oo 2 (.box (.tmp 0)),
 oo 4 (.alloc [.int .u32 0, .int .u32 0, .int .u32 0, .int .u32 0, .int .u32 0, .int .u32 0, .int .u32 0, .int .u32 0])])
 (.seq (.ops [om 13 1,
 oo 14 (.call (.const (.func (.func 77) [] [])) [.tmp 13]),
 oo 5 (.alloc (List.replicate 64 (.int .u32 0))),
 ⟨none, .store 64 (.tmp 5) (.tmp 14), none⟩])
 (.seq (.draw [oo 15 (.slarr 8 1 (.tmp 2) none (some (.const (.int .i64 4))) none),
 oo 16 (.s2ap 4 (.tmp 15)),
 oo 17 (.load true 4 (.tmp 16)),
 oo 18 (.slarr 8 1 (.tmp 2) (some (.const (.int .i64 4))) none none),
 oo 19 (.s2ap 4 (.tmp 18)),
 oo 20 (.load true 4 (.tmp 19)),
 oo 6 (.alloc [.int .u32 0, .int .u32 0, .int .u32 0, .int .u32 0]),
 oo 7 (.alloc [.int .u32 0, .int .u32 0, .int .u32 0, .int .u32 0]),
 ⟨none, .store 4 (.tmp 6) (.tmp 17), none⟩,
 ⟨none, .store 4 (.tmp 7) (.tmp 20), none⟩] [(3, 8), (5, 8)])
 (.seq (.seq (.ops [oo 21 (.load true 64 (.glob 0)),
 oo 22 (.mov (.const (.int .i64 0)))])
 (.block 0 (.loop (.seq (.ops [oo 23 (.bin .lss (.tmp 22) (.const (.int .i64 64)))])
 (.seq (.cond (.tmp 23) .skip
 (.exit 0))
 (.seq (.block 1 (.seq (.ops [om 24 22,
 oo 25 (.idx 64 1 false (.tmp 21) (.tmp 22)),
 om 8 24,
 om 9 25])
 (.seq (.draw [oo 26 (.iadr (some 4) 1 (.tmp 7) (.const (.int .i64 3))),
 oo 27 (.load false 1 (.tmp 26)),
 oo 28 (.iadr (some 4) 1 (.tmp 7) (.const (.int .i64 0))),
 oo 29 (.load false 1 (.tmp 28)),
 oo 30 (.call (.const (.func (.func 78) [] [])) [.tmp 29, (.const (.int .i64 6)), (.const (.int .i64 11)), (.const (.int .i64 25))]),
 oo 31 (.bin .add (.tmp 27) (.tmp 30)),
 oo 32 (.iadr (some 4) 1 (.tmp 7) (.const (.int .i64 0))),
 oo 33 (.load false 1 (.tmp 32)),
 oo 34 (.iadr (some 4) 1 (.tmp 7) (.const (.int .i64 1))),
 oo 35 (.load false 1 (.tmp 34)),
 oo 36 (.bin .and (.tmp 33) (.tmp 35)),
 oo 37 (.iadr (some 4) 1 (.tmp 7) (.const (.int .i64 0))),
 oo 38 (.load false 1 (.tmp 37)),
 oo 39 (.un .xor (.tmp 38)),
 oo 40 (.iadr (some 4) 1 (.tmp 7) (.const (.int .i64 2))),
 oo 41 (.load false 1 (.tmp 40)),
 oo 42 (.bin .and (.tmp 39) (.tmp 41)),
 oo 43 (.bin .xor (.tmp 36) (.tmp 42)),
 oo 44 (.bin .add (.tmp 31) (.tmp 43)),
 om 45 9,
 oo 46 (.bin .add (.tmp 44) (.tmp 45)),
 om 47 8,
 oo 48 (.iadr (some 64) 1 (.tmp 5) (.tmp 47)),
 oo 49 (.load false 1 (.tmp 48)),
 oo 50 (.bin .add (.tmp 46) (.tmp 49)),
 om 10 50] [(1, 4), (7, 4), (9, 4), (12, 4), (15, 4), (23, 4)])
 (.seq (.draw [oo 51 (.iadr (some 4) 1 (.tmp 6) (.const (.int .i64 0))),
 oo 52 (.load false 1 (.tmp 51)),
 oo 53 (.call (.const (.func (.func 78) [] [])) [.tmp 52, (.const (.int .i64 2)), (.const (.int .i64 13)), (.const (.int .i64 22))]),
 oo 54 (.iadr (some 4) 1 (.tmp 6) (.const (.int .i64 0))),
 oo 55 (.load false 1 (.tmp 54)),
 oo 56 (.iadr (some 4) 1 (.tmp 6) (.const (.int .i64 1))),
 oo 57 (.load false 1 (.tmp 56)),
 oo 58 (.bin .and (.tmp 55) (.tmp 57)),
 oo 59 (.iadr (some 4) 1 (.tmp 6) (.const (.int .i64 0))),
 oo 60 (.load false 1 (.tmp 59)),
 oo 61 (.iadr (some 4) 1 (.tmp 6) (.const (.int .i64 2))),
 oo 62 (.load false 1 (.tmp 61)),
 oo 63 (.bin .and (.tmp 60) (.tmp 62)),
 oo 64 (.bin .xor (.tmp 58) (.tmp 63)),
 oo 65 (.iadr (some 4) 1 (.tmp 6) (.const (.int .i64 1))),
 oo 66 (.load false 1 (.tmp 65)),
 oo 67 (.iadr (some 4) 1 (.tmp 6) (.const (.int .i64 2))),
 oo 68 (.load false 1 (.tmp 67)),
 oo 69 (.bin .and (.tmp 66) (.tmp 68)),
 oo 70 (.bin .xor (.tmp 64) (.tmp 69)),
 oo 71 (.bin .add (.tmp 53) (.tmp 70)),
 om 11 71] [(4, 2), (6, 2), (9, 2), (11, 2), (15, 2), (17, 2)])
 (.seq (.ops [oo 72 (.iadr (some 4) 1 (.tmp 6) (.const (.int .i64 3))),
 oo 73 (.load false 1 (.tmp 72)),
 om 74 10,
 oo 75 (.bin .add (.tmp 73) (.tmp 74)),
 oo 76 (.iadr (some 4) 1 (.tmp 7) (.const (.int .i64 0))),
 oo 77 (.load false 1 (.tmp 76)),
 oo 78 (.iadr (some 4) 1 (.tmp 7) (.const (.int .i64 1))),
 oo 79 (.load false 1 (.tmp 78)),
 oo 80 (.iadr (some 4) 1 (.tmp 7) (.const (.int .i64 2))),
 oo 81 (.load false 1 (.tmp 80)),
 oo 82 (.build [.int .u32 0, .int .u32 0, .int .u32 0, .int .u32 0] [(0, 1, (.tmp 75)), (1, 1, (.tmp 77)), (2, 1, (.tmp 79)), (3, 1, (.tmp 81))]),
 ⟨none, .store 4 (.tmp 7) (.tmp 82), none⟩])
 (.ops [om 83 10,
 om 84 11,
 oo 85 (.bin .add (.tmp 83) (.tmp 84)),
 oo 86 (.iadr (some 4) 1 (.tmp 6) (.const (.int .i64 0))),
 oo 87 (.load false 1 (.tmp 86)),
 oo 88 (.iadr (some 4) 1 (.tmp 6) (.const (.int .i64 1))),
 oo 89 (.load false 1 (.tmp 88)),
 oo 90 (.iadr (some 4) 1 (.tmp 6) (.const (.int .i64 2))),
 oo 91 (.load false 1 (.tmp 90)),
 oo 92 (.build [.int .u32 0, .int .u32 0, .int .u32 0, .int .u32 0] [(0, 1, (.tmp 85)), (1, 1, (.tmp 87)), (2, 1, (.tmp 89)), (3, 1, (.tmp 91))]),
 ⟨none, .store 4 (.tmp 6) (.tmp 92), none⟩]))))))
 (.ops [oo 93 (.bin .add (.tmp 22) (.const (.int .i64 1))),
 om 22 93])))))))
 (.seq (.seq (.ops [oo 94 (.mov (.const (.int .i64 0)))])
 (.block 2 (.loop (.seq (.ops [oo 95 (.bin .lss (.tmp 94) (.const (.int .i64 4)))])
 (.seq (.cond (.tmp 95) .skip
 (.exit 2))
 (.seq (.block 3 (.seq (.ops [om 96 94,
 om 12 96])
 (.seq (.draw [om 97 12,
 oo 98 (.iadr (some 8) 1 (.tmp 2) (.tmp 97)),
 oo 99 (.load false 1 (.tmp 98)),
 om 100 12,
 oo 101 (.iadr (some 4) 1 (.tmp 6) (.tmp 100)),
 oo 102 (.load false 1 (.tmp 101)),
 oo 103 (.bin .add (.tmp 99) (.tmp 102)),
 oo 104 (.iadr (some 8) 1 (.tmp 2) (.tmp 97)),
 ⟨none, .store 1 (.tmp 104) (.tmp 103), none⟩] [])
 (.draw [om 105 12,
 oo 106 (.bin .add (.tmp 105) (.const (.int .i64 4))),
 oo 107 (.iadr (some 8) 1 (.tmp 2) (.tmp 106)),
 oo 108 (.load false 1 (.tmp 107)),
 om 109 12,
 oo 110 (.iadr (some 4) 1 (.tmp 7) (.tmp 109)),
 oo 111 (.load false 1 (.tmp 110)),
 oo 112 (.bin .add (.tmp 108) (.tmp 111)),
 oo 113 (.iadr (some 8) 1 (.tmp 2) (.tmp 106)),
 ⟨none, .store 1 (.tmp 113) (.tmp 112), none⟩] []))))
 (.ops [oo 114 (.bin .add (.tmp 94) (.const (.int .i64 1))),
 om 94 114])))))))
 (.seq (.ops [oo 115 (.load true 8 (.tmp 2)),
 ⟨none, .store 8 (.tmp 4) (.tmp 115), none⟩])
 .ret))))))⟩
def F66 : AFn := ⟨148, [.cell 2 true 32],
 (.seq (.ops [oo 2 (.alloc (List.replicate 32 (.int .u8 0)))])
 (.seq (.ops [oo 14 (.build [.int .u32 0, .int .u32 0, .int .u32 0, .int .u32 0, .int .u32 0, .int .u32 0, .int .u32 0, .int .u32 0] [(0, 1, (.const (.int .u32 1779033703))), (1, 1, (.const (.int .u32 3144134277))), (2, 1, (.const (.int .u32 1013904242))), (3, 1, (.const (.int .u32 2773480762))), (4, 1, (.const (.int .u32 1359893119))), (5, 1, (.const (.int .u32 2600822924))), (6, 1, (.const (.int .u32 528734635))), (7, 1, (.const (.int .u32 1541459225)))]),
 oo 3 (.alloc [.int .u32 0, .int .u32 0, .int .u32 0, .int .u32 0, .int .u32 0, .int .u32 0, .int .u32 0, .int .u32 0]),
 ⟨none, .store 8 (.tmp 3) (.tmp 14), none⟩])
 (.seq (.ops [om 15 0,
 oo 16 (.call (.const (.func (.func 79) [] [])) [.tmp 15]),
 om 4 16])
 (.seq (.seq (.ops [oo 5 (.mov (.const (.int .i64 0)))])
 (.block 0 (.loop (.seq (.seq (.ops [om 17 5,
 om 18 4,
 oo 19 (.lenl (.tmp 18)),
 oo 20 (.bin .lss (.tmp 17) (.tmp 19))])
 (.cond (.tmp 20) .skip
 (.exit 0)))
 (.seq (.block 1 (.seq (.ops [om 23 4,
 om 24 5,
 om 25 5,
 oo 26 (.bin .add (.tmp 25) (.const (.int .i64 64))),
 oo 27 (.slsl 1 (.tmp 23) (some (.tmp 24)) (some (.tmp 26)) none),
 oo 28 (.call (.const (.func (.func 80) [] [])) [.tmp 27]),
 oo 6 (.alloc (List.replicate 64 (.int .u32 0))),
 ⟨none, .store 64 (.tmp 6) (.tmp 28), none⟩])
 (.seq (.ops [oo 29 (.load true 8 (.tmp 3)),
 oo 7 (.alloc [.int .u32 0, .int .u32 0, .int .u32 0, .int .u32 0, .int .u32 0, .int .u32 0, .int .u32 0, .int .u32 0]),
 ⟨none, .store 8 (.tmp 7) (.tmp 29), none⟩])
 (.seq (.seq (.ops [oo 8 (.mov (.const (.int .i64 0)))])
 (.block 2 (.loop (.seq (.seq (.ops [om 30 8,
 oo 31 (.bin .lss (.tmp 30) (.const (.int .i64 64)))])
 (.cond (.tmp 31) .skip
 (.exit 2)))
 (.seq (.block 3 (.seq (.draw [oo 34 (.iadr (some 8) 1 (.tmp 7) (.const (.int .i64 7))),
 oo 35 (.load false 1 (.tmp 34)),
 oo 36 (.iadr (some 8) 1 (.tmp 7) (.const (.int .i64 4))),
 oo 37 (.load false 1 (.tmp 36)),
 oo 38 (.call (.const (.func (.func 81) [] [])) [.tmp 37, (.const (.int .i64 6))]),
 oo 39 (.iadr (some 8) 1 (.tmp 7) (.const (.int .i64 4))),
 oo 40 (.load false 1 (.tmp 39)),
 oo 41 (.call (.const (.func (.func 81) [] [])) [.tmp 40, (.const (.int .i64 11))]),
 oo 42 (.bin .xor (.tmp 38) (.tmp 41)),
 oo 43 (.iadr (some 8) 1 (.tmp 7) (.const (.int .i64 4))),
 oo 44 (.load false 1 (.tmp 43)),
 oo 45 (.call (.const (.func (.func 81) [] [])) [.tmp 44, (.const (.int .i64 25))]),
 oo 46 (.bin .xor (.tmp 42) (.tmp 45)),
 oo 47 (.bin .add (.tmp 35) (.tmp 46)),
 oo 48 (.iadr (some 8) 1 (.tmp 7) (.const (.int .i64 4))),
 oo 49 (.load false 1 (.tmp 48)),
 oo 50 (.iadr (some 8) 1 (.tmp 7) (.const (.int .i64 5))),
 oo 51 (.load false 1 (.tmp 50)),
 oo 52 (.bin .and (.tmp 49) (.tmp 51)),
 oo 53 (.iadr (some 8) 1 (.tmp 7) (.const (.int .i64 4))),
 oo 54 (.load false 1 (.tmp 53)),
 oo 55 (.bin .xor (.tmp 54) (.const (.int .u32 4294967295))),
 oo 56 (.iadr (some 8) 1 (.tmp 7) (.const (.int .i64 6))),
 oo 57 (.load false 1 (.tmp 56)),
 oo 58 (.bin .and (.tmp 55) (.tmp 57)),
 oo 59 (.bin .xor (.tmp 52) (.tmp 58)),
 oo 60 (.bin .add (.tmp 47) (.tmp 59)),
 om 61 8,
 oo 62 (.iadr (some 64) 1 (.glob 1) (.tmp 61)),
 oo 63 (.load false 1 (.tmp 62)),
 oo 64 (.bin .add (.tmp 60) (.tmp 63)),
 om 65 8,
 oo 66 (.iadr (some 64) 1 (.tmp 6) (.tmp 65)),
 oo 67 (.load false 1 (.tmp 66)),
 oo 68 (.bin .add (.tmp 64) (.tmp 67)),
 om 9 68] [(1, 4), (1, 7), (1, 11), (6, 4), (10, 4), (10, 7), (15, 4), (15, 7), (15, 11), (17, 4), (17, 7), (17, 11), (20, 4), (20, 7), (20, 11), (23, 4), (23, 7), (23, 11), (29, 4), (29, 7), (29, 11), (33, 4), (33, 7), (33, 11)])
 (.seq (.draw [oo 69 (.iadr (some 8) 1 (.tmp 7) (.const (.int .i64 0))),
 oo 70 (.load false 1 (.tmp 69)),
 oo 71 (.call (.const (.func (.func 81) [] [])) [.tmp 70, (.const (.int .i64 2))]),
 oo 72 (.iadr (some 8) 1 (.tmp 7) (.const (.int .i64 0))),
 oo 73 (.load false 1 (.tmp 72)),
 oo 74 (.call (.const (.func (.func 81) [] [])) [.tmp 73, (.const (.int .i64 13))]),
 oo 75 (.bin .xor (.tmp 71) (.tmp 74)),
 oo 76 (.iadr (some 8) 1 (.tmp 7) (.const (.int .i64 0))),
 oo 77 (.load false 1 (.tmp 76)),
 oo 78 (.call (.const (.func (.func 81) [] [])) [.tmp 77, (.const (.int .i64 22))]),
 oo 79 (.bin .xor (.tmp 75) (.tmp 78)),
 oo 80 (.iadr (some 8) 1 (.tmp 7) (.const (.int .i64 0))),
 oo 81 (.load false 1 (.tmp 80)),
 oo 82 (.iadr (some 8) 1 (.tmp 7) (.const (.int .i64 1))),
 oo 83 (.load false 1 (.tmp 82)),
 oo 84 (.bin .and (.tmp 81) (.tmp 83)),
 oo 85 (.iadr (some 8) 1 (.tmp 7) (.const (.int .i64 0))),
 oo 86 (.load false 1 (.tmp 85)),
 oo 87 (.iadr (some 8) 1 (.tmp 7) (.const (.int .i64 2))),
 oo 88 (.load false 1 (.tmp 87)),
 oo 89 (.bin .and (.tmp 86) (.tmp 88)),
 oo 90 (.bin .xor (.tmp 84) (.tmp 89)),
 oo 91 (.iadr (some 8) 1 (.tmp 7) (.const (.int .i64 1))),
 oo 92 (.load false 1 (.tmp 91)),
 oo 93 (.iadr (some 8) 1 (.tmp 7) (.const (.int .i64 2))),
 oo 94 (.load false 1 (.tmp 93)),
 oo 95 (.bin .and (.tmp 92) (.tmp 94)),
 oo 96 (.bin .xor (.tmp 90) (.tmp 95)),
 oo 97 (.bin .add (.tmp 79) (.tmp 96)),
 om 10 97] [(4, 2), (8, 2), (8, 5), (12, 2), (12, 5), (12, 9), (14, 2), (14, 5), (14, 9), (17, 2), (17, 5), (17, 9), (19, 2), (19, 5), (19, 9), (23, 2), (23, 5), (23, 9), (25, 2), (25, 5), (25, 9)])
 (.ops [om 98 9,
 om 99 10,
 oo 100 (.bin .add (.tmp 98) (.tmp 99)),
 oo 101 (.iadr (some 8) 1 (.tmp 7) (.const (.int .i64 0))),
 oo 102 (.load false 1 (.tmp 101)),
 oo 103 (.iadr (some 8) 1 (.tmp 7) (.const (.int .i64 1))),
 oo 104 (.load false 1 (.tmp 103)),
 oo 105 (.iadr (some 8) 1 (.tmp 7) (.const (.int .i64 2))),
 oo 106 (.load false 1 (.tmp 105)),
 oo 107 (.iadr (some 8) 1 (.tmp 7) (.const (.int .i64 3))),
 oo 108 (.load false 1 (.tmp 107)),
 om 109 9,
 oo 110 (.bin .add (.tmp 108) (.tmp 109)),
 oo 111 (.iadr (some 8) 1 (.tmp 7) (.const (.int .i64 4))),
 oo 112 (.load false 1 (.tmp 111)),
 oo 113 (.iadr (some 8) 1 (.tmp 7) (.const (.int .i64 5))),
 oo 114 (.load false 1 (.tmp 113)),
 oo 115 (.iadr (some 8) 1 (.tmp 7) (.const (.int .i64 6))),
 oo 116 (.load false 1 (.tmp 115)),
 oo 117 (.build [.int .u32 0, .int .u32 0, .int .u32 0, .int .u32 0, .int .u32 0, .int .u32 0, .int .u32 0, .int .u32 0] [(0, 1, (.tmp 100)), (1, 1, (.tmp 102)), (2, 1, (.tmp 104)), (3, 1, (.tmp 106)), (4, 1, (.tmp 110)), (5, 1, (.tmp 112)), (6, 1, (.tmp 114)), (7, 1, (.tmp 116))]),
 ⟨none, .store 8 (.tmp 7) (.tmp 117), none⟩]))))
 (.ops [om 32 8,
 oo 33 (.bin .add (.tmp 32) (.const (.int .i64 1))),
 om 8 33]))))))
 (.seq (.ops [oo 11 (.mov (.const (.int .i64 0)))])
 (.block 4 (.loop (.seq (.seq (.ops [om 118 11,
 oo 119 (.bin .lss (.tmp 118) (.const (.int .i64 8)))])
 (.cond (.tmp 119) .skip
 (.exit 4)))
 (.seq (.block 5 (.draw [om 122 11,
 om 123 11,
 oo 124 (.iadr (some 8) 1 (.tmp 3) (.tmp 123)),
 oo 125 (.load false 1 (.tmp 124)),
 om 126 11,
 oo 127 (.iadr (some 8) 1 (.tmp 7) (.tmp 126)),
 oo 128 (.load false 1 (.tmp 127)),
 oo 129 (.bin .add (.tmp 125) (.tmp 128)),
 oo 130 (.iadr (some 8) 1 (.tmp 3) (.tmp 122)),
 ⟨none, .store 1 (.tmp 130) (.tmp 129), none⟩] []))
 (.ops [om 120 11,
 oo 121 (.bin .add (.tmp 120) (.const (.int .i64 1))),
 om 11 121]))))))))))
 (.ops [om 21 5,
 oo 22 (.bin .add (.tmp 21) (.const (.int .i64 64))),
 om 5 22]))))))
 (.seq (.ops [oo 12 (.alloc (List.replicate 32 (.int .u8 0)))])
 (.seq (.seq (.ops [oo 13 (.mov (.const (.int .i64 0)))])
 (.block 6 (.loop (.seq (.seq (.ops [om 131 13,
 oo 132 (.bin .lss (.tmp 131) (.const (.int .i64 32)))])
 (.cond (.tmp 132) .skip
 (.exit 6)))
 (.seq (.block 7 (.ops [om 135 13,
 om 136 13,
 oo 137 (.bin .quo (.tmp 136) (.const (.int .i64 4))),
 oo 138 (.iadr (some 8) 1 (.tmp 3) (.tmp 137)),
 oo 139 (.load false 1 (.tmp 138)),
 om 140 13,
 oo 141 (.bin .rem (.tmp 140) (.const (.int .i64 4))),
 oo 142 (.bin .mul (.const (.int .i64 8)) (.tmp 141)),
 oo 143 (.bin .sub (.const (.int .i64 24)) (.tmp 142)),
 oo 144 (.bin .shr (.tmp 139) (.tmp 143)),
 oo 145 (.convi .u8 (.tmp 144)),
 oo 146 (.iadr (some 32) 1 (.tmp 12) (.tmp 135)),
 ⟨none, .store 1 (.tmp 146) (.tmp 145), none⟩]))
 (.ops [om 133 13,
 oo 134 (.bin .add (.tmp 133) (.const (.int .i64 1))),
 om 13 134]))))))
 (.seq (.ops [oo 147 (.load true 32 (.tmp 12)),
 ⟨none, .store 32 (.tmp 2) (.tmp 147), none⟩])
 .ret)))))))⟩
def F67 : AFn := ⟨8, [.tmp 2],
 (.seq (.ops [oo 2 (.mov (.const .nilsl))])
 (.seq (.ops [om 3 0,
 oo 4 (.lens (.tmp 3)),
 oo 5 (.call (.const (.func (.func 43) [] [])) [.tmp 4]),
 om 6 0,
 oo 7 (.append 1 1 false (.tmp 5) (.tmp 6)),
 om 2 7])
 .ret))⟩
def F68 : AFn := ⟨51, [.tmp 6, .tmp 7, .tmp 8],
 (.seq (.ops [oo 6 (.mov (.const .nilsl)),
 oo 7 (.mov (.const (.int .i64 0))),
 oo 8 (.mov (.const (.int .i64 0)))])
 (.seq (.ops [om 17 0,
 om 18 1,
 oo 19 (.call (.const (.func (.func 70) [] [])) [.tmp 17, .tmp 18]),
 om 16 19,
 oo 20 (.extr (.tmp 16) 0),
 oo 21 (.extr (.tmp 16) 1),
 oo 22 (.extr (.tmp 16) 2),
 om 9 20,
 om 10 21,
 om 11 22])
 (.seq (.seq (.ops [om 23 11,
 oo 24 (.bin .neq (.tmp 23) (.const (.int .i64 0)))])
 (.cond (.tmp 24) (.seq (.ops [om 25 11,
 oo 6 (.mov (.const .nilsl)),
 oo 7 (.mov (.const (.int .i64 0))),
 om 8 25])
 .ret)
 .skip))
 (.seq (.ops [oo 12 (.mov (.const .nilsl))])
 (.seq (.seq (.ops [om 26 9,
 oo 27 (.mov (.const (.int .i64 0)))])
 (.block 0 (.loop (.seq (.ops [oo 28 (.bin .lss (.tmp 27) (.tmp 26))])
 (.seq (.cond (.tmp 28) .skip
 (.exit 0))
 (.seq (.block 1 (.seq (.ops [om 30 2,
 om 31 0,
 om 32 10,
 oo 33 (.slsl 1 (.tmp 31) (some (.tmp 32)) none none),
 oo 34 (.call (.tmp 30) [.tmp 33]),
 om 29 34,
 oo 35 (.extr (.tmp 29) 0),
 oo 36 (.extr (.tmp 29) 1),
 oo 37 (.extr (.tmp 29) 2),
 om 13 35,
 om 14 36,
 om 15 37])
 (.seq (.seq (.ops [om 38 15,
 oo 39 (.bin .neq (.tmp 38) (.const (.int .i64 0)))])
 (.cond (.tmp 39) (.seq (.ops [om 40 15,
 oo 6 (.mov (.const .nilsl)),
 oo 7 (.mov (.const (.int .i64 0))),
 om 8 40])
 .ret)
 .skip))
 (.ops [om 41 12,
 om 42 13,
 oo 43 (.mklit 1 [.tmp 42]),
 oo 44 (.append 1 8 false (.tmp 41) (.tmp 43)),
 om 45 10,
 om 46 14,
 oo 47 (.bin .add (.tmp 45) (.tmp 46)),
 om 12 44,
 om 10 47]))))
 (.ops [oo 48 (.bin .add (.tmp 27) (.const (.int .i64 1))),
 om 27 48])))))))
 (.seq (.ops [om 49 12,
 om 50 10,
 om 6 49,
 om 7 50,
 oo 8 (.mov (.const (.int .i64 0)))])
 .ret))))))⟩
def F69 : AFn := ⟨53, [.tmp 2, .tmp 3, .tmp 4],
 (.seq (.ops [oo 2 (.mov (.const (.int .i64 0))),
 oo 3 (.mov (.const (.int .i64 0))),
 oo 4 (.mov (.const (.int .i64 0)))])
 (.seq (.ops [oo 5 (.mov (.const (.int .u64 0)))])
 (.seq (.ops [oo 6 (.mov (.const (.int .i64 0)))])
 (.seq .skip
 (.seq (.seq (.ops [om 9 0,
 oo 10 (.lenl (.tmp 9)),
 oo 11 (.mov (.const (.int .i64 0)))])
 (.block 0 (.loop (.seq (.ops [oo 12 (.bin .lss (.tmp 11) (.tmp 10))])
 (.seq (.cond (.tmp 12) .skip
 (.exit 0))
 (.seq (.block 1 (.seq (.ops [om 13 11,
 oo 14 (.iadr none 1 (.tmp 9) (.tmp 11)),
 oo 15 (.load false 1 (.tmp 14)),
 om 7 13,
 om 8 15])
 (.seq (.block 2 (.seq (.seq (.ops [om 25 7,
 oo 26 (.bin .eql (.tmp 25) (.const (.int .i64 9))),
 om 27 26,
 ⟨some 28, .mov (.tmp 8), some (27, true)⟩,
 ⟨some 29, .bin .gtr (.tmp 28) (.const (.int .u8 1)), some (27, true)⟩,
 oo 30 (.pick (.tmp 27) (.tmp 29) (.const (.bool false))),
 om 24 30])
 (.cond (.tmp 24) .skip
 (.ops [om 31 7,
 oo 32 (.bin .gtr (.tmp 31) (.const (.int .i64 0))),
 om 33 32,
 ⟨some 34, .mov (.tmp 8), some (33, true)⟩,
 ⟨some 35, .bin .eql (.tmp 34) (.const (.int .u8 0)), some (33, true)⟩,
 oo 36 (.pick (.tmp 33) (.tmp 35) (.const (.bool false))),
 om 24 36])))
 (.cond (.tmp 24) (.seq (.ops [oo 2 (.mov (.const (.int .i64 0))),
 oo 3 (.mov (.const (.int .i64 0))),
 oo 4 (.mov (.const (.int .i64 11)))])
 .ret)
 (.ops [om 16 5,
 om 17 8,
 oo 18 (.bin .and (.tmp 17) (.const (.int .u8 127))),
 oo 19 (.convi .u64 (.tmp 18)),
 om 20 7,
 oo 21 (.bin .mul (.const (.int .i64 7)) (.tmp 20)),
 oo 22 (.bin .shl (.tmp 19) (.tmp 21)),
 oo 23 (.bin .or (.tmp 16) (.tmp 22)),
 om 5 23]))))
 (.seq (.ops [om 37 8,
 oo 38 (.bin .lss (.tmp 37) (.const (.int .u8 128)))])
 (.cond (.tmp 38) (.seq (.ops [om 39 7,
 oo 40 (.bin .add (.tmp 39) (.const (.int .i64 1))),
 om 6 40])
 (.exit 0))
 .skip)))))
 (.ops [oo 41 (.bin .add (.tmp 11) (.const (.int .i64 1))),
 om 11 41])))))))
 (.seq (.seq (.ops [om 42 6,
 oo 43 (.bin .eql (.tmp 42) (.const (.int .i64 0)))])
 (.cond (.tmp 43) (.seq (.ops [oo 2 (.mov (.const (.int .i64 0))),
 oo 3 (.mov (.const (.int .i64 0))),
 oo 4 (.mov (.const (.int .i64 10)))])
 .ret)
 .skip))
 (.seq (.ops [om 44 5,
 oo 45 (.bin .shr (.tmp 44) (.const (.int .u64 1))),
 oo 46 (.convi .i64 (.tmp 45)),
 om 47 5,
 oo 48 (.bin .and (.tmp 47) (.const (.int .u64 1))),
 oo 49 (.convi .i64 (.tmp 48)),
 oo 50 (.un .neg (.tmp 49)),
 oo 51 (.bin .xor (.tmp 46) (.tmp 50)),
 om 52 6,
 om 2 51,
 om 3 52,
 oo 4 (.mov (.const (.int .i64 0)))])
 .ret)))))))⟩
def F70 : AFn := ⟨34, [.tmp 4, .tmp 5, .tmp 6],
 (.seq (.ops [oo 4 (.mov (.const (.int .i64 0))),
 oo 5 (.mov (.const (.int .i64 0))),
 oo 6 (.mov (.const (.int .i64 0)))])
 (.seq (.ops [om 11 0,
 oo 12 (.call (.const (.func (.func 69) [] [])) [.tmp 11]),
 om 10 12,
 oo 13 (.extr (.tmp 10) 0),
 oo 14 (.extr (.tmp 10) 1),
 oo 15 (.extr (.tmp 10) 2),
 om 7 13,
 om 8 14,
 om 9 15])
 (.seq (.block 0 (.seq (.ops [om 17 9,
 oo 18 (.bin .neq (.tmp 17) (.const (.int .i64 0))),
 om 16 18])
 (.cond (.tmp 16) (.seq (.ops [om 19 9,
 oo 4 (.mov (.const (.int .i64 0))),
 oo 5 (.mov (.const (.int .i64 0))),
 om 6 19])
 .ret)
 (.seq (.ops [om 21 7,
 oo 22 (.bin .lss (.tmp 21) (.const (.int .i64 0))),
 om 20 22])
 (.cond (.tmp 20) (.seq (.ops [oo 4 (.mov (.const (.int .i64 0))),
 oo 5 (.mov (.const (.int .i64 0))),
 oo 6 (.mov (.const (.int .i64 11)))])
 .ret)
 (.seq (.ops [om 24 7,
 om 25 0,
 oo 26 (.lenl (.tmp 25)),
 om 27 8,
 oo 28 (.bin .sub (.tmp 26) (.tmp 27)),
 om 29 1,
 oo 30 (.bin .quo (.tmp 28) (.tmp 29)),
 oo 31 (.bin .gtr (.tmp 24) (.tmp 30)),
 om 23 31])
 (.cond (.tmp 23) (.seq (.ops [oo 4 (.mov (.const (.int .i64 0))),
 oo 5 (.mov (.const (.int .i64 0))),
 oo 6 (.mov (.const (.int .i64 10)))])
 .ret)
 .skip)))))))
 (.seq (.ops [om 32 7,
 om 33 8,
 om 4 32,
 om 5 33,
 oo 6 (.mov (.const (.int .i64 0)))])
 .ret))))⟩
def F71 : AFn := ⟨19, [.tmp 2],
 (.seq (.ops [oo 1 (.box (.tmp 0)),
 oo 2 (.mov (.const (.bool false)))])
 (.seq (.seq (.ops [oo 5 (.load true 4 (.tmp 1)),
 oo 6 (.call (.const (.func (.func 82) [] [])) [.tmp 5]),
 oo 7 (.un .not (.tmp 6))])
 (.cond (.tmp 7) (.seq (.ops [oo 2 (.mov (.const (.bool false)))])
 .ret)
 .skip))
 (.seq (.ops [oo 9 (.load true 4 (.tmp 1)),
 oo 10 (.call (.const (.func (.func 83) [] [])) [.tmp 9]),
 om 8 10,
 oo 11 (.extr (.tmp 8) 0),
 oo 12 (.extr (.tmp 8) 1),
 oo 3 (.alloc [.int .i64 0, .int .i64 0, .int .i64 0, .int .i64 0]),
 ⟨none, .store 4 (.tmp 3) (.tmp 11), none⟩,
 om 4 12])
 (.seq (.ops [om 13 4,
 om 14 13,
 ⟨some 15, .load true 4 (.tmp 3), some (14, true)⟩,
 ⟨some 16, .load true 4 (.tmp 1), some (14, true)⟩,
 ⟨some 17, .eqf false [.i, .i, .i, .i] (.tmp 15) (.tmp 16), some (14, true)⟩,
 oo 18 (.pick (.tmp 14) (.tmp 17) (.const (.bool false))),
 om 2 18])
 .ret))))⟩
def F72 : AFn := ⟨45, [.cell 6 true 6, .tmp 7],
 (.seq (.ops [oo 3 (.box (.tmp 0)),
 oo 4 (.box (.tmp 1)),
 oo 5 (.box (.tmp 2)),
 oo 6 (.alloc [.nilsl, .nilsl, .nilsl, .nilsl, .nilsl, .nilsl]),
 oo 7 (.mov (.const (.int .i64 0)))])
 (.seq (.seq (.ops [oo 11 (.load true 6 (.tmp 3)),
 oo 12 (.load true 3 (.tmp 5)),
 oo 13 (.call (.const (.func (.func 34) [] [])) [.tmp 11, .tmp 12]),
 om 8 13])
 (.seq (.ops [om 14 8,
 oo 15 (.bin .neq (.tmp 14) (.const (.int .i64 0)))])
 (.cond (.tmp 15) (.seq (.ops [oo 16 (.load true 6 (.tmp 4)),
 om 17 8,
 ⟨none, .store 6 (.tmp 6) (.tmp 16), none⟩,
 om 7 17])
 .ret)
 .skip)))
 (.seq (.ops [oo 18 (.load true 6 (.tmp 4)),
 oo 19 (.call (.const (.func (.func 84) [] [])) [.tmp 18]),
 oo 9 (.alloc [.nilsl, .nilsl, .nilsl, .nilsl, .nilsl, .nilsl]),
 ⟨none, .store 6 (.tmp 9) (.tmp 19), none⟩])
 (.seq (.seq (.ops [oo 20 (.fadr 0 (.tmp 5)),
 oo 21 (.load false 1 (.tmp 20)),
 oo 22 (.bin .eql (.tmp 21) (.const (.int .i64 7))),
 om 23 22,
 ⟨some 24, .fadr 0 (.tmp 5), some (23, false)⟩,
 ⟨some 25, .load false 1 (.tmp 24), some (23, false)⟩,
 ⟨some 26, .bin .eql (.tmp 25) (.const (.int .i64 8)), some (23, false)⟩,
 oo 27 (.pick (.tmp 23) (.const (.bool true)) (.tmp 26))])
 (.cond (.tmp 27) (.seq (.ops [oo 28 (.load true 6 (.tmp 9)),
 ⟨none, .store 6 (.tmp 6) (.tmp 28), none⟩,
 oo 7 (.mov (.const (.int .i64 0)))])
 .ret)
 .skip))
 (.seq (.seq (.ops [oo 29 (.load true 6 (.tmp 4)),
 oo 30 (.call (.const (.func (.func 73) [] [])) [.tmp 29]),
 oo 31 (.un .not (.tmp 30))])
 (.cond (.tmp 31) (.seq (.ops [oo 32 (.load true 6 (.tmp 4)),
 ⟨none, .store 6 (.tmp 6) (.tmp 32), none⟩,
 oo 7 (.mov (.const (.int .i64 4)))])
 .ret)
 .skip))
 (.seq (.seq (.draw [oo 33 (.call (.const (.func (.func 85) [] [])) []),
 oo 34 (.fadr 0 (.tmp 5)),
 oo 35 (.load false 1 (.tmp 34)),
 oo 36 (.lookup .i .nilfn false (.tmp 33) (.tmp 35)),
 oo 37 (.load true 6 (.tmp 3)),
 oo 38 (.load true 3 (.tmp 5)),
 oo 39 (.call (.tmp 36) [.tmp 37, .tmp 9, .tmp 38]),
 om 10 39] [(2, 0), (4, 0), (5, 0)])
 (.seq (.ops [om 40 10,
 oo 41 (.bin .neq (.tmp 40) (.const (.int .i64 0)))])
 (.cond (.tmp 41) (.seq (.ops [oo 42 (.load true 6 (.tmp 4)),
 om 43 10,
 ⟨none, .store 6 (.tmp 6) (.tmp 42), none⟩,
 om 7 43])
 .ret)
 .skip)))
 (.seq (.ops [oo 44 (.load true 6 (.tmp 9)),
 ⟨none, .store 6 (.tmp 6) (.tmp 44), none⟩,
 oo 7 (.mov (.const (.int .i64 0)))])
 .ret)))))))⟩
def F73 : AFn := ⟨16, [.tmp 2],
 (.seq (.ops [oo 1 (.box (.tmp 0)),
 oo 2 (.mov (.const (.bool false)))])
 (.seq (.ops [oo 3 (.mov (.const (.func (.func 86) [] [])))])
 (.seq (.ops [oo 4 (.fadr 2 (.tmp 1)),
 oo 5 (.load false 1 (.tmp 4)),
 om 6 3,
 oo 7 (.call (.const (.func (.func 87) [] [])) [.tmp 5, .tmp 6]),
 oo 8 (.un .not (.tmp 7)),
 om 9 8,
 ⟨some 10, .fadr 3 (.tmp 1), some (9, true)⟩,
 ⟨some 11, .load false 1 (.tmp 10), some (9, true)⟩,
 ⟨some 12, .mov (.tmp 3), some (9, true)⟩,
 ⟨some 13, .call (.const (.func (.func 87) [] [])) [.tmp 11, .tmp 12], some (9, true)⟩,
 ⟨some 14, .un .not (.tmp 13), some (9, true)⟩,
 oo 15 (.pick (.tmp 9) (.tmp 14) (.const (.bool false))),
 om 2 15])
 .ret)))⟩
def F74 : AFn := ⟨31, [.cell 2 true 6],
 (.seq (.ops [oo 1 (.box (.tmp 0)),
 oo 2 (.alloc [.nilsl, .nilsl, .nilsl, .nilsl, .nilsl, .nilsl])])
 (.seq (.ops [oo 4 (.fadr 48 (.tmp 1)),
 oo 5 (.load true 6 (.tmp 4)),
 oo 3 (.alloc [.nilsl, .nilsl, .nilsl, .nilsl, .nilsl, .nilsl]),
 ⟨none, .store 6 (.tmp 3) (.tmp 5), none⟩])
 (.seq (.draw [oo 6 (.fadr 0 (.tmp 3)),
 oo 7 (.load false 1 (.tmp 6)),
 oo 8 (.call (.const (.func (.func 88) [] [])) [.tmp 7]),
 oo 9 (.fadr 1 (.tmp 3)),
 oo 10 (.load false 1 (.tmp 9)),
 oo 11 (.call (.const (.func (.func 89) [] [])) [.tmp 10]),
 oo 12 (.fadr 2 (.tmp 3)),
 oo 13 (.load false 1 (.tmp 12)),
 oo 14 (.call (.const (.func (.func 90) [] [])) [.tmp 13]),
 oo 15 (.fadr 3 (.tmp 3)),
 oo 16 (.load false 1 (.tmp 15)),
 oo 17 (.call (.const (.func (.func 90) [] [])) [.tmp 16]),
 oo 18 (.fadr 0 (.tmp 3)),
 ⟨none, .store 1 (.tmp 18) (.tmp 8), none⟩,
 oo 19 (.fadr 1 (.tmp 3)),
 ⟨none, .store 1 (.tmp 19) (.tmp 11), none⟩,
 oo 20 (.fadr 2 (.tmp 3)),
 ⟨none, .store 1 (.tmp 20) (.tmp 14), none⟩,
 oo 21 (.fadr 3 (.tmp 3)),
 ⟨none, .store 1 (.tmp 21) (.tmp 17), none⟩] [(4, 2), (7, 2), (7, 5), (10, 2), (10, 5), (10, 8)])
 (.seq (.draw [oo 22 (.fadr 4 (.tmp 3)),
 oo 23 (.load false 1 (.tmp 22)),
 oo 24 (.call (.const (.func (.func 88) [] [])) [.tmp 23]),
 oo 25 (.fadr 5 (.tmp 3)),
 oo 26 (.load false 1 (.tmp 25)),
 oo 27 (.call (.const (.func (.func 88) [] [])) [.tmp 26]),
 oo 28 (.fadr 4 (.tmp 3)),
 ⟨none, .store 1 (.tmp 28) (.tmp 24), none⟩,
 oo 29 (.fadr 5 (.tmp 3)),
 ⟨none, .store 1 (.tmp 29) (.tmp 27), none⟩] [(4, 2)])
 (.seq (.ops [oo 30 (.load true 6 (.tmp 3)),
 ⟨none, .store 6 (.tmp 2) (.tmp 30), none⟩])
 .ret)))))⟩
def F75 : AFn := ⟨16, [.tmp 2],
 (.seq (.ops [oo 1 (.box (.tmp 0)),
 oo 2 (.mov (.const (.bool false)))])
 (.seq (.seq (.ops [oo 5 (.load true 3 (.tmp 1)),
 oo 6 (.mov (.const (.int .i64 0)))])
 (.block 0 (.loop (.seq (.ops [oo 7 (.bin .lss (.tmp 6) (.const (.int .i64 3)))])
 (.seq (.cond (.tmp 7) .skip
 (.exit 0))
 (.seq (.block 1 (.seq (.ops [oo 8 (.idx 3 1 false (.tmp 5) (.tmp 6)),
 om 4 8])
 (.seq (.ops [om 9 4,
 oo 10 (.bin .geq (.tmp 9) (.const (.int .i64 1099511627776))),
 om 11 10,
 ⟨some 12, .mov (.tmp 4), some (11, false)⟩,
 ⟨some 13, .bin .leq (.tmp 12) (.const (.int .i64 (-1099511627776))), some (11, false)⟩,
 oo 14 (.pick (.tmp 11) (.const (.bool true)) (.tmp 13))])
 (.cond (.tmp 14) (.seq (.ops [oo 2 (.mov (.const (.bool false)))])
 .ret)
 .skip))))
 (.ops [oo 15 (.bin .add (.tmp 6) (.const (.int .i64 1))),
 om 6 15])))))))
 (.seq (.ops [oo 2 (.mov (.const (.bool true)))])
 .ret)))⟩
def F76 : AFn := ⟨10, [.tmp 2],
 (.seq (.ops [oo 1 (.box (.tmp 0)),
 oo 2 (.mov (.const .nilsl))])
 (.seq (.draw [oo 3 (.fadr 0 (.tmp 1)),
 oo 4 (.slarr 3 1 (.tmp 3) none none none),
 oo 5 (.call (.const (.func (.func 91) [] [])) [.tmp 4]),
 oo 6 (.fadr 3 (.tmp 1)),
 oo 7 (.slarr 4 1 (.tmp 6) none none none),
 oo 8 (.call (.const (.func (.func 91) [] [])) [.tmp 7]),
 oo 9 (.append 1 1 false (.tmp 5) (.tmp 8)),
 om 2 9] [(4, 2)])
 .ret))⟩
def F77 : AFn := ⟨79, [.cell 2 true 64],
 (.seq (.ops [oo 2 (.alloc (List.replicate 64 (.int .u32 0)))])
 (.seq (.ops [oo 3 (.alloc (List.replicate 64 (.int .u32 0)))])
 (.seq (.seq (.ops [oo 11 (.mov (.const (.int .i64 0)))])
 (.block 0 (.loop (.seq (.ops [oo 12 (.bin .lss (.tmp 11) (.const (.int .i64 64)))])
 (.seq (.cond (.tmp 12) .skip
 (.exit 0))
 (.seq (.block 1 (.seq (.ops [om 13 11,
 om 4 13])
 (.seq (.seq (.ops [om 14 4,
 oo 15 (.bin .lss (.tmp 14) (.const (.int .i64 16)))])
 (.cond (.tmp 15) (.seq (.seq (.ops [om 16 0,
 om 17 4,
 oo 18 (.bin .mul (.const (.int .i64 4)) (.tmp 17)),
 om 19 4,
 oo 20 (.bin .mul (.const (.int .i64 4)) (.tmp 19)),
 oo 21 (.bin .add (.tmp 20) (.const (.int .i64 4))),
 oo 22 (.slsl 1 (.tmp 16) (some (.tmp 18)) (some (.tmp 21)) none),
 oo 23 (.lenl (.tmp 22)),
 oo 24 (.mov (.const (.int .i64 0)))])
 (.block 2 (.loop (.seq (.ops [oo 25 (.bin .lss (.tmp 24) (.tmp 23))])
 (.seq (.cond (.tmp 25) .skip
 (.exit 2))
 (.seq (.block 3 (.seq (.ops [oo 26 (.iadr none 1 (.tmp 22) (.tmp 24)),
 oo 27 (.load false 1 (.tmp 26)),
 om 6 27])
 (.ops [om 28 4,
 om 29 4,
 oo 30 (.iadr (some 64) 1 (.tmp 3) (.tmp 29)),
 oo 31 (.load false 1 (.tmp 30)),
 oo 32 (.bin .shl (.tmp 31) (.const (.int .u64 8))),
 om 33 6,
 oo 34 (.convi .u32 (.tmp 33)),
 oo 35 (.bin .or (.tmp 32) (.tmp 34)),
 oo 36 (.iadr (some 64) 1 (.tmp 3) (.tmp 28)),
 ⟨none, .store 1 (.tmp 36) (.tmp 35), none⟩])))
 (.ops [oo 37 (.bin .add (.tmp 24) (.const (.int .i64 1))),
 om 24 37])))))))
 (.exit 1))
 .skip))
 (.seq (.draw [om 38 4,
 oo 39 (.bin .sub (.tmp 38) (.const (.int .i64 15))),
 oo 40 (.iadr (some 64) 1 (.tmp 3) (.tmp 39)),
 oo 41 (.load false 1 (.tmp 40)),
 om 42 4,
 oo 43 (.bin .sub (.tmp 42) (.const (.int .i64 2))),
 oo 44 (.iadr (some 64) 1 (.tmp 3) (.tmp 43)),
 oo 45 (.load false 1 (.tmp 44)),
 om 7 41,
 om 8 45] [])
 (.seq (.ops [om 46 7,
 oo 47 (.call (.const (.func (.func 92) [] [])) [.tmp 46, (.const (.int .i64 (-7)))]),
 om 48 7,
 oo 49 (.call (.const (.func (.func 92) [] [])) [.tmp 48, (.const (.int .i64 (-18)))]),
 oo 50 (.bin .xor (.tmp 47) (.tmp 49)),
 om 51 7,
 oo 52 (.bin .shr (.tmp 51) (.const (.int .u64 3))),
 oo 53 (.bin .xor (.tmp 50) (.tmp 52)),
 om 9 53])
 (.seq (.ops [om 54 8,
 oo 55 (.call (.const (.func (.func 92) [] [])) [.tmp 54, (.const (.int .i64 (-17)))]),
 om 56 8,
 oo 57 (.call (.const (.func (.func 92) [] [])) [.tmp 56, (.const (.int .i64 (-19)))]),
 oo 58 (.bin .xor (.tmp 55) (.tmp 57)),
 om 59 8,
 oo 60 (.bin .shr (.tmp 59) (.const (.int .u64 10))),
 oo 61 (.bin .xor (.tmp 58) (.tmp 60)),
 om 10 61])
 (.draw [om 62 4,
 om 63 4,
 oo 64 (.bin .sub (.tmp 63) (.const (.int .i64 16))),
 oo 65 (.iadr (some 64) 1 (.tmp 3) (.tmp 64)),
 oo 66 (.load false 1 (.tmp 65)),
 om 67 9,
 oo 68 (.bin .add (.tmp 66) (.tmp 67)),
 om 69 4,
 oo 70 (.bin .sub (.tmp 69) (.const (.int .i64 7))),
 oo 71 (.iadr (some 64) 1 (.tmp 3) (.tmp 70)),
 oo 72 (.load false 1 (.tmp 71)),
 oo 73 (.bin .add (.tmp 68) (.tmp 72)),
 om 74 10,
 oo 75 (.bin .add (.tmp 73) (.tmp 74)),
 oo 76 (.iadr (some 64) 1 (.tmp 3) (.tmp 62)),
 ⟨none, .store 1 (.tmp 76) (.tmp 75), none⟩] [])))))))
 (.ops [oo 77 (.bin .add (.tmp 11) (.const (.int .i64 1))),
 om 11 77])))))))
 (.seq (.ops [oo 78 (.load true 64 (.tmp 3)),
 ⟨none, .store 64 (.tmp 2) (.tmp 78), none⟩])
 .ret))))⟩
def F78 : AFn := ⟨23, [.tmp 8],
 (.seq (.ops [oo 8 (.mov (.const (.int .u32 0)))])
 (.seq (.ops [om 9 0,
 om 10 1,
 oo 11 (.un .neg (.tmp 10)),
 oo 12 (.call (.const (.func (.func 92) [] [])) [.tmp 9, .tmp 11]),
 om 13 0,
 om 14 2,
 oo 15 (.un .neg (.tmp 14)),
 oo 16 (.call (.const (.func (.func 92) [] [])) [.tmp 13, .tmp 15]),
 oo 17 (.bin .xor (.tmp 12) (.tmp 16)),
 om 18 0,
 om 19 3,
 oo 20 (.un .neg (.tmp 19)),
 oo 21 (.call (.const (.func (.func 92) [] [])) [.tmp 18, .tmp 20]),
 oo 22 (.bin .xor (.tmp 17) (.tmp 21)),
 om 8 22])
 .ret))⟩
def F79 : AFn := ⟨37, [.tmp 2],
 (.seq (.ops [oo 2 (.mov (.const .nilsl))])
 (.seq (.ops [oo 6 (.mklit 1 []),
 om 7 0,
 oo 8 (.append 1 1 false (.tmp 6) (.tmp 7)),
 om 3 8])
 (.seq (.ops [om 9 3,
 oo 10 (.mklit 1 [(.const (.int .u8 128))]),
 oo 11 (.append 1 1 false (.tmp 9) (.tmp 10)),
 om 3 11])
 (.seq (.block 0 (.loop (.seq (.seq (.ops [om 12 3,
 oo 13 (.lenl (.tmp 12)),
 oo 14 (.bin .rem (.tmp 13) (.const (.int .i64 64))),
 oo 15 (.bin .neq (.tmp 14) (.const (.int .i64 56)))])
 (.cond (.tmp 15) .skip
 (.exit 0)))
 (.block 1 (.ops [om 16 3,
 oo 17 (.mklit 1 [(.const (.int .u8 0))]),
 oo 18 (.append 1 1 false (.tmp 16) (.tmp 17)),
 om 3 18])))))
 (.seq (.ops [om 19 0,
 oo 20 (.lenl (.tmp 19)),
 oo 21 (.convi .u64 (.tmp 20)),
 oo 22 (.bin .mul (.const (.int .u64 8)) (.tmp 21)),
 om 4 22])
 (.seq (.seq (.ops [oo 5 (.mov (.const (.int .i64 0)))])
 (.block 2 (.loop (.seq (.seq (.ops [om 23 5,
 oo 24 (.bin .lss (.tmp 23) (.const (.int .i64 8)))])
 (.cond (.tmp 24) .skip
 (.exit 2)))
 (.seq (.block 3 (.ops [om 27 3,
 om 28 4,
 om 29 5,
 oo 30 (.bin .mul (.const (.int .i64 8)) (.tmp 29)),
 oo 31 (.bin .sub (.const (.int .i64 56)) (.tmp 30)),
 oo 32 (.bin .shr (.tmp 28) (.tmp 31)),
 oo 33 (.convi .u8 (.tmp 32)),
 oo 34 (.mklit 1 [.tmp 33]),
 oo 35 (.append 1 1 false (.tmp 27) (.tmp 34)),
 om 3 35]))
 (.ops [om 25 5,
 oo 26 (.bin .add (.tmp 25) (.const (.int .i64 1))),
 om 5 26]))))))
 (.seq (.ops [om 36 3,
 om 2 36])
 .ret)))))))⟩
def F80 : AFn := ⟨101, [.cell 2 true 64],
 (.seq (.ops [oo 2 (.alloc (List.replicate 64 (.int .u32 0)))])
 (.seq (.ops [oo 3 (.alloc (List.replicate 64 (.int .u32 0)))])
 (.seq (.seq (.ops [oo 4 (.mov (.const (.int .i64 0)))])
 (.block 0 (.loop (.seq (.seq (.ops [om 8 4,
 oo 9 (.bin .lss (.tmp 8) (.const (.int .i64 16)))])
 (.cond (.tmp 9) .skip
 (.exit 0)))
 (.seq (.block 1 (.draw [om 12 4,
 om 13 0,
 om 14 4,
 oo 15 (.bin .mul (.const (.int .i64 4)) (.tmp 14)),
 oo 16 (.iadr none 1 (.tmp 13) (.tmp 15)),
 oo 17 (.load false 1 (.tmp 16)),
 oo 18 (.convi .u32 (.tmp 17)),
 oo 19 (.bin .shl (.tmp 18) (.const (.int .u64 24))),
 om 20 0,
 om 21 4,
 oo 22 (.bin .mul (.const (.int .i64 4)) (.tmp 21)),
 oo 23 (.bin .add (.tmp 22) (.const (.int .i64 1))),
 oo 24 (.iadr none 1 (.tmp 20) (.tmp 23)),
 oo 25 (.load false 1 (.tmp 24)),
 oo 26 (.convi .u32 (.tmp 25)),
 oo 27 (.bin .shl (.tmp 26) (.const (.int .u64 16))),
 oo 28 (.bin .or (.tmp 19) (.tmp 27)),
 om 29 0,
 om 30 4,
 oo 31 (.bin .mul (.const (.int .i64 4)) (.tmp 30)),
 oo 32 (.bin .add (.tmp 31) (.const (.int .i64 2))),
 oo 33 (.iadr none 1 (.tmp 29) (.tmp 32)),
 oo 34 (.load false 1 (.tmp 33)),
 oo 35 (.convi .u32 (.tmp 34)),
 oo 36 (.bin .shl (.tmp 35) (.const (.int .u64 8))),
 oo 37 (.bin .or (.tmp 28) (.tmp 36)),
 om 38 0,
 om 39 4,
 oo 40 (.bin .mul (.const (.int .i64 4)) (.tmp 39)),
 oo 41 (.bin .add (.tmp 40) (.const (.int .i64 3))),
 oo 42 (.iadr none 1 (.tmp 38) (.tmp 41)),
 oo 43 (.load false 1 (.tmp 42)),
 oo 44 (.convi .u32 (.tmp 43)),
 oo 45 (.bin .or (.tmp 37) (.tmp 44)),
 oo 46 (.iadr (some 64) 1 (.tmp 3) (.tmp 12)),
 ⟨none, .store 1 (.tmp 46) (.tmp 45), none⟩] []))
 (.ops [om 10 4,
 oo 11 (.bin .add (.tmp 10) (.const (.int .i64 1))),
 om 4 11]))))))
 (.seq (.seq (.ops [oo 5 (.mov (.const (.int .i64 16)))])
 (.block 2 (.loop (.seq (.seq (.ops [om 47 5,
 oo 48 (.bin .lss (.tmp 47) (.const (.int .i64 64)))])
 (.cond (.tmp 48) .skip
 (.exit 2)))
 (.seq (.block 3 (.seq (.draw [om 51 5,
 oo 52 (.bin .sub (.tmp 51) (.const (.int .i64 15))),
 oo 53 (.iadr (some 64) 1 (.tmp 3) (.tmp 52)),
 oo 54 (.load false 1 (.tmp 53)),
 oo 55 (.call (.const (.func (.func 81) [] [])) [.tmp 54, (.const (.int .i64 7))]),
 om 56 5,
 oo 57 (.bin .sub (.tmp 56) (.const (.int .i64 15))),
 oo 58 (.iadr (some 64) 1 (.tmp 3) (.tmp 57)),
 oo 59 (.load false 1 (.tmp 58)),
 oo 60 (.call (.const (.func (.func 81) [] [])) [.tmp 59, (.const (.int .i64 18))]),
 oo 61 (.bin .xor (.tmp 55) (.tmp 60)),
 om 62 5,
 oo 63 (.bin .sub (.tmp 62) (.const (.int .i64 15))),
 oo 64 (.iadr (some 64) 1 (.tmp 3) (.tmp 63)),
 oo 65 (.load false 1 (.tmp 64)),
 oo 66 (.bin .shr (.tmp 65) (.const (.int .u64 3))),
 oo 67 (.bin .xor (.tmp 61) (.tmp 66)),
 om 6 67] [(8, 4), (14, 4), (14, 9)])
 (.seq (.draw [om 68 5,
 oo 69 (.bin .sub (.tmp 68) (.const (.int .i64 2))),
 oo 70 (.iadr (some 64) 1 (.tmp 3) (.tmp 69)),
 oo 71 (.load false 1 (.tmp 70)),
 oo 72 (.call (.const (.func (.func 81) [] [])) [.tmp 71, (.const (.int .i64 17))]),
 om 73 5,
 oo 74 (.bin .sub (.tmp 73) (.const (.int .i64 2))),
 oo 75 (.iadr (some 64) 1 (.tmp 3) (.tmp 74)),
 oo 76 (.load false 1 (.tmp 75)),
 oo 77 (.call (.const (.func (.func 81) [] [])) [.tmp 76, (.const (.int .i64 19))]),
 oo 78 (.bin .xor (.tmp 72) (.tmp 77)),
 om 79 5,
 oo 80 (.bin .sub (.tmp 79) (.const (.int .i64 2))),
 oo 81 (.iadr (some 64) 1 (.tmp 3) (.tmp 80)),
 oo 82 (.load false 1 (.tmp 81)),
 oo 83 (.bin .shr (.tmp 82) (.const (.int .u64 10))),
 oo 84 (.bin .xor (.tmp 78) (.tmp 83)),
 om 7 84] [(8, 4), (14, 4), (14, 9)])
 (.draw [om 85 5,
 om 86 5,
 oo 87 (.bin .sub (.tmp 86) (.const (.int .i64 16))),
 oo 88 (.iadr (some 64) 1 (.tmp 3) (.tmp 87)),
 oo 89 (.load false 1 (.tmp 88)),
 om 90 6,
 oo 91 (.bin .add (.tmp 89) (.tmp 90)),
 om 92 5,
 oo 93 (.bin .sub (.tmp 92) (.const (.int .i64 7))),
 oo 94 (.iadr (some 64) 1 (.tmp 3) (.tmp 93)),
 oo 95 (.load false 1 (.tmp 94)),
 oo 96 (.bin .add (.tmp 91) (.tmp 95)),
 om 97 7,
 oo 98 (.bin .add (.tmp 96) (.tmp 97)),
 oo 99 (.iadr (some 64) 1 (.tmp 3) (.tmp 85)),
 ⟨none, .store 1 (.tmp 99) (.tmp 98), none⟩] []))))
 (.ops [om 49 5,
 oo 50 (.bin .add (.tmp 49) (.const (.int .i64 1))),
 om 5 50]))))))
 (.seq (.ops [oo 100 (.load true 64 (.tmp 3)),
 ⟨none, .store 64 (.tmp 2) (.tmp 100), none⟩])
 .ret)))))⟩
def F81 : AFn := ⟨13, [.tmp 4],
 (.seq (.ops [oo 4 (.mov (.const (.int .u32 0)))])
 (.seq (.draw [om 5 0,
 om 6 1,
 oo 7 (.bin .shr (.tmp 5) (.tmp 6)),
 om 8 0,
 om 9 1,
 oo 10 (.bin .sub (.const (.int .i64 32)) (.tmp 9)),
 oo 11 (.bin .shl (.tmp 8) (.tmp 10)),
 oo 12 (.bin .or (.tmp 7) (.tmp 11)),
 om 4 12] [])
 .ret))⟩
def F82 : AFn := ⟨25, [.tmp 2],
 (.seq (.ops [oo 1 (.box (.tmp 0)),
 oo 2 (.mov (.const (.bool false)))])
 (.seq (.seq (.ops [oo 5 (.load true 4 (.tmp 1)),
 oo 6 (.mov (.const (.int .i64 0)))])
 (.block 0 (.loop (.seq (.ops [oo 7 (.bin .lss (.tmp 6) (.const (.int .i64 4)))])
 (.seq (.cond (.tmp 7) .skip
 (.exit 0))
 (.seq (.block 1 (.seq (.ops [oo 8 (.idx 4 1 false (.tmp 5) (.tmp 6)),
 om 4 8])
 (.seq (.ops [om 9 4,
 om 10 4,
 oo 11 (.un .neg (.tmp 10)),
 oo 12 (.maxi (.tmp 9) (.tmp 11)),
 oo 13 (.bin .gtr (.tmp 12) (.const (.int .i64 64))),
 om 14 13,
 ⟨some 15, .mov (.tmp 4), some (14, false)⟩,
 ⟨some 16, .mov (.tmp 4), some (14, false)⟩,
 ⟨some 17, .un .neg (.tmp 16), some (14, false)⟩,
 ⟨some 18, .bin .eql (.tmp 15) (.tmp 17), some (14, false)⟩,
 ⟨some 19, .mov (.tmp 18), some (14, false)⟩,
 ⟨some 20, .mov (.tmp 4), some (19, true)⟩,
 ⟨some 21, .bin .neq (.tmp 20) (.const (.int .i64 0)), some (19, true)⟩,
 ⟨some 22, .pick (.tmp 19) (.tmp 21) (.const (.bool false)), some (14, false)⟩,
 oo 23 (.pick (.tmp 14) (.const (.bool true)) (.tmp 22))])
 (.cond (.tmp 23) (.seq (.ops [oo 2 (.mov (.const (.bool false)))])
 .ret)
 .skip))))
 (.ops [oo 24 (.bin .add (.tmp 6) (.const (.int .i64 1))),
 om 6 24])))))))
 (.seq (.ops [oo 2 (.mov (.const (.bool true)))])
 .ret)))⟩
def F83 : AFn := ⟨35, [.cell 2 true 4, .tmp 3],
 (.seq (.ops [oo 1 (.box (.tmp 0)),
 oo 2 (.alloc [.int .i64 0, .int .i64 0, .int .i64 0, .int .i64 0]),
 oo 3 (.mov (.const (.bool false)))])
 (.seq (.ops [oo 8 (.slarr 4 1 (.tmp 1) none none none),
 oo 9 (.call (.const (.func (.func 93) [] [])) [.tmp 8]),
 om 4 9])
 (.seq (.seq (.ops [om 10 4,
 oo 11 (.bin .eql (.tmp 10) (.const (.int .i64 0)))])
 (.cond (.tmp 11) (.seq (.ops [oo 12 (.build [.int .i64 0, .int .i64 0, .int .i64 0, .int .i64 0] []),
 ⟨none, .store 4 (.tmp 2) (.tmp 12), none⟩,
 oo 3 (.mov (.const (.bool false)))])
 .ret)
 .skip))
 (.seq (.seq (.ops [oo 13 (.load true 4 (.tmp 1)),
 oo 14 (.mov (.const (.int .i64 0)))])
 (.block 0 (.loop (.seq (.ops [oo 15 (.bin .lss (.tmp 14) (.const (.int .i64 4)))])
 (.seq (.cond (.tmp 15) .skip
 (.exit 0))
 (.seq (.block 1 (.seq (.ops [oo 16 (.idx 4 1 false (.tmp 13) (.tmp 14)),
 om 6 16])
 (.seq (.ops [om 17 6,
 oo 18 (.bin .neq (.tmp 17) (.const (.int .i64 0)))])
 (.cond (.tmp 18) (.seq (.seq (.ops [om 19 6,
 oo 20 (.bin .lss (.tmp 19) (.const (.int .i64 0)))])
 (.cond (.tmp 20) (.ops [om 21 4,
 oo 22 (.un .neg (.tmp 21)),
 om 4 22])
 .skip))
 (.exit 0))
 .skip))))
 (.ops [oo 23 (.bin .add (.tmp 14) (.const (.int .i64 1))),
 om 14 23])))))))
 (.seq (.seq (.ops [oo 24 (.mov (.const (.int .i64 0)))])
 (.block 2 (.loop (.seq (.ops [oo 25 (.bin .lss (.tmp 24) (.const (.int .i64 4)))])
 (.seq (.cond (.tmp 25) .skip
 (.exit 2))
 (.seq (.block 3 (.seq (.ops [om 26 24,
 om 7 26])
 (.ops [om 27 7,
 oo 28 (.iadr (some 4) 1 (.tmp 1) (.tmp 27)),
 oo 29 (.load false 1 (.tmp 28)),
 om 30 4,
 oo 31 (.bin .quo (.tmp 29) (.tmp 30)),
 oo 32 (.iadr (some 4) 1 (.tmp 1) (.tmp 27)),
 ⟨none, .store 1 (.tmp 32) (.tmp 31), none⟩])))
 (.ops [oo 33 (.bin .add (.tmp 24) (.const (.int .i64 1))),
 om 24 33])))))))
 (.seq (.ops [oo 34 (.load true 4 (.tmp 1)),
 ⟨none, .store 4 (.tmp 2) (.tmp 34), none⟩,
 oo 3 (.mov (.const (.bool true)))])
 .ret))))))⟩
def F84 : AFn := ⟨22, [.cell 2 true 6],
 (.seq (.ops [oo 1 (.box (.tmp 0)),
 oo 2 (.alloc [.nilsl, .nilsl, .nilsl, .nilsl, .nilsl, .nilsl])])
 (.seq (.draw [oo 3 (.fadr 0 (.tmp 1)),
 oo 4 (.load false 1 (.tmp 3)),
 oo 5 (.call (.const (.func (.func 88) [] [])) [.tmp 4]),
 oo 6 (.fadr 1 (.tmp 1)),
 oo 7 (.load false 1 (.tmp 6)),
 oo 8 (.call (.const (.func (.func 89) [] [])) [.tmp 7]),
 oo 9 (.fadr 2 (.tmp 1)),
 oo 10 (.load false 1 (.tmp 9)),
 oo 11 (.call (.const (.func (.func 90) [] [])) [.tmp 10]),
 oo 12 (.fadr 3 (.tmp 1)),
 oo 13 (.load false 1 (.tmp 12)),
 oo 14 (.call (.const (.func (.func 90) [] [])) [.tmp 13]),
 oo 15 (.fadr 4 (.tmp 1)),
 oo 16 (.load false 1 (.tmp 15)),
 oo 17 (.call (.const (.func (.func 88) [] [])) [.tmp 16]),
 oo 18 (.fadr 5 (.tmp 1)),
 oo 19 (.load false 1 (.tmp 18)),
 oo 20 (.call (.const (.func (.func 88) [] [])) [.tmp 19]),
 oo 21 (.build [.nilsl, .nilsl, .nilsl, .nilsl, .nilsl, .nilsl] [(0, 1, (.tmp 5)), (1, 1, (.tmp 8)), (2, 1, (.tmp 11)), (3, 1, (.tmp 14)), (4, 1, (.tmp 17)), (5, 1, (.tmp 20))]),
 ⟨none, .store 6 (.tmp 2) (.tmp 21), none⟩] [(4, 2), (7, 2), (7, 5), (10, 2), (10, 5), (10, 8), (13, 2), (13, 5), (13, 8), (13, 11), (16, 2), (16, 5), (16, 8), (16, 11), (16, 14)])
 .ret))⟩
def F85 : AFn := ⟨3, [.tmp 0],
 (.seq (.ops [oo 0 (.mov (.const .nilmap))])
 (.seq (.ops [oo 1 (.mkmap),
 ⟨none, .mapup .i (.tmp 1) (.const (.int .i64 1)) (.const (.func (.func 94) [] [])), none⟩,
 ⟨none, .mapup .i (.tmp 1) (.const (.int .i64 2)) (.const (.func (.func 96) [] [])), none⟩,
 ⟨none, .mapup .i (.tmp 1) (.const (.int .i64 3)) (.const (.func (.func 98) [] [])), none⟩,
 ⟨none, .mapup .i (.tmp 1) (.const (.int .i64 4)) (.const (.func (.func 99) [] [])), none⟩,
 ⟨none, .mapup .i (.tmp 1) (.const (.int .i64 5)) (.const (.func (.func 100) [] [])), none⟩,
 ⟨none, .mapup .i (.tmp 1) (.const (.int .i64 6)) (.const (.func (.func 101) [] [])), none⟩,
 om 2 1,
 om 0 2])
 .ret))⟩
def F86 : AFn := ⟨6, [.tmp 2],
 (.seq (.ops [oo 1 (.box (.tmp 0)),
 oo 2 (.mov (.const (.bool false)))])
 (.seq (.ops [oo 3 (.load true 3 (.tmp 1)),
 oo 4 (.build [.int .i64 0, .int .i64 0, .int .i64 0] []),
 oo 5 (.eqf true [.i, .i, .i] (.tmp 3) (.tmp 4)),
 om 2 5])
 .ret))⟩
def F87 : AFn := ⟨9, [.tmp 4],
 (.seq (.ops [oo 4 (.mov (.const (.bool false)))])
 (.seq (.ops [om 5 0,
 om 6 1,
 oo 7 (.call (.const (.func (.func 102) [] [])) [.tmp 5, .tmp 6]),
 oo 8 (.bin .geq (.tmp 7) (.const (.int .i64 0))),
 om 4 8])
 .ret))⟩
def F88 : AFn := ⟨8, [.tmp 2],
 (.seq (.ops [oo 2 (.mov (.const .nilsl))])
 (.seq (.seq (.ops [om 3 0,
 oo 4 (.eqn false .sli true (.tmp 3) (.const .nilsl))])
 (.cond (.tmp 4) (.seq (.ops [oo 2 (.mov (.const .nilsl))])
 .ret)
 .skip))
 (.seq (.ops [oo 5 (.mklit 1 []),
 om 6 0,
 oo 7 (.append 1 1 true (.tmp 5) (.tmp 6)),
 om 2 7])
 .ret)))⟩
def F89 : AFn := ⟨8, [.tmp 2],
 (.seq (.ops [oo 2 (.mov (.const .nilsl))])
 (.seq (.seq (.ops [om 3 0,
 oo 4 (.eqn false .sli true (.tmp 3) (.const .nilsl))])
 (.cond (.tmp 4) (.seq (.ops [oo 2 (.mov (.const .nilsl))])
 .ret)
 .skip))
 (.seq (.ops [oo 5 (.mklit 7 []),
 om 6 0,
 oo 7 (.append 7 56 true (.tmp 5) (.tmp 6)),
 om 2 7])
 .ret)))⟩
def F90 : AFn := ⟨8, [.tmp 2],
 (.seq (.ops [oo 2 (.mov (.const .nilsl))])
 (.seq (.seq (.ops [om 3 0,
 oo 4 (.eqn false .sli true (.tmp 3) (.const .nilsl))])
 (.cond (.tmp 4) (.seq (.ops [oo 2 (.mov (.const .nilsl))])
 .ret)
 .skip))
 (.seq (.ops [oo 5 (.mklit 3 []),
 om 6 0,
 oo 7 (.append 3 24 true (.tmp 5) (.tmp 6)),
 om 2 7])
 .ret)))⟩
def F91 : AFn := ⟨19, [.tmp 2],
 (.seq (.ops [oo 2 (.mov (.const .nilsl))])
 (.seq (.ops [oo 3 (.mov (.const .nilsl))])
 (.seq (.seq (.ops [oo 4 (.mov (.const (.int .i64 0)))])
 (.block 0 (.loop (.seq (.seq (.ops [om 5 4,
 om 6 0,
 oo 7 (.lenl (.tmp 6)),
 oo 8 (.bin .lss (.tmp 5) (.tmp 7))])
 (.cond (.tmp 8) .skip
 (.exit 0)))
 (.seq (.block 1 (.ops [om 11 3,
 om 12 0,
 om 13 4,
 oo 14 (.iadr none 1 (.tmp 12) (.tmp 13)),
 oo 15 (.load false 1 (.tmp 14)),
 oo 16 (.call (.const (.func (.func 43) [] [])) [.tmp 15]),
 oo 17 (.append 1 1 false (.tmp 11) (.tmp 16)),
 om 3 17]))
 (.ops [om 9 4,
 oo 10 (.bin .add (.tmp 9) (.const (.int .i64 1))),
 om 4 10]))))))
 (.seq (.ops [om 18 3,
 om 2 18])
 .ret))))⟩
def F92 : AFn := ⟨17, [.tmp 4],
 (.seq (.ops [oo 4 (.mov (.const (.int .u32 0)))])
 (.seq (.ops [om 6 1,
 oo 7 (.convi .u64 (.tmp 6)),
 oo 8 (.bin .and (.tmp 7) (.const (.int .u64 31))),
 om 5 8])
 (.seq (.ops [om 9 0,
 om 10 5,
 oo 11 (.bin .shl (.tmp 9) (.tmp 10)),
 om 12 0,
 om 13 5,
 oo 14 (.bin .sub (.const (.int .u64 32)) (.tmp 13)),
 oo 15 (.bin .shr (.tmp 12) (.tmp 14)),
 oo 16 (.bin .or (.tmp 11) (.tmp 15)),
 om 4 16])
 .ret)))⟩
def F93 : AFn := ⟨25, [.tmp 2],
 (.seq (.ops [oo 2 (.mov (.const (.int .i64 0)))])
 (.seq (.ops [oo 3 (.mov (.const (.int .i64 0)))])
 (.seq (.seq (.ops [om 7 0,
 oo 8 (.lenl (.tmp 7)),
 oo 9 (.mov (.const (.int .i64 0)))])
 (.block 0 (.loop (.seq (.ops [oo 10 (.bin .lss (.tmp 9) (.tmp 8))])
 (.seq (.cond (.tmp 10) .skip
 (.exit 0))
 (.seq (.block 1 (.seq (.ops [oo 11 (.iadr none 1 (.tmp 7) (.tmp 9)),
 oo 12 (.load false 1 (.tmp 11)),
 om 5 12])
 (.seq (.ops [om 13 5,
 om 14 5,
 oo 15 (.un .neg (.tmp 14)),
 oo 16 (.maxi (.tmp 13) (.tmp 15)),
 om 6 16])
 (.block 2 (.loop (.seq (.seq (.ops [om 17 6,
 oo 18 (.bin .neq (.tmp 17) (.const (.int .i64 0)))])
 (.cond (.tmp 18) .skip
 (.exit 2)))
 (.block 3 (.draw [om 19 6,
 om 20 3,
 om 21 6,
 oo 22 (.bin .rem (.tmp 20) (.tmp 21)),
 om 3 19,
 om 6 22] []))))))))
 (.ops [oo 23 (.bin .add (.tmp 9) (.const (.int .i64 1))),
 om 9 23])))))))
 (.seq (.ops [om 24 3,
 om 2 24])
 .ret))))⟩
def F94 : AFn := ⟨49, [.tmp 6],
 (.seq (.ops [oo 3 (.box (.tmp 0)),
 oo 5 (.box (.tmp 2)),
 oo 6 (.mov (.const (.int .i64 0)))])
 (.seq (.seq (.ops [om 8 1,
 oo 9 (.fadr 1 (.tmp 5)),
 oo 10 (.load false 1 (.tmp 9)),
 oo 11 (.call (.const (.func (.func 95) [] [])) [.tmp 8, .tmp 10])])
 (.cond (.tmp 11) (.seq (.ops [oo 6 (.mov (.const (.int .i64 4)))])
 .ret)
 .skip))
 (.seq (.ops [oo 12 (.fadr 1 (.tmp 5)),
 oo 13 (.load false 1 (.tmp 12)),
 oo 14 (.bin .sub (.tmp 13) (.const (.int .i64 1))),
 om 7 14])
 (.seq (.draw [om 15 1,
 oo 16 (.nilck (.tmp 15)),
 oo 17 (.fadr 0 (.tmp 16)),
 oo 18 (.load false 1 (.tmp 17)),
 om 19 7,
 om 20 1,
 oo 21 (.nilck (.tmp 20)),
 oo 22 (.fadr 1 (.tmp 21)),
 oo 23 (.load false 1 (.tmp 22)),
 om 24 7,
 om 25 1,
 oo 26 (.nilck (.tmp 25)),
 oo 27 (.fadr 2 (.tmp 26)),
 oo 28 (.load false 1 (.tmp 27)),
 om 29 7,
 om 30 1,
 oo 31 (.nilck (.tmp 30)),
 oo 32 (.fadr 3 (.tmp 31)),
 oo 33 (.load false 1 (.tmp 32)),
 om 34 7,
 oo 35 (.fadr 2 (.tmp 5)),
 oo 36 (.load false 1 (.tmp 35)),
 oo 37 (.fadr 2 (.tmp 5)),
 oo 38 (.load false 1 (.tmp 37)),
 oo 39 (.lenl (.tmp 38)),
 oo 40 (.bin .sub (.tmp 39) (.const (.int .i64 1))),
 oo 41 (.iadr none 7 (.tmp 36) (.tmp 40)),
 oo 42 (.load true 7 (.tmp 41)),
 oo 43 (.build [.int .i64 0, .int .i64 0, .int .i64 0] []),
 oo 44 (.build [.int .i64 0, .int .i64 0, .int .i64 0] []),
 oo 45 (.iadr none 1 (.tmp 18) (.tmp 19)),
 ⟨none, .store 1 (.tmp 45) (.const (.bool true)), none⟩,
 oo 46 (.iadr none 7 (.tmp 23) (.tmp 24)),
 ⟨none, .store 7 (.tmp 46) (.tmp 42), none⟩,
 oo 47 (.iadr none 3 (.tmp 28) (.tmp 29)),
 ⟨none, .store 3 (.tmp 47) (.tmp 43), none⟩,
 oo 48 (.iadr none 3 (.tmp 33) (.tmp 34)),
 ⟨none, .store 3 (.tmp 48) (.tmp 44), none⟩] [])
 (.seq (.ops [oo 6 (.mov (.const (.int .i64 0)))])
 .ret)))))⟩
def F95 : AFn := ⟨17, [.tmp 4],
 (.seq (.ops [oo 4 (.mov (.const (.bool false)))])
 (.seq (.ops [om 5 1,
 oo 6 (.bin .eql (.tmp 5) (.const (.int .i64 0))),
 om 7 6,
 ⟨some 8, .mov (.tmp 0), some (7, false)⟩,
 ⟨some 9, .nilck (.tmp 8), some (7, false)⟩,
 ⟨some 10, .fadr 0 (.tmp 9), some (7, false)⟩,
 ⟨some 11, .load false 1 (.tmp 10), some (7, false)⟩,
 ⟨some 12, .mov (.tmp 1), some (7, false)⟩,
 ⟨some 13, .bin .sub (.tmp 12) (.const (.int .i64 1)), some (7, false)⟩,
 ⟨some 14, .iadr none 1 (.tmp 11) (.tmp 13), some (7, false)⟩,
 ⟨some 15, .load false 1 (.tmp 14), some (7, false)⟩,
 oo 16 (.pick (.tmp 7) (.const (.bool true)) (.tmp 15)),
 om 4 16])
 .ret))⟩
def F96 : AFn := ⟨62, [.tmp 6],
 (.seq (.ops [oo 3 (.box (.tmp 0)),
 oo 5 (.box (.tmp 2)),
 oo 6 (.mov (.const (.int .i64 0)))])
 (.seq (.ops [oo 8 (.fadr 1 (.tmp 5)),
 oo 9 (.load false 1 (.tmp 8)),
 oo 10 (.bin .sub (.tmp 9) (.const (.int .i64 1))),
 om 7 10])
 (.seq (.block 0 (.seq (.ops [om 12 1,
 oo 13 (.fadr 1 (.tmp 5)),
 oo 14 (.load false 1 (.tmp 13)),
 oo 15 (.call (.const (.func (.func 95) [] [])) [.tmp 12, .tmp 14]),
 oo 16 (.un .not (.tmp 15)),
 om 11 16])
 (.cond (.tmp 11) (.seq (.ops [oo 6 (.mov (.const (.int .i64 4)))])
 .ret)
 (.seq (.ops [oo 18 (.fadr 3 (.tmp 3)),
 oo 19 (.load false 1 (.tmp 18)),
 om 20 7,
 oo 21 (.iadr none 14 (.tmp 19) (.tmp 20)),
 oo 22 (.fadr 0 (.tmp 21)),
 oo 23 (.load false 1 (.tmp 22)),
 oo 24 (.bin .neq (.tmp 23) (.const (.int .i64 2))),
 om 17 24])
 (.cond (.tmp 17) (.seq (.ops [oo 6 (.mov (.const (.int .i64 7)))])
 .ret)
 (.seq (.draw [oo 26 (.fadr 2 (.tmp 5)),
 oo 27 (.load false 1 (.tmp 26)),
 oo 28 (.iadr none 7 (.tmp 27) (.const (.int .i64 0))),
 oo 29 (.load true 7 (.tmp 28)),
 om 30 1,
 oo 31 (.nilck (.tmp 30)),
 oo 32 (.fadr 1 (.tmp 31)),
 oo 33 (.load false 1 (.tmp 32)),
 om 34 7,
 oo 35 (.iadr none 7 (.tmp 33) (.tmp 34)),
 oo 36 (.load true 7 (.tmp 35)),
 oo 37 (.eqf true [.i, .i, .i, .i, .i, .i, .i] (.tmp 29) (.tmp 36)),
 om 25 37] [])
 (.cond (.tmp 25) (.seq (.ops [oo 6 (.mov (.const (.int .i64 1)))])
 .ret)
 (.seq (.ops [oo 39 (.load true 6 (.tmp 3)),
 om 40 1,
 oo 41 (.fadr 1 (.tmp 5)),
 oo 42 (.load false 1 (.tmp 41)),
 oo 43 (.call (.const (.func (.func 97) [] [])) [.tmp 39, .tmp 40, .tmp 42]),
 om 38 43])
 (.cond (.tmp 38) (.seq (.ops [oo 6 (.mov (.const (.int .i64 4)))])
 .ret)
 .skip)))))))))
 (.seq (.draw [om 44 1,
 oo 45 (.nilck (.tmp 44)),
 oo 46 (.fadr 0 (.tmp 45)),
 oo 47 (.load false 1 (.tmp 46)),
 om 48 7,
 om 49 1,
 oo 50 (.nilck (.tmp 49)),
 oo 51 (.fadr 1 (.tmp 50)),
 oo 52 (.load false 1 (.tmp 51)),
 om 53 7,
 oo 54 (.fadr 3 (.tmp 3)),
 oo 55 (.load false 1 (.tmp 54)),
 om 56 7,
 oo 57 (.iadr none 14 (.tmp 55) (.tmp 56)),
 oo 58 (.fadr 7 (.tmp 57)),
 oo 59 (.load true 7 (.tmp 58)),
 oo 60 (.iadr none 1 (.tmp 47) (.tmp 48)),
 ⟨none, .store 1 (.tmp 60) (.const (.bool false)), none⟩,
 oo 61 (.iadr none 7 (.tmp 52) (.tmp 53)),
 ⟨none, .store 7 (.tmp 61) (.tmp 59), none⟩] [])
 (.seq (.ops [oo 6 (.mov (.const (.int .i64 0)))])
 .ret)))))⟩
def F97 : AFn := ⟨61, [.tmp 6],
 (.seq (.ops [oo 3 (.box (.tmp 0)),
 oo 6 (.mov (.const (.bool false)))])
 (.seq (.seq (.ops [oo 11 (.fadr 4 (.tmp 3)),
 oo 12 (.load false 1 (.tmp 11)),
 oo 13 (.lenl (.tmp 12)),
 oo 14 (.mov (.const (.int .i64 0)))])
 (.block 0 (.loop (.seq (.ops [oo 15 (.bin .lss (.tmp 14) (.tmp 13))])
 (.seq (.cond (.tmp 15) .skip
 (.exit 0))
 (.seq (.block 1 (.seq (.ops [om 16 14,
 oo 17 (.iadr none 8 (.tmp 12) (.tmp 14)),
 oo 18 (.load true 8 (.tmp 17)),
 oo 8 (.alloc [.int .i64 0, .int .i64 0, .int .i64 0, .int .i64 0, .int .i64 0, .int .i64 0, .int .i64 0, .int .i64 0]),
 om 7 16,
 ⟨none, .store 8 (.tmp 8) (.tmp 18), none⟩])
 (.seq (.ops [om 19 1,
 oo 20 (.nilck (.tmp 19)),
 oo 21 (.fadr 4 (.tmp 20)),
 oo 22 (.load false 1 (.tmp 21)),
 om 23 7,
 oo 24 (.iadr none 1 (.tmp 22) (.tmp 23)),
 oo 25 (.load false 1 (.tmp 24)),
 om 26 25,
 ⟨some 27, .fadr 0 (.tmp 8), some (26, true)⟩,
 ⟨some 28, .load false 1 (.tmp 27), some (26, true)⟩,
 ⟨some 29, .mov (.tmp 2), some (26, true)⟩,
 ⟨some 30, .bin .eql (.tmp 28) (.tmp 29), some (26, true)⟩,
 ⟨some 31, .mov (.tmp 30), some (26, true)⟩,
 ⟨some 32, .fadr 1 (.tmp 8), some (31, false)⟩,
 ⟨some 33, .load false 1 (.tmp 32), some (31, false)⟩,
 ⟨some 34, .mov (.tmp 2), some (31, false)⟩,
 ⟨some 35, .bin .eql (.tmp 33) (.tmp 34), some (31, false)⟩,
 ⟨some 36, .pick (.tmp 31) (.const (.bool true)) (.tmp 35), some (26, true)⟩,
 oo 37 (.pick (.tmp 26) (.tmp 36) (.const (.bool false)))])
 (.cond (.tmp 37) (.seq (.ops [oo 6 (.mov (.const (.bool true)))])
 .ret)
 .skip))))
 (.ops [oo 38 (.bin .add (.tmp 14) (.const (.int .i64 1))),
 om 14 38])))))))
 (.seq (.seq (.ops [oo 39 (.fadr 5 (.tmp 3)),
 oo 40 (.load false 1 (.tmp 39)),
 oo 41 (.lenl (.tmp 40)),
 oo 42 (.mov (.const (.int .i64 0)))])
 (.block 2 (.loop (.seq (.ops [oo 43 (.bin .lss (.tmp 42) (.tmp 41))])
 (.seq (.cond (.tmp 43) .skip
 (.exit 2))
 (.seq (.block 3 (.seq (.ops [om 44 42,
 oo 45 (.iadr none 10 (.tmp 40) (.tmp 42)),
 oo 46 (.load true 10 (.tmp 45)),
 oo 10 (.alloc [.int .i64 0, .int .i64 0, .int .i64 0, .int .i64 0, .int .i64 0, .int .i64 0, .int .i64 0, .int .i64 0, .int .i64 0, .int .i64 0]),
 om 9 44,
 ⟨none, .store 10 (.tmp 10) (.tmp 46), none⟩])
 (.seq (.ops [om 47 1,
 oo 48 (.nilck (.tmp 47)),
 oo 49 (.fadr 5 (.tmp 48)),
 oo 50 (.load false 1 (.tmp 49)),
 om 51 9,
 oo 52 (.iadr none 1 (.tmp 50) (.tmp 51)),
 oo 53 (.load false 1 (.tmp 52)),
 om 54 53,
 ⟨some 55, .fadr 0 (.tmp 10), some (54, true)⟩,
 ⟨some 56, .load false 1 (.tmp 55), some (54, true)⟩,
 ⟨some 57, .mov (.tmp 2), some (54, true)⟩,
 ⟨some 58, .bin .eql (.tmp 56) (.tmp 57), some (54, true)⟩,
 oo 59 (.pick (.tmp 54) (.tmp 58) (.const (.bool false)))])
 (.cond (.tmp 59) (.seq (.ops [oo 6 (.mov (.const (.bool true)))])
 .ret)
 .skip))))
 (.ops [oo 60 (.bin .add (.tmp 42) (.const (.int .i64 1))),
 om 42 60])))))))
 (.seq (.ops [oo 6 (.mov (.const (.bool false)))])
 .ret))))⟩
def F98 : AFn := ⟨43, [.tmp 6],
 (.seq (.ops [oo 3 (.box (.tmp 0)),
 oo 5 (.box (.tmp 2)),
 oo 6 (.mov (.const (.int .i64 0)))])
 (.seq (.ops [oo 8 (.fadr 4 (.tmp 3)),
 oo 9 (.load false 1 (.tmp 8)),
 oo 10 (.fadr 1 (.tmp 5)),
 oo 11 (.load false 1 (.tmp 10)),
 oo 12 (.iadr none 8 (.tmp 9) (.tmp 11)),
 oo 13 (.load true 8 (.tmp 12)),
 oo 7 (.alloc [.int .i64 0, .int .i64 0, .int .i64 0, .int .i64 0, .int .i64 0, .int .i64 0, .int .i64 0, .int .i64 0]),
 ⟨none, .store 8 (.tmp 7) (.tmp 13), none⟩])
 (.seq (.seq (.draw [om 14 1,
 oo 15 (.nilck (.tmp 14)),
 oo 16 (.fadr 4 (.tmp 15)),
 oo 17 (.load false 1 (.tmp 16)),
 oo 18 (.fadr 1 (.tmp 5)),
 oo 19 (.load false 1 (.tmp 18)),
 oo 20 (.iadr none 1 (.tmp 17) (.tmp 19)),
 oo 21 (.load false 1 (.tmp 20)),
 om 22 21,
 ⟨some 23, .mov (.tmp 1), some (22, false)⟩,
 ⟨some 24, .fadr 0 (.tmp 7), some (22, false)⟩,
 ⟨some 25, .load false 1 (.tmp 24), some (22, false)⟩,
 ⟨some 26, .call (.const (.func (.func 95) [] [])) [.tmp 23, .tmp 25], some (22, false)⟩,
 ⟨some 27, .un .not (.tmp 26), some (22, false)⟩,
 oo 28 (.pick (.tmp 22) (.const (.bool true)) (.tmp 27)),
 om 29 28,
 ⟨some 30, .mov (.tmp 1), some (29, false)⟩,
 ⟨some 31, .fadr 1 (.tmp 7), some (29, false)⟩,
 ⟨some 32, .load false 1 (.tmp 31), some (29, false)⟩,
 ⟨some 33, .call (.const (.func (.func 95) [] [])) [.tmp 30, .tmp 32], some (29, false)⟩,
 ⟨some 34, .un .not (.tmp 33), some (29, false)⟩,
 oo 35 (.pick (.tmp 29) (.const (.bool true)) (.tmp 34))] [])
 (.cond (.tmp 35) (.seq (.ops [oo 6 (.mov (.const (.int .i64 4)))])
 .ret)
 .skip))
 (.seq (.draw [om 36 1,
 oo 37 (.nilck (.tmp 36)),
 oo 38 (.fadr 4 (.tmp 37)),
 oo 39 (.load false 1 (.tmp 38)),
 oo 40 (.fadr 1 (.tmp 5)),
 oo 41 (.load false 1 (.tmp 40)),
 oo 42 (.iadr none 1 (.tmp 39) (.tmp 41)),
 ⟨none, .store 1 (.tmp 42) (.const (.bool true)), none⟩] [])
 (.seq (.ops [oo 6 (.mov (.const (.int .i64 0)))])
 .ret)))))⟩
def F99 : AFn := ⟨23, [.tmp 6],
 (.seq (.ops [oo 3 (.box (.tmp 0)),
 oo 5 (.box (.tmp 2)),
 oo 6 (.mov (.const (.int .i64 0)))])
 (.seq (.seq (.draw [om 7 1,
 oo 8 (.nilck (.tmp 7)),
 oo 9 (.fadr 4 (.tmp 8)),
 oo 10 (.load false 1 (.tmp 9)),
 oo 11 (.fadr 1 (.tmp 5)),
 oo 12 (.load false 1 (.tmp 11)),
 oo 13 (.iadr none 1 (.tmp 10) (.tmp 12)),
 oo 14 (.load false 1 (.tmp 13)),
 oo 15 (.un .not (.tmp 14))] [])
 (.cond (.tmp 15) (.seq (.ops [oo 6 (.mov (.const (.int .i64 4)))])
 .ret)
 .skip))
 (.seq (.draw [om 16 1,
 oo 17 (.nilck (.tmp 16)),
 oo 18 (.fadr 4 (.tmp 17)),
 oo 19 (.load false 1 (.tmp 18)),
 oo 20 (.fadr 1 (.tmp 5)),
 oo 21 (.load false 1 (.tmp 20)),
 oo 22 (.iadr none 1 (.tmp 19) (.tmp 21)),
 ⟨none, .store 1 (.tmp 22) (.const (.bool false)), none⟩] [])
 (.seq (.ops [oo 6 (.mov (.const (.int .i64 0)))])
 .ret))))⟩
def F100 : AFn := ⟨34, [.tmp 6],
 (.seq (.ops [oo 3 (.box (.tmp 0)),
 oo 5 (.box (.tmp 2)),
 oo 6 (.mov (.const (.int .i64 0)))])
 (.seq (.seq (.draw [om 7 1,
 oo 8 (.nilck (.tmp 7)),
 oo 9 (.fadr 5 (.tmp 8)),
 oo 10 (.load false 1 (.tmp 9)),
 oo 11 (.fadr 1 (.tmp 5)),
 oo 12 (.load false 1 (.tmp 11)),
 oo 13 (.iadr none 1 (.tmp 10) (.tmp 12)),
 oo 14 (.load false 1 (.tmp 13)),
 om 15 14,
 ⟨some 16, .mov (.tmp 1), some (15, false)⟩,
 ⟨some 17, .fadr 5 (.tmp 3), some (15, false)⟩,
 ⟨some 18, .load false 1 (.tmp 17), some (15, false)⟩,
 ⟨some 19, .fadr 1 (.tmp 5), some (15, false)⟩,
 ⟨some 20, .load false 1 (.tmp 19), some (15, false)⟩,
 ⟨some 21, .iadr none 10 (.tmp 18) (.tmp 20), some (15, false)⟩,
 ⟨some 22, .fadr 0 (.tmp 21), some (15, false)⟩,
 ⟨some 23, .load false 1 (.tmp 22), some (15, false)⟩,
 ⟨some 24, .call (.const (.func (.func 95) [] [])) [.tmp 16, .tmp 23], some (15, false)⟩,
 ⟨some 25, .un .not (.tmp 24), some (15, false)⟩,
 oo 26 (.pick (.tmp 15) (.const (.bool true)) (.tmp 25))] [])
 (.cond (.tmp 26) (.seq (.ops [oo 6 (.mov (.const (.int .i64 4)))])
 .ret)
 .skip))
 (.seq (.draw [om 27 1,
 oo 28 (.nilck (.tmp 27)),
 oo 29 (.fadr 5 (.tmp 28)),
 oo 30 (.load false 1 (.tmp 29)),
 oo 31 (.fadr 1 (.tmp 5)),
 oo 32 (.load false 1 (.tmp 31)),
 oo 33 (.iadr none 1 (.tmp 30) (.tmp 32)),
 ⟨none, .store 1 (.tmp 33) (.const (.bool true)), none⟩] [])
 (.seq (.ops [oo 6 (.mov (.const (.int .i64 0)))])
 .ret))))⟩
def F101 : AFn := ⟨23, [.tmp 6],
 (.seq (.ops [oo 3 (.box (.tmp 0)),
 oo 5 (.box (.tmp 2)),
 oo 6 (.mov (.const (.int .i64 0)))])
 (.seq (.seq (.draw [om 7 1,
 oo 8 (.nilck (.tmp 7)),
 oo 9 (.fadr 5 (.tmp 8)),
 oo 10 (.load false 1 (.tmp 9)),
 oo 11 (.fadr 1 (.tmp 5)),
 oo 12 (.load false 1 (.tmp 11)),
 oo 13 (.iadr none 1 (.tmp 10) (.tmp 12)),
 oo 14 (.load false 1 (.tmp 13)),
 oo 15 (.un .not (.tmp 14))] [])
 (.cond (.tmp 15) (.seq (.ops [oo 6 (.mov (.const (.int .i64 4)))])
 .ret)
 .skip))
 (.seq (.draw [om 16 1,
 oo 17 (.nilck (.tmp 16)),
 oo 18 (.fadr 5 (.tmp 17)),
 oo 19 (.load false 1 (.tmp 18)),
 oo 20 (.fadr 1 (.tmp 5)),
 oo 21 (.load false 1 (.tmp 20)),
 oo 22 (.iadr none 1 (.tmp 19) (.tmp 21)),
 ⟨none, .store 1 (.tmp 22) (.const (.bool false)), none⟩] [])
 (.seq (.ops [oo 6 (.mov (.const (.int .i64 0)))])
 .ret))))⟩
def F102 : AFn := ⟨19, [.tmp 4],
 (.seq (.ops [oo 4 (.mov (.const (.int .i64 0)))])
 (.seq (.seq (.ops [om 6 0,
 oo 7 (.lenl (.tmp 6)),
 oo 8 (.mov (.const (.int .i64 0)))])
 (.block 0 (.loop (.seq (.ops [oo 9 (.bin .lss (.tmp 8) (.tmp 7))])
 (.seq (.cond (.tmp 9) .skip
 (.exit 0))
 (.seq (.block 1 (.seq (.ops [om 10 8,
 om 5 10])
 (.seq (.ops [om 11 1,
 om 12 0,
 om 13 5,
 oo 14 (.iadr none 3 (.tmp 12) (.tmp 13)),
 oo 15 (.load true 3 (.tmp 14)),
 oo 16 (.call (.tmp 11) [.tmp 15])])
 (.cond (.tmp 16) (.seq (.ops [om 17 5,
 om 4 17])
 .ret)
 .skip))))
 (.ops [oo 18 (.bin .add (.tmp 8) (.const (.int .i64 1))),
 om 8 18])))))))
 (.seq (.ops [oo 4 (.mov (.const (.int .i64 (-1))))])
 .ret)))⟩
def F123 : AFn := ⟨2, [],
 (.seq (.ops [oo 0 (.build (List.replicate 64 (.int .u32 0)) [(0, 1, (.const (.int .u32 1116352408))), (1, 1, (.const (.int .u32 1899447441))), (2, 1, (.const (.int .u32 3049323471))), (3, 1, (.const (.int .u32 3921009573))), (4, 1, (.const (.int .u32 961987163))), (5, 1, (.const (.int .u32 1508970993))), (6, 1, (.const (.int .u32 2453635748))), (7, 1, (.const (.int .u32 2870763221))), (8, 1, (.const (.int .u32 3624381080))), (9, 1, (.const (.int .u32 310598401))), (10, 1, (.const (.int .u32 607225278))), (11, 1, (.const (.int .u32 1426881987))), (12, 1, (.const (.int .u32 1925078388))), (13, 1, (.const (.int .u32 2162078206))), (14, 1, (.const (.int .u32 2614888103))), (15, 1, (.const (.int .u32 3248222580))), (16, 1, (.const (.int .u32 3835390401))), (17, 1, (.const (.int .u32 4022224774))), (18, 1, (.const (.int .u32 264347078))), (19, 1, (.const (.int .u32 604807628))), (20, 1, (.const (.int .u32 770255983))), (21, 1, (.const (.int .u32 1249150122))), (22, 1, (.const (.int .u32 1555081692))), (23, 1, (.const (.int .u32 1996064986))), (24, 1, (.const (.int .u32 2554220882))), (25, 1, (.const (.int .u32 2821834349))), (26, 1, (.const (.int .u32 2952996808))), (27, 1, (.const (.int .u32 3210313671))), (28, 1, (.const (.int .u32 3336571891))), (29, 1, (.const (.int .u32 3584528711))), (30, 1, (.const (.int .u32 113926993))), (31, 1, (.const (.int .u32 338241895))), (32, 1, (.const (.int .u32 666307205))), (33, 1, (.const (.int .u32 773529912))), (34, 1, (.const (.int .u32 1294757372))), (35, 1, (.const (.int .u32 1396182291))), (36, 1, (.const (.int .u32 1695183700))), (37, 1, (.const (.int .u32 1986661051))), (38, 1, (.const (.int .u32 2177026350))), (39, 1, (.const (.int .u32 2456956037))), (40, 1, (.const (.int .u32 2730485921))), (41, 1, (.const (.int .u32 2820302411))), (42, 1, (.const (.int .u32 3259730800))), (43, 1, (.const (.int .u32 3345764771))), (44, 1, (.const (.int .u32 3516065817))), (45, 1, (.const (.int .u32 3600352804))), (46, 1, (.const (.int .u32 4094571909))), (47, 1, (.const (.int .u32 275423344))), (48, 1, (.const (.int .u32 430227734))), (49, 1, (.const (.int .u32 506948616))), (50, 1, (.const (.int .u32 659060556))), (51, 1, (.const (.int .u32 883997877))), (52, 1, (.const (.int .u32 958139571))), (53, 1, (.const (.int .u32 1322822218))), (54, 1, (.const (.int .u32 1537002063))), (55, 1, (.const (.int .u32 1747873779))), (56, 1, (.const (.int .u32 1955562222))), (57, 1, (.const (.int .u32 2024104815))), (58, 1, (.const (.int .u32 2227730452))), (59, 1, (.const (.int .u32 2361852424))), (60, 1, (.const (.int .u32 2428436474))), (61, 1, (.const (.int .u32 2756734187))), (62, 1, (.const (.int .u32 3204031479))), (63, 1, (.const (.int .u32 3329325298)))]),
 ⟨none, .store 64 (.glob 1) (.tmp 0), none⟩])
 (.ops [oo 1 (.build (List.replicate 64 (.int .u32 0)) [(0, 1, (.const (.int .u32 1116352408))), (1, 1, (.const (.int .u32 1899447441))), (2, 1, (.const (.int .u32 3049323471))), (3, 1, (.const (.int .u32 3921009573))), (4, 1, (.const (.int .u32 961987163))), (5, 1, (.const (.int .u32 1508970993))), (6, 1, (.const (.int .u32 2453635748))), (7, 1, (.const (.int .u32 2870763221))), (8, 1, (.const (.int .u32 3624381080))), (9, 1, (.const (.int .u32 310598401))), (10, 1, (.const (.int .u32 607225278))), (11, 1, (.const (.int .u32 1426881987))), (12, 1, (.const (.int .u32 1925078388))), (13, 1, (.const (.int .u32 2162078206))), (14, 1, (.const (.int .u32 2614888103))), (15, 1, (.const (.int .u32 3248222580))), (16, 1, (.const (.int .u32 3835390401))), (17, 1, (.const (.int .u32 4022224774))), (18, 1, (.const (.int .u32 264347078))), (19, 1, (.const (.int .u32 604807628))), (20, 1, (.const (.int .u32 770255983))), (21, 1, (.const (.int .u32 1249150122))), (22, 1, (.const (.int .u32 1555081692))), (23, 1, (.const (.int .u32 1996064986))), (24, 1, (.const (.int .u32 2554220882))), (25, 1, (.const (.int .u32 2821834349))), (26, 1, (.const (.int .u32 2952996808))), (27, 1, (.const (.int .u32 3210313671))), (28, 1, (.const (.int .u32 3336571891))), (29, 1, (.const (.int .u32 3584528711))), (30, 1, (.const (.int .u32 113926993))), (31, 1, (.const (.int .u32 338241895))), (32, 1, (.const (.int .u32 666307205))), (33, 1, (.const (.int .u32 773529912))), (34, 1, (.const (.int .u32 1294757372))), (35, 1, (.const (.int .u32 1396182291))), (36, 1, (.const (.int .u32 1695183700))), (37, 1, (.const (.int .u32 1986661051))), (38, 1, (.const (.int .u32 2177026350))), (39, 1, (.const (.int .u32 2456956037))), (40, 1, (.const (.int .u32 2730485921))), (41, 1, (.const (.int .u32 2820302411))), (42, 1, (.const (.int .u32 3259730800))), (43, 1, (.const (.int .u32 3345764771))), (44, 1, (.const (.int .u32 3516065817))), (45, 1, (.const (.int .u32 3600352804))), (46, 1, (.const (.int .u32 4094571909))), (47, 1, (.const (.int .u32 275423344))), (48, 1, (.const (.int .u32 430227734))), (49, 1, (.const (.int .u32 506948616))), (50, 1, (.const (.int .u32 659060556))), (51, 1, (.const (.int .u32 883997877))), (52, 1, (.const (.int .u32 958139571))), (53, 1, (.const (.int .u32 1322822218))), (54, 1, (.const (.int .u32 1537002063))), (55, 1, (.const (.int .u32 1747873779))), (56, 1, (.const (.int .u32 1955562222))), (57, 1, (.const (.int .u32 2024104815))), (58, 1, (.const (.int .u32 2227730452))), (59, 1, (.const (.int .u32 2361852424))), (60, 1, (.const (.int .u32 2428436474))), (61, 1, (.const (.int .u32 2756734187))), (62, 1, (.const (.int .u32 3204031479))), (63, 1, (.const (.int .u32 3329325298)))]),
 ⟨none, .store 64 (.glob 0) (.tmp 1), none⟩]))⟩
def R28 : Option Nat × List ROper × ACode := ((some 4), [om 3 4],
 (.seq (.ops [om 5 3,
 oo 6 (.eqn true .ifc true (.tmp 5) (.const .nilif))])
 (.cond (.tmp 6) (.draw [oo 7 (.build [.int .i64 0, .int .i64 0, .int .i64 0, .int .i64 0, .int .i64 0, .nilsl, .int .u8 0, .int .u8 0, .int .u8 0, .int .u8 0, .int .u8 0, .int .u8 0, .int .u8 0, .int .u8 0, .int .u8 0, .int .u8 0, .int .u8 0, .int .u8 0, .int .u8 0, .int .u8 0, .int .u8 0, .int .u8 0, .int .i64 0, .int .u8 0, .int .u8 0, .int .u8 0, .int .u8 0, .int .u8 0, .int .u8 0, .int .u8 0, .int .u8 0, .int .u8 0, .int .u8 0, .int .u8 0, .int .u8 0, .int .u8 0, .int .u8 0, .int .u8 0, .int .u8 0] []),
 om 8 3,
 oo 9 (.tass 25 false (.int .i64 0) (.tmp 8)),
 ⟨none, .store 39 (.tmp 0) (.tmp 7), none⟩,
 ⟨none, .store 1 (.tmp 1) (.const (.int .i64 0)), none⟩,
 ⟨none, .store 1 (.tmp 2) (.tmp 9), none⟩] [])
 .skip)))
end Go.Av.Pr
end
