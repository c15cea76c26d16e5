/-
  THE PROGRAM's FUNCTIONS, their operations resolved: printed by a program (wip/tools/Print.lean); that they are so: the kernel (AvIs).
-/
import Derived.Test.YtfdaiidepcbemaaDoorA17
section
namespace Go.Av.Pr
open Go Go.Av
set_option maxRecDepth 100000
def om (d s : Nat) : ROper := ⟨some d, .mov (.tmp s), none⟩
def oo (d : Nat) (op : ROp) : ROper := ⟨some d, op, none⟩
def roundC : List AV := [.int .u32 1116352408, .int .u32 1899447441, .int .u32 3049323471, .int .u32 3921009573, .int .u32 961987163, .int .u32 1508970993, .int .u32 2453635748, .int .u32 2870763221, .int .u32 3624381080, .int .u32 310598401, .int .u32 607225278, .int .u32 1426881987, .int .u32 1925078388, .int .u32 2162078206, .int .u32 2614888103, .int .u32 3248222580, .int .u32 3835390401, .int .u32 4022224774, .int .u32 264347078, .int .u32 604807628, .int .u32 770255983, .int .u32 1249150122, .int .u32 1555081692, .int .u32 1996064986, .int .u32 2554220882, .int .u32 2821834349, .int .u32 2952996808, .int .u32 3210313671, .int .u32 3336571891, .int .u32 3584528711, .int .u32 113926993, .int .u32 338241895, .int .u32 666307205, .int .u32 773529912, .int .u32 1294757372, .int .u32 1396182291, .int .u32 1695183700, .int .u32 1986661051, .int .u32 2177026350, .int .u32 2456956037, .int .u32 2730485921, .int .u32 2820302411, .int .u32 3259730800, .int .u32 3345764771, .int .u32 3516065817, .int .u32 3600352804, .int .u32 4094571909, .int .u32 275423344, .int .u32 430227734, .int .u32 506948616, .int .u32 659060556, .int .u32 883997877, .int .u32 958139571, .int .u32 1322822218, .int .u32 1537002063, .int .u32 1747873779, .int .u32 1955562222, .int .u32 2024104815, .int .u32 2227730452, .int .u32 2361852424, .int .u32 2428436474, .int .u32 2756734187, .int .u32 3204031479, .int .u32 3329325298]
def gv : Genv := fun n => match n with | 0 => some roundC | 1 => some roundC | _ => none
def F2 : AFn := ⟨1, [],
 (.ops [oo 0 (.call (.const (.func (.func 1) [] [])) [])])⟩
def F3 : AFn := ⟨126, [.tmp 6],
 (.seq (.ops [oo 3 (.box (.tmp 0)),
 oo 6 (.mov (.const (.bool false)))])
 (.seq (.seq (.ops [oo 18 (.load true 39 (.tmp 3)),
 oo 19 (.mklit 39 [.tmp 18]),
 oo 20 (.call (.const (.func (.func 4) [] [])) [.tmp 19, (.const (.int .i64 1))]),
 oo 21 (.un .not (.tmp 20)),
 om 22 21,
 ⟨some 23, .mov (.tmp 1), some (22, false)⟩,
 ⟨some 24, .lenl (.tmp 23), some (22, false)⟩,
 ⟨some 25, .bin .gtr (.tmp 24) (.const (.int .i64 2000)), some (22, false)⟩,
 oo 26 (.pick (.tmp 22) (.const (.bool true)) (.tmp 25))])
 (.cond (.tmp 26) (.seq (.ops [oo 27 (.call (.const (.func (.func 5) [] [])) []),
 om 6 27])
 .ret)
 .skip))
 (.seq (.ops [oo 28 (.load true 39 (.tmp 3)),
 oo 29 (.call (.const (.func (.func 6) [] [])) [.tmp 28]),
 om 7 29])
 (.seq (.seq (.draw [om 30 7,
 oo 31 (.load true 39 (.tmp 3)),
 oo 32 (.call (.const (.func (.func 8) [] [])) [.tmp 31]),
 oo 33 (.call (.const (.func (.func 7) [] [])) [.tmp 30, .tmp 32]),
 oo 34 (.un .not (.tmp 33)),
 om 35 34,
 ⟨some 36, .load true 39 (.tmp 3), some (35, false)⟩,
 ⟨some 37, .call (.const (.func (.func 9) [] [])) [.tmp 36], some (35, false)⟩,
 ⟨some 38, .load true 39 (.tmp 3), some (35, false)⟩,
 ⟨some 39, .call (.const (.func (.func 10) [] [])) [.tmp 38], some (35, false)⟩,
 ⟨some 40, .eqf true [.i, .i, .i, .i, .i, .i, .i, .i, .i, .i, .i, .i, .i, .i, .i, .i] (.tmp 37) (.tmp 39), some (35, false)⟩,
 oo 41 (.pick (.tmp 35) (.const (.bool true)) (.tmp 40))] [(8, 7)])
 (.cond (.tmp 41) (.seq (.ops [oo 6 (.mov (.const (.bool false)))])
 .ret)
 .skip))
 (.seq (.ops [om 43 1,
 oo 44 (.call (.const (.func (.func 11) [] [])) [.tmp 43]),
 om 42 44,
 oo 45 (.extr (.tmp 42) 0),
 oo 46 (.extr (.tmp 42) 1),
 oo 47 (.extr (.tmp 42) 2),
 oo 8 (.alloc [.int .i64 0, .int .i64 0, .int .i64 0, .int .i64 0, .int .i64 0, .nilsl, .int .u8 0, .int .u8 0, .int .u8 0, .int .u8 0, .int .u8 0, .int .u8 0, .int .u8 0, .int .u8 0, .int .u8 0, .int .u8 0, .int .u8 0, .int .u8 0, .int .u8 0, .int .u8 0, .int .u8 0, .int .u8 0, .int .i64 0, .int .u8 0, .int .u8 0, .int .u8 0, .int .u8 0, .int .u8 0, .int .u8 0, .int .u8 0, .int .u8 0, .int .u8 0, .int .u8 0, .int .u8 0, .int .u8 0, .int .u8 0, .int .u8 0, .int .u8 0, .int .u8 0]),
 ⟨none, .store 39 (.tmp 8) (.tmp 45), none⟩,
 om 9 46,
 om 10 47])
 (.seq (.ops [om 48 1,
 oo 49 (.call (.const (.func (.func 12) [] [])) [.tmp 48]),
 oo 11 (.alloc [.int .i64 0, .int .i64 0, .int .i64 0, .int .i64 0, .int .i64 0, .nilsl, .int .u8 0, .int .u8 0, .int .u8 0, .int .u8 0, .int .u8 0, .int .u8 0, .int .u8 0, .int .u8 0, .int .u8 0, .int .u8 0, .int .u8 0, .int .u8 0, .int .u8 0, .int .u8 0, .int .u8 0, .int .u8 0, .int .i64 0, .int .u8 0, .int .u8 0, .int .u8 0, .int .u8 0, .int .u8 0, .int .u8 0, .int .u8 0, .int .u8 0, .int .u8 0, .int .u8 0, .int .u8 0, .int .u8 0, .int .u8 0, .int .u8 0, .int .u8 0, .int .u8 0, .int .i64 0, .int .i64 0]),
 ⟨none, .store 41 (.tmp 11) (.tmp 49), none⟩])
 (.seq (.seq (.draw [om 50 9,
 oo 51 (.fadr 39 (.tmp 11)),
 oo 52 (.load false 1 (.tmp 51)),
 oo 53 (.bin .neq (.tmp 50) (.tmp 52)),
 om 54 53,
 ⟨some 55, .mov (.tmp 10), some (54, false)⟩,
 ⟨some 56, .fadr 40 (.tmp 11), some (54, false)⟩,
 ⟨some 57, .load false 1 (.tmp 56), some (54, false)⟩,
 ⟨some 58, .bin .neq (.tmp 55) (.tmp 57), some (54, false)⟩,
 oo 59 (.pick (.tmp 54) (.const (.bool true)) (.tmp 58)),
 om 60 59,
 ⟨some 61, .load true 39 (.tmp 8), some (60, false)⟩,
 ⟨some 62, .fadr 0 (.tmp 11), some (60, false)⟩,
 ⟨some 63, .load true 39 (.tmp 62), some (60, false)⟩,
 ⟨some 64, .call (.const (.func (.func 13) [] [])) [.tmp 61, .tmp 63], some (60, false)⟩,
 ⟨some 65, .un .not (.tmp 64), some (60, false)⟩,
 oo 66 (.pick (.tmp 60) (.const (.bool true)) (.tmp 65)),
 om 67 66,
 ⟨some 68, .mov (.tmp 10), some (67, false)⟩,
 ⟨some 69, .bin .eql (.tmp 68) (.const (.int .i64 0)), some (67, false)⟩,
 ⟨some 70, .mov (.tmp 69), some (67, false)⟩,
 ⟨some 71, .load true 39 (.tmp 8), some (70, true)⟩,
 ⟨some 72, .call (.const (.func (.func 6) [] [])) [.tmp 71], some (70, true)⟩,
 ⟨some 73, .mov (.tmp 1), some (70, true)⟩,
 ⟨some 74, .mov (.tmp 9), some (70, true)⟩,
 ⟨some 75, .slsl 1 (.tmp 73) none (some (.tmp 74)) none, some (70, true)⟩,
 ⟨some 76, .call (.const (.func (.func 7) [] [])) [.tmp 72, .tmp 75], some (70, true)⟩,
 ⟨some 77, .un .not (.tmp 76), some (70, true)⟩,
 ⟨some 78, .pick (.tmp 70) (.tmp 77) (.const (.bool false)), some (67, false)⟩,
 oo 79 (.pick (.tmp 67) (.const (.bool true)) (.tmp 78))] [])
 (.cond (.tmp 79) (.seq (.ops [oo 6 (.mov (.const (.bool false)))])
 .ret)
 .skip))
 (.seq (.ops [oo 81 (.mklit 1 []),
 om 82 7,
 oo 83 (.append 1 1 false (.tmp 81) (.tmp 82)),
 om 84 1,
 oo 85 (.append 1 1 false (.tmp 83) (.tmp 84)),
 oo 86 (.call (.const (.func (.func 11) [] [])) [.tmp 85]),
 om 80 86,
 oo 87 (.extr (.tmp 80) 0),
 oo 88 (.extr (.tmp 80) 1),
 oo 89 (.extr (.tmp 80) 2),
 oo 12 (.alloc [.int .i64 0, .int .i64 0, .int .i64 0, .int .i64 0, .int .i64 0, .nilsl, .int .u8 0, .int .u8 0, .int .u8 0, .int .u8 0, .int .u8 0, .int .u8 0, .int .u8 0, .int .u8 0, .int .u8 0, .int .u8 0, .int .u8 0, .int .u8 0, .int .u8 0, .int .u8 0, .int .u8 0, .int .u8 0, .int .i64 0, .int .u8 0, .int .u8 0, .int .u8 0, .int .u8 0, .int .u8 0, .int .u8 0, .int .u8 0, .int .u8 0, .int .u8 0, .int .u8 0, .int .u8 0, .int .u8 0, .int .u8 0, .int .u8 0, .int .u8 0, .int .u8 0]),
 ⟨none, .store 39 (.tmp 12) (.tmp 87), none⟩,
 om 13 88,
 om 14 89])
 (.seq (.ops [om 91 7,
 om 92 7,
 oo 93 (.lenl (.tmp 92)),
 oo 94 (.bin .sub (.tmp 93) (.const (.int .i64 1))),
 om 95 2,
 oo 96 (.convi .i64 (.tmp 95)),
 om 97 7,
 oo 98 (.lenl (.tmp 97)),
 oo 99 (.bin .rem (.tmp 96) (.tmp 98)),
 oo 100 (.bin .sub (.tmp 94) (.tmp 99)),
 oo 101 (.slsl 1 (.tmp 91) none (some (.tmp 100)) none),
 oo 102 (.call (.const (.func (.func 11) [] [])) [.tmp 101]),
 om 90 102,
 oo 103 (.extr (.tmp 90) 0),
 oo 104 (.extr (.tmp 90) 1),
 oo 105 (.extr (.tmp 90) 2),
 oo 15 (.alloc [.int .i64 0, .int .i64 0, .int .i64 0, .int .i64 0, .int .i64 0, .nilsl, .int .u8 0, .int .u8 0, .int .u8 0, .int .u8 0, .int .u8 0, .int .u8 0, .int .u8 0, .int .u8 0, .int .u8 0, .int .u8 0, .int .u8 0, .int .u8 0, .int .u8 0, .int .u8 0, .int .u8 0, .int .u8 0, .int .i64 0, .int .u8 0, .int .u8 0, .int .u8 0, .int .u8 0, .int .u8 0, .int .u8 0, .int .u8 0, .int .u8 0, .int .u8 0, .int .u8 0, .int .u8 0, .int .u8 0, .int .u8 0, .int .u8 0, .int .u8 0, .int .u8 0]),
 ⟨none, .store 39 (.tmp 15) (.tmp 103), none⟩,
 om 16 104,
 om 17 105])
 (.seq (.ops [oo 106 (.call (.const (.func (.func 5) [] [])) []),
 om 107 106,
 ⟨some 108, .mov (.tmp 14), some (107, true)⟩,
 ⟨some 109, .bin .eql (.tmp 108) (.const (.int .i64 0)), some (107, true)⟩,
 oo 110 (.pick (.tmp 107) (.tmp 109) (.const (.bool false))),
 om 111 110,
 ⟨some 112, .mov (.tmp 13), some (111, true)⟩,
 ⟨some 113, .mov (.tmp 7), some (111, true)⟩,
 ⟨some 114, .lenl (.tmp 113), some (111, true)⟩,
 ⟨some 115, .bin .eql (.tmp 112) (.tmp 114), some (111, true)⟩,
 oo 116 (.pick (.tmp 111) (.tmp 115) (.const (.bool false))),
 om 117 116,
 ⟨some 118, .load true 39 (.tmp 12), some (117, true)⟩,
 ⟨some 119, .load true 39 (.tmp 3), some (117, true)⟩,
 ⟨some 120, .call (.const (.func (.func 13) [] [])) [.tmp 118, .tmp 119], some (117, true)⟩,
 oo 121 (.pick (.tmp 117) (.tmp 120) (.const (.bool false))),
 om 122 121,
 ⟨some 123, .mov (.tmp 17), some (122, true)⟩,
 ⟨some 124, .bin .eql (.tmp 123) (.const (.int .i64 11)), some (122, true)⟩,
 oo 125 (.pick (.tmp 122) (.tmp 124) (.const (.bool false))),
 om 6 125])
 .ret))))))))))⟩
def F4 : AFn := ⟨23, [.tmp 4],
 (.seq (.ops [oo 4 (.mov (.const (.bool false)))])
 (.seq (.seq (.ops [oo 5 (.mov (.const (.int .i64 0)))])
 (.block 0 (.loop (.seq (.seq (.ops [om 6 5,
 om 7 0,
 oo 8 (.lenl (.tmp 7)),
 oo 9 (.bin .lss (.tmp 6) (.tmp 8))])
 (.cond (.tmp 9) .skip
 (.exit 0)))
 (.seq (.block 1 (.seq (.ops [om 12 0,
 om 13 5,
 oo 14 (.iadr none 39 (.tmp 12) (.tmp 13)),
 oo 15 (.fadr 5 (.tmp 14)),
 oo 16 (.load false 1 (.tmp 15)),
 oo 17 (.lenl (.tmp 16)),
 oo 18 (.bin .gtr (.tmp 17) (.const (.int .i64 8)))])
 (.cond (.tmp 18) (.seq (.ops [oo 4 (.mov (.const (.bool false)))])
 .ret)
 .skip)))
 (.ops [om 10 5,
 oo 11 (.bin .add (.tmp 10) (.const (.int .i64 1))),
 om 5 11]))))))
 (.seq (.ops [om 19 0,
 oo 20 (.lenl (.tmp 19)),
 om 21 1,
 oo 22 (.bin .leq (.tmp 20) (.tmp 21)),
 om 4 22])
 .ret)))⟩
def F5 : AFn := ⟨238, [.tmp 0],
 (.seq (.ops [oo 0 (.mov (.const (.bool false)))])
 (.seq (.ops [oo 1 (.alloc [.nilsl])])
 (.seq (.seq (.ops [oo 24 (.mov (.const (.int .i64 0)))])
 (.block 0 (.loop (.seq (.ops [oo 25 (.bin .lss (.tmp 24) (.const (.int .i64 8)))])
 (.seq (.cond (.tmp 25) .skip
 (.exit 0))
 (.seq (.block 1 (.seq (.ops [om 26 24,
 om 2 26])
 (.ops [oo 27 (.fadr 0 (.tmp 1)),
 oo 28 (.load false 1 (.tmp 27)),
 om 29 2,
 oo 30 (.bin .quo (.tmp 29) (.const (.int .i64 4))),
 om 31 2,
 oo 32 (.bin .quo (.tmp 31) (.const (.int .i64 2))),
 oo 33 (.bin .rem (.tmp 32) (.const (.int .i64 2))),
 om 34 2,
 oo 35 (.bin .rem (.tmp 34) (.const (.int .i64 2))),
 oo 36 (.build [.int .i64 0, .int .i64 0, .int .i64 0] [(0, 1, (.tmp 30)), (1, 1, (.tmp 33)), (2, 1, (.tmp 35))]),
 oo 37 (.mklit 3 [.tmp 36]),
 oo 38 (.append 3 24 false (.tmp 28) (.tmp 37)),
 oo 39 (.fadr 0 (.tmp 1)),
 ⟨none, .store 1 (.tmp 39) (.tmp 38), none⟩])))
 (.ops [oo 40 (.bin .add (.tmp 24) (.const (.int .i64 1))),
 om 24 40])))))))
 (.seq (.ops [oo 41 (.load true 1 (.tmp 1)),
 oo 42 (.mklit 1 [.tmp 41]),
 oo 43 (.build [.int .i64 0, .int .i64 0] [(0, 1, (.const (.int .i64 3))), (1, 1, (.const (.int .i64 3)))]),
 oo 44 (.build [.int .i64 0, .int .i64 0] [(0, 1, (.const (.int .i64 500))), (1, 1, (.const (.int .i64 500)))]),
 oo 45 (.build [(.str []), .nilsl, .int .i64 0, .int .i64 0, .int .i64 0, .int .i64 0] [(0, 1, (.const (.str [97]))), (1, 1, (.tmp 42)), (2, 2, (.tmp 43)), (4, 2, (.tmp 44))]),
 oo 3 (.alloc [(.str []), .nilsl, .int .i64 0, .int .i64 0, .int .i64 0, .int .i64 0]),
 ⟨none, .store 6 (.tmp 3) (.tmp 45), none⟩])
 (.seq (.draw [oo 46 (.build [.int .i64 0, .int .i64 0] [(0, 1, (.const (.int .i64 500))), (1, 1, (.const (.int .i64 500)))]),
 oo 47 (.load true 6 (.tmp 3)),
 oo 48 (.call (.const (.func (.func 14) [] [])) [(.const (.int .i64 9)), (.const (.int .i64 0)), (.const (.int .i64 0))]),
 oo 49 (.build [.int .i64 0, (.str []), .nilsl, .int .i64 0, .int .i64 0, .int .i64 0, .int .i64 0, .int .i64 0, .int .i64 0, .int .i64 0, .int .i64 0, .int .i64 0, .int .i64 0, .int .i64 0] [(0, 1, (.const (.int .i64 1))), (1, 6, (.tmp 47)), (7, 7, (.tmp 48))]),
 oo 50 (.mklit 14 [.tmp 49]),
 oo 51 (.build [.int .i64 0, .int .i64 0, .int .i64 0, .nilsl, .nilsl, .nilsl] [(0, 1, (.const (.int .i64 10))), (1, 2, (.tmp 46)), (3, 1, (.tmp 50))]),
 oo 4 (.alloc [.int .i64 0, .int .i64 0, .int .i64 0, .nilsl, .nilsl, .nilsl]),
 ⟨none, .store 6 (.tmp 4) (.tmp 51), none⟩] [(1, 2), (6, 2)])
 (.seq (.ops [oo 52 (.call (.const (.func (.func 14) [] [])) [(.const (.int .i64 0)), (.const (.int .i64 0)), (.const (.int .i64 9))]),
 oo 53 (.call (.const (.func (.func 14) [] [])) [(.const (.int .i64 0)), (.const (.int .i64 0)), (.const (.int .i64 4))]),
 oo 54 (.call (.const (.func (.func 14) [] [])) [(.const (.int .i64 0)), (.const (.int .i64 0)), (.const (.int .i64 0))]),
 oo 55 (.mklit 7 [.tmp 52, .tmp 53, .tmp 54]),
 oo 56 (.build [.int .i64 0, .int .i64 0, .nilsl] [(0, 1, (.const (.int .i64 1))), (1, 1, (.const (.int .i64 1))), (2, 1, (.tmp 55))]),
 oo 57 (.build [.int .i64 0, .int .i64 0, .nilsl] [(0, 1, (.const (.int .i64 8))), (1, 1, (.const (.int .i64 2)))]),
 oo 58 (.mklit 3 [.tmp 56, .tmp 57]),
 om 5 58])
 (.seq (.ops [oo 6 (.mov (.const (.func (.func 15) [] [])))])
 (.seq (.draw [oo 60 (.load true 6 (.tmp 4)),
 om 61 5,
 oo 62 (.load true 6 (.tmp 4)),
 oo 63 (.call (.const (.func (.func 17) [] [])) [.tmp 62]),
 om 64 6,
 oo 65 (.call (.tmp 64) [(.const (.int .i64 1)), (.const (.int .i64 4))]),
 oo 66 (.call (.const (.func (.func 16) [] [])) [.tmp 60, .tmp 61, .tmp 63, .tmp 65]),
 om 59 66,
 oo 67 (.extr (.tmp 59) 0),
 oo 68 (.extr (.tmp 59) 1),
 oo 7 (.alloc [.nilsl, .nilsl, .nilsl, .nilsl, .nilsl, .nilsl]),
 ⟨none, .store 6 (.tmp 7) (.tmp 67), none⟩,
 om 8 68] [(0, 3), (0, 5), (10, 3), (10, 5), (10, 6)])
 (.seq (.draw [oo 70 (.load true 6 (.tmp 4)),
 om 71 5,
 oo 72 (.load true 6 (.tmp 7)),
 om 73 6,
 oo 74 (.call (.tmp 73) [(.const (.int .i64 1)), (.const (.int .i64 4))]),
 oo 75 (.call (.const (.func (.func 16) [] [])) [.tmp 70, .tmp 71, .tmp 72, .tmp 74]),
 om 69 75,
 oo 76 (.extr (.tmp 69) 0),
 oo 77 (.extr (.tmp 69) 1),
 oo 9 (.alloc [.nilsl, .nilsl, .nilsl, .nilsl, .nilsl, .nilsl]),
 ⟨none, .store 6 (.tmp 9) (.tmp 76), none⟩,
 om 10 77] [(0, 4), (2, 4), (9, 4), (9, 5)])
 (.seq (.draw [oo 79 (.load true 6 (.tmp 4)),
 om 80 5,
 oo 81 (.load true 6 (.tmp 7)),
 om 82 6,
 oo 83 (.call (.tmp 82) [(.const (.int .i64 2)), (.const (.int .i64 0))]),
 oo 84 (.call (.const (.func (.func 16) [] [])) [.tmp 79, .tmp 80, .tmp 81, .tmp 83]),
 om 78 84,
 oo 85 (.extr (.tmp 78) 0),
 oo 86 (.extr (.tmp 78) 1),
 oo 11 (.alloc [.nilsl, .nilsl, .nilsl, .nilsl, .nilsl, .nilsl]),
 ⟨none, .store 6 (.tmp 11) (.tmp 85), none⟩,
 om 12 86] [(0, 4), (2, 4), (9, 4), (9, 5)])
 (.seq (.ops [oo 87 (.call (.const (.func (.func 14) [] [])) [(.const (.int .i64 1)), (.const (.int .i64 0)), (.const (.int .i64 0))]),
 oo 88 (.build [.int .i64 0, .int .i64 0, .int .i64 0] [(0, 1, (.const (.int .i64 256))), (1, 1, (.const (.int .i64 0))), (2, 1, (.const (.int .i64 0)))]),
 oo 89 (.build [.int .i64 0, .int .i64 0, .int .i64 0, .int .i64 0, .int .i64 0, .int .i64 0, .int .i64 0, .int .i64 0, .int .i64 0, .int .i64 0, .int .i64 0, .int .i64 0, .int .i64 0, .int .i64 0] [(0, 1, (.const (.int .i64 1))), (1, 7, (.tmp 87)), (8, 3, (.tmp 88))]),
 oo 90 (.mklit 14 [.tmp 89]),
 oo 91 (.build [.int .i64 0, .int .i64 0, .int .i64 0, .int .i64 0, .int .i64 0, .nilsl, .int .u8 0, .int .u8 0, .int .u8 0, .int .u8 0, .int .u8 0, .int .u8 0, .int .u8 0, .int .u8 0, .int .u8 0, .int .u8 0, .int .u8 0, .int .u8 0, .int .u8 0, .int .u8 0, .int .u8 0, .int .u8 0, .int .i64 0, .int .u8 0, .int .u8 0, .int .u8 0, .int .u8 0, .int .u8 0, .int .u8 0, .int .u8 0, .int .u8 0, .int .u8 0, .int .u8 0, .int .u8 0, .int .u8 0, .int .u8 0, .int .u8 0, .int .u8 0, .int .u8 0] [(1, 1, (.const (.int .i64 4))), (2, 1, (.const (.int .i64 1))), (5, 1, (.tmp 90))]),
 oo 13 (.alloc [.int .i64 0, .int .i64 0, .int .i64 0, .int .i64 0, .int .i64 0, .nilsl, .int .u8 0, .int .u8 0, .int .u8 0, .int .u8 0, .int .u8 0, .int .u8 0, .int .u8 0, .int .u8 0, .int .u8 0, .int .u8 0, .int .u8 0, .int .u8 0, .int .u8 0, .int .u8 0, .int .u8 0, .int .u8 0, .int .i64 0, .int .u8 0, .int .u8 0, .int .u8 0, .int .u8 0, .int .u8 0, .int .u8 0, .int .u8 0, .int .u8 0, .int .u8 0, .int .u8 0, .int .u8 0, .int .u8 0, .int .u8 0, .int .u8 0, .int .u8 0, .int .u8 0]),
 ⟨none, .store 39 (.tmp 13) (.tmp 91), none⟩])
 (.seq (.ops [oo 93 (.load true 6 (.tmp 4)),
 om 94 5,
 oo 95 (.load true 6 (.tmp 11)),
 oo 96 (.load true 39 (.tmp 13)),
 oo 97 (.call (.const (.func (.func 16) [] [])) [.tmp 93, .tmp 94, .tmp 95, .tmp 96]),
 om 92 97,
 oo 98 (.extr (.tmp 92) 0),
 oo 99 (.extr (.tmp 92) 1),
 oo 14 (.alloc [.nilsl, .nilsl, .nilsl, .nilsl, .nilsl, .nilsl]),
 ⟨none, .store 6 (.tmp 14) (.tmp 98), none⟩,
 om 15 99])
 (.seq (.ops [oo 101 (.load true 6 (.tmp 4)),
 om 102 5,
 oo 103 (.load true 6 (.tmp 11)),
 oo 104 (.build [.int .i64 0, .int .i64 0, .int .i64 0, .int .i64 0, .int .i64 0, .nilsl, .int .u8 0, .int .u8 0, .int .u8 0, .int .u8 0, .int .u8 0, .int .u8 0, .int .u8 0, .int .u8 0, .int .u8 0, .int .u8 0, .int .u8 0, .int .u8 0, .int .u8 0, .int .u8 0, .int .u8 0, .int .u8 0, .int .i64 0, .int .u8 0, .int .u8 0, .int .u8 0, .int .u8 0, .int .u8 0, .int .u8 0, .int .u8 0, .int .u8 0, .int .u8 0, .int .u8 0, .int .u8 0, .int .u8 0, .int .u8 0, .int .u8 0, .int .u8 0, .int .u8 0] [(1, 1, (.const (.int .i64 3))), (2, 1, (.const (.int .i64 1)))]),
 oo 105 (.call (.const (.func (.func 16) [] [])) [.tmp 101, .tmp 102, .tmp 103, .tmp 104]),
 om 100 105,
 oo 106 (.extr (.tmp 100) 0),
 oo 107 (.extr (.tmp 100) 1),
 oo 16 (.alloc [.nilsl, .nilsl, .nilsl, .nilsl, .nilsl, .nilsl]),
 ⟨none, .store 6 (.tmp 16) (.tmp 106), none⟩,
 om 17 107])
 (.seq (.ops [oo 109 (.load true 6 (.tmp 4)),
 om 110 5,
 oo 111 (.load true 6 (.tmp 11)),
 oo 112 (.build [.int .i64 0, .int .i64 0, .int .i64 0, .int .i64 0, .int .i64 0, .nilsl, .int .u8 0, .int .u8 0, .int .u8 0, .int .u8 0, .int .u8 0, .int .u8 0, .int .u8 0, .int .u8 0, .int .u8 0, .int .u8 0, .int .u8 0, .int .u8 0, .int .u8 0, .int .u8 0, .int .u8 0, .int .u8 0, .int .i64 0, .int .u8 0, .int .u8 0, .int .u8 0, .int .u8 0, .int .u8 0, .int .u8 0, .int .u8 0, .int .u8 0, .int .u8 0, .int .u8 0, .int .u8 0, .int .u8 0, .int .u8 0, .int .u8 0, .int .u8 0, .int .u8 0] [(1, 1, (.const (.int .i64 5))), (2, 1, (.const (.int .i64 1))), (22, 1, (.const (.int .i64 340)))]),
 oo 113 (.call (.const (.func (.func 16) [] [])) [.tmp 109, .tmp 110, .tmp 111, .tmp 112]),
 om 108 113,
 oo 114 (.extr (.tmp 108) 0),
 oo 115 (.extr (.tmp 108) 1),
 oo 18 (.alloc [.nilsl, .nilsl, .nilsl, .nilsl, .nilsl, .nilsl]),
 ⟨none, .store 6 (.tmp 18) (.tmp 114), none⟩,
 om 19 115])
 (.seq (.seq (.ops [om 116 8,
 oo 117 (.bin .neq (.tmp 116) (.const (.int .i64 0))),
 om 118 117,
 ⟨some 119, .mov (.tmp 10), some (118, false)⟩,
 ⟨some 120, .bin .neq (.tmp 119) (.const (.int .i64 4)), some (118, false)⟩,
 oo 121 (.pick (.tmp 118) (.const (.bool true)) (.tmp 120)),
 om 122 121,
 ⟨some 123, .mov (.tmp 12), some (122, false)⟩,
 ⟨some 124, .bin .neq (.tmp 123) (.const (.int .i64 0)), some (122, false)⟩,
 oo 125 (.pick (.tmp 122) (.const (.bool true)) (.tmp 124)),
 om 126 125,
 ⟨some 127, .mov (.tmp 15), some (126, false)⟩,
 ⟨some 128, .bin .neq (.tmp 127) (.const (.int .i64 0)), some (126, false)⟩,
 oo 129 (.pick (.tmp 126) (.const (.bool true)) (.tmp 128)),
 om 130 129,
 ⟨some 131, .mov (.tmp 17), some (130, false)⟩,
 ⟨some 132, .bin .neq (.tmp 131) (.const (.int .i64 7)), some (130, false)⟩,
 oo 133 (.pick (.tmp 130) (.const (.bool true)) (.tmp 132)),
 om 134 133,
 ⟨some 135, .mov (.tmp 19), some (134, false)⟩,
 ⟨some 136, .bin .neq (.tmp 135) (.const (.int .i64 0)), some (134, false)⟩,
 oo 137 (.pick (.tmp 134) (.const (.bool true)) (.tmp 136)),
 om 138 137,
 ⟨some 139, .fadr 1 (.tmp 7), some (138, false)⟩,
 ⟨some 140, .load false 1 (.tmp 139), some (138, false)⟩,
 ⟨some 141, .lenl (.tmp 140), some (138, false)⟩,
 ⟨some 142, .bin .neq (.tmp 141) (.const (.int .i64 1)), some (138, false)⟩,
 oo 143 (.pick (.tmp 138) (.const (.bool true)) (.tmp 142)),
 om 144 143,
 ⟨some 145, .fadr 1 (.tmp 11), some (144, false)⟩,
 ⟨some 146, .load false 1 (.tmp 145), some (144, false)⟩,
 ⟨some 147, .lenl (.tmp 146), some (144, false)⟩,
 ⟨some 148, .bin .neq (.tmp 147) (.const (.int .i64 1)), some (144, false)⟩,
 oo 149 (.pick (.tmp 144) (.const (.bool true)) (.tmp 148)),
 om 150 149,
 ⟨some 151, .fadr 2 (.tmp 14), some (150, false)⟩,
 ⟨some 152, .load false 1 (.tmp 151), some (150, false)⟩,
 ⟨some 153, .lenl (.tmp 152), some (150, false)⟩,
 ⟨some 154, .bin .neq (.tmp 153) (.const (.int .i64 1)), some (150, false)⟩,
 oo 155 (.pick (.tmp 150) (.const (.bool true)) (.tmp 154))])
 (.cond (.tmp 155) (.seq (.ops [oo 0 (.mov (.const (.bool false)))])
 .ret)
 .skip))
 (.seq (.ops [oo 157 (.load true 39 (.tmp 13)),
 oo 158 (.call (.const (.func (.func 6) [] [])) [.tmp 157]),
 oo 159 (.call (.const (.func (.func 11) [] [])) [.tmp 158]),
 om 156 159,
 oo 160 (.extr (.tmp 156) 0),
 oo 161 (.extr (.tmp 156) 1),
 oo 162 (.extr (.tmp 156) 2),
 oo 20 (.alloc [.int .i64 0, .int .i64 0, .int .i64 0, .int .i64 0, .int .i64 0, .nilsl, .int .u8 0, .int .u8 0, .int .u8 0, .int .u8 0, .int .u8 0, .int .u8 0, .int .u8 0, .int .u8 0, .int .u8 0, .int .u8 0, .int .u8 0, .int .u8 0, .int .u8 0, .int .u8 0, .int .u8 0, .int .u8 0, .int .i64 0, .int .u8 0, .int .u8 0, .int .u8 0, .int .u8 0, .int .u8 0, .int .u8 0, .int .u8 0, .int .u8 0, .int .u8 0, .int .u8 0, .int .u8 0, .int .u8 0, .int .u8 0, .int .u8 0, .int .u8 0, .int .u8 0]),
 ⟨none, .store 39 (.tmp 20) (.tmp 160), none⟩,
 om 21 161,
 om 22 162])
 (.seq (.draw [oo 163 (.fadr 0 (.tmp 7)),
 oo 164 (.load false 1 (.tmp 163)),
 oo 165 (.iadr none 1 (.tmp 164) (.const (.int .i64 0))),
 oo 166 (.load false 1 (.tmp 165)),
 om 167 166,
 ⟨some 168, .fadr 1 (.tmp 7), some (167, true)⟩,
 ⟨some 169, .load false 1 (.tmp 168), some (167, true)⟩,
 ⟨some 170, .iadr none 7 (.tmp 169) (.const (.int .i64 0)), some (167, true)⟩,
 ⟨some 171, .load true 7 (.tmp 170), some (167, true)⟩,
 ⟨some 172, .call (.const (.func (.func 14) [] [])) [(.const (.int .i64 0)), (.const (.int .i64 0)), (.const (.int .i64 4))], some (167, true)⟩,
 ⟨some 173, .eqf false [.i, .i, .i, .i, .i, .i, .i] (.tmp 171) (.tmp 172), some (167, true)⟩,
 oo 174 (.pick (.tmp 167) (.tmp 173) (.const (.bool false))),
 om 175 174,
 ⟨some 176, .fadr 1 (.tmp 11), some (175, true)⟩,
 ⟨some 177, .load false 1 (.tmp 176), some (175, true)⟩,
 ⟨some 178, .iadr none 7 (.tmp 177) (.const (.int .i64 0)), some (175, true)⟩,
 ⟨some 179, .load true 7 (.tmp 178), some (175, true)⟩,
 ⟨some 180, .call (.const (.func (.func 14) [] [])) [(.const (.int .i64 0)), (.const (.int .i64 0)), (.const (.int .i64 0))], some (175, true)⟩,
 ⟨some 181, .eqf false [.i, .i, .i, .i, .i, .i, .i] (.tmp 179) (.tmp 180), some (175, true)⟩,
 oo 182 (.pick (.tmp 175) (.tmp 181) (.const (.bool false))),
 om 183 182,
 ⟨some 184, .fadr 1 (.tmp 14), some (183, true)⟩,
 ⟨some 185, .load false 1 (.tmp 184), some (183, true)⟩,
 ⟨some 186, .iadr none 7 (.tmp 185) (.const (.int .i64 0)), some (183, true)⟩,
 ⟨some 187, .load true 7 (.tmp 186), some (183, true)⟩,
 ⟨some 188, .call (.const (.func (.func 14) [] [])) [(.const (.int .i64 1)), (.const (.int .i64 0)), (.const (.int .i64 0))], some (183, true)⟩,
 ⟨some 189, .eqf false [.i, .i, .i, .i, .i, .i, .i] (.tmp 187) (.tmp 188), some (183, true)⟩,
 oo 190 (.pick (.tmp 183) (.tmp 189) (.const (.bool false))),
 om 191 190,
 ⟨some 192, .fadr 2 (.tmp 14), some (191, true)⟩,
 ⟨some 193, .load false 1 (.tmp 192), some (191, true)⟩,
 ⟨some 194, .iadr none 3 (.tmp 193) (.const (.int .i64 0)), some (191, true)⟩,
 ⟨some 195, .load true 3 (.tmp 194), some (191, true)⟩,
 ⟨some 196, .build [.int .i64 0, .int .i64 0, .int .i64 0] [(0, 1, (.const (.int .i64 256))), (1, 1, (.const (.int .i64 0))), (2, 1, (.const (.int .i64 0)))], some (191, true)⟩,
 ⟨some 197, .eqf false [.i, .i, .i] (.tmp 195) (.tmp 196), some (191, true)⟩,
 oo 198 (.pick (.tmp 191) (.tmp 197) (.const (.bool false))),
 om 199 198,
 ⟨some 200, .load true 6 (.tmp 18), some (199, true)⟩,
 ⟨some 201, .load true 6 (.tmp 11), some (199, true)⟩,
 ⟨some 202, .call (.const (.func (.func 18) [] [])) [.tmp 200, .tmp 201], some (199, true)⟩,
 oo 203 (.pick (.tmp 199) (.tmp 202) (.const (.bool false))),
 om 23 203] [(6, 9), (8, 9), (14, 17), (16, 17), (22, 25), (24, 25)])
 (.seq (.draw [om 204 23,
 om 205 204,
 ⟨some 206, .mov (.tmp 22), some (205, true)⟩,
 ⟨some 207, .bin .eql (.tmp 206) (.const (.int .i64 0)), some (205, true)⟩,
 oo 208 (.pick (.tmp 205) (.tmp 207) (.const (.bool false))),
 om 209 208,
 ⟨some 210, .mov (.tmp 21), some (209, true)⟩,
 ⟨some 211, .load true 39 (.tmp 13), some (209, true)⟩,
 ⟨some 212, .call (.const (.func (.func 6) [] [])) [.tmp 211], some (209, true)⟩,
 ⟨some 213, .lenl (.tmp 212), some (209, true)⟩,
 ⟨some 214, .bin .eql (.tmp 210) (.tmp 213), some (209, true)⟩,
 oo 215 (.pick (.tmp 209) (.tmp 214) (.const (.bool false))),
 om 216 215,
 ⟨some 217, .load true 39 (.tmp 20), some (216, true)⟩,
 ⟨some 218, .load true 39 (.tmp 13), some (216, true)⟩,
 ⟨some 219, .call (.const (.func (.func 13) [] [])) [.tmp 217, .tmp 218], some (216, true)⟩,
 oo 220 (.pick (.tmp 216) (.tmp 219) (.const (.bool false))),
 om 221 220,
 ⟨some 222, .build [.int .u8 0, .int .u8 0, .int .u8 0, .int .u8 0, .int .u8 0, .int .u8 0, .int .u8 0, .int .u8 0, .int .u8 0, .int .u8 0, .int .u8 0, .int .u8 0, .int .u8 0, .int .u8 0, .int .u8 0, .int .u8 0] [], some (221, true)⟩,
 ⟨some 223, .mov (.tmp 6), some (221, true)⟩,
 ⟨some 224, .call (.tmp 223) [(.const (.int .i64 1)), (.const (.int .i64 4))], some (221, true)⟩,
 ⟨some 225, .mklit 39 [.tmp 224], some (221, true)⟩,
 ⟨some 226, .call (.const (.func (.func 19) [] [])) [(.const (.int .i64 0)), .tmp 222, .tmp 225], some (221, true)⟩,
 ⟨some 227, .bin .eql (.tmp 226) (.const (.int .i64 (-1))), some (221, true)⟩,
 oo 228 (.pick (.tmp 221) (.tmp 227) (.const (.bool false))),
 om 229 228,
 ⟨some 230, .build [.int .u8 0, .int .u8 0, .int .u8 0, .int .u8 0, .int .u8 0, .int .u8 0, .int .u8 0, .int .u8 0, .int .u8 0, .int .u8 0, .int .u8 0, .int .u8 0, .int .u8 0, .int .u8 0, .int .u8 0, .int .u8 0] [], some (229, true)⟩,
 ⟨some 231, .mov (.tmp 6), some (229, true)⟩,
 ⟨some 232, .call (.tmp 231) [(.const (.int .i64 1)), (.const (.int .i64 4))], some (229, true)⟩,
 ⟨some 233, .load true 39 (.tmp 13), some (229, true)⟩,
 ⟨some 234, .mklit 39 [.tmp 232, .tmp 233], some (229, true)⟩,
 ⟨some 235, .call (.const (.func (.func 19) [] [])) [(.const (.int .i64 0)), .tmp 230, .tmp 234], some (229, true)⟩,
 ⟨some 236, .bin .eql (.tmp 235) (.const (.int .i64 1)), some (229, true)⟩,
 oo 237 (.pick (.tmp 229) (.tmp 236) (.const (.bool false))),
 om 0 237] [(29, 28)])
 .ret))))))))))))))))))⟩
def F6 : AFn := ⟨59, [.tmp 2],
 (.seq (.ops [oo 1 (.box (.tmp 0)),
 oo 2 (.mov (.const .nilsl))])
 (.seq (.ops [oo 7 (.fadr 0 (.tmp 1)),
 oo 8 (.load false 1 (.tmp 7)),
 oo 9 (.fadr 1 (.tmp 1)),
 oo 10 (.load false 1 (.tmp 9)),
 oo 11 (.fadr 2 (.tmp 1)),
 oo 12 (.load false 1 (.tmp 11)),
 oo 13 (.fadr 3 (.tmp 1)),
 oo 14 (.load false 1 (.tmp 13)),
 oo 15 (.fadr 4 (.tmp 1)),
 oo 16 (.load false 1 (.tmp 15)),
 oo 17 (.fadr 22 (.tmp 1)),
 oo 18 (.load false 1 (.tmp 17)),
 oo 19 (.fadr 5 (.tmp 1)),
 oo 20 (.load false 1 (.tmp 19)),
 oo 21 (.lenl (.tmp 20)),
 oo 22 (.mklit 1 [.tmp 8, .tmp 10, .tmp 12, .tmp 14, .tmp 16, .tmp 18, .tmp 21]),
 oo 23 (.call (.const (.func (.func 20) [] [])) [.tmp 22]),
 om 3 23])
 (.seq (.seq (.ops [oo 24 (.fadr 5 (.tmp 1)),
 oo 25 (.load false 1 (.tmp 24)),
 oo 26 (.lenl (.tmp 25)),
 oo 27 (.mov (.const (.int .i64 0)))])
 (.block 0 (.loop (.seq (.ops [oo 28 (.bin .lss (.tmp 27) (.tmp 26))])
 (.seq (.cond (.tmp 28) .skip
 (.exit 0))
 (.seq (.block 1 (.seq (.ops [oo 29 (.iadr none 14 (.tmp 25) (.tmp 27)),
 oo 30 (.load true 14 (.tmp 29)),
 oo 5 (.alloc [.int .i64 0, .int .i64 0, .int .i64 0, .int .i64 0, .int .i64 0, .int .i64 0, .int .i64 0, .int .i64 0, .int .i64 0, .int .i64 0, .int .i64 0, .int .i64 0, .int .i64 0, .int .i64 0]),
 ⟨none, .store 14 (.tmp 5) (.tmp 30), none⟩])
 (.seq (.draw [oo 31 (.fadr 0 (.tmp 5)),
 oo 32 (.load false 1 (.tmp 31)),
 oo 33 (.mklit 1 [.tmp 32]),
 oo 34 (.fadr 1 (.tmp 5)),
 oo 35 (.fadr 0 (.tmp 34)),
 oo 36 (.slarr 3 1 (.tmp 35) none none none),
 oo 37 (.fadr 1 (.tmp 5)),
 oo 38 (.fadr 3 (.tmp 37)),
 oo 39 (.slarr 4 1 (.tmp 38) none none none),
 oo 40 (.fadr 8 (.tmp 5)),
 oo 41 (.slarr 3 1 (.tmp 40) none none none),
 oo 42 (.fadr 11 (.tmp 5)),
 oo 43 (.slarr 3 1 (.tmp 42) none none none),
 oo 44 (.mklit 1 [.tmp 33, .tmp 36, .tmp 39, .tmp 41, .tmp 43]),
 oo 45 (.call (.const (.func (.func 21) [] [])) [.tmp 44]),
 om 6 45] [])
 (.ops [om 46 3,
 om 47 6,
 oo 48 (.call (.const (.func (.func 20) [] [])) [.tmp 47]),
 oo 49 (.append 1 1 false (.tmp 46) (.tmp 48)),
 om 3 49]))))
 (.ops [oo 50 (.bin .add (.tmp 27) (.const (.int .i64 1))),
 om 27 50])))))))
 (.seq (.ops [om 51 3,
 oo 52 (.fadr 6 (.tmp 1)),
 oo 53 (.load true 16 (.tmp 52)),
 oo 54 (.fadr 23 (.tmp 1)),
 oo 55 (.load true 16 (.tmp 54)),
 oo 56 (.mklit 16 [.tmp 53, .tmp 55]),
 oo 57 (.call (.const (.func (.func 22) [] [])) [.tmp 56]),
 oo 58 (.append 1 1 false (.tmp 51) (.tmp 57)),
 om 2 58])
 .ret))))⟩
def F7 : AFn := ⟨10, [.tmp 4],
 (.seq (.ops [oo 4 (.mov (.const (.bool false)))])
 (.seq (.ops [om 5 0,
 oo 6 (.b2str (.tmp 5)),
 om 7 1,
 oo 8 (.b2str (.tmp 7)),
 oo 9 (.bin .eql (.tmp 6) (.tmp 8)),
 om 4 9])
 .ret))⟩
def F8 : AFn := ⟨46, [.tmp 2],
 (.seq (.ops [oo 1 (.box (.tmp 0)),
 oo 2 (.mov (.const .nilsl))])
 (.seq (.ops [oo 5 (.fadr 0 (.tmp 1)),
 oo 6 (.load false 1 (.tmp 5)),
 oo 7 (.fadr 1 (.tmp 1)),
 oo 8 (.load false 1 (.tmp 7)),
 oo 9 (.fadr 2 (.tmp 1)),
 oo 10 (.load false 1 (.tmp 9)),
 oo 11 (.fadr 3 (.tmp 1)),
 oo 12 (.load false 1 (.tmp 11)),
 oo 13 (.fadr 4 (.tmp 1)),
 oo 14 (.load false 1 (.tmp 13)),
 oo 15 (.fadr 22 (.tmp 1)),
 oo 16 (.load false 1 (.tmp 15)),
 oo 17 (.fadr 5 (.tmp 1)),
 oo 18 (.load false 1 (.tmp 17)),
 oo 19 (.lenl (.tmp 18)),
 oo 20 (.mklit 1 [.tmp 6, .tmp 8, .tmp 10, .tmp 12, .tmp 14, .tmp 16, .tmp 19]),
 oo 21 (.call (.const (.func (.func 23) [] [])) [.tmp 20]),
 om 3 21])
 (.seq (.seq (.ops [oo 4 (.mov (.const (.int .i64 0)))])
 (.block 0 (.loop (.seq (.seq (.ops [om 22 4,
 oo 23 (.fadr 5 (.tmp 1)),
 oo 24 (.load false 1 (.tmp 23)),
 oo 25 (.lenl (.tmp 24)),
 oo 26 (.bin .lss (.tmp 22) (.tmp 25))])
 (.cond (.tmp 26) .skip
 (.exit 0)))
 (.seq (.block 1 (.ops [om 29 3,
 oo 30 (.fadr 5 (.tmp 1)),
 oo 31 (.load false 1 (.tmp 30)),
 om 32 4,
 oo 33 (.iadr none 14 (.tmp 31) (.tmp 32)),
 oo 34 (.load true 14 (.tmp 33)),
 oo 35 (.call (.const (.func (.func 24) [] [])) [.tmp 34]),
 oo 36 (.call (.const (.func (.func 23) [] [])) [.tmp 35]),
 oo 37 (.append 1 1 false (.tmp 29) (.tmp 36)),
 om 3 37]))
 (.ops [om 27 4,
 oo 28 (.bin .add (.tmp 27) (.const (.int .i64 1))),
 om 4 28]))))))
 (.seq (.ops [om 38 3,
 oo 39 (.fadr 6 (.tmp 1)),
 oo 40 (.load true 16 (.tmp 39)),
 oo 41 (.fadr 23 (.tmp 1)),
 oo 42 (.load true 16 (.tmp 41)),
 oo 43 (.mklit 16 [.tmp 40, .tmp 42]),
 oo 44 (.call (.const (.func (.func 25) [] [])) [.tmp 43]),
 oo 45 (.append 1 1 false (.tmp 38) (.tmp 44)),
 om 2 45])
 .ret))))⟩
def F9 : AFn := ⟨8, [.cell 2 true 16],
 (.seq (.ops [oo 1 (.box (.tmp 0)),
 oo 2 (.alloc [.int .u8 0, .int .u8 0, .int .u8 0, .int .u8 0, .int .u8 0, .int .u8 0, .int .u8 0, .int .u8 0, .int .u8 0, .int .u8 0, .int .u8 0, .int .u8 0, .int .u8 0, .int .u8 0, .int .u8 0, .int .u8 0])])
 (.seq (.ops [oo 3 (.load true 39 (.tmp 1)),
 oo 4 (.call (.const (.func (.func 6) [] [])) [.tmp 3]),
 oo 5 (.b2str (.tmp 4)),
 oo 6 (.mklit 1 [.tmp 5]),
 oo 7 (.call (.const (.func (.func 26) [] [])) [(.const (.int .i64 46)), .tmp 6]),
 ⟨none, .store 16 (.tmp 2) (.tmp 7), none⟩])
 .ret))⟩
def F10 : AFn := ⟨8, [.cell 2 true 16],
 (.seq (.ops [oo 1 (.box (.tmp 0)),
 oo 2 (.alloc [.int .u8 0, .int .u8 0, .int .u8 0, .int .u8 0, .int .u8 0, .int .u8 0, .int .u8 0, .int .u8 0, .int .u8 0, .int .u8 0, .int .u8 0, .int .u8 0, .int .u8 0, .int .u8 0, .int .u8 0, .int .u8 0])])
 (.seq (.ops [oo 3 (.load true 39 (.tmp 1)),
 oo 4 (.call (.const (.func (.func 8) [] [])) [.tmp 3]),
 oo 5 (.b2str (.tmp 4)),
 oo 6 (.mklit 1 [.tmp 5]),
 oo 7 (.call (.const (.func (.func 27) [] [])) [(.const (.int .i64 46)), .tmp 6]),
 ⟨none, .store 16 (.tmp 2) (.tmp 7), none⟩])
 .ret))⟩
def F11 : AFn := ⟨109, [.cell 2 true 39, .cell 3 false 1, .cell 4 false 1],
 (.seq (.ops [oo 2 (.alloc [.int .i64 0, .int .i64 0, .int .i64 0, .int .i64 0, .int .i64 0, .nilsl, .int .u8 0, .int .u8 0, .int .u8 0, .int .u8 0, .int .u8 0, .int .u8 0, .int .u8 0, .int .u8 0, .int .u8 0, .int .u8 0, .int .u8 0, .int .u8 0, .int .u8 0, .int .u8 0, .int .u8 0, .int .u8 0, .int .i64 0, .int .u8 0, .int .u8 0, .int .u8 0, .int .u8 0, .int .u8 0, .int .u8 0, .int .u8 0, .int .u8 0, .int .u8 0, .int .u8 0, .int .u8 0, .int .u8 0, .int .u8 0, .int .u8 0, .int .u8 0, .int .u8 0]),
 oo 3 (.alloc [.int .i64 0]),
 oo 4 (.alloc [.int .i64 0])])
 (.seq (.ops [oo 11 (.mkfn (.func 28) [] [.tmp 2, .tmp 3, .tmp 4]),
 ⟨none, .deferc (.tmp 11) [], none⟩])
 (.seq (.ops [om 12 0,
 oo 13 (.build [.nilsl, .int .i64 0] [(0, 1, (.tmp 12))]),
 oo 14 (.box (.tmp 13)),
 om 5 14])
 (.seq (.ops [om 15 5,
 oo 16 (.call (.const (.func (.func 29) [] [])) [.tmp 15, (.const (.int .i64 7))]),
 om 6 16])
 (.seq (.draw [om 17 6,
 oo 18 (.iadr none 1 (.tmp 17) (.const (.int .i64 0))),
 oo 19 (.load false 1 (.tmp 18)),
 om 20 6,
 oo 21 (.iadr none 1 (.tmp 20) (.const (.int .i64 1))),
 oo 22 (.load false 1 (.tmp 21)),
 om 23 6,
 oo 24 (.iadr none 1 (.tmp 23) (.const (.int .i64 2))),
 oo 25 (.load false 1 (.tmp 24)),
 om 26 6,
 oo 27 (.iadr none 1 (.tmp 26) (.const (.int .i64 3))),
 oo 28 (.load false 1 (.tmp 27)),
 om 29 6,
 oo 30 (.iadr none 1 (.tmp 29) (.const (.int .i64 4))),
 oo 31 (.load false 1 (.tmp 30)),
 om 32 6,
 oo 33 (.iadr none 1 (.tmp 32) (.const (.int .i64 5))),
 oo 34 (.load false 1 (.tmp 33)),
 oo 35 (.build [.int .i64 0, .int .i64 0, .int .i64 0, .int .i64 0, .int .i64 0, .nilsl, .int .u8 0, .int .u8 0, .int .u8 0, .int .u8 0, .int .u8 0, .int .u8 0, .int .u8 0, .int .u8 0, .int .u8 0, .int .u8 0, .int .u8 0, .int .u8 0, .int .u8 0, .int .u8 0, .int .u8 0, .int .u8 0, .int .i64 0, .int .u8 0, .int .u8 0, .int .u8 0, .int .u8 0, .int .u8 0, .int .u8 0, .int .u8 0, .int .u8 0, .int .u8 0, .int .u8 0, .int .u8 0, .int .u8 0, .int .u8 0, .int .u8 0, .int .u8 0, .int .u8 0] [(0, 1, (.tmp 19)), (1, 1, (.tmp 22)), (2, 1, (.tmp 25)), (3, 1, (.tmp 28)), (4, 1, (.tmp 31)), (22, 1, (.tmp 34))]),
 ⟨none, .store 39 (.tmp 2) (.tmp 35), none⟩] [])
 (.seq (.seq (.ops [om 36 6,
 oo 37 (.iadr none 1 (.tmp 36) (.const (.int .i64 6))),
 oo 38 (.load false 1 (.tmp 37)),
 oo 39 (.bin .lss (.tmp 38) (.const (.int .i64 0)))])
 (.cond (.tmp 39) (.ops [oo 40 (.mkif 25 (.const (.int .i64 11))),
 ⟨none, .panic (.tmp 40), none⟩])
 .skip))
 (.seq (.seq (.ops [om 41 6,
 oo 42 (.iadr none 1 (.tmp 41) (.const (.int .i64 6))),
 oo 43 (.load false 1 (.tmp 42)),
 oo 44 (.mov (.const (.int .i64 0)))])
 (.block 0 (.loop (.seq (.ops [oo 45 (.bin .lss (.tmp 44) (.tmp 43))])
 (.seq (.cond (.tmp 45) .skip
 (.exit 0))
 (.seq (.block 1 (.seq (.ops [om 46 5,
 oo 47 (.call (.const (.func (.func 29) [] [])) [.tmp 46, (.const (.int .i64 14))]),
 om 7 47])
 (.draw [oo 48 (.fadr 5 (.tmp 2)),
 oo 49 (.load false 1 (.tmp 48)),
 om 50 7,
 oo 51 (.iadr none 1 (.tmp 50) (.const (.int .i64 0))),
 oo 52 (.load false 1 (.tmp 51)),
 om 53 7,
 oo 54 (.slsl 1 (.tmp 53) (some (.const (.int .i64 1))) (some (.const (.int .i64 4))) none),
 oo 55 (.s2ap 3 (.tmp 54)),
 oo 56 (.load true 3 (.tmp 55)),
 om 57 7,
 oo 58 (.slsl 1 (.tmp 57) (some (.const (.int .i64 4))) (some (.const (.int .i64 8))) none),
 oo 59 (.s2ap 4 (.tmp 58)),
 oo 60 (.load true 4 (.tmp 59)),
 oo 61 (.build [.int .i64 0, .int .i64 0, .int .i64 0, .int .i64 0, .int .i64 0, .int .i64 0, .int .i64 0] [(0, 3, (.tmp 56)), (3, 4, (.tmp 60))]),
 om 62 7,
 oo 63 (.slsl 1 (.tmp 62) (some (.const (.int .i64 8))) (some (.const (.int .i64 11))) none),
 oo 64 (.s2ap 3 (.tmp 63)),
 oo 65 (.load true 3 (.tmp 64)),
 om 66 7,
 oo 67 (.slsl 1 (.tmp 66) (some (.const (.int .i64 11))) (some (.const (.int .i64 14))) none),
 oo 68 (.s2ap 3 (.tmp 67)),
 oo 69 (.load true 3 (.tmp 68)),
 oo 70 (.build [.int .i64 0, .int .i64 0, .int .i64 0, .int .i64 0, .int .i64 0, .int .i64 0, .int .i64 0, .int .i64 0, .int .i64 0, .int .i64 0, .int .i64 0, .int .i64 0, .int .i64 0, .int .i64 0] [(0, 1, (.tmp 52)), (1, 7, (.tmp 61)), (8, 3, (.tmp 65)), (11, 3, (.tmp 69))]),
 oo 71 (.mklit 14 [.tmp 70]),
 oo 72 (.append 14 112 false (.tmp 49) (.tmp 71)),
 oo 73 (.fadr 5 (.tmp 2)),
 ⟨none, .store 1 (.tmp 73) (.tmp 72), none⟩] [])))
 (.ops [oo 74 (.bin .add (.tmp 44) (.const (.int .i64 1))),
 om 44 74])))))))
 (.seq (.ops [om 76 0,
 om 77 5,
 oo 78 (.nilck (.tmp 77)),
 oo 79 (.fadr 1 (.tmp 78)),
 oo 80 (.load false 1 (.tmp 79)),
 oo 81 (.slsl 1 (.tmp 76) (some (.tmp 80)) none none),
 oo 82 (.call (.const (.func (.func 30) [] [])) [.tmp 81]),
 om 75 82,
 oo 83 (.extr (.tmp 75) 0),
 oo 84 (.extr (.tmp 75) 1),
 oo 85 (.extr (.tmp 75) 2),
 om 8 83,
 om 9 84,
 om 10 85])
 (.seq (.seq (.ops [om 86 10,
 oo 87 (.bin .neq (.tmp 86) (.const (.int .i64 0))),
 om 88 87,
 ⟨some 89, .mov (.tmp 8), some (88, false)⟩,
 ⟨some 90, .lenl (.tmp 89), some (88, false)⟩,
 ⟨some 91, .bin .neq (.tmp 90) (.const (.int .i64 2)), some (88, false)⟩,
 oo 92 (.pick (.tmp 88) (.const (.bool true)) (.tmp 91))])
 (.cond (.tmp 92) (.ops [oo 93 (.mkif 25 (.const (.int .i64 11))),
 ⟨none, .panic (.tmp 93), none⟩])
 .skip))
 (.seq (.draw [om 94 8,
 oo 95 (.iadr none 16 (.tmp 94) (.const (.int .i64 0))),
 oo 96 (.load true 16 (.tmp 95)),
 om 97 8,
 oo 98 (.iadr none 16 (.tmp 97) (.const (.int .i64 1))),
 oo 99 (.load true 16 (.tmp 98)),
 oo 100 (.fadr 6 (.tmp 2)),
 ⟨none, .store 16 (.tmp 100) (.tmp 96), none⟩,
 oo 101 (.fadr 23 (.tmp 2)),
 ⟨none, .store 16 (.tmp 101) (.tmp 99), none⟩] [(5, 7)])
 (.seq (.draw [oo 102 (.load true 39 (.tmp 2)),
 om 103 5,
 oo 104 (.nilck (.tmp 103)),
 oo 105 (.fadr 1 (.tmp 104)),
 oo 106 (.load false 1 (.tmp 105)),
 om 107 9,
 oo 108 (.bin .add (.tmp 106) (.tmp 107)),
 ⟨none, .store 39 (.tmp 2) (.tmp 102), none⟩,
 ⟨none, .store 1 (.tmp 3) (.tmp 108), none⟩,
 ⟨none, .store 1 (.tmp 4) (.const (.int .i64 0)), none⟩] [(4, 7)])
 .ret)))))))))))⟩
def F12 : AFn := ⟨125, [.cell 2 true 41],
 (.seq (.ops [oo 2 (.alloc [.int .i64 0, .int .i64 0, .int .i64 0, .int .i64 0, .int .i64 0, .nilsl, .int .u8 0, .int .u8 0, .int .u8 0, .int .u8 0, .int .u8 0, .int .u8 0, .int .u8 0, .int .u8 0, .int .u8 0, .int .u8 0, .int .u8 0, .int .u8 0, .int .u8 0, .int .u8 0, .int .u8 0, .int .u8 0, .int .i64 0, .int .u8 0, .int .u8 0, .int .u8 0, .int .u8 0, .int .u8 0, .int .u8 0, .int .u8 0, .int .u8 0, .int .u8 0, .int .u8 0, .int .u8 0, .int .u8 0, .int .u8 0, .int .u8 0, .int .u8 0, .int .u8 0, .int .i64 0, .int .i64 0])])
 (.seq (.ops [oo 15 (.build [.int .i64 0, .int .i64 0, .int .i64 0, .int .i64 0, .int .i64 0, .nilsl, .int .u8 0, .int .u8 0, .int .u8 0, .int .u8 0, .int .u8 0, .int .u8 0, .int .u8 0, .int .u8 0, .int .u8 0, .int .u8 0, .int .u8 0, .int .u8 0, .int .u8 0, .int .u8 0, .int .u8 0, .int .u8 0, .int .i64 0, .int .u8 0, .int .u8 0, .int .u8 0, .int .u8 0, .int .u8 0, .int .u8 0, .int .u8 0, .int .u8 0, .int .u8 0, .int .u8 0, .int .u8 0, .int .u8 0, .int .u8 0, .int .u8 0, .int .u8 0, .int .u8 0, .int .i64 0, .int .i64 0] [(40, 1, (.const (.int .i64 11)))]),
 oo 3 (.alloc [.int .i64 0, .int .i64 0, .int .i64 0, .int .i64 0, .int .i64 0, .nilsl, .int .u8 0, .int .u8 0, .int .u8 0, .int .u8 0, .int .u8 0, .int .u8 0, .int .u8 0, .int .u8 0, .int .u8 0, .int .u8 0, .int .u8 0, .int .u8 0, .int .u8 0, .int .u8 0, .int .u8 0, .int .u8 0, .int .i64 0, .int .u8 0, .int .u8 0, .int .u8 0, .int .u8 0, .int .u8 0, .int .u8 0, .int .u8 0, .int .u8 0, .int .u8 0, .int .u8 0, .int .u8 0, .int .u8 0, .int .u8 0, .int .u8 0, .int .u8 0, .int .u8 0, .int .i64 0, .int .i64 0]),
 ⟨none, .store 41 (.tmp 3) (.tmp 15), none⟩])
 (.seq (.ops [om 17 0,
 oo 18 (.call (.const (.func (.func 31) [] [])) [.tmp 17]),
 om 16 18,
 oo 19 (.extr (.tmp 16) 0),
 oo 20 (.extr (.tmp 16) 1),
 oo 21 (.extr (.tmp 16) 2),
 om 4 19,
 om 5 20,
 om 6 21])
 (.seq (.seq (.ops [om 22 6,
 oo 23 (.bin .neq (.tmp 22) (.const (.int .i64 0))),
 om 24 23,
 ⟨some 25, .mov (.tmp 4), some (24, false)⟩,
 ⟨some 26, .lenl (.tmp 25), some (24, false)⟩,
 ⟨some 27, .bin .neq (.tmp 26) (.const (.int .i64 7)), some (24, false)⟩,
 oo 28 (.pick (.tmp 24) (.const (.bool true)) (.tmp 27)),
 om 29 28,
 ⟨some 30, .mov (.tmp 4), some (29, false)⟩,
 ⟨some 31, .iadr none 1 (.tmp 30) (.const (.int .i64 6)), some (29, false)⟩,
 ⟨some 32, .load false 1 (.tmp 31), some (29, false)⟩,
 ⟨some 33, .bin .lss (.tmp 32) (.const (.int .i64 0)), some (29, false)⟩,
 oo 34 (.pick (.tmp 29) (.const (.bool true)) (.tmp 33)),
 om 35 34,
 ⟨some 36, .mov (.tmp 4), some (35, false)⟩,
 ⟨some 37, .iadr none 1 (.tmp 36) (.const (.int .i64 6)), some (35, false)⟩,
 ⟨some 38, .load false 1 (.tmp 37), some (35, false)⟩,
 ⟨some 39, .mov (.tmp 0), some (35, false)⟩,
 ⟨some 40, .lenl (.tmp 39), some (35, false)⟩,
 ⟨some 41, .bin .gtr (.tmp 38) (.tmp 40), some (35, false)⟩,
 oo 42 (.pick (.tmp 35) (.const (.bool true)) (.tmp 41))])
 (.cond (.tmp 42) (.seq (.ops [oo 43 (.load true 41 (.tmp 3)),
 ⟨none, .store 41 (.tmp 2) (.tmp 43), none⟩])
 .ret)
 .skip))
 (.seq (.draw [om 44 4,
 oo 45 (.iadr none 1 (.tmp 44) (.const (.int .i64 0))),
 oo 46 (.load false 1 (.tmp 45)),
 om 47 4,
 oo 48 (.iadr none 1 (.tmp 47) (.const (.int .i64 1))),
 oo 49 (.load false 1 (.tmp 48)),
 om 50 4,
 oo 51 (.iadr none 1 (.tmp 50) (.const (.int .i64 2))),
 oo 52 (.load false 1 (.tmp 51)),
 om 53 4,
 oo 54 (.iadr none 1 (.tmp 53) (.const (.int .i64 3))),
 oo 55 (.load false 1 (.tmp 54)),
 om 56 4,
 oo 57 (.iadr none 1 (.tmp 56) (.const (.int .i64 4))),
 oo 58 (.load false 1 (.tmp 57)),
 om 59 4,
 oo 60 (.iadr none 1 (.tmp 59) (.const (.int .i64 5))),
 oo 61 (.load false 1 (.tmp 60)),
 oo 62 (.build [.int .i64 0, .int .i64 0, .int .i64 0, .int .i64 0, .int .i64 0, .nilsl, .int .u8 0, .int .u8 0, .int .u8 0, .int .u8 0, .int .u8 0, .int .u8 0, .int .u8 0, .int .u8 0, .int .u8 0, .int .u8 0, .int .u8 0, .int .u8 0, .int .u8 0, .int .u8 0, .int .u8 0, .int .u8 0, .int .i64 0, .int .u8 0, .int .u8 0, .int .u8 0, .int .u8 0, .int .u8 0, .int .u8 0, .int .u8 0, .int .u8 0, .int .u8 0, .int .u8 0, .int .u8 0, .int .u8 0, .int .u8 0, .int .u8 0, .int .u8 0, .int .u8 0] [(0, 1, (.tmp 46)), (1, 1, (.tmp 49)), (2, 1, (.tmp 52)), (3, 1, (.tmp 55)), (4, 1, (.tmp 58)), (22, 1, (.tmp 61))]),
 oo 7 (.alloc [.int .i64 0, .int .i64 0, .int .i64 0, .int .i64 0, .int .i64 0, .nilsl, .int .u8 0, .int .u8 0, .int .u8 0, .int .u8 0, .int .u8 0, .int .u8 0, .int .u8 0, .int .u8 0, .int .u8 0, .int .u8 0, .int .u8 0, .int .u8 0, .int .u8 0, .int .u8 0, .int .u8 0, .int .u8 0, .int .i64 0, .int .u8 0, .int .u8 0, .int .u8 0, .int .u8 0, .int .u8 0, .int .u8 0, .int .u8 0, .int .u8 0, .int .u8 0, .int .u8 0, .int .u8 0, .int .u8 0, .int .u8 0, .int .u8 0, .int .u8 0, .int .u8 0]),
 ⟨none, .store 39 (.tmp 7) (.tmp 62), none⟩] [])
 (.seq (.seq (.ops [oo 8 (.mov (.const (.int .i64 0)))])
 (.block 0 (.loop (.seq (.seq (.ops [om 63 8,
 om 64 4,
 oo 65 (.iadr none 1 (.tmp 64) (.const (.int .i64 6))),
 oo 66 (.load false 1 (.tmp 65)),
 oo 67 (.bin .lss (.tmp 63) (.tmp 66))])
 (.cond (.tmp 67) .skip
 (.exit 0)))
 (.seq (.block 1 (.seq (.ops [om 71 0,
 om 72 5,
 oo 73 (.slsl 1 (.tmp 71) (some (.tmp 72)) none none),
 oo 74 (.call (.const (.func (.func 31) [] [])) [.tmp 73]),
 om 70 74,
 oo 75 (.extr (.tmp 70) 0),
 oo 76 (.extr (.tmp 70) 1),
 oo 77 (.extr (.tmp 70) 2),
 om 9 75,
 om 10 76,
 om 11 77])
 (.seq (.seq (.ops [om 78 11,
 oo 79 (.bin .neq (.tmp 78) (.const (.int .i64 0))),
 om 80 79,
 ⟨some 81, .mov (.tmp 9), some (80, false)⟩,
 ⟨some 82, .lenl (.tmp 81), some (80, false)⟩,
 ⟨some 83, .bin .neq (.tmp 82) (.const (.int .i64 14)), some (80, false)⟩,
 oo 84 (.pick (.tmp 80) (.const (.bool true)) (.tmp 83))])
 (.cond (.tmp 84) (.seq (.ops [oo 85 (.load true 41 (.tmp 3)),
 ⟨none, .store 41 (.tmp 2) (.tmp 85), none⟩])
 .ret)
 .skip))
 (.seq (.draw [oo 86 (.fadr 5 (.tmp 7)),
 oo 87 (.load false 1 (.tmp 86)),
 om 88 9,
 oo 89 (.call (.const (.func (.func 32) [] [])) [.tmp 88]),
 oo 90 (.mklit 14 [.tmp 89]),
 oo 91 (.append 14 112 false (.tmp 87) (.tmp 90)),
 oo 92 (.fadr 5 (.tmp 7)),
 ⟨none, .store 1 (.tmp 92) (.tmp 91), none⟩] [(1, 3)])
 (.ops [om 93 5,
 om 94 10,
 oo 95 (.bin .add (.tmp 93) (.tmp 94)),
 om 5 95])))))
 (.ops [om 68 8,
 oo 69 (.bin .add (.tmp 68) (.const (.int .i64 1))),
 om 8 69]))))))
 (.seq (.ops [om 97 0,
 om 98 5,
 oo 99 (.slsl 1 (.tmp 97) (some (.tmp 98)) none none),
 oo 100 (.call (.const (.func (.func 33) [] [])) [.tmp 99]),
 om 96 100,
 oo 101 (.extr (.tmp 96) 0),
 oo 102 (.extr (.tmp 96) 1),
 oo 103 (.extr (.tmp 96) 2),
 om 12 101,
 om 13 102,
 om 14 103])
 (.seq (.seq (.ops [om 104 14,
 oo 105 (.bin .neq (.tmp 104) (.const (.int .i64 0))),
 om 106 105,
 ⟨some 107, .mov (.tmp 12), some (106, false)⟩,
 ⟨some 108, .lenl (.tmp 107), some (106, false)⟩,
 ⟨some 109, .bin .neq (.tmp 108) (.const (.int .i64 2)), some (106, false)⟩,
 oo 110 (.pick (.tmp 106) (.const (.bool true)) (.tmp 109))])
 (.cond (.tmp 110) (.seq (.ops [oo 111 (.load true 41 (.tmp 3)),
 ⟨none, .store 41 (.tmp 2) (.tmp 111), none⟩])
 .ret)
 .skip))
 (.seq (.ops [om 112 12,
 oo 113 (.iadr none 16 (.tmp 112) (.const (.int .i64 0))),
 oo 114 (.load true 16 (.tmp 113)),
 oo 115 (.fadr 6 (.tmp 7)),
 ⟨none, .store 16 (.tmp 115) (.tmp 114), none⟩])
 (.seq (.ops [om 116 12,
 oo 117 (.iadr none 16 (.tmp 116) (.const (.int .i64 1))),
 oo 118 (.load true 16 (.tmp 117)),
 oo 119 (.fadr 23 (.tmp 7)),
 ⟨none, .store 16 (.tmp 119) (.tmp 118), none⟩])
 (.seq (.ops [oo 120 (.load true 39 (.tmp 7)),
 om 121 5,
 om 122 13,
 oo 123 (.bin .add (.tmp 121) (.tmp 122)),
 oo 124 (.build [.int .i64 0, .int .i64 0, .int .i64 0, .int .i64 0, .int .i64 0, .nilsl, .int .u8 0, .int .u8 0, .int .u8 0, .int .u8 0, .int .u8 0, .int .u8 0, .int .u8 0, .int .u8 0, .int .u8 0, .int .u8 0, .int .u8 0, .int .u8 0, .int .u8 0, .int .u8 0, .int .u8 0, .int .u8 0, .int .i64 0, .int .u8 0, .int .u8 0, .int .u8 0, .int .u8 0, .int .u8 0, .int .u8 0, .int .u8 0, .int .u8 0, .int .u8 0, .int .u8 0, .int .u8 0, .int .u8 0, .int .u8 0, .int .u8 0, .int .u8 0, .int .u8 0, .int .i64 0, .int .i64 0] [(0, 39, (.tmp 120)), (39, 1, (.tmp 123))]),
 ⟨none, .store 41 (.tmp 2) (.tmp 124), none⟩])
 .ret)))))))))))⟩
def F13 : AFn := ⟨10, [.tmp 4],
 (.seq (.ops [oo 2 (.box (.tmp 0)),
 oo 3 (.box (.tmp 1)),
 oo 4 (.mov (.const (.bool false)))])
 (.seq (.draw [oo 5 (.load true 39 (.tmp 2)),
 oo 6 (.call (.const (.func (.func 8) [] [])) [.tmp 5]),
 oo 7 (.load true 39 (.tmp 3)),
 oo 8 (.call (.const (.func (.func 8) [] [])) [.tmp 7]),
 oo 9 (.call (.const (.func (.func 7) [] [])) [.tmp 6, .tmp 8]),
 om 4 9] [(2, 1)])
 .ret))⟩
def F14 : AFn := ⟨13, [.cell 6 true 7],
 (.seq (.ops [oo 6 (.alloc [.int .i64 0, .int .i64 0, .int .i64 0, .int .i64 0, .int .i64 0, .int .i64 0, .int .i64 0])])
 (.seq (.ops [om 7 0,
 om 8 1,
 om 9 2,
 oo 10 (.build [.int .i64 0, .int .i64 0, .int .i64 0] [(0, 1, (.tmp 7)), (1, 1, (.tmp 8)), (2, 1, (.tmp 9))]),
 oo 11 (.build [.int .i64 0, .int .i64 0, .int .i64 0, .int .i64 0] [(0, 1, (.const (.int .i64 1))), (1, 1, (.const (.int .i64 0))), (2, 1, (.const (.int .i64 0))), (3, 1, (.const (.int .i64 0)))]),
 oo 12 (.build [.int .i64 0, .int .i64 0, .int .i64 0, .int .i64 0, .int .i64 0, .int .i64 0, .int .i64 0] [(0, 3, (.tmp 10)), (3, 4, (.tmp 11))]),
 ⟨none, .store 7 (.tmp 6) (.tmp 12), none⟩])
 .ret))⟩
def F15 : AFn := ⟨11, [.cell 4 true 39],
 (.seq (.ops [oo 4 (.alloc [.int .i64 0, .int .i64 0, .int .i64 0, .int .i64 0, .int .i64 0, .nilsl, .int .u8 0, .int .u8 0, .int .u8 0, .int .u8 0, .int .u8 0, .int .u8 0, .int .u8 0, .int .u8 0, .int .u8 0, .int .u8 0, .int .u8 0, .int .u8 0, .int .u8 0, .int .u8 0, .int .u8 0, .int .u8 0, .int .i64 0, .int .u8 0, .int .u8 0, .int .u8 0, .int .u8 0, .int .u8 0, .int .u8 0, .int .u8 0, .int .u8 0, .int .u8 0, .int .u8 0, .int .u8 0, .int .u8 0, .int .u8 0, .int .u8 0, .int .u8 0, .int .u8 0])])
 (.seq (.ops [om 5 0,
 om 6 1,
 oo 7 (.call (.const (.func (.func 14) [] [])) [(.const (.int .i64 0)), (.const (.int .i64 0)), .tmp 6]),
 oo 8 (.build [.int .i64 0, .int .i64 0, .int .i64 0, .int .i64 0, .int .i64 0, .int .i64 0, .int .i64 0, .int .i64 0, .int .i64 0, .int .i64 0, .int .i64 0, .int .i64 0, .int .i64 0, .int .i64 0] [(0, 1, (.const (.int .i64 1))), (1, 7, (.tmp 7))]),
 oo 9 (.mklit 14 [.tmp 8]),
 oo 10 (.build [.int .i64 0, .int .i64 0, .int .i64 0, .int .i64 0, .int .i64 0, .nilsl, .int .u8 0, .int .u8 0, .int .u8 0, .int .u8 0, .int .u8 0, .int .u8 0, .int .u8 0, .int .u8 0, .int .u8 0, .int .u8 0, .int .u8 0, .int .u8 0, .int .u8 0, .int .u8 0, .int .u8 0, .int .u8 0, .int .i64 0, .int .u8 0, .int .u8 0, .int .u8 0, .int .u8 0, .int .u8 0, .int .u8 0, .int .u8 0, .int .u8 0, .int .u8 0, .int .u8 0, .int .u8 0, .int .u8 0, .int .u8 0, .int .u8 0, .int .u8 0, .int .u8 0] [(1, 1, (.const (.int .i64 2))), (4, 1, (.tmp 5)), (5, 1, (.tmp 9))]),
 ⟨none, .store 39 (.tmp 4) (.tmp 10), none⟩])
 .ret))⟩
def F16 : AFn := ⟨58, [.cell 8 true 6, .tmp 9],
 (.seq (.ops [oo 4 (.box (.tmp 0)),
 oo 6 (.box (.tmp 2)),
 oo 7 (.box (.tmp 3)),
 oo 8 (.alloc [.nilsl, .nilsl, .nilsl, .nilsl, .nilsl, .nilsl]),
 oo 9 (.mov (.const (.int .i64 0)))])
 (.seq (.seq (.ops [oo 14 (.fadr 2 (.tmp 7)),
 oo 15 (.load false 1 (.tmp 14)),
 oo 16 (.bin .lss (.tmp 15) (.const (.int .i64 0))),
 om 17 16,
 ⟨some 18, .fadr 2 (.tmp 7), some (17, false)⟩,
 ⟨some 19, .load false 1 (.tmp 18), some (17, false)⟩,
 ⟨some 20, .mov (.tmp 1), some (17, false)⟩,
 ⟨some 21, .lenl (.tmp 20), some (17, false)⟩,
 ⟨some 22, .bin .geq (.tmp 19) (.tmp 21), some (17, false)⟩,
 oo 23 (.pick (.tmp 17) (.const (.bool true)) (.tmp 22))])
 (.cond (.tmp 23) (.seq (.ops [oo 24 (.load true 6 (.tmp 6)),
 ⟨none, .store 6 (.tmp 8) (.tmp 24), none⟩,
 oo 9 (.mov (.const (.int .i64 1)))])
 .ret)
 .skip))
 (.seq (.ops [om 25 1,
 oo 26 (.fadr 2 (.tmp 7)),
 oo 27 (.load false 1 (.tmp 26)),
 oo 28 (.iadr none 3 (.tmp 25) (.tmp 27)),
 oo 29 (.load true 3 (.tmp 28)),
 oo 10 (.alloc [.int .i64 0, .int .i64 0, .nilsl]),
 ⟨none, .store 3 (.tmp 10) (.tmp 29), none⟩])
 (.seq (.seq (.ops [oo 30 (.load true 6 (.tmp 4)),
 oo 31 (.load true 3 (.tmp 10)),
 oo 32 (.call (.const (.func (.func 34) [] [])) [.tmp 30, .tmp 31]),
 om 11 32])
 (.seq (.ops [om 33 11,
 oo 34 (.bin .neq (.tmp 33) (.const (.int .i64 0)))])
 (.cond (.tmp 34) (.seq (.ops [oo 35 (.load true 6 (.tmp 6)),
 om 36 11,
 ⟨none, .store 6 (.tmp 8) (.tmp 35), none⟩,
 om 9 36])
 .ret)
 .skip)))
 (.seq (.ops [oo 38 (.fadr 1 (.tmp 7)),
 oo 39 (.load false 1 (.tmp 38)),
 oo 40 (.call (.const (.func (.func 35) [] [])) [.tmp 39]),
 om 37 40,
 oo 41 (.extr (.tmp 37) 0),
 oo 42 (.extr (.tmp 37) 1),
 om 12 41,
 om 13 42])
 (.seq (.seq (.ops [om 43 13,
 oo 44 (.fadr 0 (.tmp 10)),
 oo 45 (.load false 1 (.tmp 44)),
 oo 46 (.call (.const (.func (.func 36) [] [])) [.tmp 43, .tmp 45]),
 oo 47 (.un .not (.tmp 46))])
 (.cond (.tmp 47) (.seq (.ops [oo 48 (.load true 6 (.tmp 6)),
 ⟨none, .store 6 (.tmp 8) (.tmp 48), none⟩,
 oo 9 (.mov (.const (.int .i64 7)))])
 .ret)
 .skip))
 (.seq (.ops [om 49 12,
 oo 50 (.load true 6 (.tmp 4)),
 oo 51 (.load true 3 (.tmp 10)),
 oo 52 (.load true 39 (.tmp 7)),
 oo 53 (.load true 6 (.tmp 6)),
 oo 54 (.build [.int .i64 0, .int .i64 0, .int .i64 0, .nilsl, .nilsl, .nilsl, .int .i64 0, .int .i64 0, .nilsl, .int .i64 0, .int .i64 0, .int .i64 0, .int .i64 0, .int .i64 0, .nilsl, .int .u8 0, .int .u8 0, .int .u8 0, .int .u8 0, .int .u8 0, .int .u8 0, .int .u8 0, .int .u8 0, .int .u8 0, .int .u8 0, .int .u8 0, .int .u8 0, .int .u8 0, .int .u8 0, .int .u8 0, .int .u8 0, .int .i64 0, .int .u8 0, .int .u8 0, .int .u8 0, .int .u8 0, .int .u8 0, .int .u8 0, .int .u8 0, .int .u8 0, .int .u8 0, .int .u8 0, .int .u8 0, .int .u8 0, .int .u8 0, .int .u8 0, .int .u8 0, .int .u8 0, .nilsl, .nilsl, .nilsl, .nilsl, .nilsl, .nilsl] [(0, 6, (.tmp 50)), (6, 3, (.tmp 51)), (9, 39, (.tmp 52)), (48, 6, (.tmp 53))]),
 oo 55 (.call (.tmp 49) [.tmp 54]),
 oo 56 (.extr (.tmp 55) 0),
 oo 57 (.extr (.tmp 55) 1),
 ⟨none, .store 6 (.tmp 8) (.tmp 56), none⟩,
 om 9 57])
 .ret)))))))⟩
def F17 : AFn := ⟨41, [.cell 2 true 6],
 (.seq (.ops [oo 1 (.box (.tmp 0)),
 oo 2 (.alloc [.nilsl, .nilsl, .nilsl, .nilsl, .nilsl, .nilsl])])
 (.seq (.ops [oo 7 (.fadr 3 (.tmp 1)),
 oo 8 (.load false 1 (.tmp 7)),
 oo 9 (.lenl (.tmp 8)),
 om 3 9])
 (.seq (.draw [om 10 3,
 oo 11 (.mkslice 1 1 [(.bool false)] (.tmp 10) (.tmp 10)),
 om 12 3,
 oo 13 (.mkslice 3 24 [.int .i64 0, .int .i64 0, .int .i64 0] (.tmp 12) (.tmp 12)),
 om 14 3,
 oo 15 (.mkslice 3 24 [.int .i64 0, .int .i64 0, .int .i64 0] (.tmp 14) (.tmp 14)),
 oo 16 (.fadr 4 (.tmp 1)),
 oo 17 (.load false 1 (.tmp 16)),
 oo 18 (.lenl (.tmp 17)),
 oo 19 (.mkslice 1 1 [(.bool false)] (.tmp 18) (.tmp 18)),
 oo 20 (.fadr 5 (.tmp 1)),
 oo 21 (.load false 1 (.tmp 20)),
 oo 22 (.lenl (.tmp 21)),
 oo 23 (.mkslice 1 1 [(.bool false)] (.tmp 22) (.tmp 22)),
 oo 24 (.build [.nilsl, .nilsl, .nilsl, .nilsl, .nilsl, .nilsl] [(0, 1, (.tmp 11)), (2, 1, (.tmp 13)), (3, 1, (.tmp 15)), (4, 1, (.tmp 19)), (5, 1, (.tmp 23))]),
 oo 4 (.alloc [.nilsl, .nilsl, .nilsl, .nilsl, .nilsl, .nilsl]),
 ⟨none, .store 6 (.tmp 4) (.tmp 24), none⟩] [])
 (.seq (.seq (.ops [oo 25 (.fadr 3 (.tmp 1)),
 oo 26 (.load false 1 (.tmp 25)),
 oo 27 (.lenl (.tmp 26)),
 oo 28 (.mov (.const (.int .i64 0)))])
 (.block 0 (.loop (.seq (.ops [oo 29 (.bin .lss (.tmp 28) (.tmp 27))])
 (.seq (.cond (.tmp 29) .skip
 (.exit 0))
 (.seq (.block 1 (.seq (.ops [oo 30 (.iadr none 14 (.tmp 26) (.tmp 28)),
 oo 31 (.load true 14 (.tmp 30)),
 oo 6 (.alloc [.int .i64 0, (.str []), .nilsl, .int .i64 0, .int .i64 0, .int .i64 0, .int .i64 0, .int .i64 0, .int .i64 0, .int .i64 0, .int .i64 0, .int .i64 0, .int .i64 0, .int .i64 0]),
 ⟨none, .store 14 (.tmp 6) (.tmp 31), none⟩])
 (.ops [oo 32 (.fadr 1 (.tmp 4)),
 oo 33 (.load false 1 (.tmp 32)),
 oo 34 (.fadr 7 (.tmp 6)),
 oo 35 (.load true 7 (.tmp 34)),
 oo 36 (.mklit 7 [.tmp 35]),
 oo 37 (.append 7 56 false (.tmp 33) (.tmp 36)),
 oo 38 (.fadr 1 (.tmp 4)),
 ⟨none, .store 1 (.tmp 38) (.tmp 37), none⟩])))
 (.ops [oo 39 (.bin .add (.tmp 28) (.const (.int .i64 1))),
 om 28 39])))))))
 (.seq (.ops [oo 40 (.load true 6 (.tmp 4)),
 ⟨none, .store 6 (.tmp 2) (.tmp 40), none⟩])
 .ret)))))⟩
def F18 : AFn := ⟨10, [.tmp 4],
 (.seq (.ops [oo 2 (.box (.tmp 0)),
 oo 3 (.box (.tmp 1)),
 oo 4 (.mov (.const (.bool false)))])
 (.seq (.draw [oo 5 (.load true 6 (.tmp 2)),
 oo 6 (.call (.const (.func (.func 37) [] [])) [.tmp 5]),
 oo 7 (.load true 6 (.tmp 3)),
 oo 8 (.call (.const (.func (.func 37) [] [])) [.tmp 7]),
 oo 9 (.call (.const (.func (.func 7) [] [])) [.tmp 6, .tmp 8]),
 om 4 9] [(2, 1)])
 .ret))⟩
def F19 : AFn := ⟨32, [.tmp 6],
 (.seq (.ops [oo 4 (.box (.tmp 1)),
 oo 6 (.mov (.const (.int .i64 0)))])
 (.seq (.seq (.ops [om 9 2,
 oo 10 (.lenl (.tmp 9)),
 oo 11 (.mov (.const (.int .i64 0)))])
 (.block 0 (.loop (.seq (.ops [oo 12 (.bin .lss (.tmp 11) (.tmp 10))])
 (.seq (.cond (.tmp 12) .skip
 (.exit 0))
 (.seq (.block 1 (.seq (.ops [om 13 11,
 oo 14 (.iadr none 39 (.tmp 9) (.tmp 11)),
 oo 15 (.load true 39 (.tmp 14)),
 oo 8 (.alloc [.int .i64 0, .int .i64 0, .int .i64 0, .int .i64 0, .int .i64 0, .nilsl, .int .u8 0, .int .u8 0, .int .u8 0, .int .u8 0, .int .u8 0, .int .u8 0, .int .u8 0, .int .u8 0, .int .u8 0, .int .u8 0, .int .u8 0, .int .u8 0, .int .u8 0, .int .u8 0, .int .u8 0, .int .u8 0, .int .i64 0, .int .u8 0, .int .u8 0, .int .u8 0, .int .u8 0, .int .u8 0, .int .u8 0, .int .u8 0, .int .u8 0, .int .u8 0, .int .u8 0, .int .u8 0, .int .u8 0, .int .u8 0, .int .u8 0, .int .u8 0, .int .u8 0]),
 om 7 13,
 ⟨none, .store 39 (.tmp 8) (.tmp 15), none⟩])
 (.seq (.seq (.ops [oo 16 (.fadr 0 (.tmp 8)),
 oo 17 (.load false 1 (.tmp 16)),
 om 18 0,
 om 19 7,
 oo 20 (.bin .add (.tmp 18) (.tmp 19)),
 oo 21 (.bin .neq (.tmp 17) (.tmp 20)),
 om 22 21,
 ⟨some 23, .fadr 23 (.tmp 8), some (22, false)⟩,
 ⟨some 24, .load true 16 (.tmp 23), some (22, false)⟩,
 ⟨some 25, .load true 16 (.tmp 4), some (22, false)⟩,
 ⟨some 26, .eqf true [.i, .i, .i, .i, .i, .i, .i, .i, .i, .i, .i, .i, .i, .i, .i, .i] (.tmp 24) (.tmp 25), some (22, false)⟩,
 oo 27 (.pick (.tmp 22) (.const (.bool true)) (.tmp 26))])
 (.cond (.tmp 27) (.seq (.ops [om 28 7,
 om 6 28])
 .ret)
 .skip))
 (.ops [oo 29 (.load true 39 (.tmp 8)),
 oo 30 (.call (.const (.func (.func 9) [] [])) [.tmp 29]),
 ⟨none, .store 16 (.tmp 4) (.tmp 30), none⟩]))))
 (.ops [oo 31 (.bin .add (.tmp 11) (.const (.int .i64 1))),
 om 11 31])))))))
 (.seq (.ops [oo 6 (.mov (.const (.int .i64 (-1))))])
 .ret)))⟩
def F20 : AFn := ⟨5, [.tmp 2],
 (.seq (.ops [oo 2 (.mov (.const .nilsl))])
 (.seq (.ops [om 3 0,
 oo 4 (.call (.const (.func (.func 38) [] [])) [.tmp 3, (.const (.func (.func 39) [] []))]),
 om 2 4])
 .ret))⟩
def F21 : AFn := ⟨36, [.tmp 2],
 (.seq (.ops [oo 2 (.mov (.const .nilsl))])
 (.seq (.ops [oo 3 (.mov (.const (.int .i64 0)))])
 (.seq (.seq (.ops [om 9 0,
 oo 10 (.lenl (.tmp 9)),
 oo 11 (.mov (.const (.int .i64 0)))])
 (.block 0 (.loop (.seq (.ops [oo 12 (.bin .lss (.tmp 11) (.tmp 10))])
 (.seq (.cond (.tmp 12) .skip
 (.exit 0))
 (.seq (.block 1 (.seq (.ops [oo 13 (.iadr none 1 (.tmp 9) (.tmp 11)),
 oo 14 (.load false 1 (.tmp 13)),
 om 5 14])
 (.seq (.ops [om 15 3,
 om 16 5,
 oo 17 (.lenl (.tmp 16)),
 oo 18 (.bin .add (.tmp 15) (.tmp 17)),
 om 3 18])
 (.seq (.ops [om 19 3,
 oo 20 (.bin .lss (.tmp 19) (.const (.int .i64 0)))])
 (.cond (.tmp 20) (.ops [oo 21 (.mkif 9 (.const (.str [108, 101, 110, 32, 111, 117, 116, 32, 111, 102, 32, 114, 97, 110, 103, 101]))),
 ⟨none, .panic (.tmp 21), none⟩])
 .skip)))))
 (.ops [oo 22 (.bin .add (.tmp 11) (.const (.int .i64 1))),
 om 11 22])))))))
 (.seq (.ops [om 23 3,
 oo 24 (.call (.const (.func (.func 40) [] [])) [(.const .nilsl), .tmp 23]),
 om 6 24])
 (.seq (.seq (.ops [om 25 0,
 oo 26 (.lenl (.tmp 25)),
 oo 27 (.mov (.const (.int .i64 0)))])
 (.block 2 (.loop (.seq (.ops [oo 28 (.bin .lss (.tmp 27) (.tmp 26))])
 (.seq (.cond (.tmp 28) .skip
 (.exit 2))
 (.seq (.block 3 (.seq (.ops [oo 29 (.iadr none 1 (.tmp 25) (.tmp 27)),
 oo 30 (.load false 1 (.tmp 29)),
 om 8 30])
 (.ops [om 31 6,
 om 32 8,
 oo 33 (.append 1 8 false (.tmp 31) (.tmp 32)),
 om 6 33])))
 (.ops [oo 34 (.bin .add (.tmp 27) (.const (.int .i64 1))),
 om 27 34])))))))
 (.seq (.ops [om 35 6,
 om 2 35])
 .ret))))))⟩
def F22 : AFn := ⟨5, [.tmp 2],
 (.seq (.ops [oo 2 (.mov (.const .nilsl))])
 (.seq (.ops [om 3 0,
 oo 4 (.call (.const (.func (.func 41) [] [])) [.tmp 3, (.const (.func (.func 42) [] []))]),
 om 2 4])
 .ret))⟩
def F23 : AFn := ⟨22, [.tmp 2],
 (.seq (.ops [oo 2 (.mov (.const .nilsl))])
 (.seq (.ops [om 5 0,
 oo 6 (.lenl (.tmp 5)),
 oo 7 (.call (.const (.func (.func 43) [] [])) [.tmp 6]),
 om 3 7])
 (.seq (.seq (.ops [oo 4 (.mov (.const (.int .i64 0)))])
 (.block 0 (.loop (.seq (.seq (.ops [om 8 4,
 om 9 0,
 oo 10 (.lenl (.tmp 9)),
 oo 11 (.bin .lss (.tmp 8) (.tmp 10))])
 (.cond (.tmp 11) .skip
 (.exit 0)))
 (.seq (.block 1 (.ops [om 14 3,
 om 15 0,
 om 16 4,
 oo 17 (.iadr none 1 (.tmp 15) (.tmp 16)),
 oo 18 (.load false 1 (.tmp 17)),
 oo 19 (.call (.const (.func (.func 43) [] [])) [.tmp 18]),
 oo 20 (.append 1 1 false (.tmp 14) (.tmp 19)),
 om 3 20]))
 (.ops [om 12 4,
 oo 13 (.bin .add (.tmp 12) (.const (.int .i64 1))),
 om 4 13]))))))
 (.seq (.ops [om 21 3,
 om 2 21])
 .ret))))⟩
def F24 : AFn := ⟨25, [.tmp 2],
 (.seq (.ops [oo 1 (.box (.tmp 0)),
 oo 2 (.mov (.const .nilsl))])
 (.seq (.ops [oo 4 (.fadr 0 (.tmp 1)),
 oo 5 (.load false 1 (.tmp 4)),
 oo 6 (.mklit 1 [.tmp 5]),
 om 3 6])
 (.seq (.ops [om 7 3,
 oo 8 (.fadr 1 (.tmp 1)),
 oo 9 (.fadr 0 (.tmp 8)),
 oo 10 (.slarr 3 1 (.tmp 9) none none none),
 oo 11 (.append 1 8 false (.tmp 7) (.tmp 10)),
 om 3 11])
 (.seq (.ops [om 12 3,
 oo 13 (.fadr 1 (.tmp 1)),
 oo 14 (.fadr 3 (.tmp 13)),
 oo 15 (.slarr 4 1 (.tmp 14) none none none),
 oo 16 (.append 1 8 false (.tmp 12) (.tmp 15)),
 om 3 16])
 (.seq (.ops [om 17 3,
 oo 18 (.fadr 8 (.tmp 1)),
 oo 19 (.slarr 3 1 (.tmp 18) none none none),
 oo 20 (.append 1 8 false (.tmp 17) (.tmp 19)),
 om 3 20])
 (.seq (.ops [om 21 3,
 oo 22 (.fadr 11 (.tmp 1)),
 oo 23 (.slarr 3 1 (.tmp 22) none none none),
 oo 24 (.append 1 8 false (.tmp 21) (.tmp 23)),
 om 2 24])
 .ret))))))⟩
def F25 : AFn := ⟨21, [.tmp 2],
 (.seq (.ops [oo 2 (.mov (.const .nilsl))])
 (.seq (.ops [om 5 0,
 oo 6 (.lenl (.tmp 5)),
 oo 7 (.call (.const (.func (.func 43) [] [])) [.tmp 6]),
 om 3 7])
 (.seq (.seq (.ops [oo 4 (.mov (.const (.int .i64 0)))])
 (.block 0 (.loop (.seq (.seq (.ops [om 8 4,
 om 9 0,
 oo 10 (.lenl (.tmp 9)),
 oo 11 (.bin .lss (.tmp 8) (.tmp 10))])
 (.cond (.tmp 11) .skip
 (.exit 0)))
 (.seq (.block 1 (.ops [om 14 3,
 om 15 0,
 om 16 4,
 oo 17 (.iadr none 16 (.tmp 15) (.tmp 16)),
 oo 18 (.slarr 16 1 (.tmp 17) none none none),
 oo 19 (.append 1 1 false (.tmp 14) (.tmp 18)),
 om 3 19]))
 (.ops [om 12 4,
 oo 13 (.bin .add (.tmp 12) (.const (.int .i64 1))),
 om 4 13]))))))
 (.seq (.ops [om 20 3,
 om 2 20])
 .ret))))⟩
def F26 : AFn := ⟨32, [.cell 4 true 16],
 (.seq (.ops [oo 4 (.alloc [.int .u8 0, .int .u8 0, .int .u8 0, .int .u8 0, .int .u8 0, .int .u8 0, .int .u8 0, .int .u8 0, .int .u8 0, .int .u8 0, .int .u8 0, .int .u8 0, .int .u8 0, .int .u8 0, .int .u8 0, .int .u8 0])])
 (.seq (.draw [oo 9 (.call (.const (.func (.func 44) [] [])) []),
 om 10 0,
 oo 11 (.convi .u8 (.tmp 10)),
 oo 12 (.mklit 1 [.tmp 11]),
 oo 13 (.b2str (.tmp 12)),
 oo 14 (.call (.const (.func (.func 45) [] [])) [.tmp 9, .tmp 13]),
 oo 5 (.alloc (List.replicate 8 (.int .u32 0) ++ List.replicate 64 (.int .u8 0) ++ [.int .u64 0])),
 ⟨none, .store 73 (.tmp 5) (.tmp 14), none⟩] [(4, 0), (6, 0), (6, 5)])
 (.seq (.seq (.ops [om 15 1,
 oo 16 (.lenl (.tmp 15)),
 oo 17 (.mov (.const (.int .i64 0)))])
 (.block 0 (.loop (.seq (.ops [oo 18 (.bin .lss (.tmp 17) (.tmp 16))])
 (.seq (.cond (.tmp 18) .skip
 (.exit 0))
 (.seq (.block 1 (.seq (.ops [oo 19 (.iadr none 1 (.tmp 15) (.tmp 17)),
 oo 20 (.load false 1 (.tmp 19)),
 om 7 20])
 (.draw [oo 21 (.load true 73 (.tmp 5)),
 om 22 7,
 oo 23 (.call (.const (.func (.func 46) [] [])) [.tmp 22]),
 oo 24 (.b2str (.tmp 23)),
 oo 25 (.call (.const (.func (.func 45) [] [])) [.tmp 21, .tmp 24]),
 ⟨none, .store 73 (.tmp 5) (.tmp 25), none⟩] [(0, 2)])))
 (.ops [oo 26 (.bin .add (.tmp 17) (.const (.int .i64 1))),
 om 17 26])))))))
 (.seq (.ops [oo 27 (.load true 73 (.tmp 5)),
 oo 28 (.call (.const (.func (.func 47) [] [])) [.tmp 27]),
 oo 8 (.alloc (List.replicate 32 (.int .u8 0))),
 ⟨none, .store 32 (.tmp 8) (.tmp 28), none⟩])
 (.seq (.ops [oo 29 (.slarr 32 1 (.tmp 8) none (some (.const (.int .i64 16))) none),
 oo 30 (.s2ap 16 (.tmp 29)),
 oo 31 (.load true 16 (.tmp 30)),
 ⟨none, .store 16 (.tmp 4) (.tmp 31), none⟩])
 .ret)))))⟩
def F27 : AFn := ⟨9, [.cell 4 true 16],
 (.seq (.ops [oo 4 (.alloc [.int .u8 0, .int .u8 0, .int .u8 0, .int .u8 0, .int .u8 0, .int .u8 0, .int .u8 0, .int .u8 0, .int .u8 0, .int .u8 0, .int .u8 0, .int .u8 0, .int .u8 0, .int .u8 0, .int .u8 0, .int .u8 0])])
 (.seq (.ops [om 5 0,
 om 6 1,
 oo 7 (.call (.const (.func (.func 49) [] [])) [.tmp 5, .tmp 6]),
 oo 8 (.call (.const (.func (.func 48) [] [])) [.tmp 7]),
 ⟨none, .store 16 (.tmp 4) (.tmp 8), none⟩])
 .ret))⟩
def F29 : AFn := ⟨40, [.tmp 4],
 (.seq (.ops [oo 4 (.mov (.const .nilsl))])
 (.seq (.draw [om 9 0,
 oo 10 (.nilck (.tmp 9)),
 oo 11 (.fadr 0 (.tmp 10)),
 oo 12 (.load false 1 (.tmp 11)),
 om 13 0,
 oo 14 (.nilck (.tmp 13)),
 oo 15 (.fadr 1 (.tmp 14)),
 oo 16 (.load false 1 (.tmp 15)),
 oo 17 (.slsl 1 (.tmp 12) (some (.tmp 16)) none none),
 oo 18 (.call (.const (.func (.func 50) [] [])) [.tmp 17]),
 om 8 18,
 oo 19 (.extr (.tmp 8) 0),
 oo 20 (.extr (.tmp 8) 1),
 oo 21 (.extr (.tmp 8) 2),
 om 5 19,
 om 6 20,
 om 7 21] [])
 (.seq (.seq (.ops [om 22 7,
 oo 23 (.bin .neq (.tmp 22) (.const (.int .i64 0))),
 om 24 23,
 ⟨some 25, .mov (.tmp 5), some (24, false)⟩,
 ⟨some 26, .lenl (.tmp 25), some (24, false)⟩,
 ⟨some 27, .mov (.tmp 1), some (24, false)⟩,
 ⟨some 28, .bin .neq (.tmp 26) (.tmp 27), some (24, false)⟩,
 oo 29 (.pick (.tmp 24) (.const (.bool true)) (.tmp 28))])
 (.cond (.tmp 29) (.ops [oo 30 (.mkif 25 (.const (.int .i64 11))),
 ⟨none, .panic (.tmp 30), none⟩])
 .skip))
 (.seq (.ops [om 31 0,
 oo 32 (.nilck (.tmp 31)),
 oo 33 (.fadr 1 (.tmp 32)),
 oo 34 (.load false 1 (.tmp 33)),
 om 35 6,
 oo 36 (.bin .add (.tmp 34) (.tmp 35)),
 oo 37 (.nilck (.tmp 31)),
 oo 38 (.fadr 1 (.tmp 37)),
 ⟨none, .store 1 (.tmp 38) (.tmp 36), none⟩])
 (.seq (.ops [om 39 5,
 om 4 39])
 .ret)))))⟩
def F30 : AFn := ⟨10, [.tmp 2, .tmp 3, .tmp 4],
 (.seq (.ops [oo 2 (.mov (.const .nilsl)),
 oo 3 (.mov (.const (.int .i64 0))),
 oo 4 (.mov (.const (.int .i64 0)))])
 (.seq (.ops [om 5 0,
 oo 6 (.call (.const (.func (.func 51) [] [])) [.tmp 5, (.const (.int .i64 16)), (.const (.func (.func 52) [] []))]),
 oo 7 (.extr (.tmp 6) 0),
 oo 8 (.extr (.tmp 6) 1),
 oo 9 (.extr (.tmp 6) 2),
 om 2 7,
 om 3 8,
 om 4 9])
 .ret))⟩
def F31 : AFn := ⟨47, [.tmp 2, .tmp 3, .tmp 4],
 (.seq (.ops [oo 2 (.mov (.const .nilsl)),
 oo 3 (.mov (.const (.int .i64 0))),
 oo 4 (.mov (.const (.int .i64 0)))])
 (.seq (.ops [om 14 0,
 oo 15 (.call (.const (.func (.func 53) [] [])) [.tmp 14, (.const (.int .i64 1))]),
 om 13 15,
 oo 16 (.extr (.tmp 13) 0),
 oo 17 (.extr (.tmp 13) 1),
 oo 18 (.extr (.tmp 13) 2),
 om 5 16,
 om 6 17,
 om 7 18])
 (.seq (.seq (.ops [om 19 7,
 oo 20 (.bin .neq (.tmp 19) (.const (.int .i64 0)))])
 (.cond (.tmp 20) (.seq (.ops [om 21 7,
 oo 2 (.mov (.const .nilsl)),
 oo 3 (.mov (.const (.int .i64 0))),
 om 4 21])
 .ret)
 .skip))
 (.seq (.ops [oo 8 (.mov (.const .nilsl))])
 (.seq (.seq (.ops [oo 9 (.mov (.const (.int .i64 0)))])
 (.block 0 (.loop (.seq (.seq (.ops [om 22 9,
 om 23 5,
 oo 24 (.bin .lss (.tmp 22) (.tmp 23))])
 (.cond (.tmp 24) .skip
 (.exit 0)))
 (.seq (.block 1 (.seq (.ops [om 28 0,
 om 29 6,
 oo 30 (.slsl 1 (.tmp 28) (some (.tmp 29)) none none),
 oo 31 (.call (.const (.func (.func 54) [] [])) [.tmp 30]),
 om 27 31,
 oo 32 (.extr (.tmp 27) 0),
 oo 33 (.extr (.tmp 27) 1),
 oo 34 (.extr (.tmp 27) 2),
 om 10 32,
 om 11 33,
 om 12 34])
 (.seq (.seq (.ops [om 35 12,
 oo 36 (.bin .neq (.tmp 35) (.const (.int .i64 0)))])
 (.cond (.tmp 36) (.seq (.ops [om 37 12,
 oo 2 (.mov (.const .nilsl)),
 oo 3 (.mov (.const (.int .i64 0))),
 om 4 37])
 .ret)
 .skip))
 (.seq (.ops [om 38 8,
 om 39 10,
 oo 40 (.mklit 1 [.tmp 39]),
 oo 41 (.append 1 8 false (.tmp 38) (.tmp 40)),
 om 8 41])
 (.ops [om 42 6,
 om 43 11,
 oo 44 (.bin .add (.tmp 42) (.tmp 43)),
 om 6 44])))))
 (.ops [om 25 9,
 oo 26 (.bin .add (.tmp 25) (.const (.int .i64 1))),
 om 9 26]))))))
 (.seq (.ops [om 45 8,
 om 46 6,
 om 2 45,
 om 3 46,
 oo 4 (.mov (.const (.int .i64 0)))])
 .ret))))))⟩
def F32 : AFn := ⟨53, [.cell 2 true 14],
 (.seq (.ops [oo 2 (.alloc [.int .i64 0, .int .i64 0, .int .i64 0, .int .i64 0, .int .i64 0, .int .i64 0, .int .i64 0, .int .i64 0, .int .i64 0, .int .i64 0, .int .i64 0, .int .i64 0, .int .i64 0, .int .i64 0])])
 (.seq (.ops [oo 3 (.alloc [.int .i64 0, .int .i64 0, .int .i64 0, .int .i64 0, .int .i64 0, .int .i64 0, .int .i64 0, .int .i64 0, .int .i64 0, .int .i64 0, .int .i64 0, .int .i64 0, .int .i64 0, .int .i64 0])])
 (.seq (.ops [om 6 0,
 oo 7 (.iadr none 1 (.tmp 6) (.const (.int .i64 0))),
 oo 8 (.load false 1 (.tmp 7)),
 oo 9 (.fadr 0 (.tmp 3)),
 ⟨none, .store 1 (.tmp 9) (.tmp 8), none⟩])
 (.seq (.seq (.ops [oo 4 (.mov (.const (.int .i64 0)))])
 (.block 0 (.loop (.seq (.seq (.ops [om 10 4,
 oo 11 (.bin .lss (.tmp 10) (.const (.int .i64 3)))])
 (.cond (.tmp 11) .skip
 (.exit 0)))
 (.seq (.block 1 (.seq (.ops [om 14 4,
 om 15 0,
 om 16 4,
 oo 17 (.bin .add (.const (.int .i64 1)) (.tmp 16)),
 oo 18 (.iadr none 1 (.tmp 15) (.tmp 17)),
 oo 19 (.load false 1 (.tmp 18)),
 oo 20 (.fadr 1 (.tmp 3)),
 oo 21 (.fadr 0 (.tmp 20)),
 oo 22 (.iadr (some 3) 1 (.tmp 21) (.tmp 14)),
 ⟨none, .store 1 (.tmp 22) (.tmp 19), none⟩])
 (.seq (.ops [om 23 4,
 om 24 0,
 om 25 4,
 oo 26 (.bin .add (.const (.int .i64 8)) (.tmp 25)),
 oo 27 (.iadr none 1 (.tmp 24) (.tmp 26)),
 oo 28 (.load false 1 (.tmp 27)),
 oo 29 (.fadr 8 (.tmp 3)),
 oo 30 (.iadr (some 3) 1 (.tmp 29) (.tmp 23)),
 ⟨none, .store 1 (.tmp 30) (.tmp 28), none⟩])
 (.ops [om 31 4,
 om 32 0,
 om 33 4,
 oo 34 (.bin .add (.const (.int .i64 11)) (.tmp 33)),
 oo 35 (.iadr none 1 (.tmp 32) (.tmp 34)),
 oo 36 (.load false 1 (.tmp 35)),
 oo 37 (.fadr 11 (.tmp 3)),
 oo 38 (.iadr (some 3) 1 (.tmp 37) (.tmp 31)),
 ⟨none, .store 1 (.tmp 38) (.tmp 36), none⟩]))))
 (.ops [om 12 4,
 oo 13 (.bin .add (.tmp 12) (.const (.int .i64 1))),
 om 4 13]))))))
 (.seq (.seq (.ops [oo 5 (.mov (.const (.int .i64 0)))])
 (.block 2 (.loop (.seq (.seq (.ops [om 39 5,
 oo 40 (.bin .lss (.tmp 39) (.const (.int .i64 4)))])
 (.cond (.tmp 40) .skip
 (.exit 2)))
 (.seq (.block 3 (.ops [om 43 5,
 om 44 0,
 om 45 5,
 oo 46 (.bin .add (.const (.int .i64 4)) (.tmp 45)),
 oo 47 (.iadr none 1 (.tmp 44) (.tmp 46)),
 oo 48 (.load false 1 (.tmp 47)),
 oo 49 (.fadr 1 (.tmp 3)),
 oo 50 (.fadr 3 (.tmp 49)),
 oo 51 (.iadr (some 4) 1 (.tmp 50) (.tmp 43)),
 ⟨none, .store 1 (.tmp 51) (.tmp 48), none⟩]))
 (.ops [om 41 5,
 oo 42 (.bin .add (.tmp 41) (.const (.int .i64 1))),
 om 5 42]))))))
 (.seq (.ops [oo 52 (.load true 14 (.tmp 3)),
 ⟨none, .store 14 (.tmp 2) (.tmp 52), none⟩])
 .ret))))))⟩
def F33 : AFn := ⟨46, [.tmp 2, .tmp 3, .tmp 4],
 (.seq (.ops [oo 2 (.mov (.const .nilsl)),
 oo 3 (.mov (.const (.int .i64 0))),
 oo 4 (.mov (.const (.int .i64 0)))])
 (.seq (.ops [om 13 0,
 oo 14 (.call (.const (.func (.func 53) [] [])) [.tmp 13, (.const (.int .i64 16))]),
 om 12 14,
 oo 15 (.extr (.tmp 12) 0),
 oo 16 (.extr (.tmp 12) 1),
 oo 17 (.extr (.tmp 12) 2),
 om 5 15,
 om 6 16,
 om 7 17])
 (.seq (.seq (.ops [om 18 7,
 oo 19 (.bin .neq (.tmp 18) (.const (.int .i64 0)))])
 (.cond (.tmp 19) (.seq (.ops [om 20 7,
 oo 2 (.mov (.const .nilsl)),
 oo 3 (.mov (.const (.int .i64 0))),
 om 4 20])
 .ret)
 .skip))
 (.seq (.ops [oo 8 (.mov (.const .nilsl))])
 (.seq (.seq (.ops [oo 9 (.mov (.const (.int .i64 0)))])
 (.block 0 (.loop (.seq (.seq (.ops [om 21 9,
 om 22 5,
 oo 23 (.bin .lss (.tmp 21) (.tmp 22))])
 (.cond (.tmp 23) .skip
 (.exit 0)))
 (.seq (.block 1 (.seq (.ops [oo 10 (.alloc [.int .u8 0, .int .u8 0, .int .u8 0, .int .u8 0, .int .u8 0, .int .u8 0, .int .u8 0, .int .u8 0, .int .u8 0, .int .u8 0, .int .u8 0, .int .u8 0, .int .u8 0, .int .u8 0, .int .u8 0, .int .u8 0])])
 (.seq (.seq (.ops [oo 11 (.mov (.const (.int .i64 0)))])
 (.block 2 (.loop (.seq (.seq (.ops [om 26 11,
 oo 27 (.bin .lss (.tmp 26) (.const (.int .i64 16)))])
 (.cond (.tmp 27) .skip
 (.exit 2)))
 (.seq (.block 3 (.ops [om 30 11,
 om 31 0,
 om 32 6,
 om 33 11,
 oo 34 (.bin .add (.tmp 32) (.tmp 33)),
 oo 35 (.iadr none 1 (.tmp 31) (.tmp 34)),
 oo 36 (.load false 1 (.tmp 35)),
 oo 37 (.iadr (some 16) 1 (.tmp 10) (.tmp 30)),
 ⟨none, .store 1 (.tmp 37) (.tmp 36), none⟩]))
 (.ops [om 28 11,
 oo 29 (.bin .add (.tmp 28) (.const (.int .i64 1))),
 om 11 29]))))))
 (.seq (.ops [om 38 8,
 oo 39 (.load true 16 (.tmp 10)),
 oo 40 (.mklit 16 [.tmp 39]),
 oo 41 (.append 16 16 false (.tmp 38) (.tmp 40)),
 om 8 41])
 (.ops [om 42 6,
 oo 43 (.bin .add (.tmp 42) (.const (.int .i64 16))),
 om 6 43])))))
 (.ops [om 24 9,
 oo 25 (.bin .add (.tmp 24) (.const (.int .i64 1))),
 om 9 25]))))))
 (.seq (.ops [om 44 8,
 om 45 6,
 om 2 44,
 om 3 45,
 oo 4 (.mov (.const (.int .i64 0)))])
 .ret))))))⟩
def F34 : AFn := ⟨103, [.tmp 4],
 (.seq (.ops [oo 2 (.box (.tmp 0)),
 oo 3 (.box (.tmp 1)),
 oo 4 (.mov (.const (.int .i64 0)))])
 (.seq (.ops [oo 5 (.mov (.const (.int .i64 0))),
 oo 6 (.mov (.const (.int .i64 0)))])
 (.seq (.seq (.ops [oo 10 (.fadr 0 (.tmp 3)),
 oo 11 (.load false 1 (.tmp 10))])
 (.block 0 (.seq (.seq (.ops [oo 13 (.bin .eql (.tmp 11) (.const (.int .i64 1))),
 om 12 13])
 (.cond (.tmp 12) .skip
 (.ops [oo 14 (.bin .eql (.tmp 11) (.const (.int .i64 2))),
 om 12 14])))
 (.cond (.tmp 12) (.draw [oo 15 (.fadr 3 (.tmp 2)),
 oo 16 (.load false 1 (.tmp 15)),
 oo 17 (.lenl (.tmp 16)),
 oo 5 (.mov (.const (.int .i64 1))),
 om 6 17] [])
 (.seq (.seq (.ops [oo 19 (.bin .eql (.tmp 11) (.const (.int .i64 3))),
 om 18 19])
 (.cond (.tmp 18) .skip
 (.ops [oo 20 (.bin .eql (.tmp 11) (.const (.int .i64 4))),
 om 18 20])))
 (.cond (.tmp 18) (.ops [oo 21 (.fadr 4 (.tmp 2)),
 oo 22 (.load false 1 (.tmp 21)),
 oo 23 (.lenl (.tmp 22)),
 oo 24 (.bin .sub (.tmp 23) (.const (.int .i64 1))),
 om 6 24])
 (.seq (.seq (.ops [oo 26 (.bin .eql (.tmp 11) (.const (.int .i64 5))),
 om 25 26])
 (.cond (.tmp 25) .skip
 (.ops [oo 27 (.bin .eql (.tmp 11) (.const (.int .i64 6))),
 om 25 27])))
 (.cond (.tmp 25) (.ops [oo 28 (.fadr 5 (.tmp 2)),
 oo 29 (.load false 1 (.tmp 28)),
 oo 30 (.lenl (.tmp 29)),
 oo 31 (.bin .sub (.tmp 30) (.const (.int .i64 1))),
 om 6 31])
 (.seq (.ops [oo 33 (.bin .eql (.tmp 11) (.const (.int .i64 7))),
 om 32 33])
 (.cond (.tmp 32) .skip
 (.seq (.ops [oo 35 (.bin .eql (.tmp 11) (.const (.int .i64 8))),
 om 34 35])
 (.cond (.tmp 34) (.ops [oo 5 (.mov (.const (.int .i64 1))),
 oo 6 (.mov (.const (.int .i64 10000)))])
 (.seq (.ops [oo 4 (.mov (.const (.int .i64 1)))])
 .ret)))))))))))))
 (.seq (.seq (.ops [oo 36 (.fadr 1 (.tmp 3)),
 oo 37 (.load false 1 (.tmp 36)),
 om 38 5,
 oo 39 (.bin .lss (.tmp 37) (.tmp 38)),
 om 40 39,
 ⟨some 41, .fadr 1 (.tmp 3), some (40, false)⟩,
 ⟨some 42, .load false 1 (.tmp 41), some (40, false)⟩,
 ⟨some 43, .mov (.tmp 6), some (40, false)⟩,
 ⟨some 44, .bin .gtr (.tmp 42) (.tmp 43), some (40, false)⟩,
 oo 45 (.pick (.tmp 40) (.const (.bool true)) (.tmp 44))])
 (.cond (.tmp 45) (.seq (.ops [oo 4 (.mov (.const (.int .i64 1)))])
 .ret)
 .skip))
 (.seq (.seq (.ops [oo 46 (.fadr 2 (.tmp 3)),
 oo 47 (.load false 1 (.tmp 46)),
 oo 48 (.lenl (.tmp 47)),
 oo 49 (.mov (.const (.int .i64 0)))])
 (.block 1 (.loop (.seq (.ops [oo 50 (.bin .lss (.tmp 49) (.tmp 48))])
 (.seq (.cond (.tmp 50) .skip
 (.exit 1))
 (.seq (.block 2 (.seq (.ops [om 51 49,
 oo 52 (.iadr none 7 (.tmp 47) (.tmp 49)),
 oo 53 (.load true 7 (.tmp 52)),
 oo 8 (.alloc [.int .i64 0, .int .i64 0, .int .i64 0, .int .i64 0, .int .i64 0, .int .i64 0, .int .i64 0]),
 om 7 51,
 ⟨none, .store 7 (.tmp 8) (.tmp 53), none⟩])
 (.seq (.draw [oo 54 (.load true 7 (.tmp 8)),
 oo 55 (.call (.const (.func (.func 55) [] [])) [.tmp 54]),
 oo 56 (.bin .neq (.tmp 55) (.const (.int .i64 0))),
 om 57 56,
 ⟨some 58, .mov (.tmp 7), some (57, false)⟩,
 ⟨some 59, .bin .gtr (.tmp 58) (.const (.int .i64 0)), some (57, false)⟩,
 ⟨some 60, .mov (.tmp 59), some (57, false)⟩,
 ⟨some 61, .load true 7 (.tmp 8), some (60, true)⟩,
 ⟨some 62, .fadr 2 (.tmp 3), some (60, true)⟩,
 ⟨some 63, .load false 1 (.tmp 62), some (60, true)⟩,
 ⟨some 64, .mov (.tmp 7), some (60, true)⟩,
 ⟨some 65, .bin .sub (.tmp 64) (.const (.int .i64 1)), some (60, true)⟩,
 ⟨some 66, .iadr none 7 (.tmp 63) (.tmp 65), some (60, true)⟩,
 ⟨some 67, .load true 7 (.tmp 66), some (60, true)⟩,
 ⟨some 68, .eqf false [.i, .i, .i, .i, .i, .i, .i] (.tmp 61) (.tmp 67), some (60, true)⟩,
 ⟨some 69, .pick (.tmp 60) (.tmp 68) (.const (.bool false)), some (57, false)⟩,
 oo 70 (.pick (.tmp 57) (.const (.bool true)) (.tmp 69))] [])
 (.cond (.tmp 70) (.seq (.ops [oo 4 (.mov (.const (.int .i64 1)))])
 .ret)
 .skip))))
 (.ops [oo 71 (.bin .add (.tmp 49) (.const (.int .i64 1))),
 om 49 71])))))))
 (.seq (.ops [oo 72 (.fadr 0 (.tmp 3)),
 oo 73 (.load false 1 (.tmp 72)),
 oo 74 (.bin .eql (.tmp 73) (.const (.int .i64 1))),
 om 75 74,
 ⟨some 76, .fadr 0 (.tmp 3), some (75, false)⟩,
 ⟨some 77, .load false 1 (.tmp 76), some (75, false)⟩,
 ⟨some 78, .bin .eql (.tmp 77) (.const (.int .i64 2)), some (75, false)⟩,
 oo 79 (.pick (.tmp 75) (.const (.bool true)) (.tmp 78)),
 om 9 79])
 (.seq (.seq (.ops [om 80 9,
 om 81 80,
 ⟨some 82, .fadr 2 (.tmp 3), some (81, true)⟩,
 ⟨some 83, .load false 1 (.tmp 82), some (81, true)⟩,
 ⟨some 84, .lenl (.tmp 83), some (81, true)⟩,
 ⟨some 85, .bin .lss (.tmp 84) (.const (.int .i64 2)), some (81, true)⟩,
 ⟨some 86, .mov (.tmp 85), some (81, true)⟩,
 ⟨some 87, .fadr 2 (.tmp 3), some (86, false)⟩,
 ⟨some 88, .load false 1 (.tmp 87), some (86, false)⟩,
 ⟨some 89, .lenl (.tmp 88), some (86, false)⟩,
 ⟨some 90, .bin .gtr (.tmp 89) (.const (.int .i64 32)), some (86, false)⟩,
 ⟨some 91, .pick (.tmp 86) (.const (.bool true)) (.tmp 90), some (81, true)⟩,
 oo 92 (.pick (.tmp 81) (.tmp 91) (.const (.bool false))),
 om 93 92,
 ⟨some 94, .mov (.tmp 9), some (93, false)⟩,
 ⟨some 95, .un .not (.tmp 94), some (93, false)⟩,
 ⟨some 96, .mov (.tmp 95), some (93, false)⟩,
 ⟨some 97, .fadr 2 (.tmp 3), some (96, true)⟩,
 ⟨some 98, .load false 1 (.tmp 97), some (96, true)⟩,
 ⟨some 99, .lenl (.tmp 98), some (96, true)⟩,
 ⟨some 100, .bin .gtr (.tmp 99) (.const (.int .i64 0)), some (96, true)⟩,
 ⟨some 101, .pick (.tmp 96) (.tmp 100) (.const (.bool false)), some (93, false)⟩,
 oo 102 (.pick (.tmp 93) (.const (.bool true)) (.tmp 101))])
 (.cond (.tmp 102) (.seq (.ops [oo 4 (.mov (.const (.int .i64 2)))])
 .ret)
 .skip))
 (.seq (.ops [oo 4 (.mov (.const (.int .i64 0)))])
 .ret))))))))⟩
def F35 : AFn := ⟨20, [.tmp 2, .tmp 3],
 (.seq (.ops [oo 2 (.mov (.const .nilfn)),
 oo 3 (.mov (.const .nilsl))])
 (.seq (.seq (.ops [om 4 0])
 (.block 0 (.seq (.ops [oo 6 (.bin .eql (.tmp 4) (.const (.int .i64 1))),
 om 5 6])
 (.cond (.tmp 5) (.seq (.ops [oo 7 (.mklit 1 [(.const (.int .i64 3)), (.const (.int .i64 4)), (.const (.int .i64 5)), (.const (.int .i64 6))]),
 oo 2 (.mov (.const (.func (.func 56) [] []))),
 om 3 7])
 .ret)
 (.seq (.ops [oo 9 (.bin .eql (.tmp 4) (.const (.int .i64 2))),
 om 8 9])
 (.cond (.tmp 8) (.seq (.ops [oo 10 (.mklit 1 [(.const (.int .i64 1)), (.const (.int .i64 2))]),
 oo 2 (.mov (.const (.func (.func 57) [] []))),
 om 3 10])
 .ret)
 (.seq (.ops [oo 12 (.bin .eql (.tmp 4) (.const (.int .i64 3))),
 om 11 12])
 (.cond (.tmp 11) (.seq (.ops [oo 13 (.mklit 1 [(.const (.int .i64 7))]),
 oo 2 (.mov (.const (.func (.func 58) [] []))),
 om 3 13])
 .ret)
 (.seq (.ops [oo 15 (.bin .eql (.tmp 4) (.const (.int .i64 4))),
 om 14 15])
 (.cond (.tmp 14) (.seq (.ops [oo 16 (.mklit 1 [(.const (.int .i64 8))]),
 oo 2 (.mov (.const (.func (.func 59) [] []))),
 om 3 16])
 .ret)
 (.seq (.ops [oo 18 (.bin .eql (.tmp 4) (.const (.int .i64 5))),
 om 17 18])
 (.cond (.tmp 17) (.seq (.ops [oo 19 (.mklit 1 [(.const (.int .i64 1)), (.const (.int .i64 2)), (.const (.int .i64 3)), (.const (.int .i64 4)), (.const (.int .i64 5)), (.const (.int .i64 6)), (.const (.int .i64 7)), (.const (.int .i64 8))]),
 oo 2 (.mov (.const (.func (.func 58) [] []))),
 om 3 19])
 .ret)
 .skip))))))))))))
 (.seq (.ops [oo 2 (.mov (.const .nilfn)),
 oo 3 (.mov (.const .nilsl))])
 .ret)))⟩
def F36 : AFn := ⟨9, [.tmp 4],
 (.seq (.ops [oo 4 (.mov (.const (.bool false)))])
 (.seq (.ops [om 5 0,
 om 6 1,
 oo 7 (.call (.const (.func (.func 60) [] [])) [.tmp 5, .tmp 6]),
 oo 8 (.bin .geq (.tmp 7) (.const (.int .i64 0))),
 om 4 8])
 .ret))⟩
def F37 : AFn := ⟨36, [.tmp 2],
 (.seq (.ops [oo 1 (.box (.tmp 0)),
 oo 2 (.mov (.const .nilsl))])
 (.seq (.draw [oo 4 (.fadr 0 (.tmp 1)),
 oo 5 (.load false 1 (.tmp 4)),
 oo 6 (.call (.const (.func (.func 61) [] [])) [.tmp 5]),
 oo 7 (.call (.const (.func (.func 23) [] [])) [.tmp 6]),
 oo 8 (.fadr 1 (.tmp 1)),
 oo 9 (.load false 1 (.tmp 8)),
 oo 10 (.call (.const (.func (.func 62) [] [])) [.tmp 9]),
 oo 11 (.append 1 1 false (.tmp 7) (.tmp 10)),
 om 3 11] [(5, 2), (5, 3)])
 (.seq (.ops [om 12 3,
 oo 13 (.fadr 2 (.tmp 1)),
 oo 14 (.load false 1 (.tmp 13)),
 oo 15 (.call (.const (.func (.func 63) [] [])) [(.const .nilsl), .tmp 14]),
 oo 16 (.call (.const (.func (.func 23) [] [])) [.tmp 15]),
 oo 17 (.append 1 1 false (.tmp 12) (.tmp 16)),
 om 3 17])
 (.seq (.ops [om 18 3,
 oo 19 (.fadr 3 (.tmp 1)),
 oo 20 (.load false 1 (.tmp 19)),
 oo 21 (.call (.const (.func (.func 63) [] [])) [(.const .nilsl), .tmp 20]),
 oo 22 (.call (.const (.func (.func 23) [] [])) [.tmp 21]),
 oo 23 (.append 1 1 false (.tmp 18) (.tmp 22)),
 om 3 23])
 (.seq (.ops [om 24 3,
 oo 25 (.fadr 4 (.tmp 1)),
 oo 26 (.load false 1 (.tmp 25)),
 oo 27 (.call (.const (.func (.func 61) [] [])) [.tmp 26]),
 oo 28 (.call (.const (.func (.func 23) [] [])) [.tmp 27]),
 oo 29 (.append 1 1 false (.tmp 24) (.tmp 28)),
 om 3 29])
 (.seq (.ops [om 30 3,
 oo 31 (.fadr 5 (.tmp 1)),
 oo 32 (.load false 1 (.tmp 31)),
 oo 33 (.call (.const (.func (.func 61) [] [])) [.tmp 32]),
 oo 34 (.call (.const (.func (.func 23) [] [])) [.tmp 33]),
 oo 35 (.append 1 1 false (.tmp 30) (.tmp 34)),
 om 2 35])
 .ret))))))⟩
def F38 : AFn := ⟨24, [.tmp 4],
 (.seq (.ops [oo 4 (.mov (.const .nilsl))])
 (.seq (.ops [om 8 0,
 oo 9 (.lenl (.tmp 8)),
 oo 10 (.call (.const (.func (.func 39) [] [])) [.tmp 9]),
 om 5 10])
 (.seq (.seq (.ops [om 11 0,
 oo 12 (.lenl (.tmp 11)),
 oo 13 (.mov (.const (.int .i64 0)))])
 (.block 0 (.loop (.seq (.ops [oo 14 (.bin .lss (.tmp 13) (.tmp 12))])
 (.seq (.cond (.tmp 14) .skip
 (.exit 0))
 (.seq (.block 1 (.seq (.ops [oo 15 (.iadr none 1 (.tmp 11) (.tmp 13)),
 oo 16 (.load false 1 (.tmp 15)),
 om 7 16])
 (.ops [om 17 5,
 om 18 1,
 om 19 7,
 oo 20 (.call (.tmp 18) [.tmp 19]),
 oo 21 (.append 1 1 false (.tmp 17) (.tmp 20)),
 om 5 21])))
 (.ops [oo 22 (.bin .add (.tmp 13) (.const (.int .i64 1))),
 om 13 22])))))))
 (.seq (.ops [om 23 5,
 om 4 23])
 .ret))))⟩
def F39 : AFn := ⟨27, [.tmp 2],
 (.seq (.ops [oo 2 (.mov (.const .nilsl))])
 (.seq (.ops [om 5 0,
 oo 6 (.convi .u64 (.tmp 5)),
 oo 7 (.bin .shl (.tmp 6) (.const (.int .u64 1))),
 om 8 0,
 oo 9 (.bin .shr (.tmp 8) (.const (.int .u64 63))),
 oo 10 (.convi .u64 (.tmp 9)),
 oo 11 (.bin .xor (.tmp 7) (.tmp 10)),
 om 3 11])
 (.seq (.ops [oo 4 (.mov (.const .nilsl))])
 (.seq (.block 0 (.loop (.seq (.seq (.ops [om 12 3,
 oo 13 (.bin .gtr (.tmp 12) (.const (.int .u64 127)))])
 (.cond (.tmp 13) .skip
 (.exit 0)))
 (.seq (.block 1 (.ops [om 16 4,
 om 17 3,
 oo 18 (.convi .u8 (.tmp 17)),
 oo 19 (.bin .or (.tmp 18) (.const (.int .u8 128))),
 oo 20 (.mklit 1 [.tmp 19]),
 oo 21 (.append 1 1 false (.tmp 16) (.tmp 20)),
 om 4 21]))
 (.ops [om 14 3,
 oo 15 (.bin .shr (.tmp 14) (.const (.int .u64 7))),
 om 3 15])))))
 (.seq (.ops [om 22 4,
 om 23 3,
 oo 24 (.convi .u8 (.tmp 23)),
 oo 25 (.mklit 1 [.tmp 24]),
 oo 26 (.append 1 1 false (.tmp 22) (.tmp 25)),
 om 2 26])
 .ret)))))⟩
def F40 : AFn := ⟨27, [.tmp 4],
 (.seq (.ops [oo 4 (.mov (.const .nilsl))])
 (.seq (.seq (.ops [om 5 1,
 oo 6 (.bin .lss (.tmp 5) (.const (.int .i64 0)))])
 (.cond (.tmp 6) (.ops [oo 7 (.mkif 9 (.const (.str [99, 97, 110, 110, 111, 116, 32, 98, 101, 32, 110, 101, 103, 97, 116, 105, 118, 101]))),
 ⟨none, .panic (.tmp 7), none⟩])
 .skip))
 (.seq (.seq (.ops [om 8 1,
 om 9 0,
 oo 10 (.capl (.tmp 9)),
 om 11 0,
 oo 12 (.lenl (.tmp 11)),
 oo 13 (.bin .sub (.tmp 10) (.tmp 12)),
 oo 14 (.bin .sub (.tmp 8) (.tmp 13)),
 om 1 14])
 (.seq (.ops [om 15 1,
 oo 16 (.bin .gtr (.tmp 15) (.const (.int .i64 0)))])
 (.cond (.tmp 16) (.ops [om 17 0,
 om 18 0,
 oo 19 (.capl (.tmp 18)),
 oo 20 (.slsl 1 (.tmp 17) none (some (.tmp 19)) none),
 om 21 1,
 oo 22 (.appendz 1 8 [.int .i64 0] (.tmp 20) (.tmp 21)),
 om 23 0,
 oo 24 (.lenl (.tmp 23)),
 oo 25 (.slsl 1 (.tmp 22) none (some (.tmp 24)) none),
 om 0 25])
 .skip)))
 (.seq (.ops [om 26 0,
 om 4 26])
 .ret))))⟩
def F41 : AFn := ⟨24, [.tmp 4],
 (.seq (.ops [oo 4 (.mov (.const .nilsl))])
 (.seq (.ops [om 8 0,
 oo 9 (.lenl (.tmp 8)),
 oo 10 (.call (.const (.func (.func 39) [] [])) [.tmp 9]),
 om 5 10])
 (.seq (.seq (.ops [om 11 0,
 oo 12 (.lenl (.tmp 11)),
 oo 13 (.mov (.const (.int .i64 0)))])
 (.block 0 (.loop (.seq (.ops [oo 14 (.bin .lss (.tmp 13) (.tmp 12))])
 (.seq (.cond (.tmp 14) .skip
 (.exit 0))
 (.seq (.block 1 (.seq (.ops [oo 15 (.iadr none 16 (.tmp 11) (.tmp 13)),
 oo 16 (.load true 16 (.tmp 15)),
 oo 7 (.alloc [.int .u8 0, .int .u8 0, .int .u8 0, .int .u8 0, .int .u8 0, .int .u8 0, .int .u8 0, .int .u8 0, .int .u8 0, .int .u8 0, .int .u8 0, .int .u8 0, .int .u8 0, .int .u8 0, .int .u8 0, .int .u8 0]),
 ⟨none, .store 16 (.tmp 7) (.tmp 16), none⟩])
 (.ops [om 17 5,
 om 18 1,
 oo 19 (.load true 16 (.tmp 7)),
 oo 20 (.call (.tmp 18) [.tmp 19]),
 oo 21 (.append 1 1 false (.tmp 17) (.tmp 20)),
 om 5 21])))
 (.ops [oo 22 (.bin .add (.tmp 13) (.const (.int .i64 1))),
 om 13 22])))))))
 (.seq (.ops [om 23 5,
 om 4 23])
 .ret))))⟩
def F42 : AFn := ⟨5, [.tmp 2],
 (.seq (.ops [oo 1 (.box (.tmp 0)),
 oo 2 (.mov (.const .nilsl))])
 (.seq (.ops [oo 3 (.slarr 16 1 (.tmp 1) none none none),
 oo 4 (.call (.const (.func (.func 64) [] [])) [.tmp 3]),
 om 2 4])
 .ret))⟩
def F43 : AFn := ⟨31, [.tmp 2],
 (.seq (.ops [oo 2 (.mov (.const .nilsl))])
 (.seq (.ops [om 5 0,
 oo 6 (.convi .u64 (.tmp 5)),
 oo 7 (.bin .mul (.tmp 6) (.const (.int .u64 2))),
 om 3 7])
 (.seq (.seq (.ops [om 8 0,
 oo 9 (.bin .lss (.tmp 8) (.const (.int .i64 0)))])
 (.cond (.tmp 9) (.ops [om 10 0,
 oo 11 (.bin .sub (.const (.int .i64 (-1))) (.tmp 10)),
 oo 12 (.convi .u64 (.tmp 11)),
 oo 13 (.bin .mul (.tmp 12) (.const (.int .u64 2))),
 oo 14 (.bin .add (.tmp 13) (.const (.int .u64 1))),
 om 3 14])
 .skip))
 (.seq (.ops [oo 4 (.mov (.const .nilsl))])
 (.seq (.block 0 (.loop (.seq (.seq (.ops [om 15 3,
 oo 16 (.bin .geq (.tmp 15) (.const (.int .u64 128)))])
 (.cond (.tmp 16) .skip
 (.exit 0)))
 (.block 1 (.seq (.ops [om 17 4,
 om 18 3,
 oo 19 (.bin .rem (.tmp 18) (.const (.int .u64 128))),
 oo 20 (.convi .u8 (.tmp 19)),
 oo 21 (.bin .add (.tmp 20) (.const (.int .u8 128))),
 oo 22 (.mklit 1 [.tmp 21]),
 oo 23 (.append 1 1 false (.tmp 17) (.tmp 22)),
 om 4 23])
 (.ops [om 24 3,
 oo 25 (.bin .quo (.tmp 24) (.const (.int .u64 128))),
 om 3 25]))))))
 (.seq (.ops [om 26 4,
 om 27 3,
 oo 28 (.convi .u8 (.tmp 27)),
 oo 29 (.mklit 1 [.tmp 28]),
 oo 30 (.append 1 1 false (.tmp 26) (.tmp 29)),
 om 2 30])
 .ret))))))⟩
def F44 : AFn := ⟨3, [.cell 0 true 73],
 (.seq (.ops [oo 0 (.alloc (List.replicate 8 (.int .u32 0) ++ List.replicate 64 (.int .u8 0) ++ [.int .u64 0]))])
 (.seq (.ops [oo 1 (.build [.int .u32 0, .int .u32 0, .int .u32 0, .int .u32 0, .int .u32 0, .int .u32 0, .int .u32 0, .int .u32 0] [(0, 1, (.const (.int .u32 1779033703))), (1, 1, (.const (.int .u32 3144134277))), (2, 1, (.const (.int .u32 1013904242))), (3, 1, (.const (.int .u32 2773480762))), (4, 1, (.const (.int .u32 1359893119))), (5, 1, (.const (.int .u32 2600822924))), (6, 1, (.const (.int .u32 528734635))), (7, 1, (.const (.int .u32 1541459225)))]),
 oo 2 (.build (List.replicate 8 (.int .u32 0) ++ List.replicate 64 (.int .u8 0) ++ [.int .u64 0]) [(0, 8, (.tmp 1))]),
 ⟨none, .store 73 (.tmp 0) (.tmp 2), none⟩])
 .ret))⟩
def F45 : AFn := ⟨38, [.cell 4 true 73],
 (.seq (.ops [oo 2 (.box (.tmp 0)),
 oo 4 (.alloc (List.replicate 8 (.int .u32 0) ++ List.replicate 64 (.int .u8 0) ++ [.int .u64 0]))])
 (.seq (.block 0 (.loop (.seq (.seq (.ops [om 7 1,
 oo 8 (.bin .neq (.tmp 7) (.const (.str [])))])
 (.cond (.tmp 8) .skip
 (.exit 0)))
 (.block 1 (.seq (.ops [oo 9 (.fadr 72 (.tmp 2)),
 oo 10 (.load false 1 (.tmp 9)),
 oo 11 (.bin .rem (.tmp 10) (.const (.int .u64 64))),
 oo 12 (.convi .i64 (.tmp 11)),
 om 5 12])
 (.seq (.ops [oo 13 (.fadr 8 (.tmp 2)),
 om 14 5,
 oo 15 (.slarr 64 1 (.tmp 13) (some (.tmp 14)) none none),
 om 16 1,
 oo 17 (.copy 1 (.tmp 15) (.tmp 16)),
 om 6 17])
 (.seq (.ops [om 18 1,
 om 19 6,
 oo 20 (.slstr (.tmp 18) (some (.tmp 19)) none),
 om 1 20])
 (.seq (.ops [oo 21 (.fadr 72 (.tmp 2)),
 oo 22 (.load false 1 (.tmp 21)),
 om 23 6,
 oo 24 (.convi .u64 (.tmp 23)),
 oo 25 (.bin .add (.tmp 22) (.tmp 24)),
 oo 26 (.fadr 72 (.tmp 2)),
 ⟨none, .store 1 (.tmp 26) (.tmp 25), none⟩])
 (.seq (.ops [om 27 5,
 om 28 6,
 oo 29 (.bin .add (.tmp 27) (.tmp 28)),
 oo 30 (.bin .eql (.tmp 29) (.const (.int .i64 64)))])
 (.cond (.tmp 30) (.draw [oo 31 (.fadr 0 (.tmp 2)),
 oo 32 (.load true 8 (.tmp 31)),
 oo 33 (.fadr 8 (.tmp 2)),
 oo 34 (.slarr 64 1 (.tmp 33) none none none),
 oo 35 (.call (.const (.func (.func 65) [] [])) [.tmp 32, .tmp 34]),
 oo 36 (.fadr 0 (.tmp 2)),
 ⟨none, .store 8 (.tmp 36) (.tmp 35), none⟩] [])
 .skip))))))))))
 (.seq (.ops [oo 37 (.load true 73 (.tmp 2)),
 ⟨none, .store 73 (.tmp 4) (.tmp 37), none⟩])
 .ret)))⟩
def F46 : AFn := ⟨8, [.tmp 2],
 (.seq (.ops [oo 2 (.mov (.const .nilsl))])
 (.seq (.ops [om 3 0,
 oo 4 (.lens (.tmp 3)),
 oo 5 (.call (.const (.func (.func 39) [] [])) [.tmp 4]),
 om 6 0,
 oo 7 (.append 1 1 false (.tmp 5) (.tmp 6)),
 om 2 7])
 .ret))⟩
def F47 : AFn := ⟨58, [.cell 2 true 32],
 (.seq (.ops [oo 1 (.box (.tmp 0)),
 oo 2 (.alloc (List.replicate 32 (.int .u8 0)))])
 (.seq (.ops [oo 8 (.fadr 72 (.tmp 1)),
 oo 9 (.load false 1 (.tmp 8)),
 oo 10 (.bin .mul (.const (.int .u64 8)) (.tmp 9)),
 om 3 10])
 (.seq (.ops [oo 11 (.mklit 1 [(.const (.int .u8 128))]),
 om 4 11])
 (.seq (.block 0 (.loop (.seq (.seq (.ops [oo 12 (.fadr 72 (.tmp 1)),
 oo 13 (.load false 1 (.tmp 12)),
 oo 14 (.convi .i64 (.tmp 13)),
 om 15 4,
 oo 16 (.lenl (.tmp 15)),
 oo 17 (.bin .add (.tmp 14) (.tmp 16)),
 oo 18 (.bin .rem (.tmp 17) (.const (.int .i64 64))),
 oo 19 (.bin .neq (.tmp 18) (.const (.int .i64 56)))])
 (.cond (.tmp 19) .skip
 (.exit 0)))
 (.block 1 (.ops [om 20 4,
 oo 21 (.mklit 1 [(.const (.int .u8 0))]),
 oo 22 (.append 1 1 false (.tmp 20) (.tmp 21)),
 om 4 22])))))
 (.seq (.seq (.ops [oo 23 (.mov (.const (.int .i64 0)))])
 (.block 2 (.loop (.seq (.ops [oo 24 (.bin .lss (.tmp 23) (.const (.int .i64 8)))])
 (.seq (.cond (.tmp 24) .skip
 (.exit 2))
 (.seq (.block 3 (.seq (.ops [om 25 23,
 om 5 25])
 (.ops [om 26 4,
 om 27 3,
 om 28 5,
 oo 29 (.bin .mul (.const (.int .i64 8)) (.tmp 28)),
 oo 30 (.bin .sub (.const (.int .i64 56)) (.tmp 29)),
 oo 31 (.bin .shr (.tmp 27) (.tmp 30)),
 oo 32 (.convi .u8 (.tmp 31)),
 oo 33 (.mklit 1 [.tmp 32]),
 oo 34 (.append 1 1 false (.tmp 26) (.tmp 33)),
 om 4 34])))
 (.ops [oo 35 (.bin .add (.tmp 23) (.const (.int .i64 1))),
 om 23 35])))))))
 (.seq (.ops [oo 36 (.load true 73 (.tmp 1)),
 om 37 4,
 oo 38 (.b2str (.tmp 37)),
 oo 39 (.call (.const (.func (.func 45) [] [])) [.tmp 36, .tmp 38]),
 ⟨none, .store 73 (.tmp 1) (.tmp 39), none⟩])
 (.seq (.ops [oo 6 (.alloc (List.replicate 32 (.int .u8 0)))])
 (.seq (.seq (.ops [oo 40 (.mov (.const (.int .i64 0)))])
 (.block 4 (.loop (.seq (.ops [oo 41 (.bin .lss (.tmp 40) (.const (.int .i64 32)))])
 (.seq (.cond (.tmp 41) .skip
 (.exit 4))
 (.seq (.block 5 (.seq (.ops [om 42 40,
 om 7 42])
 (.ops [om 43 7,
 om 44 7,
 oo 45 (.bin .quo (.tmp 44) (.const (.int .i64 4))),
 oo 46 (.fadr 0 (.tmp 1)),
 oo 47 (.iadr (some 8) 1 (.tmp 46) (.tmp 45)),
 oo 48 (.load false 1 (.tmp 47)),
 om 49 7,
 oo 50 (.bin .rem (.tmp 49) (.const (.int .i64 4))),
 oo 51 (.bin .mul (.const (.int .i64 8)) (.tmp 50)),
 oo 52 (.bin .sub (.const (.int .i64 24)) (.tmp 51)),
 oo 53 (.bin .shr (.tmp 48) (.tmp 52)),
 oo 54 (.convi .u8 (.tmp 53)),
 oo 55 (.iadr (some 32) 1 (.tmp 6) (.tmp 43)),
 ⟨none, .store 1 (.tmp 55) (.tmp 54), none⟩])))
 (.ops [oo 56 (.bin .add (.tmp 40) (.const (.int .i64 1))),
 om 40 56])))))))
 (.seq (.ops [oo 57 (.load true 32 (.tmp 6)),
 ⟨none, .store 32 (.tmp 2) (.tmp 57), none⟩])
 .ret)))))))))⟩
def F48 : AFn := ⟨19, [.cell 2 true 16],
 (.seq (.ops [oo 2 (.alloc [.int .u8 0, .int .u8 0, .int .u8 0, .int .u8 0, .int .u8 0, .int .u8 0, .int .u8 0, .int .u8 0, .int .u8 0, .int .u8 0, .int .u8 0, .int .u8 0, .int .u8 0, .int .u8 0, .int .u8 0, .int .u8 0])])
 (.seq (.ops [om 6 0,
 oo 7 (.call (.const (.func (.func 66) [] [])) [.tmp 6]),
 oo 3 (.alloc (List.replicate 32 (.int .u8 0))),
 ⟨none, .store 32 (.tmp 3) (.tmp 7), none⟩])
 (.seq (.ops [oo 8 (.build [.int .u8 0, .int .u8 0, .int .u8 0, .int .u8 0, .int .u8 0, .int .u8 0, .int .u8 0, .int .u8 0, .int .u8 0, .int .u8 0, .int .u8 0, .int .u8 0, .int .u8 0, .int .u8 0, .int .u8 0, .int .u8 0] []),
 oo 4 (.alloc [.int .u8 0, .int .u8 0, .int .u8 0, .int .u8 0, .int .u8 0, .int .u8 0, .int .u8 0, .int .u8 0, .int .u8 0, .int .u8 0, .int .u8 0, .int .u8 0, .int .u8 0, .int .u8 0, .int .u8 0, .int .u8 0]),
 ⟨none, .store 16 (.tmp 4) (.tmp 8), none⟩])
 (.seq (.seq (.ops [oo 5 (.mov (.const (.int .i64 0)))])
 (.block 0 (.loop (.seq (.seq (.ops [om 9 5,
 oo 10 (.bin .lss (.tmp 9) (.const (.int .i64 16)))])
 (.cond (.tmp 10) .skip
 (.exit 0)))
 (.seq (.block 1 (.ops [om 13 5,
 om 14 5,
 oo 15 (.iadr (some 32) 1 (.tmp 3) (.tmp 14)),
 oo 16 (.load false 1 (.tmp 15)),
 oo 17 (.iadr (some 16) 1 (.tmp 4) (.tmp 13)),
 ⟨none, .store 1 (.tmp 17) (.tmp 16), none⟩]))
 (.ops [om 11 5,
 oo 12 (.bin .add (.tmp 11) (.const (.int .i64 1))),
 om 5 12]))))))
 (.seq (.ops [oo 18 (.load true 16 (.tmp 4)),
 ⟨none, .store 16 (.tmp 2) (.tmp 18), none⟩])
 .ret)))))⟩
def F49 : AFn := ⟨24, [.tmp 4],
 (.seq (.ops [oo 4 (.mov (.const .nilsl))])
 (.seq (.ops [om 7 0,
 oo 8 (.convi .u8 (.tmp 7)),
 oo 9 (.mklit 1 [.tmp 8]),
 om 5 9])
 (.seq (.seq (.ops [oo 6 (.mov (.const (.int .i64 0)))])
 (.block 0 (.loop (.seq (.seq (.ops [om 10 6,
 om 11 1,
 oo 12 (.lenl (.tmp 11)),
 oo 13 (.bin .lss (.tmp 10) (.tmp 12))])
 (.cond (.tmp 13) .skip
 (.exit 0)))
 (.seq (.block 1 (.ops [om 16 5,
 om 17 1,
 om 18 6,
 oo 19 (.iadr none 1 (.tmp 17) (.tmp 18)),
 oo 20 (.load false 1 (.tmp 19)),
 oo 21 (.call (.const (.func (.func 67) [] [])) [.tmp 20]),
 oo 22 (.append 1 1 false (.tmp 16) (.tmp 21)),
 om 5 22]))
 (.ops [om 14 6,
 oo 15 (.bin .add (.tmp 14) (.const (.int .i64 1))),
 om 6 15]))))))
 (.seq (.ops [om 23 5,
 om 4 23])
 .ret))))⟩
def F50 : AFn := ⟨10, [.tmp 2, .tmp 3, .tmp 4],
 (.seq (.ops [oo 2 (.mov (.const .nilsl)),
 oo 3 (.mov (.const (.int .i64 0))),
 oo 4 (.mov (.const (.int .i64 0)))])
 (.seq (.ops [om 5 0,
 oo 6 (.call (.const (.func (.func 68) [] [])) [.tmp 5, (.const (.int .i64 1)), (.const (.func (.func 69) [] []))]),
 oo 7 (.extr (.tmp 6) 0),
 oo 8 (.extr (.tmp 6) 1),
 oo 9 (.extr (.tmp 6) 2),
 om 2 7,
 om 3 8,
 om 4 9])
 .ret))⟩
def F51 : AFn := ⟨51, [.tmp 6, .tmp 7, .tmp 8],
 (.seq (.ops [oo 6 (.mov (.const .nilsl)),
 oo 7 (.mov (.const (.int .i64 0))),
 oo 8 (.mov (.const (.int .i64 0)))])
 (.seq (.ops [om 17 0,
 om 18 1,
 oo 19 (.call (.const (.func (.func 70) [] [])) [.tmp 17, .tmp 18]),
 om 16 19,
 oo 20 (.extr (.tmp 16) 0),
 oo 21 (.extr (.tmp 16) 1),
 oo 22 (.extr (.tmp 16) 2),
 om 9 20,
 om 10 21,
 om 11 22])
 (.seq (.seq (.ops [om 23 11,
 oo 24 (.bin .neq (.tmp 23) (.const (.int .i64 0)))])
 (.cond (.tmp 24) (.seq (.ops [om 25 11,
 oo 6 (.mov (.const .nilsl)),
 oo 7 (.mov (.const (.int .i64 0))),
 om 8 25])
 .ret)
 .skip))
 (.seq (.ops [oo 12 (.mov (.const .nilsl))])
 (.seq (.seq (.ops [om 26 9,
 oo 27 (.mov (.const (.int .i64 0)))])
 (.block 0 (.loop (.seq (.ops [oo 28 (.bin .lss (.tmp 27) (.tmp 26))])
 (.seq (.cond (.tmp 28) .skip
 (.exit 0))
 (.seq (.block 1 (.seq (.ops [om 30 2,
 om 31 0,
 om 32 10,
 oo 33 (.slsl 1 (.tmp 31) (some (.tmp 32)) none none),
 oo 34 (.call (.tmp 30) [.tmp 33]),
 om 29 34,
 oo 35 (.extr (.tmp 29) 0),
 oo 36 (.extr (.tmp 29) 1),
 oo 37 (.extr (.tmp 29) 2),
 oo 13 (.alloc [.int .u8 0, .int .u8 0, .int .u8 0, .int .u8 0, .int .u8 0, .int .u8 0, .int .u8 0, .int .u8 0, .int .u8 0, .int .u8 0, .int .u8 0, .int .u8 0, .int .u8 0, .int .u8 0, .int .u8 0, .int .u8 0]),
 ⟨none, .store 16 (.tmp 13) (.tmp 35), none⟩,
 om 14 36,
 om 15 37])
 (.seq (.seq (.ops [om 38 15,
 oo 39 (.bin .neq (.tmp 38) (.const (.int .i64 0)))])
 (.cond (.tmp 39) (.seq (.ops [om 40 15,
 oo 6 (.mov (.const .nilsl)),
 oo 7 (.mov (.const (.int .i64 0))),
 om 8 40])
 .ret)
 .skip))
 (.ops [om 41 12,
 oo 42 (.load true 16 (.tmp 13)),
 oo 43 (.mklit 16 [.tmp 42]),
 oo 44 (.append 16 16 false (.tmp 41) (.tmp 43)),
 om 45 10,
 om 46 14,
 oo 47 (.bin .add (.tmp 45) (.tmp 46)),
 om 12 44,
 om 10 47]))))
 (.ops [oo 48 (.bin .add (.tmp 27) (.const (.int .i64 1))),
 om 27 48])))))))
 (.seq (.ops [om 49 12,
 om 50 10,
 om 6 49,
 om 7 50,
 oo 8 (.mov (.const (.int .i64 0)))])
 .ret))))))⟩
end Go.Av.Pr
end
