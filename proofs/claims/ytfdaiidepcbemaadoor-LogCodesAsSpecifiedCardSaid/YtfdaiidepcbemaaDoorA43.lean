/-
  THE STATEMENT'S FUNCTION: it answers true.
-/
import Derived.Test.YtfdaiidepcbemaaDoorA42
import Derived.Test.YtfdaiidepcbemaaDoorA41
set_option linter.unusedVariables false
set_option linter.unusedSimpArgs false
section
namespace Go.Proofs.YtfdaiidepcbemaaDoor
open Go Go.Av Go.Av.Pr
set_option maxRecDepth 100000
attribute [local congr] FD2_congr stepK_congr condK_congr guardK_congr FC_congr FOps_congr thenF_congr inBlockF_congr
attribute [local irreducible] FC FOps FD2
/-- what a slice of bytes handed in is here -/
def IsBv (v : AV) (b : List Nat) : Prop := (v = .nilsl ∧ b = []) ∨ v = .lst 0 1 (bytesE b)
theorem IsBv.dec {v : AV} {b : List Nat} (h : IsBv v b) (hb : Bytes b) (hl : b.length < 2^30) (H : Heap) :
    Sound Tryd.prog gv 11 [v] H (.ret (.tup [.agg (entC (mvV (rdEnt b).x.moved) (rdEnt b).x), .int .i64 (rdEnt b).n, .int .i64 (rdEnt b).e])) H := by
  rcases h with ⟨rfl, rfl⟩ | rfl
  · exact dec_nil H
  · exact dec_ok hb hl 0 H
theorem IsBv.rdec {v : AV} {b : List Nat} (h : IsBv v b) (hb : Bytes b) (hl : b.length < 2^30) (H : Heap) :
    Sound Tryd.prog gv 12 [v] H (.ret (.agg (out41 (mvV (rdEnt b).x.moved) (rdEnt b)))) H := by
  rcases h with ⟨rfl, rfl⟩ | rfl
  · exact rdec_nil H
  · exact rdec_ok hb hl 0 H
theorem IsBv.lenl {v : AV} {b : List Nat} (h : IsBv v b) (ev : Arg → AV) (H : Heap) (x : Arg) (hx : ev x = v) : aop ev H (.lenl x) = some (.int .i64 b.length, H) := by
  rcases h with ⟨rfl, rfl⟩ | rfl
  · simp only [aop, hx]; rfl
  · simp only [aop, hx, bytesE_length]
theorem IsBv.elems {v : AV} {b : List Nat} (h : IsBv v b) (H : Heap) : elemsOf H 1 v = some (bytesE b) := by
  rcases h with ⟨rfl, rfl⟩ | rfl
  · rfl
  · simp [elemsOf]
theorem entC_len {mv : AV} {e : Ent} (h1 : e.certs.length = 16) (h2 : e.prev.length = 16) : (entC mv e).length = 39 := by
  simp [entC, bytesC_length, h1, h2]
theorem entC_mv (mv : AV) (e : Ent) : (entC mv e).getD 5 undefA = mv := rfl
/-- the code from the second Decode on -/
def f3R2 : ACode :=
 (.seq (.ops [oo 81 (.mklit 1 []),
 om 82 7,
 oo 83 (.append 1 1 false (.tmp 81) (.tmp 82)),
 om 84 1,
 oo 85 (.append 1 1 false (.tmp 83) (.tmp 84)),
 oo 86 (.call (.const (.func (.func 11) [] [])) [.tmp 85]),
 om 80 86,
 oo 87 (.extr (.tmp 80) 0),
 oo 88 (.extr (.tmp 80) 1),
 oo 89 (.extr (.tmp 80) 2),
 oo 12 (.alloc (entC .nilsl ent0)),
 ⟨none, .store 39 (.tmp 12) (.tmp 87), none⟩,
 om 13 88,
 om 14 89])
 (.seq (.ops [om 91 7,
 om 92 7,
 oo 93 (.lenl (.tmp 92)),
 oo 94 (.bin .sub (.tmp 93) (.const (.int .i64 1))),
 om 95 2,
 oo 96 (.convi .i64 (.tmp 95)),
 om 97 7,
 oo 98 (.lenl (.tmp 97)),
 oo 99 (.bin .rem (.tmp 96) (.tmp 98)),
 oo 100 (.bin .sub (.tmp 94) (.tmp 99)),
 oo 101 (.slsl 1 (.tmp 91) none (some (.tmp 100)) none),
 oo 102 (.call (.const (.func (.func 11) [] [])) [.tmp 101]),
 om 90 102,
 oo 103 (.extr (.tmp 90) 0),
 oo 104 (.extr (.tmp 90) 1),
 oo 105 (.extr (.tmp 90) 2),
 oo 15 (.alloc (entC .nilsl ent0)),
 ⟨none, .store 39 (.tmp 15) (.tmp 103), none⟩,
 om 16 104,
 om 17 105])
 (.seq (.ops [oo 106 (.call (.const (.func (.func 5) [] [])) []),
 om 107 106,
 ⟨some 108, .mov (.tmp 14), some (107, true)⟩,
 ⟨some 109, .bin .eql (.tmp 108) (.const (.int .i64 0)), some (107, true)⟩,
 oo 110 (.pick (.tmp 107) (.tmp 109) (.const (.bool false))),
 om 111 110,
 ⟨some 112, .mov (.tmp 13), some (111, true)⟩,
 ⟨some 113, .mov (.tmp 7), some (111, true)⟩,
 ⟨some 114, .lenl (.tmp 113), some (111, true)⟩,
 ⟨some 115, .bin .eql (.tmp 112) (.tmp 114), some (111, true)⟩,
 oo 116 (.pick (.tmp 111) (.tmp 115) (.const (.bool false))),
 om 117 116,
 ⟨some 118, .load true 39 (.tmp 12), some (117, true)⟩,
 ⟨some 119, .load true 39 (.tmp 3), some (117, true)⟩,
 ⟨some 120, .call (.const (.func (.func 13) [] [])) [.tmp 118, .tmp 119], some (117, true)⟩,
 oo 121 (.pick (.tmp 117) (.tmp 120) (.const (.bool false))),
 om 122 121,
 ⟨some 123, .mov (.tmp 17), some (122, true)⟩,
 ⟨some 124, .bin .eql (.tmp 123) (.const (.int .i64 11)), some (122, true)⟩,
 oo 125 (.pick (.tmp 122) (.tmp 124) (.const (.bool false))),
 om 6 125])
 .ret)))
theorem encE_len8 {e : Ent} (h : e.Ok) (h8 : e.moved.length ≤ 8) : (encE e).length ≤ 1322 := by
  have q1 := encInts_len h.nums (by show 7 < 2 ^ 30; omega)
  have q2 := moved_len h.moved
  have q3 := digs2_len h.certs h.prev
  have q4 : e.nums.length = 7 := rfl
  simp only [encE, List.length_append]
  omega
theorem append_lit {H : Heap} {ys : List (List AV)} (hne : ys ≠ []) (hl : ys.length ≤ 2 ^ 40) : appendA H 1 1 false (.lst 1 1 []) ys = some (.lst (H.next + 2) 1 ys, H.alloc .tok) := by
  unfold appendA
  rw [if_neg (by simpa using hne)]
  simp only [List.length_nil]
  rw [if_pos ⟨trivial, by omega⟩]
  rfl
set_option maxHeartbeats 1000000 in
theorem f3_rest2 {mv bv : AV} {e : Ent} {b : List Nat} {less : Int} (hE : e.Ok) (hm : IsMv mv e.moved) (h8 : e.moved.length ≤ 8) (hb : Bytes b) (hbv : IsBv bv b) (hb2 : b.length ≤ 2000) (hless0 : 0 ≤ less) (hless1 : less < 256)
    {H : Heap} (hHn : 5 ≤ H.next) (k0 : H.get 0 = some (.cells (entC mv e) false)) {f : Slt} (f1 : f 1 = bv) (f2 : f 2 = .int .u8 less) (f3 : f 3 = .ref 0 0) (f7 : f 7 = .lst 3 1 (bytesE (encE e))) :
    FC Tryd.prog gv 126 f3R2 f [] H (retF [.tmp 6] fun o h => o = .ret (.bool true)) := by
  unfold f3R2 om oo
  have hlen := encE_len8 hE h8
  have hzl : (entC .nilsl ent0).length = 39 := rfl
  have hcl := entC_length mv hE
  have hbytes := encE_bytes hE
  have hapl := append_lit (H := H) (ys := bytesE (encE e)) (bytesE_ne (encE_ne _)) (by rw [bytesE_length]; omega)
  obtain ⟨v, H1, a1, a2, a3⟩ := (Own.fresh H 1 (bytesE (encE e))).append (bytes := 1) (ys := bytesE b) (by simp only [bytesE_length]; omega)
  have hv : ∃ t, v = .lst t 1 (bytesE (encE e ++ b)) := by
    rcases a2 with ⟨_, h⟩ | ⟨k, h, _⟩
    · exact absurd (List.append_eq_nil_iff.1 h).1 (bytesE_ne (encE_ne _))
    · exact ⟨_, by rw [h, bytesE_append]⟩
  obtain ⟨t, rfl⟩ := hv
  have hel : ∀ H, elemsOf H 1 (.lst 3 1 (bytesE (encE e))) = some (bytesE (encE e)) := fun H => by simp [elemsOf]
  have hn1 : H.next + 1 ≤ H1.next := a3.next
  have k1 : H1.get 0 = some (.cells (entC mv e) false) := by
    rw [a3.get 0 (by simp only [tokOf]; intro h; injection h with h; omega) (by show 0 < H.next + 1; omega), Heap.get_alloc, if_neg (by omega)]
    exact k0
  have hbb : Bytes (encE e ++ b) := fun x hx => (List.mem_append.1 hx).elim (hbytes x) (hb x)
  have hSd := dec_ok hbb (by rw [List.length_append]; omega) t H1
  rw [rdEnt_app hE b] at hSd
  obtain ⟨V, hV⟩ : ∃ V, mvV e.moved = V := ⟨_, rfl⟩
  have hVm := mvV_is e.moved
  rw [hV] at hVm
  simp only [hV] at hSd
  have hyl := entC_length V hE
  refine FC_seq fun K hK => ?_
  simp only [symA, sy, AV.cells, AV.isTup, startF, Nat.reduceLT, Nat.reduceEqDiff, Nat.reduceAdd, sn, Nat.reduceLeDiff, Nat.reduceMul, Nat.reduceSub, Nat.reduceMod, Nat.reduceDiv, litA, f1, f7, hel, hapl, hbv.elems, a1]
  refine FOps_call (by decide) (by simp only [sm, symB, Nat.reduceEqDiff, startF]) (hSd) ?_
  simp only [symA, sy, AV.cells, AV.isTup, startF, Nat.reduceLT, Nat.reduceEqDiff, Nat.reduceAdd, sn, Nat.reduceLeDiff, Nat.reduceMul, Nat.reduceSub, Nat.reduceMod, Nat.reduceDiv, fop, Heap.cellsAt, sh, hyl, hzl]
  rw [splice_all (by rw [hyl, hzl])]
  apply hK
  clear hK K
  generalize hf : upd _ 14 _ = p
  have p2 : p 2 = .int .u8 less := by rw [← hf]; simp only [symB, ne_eq, Nat.reduceEqDiff, not_false_eq_true, f2]
  have p3 : p 3 = .ref 0 0 := by rw [← hf]; simp only [symB, ne_eq, Nat.reduceEqDiff, not_false_eq_true, f3]
  have p7 : p 7 = .lst 3 1 (bytesE (encE e)) := by rw [← hf]; simp only [symB, ne_eq, Nat.reduceEqDiff, not_false_eq_true, f7]
  have p12 : p 12 = .ref H1.next 0 := by rw [← hf]; simp only [symB, ne_eq, Nat.reduceEqDiff, not_false_eq_true]
  have p13 : p 13 = .int .i64 (encE e).length := by rw [← hf]; simp only [symB, ne_eq, Nat.reduceEqDiff, not_false_eq_true]
  have p14 : p 14 = .int .i64 0 := by rw [← hf]; simp only [symB, ne_eq, Nat.reduceEqDiff, not_false_eq_true]
  clear hf f1 f2 f3 f7 f
  obtain ⟨q, hq⟩ : ∃ q, H1.next = q := ⟨_, rfl⟩
  obtain ⟨E, hEh⟩ : ∃ E, (H1.alloc (.cells (entC .nilsl ent0) false)).set H1.next (.cells (entC V e) false) = E := ⟨_, rfl⟩
  have hEn : E.next = q + 1 := by rw [← hEh]; show H1.next + 1 = _; omega
  have e0 : E.get 0 = some (.cells (entC mv e) false) := by rw [← hEh, Heap.get_set, if_neg (by omega), Heap.get_alloc, if_neg (by omega)]; exact k1
  have e12 : E.get q = some (.cells (entC V e) false) := by rw [← hEh, hq]; exact get_set_self _ _ _
  rw [hEh]
  rw [hq] at p12
  clear hEh k1 k0 a1 a2 a3 hSd hapl
  have hlen0 : 0 < (encE e).length := List.length_pos_iff.mpr (encE_ne e)
  obtain ⟨k, hk⟩ : ∃ k : Nat, k = (encE e).length - 1 - less.toNat % (encE e).length := ⟨_, rfl⟩
  have hmod : less.toNat % (encE e).length < (encE e).length := Nat.mod_lt _ hlen0
  have w1 : IntKind.i64.wrap (((encE e).length : Int) - 1) = ((encE e).length : Int) - 1 := wrap_i64 (by omega) (by omega)
  have w2 : IntKind.i64.wrap less = less := wrap_i64 (by omega) (by omega)
  have w3 : less.tmod ((encE e).length : Int) = ((less.toNat % (encE e).length : Nat) : Int) := by
    obtain ⟨m, rfl⟩ := Int.eq_ofNat_of_zero_le hless0
    rfl
  have w4 : IntKind.i64.wrap (((encE e).length : Int) - 1 - ((less.toNat % (encE e).length : Nat) : Int)) = (k : Int) := by rw [wrap_i64 (by omega) (by omega)]; omega
  have hne0 : ((encE e).length : Int) ≠ 0 := by omega
  obtain ⟨t2, hsl⟩ : ∃ t2, sliceA 1 (.lst 3 1 (bytesE (encE e))) none (some k) none = some (.lst t2 1 (bytesE ((encE e).take k))) := by
    obtain ⟨tag', h⟩ := slice_mid 3 1 (els := bytesE (encE e)) (a := 0) (b := k) (Nat.zero_le _) (by rw [bytesE_length]; omega)
    refine ⟨tag', ?_⟩
    have h' : sliceA 1 (.lst 3 1 (bytesE (encE e))) none (some k) none = some (.lst tag' 1 (((bytesE (encE e)).drop 0).take (k - 0))) := h
    rw [h', List.drop_zero, Nat.sub_zero, bytesE, bytesE, List.map_take]
  have hSd := dec_ok (b := (encE e).take k) (fun x hx => hbytes x (List.mem_of_mem_take hx)) (by simp; omega) t2 E
  rw [rdEnt_prefix hE (by omega) (by omega)] at hSd
  have hSd' : Sound Tryd.prog gv 11 [.lst t2 1 (bytesE ((encE e).take k))] E (.ret (.tup [.agg (entC .nilsl ent0), .int .i64 0, .int .i64 11])) E := hSd
  refine FC_seq fun K hK => ?_
  simp only [symA, sy, AV.cells, AV.isTup, startF, Nat.reduceLT, Nat.reduceEqDiff, Nat.reduceAdd, sn, Nat.reduceLeDiff, Nat.reduceMul, Nat.reduceSub, Nat.reduceMod, Nat.reduceDiv, p2, p7, bytesE_length, w1, w2, w3, w4, if_neg hne0, optNat, asNat_nat, hsl, Option.isSome_none, Option.isSome_some, false_implies]
  refine FOps_call (by decide) (by simp only [sm, symB, Nat.reduceEqDiff, startF]) (hSd') ?_
  simp only [symA, sy, AV.cells, AV.isTup, startF, Nat.reduceLT, Nat.reduceEqDiff, Nat.reduceAdd, sn, Nat.reduceLeDiff, Nat.reduceMul, Nat.reduceSub, Nat.reduceMod, Nat.reduceDiv, fop, Heap.cellsAt, sh, hzl, hEn]
  rw [splice_all (by rw [hzl])]
  apply hK
  clear hK K
  generalize hf : upd _ 17 _ = f
  have f3 : f 3 = .ref 0 0 := by rw [← hf]; simp only [symB, ne_eq, Nat.reduceEqDiff, not_false_eq_true, p3]
  have f7 : f 7 = .lst 3 1 (bytesE (encE e)) := by rw [← hf]; simp only [symB, ne_eq, Nat.reduceEqDiff, not_false_eq_true, p7]
  have f12 : f 12 = .ref q 0 := by rw [← hf]; simp only [symB, ne_eq, Nat.reduceEqDiff, not_false_eq_true, p12]
  have f13 : f 13 = .int .i64 (encE e).length := by rw [← hf]; simp only [symB, ne_eq, Nat.reduceEqDiff, not_false_eq_true, p13]
  have f14 : f 14 = .int .i64 0 := by rw [← hf]; simp only [symB, ne_eq, Nat.reduceEqDiff, not_false_eq_true, p14]
  have f17 : f 17 = .int .i64 11 := by rw [← hf]; simp only [symB, ne_eq, Nat.reduceEqDiff, not_false_eq_true]
  clear hf p2 p3 p7 p12 p13 p14 p
  obtain ⟨L, hL⟩ : ∃ L, (E.alloc (.cells (entC .nilsl ent0) false)).set (q + 1) (.cells (entC .nilsl ent0) false) = L := ⟨_, rfl⟩
  have l0 : L.get 0 = some (.cells (entC mv e) false) := by rw [← hL, Heap.get_set, if_neg (by omega), Heap.get_alloc, if_neg (by omega)]; exact e0
  have l12 : L.get q = some (.cells (entC V e) false) := by rw [← hL, Heap.get_set, if_neg (by omega), Heap.get_alloc, if_neg (by omega)]; exact e12
  rw [hL]
  clear hL e0 e12 hSd hSd'
  have t39 : (entC mv e).take 39 = entC mv e := List.take_of_length_le (by omega)
  have t39' : (entC V e).take 39 = entC V e := List.take_of_length_le (by omega)
  refine FC_seq fun K hK => ?_
  simp only [symA, sy, AV.cells, AV.isTup, startF, Nat.reduceLT, Nat.reduceEqDiff, Nat.reduceAdd]
  refine FOps_call (by decide) (args := []) rfl (sanity_ok L) ?_
  simp only [symA, sy, AV.cells, AV.isTup, startF, Nat.reduceLT, Nat.reduceEqDiff, Nat.reduceAdd, sn, Nat.reduceLeDiff, Nat.reduceMul, Nat.reduceSub, Nat.reduceMod, Nat.reduceDiv, f3, f7, f12, f13, f14, bytesE_length, beq_self_eq_true, cellsAt_get l0, cellsAt_get l12, hcl, hyl, List.drop_zero, t39, t39']
  refine FOps_call (by decide) (by simp only [sm, symB, Nat.reduceEqDiff, startF]) (sameent_ok hE hE hVm hm L) ?_
  simp only [symA, sy, AV.cells, AV.isTup, startF, Nat.reduceLT, Nat.reduceEqDiff, Nat.reduceAdd, sn, Nat.reduceLeDiff, Nat.reduceMul, Nat.reduceSub, Nat.reduceMod, Nat.reduceDiv, decide_true, f17, beq_self_eq_true]
  apply hK
  simp only [symA, sy, AV.cells, AV.isTup, startF, Nat.reduceLT, Nat.reduceEqDiff, Nat.reduceAdd]
  exact ⟨rfl, _, by simp only [resFs, resF, symB, ne_eq, Nat.reduceEqDiff, not_false_eq_true]; rfl, rfl⟩
/-- the code from the first Decode on -/
def f3R : ACode :=
 (.seq (.ops [om 43 1,
 oo 44 (.call (.const (.func (.func 11) [] [])) [.tmp 43]),
 om 42 44,
 oo 45 (.extr (.tmp 42) 0),
 oo 46 (.extr (.tmp 42) 1),
 oo 47 (.extr (.tmp 42) 2),
 oo 8 (.alloc (entC .nilsl ent0)),
 ⟨none, .store 39 (.tmp 8) (.tmp 45), none⟩,
 om 9 46,
 om 10 47])
 (.seq (.ops [om 48 1,
 oo 49 (.call (.const (.func (.func 12) [] [])) [.tmp 48]),
 ⟨some 11, .alloc (out41 .nilsl ⟨ent0, 0, 0⟩), none⟩,
 ⟨none, .store 41 (.tmp 11) (.tmp 49), none⟩])
 (.seq (.seq (.draw [om 50 9,
 oo 51 (.fadr 39 (.tmp 11)),
 oo 52 (.load false 1 (.tmp 51)),
 oo 53 (.bin .neq (.tmp 50) (.tmp 52)),
 om 54 53,
 ⟨some 55, .mov (.tmp 10), some (54, false)⟩,
 ⟨some 56, .fadr 40 (.tmp 11), some (54, false)⟩,
 ⟨some 57, .load false 1 (.tmp 56), some (54, false)⟩,
 ⟨some 58, .bin .neq (.tmp 55) (.tmp 57), some (54, false)⟩,
 oo 59 (.pick (.tmp 54) (.const (.bool true)) (.tmp 58)),
 om 60 59,
 ⟨some 61, .load true 39 (.tmp 8), some (60, false)⟩,
 ⟨some 62, .fadr 0 (.tmp 11), some (60, false)⟩,
 ⟨some 63, .load true 39 (.tmp 62), some (60, false)⟩,
 ⟨some 64, .call (.const (.func (.func 13) [] [])) [.tmp 61, .tmp 63], some (60, false)⟩,
 ⟨some 65, .un .not (.tmp 64), some (60, false)⟩,
 oo 66 (.pick (.tmp 60) (.const (.bool true)) (.tmp 65)),
 om 67 66,
 ⟨some 68, .mov (.tmp 10), some (67, false)⟩,
 ⟨some 69, .bin .eql (.tmp 68) (.const (.int .i64 0)), some (67, false)⟩,
 ⟨some 70, .mov (.tmp 69), some (67, false)⟩,
 ⟨some 71, .load true 39 (.tmp 8), some (70, true)⟩,
 ⟨some 72, .call (.const (.func (.func 6) [] [])) [.tmp 71], some (70, true)⟩,
 ⟨some 73, .mov (.tmp 1), some (70, true)⟩,
 ⟨some 74, .mov (.tmp 9), some (70, true)⟩,
 ⟨some 75, .slsl 1 (.tmp 73) none (some (.tmp 74)) none, some (70, true)⟩,
 ⟨some 76, .call (.const (.func (.func 7) [] [])) [.tmp 72, .tmp 75], some (70, true)⟩,
 ⟨some 77, .un .not (.tmp 76), some (70, true)⟩,
 ⟨some 78, .pick (.tmp 70) (.tmp 77) (.const (.bool false)), some (67, false)⟩,
 oo 79 (.pick (.tmp 67) (.const (.bool true)) (.tmp 78))] [])
 (.cond (.tmp 79) (.seq (.ops [oo 6 (.mov (.const (.bool false)))])
 .ret)
 .skip))
 f3R2)))
theorem f3_rest {mv bv : AV} {e : Ent} {b : List Nat} {less : Int} (hE : e.Ok) (hm : IsMv mv e.moved) (h8 : e.moved.length ≤ 8) (hb : Bytes b) (hbv : IsBv bv b) (hb2 : b.length ≤ 2000) (hless0 : 0 ≤ less) (hless1 : less < 256)
    {D : Heap} (hDn : D.next = 3) (k0 : D.get 0 = some (.cells (entC mv e) false)) (d1 : D.get 1 = some .tok) {f : Slt} (f1 : f 1 = bv) (f2 : f 2 = .int .u8 less) (f3 : f 3 = .ref 0 0) (f7 : f 7 = .lst 3 1 (bytesE (encE e))) :
    FC Tryd.prog gv 126 f3R f [] D (retF [.tmp 6] fun o h => o = .ret (.bool true)) := by
  unfold f3R om oo
  have hzl : (entC .nilsl ent0).length = 39 := rfl
  have hzl2 : (out41 .nilsl ⟨ent0, 0, 0⟩).length = 41 := rfl
  have hSd := fun H => hbv.dec hb (by omega) H
  have hSr := fun H => hbv.rdec hb (by omega) H
  have hy0 := fun h => rdEnt_take (b := b) hb (by omega) h
  have hy1 := fun h => rdEnt_err (b := b) h
  obtain ⟨y, hy⟩ : ∃ y, rdEnt b = y := ⟨_, rfl⟩
  rw [hy] at hSd hSr hy0 hy1
  have ent0_ok : ent0.Ok := ⟨by intro x hx; simp [ent0, Ent.nums] at hx; subst hx; exact ⟨by decide, by decide⟩, by simp [ent0], by decide, rfl, rfl, by intro x hx; rw [List.eq_of_mem_replicate hx]; decide, by intro x hx; rw [List.eq_of_mem_replicate hx]; decide⟩
  have hyk : y.x.Ok := by
    by_cases h : y.e = 0
    · exact (hy0 h).1
    · rw [hy1 h]; exact ent0_ok
  have hym := mvV_is y.x.moved
  have hyl : (entC (mvV y.x.moved) y.x).length = 39 := entC_length _ hyk
  obtain ⟨V, hV⟩ : ∃ V, mvV y.x.moved = V := ⟨_, rfl⟩
  rw [hV] at hSd hSr hym hyl
  have hol : (out41 V y).length = 41 := by rw [out41, List.length_append, hyl]; rfl
  refine FC_seq fun K hK => ?_
  simp only [symA, sy, AV.cells, AV.isTup, startF, Nat.reduceLT, Nat.reduceEqDiff, Nat.reduceAdd, f1]
  refine FOps_call (by decide) (by simp only [sm, symB, Nat.reduceEqDiff, startF]) (hSd D) ?_
  simp only [symA, sy, AV.cells, AV.isTup, startF, Nat.reduceLT, Nat.reduceEqDiff, Nat.reduceAdd, sn, Nat.reduceLeDiff, Nat.reduceMul, Nat.reduceSub, Nat.reduceMod, Nat.reduceDiv, fop, Heap.cellsAt, sh, hyl, hDn, hzl]
  rw [splice_all (by rw [hyl, hzl])]
  apply hK
  clear hK K
  generalize hf : upd _ 10 _ = p
  have p1 : p 1 = bv := by rw [← hf]; simp only [symB, ne_eq, Nat.reduceEqDiff, not_false_eq_true, f1]
  have p2 : p 2 = .int .u8 less := by rw [← hf]; simp only [symB, ne_eq, Nat.reduceEqDiff, not_false_eq_true, f2]
  have p3 : p 3 = .ref 0 0 := by rw [← hf]; simp only [symB, ne_eq, Nat.reduceEqDiff, not_false_eq_true, f3]
  have p7 : p 7 = .lst 3 1 (bytesE (encE e)) := by rw [← hf]; simp only [symB, ne_eq, Nat.reduceEqDiff, not_false_eq_true, f7]
  have p8 : p 8 = .ref 3 0 := by rw [← hf]; simp only [symB, ne_eq, Nat.reduceEqDiff, not_false_eq_true]
  have p9 : p 9 = .int .i64 y.n := by rw [← hf]; simp only [symB, ne_eq, Nat.reduceEqDiff, not_false_eq_true]
  have p10 : p 10 = .int .i64 y.e := by rw [← hf]; simp only [symB, ne_eq, Nat.reduceEqDiff, not_false_eq_true]
  clear hf f1 f2 f3 f7 f
  obtain ⟨E, hEh⟩ : ∃ E, (D.alloc (.cells (entC .nilsl ent0) false)).set 3 (.cells (entC V y.x) false) = E := ⟨_, rfl⟩
  have hEn : E.next = 4 := by rw [← hEh]; show D.next + 1 = 4; omega
  have e0 : E.get 0 = some (.cells (entC mv e) false) := by rw [← hEh, Heap.get_set, if_neg (by decide), Heap.get_alloc, if_neg (by omega)]; exact k0
  have e1 : E.get 1 = some .tok := by rw [← hEh, Heap.get_set, if_neg (by decide), Heap.get_alloc, if_neg (by omega)]; exact d1
  have e3 : E.get 3 = some (.cells (entC V y.x) false) := by rw [← hEh]; exact get_set_self _ _ _
  rw [hEh]
  clear hEh k0 d1 hDn D
  refine FC_seq fun K hK => ?_
  simp only [symA, sy, AV.cells, AV.isTup, startF, Nat.reduceLT, Nat.reduceEqDiff, Nat.reduceAdd, p1]
  refine FOps_call (by decide) (by simp only [sm, symB, Nat.reduceEqDiff, startF]) (hSr E) ?_
  simp only [symA, sy, AV.cells, AV.isTup, startF, Nat.reduceLT, Nat.reduceEqDiff, Nat.reduceAdd, sn, Nat.reduceLeDiff, Nat.reduceMul, Nat.reduceSub, Nat.reduceMod, Nat.reduceDiv, fop, Heap.cellsAt, sh, hzl2, hol, hEn]
  rw [splice_all (by rw [hol, hzl2])]
  apply hK
  clear hK K
  generalize hf : upd _ 11 _ = f
  have f1 : f 1 = bv := by rw [← hf]; simp only [symB, ne_eq, Nat.reduceEqDiff, not_false_eq_true, p1]
  have f2 : f 2 = .int .u8 less := by rw [← hf]; simp only [symB, ne_eq, Nat.reduceEqDiff, not_false_eq_true, p2]
  have f3 : f 3 = .ref 0 0 := by rw [← hf]; simp only [symB, ne_eq, Nat.reduceEqDiff, not_false_eq_true, p3]
  have f7 : f 7 = .lst 3 1 (bytesE (encE e)) := by rw [← hf]; simp only [symB, ne_eq, Nat.reduceEqDiff, not_false_eq_true, p7]
  have f8 : f 8 = .ref 3 0 := by rw [← hf]; simp only [symB, ne_eq, Nat.reduceEqDiff, not_false_eq_true, p8]
  have f9 : f 9 = .int .i64 y.n := by rw [← hf]; simp only [symB, ne_eq, Nat.reduceEqDiff, not_false_eq_true, p9]
  have f10 : f 10 = .int .i64 y.e := by rw [← hf]; simp only [symB, ne_eq, Nat.reduceEqDiff, not_false_eq_true, p10]
  have f11 : f 11 = .ref 4 0 := by rw [← hf]; simp only [symB, ne_eq, Nat.reduceEqDiff, not_false_eq_true]
  clear hf p1 p2 p3 p7 p8 p9 p10 p
  obtain ⟨G, hGh⟩ : ∃ G, (E.alloc (.cells (out41 .nilsl ⟨ent0, 0, 0⟩) false)).set 4 (.cells (out41 V y) false) = G := ⟨_, rfl⟩
  have hGn : G.next = 5 := by rw [← hGh]; show E.next + 1 = 5; omega
  have e0' : G.get 0 = some (.cells (entC mv e) false) := by rw [← hGh, Heap.get_set, if_neg (by decide), Heap.get_alloc, if_neg (by omega)]; exact e0
  have e1' : G.get 1 = some .tok := by rw [← hGh, Heap.get_set, if_neg (by decide), Heap.get_alloc, if_neg (by omega)]; exact e1
  have e3' : G.get 3 = some (.cells (entC V y.x) false) := by rw [← hGh, Heap.get_set, if_neg (by decide), Heap.get_alloc, if_neg (by omega)]; exact e3
  have e4' : G.get 4 = some (.cells (out41 V y) false) := by rw [← hGh]; exact get_set_self _ _ _
  rw [hGh]
  clear hGh e0 e1 e3 hEn E
  have o39 : (out41 V y).getD 39 undefA = .int .i64 y.n := by
    rw [out41, getD_eq, List.getElem?_append_right (by omega), hyl]; rfl
  have o40 : (out41 V y).getD 40 undefA = .int .i64 y.e := by
    rw [out41, getD_eq, List.getElem?_append_right (by omega), hyl]; rfl
  have t39 : (entC V y.x).take 39 = entC V y.x := List.take_of_length_le (by omega)
  have o39t : (out41 V y).take 39 = entC V y.x := by
    rw [out41, List.take_append_of_le_length (by omega), t39]
  refine FC_seq fun K hK => ?_
  rw [FC_seqE]
  refine FC_draw0 (by decide) ?_
  simp only [symA, sy, AV.cells, AV.isTup, startF, Nat.reduceLT, Nat.reduceEqDiff, Nat.reduceAdd, symF, symFp, FD2_nil, ROp.readsId, idOf, reduceCtorEq, false_implies, implies_true, forall_const, true_and, and_true, List.not_mem_nil, List.mem_cons, or_false, false_or, Prod.mk.injEq, forall_eq, forall_eq_or_imp, forall_eq', Option.some.injEq, sn, Nat.reduceLeDiff, Nat.reduceMul, Nat.reduceSub, Nat.reduceMod, Nat.reduceDiv, f1, f8, f9, f10, f11, cellsAt_get e3', cellsAt_get e4', hol, hyl, o39, o40, List.drop_zero, t39, o39t, bne_self_eq_false]
  refine FD2_call (by decide) (by simp only [sm, symB, Nat.reduceEqDiff, startF]) (sameent_ok hyk hyk hym hym G) (Nat.le_refl _) (fun _ _ _ => rfl) ?_
  by_cases hye : y.e = 0
  · have he0 : (y.e == 0) = true := by rw [hye]; rfl
    obtain ⟨_, htk, hnl⟩ := hy0 hye
    have hbv' : bv = .lst 0 1 (bytesE b) := by
      rcases hbv with ⟨_, rfl⟩ | h
      · exact absurd hye (by rw [← hy]; decide)
      · exact h
    have hsl : ∃ tag', sliceA 1 bv none (some y.n) none = some (.lst tag' 1 (bytesE (encE y.x))) := by
      obtain ⟨tag', h⟩ := slice_mid 0 1 (els := bytesE b) (a := 0) (b := y.n) (Nat.zero_le _) (by rw [bytesE_length]; exact hnl)
      refine ⟨tag', ?_⟩
      rw [hbv']
      have h' : sliceA 1 (.lst 0 1 (bytesE b)) none (some y.n) none = some (.lst tag' 1 (((bytesE b).drop 0).take (y.n - 0))) := h
      rw [h', List.drop_zero, Nat.sub_zero, ← htk, bytesE, bytesE, List.map_take]
    obtain ⟨tag', hsl⟩ := hsl
    simp only [symA, sy, AV.cells, AV.isTup, startF, Nat.reduceLT, Nat.reduceEqDiff, Nat.reduceAdd, symF, symFp, FD2_nil, ROp.readsId, idOf, reduceCtorEq, false_implies, implies_true, forall_const, true_and, and_true, List.not_mem_nil, List.mem_cons, or_false, false_or, Prod.mk.injEq, forall_eq, forall_eq_or_imp, forall_eq', Option.some.injEq, sn, Nat.reduceLeDiff, Nat.reduceMul, Nat.reduceSub, Nat.reduceMod, Nat.reduceDiv, unA, decide_true, Bool.not_true, f1, f8, f9, f10, cellsAt_get e3', hyl, List.drop_zero, t39, he0]
    refine FD2_call (by decide) (by simp only [sm, symB, Nat.reduceEqDiff, startF]) (enc_ok hyk hym G) (by simp) (fun _ _ hx => by simp at hx) ?_
    simp only [symA, sy, AV.cells, AV.isTup, startF, Nat.reduceLT, Nat.reduceEqDiff, Nat.reduceAdd, symF, symFp, FD2_nil, ROp.readsId, idOf, reduceCtorEq, false_implies, implies_true, forall_const, true_and, and_true, List.not_mem_nil, List.mem_cons, or_false, false_or, Prod.mk.injEq, forall_eq, forall_eq_or_imp, forall_eq', Option.some.injEq, sn, Nat.reduceLeDiff, Nat.reduceMul, Nat.reduceSub, Nat.reduceMod, Nat.reduceDiv, f1, f9, optNat, asNat_nat, hsl, Option.isSome_none, Option.isSome_some]
    refine FD2_call (by decide) (by simp only [List.map_cons, List.map_nil, symB, ne_eq, Nat.reduceEqDiff, not_false_eq_true, Heap.cellsAt, sh, Nat.reduceAdd]) (same_ok (encE_bytes hyk) (encE_bytes hyk) (G.next + 2) tag' _) (Nat.le_refl _) (fun _ _ _ => rfl) ?_
    simp only [symA, sy, AV.cells, AV.isTup, startF, Nat.reduceLT, Nat.reduceEqDiff, Nat.reduceAdd, symF, symFp, FD2_nil, ROp.readsId, idOf, reduceCtorEq, false_implies, implies_true, forall_const, true_and, and_true, List.not_mem_nil, List.mem_cons, or_false, false_or, Prod.mk.injEq, forall_eq, forall_eq_or_imp, forall_eq', Option.some.injEq, sn, Nat.reduceLeDiff, Nat.reduceMul, Nat.reduceSub, Nat.reduceMod, Nat.reduceDiv, unA, decide_true, Bool.not_true]
    apply hK
    refine f3_rest2 hE hm h8 hb hbv hb2 hless0 hless1 (H := G.alloc .tok) (by show 5 ≤ G.next + 1; omega) ?_ ?_ ?_ ?_ ?_
    · rw [Heap.get_alloc, if_neg (by omega)]; exact e0'
    · simp only [symB, ne_eq, Nat.reduceEqDiff, not_false_eq_true, f1]
    · simp only [symB, ne_eq, Nat.reduceEqDiff, not_false_eq_true, f2]
    · simp only [symB, ne_eq, Nat.reduceEqDiff, not_false_eq_true, f3]
    · simp only [symB, ne_eq, Nat.reduceEqDiff, not_false_eq_true, f7]
  · have he0 : (y.e == 0) = false := by simp [hye]
    simp only [symA, sy, AV.cells, AV.isTup, startF, Nat.reduceLT, Nat.reduceEqDiff, Nat.reduceAdd, symF, symFp, FD2_nil, ROp.readsId, idOf, reduceCtorEq, false_implies, implies_true, forall_const, true_and, and_true, List.not_mem_nil, List.mem_cons, or_false, false_or, Prod.mk.injEq, forall_eq, forall_eq_or_imp, forall_eq', Option.some.injEq, sn, Nat.reduceLeDiff, Nat.reduceMul, Nat.reduceSub, Nat.reduceMod, Nat.reduceDiv, unA, decide_true, Bool.not_true, f1, f8, f9, f10, he0]
    apply hK
    refine f3_rest2 hE hm h8 hb hbv hb2 hless0 hless1 (H := G) (by omega) e0' ?_ ?_ ?_ ?_
    · simp only [symB, ne_eq, Nat.reduceEqDiff, not_false_eq_true, f1]
    · simp only [symB, ne_eq, Nat.reduceEqDiff, not_false_eq_true, f2]
    · simp only [symB, ne_eq, Nat.reduceEqDiff, not_false_eq_true, f3]
    · simp only [symB, ne_eq, Nat.reduceEqDiff, not_false_eq_true, f7]
theorem f3_body {mv bv : AV} {e : Ent} {b : List Nat} {less : Int} (hnums : ∀ x ∈ e.nums, I64 x) (hmoved : ∀ m ∈ e.moved, m.length = 14 ∧ ∀ x ∈ m, I64 x) (hn40 : e.moved.length < 2^63)
    (hc16 : e.certs.length = 16) (hp16 : e.prev.length = 16) (hcb : Bytes e.certs) (hpb : Bytes e.prev) (hm : IsMv mv e.moved) (hb : Bytes b) (hbv : IsBv bv b) (hless0 : 0 ≤ less) (hless1 : less < 256) :
    FC Tryd.prog gv 126 F3.body (startF [.agg (entC mv e), bv, .int .u8 less]) [] ⟨0, .nil⟩ (retF [.tmp 6] fun o h => o = .ret (.bool true)) := by
  have hcl : (entC mv e).length = 39 := entC_len hc16 hp16
  unfold F3 om oo
  have hz : [AV.int .i64 0, .int .i64 0, .int .i64 0, .int .i64 0, .int .i64 0, .nilsl, .int .u8 0, .int .u8 0, .int .u8 0, .int .u8 0, .int .u8 0, .int .u8 0, .int .u8 0, .int .u8 0, .int .u8 0, .int .u8 0, .int .u8 0, .int .u8 0, .int .u8 0, .int .u8 0, .int .u8 0, .int .u8 0, .int .i64 0, .int .u8 0, .int .u8 0, .int .u8 0, .int .u8 0, .int .u8 0, .int .u8 0, .int .u8 0, .int .u8 0, .int .u8 0, .int .u8 0, .int .u8 0, .int .u8 0, .int .u8 0, .int .u8 0, .int .u8 0, .int .u8 0] = entC .nilsl ent0 := rfl
  have hz2 : [AV.int .i64 0, .int .i64 0, .int .i64 0, .int .i64 0, .int .i64 0, .nilsl, .int .u8 0, .int .u8 0, .int .u8 0, .int .u8 0, .int .u8 0, .int .u8 0, .int .u8 0, .int .u8 0, .int .u8 0, .int .u8 0, .int .u8 0, .int .u8 0, .int .u8 0, .int .u8 0, .int .u8 0, .int .u8 0, .int .i64 0, .int .u8 0, .int .u8 0, .int .u8 0, .int .u8 0, .int .u8 0, .int .u8 0, .int .u8 0, .int .u8 0, .int .u8 0, .int .u8 0, .int .u8 0, .int .u8 0, .int .u8 0, .int .u8 0, .int .u8 0, .int .u8 0, .int .i64 0, .int .i64 0] = out41 .nilsl ⟨ent0, 0, 0⟩ := rfl
  rw [hz, hz2]
  have hzl : (entC .nilsl ent0).length = 39 := rfl
  have hzl2 : (out41 .nilsl ⟨ent0, 0, 0⟩).length = 41 := rfl
  clear hz hz2
  refine FC_seq fun K hK => ?_
  simp only [symA, sy, AV.cells, AV.isTup, startF, Nat.reduceLT, Nat.reduceEqDiff, Nat.reduceAdd, fop, Heap.cellsAt, sh]
  apply hK
  clear hK K
  obtain ⟨A, hA⟩ : ∃ A, Heap.alloc ⟨0, .nil⟩ (.cells (entC mv e) false) = A := ⟨_, rfl⟩
  have hAn : A.next = 1 := by rw [← hA]; rfl
  have g0 : A.get 0 = some (.cells (entC mv e) false) := by rw [← hA]; simp only [Heap.cellsAt, sh, Nat.reduceAdd, Nat.reduceEqDiff]
  rw [hA]
  clear hA
  have t39 : (entC mv e).take 39 = entC mv e := List.take_of_length_le (by rw [hcl]; omega)
  refine FC_seq fun K hK => ?_
  simp only [symA, sy, AV.cells, AV.isTup, startF, Nat.reduceLT, Nat.reduceEqDiff, Nat.reduceAdd, sn, Nat.reduceLeDiff, Nat.reduceMul, Nat.reduceSub, Nat.reduceMod, Nat.reduceDiv, cellsAt_get g0, hcl, List.drop_zero, t39, litA, List.mapM_cons]
  have hmvn : (mv = .nilsl ∧ e.moved.length = 0) ∨ ∃ els, mv = .lst 0 14 els ∧ els.length = e.moved.length := by
    rcases hm with ⟨h1, h2⟩ | h1
    · exact .inl ⟨h1, by rw [h2]; rfl⟩
    · exact .inr ⟨_, h1, by simp [mvE]⟩
  refine FOps_call (by decide) (by simp only [sm, symB, Nat.reduceEqDiff, startF]) (few_ok hcl (entC_mv mv e) hmvn hn40 A) ?_
  have fin5 : ∀ f : Slt, FOps Tryd.prog gv 126
            [⟨some 27, .call (.const (.func (.func 5) [] [])) [], none⟩, ⟨some 6, .mov (.tmp 27), none⟩]
            f [] A
            (thenF (fun f ds H => retF [ARes.tmp 6] (fun o h => o = Out.ret (AV.bool true)) AEx.ret f ds H)
              (thenF K (retF [ARes.tmp 6] fun o h => o = Out.ret (AV.bool true)))) := by
    intro f
    refine FOps_call (by decide) (args := []) rfl (sanity_ok A) ?_
    simp only [symA, sy, AV.cells, AV.isTup, startF, Nat.reduceLT, Nat.reduceEqDiff, Nat.reduceAdd]
    exact ⟨rfl, _, by simp only [resFs, resF, symB, ne_eq, Nat.reduceEqDiff, not_false_eq_true]; rfl, rfl⟩
  by_cases hn8 : e.moved.length ≤ 8
  · have hlm : ∀ A : Heap, _ := fun A => hbv.lenl (fun _ => bv) A (.tmp 0) rfl
    simp only [symC, symD, symE] at hlm
    simp only [symA, sy, AV.cells, AV.isTup, startF, Nat.reduceLT, Nat.reduceEqDiff, Nat.reduceAdd, unA, decide_eq_true hn8, Bool.not_true, hlm]
    by_cases hb2 : b.length ≤ 2000
    · refine ⟨fun h => absurd h (by omega), fun _ => ?_⟩
      apply hK
      clear hK K fin5
      have hE : e.Ok := ⟨hnums, hmoved, by omega, hc16, hp16, hcb, hpb⟩
      generalize hf : upd _ 26 _ = f
      have f1 : f 1 = bv := by rw [← hf]; simp only [symB, ne_eq, Nat.reduceEqDiff, not_false_eq_true, startF, List.getD_cons_zero, List.getD_cons_succ]
      have f2 : f 2 = .int .u8 less := by rw [← hf]; simp only [symB, ne_eq, Nat.reduceEqDiff, not_false_eq_true, startF, List.getD_cons_zero, List.getD_cons_succ]
      have f3 : f 3 = .ref 0 0 := by rw [← hf]; simp only [symB, ne_eq, Nat.reduceEqDiff, not_false_eq_true, startF, List.getD_cons_zero, List.getD_cons_succ]
      clear hf hlm
      refine FC_seq fun K hK => ?_
      simp only [symA, sy, AV.cells, AV.isTup, startF, Nat.reduceLT, Nat.reduceEqDiff, Nat.reduceAdd, sn, Nat.reduceLeDiff, Nat.reduceMul, Nat.reduceSub, Nat.reduceMod, Nat.reduceDiv, f3, cellsAt_get g0, hcl, List.drop_zero, t39]
      refine FOps_call (by decide) (by simp only [sm, symB, Nat.reduceEqDiff, startF]) (enc_ok hE hm A) ?_
      simp only [symA, sy, AV.cells, AV.isTup, startF, Nat.reduceLT, Nat.reduceEqDiff, Nat.reduceAdd]
      apply hK
      clear hK K
      rw [hAn]
      generalize hf : upd _ 7 _ = f'
      have h1 : f' 1 = bv := by rw [← hf]; simp only [symB, ne_eq, Nat.reduceEqDiff, not_false_eq_true, f1]
      have h2 : f' 2 = .int .u8 less := by rw [← hf]; simp only [symB, ne_eq, Nat.reduceEqDiff, not_false_eq_true, f2]
      have h3 : f' 3 = .ref 0 0 := by rw [← hf]; simp only [symB, ne_eq, Nat.reduceEqDiff, not_false_eq_true, f3]
      have h7 : f' 7 = .lst 3 1 (bytesE (encE e)) := by rw [← hf]; simp only [symB, ne_eq, Nat.reduceEqDiff, not_false_eq_true]
      clear hf f1 f2 f3 f
      obtain ⟨C, hC⟩ : ∃ C, A.alloc .tok = C := ⟨_, rfl⟩
      have hCn : C.next = 2 := by rw [← hC]; show A.next + 1 = 2; omega
      have c0 : C.get 0 = some (.cells (entC mv e) false) := by rw [← hC, Heap.get_alloc, if_neg (by omega)]; exact g0
      have c1 : C.get 1 = some .tok := by rw [← hC, Heap.get_alloc, if_pos hAn.symm]
      rw [hC]
      clear hC g0 hAn A
      refine FC_seq fun K hK => ?_
      rw [FC_seqE]
      refine FC_draw0 (by decide) ?_
      simp only [symA, sy, AV.cells, AV.isTup, startF, Nat.reduceLT, Nat.reduceEqDiff, Nat.reduceAdd, symF, symFp, FD2_nil, ROp.readsId, idOf, reduceCtorEq, false_implies, implies_true, forall_const, true_and, and_true, List.not_mem_nil, List.mem_cons, or_false, false_or, Prod.mk.injEq, forall_eq, forall_eq_or_imp, forall_eq', Option.some.injEq, sn, Nat.reduceLeDiff, Nat.reduceMul, Nat.reduceSub, Nat.reduceMod, Nat.reduceDiv, h3, h7, cellsAt_get c0, hcl, List.drop_zero, t39]
      refine FD2_call (by decide) (by simp only [sm, symB, Nat.reduceEqDiff, startF]) (renc_ok hE hm C) (by simp) (fun x hx _ => by simp only [List.mem_singleton] at hx; subst hx; rw [Heap.get_alloc, if_neg (by omega)]) ?_
      refine FD2_call (by decide) (by simp only [List.map_cons, List.map_nil, symB, ne_eq, Nat.reduceEqDiff, not_false_eq_true, Heap.cellsAt, sh, Nat.reduceAdd]) (same_ok (encE_bytes hE) (encE_bytes hE) 3 (C.next + 2) _) (Nat.le_refl _) (fun x _ hx => by simp at hx) ?_
      have eqb : ∀ l : List Nat, eqFlat (List.replicate l.length .i) (bytesC l) (bytesC l) = some true := by
        intro l
        induction l with
        | nil => rfl
        | cons x l ih =>
          show (if IntKind.u8 = IntKind.u8 then (eqFlat (List.replicate l.length .i) (bytesC l) (bytesC l)).map (((x : Int) == x) && ·) else none) = some true
          rw [if_pos rfl, ih]
          simp
      have eq16 : eqFlat [Sk.i, Sk.i, Sk.i, Sk.i, Sk.i, Sk.i, Sk.i, Sk.i, Sk.i, Sk.i, Sk.i, Sk.i, Sk.i, Sk.i, Sk.i, Sk.i] (bytesC (dig e)) (bytesC (dig e)) = some true := by
        have := eqb (dig e)
        rw [dig_length] at this
        exact this
      have k0 : (C.alloc .tok).get 0 = some (.cells (entC mv e) false) := by rw [Heap.get_alloc, if_neg (by omega)]; exact c0
      simp only [symA, sy, AV.cells, AV.isTup, startF, Nat.reduceLT, Nat.reduceEqDiff, Nat.reduceAdd, symF, symFp, FD2_nil, ROp.readsId, idOf, reduceCtorEq, false_implies, implies_true, forall_const, true_and, and_true, List.not_mem_nil, List.mem_cons, or_false, false_or, Prod.mk.injEq, forall_eq, forall_eq_or_imp, forall_eq', Option.some.injEq, sn, Nat.reduceLeDiff, Nat.reduceMul, Nat.reduceSub, Nat.reduceMod, Nat.reduceDiv, unA, decide_eq_true_eq, decide_true, Bool.not_true, h3, cellsAt_get k0, hcl, List.drop_zero, t39]
      refine FD2_call (by decide) (by simp only [sm, symB, Nat.reduceEqDiff, startF]) (dig_ok hE hm _) (Nat.le_refl _) (fun _ _ _ => rfl) ?_
      simp only [symA, sy, AV.cells, AV.isTup, startF, Nat.reduceLT, Nat.reduceEqDiff, Nat.reduceAdd, symF, symFp, FD2_nil, ROp.readsId, idOf, reduceCtorEq, false_implies, implies_true, forall_const, true_and, and_true, List.not_mem_nil, List.mem_cons, or_false, false_or, Prod.mk.injEq, forall_eq, forall_eq_or_imp, forall_eq', Option.some.injEq, sn, Nat.reduceLeDiff, Nat.reduceMul, Nat.reduceSub, Nat.reduceMod, Nat.reduceDiv, h3, cellsAt_get k0, hcl, List.drop_zero, t39]
      refine FD2_call (by decide) (by simp only [sm, symB, Nat.reduceEqDiff, startF]) (rdig_ok hE hm _) (Nat.le_refl _) (fun _ _ _ => rfl) ?_
      simp only [symA, sy, AV.cells, AV.isTup, startF, Nat.reduceLT, Nat.reduceEqDiff, Nat.reduceAdd, symF, symFp, FD2_nil, ROp.readsId, idOf, reduceCtorEq, false_implies, implies_true, forall_const, true_and, and_true, List.not_mem_nil, List.mem_cons, or_false, false_or, Prod.mk.injEq, forall_eq, forall_eq_or_imp, forall_eq', Option.some.injEq, sn, Nat.reduceLeDiff, Nat.reduceMul, Nat.reduceSub, Nat.reduceMod, Nat.reduceDiv, eq16, Bool.not_true]
      apply hK
      clear hK K eqb eq16
      generalize hf : upd _ 41 _ = f
      have f1 : f 1 = bv := by rw [← hf]; simp only [symB, ne_eq, Nat.reduceEqDiff, not_false_eq_true, h1]
      have f2 : f 2 = .int .u8 less := by rw [← hf]; simp only [symB, ne_eq, Nat.reduceEqDiff, not_false_eq_true, h2]
      have f3 : f 3 = .ref 0 0 := by rw [← hf]; simp only [symB, ne_eq, Nat.reduceEqDiff, not_false_eq_true, h3]
      have f7 : f 7 = .lst 3 1 (bytesE (encE e)) := by rw [← hf]; simp only [symB, ne_eq, Nat.reduceEqDiff, not_false_eq_true, h7]
      clear hf h1 h2 h3 h7 f'
      obtain ⟨D, hD⟩ : ∃ D, C.alloc .tok = D := ⟨_, rfl⟩
      have hDn : D.next = 3 := by rw [← hD]; show C.next + 1 = 3; omega
      have d1 : D.get 1 = some .tok := by rw [← hD, Heap.get_alloc, if_neg (by omega)]; exact c1
      rw [hD] at k0 ⊢
      clear hD c0 c1 hCn C
      exact f3_rest hE hm hn8 hb hbv hb2 hless0 hless1 hDn k0 d1 f1 f2 f3 f7
    · refine ⟨fun _ => fin5 _, fun h => absurd h (by omega)⟩
  · simp only [symA, sy, AV.cells, AV.isTup, startF, Nat.reduceLT, Nat.reduceEqDiff, Nat.reduceAdd, unA, decide_eq_false hn8, Bool.not_false]
    exact fin5 _
theorem f3_ok {mv bv : AV} {e : Ent} {b : List Nat} {less : Int} (hnums : ∀ x ∈ e.nums, I64 x) (hmoved : ∀ m ∈ e.moved, m.length = 14 ∧ ∀ x ∈ m, I64 x) (hn40 : e.moved.length < 2^63)
    (hc16 : e.certs.length = 16) (hp16 : e.prev.length = 16) (hcb : Bytes e.certs) (hpb : Bytes e.prev) (hm : IsMv mv e.moved) (hb : Bytes b) (hbv : IsBv bv b) (hless0 : 0 ≤ less) (hless1 : less < 256) (H : Heap) :
    Sound Tryd.prog gv 3 [.agg (entC mv e), bv, .int .u8 less] H (.ret (.bool true)) H := by
  obtain ⟨out, H', hout, hS⟩ := Sound_of_FC (R := fun o h => o = .ret (.bool true)) mixed is3 (args := [.agg (entC mv e), bv, .int .u8 less]) (by unfold F3 om oo; simp) (H := ⟨0, .nil⟩) (f3_body hnums hmoved hn40 hc16 hp16 hcb hpb hm hb hbv hless0 hless1)
  rw [hout] at hS
  have hbf : bv.free = true := by
    rcases hbv with ⟨rfl, _⟩ | rfl
    · rfl
    · simp [AV.free, freeLL_bytesE]
  exact hS.frame gfree (by simp [freeL, AV.free, freeL_entC hm, hbf]) (tk := none) (fun k' hk' => by cases hk') (n := 0) H (v' := .bool true) rfl
end Go.Proofs.YtfdaiidepcbemaaDoor
end
