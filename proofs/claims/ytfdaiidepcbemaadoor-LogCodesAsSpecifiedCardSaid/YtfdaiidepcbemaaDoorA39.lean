/-
  CONTRACTS: the reference's Decode.
-/
import Derived.Test.YtfdaiidepcbemaaDoorA38
set_option linter.unusedVariables false
set_option linter.unusedSimpArgs false
section
namespace Go.Proofs.YtfdaiidepcbemaaDoor
open Go Go.Av Go.Av.Pr
set_option maxRecDepth 100000
attribute [local congr] FD2_congr stepK_congr condK_congr guardK_congr FC_congr FOps_congr thenF_congr inBlockF_congr
attribute [local irreducible] FC FOps FD2
theorem splice_intsC (l : List Int) {i : Nat} (h : i < l.length) (x : Int) : splice (intsC l) i [.int .i64 x] = intsC (l.set i x) := by
  unfold splice intsC
  rw [List.map_set, List.set_eq_take_append_cons_drop, if_pos (by simpa using h)]
  simp
def cel1 (m : List Int) : Nat → List Int
  | 0 => [m.getD 0 0, 0, 0, 0, 0, 0, 0, 0, 0, 0, 0, 0, 0, 0]
  | i + 1 => (((cel1 m i).set (1 + i) (m.getD (1 + i) 0)).set (8 + i) (m.getD (8 + i) 0)).set (11 + i) (m.getD (11 + i) 0)
def cel2 (m : List Int) : Nat → List Int
  | 0 => cel1 m 3
  | j + 1 => (cel2 m j).set (4 + j) (m.getD (4 + j) 0)
theorem cel1_length (m : List Int) : ∀ i, (cel1 m i).length = 14
  | 0 => rfl
  | i + 1 => by simp [cel1, cel1_length m i]
theorem cel2_length (m : List Int) : ∀ i, (cel2 m i).length = 14
  | 0 => cel1_length m 3
  | i + 1 => by simp [cel2, cel2_length m i]
theorem cel2_4 {m : List Int} (h : m.length = 14) : cel2 m 4 = m := by
  match m, h with
  | [t, x0, x1, x2, q0, q1, q2, q3, v0, v1, v2, w0, w1, w2], _ => rfl
/-- ref46.moving -/
theorem moving_ok {m : List Int} (h : m.length = 14) (tag : Nat) (H : Heap) : Sound Tryd.prog gv 32 [.lst tag 1 (intsE m)] H (.ret (.agg (intsC m))) H := by
  refine Sound.tag0 ?_ tag
  obtain ⟨out, H', hout, hS⟩ := Sound_of_FC (R := fun o h => o = .ret (.agg (intsC m))) mixed is32 (args := [.lst 0 1 (intsE m)]) (by unfold F32 om oo; simp) (H := ⟨0, .nil⟩) (by
    show FC Tryd.prog gv 53 F32.body _ _ _ (retF [.cell 2 true 14] _)
    unfold F32 om oo
    have hz : [AV.int .i64 0, .int .i64 0, .int .i64 0, .int .i64 0, .int .i64 0, .int .i64 0, .int .i64 0, .int .i64 0, .int .i64 0, .int .i64 0, .int .i64 0, .int .i64 0, .int .i64 0, .int .i64 0] = intsC (List.replicate 14 0) := rfl
    rw [hz]
    have gI : ∀ i, i < 14 → (intsE m).getD i [] = [.int .i64 (m.getD i 0)] := fun i hi => intsE_getD m (by omega)
    refine FC_seq fun K hK => ?_
    simp only [symA, sy, AV.cells, AV.isTup, startF, Nat.reduceLT, Nat.reduceEqDiff, Nat.reduceAdd]
    apply hK
    clear hK K
    refine FC_seq fun K hK => ?_
    simp only [symA, sy, AV.cells, AV.isTup, startF, Nat.reduceLT, Nat.reduceEqDiff, Nat.reduceAdd]
    apply hK
    clear hK K
    have hrl : (intsC (List.replicate 14 0)).length = 14 := rfl
    have hs0 : splice (intsC (List.replicate 14 0)) 0 [.int .i64 (m.getD 0 0)] = intsC (cel1 m 0) := rfl
    refine FC_seq fun K hK => ?_
    simp only [symA, sy, AV.cells, AV.isTup, startF, Nat.reduceLT, Nat.reduceEqDiff, Nat.reduceAdd, sn, Nat.reduceLeDiff, Nat.reduceMul, Nat.reduceSub, Nat.reduceMod, Nat.reduceDiv, Heap.cellsAt, sh, show asNat (.int .i64 0) = some 0 from rfl, intsE_length, h, gI 0 (by omega), show 0 < 14 from by decide, hrl, hs0]
    apply hK
    clear hK K
    refine FC_seq fun K hK => ?_
    refine FC_seq fun K hK => ?_
    simp only [symA, sy, AV.cells, AV.isTup, startF, Nat.reduceLT, Nat.reduceEqDiff, Nat.reduceAdd]
    apply hK
    clear hK K
    refine FC_for (id := 0) (c := 11) (fun i f H => f 0 = .lst 0 1 (intsE m) ∧ f 2 = .ref 0 0 ∧ f 3 = .ref 1 0 ∧ f 4 = .int .i64 i ∧ H.get 0 = some (.cells (intsC (List.replicate 14 0)) false) ∧ H.get 1 = some (.cells (intsC (cel1 m i)) false)) 3 ?_ ?_ ?_ ?_
    · exact ⟨by simp only [symB, ne_eq, Nat.reduceEqDiff, not_false_eq_true, startF, List.getD_cons_zero], by simp only [symB, ne_eq, Nat.reduceEqDiff, not_false_eq_true, Heap.cellsAt, sh, Nat.reduceAdd], by simp only [symB, ne_eq, Nat.reduceEqDiff, not_false_eq_true, Heap.cellsAt, sh, Nat.reduceAdd], by simp only [symB, ne_eq, Nat.reduceEqDiff, not_false_eq_true]; rfl, by simp only [Heap.cellsAt, sh, Nat.reduceAdd, Nat.reduceEqDiff], by simp only [Heap.cellsAt, sh, Nat.reduceAdd, Nat.reduceEqDiff]⟩
    · rintro i f H hi ⟨h1, h2, h3, h4, h5⟩ K hK Q'
      simp only [symA, sy, AV.cells, AV.isTup, startF, Nat.reduceLT, Nat.reduceEqDiff, Nat.reduceAdd, h4]
      refine ⟨trivial, trivial, hK _ ?_ ⟨by simpa only [symB, ne_eq, Nat.reduceEqDiff, not_false_eq_true] using h1, by simpa only [symB, ne_eq, Nat.reduceEqDiff, not_false_eq_true] using h2, by simpa only [symB, ne_eq, Nat.reduceEqDiff, not_false_eq_true] using h3, by simpa only [symB, ne_eq, Nat.reduceEqDiff, not_false_eq_true] using h4, h5⟩⟩
      simp only [symB, ne_eq, Nat.reduceEqDiff, not_false_eq_true]
      exact congrArg _ (decide_eq_decide.mpr (by omega))
    · rintro i f H hi ⟨h0, h2, h3, h4, h5, h6⟩
      have w1 : IntKind.i64.wrap (1 + (i : Int)) = ((1 + i : Nat) : Int) := by rw [wrap_i64 (by omega) (by omega)]; simp
      have w8 : IntKind.i64.wrap (8 + (i : Int)) = ((8 + i : Nat) : Int) := by rw [wrap_i64 (by omega) (by omega)]; simp
      have w11 : IntKind.i64.wrap (11 + (i : Int)) = ((11 + i : Nat) : Int) := by rw [wrap_i64 (by omega) (by omega)]; simp
      refine FC_block (FC_seq fun K hK => ?_)
      simp only [symA, sy, AV.cells, AV.isTup, startF, Nat.reduceLT, Nat.reduceEqDiff, Nat.reduceAdd, sn, Nat.reduceLeDiff, Nat.reduceMul, Nat.reduceSub, Nat.reduceMod, Nat.reduceDiv, h0, h3, h4, w1, asNat_nat, intsE_length, h, show 1 + i < 14 by omega, gI (1 + i) (by omega), hi, h6, intsC_length, cel1_length, show 1 + i + 1 ≤ 14 by omega]
      rw [splice_intsC _ (by rw [cel1_length]; omega)]
      apply hK
      clear hK K
      refine FC_seq fun K hK => ?_
      simp only [symA, sy, AV.cells, AV.isTup, startF, Nat.reduceLT, Nat.reduceEqDiff, Nat.reduceAdd, sn, Nat.reduceLeDiff, Nat.reduceMul, Nat.reduceSub, Nat.reduceMod, Nat.reduceDiv, h0, h3, h4, w8, asNat_nat, intsE_length, h, show 8 + i < 14 by omega, gI (8 + i) (by omega), hi, get_set_self, intsC_length, cel1_length, List.length_set, show 8 + i + 1 ≤ 14 by omega]
      rw [splice_intsC _ (by rw [List.length_set, cel1_length]; omega)]
      apply hK
      clear hK K
      simp only [symA, sy, AV.cells, AV.isTup, startF, Nat.reduceLT, Nat.reduceEqDiff, Nat.reduceAdd, sn, Nat.reduceLeDiff, Nat.reduceMul, Nat.reduceSub, Nat.reduceMod, Nat.reduceDiv, h0, h3, h4, w11, asNat_nat, intsE_length, h, show 11 + i < 14 by omega, gI (11 + i) (by omega), hi, get_set_self, intsC_length, cel1_length, List.length_set, show 11 + i + 1 ≤ 14 by omega]
      rw [splice_intsC _ (by rw [List.length_set, List.length_set, cel1_length]; omega)]
      refine ⟨trivial, trivial, (by first | exact h0 | trivial), h2, (by first | exact h3 | trivial), ?_, by rw [Heap.get_set, if_neg (by decide), Heap.get_set, if_neg (by decide), Heap.get_set, if_neg (by decide)]; exact h5, rfl⟩
      rw [wrap_i64 (by omega) (by omega)]; rfl
    · rintro f H ⟨h0, h2, h3, h4, h5, h6⟩
      simp only [symA, sy, AV.cells, AV.isTup, startF, Nat.reduceLT, Nat.reduceEqDiff, Nat.reduceAdd]
      apply hK
      clear hK K
      refine FC_seq fun K hK => ?_
      refine FC_seq fun K hK => ?_
      simp only [symA, sy, AV.cells, AV.isTup, startF, Nat.reduceLT, Nat.reduceEqDiff, Nat.reduceAdd]
      apply hK
      clear hK K
      refine FC_for (id := 2) (c := 40) (fun i f H => f 0 = .lst 0 1 (intsE m) ∧ f 2 = .ref 0 0 ∧ f 3 = .ref 1 0 ∧ f 5 = .int .i64 i ∧ H.get 0 = some (.cells (intsC (List.replicate 14 0)) false) ∧ H.get 1 = some (.cells (intsC (cel2 m i)) false)) 4 ?_ ?_ ?_ ?_
      · exact ⟨by simpa only [symB, ne_eq, Nat.reduceEqDiff, not_false_eq_true] using h0, by simpa only [symB, ne_eq, Nat.reduceEqDiff, not_false_eq_true] using h2, by simpa only [symB, ne_eq, Nat.reduceEqDiff, not_false_eq_true] using h3, by simp only [symB, ne_eq, Nat.reduceEqDiff, not_false_eq_true]; rfl, h5, h6⟩
      · rintro i f H hi ⟨h1, h2, h3, h4, h5⟩ K hK Q'
        simp only [symA, sy, AV.cells, AV.isTup, startF, Nat.reduceLT, Nat.reduceEqDiff, Nat.reduceAdd, h4]
        refine ⟨trivial, trivial, hK _ ?_ ⟨by simpa only [symB, ne_eq, Nat.reduceEqDiff, not_false_eq_true] using h1, by simpa only [symB, ne_eq, Nat.reduceEqDiff, not_false_eq_true] using h2, by simpa only [symB, ne_eq, Nat.reduceEqDiff, not_false_eq_true] using h3, by simpa only [symB, ne_eq, Nat.reduceEqDiff, not_false_eq_true] using h4, h5⟩⟩
        simp only [symB, ne_eq, Nat.reduceEqDiff, not_false_eq_true]
        exact congrArg _ (decide_eq_decide.mpr (by omega))
      · rintro i f H hi ⟨h0, h2, h3, h4, h5, h6⟩
        have w4 : IntKind.i64.wrap (4 + (i : Int)) = ((4 + i : Nat) : Int) := by rw [wrap_i64 (by omega) (by omega)]; simp
        have e4 : 1 + 3 + i = 4 + i := by omega
        simp only [FC_blockE, symA, sy, AV.cells, AV.isTup, startF, Nat.reduceLT, Nat.reduceEqDiff, Nat.reduceAdd, sn, Nat.reduceLeDiff, Nat.reduceMul, Nat.reduceSub, Nat.reduceMod, Nat.reduceDiv, h0, h3, h4, w4, asNat_nat, intsE_length, h, show 4 + i < 14 by omega, gI (4 + i) (by omega), hi, h6, intsC_length, cel2_length, show 4 + i + 1 ≤ 14 by omega, e4]
        rw [splice_intsC _ (by rw [cel2_length]; omega)]
        refine ⟨trivial, trivial, (by first | exact h0 | trivial), h2, (by first | exact h3 | trivial), ?_, by rw [Heap.get_set, if_neg (by decide)]; exact h5, get_set_self _ _ _⟩
        rw [wrap_i64 (by omega) (by omega)]; rfl
      · rintro f H ⟨h0, h2, h3, h4, h5, h6⟩
        rw [cel2_4 h] at h6
        have hml : (intsC m).length = 14 := by rw [intsC_length, h]
        simp only [symA, sy, AV.cells, AV.isTup, startF, Nat.reduceLT, Nat.reduceEqDiff, Nat.reduceAdd]
        apply hK
        simp only [symA, sy, AV.cells, AV.isTup, startF, Nat.reduceLT, Nat.reduceEqDiff, Nat.reduceAdd, sn, Nat.reduceLeDiff, Nat.reduceMul, Nat.reduceSub, Nat.reduceMod, Nat.reduceDiv, h2, h3, cellsAt_get h6, h5, hml, hrl, List.drop_zero]
        rw [List.take_of_length_le (by omega)]
        simp only [symA, sy, AV.cells, AV.isTup, startF, Nat.reduceLT, Nat.reduceEqDiff, Nat.reduceAdd, hml]
        rw [splice_all (by rw [hml, hrl])]
        refine ⟨rfl, [.agg (intsC m)], ?_, rfl⟩
        simp only [resFs, resF, symA, sy, AV.cells, AV.isTup, startF, Nat.reduceLT, Nat.reduceEqDiff, Nat.reduceAdd, sn, Nat.reduceLeDiff, Nat.reduceMul, Nat.reduceSub, Nat.reduceMod, Nat.reduceDiv, h2, cellsAt_set, hml, List.drop_zero]
        rw [List.take_of_length_le (by omega)])
  rw [hout] at hS
  exact hS.frame gfree (by simp [freeL, AV.free, freeLL_intsE]) (tk := none) (fun k' hk' => by cases hk') (n := 0) H (v' := .agg (intsC m)) (by simp [Out.av, shutF, shut1, AV.free, freeL_intsC])
def out41 (v : AV) (r : Rd) : List AV := entC v r.x ++ [.int .i64 r.n, .int .i64 r.e]
def rdecR (b : List Nat) (o : Out) (H : Heap) : Prop := ∃ v, o = .ret (.agg (out41 v (rdEnt b))) ∧ OwnN H 14 v (mvE (rdEnt b).x.moved)
theorem rdec_fail {b : List Nat} (hr : rdEnt b = rdFail) {f : Slt} {H : Heap} {c0 : List AV} (h2 : f 2 = .ref 0 0) (g0 : H.get 0 = some (.cells (out41 .nilsl rdFail) false)) :
    retF [.cell 2 true 41] (rdecR b) .ret f [] H := by
  have hl : (out41 .nilsl rdFail).length = 41 := rfl
  refine ⟨rfl, [.agg (out41 .nilsl rdFail)], ?_, .nilsl, by rw [hr]; rfl, by rw [hr]; exact OwnN.nil _ _⟩
  simp only [resFs, resF, symA, sy, AV.cells, AV.isTup, startF, Nat.reduceLT, Nat.reduceEqDiff, Nat.reduceAdd, sn, Nat.reduceLeDiff, Nat.reduceMul, Nat.reduceSub, Nat.reduceMod, Nat.reduceDiv, Heap.cellsAt, sh, h2, g0, hl, List.drop_zero]
  rw [List.take_of_length_le (by rw [hl]; omega)]
theorem mix2 {A B : Prop} [Decidable A] [Decidable B] : (decide A || decide B) = decide (A ∨ B) := by
  by_cases A <;> by_cases B <;> simp [*]
set_option maxHeartbeats 1000000 in
theorem rdec_body {b : List Nat} (hb : Bytes b) (hl : b.length < 2^30) : FC Tryd.prog gv 125 F12.body (startF [.lst 0 1 (bytesE b)]) [] ⟨0, .nil⟩ (retF [.cell 2 true 41] (rdecR b)) := by
  unfold F12 om oo
  have hz : [AV.int .i64 0, .int .i64 0, .int .i64 0, .int .i64 0, .int .i64 0, .nilsl, .int .u8 0, .int .u8 0, .int .u8 0, .int .u8 0, .int .u8 0, .int .u8 0, .int .u8 0, .int .u8 0, .int .u8 0, .int .u8 0, .int .u8 0, .int .u8 0, .int .u8 0, .int .u8 0, .int .u8 0, .int .u8 0, .int .i64 0, .int .u8 0, .int .u8 0, .int .u8 0, .int .u8 0, .int .u8 0, .int .u8 0, .int .u8 0, .int .u8 0, .int .u8 0, .int .u8 0, .int .u8 0, .int .u8 0, .int .u8 0, .int .u8 0, .int .u8 0, .int .u8 0, .int .i64 0, .int .i64 0] = out41 .nilsl ⟨ent0, 0, 0⟩ := rfl
  rw [hz]
  have hzl : ∀ v r, r.x = ent0 → (out41 v r).length = 41 := fun v r h => by rw [out41, h]; rfl
  have hf : splice (out41 .nilsl ⟨ent0, 0, 0⟩) 40 [.int .i64 11] = out41 .nilsl rdFail := rfl
  have hfl : (out41 .nilsl rdFail).length = 41 := rfl
  have hz0l : (out41 .nilsl ⟨ent0, 0, 0⟩).length = 41 := rfl
  have hzf : splice (out41 .nilsl ⟨ent0, 0, 0⟩) 0 (out41 .nilsl rdFail) = out41 .nilsl rdFail := rfl
  refine FC_seq fun K hK => ?_
  simp only [symA, sy, AV.cells, AV.isTup, startF, Nat.reduceLT, Nat.reduceEqDiff, Nat.reduceAdd]
  apply hK
  clear hK K
  refine FC_seq fun K hK => ?_
  simp only [symA, sy, AV.cells, AV.isTup, startF, Nat.reduceLT, Nat.reduceEqDiff, Nat.reduceAdd, sn, Nat.reduceLeDiff, Nat.reduceMul, Nat.reduceSub, Nat.reduceMod, Nat.reduceDiv, Heap.cellsAt, sh, fillA, hz0l, hf, hfl, hzf]
  apply hK
  clear hK K
  obtain ⟨x, hx⟩ : ∃ x, gints b = x := ⟨_, rfl⟩
  have hxk := fun h => gints_ok (b := b) h
  have hS31 := rgetints_ok (b := b) (tag := 0) hb (by omega)
  have hrE : rdEnt b = _ := rfl
  conv at hrE => rhs; unfold rdEnt
  rw [hx] at hxk hrE hS31
  refine FC_seq fun K hK => ?_
  simp only [symA, sy, AV.cells, AV.isTup, startF, Nat.reduceLT, Nat.reduceEqDiff, Nat.reduceAdd]
  refine FOps_call (by decide) (by simp only [sm, symB, Nat.reduceEqDiff, startF]) (hS31 _) ?_
  simp only [symA, sy, AV.cells, AV.isTup, startF, Nat.reduceLT, Nat.reduceEqDiff, Nat.reduceAdd]
  apply hK
  clear hK K hS31
  obtain ⟨A, hA⟩ : ∃ A, ownH (((Heap.alloc ⟨0, .nil⟩ (.cells (out41 .nilsl ⟨ent0, 0, 0⟩) false)).alloc (.cells (out41 .nilsl ⟨ent0, 0, 0⟩) false)).set 1 (.cells (out41 .nilsl rdFail) false)) (intsE x.l) = A := ⟨_, rfl⟩
  rw [hA]
  have own0 : ∀ k cs, k < 2 → (((Heap.alloc ⟨0, .nil⟩ (.cells (out41 .nilsl ⟨ent0, 0, 0⟩) false)).alloc (.cells (out41 .nilsl ⟨ent0, 0, 0⟩) false)).set 1 (.cells (out41 .nilsl rdFail) false)).get k = some (.cells cs false) → A.get k = some (.cells cs false) := fun k cs hk hg => by
    rw [← hA]
    unfold ownH
    split
    · exact hg
    · rw [Heap.get_alloc, if_neg (by simp only [Heap.cellsAt, sh, Nat.reduceAdd, Nat.reduceEqDiff]; omega)]; exact hg
  have a0 := own0 0 (out41 .nilsl ⟨ent0, 0, 0⟩) (by omega) (by simp only [Heap.cellsAt, sh, Nat.reduceAdd, Nat.reduceEqDiff])
  have a1 := own0 1 (out41 .nilsl rdFail) (by omega) (by simp only [Heap.cellsAt, sh, Nat.reduceAdd, Nat.reduceEqDiff])
  have t41 : (out41 .nilsl rdFail).take 41 = out41 .nilsl rdFail := List.take_of_length_le (by rw [hfl]; omega)
  have i0 : asNat (.int .i64 0) = some 0 := rfl
  have i1 : asNat (.int .i64 1) = some 1 := rfl
  have i2 : asNat (.int .i64 2) = some 2 := rfl
  have i3 : asNat (.int .i64 3) = some 3 := rfl
  have i4 : asNat (.int .i64 4) = some 4 := rfl
  have i5 : asNat (.int .i64 5) = some 5 := rfl
  have i6 : asNat (.int .i64 6) = some 6 := rfl
  have hAfr : freeAt A 1 = true := by
    rw [← hA]
    unfold ownH
    split
    · simp only [freeAt, Heap.cellsAt, sh, Nat.reduceAdd, Nat.reduceEqDiff, Option.isNone_none, Bool.and_self, Nat.add_zero]
    · simp only [freeAt, Heap.cellsAt, sh, Nat.reduceAdd, Nat.reduceEqDiff, Option.isNone_none, Bool.and_self, Nat.add_zero]
  have hAn : 2 ≤ A.next := by
    rw [← hA]
    unfold ownH
    split
    · simp only [Heap.cellsAt, sh, Nat.reduceAdd, Nat.reduceEqDiff]; omega
    · simp only [Heap.cellsAt, sh, Nat.reduceAdd, Nat.reduceEqDiff]; omega
  have fin : ∀ (f : Slt) (H : Heap), rdEnt b = rdFail → f 2 = .ref 0 0 → H.get 0 = some (.cells (out41 .nilsl rdFail) false) → retF [.cell 2 true 41] (rdecR b) .ret f [] H := fun f H h1 h2 h3 => rdec_fail (c0 := []) h1 h2 h3
  have f2 : ∀ (a d : AV), (if true = true then a else d) = a := fun a d => if_pos rfl
  refine FC_seq fun K hK => ?_
  by_cases hx7 : x.e = 0 ∧ x.l.length = 7
  · rw [if_pos hx7] at hrE
    have hne : intsE x.l ≠ [] := intsE_ne (by intro h; rw [h] at hx7; simp at hx7)
    obtain ⟨hxn, hx0, hxi⟩ := hxk hx7.1
    have hv : ∀ H, ownV H 1 (intsE x.l) = .lst (H.next + 2) 1 (intsE x.l) := fun H => by rw [ownV, if_neg hne]
    obtain ⟨l0, l1, l2, l3, l4, l5, l6, hl7⟩ : ∃ l0 l1 l2 l3 l4 l5 l6, x.l = [l0, l1, l2, l3, l4, l5, l6] := by
      match hh : x.l, hx7.2 with
      | [l0, l1, l2, l3, l4, l5, l6], _ => exact ⟨l0, l1, l2, l3, l4, l5, l6, rfl⟩
    rw [hl7] at hrE hxi
    have hl6 : I64 l6 := hxi l6 (by simp)
    have hie : intsE x.l = [[.int .i64 l0], [.int .i64 l1], [.int .i64 l2], [.int .i64 l3], [.int .i64 l4], [.int .i64 l5], [.int .i64 l6]] := by rw [hl7]; rfl
    simp only [List.getD_cons_succ, List.getD_cons_zero] at hrE
    by_cases q1 : l6 < 0
    · rw [if_pos q1] at hrE
      simp only [hv, hx7.1]
      rw [hie]
      simp only [symA, sy, AV.cells, AV.isTup, startF, Nat.reduceLT, Nat.reduceEqDiff, Nat.reduceAdd, sn, Nat.reduceLeDiff, Nat.reduceMul, Nat.reduceSub, Nat.reduceMod, Nat.reduceDiv, show ((0 : Int) != 0) = false from rfl, show (((7 : Nat) : Int) != 7) = false from rfl, show ((((0 + 1 + 1 + 1 + 1 + 1 + 1 + 1 : Nat) : Nat) : Int) != 7) = false from rfl, i6, decide_eq_true q1, cellsAt_get a1, hfl, List.drop_zero, t41, a0, hz0l, hzf]
      exact fin _ _ hrE (by simp only [symB, ne_eq, Nat.reduceEqDiff, not_false_eq_true]) (get_set_self _ _ _)
    · rw [if_neg q1] at hrE
      obtain ⟨N, hN⟩ : ∃ N : Nat, l6 = N := ⟨l6.toNat, by omega⟩
      have hN63 : (N : Int) < 2^63 := by have := hl6.2; omega
      rw [hN, Int.toNat_natCast] at hrE
      have q1' : decide ((N : Int) < 0) = false := decide_eq_false (by omega)
      by_cases q2 : (N : Int) > b.length
      · have hno : rdMoves b N x.n = none := by
          cases hm : rdMoves b N x.n with
          | none => rfl
          | some p =>
            obtain ⟨l, z⟩ := p
            obtain ⟨z1, z2, _⟩ := rdMoves_at hxn hm
            omega
        rw [hno] at hrE
        simp only [hv, hx7.1]
        rw [hie, hN]
        simp only [symA, sy, AV.cells, AV.isTup, startF, Nat.reduceLT, Nat.reduceEqDiff, Nat.reduceAdd, sn, Nat.reduceLeDiff, Nat.reduceMul, Nat.reduceSub, Nat.reduceMod, Nat.reduceDiv, show ((0 : Int) != 0) = false from rfl, show (((7 : Nat) : Int) != 7) = false from rfl, i6, q1', bytesE_length, decide_eq_true q2, cellsAt_get a1, hfl, List.drop_zero, t41, a0, hz0l, hzf]
        exact fin _ _ hrE (by simp only [symB, ne_eq, Nat.reduceEqDiff, not_false_eq_true]) (get_set_self _ _ _)
      · simp only [hv, hx7.1]
        rw [hie, hN]
        simp only [symA, sy, AV.cells, AV.isTup, startF, Nat.reduceLT, Nat.reduceEqDiff, Nat.reduceAdd, sn, Nat.reduceLeDiff, Nat.reduceMul, Nat.reduceSub, Nat.reduceMod, Nat.reduceDiv, show ((0 : Int) != 0) = false from rfl, show (((7 : Nat) : Int) != 7) = false from rfl, i6, q1', bytesE_length, decide_eq_false q2]
        apply hK
        clear hK K
        obtain ⟨E, hE⟩ : ∃ E : Ent, E = ⟨l0, l1, l2, l3, l4, [], List.replicate 16 0, l5, List.replicate 16 0⟩ := ⟨_, rfl⟩
        have hEl : ∀ mv, (entC mv E).length = 39 := fun mv => by rw [hE]; rfl
        have hbd : [AV.int .i64 l0, .int .i64 l1, .int .i64 l2, .int .i64 l3, .int .i64 l4, .nilsl, .int .u8 0, .int .u8 0, .int .u8 0, .int .u8 0, .int .u8 0, .int .u8 0, .int .u8 0, .int .u8 0, .int .u8 0, .int .u8 0, .int .u8 0, .int .u8 0, .int .u8 0, .int .u8 0, .int .u8 0, .int .u8 0, .int .i64 l5, .int .u8 0, .int .u8 0, .int .u8 0, .int .u8 0, .int .u8 0, .int .u8 0, .int .u8 0, .int .u8 0, .int .u8 0, .int .u8 0, .int .u8 0, .int .u8 0, .int .u8 0, .int .u8 0, .int .u8 0, .int .u8 0] = entC .nilsl E := by rw [hE]; rfl
        refine FC_seq fun K hK => ?_
        refine FC_draw' 1 (by decide) hAfr fun B hBn eB => ?_
        have b0 : B.get 0 = some (.cells (out41 .nilsl ⟨ent0, 0, 0⟩) false) := by rw [eB]; exact a0
        have b1 : B.get 1 = some (.cells (out41 .nilsl rdFail) false) := by rw [eB]; exact a1
        obtain ⟨nw, hnw⟩ : ∃ nw, A.next = nw := ⟨_, rfl⟩
        rw [hnw] at hBn hAn ⊢
        simp only [symA, sy, AV.cells, AV.isTup, startF, Nat.reduceLT, Nat.reduceEqDiff, Nat.reduceAdd, symF, symFp, FD2_nil, ROp.readsId, idOf, reduceCtorEq, false_implies, implies_true, forall_const, true_and, and_true, List.not_mem_nil, List.mem_cons, or_false, false_or, Prod.mk.injEq, forall_eq, forall_eq_or_imp, forall_eq', Option.some.injEq, sn, Nat.reduceLeDiff, Nat.reduceMul, Nat.reduceSub, Nat.reduceMod, Nat.reduceDiv, sl, splice, i0, i1, i2, i3, i4, i5, fillA, get_set_self, hbd, hEl, Heap.next_set]
        apply hK
        clear hK K
        obtain ⟨Z, hZ⟩ : ∃ Z, [AV.int .i64 0, .int .i64 0, .int .i64 0, .int .i64 0, .int .i64 0, .nilsl, .int .u8 0, .int .u8 0, .int .u8 0, .int .u8 0, .int .u8 0, .int .u8 0, .int .u8 0, .int .u8 0, .int .u8 0, .int .u8 0, .int .u8 0, .int .u8 0, .int .u8 0, .int .u8 0, .int .u8 0, .int .u8 0, .int .i64 0, .int .u8 0, .int .u8 0, .int .u8 0, .int .u8 0, .int .u8 0, .int .u8 0, .int .u8 0, .int .u8 0, .int .u8 0, .int .u8 0, .int .u8 0, .int .u8 0, .int .u8 0, .int .u8 0, .int .u8 0, .int .u8 0] = Z := ⟨_, rfl⟩
        rw [hZ]
        obtain ⟨C, hC⟩ : ∃ C, (B.set nw (.cells Z false)).set nw (.cells (entC .nilsl E) false) = C := ⟨_, rfl⟩
        have hCn : C.next = nw + 1 := by rw [← hC, Heap.next_set, Heap.next_set]; exact hBn
        have c0 : C.get 0 = some (.cells (out41 .nilsl ⟨ent0, 0, 0⟩) false) := by rw [← hC, Heap.get_set, if_neg (by omega), Heap.get_set, if_neg (by omega)]; exact b0
        have c1 : C.get 1 = some (.cells (out41 .nilsl rdFail) false) := by rw [← hC, Heap.get_set, if_neg (by omega), Heap.get_set, if_neg (by omega)]; exact b1
        have cn : C.get nw = some (.cells (entC .nilsl E) false) := by rw [← hC]; exact get_set_self _ _ _
        rw [hC]
        clear hC hbd
        refine FC_seq fun K hK => ?_
        refine FC_seq fun K hK => ?_
        simp only [symA, sy, AV.cells, AV.isTup, startF, Nat.reduceLT, Nat.reduceEqDiff, Nat.reduceAdd]
        apply hK
        clear hK K
        refine FC_for (id := 0) (c := 67) (fun i f H => f 0 = .lst 0 1 (bytesE b) ∧ f 2 = .ref 0 0 ∧ f 3 = .ref 1 0 ∧ f 7 = .ref nw 0 ∧ f 4 = .lst 4 1 [[.int .i64 l0], [.int .i64 l1], [.int .i64 l2], [.int .i64 l3], [.int .i64 l4], [.int .i64 l5], [.int .i64 (N : Int)]] ∧ f 8 = .int .i64 i ∧ nw < H.next ∧
          ∃ (acc : List (List Int)) (a : Nat) (mv : AV), f 5 = .int .i64 (a : Int) ∧ a ≤ b.length ∧ H.get 0 = some (.cells (out41 .nilsl ⟨ent0, 0, 0⟩) false) ∧ H.get 1 = some (.cells (out41 .nilsl rdFail) false) ∧ H.get nw = some (.cells (entC mv E) false) ∧
            OwnN H 14 mv (mvE acc) ∧ acc.length = i ∧ i ≤ a ∧ rdMoves b N x.n = uptoM acc (rdMoves b (N - i) a)) N ?_ ?_ ?_ ?_
        · refine ⟨by simp only [symB, ne_eq, Nat.reduceEqDiff, not_false_eq_true, startF, List.getD_cons_zero], by simp only [symB, ne_eq, Nat.reduceEqDiff, not_false_eq_true], by simp only [symB, ne_eq, Nat.reduceEqDiff, not_false_eq_true], by simp only [symB, ne_eq, Nat.reduceEqDiff, not_false_eq_true], by simp only [symB, ne_eq, Nat.reduceEqDiff, not_false_eq_true, Heap.cellsAt, sh, Nat.reduceAdd], by simp only [symB, ne_eq, Nat.reduceEqDiff, not_false_eq_true]; rfl, by omega, [], x.n, .nilsl, by simp only [symB, ne_eq, Nat.reduceEqDiff, not_false_eq_true], hxn, c0, c1, cn, OwnN.nil _ _, rfl, by omega, ?_⟩
          rw [Nat.sub_zero]
          cases rdMoves b N x.n <;> rfl
        · rintro i f H hi ⟨h0, h2, h3, h7, h4, h8, hn, acc, a, mv, h5, h6⟩ K hK Q'
          simp only [symA, sy, AV.cells, AV.isTup, startF, Nat.reduceLT, Nat.reduceEqDiff, Nat.reduceAdd, sn, Nat.reduceLeDiff, Nat.reduceMul, Nat.reduceSub, Nat.reduceMod, Nat.reduceDiv, h4, h8, i6]
          refine ⟨trivial, trivial, hK _ ?_ ⟨by simpa only [symB, ne_eq, Nat.reduceEqDiff, not_false_eq_true] using h0, by simpa only [symB, ne_eq, Nat.reduceEqDiff, not_false_eq_true] using h2, by simpa only [symB, ne_eq, Nat.reduceEqDiff, not_false_eq_true] using h3, by simpa only [symB, ne_eq, Nat.reduceEqDiff, not_false_eq_true] using h7, by simpa only [symB, ne_eq, Nat.reduceEqDiff, not_false_eq_true] using h4, by simpa only [symB, ne_eq, Nat.reduceEqDiff, not_false_eq_true] using h8, hn, acc, a, mv, by simpa only [symB, ne_eq, Nat.reduceEqDiff, not_false_eq_true] using h5, h6⟩⟩
          simp only [symB, ne_eq, Nat.reduceEqDiff, not_false_eq_true]
          exact congrArg _ (decide_eq_decide.mpr (by omega))
        · rintro i f H hi ⟨h0, h2, h3, h7, h4, h8, hn, acc, a, mv, h5, ha, d0, d1, dn, hown, hacc, hia, hrm⟩
          obtain ⟨M, hM⟩ : ∃ M, N - i = M + 1 := ⟨N - i - 1, by omega⟩
          rw [hM] at hrm
          have hun : rdMoves b (M + 1) a = _ := rfl
          conv at hun => rhs; unfold rdMoves
          obtain ⟨y, hy⟩ : ∃ y, gints (b.drop a) = y := ⟨_, rfl⟩
          have hyk := fun h => gints_ok (b := b.drop a) h
          rw [hy] at hyk hun
          obtain ⟨tag', -, hsl⟩ := slice_from 0 1 (els := bytesE b) (a := a) (by rw [bytesE_length]; exact ha)
          rw [bytesE_drop] at hsl
          have hS31 := rgetints_ok (b := b.drop a) (tag := tag') (hb.drop a) (by simp; omega) H
          rw [hy] at hS31
          obtain ⟨H1, hH1⟩ : ∃ H1, ownH H (intsE y.l) = H1 := ⟨_, rfl⟩
          have own1 : ∀ k cs, k < H.next → H.get k = some (.cells cs false) → H1.get k = some (.cells cs false) := fun k cs hk hg => by
            rw [← hH1]
            unfold ownH
            split
            · exact hg
            · rw [Heap.get_alloc, if_neg (by omega)]; exact hg
          have k0 := own1 0 _ (by omega) d0
          have k1 := own1 1 _ (by omega) d1
          have kn := own1 nw _ (by omega) dn
          have hown1 : OwnN H1 14 mv (mvE acc) := by
            rw [← hH1]
            unfold ownH
            split
            · exact hown
            · exact hown.alloc _
          have hn1 : nw < H1.next := by
            rw [← hH1]
            unfold ownH
            split
            · exact hn
            · rw [Heap.next_alloc]; omega
          rw [hH1] at hS31
          refine FC_block (FC_seq fun K2 hK2 => ?_)
          simp only [symA, sy, AV.cells, AV.isTup, startF, Nat.reduceLT, Nat.reduceEqDiff, Nat.reduceAdd, h0, h5, optNat, asNat_nat, hsl, Option.isSome_none, false_implies]
          refine FOps_call (by decide) (by simp only [sm, symB, Nat.reduceEqDiff, startF]) (hS31) ?_
          simp only [symA, sy, AV.cells, AV.isTup, startF, Nat.reduceLT, Nat.reduceEqDiff, Nat.reduceAdd]
          apply hK2
          clear hK2 K2
          refine FC_seq fun K2 hK2 => ?_
          refine FC_seq fun K3 hK3 => ?_
          by_cases hy14 : y.e = 0 ∧ y.l.length = 14
          · have hne : intsE y.l ≠ [] := intsE_ne (by intro h; rw [h] at hy14; simp at hy14)
            obtain ⟨hyn, hy0, hyi⟩ := hyk hy14.1
            simp only [List.length_drop] at hyn
            rw [if_pos hy14] at hun
            have hvy : ownV H 1 (intsE y.l) = .lst (H.next + 2) 1 (intsE y.l) := by rw [ownV, if_neg hne]
            have hb14 : (((y.l.length : Nat) : Int) != 14) = false := by rw [hy14.2]; rfl
            simp only [symA, sy, AV.cells, AV.isTup, startF, Nat.reduceLT, Nat.reduceEqDiff, Nat.reduceAdd, hvy, hy14.1, show ((0 : Int) != 0) = false from rfl, intsE_length, hb14]
            apply hK3
            clear hK3 K3
            simp only [symA, sy, AV.cells, AV.isTup, startF, Nat.reduceLT, Nat.reduceEqDiff, Nat.reduceAdd]
            apply hK2
            clear hK2 K2
            have hmv5 : (entC mv E).getD 5 undefA = mv := rfl
            have hml : (intsC y.l).length = 14 := by rw [intsC_length, hy14.2]
            obtain ⟨mv', D', s1, s2, s3⟩ := hown1.append (bytes := 112) (e := intsC y.l) (by rw [mvE_length, hacc]; omega)
            have keep : ∀ k cs, k < H1.next → H1.get k = some (.cells cs false) → D'.get k = some (.cells cs false) := fun k cs hk hg => by
              rw [s3.get k (fun ht => by have := own_tok_get hown1.1 ht; rw [hg] at this; cases this) (by omega)]
              exact hg
            have hs3 := s3.next
            obtain ⟨tg', hmv'⟩ := OwnF.lst (.inl s2.1) (by simp)
            have hsp5 : List.take 5 (entC mv E) ++ [mv'] ++ List.drop 6 (entC mv E) = entC mv' E := rfl
            have f0' := keep nw _ hn1 kn
            refine FC_seq fun K2 hK2 => ?_
            refine FC_draw0 (by decide) ?_
            simp only [symA, sy, AV.cells, AV.isTup, startF, Nat.reduceLT, Nat.reduceEqDiff, Nat.reduceAdd, symF, symFp, FD2_nil, ROp.readsId, idOf, reduceCtorEq, false_implies, implies_true, forall_const, true_and, and_true, List.not_mem_nil, List.mem_cons, or_false, false_or, Prod.mk.injEq, forall_eq, forall_eq_or_imp, forall_eq', Option.some.injEq, sn, Nat.reduceLeDiff, Nat.reduceMul, Nat.reduceSub, Nat.reduceMod, Nat.reduceDiv, h7, cellsAt_get kn, hEl, hmv5]
            refine FD2_call (by decide) (by simp only [sm, symB, Nat.reduceEqDiff, startF]) (moving_ok hy14.2 (H.next + 2) H1) (Nat.le_refl _) (fun _ _ _ => rfl) ?_
            simp only [symA, sy, AV.cells, AV.isTup, startF, Nat.reduceLT, Nat.reduceEqDiff, Nat.reduceAdd, symF, symFp, FD2_nil, ROp.readsId, idOf, reduceCtorEq, false_implies, implies_true, forall_const, true_and, and_true, List.not_mem_nil, List.mem_cons, or_false, false_or, Prod.mk.injEq, forall_eq, forall_eq_or_imp, forall_eq', Option.some.injEq, sn, Nat.reduceLeDiff, Nat.reduceMul, Nat.reduceSub, Nat.reduceMod, Nat.reduceDiv, litA, hml, elemsOf, s1]
            refine ⟨by omega, ?_⟩
            subst hmv'
            simp only [symA, sy, AV.cells, AV.isTup, startF, Nat.reduceLT, Nat.reduceEqDiff, Nat.reduceAdd, symF, symFp, FD2_nil, ROp.readsId, idOf, reduceCtorEq, false_implies, implies_true, forall_const, true_and, and_true, List.not_mem_nil, List.mem_cons, or_false, false_or, Prod.mk.injEq, forall_eq, forall_eq_or_imp, forall_eq', Option.some.injEq, sn, Nat.reduceLeDiff, Nat.reduceMul, Nat.reduceSub, Nat.reduceMod, Nat.reduceDiv, h7, f0', hEl, splice, hsp5, Heap.next_set]
            apply hK2
            clear hK2 K2
            have hw : IntKind.i64.wrap ((a : Int) + (y.n : Int)) = ((a + y.n : Nat) : Int) := by rw [wrap_i64 (by omega) (by omega)]; simp
            simp only [symA, sy, AV.cells, AV.isTup, startF, Nat.reduceLT, Nat.reduceEqDiff, Nat.reduceAdd, h5, h8, hw]
            refine ⟨trivial, trivial, h0, h2, h3, (by first | exact h7 | trivial), h4, ?_, by first | omega | (simp only [Heap.next_set]; omega), acc ++ [y.l], a + y.n, _, rfl, by omega, ?_, ?_, get_set_self _ _ _, ?_, by simp [hacc], by omega, ?_⟩
            · rw [wrap_i64 (by omega) (by omega)]; rfl
            · rw [Heap.get_set, if_neg (by omega)]; exact keep 0 _ (by omega) k0
            · rw [Heap.get_set, if_neg (by omega)]; exact keep 1 _ (by omega) k1
            · refine ⟨(show Own D' 14 _ (mvE (acc ++ [y.l])) from ?_).set _ _ fun ht => ?_, fun hh => by simp [mvE] at hh⟩
              · rw [show mvE (acc ++ [y.l]) = mvE acc ++ [intsC y.l] by simp [mvE]]
                exact s2.1
              · have := own_tok_get s2.1 ht
                rw [f0'] at this
                cases this
            · rw [hrm, hun, show M = N - (i + 1) by omega]
              cases rdMoves b (N - (i + 1)) (a + y.n) with
              | none => rfl
              | some p => simp [uptoM]
          · rw [if_neg hy14] at hun
            rw [hrm, hun] at hrE
            by_cases hy0 : y.e = 0
            · have hyl : y.l.length ≠ 14 := fun h => hy14 ⟨hy0, h⟩
              have hb2 : (((y.l.length : Int)) != 14) = true := by simp; omega
              by_cases h : intsE y.l = []
              · have hvy : ownV H 1 (intsE y.l) = .nilsl := by rw [ownV, if_pos h]
                simp only [symA, sy, AV.cells, AV.isTup, startF, Nat.reduceLT, Nat.reduceEqDiff, Nat.reduceAdd, sn, Nat.reduceLeDiff, Nat.reduceMul, Nat.reduceSub, Nat.reduceMod, Nat.reduceDiv, hvy, hy0, show ((0 : Int) != 0) = false from rfl, show ((0 : Int) != 14) = true from rfl]
                apply hK3
                simp only [symA, sy, AV.cells, AV.isTup, startF, Nat.reduceLT, Nat.reduceEqDiff, Nat.reduceAdd, sn, Nat.reduceLeDiff, Nat.reduceMul, Nat.reduceSub, Nat.reduceMod, Nat.reduceDiv, h2, h3, cellsAt_get k1, hfl, List.drop_zero, t41, k0, hz0l, hzf]
                exact fin _ _ hrE (by simp only [symB, ne_eq, Nat.reduceEqDiff, not_false_eq_true]; exact h2) (get_set_self _ _ _)
              · have hvy : ownV H 1 (intsE y.l) = .lst (H.next + 2) 1 (intsE y.l) := by rw [ownV, if_neg h]
                simp only [symA, sy, AV.cells, AV.isTup, startF, Nat.reduceLT, Nat.reduceEqDiff, Nat.reduceAdd, sn, Nat.reduceLeDiff, Nat.reduceMul, Nat.reduceSub, Nat.reduceMod, Nat.reduceDiv, hvy, hy0, show ((0 : Int) != 0) = false from rfl, intsE_length, hb2]
                apply hK3
                simp only [symA, sy, AV.cells, AV.isTup, startF, Nat.reduceLT, Nat.reduceEqDiff, Nat.reduceAdd, sn, Nat.reduceLeDiff, Nat.reduceMul, Nat.reduceSub, Nat.reduceMod, Nat.reduceDiv, h2, h3, cellsAt_get k1, hfl, List.drop_zero, t41, k0, hz0l, hzf]
                exact fin _ _ hrE (by simp only [symB, ne_eq, Nat.reduceEqDiff, not_false_eq_true]; exact h2) (get_set_self _ _ _)
            · have hb1 : (y.e != 0) = true := by simp; omega
              simp only [symA, sy, AV.cells, AV.isTup, startF, Nat.reduceLT, Nat.reduceEqDiff, Nat.reduceAdd, sn, Nat.reduceLeDiff, Nat.reduceMul, Nat.reduceSub, Nat.reduceMod, Nat.reduceDiv, hb1]
              apply hK3
              simp only [symA, sy, AV.cells, AV.isTup, startF, Nat.reduceLT, Nat.reduceEqDiff, Nat.reduceAdd, sn, Nat.reduceLeDiff, Nat.reduceMul, Nat.reduceSub, Nat.reduceMod, Nat.reduceDiv, h2, h3, cellsAt_get k1, hfl, List.drop_zero, t41, k0, hz0l, hzf]
              exact fin _ _ hrE (by simp only [symB, ne_eq, Nat.reduceEqDiff, not_false_eq_true]; exact h2) (get_set_self _ _ _)
        · rintro f H ⟨h0, h2, h3, h7, h4, h8, hn, acc, a, mv, h5, ha, d0, d1, dn, hown, hacc, hia, hrm⟩
          rw [Nat.sub_self, rdMoves] at hrm
          simp only [uptoM, List.append_nil] at hrm
          rw [hrm] at hrE
          simp only at hrE
          simp only [symA, sy, AV.cells, AV.isTup, startF, Nat.reduceLT, Nat.reduceEqDiff, Nat.reduceAdd]
          apply hK
          clear hK K
          obtain ⟨d, hd⟩ : ∃ d, gdigs (b.drop a) = d := ⟨_, rfl⟩
          have hdk := fun h => gdigs_ok (hb.drop a) h
          rw [hd] at hrE hdk
          simp only [List.length_drop] at hdk
          obtain ⟨tag', -, hsl⟩ := slice_from 0 1 (els := bytesE b) (a := a) (by rw [bytesE_length]; exact ha)
          rw [bytesE_drop] at hsl
          have hS33 := rgetdigs_ok (b := b.drop a) (tag := tag') (hb.drop a) (by simp; omega) H
          rw [hd] at hS33
          obtain ⟨H1, hH1⟩ : ∃ H1, ownH H (digsE d.l) = H1 := ⟨_, rfl⟩
          have own1 : ∀ k cs, k < H.next → H.get k = some (.cells cs false) → H1.get k = some (.cells cs false) := fun k cs hk hg => by
            rw [← hH1]
            unfold ownH
            split
            · exact hg
            · rw [Heap.get_alloc, if_neg (by omega)]; exact hg
          have k0 := own1 0 _ (by omega) d0
          have k1 := own1 1 _ (by omega) d1
          have kn := own1 nw _ (by omega) dn
          have hown1 : OwnN H1 14 mv (mvE acc) := by
            rw [← hH1]
            unfold ownH
            split
            · exact hown
            · exact hown.alloc _
          rw [hH1] at hS33
          refine FC_seq fun K hK => ?_
          simp only [symA, sy, AV.cells, AV.isTup, startF, Nat.reduceLT, Nat.reduceEqDiff, Nat.reduceAdd, h0, h5, optNat, asNat_nat, hsl, Option.isSome_none, false_implies]
          refine FOps_call (by decide) (by simp only [sm, symB, Nat.reduceEqDiff, startF]) (hS33) ?_
          simp only [symA, sy, AV.cells, AV.isTup, startF, Nat.reduceLT, Nat.reduceEqDiff, Nat.reduceAdd]
          apply hK
          clear hK K
          refine FC_seq fun K hK => ?_
          refine FC_seq fun K3 hK3 => ?_
          by_cases hd2 : d.e = 0 ∧ d.l.length = 2
          · obtain ⟨dn', d16, dby⟩ := hdk hd2.1
            rw [rdEnd, if_pos hd2] at hrE
            obtain ⟨da, db, hdl⟩ : ∃ da db, d.l = [da, db] := by
              match hh : d.l, hd2.2 with
              | [da, db], _ => exact ⟨da, db, rfl⟩
            rw [hdl] at hrE d16
            have la := d16 da (by simp)
            have lb := d16 db (by simp)
            have hv2 : ownV H 16 (digsE d.l) = .lst (H.next + 2) 16 [bytesC da, bytesC db] := by rw [hdl]; rfl
            simp only [symA, sy, AV.cells, AV.isTup, startF, Nat.reduceLT, Nat.reduceEqDiff, Nat.reduceAdd, hv2, hd2.1, show ((0 : Int) != 0) = false from rfl, show (((2 : Nat) : Int) != 2) = false from rfl]
            apply hK3
            clear hK3 K3
            simp only [symA, sy, AV.cells, AV.isTup, startF, Nat.reduceLT, Nat.reduceEqDiff, Nat.reduceAdd]
            apply hK
            clear hK K
            have he6 : splice (entC mv E) 6 (bytesC da) = entC mv { E with certs := da } := by
              rw [entC, hE]
              simp only [splice, sl]
              rw [bytesC_length, la]
              rfl
            have he23 : splice (entC mv { E with certs := da }) 23 (bytesC db) = entC mv { E with certs := da, prev := db } := by
              have h1 : entC mv { E with certs := da } = (.int .i64 E.num :: .int .i64 E.kind :: .int .i64 E.op :: .int .i64 E.time :: .int .i64 E.halves :: mv :: (bytesC da ++ [.int .i64 E.cause])) ++ bytesC E.prev := by simp [entC]
              have h2 : entC mv { E with certs := da, prev := db } = (.int .i64 E.num :: .int .i64 E.kind :: .int .i64 E.op :: .int .i64 E.time :: .int .i64 E.halves :: mv :: (bytesC da ++ [.int .i64 E.cause])) ++ bytesC db := by simp [entC]
              have hl23 : 23 = (AV.int .i64 E.num :: .int .i64 E.kind :: .int .i64 E.op :: .int .i64 E.time :: .int .i64 E.halves :: mv :: (bytesC da ++ [.int .i64 E.cause])).length + 0 := by simp [bytesC_length, la]
              rw [h1, h2, hl23, splice_right, splice_all (by rw [bytesC_length, bytesC_length, lb, hE]; rfl)]
            have hE1l : (entC mv { E with certs := da }).length = 39 := by simp [entC, bytesC_length, la, hE]
            have hE2l : (entC mv { E with certs := da, prev := db }).length = 39 := by simp [entC, bytesC_length, la, lb]
            have t16a : (bytesC da).take 16 = bytesC da := List.take_of_length_le (by rw [bytesC_length, la]; omega)
            have t16b : (bytesC db).take 16 = bytesC db := List.take_of_length_le (by rw [bytesC_length, lb]; omega)
            have t39 : (entC mv { E with certs := da, prev := db }).take 39 = entC mv { E with certs := da, prev := db } := List.take_of_length_le (by rw [hE2l]; omega)
            have hsp1 : splice (out41 .nilsl ⟨ent0, 0, 0⟩) 0 (entC mv { E with certs := da, prev := db }) = entC mv { E with certs := da, prev := db } ++ [.int .i64 0, .int .i64 0] := by
              rw [out41, splice_left (by rw [hE2l]; exact Nat.le_refl _), splice_all (by rw [hE2l]; rfl)]
              rfl
            have hsp2 : ∀ n : Int, splice (entC mv { E with certs := da, prev := db } ++ [.int .i64 0, .int .i64 0]) 39 [.int .i64 n] = entC mv { E with certs := da, prev := db } ++ [.int .i64 n, .int .i64 0] := fun n => by
              have : 39 = (entC mv { E with certs := da, prev := db }).length + 0 := by rw [hE2l]
              rw [this, splice_right]
              rfl
            have hw : IntKind.i64.wrap ((a : Int) + (d.n : Int)) = ((a + d.n : Nat) : Int) := by rw [wrap_i64 (by omega) (by omega)]; simp
            refine FC_seq fun K hK => ?_
            simp only [symA, sy, AV.cells, AV.isTup, startF, Nat.reduceLT, Nat.reduceEqDiff, Nat.reduceAdd, sn, Nat.reduceLeDiff, Nat.reduceMul, Nat.reduceSub, Nat.reduceMod, Nat.reduceDiv, i0, bytesC_length, la, t16a, h7, kn, hEl, he6]
            apply hK
            clear hK K
            refine FC_seq fun K hK => ?_
            simp only [symA, sy, AV.cells, AV.isTup, startF, Nat.reduceLT, Nat.reduceEqDiff, Nat.reduceAdd, sn, Nat.reduceLeDiff, Nat.reduceMul, Nat.reduceSub, Nat.reduceMod, Nat.reduceDiv, i1, bytesC_length, lb, t16b, h7, get_set_self, hE1l, he23]
            apply hK
            clear hK K
            obtain ⟨H2, hH2⟩ : ∃ H2, (H1.set nw (.cells (entC mv { E with certs := da }) false)).set nw (.cells (entC mv { E with certs := da, prev := db }) false) = H2 := ⟨_, rfl⟩
            have m0 : H2.get 0 = some (.cells (out41 .nilsl ⟨ent0, 0, 0⟩) false) := by rw [← hH2, Heap.get_set, if_neg (by omega), Heap.get_set, if_neg (by omega)]; exact k0
            have mn : H2.get nw = some (.cells (entC mv { E with certs := da, prev := db }) false) := by rw [← hH2]; exact get_set_self _ _ _
            have mo : OwnN H2 14 mv (mvE acc) := by
              rw [← hH2]
              refine ⟨(hown1.1.set _ _ fun ht => ?_).set _ _ fun ht => ?_, hown1.2⟩ <;>
              · have := own_tok_get hown1.1 ht
                rw [kn] at this
                cases this
            rw [hH2]
            have hol : ∀ n : Int, (entC mv { E with certs := da, prev := db } ++ [AV.int .i64 n, .int .i64 0]).length = 41 := fun n => by rw [List.length_append, hE2l]; rfl
            have hsp3 : ∀ n : Int, splice (out41 .nilsl ⟨ent0, 0, 0⟩) 0 (entC mv { E with certs := da, prev := db } ++ [.int .i64 n, .int .i64 0]) = entC mv { E with certs := da, prev := db } ++ [.int .i64 n, .int .i64 0] := fun n => splice_all (by rw [hol, hz0l])
            refine FC_seq fun K hK => ?_
            simp only [symA, sy, AV.cells, AV.isTup, startF, Nat.reduceLT, Nat.reduceEqDiff, Nat.reduceAdd, sn, Nat.reduceLeDiff, Nat.reduceMul, Nat.reduceSub, Nat.reduceMod, Nat.reduceDiv, h2, h5, h7, cellsAt_get mn, hE2l, List.drop_zero, t39, hw, fillA, hz0l, hsp1, hsp2, hol 0, hol, m0, hsp3]
            apply hK
            simp only [symA, sy, AV.cells, AV.isTup, startF, Nat.reduceLT, Nat.reduceEqDiff, Nat.reduceAdd]
            refine ⟨rfl, [.agg (entC mv { E with certs := da, prev := db } ++ [.int .i64 ((a + d.n : Nat) : Int), .int .i64 0])], ?_, ?_⟩
            · simp only [resFs, resF, symA, sy, AV.cells, AV.isTup, startF, Nat.reduceLT, Nat.reduceEqDiff, Nat.reduceAdd, sn, Nat.reduceLeDiff, Nat.reduceMul, Nat.reduceSub, Nat.reduceMod, Nat.reduceDiv, Heap.cellsAt, sh, h2, hol, List.drop_zero]
              rw [List.take_of_length_le (by rw [hol]; omega)]
            · refine ⟨mv, ?_, ?_⟩
              · rw [hrE, hE]; rfl
              · rw [hrE]
                refine ⟨mo.1.set _ _ fun ht => ?_, mo.2⟩
                have := own_tok_get mo.1 ht
                rw [m0] at this
                cases this
          · rw [rdEnd, if_neg hd2] at hrE
            by_cases hd0 : d.e = 0
            · have hdl : d.l.length ≠ 2 := fun h => hd2 ⟨hd0, h⟩
              have hb2 : (((d.l.length : Int)) != 2) = true := by simp; omega
              by_cases hz0 : digsE d.l = []
              · have hv2 : ownV H 16 (digsE d.l) = .nilsl := by rw [ownV, if_pos hz0]
                simp only [symA, sy, AV.cells, AV.isTup, startF, Nat.reduceLT, Nat.reduceEqDiff, Nat.reduceAdd, hv2, hd0, show ((0 : Int) != 0) = false from rfl, show ((0 : Int) != 2) = true from rfl]
                apply hK3
                simp only [symA, sy, AV.cells, AV.isTup, startF, Nat.reduceLT, Nat.reduceEqDiff, Nat.reduceAdd, sn, Nat.reduceLeDiff, Nat.reduceMul, Nat.reduceSub, Nat.reduceMod, Nat.reduceDiv, h2, h3, cellsAt_get k1, hfl, List.drop_zero, t41, k0, hz0l, hzf]
                exact fin _ _ hrE (by simp only [symB, ne_eq, Nat.reduceEqDiff, not_false_eq_true]; exact h2) (get_set_self _ _ _)
              · have hv2 : ownV H 16 (digsE d.l) = .lst (H.next + 2) 16 (digsE d.l) := by rw [ownV, if_neg hz0]
                simp only [symA, sy, AV.cells, AV.isTup, startF, Nat.reduceLT, Nat.reduceEqDiff, Nat.reduceAdd, hv2, hd0, show ((0 : Int) != 0) = false from rfl, digsE_length, hb2]
                apply hK3
                simp only [symA, sy, AV.cells, AV.isTup, startF, Nat.reduceLT, Nat.reduceEqDiff, Nat.reduceAdd, sn, Nat.reduceLeDiff, Nat.reduceMul, Nat.reduceSub, Nat.reduceMod, Nat.reduceDiv, h2, h3, cellsAt_get k1, hfl, List.drop_zero, t41, k0, hz0l, hzf]
                exact fin _ _ hrE (by simp only [symB, ne_eq, Nat.reduceEqDiff, not_false_eq_true]; exact h2) (get_set_self _ _ _)
            · have hb1 : (d.e != 0) = true := by simp; omega
              simp only [symA, sy, AV.cells, AV.isTup, startF, Nat.reduceLT, Nat.reduceEqDiff, Nat.reduceAdd, hb1]
              apply hK3
              simp only [symA, sy, AV.cells, AV.isTup, startF, Nat.reduceLT, Nat.reduceEqDiff, Nat.reduceAdd, sn, Nat.reduceLeDiff, Nat.reduceMul, Nat.reduceSub, Nat.reduceMod, Nat.reduceDiv, h2, h3, cellsAt_get k1, hfl, List.drop_zero, t41, k0, hz0l, hzf]
              exact fin _ _ hrE (by simp only [symB, ne_eq, Nat.reduceEqDiff, not_false_eq_true]; exact h2) (get_set_self _ _ _)
  · rw [if_neg hx7] at hrE
    by_cases hx0 : x.e = 0
    · have hxl : x.l.length ≠ 7 := fun h => hx7 ⟨hx0, h⟩
      have hb2 : (((x.l.length : Int)) != 7) = true := by simp; omega
      by_cases h : intsE x.l = []
      · have hl0 : x.l = [] := by simpa [intsE] using h
        have hv : ∀ H, ownV H 1 (intsE x.l) = .nilsl := fun H => by rw [ownV, if_pos h]
        simp only [hv, hx0]
        simp only [symA, sy, AV.cells, AV.isTup, startF, Nat.reduceLT, Nat.reduceEqDiff, Nat.reduceAdd, sn, Nat.reduceLeDiff, Nat.reduceMul, Nat.reduceSub, Nat.reduceMod, Nat.reduceDiv, show ((0 : Int) != 0) = false from rfl, show ((0 : Int) != 7) = true from rfl, cellsAt_get a1, hfl, List.drop_zero, t41, a0, hz0l, hzf]
        exact fin _ _ hrE (by simp only [symB, ne_eq, Nat.reduceEqDiff, not_false_eq_true]) (get_set_self _ _ _)
      · have hv : ∀ H, ownV H 1 (intsE x.l) = .lst (H.next + 2) 1 (intsE x.l) := fun H => by rw [ownV, if_neg h]
        simp only [hv, hx0]
        simp only [symA, sy, AV.cells, AV.isTup, startF, Nat.reduceLT, Nat.reduceEqDiff, Nat.reduceAdd, sn, Nat.reduceLeDiff, Nat.reduceMul, Nat.reduceSub, Nat.reduceMod, Nat.reduceDiv, show ((0 : Int) != 0) = false from rfl, intsE_length, hb2, cellsAt_get a1, hfl, List.drop_zero, t41, a0, hz0l, hzf]
        exact fin _ _ hrE (by simp only [symB, ne_eq, Nat.reduceEqDiff, not_false_eq_true]) (get_set_self _ _ _)
    · have hb1 : (x.e != 0) = true := by simp; omega
      simp only [symA, sy, AV.cells, AV.isTup, startF, Nat.reduceLT, Nat.reduceEqDiff, Nat.reduceAdd, sn, Nat.reduceLeDiff, Nat.reduceMul, Nat.reduceSub, Nat.reduceMod, Nat.reduceDiv, hb1, cellsAt_get a1, hfl, List.drop_zero, t41, a0, hz0l, hzf]
      exact fin _ _ hrE (by simp only [symB, ne_eq, Nat.reduceEqDiff, not_false_eq_true]) (get_set_self _ _ _)
/-- ref46.Decode -/
theorem rdec_ok {b : List Nat} (hb : Bytes b) (hl : b.length < 2^30) (tag : Nat) (H : Heap) :
    Sound Tryd.prog gv 12 [.lst tag 1 (bytesE b)] H (.ret (.agg (out41 (mvV (rdEnt b).x.moved) (rdEnt b)))) H := by
  refine Sound.tag0 ?_ tag
  obtain ⟨out, H', ⟨v, rfl, hv⟩, hS⟩ := Sound_of_FC mixed is12 (args := [.lst 0 1 (bytesE b)]) (by unfold F12 om oo; simp) (rdec_body hb hl)
  have hs1 : shut1 H' none H.next v = some (mvV (rdEnt b).x.moved) := by
    unfold mvV
    split
    · rename_i h
      rw [hv.2 (by rw [h]; rfl)]
      rfl
    · rename_i h
      rcases hv.1 with ⟨_, h'⟩ | ⟨k, rfl, _⟩
      · exact absurd (by simpa [mvE] using h') h
      · simp [shut1, freeLL_mvE, tagA]
  have hk : ∀ j n, shutF H' none H.next 0 (.int j n) = some (.int j n) := fun j n => rfl
  refine hS.frame gfree (by simp [freeL, AV.free, freeLL_bytesE]) (tk := none) (fun k hk => by cases hk) (n := 1) H (v' := .agg (out41 (mvV (rdEnt b).x.moved) (rdEnt b))) ?_
  show (mapO (shutF H' none H.next 0) (out41 v (rdEnt b))).map AV.agg = _
  rw [out41, mapO_append (mapO_entC hk hs1 (rdEnt b).x) (show mapO (shutF H' none H.next 0) [.int .i64 (rdEnt b).n, .int .i64 (rdEnt b).e] = some [.int .i64 (rdEnt b).n, .int .i64 (rdEnt b).e] from rfl)]
  rfl
end Go.Proofs.YtfdaiidepcbemaaDoor
end
