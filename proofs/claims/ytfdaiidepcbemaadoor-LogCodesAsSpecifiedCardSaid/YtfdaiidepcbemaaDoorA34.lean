/-
  CONTRACTS: the reference of layer 2: the sum of a message.
-/
import Derived.Test.YtfdaiidepcbemaaDoorA33
set_option linter.unusedVariables false
set_option linter.unusedSimpArgs false
section
namespace Go.Proofs.YtfdaiidepcbemaaDoor
open Go Go.Av Go.Av.Pr
set_option maxRecDepth 100000
attribute [local congr] FD2_congr stepK_congr condK_congr guardK_congr FC_congr FOps_congr thenF_congr inBlockF_congr
attribute [local irreducible] FC FOps FD2
def add8 (s r : S8) : Nat → List U32
  | 0 => s.l
  | i + 1 => (add8 s r i).set i ((add8 s r i).getD i 0 + r.l.getD i 0)
theorem add8_length (s r : S8) : ∀ i, (add8 s r i).length = 8
  | 0 => rfl
  | i + 1 => by simp [add8, add8_length s r i]
theorem add8_8 (s r : S8) : add8 s r 8 = (s.add r).l := by
  simp [add8, S8.l, S8.add]
theorem w_xor_ones (x : U32) : bitsI .xor .u32 (x.toNat : Int) 4294967295 = some (.int .u32 ((~~~ x).toNat : Int)) := by
  have h : (4294967295 : Int) = ((BitVec.allOnes 32).toNat : Int) := by decide
  rw [h, w_bits_xor, BitVec.xor_allOnes]
theorem padded_mod (m : List Nat) : ∃ n, (m ++ padOf m.length).length = 64 * n := by
  refine ⟨(m ++ padOf m.length).length / 64, ?_⟩
  simp only [List.length_append, padOf, List.length_cons, List.length_replicate, be8, List.length_map, List.length_range, zpad]
  omega
set_option maxHeartbeats 1000000 in
theorem rsum_ok {m : List Nat} (hmb : Bytes m) (hml : m.length < 2^36) (tg : Nat) (H : Heap) : Sound Tryd.prog gv 66 [.lst tg 1 (bytesE m)] H (.ret (.agg (bytesC (sha m)))) H := by
  refine Sound.tag0 ?_ tg
  obtain ⟨out, H', hout, hS⟩ := Sound_of_FC (R := fun o h => o = .ret (.agg (bytesC (sha m)))) mixed is66 (args := [.lst 0 1 (bytesE m)]) (by unfold F66 om oo; simp) (H := ⟨0, .nil⟩) (by
    show FC Tryd.prog gv 148 F66.body _ _ _ (retF [.cell 2 true 32] _)
    unfold F66 om oo
    refine FC_seq fun K hK => ?_
    simp only [symA, sy, AV.cells, AV.isTup, startF, Nat.reduceLT, Nat.reduceEqDiff, Nat.reduceAdd]
    apply hK
    clear hK K
    refine FC_seq fun K hK => ?_
    have hs0 : [AV.int .u32 1779033703, .int .u32 3144134277, .int .u32 1013904242, .int .u32 2773480762, .int .u32 1359893119, .int .u32 2600822924, .int .u32 528734635, .int .u32 1541459225] = wC s0.l := rfl
    simp only [symA, sy, AV.cells, AV.isTup, startF, Nat.reduceLT, Nat.reduceEqDiff, Nat.reduceAdd, sn, Nat.reduceLeDiff, Nat.reduceMul, Nat.reduceSub, Nat.reduceMod, Nat.reduceDiv, sl, splice, fillA, Heap.cellsAt, sh]
    rw [hs0]
    have hr32 : List.replicate 32 (AV.int .u8 0) = bytesC (List.replicate 32 0) := rfl
    rw [hr32]
    apply hK
    clear hK K
    refine FC_seq fun K hK => ?_
    simp only [symA, sy, AV.cells, AV.isTup, startF, Nat.reduceLT, Nat.reduceEqDiff, Nat.reduceAdd]
    refine FOps_call (by decide) (by simp only [sm, symB, Nat.reduceEqDiff, startF]) (padded_ok (b := m) hml 0 _) ?_
    simp only [symA, sy, AV.cells, AV.isTup, startF, Nat.reduceLT, Nat.reduceEqDiff, Nat.reduceAdd, Heap.cellsAt, sh]
    apply hK
    clear hK K
    obtain ⟨n, hn⟩ := padded_mod m
    obtain ⟨p, hp⟩ : ∃ p, m ++ padOf m.length = p := ⟨_, rfl⟩
    rw [hp] at hn
    have hfin : final m = blks s0 p n := by rw [final, hp, hn]; congr 1; omega
    have hpb : Bytes p := by rw [← hp]; exact bytes_append hmb (padOf_bytes _)
    have hpl : p.length < 2 ^ 37 := by rw [← hp]; simp [padOf, be8, zpad]; omega
    simp only [hp]
    refine FC_seq fun K hK => ?_
    refine FC_seq fun K hK => ?_
    simp only [symA, sy, AV.cells, AV.isTup, startF, Nat.reduceLT, Nat.reduceEqDiff, Nat.reduceAdd]
    apply hK
    clear hK K
    refine FC_for (id := 0) (c := 20) (fun k f H => f 2 = .ref 0 0 ∧ f 3 = .ref 1 0 ∧ f 4 = .lst 4 1 (bytesE p) ∧ f 5 = .int .i64 ((64 * k : Nat) : Int) ∧ 2 ≤ H.next ∧
      H.get 0 = some (.cells (bytesC (List.replicate 32 0)) false) ∧ H.get 1 = some (.cells (wC (blks s0 p k).l) false)) n ?_ ?_ ?_ ?_
    · refine ⟨by simp only [symB, ne_eq, Nat.reduceEqDiff, not_false_eq_true, Heap.cellsAt, sh, Nat.reduceAdd], by simp only [symB, ne_eq, Nat.reduceEqDiff, not_false_eq_true, Heap.cellsAt, sh, Nat.reduceAdd], by simp only [symB, ne_eq, Nat.reduceEqDiff, not_false_eq_true], by simp only [symB, ne_eq, Nat.reduceEqDiff, not_false_eq_true]; rfl, by simp only [Heap.cellsAt, sh, Nat.reduceAdd, Nat.reduceEqDiff]; omega, by simp only [Heap.cellsAt, sh, Nat.reduceAdd, Nat.reduceEqDiff], by simp only [Heap.cellsAt, sh, Nat.reduceAdd, Nat.reduceEqDiff]; rw [blks]⟩
    · rintro k f H hk ⟨h2, h3, h4, h5, h6⟩ K hK Q'
      simp only [symA, sy, AV.cells, AV.isTup, startF, Nat.reduceLT, Nat.reduceEqDiff, Nat.reduceAdd, h4, h5, bytesE_length]
      refine ⟨trivial, trivial, hK _ ?_ ⟨by simpa only [symB, ne_eq, Nat.reduceEqDiff, not_false_eq_true] using h2, by simpa only [symB, ne_eq, Nat.reduceEqDiff, not_false_eq_true] using h3, by simpa only [symB, ne_eq, Nat.reduceEqDiff, not_false_eq_true] using h4, by simpa only [symB, ne_eq, Nat.reduceEqDiff, not_false_eq_true] using h5, h6⟩⟩
      simp only [symB, ne_eq, Nat.reduceEqDiff, not_false_eq_true]
      exact congrArg _ (decide_eq_decide.mpr (by omega))
    · rintro k f H hk ⟨h2, h3, h4, h5, hnx, hg0, hg1⟩
      obtain ⟨c, hc⟩ : ∃ c, (p.drop (64 * k)).take 64 = c := ⟨_, rfl⟩
      have hc64 : c.length = 64 := by rw [← hc]; simp; omega
      have hcb : Bytes c := by rw [← hc]; intro x hx; exact hpb x (List.mem_of_mem_drop (List.mem_of_mem_take hx))
      obtain ⟨tag', hsl⟩ := slice_mid 4 1 (els := bytesE p) (a := 64 * k) (b := 64 * k + 64) (by omega) (by rw [bytesE_length]; omega)
      rw [bytesE_drop, bytesE_take, show 64 * k + 64 - 64 * k = 64 by omega, hc] at hsl
      have w1 : IntKind.i64.wrap (((64 * k : Nat) : Int) + 64) = ((64 * k + 64 : Nat) : Int) := by rw [wrap_i64 (by omega) (by omega)]; rfl
      obtain ⟨w, hw⟩ : ∃ w, wfill c 64 = w := ⟨_, rfl⟩
      have hwl : w.length = 64 := by rw [← hw, wfill_length]
      have hS80 := words_ok hc64 hcb tag' H
      rw [hw] at hS80
      obtain ⟨s, hs⟩ : ∃ s, blks s0 p k = s := ⟨_, rfl⟩
      rw [hs] at hg1
      obtain ⟨nw, hnw⟩ : ∃ nw, H.next = nw := ⟨_, rfl⟩
      have hgn : ∀ o : AObj, (H.alloc o).get nw = some o := fun o => by rw [← hnw]; exact get_alloc_self _ _
      refine FC_block (FC_seq fun K2 hK2 => ?_)
      simp only [symA, sy, AV.cells, AV.isTup, startF, Nat.reduceLT, Nat.reduceEqDiff, Nat.reduceAdd, h4, h5, w1, optNat, asNat_nat, hsl, Option.isSome_none, false_implies]
      refine FOps_call (by decide) (by simp only [sm, symB, Nat.reduceEqDiff, startF]) (hS80) ?_
      simp only [symA, sy, AV.cells, AV.isTup, startF, Nat.reduceLT, Nat.reduceEqDiff, Nat.reduceAdd, sn, Nat.reduceLeDiff, Nat.reduceMul, Nat.reduceSub, Nat.reduceMod, Nat.reduceDiv, wC_length, hwl, hgn, List.length_replicate, hnw]
      rw [splice_all (by simp [wC_length, hwl])]
      apply hK2
      clear hK2 K2
      have hg1' : ((H.alloc (.cells (List.replicate 64 (.int .u32 0)) false)).set nw (.cells (wC w) false)).cellsAt 1 = some (wC s.l) := by
        rw [Heap.cellsAt, Heap.get_set, if_neg (by omega), Heap.get_alloc, if_neg (by omega), hg1]
      refine FC_seq fun K2 hK2 => ?_
      simp only [symA, sy, AV.cells, AV.isTup, startF, Nat.reduceLT, Nat.reduceEqDiff, Nat.reduceAdd, sn, Nat.reduceLeDiff, Nat.reduceMul, Nat.reduceSub, Nat.reduceMod, Nat.reduceDiv, h3, hg1', wC_length, S8.l_length, List.drop_zero, get_alloc_self, Heap.next_set, Heap.next_alloc, hnw]
      rw [List.take_of_length_le (by rw [wC_length, S8.l_length]; omega)]
      have hga : ∀ (A : Heap) (o : AObj), A.next = nw + 1 → (A.alloc o).get (nw + 1) = some o := fun A o h => by rw [← h]; exact get_alloc_self _ _
      simp only [symA, sy, AV.cells, AV.isTup, startF, Nat.reduceLT, Nat.reduceEqDiff, Nat.reduceAdd, sn, Nat.reduceLeDiff, Nat.reduceMul, Nat.reduceSub, Nat.reduceMod, Nat.reduceDiv, wC_length, S8.l_length, hga _ _ (show ((H.alloc (.cells (List.replicate 64 (.int .u32 0)) false)).set nw (.cells (wC w) false)).next = nw + 1 by rw [Heap.next_set, Heap.next_alloc, hnw])]
      rw [splice_all (by rw [wC_length, S8.l_length]; rfl)]
      apply hK2
      clear hK2 K2
      refine FC_seq fun K2 hK2 => ?_
      refine FC_seq fun K3 hK3 => ?_
      simp only [symA, sy, AV.cells, AV.isTup, startF, Nat.reduceLT, Nat.reduceEqDiff, Nat.reduceAdd]
      apply hK3
      clear hK3 K3
      refine FC_for (id := 2) (c := 31) (fun t f H' => f 2 = .ref 0 0 ∧ f 3 = .ref 1 0 ∧ f 4 = .lst 4 1 (bytesE p) ∧ f 5 = .int .i64 ((64 * k : Nat) : Int) ∧ f 6 = .ref nw 0 ∧ f 7 = .ref (nw + 1) 0 ∧ f 8 = .int .i64 t ∧ 2 ≤ H'.next ∧
        H'.get 0 = some (.cells (bytesC (List.replicate 32 0)) false) ∧ H'.get 1 = some (.cells (wC s.l) false) ∧ H'.get nw = some (.cells (wC w) false) ∧ H'.get (nw + 1) = some (.cells (wC (rnds w s t).l) false)) 64 ?_ ?_ ?_ ?_
      · refine ⟨by simpa only [symB, ne_eq, Nat.reduceEqDiff, not_false_eq_true] using h2, by simpa only [symB, ne_eq, Nat.reduceEqDiff, not_false_eq_true] using h3, by simpa only [symB, ne_eq, Nat.reduceEqDiff, not_false_eq_true] using h4, by simpa only [symB, ne_eq, Nat.reduceEqDiff, not_false_eq_true] using h5, by simp only [symB, ne_eq, Nat.reduceEqDiff, not_false_eq_true], by simp only [symB, ne_eq, Nat.reduceEqDiff, not_false_eq_true], by simp only [symB, ne_eq, Nat.reduceEqDiff, not_false_eq_true]; rfl, ?_, ?_, ?_, ?_, ?_⟩
        · simp only [Heap.next_set, Heap.next_alloc]; omega
        · rw [Heap.get_set, if_neg (by omega), Heap.get_alloc, Heap.next_set, Heap.next_alloc, if_neg (by omega), Heap.get_set, if_neg (by omega), Heap.get_alloc, if_neg (by omega)]; exact hg0
        · rw [Heap.get_set, if_neg (by omega), Heap.get_alloc, Heap.next_set, Heap.next_alloc, if_neg (by omega), Heap.get_set, if_neg (by omega), Heap.get_alloc, if_neg (by omega)]; exact hg1
        · rw [Heap.get_set, if_neg (by omega), Heap.get_alloc, Heap.next_set, Heap.next_alloc, if_neg (by omega), Heap.get_set, if_pos rfl]
        · rw [Heap.get_set, if_pos rfl, rnds]
      · rintro t f H' ht ⟨g2, g3, g4, g5, g6, g7, g8, g9⟩ K hK Q'
        simp only [symA, sy, AV.cells, AV.isTup, startF, Nat.reduceLT, Nat.reduceEqDiff, Nat.reduceAdd, g8]
        refine ⟨trivial, trivial, hK _ ?_ ⟨by simpa only [symB, ne_eq, Nat.reduceEqDiff, not_false_eq_true] using g2, by simpa only [symB, ne_eq, Nat.reduceEqDiff, not_false_eq_true] using g3, by simpa only [symB, ne_eq, Nat.reduceEqDiff, not_false_eq_true] using g4, by simpa only [symB, ne_eq, Nat.reduceEqDiff, not_false_eq_true] using g5, by simpa only [symB, ne_eq, Nat.reduceEqDiff, not_false_eq_true] using g6, by simpa only [symB, ne_eq, Nat.reduceEqDiff, not_false_eq_true] using g7, by simpa only [symB, ne_eq, Nat.reduceEqDiff, not_false_eq_true] using g8, g9⟩⟩
        simp only [symB, ne_eq, Nat.reduceEqDiff, not_false_eq_true]
        exact congrArg _ (decide_eq_decide.mpr (by omega))
      · rintro t f H' ht ⟨g2, g3, g4, g5, g6, g7, g8, hnx', e0, e1, ew, er⟩
        obtain ⟨r, hr⟩ : ∃ r, rnds w s t = r := ⟨_, rfl⟩
        rw [hr] at er
        simp only [S8.l, wC, sl, splice] at er
        have hk : ((wC KS).drop t).getD 0 undefA = .int .u32 (KS.getD t 0).toNat := by
          rw [getD_eq, List.getElem?_drop, ← getD_eq]
          exact wC_getD _ (by rw [KS_length]; omega)
        have hkl : 1 ≤ ((wC KS).drop t).length := by rw [List.length_drop, wC_length, KS_length]; omega
        have hwt : (wC w).getD t undefA = .int .u32 (w.getD t 0).toNat := wC_getD _ (by omega)
        have j0 : asNat (.int .i64 0) = some 0 := rfl
        have j1 : asNat (.int .i64 1) = some 1 := rfl
        have j2 : asNat (.int .i64 2) = some 2 := rfl
        have j3 : asNat (.int .i64 3) = some 3 := rfl
        have j4 : asNat (.int .i64 4) = some 4 := rfl
        have j5 : asNat (.int .i64 5) = some 5 := rfl
        have j6 : asNat (.int .i64 6) = some 6 := rfl
        have j7 : asNat (.int .i64 7) = some 7 := rfl
        have hglob : ∀ f : Slt, evF gv f (.glob 1) = .pl (wC KS) := fun f => by simp only [evF, gv, KS_eq]
        refine FC_block (FC_seq fun K2 hK2 => ?_)
        refine FC_draw0 (by decide) ?_
        simp only [symA, sy, AV.cells, AV.isTup, startF, Nat.reduceLT, Nat.reduceEqDiff, Nat.reduceAdd, symF, symFp, FD2_nil, ROp.readsId, idOf, reduceCtorEq, false_implies, implies_true, forall_const, true_and, and_true, List.not_mem_nil, List.mem_cons, or_false, false_or, Prod.mk.injEq, forall_eq, forall_eq_or_imp, forall_eq', Option.some.injEq, sn, Nat.reduceLeDiff, Nat.reduceMul, Nat.reduceSub, Nat.reduceMod, Nat.reduceDiv, sl, splice, g7, j4, j7, cellsAt_get er]
        refine FD2_call (by decide) (by simp only [sm, symB, Nat.reduceEqDiff, startF]) (rrot_ok r.e 6 6 rfl (by decide) (by decide) _) (Nat.le_refl _) (fun _ _ _ => rfl) ?_
        simp only [symA, sy, AV.cells, AV.isTup, startF, Nat.reduceLT, Nat.reduceEqDiff, Nat.reduceAdd, symF, symFp, FD2_nil, ROp.readsId, idOf, reduceCtorEq, false_implies, implies_true, forall_const, true_and, and_true, List.not_mem_nil, List.mem_cons, or_false, false_or, Prod.mk.injEq, forall_eq, forall_eq_or_imp, forall_eq', Option.some.injEq, sn, Nat.reduceLeDiff, Nat.reduceMul, Nat.reduceSub, Nat.reduceMod, Nat.reduceDiv, sl, splice, g7, j4, cellsAt_get er]
        refine FD2_call (by decide) (by simp only [sm, symB, Nat.reduceEqDiff, startF]) (rrot_ok r.e 11 11 rfl (by decide) (by decide) _) (Nat.le_refl _) (fun _ _ _ => rfl) ?_
        simp only [symA, sy, AV.cells, AV.isTup, startF, Nat.reduceLT, Nat.reduceEqDiff, Nat.reduceAdd, symF, symFp, FD2_nil, ROp.readsId, idOf, reduceCtorEq, false_implies, implies_true, forall_const, true_and, and_true, List.not_mem_nil, List.mem_cons, or_false, false_or, Prod.mk.injEq, forall_eq, forall_eq_or_imp, forall_eq', Option.some.injEq, sn, Nat.reduceLeDiff, Nat.reduceMul, Nat.reduceSub, Nat.reduceMod, Nat.reduceDiv, sl, splice, g7, j4, cellsAt_get er, w_bits_xor]
        refine FD2_call (by decide) (by simp only [sm, symB, Nat.reduceEqDiff, startF]) (rrot_ok r.e 25 25 rfl (by decide) (by decide) _) (Nat.le_refl _) (fun _ _ _ => rfl) ?_
        simp only [symA, sy, AV.cells, AV.isTup, startF, Nat.reduceLT, Nat.reduceEqDiff, Nat.reduceAdd, symF, symFp, FD2_nil, ROp.readsId, idOf, reduceCtorEq, false_implies, implies_true, forall_const, true_and, and_true, List.not_mem_nil, List.mem_cons, or_false, false_or, Prod.mk.injEq, forall_eq, forall_eq_or_imp, forall_eq', Option.some.injEq, sn, Nat.reduceLeDiff, Nat.reduceMul, Nat.reduceSub, Nat.reduceMod, Nat.reduceDiv, sl, splice, g6, g7, g8, j4, j5, j6, cellsAt_get er, cellsAt_get ew, w_bits_xor, w_bits_and, w_xor_ones, w_add, hglob, asNat_nat, ht, hkl, hk, wC_length, hwl, show t + 1 ≤ 64 by omega, hwt]
        obtain ⟨x, hx⟩ : ∃ x, r.h + (rotr r.e 6 ^^^ rotr r.e 11 ^^^ rotr r.e 25) + ((r.e &&& r.f) ^^^ (~~~ r.e &&& r.g)) + KS.getD t 0 + w.getD t 0 = x := ⟨_, rfl⟩
        rw [hx]
        apply hK2
        clear hK2 K2
        refine FC_seq fun K2 hK2 => ?_
        refine FC_draw0 (by decide) ?_
        simp only [symA, sy, AV.cells, AV.isTup, startF, Nat.reduceLT, Nat.reduceEqDiff, Nat.reduceAdd, symF, symFp, FD2_nil, ROp.readsId, idOf, reduceCtorEq, false_implies, implies_true, forall_const, true_and, and_true, List.not_mem_nil, List.mem_cons, or_false, false_or, Prod.mk.injEq, forall_eq, forall_eq_or_imp, forall_eq', Option.some.injEq, sn, Nat.reduceLeDiff, Nat.reduceMul, Nat.reduceSub, Nat.reduceMod, Nat.reduceDiv, sl, splice, g7, j0, cellsAt_get er]
        refine FD2_call (by decide) (by simp only [sm, symB, Nat.reduceEqDiff, startF]) (rrot_ok r.a 2 2 rfl (by decide) (by decide) _) (Nat.le_refl _) (fun _ _ _ => rfl) ?_
        simp only [symA, sy, AV.cells, AV.isTup, startF, Nat.reduceLT, Nat.reduceEqDiff, Nat.reduceAdd, symF, symFp, FD2_nil, ROp.readsId, idOf, reduceCtorEq, false_implies, implies_true, forall_const, true_and, and_true, List.not_mem_nil, List.mem_cons, or_false, false_or, Prod.mk.injEq, forall_eq, forall_eq_or_imp, forall_eq', Option.some.injEq, sn, Nat.reduceLeDiff, Nat.reduceMul, Nat.reduceSub, Nat.reduceMod, Nat.reduceDiv, sl, splice, g7, j0, cellsAt_get er]
        refine FD2_call (by decide) (by simp only [sm, symB, Nat.reduceEqDiff, startF]) (rrot_ok r.a 13 13 rfl (by decide) (by decide) _) (Nat.le_refl _) (fun _ _ _ => rfl) ?_
        simp only [symA, sy, AV.cells, AV.isTup, startF, Nat.reduceLT, Nat.reduceEqDiff, Nat.reduceAdd, symF, symFp, FD2_nil, ROp.readsId, idOf, reduceCtorEq, false_implies, implies_true, forall_const, true_and, and_true, List.not_mem_nil, List.mem_cons, or_false, false_or, Prod.mk.injEq, forall_eq, forall_eq_or_imp, forall_eq', Option.some.injEq, sn, Nat.reduceLeDiff, Nat.reduceMul, Nat.reduceSub, Nat.reduceMod, Nat.reduceDiv, sl, splice, g7, j0, cellsAt_get er, w_bits_xor]
        refine FD2_call (by decide) (by simp only [sm, symB, Nat.reduceEqDiff, startF]) (rrot_ok r.a 22 22 rfl (by decide) (by decide) _) (Nat.le_refl _) (fun _ _ _ => rfl) ?_
        simp only [symA, sy, AV.cells, AV.isTup, startF, Nat.reduceLT, Nat.reduceEqDiff, Nat.reduceAdd, symF, symFp, FD2_nil, ROp.readsId, idOf, reduceCtorEq, false_implies, implies_true, forall_const, true_and, and_true, List.not_mem_nil, List.mem_cons, or_false, false_or, Prod.mk.injEq, forall_eq, forall_eq_or_imp, forall_eq', Option.some.injEq, sn, Nat.reduceLeDiff, Nat.reduceMul, Nat.reduceSub, Nat.reduceMod, Nat.reduceDiv, sl, splice, g7, j0, j1, j2, cellsAt_get er, w_bits_xor, w_bits_and, w_add]
        obtain ⟨y, hy⟩ : ∃ y, (rotr r.a 2 ^^^ rotr r.a 13 ^^^ rotr r.a 22) + ((r.a &&& r.b) ^^^ (r.a &&& r.c) ^^^ (r.b &&& r.c)) = y := ⟨_, rfl⟩
        rw [hy]
        apply hK2
        clear hK2 K2
        have hrn : rnds w s (t + 1) = ⟨x + y, r.a, r.b, r.c, r.d + x, r.e, r.f, r.g⟩ := by simp only [rnds, rnd, hr, hx, hy]
        simp only [symA, sy, AV.cells, AV.isTup, startF, Nat.reduceLT, Nat.reduceEqDiff, Nat.reduceAdd, sn, Nat.reduceLeDiff, Nat.reduceMul, Nat.reduceSub, Nat.reduceMod, Nat.reduceDiv, sl, splice, g7, g8, j0, j1, j2, j3, j4, j5, j6, cellsAt_get er, w_add, fillA, er]
        refine ⟨trivial, trivial, g2, g3, g4, g5, g6, (by first | exact g7 | trivial), ?_, hnx', by rw [Heap.get_set, if_neg (by omega)]; exact e0, by rw [Heap.get_set, if_neg (by omega)]; exact e1, by rw [Heap.get_set, if_neg (by omega)]; exact ew, ?_⟩
        · rw [wrap_i64 (by omega) (by omega)]; rfl
        · rw [get_set_self, hrn]; simp only [S8.l, wC, sl, splice]
      · rintro f H' ⟨g2, g3, g4, g5, g6, g7, g8, hnx', e0, e1, ew, er⟩
        obtain ⟨r, hr⟩ : ∃ r, rnds w s 64 = r := ⟨_, rfl⟩
        rw [hr] at er
        simp only [symA, sy, AV.cells, AV.isTup, startF, Nat.reduceLT, Nat.reduceEqDiff, Nat.reduceAdd]
        apply hK2
        clear hK2 K2
        refine FC_seq fun K hK => ?_
        simp only [symA, sy, AV.cells, AV.isTup, startF, Nat.reduceLT, Nat.reduceEqDiff, Nat.reduceAdd]
        apply hK
        clear hK K
        refine FC_for (id := 4) (c := 119) (fun i f H' => f 2 = .ref 0 0 ∧ f 3 = .ref 1 0 ∧ f 4 = .lst 4 1 (bytesE p) ∧ f 5 = .int .i64 ((64 * k : Nat) : Int) ∧ f 7 = .ref (nw + 1) 0 ∧ f 11 = .int .i64 i ∧ 2 ≤ H'.next ∧
          H'.get 0 = some (.cells (bytesC (List.replicate 32 0)) false) ∧ H'.get 1 = some (.cells (wC (add8 s r i)) false) ∧ H'.get (nw + 1) = some (.cells (wC r.l) false)) 8 ?_ ?_ ?_ ?_
        · exact ⟨by simpa only [symB, ne_eq, Nat.reduceEqDiff, not_false_eq_true] using g2, by simpa only [symB, ne_eq, Nat.reduceEqDiff, not_false_eq_true] using g3, by simpa only [symB, ne_eq, Nat.reduceEqDiff, not_false_eq_true] using g4, by simpa only [symB, ne_eq, Nat.reduceEqDiff, not_false_eq_true] using g5, by simpa only [symB, ne_eq, Nat.reduceEqDiff, not_false_eq_true] using g7, by simp only [symB, ne_eq, Nat.reduceEqDiff, not_false_eq_true]; rfl, hnx', e0, e1, er⟩
        · rintro i f H' hi ⟨g2, g3, g4, g5, g7, g8, g9⟩ K hK Q'
          simp only [symA, sy, AV.cells, AV.isTup, startF, Nat.reduceLT, Nat.reduceEqDiff, Nat.reduceAdd, g8]
          refine ⟨trivial, trivial, hK _ ?_ ⟨by simpa only [symB, ne_eq, Nat.reduceEqDiff, not_false_eq_true] using g2, by simpa only [symB, ne_eq, Nat.reduceEqDiff, not_false_eq_true] using g3, by simpa only [symB, ne_eq, Nat.reduceEqDiff, not_false_eq_true] using g4, by simpa only [symB, ne_eq, Nat.reduceEqDiff, not_false_eq_true] using g5, by simpa only [symB, ne_eq, Nat.reduceEqDiff, not_false_eq_true] using g7, by simpa only [symB, ne_eq, Nat.reduceEqDiff, not_false_eq_true] using g8, g9⟩⟩
          simp only [symB, ne_eq, Nat.reduceEqDiff, not_false_eq_true]
          exact congrArg _ (decide_eq_decide.mpr (by omega))
        · rintro i f H' hi ⟨g2, g3, g4, g5, g7, g8, hnx', e0, e1, er⟩
          have hla : (wC (add8 s r i)).length = 8 := by rw [wC_length, add8_length]
          have ga : (wC (add8 s r i)).getD i undefA = .int .u32 ((add8 s r i).getD i 0).toNat := wC_getD _ (by rw [add8_length]; omega)
          have gb : (wC r.l).getD i undefA = .int .u32 (r.l.getD i 0).toNat := wC_getD _ (by rw [S8.l_length]; omega)
          refine FC_block ?_
          refine FC_draw0 (by decide) ?_
          simp only [symA, sy, AV.cells, AV.isTup, startF, Nat.reduceLT, Nat.reduceEqDiff, Nat.reduceAdd, symF, symFp, FD2_nil, ROp.readsId, idOf, reduceCtorEq, false_implies, implies_true, forall_const, true_and, and_true, List.not_mem_nil, List.mem_cons, or_false, false_or, Prod.mk.injEq, forall_eq, forall_eq_or_imp, forall_eq', Option.some.injEq, sn, Nat.reduceLeDiff, Nat.reduceMul, Nat.reduceSub, Nat.reduceMod, Nat.reduceDiv, Heap.cellsAt, sh, g3, g7, g8, asNat_nat, hi, e1, er, hla, wC_length, S8.l_length, show i + 1 ≤ 8 by omega, ga, gb, w_add]
          rw [splice_wC _ (by rw [add8_length]; omega)]
          refine ⟨g2, g4, g5, ?_, hnx', ?_⟩
          · rw [wrap_i64 (by omega) (by omega)]; rfl
          · exact ⟨e0, rfl, by rw [if_neg (by omega)]⟩
        · rintro f H' ⟨g2, g3, g4, g5, g7, g8, hnx', e0, e1, er⟩
          rw [add8_8] at e1
          simp only [symA, sy, AV.cells, AV.isTup, startF, Nat.reduceLT, Nat.reduceEqDiff, Nat.reduceAdd, g5]
          refine ⟨trivial, trivial, g2, g3, g4, ?_, hnx', e0, ?_⟩
          · rw [wrap_i64 (by omega) (by omega)]
            exact congrArg _ (by omega)
          · rw [e1, blks, hs, hc, block, hw, hr]
    · rintro f H ⟨h2, h3, h4, h5, hnx, hg0, hg1⟩
      obtain ⟨F, hF⟩ : ∃ F, blks s0 p n = F := ⟨_, rfl⟩
      rw [hF] at hg1 hfin
      simp only [symA, sy, AV.cells, AV.isTup, startF, Nat.reduceLT, Nat.reduceEqDiff, Nat.reduceAdd]
      apply hK
      clear hK K
      refine FC_seq fun K hK => ?_
      simp only [symA, sy, AV.cells, AV.isTup, startF, Nat.reduceLT, Nat.reduceEqDiff, Nat.reduceAdd]
      apply hK
      clear hK K
      refine FC_seq fun K hK => ?_
      refine FC_seq fun K hK => ?_
      simp only [symA, sy, AV.cells, AV.isTup, startF, Nat.reduceLT, Nat.reduceEqDiff, Nat.reduceAdd]
      apply hK
      clear hK K
      obtain ⟨nw, hnw⟩ : ∃ nw, H.next = nw := ⟨_, rfl⟩
      refine FC_for (id := 6) (c := 132) (fun i f H' => f 2 = .ref 0 0 ∧ f 3 = .ref 1 0 ∧ f 12 = .ref nw 0 ∧ f 13 = .int .i64 i ∧ H'.get 0 = some (.cells (bytesC (List.replicate 32 0)) false) ∧ H'.get 1 = some (.cells (wC F.l) false) ∧
        H'.get nw = some (.cells (bytesC ((sha m).take i) ++ List.replicate (32 - i) (.int .u8 0)) false)) 32 ?_ ?_ ?_ ?_
      · refine ⟨by simpa only [symB, ne_eq, Nat.reduceEqDiff, not_false_eq_true] using h2, by simpa only [symB, ne_eq, Nat.reduceEqDiff, not_false_eq_true] using h3, by simp only [symB, ne_eq, Nat.reduceEqDiff, not_false_eq_true, hnw], by simp only [symB, ne_eq, Nat.reduceEqDiff, not_false_eq_true]; rfl, ?_, ?_, ?_⟩
        · rw [Heap.get_alloc, if_neg (by omega)]; exact hg0
        · rw [Heap.get_alloc, if_neg (by omega)]; exact hg1
        · rw [Heap.get_alloc, if_pos hnw.symm]; rfl
      · rintro i f H' hi ⟨g2, g3, g4, g5, g9⟩ K hK Q'
        simp only [symA, sy, AV.cells, AV.isTup, startF, Nat.reduceLT, Nat.reduceEqDiff, Nat.reduceAdd, g5]
        refine ⟨trivial, trivial, hK _ ?_ ⟨by simpa only [symB, ne_eq, Nat.reduceEqDiff, not_false_eq_true] using g2, by simpa only [symB, ne_eq, Nat.reduceEqDiff, not_false_eq_true] using g3, by simpa only [symB, ne_eq, Nat.reduceEqDiff, not_false_eq_true] using g4, by simpa only [symB, ne_eq, Nat.reduceEqDiff, not_false_eq_true] using g5, g9⟩⟩
        simp only [symB, ne_eq, Nat.reduceEqDiff, not_false_eq_true]
        exact congrArg _ (decide_eq_decide.mpr (by omega))
      · rintro i f H' hi ⟨g2, g3, g12, g13, g0, g1, g6⟩
        have d1 : IntKind.i64.wrap ((i : Int).tdiv 4) = ((i / 4 : Nat) : Int) := by rw [Int.tdiv_eq_ediv_of_nonneg (by omega), wrap_i64 (by omega) (by omega)]; simp
        have d2 : (i : Int).tmod 4 = ((i % 4 : Nat) : Int) := by rw [Int.tmod_eq_emod_of_nonneg (by omega)]; simp
        have d3 : IntKind.i64.wrap (8 * ((i % 4 : Nat) : Int)) = ((8 * (i % 4) : Nat) : Int) := by rw [wrap_i64 (by omega) (by omega)]; simp
        have d4 : IntKind.i64.wrap (24 - ((8 * (i % 4) : Nat) : Int)) = ((24 - 8 * (i % 4) : Nat) : Int) := by rw [wrap_i64 (by omega) (by omega)]; omega
        have d5 : min (Int.toNat ((24 - 8 * (i % 4) : Nat) : Int)) IntKind.u32.bits = 24 - 8 * (i % 4) := by simp [IntKind.bits]; omega
        have d6 : (wC F.l).getD (i / 4) undefA = .int .u32 (F.l.getD (i / 4) 0).toNat := wC_getD _ (by rw [S8.l_length]; omega)
        have d7 : IntKind.u8.wrap (((F.l.getD (i / 4) 0) >>> (24 - 8 * (i % 4))).toNat : Int) = (((sha m).getD i 0 : Nat) : Int) := by
          rw [wrapU_nat rfl]
          simp only [sha, outB, hfin, List.getD_eq_getElem?_getD, List.getElem?_map, List.getElem?_range hi, Option.map_some, Option.getD_some]
          rfl
        have hl6 : ((sha m).take i).length = i := by simp [sha_length]; omega
        have hcl : (bytesC ((sha m).take i) ++ List.replicate (32 - i) (AV.int .u8 0)).length = 32 := by rw [List.length_append, bytesC_length, hl6, List.length_replicate]; omega
        have hsp := splice_fill ((sha m).take i) (32 - (i + 1)) ((sha m).getD i 0)
        rw [hl6, show 32 - (i + 1) + 1 = 32 - i by omega, ← take_snoc (by rw [sha_length]; omega)] at hsp
        simp only [FC_blockE, symA, sy, AV.cells, AV.isTup, startF, Nat.reduceLT, Nat.reduceEqDiff, Nat.reduceAdd, sn, Nat.reduceLeDiff, Nat.reduceMul, Nat.reduceSub, Nat.reduceMod, Nat.reduceDiv, show ¬ ((4 : Int) = 0) by decide, d1, d2, d3, d4, d5, g3, g13, asNat_nat, show i / 4 < 8 by omega, cellsAt_get g1, wC_length, S8.l_length, show i / 4 + 1 ≤ 8 by omega, d6, show ¬ (((24 - 8 * (i % 4) : Nat) : Int) < 0) by omega, w_shr, d7, g12, hi, g6, hcl, show i + 1 ≤ 32 by omega, hsp]
        refine ⟨trivial, trivial, g2, (by first | exact g3 | trivial), (by first | exact g12 | trivial), ?_, by rw [Heap.get_set, if_neg (by omega)]; exact g0, by rw [Heap.get_set, if_neg (by omega)]; exact g1, get_set_self _ _ _⟩
        rw [wrap_i64 (by omega) (by omega)]; rfl
      · rintro f H' ⟨g2, g3, g12, g13, g0, g1, g6⟩
        simp only [symA, sy, AV.cells, AV.isTup, startF, Nat.reduceLT, Nat.reduceEqDiff, Nat.reduceAdd]
        apply hK
        rw [Nat.sub_self, List.replicate_zero, List.append_nil, List.take_of_length_le (by rw [sha_length]; omega)] at g6
        simp only [symA, sy, AV.cells, AV.isTup, startF, Nat.reduceLT, Nat.reduceEqDiff, Nat.reduceAdd, sn, Nat.reduceLeDiff, Nat.reduceMul, Nat.reduceSub, Nat.reduceMod, Nat.reduceDiv, Heap.cellsAt, sh, g2, g12, g6, g0, bytesC_length, sha_length, List.length_replicate, List.drop_zero]
        rw [List.take_of_length_le (by rw [bytesC_length, sha_length]; omega), splice_all (by rw [bytesC_length, sha_length, bytesC_length]; simp)]
        refine ⟨rfl, [.agg (bytesC (sha m))], ?_, rfl⟩
        simp only [resFs, resF, symA, sy, AV.cells, AV.isTup, startF, Nat.reduceLT, Nat.reduceEqDiff, Nat.reduceAdd, sn, Nat.reduceLeDiff, Nat.reduceMul, Nat.reduceSub, Nat.reduceMod, Nat.reduceDiv, Heap.cellsAt, sh, g2, bytesC_length, sha_length, List.drop_zero]
        rw [List.take_of_length_le (by rw [bytesC_length, sha_length]; omega)])
  rw [hout] at hS
  exact hS.frame gfree (by simp [freeL, AV.free, freeLL_bytesE]) (tk := none) (fun k' hk' => by cases hk') (n := 0) H (v' := .agg (bytesC (sha m))) (by simp [Out.av, shutF, shut1, AV.free, freeL_bytesC])
/-- ref02.Short -/
theorem rshort_ok {m : List Nat} (hmb : Bytes m) (hml : m.length < 2^36) (tg : Nat) (H : Heap) : Sound Tryd.prog gv 48 [.lst tg 1 (bytesE m)] H (.ret (.agg (bytesC ((sha m).take 16)))) H := by
  refine Sound.tag0 ?_ tg
  obtain ⟨d, hd⟩ : ∃ d, sha m = d := ⟨_, rfl⟩
  have hdl : d.length = 32 := by rw [← hd, sha_length]
  rw [hd]
  obtain ⟨out, H', hout, hS⟩ := Sound_of_FC (R := fun o h => o = .ret (.agg (bytesC (d.take 16)))) mixed is48 (args := [.lst 0 1 (bytesE m)]) (by unfold F48 om oo; simp) (H := ⟨0, .nil⟩) (by
    show FC Tryd.prog gv 19 F48.body _ _ _ (retF [.cell 2 true 16] _)
    unfold F48 om oo
    refine FC_seq fun K hK => ?_
    simp only [symA, sy, AV.cells, AV.isTup, startF, Nat.reduceLT, Nat.reduceEqDiff, Nat.reduceAdd]
    apply hK
    clear hK K
    have hS66 := rsum_ok hmb hml 0
    rw [hd] at hS66
    refine FC_seq fun K hK => ?_
    simp only [symA, sy, AV.cells, AV.isTup, startF, Nat.reduceLT, Nat.reduceEqDiff, Nat.reduceAdd]
    refine FOps_call (by decide) (by simp only [sm, symB, Nat.reduceEqDiff, startF]) (hS66 _) ?_
    simp only [symA, sy, AV.cells, AV.isTup, startF, Nat.reduceLT, Nat.reduceEqDiff, Nat.reduceAdd, sn, Nat.reduceLeDiff, Nat.reduceMul, Nat.reduceSub, Nat.reduceMod, Nat.reduceDiv, Heap.cellsAt, sh, bytesC_length, hdl, List.length_replicate]
    rw [splice_all (by rw [bytesC_length, hdl]; simp)]
    apply hK
    clear hK K
    refine FC_seq fun K hK => ?_
    simp only [symA, sy, AV.cells, AV.isTup, startF, Nat.reduceLT, Nat.reduceEqDiff, Nat.reduceAdd, sn, Nat.reduceLeDiff, Nat.reduceMul, Nat.reduceSub, Nat.reduceMod, Nat.reduceDiv, sl, splice, fillA, Heap.cellsAt, sh]
    apply hK
    clear hK K
    refine FC_seq fun K hK => ?_
    refine FC_seq fun K hK => ?_
    simp only [symA, sy, AV.cells, AV.isTup, startF, Nat.reduceLT, Nat.reduceEqDiff, Nat.reduceAdd]
    apply hK
    clear hK K
    refine FC_for (id := 0) (c := 10) (fun i f H => f 2 = .ref 0 0 ∧ f 3 = .ref 1 0 ∧ f 4 = .ref 2 0 ∧ f 5 = .int .i64 i ∧ H.get 0 = some (.cells (bytesC (List.replicate 16 0)) false) ∧ H.get 1 = some (.cells (bytesC d) false) ∧
      H.get 2 = some (.cells (bytesC (d.take i) ++ List.replicate (16 - i) (.int .u8 0)) false)) 16 ?_ ?_ ?_ ?_
    · exact ⟨by simp only [symB, ne_eq, Nat.reduceEqDiff, not_false_eq_true, Heap.cellsAt, sh, Nat.reduceAdd], by simp only [symB, ne_eq, Nat.reduceEqDiff, not_false_eq_true, Heap.cellsAt, sh, Nat.reduceAdd], by simp only [symB, ne_eq, Nat.reduceEqDiff, not_false_eq_true, Heap.cellsAt, sh, Nat.reduceAdd], by simp only [symB, ne_eq, Nat.reduceEqDiff, not_false_eq_true]; rfl, by simp only [Heap.cellsAt, sh, Nat.reduceAdd, Nat.reduceEqDiff]; rfl, by simp only [Heap.cellsAt, sh, Nat.reduceAdd, Nat.reduceEqDiff], by simp only [Heap.cellsAt, sh, Nat.reduceAdd, Nat.reduceEqDiff]; rfl⟩
    · rintro i f H hi ⟨g2, g3, g4, g5, g9⟩ K hK Q'
      simp only [symA, sy, AV.cells, AV.isTup, startF, Nat.reduceLT, Nat.reduceEqDiff, Nat.reduceAdd, g5]
      refine ⟨trivial, trivial, hK _ ?_ ⟨by simpa only [symB, ne_eq, Nat.reduceEqDiff, not_false_eq_true] using g2, by simpa only [symB, ne_eq, Nat.reduceEqDiff, not_false_eq_true] using g3, by simpa only [symB, ne_eq, Nat.reduceEqDiff, not_false_eq_true] using g4, by simpa only [symB, ne_eq, Nat.reduceEqDiff, not_false_eq_true] using g5, g9⟩⟩
      simp only [symB, ne_eq, Nat.reduceEqDiff, not_false_eq_true]
      exact congrArg _ (decide_eq_decide.mpr (by omega))
    · rintro i f H hi ⟨g2, g3, g4, g5, e0, e1, e2⟩
      have hl6 : (d.take i).length = i := by simp; omega
      have hcl : (bytesC (d.take i) ++ List.replicate (16 - i) (AV.int .u8 0)).length = 16 := by rw [List.length_append, bytesC_length, hl6, List.length_replicate]; omega
      have hsp := splice_fill (d.take i) (16 - (i + 1)) (d.getD i 0)
      rw [hl6, show 16 - (i + 1) + 1 = 16 - i by omega, ← take_snoc (by omega)] at hsp
      have hgd : (bytesC d).getD i undefA = .int .u8 (d.getD i 0) := by
        simp [bytesC, getD_eq, List.getElem?_eq_getElem (show i < d.length by omega)]
      simp only [FC_blockE, symA, sy, AV.cells, AV.isTup, startF, Nat.reduceLT, Nat.reduceEqDiff, Nat.reduceAdd, sn, Nat.reduceLeDiff, Nat.reduceMul, Nat.reduceSub, Nat.reduceMod, Nat.reduceDiv, g3, g4, g5, asNat_nat, show i < 32 by omega, hi, cellsAt_get e1, bytesC_length, hdl, show i + 1 ≤ 32 by omega, hgd, e2, hcl, show i + 1 ≤ 16 by omega, hsp]
      refine ⟨trivial, trivial, g2, (by first | exact g3 | trivial), (by first | exact g4 | trivial), ?_, by rw [Heap.get_set, if_neg (by omega)]; exact e0, by rw [Heap.get_set, if_neg (by omega)]; exact e1, get_set_self _ _ _⟩
      rw [wrap_i64 (by omega) (by omega)]; rfl
    · rintro f H ⟨g2, g3, g4, g5, e0, e1, e2⟩
      rw [Nat.sub_self, List.replicate_zero, List.append_nil] at e2
      have hl16 : (d.take 16).length = 16 := by simp; omega
      simp only [symA, sy, AV.cells, AV.isTup, startF, Nat.reduceLT, Nat.reduceEqDiff, Nat.reduceAdd]
      apply hK
      simp only [symA, sy, AV.cells, AV.isTup, startF, Nat.reduceLT, Nat.reduceEqDiff, Nat.reduceAdd, sn, Nat.reduceLeDiff, Nat.reduceMul, Nat.reduceSub, Nat.reduceMod, Nat.reduceDiv, Heap.cellsAt, sh, g2, g4, e0, e2, bytesC_length, hl16, List.length_replicate, List.drop_zero]
      rw [List.take_of_length_le (by rw [bytesC_length, hl16]; omega), splice_all (by rw [bytesC_length, hl16, bytesC_length]; simp)]
      simp only [symA, sy, AV.cells, AV.isTup, startF, Nat.reduceLT, Nat.reduceEqDiff, Nat.reduceAdd, bytesC_length, hl16]
      refine ⟨rfl, [.agg (bytesC (d.take 16))], ?_, rfl⟩
      simp only [resFs, resF, symA, sy, AV.cells, AV.isTup, startF, Nat.reduceLT, Nat.reduceEqDiff, Nat.reduceAdd, sn, Nat.reduceLeDiff, Nat.reduceMul, Nat.reduceSub, Nat.reduceMod, Nat.reduceDiv, Heap.cellsAt, sh, g2, bytesC_length, hl16, List.drop_zero]
      rw [List.take_of_length_le (by rw [bytesC_length, hl16]; omega)])
  rw [hout] at hS
  exact hS.frame gfree (by simp [freeL, AV.free, freeLL_bytesE]) (tk := none) (fun k' hk' => by cases hk') (n := 0) H (v' := .agg (bytesC (d.take 16))) (by simp [Out.av, shutF, shut1, AV.free, freeL_bytesC])
/-- ref01.Bytes -/
theorem rbytes_ok (p : List UInt8) (hl : p.length < 2^36) (H : Heap) : Sound Tryd.prog gv 67 [.str p] H (.ret (.lst (H.next + 2) 1 (bytesE (uvar (zig p.length) ++ natB p)))) (H.alloc .tok) := by
  have hne : uvar (zig (p.length : Int)) ++ natB p ≠ [] := fun h => uvar_ne _ (List.append_eq_nil_iff.1 h).1
  refine Sound_own gfree rfl (bytesE_ne hne) (freeLL_bytesE _) (Sound_of_FC mixed is67 (by unfold F67 om oo; simp) ?_) H
  show FC Tryd.prog gv 8 F67.body _ _ _ (retF [.tmp 2] _)
  unfold F67 om oo
  refine FC_seq fun K hK => ?_
  simp only [symA, sy, AV.cells, AV.isTup, startF, Nat.reduceLT, Nat.reduceEqDiff, Nat.reduceAdd]
  apply hK
  clear hK K
  simp only [symA, sy, AV.cells, AV.isTup, startF, Nat.reduceLT, Nat.reduceEqDiff, Nat.reduceAdd]
  refine FOps_call (by decide) (by simp only [sm, symB, Nat.reduceEqDiff, startF]) (rint_ok (n := (p.length : Int)) (by omega) (by omega) _) ?_
  have q3 := uvar_len10 (zig_lt (n := (p.length : Int)) (by omega) (by omega))
  obtain ⟨v, H', a1, a2, a3⟩ := (Own.fresh ⟨0, .nil⟩ 1 (bytesE (uvar (zig (p.length : Int))))).append (bytes := 1) (ys := u8s p) (by simp only [bytesE_length, u8s_eq, natB_length]; omega)
  simp only [symA, sy, AV.cells, AV.isTup, startF, Nat.reduceLT, Nat.reduceEqDiff, Nat.reduceAdd, elemsOf, a1]
  refine ⟨rfl, [v], by simp only [resFs, resF, symB, ne_eq, Nat.reduceEqDiff, not_false_eq_true], v, rfl, ?_⟩
  rw [bytesE_append, ← u8s_eq]
  exact a2
/-- ref02.Input -/
theorem rinput_ok {tag : Nat} (htag : tag < 2^63) {tg : Nat} {parts : List (List UInt8)} {n : Nat} (hp : ∀ p ∈ parts, p.length < n) (hn : 1 + parts.length * (10 + n) < 2 ^ 36) (hn' : n < 2 ^ 36) (htg : tg < 2) (H : Heap) :
    Sound Tryd.prog gv 49 [.int .i64 tag, .lst tg 1 (strsE parts)] H (.ret (.lst (if parts = [] then 1 else H.next + 2) 1 (bytesE (pieces tag parts)))) (if parts = [] then H else H.alloc .tok) := by
  have hplen : parts.length < 2^36 := by
    have : parts.length * 1 ≤ parts.length * (10 + n) := Nat.mul_le_mul_left _ (by omega)
    omega
  obtain ⟨out, H', ⟨v, rfl, hv, hv'⟩, hS⟩ := Sound_of_FC (R := fun o H => ∃ v, o = .ret v ∧ (parts = [] → v = .lst 1 1 (bytesE (pieces tag parts))) ∧ (parts ≠ [] → Own H 1 v (bytesE (pieces tag parts)))) mixed is49 (args := [.int .i64 tag, .lst tg 1 (strsE parts)]) (by unfold F49 om oo; simp) (H := ⟨0, .nil⟩) (by
    show FC Tryd.prog gv 24 F49.body _ _ _ (retF [.tmp 4] _)
    unfold F49 om oo
    have w1 : IntKind.u8.wrap (tag : Int) = ((tag % 256 : Nat) : Int) := by rw [wrapU_nat rfl]; rfl
    refine FC_seq fun K hK => ?_
    simp only [symA, sy, AV.cells, AV.isTup, startF, Nat.reduceLT, Nat.reduceEqDiff, Nat.reduceAdd]
    apply hK
    clear hK K
    refine FC_seq fun K hK => ?_
    simp only [symA, sy, AV.cells, AV.isTup, startF, Nat.reduceLT, Nat.reduceEqDiff, Nat.reduceAdd, w1, litA]
    apply hK
    clear hK K
    refine FC_seq fun K hK => ?_
    refine FC_seq fun K hK => ?_
    simp only [symA, sy, AV.cells, AV.isTup, startF, Nat.reduceLT, Nat.reduceEqDiff, Nat.reduceAdd]
    apply hK
    clear hK K
    refine FC_for (id := 0) (c := 13) (fun i f H => f 1 = .lst tg 1 (strsE parts) ∧ f 6 = .int .i64 i ∧ OwnF H 1 (f 5) (bytesE (pieces tag (parts.take i))) ∧ (i = 0 → f 5 = .lst 1 1 (bytesE (pieces tag []))) ∧ (i ≠ 0 → Own H 1 (f 5) (bytesE (pieces tag (parts.take i))))) parts.length ?_ ?_ ?_ ?_
    · exact ⟨by simp only [symB, ne_eq, Nat.reduceEqDiff, not_false_eq_true, startF, List.getD_cons_succ, List.getD_cons_zero], by simp only [symB, ne_eq, Nat.reduceEqDiff, not_false_eq_true]; rfl, .inr (by simp only [symB, ne_eq, Nat.reduceEqDiff, not_false_eq_true]; rfl), fun _ => by simp only [symB, ne_eq, Nat.reduceEqDiff, not_false_eq_true]; rfl, fun h => absurd rfl h⟩
    · rintro i f H hi ⟨h1, h2, h3, h4⟩ K hK Q'
      simp only [symA, sy, AV.cells, AV.isTup, startF, Nat.reduceLT, Nat.reduceEqDiff, Nat.reduceAdd, h1, h2, strsE_length]
      refine ⟨trivial, trivial, hK _ ?_ ⟨by simpa only [symB, ne_eq, Nat.reduceEqDiff, not_false_eq_true] using h1, by simpa only [symB, ne_eq, Nat.reduceEqDiff, not_false_eq_true] using h2, by simpa only [symB, ne_eq, Nat.reduceEqDiff, not_false_eq_true] using h3, by simpa only [symB, ne_eq, Nat.reduceEqDiff, not_false_eq_true] using h4⟩⟩
      simp only [symB, ne_eq, Nat.reduceEqDiff, not_false_eq_true]
      exact congrArg _ (decide_eq_decide.mpr (by omega))
    · rintro i f H hi ⟨h1, h2, h3, h4, h5⟩
      obtain ⟨p, hpd⟩ : ∃ p, parts.getD i [] = p := ⟨_, rfl⟩
      have hpn : p.length < n := by rw [← hpd, List.getD_eq_getElem?_getD, List.getElem?_eq_getElem hi]; exact hp _ (List.getElem_mem hi)
      have hpl : (pieces tag (parts.take i)).length ≤ 1 + i * (10 + n) := by
        have := pieces_len (tag := tag) (parts := parts.take i) (n := n) (fun p hx => hp p (List.mem_of_mem_take hx)) hn'
        rw [List.length_take, Nat.min_eq_left (by omega)] at this
        exact this
      have hpm : (i + 1) * (10 + n) ≤ parts.length * (10 + n) := Nat.mul_le_mul_right _ hi
      rw [Nat.add_mul] at hpm
      have hpt := pieces_take (tag := tag) hi
      rw [hpd] at hpt
      have q3 := uvar_len10 (zig_lt (n := (p.length : Int)) (by omega) (by omega))
      refine FC_block ?_
      simp only [symA, sy, AV.cells, AV.isTup, startF, Nat.reduceLT, Nat.reduceEqDiff, Nat.reduceAdd, h1, h2, asNat_nat, strsE_length, hi, strsE_getD parts hi, hpd]
      refine FOps_call (by decide) (by simp only [sm, symB, Nat.reduceEqDiff, startF]) (rbytes_ok p (by omega) H) ?_
      have h3a : OwnF (H.alloc .tok) 1 (f 5) (bytesE (pieces tag (parts.take i))) := by
        rcases h3 with h | h
        · exact .inl (h.alloc _)
        · exact .inr h
      obtain ⟨v', H', a1, a2, a3, a4⟩ := h3a.append (bytes := 1) (ys := bytesE (uvar (zig (p.length : Int)) ++ natB p)) (by simp only [bytesE_length, List.length_append, natB_length]; omega)
      have hne : bytesE (uvar (zig (p.length : Int)) ++ natB p) ≠ [] := bytesE_ne fun h => uvar_ne _ (List.append_eq_nil_iff.1 h).1
      rw [← bytesE_append, ← hpt] at a2 a4
      simp only [symA, sy, AV.cells, AV.isTup, startF, Nat.reduceLT, Nat.reduceEqDiff, Nat.reduceAdd, elemsOf, a1, h2]
      refine ⟨trivial, trivial, (by first | exact h1 | trivial), ?_, a2, fun h => (by first | omega | exact h.elim), fun _ => a4 hne⟩
      rw [wrap_i64 (by omega) (by omega)]; rfl
    · rintro f H ⟨h1, h2, h3, h4, h5⟩
      rw [List.take_length] at h3 h5
      simp only [symA, sy, AV.cells, AV.isTup, startF, Nat.reduceLT, Nat.reduceEqDiff, Nat.reduceAdd]
      apply hK
      simp only [symA, sy, AV.cells, AV.isTup, startF, Nat.reduceLT, Nat.reduceEqDiff, Nat.reduceAdd]
      refine ⟨rfl, [f 5], by simp only [resFs, resF, symB, ne_eq, Nat.reduceEqDiff, not_false_eq_true], f 5, rfl, fun h => ?_, fun h => ?_⟩
      · subst h; exact h4 rfl
      · exact h5 fun h' => h (List.eq_nil_of_length_eq_zero h'))
  have hfr : freeL [AV.int .i64 (tag : Int), .lst tg 1 (strsE parts)] = true := by simp [freeL, AV.free, freeLL_strsE, Nat.blt_eq, htg]
  by_cases h : parts = []
  · rw [if_pos h, if_pos h]
    rw [hv h] at hS
    exact hS.frame gfree hfr (tk := none) (fun k' hk' => by cases hk') (n := 0) H (v' := .lst 1 1 (bytesE (pieces tag parts))) (by simp [Out.av, shutF, shut1, freeLL_bytesE, tagA])
  · rw [if_neg h, if_neg h]
    exact Sound_own gfree hfr (bytesE_ne (by simp [pieces])) (freeLL_bytesE _) ⟨_, _, ⟨v, rfl, hv' h⟩, hS⟩ H
/-- ref02.Of -/
theorem rof_ok {tag : Nat} (htag : tag < 2^63) {tg : Nat} (htg : tg < 2) {parts : List (List UInt8)} (hne : parts ≠ []) {n : Nat} (hp : ∀ p ∈ parts, p.length < n) (hn : 1 + parts.length * (10 + n) < 2 ^ 36) (hn' : n < 2 ^ 36) (H : Heap) :
    Sound Tryd.prog gv 27 [.int .i64 tag, .lst tg 1 (strsE parts)] H (.ret (.agg (bytesC (ofD tag parts)))) H := by
  have hpb : Bytes (pieces tag parts) := by
    intro x hx
    simp only [pieces, List.mem_cons, List.mem_flatMap] at hx
    rcases hx with rfl | ⟨p, _, hx⟩
    · omega
    · exact bytes_append (uvar_bytes _) (natB_bytes _) x hx
  have hpl := pieces_len (tag := tag) (parts := parts) (n := n) hp hn'
  have hl16 := ofD_length tag parts
  obtain ⟨out, H', hout, hS⟩ := Sound_of_FC (R := fun o h => o = .ret (.agg (bytesC (ofD tag parts)))) mixed is27 (args := [.int .i64 tag, .lst tg 1 (strsE parts)]) (by unfold F27 om oo; simp) (H := ⟨0, .nil⟩) (by
    show FC Tryd.prog gv 9 F27.body _ _ _ (retF [.cell 4 true 16] _)
    unfold F27 om oo
    refine FC_seq fun K hK => ?_
    simp only [symA, sy, AV.cells, AV.isTup, startF, Nat.reduceLT, Nat.reduceEqDiff, Nat.reduceAdd]
    apply hK
    clear hK K
    refine FC_seq fun K hK => ?_
    simp only [symA, sy, AV.cells, AV.isTup, startF, Nat.reduceLT, Nat.reduceEqDiff, Nat.reduceAdd]
    have hSi := rinput_ok htag hp hn hn' htg (Heap.alloc ⟨0, .nil⟩ (.cells (List.replicate 16 (.int .u8 0)) false))
    rw [if_neg hne, if_neg hne] at hSi
    simp only [Heap.next_alloc, Nat.zero_add, Nat.reduceAdd] at hSi
    refine FOps_call (by decide) (by simp only [sm, symB, Nat.reduceEqDiff, startF]) (hSi) ?_
    refine FOps_call (by decide) (by simp only [sm, symB, Nat.reduceEqDiff, startF]) (rshort_ok hpb (by omega) 3 _) ?_
    have hl16' : (List.take 16 (sha (pieces tag parts))).length = 16 := hl16
    simp only [symA, sy, AV.cells, AV.isTup, startF, Nat.reduceLT, Nat.reduceEqDiff, Nat.reduceAdd, sn, Nat.reduceLeDiff, Nat.reduceMul, Nat.reduceSub, Nat.reduceMod, Nat.reduceDiv, bytesC_length, hl16', List.length_replicate, Heap.cellsAt, sh]
    rw [splice_all (by rw [bytesC_length, hl16']; simp)]
    apply hK
    simp only [symA, sy, AV.cells, AV.isTup, startF, Nat.reduceLT, Nat.reduceEqDiff, Nat.reduceAdd]
    refine ⟨rfl, [.agg (bytesC (ofD tag parts))], ?_, rfl⟩
    simp only [resFs, resF, symA, sy, AV.cells, AV.isTup, startF, Nat.reduceLT, Nat.reduceEqDiff, Nat.reduceAdd, sn, Nat.reduceLeDiff, Nat.reduceMul, Nat.reduceSub, Nat.reduceMod, Nat.reduceDiv, Heap.cellsAt, sh, bytesC_length, hl16', List.drop_zero]
    rw [List.take_of_length_le (by rw [bytesC_length, hl16']; omega), ofD])
  rw [hout] at hS
  exact hS.frame gfree (by simp [freeL, AV.free, freeLL_strsE, Nat.blt_eq, htg]) (tk := none) (fun k' hk' => by cases hk') (n := 0) H (v' := .agg (bytesC (ofD tag parts))) (by simp [Out.av, shutF, shut1, AV.free, freeL_bytesC])
end Go.Proofs.YtfdaiidepcbemaaDoor
end
