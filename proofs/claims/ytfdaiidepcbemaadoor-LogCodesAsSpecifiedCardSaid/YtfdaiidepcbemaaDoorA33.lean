/-
  CONTRACTS: the reference of layer 2: rotations, words, padding.
-/
import Derived.Test.YtfdaiidepcbemaaDoorA32
set_option linter.unusedVariables false
set_option linter.unusedSimpArgs false
section
namespace Go.Proofs.YtfdaiidepcbemaaDoor
open Go Go.Av Go.Av.Pr
set_option maxRecDepth 100000
attribute [local congr] FD2_congr stepK_congr condK_congr guardK_congr FC_congr FOps_congr thenF_congr inBlockF_congr
theorem rrot_ok (x : U32) (k : Int) (n : Nat) (hk : k = (n : Int)) (h0 : 0 < n) (h1 : n < 32) (H : Heap) : Sound Tryd.prog gv 81 [.int .u32 x.toNat, .int .i64 k] H (.ret (.int .u32 (rotr x n).toNat)) H := by
  subst hk
  have e2 : IntKind.i64.wrap (32 - (n : Int)) = ((32 - n : Nat) : Int) := by rw [wrap_i64 (by omega) (by omega)]; omega
  have e3 : min (Int.toNat ((32 - n : Nat) : Int)) IntKind.u32.bits = 32 - n := by simp [IntKind.bits]
  have e4 : min (Int.toNat (n : Int)) IntKind.u32.bits = n := by simp [IntKind.bits]; omega
  refine Sound_FC is81 (by unfold F81 om oo; simp) ?_
  show FC Tryd.prog gv 13 F81.body _ _ _ (retF [.tmp 4] _)
  unfold F81 om oo
  refine FC_seq fun K hK => ?_
  simp only [symA, sy, AV.cells, AV.isTup, startF, Nat.reduceLT, Nat.reduceEqDiff, Nat.reduceAdd]
  apply hK
  clear hK K
  refine FC_seq fun K hK => ?_
  refine FC_draw0 (by decide) ?_
  simp only [symA, sy, AV.cells, AV.isTup, startF, Nat.reduceLT, Nat.reduceEqDiff, Nat.reduceAdd, symF, symFp, FD2_nil, ROp.readsId, idOf, reduceCtorEq, false_implies, implies_true, forall_const, true_and, and_true, List.not_mem_nil, List.mem_cons, or_false, false_or, Prod.mk.injEq, forall_eq, forall_eq_or_imp, forall_eq', Option.some.injEq, e2, e3, e4, w_shl, w_shr, show ¬ (((32 - n : Nat) : Int) < 0) by omega, show ¬ ((n : Int) < 0) by omega, w_bits_or]
  apply hK
  simp only [symA, sy, AV.cells, AV.isTup, startF, Nat.reduceLT, Nat.reduceEqDiff, Nat.reduceAdd]
  refine ⟨rfl, _, by simp only [resFs, resF, symB, ne_eq, Nat.reduceEqDiff, not_false_eq_true]; rfl, ?_, rfl⟩
  rfl
theorem be4 {c : List Nat} (h : c.length = 4) : beN c = ((BitVec.ofNat 32 (c.getD 0 0) <<< 24 ||| BitVec.ofNat 32 (c.getD 1 0) <<< 16) ||| BitVec.ofNat 32 (c.getD 2 0) <<< 8) ||| BitVec.ofNat 32 (c.getD 3 0) := by
  match c, h with
  | [a, b, c, d], _ =>
    simp only [beN, List.foldl_cons, List.foldl_nil, List.getD_cons_zero, List.getD_cons_succ, BitVec.shiftLeft_or_distrib, ← BitVec.shiftLeft_add, Nat.reduceAdd]
    rw [show (0 : U32) <<< 32 = 0#32 from rfl, BitVec.zero_or]
theorem words_ok {b : List Nat} (h64 : b.length = 64) (hb : Bytes b) (tg : Nat) (H : Heap) : Sound Tryd.prog gv 80 [.lst tg 1 (bytesE b)] H (.ret (.agg (wC (wfill b 64)))) H := by
  refine Sound.tag0 ?_ tg
  obtain ⟨out, H', hout, hS⟩ := Sound_of_FC (R := fun o h => o = .ret (.agg (wC (wfill b 64)))) mixed is80 (args := [.lst 0 1 (bytesE b)]) (by unfold F80 om oo; simp) (H := ⟨0, .nil⟩) (by
    show FC Tryd.prog gv 101 F80.body _ _ _ (retF [.cell 2 true 64] _)
    unfold F80 om oo
    refine FC_seq fun K hK => ?_
    simp only [symA, sy, AV.cells, AV.isTup, startF, Nat.reduceLT, Nat.reduceEqDiff, Nat.reduceAdd]
    apply hK
    clear hK K
    refine FC_seq fun K hK => ?_
    simp only [symA, sy, AV.cells, AV.isTup, startF, Nat.reduceLT, Nat.reduceEqDiff, Nat.reduceAdd]
    apply hK
    clear hK K
    refine FC_seq fun K hK => ?_
    refine FC_seq fun K hK => ?_
    simp only [symA, sy, AV.cells, AV.isTup, startF, Nat.reduceLT, Nat.reduceEqDiff, Nat.reduceAdd]
    apply hK
    clear hK K
    refine FC_for (id := 0) (c := 9) (fun t f H => f 0 = .lst 0 1 (bytesE b) ∧ f 2 = .ref 0 0 ∧ f 3 = .ref 1 0 ∧ f 4 = .int .i64 t ∧ H.get 0 = some (.cells (wC (List.replicate 64 0)) false) ∧ H.get 1 = some (.cells (wC (wfill b t)) false)) 16 ?_ ?_ ?_ ?_
    · refine ⟨by simp only [symB, ne_eq, Nat.reduceEqDiff, not_false_eq_true, startF, List.getD_cons_zero], by simp only [symB, ne_eq, Nat.reduceEqDiff, not_false_eq_true], by simp only [symB, ne_eq, Nat.reduceEqDiff, not_false_eq_true, Heap.cellsAt, sh, Nat.reduceAdd], by simp only [symB, ne_eq, Nat.reduceEqDiff, not_false_eq_true]; rfl, ?_, ?_⟩
      · simp only [Heap.cellsAt, sh, Nat.reduceAdd, Nat.reduceEqDiff, wC_replicate]
      · simp only [Heap.cellsAt, sh, Nat.reduceAdd, Nat.reduceEqDiff, wC_replicate]; rfl
    · rintro t f H ht ⟨h1, h2, h3, h4, h5⟩ K hK Q'
      simp only [symA, sy, AV.cells, AV.isTup, startF, Nat.reduceLT, Nat.reduceEqDiff, Nat.reduceAdd, h4]
      refine ⟨trivial, trivial, hK _ ?_ ⟨by simpa only [symB, ne_eq, Nat.reduceEqDiff, not_false_eq_true] using h1, by simpa only [symB, ne_eq, Nat.reduceEqDiff, not_false_eq_true] using h2, by simpa only [symB, ne_eq, Nat.reduceEqDiff, not_false_eq_true] using h3, by simpa only [symB, ne_eq, Nat.reduceEqDiff, not_false_eq_true] using h4, h5⟩⟩
      simp only [symB, ne_eq, Nat.reduceEqDiff, not_false_eq_true]
      exact congrArg _ (decide_eq_decide.mpr (by omega))
    · rintro t f H ht ⟨h1, h2, h3, h4, h5, h6⟩
      have w0 : IntKind.i64.wrap (4 * (t : Int)) = ((4 * t : Nat) : Int) := by rw [wrap_i64 (by omega) (by omega)]; simp
      have w1 : IntKind.i64.wrap (((4 * t : Nat) : Int) + 1) = ((4 * t + 1 : Nat) : Int) := by rw [wrap_i64 (by omega) (by omega)]; rfl
      have w2 : IntKind.i64.wrap (((4 * t : Nat) : Int) + 2) = ((4 * t + 2 : Nat) : Int) := by rw [wrap_i64 (by omega) (by omega)]; rfl
      have w3 : IntKind.i64.wrap (((4 * t : Nat) : Int) + 3) = ((4 * t + 3 : Nat) : Int) := by rw [wrap_i64 (by omega) (by omega)]; rfl
      obtain ⟨c, hc⟩ : ∃ c, (b.drop (4 * t)).take 4 = c := ⟨_, rfl⟩
      have hc4 : c.length = 4 := by rw [← hc]; simp; omega
      have hg : ∀ j, j < 4 → b.getD (4 * t + j) 0 = c.getD j 0 := fun j hj => by
        rw [← hc]
        simp [List.getElem?_take, hj, List.getElem?_drop]
      have hg0 := hg 0 (by omega)
      rw [Nat.add_zero] at hg0
      have hlen : (wC (wfill b t)).length = 64 := by rw [wC_length, wfill_length]
      refine FC_block ?_
      refine FC_draw0 (by decide) ?_
      simp only [symA, sy, AV.cells, AV.isTup, startF, Nat.reduceLT, Nat.reduceEqDiff, Nat.reduceAdd, symF, symFp, FD2_nil, ROp.readsId, idOf, reduceCtorEq, false_implies, implies_true, forall_const, true_and, and_true, List.not_mem_nil, List.mem_cons, or_false, false_or, Prod.mk.injEq, forall_eq, forall_eq_or_imp, forall_eq', Option.some.injEq, sn, Nat.reduceLeDiff, Nat.reduceMul, Nat.reduceSub, Nat.reduceMod, Nat.reduceDiv, h1, h3, h4, w0, w1, w2, w3, asNat_nat, bytesE_length, h64, show 4 * t < 64 by omega, show 4 * t + 1 < 64 by omega, show 4 * t + 2 < 64 by omega, show 4 * t + 3 < 64 by omega, bytesE_getD b (show 4 * t < b.length by omega), bytesE_getD b (show 4 * t + 1 < b.length by omega), bytesE_getD b (show 4 * t + 2 < b.length by omega), bytesE_getD b (show 4 * t + 3 < b.length by omega), hg0, hg 1 (by omega), hg 2 (by omega), hg 3 (by omega), w_ofNat, Int.reduceLT, show min (Int.toNat 24) IntKind.u32.bits = 24 from rfl, show min (Int.toNat 16) IntKind.u32.bits = 16 from rfl, show min (Int.toNat 8) IntKind.u32.bits = 8 from rfl, w_shl, w_bits_or, show t < 64 by omega, h6, hlen, show t + 1 ≤ 64 by omega, Heap.next_set]
      rw [← be4 hc4, splice_wC _ (by rw [wfill_length]; omega)]
      refine ⟨h2, ?_, by rw [Heap.get_set, if_neg (by decide)]; exact h5, ?_⟩
      · rw [wrap_i64 (by omega) (by omega)]; rfl
      · rw [get_set_self, wfill, wstep, if_pos (by omega), hc]
    · rintro f H ⟨h1, h2, h3, h4, h5, h6⟩
      simp only [symA, sy, AV.cells, AV.isTup, startF, Nat.reduceLT, Nat.reduceEqDiff, Nat.reduceAdd]
      apply hK
      clear hK K
      refine FC_seq fun K hK => ?_
      refine FC_seq fun K hK => ?_
      simp only [symA, sy, AV.cells, AV.isTup, startF, Nat.reduceLT, Nat.reduceEqDiff, Nat.reduceAdd]
      apply hK
      clear hK K
      refine FC_for (id := 2) (c := 48) (fun i f H => f 2 = .ref 0 0 ∧ f 3 = .ref 1 0 ∧ f 5 = .int .i64 ((16 + i : Nat) : Int) ∧ H.get 0 = some (.cells (wC (List.replicate 64 0)) false) ∧ H.get 1 = some (.cells (wC (wfill b (16 + i))) false)) 48 ?_ ?_ ?_ ?_
      · exact ⟨by simpa only [symB, ne_eq, Nat.reduceEqDiff, not_false_eq_true] using h2, by simpa only [symB, ne_eq, Nat.reduceEqDiff, not_false_eq_true] using h3, by simp only [symB, ne_eq, Nat.reduceEqDiff, not_false_eq_true]; rfl, h5, h6⟩
      · rintro i f H hi ⟨h2, h3, h4, h5⟩ K hK Q'
        simp only [symA, sy, AV.cells, AV.isTup, startF, Nat.reduceLT, Nat.reduceEqDiff, Nat.reduceAdd, h4]
        refine ⟨trivial, trivial, hK _ ?_ ⟨by simpa only [symB, ne_eq, Nat.reduceEqDiff, not_false_eq_true] using h2, by simpa only [symB, ne_eq, Nat.reduceEqDiff, not_false_eq_true] using h3, by simpa only [symB, ne_eq, Nat.reduceEqDiff, not_false_eq_true] using h4, h5⟩⟩
        simp only [symB, ne_eq, Nat.reduceEqDiff, not_false_eq_true]
        exact congrArg _ (decide_eq_decide.mpr (by omega))
      · rintro i f H hi ⟨h2, h3, h4, h5, h6⟩
        obtain ⟨t, ht⟩ : ∃ t, 16 + i = t := ⟨_, rfl⟩
        rw [ht] at h4 h6
        have hlen : (wC (wfill b t)).length = 64 := by rw [wC_length, wfill_length]
        have hgd : ∀ c : Nat, 0 < c → (wC (wfill b t)).getD (t - c) undefA = .int .u32 ((wfill b t).getD (t - c) 0).toNat := fun c hc => by
          rw [wC_getD _ (by rw [wfill_length]; omega)]
        have s2 : IntKind.i64.wrap ((t : Int) - 2) = ((t - 2 : Nat) : Int) := by rw [wrap_i64 (by omega) (by omega)]; omega
        have s7 : IntKind.i64.wrap ((t : Int) - 7) = ((t - 7 : Nat) : Int) := by rw [wrap_i64 (by omega) (by omega)]; omega
        have s15 : IntKind.i64.wrap ((t : Int) - 15) = ((t - 15 : Nat) : Int) := by rw [wrap_i64 (by omega) (by omega)]; omega
        have s16 : IntKind.i64.wrap ((t : Int) - 16) = ((t - 16 : Nat) : Int) := by rw [wrap_i64 (by omega) (by omega)]; omega
        obtain ⟨p, hp⟩ : ∃ p, (wfill b t).getD (t - 15) 0 = p := ⟨_, rfl⟩
        obtain ⟨q, hq⟩ : ∃ q, (wfill b t).getD (t - 2) 0 = q := ⟨_, rfl⟩
        have hgp := hgd 15 (by omega)
        have hgq := hgd 2 (by omega)
        rw [hp] at hgp
        rw [hq] at hgq
        refine FC_block (FC_seq fun K2 hK2 => ?_)
        refine FC_draw0 (by decide) ?_
        simp only [symA, sy, AV.cells, AV.isTup, startF, Nat.reduceLT, Nat.reduceEqDiff, Nat.reduceAdd, symF, symFp, FD2_nil, ROp.readsId, idOf, reduceCtorEq, false_implies, implies_true, forall_const, true_and, and_true, List.not_mem_nil, List.mem_cons, or_false, false_or, Prod.mk.injEq, forall_eq, forall_eq_or_imp, forall_eq', Option.some.injEq, sn, Nat.reduceLeDiff, Nat.reduceMul, Nat.reduceSub, Nat.reduceMod, Nat.reduceDiv, h3, h4, s15, asNat_nat, cellsAt_get h6, hlen, show t - 15 < 64 by omega, show t - 15 + 1 ≤ 64 by omega, hgp]
        refine FD2_call (by decide) (by simp only [sm, symB, Nat.reduceEqDiff, startF]) (rrot_ok p 7 7 rfl (by decide) (by decide) _) (Nat.le_refl _) (fun _ _ _ => rfl) ?_
        simp only [symA, sy, AV.cells, AV.isTup, startF, Nat.reduceLT, Nat.reduceEqDiff, Nat.reduceAdd, symF, symFp, FD2_nil, ROp.readsId, idOf, reduceCtorEq, false_implies, implies_true, forall_const, true_and, and_true, List.not_mem_nil, List.mem_cons, or_false, false_or, Prod.mk.injEq, forall_eq, forall_eq_or_imp, forall_eq', Option.some.injEq, sn, Nat.reduceLeDiff, Nat.reduceMul, Nat.reduceSub, Nat.reduceMod, Nat.reduceDiv, h3, h4, s15, asNat_nat, cellsAt_get h6, hlen, show t - 15 < 64 by omega, show t - 15 + 1 ≤ 64 by omega, hgp]
        refine FD2_call (by decide) (by simp only [sm, symB, Nat.reduceEqDiff, startF]) (rrot_ok p 18 18 rfl (by decide) (by decide) _) (Nat.le_refl _) (fun _ _ _ => rfl) ?_
        simp only [symA, sy, AV.cells, AV.isTup, startF, Nat.reduceLT, Nat.reduceEqDiff, Nat.reduceAdd, symF, symFp, FD2_nil, ROp.readsId, idOf, reduceCtorEq, false_implies, implies_true, forall_const, true_and, and_true, List.not_mem_nil, List.mem_cons, or_false, false_or, Prod.mk.injEq, forall_eq, forall_eq_or_imp, forall_eq', Option.some.injEq, sn, Nat.reduceLeDiff, Nat.reduceMul, Nat.reduceSub, Nat.reduceMod, Nat.reduceDiv, h3, h4, s15, asNat_nat, cellsAt_get h6, hlen, show t - 15 < 64 by omega, show t - 15 + 1 ≤ 64 by omega, hgp, Int.reduceLT, show min (Int.toNat 3) IntKind.u32.bits = 3 from rfl, w_shr, w_bits_xor]
        apply hK2
        clear hK2 K2
        refine FC_seq fun K2 hK2 => ?_
        refine FC_draw0 (by decide) ?_
        simp only [symA, sy, AV.cells, AV.isTup, startF, Nat.reduceLT, Nat.reduceEqDiff, Nat.reduceAdd, symF, symFp, FD2_nil, ROp.readsId, idOf, reduceCtorEq, false_implies, implies_true, forall_const, true_and, and_true, List.not_mem_nil, List.mem_cons, or_false, false_or, Prod.mk.injEq, forall_eq, forall_eq_or_imp, forall_eq', Option.some.injEq, sn, Nat.reduceLeDiff, Nat.reduceMul, Nat.reduceSub, Nat.reduceMod, Nat.reduceDiv, h3, h4, s2, asNat_nat, cellsAt_get h6, hlen, show t - 2 < 64 by omega, show t - 2 + 1 ≤ 64 by omega, hgq]
        refine FD2_call (by decide) (by simp only [sm, symB, Nat.reduceEqDiff, startF]) (rrot_ok q 17 17 rfl (by decide) (by decide) _) (Nat.le_refl _) (fun _ _ _ => rfl) ?_
        simp only [symA, sy, AV.cells, AV.isTup, startF, Nat.reduceLT, Nat.reduceEqDiff, Nat.reduceAdd, symF, symFp, FD2_nil, ROp.readsId, idOf, reduceCtorEq, false_implies, implies_true, forall_const, true_and, and_true, List.not_mem_nil, List.mem_cons, or_false, false_or, Prod.mk.injEq, forall_eq, forall_eq_or_imp, forall_eq', Option.some.injEq, sn, Nat.reduceLeDiff, Nat.reduceMul, Nat.reduceSub, Nat.reduceMod, Nat.reduceDiv, h3, h4, s2, asNat_nat, cellsAt_get h6, hlen, show t - 2 < 64 by omega, show t - 2 + 1 ≤ 64 by omega, hgq]
        refine FD2_call (by decide) (by simp only [sm, symB, Nat.reduceEqDiff, startF]) (rrot_ok q 19 19 rfl (by decide) (by decide) _) (Nat.le_refl _) (fun _ _ _ => rfl) ?_
        simp only [symA, sy, AV.cells, AV.isTup, startF, Nat.reduceLT, Nat.reduceEqDiff, Nat.reduceAdd, symF, symFp, FD2_nil, ROp.readsId, idOf, reduceCtorEq, false_implies, implies_true, forall_const, true_and, and_true, List.not_mem_nil, List.mem_cons, or_false, false_or, Prod.mk.injEq, forall_eq, forall_eq_or_imp, forall_eq', Option.some.injEq, sn, Nat.reduceLeDiff, Nat.reduceMul, Nat.reduceSub, Nat.reduceMod, Nat.reduceDiv, h3, h4, s2, asNat_nat, cellsAt_get h6, hlen, show t - 2 < 64 by omega, show t - 2 + 1 ≤ 64 by omega, hgq, Int.reduceLT, show min (Int.toNat 10) IntKind.u32.bits = 10 from rfl, w_shr, w_bits_xor]
        apply hK2
        clear hK2 K2
        refine FC_draw0 (by decide) ?_
        simp only [symA, sy, AV.cells, AV.isTup, startF, Nat.reduceLT, Nat.reduceEqDiff, Nat.reduceAdd, symF, symFp, FD2_nil, ROp.readsId, idOf, reduceCtorEq, false_implies, implies_true, forall_const, true_and, and_true, List.not_mem_nil, List.mem_cons, or_false, false_or, Prod.mk.injEq, forall_eq, forall_eq_or_imp, forall_eq', Option.some.injEq, sn, Nat.reduceLeDiff, Nat.reduceMul, Nat.reduceSub, Nat.reduceMod, Nat.reduceDiv, h3, h4, s7, s16, asNat_nat, cellsAt_get h6, hlen, show t - 7 < 64 by omega, show t - 16 < 64 by omega, show t - 7 + 1 ≤ 64 by omega, show t - 16 + 1 ≤ 64 by omega, hgd 7 (by omega), hgd 16 (by omega), w_add, show t < 64 by omega, show t + 1 ≤ 64 by omega, h6, Heap.next_set]
        rw [splice_wC _ (by rw [wfill_length]; omega)]
        refine ⟨h2, ?_, by rw [Heap.get_set, if_neg (by decide)]; exact h5, ?_⟩
        · rw [wrap_i64 (by omega) (by omega), ← ht]; simp; omega
        · rw [get_set_self, show 16 + (i + 1) = t + 1 by omega, wfill, wstep, if_neg (by omega), hp, hq]
      · rintro f H ⟨h2, h3, h4, h5, h6⟩
        simp only [symA, sy, AV.cells, AV.isTup, startF, Nat.reduceLT, Nat.reduceEqDiff, Nat.reduceAdd]
        apply hK
        have hlen : (wC (wfill b 64)).length = 64 := by rw [wC_length, wfill_length]
        simp only [symA, sy, AV.cells, AV.isTup, startF, Nat.reduceLT, Nat.reduceEqDiff, Nat.reduceAdd, sn, Nat.reduceLeDiff, Nat.reduceMul, Nat.reduceSub, Nat.reduceMod, Nat.reduceDiv, h2, h3, cellsAt_get h6, h5, hlen, List.drop_zero]
        rw [List.take_of_length_le (by omega)]
        simp only [symA, sy, AV.cells, AV.isTup, startF, Nat.reduceLT, Nat.reduceEqDiff, Nat.reduceAdd, hlen, wC_length, List.length_replicate]
        rw [splice_all (by rw [hlen]; simp [wC_length])]
        refine ⟨rfl, [.agg (wC (wfill b 64))], ?_, rfl⟩
        simp only [resFs, resF, symA, sy, AV.cells, AV.isTup, startF, Nat.reduceLT, Nat.reduceEqDiff, Nat.reduceAdd, sn, Nat.reduceLeDiff, Nat.reduceMul, Nat.reduceSub, Nat.reduceMod, Nat.reduceDiv, h2, Heap.cellsAt, sh, hlen, List.drop_zero]
        rw [List.take_of_length_le (by omega)])
  rw [hout] at hS
  exact hS.frame gfree (by simp [freeL, AV.free, freeLL_bytesE]) (tk := none) (fun k' hk' => by cases hk') (n := 0) H (v' := .agg (wC (wfill b 64))) (by simp [Out.av, shutF, shut1, AV.free, freeL_wC])
theorem padded_ok {b : List Nat} (hl : b.length < 2^36) (tg : Nat) (H : Heap) : Sound Tryd.prog gv 79 [.lst tg 1 (bytesE b)] H (.ret (.lst (H.next + 2) 1 (bytesE (b ++ padOf b.length)))) (H.alloc .tok) := by
  refine Sound.tag0 ?_ tg
  have hne : b ++ padOf b.length ≠ [] := fun h => by have := (List.append_eq_nil_iff.1 h).2; simp [padOf] at this
  refine Sound_own gfree (by simp [freeL, AV.free, freeLL_bytesE]) (bytesE_ne hne) (freeLL_bytesE _) (Sound_of_FC mixed is79 (by unfold F79 om oo; simp) ?_) H
  show FC Tryd.prog gv 37 F79.body _ _ _ (retF [.tmp 2] _)
  unfold F79 om oo
  obtain ⟨L, hL⟩ : ∃ L, b.length = L := ⟨_, rfl⟩
  rw [hL] at hl ⊢
  have hzl : zpad L < 64 := Nat.mod_lt _ (by omega)
  refine FC_seq fun K hK => ?_
  simp only [symA, sy, AV.cells, AV.isTup, startF, Nat.reduceLT, Nat.reduceEqDiff, Nat.reduceAdd]
  apply hK
  clear hK K
  obtain ⟨v1, H1, a1, a2, a3, _⟩ := OwnF.append (H := ⟨0, .nil⟩) (sz := 1) (v := .lst 1 1 []) (els := []) (bytes := 1) (ys := bytesE b) (.inr rfl) (by simp only [bytesE_length, List.length_nil]; omega)
  rw [List.nil_append] at a2
  refine FC_seq fun K hK => ?_
  simp only [symA, sy, AV.cells, AV.isTup, startF, Nat.reduceLT, Nat.reduceEqDiff, Nat.reduceAdd, litA, elemsOf, a1]
  apply hK
  clear hK K
  obtain ⟨v2, H2, b1, _, b3, b2⟩ := a2.append (bytes := 1) (ys := [[.int .u8 128]]) (by simp only [bytesE_length, List.length_cons, List.length_nil]; omega)
  refine FC_seq fun K hK => ?_
  simp only [symA, sy, AV.cells, AV.isTup, startF, Nat.reduceLT, Nat.reduceEqDiff, Nat.reduceAdd, litA, elemsOf, b1]
  apply hK
  clear hK K
  refine FC_seq fun K hK => ?_
  refine FC_block (FC_loop (fun k f ds H => ds = [] ∧ ∃ j : Nat, j ≤ zpad L ∧ k = zpad L - j ∧ f 0 = .lst 0 1 (bytesE b) ∧ Own H 1 (f 3) (bytesE (b ++ (128 :: List.replicate j 0)))) (zpad L) ?_ ?_)
  · refine ⟨rfl, 0, by omega, by omega, by simp only [symB, ne_eq, Nat.reduceEqDiff, not_false_eq_true, startF, List.getD_cons_zero], ?_⟩
    simp only [symB, ne_eq, Nat.reduceEqDiff, not_false_eq_true]
    rw [bytesE_append]
    exact b2 (by simp)
  rintro k f ds H ⟨rfl, j, hj, rfl, h0, h3⟩
  obtain ⟨tag, h3'⟩ := OwnF.lst (.inl h3) (by simp [bytesE])
  refine FC_seq fun K2 hK2 => ?_
  refine FC_seq fun K3 hK3 => ?_
  have w3 : ((((b ++ (128 :: List.replicate j 0)).length : Nat) : Int).tmod 64 != 56) = decide (j ≠ zpad L) := by
    rw [Int.tmod_eq_emod_of_nonneg (by omega)]
    simp only [List.length_append, List.length_cons, List.length_replicate, hL]
    unfold zpad at hj ⊢
    rw [Bool.eq_iff_iff]
    simp
    omega
  simp only [symA, sy, AV.cells, AV.isTup, startF, Nat.reduceLT, Nat.reduceEqDiff, Nat.reduceAdd, h3', bytesE_length, show ¬ ((64 : Int) = 0) by decide, w3]
  apply hK3
  clear hK3 K3
  simp only [symA, sy, AV.cells, AV.isTup, startF, Nat.reduceLT, Nat.reduceEqDiff, Nat.reduceAdd]
  refine ⟨fun q => ?_, fun q => ?_⟩
  · apply hK2
    clear hK2 K2
    obtain ⟨v', H', c1, _, c3, c2⟩ := OwnF.append (.inl h3) (bytes := 1) (ys := [[.int .u8 0]]) (by simp only [bytesE_length, List.length_append, List.length_cons, List.length_replicate, List.length_nil]; omega)
    simp only [FC_blockE, symA, sy, AV.cells, AV.isTup, startF, Nat.reduceLT, Nat.reduceEqDiff, Nat.reduceAdd, litA, elemsOf, c1]
    refine ⟨zpad L - (j + 1), by omega, trivial, j + 1, by omega, rfl, h0, ?_⟩
    rw [List.replicate_succ', show b ++ (128 :: (List.replicate j 0 ++ [0])) = (b ++ (128 :: List.replicate j 0)) ++ [0] by simp, bytesE_append]
    exact c2 (by simp)
  · apply hK
    clear hK2 K2 hK K
    have hjz : j = zpad L := by simpa using q
    subst hjz
    have w1 : IntKind.u64.wrap (L : Int) = (L : Int) := wrap_u64 (by omega) (by omega)
    have w8 : IntKind.u64.wrap (8 * (L : Int)) = ((8 * L : Nat) : Int) := by rw [wrap_u64 (by omega) (by omega)]; simp
    refine FC_seq fun K hK => ?_
    simp only [symA, sy, AV.cells, AV.isTup, startF, Nat.reduceLT, Nat.reduceEqDiff, Nat.reduceAdd, h0, bytesE_length, hL, w1, w8]
    apply hK
    clear hK K
    refine FC_seq fun K hK => ?_
    refine FC_seq fun K hK => ?_
    simp only [symA, sy, AV.cells, AV.isTup, startF, Nat.reduceLT, Nat.reduceEqDiff, Nat.reduceAdd]
    apply hK
    clear hK K
    refine FC_for (id := 2) (c := 24) (fun i f H => f 4 = .int .u64 ((8 * L : Nat) : Int) ∧ f 5 = .int .i64 i ∧ Own H 1 (f 3) (bytesE (b ++ (128 :: (List.replicate (zpad L) 0 ++ (be8 (8 * L)).take i))))) 8 ?_ ?_ ?_ ?_
    · refine ⟨by simp only [symB, ne_eq, Nat.reduceEqDiff, not_false_eq_true], by simp only [symB, ne_eq, Nat.reduceEqDiff, not_false_eq_true]; rfl, ?_⟩
      rw [List.take_zero, List.append_nil]
      simpa only [symB, ne_eq, Nat.reduceEqDiff, not_false_eq_true] using h3
    · rintro i f H hi ⟨h4, h5, h3⟩ K hK Q'
      simp only [symA, sy, AV.cells, AV.isTup, startF, Nat.reduceLT, Nat.reduceEqDiff, Nat.reduceAdd, h5]
      refine ⟨trivial, trivial, hK _ ?_ ⟨by simpa only [symB, ne_eq, Nat.reduceEqDiff, not_false_eq_true] using h4, by simpa only [symB, ne_eq, Nat.reduceEqDiff, not_false_eq_true] using h5, by simpa only [symB, ne_eq, Nat.reduceEqDiff, not_false_eq_true] using h3⟩⟩
      simp only [symB, ne_eq, Nat.reduceEqDiff, not_false_eq_true]
      exact congrArg _ (decide_eq_decide.mpr (by omega))
    · rintro i f H hi ⟨h4, h5, h3⟩
      have hbe : (be8 (8 * L)).length = 8 := by simp [be8]
      have hget : (be8 (8 * L)).getD i 0 = 8 * L / 2 ^ (56 - 8 * i) % 256 := by simp [be8, List.getElem?_range, hi]
      have w4 : IntKind.i64.wrap (8 * (i : Int)) = ((8 * i : Nat) : Int) := by rw [wrap_i64 (by omega) (by omega)]; simp
      have w5 : IntKind.i64.wrap (56 - ((8 * i : Nat) : Int)) = ((56 - 8 * i : Nat) : Int) := by rw [wrap_i64 (by omega) (by omega)]; omega
      have w6 : min (Int.toNat ((56 - 8 * i : Nat) : Int)) IntKind.u64.bits = 56 - 8 * i := by simp [IntKind.bits]; omega
      have w7 : IntKind.u8.wrap (((8 * L : Nat) : Int).fdiv (2 ^ (56 - 8 * i))) = (((be8 (8 * L)).getD i 0 : Nat) : Int) := by
        rw [fdiv_pow, hget, show (2 : Int) ^ (56 - 8 * i) = ((2 ^ (56 - 8 * i) : Nat) : Int) by simp, ← Int.natCast_ediv, wrapU_nat rfl]
        rfl
      obtain ⟨v', H', c1, _, c3, c2⟩ := OwnF.append (.inl h3) (bytes := 1) (ys := [[.int .u8 (((be8 (8 * L)).getD i 0 : Nat) : Int)]]) (by simp only [bytesE_length, List.length_cons, List.length_append, List.length_replicate, List.length_nil, List.length_take]; omega)
      simp only [FC_blockE, symA, sy, AV.cells, AV.isTup, startF, Nat.reduceLT, Nat.reduceEqDiff, Nat.reduceAdd, litA, elemsOf, h4, h5, w4, w5, w6, w7, show ¬ (((56 - 8 * i : Nat) : Int) < 0) by omega, c1]
      refine ⟨trivial, trivial, (by first | exact h4 | trivial), ?_, ?_⟩
      · rw [wrap_i64 (by omega) (by omega)]; rfl
      · rw [take_snoc (by omega), ← List.append_assoc, show ∀ (x y : List Nat), b ++ (128 :: (x ++ y)) = (b ++ (128 :: x)) ++ y from fun x y => by simp, bytesE_append]
        exact c2 (by simp)
    · rintro f H ⟨h4, h5, h3⟩
      rw [List.take_of_length_le (by simp [be8])] at h3
      simp only [symA, sy, AV.cells, AV.isTup, startF, Nat.reduceLT, Nat.reduceEqDiff, Nat.reduceAdd]
      apply hK
      simp only [symA, sy, AV.cells, AV.isTup, startF, Nat.reduceLT, Nat.reduceEqDiff, Nat.reduceAdd]
      obtain ⟨tag, h3'⟩ := OwnF.lst (.inl h3) (by simp [bytesE])
      refine ⟨rfl, [f 3], by simp only [resFs, resF, symB, ne_eq, Nat.reduceEqDiff, not_false_eq_true], f 3, rfl, ?_⟩
      exact h3
end Go.Proofs.YtfdaiidepcbemaaDoor
end
