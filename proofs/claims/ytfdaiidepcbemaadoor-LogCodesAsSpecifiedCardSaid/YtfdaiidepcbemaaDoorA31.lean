/-
  CONTRACTS: one block of SHA-256.
  CONTRACTS: a message piece by piece.
  CONTRACTS: a longer message.
-/
import Derived.Test.YtfdaiidepcbemaaDoorA30
set_option linter.unusedVariables false
set_option linter.unusedSimpArgs false
section
namespace Go.Proofs.YtfdaiidepcbemaaDoor
open Go Go.Av Go.Av.Pr
set_option maxRecDepth 100000
attribute [local congr] FD2_congr stepK_congr condK_congr guardK_congr FC_congr FOps_congr thenF_congr inBlockF_congr
structure S8 where
  a : U32
  b : U32
  c : U32
  d : U32
  e : U32
  f : U32
  g : U32
  h : U32
def S8.l (s : S8) : List U32 := [s.a, s.b, s.c, s.d, s.e, s.f, s.g, s.h]
def rnd (s : S8) (k w : U32) : S8 :=
  let x := s.h + (rotr s.e 6 ^^^ rotr s.e 11 ^^^ rotr s.e 25) + ((s.e &&& s.f) ^^^ (~~~ s.e &&& s.g)) + k + w
  let y := (rotr s.a 2 ^^^ rotr s.a 13 ^^^ rotr s.a 22) + ((s.a &&& s.b) ^^^ (s.a &&& s.c) ^^^ (s.b &&& s.c))
  ⟨x + y, s.a, s.b, s.c, s.d + x, s.e, s.f, s.g⟩
def KS : List U32 := roundC.map fun v => match v with | .int _ n => BitVec.ofInt 32 n | _ => 0
theorem KS_eq : roundC = wC KS := by
  have : ∀ l : List Int, (∀ x ∈ l, 0 ≤ x ∧ x < 2^32) → (l.map fun n => AV.int .u32 n) = wC ((l.map fun n => AV.int .u32 n).map fun v => match v with | .int _ n => BitVec.ofInt 32 n | _ => 0) := by
    intro l hl
    simp only [wC, List.map_map]
    apply List.map_congr_left
    intro x hx
    obtain ⟨h0, h1⟩ := hl x hx
    simp only [Function.comp, BitVec.toNat_ofInt]
    congr 1
    omega
  have e : roundC = (roundC.map fun v => match v with | .int _ n => n | _ => 0).map fun n => AV.int .u32 n := by rfl
  unfold KS
  rw [e]
  apply this
  decide +kernel
theorem KS_length : KS.length = 64 := by rfl
def rnds (w : List U32) (s : S8) : Nat → S8
  | 0 => s
  | t + 1 => rnd (rnds w s t) (KS.getD t 0) (w.getD t 0)
def S8.add (s r : S8) : S8 := ⟨s.a + r.a, s.b + r.b, s.c + r.c, s.d + r.d, s.e + r.e, s.f + r.f, s.g + r.g, s.h + r.h⟩
def block (s : S8) (b : List Nat) : S8 := s.add (rnds (wfill b 64) s 64)
def addp (s r : S8) : Nat → List U32
  | 0 => s.l
  | i + 1 => ((addp s r i).set i ((addp s r i).getD i 0 + r.l.getD i 0)).set (i + 4) ((addp s r i).getD (i + 4) 0 + r.l.getD (i + 4) 0)
theorem addp_length (s r : S8) : ∀ i, (addp s r i).length = 8
  | 0 => rfl
  | i + 1 => by simp [addp, addp_length s r i]
theorem addp4 (s r : S8) : addp s r 4 = (s.add r).l := by
  simp [addp, S8.l, S8.add]
theorem compress_ok (s : S8) {b : List Nat} (h64 : b.length = 64) (hb : Bytes b) : ∃ H', Sound Tryd.prog gv 65 [.agg (wC s.l), .lst 0 1 (bytesE b)] ⟨0, .nil⟩ (.ret (.agg (wC (block s b).l))) H' := by
  obtain ⟨out, H', hout, hS⟩ := Sound_of_FC (R := fun o h => o = .ret (.agg (wC (block s b).l))) mixed is65 (args := [.agg (wC s.l), .lst 0 1 (bytesE b)]) (by unfold F65 om oo; simp) (H := ⟨0, .nil⟩) (by
    show FC Tryd.prog gv 116 F65.body _ _ _ (retF [.cell 4 true 8] _)
    unfold F65 om oo
    refine FC_seq fun K hK => ?_
    simp only [symA, sy, AV.cells, AV.isTup, startF, Nat.reduceLT, Nat.reduceEqDiff, Nat.reduceAdd]
    apply hK
    clear hK K
    refine FC_seq fun K hK => ?_
    obtain ⟨Hs, hSs⟩ := schedule_ok h64 hb
    simp only [symA, sy, AV.cells, AV.isTup, startF, Nat.reduceLT, Nat.reduceEqDiff, Nat.reduceAdd]
    have hsch := fun H => hSs.frame gfree (by simp [freeL, AV.free, freeLL_bytesE]) (tk := none) (fun k hk => by cases hk) (n := 0) H (v' := .agg (wC (wfill b 64))) (by simp [Out.av, shutF, shut1, AV.free, freeL_wC])
    simp only [Out.with, addTok] at hsch
    refine FOps_call (by decide) (by simp only [sm, symB, Nat.reduceEqDiff, startF]) (hsch _) ?_
    obtain ⟨w, hw⟩ : ∃ w, wfill b 64 = w := ⟨_, rfl⟩
    have hwl : w.length = 64 := by rw [← hw, wfill_length]
    simp only [symA, sy, AV.cells, AV.isTup, startF, Nat.reduceLT, Nat.reduceEqDiff, Nat.reduceAdd, hw, Heap.cellsAt, sh, wC_length, hwl, List.length_replicate]
    rw [splice_all (by simp [wC_length, hwl])]
    apply hK
    clear hK K
    refine FC_seq fun K hK => ?_
    refine FC_draw' 2 (by decide) (by simp only [freeAt, Heap.cellsAt, sh, Nat.reduceAdd, Nat.reduceEqDiff, Option.isNone_none, Bool.and_self, Nat.add_zero]) fun H1 n1 e1 => ?_
    have g0 : H1.get 0 = some (.cells (wC s.l) false) := by rw [e1]; simp only [Heap.cellsAt, sh, Nat.reduceAdd, Nat.reduceEqDiff]
    have g1 : H1.get 1 = some (.cells (wC (List.replicate 8 0)) false) := by rw [e1]; simp only [Heap.cellsAt, sh, Nat.reduceAdd, Nat.reduceEqDiff]; rfl
    have g2 : H1.get 2 = some (.cells (wC w) false) := by rw [e1]; simp only [Heap.cellsAt, sh, Nat.reduceAdd, Nat.reduceEqDiff]
    clear e1
    have i4 : asNat (.int .i64 4) = some 4 := rfl
    have i0 : asNat (.int .i64 0) = some 0 := rfl
    have i1 : asNat (.int .i64 1) = some 1 := rfl
    have i2 : asNat (.int .i64 2) = some 2 := rfl
    have i3 : asNat (.int .i64 3) = some 3 := rfl
    simp only [symA, sy, AV.cells, AV.isTup, startF, Nat.reduceLT, Nat.reduceEqDiff, Nat.reduceAdd, symF, symFp, FD2_nil, ROp.readsId, idOf, reduceCtorEq, false_implies, implies_true, forall_const, true_and, and_true, List.not_mem_nil, List.mem_cons, or_false, false_or, Prod.mk.injEq, forall_eq, forall_eq_or_imp, forall_eq', Option.some.injEq, Heap.cellsAt, sh, sn, Nat.reduceLeDiff, Nat.reduceMul, Nat.reduceSub, Nat.reduceMod, Nat.reduceDiv, sl, splice, optNat, i4, sliceArrA, Option.getD_none, Option.getD_some, Nat.zero_le, Option.isSome_none, Option.isSome_some, S8.l, wC, g0]
    apply hK
    clear hK K
    refine FC_seq fun K hK => ?_
    refine FC_seq fun K2 hK2 => ?_
    simp only [symA, sy, AV.cells, AV.isTup, startF, Nat.reduceLT, Nat.reduceEqDiff, Nat.reduceAdd, Heap.cellsAt, sh, gv, evF, KS_eq, wC_length, KS_length]
    rw [List.take_of_length_le (by rw [wC_length, KS_length]; decide)]
    apply hK2
    clear hK2 K2
    refine FC_rangeC (id := 0) (cmp := 23) (ix := 22) (nx := 93) (fun t f H => f 2 = .ref 0 0 ∧ f 4 = .ref 1 0 ∧ f 5 = .ref 2 0 ∧ f 6 = .ref 3 0 ∧ f 7 = .ref 4 0 ∧ f 21 = .agg (wC KS) ∧
      H.get 0 = some (.cells (wC s.l) false) ∧ H.get 1 = some (.cells (wC (List.replicate 8 0)) false) ∧ H.get 2 = some (.cells (wC w) false) ∧
      H.get 3 = some (.cells (wC [(rnds w s t).a, (rnds w s t).b, (rnds w s t).c, (rnds w s t).d]) false) ∧ H.get 4 = some (.cells (wC [(rnds w s t).e, (rnds w s t).f, (rnds w s t).g, (rnds w s t).h]) false)) 64 (by decide) rfl (by decide) (by simp only [symB, ne_eq, Nat.reduceEqDiff, not_false_eq_true]) ?_ ?_ ?_ ?_
    · refine ⟨by simp only [symB, ne_eq, Nat.reduceEqDiff, not_false_eq_true], by simp only [symB, ne_eq, Nat.reduceEqDiff, not_false_eq_true], by simp only [symB, ne_eq, Nat.reduceEqDiff, not_false_eq_true], by simp only [symB, ne_eq, Nat.reduceEqDiff, not_false_eq_true], by simp only [symB, ne_eq, Nat.reduceEqDiff, not_false_eq_true], by simp only [symB, ne_eq, Nat.reduceEqDiff, not_false_eq_true], ?_, ?_, ?_, ?_, ?_⟩
      all_goals simp only [Heap.cellsAt, sh, Nat.reduceAdd, Nat.reduceEqDiff, g0, g1, g2, rnds, wC, S8.l, sl, splice]
    · rintro i f h d v (rfl | rfl | rfl) ⟨h1, h2, h3, h4, h5, h6, h7⟩ <;> exact ⟨by simpa only [symB, ne_eq, Nat.reduceEqDiff, not_false_eq_true] using h1, by simpa only [symB, ne_eq, Nat.reduceEqDiff, not_false_eq_true] using h2, by simpa only [symB, ne_eq, Nat.reduceEqDiff, not_false_eq_true] using h3, by simpa only [symB, ne_eq, Nat.reduceEqDiff, not_false_eq_true] using h4, by simpa only [symB, ne_eq, Nat.reduceEqDiff, not_false_eq_true] using h5, by simpa only [symB, ne_eq, Nat.reduceEqDiff, not_false_eq_true] using h6, h7⟩
    · rintro t f H ht e1 ⟨h1, h2, h3, h4, h5, h6, h7, h8, h9, h10, h11⟩
      obtain ⟨r, hr⟩ : ∃ r, rnds w s t = r := ⟨_, rfl⟩
      rw [hr] at h10 h11
      simp only [wC, sl, splice] at h10 h11
      have hk : (wC KS).getD t undefA = .int .u32 (KS.getD t 0).toNat := wC_getD _ (by rw [KS_length]; omega)
      have hwt : (wC w).getD t undefA = .int .u32 (w.getD t 0).toNat := wC_getD _ (by omega)
      refine FC_block (FC_seq fun K2 hK2 => ?_)
      simp only [symA, sy, AV.cells, AV.isTup, startF, Nat.reduceLT, Nat.reduceEqDiff, Nat.reduceAdd, sn, Nat.reduceLeDiff, Nat.reduceMul, Nat.reduceSub, Nat.reduceMod, Nat.reduceDiv, e1, h6, asNat_nat, ht, wC_length, KS_length, show t + 1 ≤ 64 by omega, hk]
      apply hK2
      clear hK2 K2
      refine FC_seq fun K2 hK2 => ?_
      refine FC_draw0 (by decide) ?_
      simp only [symA, sy, AV.cells, AV.isTup, startF, Nat.reduceLT, Nat.reduceEqDiff, Nat.reduceAdd, symF, symFp, FD2_nil, ROp.readsId, idOf, reduceCtorEq, false_implies, implies_true, forall_const, true_and, and_true, List.not_mem_nil, List.mem_cons, or_false, false_or, Prod.mk.injEq, forall_eq, forall_eq_or_imp, forall_eq', Option.some.injEq, sn, Nat.reduceLeDiff, Nat.reduceMul, Nat.reduceSub, Nat.reduceMod, Nat.reduceDiv, sl, splice, h5, i0, i3, cellsAt_get h11]
      refine FD2_call (by decide) (by simp only [sm, symB, Nat.reduceEqDiff, startF]) (mix_ok r.e 6 11 25 6 11 25 (by decide) (by decide) (by decide) _) (Nat.le_refl _) (fun _ _ _ => rfl) ?_
      simp only [symA, sy, AV.cells, AV.isTup, startF, Nat.reduceLT, Nat.reduceEqDiff, Nat.reduceAdd, symF, symFp, FD2_nil, ROp.readsId, idOf, reduceCtorEq, false_implies, implies_true, forall_const, true_and, and_true, List.not_mem_nil, List.mem_cons, or_false, false_or, Prod.mk.injEq, forall_eq, forall_eq_or_imp, forall_eq', Option.some.injEq, sn, Nat.reduceLeDiff, Nat.reduceMul, Nat.reduceSub, Nat.reduceMod, Nat.reduceDiv, sl, splice, h3, h5, i0, i1, i2, i3, cellsAt_get h11, cellsAt_get h9, w_add, w_bits_and, w_bits_xor, unA, w_not, e1, asNat_nat, ht, wC_length, hwl, show t + 1 ≤ 64 by omega, hwt, show IntKind.u32.signed = false from rfl]
      obtain ⟨x, hx⟩ : ∃ x, r.h + (rotr r.e 6 ^^^ rotr r.e 11 ^^^ rotr r.e 25) + ((r.e &&& r.f) ^^^ (~~~ r.e &&& r.g)) + KS.getD t 0 + w.getD t 0 = x := ⟨_, rfl⟩
      rw [hx]
      apply hK2
      clear hK2 K2
      refine FC_seq fun K2 hK2 => ?_
      refine FC_draw0 (by decide) ?_
      simp only [symA, sy, AV.cells, AV.isTup, startF, Nat.reduceLT, Nat.reduceEqDiff, Nat.reduceAdd, symF, symFp, FD2_nil, ROp.readsId, idOf, reduceCtorEq, false_implies, implies_true, forall_const, true_and, and_true, List.not_mem_nil, List.mem_cons, or_false, false_or, Prod.mk.injEq, forall_eq, forall_eq_or_imp, forall_eq', Option.some.injEq, sn, Nat.reduceLeDiff, Nat.reduceMul, Nat.reduceSub, Nat.reduceMod, Nat.reduceDiv, sl, splice, h4, i0, i3, cellsAt_get h10]
      refine FD2_call (by decide) (by simp only [sm, symB, Nat.reduceEqDiff, startF]) (mix_ok r.a 2 13 22 2 13 22 (by decide) (by decide) (by decide) _) (Nat.le_refl _) (fun _ _ _ => rfl) ?_
      simp only [symA, sy, AV.cells, AV.isTup, startF, Nat.reduceLT, Nat.reduceEqDiff, Nat.reduceAdd, symF, symFp, FD2_nil, ROp.readsId, idOf, reduceCtorEq, false_implies, implies_true, forall_const, true_and, and_true, List.not_mem_nil, List.mem_cons, or_false, false_or, Prod.mk.injEq, forall_eq, forall_eq_or_imp, forall_eq', Option.some.injEq, sn, Nat.reduceLeDiff, Nat.reduceMul, Nat.reduceSub, Nat.reduceMod, Nat.reduceDiv, sl, splice, h4, i0, i1, i2, i3, cellsAt_get h10, w_add, w_bits_and, w_bits_xor]
      obtain ⟨y, hy⟩ : ∃ y, (rotr r.a 2 ^^^ rotr r.a 13 ^^^ rotr r.a 22) + ((r.a &&& r.b) ^^^ (r.a &&& r.c) ^^^ (r.b &&& r.c)) = y := ⟨_, rfl⟩
      rw [hy]
      apply hK2
      clear hK2 K2
      have hrn : rnds w s (t + 1) = ⟨x + y, r.a, r.b, r.c, r.d + x, r.e, r.f, r.g⟩ := by simp only [rnds, rnd, hr, hx, hy]
      refine FC_seq fun K2 hK2 => ?_
      simp only [symA, sy, AV.cells, AV.isTup, startF, Nat.reduceLT, Nat.reduceEqDiff, Nat.reduceAdd, sn, Nat.reduceLeDiff, Nat.reduceMul, Nat.reduceSub, Nat.reduceMod, Nat.reduceDiv, sl, splice, h4, h5, i0, i1, i2, i3, cellsAt_get h10, cellsAt_get h11, w_add, fillA, h11]
      apply hK2
      clear hK2 K2
      simp only [symA, sy, AV.cells, AV.isTup, startF, Nat.reduceLT, Nat.reduceEqDiff, Nat.reduceAdd, Heap.cellsAt, sh, sn, Nat.reduceLeDiff, Nat.reduceMul, Nat.reduceSub, Nat.reduceMod, Nat.reduceDiv, sl, splice, h4, h5, i0, i1, i2, i3, h10, w_add, fillA]
      refine ⟨trivial, e1, h1, h2, h3, (by first | exact h4 | trivial), (by first | exact h5 | trivial), h6, h7, h8, h9, ?_, ?_⟩ <;> simp only [hrn, wC, sl, splice]
    · rintro f H ⟨h1, h2, h3, h4, h5, h6, h7, h8, h9, h10, h11⟩
      obtain ⟨r, hr⟩ : ∃ r, rnds w s 64 = r := ⟨_, rfl⟩
      rw [hr] at h10 h11
      simp only [symA, sy, AV.cells, AV.isTup, startF, Nat.reduceLT, Nat.reduceEqDiff, Nat.reduceAdd]
      apply hK
      clear hK K
      refine FC_seq fun K hK => ?_
      refine FC_seq fun K hK => ?_
      simp only [symA, sy, AV.cells, AV.isTup, startF, Nat.reduceLT, Nat.reduceEqDiff, Nat.reduceAdd]
      apply hK
      clear hK K
      refine FC_rangeC (id := 2) (cmp := 95) (ix := 94) (nx := 114) (fun i f H => f 2 = .ref 0 0 ∧ f 4 = .ref 1 0 ∧ f 6 = .ref 3 0 ∧ f 7 = .ref 4 0 ∧
        H.get 0 = some (.cells (wC (addp s r i)) false) ∧ H.get 1 = some (.cells (wC (List.replicate 8 0)) false) ∧
        H.get 3 = some (.cells (wC [r.a, r.b, r.c, r.d]) false) ∧ H.get 4 = some (.cells (wC [r.e, r.f, r.g, r.h]) false)) 4 (by decide) rfl (by decide) (by simp only [symB, ne_eq, Nat.reduceEqDiff, not_false_eq_true]) ?_ ?_ ?_ ?_
      · exact ⟨by simpa only [symB, ne_eq, Nat.reduceEqDiff, not_false_eq_true] using h1, by simpa only [symB, ne_eq, Nat.reduceEqDiff, not_false_eq_true] using h2, by simpa only [symB, ne_eq, Nat.reduceEqDiff, not_false_eq_true] using h4, by simpa only [symB, ne_eq, Nat.reduceEqDiff, not_false_eq_true] using h5, h7, h8, h10, h11⟩
      · rintro i f h d v (rfl | rfl | rfl) ⟨h1, h2, h3, h4, h5, h6, h7, h8⟩ <;> exact ⟨by simpa only [symB, ne_eq, Nat.reduceEqDiff, not_false_eq_true] using h1, by simpa only [symB, ne_eq, Nat.reduceEqDiff, not_false_eq_true] using h2, by simpa only [symB, ne_eq, Nat.reduceEqDiff, not_false_eq_true] using h3, by simpa only [symB, ne_eq, Nat.reduceEqDiff, not_false_eq_true] using h4, h5, h6, h7, h8⟩
      · rintro i f H hi e1 ⟨h1, h2, h3, h4, h5, h6, h7, h8⟩
        have hla : (wC (addp s r i)).length = 8 := by rw [wC_length, addp_length]
        have ga : (wC (addp s r i)).getD i undefA = .int .u32 ((addp s r i).getD i 0).toNat := wC_getD _ (by rw [addp_length]; omega)
        have gb : (wC [r.a, r.b, r.c, r.d]).getD i undefA = .int .u32 (r.l.getD i 0).toNat := by
          rw [wC_getD _ (by simpa using hi)]
          have : i = 0 ∨ i = 1 ∨ i = 2 ∨ i = 3 := by omega
          rcases this with rfl | rfl | rfl | rfl <;> rfl
        have gc : (wC [r.e, r.f, r.g, r.h]).getD i undefA = .int .u32 (r.l.getD (i + 4) 0).toNat := by
          rw [wC_getD _ (by simpa using hi)]
          have : i = 0 ∨ i = 1 ∨ i = 2 ∨ i = 3 := by omega
          rcases this with rfl | rfl | rfl | rfl <;> rfl
        have gd : (wC ((addp s r i).set i ((addp s r i).getD i 0 + r.l.getD i 0))).getD (i + 4) undefA = .int .u32 ((addp s r i).getD (i + 4) 0).toNat := by
          rw [wC_getD _ (by rw [List.length_set, addp_length]; omega), List.getD_eq_getElem?_getD, List.getElem?_set, if_neg (by omega), ← List.getD_eq_getElem?_getD]
        have w4 : IntKind.i64.wrap ((i : Int) + 4) = ((i + 4 : Nat) : Int) := by rw [wrap_i64 (by omega) (by omega)]; rfl
        have l4 : (wC [r.a, r.b, r.c, r.d]).length = 4 := rfl
        have l4' : (wC [r.e, r.f, r.g, r.h]).length = 4 := rfl
        refine FC_block (FC_seq fun K2 hK2 => ?_)
        simp only [symA, sy, AV.cells, AV.isTup, startF, Nat.reduceLT, Nat.reduceEqDiff, Nat.reduceAdd, e1]
        apply hK2
        clear hK2 K2
        refine FC_seq fun K2 hK2 => ?_
        refine FC_draw0 (by decide) ?_
        simp only [symA, sy, AV.cells, AV.isTup, startF, Nat.reduceLT, Nat.reduceEqDiff, Nat.reduceAdd, symF, symFp, FD2_nil, ROp.readsId, idOf, reduceCtorEq, false_implies, implies_true, forall_const, true_and, and_true, List.not_mem_nil, List.mem_cons, or_false, false_or, Prod.mk.injEq, forall_eq, forall_eq_or_imp, forall_eq', Option.some.injEq, sn, Nat.reduceLeDiff, Nat.reduceMul, Nat.reduceSub, Nat.reduceMod, Nat.reduceDiv, Heap.cellsAt, sh, h1, h3, asNat_nat, show i < 8 by omega, hi, h5, h7, hla, l4, show i + 1 ≤ 8 by omega, show i + 1 ≤ 4 by omega, ga, gb, w_add]
        rw [splice_wC _ (by rw [addp_length]; omega)]
        apply hK2
        clear hK2 K2
        refine FC_draw0 (by decide) ?_
        simp only [symA, sy, AV.cells, AV.isTup, startF, Nat.reduceLT, Nat.reduceEqDiff, Nat.reduceAdd, symF, symFp, FD2_nil, ROp.readsId, idOf, reduceCtorEq, false_implies, implies_true, forall_const, true_and, and_true, List.not_mem_nil, List.mem_cons, or_false, false_or, Prod.mk.injEq, forall_eq, forall_eq_or_imp, forall_eq', Option.some.injEq, sn, Nat.reduceLeDiff, Nat.reduceMul, Nat.reduceSub, Nat.reduceMod, Nat.reduceDiv, Heap.cellsAt, sh, h1, h4, w4, asNat_nat, show i + 4 < 8 by omega, hi, h8, wC_length, List.length_set, addp_length, l4', show i + 4 + 1 ≤ 8 by omega, show i + 1 ≤ 4 by omega, gc, gd, w_add]
        rw [splice_wC _ (by rw [List.length_set, addp_length]; omega)]
        exact ⟨e1, h2, h3, rfl, h6, h7⟩
      · rintro f H ⟨h1, h2, h3, h4, h5, h6, h7, h8⟩
        simp only [symA, sy, AV.cells, AV.isTup, startF, Nat.reduceLT, Nat.reduceEqDiff, Nat.reduceAdd]
        apply hK
        rw [addp4] at h5
        simp only [S8.l, wC, sl, splice] at h5
        simp only [symA, sy, AV.cells, AV.isTup, startF, Nat.reduceLT, Nat.reduceEqDiff, Nat.reduceAdd, sn, Nat.reduceLeDiff, Nat.reduceMul, Nat.reduceSub, Nat.reduceMod, Nat.reduceDiv, Heap.cellsAt, sh, sl, splice, h1, h2, h5, h6, wC_length, List.length_replicate]
        refine ⟨rfl, [.agg (wC (block s b).l)], ?_, rfl⟩
        simp only [resFs, resF, symA, sy, AV.cells, AV.isTup, startF, Nat.reduceLT, Nat.reduceEqDiff, Nat.reduceAdd, sn, Nat.reduceLeDiff, Nat.reduceMul, Nat.reduceSub, Nat.reduceMod, Nat.reduceDiv, Heap.cellsAt, sh, sl, splice, h2, wC, block, hw, hr, S8.l])
  rw [hout] at hS
  exact ⟨H', hS⟩
end Go.Proofs.YtfdaiidepcbemaaDoor
end
section
namespace Go.Proofs.YtfdaiidepcbemaaDoor
open Go Go.Av Go.Av.Pr
set_option maxRecDepth 100000
attribute [local congr] FD2_congr stepK_congr condK_congr guardK_congr FC_congr FOps_congr thenF_congr inBlockF_congr
def natB (t : List UInt8) : List Nat := t.map UInt8.toNat
theorem natB_length (t : List UInt8) : (natB t).length = t.length := by simp [natB]
theorem natB_bytes (t : List UInt8) : Bytes (natB t) := fun x hx => by
  simp only [natB, List.mem_map] at hx
  obtain ⟨y, _, rfl⟩ := hx
  exact y.toNat_lt
theorem u8s_eq (t : List UInt8) : u8s t = bytesE (natB t) := by simp [u8s, bytesE, natB]
def strm (s : S8) (blk : List Nat) (n : Nat) : List AV := wC s.l ++ (bytesC blk ++ [.int .u64 n])
theorem S8.l_length (s : S8) : s.l.length = 8 := rfl
theorem strm_length (s : S8) {blk : List Nat} (h : blk.length = 64) (n : Nat) : (strm s blk n).length = 73 := by
  simp [strm, wC_length, S8.l_length, bytesC_length, h]
theorem strm_drop8 (s : S8) (blk : List Nat) (n : Nat) : (strm s blk n).drop 8 = bytesC blk ++ [.int .u64 n] := by
  rw [strm, List.drop_left' (by rw [wC_length, S8.l_length])]
theorem strm_take8 (s : S8) (blk : List Nat) (n : Nat) : (strm s blk n).take 8 = wC s.l := by
  rw [strm, List.take_left' (by rw [wC_length, S8.l_length])]
theorem strm_n (s : S8) {blk : List Nat} (h : blk.length = 64) (n : Nat) : (strm s blk n).getD 72 undefA = .int .u64 n := by
  rw [getD_eq, strm, List.getElem?_append_right (by rw [wC_length, S8.l_length]; omega), List.getElem?_append_right (by rw [wC_length, S8.l_length, bytesC_length]; omega)]
  simp [wC_length, S8.l_length, bytesC_length, h]
theorem chunk_append {l : List Nat} (r : List AV) : chunkF 1 l.length (bytesC l ++ r) = bytesE l := by
  induction l with
  | nil => rfl
  | cons x l ih =>
    simp only [bytesC, List.map_cons, List.cons_append, List.length_cons, chunkF, bytesE] at ih ⊢
    simp only [List.take_succ_cons, List.take_zero, List.drop_succ_cons, List.drop_zero, ih]
theorem splice_left {a b : List AV} {o : Nat} {v : List AV} (h : o + v.length ≤ a.length) : splice (a ++ b) o v = splice a o v ++ b := by
  unfold splice
  rw [List.take_append_of_le_length (by omega), List.drop_append_of_le_length (by omega)]
  simp
theorem splice_right {a b : List AV} {o : Nat} {v : List AV} : splice (a ++ b) (a.length + o) v = a ++ splice b o v := by
  unfold splice
  rw [List.take_append, List.take_of_length_le (by omega), show a.length + o - a.length = o by omega, Nat.add_assoc, ← List.drop_drop, List.drop_left' rfl]
  simp
theorem strm_setn (s : S8) {blk : List Nat} (h : blk.length = 64) (n m : Nat) : splice (strm s blk n) 72 [.int .u64 m] = strm s blk m := by
  have : 72 = (wC s.l).length + ((bytesC blk).length + 0) := by rw [wC_length, S8.l_length, bytesC_length, h]
  rw [strm, this, splice_right, splice_right]
  rfl
theorem strm_sets (s r : S8) {blk : List Nat} (n : Nat) : splice (strm s blk n) 0 (wC r.l) = strm r blk n := by
  rw [strm, splice_left (by rw [wC_length, wC_length, S8.l_length, S8.l_length]; omega), splice_all (by rw [wC_length, wC_length, S8.l_length, S8.l_length])]
  rfl
theorem strm_setb (s : S8) {blk : List Nat} (n : Nat) {o : Nat} {x : List Nat} (h : o + x.length ≤ blk.length) : splice (strm s blk n) (8 + o) (bytesC x) = strm s (blk.take o ++ x ++ blk.drop (o + x.length)) n := by
  have : 8 + o = (wC s.l).length + o := by rw [wC_length, S8.l_length]
  rw [strm, this, splice_right, splice_left (by rw [bytesC_length, bytesC_length]; exact h)]
  unfold strm splice
  simp [bytesC]
def s0 : S8 := ⟨0x6a09e667, 0xbb67ae85, 0x3c6ef372, 0xa54ff53a, 0x510e527f, 0x9b05688c, 0x1f83d9ab, 0x5be0cd19⟩
def blks (s : S8) (m : List Nat) : Nat → S8
  | 0 => s
  | k + 1 => block (blks s m k) ((m.drop (64 * k)).take 64)
theorem blks_append (s : S8) (m x : List Nat) : ∀ k, 64 * k ≤ m.length → blks s (m ++ x) k = blks s m k
  | 0, _ => rfl
  | k + 1, h => by
    rw [blks, blks, blks_append s m x k (by omega), List.drop_append_of_le_length (by omega), List.take_append_of_le_length (by simp; omega)]
/-- a stream of this message -/
def IsStream (m : List Nat) (v : AV) : Prop := ∃ blk : List Nat, v = .agg (strm (blks s0 m (m.length / 64)) blk m.length) ∧ blk.length = 64 ∧ Bytes blk ∧ blk.take (m.length % 64) = m.drop (64 * (m.length / 64))
theorem freeL_strm (s : S8) (blk : List Nat) (n : Nat) : freeL (strm s blk n) = true := by
  rw [strm, freeL_append, freeL_append, freeL_wC, freeL_bytesC]; rfl
/-- a closed run -/
theorem run_ok {f : FuncId} {args : List AV} {out : Out} (h : (exF tabT.get gv 1000 (fun _ => false) 60 f args ⟨0, .nil⟩).map Prod.fst = some out) : ∃ H', Sound Tryd.prog gv f args ⟨0, .nil⟩ out H' := by
  cases hr : exF tabT.get gv 1000 (fun _ => false) 60 f args ⟨0, .nil⟩ with
  | none => rw [hr] at h; cases h
  | some p =>
    obtain ⟨o, H'⟩ := p
    rw [hr] at h
    obtain rfl := Option.some.inj h
    exact ⟨H', exF_sound mixed (fun f hf => by cases hf) (fun f F hF => FT.All.get tabAll hF) 60 _ _ _ _ _ hr⟩
theorem begin_ok (H : Heap) : ∃ v, IsStream [] v ∧ Sound Tryd.prog gv 44 [] H (.ret v) H := by
  refine ⟨_, ⟨List.replicate 64 0, rfl, by simp, fun x hx => by rw [List.eq_of_mem_replicate hx]; decide, by simp⟩, ?_⟩
  obtain ⟨H', hS⟩ := run_ok (f := 44) (args := []) (out := .ret (.agg (strm s0 (List.replicate 64 0) 0))) (by kernel_rfl)
  have := hS.frame gfree rfl (tk := none) (fun k' hk' => by cases hk') (n := 0) H (v' := .agg (strm s0 (List.replicate 64 0) 0)) (by simp [Out.av, shutF, shut1, AV.free, freeL_strm])
  exact this
end Go.Proofs.YtfdaiidepcbemaaDoor
end
section
namespace Go.Proofs.YtfdaiidepcbemaaDoor
open Go Go.Av Go.Av.Pr
set_option maxRecDepth 100000
attribute [local congr] FD2_congr stepK_congr condK_congr guardK_congr FC_congr FOps_congr thenF_congr inBlockF_congr
theorem bytesE_inj : ∀ {l : List Nat}, (bytesE l).flatten = bytesC l := fun {l} => bytesE_flatten l
/-- compress, of a block in another's memory -/
theorem compress_at (s : S8) {blk : List Nat} (h64 : blk.length = 64) (hb : Bytes blk) {H : Heap} {n : Nat} {opn : Bool} (hg : H.get 0 = some (.cells (strm s blk n) opn)) :
    Sound Tryd.prog gv 65 [.agg (wC s.l), .sl 0 1 8 64 64] H (.ret (.agg (wC (block s blk).l))) H := by
  obtain ⟨H2, hS⟩ := compress_ok s h64 hb
  refine Sound.snap gfree (args' := [.agg (wC s.l), .lst 0 1 (bytesE blk)]) ?_ (by simp [freeL, AV.free, freeL_wC, freeLL_bytesE]) hS ?_
  · have h1 : shut1 H none H.next (.agg (wC s.l)) = some (.agg (wC s.l)) := by simp [shut1, AV.free, freeL_wC]
    have h2 : shut1 H none H.next (.sl 0 1 8 64 64) = some (.lst 0 1 (bytesE blk)) := by
      have hch : chunkF 1 64 (bytesC blk ++ [.int .u64 (n : Int)]) = bytesE blk := by rw [← h64]; exact chunk_append _
      have hfr : freeL ((strm s blk n).drop 8) = true := by
        rw [strm_drop8, freeL_append, freeL_bytesC]; rfl
      have hb : Nat.ble (8 + 64 * 1) (strm s blk n).length = true := by rw [strm_length s h64]; rfl
      simp only [shut1, cellsAt_get hg, hb, hfr, Bool.and_self]
      rw [strm_drop8, hch]
    simp only [mapO, h1, h2]
  · refine .inl (.inr ⟨_, rfl, fun c hc => ?_⟩)
    simp only [wC, List.mem_map] at hc
    obtain ⟨x, _, rfl⟩ := hc
    rfl
theorem add_ok {m : List Nat} {v : AV} (t : List UInt8) (hm : IsStream m v) (hl : m.length + t.length < 2 ^ 40) (H : Heap) :
    ∃ v', IsStream (m ++ natB t) v' ∧ Sound Tryd.prog gv 45 [v, .str t] H (.ret v') H := by
  obtain ⟨blk0, rfl, hb64, hbb, hbt⟩ := hm
  obtain ⟨out, H', ⟨v', rfl, hv'⟩, hS⟩ := Sound_of_FC (R := fun o h => ∃ v', o = .ret v' ∧ IsStream (m ++ natB t) v') mixed is45 (args := [.agg (strm (blks s0 m (m.length / 64)) blk0 m.length), .str t]) (by unfold F45 om oo; simp) (H := ⟨0, .nil⟩) (by
    show FC Tryd.prog gv 38 F45.body _ _ _ (retF [.cell 4 true 73] _)
    unfold F45 om oo
    refine FC_seq fun K hK => ?_
    simp only [symA, sy, AV.cells, AV.isTup, startF, Nat.reduceLT, Nat.reduceEqDiff, Nat.reduceAdd]
    apply hK
    clear hK K
    refine FC_seq fun K hK => ?_
    refine FC_block (FC_loop (fun k f ds H => ds = [] ∧ ∃ (x y : List UInt8) (blk : List Nat), x ++ y = t ∧ k = y.length ∧ f 1 = .str y ∧ f 2 = .ref 0 0 ∧ f 4 = .ref 1 0 ∧
      H.get 0 = some (.cells (strm (blks s0 (m ++ natB x) ((m ++ natB x).length / 64)) blk (m ++ natB x).length) false) ∧ blk.length = 64 ∧ Bytes blk ∧
      blk.take ((m ++ natB x).length % 64) = (m ++ natB x).drop (64 * ((m ++ natB x).length / 64)) ∧ ∃ z, z.length = 73 ∧ H.get 1 = some (.cells z false)) t.length ?_ ?_)
    · refine ⟨rfl, [], t, blk0, rfl, rfl, by simp only [symB, ne_eq, Nat.reduceEqDiff, not_false_eq_true, startF, List.getD_cons_succ, List.getD_cons_zero], by simp only [symB, ne_eq, Nat.reduceEqDiff, not_false_eq_true], by simp only [symB, ne_eq, Nat.reduceEqDiff, not_false_eq_true, Heap.cellsAt, sh, Nat.reduceAdd], ?_, hb64, hbb, by simpa [natB] using hbt, ?_⟩
      · simp only [Heap.cellsAt, sh, Nat.reduceAdd, Nat.reduceEqDiff, symA, sy, AV.cells, AV.isTup, startF, Nat.reduceLT, natB, List.map_nil, List.append_nil]
      · exact ⟨_, rfl, by simp only [Heap.cellsAt, sh, Nat.reduceAdd, Nat.reduceEqDiff]; rfl⟩
    rintro k f ds H ⟨rfl, x, y, blk, hxy, rfl, h1, h2, h4, hg0, hbl, hbb, hbt, z, hz, hg1⟩
    obtain ⟨mm, hmm⟩ : ∃ mm, m ++ natB x = mm := ⟨_, rfl⟩
    rw [hmm] at hg0 hbt
    have hxt : x.length + y.length = t.length := by rw [← hxy]; simp
    have hml : mm.length = m.length + x.length := by rw [← hmm]; simp [natB_length]
    obtain ⟨L, hL⟩ : ∃ L, mm.length = L := ⟨_, rfl⟩
    rw [hL] at hg0 hbt hml
    refine FC_seq fun K2 hK2 => ?_
    refine FC_seq fun K3 hK3 => ?_
    have hy0 : (!(y == [])) = decide (y ≠ []) := by cases y <;> simp
    simp only [symA, sy, AV.cells, AV.isTup, startF, Nat.reduceLT, Nat.reduceEqDiff, Nat.reduceAdd, h1, binS, hy0]
    apply hK3
    clear hK3 K3
    simp only [symA, sy, AV.cells, AV.isTup, startF, Nat.reduceLT, Nat.reduceEqDiff, Nat.reduceAdd]
    refine ⟨fun q => ?_, fun q => ?_⟩
    · apply hK2
      clear hK2 K2
      have hy : 0 < y.length := by cases y with
        | nil => exact absurd rfl q
        | cons _ _ => simp
      obtain ⟨a, ha⟩ : ∃ a, L % 64 = a := ⟨_, rfl⟩
      have ha64 : a < 64 := by omega
      rw [ha] at hbt
      have hst := strm_length (blks s0 mm (L / 64)) hbl L
      have w1 : IntKind.i64.wrap ((L : Int).tmod 64) = (a : Int) := by
        rw [Int.tmod_eq_emod_of_nonneg (by omega), wrap_i64 (by omega) (by omega)]; omega
      refine FC_block (FC_seq fun K hK => ?_)
      simp only [symA, sy, AV.cells, AV.isTup, startF, Nat.reduceLT, Nat.reduceEqDiff, Nat.reduceAdd, sn, Nat.reduceLeDiff, Nat.reduceMul, Nat.reduceSub, Nat.reduceMod, Nat.reduceDiv, h2, cellsAt_get hg0, hst, strm_n _ hbl, show ¬ ((64 : Int) = 0) by decide, w1]
      apply hK
      clear hK K
      obtain ⟨c, hc⟩ : ∃ c, min y.length (64 - a) = c := ⟨_, rfl⟩
      obtain ⟨xb, hxb⟩ : ∃ xb, natB (y.take c) = xb := ⟨_, rfl⟩
      have hxbl : xb.length = c := by rw [← hxb, natB_length]; simp; omega
      have htk : ((u8s y).take c).flatten = bytesC xb := by
        rw [u8s_eq, bytesE_take, bytesE_flatten, ← hxb]; simp [natB]
      have hul : (u8s y).length = y.length := by simp [u8s]
      refine FC_seq fun K hK => ?_
      simp only [symA, sy, AV.cells, AV.isTup, startF, Nat.reduceLT, Nat.reduceEqDiff, Nat.reduceAdd, sn, Nat.reduceLeDiff, Nat.reduceMul, Nat.reduceSub, Nat.reduceMod, Nat.reduceDiv, h2, cellsAt_get hg0, hst, optNat, asNat_nat, sliceArrA, Option.getD_none, Option.getD_some, Option.isSome_none, false_implies, show a ≤ 64 by omega, show ¬ (64 = a) by omega, h1, elemsOf, hg0, hul, hc, show 8 + a + c ≤ 73 by omega, htk]
      rw [strm_setb _ L (by rw [hxbl, hbl]; omega)]
      apply hK
      clear hK K
      obtain ⟨blk', hbk⟩ : ∃ b', blk.take a ++ xb ++ blk.drop (a + xb.length) = b' := ⟨_, rfl⟩
      have hbl' : blk'.length = 64 := by rw [← hbk]; simp; omega
      have hbb' : Bytes blk' := by
        rw [← hbk]
        intro z hz
        simp only [List.mem_append] at hz
        rcases hz with (hz | hz) | hz
        · exact hbb z (List.mem_of_mem_take hz)
        · rw [← hxb] at hz; exact natB_bytes _ z hz
        · exact hbb z (List.mem_of_mem_drop hz)
      rw [hbk]
      refine FC_seq fun K hK => ?_
      simp only [symA, sy, AV.cells, AV.isTup, startF, Nat.reduceLT, Nat.reduceEqDiff, Nat.reduceAdd, optNat, asNat_nat, Option.getD_none, Option.getD_some, show c ≤ y.length by omega, h1]
      apply hK
      clear hK K
      rw [List.take_of_length_le (l := y.drop c) (by simp)]
      have w2 : IntKind.u64.wrap (c : Int) = (c : Int) := wrap_u64 (by omega) (by omega)
      have w3 : IntKind.u64.wrap ((L : Int) + (c : Int)) = ((L + c : Nat) : Int) := by rw [wrap_u64 (by omega) (by omega)]; simp
      have hst' := strm_length (blks s0 mm (L / 64)) hbl' L
      refine FC_seq fun K hK => ?_
      simp only [symA, sy, AV.cells, AV.isTup, startF, Nat.reduceLT, Nat.reduceEqDiff, Nat.reduceAdd, sn, Nat.reduceLeDiff, Nat.reduceMul, Nat.reduceSub, Nat.reduceMod, Nat.reduceDiv, Heap.cellsAt, sh, h2, hst', strm_n _ hbl', w2, w3]
      rw [strm_setn _ hbl']
      apply hK
      clear hK K
      -- what holds behind the round
      obtain ⟨q, hq⟩ : ∃ q, L / 64 = q := ⟨_, rfl⟩
      rw [hq] at hbt
      have hdiv : L = 64 * q + a := by omega
      have hx' : x ++ y.take c ++ y.drop c = t := by rw [List.append_assoc, List.take_append_drop, hxy]
      have hm' : m ++ natB (x ++ y.take c) = mm ++ xb := by rw [← hmm, ← hxb]; simp [natB]
      have hdr : (mm ++ xb).drop (64 * q) = blk.take a ++ xb := by
        rw [List.drop_append_of_le_length (by omega), hbt]
      have hla : (blk.take a).length = a := by simp; omega
      have hLc : (mm ++ xb).length = L + c := by rw [List.length_append, hL, hxbl]
      have hst2 := strm_length (blks s0 mm q) hbl' (L + c)
      refine FC_seq fun K hK => ?_
      simp only [symA, sy, AV.cells, AV.isTup, startF, Nat.reduceLT, Nat.reduceEqDiff, Nat.reduceAdd]
      have w4 : IntKind.i64.wrap ((a : Int) + (c : Int)) = ((a + c : Nat) : Int) := by rw [wrap_i64 (by omega) (by omega)]; simp
      by_cases hac : a + c = 64
      · have e64 : (((a + c : Nat) : Int) == 64) = true := by rw [hac]; rfl
        simp only [w4, e64, hq]
        apply hK
        clear hK K
        simp only [symA, sy, AV.cells, AV.isTup, startF, Nat.reduceLT, Nat.reduceEqDiff, Nat.reduceAdd]
        refine FC_draw0 (by decide) ?_
        have hbe : blk.drop (a + xb.length) = [] := List.drop_of_length_le (by omega)
        simp only [symA, sy, AV.cells, AV.isTup, startF, Nat.reduceLT, Nat.reduceEqDiff, Nat.reduceAdd, symF, symFp, FD2_nil, ROp.readsId, idOf, reduceCtorEq, false_implies, implies_true, forall_const, true_and, and_true, List.not_mem_nil, List.mem_cons, or_false, false_or, Prod.mk.injEq, forall_eq, forall_eq_or_imp, forall_eq', Option.some.injEq, sn, Nat.reduceLeDiff, Nat.reduceMul, Nat.reduceSub, Nat.reduceMod, Nat.reduceDiv, Heap.cellsAt, sh, h2, hst2, optNat, sliceArrA, Option.getD_none, Nat.zero_le, Option.isSome_none, show ¬ ((64 : Nat) = 0) by decide, List.drop_zero]
        rw [strm_take8]
        refine FD2_call (by decide) (by simp only [sm, symB, Nat.reduceEqDiff, startF]) (compress_at (blks s0 mm q) hbl' hbb' (get_set_self _ _ _)) (Nat.le_refl _) (fun _ _ _ => rfl) ?_
        simp only [symA, sy, AV.cells, AV.isTup, startF, Nat.reduceLT, Nat.reduceEqDiff, Nat.reduceAdd, symF, symFp, FD2_nil, ROp.readsId, idOf, reduceCtorEq, false_implies, implies_true, forall_const, true_and, and_true, List.not_mem_nil, List.mem_cons, or_false, false_or, Prod.mk.injEq, forall_eq, forall_eq_or_imp, forall_eq', Option.some.injEq, sn, Nat.reduceLeDiff, Nat.reduceMul, Nat.reduceSub, Nat.reduceMod, Nat.reduceDiv, Heap.cellsAt, sh, h2, hst2, wC_length, S8.l_length]
        rw [strm_sets]
        refine ⟨(y.drop c).length, by simp; omega, x ++ y.take c, y.drop c, blk', hx', rfl, rfl, h4, ?_⟩
        · refine ⟨?_, hbl', hbb', ?_, z, hz, hg1⟩
          · rw [hm', hLc, show (L + c) / 64 = q + 1 by omega, blks, blks_append _ _ _ _ (by omega), hdr, ← hbk, hbe, List.append_nil, List.take_of_length_le (l := blk.take a ++ xb) (by rw [List.length_append, hla, hxbl]; omega)]
          · rw [hm', hLc, show (L + c) % 64 = 0 by omega, show (L + c) / 64 = q + 1 by omega, List.take_zero, List.drop_of_length_le (by omega)]
      · have e64 : (((a + c : Nat) : Int) == 64) = false := by simp; omega
        simp only [w4, e64, hq]
        apply hK
        clear hK K
        simp only [symA, sy, AV.cells, AV.isTup, startF, Nat.reduceLT, Nat.reduceEqDiff, Nat.reduceAdd]
        refine ⟨(y.drop c).length, by simp; omega, trivial, x ++ y.take c, y.drop c, blk', hx', rfl, rfl, (by first | exact h2 | trivial), h4, ?_⟩
        · simp only [Heap.cellsAt, sh, Nat.reduceAdd, Nat.reduceEqDiff]
          refine ⟨?_, hbl', hbb', ?_, z, hz, hg1⟩
          · rw [hm', hLc, show (L + c) / 64 = q by omega, blks_append _ _ _ _ (by omega)]
          · rw [hm', hLc, show (L + c) % 64 = a + c by omega, show (L + c) / 64 = q by omega, hdr, ← hbk, List.take_append_of_le_length (by rw [List.length_append, hla, hxbl]; omega), List.take_of_length_le (l := blk.take a ++ xb) (by rw [List.length_append, hla, hxbl]; omega)]
    · apply hK
      clear hK2 K2 hK K
      have hy : y = [] := by simpa using q
      subst hy
      have hx : x = t := by simpa using hxy
      subst hx
      rw [hmm]
      rw [← hL] at hg0 hbt
      have hst := strm_length (blks s0 mm (mm.length / 64)) hbl mm.length
      simp only [symA, sy, AV.cells, AV.isTup, startF, Nat.reduceLT, Nat.reduceEqDiff, Nat.reduceAdd, sn, Nat.reduceLeDiff, Nat.reduceMul, Nat.reduceSub, Nat.reduceMod, Nat.reduceDiv, Heap.cellsAt, sh, h2, h4, hg0, hg1, hst, hz, List.drop_zero, List.length_take]
      rw [List.take_of_length_le (by omega)]
      rw [splice_all (by rw [hst, hz])]
      refine ⟨rfl, [.agg (strm (blks s0 mm (mm.length / 64)) blk mm.length)], ?_, _, rfl, blk, rfl, hbl, hbb, hbt⟩
      simp only [resFs, resF, symA, sy, AV.cells, AV.isTup, startF, Nat.reduceLT, Nat.reduceEqDiff, Nat.reduceAdd, sn, Nat.reduceLeDiff, Nat.reduceMul, Nat.reduceSub, Nat.reduceMod, Nat.reduceDiv, Heap.cellsAt, sh, h4, hst, List.drop_zero]
      rw [List.take_of_length_le (by omega)])
  have := hS.frame gfree (by simp [freeL, AV.free, freeL_strm]) (tk := none) (fun k' hk' => by cases hk') (n := 0) H (v' := v') (by
    obtain ⟨b, rfl, _⟩ := hv'
    simp [Out.av, shutF, shut1, AV.free, freeL_strm])
  exact ⟨v', hv', this⟩
end Go.Proofs.YtfdaiidepcbemaaDoor
end
