/-
  CONTRACTS: log.Decode.
-/
import Derived.Test.YtfdaiidepcbemaaDoorA37
set_option linter.unusedVariables false
set_option linter.unusedSimpArgs false
section
namespace Go.Proofs.YtfdaiidepcbemaaDoor
open Go Go.Av Go.Av.Pr
set_option maxRecDepth 100000
attribute [local congr] FD2_congr stepK_congr condK_congr guardK_congr FC_congr FOps_congr thenF_congr inBlockF_congr
attribute [local irreducible] FC FOps FD2
theorem gints_ok {b : List Nat} (h : (gints b).e = 0) : (gints b).n ≤ b.length ∧ 0 < (gints b).n ∧ ∀ x ∈ (gints b).l, I64 x := by
  unfold gints at h ⊢
  split at h
  · rename_i q; exact absurd h q
  · rename_i q
    obtain ⟨g1, g2, g3, g4⟩ := glen_ok (b := b) (least := 1) (by simpa using q)
    rw [if_neg q]
    split
    · rename_i l z hl
      obtain ⟨d1, d2, d3, d4⟩ := gmany_at g2 hl
      exact ⟨d1, by simp only; omega, d4⟩
    · rename_i e he
      rw [he] at h
      simp only at h
      subst h
      exfalso
      have : ∀ (n a : Nat), gmany b n a ≠ .error 0 := by
        intro n
        induction n with
        | zero => intro a h; cases h
        | succ n ih =>
          intro a h
          unfold gmany at h
          split at h
          · rename_i q; simp only [Except.error.injEq] at h; exact q h
          · split at h
            · cases h
            · rename_i e hh
              simp only [Except.error.injEq] at h
              subst h
              exact ih _ hh
      exact this _ _ he
theorem gdigs_ok {b : List Nat} (hb : Bytes b) (h : (gdigs b).e = 0) : (gdigs b).n ≤ b.length ∧ (∀ x ∈ (gdigs b).l, x.length = 16) ∧ ∀ x ∈ (gdigs b).l, Bytes x := by
  unfold gdigs at h ⊢
  split at h
  · rename_i q; exact absurd h q
  · rename_i q
    obtain ⟨g1, g2, g3, g4⟩ := glen_ok (b := b) (least := 16) (by simpa using q)
    rw [if_neg q]
    have hN : (glen b 16).n + 16 * (glen b 16).v.toNat ≤ b.length := by have := Nat.div_mul_le_self (b.length - (glen b 16).n) 16; omega
    obtain ⟨d1, d2, d3⟩ := gdig_at (b := b) (n := (glen b 16).v.toNat) (a := (glen b 16).n) hN
    refine ⟨by simp only; omega, d3, ?_⟩
    have : ∀ (n a : Nat), ∀ x ∈ (gdig b n a).1, Bytes x := by
      intro n
      induction n with
      | zero => intro a x hx; cases hx
      | succ n ih =>
        intro a x hx
        simp only [gdig, List.mem_cons] at hx
        rcases hx with rfl | hx
        · intro y hy; exact hb y (List.mem_of_mem_drop (List.mem_of_mem_take hy))
        · exact ih _ x hx
    exact this _ _
def rdMoves (b : List Nat) : Nat → Nat → Option (List (List Int) × Nat)
  | 0, a => some ([], a)
  | n + 1, a =>
    if (gints (b.drop a)).e = 0 ∧ (gints (b.drop a)).l.length = 14 then
      match rdMoves b n (a + (gints (b.drop a)).n) with
      | some (l, z) => some ((gints (b.drop a)).l :: l, z)
      | none => none
    else none
structure Rd where
  x : Ent
  n : Nat
  e : Int
def rdFail : Rd := ⟨ent0, 0, 11⟩
def rdEnd (l : List Int) (mv : List (List Int)) (a : Nat) (d : GotL (List Nat)) : Rd :=
  if d.e = 0 ∧ d.l.length = 2 then ⟨⟨l.getD 0 0, l.getD 1 0, l.getD 2 0, l.getD 3 0, l.getD 4 0, mv, d.l.getD 0 [], l.getD 5 0, d.l.getD 1 []⟩, a + d.n, 0⟩ else rdFail
def rdEnt (b : List Nat) : Rd :=
  if (gints b).e = 0 ∧ (gints b).l.length = 7 then
    if (gints b).l.getD 6 0 < 0 then rdFail
    else match rdMoves b ((gints b).l.getD 6 0).toNat (gints b).n with
      | none => rdFail
      | some (mv, a) => rdEnd (gints b).l mv a (gdigs (b.drop a))
  else rdFail
theorem rdMoves_at {b : List Nat} : ∀ {n a : Nat} {l : List (List Int)} {z : Nat}, a ≤ b.length → rdMoves b n a = some (l, z) → z ≤ b.length ∧ a + n ≤ z ∧ l.length = n ∧ ∀ m ∈ l, m.length = 14 ∧ ∀ x ∈ m, I64 x
  | 0, a, l, z, ha, h => by
    simp only [rdMoves, Option.some.injEq, Prod.mk.injEq] at h
    obtain ⟨rfl, rfl⟩ := h
    exact ⟨ha, by omega, rfl, fun m hm => by cases hm⟩
  | n + 1, a, l, z, ha, h => by
    unfold rdMoves at h
    split at h
    · rename_i q
      obtain ⟨g1, g2, g3⟩ := gints_ok q.1
      simp only [List.length_drop] at g1
      split at h
      · rename_i l' z' hl
        simp only [Option.some.injEq, Prod.mk.injEq] at h
        obtain ⟨rfl, rfl⟩ := h
        obtain ⟨d1, d2, d3, d4⟩ := rdMoves_at (by omega) hl
        refine ⟨d1, by omega, by simp [d3], fun m hm => ?_⟩
        rcases List.mem_cons.1 hm with rfl | hm
        · exact ⟨q.2, g3⟩
        · exact d4 m hm
      · cases h
    · cases h
def uptoM (acc : List (List Int)) : Option (List (List Int) × Nat) → Option (List (List Int) × Nat)
  | some (l, z) => some (acc ++ l, z)
  | none => none
abbrev dds : List Dfr := [(28, [.ref 0 0, .ref 1 0, .ref 2 0])]
def decR (b : List Nat) (o : Out) (H : Heap) : Prop := ∃ v, o = .ret (.tup [.agg (entC v (rdEnt b).x), .int .i64 (rdEnt b).n, .int .i64 (rdEnt b).e]) ∧ OwnN H 14 v (mvE (rdEnt b).x.moved)
/-- the cells of the results, and the way out -/
theorem dec_fail {b : List Nat} (hr : rdEnt b = rdFail) {f : Slt} {H : Heap} {ce cx cr : List AV} (h2 : f 2 = .ref 0 0) (h3 : f 3 = .ref 1 0) (h4 : f 4 = .ref 2 0)
    (ge : H.get 0 = some (.cells ce false)) (gx : H.get 1 = some (.cells cx false)) (gr : H.get 2 = some (.cells cr false)) (le : ce.length = 39) (lx : cx.length = 1) (lr : cr.length = 1) :
    retFD Tryd.prog gv [.cell 2 true 39, .cell 3 false 1, .cell 4 false 1] (decR b) (.panic (.iface 25 (.int .i64 11))) f dds H := by
  refine ⟨_, defer_pan (by decide) (by decide) (by decide) 11 ge gx gr le lx lr, ?_⟩
  refine ⟨[.agg (entC .nilsl ent0), .int .i64 0, .int .i64 11], ?_, ?_⟩
  · have hzl : (entC .nilsl ent0).length = 39 := rfl
    simp only [resFs, resF, symA, sy, AV.cells, AV.isTup, startF, Nat.reduceLT, Nat.reduceEqDiff, Nat.reduceAdd, sn, Nat.reduceLeDiff, Nat.reduceMul, Nat.reduceSub, Nat.reduceMod, Nat.reduceDiv, Heap.cellsAt, sh, sl, splice, h2, h3, h4, hzl]
    rw [List.take_of_length_le (by rw [hzl]; omega)]
  · refine ⟨.nilsl, ?_, ?_⟩
    · rw [hr]; rfl
    · rw [hr]; exact OwnN.nil _ _
set_option maxHeartbeats 1000000 in
theorem dec_body {b : List Nat} (hb : Bytes b) (hl : b.length < 2^30) : FC Tryd.prog gv 109 F11.body (startF [.lst 0 1 (bytesE b)]) [] ⟨0, .nil⟩ (retFD Tryd.prog gv [.cell 2 true 39, .cell 3 false 1, .cell 4 false 1] (decR b)) := by
  unfold F11 om oo
  have hz : [AV.int .i64 0, .int .i64 0, .int .i64 0, .int .i64 0, .int .i64 0, .nilsl, .int .u8 0, .int .u8 0, .int .u8 0, .int .u8 0, .int .u8 0, .int .u8 0, .int .u8 0, .int .u8 0, .int .u8 0, .int .u8 0, .int .u8 0, .int .u8 0, .int .u8 0, .int .u8 0, .int .u8 0, .int .u8 0, .int .i64 0, .int .u8 0, .int .u8 0, .int .u8 0, .int .u8 0, .int .u8 0, .int .u8 0, .int .u8 0, .int .u8 0, .int .u8 0, .int .u8 0, .int .u8 0, .int .u8 0, .int .u8 0, .int .u8 0, .int .u8 0, .int .u8 0] = entC .nilsl ent0 := rfl
  rw [hz]
  have hzl : (entC .nilsl ent0).length = 39 := rfl
  refine FC_seq fun K hK => ?_
  simp only [symA, sy, AV.cells, AV.isTup, startF, Nat.reduceLT, Nat.reduceEqDiff, Nat.reduceAdd, Heap.cellsAt, sh]
  apply hK
  clear hK K
  refine FC_seq fun K hK => ?_
  simp only [symA, sy, AV.cells, AV.isTup, startF, Nat.reduceLT, Nat.reduceEqDiff, Nat.reduceAdd]
  refine FOps_defer (fid := 28) (fs := []) (cs := [.ref 0 0, .ref 1 0, .ref 2 0]) (by simp only [symB, ne_eq, Nat.reduceEqDiff, not_false_eq_true, List.map_cons, List.map_nil]) (by simp only [List.map_nil, List.append_nil, List.nil_append]; rfl) ?_
  simp only [symA, sy, AV.cells, AV.isTup, startF, Nat.reduceLT, Nat.reduceEqDiff, Nat.reduceAdd]
  apply hK
  clear hK K
  refine FC_seq fun K hK => ?_
  simp only [symA, sy, AV.cells, AV.isTup, startF, Nat.reduceLT, Nat.reduceEqDiff, Nat.reduceAdd, sn, Nat.reduceLeDiff, Nat.reduceMul, Nat.reduceSub, Nat.reduceMod, Nat.reduceDiv, sl, splice, Heap.cellsAt, sh, fop, fillA]
  apply hK
  clear hK K
  obtain ⟨A, hA⟩ : ∃ A, (((Heap.alloc ⟨0, .nil⟩ (.cells (entC .nilsl ent0) false)).alloc (.cells [.int .i64 0] false)).alloc (.cells [.int .i64 0] false)).alloc (.cells [.lst 0 1 (bytesE b), .int .i64 0] false) = A := ⟨_, rfl⟩
  have hAn : A.next = 4 := by rw [← hA]; rfl
  have g0 : A.get 0 = some (.cells (entC .nilsl ent0) false) := by rw [← hA]; simp only [Heap.cellsAt, sh, Nat.reduceAdd, Nat.reduceEqDiff]
  have g1 : A.get 1 = some (.cells [.int .i64 0] false) := by rw [← hA]; simp only [Heap.cellsAt, sh, Nat.reduceAdd, Nat.reduceEqDiff]
  have g2 : A.get 2 = some (.cells [.int .i64 0] false) := by rw [← hA]; simp only [Heap.cellsAt, sh, Nat.reduceAdd, Nat.reduceEqDiff]
  have g3 : A.get 3 = some (.cells [.lst 0 1 (bytesE b), .int .i64 ((0 : Nat) : Int)] false) := by rw [← hA]; simp only [Heap.cellsAt, sh, Nat.reduceAdd, Nat.reduceEqDiff]; rfl
  rw [hA]
  clear hA
  obtain ⟨x, hx⟩ : ∃ x, gints b = x := ⟨_, rfl⟩
  have hxk := fun h => gints_ok (b := b) h
  rw [hx] at hxk
  have hrd := rints_read hb (by omega) (id := 3) (a := 0) (by omega) 7 (by omega) (H := A) (by omega) g3 (x := x) (by rw [List.drop_zero]; exact hx) (fun h => by have := (hxk h).1; omega)
  have hrE : rdEnt b = _ := rfl
  conv at hrE => rhs; unfold rdEnt
  rw [hx] at hrE
  refine FC_seq fun K hK => ?_
  simp only [symA, sy, AV.cells, AV.isTup, startF, Nat.reduceLT, Nat.reduceEqDiff, Nat.reduceAdd]
  by_cases hx7 : x.e = 0 ∧ x.l.length = 7
  · rw [if_pos hx7] at hrE
    have hS29 : Sound Tryd.prog gv 29 [.ref 3 0, .int .i64 7] A _ _ := hrd.1 hx7
    have hne : intsE x.l ≠ [] := intsE_ne (by intro h; rw [h] at hx7; simp at hx7)
    obtain ⟨hxn, hx0, hxi⟩ := hxk hx7.1
    rw [ownV, if_neg hne, ownH, if_neg hne, Nat.zero_add] at hS29
    refine FOps_call (by decide) (by simp only [sm, symB, Nat.reduceEqDiff, startF]) (hS29) ?_
    simp only [symA, sy, AV.cells, AV.isTup, startF, Nat.reduceLT, Nat.reduceEqDiff, Nat.reduceAdd]
    apply hK
    clear hK K hS29 hrd
    obtain ⟨l0, l1, l2, l3, l4, l5, l6, hl7⟩ : ∃ l0 l1 l2 l3 l4 l5 l6, x.l = [l0, l1, l2, l3, l4, l5, l6] := by
      match hh : x.l, hx7.2 with
      | [l0, l1, l2, l3, l4, l5, l6], _ => exact ⟨l0, l1, l2, l3, l4, l5, l6, rfl⟩
    rw [hl7] at hrE hxi ⊢
    have hl6 : I64 l6 := hxi l6 (by simp)
    simp only [List.getD_cons_succ, List.getD_cons_zero] at hrE
    obtain ⟨B, hB⟩ : ∃ B, (A.alloc .tok).set 3 (.cells [.lst 0 1 (bytesE b), .int .i64 (x.n : Int)] false) = B := ⟨_, rfl⟩
    have hBn : B.next = 5 := by rw [← hB, Heap.next_set, Heap.next_alloc, hAn]
    have b0 : B.get 0 = some (.cells (entC .nilsl ent0) false) := by rw [← hB, Heap.get_set, if_neg (by decide), Heap.get_alloc, if_neg (by omega)]; exact g0
    have b1 : B.get 1 = some (.cells [.int .i64 0] false) := by rw [← hB, Heap.get_set, if_neg (by decide), Heap.get_alloc, if_neg (by omega)]; exact g1
    have b2 : B.get 2 = some (.cells [.int .i64 0] false) := by rw [← hB, Heap.get_set, if_neg (by decide), Heap.get_alloc, if_neg (by omega)]; exact g2
    have b3 : B.get 3 = some (.cells [.lst 0 1 (bytesE b), .int .i64 (x.n : Int)] false) := by rw [← hB]; exact get_set_self _ _ _
    rw [hB]
    clear hB
    have i0 : asNat (.int .i64 0) = some 0 := rfl
    have i1 : asNat (.int .i64 1) = some 1 := rfl
    have i2 : asNat (.int .i64 2) = some 2 := rfl
    have i3 : asNat (.int .i64 3) = some 3 := rfl
    have i4 : asNat (.int .i64 4) = some 4 := rfl
    have i5 : asNat (.int .i64 5) = some 5 := rfl
    have i6 : asNat (.int .i64 6) = some 6 := rfl
    have i8 : asNat (.int .i64 8) = some 8 := rfl
    have i11 : asNat (.int .i64 11) = some 11 := rfl
    have i14 : asNat (.int .i64 14) = some 14 := rfl
    obtain ⟨E, hE⟩ : ∃ E : Ent, E = ⟨l0, l1, l2, l3, l4, [], List.replicate 16 0, l5, List.replicate 16 0⟩ := ⟨_, rfl⟩
    refine FC_seq fun K hK => ?_
    refine FC_draw0 (by decide) ?_
    have hbd : [AV.int .i64 l0, .int .i64 l1, .int .i64 l2, .int .i64 l3, .int .i64 l4, .nilsl, .int .u8 0, .int .u8 0, .int .u8 0, .int .u8 0, .int .u8 0, .int .u8 0, .int .u8 0, .int .u8 0, .int .u8 0, .int .u8 0, .int .u8 0, .int .u8 0, .int .u8 0, .int .u8 0, .int .u8 0, .int .u8 0, .int .i64 l5, .int .u8 0, .int .u8 0, .int .u8 0, .int .u8 0, .int .u8 0, .int .u8 0, .int .u8 0, .int .u8 0, .int .u8 0, .int .u8 0, .int .u8 0, .int .u8 0, .int .u8 0, .int .u8 0, .int .u8 0, .int .u8 0] = entC .nilsl E := by rw [hE]; rfl
    have hz' : entC .nilsl ent0 = [AV.int .i64 0, .int .i64 0, .int .i64 0, .int .i64 0, .int .i64 0, .nilsl, .int .u8 0, .int .u8 0, .int .u8 0, .int .u8 0, .int .u8 0, .int .u8 0, .int .u8 0, .int .u8 0, .int .u8 0, .int .u8 0, .int .u8 0, .int .u8 0, .int .u8 0, .int .u8 0, .int .u8 0, .int .u8 0, .int .i64 0, .int .u8 0, .int .u8 0, .int .u8 0, .int .u8 0, .int .u8 0, .int .u8 0, .int .u8 0, .int .u8 0, .int .u8 0, .int .u8 0, .int .u8 0, .int .u8 0, .int .u8 0, .int .u8 0, .int .u8 0, .int .u8 0] := rfl
    rw [hz']
    simp only [symA, sy, AV.cells, AV.isTup, startF, Nat.reduceLT, Nat.reduceEqDiff, Nat.reduceAdd, symF, symFp, FD2_nil, ROp.readsId, idOf, reduceCtorEq, false_implies, implies_true, forall_const, true_and, and_true, List.not_mem_nil, List.mem_cons, or_false, false_or, Prod.mk.injEq, forall_eq, forall_eq_or_imp, forall_eq', Option.some.injEq, sn, Nat.reduceLeDiff, Nat.reduceMul, Nat.reduceSub, Nat.reduceMod, Nat.reduceDiv, sl, splice, intsE, i0, i1, i2, i3, i4, i5, fillA, b0, hzl, Heap.next_set]
    have hdr : (entC .nilsl ent0).drop 39 = [] := rfl
    rw [hdr, hbd]
    apply hK
    clear hK K
    obtain ⟨C, hC⟩ : ∃ C, B.set 0 (.cells (entC .nilsl E) false) = C := ⟨_, rfl⟩
    have hCn : C.next = 5 := by rw [← hC, Heap.next_set, hBn]
    have c0 : C.get 0 = some (.cells (entC .nilsl E) false) := by rw [← hC]; exact get_set_self _ _ _
    have c1 : C.get 1 = some (.cells [.int .i64 0] false) := by rw [← hC, Heap.get_set, if_neg (by decide)]; exact b1
    have c2 : C.get 2 = some (.cells [.int .i64 0] false) := by rw [← hC, Heap.get_set, if_neg (by decide)]; exact b2
    have c3 : C.get 3 = some (.cells [.lst 0 1 (bytesE b), .int .i64 (x.n : Int)] false) := by rw [← hC, Heap.get_set, if_neg (by decide)]; exact b3
    rw [hC]
    clear hC hbd hz' hdr
    have hEl : ∀ mv, (entC mv E).length = 39 := fun mv => by rw [hE]; rfl
    refine FC_seq fun K hK => ?_
    simp only [symA, sy, AV.cells, AV.isTup, startF, Nat.reduceLT, Nat.reduceEqDiff, Nat.reduceAdd, sn, Nat.reduceLeDiff, Nat.reduceMul, Nat.reduceSub, Nat.reduceMod, Nat.reduceDiv, sl, splice, i6]
    refine ⟨fun q => ?_, fun q => ?_⟩
    · rw [if_pos q] at hrE
      refine FOps_panic (t := 25) (v := .int .i64 11) (by simp only [symB, ne_eq, Nat.reduceEqDiff, not_false_eq_true]) ?_
      exact dec_fail hrE (by simp only [symB, ne_eq, Nat.reduceEqDiff, not_false_eq_true]) (by simp only [symB, ne_eq, Nat.reduceEqDiff, not_false_eq_true]) (by simp only [symB, ne_eq, Nat.reduceEqDiff, not_false_eq_true]) c0 c1 c2 (hEl _) rfl rfl
    · rw [if_neg q] at hrE
      apply hK
      clear hK K
      obtain ⟨N, hN⟩ : ∃ N : Nat, l6 = N := ⟨l6.toNat, by omega⟩
      have hN63 : (N : Int) < 2^63 := by have := hl6.2; omega
      rw [hN, Int.toNat_natCast] at hrE
      rw [hN]
      refine FC_seq fun K hK => ?_
      refine FC_seq fun K2 hK2 => ?_
      simp only [symA, sy, AV.cells, AV.isTup, startF, Nat.reduceLT, Nat.reduceEqDiff, Nat.reduceAdd, sn, Nat.reduceLeDiff, Nat.reduceMul, Nat.reduceSub, Nat.reduceMod, Nat.reduceDiv, sl, splice, i6]
      apply hK2
      clear hK2 K2
      refine FC_range (id := 0) (cmp := 45) (ix := 44) (ln := 43) (nx := 74) (fun i f H => f 0 = .lst 0 1 (bytesE b) ∧ f 2 = .ref 0 0 ∧ f 3 = .ref 1 0 ∧ f 4 = .ref 2 0 ∧ f 5 = .ref 3 0 ∧ 4 ≤ H.next ∧
        ∃ (acc : List (List Int)) (a : Nat) (mv : AV), a ≤ b.length ∧ H.get 0 = some (.cells (entC mv E) false) ∧ H.get 1 = some (.cells [.int .i64 0] false) ∧ H.get 2 = some (.cells [.int .i64 0] false) ∧
          H.get 3 = some (.cells [.lst 0 1 (bytesE b), .int .i64 (a : Int)] false) ∧ OwnN H 14 mv (mvE acc) ∧ acc.length = i ∧ i ≤ a ∧ rdMoves b N x.n = uptoM acc (rdMoves b (N - i) a)) N (by omega) (by decide) (by simp only [symB, ne_eq, Nat.reduceEqDiff, not_false_eq_true]) (by simp only [symB, ne_eq, Nat.reduceEqDiff, not_false_eq_true]) ?_ ?_ ?_ ?_
      · refine ⟨by simp only [symB, ne_eq, Nat.reduceEqDiff, not_false_eq_true, startF, List.getD_cons_zero], by simp only [symB, ne_eq, Nat.reduceEqDiff, not_false_eq_true], by simp only [symB, ne_eq, Nat.reduceEqDiff, not_false_eq_true], by simp only [symB, ne_eq, Nat.reduceEqDiff, not_false_eq_true], by simp only [symB, ne_eq, Nat.reduceEqDiff, not_false_eq_true], by omega, [], x.n, .nilsl, hxn, c0, c1, c2, c3, OwnN.nil _ _, rfl, by omega, ?_⟩
        rw [Nat.sub_zero]
        cases rdMoves b N x.n <;> rfl
      · rintro i f h d v (rfl | rfl | rfl) ⟨h1, h2, h3, h4, h5, h6⟩ <;> exact ⟨by simpa only [symB, ne_eq, Nat.reduceEqDiff, not_false_eq_true] using h1, by simpa only [symB, ne_eq, Nat.reduceEqDiff, not_false_eq_true] using h2, by simpa only [symB, ne_eq, Nat.reduceEqDiff, not_false_eq_true] using h3, by simpa only [symB, ne_eq, Nat.reduceEqDiff, not_false_eq_true] using h4, by simpa only [symB, ne_eq, Nat.reduceEqDiff, not_false_eq_true] using h5, h6⟩
      · rintro i f H hi e1 e2 ⟨h0, h2, h3, h4, h5, hn, acc, a, mv, ha, d0, d1, d2, d3, hown, hacc, hia, hrm⟩
        obtain ⟨M, hM⟩ : ∃ M, N - i = M + 1 := ⟨N - i - 1, by omega⟩
        rw [hM] at hrm
        have hun : rdMoves b (M + 1) a = _ := rfl
        conv at hun => rhs; unfold rdMoves
        obtain ⟨y, hy⟩ : ∃ y, gints (b.drop a) = y := ⟨_, rfl⟩
        have hyk := fun h => gints_ok (b := b.drop a) h
        rw [hy] at hyk hun
        have hrd := rints_read hb (by omega) (id := 3) (a := a) ha 14 (by omega) (H := H) (by omega) d3 (x := y) hy (fun h => by have := (hyk h).1; simp only [List.length_drop] at this; omega)
        refine FC_block (FC_seq fun K2 hK2 => ?_)
        simp only [symA, sy, AV.cells, AV.isTup, startF, Nat.reduceLT, Nat.reduceEqDiff, Nat.reduceAdd, h5]
        by_cases hy14 : y.e = 0 ∧ y.l.length = 14
        · have hS29 : Sound Tryd.prog gv 29 [.ref 3 0, .int .i64 14] H _ _ := hrd.1 hy14
          have hne : intsE y.l ≠ [] := intsE_ne (by intro h; rw [h] at hy14; simp at hy14)
          obtain ⟨hyn, hy0, hyi⟩ := hyk hy14.1
          simp only [List.length_drop] at hyn
          rw [if_pos hy14] at hun
          rw [ownV, if_neg hne, ownH, if_neg hne] at hS29
          refine FOps_call (by decide) (by simp only [sm, symB, Nat.reduceEqDiff, startF]) (hS29) ?_
          simp only [symA, sy, AV.cells, AV.isTup, startF, Nat.reduceLT, Nat.reduceEqDiff, Nat.reduceAdd]
          apply hK2
          clear hK2 K2 hS29 hrd
          obtain ⟨m, hm⟩ : ∃ m, y.l = m := ⟨_, rfl⟩
          rw [hm] at hun hyi ⊢
          have hm14 : m.length = 14 := by rw [← hm]; exact hy14.2
          obtain ⟨t, x0, x1, x2, q0, q1, q2, q3, v0, v1, v2, w0, w1, w2, rfl⟩ : ∃ t x0 x1 x2 q0 q1 q2 q3 v0 v1 v2 w0 w1 w2, m = [t, x0, x1, x2, q0, q1, q2, q3, v0, v1, v2, w0, w1, w2] := by
            match m, hm14 with
            | [t, x0, x1, x2, q0, q1, q2, q3, v0, v1, v2, w0, w1, w2], _ => exact ⟨_, _, _, _, _, _, _, _, _, _, _, _, _, _, rfl⟩
          obtain ⟨D, hD⟩ : ∃ D, (H.alloc .tok).set 3 (.cells [.lst 0 1 (bytesE b), .int .i64 ((a + y.n : Nat) : Int)] false) = D := ⟨_, rfl⟩
          have hDn : D.next = H.next + 1 := by rw [← hD, Heap.next_set, Heap.next_alloc]
          have f0 : D.get 0 = some (.cells (entC mv E) false) := by rw [← hD, Heap.get_set, if_neg (by decide), Heap.get_alloc, if_neg (by omega)]; exact d0
          have f1 : D.get 1 = some (.cells [.int .i64 0] false) := by rw [← hD, Heap.get_set, if_neg (by decide), Heap.get_alloc, if_neg (by omega)]; exact d1
          have f2 : D.get 2 = some (.cells [.int .i64 0] false) := by rw [← hD, Heap.get_set, if_neg (by decide), Heap.get_alloc, if_neg (by omega)]; exact d2
          have f3 : D.get 3 = some (.cells [.lst 0 1 (bytesE b), .int .i64 ((a + y.n : Nat) : Int)] false) := by rw [← hD]; exact get_set_self _ _ _
          have hownD : OwnN D 14 mv (mvE acc) := by
            rw [← hD]
            refine ⟨(hown.1.alloc _).set _ _ fun ht => ?_, hown.2⟩
            have := own_tok_get hown.1 ht
            rw [d3] at this
            cases this
          rw [hD]
          obtain ⟨mv', D', s1, s2, s3⟩ := hownD.append (bytes := 112) (e := intsC [t, x0, x1, x2, q0, q1, q2, q3, v0, v1, v2, w0, w1, w2]) (by rw [mvE_length, hacc]; omega)
          have keep : ∀ k cs, k < 4 → D.get k = some (.cells cs false) → D'.get k = some (.cells cs false) := fun k cs hk hg => by
            rw [s3.get k (fun ht => by have := own_tok_get hownD.1 ht; rw [hg] at this; cases this) (by omega)]
            exact hg
          have hs3 := s3.next
          have hmv5 : (entC mv E).getD 5 undefA = mv := rfl
          obtain ⟨tg', hmv'⟩ := OwnF.lst (.inl s2.1) (by simp)
          have hsp5 : List.take 5 (entC mv E) ++ [mv'] ++ List.drop 6 (entC mv E) = entC mv' E := rfl
          have f0' := keep 0 _ (by omega) f0
          have hmc : mv'.cells = [mv'] ∧ mv'.isTup = false := by rw [hmv']; exact ⟨rfl, rfl⟩
          simp only [intsC, List.map_cons, List.map_nil] at s1
          refine FC_draw0 (by decide) ?_
          simp only [symA, sy, AV.cells, AV.isTup, startF, Nat.reduceLT, Nat.reduceEqDiff, Nat.reduceAdd, symF, symFp, FD2_nil, ROp.readsId, idOf, reduceCtorEq, false_implies, implies_true, forall_const, true_and, and_true, List.not_mem_nil, List.mem_cons, or_false, false_or, Prod.mk.injEq, forall_eq, forall_eq_or_imp, forall_eq', Option.some.injEq, sn, Nat.reduceLeDiff, Nat.reduceMul, Nat.reduceSub, Nat.reduceMod, Nat.reduceDiv, intsE, List.map_cons, List.map_nil, i0, i1, i4, i8, i11, i14, optNat, sliceA, Option.getD_some, Option.isSome_none, Option.isSome_some, h2, cellsAt_get f0, hEl, hmv5, true_or, or_true, List.take_succ_cons, List.drop_succ_cons, List.take_zero, List.drop_zero, List.flatten_cons, List.flatten_nil, List.cons_append, List.nil_append, fillA, splice, litA, elemsOf, s1]
          refine ⟨by omega, ?_⟩
          subst hmv'
          simp only [symA, sy, AV.cells, AV.isTup, startF, Nat.reduceLT, Nat.reduceEqDiff, Nat.reduceAdd, sn, Nat.reduceLeDiff, Nat.reduceMul, Nat.reduceSub, Nat.reduceMod, Nat.reduceDiv, f0', hEl, hsp5, Heap.next_set]
          refine ⟨trivial, e1, e2, h0, h3, h4, h5, by omega, acc ++ [[t, x0, x1, x2, q0, q1, q2, q3, v0, v1, v2, w0, w1, w2]], a + y.n, _, by omega, get_set_self _ _ _, ?_, ?_, ?_, ?_, by simp [hacc], by omega, ?_⟩
          · rw [Heap.get_set, if_neg (by decide)]; exact keep 1 _ (by omega) f1
          · rw [Heap.get_set, if_neg (by decide)]; exact keep 2 _ (by omega) f2
          · rw [Heap.get_set, if_neg (by decide)]; exact keep 3 _ (by omega) f3
          · refine ⟨(show Own D' 14 _ (mvE (acc ++ [[t, x0, x1, x2, q0, q1, q2, q3, v0, v1, v2, w0, w1, w2]])) from ?_).set _ _ fun ht => ?_, fun hh => by simp [mvE] at hh⟩
            · rw [show mvE (acc ++ [[t, x0, x1, x2, q0, q1, q2, q3, v0, v1, v2, w0, w1, w2]]) = mvE acc ++ [intsC [t, x0, x1, x2, q0, q1, q2, q3, v0, v1, v2, w0, w1, w2]] by simp [mvE]]
              exact s2.1
            · have := own_tok_get s2.1 ht
              rw [f0'] at this
              cases this
          · rw [hrm, hun, show M = N - (i + 1) by omega]
            cases rdMoves b (N - (i + 1)) (a + y.n) with
            | none => rfl
            | some p => simp [uptoM]
        · have hS29 : Sound Tryd.prog gv 29 [.ref 3 0, .int .i64 14] H _ _ := hrd.2 hy14
          rw [if_neg hy14] at hun
          rw [hrm, hun] at hrE
          refine FOps_call_pan (by simp only [List.map_cons, List.map_nil, symB, ne_eq, Nat.reduceEqDiff, not_false_eq_true]) hS29 ?_
          have own0 : ∀ k, k < 4 → (ownH H (intsE y.l)).get k = H.get k := fun k hk => by
            unfold ownH
            split
            · rfl
            · rw [Heap.get_alloc, if_neg (by omega)]
          exact dec_fail hrE (by simp only [symB, ne_eq, Nat.reduceEqDiff, not_false_eq_true]; exact h2) (by simp only [symB, ne_eq, Nat.reduceEqDiff, not_false_eq_true]; exact h3) (by simp only [symB, ne_eq, Nat.reduceEqDiff, not_false_eq_true]; exact h4) (by rw [own0 _ (by omega)]; exact d0) (by rw [own0 _ (by omega)]; exact d1) (by rw [own0 _ (by omega)]; exact d2) (hEl _) rfl rfl
      · rintro f H e2 ⟨h0, h2, h3, h4, h5, hn, acc, a, mv, ha, d0, d1, d2, d3, hown, hacc, hia, hrm⟩
        rw [Nat.sub_self, rdMoves] at hrm
        simp only [uptoM, List.append_nil] at hrm
        rw [hrm] at hrE
        simp only at hrE
        simp only [symA, sy, AV.cells, AV.isTup, startF, Nat.reduceLT, Nat.reduceEqDiff, Nat.reduceAdd]
        apply hK
        clear hK K
        obtain ⟨d, hd⟩ : ∃ d, gdigs (b.drop a) = d := ⟨_, rfl⟩
        have hdk := fun h => gdigs_ok (hb.drop a) h
        rw [hd] at hrE hdk
        simp only [List.length_drop] at hdk
        obtain ⟨tag', -, hsl⟩ := slice_from 0 1 (els := bytesE b) (a := a) (by rw [bytesE_length]; exact ha)
        rw [bytesE_drop] at hsl
        have hS30 := getdigs_ok (b := b.drop a) (tag := tag') (hb.drop a) (by simp; omega) H
        rw [hd] at hS30
        obtain ⟨H1, hH1⟩ : ∃ H1, ownH H (digsE d.l) = H1 := ⟨_, rfl⟩
        have own0 : ∀ k cs, k < 4 → H.get k = some (.cells cs false) → H1.get k = some (.cells cs false) := fun k cs hk hg => by
          rw [← hH1]
          unfold ownH
          split
          · exact hg
          · rw [Heap.get_alloc, if_neg (by omega)]; exact hg
        have k0 := own0 0 _ (by omega) d0
        have k1 := own0 1 _ (by omega) d1
        have k2 := own0 2 _ (by omega) d2
        have k3 := own0 3 _ (by omega) d3
        have hown1 : OwnN H1 14 mv (mvE acc) := by
          rw [← hH1]
          unfold ownH
          split
          · exact hown
          · exact hown.alloc _
        rw [hH1] at hS30
        refine FC_seq fun K hK => ?_
        simp only [symA, sy, AV.cells, AV.isTup, startF, Nat.reduceLT, Nat.reduceEqDiff, Nat.reduceAdd, sn, Nat.reduceLeDiff, Nat.reduceMul, Nat.reduceSub, Nat.reduceMod, Nat.reduceDiv, sl, splice, h0, h5, cellsAt_get d3, optNat, asNat_nat, hsl, Option.isSome_none, false_implies]
        refine FOps_call (by decide) (by simp only [sm, symB, Nat.reduceEqDiff, startF]) (hS30) ?_
        simp only [symA, sy, AV.cells, AV.isTup, startF, Nat.reduceLT, Nat.reduceEqDiff, Nat.reduceAdd]
        apply hK
        clear hK K
        refine FC_seq fun K hK => ?_
        by_cases hd2 : d.e = 0 ∧ d.l.length = 2
        · obtain ⟨dn, d16, dby⟩ := hdk hd2.1
          rw [rdEnd, if_pos hd2] at hrE
          obtain ⟨da, db, hdl⟩ : ∃ da db, d.l = [da, db] := by
            match hh : d.l, hd2.2 with
            | [da, db], _ => exact ⟨da, db, rfl⟩
          rw [hdl] at hrE d16
          have la := d16 da (by simp)
          have lb := d16 db (by simp)
          have hv2 : ownV H 16 (digsE d.l) = .lst (H.next + 2) 16 [bytesC da, bytesC db] := by rw [hdl]; rfl
          simp only [symA, sy, AV.cells, AV.isTup, startF, Nat.reduceLT, Nat.reduceEqDiff, Nat.reduceAdd, hv2, hd2.1, show ((0 : Int) != 0) = false from rfl, show ((((0 + 1 + 1 : Nat) : Nat) : Int) != 2) = false from rfl, show (((2 : Nat) : Int) != 2) = false from rfl]
          apply hK
          clear hK K
          refine FC_seq fun K hK => ?_
          refine FC_draw0 (by decide) ?_
          have he6 : splice (entC mv E) 6 (bytesC da) = entC mv { E with certs := da } := by
            rw [entC, hE]
            simp only [splice, sl]
            rw [bytesC_length, la]
            rfl
          have he23 : splice (entC mv { E with certs := da }) 23 (bytesC db) = entC mv { E with certs := da, prev := db } := by
            have h1 : entC mv { E with certs := da } = (.int .i64 E.num :: .int .i64 E.kind :: .int .i64 E.op :: .int .i64 E.time :: .int .i64 E.halves :: mv :: (bytesC da ++ [.int .i64 E.cause])) ++ bytesC E.prev := by simp [entC]
            have h2 : entC mv { E with certs := da, prev := db } = (.int .i64 E.num :: .int .i64 E.kind :: .int .i64 E.op :: .int .i64 E.time :: .int .i64 E.halves :: mv :: (bytesC da ++ [.int .i64 E.cause])) ++ bytesC db := by simp [entC]
            have hl23 : 23 = (AV.int .i64 E.num :: .int .i64 E.kind :: .int .i64 E.op :: .int .i64 E.time :: .int .i64 E.halves :: mv :: (bytesC da ++ [.int .i64 E.cause])).length + 0 := by simp [bytesC_length, la]
            rw [h1, h2, hl23, splice_right, splice_all (by rw [bytesC_length, bytesC_length, lb, hE]; rfl)]
          have hE1l : (entC mv { E with certs := da }).length = 39 := by simp [entC, bytesC_length, la, hE]
          have hE2l : (entC mv { E with certs := da, prev := db }).length = 39 := by simp [entC, bytesC_length, la, lb]
          have t16a : (bytesC da).take 16 = bytesC da := List.take_of_length_le (by rw [bytesC_length, la]; omega)
          have t16b : (bytesC db).take 16 = bytesC db := List.take_of_length_le (by rw [bytesC_length, lb]; omega)
          simp only [symA, sy, AV.cells, AV.isTup, startF, Nat.reduceLT, Nat.reduceEqDiff, Nat.reduceAdd, symF, symFp, FD2_nil, ROp.readsId, idOf, reduceCtorEq, false_implies, implies_true, forall_const, true_and, and_true, List.not_mem_nil, List.mem_cons, or_false, false_or, Prod.mk.injEq, forall_eq, forall_eq_or_imp, forall_eq', Option.some.injEq, sn, Nat.reduceLeDiff, Nat.reduceMul, Nat.reduceSub, Nat.reduceMod, Nat.reduceDiv, i0, i1, bytesC_length, la, lb, t16a, t16b, h2, k0, hEl, he6, get_set_self, hE1l, he23, Heap.next_set]
          apply hK
          clear hK K
          obtain ⟨H2, hH2⟩ : ∃ H2, (H1.set 0 (.cells (entC mv { E with certs := da }) false)).set 0 (.cells (entC mv { E with certs := da, prev := db }) false) = H2 := ⟨_, rfl⟩
          have m0 : H2.get 0 = some (.cells (entC mv { E with certs := da, prev := db }) false) := by rw [← hH2]; exact get_set_self _ _ _
          have m1 : H2.get 1 = some (.cells [.int .i64 0] false) := by rw [← hH2, Heap.get_set, if_neg (by decide), Heap.get_set, if_neg (by decide)]; exact k1
          have m2 : H2.get 2 = some (.cells [.int .i64 0] false) := by rw [← hH2, Heap.get_set, if_neg (by decide), Heap.get_set, if_neg (by decide)]; exact k2
          have m3 : H2.get 3 = some (.cells [.lst 0 1 (bytesE b), .int .i64 (a : Int)] false) := by rw [← hH2, Heap.get_set, if_neg (by decide), Heap.get_set, if_neg (by decide)]; exact k3
          have mo : OwnN H2 14 mv (mvE acc) := by
            rw [← hH2]
            refine ⟨(hown1.1.set _ _ fun ht => ?_).set _ _ fun ht => ?_, hown1.2⟩ <;>
            · have := own_tok_get hown1.1 ht
              rw [k0] at this
              cases this
          rw [hH2]
          have hw : IntKind.i64.wrap ((a : Int) + (d.n : Int)) = ((a + d.n : Nat) : Int) := by rw [wrap_i64 (by omega) (by omega)]; simp
          have t39 : (entC mv { E with certs := da, prev := db }).take 39 = entC mv { E with certs := da, prev := db } := List.take_of_length_le (by rw [hE2l]; omega)
          have sp39 : splice (entC mv { E with certs := da, prev := db }) 0 (entC mv { E with certs := da, prev := db }) = entC mv { E with certs := da, prev := db } := splice_all rfl
          refine FC_seq fun K hK => ?_
          refine FC_draw0 (by decide) ?_
          simp only [symA, sy, AV.cells, AV.isTup, startF, Nat.reduceLT, Nat.reduceEqDiff, Nat.reduceAdd, symF, symFp, FD2_nil, ROp.readsId, idOf, reduceCtorEq, false_implies, implies_true, forall_const, true_and, and_true, List.not_mem_nil, List.mem_cons, or_false, false_or, Prod.mk.injEq, forall_eq, forall_eq_or_imp, forall_eq', Option.some.injEq, sn, Nat.reduceLeDiff, Nat.reduceMul, Nat.reduceSub, Nat.reduceMod, Nat.reduceDiv, h2, h3, h4, h5, cellsAt_get m0, hE2l, List.drop_zero, t39, cellsAt_get m3, hw, m0, sp39, Heap.get_set, Heap.next_set, m1, m2, m3]
          apply hK
          simp only [symA, sy, AV.cells, AV.isTup, startF, Nat.reduceLT, Nat.reduceEqDiff, Nat.reduceAdd]
          refine ⟨_, defer_nop _ rfl _, ?_⟩
          refine ⟨[.agg (entC mv { E with certs := da, prev := db }), .int .i64 ((a + d.n : Nat) : Int), .int .i64 0], ?_, ?_⟩
          · simp only [resFs, resF, symA, sy, AV.cells, AV.isTup, startF, Nat.reduceLT, Nat.reduceEqDiff, Nat.reduceAdd, sn, Nat.reduceLeDiff, Nat.reduceMul, Nat.reduceSub, Nat.reduceMod, Nat.reduceDiv, Heap.cellsAt, sh, sl, splice, h2, h3, h4, hE2l]
            rw [List.take_of_length_le (by rw [hE2l]; omega)]
          · refine ⟨mv, ?_, ?_⟩
            · rw [hrE, hE]; rfl
            · rw [hrE]
              refine ⟨((mo.1.set _ _ fun ht => ?_).set _ _ fun ht => ?_).set _ _ fun ht => ?_, mo.2⟩
              · have := own_tok_get mo.1 ht; rw [m0] at this; cases this
              · have := own_tok_get mo.1 ht; rw [m1] at this; cases this
              · have := own_tok_get mo.1 ht; rw [m2] at this; cases this
        · rw [rdEnd, if_neg hd2] at hrE
          have fin : ∀ f' : Slt, f' 2 = .ref 0 0 → f' 3 = .ref 1 0 → f' 4 = .ref 2 0 → retFD Tryd.prog gv [.cell 2 true 39, .cell 3 false 1, .cell 4 false 1] (decR b) (.panic (.iface 25 (.int .i64 11))) f' dds H1 := fun f' g2 g3 g4 => dec_fail hrE g2 g3 g4 k0 k1 k2 (hEl _) rfl rfl
          by_cases hd0 : d.e = 0
          · have hdl : d.l.length ≠ 2 := fun h => hd2 ⟨hd0, h⟩
            have hb2 : (((d.l.length : Int)) != 2) = true := by simp; omega
            by_cases hz0 : digsE d.l = []
            · have hl0 : d.l = [] := by simpa [digsE] using hz0
              have hv2 : ownV H 16 (digsE d.l) = .nilsl := by rw [ownV, if_pos hz0]
              simp only [symA, sy, AV.cells, AV.isTup, startF, Nat.reduceLT, Nat.reduceEqDiff, Nat.reduceAdd, hv2, hd0, show ((0 : Int) != 0) = false from rfl, show ((0 : Int) != 2) = true from rfl]
              refine FOps_panic (t := 25) (v := .int .i64 11) (by simp only [symB, ne_eq, Nat.reduceEqDiff, not_false_eq_true]) ?_
              exact fin _ (by simp only [symB, ne_eq, Nat.reduceEqDiff, not_false_eq_true]; exact h2) (by simp only [symB, ne_eq, Nat.reduceEqDiff, not_false_eq_true]; exact h3) (by simp only [symB, ne_eq, Nat.reduceEqDiff, not_false_eq_true]; exact h4)
            · have hv2 : ownV H 16 (digsE d.l) = .lst (H.next + 2) 16 (digsE d.l) := by rw [ownV, if_neg hz0]
              simp only [symA, sy, AV.cells, AV.isTup, startF, Nat.reduceLT, Nat.reduceEqDiff, Nat.reduceAdd, hv2, hd0, show ((0 : Int) != 0) = false from rfl, digsE_length, hb2]
              refine FOps_panic (t := 25) (v := .int .i64 11) (by simp only [symB, ne_eq, Nat.reduceEqDiff, not_false_eq_true]) ?_
              exact fin _ (by simp only [symB, ne_eq, Nat.reduceEqDiff, not_false_eq_true]; exact h2) (by simp only [symB, ne_eq, Nat.reduceEqDiff, not_false_eq_true]; exact h3) (by simp only [symB, ne_eq, Nat.reduceEqDiff, not_false_eq_true]; exact h4)
          · have hb1 : (d.e != 0) = true := by simp; omega
            simp only [symA, sy, AV.cells, AV.isTup, startF, Nat.reduceLT, Nat.reduceEqDiff, Nat.reduceAdd, hb1]
            refine FOps_panic (t := 25) (v := .int .i64 11) (by simp only [symB, ne_eq, Nat.reduceEqDiff, not_false_eq_true]) ?_
            exact fin _ (by simp only [symB, ne_eq, Nat.reduceEqDiff, not_false_eq_true]; exact h2) (by simp only [symB, ne_eq, Nat.reduceEqDiff, not_false_eq_true]; exact h3) (by simp only [symB, ne_eq, Nat.reduceEqDiff, not_false_eq_true]; exact h4)
  · rw [if_neg hx7] at hrE
    have hS29 : Sound Tryd.prog gv 29 [.ref 3 0, .int .i64 7] A _ _ := hrd.2 hx7
    refine FOps_call_pan (by simp only [List.map_cons, List.map_nil, symB, ne_eq, Nat.reduceEqDiff, not_false_eq_true]) hS29 ?_
    have own0 : ∀ k, k < 4 → (ownH A (intsE x.l)).get k = A.get k := fun k hk => by
      unfold ownH
      split
      · rfl
      · rw [Heap.get_alloc, if_neg (by omega)]
    exact dec_fail hrE (by simp only [symB, ne_eq, Nat.reduceEqDiff, not_false_eq_true]) (by simp only [symB, ne_eq, Nat.reduceEqDiff, not_false_eq_true]) (by simp only [symB, ne_eq, Nat.reduceEqDiff, not_false_eq_true]) (by rw [own0 _ (by omega)]; exact g0) (by rw [own0 _ (by omega)]; exact g1) (by rw [own0 _ (by omega)]; exact g2) hzl rfl rfl
def mvV (l : List (List Int)) : AV := if l = [] then .nilsl else .lst 0 14 (mvE l)
theorem mvV_is (l : List (List Int)) : IsMv (mvV l) l := by
  unfold mvV
  split
  · rename_i h; exact .inl ⟨rfl, h⟩
  · exact .inr rfl
theorem mapO_append {k : AV → Option AV} : ∀ {a b a' b' : List AV}, mapO k a = some a' → mapO k b = some b' → mapO k (a ++ b) = some (a' ++ b')
  | [], b, a', b', ha, hb => by
    obtain rfl := Option.some.inj ha
    exact hb
  | z :: a, b, a', b', ha, hb => by
    simp only [mapO] at ha
    split at ha
    · rename_i z' zs hz hzs
      obtain rfl := Option.some.inj ha
      simp only [List.cons_append, mapO, hz, mapO_append hzs hb]
    · cases ha
theorem mapO_bytesC {k : AV → Option AV} (hk : ∀ j n, k (.int j n) = some (.int j n)) (l : List Nat) : mapO k (bytesC l) = some (bytesC l) := mapO_free fun x hx => by
  simp only [bytesC, List.mem_map] at hx
  obtain ⟨y, _, rfl⟩ := hx
  exact hk _ _
theorem mapO_entC {k : AV → Option AV} (hk : ∀ j n, k (.int j n) = some (.int j n)) {v v' : AV} (hv : k v = some v') (e : Ent) : mapO k (entC v e) = some (entC v' e) := by
  have h1 : mapO k (.int .i64 e.cause :: bytesC e.prev) = some (.int .i64 e.cause :: bytesC e.prev) := by simp only [mapO, hk, mapO_bytesC hk]
  have h2 := mapO_append (mapO_bytesC hk e.certs) h1
  simp only [entC, mapO, hk, hv, h2]
/-- log.Decode -/
theorem dec_ok {b : List Nat} (hb : Bytes b) (hl : b.length < 2^30) (tag : Nat) (H : Heap) :
    Sound Tryd.prog gv 11 [.lst tag 1 (bytesE b)] H (.ret (.tup [.agg (entC (mvV (rdEnt b).x.moved) (rdEnt b).x), .int .i64 (rdEnt b).n, .int .i64 (rdEnt b).e])) H := by
  refine Sound.tag0 ?_ tag
  obtain ⟨out, H', ⟨v, rfl, hv⟩, hS⟩ := Sound_of_FCD mixed is11 (args := [.lst 0 1 (bytesE b)]) (by unfold F11 om oo; simp) (dec_body hb hl)
  have hs1 : shut1 H' none H.next v = some (mvV (rdEnt b).x.moved) := by
    unfold mvV
    split
    · rename_i h
      rw [hv.2 (by rw [h]; rfl)]
      rfl
    · rename_i h
      rcases hv.1 with ⟨_, h'⟩ | ⟨k, rfl, _⟩
      · exact absurd (by simpa [mvE] using h') h
      · simp [shut1, freeLL_mvE, tagA]
  have hk : ∀ j n, shutF H' none H.next 0 (.int j n) = some (.int j n) := fun j n => rfl
  refine hS.frame gfree (by simp [freeL, AV.free, freeLL_bytesE]) (tk := none) (fun k hk => by cases hk) (n := 2) H (v' := .tup [.agg (entC (mvV (rdEnt b).x.moved) (rdEnt b).x), .int .i64 (rdEnt b).n, .int .i64 (rdEnt b).e]) ?_
  show (mapO (shutF H' none H.next 1) [.agg (entC v (rdEnt b).x), .int .i64 (rdEnt b).n, .int .i64 (rdEnt b).e]).map AV.tup = _
  have h1 : shutF H' none H.next 1 (.agg (entC v (rdEnt b).x)) = some (.agg (entC (mvV (rdEnt b).x.moved) (rdEnt b).x)) := by
    show (mapO (shutF H' none H.next 0) (entC v (rdEnt b).x)).map AV.agg = _
    rw [mapO_entC hk hs1]
    rfl
  have h2 : ∀ j n, shutF H' none H.next 1 (.int j n) = some (.int j n) := fun j n => rfl
  simp only [mapO, h1, h2, Option.map_some]
end Go.Proofs.YtfdaiidepcbemaaDoor
end
