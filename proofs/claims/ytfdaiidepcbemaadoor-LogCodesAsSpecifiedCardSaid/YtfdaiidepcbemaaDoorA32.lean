/-
  CONTRACTS: the sum of a message.
  CONTRACTS: digests.
-/
import Derived.Test.YtfdaiidepcbemaaDoorA31
set_option linter.unusedVariables false
set_option linter.unusedSimpArgs false
section
namespace Go.Proofs.YtfdaiidepcbemaaDoor
open Go Go.Av Go.Av.Pr
set_option maxRecDepth 100000
attribute [local congr] FD2_congr stepK_congr condK_congr guardK_congr FC_congr FOps_congr thenF_congr inBlockF_congr
/-- a list of one's own, or a full one -/
def OwnF (H : Heap) (sz : Nat) (v : AV) (els : List (List AV)) : Prop := Own H sz v els ∨ v = .lst 1 sz els
theorem own_tok_get {H : Heap} {sz : Nat} {v : AV} {els : List (List AV)} (h : Own H sz v els) {id : Nat} (ht : tokOf v = some id) : H.get id = some .tok := by
  rcases h with ⟨rfl, _⟩ | ⟨k, rfl, h2, h3⟩
  · cases ht
  · simp only [tokOf, Option.some.injEq] at ht
    subst ht
    exact h3
theorem OwnF.append {H : Heap} {sz bytes : Nat} {v : AV} {els ys : List (List AV)} (h : OwnF H sz v els) (hb : (els.length + ys.length) * bytes ≤ 2 ^ 40) :
    ∃ v' H', appendA H sz bytes false v ys = some (v', H') ∧ OwnF H' sz v' (els ++ ys) ∧ Grew H H' v ∧ (ys ≠ [] → Own H' sz v' (els ++ ys)) := by
  rcases h with h | rfl
  · obtain ⟨v', H', h1, h2, h3⟩ := h.append (ys := ys) hb
    exact ⟨v', H', h1, .inl h2, h3, fun _ => h2⟩
  · by_cases hy : ys = []
    · subst hy
      exact ⟨_, H, rfl, .inr (by rw [List.append_nil]), ⟨Nat.le_refl _, fun _ _ _ => rfl⟩, fun h => absurd rfl h⟩
    · have hne : ys.isEmpty = false := by cases ys with
        | nil => exact absurd rfl hy
        | cons _ _ => rfl
      refine ⟨.lst (H.next + 2) sz (els ++ ys), H.alloc .tok, by simp [appendA, hne, hb, newRowA], .inl (Own.fresh _ _ _), ⟨by simp, fun id _ hid => by rw [Heap.get_alloc, if_neg (by omega)]⟩, fun _ => Own.fresh _ _ _⟩
theorem OwnF.cells_ne {H : Heap} {sz : Nat} {v : AV} {els : List (List AV)} (h : OwnF H sz v els) {id : Nat} {cs : List AV} {b : Bool} (hg : H.get id = some (.cells cs b)) : tokOf v ≠ some id := by
  intro ht
  rcases h with h | rfl
  · rw [own_tok_get h ht] at hg; cases hg
  · cases ht
theorem OwnF.lst {H : Heap} {sz : Nat} {v : AV} {els : List (List AV)} (h : OwnF H sz v els) (hne : els ≠ []) : ∃ tag, v = .lst tag sz els := by
  rcases h with (⟨h, h'⟩ | ⟨k, h, _⟩) | h
  · exact absurd h' hne
  · exact ⟨_, h⟩
  · exact ⟨_, h⟩
theorem bytesOf_bytesE : ∀ (l : List Nat), bytesOf (bytesE l) = some (l.map UInt8.ofNat)
  | [] => rfl
  | x :: l => by
    have := bytesOf_bytesE l
    simp only [bytesE, List.map_cons, bytesOf] at this ⊢
    rw [this]
    simp
theorem natB_ofNat {l : List Nat} (h : Bytes l) : natB (l.map UInt8.ofNat) = l := by
  unfold natB
  rw [List.map_map]
  conv => rhs; rw [← List.map_id l]
  apply List.map_congr_left
  intro x hx
  have := h x hx
  simp [Function.comp]
  omega
/-- wire.Bytes -/
theorem bytes_ok (p : List UInt8) (hl : p.length < 2^36) (H : Heap) : Sound Tryd.prog gv 46 [.str p] H (.ret (.lst (H.next + 2) 1 (bytesE (uvar (zig p.length) ++ natB p)))) (H.alloc .tok) := by
  have hne : uvar (zig (p.length : Int)) ++ natB p ≠ [] := fun h => uvar_ne _ (List.append_eq_nil_iff.1 h).1
  refine Sound_own gfree rfl (bytesE_ne hne) (freeLL_bytesE _) (Sound_of_FC mixed is46 (by unfold F46 om oo; simp) ?_) H
  show FC Tryd.prog gv 8 F46.body _ _ _ (retF [.tmp 2] _)
  unfold F46 om oo
  refine FC_seq fun K hK => ?_
  simp only [symA, sy, AV.cells, AV.isTup, startF, Nat.reduceLT, Nat.reduceEqDiff, Nat.reduceAdd]
  apply hK
  clear hK K
  simp only [symA, sy, AV.cells, AV.isTup, startF, Nat.reduceLT, Nat.reduceEqDiff, Nat.reduceAdd]
  refine FOps_call (by decide) (by simp only [sm, symB, Nat.reduceEqDiff, startF]) (int_ok (n := (p.length : Int)) (by omega) (by omega) _) ?_
  have q3 := uvar_len10 (zig_lt (n := (p.length : Int)) (by omega) (by omega))
  obtain ⟨v, H', a1, a2, a3⟩ := (Own.fresh ⟨0, .nil⟩ 1 (bytesE (uvar (zig (p.length : Int))))).append (bytes := 1) (ys := u8s p) (by simp only [bytesE_length, u8s_eq, natB_length]; omega)
  simp only [symA, sy, AV.cells, AV.isTup, startF, Nat.reduceLT, Nat.reduceEqDiff, Nat.reduceAdd, elemsOf, a1]
  refine ⟨rfl, [v], by simp only [resFs, resF, symB, ne_eq, Nat.reduceEqDiff, not_false_eq_true], v, rfl, ?_⟩
  rw [bytesE_append, ← u8s_eq]
  exact a2
def zpad (L : Nat) : Nat := (119 - L % 64) % 64
def be8 (n : Nat) : List Nat := (List.range 8).map fun i => n / 2 ^ (56 - 8 * i) % 256
def padOf (L : Nat) : List Nat := 128 :: (List.replicate (zpad L) 0 ++ be8 (8 * L))
def final (m : List Nat) : S8 := blks s0 (m ++ padOf m.length) ((m ++ padOf m.length).length / 64)
def outB (s : S8) (i : Nat) : Nat := (s.l.getD (i / 4) 0 >>> (24 - 8 * (i % 4))).toNat % 256
def sha (m : List Nat) : List Nat := (List.range 32).map (outB (final m))
theorem sha_length (m : List Nat) : (sha m).length = 32 := by simp [sha]
theorem be8_bytes (n : Nat) : Bytes (be8 n) := fun x hx => by
  simp only [be8, List.mem_map] at hx
  obtain ⟨i, _, rfl⟩ := hx
  omega
theorem padOf_bytes (L : Nat) : Bytes (padOf L) := fun x hx => by
  simp only [padOf, List.mem_cons, List.mem_append] at hx
  rcases hx with rfl | hx | hx
  · omega
  · rw [List.eq_of_mem_replicate hx]; omega
  · exact be8_bytes _ x hx
theorem sha_bytes (m : List Nat) : Bytes (sha m) := fun x hx => by
  simp only [sha, List.mem_map, outB] at hx
  obtain ⟨i, _, rfl⟩ := hx
  omega
theorem sum_ok {m : List Nat} {v : AV} (hm : IsStream m v) (hl : m.length < 2 ^ 39) (H : Heap) : Sound Tryd.prog gv 47 [v] H (.ret (.agg (bytesC (sha m)))) H := by
  have hm0 := hm
  obtain ⟨blk0, rfl, hb64, hbb, hbt⟩ := hm
  obtain ⟨L, hL⟩ : ∃ L, m.length = L := ⟨_, rfl⟩
  rw [hL] at hm0 hbt hl
  rw [hL]
  obtain ⟨out, H', hout, hS⟩ := Sound_of_FC (R := fun o h => o = .ret (.agg (bytesC (sha m)))) mixed is47 (args := [.agg (strm (blks s0 m (L / 64)) blk0 L)]) (by unfold F47 om oo; simp) (H := ⟨0, .nil⟩) (by
    show FC Tryd.prog gv 58 F47.body _ _ _ (retF [.cell 2 true 32] _)
    unfold F47 om oo
    have hst := strm_length (blks s0 m (L / 64)) hb64 L
    have w8 : IntKind.u64.wrap (8 * (L : Int)) = ((8 * L : Nat) : Int) := by rw [wrap_u64 (by omega) (by omega)]; simp
    refine FC_seq fun K hK => ?_
    simp only [symA, sy, AV.cells, AV.isTup, startF, Nat.reduceLT, Nat.reduceEqDiff, Nat.reduceAdd, AOps]
    apply hK
    clear hK K
    refine FC_seq fun K hK => ?_
    simp only [symA, sy, AV.cells, AV.isTup, startF, Nat.reduceLT, Nat.reduceEqDiff, Nat.reduceAdd, sn, Nat.reduceLeDiff, Nat.reduceMul, Nat.reduceSub, Nat.reduceMod, Nat.reduceDiv, Heap.cellsAt, sh, hst, strm_n _ hb64, w8]
    apply hK
    clear hK K
    refine FC_seq fun K hK => ?_
    simp only [symA, sy, AV.cells, AV.isTup, startF, Nat.reduceLT, Nat.reduceEqDiff, Nat.reduceAdd, litA]
    apply hK
    clear hK K
    have hzl : zpad L < 64 := Nat.mod_lt _ (by omega)
    refine FC_seq fun K hK => ?_
    refine FC_block (FC_loop (fun k f ds H => ds = [] ∧ ∃ j : Nat, j ≤ zpad L ∧ k = zpad L - j ∧ f 1 = .ref 0 0 ∧ f 2 = .ref 1 0 ∧ f 3 = .int .u64 ((8 * L : Nat) : Int) ∧ OwnF H 1 (f 4) (bytesE (128 :: List.replicate j 0)) ∧ 2 ≤ H.next ∧
      H.get 0 = some (.cells (strm (blks s0 m (L / 64)) blk0 L) false) ∧ H.get 1 = some (.cells (List.replicate 32 (.int .u8 0)) false)) (zpad L) ?_ ?_)
    · refine ⟨rfl, 0, by omega, by omega, by simp only [symB, ne_eq, Nat.reduceEqDiff, not_false_eq_true, Heap.cellsAt, sh, Nat.reduceAdd], by simp only [symB, ne_eq, Nat.reduceEqDiff, not_false_eq_true, Heap.cellsAt, sh, Nat.reduceAdd], by simp only [symB, ne_eq, Nat.reduceEqDiff, not_false_eq_true], .inr (by simp only [symB, ne_eq, Nat.reduceEqDiff, not_false_eq_true]; rfl), by simp only [Heap.cellsAt, sh, Nat.reduceAdd, Nat.reduceEqDiff]; decide, by simp only [Heap.cellsAt, sh, Nat.reduceAdd, Nat.reduceEqDiff, symA, sy, AV.cells, AV.isTup, startF, Nat.reduceLT], by simp only [Heap.cellsAt, sh, Nat.reduceAdd, Nat.reduceEqDiff]⟩
    rintro k f ds H ⟨rfl, j, hj, rfl, h1, h2, h3, h4, hn, hg0, hg1⟩
    obtain ⟨tag, h4'⟩ := h4.lst (by simp [bytesE])
    have hml : (m ++ padOf L).length < 2 ^ 40 := by simp [padOf, be8]; omega
    refine FC_seq fun K2 hK2 => ?_
    refine FC_seq fun K3 hK3 => ?_
    have w1 : IntKind.i64.wrap (L : Int) = (L : Int) := wrap_i64 (by omega) (by omega)
    have w2 : IntKind.i64.wrap ((L : Int) + ((j + 1 : Nat) : Int)) = ((L + j + 1 : Nat) : Int) := by rw [wrap_i64 (by omega) (by omega)]; omega
    have w3 : (((L + j + 1 : Nat) : Int).tmod 64 != 56) = decide (j ≠ zpad L) := by
      rw [Int.tmod_eq_emod_of_nonneg (by omega)]
      unfold zpad at hj ⊢
      rw [Bool.eq_iff_iff]
      simp
      omega
    simp only [symA, sy, AV.cells, AV.isTup, startF, Nat.reduceLT, Nat.reduceEqDiff, Nat.reduceAdd, sn, Nat.reduceLeDiff, Nat.reduceMul, Nat.reduceSub, Nat.reduceMod, Nat.reduceDiv, h1, cellsAt_get hg0, hst, strm_n _ hb64, w1, h4', bytesE_length, List.length_replicate, w2, show ¬ ((64 : Int) = 0) by decide, w3]
    apply hK3
    clear hK3 K3
    simp only [symA, sy, AV.cells, AV.isTup, startF, Nat.reduceLT, Nat.reduceEqDiff, Nat.reduceAdd]
    refine ⟨fun q => ?_, fun q => ?_⟩
    · apply hK2
      clear hK2 K2
      obtain ⟨v', H', a1, a2, a3, a4⟩ := h4.append (bytes := 1) (ys := [[.int .u8 0]]) (by simp only [bytesE_length, List.length_cons, List.length_replicate, List.length_nil]; omega)
      have e0 := a3.get 0 (h4.cells_ne hg0) (by omega)
      have e1 := a3.get 1 (h4.cells_ne hg1) (by omega)
      have hne := a3.next
      simp only [FC_blockE, symA, sy, AV.cells, AV.isTup, startF, Nat.reduceLT, Nat.reduceEqDiff, Nat.reduceAdd, litA, elemsOf, a1]
      refine ⟨zpad L - (j + 1), by omega, trivial, j + 1, by omega, rfl, h1, h2, h3, ?_, by omega, by rw [e0]; exact hg0, by rw [e1]; exact hg1⟩
      rw [List.replicate_succ', show (128 :: (List.replicate j 0 ++ [0])) = (128 :: List.replicate j 0) ++ [0] from rfl, bytesE_append]
      exact a2
    · apply hK
      clear hK2 K2 hK K
      have hjz : j = zpad L := by simpa using q
      subst hjz
      clear q w2 w3 hj
      refine FC_seq fun K hK => ?_
      refine FC_seq fun K hK => ?_
      simp only [symA, sy, AV.cells, AV.isTup, startF, Nat.reduceLT, Nat.reduceEqDiff, Nat.reduceAdd]
      apply hK
      clear hK K
      refine FC_rangeC (id := 2) (cmp := 24) (ix := 23) (nx := 35) (fun i f H => f 1 = .ref 0 0 ∧ f 2 = .ref 1 0 ∧ f 3 = .int .u64 ((8 * L : Nat) : Int) ∧ OwnF H 1 (f 4) (bytesE (128 :: (List.replicate (zpad L) 0 ++ (be8 (8 * L)).take i))) ∧ 2 ≤ H.next ∧
        H.get 0 = some (.cells (strm (blks s0 m (L / 64)) blk0 L) false) ∧ H.get 1 = some (.cells (List.replicate 32 (.int .u8 0)) false)) 8 (by decide) rfl (by decide) (by simp only [symB, ne_eq, Nat.reduceEqDiff, not_false_eq_true]) ?_ ?_ ?_ ?_
      · refine ⟨by simpa only [symB, ne_eq, Nat.reduceEqDiff, not_false_eq_true] using h1, by simpa only [symB, ne_eq, Nat.reduceEqDiff, not_false_eq_true] using h2, by simpa only [symB, ne_eq, Nat.reduceEqDiff, not_false_eq_true] using h3, ?_, hn, hg0, hg1⟩
        rw [List.take_zero, List.append_nil]
        simpa only [symB, ne_eq, Nat.reduceEqDiff, not_false_eq_true] using h4
      · rintro i f h d v (rfl | rfl | rfl) ⟨h1, h2, h3, h4, h5⟩ <;> exact ⟨by simpa only [symB, ne_eq, Nat.reduceEqDiff, not_false_eq_true] using h1, by simpa only [symB, ne_eq, Nat.reduceEqDiff, not_false_eq_true] using h2, by simpa only [symB, ne_eq, Nat.reduceEqDiff, not_false_eq_true] using h3, by simpa only [symB, ne_eq, Nat.reduceEqDiff, not_false_eq_true] using h4, h5⟩
      · rintro i f H hi e1 ⟨h1, h2, h3, h4, hn, hg0, hg1⟩
        have hbe : (be8 (8 * L)).length = 8 := by simp [be8]
        have hget : (be8 (8 * L)).getD i 0 = 8 * L / 2 ^ (56 - 8 * i) % 256 := by simp [be8, List.getElem?_range, hi]
        have w4 : IntKind.i64.wrap (8 * (i : Int)) = ((8 * i : Nat) : Int) := by rw [wrap_i64 (by omega) (by omega)]; simp
        have w5 : IntKind.i64.wrap (56 - ((8 * i : Nat) : Int)) = ((56 - 8 * i : Nat) : Int) := by rw [wrap_i64 (by omega) (by omega)]; omega
        have w6 : min (Int.toNat ((56 - 8 * i : Nat) : Int)) IntKind.u64.bits = 56 - 8 * i := by simp [IntKind.bits]; omega
        have w7 : IntKind.u8.wrap (((8 * L : Nat) : Int).fdiv (2 ^ (56 - 8 * i))) = (((be8 (8 * L)).getD i 0 : Nat) : Int) := by
          rw [fdiv_pow, hget, show (2 : Int) ^ (56 - 8 * i) = ((2 ^ (56 - 8 * i) : Nat) : Int) by simp, ← Int.natCast_ediv, wrapU_nat rfl]
          rfl
        obtain ⟨v', H', a1, a2, a3, a4⟩ := h4.append (bytes := 1) (ys := [[.int .u8 (((be8 (8 * L)).getD i 0 : Nat) : Int)]]) (by simp only [bytesE_length, List.length_cons, List.length_append, List.length_replicate, List.length_nil, List.length_take]; omega)
        have e0 := a3.get 0 (h4.cells_ne hg0) (by omega)
        have e1' := a3.get 1 (h4.cells_ne hg1) (by omega)
        have hne := a3.next
        refine FC_block (FC_seq fun K2 hK2 => ?_)
        simp only [symA, sy, AV.cells, AV.isTup, startF, Nat.reduceLT, Nat.reduceEqDiff, Nat.reduceAdd, e1]
        apply hK2
        clear hK2 K2
        simp only [symA, sy, AV.cells, AV.isTup, startF, Nat.reduceLT, Nat.reduceEqDiff, Nat.reduceAdd, litA, elemsOf, h3, w4, w5, w6, w7, show ¬ (((56 - 8 * i : Nat) : Int) < 0) by omega, a1]
        refine ⟨trivial, e1, h1, h2, (by first | exact h3 | trivial), ?_, by omega, by rw [e0]; exact hg0, by rw [e1']; exact hg1⟩
        rw [take_snoc (by omega), ← List.append_assoc, show ∀ (a b : List Nat), (128 :: (a ++ b)) = (128 :: a) ++ b from fun _ _ => rfl, bytesE_append]
        exact a2
      · rintro f H ⟨h1, h2, h3, h4, hn, hg0, hg1⟩
        rw [List.take_of_length_le (by simp [be8])] at h4
        simp only [symA, sy, AV.cells, AV.isTup, startF, Nat.reduceLT, Nat.reduceEqDiff, Nat.reduceAdd]
        apply hK
        clear hK K
        obtain ⟨tag, h4'⟩ := h4.lst (by simp [bytesE])
        have hpb := padOf_bytes L
        have hbo : bytesOf (bytesE (128 :: (List.replicate (zpad L) 0 ++ be8 (8 * L)))) = some ((padOf L).map UInt8.ofNat) := bytesOf_bytesE _
        obtain ⟨v', ⟨blk', hv', hbl', hbb', hbt'⟩, hS45⟩ := add_ok ((padOf L).map UInt8.ofNat) hm0 (by simp only [List.length_map]; simp only [List.length_append] at hml; omega) H
        rw [natB_ofNat hpb] at hv' hbt'
        obtain ⟨F, hF⟩ : ∃ F, blks s0 (m ++ padOf L) ((m ++ padOf L).length / 64) = F := ⟨_, rfl⟩
        have hfin : final m = F := by rw [final, hL, hF]
        rw [hF] at hv'
        subst hv'
        have hst' := strm_length F hbl' (m ++ padOf L).length
        refine FC_seq fun K hK => ?_
        simp only [symA, sy, AV.cells, AV.isTup, startF, Nat.reduceLT, Nat.reduceEqDiff, Nat.reduceAdd, sn, Nat.reduceLeDiff, Nat.reduceMul, Nat.reduceSub, Nat.reduceMod, Nat.reduceDiv, h1, cellsAt_get hg0, hst, List.drop_zero, h4', elemsOf, hbo]
        rw [List.take_of_length_le (by omega)]
        refine FOps_call (by decide) (by simp only [sm, symB, Nat.reduceEqDiff, startF]) (hS45) ?_
        simp only [symA, sy, AV.cells, AV.isTup, startF, Nat.reduceLT, Nat.reduceEqDiff, Nat.reduceAdd, sn, Nat.reduceLeDiff, Nat.reduceMul, Nat.reduceSub, Nat.reduceMod, Nat.reduceDiv, Heap.cellsAt, sh, h1, hg0, hst, hst']
        rw [splice_all (by rw [hst, hst'])]
        apply hK
        clear hK K
        refine FC_seq fun K hK => ?_
        simp only [symA, sy, AV.cells, AV.isTup, startF, Nat.reduceLT, Nat.reduceEqDiff, Nat.reduceAdd]
        apply hK
        clear hK K
        refine FC_seq fun K hK => ?_
        refine FC_seq fun K hK => ?_
        simp only [symA, sy, AV.cells, AV.isTup, startF, Nat.reduceLT, Nat.reduceEqDiff, Nat.reduceAdd]
        apply hK
        clear hK K
        refine FC_rangeC (id := 4) (cmp := 41) (ix := 40) (nx := 56) (fun i f H' => f 1 = .ref 0 0 ∧ f 2 = .ref 1 0 ∧ f 6 = .ref H.next 0 ∧
          H'.get 0 = some (.cells (strm F blk' (m ++ padOf L).length) false) ∧ H'.get 1 = some (.cells (List.replicate 32 (.int .u8 0)) false) ∧
          H'.get H.next = some (.cells (bytesC ((sha m).take i) ++ List.replicate (32 - i) (.int .u8 0)) false)) 32 (by decide) rfl (by decide) (by simp only [symB, ne_eq, Nat.reduceEqDiff, not_false_eq_true]) ?_ ?_ ?_ ?_
        · refine ⟨by simpa only [symB, ne_eq, Nat.reduceEqDiff, not_false_eq_true] using h1, by simpa only [symB, ne_eq, Nat.reduceEqDiff, not_false_eq_true] using h2, by simp only [symB, ne_eq, Nat.reduceEqDiff, not_false_eq_true, Heap.next_set], ?_, ?_, ?_⟩
          · rw [Heap.get_alloc, Heap.next_set, if_neg (by omega)]; exact get_set_self _ _ _
          · rw [Heap.get_alloc, Heap.next_set, if_neg (by omega), Heap.get_set, if_neg (by omega)]; exact hg1
          · rw [Heap.get_alloc, Heap.next_set, if_pos rfl]; rfl
        · rintro i f h d v (rfl | rfl | rfl) ⟨h1, h2, h3, h4⟩ <;> exact ⟨by simpa only [symB, ne_eq, Nat.reduceEqDiff, not_false_eq_true] using h1, by simpa only [symB, ne_eq, Nat.reduceEqDiff, not_false_eq_true] using h2, by simpa only [symB, ne_eq, Nat.reduceEqDiff, not_false_eq_true] using h3, h4⟩
        · rintro i f H' hi e1 ⟨h1, h2, h6, g0, g1, g6⟩
          have d1 : IntKind.i64.wrap ((i : Int).tdiv 4) = ((i / 4 : Nat) : Int) := by rw [Int.tdiv_eq_ediv_of_nonneg (by omega), wrap_i64 (by omega) (by omega)]; simp
          have d2 : (i : Int).tmod 4 = ((i % 4 : Nat) : Int) := by rw [Int.tmod_eq_emod_of_nonneg (by omega)]; simp
          have d3 : IntKind.i64.wrap (8 * ((i % 4 : Nat) : Int)) = ((8 * (i % 4) : Nat) : Int) := by rw [wrap_i64 (by omega) (by omega)]; simp
          have d4 : IntKind.i64.wrap (24 - ((8 * (i % 4) : Nat) : Int)) = ((24 - 8 * (i % 4) : Nat) : Int) := by rw [wrap_i64 (by omega) (by omega)]; omega
          have d5 : min (Int.toNat ((24 - 8 * (i % 4) : Nat) : Int)) IntKind.u32.bits = 24 - 8 * (i % 4) := by simp [IntKind.bits]; omega
          have d6 : (strm F blk' (m ++ padOf L).length).getD (i / 4) undefA = .int .u32 (F.l.getD (i / 4) 0).toNat := by
            rw [strm, getD_eq, List.getElem?_append_left (by rw [wC_length, S8.l_length]; omega), ← getD_eq]
            exact wC_getD _ (by rw [S8.l_length]; omega)
          have d7 : IntKind.u8.wrap (((F.l.getD (i / 4) 0) >>> (24 - 8 * (i % 4))).toNat : Int) = (((sha m).getD i 0 : Nat) : Int) := by
            rw [wrapU_nat rfl]
            simp only [sha, outB, hfin, List.getD_eq_getElem?_getD, List.getElem?_map, List.getElem?_range hi, Option.map_some, Option.getD_some]
            rfl
          have hl6 : ((sha m).take i).length = i := by simp [sha_length]; omega
          have hcl : (bytesC ((sha m).take i) ++ List.replicate (32 - i) (AV.int .u8 0)).length = 32 := by rw [List.length_append, bytesC_length, hl6, List.length_replicate]; omega
          have hsp := splice_fill ((sha m).take i) (32 - (i + 1)) ((sha m).getD i 0)
          rw [hl6, show 32 - (i + 1) + 1 = 32 - i by omega, ← take_snoc (by rw [sha_length]; omega)] at hsp
          refine FC_block (FC_seq fun K2 hK2 => ?_)
          simp only [symA, sy, AV.cells, AV.isTup, startF, Nat.reduceLT, Nat.reduceEqDiff, Nat.reduceAdd, e1]
          apply hK2
          clear hK2 K2
          simp only [symA, sy, AV.cells, AV.isTup, startF, Nat.reduceLT, Nat.reduceEqDiff, Nat.reduceAdd, sn, Nat.reduceLeDiff, Nat.reduceMul, Nat.reduceSub, Nat.reduceMod, Nat.reduceDiv, show ¬ ((4 : Int) = 0) by decide, d1, d2, d3, d4, d5, h1, asNat_nat, show i / 4 < 8 by omega, cellsAt_get g0, hst', show i / 4 + 1 ≤ 73 by omega, d6, show ¬ (((24 - 8 * (i % 4) : Nat) : Int) < 0) by omega, w_shr, d7, h6, hi, g6, hcl, show i + 1 ≤ 32 by omega, hsp]
          exact ⟨trivial, e1, (by first | exact h1 | trivial), h2, (by first | exact h6 | trivial), by rw [Heap.get_set, if_neg (by omega)]; exact g0, by rw [Heap.get_set, if_neg (by omega)]; exact g1, get_set_self _ _ _⟩
        · rintro f H' ⟨h1, h2, h6, g0, g1, g6⟩
          simp only [symA, sy, AV.cells, AV.isTup, startF, Nat.reduceLT, Nat.reduceEqDiff, Nat.reduceAdd]
          apply hK
          rw [Nat.sub_self, List.replicate_zero, List.append_nil, List.take_of_length_le (by rw [sha_length]; omega)] at g6
          simp only [symA, sy, AV.cells, AV.isTup, startF, Nat.reduceLT, Nat.reduceEqDiff, Nat.reduceAdd, sn, Nat.reduceLeDiff, Nat.reduceMul, Nat.reduceSub, Nat.reduceMod, Nat.reduceDiv, Heap.cellsAt, sh, h2, h6, g6, g1, bytesC_length, sha_length, List.length_replicate, List.drop_zero]
          rw [List.take_of_length_le (by rw [bytesC_length, sha_length]; omega), splice_all (by rw [bytesC_length, sha_length]; simp)]
          refine ⟨rfl, [.agg (bytesC (sha m))], ?_, rfl⟩
          simp only [resFs, resF, symA, sy, AV.cells, AV.isTup, startF, Nat.reduceLT, Nat.reduceEqDiff, Nat.reduceAdd, sn, Nat.reduceLeDiff, Nat.reduceMul, Nat.reduceSub, Nat.reduceMod, Nat.reduceDiv, Heap.cellsAt, sh, h2, bytesC_length, sha_length, List.drop_zero]
          rw [List.take_of_length_le (by rw [bytesC_length, sha_length]; omega)])
  rw [hout] at hS
  have := hS.frame gfree (by simp [freeL, AV.free, freeL_strm]) (tk := none) (fun k' hk' => by cases hk') (n := 0) H (v' := .agg (bytesC (sha m))) (by simp [Out.av, shutF, shut1, AV.free, freeL_bytesC])
  exact this
end Go.Proofs.YtfdaiidepcbemaaDoor
end
section
namespace Go.Proofs.YtfdaiidepcbemaaDoor
open Go Go.Av Go.Av.Pr
set_option maxRecDepth 100000
attribute [local congr] FD2_congr stepK_congr condK_congr guardK_congr FC_congr FOps_congr thenF_congr inBlockF_congr
def strsE (l : List (List UInt8)) : List (List AV) := l.map fun s => [.str s]
theorem strsE_length (l : List (List UInt8)) : (strsE l).length = l.length := by simp [strsE]
theorem strsE_getD (l : List (List UInt8)) {i : Nat} (h : i < l.length) : (strsE l).getD i [] = [.str (l.getD i [])] := by
  simp [strsE, List.getElem?_eq_getElem h]
theorem freeLL_strsE : ∀ l, freeLL (strsE l) = true
  | [] => rfl
  | x :: l => by
    simp only [strsE, List.map_cons, freeLL, freeL, AV.free, Bool.and_self, Bool.true_and]
    exact freeLL_strsE l
def pieces (tag : Nat) (parts : List (List UInt8)) : List Nat := tag % 256 :: parts.flatMap fun p => uvar (zig p.length) ++ natB p
def ofD (tag : Nat) (parts : List (List UInt8)) : List Nat := (sha (pieces tag parts)).take 16
theorem ofD_length (tag : Nat) (parts : List (List UInt8)) : (ofD tag parts).length = 16 := by simp [ofD, sha_length]
theorem pieces_take {tag : Nat} {l : List (List UInt8)} {i : Nat} (h : i < l.length) : pieces tag (l.take (i + 1)) = pieces tag (l.take i) ++ (uvar (zig (l.getD i []).length) ++ natB (l.getD i [])) := by
  simp only [pieces, List.cons_append]
  rw [List.take_add_one, List.flatMap_append]
  simp [List.getElem?_eq_getElem h]
theorem pieces_len {tag : Nat} {parts : List (List UInt8)} {n : Nat} (hp : ∀ p ∈ parts, p.length < n) (hn : n < 2 ^ 36) : (pieces tag parts).length ≤ 1 + parts.length * (10 + n) := by
  simp only [pieces, List.length_cons]
  suffices (parts.flatMap fun p => uvar (zig p.length) ++ natB p).length ≤ parts.length * (10 + n) by omega
  induction parts with
  | nil => simp
  | cons p l ih =>
    have h1 := hp p (by simp)
    have h2 := ih fun x hx => hp x (by simp [hx])
    have q3 := uvar_len10 (zig_lt (n := (p.length : Int)) (by omega) (by omega))
    simp only [List.flatMap_cons, List.length_append, List.length_cons, natB_length] at h2 ⊢
    rw [Nat.add_mul]
    omega
theorem uvar_bytes : ∀ z, Bytes (uvar z)
  | z => by
    rw [uvar]
    split
    · intro x hx
      simp only [List.mem_singleton] at hx
      omega
    · rename_i h
      intro x hx
      simp only [List.mem_cons] at hx
      rcases hx with rfl | hx
      · omega
      · exact uvar_bytes (z / 128) x hx
termination_by z => z
theorem bytes_append {a b : List Nat} (ha : Bytes a) (hb : Bytes b) : Bytes (a ++ b) := fun x hx => by
  rcases List.mem_append.1 hx with h | h
  · exact ha x h
  · exact hb x h
/-- hash.Of -/
theorem of_ok {tag : Nat} (htag : tag < 2^63) {tg : Nat} (htg : tg < 2) {parts : List (List UInt8)} {n : Nat} (hp : ∀ p ∈ parts, p.length < n) (hn : 1 + parts.length * (10 + n) < 2 ^ 36) (hn' : n < 2 ^ 36) (H : Heap) :
    Sound Tryd.prog gv 26 [.int .i64 tag, .lst tg 1 (strsE parts)] H (.ret (.agg (bytesC (ofD tag parts)))) H := by
  obtain ⟨out, H', hout, hS⟩ := Sound_of_FC (R := fun o h => o = .ret (.agg (bytesC (ofD tag parts)))) mixed is26 (args := [.int .i64 tag, .lst tg 1 (strsE parts)]) (by unfold F26 om oo; simp) (H := ⟨0, .nil⟩) (by
    show FC Tryd.prog gv 32 F26.body _ _ _ (retF [.cell 4 true 16] _)
    unfold F26 om oo
    have hz : List.replicate 8 (AV.int .u32 0) ++ List.replicate 64 (AV.int .u8 0) ++ [AV.int .u64 0] = strm ⟨0, 0, 0, 0, 0, 0, 0, 0⟩ (List.replicate 64 0) 0 := rfl
    rw [hz]
    have hzl := strm_length ⟨0, 0, 0, 0, 0, 0, 0, 0⟩ (blk := List.replicate 64 0) (by simp) 0
    refine FC_seq fun K hK => ?_
    simp only [symA, sy, AV.cells, AV.isTup, startF, Nat.reduceLT, Nat.reduceEqDiff, Nat.reduceAdd]
    apply hK
    clear hK K
    refine FC_seq fun K hK => ?_
    refine FC_draw' 1 (by decide) (by simp only [freeAt, Heap.cellsAt, sh, Nat.reduceAdd, Nat.reduceEqDiff, Option.isNone_none, Bool.and_self, Nat.add_zero]) fun H1 n1 e1 => ?_
    have g0 : H1.get 0 = some (.cells (bytesC (List.replicate 16 0)) false) := by rw [e1]; simp only [Heap.cellsAt, sh, Nat.reduceAdd, Nat.reduceEqDiff]; rfl
    clear e1
    have n1 : H1.next = 2 := n1
    obtain ⟨v0, hv0, hS44⟩ := begin_ok H1
    refine FD2_call (by decide) (args := []) rfl hS44 (Nat.le_refl _) (fun _ _ _ => rfl) ?_
    have w1 : IntKind.u8.wrap (tag : Int) = ((tag % 256 : Nat) : Int) := by rw [wrapU_nat rfl]; rfl
    have hb1 : bytesOf [[AV.int .u8 ((tag % 256 : Nat) : Int)]] = some [UInt8.ofNat (tag % 256)] := by
      have := bytesOf_bytesE [tag % 256]
      exact this
    simp only [symA, sy, AV.cells, AV.isTup, startF, Nat.reduceLT, Nat.reduceEqDiff, Nat.reduceAdd, symF, symFp, FD2_nil, ROp.readsId, idOf, reduceCtorEq, false_implies, implies_true, forall_const, true_and, and_true, List.not_mem_nil, List.mem_cons, or_false, false_or, Prod.mk.injEq, forall_eq, forall_eq_or_imp, forall_eq', Option.some.injEq, sn, Nat.reduceLeDiff, Nat.reduceMul, Nat.reduceSub, Nat.reduceMod, Nat.reduceDiv, w1, litA, elemsOf, hb1]
    obtain ⟨v1, hv1, hS45⟩ := add_ok [UInt8.ofNat (tag % 256)] hv0 (by simp) H1
    have hpt : pieces tag [] = [] ++ natB [UInt8.ofNat (tag % 256)] := by
      simp [pieces, natB]
    rw [← hpt] at hv1
    refine FD2_call (by decide) (by simp only [sm, symB, Nat.reduceEqDiff, startF]) hS45 (Nat.le_refl _) (fun _ _ _ => rfl) ?_
    obtain ⟨blk1, hv1', hb64, hbb, hbt⟩ := id hv1
    have hst := strm_length (blks s0 (pieces tag []) ((pieces tag []).length / 64)) hb64 (pieces tag []).length
    subst hv1'
    simp only [symA, sy, AV.cells, AV.isTup, startF, Nat.reduceLT, Nat.reduceEqDiff, Nat.reduceAdd, symF, symFp, FD2_nil, ROp.readsId, idOf, reduceCtorEq, false_implies, implies_true, forall_const, true_and, and_true, List.not_mem_nil, List.mem_cons, or_false, false_or, Prod.mk.injEq, forall_eq, forall_eq_or_imp, forall_eq', Option.some.injEq, sn, Nat.reduceLeDiff, Nat.reduceMul, Nat.reduceSub, Nat.reduceMod, Nat.reduceDiv, Heap.cellsAt, sh, hst, hzl]
    rw [splice_all (by rw [hst, hzl])]
    apply hK
    clear hK K hS44 hS45 hv0
    refine FC_seq fun K hK => ?_
    refine FC_seq fun K2 hK2 => ?_
    simp only [symA, sy, AV.cells, AV.isTup, startF, Nat.reduceLT, Nat.reduceEqDiff, Nat.reduceAdd, strsE_length]
    apply hK2
    clear hK2 K2
    have hplen : parts.length < 2^36 := by
      have : parts.length * 1 ≤ parts.length * (10 + n) := Nat.mul_le_mul_left _ (by omega)
      omega
    refine FC_range (id := 0) (cmp := 18) (ix := 17) (ln := 16) (nx := 26) (fun i f H => f 15 = .lst tg 1 (strsE parts) ∧ f 4 = .ref 0 0 ∧ f 5 = .ref 1 0 ∧ 2 ≤ H.next ∧ H.get 0 = some (.cells (bytesC (List.replicate 16 0)) false) ∧
      ∃ cs, H.get 1 = some (.cells cs false) ∧ IsStream (pieces tag (parts.take i)) (.agg cs)) parts.length (by omega) (by decide) (by simp only [symB, ne_eq, Nat.reduceEqDiff, not_false_eq_true]) (by simp only [symB, ne_eq, Nat.reduceEqDiff, not_false_eq_true]) ?_ ?_ ?_ ?_
    · refine ⟨by simp only [symB, ne_eq, Nat.reduceEqDiff, not_false_eq_true], by simp only [symB, ne_eq, Nat.reduceEqDiff, not_false_eq_true], by simp only [symB, ne_eq, Nat.reduceEqDiff, not_false_eq_true, Heap.cellsAt, sh, Nat.reduceAdd], by simp only [Heap.cellsAt, sh, Nat.reduceAdd, Nat.reduceEqDiff]; omega, by simp only [Heap.cellsAt, sh, Nat.reduceAdd, Nat.reduceEqDiff]; exact g0, _, get_set_self _ _ _, ?_⟩
      rw [List.take_zero]
      exact hv1
    · rintro i f h d v (rfl | rfl | rfl) ⟨h1, h2, h3, h4⟩ <;> exact ⟨by simpa only [symB, ne_eq, Nat.reduceEqDiff, not_false_eq_true] using h1, by simpa only [symB, ne_eq, Nat.reduceEqDiff, not_false_eq_true] using h2, by simpa only [symB, ne_eq, Nat.reduceEqDiff, not_false_eq_true] using h3, h4⟩
    · rintro i f H hi q1 q2 ⟨h15, h4, h5, hnx, hg0, cs, hg1, hs⟩
      obtain ⟨p, hpd⟩ : ∃ p, parts.getD i [] = p := ⟨_, rfl⟩
      have hpn : p.length < n := by rw [← hpd, List.getD_eq_getElem?_getD, List.getElem?_eq_getElem hi]; exact hp _ (List.getElem_mem hi)
      have hpl : (pieces tag (parts.take i)).length ≤ 1 + i * (10 + n) := by
        have := pieces_len (tag := tag) (parts := parts.take i) (n := n) (fun p hx => hp p (List.mem_of_mem_take hx)) hn'
        rw [List.length_take, Nat.min_eq_left (by omega)] at this
        exact this
      have hpm : (i + 1) * (10 + n) ≤ parts.length * (10 + n) := Nat.mul_le_mul_right _ hi
      rw [Nat.add_mul] at hpm
      refine FC_block (FC_seq fun K3 hK3 => ?_)
      simp only [symA, sy, AV.cells, AV.isTup, startF, Nat.reduceLT, Nat.reduceEqDiff, Nat.reduceAdd, h15, q1, asNat_nat, strsE_length, hi, strsE_getD parts hi, hpd]
      apply hK3
      clear hK3 K3
      have hpt := pieces_take (tag := tag) hi
      rw [hpd] at hpt
      obtain ⟨blk, hcs, hb64, hbb, hbt⟩ := id hs
      have hst := strm_length (blks s0 (pieces tag (parts.take i)) ((pieces tag (parts.take i)).length / 64)) hb64 (pieces tag (parts.take i)).length
      have hcs' : cs.length = 73 := by cases hcs; exact hst
      have q3 := uvar_len10 (zig_lt (n := (p.length : Int)) (by omega) (by omega))
      have hbp : Bytes (uvar (zig (p.length : Int)) ++ natB p) := bytes_append (uvar_bytes _) (natB_bytes _)
      obtain ⟨v', hv', hS45⟩ := add_ok ((uvar (zig (p.length : Int)) ++ natB p).map UInt8.ofNat) hs (by simp only [List.length_map, List.length_append, natB_length]; omega) (H.alloc .tok)
      rw [natB_ofNat hbp, ← hpt] at hv'
      refine FC_draw0 (by decide) ?_
      simp only [symA, sy, AV.cells, AV.isTup, startF, Nat.reduceLT, Nat.reduceEqDiff, Nat.reduceAdd, symF, symFp, FD2_nil, ROp.readsId, idOf, reduceCtorEq, false_implies, implies_true, forall_const, true_and, and_true, List.not_mem_nil, List.mem_cons, or_false, false_or, Prod.mk.injEq, forall_eq, forall_eq_or_imp, forall_eq', Option.some.injEq, sn, Nat.reduceLeDiff, Nat.reduceMul, Nat.reduceSub, Nat.reduceMod, Nat.reduceDiv, h5, cellsAt_get hg1, hcs', List.drop_zero]
      rw [List.take_of_length_le (by omega)]
      refine FD2_call (by decide) (by simp only [sm, symB, Nat.reduceEqDiff, startF]) (bytes_ok p (by omega) H) (by simp) (fun x hx _ => by simp only [List.mem_singleton] at hx; subst hx; simp only [Heap.get_alloc]; rw [if_neg (by omega)]) ?_
      simp only [symA, sy, AV.cells, AV.isTup, startF, Nat.reduceLT, Nat.reduceEqDiff, Nat.reduceAdd, symF, symFp, FD2_nil, ROp.readsId, idOf, reduceCtorEq, false_implies, implies_true, forall_const, true_and, and_true, List.not_mem_nil, List.mem_cons, or_false, false_or, Prod.mk.injEq, forall_eq, forall_eq_or_imp, forall_eq', Option.some.injEq, sn, Nat.reduceLeDiff, Nat.reduceMul, Nat.reduceSub, Nat.reduceMod, Nat.reduceDiv, elemsOf, bytesOf_bytesE]
      refine FD2_call (by decide) (by simp only [sm, symB, Nat.reduceEqDiff, startF]) hS45 (Nat.le_refl _) (fun _ _ _ => rfl) ?_
      obtain ⟨blk2, hv2, hb264, hbb2, hbt2⟩ := id hv'
      have hst2 := strm_length (blks s0 (pieces tag (parts.take (i + 1))) ((pieces tag (parts.take (i + 1))).length / 64)) hb264 (pieces tag (parts.take (i + 1))).length
      subst hv2
      have hg1' : (H.alloc .tok).get 1 = some (.cells cs false) := by rw [Heap.get_alloc, if_neg (by omega)]; exact hg1
      simp only [symA, sy, AV.cells, AV.isTup, startF, Nat.reduceLT, Nat.reduceEqDiff, Nat.reduceAdd, symF, symFp, FD2_nil, ROp.readsId, idOf, reduceCtorEq, false_implies, implies_true, forall_const, true_and, and_true, List.not_mem_nil, List.mem_cons, or_false, false_or, Prod.mk.injEq, forall_eq, forall_eq_or_imp, forall_eq', Option.some.injEq, sn, Nat.reduceLeDiff, Nat.reduceMul, Nat.reduceSub, Nat.reduceMod, Nat.reduceDiv, h5, hg1', hst2, hcs', Heap.next_set, Heap.next_alloc]
      rw [splice_all (by rw [hst2, hcs'])]
      exact ⟨q1, q2, h15, h4, by omega, by rw [Heap.get_set, if_neg (by omega), Heap.get_alloc, if_neg (by omega)]; exact hg0, _, get_set_self _ _ _, hv'⟩
    · rintro f H q2 ⟨h15, h4, h5, hnx, hg0, cs, hg1, hs⟩
      rw [List.take_length] at hs
      obtain ⟨blk, hcs, hb64, hbb, hbt⟩ := id hs
      have hst := strm_length (blks s0 (pieces tag parts) ((pieces tag parts).length / 64)) hb64 (pieces tag parts).length
      have hcs' : cs.length = 73 := by cases hcs; exact hst
      have hpl := pieces_len (tag := tag) (parts := parts) (n := n) hp hn'
      simp only [symA, sy, AV.cells, AV.isTup, startF, Nat.reduceLT, Nat.reduceEqDiff, Nat.reduceAdd]
      apply hK
      clear hK K
      obtain ⟨d, hd⟩ : ∃ d, sha (pieces tag parts) = d := ⟨_, rfl⟩
      have hS47 := sum_ok hs (by omega) H
      rw [hd] at hS47
      have hdl : d.length = 32 := by rw [← hd, sha_length]
      refine FC_seq fun K hK => ?_
      simp only [symA, sy, AV.cells, AV.isTup, startF, Nat.reduceLT, Nat.reduceEqDiff, Nat.reduceAdd, sn, Nat.reduceLeDiff, Nat.reduceMul, Nat.reduceSub, Nat.reduceMod, Nat.reduceDiv, h5, cellsAt_get hg1, hcs', List.drop_zero]
      rw [List.take_of_length_le (by omega)]
      refine FOps_call (by decide) (by simp only [sm, symB, Nat.reduceEqDiff, startF]) (hS47) ?_
      simp only [symA, sy, AV.cells, AV.isTup, startF, Nat.reduceLT, Nat.reduceEqDiff, Nat.reduceAdd, sn, Nat.reduceLeDiff, Nat.reduceMul, Nat.reduceSub, Nat.reduceMod, Nat.reduceDiv, Heap.cellsAt, sh, bytesC_length, hdl, List.length_replicate]
      rw [splice_all (by rw [bytesC_length, hdl]; simp)]
      apply hK
      clear hK K
      have hg0' : ((H.alloc (.cells (List.replicate 32 (.int .u8 0)) false)).set H.next (.cells (bytesC d) false)).get 0 = some (.cells (bytesC (List.replicate 16 0)) false) := by
        rw [Heap.get_set, if_neg (by omega), Heap.get_alloc, if_neg (by omega)]; exact hg0
      have hgn := get_set_self (H.alloc (.cells (List.replicate 32 (.int .u8 0)) false)) H.next (.cells (bytesC d) false)
      have ht16 : ((bytesC d).take 16) = bytesC (d.take 16) := by simp [bytesC]
      have hl16 : (d.take 16).length = 16 := by simp; omega
      refine FC_seq fun K hK => ?_
      simp only [symA, sy, AV.cells, AV.isTup, startF, Nat.reduceLT, Nat.reduceEqDiff, Nat.reduceAdd, sn, Nat.reduceLeDiff, Nat.reduceMul, Nat.reduceSub, Nat.reduceMod, Nat.reduceDiv, optNat, show asNat (.int .i64 16) = some 16 from rfl, sliceArrA, Option.getD_none, Option.getD_some, Nat.zero_le, Option.isSome_none, false_implies, cellsAt_get hgn, bytesC_length, hdl, List.drop_zero, ht16, hl16, h4, hg0', List.length_replicate, show ¬ ((32 : Nat) = 0) by decide]
      rw [splice_all (by rw [bytesC_length, hl16, bytesC_length]; simp)]
      apply hK
      simp only [symA, sy, AV.cells, AV.isTup, startF, Nat.reduceLT, Nat.reduceEqDiff, Nat.reduceAdd]
      refine ⟨rfl, [.agg (bytesC (ofD tag parts))], ?_, rfl⟩
      simp only [resFs, resF, symA, sy, AV.cells, AV.isTup, startF, Nat.reduceLT, Nat.reduceEqDiff, Nat.reduceAdd, sn, Nat.reduceLeDiff, Nat.reduceMul, Nat.reduceSub, Nat.reduceMod, Nat.reduceDiv, h4, cellsAt_set, bytesC_length, hl16, List.drop_zero]
      rw [List.take_of_length_le (by rw [bytesC_length, hl16]; omega), ofD, hd])
  rw [hout] at hS
  have := hS.frame gfree (by simp [freeL, AV.free, freeLL_strsE, Nat.blt_eq, htg]) (tk := none) (fun k' hk' => by cases hk') (n := 0) H (v' := .agg (bytesC (ofD tag parts))) (by simp [Out.av, shutF, shut1, AV.free, freeL_bytesC])
  exact this
end Go.Proofs.YtfdaiidepcbemaaDoor
end
