/-
  CONTRACTS: an entry as bytes (printed by wip/tools/mklogb.py: each proof twice, for a nil slice of moving things and for a list).
  CONTRACTS: an entry as bytes, by the reference (printed by wip/tools/mklogc.py).
-/
import Derived.Test.YtfdaiidepcbemaaDoorA35
set_option linter.unusedVariables false
set_option linter.unusedSimpArgs false
section
namespace Go.Proofs.YtfdaiidepcbemaaDoor
open Go Go.Av Go.Av.Pr
set_option maxRecDepth 100000
attribute [local congr] FD2_congr stepK_congr condK_congr guardK_congr FC_congr FOps_congr thenF_congr inBlockF_congr
attribute [local irreducible] FC FOps FD2
structure Ent where
  num : Int
  kind : Int
  op : Int
  time : Int
  halves : Int
  moved : List (List Int)
  certs : List Nat
  cause : Int
  prev : List Nat
def Ent.nums (e : Ent) : List Int := [e.num, e.kind, e.op, e.time, e.halves, e.cause, (e.moved.length : Int)]
structure Ent.Ok (e : Ent) : Prop where
  nums : ∀ x ∈ e.nums, I64 x
  moved : ∀ m ∈ e.moved, m.length = 14 ∧ ∀ x ∈ m, I64 x
  few : e.moved.length < 2 ^ 20
  certs : e.certs.length = 16
  prev : e.prev.length = 16
  cb : Bytes e.certs
  pb : Bytes e.prev
def mvE (l : List (List Int)) : List (List AV) := l.map intsC
theorem mvE_length (l : List (List Int)) : (mvE l).length = l.length := by simp [mvE]
theorem mvE_getD (l : List (List Int)) {i : Nat} (h : i < l.length) : (mvE l).getD i [] = intsC (l.getD i []) := by
  simp [mvE, List.getElem?_eq_getElem h]
theorem freeLL_mvE : ∀ l, freeLL (mvE l) = true
  | [] => rfl
  | x :: l => by
    simp only [mvE, List.map_cons, freeLL, freeL_intsC, Bool.true_and]
    exact freeLL_mvE l
def entC (mv : AV) (e : Ent) : List AV := .int .i64 e.num :: .int .i64 e.kind :: .int .i64 e.op :: .int .i64 e.time :: .int .i64 e.halves :: mv :: (bytesC e.certs ++ (.int .i64 e.cause :: bytesC e.prev))
theorem entC_length (mv : AV) {e : Ent} (h : e.Ok) : (entC mv e).length = 39 := by
  simp [entC, bytesC_length, h.certs, h.prev]
theorem entC_cause (mv : AV) {e : Ent} (h : e.Ok) : (entC mv e).getD 22 undefA = .int .i64 e.cause := by
  simp only [entC, getD_eq]
  rw [show 22 = 16 + 6 from rfl]
  simp only [List.getElem?_cons_succ]
  rw [List.getElem?_append_right (by rw [bytesC_length, h.certs]; omega), bytesC_length, h.certs]
  rfl
theorem entC_certs (mv : AV) {e : Ent} (h : e.Ok) : ((entC mv e).drop 6).take 16 = bytesC e.certs := by
  simp only [entC, List.drop_succ_cons, List.drop_zero]
  rw [List.take_left' (by rw [bytesC_length, h.certs])]
theorem entC_prev (mv : AV) {e : Ent} (h : e.Ok) : ((entC mv e).drop 23).take 16 = bytesC e.prev := by
  rw [show 23 = 6 + 17 from rfl, ← List.drop_drop]
  simp only [entC, List.drop_succ_cons, List.drop_zero]
  rw [show 17 = (bytesC e.certs).length + 1 by rw [bytesC_length, h.certs], ← List.drop_drop, List.drop_left' rfl, List.drop_succ_cons, List.drop_zero, List.take_of_length_le (by rw [bytesC_length, h.prev]; omega)]
def encE (e : Ent) : List Nat := encInts e.nums ++ (e.moved.flatMap encInts ++ encDigs [e.certs, e.prev])
theorem encInts_len {l : List Int} (hr : ∀ x ∈ l, I64 x) (hl : l.length < 2 ^ 30) : (encInts l).length ≤ 10 + 10 * l.length := by
  have q1 := uvar_len10 (zig_lt (n := (l.length : Int)) (by omega) (by omega))
  have q2 := flat_len hr
  simp only [encInts, List.length_append]
  omega
theorem moved_len {l : List (List Int)} (h : ∀ m ∈ l, m.length = 14 ∧ ∀ x ∈ m, I64 x) : (l.flatMap encInts).length ≤ 150 * l.length := by
  induction l with
  | nil => simp
  | cons m l ih =>
    have h1 := encInts_len (h m (by simp)).2 (by rw [(h m (by simp)).1]; omega)
    rw [(h m (by simp)).1] at h1
    have h2 := ih fun x hx => h x (by simp [hx])
    simp only [List.flatMap_cons, List.length_append, List.length_cons]
    omega
theorem flatMap_take {l : List (List Int)} {i : Nat} (h : i < l.length) : (l.take (i + 1)).flatMap encInts = (l.take i).flatMap encInts ++ encInts (l.getD i []) := by
  rw [List.take_add_one, List.flatMap_append]
  simp [List.getElem?_eq_getElem h]
theorem encE_ne (e : Ent) : encE e ≠ [] := fun h => encInts_ne _ (List.append_eq_nil_iff.1 h).1
theorem digs2_len {a b : List Nat} (ha : a.length = 16) (hb : b.length = 16) : (encDigs [a, b]).length ≤ 42 := by
  have q1 := uvar_len10 (zig_lt (n := (2 : Int)) (by omega) (by omega))
  simp only [encDigs, List.length_cons, List.length_nil, List.length_append, List.flatten_cons, List.flatten_nil, ha, hb]
  have : ((0 + 1 + 1 : Nat) : Int) = 2 := rfl
  rw [this]
  omega
theorem enc_body_lst {e : Ent} (h : e.Ok) : FC Tryd.prog gv 59 F6.body (startF [.agg (entC (.lst 0 14 (mvE e.moved)) e)]) [] ⟨0, .nil⟩ (retF [.tmp 2] fun o H => ∃ v, o = .ret v ∧ Own H 1 v (bytesE (encE e))) := by
  have hl := entC_length (.lst 0 14 (mvE e.moved)) h
  have hc := entC_cause (.lst 0 14 (mvE e.moved)) h
  have hce := entC_certs (.lst 0 14 (mvE e.moved)) h
  have hpr := entC_prev (.lst 0 14 (mvE e.moved)) h
  obtain ⟨cs, hcs⟩ : ∃ cs, entC (.lst 0 14 (mvE e.moved)) e = cs := ⟨_, rfl⟩
  have c0 : cs.getD 0 undefA = .int .i64 e.num := by rw [← hcs]; rfl
  have c1 : cs.getD 1 undefA = .int .i64 e.kind := by rw [← hcs]; rfl
  have c2 : cs.getD 2 undefA = .int .i64 e.op := by rw [← hcs]; rfl
  have c3 : cs.getD 3 undefA = .int .i64 e.time := by rw [← hcs]; rfl
  have c4 : cs.getD 4 undefA = .int .i64 e.halves := by rw [← hcs]; rfl
  have c5 : cs.getD 5 undefA = (.lst 0 14 (mvE e.moved)) := by rw [← hcs]; rfl
  rw [hcs] at hl hc hce hpr ⊢
  unfold F6 om oo
  refine FC_seq fun K hK => ?_
  simp only [symA, sy, AV.cells, AV.isTup, startF, Nat.reduceLT, Nat.reduceEqDiff, Nat.reduceAdd, fop, Heap.cellsAt, sh]
  apply hK
  clear hK K
  have hnl : e.nums.length = 7 := rfl
  have hne : [[AV.int .i64 e.num], [.int .i64 e.kind], [.int .i64 e.op], [.int .i64 e.time], [.int .i64 e.halves], [.int .i64 e.cause], [.int .i64 (e.moved.length : Int)]] = intsE e.nums := rfl
  refine FC_seq fun K hK => ?_
  simp only [symA, sy, AV.cells, AV.isTup, startF, Nat.reduceLT, Nat.reduceEqDiff, Nat.reduceAdd, sn, Nat.reduceLeDiff, Nat.reduceMul, Nat.reduceSub, Nat.reduceMod, Nat.reduceDiv, Heap.cellsAt, sh, hl, c0, c1, c2, c3, c4, c5, hc, litA, mvE_length]
  rw [hne]
  refine FOps_call (by decide) (by simp only [sm, symB, Nat.reduceEqDiff, startF]) (ints_ok (l := e.nums) (tag := 1) (by omega) h.nums (by rw [hnl]; omega) _) ?_
  simp only [symA, sy, AV.cells, AV.isTup, startF, Nat.reduceLT, Nat.reduceEqDiff, Nat.reduceAdd, Heap.cellsAt, sh]
  apply hK
  clear hK K
  have hfew := h.few
  have hq0 := encInts_len h.nums (by rw [hnl]; omega)
  rw [hnl] at hq0
  refine FC_seq fun K hK => ?_
  refine FC_seq fun K2 hK2 => ?_
  simp only [symA, sy, AV.cells, AV.isTup, startF, Nat.reduceLT, Nat.reduceEqDiff, Nat.reduceAdd, sn, Nat.reduceLeDiff, Nat.reduceMul, Nat.reduceSub, Nat.reduceMod, Nat.reduceDiv, Heap.cellsAt, sh, hl, c5, mvE_length]
  apply hK2
  clear hK2 K2
  refine FC_range (id := 0) (cmp := 28) (ix := 27) (ln := 26) (nx := 50) (fun i f H => f 25 = (.lst 0 14 (mvE e.moved)) ∧ f 1 = .ref 0 0 ∧ 1 ≤ H.next ∧ H.get 0 = some (.cells cs false) ∧ Own H 1 (f 3) (bytesE (encInts e.nums ++ (e.moved.take i).flatMap encInts)))
    e.moved.length (by omega) (by decide) (by simp only [symB, ne_eq, Nat.reduceEqDiff, not_false_eq_true]) (by simp only [symB, ne_eq, Nat.reduceEqDiff, not_false_eq_true]) ?_ ?_ ?_ ?_
  · refine ⟨by simp only [symB, ne_eq, Nat.reduceEqDiff, not_false_eq_true], by simp only [symB, ne_eq, Nat.reduceEqDiff, not_false_eq_true], by simp only [Heap.cellsAt, sh, Nat.reduceAdd, Nat.reduceEqDiff]; omega, by simp only [Heap.cellsAt, sh, Nat.reduceAdd, Nat.reduceEqDiff], ?_⟩
    rw [List.take_zero, List.flatMap_nil, List.append_nil]
    simp only [symB, ne_eq, Nat.reduceEqDiff, not_false_eq_true]
    exact Own.fresh _ _ _
  · rintro i f h d v (rfl | rfl | rfl) ⟨h1, h2, h3, h4, h5⟩ <;> exact ⟨by simpa only [symB, ne_eq, Nat.reduceEqDiff, not_false_eq_true] using h1, by simpa only [symB, ne_eq, Nat.reduceEqDiff, not_false_eq_true] using h2, h3, h4, by simpa only [symB, ne_eq, Nat.reduceEqDiff, not_false_eq_true] using h5⟩
  · rintro i f H hi e1 e2 ⟨h25, h1, hn, hg0, hown⟩
    obtain ⟨m, hm⟩ : ∃ m, e.moved.getD i [] = m := ⟨_, rfl⟩
    have hmem : m ∈ e.moved := by rw [← hm, List.getD_eq_getElem?_getD, List.getElem?_eq_getElem hi]; exact List.getElem_mem hi
    obtain ⟨hm14, hmi⟩ := h.moved m hmem
    have hml : (intsC m).length = 14 := by rw [intsC_length, hm14]
    obtain ⟨t, x0, x1, x2, q0, q1, q2, q3, v0, v1, v2, w0, w1, w2, rfl⟩ : ∃ t x0 x1 x2 q0 q1 q2 q3 v0 v1 v2 w0 w1 w2, m = [t, x0, x1, x2, q0, q1, q2, q3, v0, v1, v2, w0, w1, w2] := by
      match m, hm14 with
      | [t, x0, x1, x2, q0, q1, q2, q3, v0, v1, v2, w0, w1, w2], _ => exact ⟨_, _, _, _, _, _, _, _, _, _, _, _, _, _, rfl⟩
    obtain ⟨nw, hnw⟩ : ∃ nw, H.next = nw := ⟨_, rfl⟩
    have hgn : ∀ o : AObj, (H.alloc o).get nw = some o := fun o => by rw [← hnw]; exact get_alloc_self _ _
    refine FC_block (FC_seq fun K2 hK2 => ?_)
    simp only [symA, sy, AV.cells, AV.isTup, startF, Nat.reduceLT, Nat.reduceEqDiff, Nat.reduceAdd, h25, e1, asNat_nat, mvE_length, hi, mvE_getD _ hi, hm, hml]
    rw [List.take_of_length_le (by rw [hml]; omega)]
    simp only [symA, sy, AV.cells, AV.isTup, startF, Nat.reduceLT, Nat.reduceEqDiff, Nat.reduceAdd, sn, Nat.reduceLeDiff, Nat.reduceMul, Nat.reduceSub, Nat.reduceMod, Nat.reduceDiv, hml, hgn, hnw]
    rw [splice_all (by rw [hml]; rfl)]
    apply hK2
    clear hK2 K2
    obtain ⟨A, hA⟩ : ∃ A, (H.alloc (.cells [.int .i64 0, .int .i64 0, .int .i64 0, .int .i64 0, .int .i64 0, .int .i64 0, .int .i64 0, .int .i64 0, .int .i64 0, .int .i64 0, .int .i64 0, .int .i64 0, .int .i64 0, .int .i64 0] false)).set nw (.cells (intsC [t, x0, x1, x2, q0, q1, q2, q3, v0, v1, v2, w0, w1, w2]) false) = A := ⟨_, rfl⟩
    rw [hA]
    have hAn : A.next = nw + 1 := by rw [← hA, Heap.next_set, Heap.next_alloc, hnw]
    have hAg : A.get nw = some (.cells (intsC [t, x0, x1, x2, q0, q1, q2, q3, v0, v1, v2, w0, w1, w2]) false) := by rw [← hA]; exact get_set_self _ _ _
    have hA0 : A.get 0 = some (.cells cs false) := by rw [← hA, Heap.get_set, if_neg (by omega), Heap.get_alloc, if_neg (by omega)]; exact hg0
    have hAo : Own A 1 (f 3) (bytesE (encInts e.nums ++ (e.moved.take i).flatMap encInts)) := by
      rw [← hA]
      refine (hown.alloc _).set _ _ fun ht => ?_
      have := hown.tok_lt ht
      omega
    refine FC_seq fun K2 hK2 => ?_
    refine FC_draw0 (by decide) ?_
    simp only [symA, sy, AV.cells, AV.isTup, startF, Nat.reduceLT, Nat.reduceEqDiff, Nat.reduceAdd, symF, symFp, FD2_nil, ROp.readsId, idOf, reduceCtorEq, false_implies, implies_true, forall_const, true_and, and_true, List.not_mem_nil, List.mem_cons, or_false, false_or, Prod.mk.injEq, forall_eq, forall_eq_or_imp, forall_eq', Option.some.injEq, sn, Nat.reduceLeDiff, Nat.reduceMul, Nat.reduceSub, Nat.reduceMod, Nat.reduceDiv, sl, splice, intsC, cellsAt_get hAg, optNat, sliceArrA, Option.getD_none, Nat.zero_le, Option.isSome_none, litA, show ¬ ((3 : Nat) = 0) by decide, show ¬ ((4 : Nat) = 0) by decide]
    have hv : snapL A (([.lst 1 1 [[.int .i64 t]], .sl nw 1 1 3 3, .sl nw 1 4 4 4, .sl nw 1 8 3 3, .sl nw 1 11 3 3] : List AV).map fun v => [v]) = some (partsE [[t], [x0, x1, x2], [q0, q1, q2, q3], [v0, v1, v2], [w0, w1, w2]]) := by
      simp only [snapL, mapO, snap1, shut1, cellsAt_get hAg, intsC, sl, splice, List.length_cons, List.length_nil, Nat.reduceAdd, Nat.reduceMul, freeL, freeLL, AV.free, Bool.and_self, show Nat.ble (1 + 3) 14 = true from rfl, show Nat.ble (4 + 4) 14 = true from rfl, show Nat.ble (8 + 3) 14 = true from rfl, show Nat.ble (11 + 3) 14 = true from rfl, show ∀ k, Nat.ble k 14 = Nat.ble k 14 from fun _ => rfl, chunkF, tagA]
      rfl
    have hS21 := concat_ok (vs := [.lst 1 1 [[.int .i64 t]], .sl nw 1 1 3 3, .sl nw 1 4 4 4, .sl nw 1 8 3 3, .sl nw 1 11 3 3]) (H := A) [[t], [x0, x1, x2], [q0, q1, q2, q3], [v0, v1, v2], [w0, w1, w2]] (by simp) 14 rfl (by omega) (by omega) (by simp) (tag := 1) hv
    refine FD2_call (by decide) (by simp only [sm, symB, Nat.reduceEqDiff, startF]) hS21 (Nat.le_refl _) (fun x _ hx => by simp at hx) ?_
    simp only [symA, sy, AV.cells, AV.isTup, startF, Nat.reduceLT, Nat.reduceEqDiff, Nat.reduceAdd, symF, symFp, FD2_nil, ROp.readsId, idOf, reduceCtorEq, false_implies, implies_true, forall_const, true_and, and_true, List.not_mem_nil, List.mem_cons, or_false, false_or, Prod.mk.injEq, forall_eq, forall_eq_or_imp, forall_eq', Option.some.injEq, sn, Nat.reduceLeDiff, Nat.reduceMul, Nat.reduceSub, Nat.reduceMod, Nat.reduceDiv, sl, splice]
    apply hK2
    clear hK2 K2 hS21 hv
    have hfl : [[t], [x0, x1, x2], [q0, q1, q2, q3], [v0, v1, v2], [w0, w1, w2]].flatten = [t, x0, x1, x2, q0, q1, q2, q3, v0, v1, v2, w0, w1, w2] := rfl
    obtain ⟨m, hmm⟩ : ∃ m, [t, x0, x1, x2, q0, q1, q2, q3, v0, v1, v2, w0, w1, w2] = m := ⟨_, rfl⟩
    rw [hmm] at hm hmem hmi hm14 hfl
    have hqm := encInts_len hmi (by rw [hm14]; omega)
    have hqt := moved_len (l := e.moved.take i) fun m hx => h.moved m (List.mem_of_mem_take hx)
    rw [List.length_take] at hqt
    simp only [symA, sy, AV.cells, AV.isTup, startF, Nat.reduceLT, Nat.reduceEqDiff, Nat.reduceAdd, hfl]
    refine FOps_call (by decide) (by simp only [sm, symB, Nat.reduceEqDiff, startF]) (ints_ok (l := m) (tag := 0) (by omega) hmi (by rw [hm14]; omega) A) ?_
    obtain ⟨v', H', a1, a2, a3⟩ := (hAo.alloc .tok).append (bytes := 1) (ys := bytesE (encInts m)) (by simp only [bytesE_length, List.length_append]; omega)
    have e0 := a3.get 0 (fun ht => by have := own_tok_get hAo ht; rw [hA0] at this; cases this) (by rw [Heap.next_alloc, hAn]; omega)
    rw [Heap.get_alloc, if_neg (by omega), hA0] at e0
    have hnx := a3.next
    rw [Heap.next_alloc, hAn] at hnx
    simp only [symA, sy, AV.cells, AV.isTup, startF, Nat.reduceLT, Nat.reduceEqDiff, Nat.reduceAdd, elemsOf, a1]
    refine ⟨trivial, e1, e2, h25, h1, by omega, e0, ?_⟩
    rw [flatMap_take hi, hm, ← List.append_assoc, bytesE_append]
    exact a2
  · rintro f H e2 ⟨h25, h1, hn, hg0, hown⟩
    rw [List.take_length] at hown
    have hqt := moved_len h.moved
    have hq2 := digs2_len h.certs h.prev
    simp only [symA, sy, AV.cells, AV.isTup, startF, Nat.reduceLT, Nat.reduceEqDiff, Nat.reduceAdd]
    apply hK
    clear hK K
    have hdl : [bytesC e.certs, bytesC e.prev] = digsE [e.certs, e.prev] := rfl
    refine FC_seq fun K hK => ?_
    simp only [symA, sy, AV.cells, AV.isTup, startF, Nat.reduceLT, Nat.reduceEqDiff, Nat.reduceAdd, sn, Nat.reduceLeDiff, Nat.reduceMul, Nat.reduceSub, Nat.reduceMod, Nat.reduceDiv, h1, cellsAt_get hg0, hl, hce, hpr, litA, bytesC_length, h.certs, h.prev, hdl]
    refine FOps_call (by decide) (by simp only [sm, symB, Nat.reduceEqDiff, startF]) (digests_ok (l := [e.certs, e.prev]) (tag := 1) (by omega) (by simp [h.certs, h.prev]) (by simp) H) ?_
    obtain ⟨v', H', a1, a2, a3⟩ := (hown.alloc .tok).append (bytes := 1) (ys := bytesE (encDigs [e.certs, e.prev])) (by simp only [bytesE_length, List.length_append]; omega)
    simp only [symA, sy, AV.cells, AV.isTup, startF, Nat.reduceLT, Nat.reduceEqDiff, Nat.reduceAdd, elemsOf, a1]
    apply hK
    simp only [symA, sy, AV.cells, AV.isTup, startF, Nat.reduceLT, Nat.reduceEqDiff, Nat.reduceAdd]
    refine ⟨rfl, [v'], by simp only [resFs, resF, symB, ne_eq, Nat.reduceEqDiff, not_false_eq_true], v', rfl, ?_⟩
    rw [encE, ← List.append_assoc, bytesE_append]
    exact a2
theorem enc_body_nil {e : Ent} (h : e.Ok) (hm : e.moved = []) : FC Tryd.prog gv 59 F6.body (startF [.agg (entC .nilsl e)]) [] ⟨0, .nil⟩ (retF [.tmp 2] fun o H => ∃ v, o = .ret v ∧ Own H 1 v (bytesE (encE e))) := by
  have hl := entC_length .nilsl h
  have hc := entC_cause .nilsl h
  have hce := entC_certs .nilsl h
  have hpr := entC_prev .nilsl h
  obtain ⟨cs, hcs⟩ : ∃ cs, entC .nilsl e = cs := ⟨_, rfl⟩
  have c0 : cs.getD 0 undefA = .int .i64 e.num := by rw [← hcs]; rfl
  have c1 : cs.getD 1 undefA = .int .i64 e.kind := by rw [← hcs]; rfl
  have c2 : cs.getD 2 undefA = .int .i64 e.op := by rw [← hcs]; rfl
  have c3 : cs.getD 3 undefA = .int .i64 e.time := by rw [← hcs]; rfl
  have c4 : cs.getD 4 undefA = .int .i64 e.halves := by rw [← hcs]; rfl
  have c5 : cs.getD 5 undefA = .nilsl := by rw [← hcs]; rfl
  rw [hcs] at hl hc hce hpr ⊢
  unfold F6 om oo
  refine FC_seq fun K hK => ?_
  simp only [symA, sy, AV.cells, AV.isTup, startF, Nat.reduceLT, Nat.reduceEqDiff, Nat.reduceAdd, fop, Heap.cellsAt, sh]
  apply hK
  clear hK K
  have hnl : e.nums.length = 7 := rfl
  have hne : [[AV.int .i64 e.num], [.int .i64 e.kind], [.int .i64 e.op], [.int .i64 e.time], [.int .i64 e.halves], [.int .i64 e.cause], [.int .i64 (e.moved.length : Int)]] = intsE e.nums := rfl
  have hm0 : (e.moved.length : Int) = 0 := by rw [hm]; rfl
  rw [hm0] at hne
  refine FC_seq fun K hK => ?_
  simp only [symA, sy, AV.cells, AV.isTup, startF, Nat.reduceLT, Nat.reduceEqDiff, Nat.reduceAdd, sn, Nat.reduceLeDiff, Nat.reduceMul, Nat.reduceSub, Nat.reduceMod, Nat.reduceDiv, Heap.cellsAt, sh, hl, c0, c1, c2, c3, c4, c5, hc, litA]
  rw [hne]
  refine FOps_call (by decide) (by simp only [sm, symB, Nat.reduceEqDiff, startF]) (ints_ok (l := e.nums) (tag := 1) (by omega) h.nums (by rw [hnl]; omega) _) ?_
  simp only [symA, sy, AV.cells, AV.isTup, startF, Nat.reduceLT, Nat.reduceEqDiff, Nat.reduceAdd, Heap.cellsAt, sh]
  apply hK
  clear hK K
  have hfew := h.few
  have hq0 := encInts_len h.nums (by rw [hnl]; omega)
  rw [hnl] at hq0
  refine FC_seq fun K hK => ?_
  refine FC_seq fun K2 hK2 => ?_
  simp only [symA, sy, AV.cells, AV.isTup, startF, Nat.reduceLT, Nat.reduceEqDiff, Nat.reduceAdd, sn, Nat.reduceLeDiff, Nat.reduceMul, Nat.reduceSub, Nat.reduceMod, Nat.reduceDiv, Heap.cellsAt, sh, hl, c5]
  apply hK2
  clear hK2 K2
  refine FC_range (id := 0) (cmp := 28) (ix := 27) (ln := 26) (nx := 50) (fun i f H => f 25 = .nilsl ∧ f 1 = .ref 0 0 ∧ 1 ≤ H.next ∧ H.get 0 = some (.cells cs false) ∧ Own H 1 (f 3) (bytesE (encInts e.nums ++ (e.moved.take i).flatMap encInts)))
    e.moved.length (by omega) (by decide) (by simp only [symB, ne_eq, Nat.reduceEqDiff, not_false_eq_true]) (by simp only [symB, ne_eq, Nat.reduceEqDiff, not_false_eq_true, hm0]) ?_ ?_ ?_ ?_
  · refine ⟨by simp only [symB, ne_eq, Nat.reduceEqDiff, not_false_eq_true], by simp only [symB, ne_eq, Nat.reduceEqDiff, not_false_eq_true], by simp only [Heap.cellsAt, sh, Nat.reduceAdd, Nat.reduceEqDiff]; omega, by simp only [Heap.cellsAt, sh, Nat.reduceAdd, Nat.reduceEqDiff], ?_⟩
    rw [List.take_zero, List.flatMap_nil, List.append_nil]
    simp only [symB, ne_eq, Nat.reduceEqDiff, not_false_eq_true]
    exact Own.fresh _ _ _
  · rintro i f h d v (rfl | rfl | rfl) ⟨h1, h2, h3, h4, h5⟩ <;> exact ⟨by simpa only [symB, ne_eq, Nat.reduceEqDiff, not_false_eq_true] using h1, by simpa only [symB, ne_eq, Nat.reduceEqDiff, not_false_eq_true] using h2, h3, h4, by simpa only [symB, ne_eq, Nat.reduceEqDiff, not_false_eq_true] using h5⟩
  · rintro i f H hi
    rw [hm] at hi
    exact absurd hi (by simp)
  · rintro f H e2 ⟨h25, h1, hn, hg0, hown⟩
    rw [List.take_length] at hown
    have hqt := moved_len h.moved
    have hq2 := digs2_len h.certs h.prev
    simp only [symA, sy, AV.cells, AV.isTup, startF, Nat.reduceLT, Nat.reduceEqDiff, Nat.reduceAdd]
    apply hK
    clear hK K
    have hdl : [bytesC e.certs, bytesC e.prev] = digsE [e.certs, e.prev] := rfl
    refine FC_seq fun K hK => ?_
    simp only [symA, sy, AV.cells, AV.isTup, startF, Nat.reduceLT, Nat.reduceEqDiff, Nat.reduceAdd, sn, Nat.reduceLeDiff, Nat.reduceMul, Nat.reduceSub, Nat.reduceMod, Nat.reduceDiv, h1, cellsAt_get hg0, hl, hce, hpr, litA, bytesC_length, h.certs, h.prev, hdl]
    refine FOps_call (by decide) (by simp only [sm, symB, Nat.reduceEqDiff, startF]) (digests_ok (l := [e.certs, e.prev]) (tag := 1) (by omega) (by simp [h.certs, h.prev]) (by simp) H) ?_
    obtain ⟨v', H', a1, a2, a3⟩ := (hown.alloc .tok).append (bytes := 1) (ys := bytesE (encDigs [e.certs, e.prev])) (by simp only [bytesE_length, List.length_append]; omega)
    simp only [symA, sy, AV.cells, AV.isTup, startF, Nat.reduceLT, Nat.reduceEqDiff, Nat.reduceAdd, elemsOf, a1]
    apply hK
    simp only [symA, sy, AV.cells, AV.isTup, startF, Nat.reduceLT, Nat.reduceEqDiff, Nat.reduceAdd]
    refine ⟨rfl, [v'], by simp only [resFs, resF, symB, ne_eq, Nat.reduceEqDiff, not_false_eq_true], v', rfl, ?_⟩
    rw [encE, ← List.append_assoc, bytesE_append]
    exact a2
/-- a slice of moving things: nil, or a list -/
def IsMv (mv : AV) (l : List (List Int)) : Prop := (mv = .nilsl ∧ l = []) ∨ mv = .lst 0 14 (mvE l)
theorem freeL_entC {mv : AV} {e : Ent} (hm : IsMv mv e.moved) : freeL (entC mv e) = true := by
  have : mv.free = true := by
    rcases hm with ⟨rfl, _⟩ | rfl
    · rfl
    · simp [AV.free, freeLL_mvE]
  simp only [entC, freeL, AV.free, Bool.true_and, this, freeL_append, freeL_bytesC, Bool.and_self]
/-- log.Encode -/
theorem enc_ok {mv : AV} {e : Ent} (h : e.Ok) (hm : IsMv mv e.moved) (H : Heap) : Sound Tryd.prog gv 6 [.agg (entC mv e)] H (.ret (.lst (H.next + 2) 1 (bytesE (encE e)))) (H.alloc .tok) := by
  refine Sound_own gfree (by simp [freeL, AV.free, freeL_entC hm]) (bytesE_ne (encE_ne _)) (freeLL_bytesE _) (Sound_of_FC mixed is6 (by unfold F6 om oo; simp) ?_) H
  rcases hm with ⟨rfl, hm⟩ | rfl
  · exact enc_body_nil h hm
  · exact enc_body_lst h
end Go.Proofs.YtfdaiidepcbemaaDoor
end
section
namespace Go.Proofs.YtfdaiidepcbemaaDoor
open Go Go.Av Go.Av.Pr
set_option maxRecDepth 100000
attribute [local congr] FD2_congr stepK_congr condK_congr guardK_congr FC_congr FOps_congr thenF_congr inBlockF_congr
attribute [local irreducible] FC FOps FD2
theorem intsE_ne {l : List Int} (h : l ≠ []) : intsE l ≠ [] := by simpa [intsE] using h
/-- ref46.numbers -/
theorem numbers_ok {m : List Int} (h : m.length = 14) (H : Heap) : Sound Tryd.prog gv 24 [.agg (intsC m)] H (.ret (.lst (H.next + 2) 1 (intsE m))) (H.alloc .tok) := by
  have hne : m ≠ [] := by intro hh; rw [hh] at h; cases h
  obtain ⟨t, x0, x1, x2, q0, q1, q2, q3, v0, v1, v2, w0, w1, w2, rfl⟩ : ∃ t x0 x1 x2 q0 q1 q2 q3 v0 v1 v2 w0 w1 w2, m = [t, x0, x1, x2, q0, q1, q2, q3, v0, v1, v2, w0, w1, w2] := by
    match m, h with
    | [t, x0, x1, x2, q0, q1, q2, q3, v0, v1, v2, w0, w1, w2], _ => exact ⟨_, _, _, _, _, _, _, _, _, _, _, _, _, _, rfl⟩
  refine Sound_own gfree (by simp [freeL, AV.free, freeL_intsC]) (intsE_ne hne) (freeLL_intsE _) (Sound_of_FC mixed is24 (by unfold F24 om oo; simp) ?_) H
  show FC Tryd.prog gv 25 F24.body _ _ _ (retF [.tmp 2] _)
  unfold F24 om oo
  obtain ⟨cs, hcs⟩ : ∃ cs, intsC [t, x0, x1, x2, q0, q1, q2, q3, v0, v1, v2, w0, w1, w2] = cs := ⟨_, rfl⟩
  rw [hcs]
  have hl : cs.length = 14 := by rw [← hcs]; rfl
  have k3 : chunkF 1 3 (cs.drop 1) = intsE [x0, x1, x2] := by rw [← hcs]; rfl
  have k4 : chunkF 1 4 (cs.drop 4) = intsE [q0, q1, q2, q3] := by rw [← hcs]; rfl
  have k8 : chunkF 1 3 (cs.drop 8) = intsE [v0, v1, v2] := by rw [← hcs]; rfl
  have k11 : chunkF 1 3 (cs.drop 11) = intsE [w0, w1, w2] := by rw [← hcs]; rfl
  have c0 : cs.getD 0 undefA = .int .i64 t := by rw [← hcs]; rfl
  refine FC_seq fun K hK => ?_
  simp only [symA, sy, AV.cells, AV.isTup, startF, Nat.reduceLT, Nat.reduceEqDiff, Nat.reduceAdd, fop, Heap.cellsAt, sh]
  apply hK
  clear hK K
  refine FC_seq fun K hK => ?_
  simp only [symA, sy, AV.cells, AV.isTup, startF, Nat.reduceLT, Nat.reduceEqDiff, Nat.reduceAdd, sn, Nat.reduceLeDiff, Nat.reduceMul, Nat.reduceSub, Nat.reduceMod, Nat.reduceDiv, Heap.cellsAt, sh, hl, c0, litA]
  apply hK
  clear hK K
  obtain ⟨A0, hA0⟩ : ∃ A, Heap.alloc ⟨0, .nil⟩ (.cells cs false) = A := ⟨_, rfl⟩
  have hg0 : A0.get 0 = some (.cells cs false) := by rw [← hA0]; rfl
  have hn0 : 1 ≤ A0.next := by rw [← hA0]; exact Nat.le_refl _
  rw [hA0]
  have o0 : OwnF A0 1 (.lst 1 1 [[.int .i64 t]]) (intsE [t]) := .inr rfl
  obtain ⟨y1, A1, a1, o1, g1, p1⟩ := o0.append (bytes := 8) (ys := intsE [x0, x1, x2]) (by simp [intsE])
  have hg1 : A1.get 0 = some (.cells cs false) := by rw [g1.get 0 (o0.cells_ne hg0) (by omega)]; exact hg0
  have hn1 : 1 ≤ A1.next := by have := g1.next; omega
  refine FC_seq fun K hK => ?_
  simp only [symA, sy, AV.cells, AV.isTup, startF, Nat.reduceLT, Nat.reduceEqDiff, Nat.reduceAdd, sn, Nat.reduceLeDiff, Nat.reduceMul, Nat.reduceSub, Nat.reduceMod, Nat.reduceDiv, optNat, sliceArrA, Option.getD_none, Nat.zero_le, Option.isSome_none, false_implies, cellsAt_get hg0, hl, show ¬ ((3 : Nat) = 0) by decide, elemsOf, k3, a1]
  apply hK
  clear hK K
  obtain ⟨y2, A2, a2, o2, g2, p2⟩ := o1.append (bytes := 8) (ys := intsE [q0, q1, q2, q3]) (by simp [intsE])
  have hg2 : A2.get 0 = some (.cells cs false) := by rw [g2.get 0 (o1.cells_ne hg1) (by omega)]; exact hg1
  have hn2 : 1 ≤ A2.next := by have := g2.next; omega
  refine FC_seq fun K hK => ?_
  simp only [symA, sy, AV.cells, AV.isTup, startF, Nat.reduceLT, Nat.reduceEqDiff, Nat.reduceAdd, sn, Nat.reduceLeDiff, Nat.reduceMul, Nat.reduceSub, Nat.reduceMod, Nat.reduceDiv, optNat, sliceArrA, Option.getD_none, Nat.zero_le, Option.isSome_none, false_implies, cellsAt_get hg1, hl, show ¬ ((4 : Nat) = 0) by decide, elemsOf, k4, a2]
  apply hK
  clear hK K
  obtain ⟨y3, A3, a3, o3, g3, p3⟩ := o2.append (bytes := 8) (ys := intsE [v0, v1, v2]) (by simp [intsE])
  have hg3 : A3.get 0 = some (.cells cs false) := by rw [g3.get 0 (o2.cells_ne hg2) (by omega)]; exact hg2
  have hn3 : 1 ≤ A3.next := by have := g3.next; omega
  refine FC_seq fun K hK => ?_
  simp only [symA, sy, AV.cells, AV.isTup, startF, Nat.reduceLT, Nat.reduceEqDiff, Nat.reduceAdd, sn, Nat.reduceLeDiff, Nat.reduceMul, Nat.reduceSub, Nat.reduceMod, Nat.reduceDiv, optNat, sliceArrA, Option.getD_none, Nat.zero_le, Option.isSome_none, false_implies, cellsAt_get hg2, hl, show ¬ ((3 : Nat) = 0) by decide, elemsOf, k8, a3]
  apply hK
  clear hK K
  obtain ⟨y4, A4, a4, o4, g4, p4⟩ := o3.append (bytes := 8) (ys := intsE [w0, w1, w2]) (by simp [intsE])
  have hg4 : A4.get 0 = some (.cells cs false) := by rw [g4.get 0 (o3.cells_ne hg3) (by omega)]; exact hg3
  have hn4 : 1 ≤ A4.next := by have := g4.next; omega
  refine FC_seq fun K hK => ?_
  simp only [symA, sy, AV.cells, AV.isTup, startF, Nat.reduceLT, Nat.reduceEqDiff, Nat.reduceAdd, sn, Nat.reduceLeDiff, Nat.reduceMul, Nat.reduceSub, Nat.reduceMod, Nat.reduceDiv, optNat, sliceArrA, Option.getD_none, Nat.zero_le, Option.isSome_none, false_implies, cellsAt_get hg3, hl, show ¬ ((3 : Nat) = 0) by decide, elemsOf, k11, a4]
  apply hK
  clear hK K
  simp only [symA, sy, AV.cells, AV.isTup, startF, Nat.reduceLT, Nat.reduceEqDiff, Nat.reduceAdd]
  exact ⟨rfl, [y4], by simp only [resFs, resF, symB, ne_eq, Nat.reduceEqDiff, not_false_eq_true], y4, rfl, p4 (by simp [intsE])⟩
theorem renc_body_lst {e : Ent} (h : e.Ok) : FC Tryd.prog gv 46 F8.body (startF [.agg (entC (.lst 0 14 (mvE e.moved)) e)]) [] ⟨0, .nil⟩ (retF [.tmp 2] fun o H => ∃ v, o = .ret v ∧ Own H 1 v (bytesE (encE e))) := by
  have hl := entC_length (.lst 0 14 (mvE e.moved)) h
  have hc := entC_cause (.lst 0 14 (mvE e.moved)) h
  have hce := entC_certs (.lst 0 14 (mvE e.moved)) h
  have hpr := entC_prev (.lst 0 14 (mvE e.moved)) h
  obtain ⟨cs, hcs⟩ : ∃ cs, entC (.lst 0 14 (mvE e.moved)) e = cs := ⟨_, rfl⟩
  have c0 : cs.getD 0 undefA = .int .i64 e.num := by rw [← hcs]; rfl
  have c1 : cs.getD 1 undefA = .int .i64 e.kind := by rw [← hcs]; rfl
  have c2 : cs.getD 2 undefA = .int .i64 e.op := by rw [← hcs]; rfl
  have c3 : cs.getD 3 undefA = .int .i64 e.time := by rw [← hcs]; rfl
  have c4 : cs.getD 4 undefA = .int .i64 e.halves := by rw [← hcs]; rfl
  have c5 : cs.getD 5 undefA = (.lst 0 14 (mvE e.moved)) := by rw [← hcs]; rfl
  rw [hcs] at hl hc hce hpr ⊢
  unfold F8 om oo
  refine FC_seq fun K hK => ?_
  simp only [symA, sy, AV.cells, AV.isTup, startF, Nat.reduceLT, Nat.reduceEqDiff, Nat.reduceAdd, fop, Heap.cellsAt, sh]
  apply hK
  clear hK K
  have hnl : e.nums.length = 7 := rfl
  have hne : [[AV.int .i64 e.num], [.int .i64 e.kind], [.int .i64 e.op], [.int .i64 e.time], [.int .i64 e.halves], [.int .i64 e.cause], [.int .i64 (e.moved.length : Int)]] = intsE e.nums := rfl
  refine FC_seq fun K hK => ?_
  simp only [symA, sy, AV.cells, AV.isTup, startF, Nat.reduceLT, Nat.reduceEqDiff, Nat.reduceAdd, sn, Nat.reduceLeDiff, Nat.reduceMul, Nat.reduceSub, Nat.reduceMod, Nat.reduceDiv, Heap.cellsAt, sh, hl, c0, c1, c2, c3, c4, c5, hc, litA, mvE_length]
  rw [hne]
  refine FOps_call (by decide) (by simp only [sm, symB, Nat.reduceEqDiff, startF]) (rints_ok (l := e.nums) 1 h.nums (by rw [hnl]; omega) _) ?_
  simp only [symA, sy, AV.cells, AV.isTup, startF, Nat.reduceLT, Nat.reduceEqDiff, Nat.reduceAdd, Heap.cellsAt, sh]
  apply hK
  clear hK K
  have hfew := h.few
  have hq0 := encInts_len h.nums (by rw [hnl]; omega)
  rw [hnl] at hq0
  refine FC_seq fun K hK => ?_
  refine FC_seq fun K hK => ?_
  simp only [symA, sy, AV.cells, AV.isTup, startF, Nat.reduceLT, Nat.reduceEqDiff, Nat.reduceAdd]
  apply hK
  clear hK K
  refine FC_for (id := 0) (c := 26) (fun i f H => f 1 = .ref 0 0 ∧ f 4 = .int .i64 i ∧ 1 ≤ H.next ∧ H.get 0 = some (.cells cs false) ∧ Own H 1 (f 3) (bytesE (encInts e.nums ++ (e.moved.take i).flatMap encInts))) e.moved.length ?_ ?_ ?_ ?_
  · refine ⟨by simp only [symB, ne_eq, Nat.reduceEqDiff, not_false_eq_true], by simp only [symB, ne_eq, Nat.reduceEqDiff, not_false_eq_true]; rfl, by simp only [Heap.cellsAt, sh, Nat.reduceAdd, Nat.reduceEqDiff]; omega, by simp only [Heap.cellsAt, sh, Nat.reduceAdd, Nat.reduceEqDiff], ?_⟩
    rw [List.take_zero, List.flatMap_nil, List.append_nil]
    simp only [symB, ne_eq, Nat.reduceEqDiff, not_false_eq_true]
    exact Own.fresh _ _ _
  · rintro i f H hi ⟨h1, h2, h3, h4, h5⟩ K hK Q'
    simp only [symA, sy, AV.cells, AV.isTup, startF, Nat.reduceLT, Nat.reduceEqDiff, Nat.reduceAdd, sn, Nat.reduceLeDiff, Nat.reduceMul, Nat.reduceSub, Nat.reduceMod, Nat.reduceDiv, h1, h2, cellsAt_get h4, hl, c5, mvE_length]
    refine ⟨trivial, trivial, hK _ ?_ ⟨by simpa only [symB, ne_eq, Nat.reduceEqDiff, not_false_eq_true] using h1, by simpa only [symB, ne_eq, Nat.reduceEqDiff, not_false_eq_true] using h2, h3, h4, by simpa only [symB, ne_eq, Nat.reduceEqDiff, not_false_eq_true] using h5⟩⟩
    simp only [symB, ne_eq, Nat.reduceEqDiff, not_false_eq_true]
    exact congrArg _ (decide_eq_decide.mpr (by omega))
  · rintro i f H hi ⟨h1, h2, hn, hg0, hown⟩
    obtain ⟨m, hm⟩ : ∃ m, e.moved.getD i [] = m := ⟨_, rfl⟩
    have hmem : m ∈ e.moved := by rw [← hm, List.getD_eq_getElem?_getD, List.getElem?_eq_getElem hi]; exact List.getElem_mem hi
    obtain ⟨hm14, hmi⟩ := h.moved m hmem
    have hml : (intsC m).length = 14 := by rw [intsC_length, hm14]
    have hqm := encInts_len hmi (by rw [hm14]; omega)
    have hqt := moved_len (l := e.moved.take i) fun m hx => h.moved m (List.mem_of_mem_take hx)
    rw [List.length_take] at hqt
    simp only [FC_blockE, symA, sy, AV.cells, AV.isTup, startF, Nat.reduceLT, Nat.reduceEqDiff, Nat.reduceAdd, sn, Nat.reduceLeDiff, Nat.reduceMul, Nat.reduceSub, Nat.reduceMod, Nat.reduceDiv, h1, h2, cellsAt_get hg0, hl, c5, asNat_nat, mvE_length, hi, mvE_getD _ hi, hm, hml]
    rw [List.take_of_length_le (by rw [hml]; omega)]
    refine FOps_call (by decide) (by simp only [sm, symB, Nat.reduceEqDiff, startF]) (numbers_ok hm14 H) ?_
    refine FOps_call (by decide) (by simp only [sm, symB, Nat.reduceEqDiff, startF]) (rints_ok (l := m) (H.next + 2) hmi (by rw [hm14]; omega) (H.alloc .tok)) ?_
    obtain ⟨v', H', a1, a2, a3⟩ := ((hown.alloc .tok).alloc .tok).append (bytes := 1) (ys := bytesE (encInts m)) (by simp only [bytesE_length, List.length_append]; omega)
    have e0 := a3.get 0 (fun ht => by have := own_tok_get hown ht; rw [hg0] at this; cases this) (by rw [Heap.next_alloc, Heap.next_alloc]; omega)
    rw [Heap.get_alloc, if_neg (by rw [Heap.next_alloc]; omega), Heap.get_alloc, if_neg (by omega), hg0] at e0
    have hnx := a3.next
    rw [Heap.next_alloc, Heap.next_alloc] at hnx
    simp only [symA, sy, AV.cells, AV.isTup, startF, Nat.reduceLT, Nat.reduceEqDiff, Nat.reduceAdd, elemsOf, a1, h2]
    refine ⟨trivial, trivial, (by first | exact h1 | trivial), ?_, by omega, e0, ?_⟩
    · rw [wrap_i64 (by omega) (by omega)]; rfl
    · rw [flatMap_take hi, hm, ← List.append_assoc, bytesE_append]
      exact a2
  · rintro f H ⟨h1, h2, hn, hg0, hown⟩
    rw [List.take_length] at hown
    have hqt := moved_len h.moved
    have hq2 := digs2_len h.certs h.prev
    simp only [symA, sy, AV.cells, AV.isTup, startF, Nat.reduceLT, Nat.reduceEqDiff, Nat.reduceAdd]
    apply hK
    clear hK K
    have hdl : [bytesC e.certs, bytesC e.prev] = digsE [e.certs, e.prev] := rfl
    refine FC_seq fun K hK => ?_
    simp only [symA, sy, AV.cells, AV.isTup, startF, Nat.reduceLT, Nat.reduceEqDiff, Nat.reduceAdd, sn, Nat.reduceLeDiff, Nat.reduceMul, Nat.reduceSub, Nat.reduceMod, Nat.reduceDiv, h1, cellsAt_get hg0, hl, hce, hpr, litA, bytesC_length, h.certs, h.prev, hdl]
    refine FOps_call (by decide) (by simp only [sm, symB, Nat.reduceEqDiff, startF]) (rdigests_ok (l := [e.certs, e.prev]) 1 (by simp [h.certs, h.prev]) (by simp) H) ?_
    obtain ⟨v', H', a1, a2, a3⟩ := (hown.alloc .tok).append (bytes := 1) (ys := bytesE (encDigs [e.certs, e.prev])) (by simp only [bytesE_length, List.length_append]; omega)
    simp only [symA, sy, AV.cells, AV.isTup, startF, Nat.reduceLT, Nat.reduceEqDiff, Nat.reduceAdd, elemsOf, a1]
    apply hK
    simp only [symA, sy, AV.cells, AV.isTup, startF, Nat.reduceLT, Nat.reduceEqDiff, Nat.reduceAdd]
    refine ⟨rfl, [v'], by simp only [resFs, resF, symB, ne_eq, Nat.reduceEqDiff, not_false_eq_true], v', rfl, ?_⟩
    rw [encE, ← List.append_assoc, bytesE_append]
    exact a2
theorem renc_body_nil {e : Ent} (h : e.Ok) (hm : e.moved = []) : FC Tryd.prog gv 46 F8.body (startF [.agg (entC .nilsl e)]) [] ⟨0, .nil⟩ (retF [.tmp 2] fun o H => ∃ v, o = .ret v ∧ Own H 1 v (bytesE (encE e))) := by
  have hl := entC_length .nilsl h
  have hc := entC_cause .nilsl h
  have hce := entC_certs .nilsl h
  have hpr := entC_prev .nilsl h
  obtain ⟨cs, hcs⟩ : ∃ cs, entC .nilsl e = cs := ⟨_, rfl⟩
  have c0 : cs.getD 0 undefA = .int .i64 e.num := by rw [← hcs]; rfl
  have c1 : cs.getD 1 undefA = .int .i64 e.kind := by rw [← hcs]; rfl
  have c2 : cs.getD 2 undefA = .int .i64 e.op := by rw [← hcs]; rfl
  have c3 : cs.getD 3 undefA = .int .i64 e.time := by rw [← hcs]; rfl
  have c4 : cs.getD 4 undefA = .int .i64 e.halves := by rw [← hcs]; rfl
  have c5 : cs.getD 5 undefA = .nilsl := by rw [← hcs]; rfl
  rw [hcs] at hl hc hce hpr ⊢
  unfold F8 om oo
  refine FC_seq fun K hK => ?_
  simp only [symA, sy, AV.cells, AV.isTup, startF, Nat.reduceLT, Nat.reduceEqDiff, Nat.reduceAdd, fop, Heap.cellsAt, sh]
  apply hK
  clear hK K
  have hnl : e.nums.length = 7 := rfl
  have hne : [[AV.int .i64 e.num], [.int .i64 e.kind], [.int .i64 e.op], [.int .i64 e.time], [.int .i64 e.halves], [.int .i64 e.cause], [.int .i64 (e.moved.length : Int)]] = intsE e.nums := rfl
  have hm0 : (e.moved.length : Int) = 0 := by rw [hm]; rfl
  rw [hm0] at hne
  refine FC_seq fun K hK => ?_
  simp only [symA, sy, AV.cells, AV.isTup, startF, Nat.reduceLT, Nat.reduceEqDiff, Nat.reduceAdd, sn, Nat.reduceLeDiff, Nat.reduceMul, Nat.reduceSub, Nat.reduceMod, Nat.reduceDiv, Heap.cellsAt, sh, hl, c0, c1, c2, c3, c4, c5, hc, litA]
  rw [hne]
  refine FOps_call (by decide) (by simp only [sm, symB, Nat.reduceEqDiff, startF]) (rints_ok (l := e.nums) 1 h.nums (by rw [hnl]; omega) _) ?_
  simp only [symA, sy, AV.cells, AV.isTup, startF, Nat.reduceLT, Nat.reduceEqDiff, Nat.reduceAdd, Heap.cellsAt, sh]
  apply hK
  clear hK K
  have hfew := h.few
  have hq0 := encInts_len h.nums (by rw [hnl]; omega)
  rw [hnl] at hq0
  refine FC_seq fun K hK => ?_
  refine FC_seq fun K hK => ?_
  simp only [symA, sy, AV.cells, AV.isTup, startF, Nat.reduceLT, Nat.reduceEqDiff, Nat.reduceAdd]
  apply hK
  clear hK K
  refine FC_for (id := 0) (c := 26) (fun i f H => f 1 = .ref 0 0 ∧ f 4 = .int .i64 i ∧ 1 ≤ H.next ∧ H.get 0 = some (.cells cs false) ∧ Own H 1 (f 3) (bytesE (encInts e.nums ++ (e.moved.take i).flatMap encInts))) e.moved.length ?_ ?_ ?_ ?_
  · refine ⟨by simp only [symB, ne_eq, Nat.reduceEqDiff, not_false_eq_true], by simp only [symB, ne_eq, Nat.reduceEqDiff, not_false_eq_true]; rfl, by simp only [Heap.cellsAt, sh, Nat.reduceAdd, Nat.reduceEqDiff]; omega, by simp only [Heap.cellsAt, sh, Nat.reduceAdd, Nat.reduceEqDiff], ?_⟩
    rw [List.take_zero, List.flatMap_nil, List.append_nil]
    simp only [symB, ne_eq, Nat.reduceEqDiff, not_false_eq_true]
    exact Own.fresh _ _ _
  · rintro i f H hi ⟨h1, h2, h3, h4, h5⟩ K hK Q'
    simp only [symA, sy, AV.cells, AV.isTup, startF, Nat.reduceLT, Nat.reduceEqDiff, Nat.reduceAdd, sn, Nat.reduceLeDiff, Nat.reduceMul, Nat.reduceSub, Nat.reduceMod, Nat.reduceDiv, h1, h2, cellsAt_get h4, hl, c5]
    refine ⟨trivial, trivial, hK _ ?_ ⟨by simpa only [symB, ne_eq, Nat.reduceEqDiff, not_false_eq_true] using h1, by simpa only [symB, ne_eq, Nat.reduceEqDiff, not_false_eq_true] using h2, h3, h4, by simpa only [symB, ne_eq, Nat.reduceEqDiff, not_false_eq_true] using h5⟩⟩
    simp only [symB, ne_eq, Nat.reduceEqDiff, not_false_eq_true]
    exact congrArg _ (decide_eq_decide.mpr (by omega))
  · rintro i f H hi
    rw [hm] at hi
    exact absurd hi (by simp)
  · rintro f H ⟨h1, h2, hn, hg0, hown⟩
    rw [List.take_length] at hown
    have hqt := moved_len h.moved
    have hq2 := digs2_len h.certs h.prev
    simp only [symA, sy, AV.cells, AV.isTup, startF, Nat.reduceLT, Nat.reduceEqDiff, Nat.reduceAdd]
    apply hK
    clear hK K
    have hdl : [bytesC e.certs, bytesC e.prev] = digsE [e.certs, e.prev] := rfl
    refine FC_seq fun K hK => ?_
    simp only [symA, sy, AV.cells, AV.isTup, startF, Nat.reduceLT, Nat.reduceEqDiff, Nat.reduceAdd, sn, Nat.reduceLeDiff, Nat.reduceMul, Nat.reduceSub, Nat.reduceMod, Nat.reduceDiv, h1, cellsAt_get hg0, hl, hce, hpr, litA, bytesC_length, h.certs, h.prev, hdl]
    refine FOps_call (by decide) (by simp only [sm, symB, Nat.reduceEqDiff, startF]) (rdigests_ok (l := [e.certs, e.prev]) 1 (by simp [h.certs, h.prev]) (by simp) H) ?_
    obtain ⟨v', H', a1, a2, a3⟩ := (hown.alloc .tok).append (bytes := 1) (ys := bytesE (encDigs [e.certs, e.prev])) (by simp only [bytesE_length, List.length_append]; omega)
    simp only [symA, sy, AV.cells, AV.isTup, startF, Nat.reduceLT, Nat.reduceEqDiff, Nat.reduceAdd, elemsOf, a1]
    apply hK
    simp only [symA, sy, AV.cells, AV.isTup, startF, Nat.reduceLT, Nat.reduceEqDiff, Nat.reduceAdd]
    refine ⟨rfl, [v'], by simp only [resFs, resF, symB, ne_eq, Nat.reduceEqDiff, not_false_eq_true], v', rfl, ?_⟩
    rw [encE, ← List.append_assoc, bytesE_append]
    exact a2
/-- ref46.Encode -/
theorem renc_ok {mv : AV} {e : Ent} (h : e.Ok) (hm : IsMv mv e.moved) (H : Heap) : Sound Tryd.prog gv 8 [.agg (entC mv e)] H (.ret (.lst (H.next + 2) 1 (bytesE (encE e)))) (H.alloc .tok) := by
  refine Sound_own gfree (by simp [freeL, AV.free, freeL_entC hm]) (bytesE_ne (encE_ne _)) (freeLL_bytesE _) (Sound_of_FC mixed is8 (by unfold F8 om oo; simp) ?_) H
  rcases hm with ⟨rfl, hm⟩ | rfl
  · exact renc_body_nil h hm
  · exact renc_body_lst h
end Go.Proofs.YtfdaiidepcbemaaDoor
end
