/-
  CONTRACTS: digests of entries, comparisons.
  DEFERRED CALLS AND PANICS, on slots that are a function.
  CONTRACTS: Decode's parts.
-/
import Derived.Test.YtfdaiidepcbemaaDoorA36
import Derived.Test.YtfdaiidepcbemaaDoorA35
set_option linter.unusedVariables false
set_option linter.unusedSimpArgs false
set_option linter.unusedSectionVars false
section
namespace Go.Proofs.YtfdaiidepcbemaaDoor
open Go Go.Av Go.Av.Pr
set_option maxRecDepth 100000
attribute [local congr] FD2_congr stepK_congr condK_congr guardK_congr FC_congr FOps_congr thenF_congr inBlockF_congr
attribute [local irreducible] FC FOps FD2
theorem encInts_bytes (l : List Int) : Bytes (encInts l) := by
  refine bytes_append (uvar_bytes _) fun x hx => ?_
  simp only [List.mem_flatMap] at hx
  obtain ⟨y, _, hx⟩ := hx
  exact uvar_bytes _ x hx
theorem encDigs_bytes {l : List (List Nat)} (h : ∀ x ∈ l, Bytes x) : Bytes (encDigs l) := by
  refine bytes_append (uvar_bytes _) fun x hx => ?_
  simp only [List.mem_flatten] at hx
  obtain ⟨y, hy, hx⟩ := hx
  exact h y hy x hx
theorem encE_bytes {e : Ent} (h : e.Ok) : Bytes (encE e) := by
  refine bytes_append (encInts_bytes _) (bytes_append (fun x hx => ?_) (encDigs_bytes fun x hx => ?_))
  · simp only [List.mem_flatMap] at hx
    obtain ⟨y, _, hx⟩ := hx
    exact encInts_bytes _ x hx
  · simp only [List.mem_cons, List.not_mem_nil, or_false] at hx
    rcases hx with rfl | rfl
    · exact h.cb
    · exact h.pb
theorem encE_len {e : Ent} (h : e.Ok) : (encE e).length < 2 ^ 28 := by
  have hnl : e.nums.length = 7 := rfl
  have q0 := encInts_len h.nums (by rw [hnl]; omega)
  have q1 := moved_len h.moved
  have q2 := digs2_len h.certs h.prev
  have := h.few
  rw [hnl] at q0
  simp only [encE, List.length_append]
  omega
/-- ref01.Same -/
theorem same_ok {a b : List Nat} (ha : Bytes a) (hb : Bytes b) (ta tb : Nat) (H : Heap) : Sound Tryd.prog gv 7 [.lst ta 1 (bytesE a), .lst tb 1 (bytesE b)] H (.ret (.bool (decide (a = b)))) H := by
  have he : (a.map UInt8.ofNat == b.map UInt8.ofNat) = decide (a = b) := by
    rw [Bool.eq_iff_iff]
    simp only [beq_iff_eq, decide_eq_true_eq]
    refine ⟨fun h => ?_, fun h => by rw [h]⟩
    rw [← natB_ofNat ha, ← natB_ofNat hb, h]
  refine Sound_FC is7 (by unfold F7 om oo; simp) ?_
  show FC Tryd.prog gv 10 F7.body _ _ _ (retF [.tmp 4] _)
  unfold F7 om oo
  refine FC_seq fun K hK => ?_
  simp only [symA, sy, AV.cells, AV.isTup, startF, Nat.reduceLT, Nat.reduceEqDiff, Nat.reduceAdd]
  apply hK
  clear hK K
  simp only [symA, sy, AV.cells, AV.isTup, startF, Nat.reduceLT, Nat.reduceEqDiff, Nat.reduceAdd, elemsOf, bytesOf_bytesE, binS, he]
  refine ⟨rfl, _, by simp only [resFs, resF, symB, ne_eq, Nat.reduceEqDiff, not_false_eq_true]; rfl, ?_, rfl⟩
  rfl
def dig (e : Ent) : List Nat := ofD 46 [(encE e).map UInt8.ofNat]
theorem dig_length (e : Ent) : (dig e).length = 16 := ofD_length _ _
theorem dig_ok {mv : AV} {e : Ent} (h : e.Ok) (hm : IsMv mv e.moved) (H : Heap) : Sound Tryd.prog gv 9 [.agg (entC mv e)] H (.ret (.agg (bytesC (dig e)))) H := by
  have hl := entC_length mv h
  have hd := dig_length e
  have hel := encE_len h
  obtain ⟨out, H', hout, hS⟩ := Sound_of_FC (R := fun o h => o = .ret (.agg (bytesC (dig e)))) mixed is9 (args := [.agg (entC mv e)]) (by unfold F9 oo; simp) (H := ⟨0, .nil⟩) (by
    show FC Tryd.prog gv 8 F9.body _ _ _ (retF [.cell 2 true 16] _)
    unfold F9 oo
    refine FC_seq fun K hK => ?_
    simp only [symA, sy, AV.cells, AV.isTup, startF, Nat.reduceLT, Nat.reduceEqDiff, Nat.reduceAdd, fop, Heap.cellsAt, sh]
    apply hK
    clear hK K
    refine FC_seq fun K hK => ?_
    simp only [symA, sy, AV.cells, AV.isTup, startF, Nat.reduceLT, Nat.reduceEqDiff, Nat.reduceAdd, sn, Nat.reduceLeDiff, Nat.reduceMul, Nat.reduceSub, Nat.reduceMod, Nat.reduceDiv, Heap.cellsAt, sh, hl, List.drop_zero]
    rw [List.take_of_length_le (by omega)]
    refine FOps_call (by decide) (by simp only [sm, symB, Nat.reduceEqDiff, startF]) (enc_ok h hm _) ?_
    have hst : strsE [(encE e).map UInt8.ofNat] = [[.str ((encE e).map UInt8.ofNat)]] := rfl
    have hS26 : ∀ H, Sound Tryd.prog gv 26 [.int .i64 46, .lst 1 1 [[.str ((encE e).map UInt8.ofNat)]]] H (.ret (.agg (bytesC (dig e)))) H := fun H =>
      of_ok (tag := 46) (by omega) (tg := 1) (by omega) (parts := [(encE e).map UInt8.ofNat]) (n := 2 ^ 28) (by simp only [List.mem_singleton]; rintro p rfl; simpa using hel) (by simp only [List.length_cons, List.length_nil]; omega) (by omega) H
    simp only [symA, sy, AV.cells, AV.isTup, startF, Nat.reduceLT, Nat.reduceEqDiff, Nat.reduceAdd, elemsOf, bytesOf_bytesE, litA]
    refine FOps_call (by decide) (by simp only [sm, symB, Nat.reduceEqDiff, startF]) (hS26 _) ?_
    simp only [symA, sy, AV.cells, AV.isTup, startF, Nat.reduceLT, Nat.reduceEqDiff, Nat.reduceAdd, sn, Nat.reduceLeDiff, Nat.reduceMul, Nat.reduceSub, Nat.reduceMod, Nat.reduceDiv, Heap.cellsAt, sh, bytesC_length, hd]
    rw [splice_all (by rw [bytesC_length, hd]; rfl)]
    apply hK
    simp only [symA, sy, AV.cells, AV.isTup, startF, Nat.reduceLT, Nat.reduceEqDiff, Nat.reduceAdd]
    refine ⟨rfl, [.agg (bytesC (dig e))], ?_, rfl⟩
    simp only [resFs, resF, symA, sy, AV.cells, AV.isTup, startF, Nat.reduceLT, Nat.reduceEqDiff, Nat.reduceAdd, sn, Nat.reduceLeDiff, Nat.reduceMul, Nat.reduceSub, Nat.reduceMod, Nat.reduceDiv, Heap.cellsAt, sh, bytesC_length, hd, List.drop_zero]
    rw [List.take_of_length_le (by rw [bytesC_length, hd]; omega)])
  rw [hout] at hS
  exact hS.frame gfree (by simp [freeL, AV.free, freeL_entC hm]) (tk := none) (fun k' hk' => by cases hk') (n := 0) H (v' := .agg (bytesC (dig e))) (by simp [Out.av, shutF, shut1, AV.free, freeL_bytesC])
theorem rdig_ok {mv : AV} {e : Ent} (h : e.Ok) (hm : IsMv mv e.moved) (H : Heap) : Sound Tryd.prog gv 10 [.agg (entC mv e)] H (.ret (.agg (bytesC (dig e)))) H := by
  have hl := entC_length mv h
  have hd := dig_length e
  have hel := encE_len h
  obtain ⟨out, H', hout, hS⟩ := Sound_of_FC (R := fun o h => o = .ret (.agg (bytesC (dig e)))) mixed is10 (args := [.agg (entC mv e)]) (by unfold F10 oo; simp) (H := ⟨0, .nil⟩) (by
    show FC Tryd.prog gv 8 F10.body _ _ _ (retF [.cell 2 true 16] _)
    unfold F10 oo
    refine FC_seq fun K hK => ?_
    simp only [symA, sy, AV.cells, AV.isTup, startF, Nat.reduceLT, Nat.reduceEqDiff, Nat.reduceAdd, fop, Heap.cellsAt, sh]
    apply hK
    clear hK K
    refine FC_seq fun K hK => ?_
    simp only [symA, sy, AV.cells, AV.isTup, startF, Nat.reduceLT, Nat.reduceEqDiff, Nat.reduceAdd, sn, Nat.reduceLeDiff, Nat.reduceMul, Nat.reduceSub, Nat.reduceMod, Nat.reduceDiv, Heap.cellsAt, sh, hl, List.drop_zero]
    rw [List.take_of_length_le (by omega)]
    refine FOps_call (by decide) (by simp only [sm, symB, Nat.reduceEqDiff, startF]) (renc_ok h hm _) ?_
    have hS27 : ∀ H, Sound Tryd.prog gv 27 [.int .i64 46, .lst 1 1 [[.str ((encE e).map UInt8.ofNat)]]] H (.ret (.agg (bytesC (dig e)))) H := fun H =>
      rof_ok (tag := 46) (by omega) (tg := 1) (by omega) (parts := [(encE e).map UInt8.ofNat]) (by simp) (n := 2 ^ 28) (by simp only [List.mem_singleton]; rintro p rfl; simpa using hel) (by simp only [List.length_cons, List.length_nil]; omega) (by omega) H
    simp only [symA, sy, AV.cells, AV.isTup, startF, Nat.reduceLT, Nat.reduceEqDiff, Nat.reduceAdd, elemsOf, bytesOf_bytesE, litA]
    refine FOps_call (by decide) (by simp only [sm, symB, Nat.reduceEqDiff, startF]) (hS27 _) ?_
    simp only [symA, sy, AV.cells, AV.isTup, startF, Nat.reduceLT, Nat.reduceEqDiff, Nat.reduceAdd, sn, Nat.reduceLeDiff, Nat.reduceMul, Nat.reduceSub, Nat.reduceMod, Nat.reduceDiv, Heap.cellsAt, sh, bytesC_length, hd]
    rw [splice_all (by rw [bytesC_length, hd]; rfl)]
    apply hK
    simp only [symA, sy, AV.cells, AV.isTup, startF, Nat.reduceLT, Nat.reduceEqDiff, Nat.reduceAdd]
    refine ⟨rfl, [.agg (bytesC (dig e))], ?_, rfl⟩
    simp only [resFs, resF, symA, sy, AV.cells, AV.isTup, startF, Nat.reduceLT, Nat.reduceEqDiff, Nat.reduceAdd, sn, Nat.reduceLeDiff, Nat.reduceMul, Nat.reduceSub, Nat.reduceMod, Nat.reduceDiv, Heap.cellsAt, sh, bytesC_length, hd, List.drop_zero]
    rw [List.take_of_length_le (by rw [bytesC_length, hd]; omega)])
  rw [hout] at hS
  exact hS.frame gfree (by simp [freeL, AV.free, freeL_entC hm]) (tk := none) (fun k' hk' => by cases hk') (n := 0) H (v' := .agg (bytesC (dig e))) (by simp [Out.av, shutF, shut1, AV.free, freeL_bytesC])
/-- ref46.SameEntry -/
theorem sameent_ok {ma mb : AV} {a b : Ent} (ha : a.Ok) (hb : b.Ok) (hma : IsMv ma a.moved) (hmb : IsMv mb b.moved) (H : Heap) :
    Sound Tryd.prog gv 13 [.agg (entC ma a), .agg (entC mb b)] H (.ret (.bool (decide (encE a = encE b)))) H := by
  have hla := entC_length ma ha
  have hlb := entC_length mb hb
  obtain ⟨out, H', hout, hS⟩ := Sound_of_FC (R := fun o h => o = .ret (.bool (decide (encE a = encE b)))) mixed is13 (args := [.agg (entC ma a), .agg (entC mb b)]) (by unfold F13 om oo; simp) (H := ⟨0, .nil⟩) (by
    show FC Tryd.prog gv 10 F13.body _ _ _ (retF [.tmp 4] _)
    unfold F13 om oo
    refine FC_seq fun K hK => ?_
    simp only [symA, sy, AV.cells, AV.isTup, startF, Nat.reduceLT, Nat.reduceEqDiff, Nat.reduceAdd, fop, Heap.cellsAt, sh]
    apply hK
    clear hK K
    refine FC_seq fun K hK => ?_
    refine FC_draw0 (by decide) ?_
    simp only [symA, sy, AV.cells, AV.isTup, startF, Nat.reduceLT, Nat.reduceEqDiff, Nat.reduceAdd, symF, symFp, FD2_nil, ROp.readsId, idOf, reduceCtorEq, false_implies, implies_true, forall_const, true_and, and_true, List.not_mem_nil, List.mem_cons, or_false, false_or, Prod.mk.injEq, forall_eq, forall_eq_or_imp, forall_eq', Option.some.injEq, sn, Nat.reduceLeDiff, Nat.reduceMul, Nat.reduceSub, Nat.reduceMod, Nat.reduceDiv, Heap.cellsAt, sh, hla, List.drop_zero]
    rw [List.take_of_length_le (by omega)]
    refine FD2_call (by decide) (by simp only [sm, symB, Nat.reduceEqDiff, startF]) (renc_ok ha hma _) (by simp) (fun x hx _ => by simp only [List.mem_singleton] at hx; subst hx; simp only [Heap.cellsAt, sh, Nat.reduceAdd, Nat.reduceEqDiff]) ?_
    simp only [symA, sy, AV.cells, AV.isTup, startF, Nat.reduceLT, Nat.reduceEqDiff, Nat.reduceAdd, symF, symFp, FD2_nil, ROp.readsId, idOf, reduceCtorEq, false_implies, implies_true, forall_const, true_and, and_true, List.not_mem_nil, List.mem_cons, or_false, false_or, Prod.mk.injEq, forall_eq, forall_eq_or_imp, forall_eq', Option.some.injEq, sn, Nat.reduceLeDiff, Nat.reduceMul, Nat.reduceSub, Nat.reduceMod, Nat.reduceDiv, Heap.cellsAt, sh, hlb, List.drop_zero]
    rw [List.take_of_length_le (by omega)]
    refine FD2_call (by decide) (by simp only [sm, symB, Nat.reduceEqDiff, startF]) (renc_ok hb hmb _) (by simp) (fun x _ hx => by simp at hx) ?_
    refine FD2_call (by decide) (by simp only [List.map_cons, List.map_nil, symB, ne_eq, Nat.reduceEqDiff, not_false_eq_true, Heap.cellsAt, sh, Nat.reduceAdd]) (same_ok (encE_bytes ha) (encE_bytes hb) 4 5 _) (Nat.le_refl _) (fun x _ hx => by simp at hx) ?_
    simp only [symA, sy, AV.cells, AV.isTup, startF, Nat.reduceLT, Nat.reduceEqDiff, Nat.reduceAdd, symF, symFp, FD2_nil, ROp.readsId, idOf, reduceCtorEq, false_implies, implies_true, forall_const, true_and, and_true, List.not_mem_nil, List.mem_cons, or_false, false_or, Prod.mk.injEq, forall_eq, forall_eq_or_imp, forall_eq', Option.some.injEq]
    apply hK
    simp only [symA, sy, AV.cells, AV.isTup, startF, Nat.reduceLT, Nat.reduceEqDiff, Nat.reduceAdd]
    exact ⟨rfl, _, by simp only [resFs, resF, symB, ne_eq, Nat.reduceEqDiff, not_false_eq_true]; rfl, rfl⟩)
  rw [hout] at hS
  exact hS.frame gfree (by simp [freeL, AV.free, freeL_entC hma, freeL_entC hmb]) (tk := none) (fun k' hk' => by cases hk') (n := 0) H (v' := .bool (decide (encE a = encE b))) rfl
/-- ref46.Few, of one entry -/
theorem few_ok {cs : List AV} {mv : AV} {n : Nat} (hl : cs.length = 39) (h5 : cs.getD 5 undefA = mv) (hmv : (mv = .nilsl ∧ n = 0) ∨ ∃ els, mv = .lst 0 14 els ∧ els.length = n) (hn : n < 2^63) (H : Heap) :
    Sound Tryd.prog gv 4 [.lst 1 39 [cs], .int .i64 1] H (.ret (.bool (decide (n ≤ 8)))) H := by
  have hd : (cs.drop 5).getD 0 undefA = mv := by rw [getD_eq, List.getElem?_drop, ← getD_eq, h5]
  have hd' : (cs.drop 5).length = 34 := by rw [List.length_drop, hl]
  refine Sound_FC is4 (by unfold F4 om oo; simp) ?_
  show FC Tryd.prog gv 23 F4.body _ _ _ (retF [.tmp 4] _)
  unfold F4 om oo
  refine FC_seq fun K hK => ?_
  simp only [symA, sy, AV.cells, AV.isTup, startF, Nat.reduceLT, Nat.reduceEqDiff, Nat.reduceAdd]
  apply hK
  clear hK K
  refine FC_seq fun K hK => ?_
  refine FC_seq fun K hK => ?_
  simp only [symA, sy, AV.cells, AV.isTup, startF, Nat.reduceLT, Nat.reduceEqDiff, Nat.reduceAdd]
  apply hK
  clear hK K
  refine FC_for (id := 0) (c := 9) (fun i f h => h = H ∧ f 0 = .lst 1 39 [cs] ∧ f 1 = .int .i64 1 ∧ f 5 = .int .i64 i ∧ (0 < i → n ≤ 8)) 1 ?_ ?_ ?_ ?_
  · exact ⟨rfl, by simp only [symB, ne_eq, Nat.reduceEqDiff, not_false_eq_true, startF, List.getD_cons_zero], by simp only [symB, ne_eq, Nat.reduceEqDiff, not_false_eq_true, startF, List.getD_cons_zero, List.getD_cons_succ], by simp only [symB, ne_eq, Nat.reduceEqDiff, not_false_eq_true]; rfl, fun h => by omega⟩
  · rintro i f H hi ⟨rfl, h1, h2, h3, h4⟩ K hK Q'
    simp only [symA, sy, AV.cells, AV.isTup, startF, Nat.reduceLT, Nat.reduceEqDiff, Nat.reduceAdd, h1, h3]
    refine ⟨trivial, trivial, hK _ ?_ ⟨rfl, by simpa only [symB, ne_eq, Nat.reduceEqDiff, not_false_eq_true] using h1, by simpa only [symB, ne_eq, Nat.reduceEqDiff, not_false_eq_true] using h2, by simpa only [symB, ne_eq, Nat.reduceEqDiff, not_false_eq_true] using h3, h4⟩⟩
    simp only [symB, ne_eq, Nat.reduceEqDiff, not_false_eq_true]
    exact congrArg _ (decide_eq_decide.mpr (by omega))
  · rintro i f H hi ⟨rfl, h1, h2, h3, h4⟩
    obtain rfl : i = 0 := by omega
    rcases hmv with ⟨rfl, rfl⟩ | ⟨els, rfl, hels⟩
    · refine FC_block (FC_seq fun K hK => ?_)
      simp only [symA, sy, AV.cells, AV.isTup, startF, Nat.reduceLT, Nat.reduceEqDiff, Nat.reduceAdd, sn, Nat.reduceLeDiff, Nat.reduceMul, Nat.reduceSub, Nat.reduceMod, Nat.reduceDiv, h1, h3, asNat_nat, show (0 : Nat) < 1 from Nat.zero_lt_one, hl, hd, hd']
      apply hK
      simp only [symA, sy, AV.cells, AV.isTup, startF, Nat.reduceLT, Nat.reduceEqDiff, Nat.reduceAdd, h3, show decide ((0 : Int) > 8) = false from rfl]
      exact ⟨trivial, trivial, trivial, h1, h2, by rw [wrap_i64 (by omega) (by omega)]; rfl, fun _ => by omega⟩
    · refine FC_block (FC_seq fun K hK => ?_)
      simp only [symA, sy, AV.cells, AV.isTup, startF, Nat.reduceLT, Nat.reduceEqDiff, Nat.reduceAdd, sn, Nat.reduceLeDiff, Nat.reduceMul, Nat.reduceSub, Nat.reduceMod, Nat.reduceDiv, h1, h3, asNat_nat, show (0 : Nat) < 1 from Nat.zero_lt_one, hl, hd, hd', hels]
      apply hK
      simp only [symA, sy, AV.cells, AV.isTup, startF, Nat.reduceLT, Nat.reduceEqDiff, Nat.reduceAdd, h3]
      refine ⟨fun q => ?_, fun q => ?_⟩
      · refine ⟨rfl, _, by simp only [resFs, resF, symB, ne_eq, Nat.reduceEqDiff, not_false_eq_true]; rfl, ?_, rfl⟩
        rw [decide_eq_false (by omega)]
        rfl
      · exact ⟨trivial, trivial, trivial, h1, h2, by rw [wrap_i64 (by omega) (by omega)]; rfl, fun _ => by omega⟩
  · rintro f h ⟨rfl, h1, h2, h3, h4⟩
    simp only [symA, sy, AV.cells, AV.isTup, startF, Nat.reduceLT, Nat.reduceEqDiff, Nat.reduceAdd]
    apply hK
    simp only [symA, sy, AV.cells, AV.isTup, startF, Nat.reduceLT, Nat.reduceEqDiff, Nat.reduceAdd, h1, h2]
    refine ⟨rfl, _, by simp only [resFs, resF, symB, ne_eq, Nat.reduceEqDiff, not_false_eq_true]; rfl, ?_, rfl⟩
    rw [decide_eq_true (h4 (by omega))]
    rfl
end Go.Proofs.YtfdaiidepcbemaaDoor
end
section
namespace Go.Av
open Go
section
variable {P : Program} {g : Genv} {n : Nat}
theorem ADs_exact {Q : Heap → Prop} : ∀ {ds : List Dfr} {H : Heap}, ADs P g ds H Q → ∃ Hf, Q Hf ∧ ADs P g ds H fun H' => H' = Hf
  | [], H, h => ⟨H, h, rfl⟩
  | d :: ds, H, h => by
    obtain ⟨H1, h1, h2⟩ := h
    obtain ⟨Hf, q, h3⟩ := ADs_exact h2
    exact ⟨Hf, q, H1, h1, h3⟩
theorem ADs_mono {Q Q' : Heap → Prop} (hq : ∀ H, Q H → Q' H) : ∀ {ds : List Dfr} {H : Heap}, ADs P g ds H Q → ADs P g ds H Q'
  | [], H, h => hq H h
  | d :: ds, H, h => by
    obtain ⟨H1, h1, h2⟩ := h
    exact ⟨H1, h1, ADs_mono hq h2⟩
/-- how a body with deferred calls ends -/
def retFD (P : Program) (g : Genv) (rs : List ARes) (R : Out → Heap → Prop) : FQ
  | .normal, f, ds, H | .ret, f, ds, H => ADs P g ds H fun H1 => ∃ vs, resFs f H1 rs = some vs ∧ R (.ret (retA vs)) H1
  | .panic v, f, ds, H => match ds with
    | [] => R (.pan v) H
    | d :: ds => ∃ H1, SoundD P g d.1 d.2 (some v) H H1 ∧ ADs P g ds H1 fun H2 => ∃ vs, resFs f H2 rs = some vs ∧ R (.ret (retA vs)) H2
  | .exit _, _, _, _ => False
theorem AC_retD {F : AFn} {args : List AV} (ha : args.length ≤ F.ntmps) {H : Heap} {R : Out → Heap → Prop} (h : FC P g F.ntmps F.body (startF args) [] H (retFD P g F.results R)) :
    AC P g F.body (startS F args) [] H (retQD P g F R) := by
  obtain ⟨hb, hl⟩ := startF_LF ha
  unfold startS
  rw [← hl]
  refine AC_mono (fun e s ds H hq => ?_) (FC_sound F.body _ [] H _ hb h)
  obtain ⟨f, rfl, hb', hq⟩ := hq
  have conv : ∀ H1, (∃ vs, resFs f H1 F.results = some vs ∧ R (.ret (retA vs)) H1) → ∃ vs, resAs (LF F.ntmps f) H1 F.results = some vs ∧ R (.ret (retA vs)) H1 := fun H1 ⟨vs, h1, h2⟩ => ⟨vs, by rw [← resFs_eq hb']; exact h1, h2⟩
  cases e with
  | normal => exact ADs_mono conv hq
  | ret => exact ADs_mono conv hq
  | panic v =>
    cases ds with
    | nil => exact hq
    | cons d ds =>
      obtain ⟨H1, h1, h2⟩ := hq
      exact ⟨H1, h1, ADs_mono conv h2⟩
  | exit id => exact hq
theorem Sound_of_FCD {mu : Bool} (hm : P.follows .mixedOrders = true) {f : FuncId} {F : AFn} (hF : FnIs P g mu f F) {args : List AV} (ha : args.length ≤ F.ntmps) {H : Heap} {R : Out → Heap → Prop}
    (h : FC P g F.ntmps F.body (startF args) [] H (retFD P g F.results R)) : ∃ out H', R out H' ∧ Sound P g f args H out H' := by
  obtain ⟨ae, s, ds, H', q, hA⟩ := AC_exact (AC_retD ha h)
  have norm : (ae = .normal ∨ ae = .ret) → (ADs P g ds H' fun H1 => ∃ vs, resAs s H1 F.results = some vs ∧ R (.ret (retA vs)) H1) → ∃ out H', R out H' ∧ Sound P g f args H out H' := by
    intro hae q
    obtain ⟨Hf, ⟨vs, h1, h2⟩, h3⟩ := ADs_exact q
    refine ⟨_, Hf, h2, Sound_of_ACD hm hF (AC_mono (fun e s1 d hh he => ?_) hA)⟩
    obtain ⟨rfl, rfl, rfl, rfl⟩ := he
    have : ADs P g d hh fun H1 => ∃ vs', resAs s1 H1 F.results = some vs' ∧ (Out.ret (retA vs') = Out.ret (retA vs) ∧ H1 = Hf) := ADs_mono (fun H1 e => by subst e; exact ⟨vs, h1, rfl, rfl⟩) h3
    rcases hae with rfl | rfl <;> exact this
  cases ae with
  | exit id => exact q.elim
  | normal => exact norm (.inl rfl) q
  | ret => exact norm (.inr rfl) q
  | panic v =>
    cases ds with
    | nil =>
      refine ⟨.pan v, H', q, Sound_of_ACD hm hF (AC_mono (fun e s1 d hh he => ?_) hA)⟩
      obtain ⟨rfl, rfl, rfl, rfl⟩ := he
      exact ⟨rfl, rfl⟩
    | cons d ds =>
      obtain ⟨H1, h1, h2⟩ := q
      obtain ⟨Hf, ⟨vs, q1, q2⟩, q3⟩ := ADs_exact h2
      refine ⟨.ret (retA vs), Hf, q2, Sound_of_ACD hm hF (AC_mono (fun e s1 d1 hh he => ?_) hA)⟩
      obtain ⟨rfl, rfl, rfl, rfl⟩ := he
      exact ⟨H1, h1, ADs_mono (fun H1 e => by subst e; exact ⟨vs, q1, rfl, rfl⟩) q3⟩
/-- what a function that begins with recover does, deferred -/
theorem SoundD_of_FC {mu : Bool} (hm : P.follows .mixedOrders = true) {f : FuncId} {dst : Option Nat} {rl : List ROper} {ac : ACode} (hF : FnIsR P g mu f n dst rl ac)
    {args : List AV} (ha : args.length ≤ n) {md : Option AV} {H H' : Heap}
    (h : FOps P g n rl (putF n (startF args) dst (md.getD .nilif)) [] H (thenF (fun f ds H => FC P g n ac f ds H fun e f ds H => (match e with | .normal => True | .ret => True | _ => False) ∧ ds = [] ∧ H = H') fun _ _ _ _ => False)) :
    SoundD P g f args md H H' := by
  obtain ⟨hb, hl⟩ := startF_LF ha
  refine SoundD_of_AC hm hF ?_
  rw [← hl, ← LF_put]
  refine AOps_mono (fun e s ds H hq => ?_) (FOps_sound rl _ [] H _ (hb.put _ _) h)
  obtain ⟨f, rfl, hb', hq⟩ := hq
  cases e with
  | normal =>
    refine AC_mono (fun e s ds H hq => ?_) (FC_sound ac f ds H _ hb' hq)
    obtain ⟨f, rfl, _, hq⟩ := hq
    exact hq
  | _ => exact hq.elim
variable {r : List ROper} {f : Slt} {ds : List Dfr} {H : Heap} {Q : FQ}
theorem FOps_call_pan {d : Nat} {fid : FuncId} {az : List Arg} {args : List AV} {v : AV} {H' : Heap} (ha : az.map (evF g f) = args) (hS : Sound P g fid args H (.pan v) H')
    (h : Q (.panic v) f ds H') : FOps P g n (⟨some d, .call (.const (.func (.func fid) [] [])) az, none⟩ :: r) f ds H Q := by
  unfold FOps
  simp only [wantedF, if_true]
  exact ⟨(fid, [], []), .pan v, H', rfl, by simpa [ha] using hS, h⟩
theorem FOps_panic {x : Arg} {t : TypeId} {v : AV} (hx : evF g f x = .iface t v) (h : Q (.panic (.iface t v)) f ds H) : FOps P g n (⟨none, .panic x, none⟩ :: r) f ds H Q := by
  unfold FOps
  simp only [wantedF, if_true]
  exact ⟨t, v, hx, h⟩
theorem FOps_defer {c : Arg} {az : List Arg} {fid : FuncId} {fs cs args : List AV} (hc : evF g f c = .func (.func fid) fs cs) (ha : fs ++ az.map (evF g f) ++ cs = args)
    (h : FOps P g n r f ((fid, args) :: ds) H Q) : FOps P g n (⟨none, .deferc c az, none⟩ :: r) f ds H Q := by
  unfold FOps
  simp only [wantedF, if_true, putF]
  exact ⟨(fid, fs, cs), by rw [hc]; rfl, by rw [ha]; exact h⟩
end
end Go.Av
end
section
namespace Go.Proofs.YtfdaiidepcbemaaDoor
open Go Go.Av Go.Av.Pr
set_option maxRecDepth 100000
attribute [local congr] FD2_congr stepK_congr condK_congr guardK_congr FC_congr FOps_congr thenF_congr inBlockF_congr
attribute [local irreducible] FC FOps FD2
def ent0 : Ent := ⟨0, 0, 0, 0, 0, [], List.replicate 16 0, 0, List.replicate 16 0⟩
/-- Decode$1 where nothing panics -/
theorem defer_nop (args : List AV) (ha : args.length = 3) (H : Heap) : SoundD Tryd.prog gv 28 args none H H := by
  refine SoundD_of_FC mixed isR28 (by omega) ?_
  show FOps Tryd.prog gv 10 [⟨some 3, .mov (.tmp 4), none⟩] (upd (startF args) 4 .nilif) [] H (thenF (fun f ds H' => FC Tryd.prog gv 10 R28.2.2 f ds H' _) _)
  unfold R28 om oo
  have n1 : isNilA .ifc .nilif = some true := rfl
  simp only [symA, sy, AV.cells, AV.isTup, startF, Nat.reduceLT, Nat.reduceEqDiff, Nat.reduceAdd, n1, Bool.or_true, Bool.and_self, Bool.not_true, Bool.and_false, Bool.true_or, Bool.true_and, Bool.not_false, bne_self_eq_false, Bool.or_false, Bool.false_or]
/-- Decode$1 where an error came up -/
theorem defer_pan {ie ix ir : Nat} (h1 : ie ≠ ix) (h2 : ie ≠ ir) (h3 : ix ≠ ir) (k : Int) {H : Heap} {ce cx cr : List AV} (ge : H.get ie = some (.cells ce false)) (gx : H.get ix = some (.cells cx false)) (gr : H.get ir = some (.cells cr false))
    (le : ce.length = 39) (lx : cx.length = 1) (lr : cr.length = 1) :
    SoundD Tryd.prog gv 28 [.ref ie 0, .ref ix 0, .ref ir 0] (some (.iface 25 (.int .i64 k))) H (((H.set ie (.cells (entC .nilsl ent0) false)).set ix (.cells [.int .i64 0] false)).set ir (.cells [.int .i64 k] false)) := by
  refine SoundD_of_FC mixed isR28 (by simp) ?_
  show FOps Tryd.prog gv 10 [⟨some 3, .mov (.tmp 4), none⟩] (upd (startF _) 4 (.iface 25 (.int .i64 k))) [] H (thenF (fun f ds H' => FC Tryd.prog gv 10 R28.2.2 f ds H' _) _)
  unfold R28 om oo
  have n1 : isNilA .ifc .nilif = some true := rfl
  have n2 : isNilA .ifc (.iface 25 (.int .i64 k)) = some false := rfl
  simp only [symA, sy, AV.cells, AV.isTup, startF, Nat.reduceLT, Nat.reduceEqDiff, Nat.reduceAdd, n1, n2, Bool.or_true, Bool.and_self, Bool.not_true, Bool.and_false, Bool.true_or, Bool.true_and, Bool.not_false, bne_self_eq_false, Bool.or_false, Bool.false_or, Bool.false_and, Bool.and_true]
  refine FC_draw0 (by decide) ?_
  have hz : [AV.int .i64 0, .int .i64 0, .int .i64 0, .int .i64 0, .int .i64 0, .nilsl, .int .u8 0, .int .u8 0, .int .u8 0, .int .u8 0, .int .u8 0, .int .u8 0, .int .u8 0, .int .u8 0, .int .u8 0, .int .u8 0, .int .u8 0, .int .u8 0, .int .u8 0, .int .u8 0, .int .u8 0, .int .u8 0, .int .i64 0, .int .u8 0, .int .u8 0, .int .u8 0, .int .u8 0, .int .u8 0, .int .u8 0, .int .u8 0, .int .u8 0, .int .u8 0, .int .u8 0, .int .u8 0, .int .u8 0, .int .u8 0, .int .u8 0, .int .u8 0, .int .u8 0] = entC .nilsl ent0 := rfl
  rw [hz]
  have hzl : (entC .nilsl ent0).length = 39 := rfl
  simp only [symA, sy, AV.cells, AV.isTup, startF, Nat.reduceLT, Nat.reduceEqDiff, Nat.reduceAdd, symF, symFp, FD2_nil, ROp.readsId, idOf, reduceCtorEq, false_implies, implies_true, forall_const, true_and, and_true, List.not_mem_nil, List.mem_cons, or_false, false_or, Prod.mk.injEq, forall_eq, forall_eq_or_imp, forall_eq', Option.some.injEq, sn, Nat.reduceLeDiff, Nat.reduceMul, Nat.reduceSub, Nat.reduceMod, Nat.reduceDiv, Heap.cellsAt, sh, fillA, ge, gx, gr, le, lx, lr, hzl, if_neg (Ne.symm h1), if_neg (Ne.symm h2), if_neg (Ne.symm h3)]
  rw [splice_all (by rw [hzl, le]), splice_all (by rw [lx]; rfl), splice_all (by rw [lr]; rfl)]
/-! ### the reader -/
/-- numbers from the reader's place on -/
theorem rints_read {b : List Nat} (hb : Bytes b) (hl : b.length < 2^36) {id a : Nat} (ha : a ≤ b.length) (n : Nat) (hn0 : 0 < n) {H : Heap} (hid : id < H.next) (hg : H.get id = some (.cells [.lst 0 1 (bytesE b), .int .i64 a] false)) {x : GotL Int} (hx : gints (b.drop a) = x) (hxn : x.e = 0 → a + x.n ≤ b.length) :
    (x.e = 0 ∧ x.l.length = n → Sound Tryd.prog gv 29 [.ref id 0, .int .i64 n] H (.ret (ownV H 1 (intsE x.l))) ((ownH H (intsE x.l)).set id (.cells [.lst 0 1 (bytesE b), .int .i64 ((a + x.n : Nat) : Int)] false))) ∧
    (¬ (x.e = 0 ∧ x.l.length = n) → Sound Tryd.prog gv 29 [.ref id 0, .int .i64 n] H (.pan (.iface 25 (.int .i64 11))) (ownH H (intsE x.l))) := by
  have hS50 : ∀ tag, Sound Tryd.prog gv 50 [.lst tag 1 (bytesE (b.drop a))] H (.ret (.tup (ownV H 1 (intsE x.l) :: [.int .i64 x.n, .int .i64 x.e]))) (ownH H (intsE x.l)) := fun tag => by
    have := getints_ok (b := b.drop a) (tag := tag) (hb.drop a) (by simp; omega) H
    rw [hx] at this
    exact this
  have hg' : (ownH H (intsE x.l)).get id = some (.cells [.lst 0 1 (bytesE b), .int .i64 a] false) := by
    unfold ownH
    split
    · exact hg
    · rw [Heap.get_alloc, if_neg (by omega)]; exact hg
  obtain ⟨tag', ht', hsl⟩ := slice_from 0 1 (els := bytesE b) (a := a) (by rw [bytesE_length]; exact ha)
  rw [bytesE_drop] at hsl
  have hstart : ∀ (Q : FQ), (∀ f : Slt, f 5 = ownV H 1 (intsE x.l) → f 6 = .int .i64 x.n → f 7 = .int .i64 x.e → f 0 = .ref id 0 → f 1 = .int .i64 n → FC Tryd.prog gv 40 (.seq (.seq (.ops [⟨some 22, .mov (.tmp 7), none⟩,
⟨some 23, .bin .neq (.tmp 22) (.const (.int .i64 0)), none⟩,
⟨some 24, .mov (.tmp 23), none⟩,
⟨some 25, .mov (.tmp 5), some (24, false)⟩,
⟨some 26, .lenl (.tmp 25), some (24, false)⟩,
⟨some 27, .mov (.tmp 1), some (24, false)⟩,
⟨some 28, .bin .neq (.tmp 26) (.tmp 27), some (24, false)⟩,
⟨some 29, .pick (.tmp 24) (.const (.bool true)) (.tmp 28), none⟩])
 (.cond (.tmp 29) (.ops [⟨some 30, .mkif 25 (.const (.int .i64 11)), none⟩,
⟨none, .panic (.tmp 30), none⟩])
 .skip))
 (.seq (.ops [⟨some 31, .mov (.tmp 0), none⟩,
⟨some 32, .nilck (.tmp 31), none⟩,
⟨some 33, .fadr 1 (.tmp 32), none⟩,
⟨some 34, .load false 1 (.tmp 33), none⟩,
⟨some 35, .mov (.tmp 6), none⟩,
⟨some 36, .bin .add (.tmp 34) (.tmp 35), none⟩,
⟨some 37, .nilck (.tmp 31), none⟩,
⟨some 38, .fadr 1 (.tmp 37), none⟩,
⟨none, .store 1 (.tmp 38) (.tmp 36), none⟩])
 (.seq (.ops [⟨some 39, .mov (.tmp 5), none⟩,
⟨some 4, .mov (.tmp 39), none⟩])
 .ret))) f [] (ownH H (intsE x.l)) Q) → FC Tryd.prog gv 40 F29.body (startF [.ref id 0, .int .i64 n]) [] H Q := by
    intro Q hQ
    unfold F29 om oo
    refine FC_seq fun K hK => ?_
    simp only [symA, sy, AV.cells, AV.isTup, startF, Nat.reduceLT, Nat.reduceEqDiff, Nat.reduceAdd]
    apply hK
    clear hK K
    refine FC_seq fun K hK => ?_
    refine FC_draw0 (by decide) ?_
    simp only [symA, sy, AV.cells, AV.isTup, startF, Nat.reduceLT, Nat.reduceEqDiff, Nat.reduceAdd, symF, symFp, FD2_nil, ROp.readsId, idOf, reduceCtorEq, false_implies, implies_true, forall_const, true_and, and_true, List.not_mem_nil, List.mem_cons, or_false, false_or, Prod.mk.injEq, forall_eq, forall_eq_or_imp, forall_eq', Option.some.injEq, sn, Nat.reduceLeDiff, Nat.reduceMul, Nat.reduceSub, Nat.reduceMod, Nat.reduceDiv, sl, splice, cellsAt_get hg, optNat, asNat_nat, hsl, Option.isSome_none]
    refine FD2_call (by decide) (by simp only [sm, symB, Nat.reduceEqDiff, startF]) (hS50 tag') (by unfold ownH; split <;> simp) (fun y _ hy => by simp at hy) ?_
    simp only [symA, sy, AV.cells, AV.isTup, startF, Nat.reduceLT, Nat.reduceEqDiff, Nat.reduceAdd, symF, symFp, FD2_nil, ROp.readsId, idOf, reduceCtorEq, false_implies, implies_true, forall_const, true_and, and_true, List.not_mem_nil, List.mem_cons, or_false, false_or, Prod.mk.injEq, forall_eq, forall_eq_or_imp, forall_eq', Option.some.injEq, sn, Nat.reduceLeDiff, Nat.reduceMul, Nat.reduceSub, Nat.reduceMod, Nat.reduceDiv]
    apply hK
    apply hQ <;> simp only [symB, ne_eq, Nat.reduceEqDiff, not_false_eq_true, startF, List.getD_cons_zero, List.getD_cons_succ]
  refine ⟨fun ⟨hx0, hxl⟩ => ?_, fun hno => ?_⟩
  · refine Sound_FC is29 (by unfold F29 om oo; simp) (hstart _ fun f h5 h6 h7 h0 h1 => ?_)
    have hb2 : (((x.l.length : Int)) != (n : Int)) = false := by rw [hxl]; simp
    have hw : IntKind.i64.wrap ((a : Int) + (x.n : Int)) = ((a + x.n : Nat) : Int) := by have := hxn hx0; rw [wrap_i64 (by omega) (by omega)]; simp
    have hne : intsE x.l ≠ [] := intsE_ne (by intro h; rw [h] at hxl; simp at hxl; omega)
    have hv : ownV H 1 (intsE x.l) = .lst (H.next + 2) 1 (intsE x.l) := by rw [ownV, if_neg hne]
    rw [hv] at h5 ⊢
    refine FC_seq fun K hK => ?_
    simp only [symA, sy, AV.cells, AV.isTup, startF, Nat.reduceLT, Nat.reduceEqDiff, Nat.reduceAdd, h5, h7, h1, hx0, show ((0 : Int) != 0) = false from rfl, intsE_length, hb2]
    apply hK
    clear hK K
    simp only [symA, sy, AV.cells, AV.isTup, startF, Nat.reduceLT, Nat.reduceEqDiff, Nat.reduceAdd, sn, Nat.reduceLeDiff, Nat.reduceMul, Nat.reduceSub, Nat.reduceMod, Nat.reduceDiv, sl, splice, h0, h5, h6, cellsAt_get hg', hg', hw]
    exact ⟨rfl, _, rfl, rfl, rfl⟩
  · refine Sound_FC is29 (by unfold F29 om oo; simp) (hstart _ fun f h5 h6 h7 h0 h1 => ?_)
    refine FC_seq fun K hK => ?_
    by_cases hx0 : x.e = 0
    · have hxl : x.l.length ≠ n := fun h => hno ⟨hx0, h⟩
      have hb2 : (((x.l.length : Int)) != (n : Int)) = true := by simp; omega
      by_cases h : intsE x.l = []
      · have hl0 : x.l = [] := by simpa [intsE] using h
        have hb0 : ((0 : Int) != (n : Int)) = true := by rw [hl0] at hb2; exact hb2
        rw [ownV, if_pos h] at h5
        simp only [symA, sy, AV.cells, AV.isTup, startF, Nat.reduceLT, Nat.reduceEqDiff, Nat.reduceAdd, h5, h7, h1, hx0, show ((0 : Int) != 0) = false from rfl, hb0]
        refine FOps_panic (t := 25) (v := .int .i64 11) (by simp only [symB, ne_eq, Nat.reduceEqDiff, not_false_eq_true]) ?_
        exact ⟨rfl, rfl, rfl⟩
      · rw [ownV, if_neg h] at h5
        simp only [symA, sy, AV.cells, AV.isTup, startF, Nat.reduceLT, Nat.reduceEqDiff, Nat.reduceAdd, h5, h7, h1, hx0, show ((0 : Int) != 0) = false from rfl, intsE_length, hb2]
        refine FOps_panic (t := 25) (v := .int .i64 11) (by simp only [symB, ne_eq, Nat.reduceEqDiff, not_false_eq_true]) ?_
        exact ⟨rfl, rfl, rfl⟩
    · have hb1 : (x.e != 0) = true := by simp; omega
      simp only [symA, sy, AV.cells, AV.isTup, startF, Nat.reduceLT, Nat.reduceEqDiff, Nat.reduceAdd, h7, hb1]
      refine FOps_panic (t := 25) (v := .int .i64 11) (by simp only [symB, ne_eq, Nat.reduceEqDiff, not_false_eq_true]) ?_
      exact ⟨rfl, rfl, rfl⟩
end Go.Proofs.YtfdaiidepcbemaaDoor
end
