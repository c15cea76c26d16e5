/-
  CONTRACTS: the reference of layer 1: numbers as bytes.
  CONTRACTS: the reference of layer 1: numbers read back.
  CONTRACTS: the reference of layer 1: lists read back.
-/
import Derived.Test.YtfdaiidepcbemaaDoorA28
set_option linter.unusedVariables false
set_option linter.unusedSimpArgs false
section
namespace Go.Proofs.YtfdaiidepcbemaaDoor
open Go Go.Av Go.Av.Pr
set_option maxRecDepth 100000
attribute [local congr] FD2_congr stepK_congr condK_congr guardK_congr FC_congr FOps_congr thenF_congr inBlockF_congr
theorem rint_body (P : Program) (n : Int) (h0 : -2^63 ≤ n) (h1 : n < 2^63) : FC P gv 31 F43.body (startF [.int .i64 n]) [] ⟨0, .nil⟩
    (retF [.tmp 2] fun o H => ∃ v, o = .ret v ∧ Own H 1 v (bytesE (uvar (zig n)))) := by
  have hz := zig_lt h0 h1
  unfold F43 om oo
  refine FC_seq fun K hK => ?_
  simp only [symA, sy, AV.cells, AV.isTup, startF, Nat.reduceLT, Nat.reduceEqDiff, Nat.reduceAdd]
  apply hK
  clear hK K
  refine FC_seq fun K hK => ?_
  simp only [symA, sy, AV.cells, AV.isTup, startF, Nat.reduceLT, Nat.reduceEqDiff, Nat.reduceAdd]
  apply hK
  clear hK K
  refine FC_seq fun K hK => ?_
  have hK' : ∀ f : Slt, f 3 = .int .u64 (zig n) → K f [] ⟨0, .nil⟩ := by
    intro f hf
    apply hK
    clear hK K
    refine FC_seq fun K hK => ?_
    simp only [symA, sy, AV.cells, AV.isTup, startF, Nat.reduceLT, Nat.reduceEqDiff, Nat.reduceAdd]
    apply hK
    clear hK K
    refine FC_seq fun K hK => ?_
    refine FC_block (FC_loop (fun m f ds H => ds = [] ∧ ∃ pre : List Nat, f 3 = .int .u64 m ∧ m < 2^64 ∧ Own H 1 (f 4) (bytesE pre) ∧ pre ++ uvar m = uvar (zig n)) (zig n) ?_ ?_)
    · exact ⟨rfl, [], by simp only [symB, ne_eq, Nat.reduceEqDiff, not_false_eq_true]; exact hf, hz, by simp only [symB, ne_eq, Nat.reduceEqDiff, not_false_eq_true]; exact Own.nil _ _, by simp⟩
    · rintro m f ds H ⟨rfl, pre, hf3, hlt, hown, hpre⟩
      have hl10 := uvar_len10 hz
      rw [← hpre, List.length_append] at hl10
      refine FC_seq fun K2 hK2 => ?_
      refine FC_seq fun K3 hK3 => ?_
      simp only [symA, sy, AV.cells, AV.isTup, startF, Nat.reduceLT, Nat.reduceEqDiff, Nat.reduceAdd, hf3]
      apply hK3
      clear hK3 K3
      simp only [symA, sy, AV.cells, AV.isTup, startF, Nat.reduceLT, Nat.reduceEqDiff, Nat.reduceAdd]
      refine ⟨fun q => ?_, fun q => ?_⟩
      · apply hK2
        clear hK2 K2 hK
        have hun : uvar m = (m % 128 + 128) :: uvar (m / 128) := by rw [uvar, if_neg (by omega)]
        have w1 : IntKind.u8.wrap ((m : Int).tmod 128) = ((m % 128 : Nat) : Int) := by
          rw [Int.tmod_eq_emod_of_nonneg (by omega), wrapU rfl]
          simp only [IntKind.bits]
          omega
        have w2 : IntKind.u8.wrap (((m % 128 : Nat) : Int) + 128) = ((m % 128 + 128 : Nat) : Int) := by
          rw [wrapU rfl]
          simp only [IntKind.bits]
          omega
        have w3 : IntKind.u64.wrap ((m : Int).tdiv 128) = ((m / 128 : Nat) : Int) := by
          rw [Int.tdiv_eq_ediv_of_nonneg (by omega), wrapU rfl]
          simp only [IntKind.bits]
          omega
        refine FC_block (FC_seq fun K hK => ?_)
        obtain ⟨v, H', e1, e2, e3⟩ := hown.append (bytes := 1) (ys := bytesE [m % 128 + 128]) (by rw [hun] at hl10; simp only [bytesE_length, List.length_cons, List.length_nil] at hl10 ⊢; omega)
        simp only [bytesE, List.map_cons, List.map_nil] at e1
        simp only [symA, sy, AV.cells, AV.isTup, startF, Nat.reduceLT, Nat.reduceEqDiff, Nat.reduceAdd, hf3, show ¬ ((128 : Int) = 0) by decide, w1, w2, litA, elemsOf, e1]
        apply hK
        clear hK K
        simp only [symA, sy, AV.cells, AV.isTup, startF, Nat.reduceLT, Nat.reduceEqDiff, Nat.reduceAdd, hf3, show ¬ ((128 : Int) = 0) by decide, w3]
        refine ⟨m / 128, by omega, trivial, pre ++ [m % 128 + 128], rfl, by omega, ?_, ?_⟩
        · rw [bytesE_append]; exact e2
        · rw [← hpre, hun]; simp
      · apply hK
        clear hK2 K2 hK K
        have hle : m ≤ 127 := by omega
        have hun : uvar m = [m] := by rw [uvar, if_pos hle]
        obtain ⟨v, H', e1, e2, e3⟩ := hown.append (bytes := 1) (ys := bytesE [m]) (by simp only [bytesE_length, List.length_cons, List.length_nil]; omega)
        simp only [bytesE, List.map_cons, List.map_nil] at e1
        simp only [symA, sy, AV.cells, AV.isTup, startF, Nat.reduceLT, Nat.reduceEqDiff, Nat.reduceAdd, hf3, lo7 hle, litA, elemsOf, e1]
        refine ⟨rfl, [v], by simp only [resFs, resF, symB, ne_eq, Nat.reduceEqDiff, not_false_eq_true], v, rfl, ?_⟩
        rw [← hpre, hun, bytesE_append]
        exact e2
  clear hK
  refine FC_seq fun K2 hK2 => ?_
  simp only [symA, sy, AV.cells, AV.isTup, startF, Nat.reduceLT, Nat.reduceEqDiff, Nat.reduceAdd]
  apply hK2
  clear hK2 K2
  simp only [symA, sy, AV.cells, AV.isTup, startF, Nat.reduceLT, Nat.reduceEqDiff, Nat.reduceAdd]
  refine ⟨fun q => ?_, fun q => ?_⟩
  · apply hK'
    simp only [symB, ne_eq, Nat.reduceEqDiff, not_false_eq_true]
    have e1 : IntKind.i64.wrap (-1 - n) = -1 - n := wrap_i64 (by omega) (by omega)
    have e2 : IntKind.u64.wrap (-1 - n) = -1 - n := wrap_u64 (by omega) (by omega)
    have e3 : IntKind.u64.wrap ((-1 - n) * 2) = (-1 - n) * 2 := wrap_u64 (by omega) (by omega)
    have e4 : IntKind.u64.wrap ((-1 - n) * 2 + 1) = (zig n : Int) := by
      rw [wrap_u64 (by omega) (by omega)]
      unfold zig
      rw [if_neg (by omega)]
      omega
    rw [e1, e2, e3, e4]
  · apply hK'
    simp only [symB, ne_eq, Nat.reduceEqDiff, not_false_eq_true]
    have e2 : IntKind.u64.wrap n = n := wrap_u64 (by omega) (by omega)
    have e4 : IntKind.u64.wrap (n * 2) = (zig n : Int) := by
      rw [wrap_u64 (by omega) (by omega)]
      unfold zig
      rw [if_pos (by omega)]
      omega
    rw [e2, e4]
/-- ref01.Int -/
theorem rint_ok {n : Int} (h0 : -2^63 ≤ n) (h1 : n < 2^63) (H : Heap) : Sound Tryd.prog gv 43 [.int .i64 n] H (.ret (.lst (H.next + 2) 1 (bytesE (uvar (zig n))))) (H.alloc .tok) :=
  Sound_own gfree rfl (bytesE_ne (uvar_ne _)) (freeLL_bytesE _) (Sound_of_FC mixed is43 (by unfold F43 om oo; simp) (rint_body _ n h0 h1)) H
/-- ref01.Ints -/
theorem rints_ok {l : List Int} (tag : Nat) (hr : ∀ x ∈ l, I64 x) (hl : l.length < 2^30) (H : Heap) :
    Sound Tryd.prog gv 23 [.lst tag 1 (intsE l)] H (.ret (.lst (H.next + 2) 1 (bytesE (encInts l)))) (H.alloc .tok) := by
  refine Sound.tag0 ?_ tag
  refine Sound_own gfree (by simp [freeL, AV.free, freeLL_intsE]) (bytesE_ne (encInts_ne _)) (freeLL_bytesE _) (Sound_of_FC mixed is23 (by unfold F23 om oo; simp) ?_) H
  show FC Tryd.prog gv 22 F23.body _ _ _ (retF [.tmp 2] _)
  unfold F23 om oo
  refine FC_seq fun K hK => ?_
  simp only [symA, sy, AV.cells, AV.isTup, startF, Nat.reduceLT, Nat.reduceEqDiff, Nat.reduceAdd]
  apply hK
  clear hK K
  refine FC_seq fun K hK => ?_
  simp only [symA, sy, AV.cells, AV.isTup, startF, Nat.reduceLT, Nat.reduceEqDiff, Nat.reduceAdd, intsE_length]
  refine FOps_call (by decide) (by simp only [sm, symB, Nat.reduceEqDiff, startF]) (rint_ok (n := (l.length : Int)) (by omega) (by omega) _) ?_
  simp only [symA, sy, AV.cells, AV.isTup, startF, Nat.reduceLT, Nat.reduceEqDiff, Nat.reduceAdd]
  apply hK
  clear hK K
  refine FC_seq fun K hK => ?_
  refine FC_seq fun K hK => ?_
  simp only [symA, sy, AV.cells, AV.isTup, startF, Nat.reduceLT, Nat.reduceEqDiff, Nat.reduceAdd]
  apply hK
  clear hK K
  refine FC_for (id := 0) (c := 11) (fun i f H => f 0 = .lst 0 1 (intsE l) ∧ f 4 = .int .i64 i ∧ Own H 1 (f 3) (bytesE (uvar (zig l.length) ++ (l.take i).flatMap fun x => uvar (zig x)))) l.length ?_ ?_ ?_ ?_
  · refine ⟨by simp only [symB, ne_eq, Nat.reduceEqDiff, not_false_eq_true, startF, List.getD_cons_zero], by simp only [symB, ne_eq, Nat.reduceEqDiff, not_false_eq_true]; rfl, ?_⟩
    simp only [symB, ne_eq, Nat.reduceEqDiff, not_false_eq_true, List.take_zero, List.flatMap_nil, List.append_nil]
    exact Own.fresh _ _ _
  · rintro i f H hi ⟨h1, h2, h3⟩ K hK Q'
    simp only [symA, sy, AV.cells, AV.isTup, startF, Nat.reduceLT, Nat.reduceEqDiff, Nat.reduceAdd, h1, h2, intsE_length]
    refine ⟨trivial, trivial, hK _ ?_ ⟨by simpa only [symB, ne_eq, Nat.reduceEqDiff, not_false_eq_true] using h1, by simpa only [symB, ne_eq, Nat.reduceEqDiff, not_false_eq_true] using h2, by simpa only [symB, ne_eq, Nat.reduceEqDiff, not_false_eq_true] using h3⟩⟩
    simp only [symB, ne_eq, Nat.reduceEqDiff, not_false_eq_true, Int.ofNat_lt]
  · rintro i f H hi ⟨h1, h2, h3⟩
    have hx : I64 (l.getD i 0) := hr _ (by rw [List.getD_eq_getElem?_getD, List.getElem?_eq_getElem hi]; exact List.getElem_mem hi)
    refine FC_block ?_
    simp only [symA, sy, AV.cells, AV.isTup, startF, Nat.reduceLT, Nat.reduceEqDiff, Nat.reduceAdd, h1, h2, asNat_nat, intsE_length, hi, intsE_getD l hi]
    refine FOps_call (by decide) (by simp only [sm, symB, Nat.reduceEqDiff, startF]) (rint_ok (n := l.getD i 0) hx.1 hx.2 _) ?_
    have hlen : (uvar (zig l.length) ++ (l.take i).flatMap fun x => uvar (zig x)).length ≤ 10 + 10 * l.length := by
      have q1 := uvar_len10 (zig_lt (n := (l.length : Int)) (by omega) (by omega))
      have q2 := flat_len (l := l.take i) fun x hx => hr x (List.mem_of_mem_take hx)
      simp only [List.length_append, List.length_take] at q2 ⊢
      omega
    have q3 := uvar_len10 (zig_lt hx.1 hx.2)
    obtain ⟨v, H', a1, a2, a3⟩ := (h3.alloc .tok).append (bytes := 1) (ys := bytesE (uvar (zig (l.getD i 0)))) (by rw [bytesE_length, bytesE_length]; omega)
    simp only [symA, sy, AV.cells, AV.isTup, startF, Nat.reduceLT, Nat.reduceEqDiff, Nat.reduceAdd, elemsOf, a1, h2]
    refine ⟨trivial, trivial, h1, ?_, ?_⟩
    · rw [wrap_i64 (by omega) (by omega)]; rfl
    · rw [encInts_take hi, bytesE_append]; exact a2
  · rintro f H ⟨h1, h2, h3⟩
    simp only [symA, sy, AV.cells, AV.isTup, startF, Nat.reduceLT, Nat.reduceEqDiff, Nat.reduceAdd]
    apply hK
    simp only [symA, sy, AV.cells, AV.isTup, startF, Nat.reduceLT, Nat.reduceEqDiff, Nat.reduceAdd]
    refine ⟨rfl, [f 3], by simp only [resFs, resF, symB, ne_eq, Nat.reduceEqDiff, not_false_eq_true], f 3, rfl, ?_⟩
    rw [List.take_length] at h3
    exact h3
/-- ref01.Digests -/
theorem rdigests_ok {l : List (List Nat)} (tag : Nat) (hr : ∀ x ∈ l, x.length = 16) (hl : l.length < 2^30) (H : Heap) :
    Sound Tryd.prog gv 25 [.lst tag 16 (digsE l)] H (.ret (.lst (H.next + 2) 1 (bytesE (encDigs l)))) (H.alloc .tok) := by
  refine Sound.tag0 ?_ tag
  refine Sound_own gfree (by simp [freeL, AV.free, freeLL_digsE]) (bytesE_ne (encDigs_ne _)) (freeLL_bytesE _) (Sound_of_FC mixed is25 (by unfold F25 om oo; simp) ?_) H
  show FC Tryd.prog gv 21 F25.body _ _ _ (retF [.tmp 2] _)
  unfold F25 om oo
  refine FC_seq fun K hK => ?_
  simp only [symA, sy, AV.cells, AV.isTup, startF, Nat.reduceLT, Nat.reduceEqDiff, Nat.reduceAdd]
  apply hK
  clear hK K
  refine FC_seq fun K hK => ?_
  simp only [symA, sy, AV.cells, AV.isTup, startF, Nat.reduceLT, Nat.reduceEqDiff, Nat.reduceAdd, digsE_length]
  refine FOps_call (by decide) (by simp only [sm, symB, Nat.reduceEqDiff, startF]) (rint_ok (n := (l.length : Int)) (by omega) (by omega) _) ?_
  simp only [symA, sy, AV.cells, AV.isTup, startF, Nat.reduceLT, Nat.reduceEqDiff, Nat.reduceAdd]
  apply hK
  clear hK K
  refine FC_seq fun K hK => ?_
  refine FC_seq fun K hK => ?_
  simp only [symA, sy, AV.cells, AV.isTup, startF, Nat.reduceLT, Nat.reduceEqDiff, Nat.reduceAdd]
  apply hK
  clear hK K
  refine FC_for (id := 0) (c := 11) (fun i f H => f 0 = .lst 0 16 (digsE l) ∧ f 4 = .int .i64 i ∧ Own H 1 (f 3) (bytesE (uvar (zig l.length) ++ (l.take i).flatten))) l.length ?_ ?_ ?_ ?_
  · refine ⟨by simp only [symB, ne_eq, Nat.reduceEqDiff, not_false_eq_true, startF, List.getD_cons_zero], by simp only [symB, ne_eq, Nat.reduceEqDiff, not_false_eq_true]; rfl, ?_⟩
    simp only [symB, ne_eq, Nat.reduceEqDiff, not_false_eq_true, List.take_zero, List.flatten_nil, List.append_nil]
    exact Own.fresh _ _ _
  · rintro i f H hi ⟨h1, h2, h3⟩ K hK Q'
    simp only [symA, sy, AV.cells, AV.isTup, startF, Nat.reduceLT, Nat.reduceEqDiff, Nat.reduceAdd, h1, h2, digsE_length]
    refine ⟨trivial, trivial, hK _ ?_ ⟨by simpa only [symB, ne_eq, Nat.reduceEqDiff, not_false_eq_true] using h1, by simpa only [symB, ne_eq, Nat.reduceEqDiff, not_false_eq_true] using h2, by simpa only [symB, ne_eq, Nat.reduceEqDiff, not_false_eq_true] using h3⟩⟩
    simp only [symB, ne_eq, Nat.reduceEqDiff, not_false_eq_true, Int.ofNat_lt]
  · rintro i f H hi ⟨h1, h2, h3⟩
    have hx : (l.getD i []).length = 16 := hr _ (by rw [List.getD_eq_getElem?_getD, List.getElem?_eq_getElem hi]; exact List.getElem_mem hi)
    have hlen : (uvar (zig l.length) ++ (l.take i).flatten).length ≤ 10 + 16 * l.length := by
      have q1 := uvar_len10 (zig_lt (n := (l.length : Int)) (by omega) (by omega))
      have q2 := flatten_len (l := l.take i) fun x hx => hr x (List.mem_of_mem_take hx)
      simp only [List.length_append, List.length_take] at q2 ⊢
      omega
    have hch : chunkF 1 16 (bytesC (l.getD i [])) = bytesE (l.getD i []) := by rw [← hx]; exact chunk_bytesC _
    obtain ⟨v, H', a1, a2, a3⟩ := h3.append (bytes := 1) (ys := bytesE (l.getD i [])) (by rw [bytesE_length, bytesE_length]; omega)
    refine FC_block ?_
    simp only [symA, sy, AV.cells, AV.isTup, startF, Nat.reduceLT, Nat.reduceEqDiff, Nat.reduceAdd, h1, h2, asNat_nat, digsE_length, hi, digsE_getD l hi, optNat, sliceArrA, Option.getD_none, Nat.zero_le, Option.isSome_none, false_implies, bytesC_length, hx, Nat.mul_one, hch, List.drop_zero, Nat.sub_zero]
    rw [List.take_of_length_le (by rw [bytesE_length]; omega)]
    simp only [symA, sy, AV.cells, AV.isTup, startF, Nat.reduceLT, Nat.reduceEqDiff, Nat.reduceAdd, elemsOf, a1, h2]
    refine ⟨trivial, trivial, by first | exact h1 | trivial, ?_, ?_⟩
    · rw [wrap_i64 (by omega) (by omega)]; rfl
    · rw [encDigs_take hi, bytesE_append]; exact a2
  · rintro f H ⟨h1, h2, h3⟩
    simp only [symA, sy, AV.cells, AV.isTup, startF, Nat.reduceLT, Nat.reduceEqDiff, Nat.reduceAdd]
    apply hK
    simp only [symA, sy, AV.cells, AV.isTup, startF, Nat.reduceLT, Nat.reduceEqDiff, Nat.reduceAdd]
    refine ⟨rfl, [f 3], by simp only [resFs, resF, symB, ne_eq, Nat.reduceEqDiff, not_false_eq_true], f 3, rfl, ?_⟩
    rw [List.take_length] at h3
    exact h3
end Go.Proofs.YtfdaiidepcbemaaDoor
end
section
namespace Go.Proofs.YtfdaiidepcbemaaDoor
open Go Go.Av Go.Av.Pr
set_option maxRecDepth 100000
attribute [local congr] FD2_congr stepK_congr condK_congr guardK_congr FC_congr FOps_congr thenF_congr inBlockF_congr
def digs : List Nat → Nat
  | [] => 0
  | c :: r => c % 128 + 128 * digs r
theorem digs_snoc (l : List Nat) (c : Nat) : digs (l ++ [c]) = digs l + c % 128 * 128 ^ l.length := by
  induction l with
  | nil => simp [digs]
  | cons x l ih =>
    simp only [List.cons_append, digs, ih, List.length_cons, Nat.pow_succ, Nat.mul_add]
    rw [Nat.mul_comm (128 ^ l.length) 128, ← Nat.mul_assoc, ← Nat.mul_assoc, Nat.mul_comm 128 (c % 128)]
    omega
theorem take_snoc {b : List Nat} {k : Nat} (h : k < b.length) : b.take (k + 1) = b.take k ++ [b.getD k 0] := by
  rw [List.take_add_one]
  simp [List.getElem?_eq_getElem h]
theorem uget_lead {b : List Nat} : ∀ {k : Nat}, (∀ j, j < k → 128 ≤ b.getD j 0) → k ≤ 9 → k ≤ b.length → uget 0 b = upto k (digs (b.take k)) (uget k (b.drop k))
  | 0, _, _, _ => by
    rw [List.drop_zero]
    cases uget 0 b with
    | error e => rfl
    | ok p => simp [upto, digs]
  | k + 1, h, h9, hl => by
    rw [uget_lead (k := k) (fun j hj => h j (by omega)) (by omega) (by omega), drop_getD (by omega : k < b.length)]
    have := h k (by omega)
    rw [upto_step (by omega) (by omega), take_snoc (by omega : k < b.length), digs_snoc]
    simp only [List.length_take]
    rw [show min k b.length = k by omega]
theorem digs_split (b : List Nat) (i : Nat) : digs b = digs (b.take i) + 128 ^ i * digs (b.drop i) := by
  induction i generalizing b with
  | zero => simp [digs]
  | succ i ih =>
    cases b with
    | nil => simp [digs]
    | cons c r =>
      simp only [List.take_succ_cons, List.drop_succ_cons, digs]
      rw [ih r, Nat.mul_add, Nat.pow_succ, ← Nat.mul_assoc, Nat.mul_comm 128 (128 ^ i)]
      omega
theorem digs_step {b : List Nat} {i : Nat} (h : i < b.length) : digs (b.drop i) = b.getD i 0 % 128 + 128 * digs (b.drop (i + 1)) := by
  rw [drop_getD h]; rfl
set_option maxHeartbeats 4000000 in
theorem rgetint_ok {b : List Nat} {tag : Nat} (hb : Bytes b) (hl : b.length < 2^40) (H : Heap) : Sound Tryd.prog gv 54 [.lst tag 1 (bytesE b)] H (.ret (gint b).av) H := by
  refine Sound_FC is54 (by unfold F54 om oo; simp) ?_
  show FC Tryd.prog gv 79 F54.body _ _ _ (retF [.tmp 2, .tmp 3, .tmp 4] _)
  unfold F54 om oo
  refine FC_seq fun K hK => ?_
  simp only [symA, sy, AV.cells, AV.isTup, startF, Nat.reduceLT, Nat.reduceEqDiff, Nat.reduceAdd]
  apply hK
  clear hK K
  refine FC_seq fun K hK => ?_
  simp only [symA, sy, AV.cells, AV.isTup, startF, Nat.reduceLT, Nat.reduceEqDiff, Nat.reduceAdd]
  apply hK
  clear hK K
  refine FC_seq fun K hK => ?_
  refine FC_block (FC_loop (fun m f ds h => ds = [] ∧ h = H ∧ ∃ k : Nat, k ≤ 10 ∧ m = 10 - k ∧ f 0 = .lst tag 1 (bytesE b) ∧ f 5 = .int .i64 k ∧ k ≤ b.length ∧ ∀ j, j < k → 128 ≤ b.getD j 0) 10 ?_ ?_)
  · exact ⟨rfl, rfl, 0, by omega, by omega, by simp only [symB, ne_eq, Nat.reduceEqDiff, not_false_eq_true, startF, List.getD_cons_zero], by simp only [symB, ne_eq, Nat.reduceEqDiff, not_false_eq_true]; rfl, by omega, fun j hj => by omega⟩
  rintro m f ds h ⟨rfl, rfl, k, hk10, rfl, h0, h5, hkl, hlead⟩
  refine FC_seq fun K2 hK2 => ?_
  refine FC_seq fun K3 hK3 => ?_
  obtain ⟨q, hq⟩ : ∃ q, q = decide (k < b.length ∧ k < 10 ∧ 128 ≤ b.getD k 0) := ⟨_, rfl⟩
  have hK3' : ∀ f' : Slt, f' 22 = .bool q → f' 0 = .lst tag 1 (bytesE b) → f' 5 = .int .i64 k → K3 f' [] h := by
    intro f' g22 g0 g5
    apply hK3
    rw [hq] at g22
    simp only [symA, sy, AV.cells, AV.isTup, startF, Nat.reduceLT, Nat.reduceEqDiff, Nat.reduceAdd, g22]
    refine ⟨fun c => ?_, fun c => ?_⟩
    · apply hK2
      simp only [FC_blockE, symA, sy, AV.cells, AV.isTup, startF, Nat.reduceLT, Nat.reduceEqDiff, Nat.reduceAdd, g5]
      refine ⟨10 - (k + 1), by omega, trivial, trivial, k + 1, by omega, rfl, g0, ?_, by omega, fun j hj => ?_⟩
      · rw [wrap_i64 (by omega) (by omega)]; rfl
      · by_cases hjk : j = k
        · subst hjk; exact c.2.2
        · exact hlead j (by omega)
    · apply hK
      clear hK3 K3 hK2 K2 hK K
      refine FC_seq fun K hK => ?_
      simp only [symA, sy, AV.cells, AV.isTup, startF, Nat.reduceLT, Nat.reduceEqDiff, Nat.reduceAdd, g5]
      by_cases c10 : k = 10
      · have hu : uget 0 b = .error 11 := by
          rw [uget_lead (k := 9) (fun j hj => hlead j (by omega)) (by omega) (by omega), drop_getD (by omega : 9 < b.length)]
          have := hlead 9 (by omega)
          unfold uget
          rw [if_pos (.inl ⟨rfl, by omega⟩)]
          rfl
        simp only [symA, sy, AV.cells, AV.isTup, startF, Nat.reduceLT, Nat.reduceEqDiff, Nat.reduceAdd, show ((k : Int) == 10) = true by rw [c10]; rfl]
        refine ⟨rfl, _, by simp only [resFs, resF, symB, ne_eq, Nat.reduceEqDiff, not_false_eq_true]; rfl, ?_, rfl⟩
        simp only [gint, hu, Got.av]
        rfl
      · simp only [symA, sy, AV.cells, AV.isTup, startF, Nat.reduceLT, Nat.reduceEqDiff, Nat.reduceAdd, show ((k : Int) == 10) = false by simp; omega]
        apply hK
        clear hK K
        refine FC_seq fun K hK => ?_
        simp only [symA, sy, AV.cells, AV.isTup, startF, Nat.reduceLT, Nat.reduceEqDiff, Nat.reduceAdd, g5, g0, bytesE_length]
        by_cases cl : k = b.length
        · have hu : uget 0 b = .error 10 := by
            rw [uget_lead (k := k) hlead (by omega) hkl, cl, List.drop_length]
            rfl
          simp only [symA, sy, AV.cells, AV.isTup, startF, Nat.reduceLT, Nat.reduceEqDiff, Nat.reduceAdd, show ((k : Int) == (b.length : Int)) = true by rw [cl]; simp]
          refine ⟨rfl, _, by simp only [resFs, resF, symB, ne_eq, Nat.reduceEqDiff, not_false_eq_true]; rfl, ?_, rfl⟩
          simp only [gint, hu, Got.av]
          rfl
        · simp only [symA, sy, AV.cells, AV.isTup, startF, Nat.reduceLT, Nat.reduceEqDiff, Nat.reduceAdd, show ((k : Int) == (b.length : Int)) = false by simp; omega]
          apply hK
          clear hK K
          have hkl' : k < b.length := by omega
          obtain ⟨c', hc'⟩ : ∃ c', b.getD k 0 = c' := ⟨_, rfl⟩
          rw [hc'] at c
          have hc128 : c' < 128 := by omega
          have hu0 := uget_lead (k := k) hlead (by omega) hkl
          rw [drop_getD hkl', hc'] at hu0
          conv at hu0 => rhs; unfold uget
          refine FC_seq fun K hK => ?_
          refine FC_seq fun K4 hK4 => ?_
          obtain ⟨q1, hq1⟩ : ∃ q, ((k:Int) == 9) = q := ⟨_, rfl⟩
          obtain ⟨q2, hq2⟩ : ∃ q, decide ((c':Int) > 1) = q := ⟨_, rfl⟩
          obtain ⟨q3, hq3⟩ : ∃ q, decide ((k:Int) > 0) = q := ⟨_, rfl⟩
          obtain ⟨q4, hq4⟩ : ∃ q, ((c':Int) == 0) = q := ⟨_, rfl⟩
          have hE : ((q1 && q2) || (q3 && q4)) = decide ((k = 9 ∧ 1 < c') ∨ (0 < k ∧ c' = 0)) := by
            rw [← hq1, ← hq2, ← hq3, ← hq4, Bool.eq_iff_iff]
            simp
            omega
          have hK4' : ∀ f' : Slt, f' 50 = .bool ((q1 && q2) || (q3 && q4)) → f' 0 = .lst tag 1 (bytesE b) → f' 5 = .int .i64 k → K4 f' [] h := by
            intro f' g50 g0 g5
            apply hK4
            rw [hE] at g50
            simp only [symA, sy, AV.cells, AV.isTup, startF, Nat.reduceLT, Nat.reduceEqDiff, Nat.reduceAdd, g50]
            refine ⟨fun d => ?_, fun d => ?_⟩
            · rw [if_pos d] at hu0
              refine ⟨rfl, _, by simp only [resFs, resF, symB, ne_eq, Nat.reduceEqDiff, not_false_eq_true]; rfl, ?_, rfl⟩
              simp only [gint, hu0, upto, Got.av]
              rfl
            · rw [if_neg d, if_pos hc128] at hu0
              simp only [upto] at hu0
              have hz64 := uget_ok b 0 _ _ (by omega) hu0
              have hzd : digs (b.take (k + 1)) = digs (b.take k) + 128 ^ k * c' := by
                rw [take_snoc hkl', digs_snoc, hc', Nat.mod_eq_of_lt hc128]
                simp only [List.length_take]
                rw [show min k b.length = k by omega, Nat.mul_comm c']
              rw [← hzd] at hu0 hz64
              have hlen : (b.take (k + 1)).length = k + 1 := by simp; omega
              apply hK
              clear hK4 K4 hK K
              obtain ⟨z, hz⟩ : ∃ z, digs (b.take (k + 1)) = z := ⟨_, rfl⟩
              rw [hz] at hu0 hz64
              simp only [Nat.pow_zero, Nat.mul_one] at hz64
              refine FC_seq fun K hK => ?_
              simp only [symA, sy, AV.cells, AV.isTup, startF, Nat.reduceLT, Nat.reduceEqDiff, Nat.reduceAdd]
              apply hK
              clear hK K
              refine FC_seq fun K hK => ?_
              refine FC_seq fun K hK => ?_
              simp only [symA, sy, AV.cells, AV.isTup, startF, Nat.reduceLT, Nat.reduceEqDiff, Nat.reduceAdd, g5]
              apply hK
              clear hK K
              refine FC_block (FC_loop (fun m f ds h' => ds = [] ∧ h' = h ∧ ∃ i : Nat, m = i ∧ i ≤ k + 1 ∧ f 0 = .lst tag 1 (bytesE b) ∧ f 5 = .int .i64 k ∧ f 7 = .int .i64 ((i : Int) - 1) ∧ f 6 = .int .u64 (digs ((b.take (k + 1)).drop i))) (k + 1) ?_ ?_)
              · refine ⟨rfl, rfl, k + 1, rfl, Nat.le_refl _, by simp only [symB, ne_eq, Nat.reduceEqDiff, not_false_eq_true]; exact g0, by simp only [symB, ne_eq, Nat.reduceEqDiff, not_false_eq_true]; exact g5, by simp only [symB, ne_eq, Nat.reduceEqDiff, not_false_eq_true]; simp, ?_⟩
                simp only [symB, ne_eq, Nat.reduceEqDiff, not_false_eq_true]
                rw [List.drop_of_length_le (by omega)]
                rfl
              rintro m f ds h' ⟨rfl, rfl, i, hmi, hi, g0, g5, g7, g6⟩
              obtain rfl := hmi.symm
              refine FC_seq fun K2 hK2 => ?_
              refine FC_seq fun K3 hK3 => ?_
              simp only [symA, sy, AV.cells, AV.isTup, startF, Nat.reduceLT, Nat.reduceEqDiff, Nat.reduceAdd, g7]
              apply hK3
              clear hK3 K3
              simp only [symA, sy, AV.cells, AV.isTup, startF, Nat.reduceLT, Nat.reduceEqDiff, Nat.reduceAdd, ge_iff_le]
              refine ⟨fun d0 => ?_, fun d0 => ?_⟩
              · apply hK2
                obtain ⟨i', rfl⟩ : ∃ i', i = i' + 1 := ⟨i - 1, by omega⟩
                have hgd : (b.take (k + 1)).getD i' 0 = b.getD i' 0 := by
                  simp only [List.getD_eq_getElem?_getD, List.getElem?_take]
                  rw [if_pos (by omega)]
                have hst := digs_step (b := b.take (k + 1)) (i := i') (by omega)
                rw [hgd] at hst
                have hsp := digs_split (b.take (k + 1)) i'
                rw [hz] at hsp
                have hpp : 1 ≤ 128 ^ i' := Nat.pow_pos (by omega)
                have hle : digs ((b.take (k + 1)).drop i') ≤ z := by
                  rw [hsp]
                  exact Nat.le_trans (Nat.le_mul_of_pos_left _ hpp) (Nat.le_add_left _ _)
                have e7 : ((i' + 1 : Nat) : Int) - 1 = (i' : Int) := by omega
                obtain ⟨x, hx⟩ : ∃ x, b.getD i' 0 = x := ⟨_, rfl⟩
                have hx256 : x < 256 := by rw [← hx, List.getD_eq_getElem?_getD, List.getElem?_eq_getElem (by omega : i' < b.length)]; exact hb _ (List.getElem_mem _)
                obtain ⟨y, hy⟩ : ∃ y, digs ((b.take (k + 1)).drop (i' + 1)) = y := ⟨_, rfl⟩
                rw [hx, hy] at hst
                rw [hy] at g6
                rw [e7] at g7
                have w1 : IntKind.u64.wrap ((y : Int) * 128) = ((y * 128 : Nat) : Int) := by rw [wrap_u64 (by omega) (by omega)]; simp
                have w2 : IntKind.u64.wrap ((x : Int).tmod 128) = ((x % 128 : Nat) : Int) := by
                  rw [Int.tmod_eq_emod_of_nonneg (by omega), wrap_u64 (by omega) (by omega)]; simp
                have w3 : IntKind.u64.wrap (((y * 128 : Nat) : Int) + ((x % 128 : Nat) : Int)) = ((digs ((b.take (k + 1)).drop i') : Nat) : Int) := by
                  rw [hst, wrap_u64 (by omega) (by omega)]; omega
                simp only [FC_blockE, symA, sy, AV.cells, AV.isTup, startF, Nat.reduceLT, Nat.reduceEqDiff, Nat.reduceAdd, g6, g0, g7, asNat_nat, bytesE_length, show i' < b.length by omega, bytesE_getD b (show i' < b.length by omega), hx, show ¬ ((128 : Int) = 0) by decide, w1, w2, w3]
                refine ⟨i', by omega, trivial, trivial, i', rfl, by omega, by first | exact g0 | trivial, by first | exact g5 | trivial, ?_, rfl⟩
                rw [wrap_i64 (by omega) (by omega)]
              · obtain rfl : i = 0 := by omega
                rw [List.drop_zero, hz] at g6
                apply hK
                clear hK2 K2 hK K
                have r2 : ((z : Int).tmod 2) = ((z % 2 : Nat) : Int) := by rw [Int.tmod_eq_emod_of_nonneg (by omega)]; simp
                have r3 : IntKind.i64.wrap (IntKind.u64.wrap ((z : Int).tdiv 2)) = ((z / 2 : Nat) : Int) := by
                  rw [Int.tdiv_eq_ediv_of_nonneg (by omega), wrap_u64 (by omega) (by omega), wrap_i64 (by omega) (by omega)]; simp
                have r4 : IntKind.i64.wrap ((k : Int) + 1) = ((k + 1 : Nat) : Int) := by rw [wrap_i64 (by omega) (by omega)]; rfl
                refine FC_seq fun K hK => ?_
                rcases Nat.mod_two_eq_zero_or_one z with h2 | h2
                · simp only [symA, sy, AV.cells, AV.isTup, startF, Nat.reduceLT, Nat.reduceEqDiff, Nat.reduceAdd, g6, show ¬ ((2 : Int) = 0) by decide, r2, h2, show (((0 : Nat) : Int) == 1) = false from rfl]
                  apply hK
                  simp only [symA, sy, AV.cells, AV.isTup, startF, Nat.reduceLT, Nat.reduceEqDiff, Nat.reduceAdd, g5, g6, show ¬ ((2 : Int) = 0) by decide, r3, r4]
                  refine ⟨rfl, _, by simp only [resFs, resF, symB, ne_eq, Nat.reduceEqDiff, not_false_eq_true]; rfl, ?_, rfl⟩
                  simp only [gint, hu0, Got.av, unzig, h2]
                  rfl
                · simp only [symA, sy, AV.cells, AV.isTup, startF, Nat.reduceLT, Nat.reduceEqDiff, Nat.reduceAdd, g5, g6, show ¬ ((2 : Int) = 0) by decide, r2, h2, show (((1 : Nat) : Int) == 1) = true from rfl, r3, r4]
                  refine ⟨rfl, _, by simp only [resFs, resF, symB, ne_eq, Nat.reduceEqDiff, not_false_eq_true]; rfl, ?_, rfl⟩
                  simp only [gint, hu0, Got.av, unzig, h2, show ¬ ((1 : Nat) = 0) by decide, if_false]
                  show Out.ret (.tup _) = _
                  rw [wrap_i64 (by omega) (by omega), show -1 - ((z / 2 : Nat) : Int) = -((z / 2 : Nat) : Int) - 1 by omega]
          cases q1 <;> cases q2 <;> cases q3 <;> cases q4 <;> simp (maxSteps := 1000000) only [symA, sy, AV.cells, AV.isTup, startF, Nat.reduceLT, Nat.reduceEqDiff, Nat.reduceAdd, g0, g5, asNat_nat, bytesE_length, hkl', bytesE_getD b hkl', hc', hq1, hq2, hq3, hq4] <;> apply hK4' <;> simp only [symB, ne_eq, Nat.reduceEqDiff, not_false_eq_true, g0, g5, Bool.and_true, Bool.and_false, Bool.or_true, Bool.or_false, Bool.false_and, Bool.true_and]
  have e1 : decide ((k : Int) < (b.length : Int)) = decide (k < b.length) := decide_eq_decide.mpr (by omega)
  have e2 : decide ((k : Int) < 10) = decide (k < 10) := decide_eq_decide.mpr (by omega)
  by_cases c1 : k < b.length
  · by_cases c2 : k < 10
    · have e3 : decide (((b.getD k 0 : Nat) : Int) ≥ 128) = q := by rw [hq]; exact decide_eq_decide.mpr ⟨fun h => ⟨c1, c2, by omega⟩, fun h => by have := h.2.2; omega⟩
      simp only [symA, sy, AV.cells, AV.isTup, startF, Nat.reduceLT, Nat.reduceEqDiff, Nat.reduceAdd, h0, h5, bytesE_length, e1, e2, e3, decide_eq_true c1, decide_eq_true c2, asNat_nat, c1, bytesE_getD b c1]
      apply hK3' <;> simp only [symB, ne_eq, Nat.reduceEqDiff, not_false_eq_true, h0, h5, if_true]
    · have e3 : q = false := by rw [hq]; simp [c2]
      simp only [symA, sy, AV.cells, AV.isTup, startF, Nat.reduceLT, Nat.reduceEqDiff, Nat.reduceAdd, h0, h5, bytesE_length, e1, e2, decide_eq_true c1, decide_eq_false c2]
      apply hK3' <;> simp only [symB, ne_eq, Nat.reduceEqDiff, not_false_eq_true, h0, h5, e3]
  · have e3 : q = false := by rw [hq]; simp [c1]
    simp only [symA, sy, AV.cells, AV.isTup, startF, Nat.reduceLT, Nat.reduceEqDiff, Nat.reduceAdd, h0, h5, bytesE_length, e1, e2, decide_eq_false c1]
    apply hK3' <;> simp only [symB, ne_eq, Nat.reduceEqDiff, not_false_eq_true, h0, h5, e3]
end Go.Proofs.YtfdaiidepcbemaaDoor
end
section
namespace Go.Proofs.YtfdaiidepcbemaaDoor
open Go Go.Av Go.Av.Pr
set_option maxRecDepth 100000
attribute [local congr] FD2_congr stepK_congr condK_congr guardK_congr FC_congr FOps_congr thenF_congr inBlockF_congr
theorem bne_dec (x : Int) : (x != 0) = decide (x ≠ 0) := by simp [bne, Bool.beq_eq_decide_eq]
theorem rlength_ok {b : List Nat} {tag least : Nat} (hb : Bytes b) (hl : b.length < 2^40) (h0 : 0 < least) (H : Heap) : Sound Tryd.prog gv 53 [.lst tag 1 (bytesE b), .int .i64 least] H (.ret (glen b least).av) H := by
  refine Sound_FC is53 (by unfold F53 om oo; simp) ?_
  show FC Tryd.prog gv 31 F53.body _ _ _ (retF [.tmp 4, .tmp 5, .tmp 6] _)
  unfold F53 om oo
  refine FC_seq fun K hK => ?_
  simp only [symA, sy, AV.cells, AV.isTup, startF, Nat.reduceLT, Nat.reduceEqDiff, Nat.reduceAdd]
  apply hK
  clear hK K
  refine FC_seq fun K hK => ?_
  simp only [symA, sy, AV.cells, AV.isTup, startF, Nat.reduceLT, Nat.reduceEqDiff, Nat.reduceAdd]
  refine FOps_call (by decide) (by simp only [sm, symB, Nat.reduceEqDiff, startF]) (rgetint_ok (b := b) (tag := tag) hb hl H) ?_
  simp only [symA, sy, AV.cells, AV.isTup, startF, Nat.reduceLT, Nat.reduceEqDiff, Nat.reduceAdd, Got.av]
  apply hK
  clear hK K
  have hok := fun h => gint_ok (b := b) h
  have hsub := fun h => len_sub (b := b) (least := least) hl h0 h
  have h00 : ¬ ((least : Int) = 0) := by omega
  obtain ⟨g, hg⟩ : ∃ g, gint b = g := ⟨_, rfl⟩
  rw [hg] at hok hsub
  simp only [hg]
  refine FC_seq fun K hK => ?_
  simp only [symA, sy, AV.cells, AV.isTup, startF, Nat.reduceLT, Nat.reduceEqDiff, Nat.reduceAdd, bne_dec]
  refine ⟨fun q1 => ?_, fun q1 => ?_⟩
  · refine ⟨rfl, _, by simp only [resFs, resF, symB, ne_eq, Nat.reduceEqDiff, not_false_eq_true]; rfl, ?_, rfl⟩
    simp only [glen, hg]; rw [if_pos q1]
    rfl
  · apply hK
    clear hK K
    have hok' := hok (by simpa using q1)
    have hsub' := hsub hok'.2.1
    refine FC_seq fun K hK => ?_
    simp only [symA, sy, AV.cells, AV.isTup, startF, Nat.reduceLT, Nat.reduceEqDiff, Nat.reduceAdd]
    refine ⟨fun q2 => ?_, fun q2 => ?_⟩
    · refine ⟨rfl, _, by simp only [resFs, resF, symB, ne_eq, Nat.reduceEqDiff, not_false_eq_true]; rfl, ?_, rfl⟩
      simp only [glen, hg]; rw [if_neg q1, if_pos q2]
      rfl
    · apply hK
      clear hK K
      refine FC_seq fun K hK => ?_
      simp only [symA, sy, AV.cells, AV.isTup, startF, Nat.reduceLT, Nat.reduceEqDiff, Nat.reduceAdd, bytesE_length, hsub', h00]
      refine ⟨fun q3 => ?_, fun q3 => ?_⟩
      · refine ⟨rfl, _, by simp only [resFs, resF, symB, ne_eq, Nat.reduceEqDiff, not_false_eq_true]; rfl, ?_, rfl⟩
        simp only [glen, hg]; rw [if_neg q1, if_neg q2, if_pos q3]
        rfl
      · apply hK
        clear hK K
        simp only [symA, sy, AV.cells, AV.isTup, startF, Nat.reduceLT, Nat.reduceEqDiff, Nat.reduceAdd]
        refine ⟨rfl, _, by simp only [resFs, resF, symB, ne_eq, Nat.reduceEqDiff, not_false_eq_true]; rfl, ?_, rfl⟩
        simp only [glen, hg]; rw [if_neg q1, if_neg q2, if_neg q3]
        have : g.e = 0 := by simpa using q1
        show _ = Out.ret g.av
        simp only [retA, Got.av, this]
theorem rgetints_body (b : List Nat) (tag : Nat) (hb : Bytes b) (hl : b.length < 2^36) : FC Tryd.prog gv 47 F31.body (startF [.lst tag 1 (bytesE b)]) [] ⟨0, .nil⟩
    (retF [.tmp 2, .tmp 3, .tmp 4] fun o H => ∃ v, o = .ret (.tup (v :: [.int .i64 (gints b).n, .int .i64 (gints b).e])) ∧ OwnN H 1 v (intsE (gints b).l)) := by
  unfold F31 om oo
  refine FC_seq fun K hK => ?_
  simp only [symA, sy, AV.cells, AV.isTup, startF, Nat.reduceLT, Nat.reduceEqDiff, Nat.reduceAdd]
  apply hK
  clear hK K
  refine FC_seq fun K hK => ?_
  simp only [symA, sy, AV.cells, AV.isTup, startF, Nat.reduceLT, Nat.reduceEqDiff, Nat.reduceAdd]
  have hS70 : Sound Tryd.prog gv 53 [.lst tag 1 (bytesE b), .int .i64 1] ⟨0, .nil⟩ _ _ := rlength_ok (b := b) (tag := tag) (least := 1) hb (by omega) (by omega) _
  refine FOps_call (by decide) (by simp only [sm, symB, Nat.reduceEqDiff, startF]) (hS70) ?_
  simp only [symA, sy, AV.cells, AV.isTup, startF, Nat.reduceLT, Nat.reduceEqDiff, Nat.reduceAdd, Got.av]
  apply hK
  clear hK K
  have hgi : gints b = _ := rfl
  conv at hgi => rhs; unfold gints
  have hok := fun h => glen_ok (b := b) (least := 1) h
  obtain ⟨g, hg⟩ : ∃ g, glen b 1 = g := ⟨_, rfl⟩
  rw [hg] at hok hgi
  simp only [hg]
  refine FC_seq fun K hK => ?_
  simp only [symA, sy, AV.cells, AV.isTup, startF, Nat.reduceLT, Nat.reduceEqDiff, Nat.reduceAdd, bne_dec]
  refine ⟨fun q1 => ?_, fun q1 => ?_⟩
  · refine ⟨rfl, _, by simp only [resFs, resF, symB, ne_eq, Nat.reduceEqDiff, not_false_eq_true]; rfl, .nilsl, ?_, ?_⟩
    · rw [hgi, if_pos q1]; rfl
    · rw [hgi, if_pos q1]; exact OwnN.nil _ _
  · apply hK
    clear hK K
    have ge0 : g.e = 0 := by simpa using q1
    obtain ⟨o1, o2, o3, o4⟩ := hok ge0
    rw [if_neg q1] at hgi
    obtain ⟨N, hN⟩ : ∃ N : Nat, g.v = N := ⟨g.v.toNat, by omega⟩
    have hN' : N ≤ b.length := by rw [hN] at o4; simp at o4; omega
    rw [hN, Int.toNat_natCast] at hgi
    refine FC_seq fun K hK => ?_
    simp only [symA, sy, AV.cells, AV.isTup, startF, Nat.reduceLT, Nat.reduceEqDiff, Nat.reduceAdd]
    apply hK
    clear hK K
    refine FC_seq fun K hK => ?_
    refine FC_seq fun K hK => ?_
    simp only [symA, sy, AV.cells, AV.isTup, startF, Nat.reduceLT, Nat.reduceEqDiff, Nat.reduceAdd]
    apply hK
    clear hK K
    refine FC_for (id := 0) (c := 24) (fun i f h => f 0 = .lst tag 1 (bytesE b) ∧ f 5 = .int .i64 N ∧ f 9 = .int .i64 i ∧ ∃ (acc : List Int) (a : Nat), f 6 = .int .i64 a ∧ a ≤ b.length ∧ OwnN h 1 (f 8) (intsE acc) ∧ acc.length = i ∧ gmany b N g.n = uptoL acc (gmany b (N - i) a)) N ?_ ?_ ?_ ?_
    · refine ⟨by simp only [symB, ne_eq, Nat.reduceEqDiff, not_false_eq_true, startF, List.getD_cons_zero], by simp only [symB, ne_eq, Nat.reduceEqDiff, not_false_eq_true, hN], by simp only [symB, ne_eq, Nat.reduceEqDiff, not_false_eq_true]; rfl, [], g.n, by simp only [symB, ne_eq, Nat.reduceEqDiff, not_false_eq_true], o2, by simp only [symB, ne_eq, Nat.reduceEqDiff, not_false_eq_true]; exact OwnN.nil _ _, rfl, ?_⟩
      rw [Nat.sub_zero]
      cases gmany b N g.n <;> rfl
    · rintro i f H hi ⟨h1, h2, h3, acc, a, h4, h5, h6, h7, h8⟩ K hK Q'
      simp only [symA, sy, AV.cells, AV.isTup, startF, Nat.reduceLT, Nat.reduceEqDiff, Nat.reduceAdd, h2, h3]
      refine ⟨trivial, trivial, hK _ ?_ ⟨by simpa only [symB, ne_eq, Nat.reduceEqDiff, not_false_eq_true] using h1, by simpa only [symB, ne_eq, Nat.reduceEqDiff, not_false_eq_true] using h2, by simpa only [symB, ne_eq, Nat.reduceEqDiff, not_false_eq_true] using h3, acc, a, by simpa only [symB, ne_eq, Nat.reduceEqDiff, not_false_eq_true] using h4, h5, by simpa only [symB, ne_eq, Nat.reduceEqDiff, not_false_eq_true] using h6, h7, h8⟩⟩
      simp only [symB, ne_eq, Nat.reduceEqDiff, not_false_eq_true, Int.ofNat_lt]
    · rintro i f h hi ⟨h1, h2, h3, acc, a, h4, h5, h6, h7, h8⟩
      refine FC_block (FC_seq fun K2 hK2 => ?_)
      obtain ⟨tag', -, hsl⟩ := slice_from tag 1 (els := bytesE b) (a := a) (by rw [bytesE_length]; exact h5)
      rw [bytesE_drop] at hsl
      simp only [symA, sy, AV.cells, AV.isTup, startF, Nat.reduceLT, Nat.reduceEqDiff, Nat.reduceAdd, h1, h4, optNat, asNat_nat, hsl, Option.isSome_none, false_implies]
      refine FOps_call (by decide) (by simp only [sm, symB, Nat.reduceEqDiff, startF]) (rgetint_ok (b := b.drop a) (tag := tag') (hb.drop a) (by simp; omega) h) ?_
      have gok := fun h => gint_ok (b := b.drop a) h
      obtain ⟨M, hM⟩ : ∃ M, N - i = M + 1 := ⟨N - i - 1, by omega⟩
      rw [hM] at h8
      have hmn : gmany b (M + 1) a = _ := rfl
      conv at hmn => rhs; unfold gmany
      obtain ⟨x, hx⟩ : ∃ x, gint (b.drop a) = x := ⟨_, rfl⟩
      rw [hx] at hmn gok
      simp only [symA, sy, AV.cells, AV.isTup, startF, Nat.reduceLT, Nat.reduceEqDiff, Nat.reduceAdd, Got.av, hx]
      apply hK2
      clear hK2 K2
      refine FC_seq fun K2 hK2 => ?_
      simp only [symA, sy, AV.cells, AV.isTup, startF, Nat.reduceLT, Nat.reduceEqDiff, Nat.reduceAdd, bne_dec]
      refine ⟨fun q2 => ?_, fun q2 => ?_⟩
      · rw [if_pos q2] at hmn
        refine ⟨rfl, _, by simp only [resFs, resF, symB, ne_eq, Nat.reduceEqDiff, not_false_eq_true]; rfl, .nilsl, ?_, ?_⟩
        · rw [hgi, h8, hmn]; rfl
        · rw [hgi, h8, hmn]; exact OwnN.nil _ _
      · rw [if_neg q2] at hmn
        obtain ⟨g1, g2, g3, g4⟩ := gok (by simpa using q2)
        simp only [List.length_drop] at g2
        apply hK2
        clear hK2 K2
        obtain ⟨v', H', a1, a2, a3⟩ := h6.append (bytes := 8) (e := [.int .i64 x.v]) (by rw [intsE_length]; omega)
        simp only [symA, sy, AV.cells, AV.isTup, startF, Nat.reduceLT, Nat.reduceEqDiff, Nat.reduceAdd, litA, elemsOf, a1, h3, h4]
        refine ⟨trivial, trivial, h1, h2, ?_, acc ++ [x.v], a + x.n, ?_, by omega, ?_, by simp [h7], ?_⟩
        · rw [wrap_i64 (by omega) (by omega)]; rfl
        · rw [wrap_i64 (by omega) (by omega)]; simp
        · rw [intsE_append]; exact a2
        · rw [h8, hmn, show M = N - (i + 1) by omega]
          cases gmany b (N - (i + 1)) (a + x.n) with
          | error e => rfl
          | ok p => simp [uptoL]
    · rintro f h ⟨h1, h2, h3, acc, a, h4, h5, h6, h7, h8⟩
      simp only [symA, sy, AV.cells, AV.isTup, startF, Nat.reduceLT, Nat.reduceEqDiff, Nat.reduceAdd]
      apply hK
      clear hK K
      rw [Nat.sub_self] at h8
      simp only [gmany, uptoL, List.append_nil] at h8
      simp only [symA, sy, AV.cells, AV.isTup, startF, Nat.reduceLT, Nat.reduceEqDiff, Nat.reduceAdd]
      refine ⟨rfl, _, by simp only [resFs, resF, symB, ne_eq, Nat.reduceEqDiff, not_false_eq_true]; rfl, f 8, ?_, ?_⟩
      · rw [hgi, h8, h4]; rfl
      · rw [hgi, h8]; exact h6
/-- ref01.GetInts -/
theorem rgetints_ok {b : List Nat} {tag : Nat} (hb : Bytes b) (hl : b.length < 2^36) (H : Heap) : Sound Tryd.prog gv 31 [.lst tag 1 (bytesE b)] H
    (.ret (.tup (ownV H 1 (intsE (gints b).l) :: [.int .i64 (gints b).n, .int .i64 (gints b).e]))) (ownH H (intsE (gints b).l)) := by
  refine Sound.tag0 (Sound_ownT gfree (by simp [freeL, AV.free, freeLL_bytesE]) ?_ (freeLL_intsE _) (Sound_of_FC mixed is31 (by unfold F31 om oo; simp) (rgetints_body b 0 hb hl)) H) tag
  intro x hx
  simp only [List.mem_cons, List.not_mem_nil, or_false] at hx
  rcases hx with rfl | rfl <;> exact ⟨_, _, rfl⟩
end Go.Proofs.YtfdaiidepcbemaaDoor
end
