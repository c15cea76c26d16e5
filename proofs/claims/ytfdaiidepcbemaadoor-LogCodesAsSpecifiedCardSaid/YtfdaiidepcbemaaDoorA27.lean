/-
  CONTRACTS: numbers as bytes.
  CONTRACTS: lists as bytes.
  PLAIN LAWS: numbers as bytes, read back.
  PLAIN LAWS: operations on machine words, as operations on natural numbers.
-/
import Derived.Test.YtfdaiidepcbemaaDoorA20
import Derived.Test.YtfdaiidepcbemaaDoorA26
import Derived.Test.YtfdaiidepcbemaaDoorA21
import Derived.Test.YtfdaiidepcbemaaDoorA22
set_option linter.unusedVariables false
set_option linter.unusedSimpArgs false
section
namespace Go.Proofs.YtfdaiidepcbemaaDoor
open Go Go.Av Go.Av.Pr
set_option maxRecDepth 100000
attribute [local congr] stepK_congr
def uvar (z : Nat) : List Nat := if z ≤ 127 then [z] else (z % 128 + 128) :: uvar (z / 128)
termination_by z
def zig (n : Int) : Nat := if 0 ≤ n then (2 * n).toNat else (-2 * n - 1).toNat
theorem zig_lt {n : Int} (h0 : -2^63 ≤ n) (h1 : n < 2^63) : zig n < 2^64 := by
  unfold zig
  split <;> omega
theorem uvar_len : ∀ (k z : Nat), z < 128 ^ (k + 1) → (uvar z).length ≤ k + 1
  | 0, z, h => by
    rw [uvar, if_pos (by omega)]
    simp
  | k + 1, z, h => by
    rw [uvar]
    split
    · simp
    · have := uvar_len k (z / 128) (by rw [Nat.pow_succ] at h; omega)
      simp only [List.length_cons]
      omega
theorem uvar_len10 {z : Nat} (h : z < 2 ^ 64) : (uvar z).length ≤ 10 := uvar_len 9 z (by omega)
theorem wrap_u64 {x : Int} (h0 : 0 ≤ x) (h1 : x < 2^64) : IntKind.u64.wrap x = x := by
  simp only [IntKind.wrap, IntKind.bits, IntKind.signed]
  simp
  omega
theorem or128 (m : Nat) : IntKind.u8.wrap ↑(BitVec.ofInt IntKind.u8.bits (IntKind.u8.wrap ↑m) ||| BitVec.ofInt IntKind.u8.bits 128).toNat = ((m % 128 + 128 : Nat) : Int) := by
  have h : ∀ k : Fin 256, IntKind.u8.wrap ↑(BitVec.ofInt 8 ((k : Nat) : Int) ||| BitVec.ofInt 8 128).toNat = (((k : Nat) % 128 + 128 : Nat) : Int) := by decide +kernel
  have hm : IntKind.u8.wrap ↑m = ((m % 256 : Nat) : Int) := by
    simp only [IntKind.wrap, IntKind.bits, IntKind.signed]
    simp
  rw [hm]
  have := h ⟨m % 256, Nat.mod_lt _ (by omega)⟩
  simp only at this
  show IntKind.u8.wrap ↑(BitVec.ofInt 8 _ ||| BitVec.ofInt 8 128).toNat = _
  rw [this]
  congr 2
  omega
theorem shr7 (m : Nat) : (m : Int).fdiv (2 ^ min (Int.toNat 7) IntKind.u64.bits) = ((m / 128 : Nat) : Int) := by
  have h : (2 : Int) ^ min (Int.toNat 7) IntKind.u64.bits = 128 := by decide
  rw [h, Int.fdiv_eq_ediv_of_nonneg _ (by omega)]
  omega
theorem lo7 {m : Nat} (h : m ≤ 127) : IntKind.u8.wrap ↑m = ((m : Nat) : Int) := by
  simp only [IntKind.wrap, IntKind.bits, IntKind.signed]
  simp
  omega
theorem wrap_u64' (x : Int) : IntKind.u64.wrap x = x % 2^64 := by
  simp [IntKind.wrap, IntKind.bits, IntKind.signed]
theorem zig_eq {n : Int} (h0 : -2^63 ≤ n) (h1 : n < 2^63) : IntKind.u64.wrap
            ↑(BitVec.ofInt IntKind.u64.bits (IntKind.u64.wrap (IntKind.u64.wrap n * 2 ^ min (Int.toNat 1) IntKind.u64.bits)) ^^^
                  BitVec.ofInt IntKind.u64.bits (IntKind.u64.wrap (n.fdiv (2 ^ min (Int.toNat 63) IntKind.i64.bits)))).toNat = (zig n : Int) := by
  have e1 : (2 : Int) ^ min (Int.toNat 1) IntKind.u64.bits = 2 := by decide
  have e2 : (2 : Int) ^ min (Int.toNat 63) IntKind.i64.bits = 2 ^ 63 := by decide
  rw [e1, e2, Int.fdiv_eq_ediv_of_nonneg _ (by decide)]
  have hk : (IntKind.u64.bits : Nat) = 64 := rfl
  by_cases hn : 0 ≤ n
  · have a1 : n / 2^63 = 0 := Int.ediv_eq_zero_of_lt hn h1
    have a2 : IntKind.u64.wrap (IntKind.u64.wrap n * 2) = 2 * n := by
      rw [wrap_u64', wrap_u64']
      omega
    rw [a1, a2]
    have a3 : BitVec.ofInt 64 (IntKind.u64.wrap 0) = 0#64 := by decide +kernel
    show IntKind.u64.wrap ((BitVec.ofInt 64 (2 * n) ^^^ BitVec.ofInt 64 (IntKind.u64.wrap 0)).toNat : Int) = _
    rw [a3, wrap_u64']
    show ((BitVec.ofInt 64 (2 * n) ^^^ 0#64).toNat : Int) % 2^64 = _
    rw [BitVec.xor_zero, BitVec.toNat_ofInt]
    unfold zig
    rw [if_pos hn]
    omega
  · have a1 : n / 2^63 = -1 := by omega
    have a2 : IntKind.u64.wrap (IntKind.u64.wrap n * 2) = 2 * n + 2^64 := by
      rw [wrap_u64', wrap_u64']
      omega
    rw [a1, a2]
    have a3 : BitVec.ofInt 64 (IntKind.u64.wrap (-1)) = BitVec.allOnes 64 := by decide +kernel
    show IntKind.u64.wrap ((BitVec.ofInt 64 (2 * n + 2^64) ^^^ BitVec.ofInt 64 (IntKind.u64.wrap (-1))).toNat : Int) = _
    rw [a3, wrap_u64']
    show ((BitVec.ofInt 64 (2 * n + 2^64) ^^^ BitVec.allOnes 64).toNat : Int) % 2^64 = _
    rw [BitVec.xor_allOnes, BitVec.toNat_not, BitVec.toNat_ofInt]
    unfold zig
    rw [if_neg hn]
    omega
theorem int_body (P : Program) (n : Int) (h0 : -2^63 ≤ n) (h1 : n < 2^63) : FC P gv 27 F39.body (startF [.int .i64 n]) [] ⟨0, .nil⟩
    (retF F39.results fun o H => ∃ v, o = .ret v ∧ Own H 1 v (bytesE (uvar (zig n)))) := by
  unfold F39 om oo
  refine FC_seq fun K hK => ?_
  simp only [symA, symB, Nat.reduceLT, aop]
  apply hK
  clear hK K
  refine FC_seq fun K hK => ?_
  simp only [symA, symB, Nat.reduceLT, aop, ne_eq, Nat.reduceEqDiff, not_false_eq_true, startF, List.getD_cons_zero, binI, bitsI, if_true, Int.reduceLT, if_false, Option.map_some]
  apply hK
  clear hK K
  refine FC_seq fun K hK => ?_
  simp only [symA, symB, Nat.reduceLT, aop]
  apply hK
  clear hK K
  refine FC_seq fun K hK_1 => ?_
  refine FC_block (FC_loop (fun m f ds H => ds = [] ∧ ∃ pre : List Nat, f 3 = .int .u64 m ∧ m < 2^64 ∧ Own H 1 (f 4) (bytesE pre) ∧ pre ++ uvar m = uvar (zig n) ) (zig n) ?_ ?_)
  · refine ⟨rfl, [], ?_, zig_lt h0 h1, ?_, by simp⟩
    · simp only [symA, symB, ne_eq, Nat.reduceEqDiff, not_false_eq_true, zig_eq h0 h1]
    · simp only [symA, symB]
      exact Own.nil _ _
  · rintro m f ds H ⟨rfl, pre, hz, hlt, hown, hpre⟩
    refine FC_seq fun K hK => ?_
    refine FC_seq fun K2 hK2 => ?_
    simp only [symA, symB, Nat.reduceLT, aop, ne_eq, Nat.reduceEqDiff, not_false_eq_true, hz, binI, if_true, Option.map_some]
    apply hK2
    clear hK2
    refine FC_cond (decide ((m : Int) > 127)) (by simp only [symA, symB]) (fun ht => ?_) (fun ht => ?_)
    · simp only [symA, symB]
      apply hK
      clear hK K K2
      refine FC_seq fun K hK => ?_
      refine FC_block ?_
      simp only [symA, symB, Nat.reduceLT, aop, ne_eq, Nat.reduceEqDiff, not_false_eq_true, hz, binI, bitsI, if_true, Option.map_some, litA, AV.cells, List.length_cons, List.length_nil, elemsOf, AV.isTup, and_self, or128, Nat.zero_add]
      have hgt : m > 127 := by have := of_decide_eq_true ht; omega
      have hun : uvar m = (m % 128 + 128) :: uvar (m / 128) := by rw [uvar, if_neg (by omega)]
      have hmul := Nat.div_add_mod m 128
      have hl10 := uvar_len10 (zig_lt h0 h1)
      rw [← hpre, List.length_append] at hl10
      obtain ⟨v, H', e1, e2, e3⟩ := hown.append (bytes := 1) (ys := bytesE [m % 128 + 128]) (by simp only [bytesE_length, List.length_cons, List.length_nil]; omega)
      simp only [bytesE, List.map_cons, List.map_nil] at e1
      rw [e1, stepK_some]
      apply hK
      clear hK K
      simp only [symA, symB, Nat.reduceLT, aop, ne_eq, Nat.reduceEqDiff, not_false_eq_true, hz, binI, if_true, Option.map_some, Int.reduceLT, if_false]
      refine ⟨m / 128, by omega, trivial, pre ++ [m % 128 + 128], ?_, by omega, ?_, ?_⟩
      · rw [shr7]
      · rw [bytesE_append]
        exact e2
      · rw [← hpre, hun]
        simp
    · simp only [symA, symB]
      apply hK_1
      clear hK_1 hK
      refine FC_seq fun K hK => ?_
      have hle : m ≤ 127 := by have := of_decide_eq_false ht; omega
      have hun : uvar m = [m] := by rw [uvar, if_pos hle]
      simp only [symA, symB, Nat.reduceLT, aop, ne_eq, Nat.reduceEqDiff, not_false_eq_true, hz, binI, bitsI, if_true, Option.map_some, litA, AV.cells, List.length_cons, List.length_nil, elemsOf, AV.isTup, and_self, lo7 hle, Nat.zero_add]
      obtain ⟨v, H', e1, e2, e3⟩ := hown.append (bytes := 1) (ys := bytesE [m]) (by simp only [bytesE_length, List.length_cons, List.length_nil]; have hl10 := uvar_len10 (zig_lt h0 h1); rw [← hpre, List.length_append] at hl10; omega)
      simp only [bytesE, List.map_cons, List.map_nil] at e1
      rw [e1, stepK_some]
      apply hK
      rw [FC_ret]
      refine ⟨rfl, [v], ?_, v, rfl, ?_⟩
      · simp only [resFs, resF, symA, symB, ne_eq, Nat.reduceEqDiff, not_false_eq_true]
      · rw [← hpre, hun, bytesE_append]
        exact e2
theorem gfree : GFree gv := by
  intro n cs h
  unfold gv at h
  split at h
  · cases h; rfl
  · cases h; rfl
  · cases h
theorem uvar_ne (z : Nat) : uvar z ≠ [] := by
  rw [uvar]
  split <;> simp
theorem bytesE_ne {l : List Nat} (h : l ≠ []) : bytesE l ≠ [] := by simpa [bytesE] using h
/-- wire.Int -/
theorem int_ok {n : Int} (h0 : -2^63 ≤ n) (h1 : n < 2^63) (H : Heap) : Sound Tryd.prog gv 39 [.int .i64 n] H (.ret (.lst (H.next + 2) 1 (bytesE (uvar (zig n))))) (H.alloc .tok) :=
  Sound_own gfree rfl (bytesE_ne (uvar_ne _)) (freeLL_bytesE _) (Sound_of_FC mixed is39 (by unfold F39 om oo; simp) (int_body _ n h0 h1)) H
end Go.Proofs.YtfdaiidepcbemaaDoor
end
section
namespace Go.Proofs.YtfdaiidepcbemaaDoor
open Go Go.Av Go.Av.Pr
set_option maxRecDepth 100000
attribute [local congr] stepK_congr
theorem asNat_nat (k : IntKind) (n : Nat) : asNat (.int k (n : Int)) = some n := by
  simp [asNat]
def encInts (l : List Int) : List Nat := uvar (zig l.length) ++ l.flatMap fun x => uvar (zig x)
def I64 (x : Int) : Prop := -2^63 ≤ x ∧ x < 2^63
theorem intsE_getD (l : List Int) {i : Nat} (h : i < l.length) : (intsE l).getD i [] = [.int .i64 (l.getD i 0)] := by
  simp [intsE, getD_eq, List.getElem?_eq_getElem h]
theorem encInts_take {l : List Int} {i : Nat} (h : i < l.length) : (uvar (zig l.length) ++ (l.take (i + 1)).flatMap fun x => uvar (zig x)) = (uvar (zig l.length) ++ (l.take i).flatMap fun x => uvar (zig x)) ++ uvar (zig (l.getD i 0)) := by
  rw [List.append_assoc, List.take_add_one, List.flatMap_append]
  simp [getD_eq, List.getElem?_eq_getElem h]
theorem flat_len {l : List Int} (hr : ∀ x ∈ l, I64 x) : (l.flatMap fun x => uvar (zig x)).length ≤ 10 * l.length := by
  induction l with
  | nil => simp
  | cons x l ih =>
    have h1 := uvar_len10 (zig_lt (hr x (by simp)).1 (hr x (by simp)).2)
    have h2 := ih fun y hy => hr y (by simp [hy])
    simp only [List.flatMap_cons, List.length_append, List.length_cons]
    omega
theorem list_body (l : List Int) (tag : Nat) (hr : ∀ x ∈ l, I64 x) (hl : l.length < 2^30) : FC Tryd.prog gv 24 F38.body (startF [.lst tag 1 (intsE l), .func (.func 39) [] []]) [] ⟨0, .nil⟩
    (retF F38.results fun o H => ∃ v, o = .ret v ∧ Own H 1 v (bytesE (encInts l))) := by
  unfold F38 om oo
  refine FC_seq fun K hK => ?_
  simp only [symA, symB, Nat.reduceLT, aop, ne_eq, Nat.reduceEqDiff, not_false_eq_true]
  apply hK
  clear hK K
  refine FC_seq fun K hK => ?_
  simp only [symA, symB, Nat.reduceLT, aop, ne_eq, Nat.reduceEqDiff, not_false_eq_true, startF, List.getD_cons_zero, intsE_length]
  refine FOps_call (by decide) (args := [.int .i64 l.length]) (by simp only [List.map_cons, List.map_nil, symB]) (int_ok (by omega) (by omega) _) ?_
  simp only [symA, symB, Nat.reduceLT, aop, ne_eq, Nat.reduceEqDiff, not_false_eq_true]
  apply hK
  clear hK K
  refine FC_seq fun K hK => ?_
  refine FC_seq fun K2 hK2 => ?_
  simp only [symA, symB, Nat.reduceLT, aop, ne_eq, Nat.reduceEqDiff, not_false_eq_true, List.getD_cons_zero, List.getD_cons_succ, intsE_length]
  apply hK2
  clear hK2 K2
  refine FC_range (id := 0) (cmp := 14) (ix := 13) (ln := 12) (nx := 22) (fun i f H => f 11 = .lst tag 1 (intsE l) ∧ f 1 = .func (.func 39) [] [] ∧ Own H 1 (f 5) (bytesE (uvar (zig l.length) ++ (l.take i).flatMap fun x => uvar (zig x))))
    l.length (by omega) (by decide) (by simp only [symB, ne_eq, Nat.reduceEqDiff, not_false_eq_true]) (by simp only [symB, ne_eq, Nat.reduceEqDiff, not_false_eq_true, intsE_length]) ?_ ?_ ?_ ?_
  · refine ⟨by simp only [symB, ne_eq, Nat.reduceEqDiff, not_false_eq_true, startF, List.getD_cons_zero], by simp only [symB, ne_eq, Nat.reduceEqDiff, not_false_eq_true, startF, List.getD_cons_succ, List.getD_cons_zero], ?_⟩
    simp only [symB, ne_eq, Nat.reduceEqDiff, not_false_eq_true, List.take_zero, List.flatMap_nil, List.append_nil]
    exact Own.fresh _ _ _
  · rintro i f H d v (rfl | rfl | rfl) ⟨h1, h2, h3⟩ <;> exact ⟨by simpa only [symB, ne_eq, Nat.reduceEqDiff, not_false_eq_true] using h1, by simpa only [symB, ne_eq, Nat.reduceEqDiff, not_false_eq_true] using h2, by simpa only [symB, ne_eq, Nat.reduceEqDiff, not_false_eq_true] using h3⟩
  · rintro i f H hi e1 e2 ⟨h1, h2, h3⟩
    refine FC_block (FC_seq fun K2 hK2 => ?_)
    simp only [symA, symB, Nat.reduceLT, aop, ne_eq, Nat.reduceEqDiff, not_false_eq_true, h1, e1, asNat_nat, intsE_length, hi, and_self, if_true, intsE_getD l hi, List.length_cons, List.length_nil, Nat.zero_add, Nat.le_refl, Bool.false_eq_true, if_false, List.getD_cons_zero]
    apply hK2
    clear hK2 K2
    simp only [symA, symB, Nat.reduceLT, aop, ne_eq, Nat.reduceEqDiff, not_false_eq_true, h1, h2, e1]
    have hx : I64 (l.getD i 0) := hr _ (by rw [getD_eq, List.getElem?_eq_getElem hi]; exact List.getElem_mem hi)
    refine FOps_callv (by decide) (fs := []) (cs := []) (fid := 39) (args := [.int .i64 (l.getD i 0)]) (by simp only [symB, ne_eq, Nat.reduceEqDiff, not_false_eq_true, h2]) (by simp only [List.map_cons, List.map_nil, symB, ne_eq, Nat.reduceEqDiff, not_false_eq_true, List.nil_append, List.append_nil]) (int_ok hx.1 hx.2 _) ?_
    have hlen : (uvar (zig l.length) ++ (l.take i).flatMap fun x => uvar (zig x)).length ≤ 10 + 10 * l.length := by
      have q1 := uvar_len10 (zig_lt (n := (l.length : Int)) (by omega) (by omega))
      have q2 := flat_len (l := l.take i) fun x hx => hr x (List.mem_of_mem_take hx)
      simp only [List.length_append, List.length_take] at q2 ⊢
      omega
    have hlen2 := uvar_len10 (zig_lt hx.1 hx.2)
    obtain ⟨v, H', a1, a2, a3⟩ := (h3.alloc .tok).append (bytes := 1) (ys := bytesE (uvar (zig (l.getD i 0)))) (by rw [bytesE_length, bytesE_length]; omega)
    simp only [symA, symB, Nat.reduceLT, aop, ne_eq, Nat.reduceEqDiff, not_false_eq_true, elemsOf, if_true, a1]
    refine ⟨trivial, e1, e2, h1, h2, ?_⟩
    rw [encInts_take hi, bytesE_append]
    exact a2
  · rintro f H e2 ⟨h1, h2, h3⟩
    simp only [symB]
    apply hK
    clear hK K
    refine FC_seq fun K hK => ?_
    simp only [symA, symB, Nat.reduceLT, aop, ne_eq, Nat.reduceEqDiff, not_false_eq_true]
    apply hK
    rw [FC_ret]
    refine ⟨rfl, [f 5], ?_, f 5, rfl, ?_⟩
    · simp only [resFs, resF, symA, symB, ne_eq, Nat.reduceEqDiff, not_false_eq_true]
    · rw [List.take_length] at h3
      exact h3
theorem encInts_ne (l : List Int) : encInts l ≠ [] := by
  unfold encInts
  intro h
  exact uvar_ne _ (List.append_eq_nil_iff.1 h).1
theorem list_ok {l : List Int} {tag : Nat} (ht : tag < 2) (hr : ∀ x ∈ l, I64 x) (hl : l.length < 2^30) (H : Heap) :
    Sound Tryd.prog gv 38 [.lst tag 1 (intsE l), .func (.func 39) [] []] H (.ret (.lst (H.next + 2) 1 (bytesE (encInts l)))) (H.alloc .tok) :=
  Sound_own gfree (by simp [freeL, AV.free, freeLL_intsE, Nat.blt_eq, ht]) (bytesE_ne (encInts_ne _)) (freeLL_bytesE _) (Sound_of_FC mixed is38 (by unfold F38 om oo; simp) (list_body l tag hr hl)) H
/-- wire.Ints -/
theorem ints_ok {l : List Int} {tag : Nat} (ht : tag < 2) (hr : ∀ x ∈ l, I64 x) (hl : l.length < 2^30) (H : Heap) :
    Sound Tryd.prog gv 20 [.lst tag 1 (intsE l)] H (.ret (.lst (H.next + 2) 1 (bytesE (encInts l)))) (H.alloc .tok) := by
  refine Sound_own gfree (by simp [freeL, AV.free, freeLL_intsE, Nat.blt_eq, ht]) (bytesE_ne (encInts_ne _)) (freeLL_bytesE _) (Sound_of_FC mixed is20 (by unfold F20 om oo; simp) ?_) H
  unfold F20 om oo
  refine FC_seq fun K hK => ?_
  simp only [symA, symB, Nat.reduceLT, aop, ne_eq, Nat.reduceEqDiff, not_false_eq_true]
  apply hK
  clear hK K
  refine FC_seq fun K hK => ?_
  simp only [symA, symB, Nat.reduceLT, aop, ne_eq, Nat.reduceEqDiff, not_false_eq_true, startF, List.getD_cons_zero]
  refine FOps_call (by decide) (args := [.lst tag 1 (intsE l), .func (.func 39) [] []]) (by simp only [List.map_cons, List.map_nil, symB]) (list_ok ht hr hl _) ?_
  simp only [symA, symB, Nat.reduceLT, aop, ne_eq, Nat.reduceEqDiff, not_false_eq_true]
  apply hK
  rw [FC_ret]
  refine ⟨rfl, [_], ?_, _, rfl, Own.fresh _ _ _⟩
  simp only [resFs, resF, symB, ne_eq, Nat.reduceEqDiff, not_false_eq_true]
/-! ### digests -/
/-- slices.Clone of bytes, of a slice of an object -/
theorem clone_ok {id off len cap : Nat} {H : Heap} {cs : List AV} (hc : H.cellsAt id = some cs) (hin : off + len ≤ cs.length) (hl : 0 < len) (hb : len ≤ 2^40) :
    Sound Tryd.prog gv 64 [.sl id 1 off len cap] H (.ret (.lst (H.next + 2) 1 (chunkF 1 len (cs.drop off)))) (H.alloc .tok) := by
  have hne : (chunkF 1 len (cs.drop off)).isEmpty = false := by
    cases len with
    | zero => omega
    | succ n => rfl
  have hlen : (chunkF 1 len (cs.drop off)).length = len := (chunkF_flat 1 len (cs.drop off) (by simp; omega)).2.1
  obtain ⟨out, H', ⟨rfl, rfl⟩, hS⟩ := Sound_of_FC (R := fun o h => o = .ret (.lst (H.next + 2) 1 (chunkF 1 len (cs.drop off))) ∧ h = H.alloc .tok) mixed is64 (args := [.sl id 1 off len cap]) (by unfold F64 om oo; simp) (H := H) (by
    unfold F64 om oo
    refine FC_seq fun K hK => ?_
    simp only [symA, symB, Nat.reduceLT, aop, ne_eq, Nat.reduceEqDiff, not_false_eq_true]
    apply hK
    clear hK K
    refine FC_seq fun K hK => ?_
    refine FC_seq fun K2 hK2 => ?_
    simp only [symA, symB, Nat.reduceLT, aop, ne_eq, Nat.reduceEqDiff, not_false_eq_true, startF, List.getD_cons_zero, isNilA, if_true, Bool.false_or, Bool.and_true, Bool.and_false, Bool.not_false, Bool.or_true, Bool.true_or, Bool.false_and, if_false, Bool.false_eq_true]
    apply hK2
    clear hK2 K2
    refine FC_cond false (by simp only [symB, ne_eq, Nat.reduceEqDiff, not_false_eq_true]) (fun h => by cases h) (fun _ => ?_)
    simp only [symA, symB, Nat.reduceLT, aop, ne_eq, Nat.reduceEqDiff, not_false_eq_true]
    apply hK
    clear hK K
    refine FC_seq fun K hK => ?_
    simp only [symA, symB, Nat.reduceLT, aop, ne_eq, Nat.reduceEqDiff, not_false_eq_true, litA, Option.map_some, elemsOf, hc, if_true, Nat.mul_one, hin, startF, List.getD_cons_zero, appendA, hne, Bool.false_eq_true, if_false, List.length_nil, Nat.zero_add, hlen, hb, List.nil_append, newRowA, true_and]
    apply hK
    rw [FC_ret]
    refine ⟨rfl, [_], ?_, rfl, rfl⟩
    simp only [resFs, resF, symB, ne_eq, Nat.reduceEqDiff, not_false_eq_true])
  exact hS
/-- wire.digest -/
theorem digest_ok {d : List Nat} (hd : d.length = 16) (H : Heap) : Sound Tryd.prog gv 42 [.agg (bytesC d)] H (.ret (.lst (H.next + 2) 1 (bytesE d))) (H.alloc .tok) := by
  have hne : d ≠ [] := by intro h; rw [h] at hd; cases hd
  refine Sound_own gfree (by simp [freeL, AV.free, freeL_bytesC]) (bytesE_ne hne) (freeLL_bytesE _) (Sound_of_FC mixed is42 (by unfold F42 om oo; simp) ?_) H
  unfold F42 om oo
  show FC _ _ 5 _ _ _ _ _
  refine FC_seq fun K hK => ?_
  simp only [symA, symB, Nat.reduceLT, aop, ne_eq, Nat.reduceEqDiff, not_false_eq_true, startF, List.getD_cons_zero, fop, AV.isTup, AV.cells, Bool.false_eq_true, if_false, Option.map_some]
  apply hK
  clear hK K
  refine FC_seq fun K hK => ?_
  simp only [symA, symB, Nat.reduceLT, aop, ne_eq, Nat.reduceEqDiff, not_false_eq_true, optNat, sliceArrA, Option.getD_none, Nat.zero_le, Nat.le_refl, Option.isSome_none, Bool.false_eq_true, false_implies, and_self, if_true, Heap.cellsAt, sh, Nat.reduceAdd, Nat.one_mul, Nat.mul_one, Nat.zero_add, bytesC_length, hd, Option.map_some, if_false, Nat.zero_mul, Nat.sub_zero]
  refine FOps_call (by decide) (args := [.sl 0 1 0 16 16]) (by simp only [List.map_cons, List.map_nil, symB, ne_eq, Nat.reduceEqDiff, not_false_eq_true]) (clone_ok (cs := bytesC d) (by simp only [Heap.cellsAt, sh, Nat.reduceAdd, Nat.reduceEqDiff]) (by rw [bytesC_length]; omega) (by omega) (by omega)) ?_
  rw [List.drop_zero, ← hd, chunk_bytesC]
  simp only [symA, symB, Nat.reduceLT, aop, ne_eq, Nat.reduceEqDiff, not_false_eq_true]
  apply hK
  rw [FC_ret]
  refine ⟨rfl, [_], ?_, _, rfl, Own.fresh _ _ _⟩
  simp only [resFs, resF, symB, ne_eq, Nat.reduceEqDiff, not_false_eq_true]
def encDigs (l : List (List Nat)) : List Nat := uvar (zig l.length) ++ l.flatten
theorem digsE_getD (l : List (List Nat)) {i : Nat} (h : i < l.length) : (digsE l).getD i [] = bytesC (l.getD i []) := by
  simp [digsE, List.getElem?_eq_getElem h]
theorem encDigs_take {l : List (List Nat)} {i : Nat} (h : i < l.length) : (uvar (zig l.length) ++ (l.take (i + 1)).flatten) = (uvar (zig l.length) ++ (l.take i).flatten) ++ l.getD i [] := by
  rw [List.append_assoc, List.take_add_one, List.flatten_append]
  simp [List.getElem?_eq_getElem h]
theorem flatten_len {l : List (List Nat)} (hr : ∀ x ∈ l, x.length = 16) : l.flatten.length = 16 * l.length := by
  induction l with
  | nil => simp
  | cons x l ih =>
    have h1 := hr x (by simp)
    have h2 := ih fun y hy => hr y (by simp [hy])
    simp only [List.flatten_cons, List.length_append, List.length_cons]
    omega
theorem dlist_body (l : List (List Nat)) (tag : Nat) (hr : ∀ x ∈ l, x.length = 16) (hl : l.length < 2^30) : FC Tryd.prog gv 24 F41.body (startF [.lst tag 16 (digsE l), .func (.func 42) [] []]) [] ⟨0, .nil⟩
    (retF F41.results fun o H => ∃ v, o = .ret v ∧ Own H 1 v (bytesE (encDigs l))) := by
  unfold F41 om oo
  refine FC_seq fun K hK => ?_
  simp only [symA, symB, Nat.reduceLT, aop, ne_eq, Nat.reduceEqDiff, not_false_eq_true]
  apply hK
  clear hK K
  refine FC_seq fun K hK => ?_
  simp only [symA, symB, Nat.reduceLT, aop, ne_eq, Nat.reduceEqDiff, not_false_eq_true, startF, List.getD_cons_zero, digsE_length]
  refine FOps_call (by decide) (args := [.int .i64 l.length]) (by simp only [List.map_cons, List.map_nil, symB]) (int_ok (by omega) (by omega) _) ?_
  simp only [symA, symB, Nat.reduceLT, aop, ne_eq, Nat.reduceEqDiff, not_false_eq_true]
  apply hK
  clear hK K
  refine FC_seq fun K hK => ?_
  refine FC_seq fun K2 hK2 => ?_
  simp only [symA, symB, Nat.reduceLT, aop, ne_eq, Nat.reduceEqDiff, not_false_eq_true, List.getD_cons_zero, List.getD_cons_succ, digsE_length]
  apply hK2
  clear hK2 K2
  refine FC_range (id := 0) (cmp := 14) (ix := 13) (ln := 12) (nx := 22) (fun i f H => f 11 = .lst tag 16 (digsE l) ∧ f 1 = .func (.func 42) [] [] ∧ Own H 1 (f 5) (bytesE (uvar (zig l.length) ++ (l.take i).flatten)))
    l.length (by omega) (by decide) (by simp only [symB, ne_eq, Nat.reduceEqDiff, not_false_eq_true]) (by simp only [symB, ne_eq, Nat.reduceEqDiff, not_false_eq_true, digsE_length]) ?_ ?_ ?_ ?_
  · refine ⟨by simp only [symB, ne_eq, Nat.reduceEqDiff, not_false_eq_true, startF, List.getD_cons_zero], by simp only [symB, ne_eq, Nat.reduceEqDiff, not_false_eq_true, startF, List.getD_cons_succ, List.getD_cons_zero], ?_⟩
    simp only [symB, ne_eq, Nat.reduceEqDiff, not_false_eq_true, List.take_zero, List.flatten_nil, List.append_nil]
    exact Own.fresh _ _ _
  · rintro i f H d v (rfl | rfl | rfl) ⟨h1, h2, h3⟩ <;> exact ⟨by simpa only [symB, ne_eq, Nat.reduceEqDiff, not_false_eq_true] using h1, by simpa only [symB, ne_eq, Nat.reduceEqDiff, not_false_eq_true] using h2, by simpa only [symB, ne_eq, Nat.reduceEqDiff, not_false_eq_true] using h3⟩
  · rintro i f H hi e1 e2 ⟨h1, h2, h3⟩
    have hx : (l.getD i []).length = 16 := hr _ (by rw [List.getD_eq_getElem?_getD, List.getElem?_eq_getElem hi]; exact List.getElem_mem hi)
    refine FC_block (FC_seq fun K2 hK2 => ?_)
    simp only [symA, symB, Nat.reduceLT, aop, ne_eq, Nat.reduceEqDiff, not_false_eq_true, h1, e1, asNat_nat, digsE_length, hi, and_self, if_true, digsE_getD l hi, bytesC_length, hx, Nat.le_refl, fop, Option.map_some, get_alloc_self, AV.cells, AV.isTup, List.length_cons, List.length_nil, Nat.zero_add, Nat.reduceAdd, List.length_take, Nat.min_self, Bool.false_eq_true]
    rw [List.take_of_length_le (by rw [bytesC_length]; omega), splice_all (by simp [bytesC_length]; exact hx)]
    apply hK2
    clear hK2 K2
    simp only [symA, symB, Nat.reduceLT, aop, ne_eq, Nat.reduceEqDiff, not_false_eq_true, h1, h2, e1, cellsAt_set, bytesC_length, hx, Nat.zero_add, Nat.le_refl, if_true, List.drop_zero]
    rw [List.take_of_length_le (by rw [bytesC_length]; omega)]
    refine FOps_callv (by decide) (fs := []) (cs := []) (fid := 42) (args := [.agg (bytesC (l.getD i []))]) (by simp only [symB, ne_eq, Nat.reduceEqDiff, not_false_eq_true, h2]) (by simp only [List.map_cons, List.map_nil, symB, ne_eq, Nat.reduceEqDiff, not_false_eq_true, List.nil_append, List.append_nil]) (digest_ok hx _) ?_
    have hlen : (uvar (zig l.length) ++ (l.take i).flatten).length ≤ 10 + 16 * l.length := by
      have q1 := uvar_len10 (zig_lt (n := (l.length : Int)) (by omega) (by omega))
      have q2 := flatten_len (l := l.take i) fun x hx => hr x (List.mem_of_mem_take hx)
      simp only [List.length_append, List.length_take] at q2 ⊢
      omega
    obtain ⟨v, H', a1, a2, a3⟩ := (((h3.alloc (.cells (List.replicate 16 (.int .u8 0)) false)).set H.next (.cells (bytesC (l.getD i [])) false) (fun ht => by have := h3.tok_lt ht; omega)).alloc .tok).append (bytes := 1) (ys := bytesE (l.getD i [])) (by rw [bytesE_length, bytesE_length]; omega)
    simp only [List.replicate] at a1
    simp only [symA, symB, Nat.reduceLT, aop, ne_eq, Nat.reduceEqDiff, not_false_eq_true, elemsOf, if_true, a1]
    refine ⟨trivial, e1, e2, h1, h2, ?_⟩
    rw [encDigs_take hi, bytesE_append]
    exact a2
  · rintro f H e2 ⟨h1, h2, h3⟩
    simp only [symB]
    apply hK
    clear hK K
    refine FC_seq fun K hK => ?_
    simp only [symA, symB, Nat.reduceLT, aop, ne_eq, Nat.reduceEqDiff, not_false_eq_true]
    apply hK
    rw [FC_ret]
    refine ⟨rfl, [f 5], ?_, f 5, rfl, ?_⟩
    · simp only [resFs, resF, symB, ne_eq, Nat.reduceEqDiff, not_false_eq_true]
    · rw [List.take_length] at h3
      exact h3
theorem encDigs_ne (l : List (List Nat)) : encDigs l ≠ [] := by
  unfold encDigs
  intro h
  exact uvar_ne _ (List.append_eq_nil_iff.1 h).1
theorem dlist_ok {l : List (List Nat)} {tag : Nat} (ht : tag < 2) (hr : ∀ x ∈ l, x.length = 16) (hl : l.length < 2^30) (H : Heap) :
    Sound Tryd.prog gv 41 [.lst tag 16 (digsE l), .func (.func 42) [] []] H (.ret (.lst (H.next + 2) 1 (bytesE (encDigs l)))) (H.alloc .tok) :=
  Sound_own gfree (by simp [freeL, AV.free, freeLL_digsE, Nat.blt_eq, ht]) (bytesE_ne (encDigs_ne _)) (freeLL_bytesE _) (Sound_of_FC mixed is41 (by unfold F41 om oo; simp) (dlist_body l tag hr hl)) H
/-- wire.Digests -/
theorem digests_ok {l : List (List Nat)} {tag : Nat} (ht : tag < 2) (hr : ∀ x ∈ l, x.length = 16) (hl : l.length < 2^30) (H : Heap) :
    Sound Tryd.prog gv 22 [.lst tag 16 (digsE l)] H (.ret (.lst (H.next + 2) 1 (bytesE (encDigs l)))) (H.alloc .tok) := by
  refine Sound_own gfree (by simp [freeL, AV.free, freeLL_digsE, Nat.blt_eq, ht]) (bytesE_ne (encDigs_ne _)) (freeLL_bytesE _) (Sound_of_FC mixed is22 (by unfold F22 om oo; simp) ?_) H
  unfold F22 om oo
  refine FC_seq fun K hK => ?_
  simp only [symA, symB, Nat.reduceLT, aop, ne_eq, Nat.reduceEqDiff, not_false_eq_true]
  apply hK
  clear hK K
  refine FC_seq fun K hK => ?_
  simp only [symA, symB, Nat.reduceLT, aop, ne_eq, Nat.reduceEqDiff, not_false_eq_true, startF, List.getD_cons_zero]
  refine FOps_call (by decide) (args := [.lst tag 16 (digsE l), .func (.func 42) [] []]) (by simp only [List.map_cons, List.map_nil, symB]) (dlist_ok ht hr hl _) ?_
  simp only [symA, symB, Nat.reduceLT, aop, ne_eq, Nat.reduceEqDiff, not_false_eq_true]
  apply hK
  rw [FC_ret]
  refine ⟨rfl, [_], ?_, _, rfl, Own.fresh _ _ _⟩
  simp only [resFs, resF, symB, ne_eq, Nat.reduceEqDiff, not_false_eq_true]
end Go.Proofs.YtfdaiidepcbemaaDoor
end
section
namespace Go.Proofs.YtfdaiidepcbemaaDoor
open Go Go.Av Go.Av.Pr
/-- digits at place k on: the number and how many, or the error -/
def uget : Nat → List Nat → Except Int (Nat × Nat)
  | _, [] => .error 10
  | k, c :: r =>
    if (k = 9 ∧ 1 < c) ∨ (0 < k ∧ c = 0) then .error 11
    else if c < 128 then .ok (c, 1)
    else match uget (k + 1) r with
      | .ok (z, n) => .ok (c % 128 + 128 * z, n + 1)
      | .error e => .error e
def unzig (z : Nat) : Int := if z % 2 = 0 then (z / 2 : Nat) else - (z / 2 : Nat) - 1
structure Got where
  v : Int
  n : Nat
  e : Int
def gint (b : List Nat) : Got := match uget 0 b with
  | .ok (z, n) => ⟨unzig z, n, 0⟩
  | .error e => ⟨0, 0, e⟩
def Got.av (x : Got) : AV := .tup [.int .i64 x.v, .int .i64 x.n, .int .i64 x.e]
def Bytes (b : List Nat) : Prop := ∀ x ∈ b, x < 256
theorem uget_err : ∀ (b : List Nat) (k : Nat) (e : Int), uget k b = .error e → e = 10 ∨ e = 11
  | [], k, e, h => by simp only [uget, Except.error.injEq] at h; exact .inl h.symm
  | c :: r, k, e, h => by
    unfold uget at h
    split at h
    · simp only [Except.error.injEq] at h; exact .inr h.symm
    · split at h
      · cases h
      · split at h
        · cases h
        · rename_i e' he
          simp only [Except.error.injEq] at h
          subst h
          exact uget_err r (k + 1) _ he
theorem uget_ok : ∀ (b : List Nat) (k z n : Nat), k ≤ 9 → uget k b = .ok (z, n) → 0 < n ∧ n ≤ b.length ∧ k + n ≤ 10 ∧ z * 128 ^ k < 2 ^ 64
  | [], k, z, n, hk, h => by simp [uget] at h
  | c :: r, k, z, n, hk, h => by
    unfold uget at h
    split at h
    · cases h
    · rename_i h0
      split at h
      · rename_i h1
        simp only [Except.ok.injEq, Prod.mk.injEq] at h
        obtain ⟨rfl, rfl⟩ := h
        refine ⟨by omega, by simp, by omega, ?_⟩
        by_cases h9 : k = 9
        · subst h9
          have : c ≤ 1 := by omega
          omega
        · have : 128 ^ k ≤ 128 ^ 8 := Nat.pow_le_pow_right (by omega) (by omega)
          have : c * 128 ^ k ≤ 127 * 128 ^ 8 := Nat.mul_le_mul (by omega) this
          omega
      · rename_i h1
        have h9 : k ≠ 9 := by intro h9; apply h0; exact .inl ⟨h9, by omega⟩
        split at h
        · rename_i z' n' he
          simp only [Except.ok.injEq, Prod.mk.injEq] at h
          obtain ⟨rfl, rfl⟩ := h
          obtain ⟨a1, a2, a3, a4⟩ := uget_ok r (k + 1) z' n' (by omega) he
          refine ⟨by omega, by simp; omega, by omega, ?_⟩
          have e1 : (c % 128 + 128 * z') * 128 ^ k = c % 128 * 128 ^ k + z' * 128 ^ (k + 1) := by
            rw [Nat.pow_succ, Nat.add_mul]; congr 1; rw [Nat.mul_comm 128 z', Nat.mul_assoc, Nat.mul_comm 128]
          -- the sum stays below: z' * 128^(k+1) is a multiple of 128^(k+1), which divides 2^64 for k + 1 ≤ 9
          rw [e1]
          have hd : (2:Nat) ^ 64 = 2 ^ (64 - 7 * (k + 1)) * 128 ^ (k + 1) := by
            rw [show (128 : Nat) = 2 ^ 7 from rfl, ← Nat.pow_mul, ← Nat.pow_add]; congr 1; omega
          have hz : z' < 2 ^ (64 - 7 * (k + 1)) := by
            rw [hd] at a4
            exact Nat.lt_of_mul_lt_mul_right a4
          have hz1 : (z' + 1) * 128 ^ (k + 1) ≤ 2 ^ 64 := by
            rw [hd]; exact Nat.mul_le_mul_right _ hz
          have hc : c % 128 * 128 ^ k < 128 ^ (k + 1) := by
            rw [Nat.pow_succ, Nat.mul_comm (128 ^ k)]
            exact Nat.mul_lt_mul_of_pos_right (Nat.mod_lt _ (by omega)) (Nat.pow_pos (by omega))
          rw [Nat.add_mul, Nat.one_mul] at hz1
          omega
        · cases h
theorem uget_uvar : ∀ (m k z : Nat) (r : List Nat), z ≤ m → k ≤ 9 → z * 128 ^ k < 2 ^ 64 → (0 < k → 0 < z) → uget k (uvar z ++ r) = .ok (z, (uvar z).length)
  | m, k, z, r, hm, hk, hz, hp => by
    rw [uvar]
    split
    · rename_i h
      simp only [List.cons_append, List.nil_append, uget, List.length_cons, List.length_nil]
      rw [if_neg, if_pos (by omega)]
      rintro (⟨rfl, h1⟩ | ⟨h1, h2⟩)
      · omega
      · have := hp h1; omega
    · rename_i h
      have h8 : k ≤ 8 := by
        rcases Nat.lt_or_ge k 9 with h9 | h9
        · omega
        · obtain rfl : k = 9 := by omega
          omega
      simp only [List.cons_append, uget, List.length_cons]
      rw [if_neg (by rintro (⟨rfl, h1⟩ | ⟨h1, h2⟩) <;> omega), if_neg (by omega)]
      have hz2 : z / 128 * 128 ^ (k + 1) < 2 ^ 64 := by
        rw [Nat.pow_succ, Nat.mul_comm (128 ^ k), ← Nat.mul_assoc]
        exact Nat.lt_of_le_of_lt (Nat.mul_le_mul_right _ (Nat.div_mul_le_self z 128)) hz
      cases m with
      | zero => omega
      | succ m =>
        rw [uget_uvar m (k + 1) (z / 128) r (by omega) (by omega) hz2 (fun _ => by omega)]
        simp only [Except.ok.injEq, Prod.mk.injEq, and_true]
        omega
theorem unzig_zig {n : Int} : unzig (zig n) = n := by
  unfold unzig zig
  split <;> split <;> omega
theorem zig_unzig (z : Nat) : zig (unzig z) = z := by
  unfold unzig zig
  split <;> split <;> omega
theorem gint_uvar {n : Int} (h0 : -2^63 ≤ n) (h1 : n < 2^63) (r : List Nat) : gint (uvar (zig n) ++ r) = ⟨n, (uvar (zig n)).length, 0⟩ := by
  unfold gint
  rw [uget_uvar _ 0 (zig n) r (Nat.le_refl _) (by omega) (by have := zig_lt h0 h1; omega) (fun h => by omega)]
  simp only [unzig_zig]
theorem gint_ok {b : List Nat} (h : (gint b).e = 0) : 0 < (gint b).n ∧ (gint b).n ≤ b.length ∧ (gint b).n ≤ 10 ∧ I64 (gint b).v := by
  unfold gint at h ⊢
  split
  · rename_i z n hz
    obtain ⟨a1, a2, a3, a4⟩ := uget_ok b 0 z n (by omega) hz
    refine ⟨a1, a2, by simpa using a3, ?_⟩
    simp only [Nat.pow_zero, Nat.mul_one] at a4
    simp only [I64, unzig]
    split <;> omega
  · rename_i e he
    rw [he] at h
    simp only at h
    subst h
    rcases uget_err b 0 0 he with h | h <;> omega
theorem gint_err (b : List Nat) : (gint b).e = 0 ∨ ((gint b).v = 0 ∧ (gint b).n = 0 ∧ ((gint b).e = 10 ∨ (gint b).e = 11)) := by
  unfold gint
  split
  · exact .inl rfl
  · rename_i e he
    exact .inr ⟨rfl, rfl, uget_err b 0 e he⟩
end Go.Proofs.YtfdaiidepcbemaaDoor
end
section
namespace Go.Av
open Go
theorem wrapU {k : IntKind} (hs : k.signed = false) (x : Int) : k.wrap x = x % 2 ^ k.bits := by
  simp [IntKind.wrap, hs]
theorem wrapU_nat {k : IntKind} (hs : k.signed = false) (x : Nat) : k.wrap (x : Int) = ((x % 2 ^ k.bits : Nat) : Int) := by
  rw [wrapU hs]; simp
theorem ofInt_nat (n x : Nat) : BitVec.ofInt n (x : Int) = BitVec.ofNat n x := by
  apply BitVec.eq_of_toNat_eq
  simp [BitVec.toNat_ofInt]
theorem bits_and {k : IntKind} (hs : k.signed = false) {a b : Nat} (ha : a < 2 ^ k.bits) (hb : b < 2 ^ k.bits) : bitsI .and k (a : Int) (b : Int) = some (.int k ((a &&& b : Nat) : Int)) := by
  have h : (BitVec.ofNat k.bits a &&& BitVec.ofNat k.bits b).toNat = a &&& b := by
    rw [BitVec.toNat_and, BitVec.toNat_ofNat, BitVec.toNat_ofNat, Nat.mod_eq_of_lt ha, Nat.mod_eq_of_lt hb]
  simp only [bitsI, ofInt_nat, h, wrapU_nat hs]
  rw [Nat.mod_eq_of_lt (Nat.and_lt_two_pow _ hb)]
theorem bits_or {k : IntKind} (hs : k.signed = false) {a b : Nat} (ha : a < 2 ^ k.bits) (hb : b < 2 ^ k.bits) : bitsI .or k (a : Int) (b : Int) = some (.int k ((a ||| b : Nat) : Int)) := by
  have h : (BitVec.ofNat k.bits a ||| BitVec.ofNat k.bits b).toNat = a ||| b := by
    rw [BitVec.toNat_or, BitVec.toNat_ofNat, BitVec.toNat_ofNat, Nat.mod_eq_of_lt ha, Nat.mod_eq_of_lt hb]
  simp only [bitsI, ofInt_nat, h, wrapU_nat hs]
  rw [Nat.mod_eq_of_lt (Nat.or_lt_two_pow ha hb)]
theorem bits_xor {k : IntKind} (hs : k.signed = false) {a b : Nat} (ha : a < 2 ^ k.bits) (hb : b < 2 ^ k.bits) : bitsI .xor k (a : Int) (b : Int) = some (.int k ((a ^^^ b : Nat) : Int)) := by
  have h : (BitVec.ofNat k.bits a ^^^ BitVec.ofNat k.bits b).toNat = a ^^^ b := by
    rw [BitVec.toNat_xor, BitVec.toNat_ofNat, BitVec.toNat_ofNat, Nat.mod_eq_of_lt ha, Nat.mod_eq_of_lt hb]
  simp only [bitsI, ofInt_nat, h, wrapU_nat hs]
  rw [Nat.mod_eq_of_lt (Nat.xor_lt_two_pow ha hb)]
theorem fdiv_pow (x : Int) (n : Nat) : x.fdiv (2 ^ n) = x / 2 ^ n := Int.fdiv_eq_ediv_of_nonneg _ (Int.le_of_lt (Int.pow_pos (by omega)))
theorem shr_nat {k k' : IntKind} (a s : Nat) (hs : s ≤ k.bits) : binI .shr k (a : Int) k' (s : Int) = some (.int k ((a / 2 ^ s : Nat) : Int)) := by
  simp only [binI]
  rw [if_neg (by omega), fdiv_pow]
  have : min ((s : Int)).toNat k.bits = s := by omega
  rw [this]
  simp
theorem shl_nat {k k' : IntKind} (hu : k.signed = false) (a s : Nat) (hs : s ≤ k.bits) : binI .shl k (a : Int) k' (s : Int) = some (.int k ((a * 2 ^ s % 2 ^ k.bits : Nat) : Int)) := by
  simp only [binI]
  rw [if_neg (by omega)]
  have : min ((s : Int)).toNat k.bits = s := by omega
  rw [this, wrapU hu]
  simp
theorem wrapI64 {x : Int} (h0 : -2^63 ≤ x) (h1 : x < 2^63) : IntKind.i64.wrap x = x := wrap_i64 h0 h1
theorem or_add {a b n : Nat} (ha : a < 2 ^ n) : a ||| b * 2 ^ n = a + b * 2 ^ n := by
  rw [Nat.or_comm, Nat.mul_comm, ← Nat.two_pow_add_eq_or_of_lt ha, Nat.add_comm]
end Go.Av
end
