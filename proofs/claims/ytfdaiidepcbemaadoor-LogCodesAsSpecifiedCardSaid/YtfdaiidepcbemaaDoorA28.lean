/-
  CONTRACTS: numbers read back from bytes.
  CONTRACTS: lengths, and lists read back from bytes.
  CONTRACTS: lists of numbers read back from bytes.
  CONTRACTS: lists of digests read back from bytes.
-/
import Derived.Test.YtfdaiidepcbemaaDoorA27
set_option linter.unusedVariables false
set_option linter.unusedSimpArgs false
section
namespace Go.Proofs.YtfdaiidepcbemaaDoor
open Go Go.Av Go.Av.Pr
set_option maxRecDepth 100000
attribute [local congr] FD2_congr stepK_congr condK_congr guardK_congr FC_congr FOps_congr thenF_congr inBlockF_congr
theorem bytesE_getD (l : List Nat) {i : Nat} (h : i < l.length) : (bytesE l).getD i [] = [.int .u8 (l.getD i 0)] := by
  simp [bytesE, List.getElem?_eq_getElem h]
theorem drop_getD {l : List Nat} {i : Nat} (h : i < l.length) : l.drop i = l.getD i 0 :: l.drop (i + 1) := by
  rw [List.drop_eq_getElem_cons h]
  simp [List.getElem?_eq_getElem h]
/-- what is read so far, and what comes -/
def upto (k acc : Nat) : Except Int (Nat × Nat) → Except Int (Nat × Nat)
  | .ok (z, n) => .ok (acc + 128 ^ k * z, k + n)
  | .error e => .error e
theorem upto_step {k acc c : Nat} {r : List Nat} (h1 : ¬ ((k = 9 ∧ 1 < c) ∨ (0 < k ∧ c = 0))) (h2 : ¬ c < 128) : upto k acc (uget k (c :: r)) = upto (k + 1) (acc + c % 128 * 128 ^ k) (uget (k + 1) r) := by
  conv => lhs; unfold uget
  rw [if_neg h1, if_neg h2]
  cases uget (k + 1) r with
  | error e => rfl
  | ok p =>
    obtain ⟨z, n⟩ := p
    simp only [upto, Except.ok.injEq, Prod.mk.injEq]
    refine ⟨?_, by omega⟩
    rw [Nat.mul_add, Nat.pow_succ, Nat.mul_comm (128 ^ k) (c % 128), Nat.mul_assoc]
    omega
theorem getint_body (P : Program) (b : List Nat) (tag : Nat) (hb : Bytes b) (hl : b.length < 2^40) (H : Heap) : FC P gv 53 F69.body (startF [.lst tag 1 (bytesE b)]) [] H
    (retF [.tmp 2, .tmp 3, .tmp 4] fun o h => o = .ret (gint b).av ∧ h = H) := by
  unfold F69 om oo
  refine FC_seq fun K hK => ?_
  simp only [symA, sy, AV.cells, AV.isTup, startF, Nat.reduceLT, Nat.reduceEqDiff, Nat.reduceAdd]
  apply hK
  clear hK K
  refine FC_seq fun K hK => ?_
  simp only [symA, sy, AV.cells, AV.isTup, startF, Nat.reduceLT, Nat.reduceEqDiff, Nat.reduceAdd]
  apply hK
  clear hK K
  refine FC_seq fun K hK => ?_
  simp only [symA, sy, AV.cells, AV.isTup, startF, Nat.reduceLT, Nat.reduceEqDiff, Nat.reduceAdd]
  apply hK
  clear hK K
  refine FC_seq fun K hK => ?_
  simp only [symA, sy, AV.cells, AV.isTup, startF, Nat.reduceLT, Nat.reduceEqDiff, Nat.reduceAdd]
  apply hK
  clear hK K
  refine FC_seq fun K hK => ?_
  refine FC_seq fun K2 hK2 => ?_
  simp only [symA, sy, AV.cells, AV.isTup, startF, Nat.reduceLT, Nat.reduceEqDiff, Nat.reduceAdd, bytesE_length]
  apply hK2
  clear hK2 K2
  have fin : ∀ f' : Slt, (f' 6 = .int .i64 0 ∧ uget 0 b = .error 10) ∨ (∃ z n : Nat, 0 < n ∧ n ≤ 10 ∧ z < 2^64 ∧ f' 6 = .int .i64 n ∧ f' 5 = .int .u64 z ∧ uget 0 b = .ok (z, n)) → K f' [] H := by
    rintro f' (⟨g6, hu⟩ | ⟨z, n, hn, hn10, hz, g6, g5, hu⟩)
    · apply hK
      refine FC_seq fun K2 hK2 => ?_
      simp only [symA, sy, AV.cells, AV.isTup, startF, Nat.reduceLT, Nat.reduceEqDiff, Nat.reduceAdd, g6, beq_self_eq_true]
      refine ⟨rfl, _, by simp only [resFs, resF, symB, ne_eq, Nat.reduceEqDiff, not_false_eq_true]; rfl, ?_, rfl⟩
      show Out.ret (.tup [.int .i64 0, .int .i64 0, .int .i64 10]) = _
      simp only [gint, hu, Got.av]
      rfl
    · apply hK
      have hn0 : ((n : Int) == 0) = false := by simp; omega
      have hshr : (z : Int).fdiv (2 ^ min (Int.toNat 1) IntKind.u64.bits) = ((z / 2 : Nat) : Int) := by
        rw [show min (Int.toNat 1) IntKind.u64.bits = 1 from rfl, fdiv_pow]; simp
      have hw1 : IntKind.i64.wrap ((z / 2 : Nat) : Int) = ((z / 2 : Nat) : Int) := wrap_i64 (by omega) (by omega)
      have hand : bitsI .and .u64 (z : Int) 1 = some (.int .u64 ((z % 2 : Nat) : Int)) := by
        rw [show (1 : Int) = ((1 : Nat) : Int) from rfl, bits_and rfl (by simpa [IntKind.bits] using hz) (by decide), Nat.and_one_is_mod]
      have hw2 : IntKind.i64.wrap ((z % 2 : Nat) : Int) = ((z % 2 : Nat) : Int) := wrap_i64 (by omega) (by omega)
      have hw3 : IntKind.i64.wrap (0 - ((z % 2 : Nat) : Int)) = - ((z % 2 : Nat) : Int) := by rw [wrap_i64 (by omega) (by omega)]; simp
      have hxor : bitsI .xor .i64 ((z / 2 : Nat) : Int) (- ((z % 2 : Nat) : Int)) = some (.int .i64 (unzig z)) := by
        simp only [bitsI, unzig]
        rcases Nat.mod_two_eq_zero_or_one z with h2 | h2
        · rw [h2, if_pos rfl]
          have : (BitVec.ofInt IntKind.i64.bits ((z / 2 : Nat) : Int) ^^^ BitVec.ofInt IntKind.i64.bits (-((0 : Nat) : Int))).toNat = z / 2 := by
            show (BitVec.ofInt 64 ((z / 2 : Nat) : Int) ^^^ BitVec.ofInt 64 0).toNat = z / 2
            rw [show BitVec.ofInt 64 0 = 0#64 from rfl, BitVec.xor_zero, ofInt_nat, BitVec.toNat_ofNat]
            omega
          rw [this, hw1]
        · rw [h2, if_neg (by omega)]
          have : (BitVec.ofInt IntKind.i64.bits ((z / 2 : Nat) : Int) ^^^ BitVec.ofInt IntKind.i64.bits (-((1 : Nat) : Int))).toNat = 2 ^ 64 - 1 - z / 2 := by
            show (BitVec.ofInt 64 ((z / 2 : Nat) : Int) ^^^ BitVec.ofInt 64 (-1)).toNat = _
            rw [show BitVec.ofInt 64 (-1) = BitVec.allOnes 64 by decide +kernel, BitVec.xor_allOnes, BitVec.toNat_not, ofInt_nat, BitVec.toNat_ofNat]
            omega
          rw [this]
          simp only [Option.some.injEq, AV.int.injEq, true_and]
          simp only [IntKind.wrap, IntKind.bits, IntKind.signed]
          simp
          split <;> omega
      refine FC_seq fun K2 hK2 => ?_
      simp only [symA, sy, AV.cells, AV.isTup, startF, Nat.reduceLT, Nat.reduceEqDiff, Nat.reduceAdd, g6, hn0]
      apply hK2
      clear hK2 K2
      simp only [symA, sy, AV.cells, AV.isTup, startF, Nat.reduceLT, Nat.reduceEqDiff, Nat.reduceAdd, g5, g6, Int.reduceLT, hshr, hw1, hand, hw2, unA, hw3, hxor]
      refine ⟨rfl, _, by simp only [resFs, resF, symB, ne_eq, Nat.reduceEqDiff, not_false_eq_true]; rfl, ?_, rfl⟩
      simp only [gint, hu, Got.av]
      rfl
  clear hK
  refine FC_range (id := 0) (cmp := 12) (ix := 11) (ln := 10) (nx := 41) (fun i f h => h = H ∧ i ≤ 9 ∧ f 9 = .lst tag 1 (bytesE b) ∧ f 6 = .int .i64 0 ∧ ∃ acc : Nat, f 5 = .int .u64 acc ∧ acc < 128 ^ i ∧ uget 0 b = upto i acc (uget i (b.drop i)))
    b.length (by omega) (by decide) (by simp only [symB, ne_eq, Nat.reduceEqDiff, not_false_eq_true]) (by simp only [symB, ne_eq, Nat.reduceEqDiff, not_false_eq_true]) ?_ ?_ ?_ ?_
  · refine ⟨rfl, by omega, by simp only [symB, ne_eq, Nat.reduceEqDiff, not_false_eq_true, startF, List.getD_cons_zero], by simp only [symB, ne_eq, Nat.reduceEqDiff, not_false_eq_true], 0, by simp only [symB, ne_eq, Nat.reduceEqDiff, not_false_eq_true]; rfl, by simp, ?_⟩
    rw [List.drop_zero]
    cases uget 0 b with
    | error e => rfl
    | ok p => simp [upto]
  · rintro i f h d v (rfl | rfl | rfl) ⟨h1, h2, h3, h4, acc, h5, h6, h7⟩ <;> exact ⟨h1, h2, by simpa only [symB, ne_eq, Nat.reduceEqDiff, not_false_eq_true] using h3, by simpa only [symB, ne_eq, Nat.reduceEqDiff, not_false_eq_true] using h4, acc, by simpa only [symB, ne_eq, Nat.reduceEqDiff, not_false_eq_true] using h5, h6, h7⟩
  · rintro i f h hi e1 e2 ⟨rfl, hi9, h3, h4, acc, h5, h6, h7⟩
    have hc : b.getD i 0 < 256 := by rw [List.getD_eq_getElem?_getD, List.getElem?_eq_getElem hi]; exact hb _ (List.getElem_mem hi)
    rw [drop_getD hi] at h7
    obtain ⟨c, hcd⟩ : ∃ c, b.getD i 0 = c := ⟨_, rfl⟩
    rw [hcd] at hc h7
    refine FC_block (FC_seq fun K2 hK2 => ?_)
    simp only [symA, sy, AV.cells, AV.isTup, startF, Nat.reduceLT, Nat.reduceEqDiff, Nat.reduceAdd, h3, e1, asNat_nat, bytesE_length, hi, bytesE_getD b hi, hcd]
    apply hK2
    clear hK2 K2
    refine FC_seq fun K2 hK2 => ?_
    refine FC_block (FC_seq fun K3 hK3 => ?_)
    obtain ⟨q1, hq1⟩ : ∃ q, ((i:Int) == 9) = q := ⟨_, rfl⟩
    obtain ⟨q2, hq2⟩ : ∃ q, decide ((c:Int) > 1) = q := ⟨_, rfl⟩
    obtain ⟨q3, hq3⟩ : ∃ q, decide ((i:Int) > 0) = q := ⟨_, rfl⟩
    obtain ⟨q4, hq4⟩ : ∃ q, ((c:Int) == 0) = q := ⟨_, rfl⟩
    have hE : ((q1 && q2) || (q3 && q4)) = decide ((i = 9 ∧ 1 < c) ∨ (0 < i ∧ c = 0)) := by
      rw [← hq1, ← hq2, ← hq3, ← hq4, Bool.eq_iff_iff]
      simp
      omega
    have hK3' : ∀ f' : Slt, f' 24 = .bool ((q1 && q2) || (q3 && q4)) → f' 5 = .int .u64 acc → f' 7 = .int .i64 i → f' 8 = .int .u8 c → f' 9 = .lst tag 1 (bytesE b) → f' 10 = .int .i64 b.length → f' 11 = .int .i64 i → f' 6 = .int .i64 0 → K3 f' [] h := by
      intro f' g24 g5 g7 g8 g9 g10 g11 g6
      apply hK3
      rw [hE] at g24
      simp only [symC, symB, g24, condK_dec]
      refine ⟨fun he => ?_, fun he => ?_⟩
      · simp only [symA, sy, AV.cells, AV.isTup, startF, Nat.reduceLT, Nat.reduceEqDiff, Nat.reduceAdd]
        refine ⟨rfl, _, by simp only [resFs, resF, symB, ne_eq, Nat.reduceEqDiff, not_false_eq_true]; rfl, ?_, rfl⟩
        show Out.ret (.tup [.int .i64 0, .int .i64 0, .int .i64 11]) = _
        simp only [gint, h7, uget, he, if_true, upto, Got.av]
        rfl
      · have hand : bitsI .and .u8 (c : Int) 127 = some (.int .u8 ((c % 128 : Nat) : Int)) := by
          rw [show (127 : Int) = ((127 : Nat) : Int) from rfl, bits_and rfl (by simpa [IntKind.bits] using hc) (by decide)]
          rw [show (127 : Nat) = 2 ^ 7 - 1 from rfl, Nat.and_two_pow_sub_one_eq_mod]
        have hw1 : IntKind.u64.wrap ((c % 128 : Nat) : Int) = ((c % 128 : Nat) : Int) := wrap_u64 (by omega) (by omega)
        have hw2 : IntKind.i64.wrap (7 * (i : Int)) = ((7 * i : Nat) : Int) := by rw [wrap_i64 (by omega) (by omega)]; simp
        have hp : c % 128 * 128 ^ i < 2 ^ 64 := by
          by_cases h9 : i = 9
          · subst h9
            have : c ≤ 1 := by omega
            have : c % 128 ≤ 1 := by omega
            omega
          · have : 128 ^ i ≤ 128 ^ 8 := Nat.pow_le_pow_right (by omega) (by omega)
            have : c % 128 * 128 ^ i ≤ 127 * 128 ^ 8 := Nat.mul_le_mul (by omega) this
            omega
        have e128 : (128 : Nat) ^ i = 2 ^ (7 * i) := by rw [show (128 : Nat) = 2 ^ 7 from rfl, ← Nat.pow_mul]
        have hshl : binI .shl .u64 ((c % 128 : Nat) : Int) .i64 ((7 * i : Nat) : Int) = some (.int .u64 ((c % 128 * 128 ^ i : Nat) : Int)) := by
          rw [shl_nat rfl _ _ (by simp [IntKind.bits]; omega), ← e128, Nat.mod_eq_of_lt (by simpa [IntKind.bits] using hp)]
        have h6' : acc < 2 ^ 64 := by
          have : 128 ^ i ≤ 128 ^ 9 := Nat.pow_le_pow_right (by omega) hi9
          omega
        have hor : bitsI .or .u64 (acc : Int) ((c % 128 * 128 ^ i : Nat) : Int) = some (.int .u64 ((acc + c % 128 * 128 ^ i : Nat) : Int)) := by
          rw [bits_or rfl (by simpa [IntKind.bits] using h6') (by simpa [IntKind.bits] using hp), e128, or_add (by rw [← e128]; exact h6)]
        simp only [symA, sy, AV.cells, AV.isTup, startF, Nat.reduceLT, Nat.reduceEqDiff, Nat.reduceAdd, g5, g7, g8, hand, hw1, hw2, hor]
        simp only [binI] at hshl
        simp only [hshl, symA, sy, AV.cells, AV.isTup, startF, Nat.reduceLT, Nat.reduceEqDiff, Nat.reduceAdd, hor]
        apply hK2
        clear hK2 K2 hK3 K3
        have hlt : decide ((c : Int) < 128) = decide (c < 128) := decide_eq_decide.mpr (by omega)
        refine FC_seq fun K2 hK2 => ?_
        simp only [symA, sy, AV.cells, AV.isTup, startF, Nat.reduceLT, Nat.reduceEqDiff, Nat.reduceAdd, g8, hlt]
        apply hK2
        clear hK2 K2
        simp only [symC, symB, condK_dec]
        refine ⟨fun hl => ?_, fun hl => ?_⟩
        · simp only [symA, sy, AV.cells, AV.isTup, startF, Nat.reduceLT, Nat.reduceEqDiff, Nat.reduceAdd, g7]
          apply fin
          refine .inr ⟨acc + 128 ^ i * c, i + 1, by omega, by omega, ?_, ?_, ?_, ?_⟩
          · have := uget_ok b 0 (acc + 128 ^ i * c) (i + 1) (by omega) (by simp only [h7, uget, he, hl, if_true, upto]; rfl)
            simpa using this.2.2.2
          · simp only [symB, ne_eq, Nat.reduceEqDiff, not_false_eq_true]
            rw [wrap_i64 (by omega) (by omega)]; rfl
          · simp only [symB, ne_eq, Nat.reduceEqDiff, not_false_eq_true]
            rw [Nat.mod_eq_of_lt hl, Nat.mul_comm c]
          · simp only [h7, uget, he, hl, if_true, upto]
            rfl
        · simp only [symA, sy, AV.cells, AV.isTup, startF, Nat.reduceLT, Nat.reduceEqDiff, Nat.reduceAdd]
          refine ⟨trivial, g11, g10, trivial, ?_, g9, g6, acc + c % 128 * 128 ^ i, rfl, ?_, ?_⟩
          · by_cases h9 : i = 9
            · exact absurd (.inl ⟨h9, by omega⟩) he
            · omega
          · have : c % 128 * 128 ^ i ≤ 127 * 128 ^ i := Nat.mul_le_mul_right _ (by omega)
            rw [Nat.pow_succ]
            omega
          · rw [h7, upto_step he hl]
    cases q1 <;> cases q2 <;> cases q3 <;> cases q4 <;> simp only [symA, sy, AV.cells, AV.isTup, startF, Nat.reduceLT, Nat.reduceEqDiff, Nat.reduceAdd, hq1, hq2, hq3, hq4] <;> apply hK3' <;> simp only [symB, ne_eq, Nat.reduceEqDiff, not_false_eq_true, h3, h4, h5, e1, e2, Bool.and_true, Bool.and_false, Bool.or_true, Bool.or_false, Bool.false_and, Bool.true_and]
  · rintro f h e2 ⟨rfl, hi9, h3, h4, acc, h5, h6, h7⟩
    apply fin
    refine .inl ⟨h4, ?_⟩
    rw [h7, List.drop_length]
    rfl
end Go.Proofs.YtfdaiidepcbemaaDoor
end
section
namespace Go.Proofs.YtfdaiidepcbemaaDoor
open Go Go.Av Go.Av.Pr
set_option maxRecDepth 100000
attribute [local congr] FD2_congr stepK_congr condK_congr guardK_congr FC_congr FOps_congr thenF_congr inBlockF_congr
theorem Sound_FC {f : FuncId} {mu : Bool} {F : AFn} (hF : FnIs Tryd.prog gv mu f F) {args : List AV} (ha : args.length ≤ F.ntmps) {H H' : Heap} {out : Out}
    (h : FC Tryd.prog gv F.ntmps F.body (startF args) [] H (retF F.results fun o h => o = out ∧ h = H')) : Sound Tryd.prog gv f args H out H' := by
  obtain ⟨_, _, ⟨rfl, rfl⟩, hS⟩ := Sound_of_FC mixed hF ha h
  exact hS
/-- wire.GetInt -/
theorem getint_ok {b : List Nat} {tag : Nat} (hb : Bytes b) (hl : b.length < 2^40) (H : Heap) : Sound Tryd.prog gv 69 [.lst tag 1 (bytesE b)] H (.ret (gint b).av) H :=
  Sound_FC is69 (by unfold F69 om oo; simp) (getint_body _ b tag hb hl H)
def glen (b : List Nat) (least : Nat) : Got :=
  if (gint b).e ≠ 0 then ⟨0, 0, (gint b).e⟩
  else if (gint b).v < 0 then ⟨0, 0, 11⟩
  else if (gint b).v > ((b.length - (gint b).n) / least : Nat) then ⟨0, 0, 10⟩
  else gint b
theorem len_sub {b : List Nat} {least : Nat} (hl : b.length < 2^40) (h0 : 0 < least) (hn : (gint b).n ≤ b.length) :
    IntKind.i64.wrap (((b.length : Int) - ((gint b).n : Int)).tdiv (least : Int)) = (((b.length - (gint b).n) / least : Nat) : Int) ∧
    IntKind.i64.wrap ((b.length : Int) - ((gint b).n : Int)) = ((b.length : Int) - ((gint b).n : Int)) := by
  have e : ((b.length : Int) - ((gint b).n : Int)) = ((b.length - (gint b).n : Nat) : Int) := by omega
  have hd : (b.length - (gint b).n) / least ≤ b.length - (gint b).n := Nat.div_le_self _ _
  refine ⟨?_, ?_⟩
  · rw [e, Int.tdiv_eq_ediv_of_nonneg (by omega), wrap_i64]
    · simp
    · have : (0 : Int) ≤ ((b.length - (gint b).n : Nat) : Int) / (least : Int) := Int.ediv_nonneg (by omega) (by omega)
      omega
    · have : ((b.length - (gint b).n : Nat) : Int) / (least : Int) = (((b.length - (gint b).n) / least : Nat) : Int) := by simp
      omega
  · rw [wrap_i64 (by omega) (by omega)]
theorem length_ok {b : List Nat} {tag least : Nat} (hb : Bytes b) (hl : b.length < 2^40) (h0 : 0 < least) (H : Heap) : Sound Tryd.prog gv 70 [.lst tag 1 (bytesE b), .int .i64 least] H (.ret (glen b least).av) H := by
  refine Sound_FC is70 (by unfold F70 om oo; simp) ?_
  show FC Tryd.prog gv 34 F70.body _ _ _ (retF [.tmp 4, .tmp 5, .tmp 6] _)
  unfold F70 om oo
  refine FC_seq fun K hK => ?_
  simp only [symA, sy, AV.cells, AV.isTup, startF, Nat.reduceLT, Nat.reduceEqDiff, Nat.reduceAdd]
  apply hK
  clear hK K
  refine FC_seq fun K hK => ?_
  simp only [symA, sy, AV.cells, AV.isTup, startF, Nat.reduceLT, Nat.reduceEqDiff, Nat.reduceAdd]
  refine FOps_call (by decide) (by simp only [sm, symB, Nat.reduceEqDiff, startF]) (getint_ok (b := b) (tag := tag) hb hl H) ?_
  simp only [symA, sy, AV.cells, AV.isTup, startF, Nat.reduceLT, Nat.reduceEqDiff, Nat.reduceAdd, Got.av]
  apply hK
  clear hK K
  have hok := fun h => gint_ok (b := b) h
  have hsub := fun h => len_sub (b := b) (least := least) hl h0 h
  have h00 : ¬ ((least : Int) = 0) := by omega
  obtain ⟨g, hg⟩ : ∃ g, gint b = g := ⟨_, rfl⟩
  rw [hg] at hok hsub
  simp only [hg]
  refine FC_seq fun K hK => ?_
  refine FC_block (FC_seq fun K2 hK2 => ?_)
  simp only [symA, sy, AV.cells, AV.isTup, startF, Nat.reduceLT, Nat.reduceEqDiff, Nat.reduceAdd]
  apply hK2
  clear hK2 K2
  have b1 : (g.e != 0) = decide (g.e ≠ 0) := by simp [bne, Bool.beq_eq_decide_eq]
  simp only [symC, symB, b1, condK_dec]
  refine ⟨fun q1 => ?_, fun q1 => ?_⟩
  · simp only [symA, sy, AV.cells, AV.isTup, startF, Nat.reduceLT, Nat.reduceEqDiff, Nat.reduceAdd]
    refine ⟨rfl, _, by simp only [resFs, resF, symB, ne_eq, Nat.reduceEqDiff, not_false_eq_true]; rfl, ?_, rfl⟩
    simp only [glen, hg]; rw [if_pos q1]
    rfl
  · simp only [symA, sy, AV.cells, AV.isTup, startF, Nat.reduceLT, Nat.reduceEqDiff, Nat.reduceAdd]
    have hok' := hok (by simpa using q1)
    have hsub' := hsub hok'.2.1
    refine ⟨fun q2 => ?_, fun q2 => ?_⟩
    · skip
      refine ⟨rfl, _, by simp only [resFs, resF, symB, ne_eq, Nat.reduceEqDiff, not_false_eq_true]; rfl, ?_, rfl⟩
      simp only [glen, hg]; rw [if_neg q1, if_pos q2]
      rfl
    · simp only [symA, sy, AV.cells, AV.isTup, startF, Nat.reduceLT, Nat.reduceEqDiff, Nat.reduceAdd, bytesE_length, hsub', h00]
      refine ⟨fun q3 => ?_, fun q3 => ?_⟩
      · skip
        refine ⟨rfl, _, by simp only [resFs, resF, symB, ne_eq, Nat.reduceEqDiff, not_false_eq_true]; rfl, ?_, rfl⟩
        simp only [glen, hg]; rw [if_neg q1, if_neg q2, if_pos q3]
        rfl
      · skip
        apply hK
        simp only [symA, sy, AV.cells, AV.isTup, startF, Nat.reduceLT, Nat.reduceEqDiff, Nat.reduceAdd]
        refine ⟨rfl, _, by simp only [resFs, resF, symB, ne_eq, Nat.reduceEqDiff, not_false_eq_true]; rfl, ?_, rfl⟩
        simp only [glen, hg]; rw [if_neg q1, if_neg q2, if_neg q3]
        have : g.e = 0 := by simpa using q1
        show _ = Out.ret g.av
        simp only [retA, Got.av, this]
end Go.Proofs.YtfdaiidepcbemaaDoor
end
section
namespace Go.Proofs.YtfdaiidepcbemaaDoor
open Go Go.Av Go.Av.Pr
set_option maxRecDepth 100000
attribute [local congr] FD2_congr stepK_congr condK_congr guardK_congr FC_congr FOps_congr thenF_congr inBlockF_congr
def gmany (b : List Nat) : Nat → Nat → Except Int (List Int × Nat)
  | 0, at' => .ok ([], at')
  | n + 1, at' =>
    if (gint (b.drop at')).e ≠ 0 then .error (gint (b.drop at')).e
    else match gmany b n (at' + (gint (b.drop at')).n) with
      | .ok (l, z) => .ok ((gint (b.drop at')).v :: l, z)
      | .error e => .error e
structure GotL (α : Type) where
  l : List α
  n : Nat
  e : Int
def gints (b : List Nat) : GotL Int :=
  if (glen b 1).e ≠ 0 then ⟨[], 0, (glen b 1).e⟩
  else match gmany b (glen b 1).v.toNat (glen b 1).n with
    | .ok (l, z) => ⟨l, z, 0⟩
    | .error e => ⟨[], 0, e⟩
theorem glen_ok {b : List Nat} {least : Nat} (h : (glen b least).e = 0) : 0 < (glen b least).n ∧ (glen b least).n ≤ b.length ∧ 0 ≤ (glen b least).v ∧ (glen b least).v.toNat ≤ (b.length - (glen b least).n) / least := by
  unfold glen at h ⊢
  split at h
  · rename_i q; exact absurd h q
  · rename_i q1
    split at h
    · cases h
    · split at h
      · cases h
      · rename_i q2 q3
        have q4 : (gint b).e = 0 := by simpa using q1
        obtain ⟨a1, a2, a3, a4⟩ := gint_ok q4
        rw [if_neg q1, if_neg q2, if_neg q3]
        refine ⟨a1, a2, by omega, by omega⟩
theorem glen_err (b : List Nat) (least : Nat) (h : (glen b least).e ≠ 0) : (glen b least).v = 0 ∧ (glen b least).n = 0 ∧ ((glen b least).e = 10 ∨ (glen b least).e = 11) := by
  unfold glen at h ⊢
  split
  · rename_i q
    rcases gint_err b with h1 | ⟨_, _, h1⟩
    · exact absurd h1 q
    · exact ⟨rfl, rfl, h1⟩
  · rename_i q
    split
    · exact ⟨rfl, rfl, .inr rfl⟩
    · split
      · exact ⟨rfl, rfl, .inl rfl⟩
      · rename_i q2 q3
        rw [if_neg q, if_neg q2, if_neg q3] at h
        exact absurd h q
theorem Bytes.drop {b : List Nat} (h : Bytes b) (n : Nat) : Bytes (b.drop n) := fun x hx => h x (List.mem_of_mem_drop hx)
theorem bytesE_drop (b : List Nat) (n : Nat) : (bytesE b).drop n = bytesE (b.drop n) := by simp [bytesE]
/-- what is read so far, and what comes -/
def uptoL (acc : List Int) : Except Int (List Int × Nat) → Except Int (List Int × Nat)
  | .ok (l, z) => .ok (acc ++ l, z)
  | .error e => .error e
theorem gmany_at {b : List Nat} : ∀ {n a : Nat} {l : List Int} {z : Nat}, a ≤ b.length → gmany b n a = .ok (l, z) → z ≤ b.length ∧ l.length = n ∧ a + n ≤ z ∧ ∀ x ∈ l, I64 x
  | 0, a, l, z, ha, h => by
    simp only [gmany, Except.ok.injEq, Prod.mk.injEq] at h
    obtain ⟨rfl, rfl⟩ := h
    exact ⟨ha, rfl, by omega, fun x hx => by cases hx⟩
  | n + 1, a, l, z, ha, h => by
    unfold gmany at h
    split at h
    · cases h
    · rename_i q
      obtain ⟨c1, c2, c3, c4⟩ := gint_ok (b := b.drop a) (by simpa using q)
      simp only [List.length_drop] at c2
      split at h
      · rename_i l' z' hl
        simp only [Except.ok.injEq, Prod.mk.injEq] at h
        obtain ⟨rfl, rfl⟩ := h
        obtain ⟨d1, d2, d3, d4⟩ := gmany_at (by omega) hl
        refine ⟨d1, by simp [d2], by omega, fun x hx => ?_⟩
        rcases List.mem_cons.1 hx with rfl | hx
        · exact c4
        · exact d4 x hx
      · cases h
theorem get_body (b : List Nat) (tag : Nat) (hb : Bytes b) (hl : b.length < 2^36) : FC Tryd.prog gv 51 F68.body (startF [.lst tag 1 (bytesE b), .int .i64 1, .func (.func 69) [] []]) [] ⟨0, .nil⟩
    (retF [.tmp 6, .tmp 7, .tmp 8] fun o H => ∃ v, o = .ret (.tup (v :: [.int .i64 (gints b).n, .int .i64 (gints b).e])) ∧ OwnN H 1 v (intsE (gints b).l)) := by
  unfold F68 om oo
  refine FC_seq fun K hK => ?_
  simp only [symA, sy, AV.cells, AV.isTup, startF, Nat.reduceLT, Nat.reduceEqDiff, Nat.reduceAdd]
  apply hK
  clear hK K
  refine FC_seq fun K hK => ?_
  simp only [symA, sy, AV.cells, AV.isTup, startF, Nat.reduceLT, Nat.reduceEqDiff, Nat.reduceAdd]
  have hS70 : Sound Tryd.prog gv 70 [.lst tag 1 (bytesE b), .int .i64 1] ⟨0, .nil⟩ _ _ := length_ok (b := b) (tag := tag) (least := 1) hb (by omega) (by omega) _
  refine FOps_call (by decide) (by simp only [sm, symB, Nat.reduceEqDiff, startF]) (hS70) ?_
  simp only [symA, sy, AV.cells, AV.isTup, startF, Nat.reduceLT, Nat.reduceEqDiff, Nat.reduceAdd, Got.av]
  apply hK
  clear hK K
  have hgi : gints b = _ := rfl
  conv at hgi => rhs; unfold gints
  have hok := fun h => glen_ok (b := b) (least := 1) h
  have her := fun h => glen_err b 1 h
  obtain ⟨g, hg⟩ : ∃ g, glen b 1 = g := ⟨_, rfl⟩
  rw [hg] at hok her hgi
  simp only [hg]
  refine FC_seq fun K hK => ?_
  refine FC_seq fun K2 hK2 => ?_
  simp only [symA, sy, AV.cells, AV.isTup, startF, Nat.reduceLT, Nat.reduceEqDiff, Nat.reduceAdd]
  apply hK2
  clear hK2 K2
  have b1 : (g.e != 0) = decide (g.e ≠ 0) := by simp [bne, Bool.beq_eq_decide_eq]
  simp only [symA, sy, AV.cells, AV.isTup, startF, Nat.reduceLT, Nat.reduceEqDiff, Nat.reduceAdd, b1]
  refine ⟨fun q1 => ?_, fun q1 => ?_⟩
  · refine ⟨rfl, _, by simp only [resFs, resF, symB, ne_eq, Nat.reduceEqDiff, not_false_eq_true]; rfl, .nilsl, ?_, ?_⟩
    · rw [hgi, if_pos q1]; rfl
    · rw [hgi, if_pos q1]; exact OwnN.nil _ _
  · apply hK
    clear hK K
    have ge0 : g.e = 0 := by simpa using q1
    obtain ⟨o1, o2, o3, o4⟩ := hok ge0
    rw [if_neg q1] at hgi
    obtain ⟨N, hN⟩ : ∃ N : Nat, g.v = N := ⟨g.v.toNat, by omega⟩
    have hN' : N ≤ b.length := by rw [hN] at o4; simp at o4; omega
    rw [hN, Int.toNat_natCast] at hgi
    refine FC_seq fun K hK => ?_
    simp only [symA, sy, AV.cells, AV.isTup, startF, Nat.reduceLT, Nat.reduceEqDiff, Nat.reduceAdd]
    apply hK
    clear hK K
    refine FC_seq fun K hK => ?_
    refine FC_seq fun K2 hK2 => ?_
    simp only [symA, sy, AV.cells, AV.isTup, startF, Nat.reduceLT, Nat.reduceEqDiff, Nat.reduceAdd, hN]
    apply hK2
    clear hK2 K2
    refine FC_range (id := 0) (cmp := 28) (ix := 27) (ln := 26) (nx := 48) (fun i f h => f 0 = .lst tag 1 (bytesE b) ∧ f 2 = .func (.func 69) [] [] ∧ ∃ (acc : List Int) (a : Nat), f 10 = .int .i64 a ∧ a ≤ b.length ∧ OwnN h 1 (f 12) (intsE acc) ∧ acc.length = i ∧ gmany b N g.n = uptoL acc (gmany b (N - i) a))
      N (by omega) (by decide) (by simp only [symB, ne_eq, Nat.reduceEqDiff, not_false_eq_true]) (by simp only [symB, ne_eq, Nat.reduceEqDiff, not_false_eq_true]) ?_ ?_ ?_ ?_
    · refine ⟨by simp only [symB, ne_eq, Nat.reduceEqDiff, not_false_eq_true, startF, List.getD_cons_zero], by simp only [symB, ne_eq, Nat.reduceEqDiff, not_false_eq_true, startF, List.getD_cons_zero, List.getD_cons_succ], [], g.n, by simp only [symB, ne_eq, Nat.reduceEqDiff, not_false_eq_true], o2, by simp only [symB, ne_eq, Nat.reduceEqDiff, not_false_eq_true]; exact OwnN.nil _ _, rfl, ?_⟩
      rw [Nat.sub_zero]
      cases gmany b N g.n <;> rfl
    · rintro i f h d v (rfl | rfl | rfl) ⟨h1, h2, acc, a, h3, h4, h5, h6, h7⟩ <;> exact ⟨by simpa only [symB, ne_eq, Nat.reduceEqDiff, not_false_eq_true] using h1, by simpa only [symB, ne_eq, Nat.reduceEqDiff, not_false_eq_true] using h2, acc, a, by simpa only [symB, ne_eq, Nat.reduceEqDiff, not_false_eq_true] using h3, h4, by simpa only [symB, ne_eq, Nat.reduceEqDiff, not_false_eq_true] using h5, h6, h7⟩
    · rintro i f h hi e1 e2 ⟨h1, h2, acc, a, h3, h4, h5, h6, h7⟩
      refine FC_block (FC_seq fun K2 hK2 => ?_)
      obtain ⟨tag', -, hsl⟩ := slice_from tag 1 (els := bytesE b) (a := a) (by rw [bytesE_length]; exact h4)
      rw [bytesE_drop] at hsl
      simp only [symA, sy, AV.cells, AV.isTup, startF, Nat.reduceLT, Nat.reduceEqDiff, Nat.reduceAdd, h1, h2, h3, optNat, asNat_nat, hsl, Option.isSome_none, false_implies]
      refine FOps_callv (by decide) (fs := []) (cs := []) (fid := 69) (by simp only [symB, ne_eq, Nat.reduceEqDiff, not_false_eq_true, h2]) (by simp only [List.map_cons, List.map_nil, symB, ne_eq, Nat.reduceEqDiff, not_false_eq_true, List.nil_append, List.append_nil]) (getint_ok (b := b.drop a) (tag := tag') (hb.drop a) (by simp; omega) h) ?_
      have gok := fun h => gint_ok (b := b.drop a) h
      obtain ⟨M, hM⟩ : ∃ M, N - i = M + 1 := ⟨N - i - 1, by omega⟩
      rw [hM] at h7
      have hmn : gmany b (M + 1) a = _ := rfl
      conv at hmn => rhs; unfold gmany
      obtain ⟨x, hx⟩ : ∃ x, gint (b.drop a) = x := ⟨_, rfl⟩
      rw [hx] at hmn gok
      simp only [symA, sy, AV.cells, AV.isTup, startF, Nat.reduceLT, Nat.reduceEqDiff, Nat.reduceAdd, Got.av, hx]
      apply hK2
      clear hK2 K2
      refine FC_seq fun K2 hK2 => ?_
      refine FC_seq fun K3 hK3 => ?_
      simp only [symA, sy, AV.cells, AV.isTup, startF, Nat.reduceLT, Nat.reduceEqDiff, Nat.reduceAdd]
      apply hK3
      clear hK3 K3
      have b2 : (x.e != 0) = decide (x.e ≠ 0) := by simp [bne, Bool.beq_eq_decide_eq]
      simp only [symA, sy, AV.cells, AV.isTup, startF, Nat.reduceLT, Nat.reduceEqDiff, Nat.reduceAdd, b2]
      refine ⟨fun q2 => ?_, fun q2 => ?_⟩
      · rw [if_pos q2] at hmn
        refine ⟨rfl, _, by simp only [resFs, resF, symB, ne_eq, Nat.reduceEqDiff, not_false_eq_true]; rfl, .nilsl, ?_, ?_⟩
        · rw [hgi, h7, hmn]; rfl
        · rw [hgi, h7, hmn]; exact OwnN.nil _ _
      · rw [if_neg q2] at hmn
        obtain ⟨g1, g2, g3, g4⟩ := gok (by simpa using q2)
        simp only [List.length_drop] at g2
        apply hK2
        clear hK2 K2
        obtain ⟨v', H', a1, a2, a3⟩ := h5.append (bytes := 8) (e := [.int .i64 x.v]) (by rw [intsE_length]; omega)
        simp only [symA, sy, AV.cells, AV.isTup, startF, Nat.reduceLT, Nat.reduceEqDiff, Nat.reduceAdd, litA, elemsOf, a1, h3]
        refine ⟨trivial, e1, e2, h1, h2, acc ++ [x.v], a + x.n, ?_, by omega, ?_, by simp [h6], ?_⟩
        · rw [wrap_i64 (by omega) (by omega)]; simp
        · rw [intsE_append]; exact a2
        · rw [h7, hmn, show M = N - (i + 1) by omega]
          cases gmany b (N - (i + 1)) (a + x.n) with
          | error e => rfl
          | ok p => simp [uptoL]
    · rintro f h e2 ⟨h1, h2, acc, a, h3, h4, h5, h6, h7⟩
      simp only [symA, sy, AV.cells, AV.isTup, startF, Nat.reduceLT, Nat.reduceEqDiff, Nat.reduceAdd]
      apply hK
      clear hK K
      rw [Nat.sub_self] at h7
      simp only [gmany, uptoL, List.append_nil] at h7
      simp only [symA, sy, AV.cells, AV.isTup, startF, Nat.reduceLT, Nat.reduceEqDiff, Nat.reduceAdd]
      refine ⟨rfl, _, by simp only [resFs, resF, symB, ne_eq, Nat.reduceEqDiff, not_false_eq_true]; rfl, f 12, ?_, ?_⟩
      · rw [hgi, h7, h3]; rfl
      · rw [hgi, h7]; exact h5
theorem get_ok {b : List Nat} (hb : Bytes b) (hl : b.length < 2^36) (H : Heap) : Sound Tryd.prog gv 68 [.lst 0 1 (bytesE b), .int .i64 1, .func (.func 69) [] []] H
    (.ret (.tup (ownV H 1 (intsE (gints b).l) :: [.int .i64 (gints b).n, .int .i64 (gints b).e]))) (ownH H (intsE (gints b).l)) := by
  refine Sound_ownT gfree (by simp [freeL, AV.free, freeLL_bytesE]) ?_ (freeLL_intsE _) (Sound_of_FC mixed is68 (by unfold F68 om oo; simp) (get_body b 0 hb hl)) H
  intro x hx
  simp only [List.mem_cons, List.not_mem_nil, or_false] at hx
  rcases hx with rfl | rfl <;> exact ⟨_, _, rfl⟩
/-- wire.GetInts -/
theorem getints_ok {b : List Nat} {tag : Nat} (hb : Bytes b) (hl : b.length < 2^36) (H : Heap) : Sound Tryd.prog gv 50 [.lst tag 1 (bytesE b)] H
    (.ret (.tup (ownV H 1 (intsE (gints b).l) :: [.int .i64 (gints b).n, .int .i64 (gints b).e]))) (ownH H (intsE (gints b).l)) := by
  refine Sound.tag0 (Sound_FC is50 (by unfold F50 om oo; simp) ?_) tag
  show FC Tryd.prog gv 10 F50.body _ _ _ (retF [.tmp 2, .tmp 3, .tmp 4] _)
  unfold F50 om oo
  refine FC_seq fun K hK => ?_
  simp only [symA, sy, AV.cells, AV.isTup, startF, Nat.reduceLT, Nat.reduceEqDiff, Nat.reduceAdd]
  apply hK
  clear hK K
  simp only [symA, sy, AV.cells, AV.isTup, startF, Nat.reduceLT, Nat.reduceEqDiff, Nat.reduceAdd]
  refine FOps_call (by decide) (by simp only [sm, symB, Nat.reduceEqDiff, startF]) (get_ok (b := b) hb hl H) ?_
  simp only [symA, sy, AV.cells, AV.isTup, startF, Nat.reduceLT, Nat.reduceEqDiff, Nat.reduceAdd]
  refine ⟨rfl, _, by simp only [resFs, resF, symB, ne_eq, Nat.reduceEqDiff, not_false_eq_true]; rfl, ?_, rfl⟩
  rfl
end Go.Proofs.YtfdaiidepcbemaaDoor
end
section
namespace Go.Proofs.YtfdaiidepcbemaaDoor
open Go Go.Av Go.Av.Pr
set_option maxRecDepth 100000
attribute [local congr] FD2_congr stepK_congr condK_congr guardK_congr FC_congr FOps_congr thenF_congr inBlockF_congr
theorem bytesE_take (b : List Nat) (n : Nat) : (bytesE b).take n = bytesE (b.take n) := by simp [bytesE]
theorem bytesE_flatten (b : List Nat) : (bytesE b).flatten = bytesC b := by
  induction b with
  | nil => rfl
  | cons x b ih => simp only [bytesE, bytesC, List.map_cons, List.flatten_cons] at ih ⊢; rw [ih]; rfl
theorem slice_to (tag sz : Nat) {els : List (List AV)} {n : Nat} (hn : n ≤ els.length) : ∃ tag', sliceA sz (.lst tag sz els) none (some n) none = some (.lst tag' sz (els.take n)) := by
  simp only [sliceA, Option.getD_some, Option.getD_none]
  rw [if_pos ⟨trivial, Nat.zero_le _, hn⟩]
  by_cases h : n = els.length ∧ (0 < n ∨ tag < 2)
  · rw [if_pos h]
    refine ⟨tag, ?_⟩
    rw [List.drop_zero, h.1, List.take_length]
  · rw [if_neg h]
    refine ⟨0, ?_⟩
    rw [List.drop_zero, Nat.sub_zero]
/-- wire.getDigest -/
theorem getdigest_ok {b : List Nat} (h16 : 16 ≤ b.length) (tag : Nat) (H : Heap) : Sound Tryd.prog gv 52 [.lst tag 1 (bytesE b)] H (.ret (.tup [.agg (bytesC (b.take 16)), .int .i64 16, .int .i64 0])) H := by
  have h0 : Sound Tryd.prog gv 52 [.lst 0 1 (bytesE b)] H (.ret (.tup [.agg (bytesC (b.take 16)), .int .i64 16, .int .i64 0])) H := by
    obtain ⟨out, H', ⟨rfl, hH⟩, hS⟩ := Sound_of_FC (R := fun o h => o = .ret (.tup [.agg (bytesC (b.take 16)), .int .i64 16, .int .i64 0]) ∧ True) mixed is52 (args := [.lst 0 1 (bytesE b)]) (by unfold F52 om oo; simp) (H := ⟨0, .nil⟩) (by
      show FC Tryd.prog gv 9 F52.body _ _ _ (retF [.cell 2 true 16, .tmp 3, .tmp 4] _)
      unfold F52 om oo
      refine FC_seq fun K hK => ?_
      simp only [symA, sy, AV.cells, AV.isTup, startF, Nat.reduceLT, Nat.reduceEqDiff, Nat.reduceAdd]
      apply hK
      clear hK K
      obtain ⟨tag', hsl⟩ := slice_to 0 1 (els := bytesE b) (n := 16) (by rw [bytesE_length]; exact h16)
      rw [bytesE_take] at hsl
      simp only [symA, sy, AV.cells, AV.isTup, startF, Nat.reduceLT, Nat.reduceEqDiff, Nat.reduceAdd, optNat, show asNat (.int .i64 16) = some 16 from rfl, hsl, Option.isSome_none, false_implies, bytesE_length, List.length_take, show min 16 b.length = 16 by omega, bytesE_flatten, bytesC_length, Heap.cellsAt, sh]
      rw [List.take_of_length_le (by rw [bytesC_length]; simp; omega)]
      rw [splice_all (by simp [bytesC_length]; omega)]
      refine ⟨rfl, [.agg (bytesC (b.take 16)), .int .i64 16, .int .i64 0], ?_, rfl, trivial⟩
      simp only [resFs, resF, symA, sy, AV.cells, AV.isTup, startF, Nat.reduceLT, Nat.reduceEqDiff, Nat.reduceAdd, Heap.cellsAt, sh, bytesC_length, List.length_take, show min 16 b.length = 16 by omega, List.drop_zero]
      rw [List.take_of_length_le (by rw [bytesC_length]; simp; omega)])
    exact hS.frame gfree (by simp [freeL, AV.free, freeLL_bytesE]) (tk := none) (fun k' hk' => by cases hk') (n := 0) H (by simp [Out.av, shutF, shut1, AV.free, freeL, freeL_bytesC])
  exact h0.tag0 tag
def gdig (b : List Nat) : Nat → Nat → List (List Nat) × Nat
  | 0, a => ([], a)
  | n + 1, a => let r := gdig b n (a + 16); ((b.drop a).take 16 :: r.1, r.2)
def gdigs (b : List Nat) : GotL (List Nat) :=
  if (glen b 16).e ≠ 0 then ⟨[], 0, (glen b 16).e⟩
  else ⟨(gdig b (glen b 16).v.toNat (glen b 16).n).1, (gdig b (glen b 16).v.toNat (glen b 16).n).2, 0⟩
theorem gdig_at {b : List Nat} : ∀ {n a : Nat}, a + 16 * n ≤ b.length → (gdig b n a).2 = a + 16 * n ∧ (gdig b n a).1.length = n ∧ ∀ x ∈ (gdig b n a).1, x.length = 16
  | 0, a, h => ⟨rfl, rfl, fun x hx => by cases hx⟩
  | n + 1, a, h => by
    obtain ⟨h1, h2, h3⟩ := gdig_at (b := b) (n := n) (a := a + 16) (by omega)
    refine ⟨by simp only [gdig, h1]; omega, by simp only [gdig, List.length_cons, h2], fun x hx => ?_⟩
    simp only [gdig, List.mem_cons] at hx
    rcases hx with rfl | hx
    · simp; omega
    · exact h3 x hx
theorem getd_body (b : List Nat) (tag : Nat) (hb : Bytes b) (hl : b.length < 2^36) : FC Tryd.prog gv 51 F51.body (startF [.lst tag 1 (bytesE b), .int .i64 16, .func (.func 52) [] []]) [] ⟨0, .nil⟩
    (retF [.tmp 6, .tmp 7, .tmp 8] fun o H => ∃ v, o = .ret (.tup (v :: [.int .i64 (gdigs b).n, .int .i64 (gdigs b).e])) ∧ OwnN H 16 v (digsE (gdigs b).l)) := by
  unfold F51 om oo
  refine FC_seq fun K hK => ?_
  simp only [symA, sy, AV.cells, AV.isTup, startF, Nat.reduceLT, Nat.reduceEqDiff, Nat.reduceAdd]
  apply hK
  clear hK K
  refine FC_seq fun K hK => ?_
  simp only [symA, sy, AV.cells, AV.isTup, startF, Nat.reduceLT, Nat.reduceEqDiff, Nat.reduceAdd]
  have hS70 : Sound Tryd.prog gv 70 [.lst tag 1 (bytesE b), .int .i64 16] ⟨0, .nil⟩ _ _ := length_ok (b := b) (tag := tag) (least := 16) hb (by omega) (by omega) _
  refine FOps_call (by decide) (by simp only [sm, symB, Nat.reduceEqDiff, startF]) (hS70) ?_
  simp only [symA, sy, AV.cells, AV.isTup, startF, Nat.reduceLT, Nat.reduceEqDiff, Nat.reduceAdd, Got.av]
  apply hK
  clear hK K
  have hgi : gdigs b = _ := rfl
  conv at hgi => rhs; unfold gdigs
  have hok := fun h => glen_ok (b := b) (least := 16) h
  have her := fun h => glen_err b 16 h
  obtain ⟨g, hg⟩ : ∃ g, glen b 16 = g := ⟨_, rfl⟩
  rw [hg] at hok her hgi
  simp only [hg]
  refine FC_seq fun K hK => ?_
  refine FC_seq fun K2 hK2 => ?_
  simp only [symA, sy, AV.cells, AV.isTup, startF, Nat.reduceLT, Nat.reduceEqDiff, Nat.reduceAdd]
  apply hK2
  clear hK2 K2
  have b1 : (g.e != 0) = decide (g.e ≠ 0) := by simp [bne, Bool.beq_eq_decide_eq]
  simp only [symA, sy, AV.cells, AV.isTup, startF, Nat.reduceLT, Nat.reduceEqDiff, Nat.reduceAdd, b1]
  refine ⟨fun q1 => ?_, fun q1 => ?_⟩
  · refine ⟨rfl, _, by simp only [resFs, resF, symB, ne_eq, Nat.reduceEqDiff, not_false_eq_true]; rfl, .nilsl, ?_, ?_⟩
    · rw [hgi, if_pos q1]; rfl
    · rw [hgi, if_pos q1]; exact OwnN.nil _ _
  · apply hK
    clear hK K
    have ge0 : g.e = 0 := by simpa using q1
    obtain ⟨o1, o2, o3, o4⟩ := hok ge0
    rw [if_neg q1] at hgi
    obtain ⟨N, hN⟩ : ∃ N : Nat, g.v = N := ⟨g.v.toNat, by omega⟩
    have hN' : g.n + 16 * N ≤ b.length := by rw [hN, Int.toNat_natCast] at o4; have := Nat.div_mul_le_self (b.length - g.n) 16; omega
    rw [hN, Int.toNat_natCast] at hgi
    obtain ⟨d1, d2, d3⟩ := gdig_at (b := b) (n := N) (a := g.n) hN'
    refine FC_seq fun K hK => ?_
    simp only [symA, sy, AV.cells, AV.isTup, startF, Nat.reduceLT, Nat.reduceEqDiff, Nat.reduceAdd]
    apply hK
    clear hK K
    refine FC_seq fun K hK => ?_
    refine FC_seq fun K2 hK2 => ?_
    simp only [symA, sy, AV.cells, AV.isTup, startF, Nat.reduceLT, Nat.reduceEqDiff, Nat.reduceAdd, hN]
    apply hK2
    clear hK2 K2
    refine FC_range (id := 0) (cmp := 28) (ix := 27) (ln := 26) (nx := 48) (fun i f h => f 0 = .lst tag 1 (bytesE b) ∧ f 2 = .func (.func 52) [] [] ∧ ∃ (acc : List (List Nat)), f 10 = .int .i64 ((g.n + 16 * i : Nat) : Int) ∧ OwnN h 16 (f 12) (digsE acc) ∧ acc.length = i ∧ (gdig b N g.n).1 = acc ++ (gdig b (N - i) (g.n + 16 * i)).1)
      N (by omega) (by decide) (by simp only [symB, ne_eq, Nat.reduceEqDiff, not_false_eq_true]) (by simp only [symB, ne_eq, Nat.reduceEqDiff, not_false_eq_true]) ?_ ?_ ?_ ?_
    · refine ⟨by simp only [symB, ne_eq, Nat.reduceEqDiff, not_false_eq_true, startF, List.getD_cons_zero], by simp only [symB, ne_eq, Nat.reduceEqDiff, not_false_eq_true, startF, List.getD_cons_zero, List.getD_cons_succ], [], by simp only [symB, ne_eq, Nat.reduceEqDiff, not_false_eq_true]; rfl, by simp only [symB, ne_eq, Nat.reduceEqDiff, not_false_eq_true]; exact OwnN.nil _ _, rfl, rfl⟩
    · rintro i f h d v (rfl | rfl | rfl) ⟨h1, h2, acc, h3, h5, h6, h7⟩ <;> exact ⟨by simpa only [symB, ne_eq, Nat.reduceEqDiff, not_false_eq_true] using h1, by simpa only [symB, ne_eq, Nat.reduceEqDiff, not_false_eq_true] using h2, acc, by simpa only [symB, ne_eq, Nat.reduceEqDiff, not_false_eq_true] using h3, by simpa only [symB, ne_eq, Nat.reduceEqDiff, not_false_eq_true] using h5, h6, h7⟩
    · rintro i f h hi e1 e2 ⟨h1, h2, acc, h3, h5, h6, h7⟩
      refine FC_block (FC_seq fun K2 hK2 => ?_)
      obtain ⟨a, ha⟩ : ∃ a, g.n + 16 * i = a := ⟨_, rfl⟩
      rw [ha] at h3 h7
      obtain ⟨tag', -, hsl⟩ := slice_from tag 1 (els := bytesE b) (a := a) (by rw [bytesE_length]; omega)
      rw [bytesE_drop] at hsl
      simp only [symA, sy, AV.cells, AV.isTup, startF, Nat.reduceLT, Nat.reduceEqDiff, Nat.reduceAdd, h1, h2, h3, optNat, asNat_nat, hsl, Option.isSome_none, false_implies]
      refine FOps_callv (by decide) (fs := []) (cs := []) (fid := 52) (by simp only [symB, ne_eq, Nat.reduceEqDiff, not_false_eq_true, h2]) (by simp only [List.map_cons, List.map_nil, symB, ne_eq, Nat.reduceEqDiff, not_false_eq_true, List.nil_append, List.append_nil]) (getdigest_ok (b := b.drop a) (by simp; omega) tag' h) ?_
      obtain ⟨M, hM⟩ : ∃ M, N - i = M + 1 := ⟨N - i - 1, by omega⟩
      rw [hM] at h7
      obtain ⟨x, hx⟩ : ∃ x, (b.drop a).take 16 = x := ⟨_, rfl⟩
      have hx16 : x.length = 16 := by rw [← hx]; simp; omega
      simp only [gdig, hx] at h7
      simp only [symA, sy, AV.cells, AV.isTup, startF, Nat.reduceLT, Nat.reduceEqDiff, Nat.reduceAdd, hx, bytesC_length, hx16, get_alloc_self, List.length_replicate]
      rw [splice_all (by simp [bytesC_length, hx16])]
      apply hK2
      clear hK2 K2
      refine FC_seq fun K2 hK2 => ?_
      refine FC_seq fun K3 hK3 => ?_
      simp only [symA, sy, AV.cells, AV.isTup, startF, Nat.reduceLT, Nat.reduceEqDiff, Nat.reduceAdd]
      apply hK3
      clear hK3 K3
      simp only [symA, sy, AV.cells, AV.isTup, startF, Nat.reduceLT, Nat.reduceEqDiff, Nat.reduceAdd, show ((0 : Int) != 0) = false from rfl]
      apply hK2
      clear hK2 K2
      obtain ⟨v', H', a1, a2, a3⟩ := OwnN.append (bytes := 16) (e := bytesC x) (H := (h.alloc (.cells (List.replicate 16 (.int .u8 0)) false)).set h.next (.cells (bytesC x) false)) (sz := 16) (v := f 12) (els := digsE acc) ⟨(h5.1.alloc _).set _ _ (fun ht => by have := h5.1.tok_lt ht; omega), h5.2⟩ (by rw [digsE_length]; omega)
      simp only [List.replicate] at a1
      simp only [symA, sy, AV.cells, AV.isTup, startF, Nat.reduceLT, Nat.reduceEqDiff, Nat.reduceAdd, cellsAt_set, bytesC_length, hx16, List.drop_zero, litA, elemsOf]
      rw [List.take_of_length_le (by rw [bytesC_length]; omega)]
      simp only [symA, sy, AV.cells, AV.isTup, startF, Nat.reduceLT, Nat.reduceEqDiff, Nat.reduceAdd, bytesC_length, hx16, litA, elemsOf, a1, h3, show (16 : Int) = ((16 : Nat) : Int) from rfl]
      refine ⟨trivial, e1, e2, h1, h2, acc ++ [x], ?_, ?_, by simp [h6], ?_⟩
      · rw [wrap_i64 (by omega) (by omega)]; simp; omega
      · rw [show digsE (acc ++ [x]) = digsE acc ++ [bytesC x] by simp [digsE]]; exact a2
      · rw [h7, show M = N - (i + 1) by omega, show a + 16 = g.n + 16 * (i + 1) by omega]; simp
    · rintro f h e2 ⟨h1, h2, acc, h3, h5, h6, h7⟩
      simp only [symA, sy, AV.cells, AV.isTup, startF, Nat.reduceLT, Nat.reduceEqDiff, Nat.reduceAdd]
      apply hK
      clear hK K
      rw [Nat.sub_self] at h7
      simp only [gdig, List.append_nil] at h7
      simp only [symA, sy, AV.cells, AV.isTup, startF, Nat.reduceLT, Nat.reduceEqDiff, Nat.reduceAdd]
      refine ⟨rfl, _, by simp only [resFs, resF, symB, ne_eq, Nat.reduceEqDiff, not_false_eq_true]; rfl, f 12, ?_, ?_⟩
      · rw [hgi, h3, d1]; rfl
      · rw [hgi, h7]; exact h5
theorem getd_ok {b : List Nat} (hb : Bytes b) (hl : b.length < 2^36) (H : Heap) : Sound Tryd.prog gv 51 [.lst 0 1 (bytesE b), .int .i64 16, .func (.func 52) [] []] H
    (.ret (.tup (ownV H 16 (digsE (gdigs b).l) :: [.int .i64 (gdigs b).n, .int .i64 (gdigs b).e]))) (ownH H (digsE (gdigs b).l)) := by
  refine Sound_ownT gfree (by simp [freeL, AV.free, freeLL_bytesE]) ?_ (freeLL_digsE _) (Sound_of_FC mixed is51 (by unfold F51 om oo; simp) (getd_body b 0 hb hl)) H
  intro x hx
  simp only [List.mem_cons, List.not_mem_nil, or_false] at hx
  rcases hx with rfl | rfl <;> exact ⟨_, _, rfl⟩
/-- wire.GetDigests -/
theorem getdigs_ok {b : List Nat} {tag : Nat} (hb : Bytes b) (hl : b.length < 2^36) (H : Heap) : Sound Tryd.prog gv 30 [.lst tag 1 (bytesE b)] H
    (.ret (.tup (ownV H 16 (digsE (gdigs b).l) :: [.int .i64 (gdigs b).n, .int .i64 (gdigs b).e]))) (ownH H (digsE (gdigs b).l)) := by
  refine Sound.tag0 (Sound_FC is30 (by unfold F30 om oo; simp) ?_) tag
  show FC Tryd.prog gv 10 F30.body _ _ _ (retF [.tmp 2, .tmp 3, .tmp 4] _)
  unfold F30 om oo
  refine FC_seq fun K hK => ?_
  simp only [symA, sy, AV.cells, AV.isTup, startF, Nat.reduceLT, Nat.reduceEqDiff, Nat.reduceAdd]
  apply hK
  clear hK K
  simp only [symA, sy, AV.cells, AV.isTup, startF, Nat.reduceLT, Nat.reduceEqDiff, Nat.reduceAdd]
  refine FOps_call (by decide) (by simp only [sm, symB, Nat.reduceEqDiff, startF]) (getd_ok (b := b) hb hl H) ?_
  simp only [symA, sy, AV.cells, AV.isTup, startF, Nat.reduceLT, Nat.reduceEqDiff, Nat.reduceAdd]
  refine ⟨rfl, _, by simp only [resFs, resF, symB, ne_eq, Nat.reduceEqDiff, not_false_eq_true]; rfl, ?_, rfl⟩
  rfl
end Go.Proofs.YtfdaiidepcbemaaDoor
end
