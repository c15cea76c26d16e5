/-
  PLAIN LAWS: what is written is read back, and what is read has been written so.
-/
import Derived.Test.YtfdaiidepcbemaaDoorA39
set_option linter.unusedVariables false
set_option linter.unusedSimpArgs false
section
namespace Go.Proofs.YtfdaiidepcbemaaDoor
open Go Go.Av Go.Av.Pr
theorem uget_pos : ∀ (b : List Nat) (k z n : Nat), 0 < k → uget k b = .ok (z, n) → 0 < z
  | [], k, z, n, hk, h => by simp [uget] at h
  | c :: r, k, z, n, hk, h => by
    unfold uget at h
    split at h
    · cases h
    · rename_i h0
      split at h
      · simp only [Except.ok.injEq, Prod.mk.injEq] at h
        omega
      · split at h
        · rename_i z' n' he
          simp only [Except.ok.injEq, Prod.mk.injEq] at h
          have := uget_pos r (k + 1) z' n' (by omega) he
          omega
        · cases h
theorem uget_take : ∀ (b : List Nat) (k z n : Nat), Bytes b → uget k b = .ok (z, n) → b.take n = uvar z
  | [], k, z, n, hb, h => by simp [uget] at h
  | c :: r, k, z, n, hb, h => by
    have hc : c < 256 := hb c (by simp)
    unfold uget at h
    split at h
    · cases h
    · split at h
      · rename_i h0 h1
        simp only [Except.ok.injEq, Prod.mk.injEq] at h
        obtain ⟨rfl, rfl⟩ := h
        rw [uvar, if_pos (by omega)]
        rfl
      · rename_i h0 h1
        split at h
        · rename_i z' n' he
          simp only [Except.ok.injEq, Prod.mk.injEq] at h
          obtain ⟨rfl, rfl⟩ := h
          have hp := uget_pos r (k + 1) z' n' (by omega) he
          have ih := uget_take r (k + 1) z' n' (fun x hx => hb x (by simp [hx])) he
          rw [uvar, if_neg (by omega), List.take_succ_cons, ih]
          congr 1
          · omega
          · congr 1; omega
        · cases h
theorem gint_take {b : List Nat} (hb : Bytes b) (h : (gint b).e = 0) : b.take (gint b).n = uvar (zig (gint b).v) := by
  unfold gint at h ⊢
  split
  · rename_i z n hz
    rw [uget_take b 0 z n hb hz, zig_unzig]
  · rename_i e he
    rw [he] at h
    simp only at h
    subst h
    rcases uget_err b 0 0 he with h | h <;> omega
/-! ### lists of numbers -/
theorem flat_ge (l : List Int) : l.length ≤ (l.flatMap fun x => uvar (zig x)).length := by
  induction l with
  | nil => simp
  | cons x l ih =>
    have : 0 < (uvar (zig x)).length := List.length_pos_iff.mpr (uvar_ne _)
    simp only [List.flatMap_cons, List.length_append, List.length_cons]
    omega
theorem gmany_app (r : List Nat) : ∀ (l : List Int) (pre : List Nat), (∀ x ∈ l, I64 x) →
    gmany (pre ++ ((l.flatMap fun x => uvar (zig x)) ++ r)) l.length pre.length = .ok (l, pre.length + (l.flatMap fun x => uvar (zig x)).length)
  | [], pre, h => rfl
  | x :: l, pre, h => by
    have hx := h x (by simp)
    have hg : gint ((pre ++ (((x :: l).flatMap fun x => uvar (zig x)) ++ r)).drop pre.length) = ⟨x, (uvar (zig x)).length, 0⟩ := by
      rw [List.drop_left' rfl, List.flatMap_cons, List.append_assoc]
      exact gint_uvar hx.1 hx.2 _
    simp only [List.length_cons, gmany, hg, ne_eq, not_true_eq_false, if_false]
    have ih := gmany_app r l (pre ++ uvar (zig x)) (fun y hy => h y (by simp [hy]))
    rw [List.length_append] at ih
    rw [List.flatMap_cons, List.append_assoc, ← List.append_assoc pre, ih]
    simp only [List.length_append]
    rw [Nat.add_assoc]
theorem gints_app {l : List Int} (h : ∀ x ∈ l, I64 x) (hl : l.length < 2 ^ 30) (r : List Nat) : gints (encInts l ++ r) = ⟨l, (encInts l).length, 0⟩ := by
  have hg : gint (encInts l ++ r) = ⟨(l.length : Int), (uvar (zig (l.length : Int))).length, 0⟩ := by
    rw [encInts, List.append_assoc]
    exact gint_uvar (by omega) (by omega) _
  have hge := flat_ge l
  have hlen : glen (encInts l ++ r) 1 = ⟨(l.length : Int), (uvar (zig (l.length : Int))).length, 0⟩ := by
    rw [glen, hg]
    simp only [ne_eq, not_true_eq_false, if_false]
    rw [if_neg (by omega), if_neg]
    simp only [encInts, List.length_append, Nat.div_one]
    omega
  have hm := gmany_app r l (uvar (zig (l.length : Int))) h
  rw [← List.append_assoc] at hm
  rw [gints, hlen]
  simp only [ne_eq, not_true_eq_false, if_false, Int.toNat_natCast]
  rw [show encInts l = uvar (zig (l.length : Int)) ++ (l.flatMap fun x => uvar (zig x)) from rfl, hm]
  simp only [List.length_append]
theorem gmany_take {b : List Nat} (hb : Bytes b) : ∀ {n a : Nat} {l : List Int} {z : Nat}, a ≤ b.length → gmany b n a = .ok (l, z) → (b.drop a).take (z - a) = (l.flatMap fun x => uvar (zig x))
  | 0, a, l, z, ha, h => by
    simp only [gmany, Except.ok.injEq, Prod.mk.injEq] at h
    obtain ⟨rfl, rfl⟩ := h
    simp
  | n + 1, a, l, z, ha, h => by
    unfold gmany at h
    split at h
    · cases h
    · rename_i q
      have q0 : (gint (b.drop a)).e = 0 := by simpa using q
      obtain ⟨c1, c2, c3, c4⟩ := gint_ok q0
      have ht := gint_take (hb.drop a) q0
      simp only [List.length_drop] at c2
      split at h
      · rename_i l' z' hl
        simp only [Except.ok.injEq, Prod.mk.injEq] at h
        obtain ⟨rfl, rfl⟩ := h
        obtain ⟨d1, d2, d3, d4⟩ := gmany_at (by omega) hl
        have ih := gmany_take hb (by omega) hl
        rw [List.flatMap_cons, ← ih, ← ht]
        rw [show z' - a = (gint (b.drop a)).n + (z' - (a + (gint (b.drop a)).n)) by omega, List.take_add, List.drop_drop]
      · cases h
theorem gints_take {b : List Nat} (hb : Bytes b) (h : (gints b).e = 0) : b.take (gints b).n = encInts (gints b).l := by
  unfold gints at h ⊢
  split at h
  · rename_i q; exact absurd h q
  · rename_i q
    have q0 : (glen b 1).e = 0 := by simpa using q
    obtain ⟨g1, g2, g3, g4⟩ := glen_ok q0
    have hgl : glen b 1 = gint b ∧ (gint b).e = 0 := by
      unfold glen at q0 ⊢
      split at q0
      · rename_i q; exact absurd q0 q
      · rename_i q1
        split at q0
        · cases q0
        · split at q0
          · cases q0
          · rename_i q2 q3
            rw [if_neg q1, if_neg q2, if_neg q3]
            exact ⟨rfl, by simpa using q1⟩
    rw [if_neg q]
    split
    · rename_i l z hl
      obtain ⟨d1, d2, d3, d4⟩ := gmany_at g2 hl
      have ht := gmany_take hb g2 hl
      have h0 := gint_take hb hgl.2
      rw [← hgl.1] at h0
      show b.take z = encInts l
      rw [encInts, ← ht, d2, Int.toNat_of_nonneg g3, ← h0]
      rw [show z = (glen b 1).n + (z - (glen b 1).n) by omega, List.take_add]
      rw [show (glen b 1).n + (z - (glen b 1).n) - (glen b 1).n = z - (glen b 1).n by omega]
    · rename_i e he
      rw [he] at h
      simp only at h
      subst h
      exfalso
      have : (gints b).e = 0 := by rw [gints, if_neg q, he]
      have := gints_ok this
      rw [gints, if_neg q, he] at this
      simp only at this
      omega
/-! ### digests -/
theorem gdig_app (r : List Nat) : ∀ (l : List (List Nat)) (pre : List Nat), (∀ x ∈ l, x.length = 16) → gdig (pre ++ (l.flatten ++ r)) l.length pre.length = (l, pre.length + l.flatten.length)
  | [], pre, h => by simp [gdig]
  | x :: l, pre, h => by
    have hx := h x (by simp)
    have ih := gdig_app r l (pre ++ x) (fun y hy => h y (by simp [hy]))
    rw [List.length_append, hx] at ih
    have e1 : pre ++ ((x :: l).flatten ++ r) = (pre ++ x) ++ (l.flatten ++ r) := by simp
    simp only [List.length_cons, gdig]
    rw [e1, ih]
    simp only [Prod.mk.injEq, List.cons.injEq, and_true]
    refine ⟨?_, by simp [hx]; omega⟩
    rw [List.append_assoc, List.drop_left' rfl, List.take_left' hx]
theorem gdigs_app {l : List (List Nat)} (h : ∀ x ∈ l, x.length = 16) (hl : l.length < 2 ^ 30) (r : List Nat) : gdigs (encDigs l ++ r) = ⟨l, (encDigs l).length, 0⟩ := by
  have hg : gint (encDigs l ++ r) = ⟨(l.length : Int), (uvar (zig (l.length : Int))).length, 0⟩ := by
    rw [encDigs, List.append_assoc]
    exact gint_uvar (by omega) (by omega) _
  have hfl := flatten_len h
  have hlen : glen (encDigs l ++ r) 16 = ⟨(l.length : Int), (uvar (zig (l.length : Int))).length, 0⟩ := by
    rw [glen, hg]
    simp only [ne_eq, not_true_eq_false, if_false]
    rw [if_neg (by omega), if_neg]
    simp only [encDigs, List.length_append, hfl]
    omega
  have hm := gdig_app r l (uvar (zig (l.length : Int))) h
  rw [← List.append_assoc] at hm
  rw [gdigs, hlen]
  simp only [ne_eq, not_true_eq_false, if_false, Int.toNat_natCast]
  rw [show encDigs l = uvar (zig (l.length : Int)) ++ l.flatten from rfl, hm]
  simp only [List.length_append]
theorem gdig_take {b : List Nat} : ∀ {n a : Nat}, a + 16 * n ≤ b.length → (b.drop a).take (16 * n) = (gdig b n a).1.flatten
  | 0, a, h => by simp [gdig]
  | n + 1, a, h => by
    have ih := gdig_take (b := b) (n := n) (a := a + 16) (by omega)
    simp only [gdig, List.flatten_cons]
    rw [← ih, show 16 * (n + 1) = 16 + 16 * n by omega, List.take_add, List.drop_drop]
theorem gdigs_take {b : List Nat} (hb : Bytes b) (h : (gdigs b).e = 0) : b.take (gdigs b).n = encDigs (gdigs b).l := by
  unfold gdigs at h ⊢
  split at h
  · rename_i q; exact absurd h q
  · rename_i q
    have q0 : (glen b 16).e = 0 := by simpa using q
    obtain ⟨g1, g2, g3, g4⟩ := glen_ok q0
    have hgl : glen b 16 = gint b ∧ (gint b).e = 0 := by
      unfold glen at q0 ⊢
      split at q0
      · rename_i q; exact absurd q0 q
      · rename_i q1
        split at q0
        · cases q0
        · split at q0
          · cases q0
          · rename_i q2 q3
            rw [if_neg q1, if_neg q2, if_neg q3]
            exact ⟨rfl, by simpa using q1⟩
    have hN : (glen b 16).n + 16 * (glen b 16).v.toNat ≤ b.length := by have := Nat.div_mul_le_self (b.length - (glen b 16).n) 16; omega
    obtain ⟨d1, d2, d3⟩ := gdig_at hN
    have ht := gdig_take hN
    have h0 := gint_take hb hgl.2
    rw [← hgl.1] at h0
    rw [if_neg q]
    show b.take (gdig b (glen b 16).v.toNat (glen b 16).n).2 = encDigs (gdig b (glen b 16).v.toNat (glen b 16).n).1
    rw [encDigs, ← ht, d1, d2, Int.toNat_of_nonneg g3, ← h0, List.take_add]
/-! ### entries -/
theorem rdMoves_app (r : List Nat) : ∀ (l : List (List Int)) (pre : List Nat), (∀ m ∈ l, m.length = 14 ∧ ∀ x ∈ m, I64 x) →
    rdMoves (pre ++ (l.flatMap encInts ++ r)) l.length pre.length = some (l, pre.length + (l.flatMap encInts).length)
  | [], pre, h => rfl
  | m :: l, pre, h => by
    obtain ⟨hm, hmi⟩ := h m (by simp)
    have hg : gints ((pre ++ ((m :: l).flatMap encInts ++ r)).drop pre.length) = ⟨m, (encInts m).length, 0⟩ := by
      rw [List.drop_left' rfl, List.flatMap_cons, List.append_assoc]
      exact gints_app hmi (by omega) _
    have ih := rdMoves_app r l (pre ++ encInts m) (fun y hy => h y (by simp [hy]))
    rw [List.length_append] at ih
    simp only [List.length_cons, rdMoves, hg]
    rw [if_pos ⟨trivial, hm⟩, List.flatMap_cons, List.append_assoc, ← List.append_assoc pre, ih]
    simp only [List.length_append]
    rw [Nat.add_assoc]
theorem rdMoves_take {b : List Nat} (hb : Bytes b) : ∀ {n a : Nat} {l : List (List Int)} {z : Nat}, a ≤ b.length → rdMoves b n a = some (l, z) → (b.drop a).take (z - a) = l.flatMap encInts
  | 0, a, l, z, ha, h => by
    simp only [rdMoves, Option.some.injEq, Prod.mk.injEq] at h
    obtain ⟨rfl, rfl⟩ := h
    simp
  | n + 1, a, l, z, ha, h => by
    unfold rdMoves at h
    split at h
    · rename_i q
      obtain ⟨c1, c2, c3⟩ := gints_ok q.1
      have ht := gints_take (hb.drop a) q.1
      simp only [List.length_drop] at c1
      split at h
      · rename_i l' z' hl
        simp only [Option.some.injEq, Prod.mk.injEq] at h
        obtain ⟨rfl, rfl⟩ := h
        obtain ⟨d1, d2, d3, d4⟩ := rdMoves_at (by omega) hl
        have ih := rdMoves_take hb (by omega) hl
        rw [List.flatMap_cons, ← ih, ← ht]
        rw [show z' - a = (gints (b.drop a)).n + (z' - (a + (gints (b.drop a)).n)) by omega, List.take_add, List.drop_drop]
      · cases h
    · cases h
theorem ent_eta (e : Ent) : (⟨e.nums.getD 0 0, e.nums.getD 1 0, e.nums.getD 2 0, e.nums.getD 3 0, e.nums.getD 4 0, e.moved, [e.certs, e.prev].getD 0 [], e.nums.getD 5 0, [e.certs, e.prev].getD 1 []⟩ : Ent) = e := by
  cases e; rfl
/-- what is written is read back -/
theorem rdEnt_app {e : Ent} (h : e.Ok) (r : List Nat) : rdEnt (encE e ++ r) = ⟨e, (encE e).length, 0⟩ := by
  have hg : gints (encE e ++ r) = ⟨e.nums, (encInts e.nums).length, 0⟩ := by
    rw [encE, List.append_assoc]
    exact gints_app h.nums (by show 7 < 2 ^ 30; omega) _
  have h6 : e.nums.getD 6 0 = (e.moved.length : Int) := rfl
  have hm := rdMoves_app (encDigs [e.certs, e.prev] ++ r) e.moved (encInts e.nums) h.moved
  have hb : encE e ++ r = encInts e.nums ++ (e.moved.flatMap encInts ++ (encDigs [e.certs, e.prev] ++ r)) := by simp [encE]
  have hd : (encE e ++ r).drop ((encInts e.nums).length + (e.moved.flatMap encInts).length) = encDigs [e.certs, e.prev] ++ r := by
    rw [hb, ← List.drop_drop, List.drop_left' rfl, List.drop_left' rfl]
  have hgd := gdigs_app (l := [e.certs, e.prev]) (by simp [h.certs, h.prev]) (by simp) r
  rw [rdEnt, hg]
  simp only
  rw [if_pos ⟨trivial, rfl⟩, h6, if_neg (by omega), Int.toNat_natCast, hb, hm]
  simp only
  rw [← hb, hd, hgd, rdEnd]
  rw [if_pos ⟨rfl, rfl⟩]
  simp only [Rd.mk.injEq, and_true]
  refine ⟨ent_eta e, ?_⟩
  simp only [encE, List.length_append]
  omega
theorem rdEnd_fail {l : List Int} {mv : List (List Int)} {a : Nat} {d : GotL (List Nat)} (h : (rdEnd l mv a d).e = 0) : d.e = 0 ∧ d.l.length = 2 := by
  unfold rdEnd at h
  split at h
  · assumption
  · cases h
/-- what is read has been written so -/
theorem rdEnt_take {b : List Nat} (hb : Bytes b) (hl : b.length < 2 ^ 20) (h : (rdEnt b).e = 0) : (rdEnt b).x.Ok ∧ b.take (rdEnt b).n = encE (rdEnt b).x ∧ (rdEnt b).n ≤ b.length := by
  unfold rdEnt at h ⊢
  split at h
  · rename_i q
    rw [if_pos q]
    split at h
    · cases h
    · rename_i q6
      try rw [if_neg q6]
      split at h
      · cases h
      · rename_i mv a hm
        try (rw [hm]; simp only)
        obtain ⟨c1, c2, c3⟩ := gints_ok q.1
        have ht := gints_take hb q.1
        obtain ⟨d1, d2, d3, d4⟩ := rdMoves_at c1 hm
        have htm := rdMoves_take hb c1 hm
        obtain ⟨e1, e2⟩ := rdEnd_fail h
        obtain ⟨f1, f2, f3⟩ := gdigs_ok (hb.drop a) e1
        simp only [List.length_drop] at f1
        have htd := gdigs_take (hb.drop a) e1
        obtain ⟨da, db, hdl⟩ : ∃ da db, (gdigs (b.drop a)).l = [da, db] := by
          match hh : (gdigs (b.drop a)).l, e2 with
          | [da, db], _ => exact ⟨da, db, rfl⟩
        obtain ⟨l0, l1, l2, l3, l4, l5, l6, hl7⟩ : ∃ l0 l1 l2 l3 l4 l5 l6, (gints b).l = [l0, l1, l2, l3, l4, l5, l6] := by
          match hh : (gints b).l, q.2 with
          | [l0, l1, l2, l3, l4, l5, l6], _ => exact ⟨l0, l1, l2, l3, l4, l5, l6, rfl⟩
        rw [rdEnd, if_pos ⟨e1, e2⟩]
        rw [hl7] at ht c3 q6 d2 d3 ⊢
        rw [hdl] at htd f2 f3 ⊢
        simp only [List.getD_cons_zero, List.getD_cons_succ] at q6 d2 d3 ⊢
        have h6 : l6 = (mv.length : Int) := by omega
        have hnums : (⟨l0, l1, l2, l3, l4, mv, da, l5, db⟩ : Ent).nums = [l0, l1, l2, l3, l4, l5, l6] := by rw [h6]; rfl
        refine ⟨⟨?_, d4, ?_, f2 da (by simp), f2 db (by simp), f3 da (by simp), f3 db (by simp)⟩, ?_, by omega⟩
        · rw [hnums]; exact c3
        · show mv.length < 2 ^ 20; omega
        · rw [encE, hnums, ← ht]
          show _ = _ ++ (mv.flatMap encInts ++ encDigs [da, db])
          rw [← htm, ← htd]
          rw [show a + (gdigs (b.drop a)).n = (gints b).n + ((a - (gints b).n) + (gdigs (b.drop a)).n) by omega, List.take_add, List.take_add, List.drop_drop, show (gints b).n + (a - (gints b).n) = a by omega]
  · cases h
theorem rdEnt_err {b : List Nat} (h : (rdEnt b).e ≠ 0) : rdEnt b = rdFail := by
  unfold rdEnt at h ⊢
  split at h
  · rename_i q
    rw [if_pos q]
    split at h
    · rename_i q6; first | rfl | rw [if_pos q6]
    · rename_i q6
      try rw [if_neg q6]
      split at h
      · rename_i hm; first | rfl | rw [hm]
      · rename_i mv a hm
        try (rw [hm]; simp only)
        unfold rdEnd at h ⊢
        split at h
        · exact absurd rfl h
        · rename_i q; rw [if_neg q]
  · rename_i q; rw [if_neg q]
/-- of its beginning nothing is read -/
theorem rdEnt_prefix {e : Ent} (h : e.Ok) (hl : (encE e).length < 2 ^ 20) {k : Nat} (hk : k < (encE e).length) : rdEnt ((encE e).take k) = rdFail := by
  refine rdEnt_err fun h0 => ?_
  have hb : Bytes ((encE e).take k) := fun x hx => encE_bytes h x (List.mem_of_mem_take hx)
  obtain ⟨hx, ht, hn⟩ := rdEnt_take hb (by simp; omega) h0
  obtain ⟨y, hy⟩ : ∃ y, rdEnt ((encE e).take k) = y := ⟨_, rfl⟩
  rw [hy] at hx ht hn
  simp only [List.length_take] at hn
  rw [List.take_take, Nat.min_eq_left (by omega)] at ht
  have h1 := rdEnt_app hx ((encE e).drop y.n)
  rw [← ht, List.take_append_drop] at h1
  have h2 := rdEnt_app h []
  rw [List.append_nil, h1] at h2
  have : ((encE e).take y.n).length = (encE e).length := congrArg Rd.n h2
  simp only [List.length_take] at this
  omega
end Go.Proofs.YtfdaiidepcbemaaDoor
end
