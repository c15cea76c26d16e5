/-
  CONTRACTS: the reference of layer 1: digests read back.
  A CALL THAT ONLY READS WHAT ITS ARGUMENTS LEAD TO: its contract at the empty heap, over a picture of that, holds at every heap, which stays as it is.
  CONTRACTS: words of 32 bits, rotations, and the schedule of a block.
  CONTRACTS: the schedule of a block.
-/
import Derived.Test.YtfdaiidepcbemaaDoorA29
import Derived.Test.YtfdaiidepcbemaaDoorA22
set_option linter.unusedVariables false
set_option linter.unusedSimpArgs false
set_option linter.unusedSectionVars false
section
namespace Go.Proofs.YtfdaiidepcbemaaDoor
open Go Go.Av Go.Av.Pr
set_option maxRecDepth 100000
attribute [local congr] FD2_congr stepK_congr condK_congr guardK_congr FC_congr FOps_congr thenF_congr inBlockF_congr
theorem splice_fill (p : List Nat) (m x : Nat) : splice (bytesC p ++ List.replicate (m + 1) (.int .u8 0)) p.length [.int .u8 x] = bytesC (p ++ [x]) ++ List.replicate m (.int .u8 0) := by
  unfold splice
  have h : p.length = (bytesC p).length := (bytesC_length p).symm
  rw [h, List.take_left' rfl, show (bytesC p).length + [AV.int .u8 (x : Int)].length = (bytesC p).length + 1 from rfl]
  rw [← List.drop_drop, List.drop_left' rfl, List.replicate_succ, List.drop_one, List.tail_cons]
  simp [bytesC]
theorem take_drop_snoc {b : List Nat} {a j : Nat} (h : a + j < b.length) : ((b.drop a).take (j + 1)) = (b.drop a).take j ++ [b.getD (a + j) 0] := by
  rw [List.take_add_one]
  simp [List.getElem?_drop, List.getElem?_eq_getElem h]
theorem rgetd_body (b : List Nat) (tag : Nat) (hb : Bytes b) (hl : b.length < 2^36) : FC Tryd.prog gv 46 F33.body (startF [.lst tag 1 (bytesE b)]) [] ⟨0, .nil⟩
    (retF [.tmp 2, .tmp 3, .tmp 4] fun o H => ∃ v, o = .ret (.tup (v :: [.int .i64 (gdigs b).n, .int .i64 (gdigs b).e])) ∧ OwnN H 16 v (digsE (gdigs b).l)) := by
  unfold F33 om oo
  refine FC_seq fun K hK => ?_
  simp only [symA, sy, AV.cells, AV.isTup, startF, Nat.reduceLT, Nat.reduceEqDiff, Nat.reduceAdd]
  apply hK
  clear hK K
  refine FC_seq fun K hK => ?_
  simp only [symA, sy, AV.cells, AV.isTup, startF, Nat.reduceLT, Nat.reduceEqDiff, Nat.reduceAdd]
  have hS70 : Sound Tryd.prog gv 53 [.lst tag 1 (bytesE b), .int .i64 16] ⟨0, .nil⟩ _ _ := rlength_ok (b := b) (tag := tag) (least := 16) hb (by omega) (by omega) _
  refine FOps_call (by decide) (by simp only [sm, symB, Nat.reduceEqDiff, startF]) (hS70) ?_
  simp only [symA, sy, AV.cells, AV.isTup, startF, Nat.reduceLT, Nat.reduceEqDiff, Nat.reduceAdd, Got.av]
  apply hK
  clear hK K
  have hgi : gdigs b = _ := rfl
  conv at hgi => rhs; unfold gdigs
  have hok := fun h => glen_ok (b := b) (least := 16) h
  obtain ⟨g, hg⟩ : ∃ g, glen b 16 = g := ⟨_, rfl⟩
  rw [hg] at hok hgi
  simp only [hg]
  refine FC_seq fun K hK => ?_
  simp only [symA, sy, AV.cells, AV.isTup, startF, Nat.reduceLT, Nat.reduceEqDiff, Nat.reduceAdd, bne_dec]
  refine ⟨fun q1 => ?_, fun q1 => ?_⟩
  · refine ⟨rfl, _, by simp only [resFs, resF, symB, ne_eq, Nat.reduceEqDiff, not_false_eq_true]; rfl, .nilsl, ?_, ?_⟩
    · rw [hgi, if_pos q1]; rfl
    · rw [hgi, if_pos q1]; exact OwnN.nil _ _
  · apply hK
    clear hK K
    have ge0 : g.e = 0 := by simpa using q1
    obtain ⟨o1, o2, o3, o4⟩ := hok ge0
    rw [if_neg q1] at hgi
    obtain ⟨N, hN⟩ : ∃ N : Nat, g.v = N := ⟨g.v.toNat, by omega⟩
    have hN' : g.n + 16 * N ≤ b.length := by rw [hN, Int.toNat_natCast] at o4; have := Nat.div_mul_le_self (b.length - g.n) 16; omega
    rw [hN, Int.toNat_natCast] at hgi
    obtain ⟨d1, d2, d3⟩ := gdig_at (b := b) (n := N) (a := g.n) hN'
    refine FC_seq fun K hK => ?_
    simp only [symA, sy, AV.cells, AV.isTup, startF, Nat.reduceLT, Nat.reduceEqDiff, Nat.reduceAdd]
    apply hK
    clear hK K
    refine FC_seq fun K hK => ?_
    refine FC_seq fun K hK => ?_
    simp only [symA, sy, AV.cells, AV.isTup, startF, Nat.reduceLT, Nat.reduceEqDiff, Nat.reduceAdd]
    apply hK
    clear hK K
    refine FC_for (id := 0) (c := 23) (fun i f h => f 0 = .lst tag 1 (bytesE b) ∧ f 5 = .int .i64 N ∧ f 9 = .int .i64 i ∧ ∃ (acc : List (List Nat)), f 6 = .int .i64 ((g.n + 16 * i : Nat) : Int) ∧ OwnN h 16 (f 8) (digsE acc) ∧ acc.length = i ∧ (gdig b N g.n).1 = acc ++ (gdig b (N - i) (g.n + 16 * i)).1) N ?_ ?_ ?_ ?_
    · refine ⟨by simp only [symB, ne_eq, Nat.reduceEqDiff, not_false_eq_true, startF, List.getD_cons_zero], by simp only [symB, ne_eq, Nat.reduceEqDiff, not_false_eq_true, hN], by simp only [symB, ne_eq, Nat.reduceEqDiff, not_false_eq_true]; rfl, [], by simp only [symB, ne_eq, Nat.reduceEqDiff, not_false_eq_true]; rfl, by simp only [symB, ne_eq, Nat.reduceEqDiff, not_false_eq_true]; exact OwnN.nil _ _, rfl, rfl⟩
    · rintro i f H hi ⟨h1, h2, h3, acc, h4, h6, h7, h8⟩ K hK Q'
      simp only [symA, sy, AV.cells, AV.isTup, startF, Nat.reduceLT, Nat.reduceEqDiff, Nat.reduceAdd, h2, h3]
      refine ⟨trivial, trivial, hK _ ?_ ⟨by simpa only [symB, ne_eq, Nat.reduceEqDiff, not_false_eq_true] using h1, by simpa only [symB, ne_eq, Nat.reduceEqDiff, not_false_eq_true] using h2, by simpa only [symB, ne_eq, Nat.reduceEqDiff, not_false_eq_true] using h3, acc, by simpa only [symB, ne_eq, Nat.reduceEqDiff, not_false_eq_true] using h4, by simpa only [symB, ne_eq, Nat.reduceEqDiff, not_false_eq_true] using h6, h7, h8⟩⟩
      simp only [symB, ne_eq, Nat.reduceEqDiff, not_false_eq_true, Int.ofNat_lt]
    · rintro i f h hi ⟨h1, h2, h3, acc, h4, h6, h7, h8⟩
      obtain ⟨M, hM⟩ : ∃ M, N - i = M + 1 := ⟨N - i - 1, by omega⟩
      rw [hM] at h8
      obtain ⟨a, ha⟩ : ∃ a, g.n + 16 * i = a := ⟨_, rfl⟩
      rw [ha] at h4 h8
      have ha16 : a + 16 ≤ b.length := by omega
      simp only [gdig] at h8
      refine FC_block (FC_seq fun K2 hK2 => ?_)
      simp only [symA, sy, AV.cells, AV.isTup, startF, Nat.reduceLT, Nat.reduceEqDiff, Nat.reduceAdd]
      apply hK2
      clear hK2 K2
      refine FC_seq fun K2 hK2 => ?_
      refine FC_seq fun K hK => ?_
      simp only [symA, sy, AV.cells, AV.isTup, startF, Nat.reduceLT, Nat.reduceEqDiff, Nat.reduceAdd]
      apply hK
      clear hK K
      refine FC_for (id := 2) (c := 27) (fun j f H' => f 0 = .lst tag 1 (bytesE b) ∧ f 5 = .int .i64 N ∧ f 9 = .int .i64 i ∧ f 6 = .int .i64 a ∧ f 10 = .ref h.next 0 ∧ f 11 = .int .i64 j ∧ OwnN H' 16 (f 8) (digsE acc) ∧ (tokOf (f 8) ≠ some h.next) ∧ H'.get h.next = some (.cells (bytesC ((b.drop a).take j) ++ List.replicate (16 - j) (.int .u8 0)) false)) 16 ?_ ?_ ?_ ?_
      · refine ⟨by simpa only [symB, ne_eq, Nat.reduceEqDiff, not_false_eq_true] using h1, by simpa only [symB, ne_eq, Nat.reduceEqDiff, not_false_eq_true] using h2, by simpa only [symB, ne_eq, Nat.reduceEqDiff, not_false_eq_true] using h3, by simpa only [symB, ne_eq, Nat.reduceEqDiff, not_false_eq_true] using h4, by simp only [symB, ne_eq, Nat.reduceEqDiff, not_false_eq_true], by simp only [symB, ne_eq, Nat.reduceEqDiff, not_false_eq_true]; rfl, by simpa only [symB, ne_eq, Nat.reduceEqDiff, not_false_eq_true] using h6.alloc _, ?_, get_alloc_self _ _⟩
        simp only [symB, ne_eq, Nat.reduceEqDiff, not_false_eq_true]
        intro ht
        have := h6.1.tok_lt ht
        omega
      · rintro j f H' hj ⟨h1, h2, h3, h4, h5, h9, h10, h11, h12⟩ K hK Q'
        simp only [symA, sy, AV.cells, AV.isTup, startF, Nat.reduceLT, Nat.reduceEqDiff, Nat.reduceAdd, h9]
        refine ⟨trivial, trivial, hK _ ?_ ⟨by simpa only [symB, ne_eq, Nat.reduceEqDiff, not_false_eq_true] using h1, by simpa only [symB, ne_eq, Nat.reduceEqDiff, not_false_eq_true] using h2, by simpa only [symB, ne_eq, Nat.reduceEqDiff, not_false_eq_true] using h3, by simpa only [symB, ne_eq, Nat.reduceEqDiff, not_false_eq_true] using h4, by simpa only [symB, ne_eq, Nat.reduceEqDiff, not_false_eq_true] using h5, by simpa only [symB, ne_eq, Nat.reduceEqDiff, not_false_eq_true] using h9, by simpa only [symB, ne_eq, Nat.reduceEqDiff, not_false_eq_true] using h10, by simpa only [symB, ne_eq, Nat.reduceEqDiff, not_false_eq_true] using h11, h12⟩⟩
        simp only [symB, ne_eq, Nat.reduceEqDiff, not_false_eq_true]
        exact congrArg _ (decide_eq_decide.mpr (by omega))
      · rintro j f H' hj ⟨h1, h2, h3, h4, h5, h9, h10, h11, h12⟩
        have hlt : a + j < b.length := by omega
        have w1 : IntKind.i64.wrap ((a : Int) + (j : Int)) = ((a + j : Nat) : Int) := by rw [wrap_i64 (by omega) (by omega)]; simp
        have hlen : ((b.drop a).take j).length = j := by simp; omega
        simp only [FC_blockE, symA, sy, AV.cells, AV.isTup, startF, Nat.reduceLT, Nat.reduceEqDiff, Nat.reduceAdd, h1, h4, h5, h9, w1, asNat_nat, bytesE_length, hlt, bytesE_getD b hlt, hj, h12, List.length_append, bytesC_length, hlen, List.length_replicate, Nat.mul_one, show j + 1 ≤ j + (16 - j) by omega]
        have hsp := splice_fill ((b.drop a).take j) (16 - (j + 1)) (b.getD (a + j) 0)
        rw [hlen, show 16 - (j + 1) + 1 = 16 - j by omega, ← take_drop_snoc hlt] at hsp
        rw [hsp]
        refine ⟨trivial, trivial, by first | exact h1 | trivial, by first | exact h2 | trivial, by first | exact h3 | trivial, by first | exact h4 | trivial, by first | exact h5 | trivial, ?_, ⟨h10.1.set _ _ h11, h10.2⟩, h11, get_set_self _ _ _⟩
        rw [wrap_i64 (by omega) (by omega)]; rfl
      · rintro f H' ⟨h1, h2, h3, h4, h5, h9, h10, h11, h12⟩
        simp only [symA, sy, AV.cells, AV.isTup, startF, Nat.reduceLT, Nat.reduceEqDiff, Nat.reduceAdd]
        apply hK2
        clear hK2 K2
        obtain ⟨x, hx⟩ : ∃ x, (b.drop a).take 16 = x := ⟨_, rfl⟩
        have hx16 : x.length = 16 := by rw [← hx]; simp; omega
        rw [hx] at h8 h12
        rw [Nat.sub_self, List.replicate_zero, List.append_nil] at h12
        obtain ⟨v', H2, a1, a2, a3⟩ := h10.append (bytes := 16) (e := bytesC x) (by rw [digsE_length]; omega)
        simp only [symA, sy, AV.cells, AV.isTup, startF, Nat.reduceLT, Nat.reduceEqDiff, Nat.reduceAdd, h5, cellsAt_get h12, bytesC_length, hx16, List.drop_zero, litA, elemsOf]
        rw [List.take_of_length_le (by rw [bytesC_length]; omega)]
        simp only [symA, sy, AV.cells, AV.isTup, startF, Nat.reduceLT, Nat.reduceEqDiff, Nat.reduceAdd, bytesC_length, hx16, litA, elemsOf, a1, h4, h3, show (16 : Int) = ((16 : Nat) : Int) from rfl]
        refine ⟨trivial, trivial, h1, h2, ?_, acc ++ [x], ?_, ?_, by simp [h7], ?_⟩
        · rw [wrap_i64 (by omega) (by omega)]; rfl
        · rw [wrap_i64 (by omega) (by omega)]; simp; omega
        · rw [show digsE (acc ++ [x]) = digsE acc ++ [bytesC x] by simp [digsE]]; exact a2
        · rw [h8, show M = N - (i + 1) by omega, show a + 16 = g.n + 16 * (i + 1) by omega]; simp
    · rintro f h ⟨h1, h2, h3, acc, h4, h6, h7, h8⟩
      simp only [symA, sy, AV.cells, AV.isTup, startF, Nat.reduceLT, Nat.reduceEqDiff, Nat.reduceAdd]
      apply hK
      clear hK K
      rw [Nat.sub_self] at h8
      simp only [gdig, List.append_nil] at h8
      simp only [symA, sy, AV.cells, AV.isTup, startF, Nat.reduceLT, Nat.reduceEqDiff, Nat.reduceAdd]
      refine ⟨rfl, _, by simp only [resFs, resF, symB, ne_eq, Nat.reduceEqDiff, not_false_eq_true]; rfl, f 8, ?_, ?_⟩
      · rw [hgi, h4, d1]; rfl
      · rw [hgi, h8]; exact h6
/-- ref01.GetDigests -/
theorem rgetdigs_ok {b : List Nat} {tag : Nat} (hb : Bytes b) (hl : b.length < 2^36) (H : Heap) : Sound Tryd.prog gv 33 [.lst tag 1 (bytesE b)] H
    (.ret (.tup (ownV H 16 (digsE (gdigs b).l) :: [.int .i64 (gdigs b).n, .int .i64 (gdigs b).e]))) (ownH H (digsE (gdigs b).l)) := by
  refine Sound.tag0 (Sound_ownT gfree (by simp [freeL, AV.free, freeLL_bytesE]) ?_ (freeLL_digsE _) (Sound_of_FC mixed is33 (by unfold F33 om oo; simp) (rgetd_body b 0 hb hl)) H) tag
  intro x hx
  simp only [List.mem_cons, List.not_mem_nil, or_false] at hx
  rcases hx with rfl | rfl <;> exact ⟨_, _, rfl⟩
end Go.Proofs.YtfdaiidepcbemaaDoor
end
section
namespace Go.Av
open Go
def scal : AV → Bool
  | .bool _ | .int _ _ | .str _ | .nilp | .nilsl | .nilfn | .nilif | .nilmap => true
  | _ => false
theorem VR.scal {G G' : Gh} {w w' : World} {a : AV} {u : Value} (h : VR G w a u) (hs : scal a = true) : VR G' w' a u := by
  cases h <;> first | (cases hs; done) | (constructor; done)
def flat1 (v : AV) : Prop := scal v = true ∨ ∃ cs, v = .agg cs ∧ ∀ c ∈ cs, Av.scal c = true
def flatV (v : AV) : Prop := flat1 v ∨ ∃ vs, v = .tup vs ∧ ∀ x ∈ vs, flat1 x
theorem getD_mem {l : List AV} {j : Nat} (hj : j < l.length) : l.getD j undefA ∈ l := by
  rw [getD_eq, List.getElem?_eq_getElem hj]
  exact List.getElem_mem hj
theorem VR.flat1 {G G' : Gh} {w w' : World} {a : AV} {u : Value} (h : VR G w a u) (hs : flat1 a) : VR G' w' a u := by
  rcases hs with hs | ⟨cs, rfl, hs⟩
  · exact h.scal hs
  · cases h with
    | agg _ vs hl h1 hv => exact .agg cs vs hl h1 fun j hj => (hv j hj).scal (hs _ (getD_mem hj))
theorem VR.flatV {G G' : Gh} {w w' : World} {a : AV} {u : Value} (h : VR G w a u) (hs : flatV a) : VR G' w' a u := by
  rcases hs with hs | ⟨cs, rfl, hs⟩
  · exact h.flat1 hs
  · cases h with
    | tup _ vs hl hv => exact .tup cs vs hl fun j hj => (hv j hj).flat1 (hs _ (getD_mem hj))
theorem Sound.snap {P : Program} {g : Genv} (hg : GFree g) {f : FuncId} {args args' : List AV} {H H2 : Heap} {v : AV} (ha : mapO (shut1 H none H.next) args = some args') (hfree : freeL args' = true)
    (h : Sound P g f args' ⟨0, .nil⟩ (.ret v) H2) (hv : flatV v) : Sound P g f args H (.ret v) H := by
  refine ⟨h.1, fun G w vs hw hvs => ?_⟩
  let G1 : Gh := finG G G H H none
  let G0 : Gh := ⟨fun _ => none, G1.imm⟩
  have h10 : ∀ b o, G1.imm b o → G0.imm b o ∧ w.cell? ⟨b, o, none⟩ = w.cell? ⟨b, o, none⟩ := fun b o hh => ⟨hh, rfl⟩
  have hG0 : ∀ b o, G.imm b o → G0.imm b o ∧ w.cell? ⟨b, o, none⟩ = w.cell? ⟨b, o, none⟩ := fun b o hh => ⟨.inl hh, rfl⟩
  have himme : ∀ b o, G0.imm b o → ∃ x, w.cell? ⟨b, o, none⟩ = some x := fun b o hi => by
    rcases hi with hi | ⟨id, l, cs, opn, h1, h2, rfl, h4, h5⟩
    · exact hw.imme b o hi
    · obtain ⟨a1, _, _, _, a5⟩ := hw.cells id l cs opn h1 h2
      obtain ⟨x, hx, _⟩ := a5 (o - l.base) (by omega)
      exact ⟨x, by rw [show o = l.base + (o - l.base) by omega]; exact hx⟩
  have hw0 : WR g G0 ⟨0, .nil⟩ w := {
    cells := fun id l cs opn h1 => by cases h1
    room := fun id l h1 => by cases h1
    disj := fun id id' l l' _ h1 => by cases h1
    immd := fun id l h1 => by cases h1
    mapr := fun id l es h1 => by cases h1
    lt := fun id l h1 => by cases h1
    imme := himme
    glob := fun k cs hk => (hw.glob k cs hk).free_mono (hg k cs hk) hG0 }
  obtain ⟨m1, m2⟩ := mapO_spec ha
  have hvs0 : VRs G0 w args' vs := by
    refine ⟨by rw [hvs.1, m1], fun j hj => ?_⟩
    have hj' : j < args.length := by omega
    have := shut1_VR (G := G) (H := H) (tk := none) (fun k hk => by cases hk) hw (hvs.2 j hj') (m2 j hj')
    exact this.free_mono (freeL_getD hfree hj) h10
  refine (h.2 G0 w vs hw0 hvs0).mono fun e w2 he => ?_
  obtain ⟨G2, hw2, hext, hout⟩ := he
  have hfrm : ∀ b, b < w.heap.size → w2.heap[b]? = w.heap[b]? := fun b hb => hext.frame b hb fun id l hh => by cases hh
  have himm : ∀ b o, G.imm b o → G.imm b o ∧ w2.cell? ⟨b, o, none⟩ = w.cell? ⟨b, o, none⟩ := fun b o hi => by
    obtain ⟨x, hx⟩ := hw.imme b o hi
    exact ⟨hi, cell?_congr (hfrm b (cell?_lt hx))⟩
  have hl : ∀ id l, G.loc id = some l → G.loc id = some l := fun _ _ h => h
  have hrel : WR g G H w2 := {
    cells := fun id l cs opn h1 h2 => by
      obtain ⟨a1, a2, a3, a4, a5⟩ := hw.cells id l cs opn h1 h2
      have hb := hw.blk_lt h1 ⟨_, h2, rfl⟩
      refine ⟨a1, a2, a3, a4, fun j hj => ?_⟩
      obtain ⟨x, hx, hvx⟩ := a5 j hj
      exact ⟨x, by rw [cell?_congr (hfrm _ hb)]; exact hx, hvx.mono hl himm⟩
    room := fun id l h1 h2 => by
      have hb : l.blk < w.heap.size := hw.blk_lt h1 (by
        rcases h2 with ⟨cs, opn, hh⟩ | hh
        · exact ⟨_, hh, rfl⟩
        · exact ⟨_, hh, rfl⟩)
      obtain ⟨c, el, fz, b1, b2, b3⟩ := hw.room id l h1 h2
      exact ⟨c, el, fz, by rw [hfrm _ hb]; exact b1, b2, fun j hj => by rw [frozen?_congr (hfrm _ hb)]; exact b3 j hj⟩
    disj := hw.disj
    immd := hw.immd
    mapr := fun id l es h1 h2 => by
      have hb := hw.blk_lt h1 ⟨_, h2, rfl⟩
      obtain ⟨a1, a2, en, cl, a3, a4, a5⟩ := hw.mapr id l es h1 h2
      exact ⟨a1, a2, en, cl, by rw [hfrm _ hb]; exact a3, a4, fun j hj => ⟨(a5 j hj).1.mono hl himm, (a5 j hj).2.mono hl himm⟩⟩
    lt := hw.lt
    imme := fun b o hi => by
      obtain ⟨x, hx⟩ := hw.imme b o hi
      exact ⟨x, by rw [(himm b o hi).2]; exact hx⟩
    glob := fun k cs hk => (hw.glob k cs hk).mono hl himm }
  refine ⟨G, hrel, {
    loc := hl
    imm := himm
    size := hext.size
    frame := fun b hb _ => hfrm b hb
    blks := fun id l h1 hv1 => .inr ⟨id, l, h1, hv1, rfl⟩
    immn := fun b o hi => .inl hi
    next := Nat.le_refl _
    news := fun id l h1 h2 => by rw [h1] at h2; cases h2
    dead := fun id l h1 hv1 => hv1
    same := hext.same }, ?_⟩
  cases e with
  | returned u => exact VR.flatV hout hv
  | panicked c => exact hout.elim
  | _ => exact hout.elim
end Go.Av
end
section
namespace Go.Proofs.YtfdaiidepcbemaaDoor
open Go Go.Av Go.Av.Pr
set_option maxRecDepth 100000
attribute [local congr] FD2_congr stepK_congr condK_congr guardK_congr FC_congr FOps_congr thenF_congr inBlockF_congr
abbrev U32 := BitVec 32
def wC (l : List U32) : List AV := l.map fun x => AV.int .u32 (x.toNat : Int)
theorem wC_length (l : List U32) : (wC l).length = l.length := by simp [wC]
theorem wC_getD (l : List U32) {i : Nat} (h : i < l.length) : (wC l).getD i undefA = .int .u32 ((l.getD i 0).toNat : Int) := by
  simp [wC, List.getElem?_eq_getElem h, getD_eq]
theorem freeL_wC (l : List U32) : freeL (wC l) = true := freeL_of fun x hx => by
  simp only [wC, List.mem_map] at hx
  obtain ⟨y, _, rfl⟩ := hx
  rfl
theorem wC_replicate (n : Nat) : List.replicate n (AV.int .u32 0) = wC (List.replicate n 0) := by
  simp [wC]
theorem w_add (x y : U32) : IntKind.u32.wrap ((x.toNat : Int) + (y.toNat : Int)) = ((x + y).toNat : Int) := by
  rw [wrapU rfl, BitVec.toNat_add]; rfl
theorem w_bits_and (x y : U32) : bitsI .and .u32 (x.toNat : Int) (y.toNat : Int) = some (.int .u32 ((x &&& y).toNat : Int)) := by
  rw [bits_and rfl x.isLt y.isLt, BitVec.toNat_and]
theorem w_bits_or (x y : U32) : bitsI .or .u32 (x.toNat : Int) (y.toNat : Int) = some (.int .u32 ((x ||| y).toNat : Int)) := by
  rw [bits_or rfl x.isLt y.isLt, BitVec.toNat_or]
theorem w_bits_xor (x y : U32) : bitsI .xor .u32 (x.toNat : Int) (y.toNat : Int) = some (.int .u32 ((x ^^^ y).toNat : Int)) := by
  rw [bits_xor rfl x.isLt y.isLt, BitVec.toNat_xor]
theorem w_not (x : U32) : bitsI .xor .u32 (IntKind.max .u32) (x.toNat : Int) = some (.int .u32 ((~~~ x).toNat : Int)) := by
  have h : IntKind.max .u32 = ((2 ^ 32 - 1 : Nat) : Int) := by decide
  rw [h, bits_xor rfl (by decide) x.isLt]
  congr 2
theorem w_shr (x : U32) (n : Nat) : (x.toNat : Int).fdiv (2 ^ n) = ((x >>> n).toNat : Int) := by
  rw [fdiv_pow, BitVec.toNat_ushiftRight, Nat.shiftRight_eq_div_pow]; simp
theorem w_shl (x : U32) (n : Nat) : IntKind.u32.wrap ((x.toNat : Int) * 2 ^ n) = ((x <<< n).toNat : Int) := by
  rw [wrapU rfl, BitVec.toNat_shiftLeft, Nat.shiftLeft_eq]; simp [IntKind.bits]
def rotr (x : U32) (n : Nat) : U32 := (x >>> n) ||| (x <<< (32 - n))
theorem rot_amount : ∀ n : Fin 32, 0 < n.val → IntKind.u64.wrap ((BitVec.ofInt 64 (IntKind.u64.wrap (-((n.val : Nat) : Int))) &&& BitVec.ofInt 64 31).toNat : Int) = ((32 - n.val : Nat) : Int) := by decide +kernel
/-- bits.RotateLeft32, to the right -/
theorem rot_ok (x : U32) (k : Int) (n : Nat) (hk : k = -(n : Int)) (h0 : 0 < n) (h1 : n < 32) (H : Heap) : Sound Tryd.prog gv 92 [.int .u32 x.toNat, .int .i64 k] H (.ret (.int .u32 (rotr x n).toNat)) H := by
  refine Sound_FC is92 (by unfold F92 om oo; simp) ?_
  show FC Tryd.prog gv 17 F92.body _ _ _ (retF [.tmp 4] _)
  unfold F92 om oo
  refine FC_seq fun K hK => ?_
  simp only [symA, sy, AV.cells, AV.isTup, startF, Nat.reduceLT, Nat.reduceEqDiff, Nat.reduceAdd]
  apply hK
  clear hK K
  have e1 : bitsI .and .u64 (IntKind.u64.wrap k) 31 = some (.int .u64 ((32 - n : Nat) : Int)) := by
    have := rot_amount ⟨n, h1⟩ h0
    simp only at this
    rw [hk]
    simp only [bitsI]
    exact congrArg (fun z => some (AV.int .u64 z)) this
  have e2 : IntKind.u64.wrap (32 - ((32 - n : Nat) : Int)) = (n : Int) := by rw [wrap_u64 (by omega) (by omega)]; omega
  have e3 : min (Int.toNat ((32 - n : Nat) : Int)) IntKind.u32.bits = 32 - n := by simp [IntKind.bits]
  have e4 : min (Int.toNat (n : Int)) IntKind.u32.bits = n := by simp [IntKind.bits]; omega
  refine FC_seq fun K hK => ?_
  simp only [symA, sy, AV.cells, AV.isTup, startF, Nat.reduceLT, Nat.reduceEqDiff, Nat.reduceAdd, e1]
  apply hK
  clear hK K
  simp only [symA, sy, AV.cells, AV.isTup, startF, Nat.reduceLT, Nat.reduceEqDiff, Nat.reduceAdd, e2, e3, e4, w_shl, w_shr, show ¬ (((32 - n : Nat) : Int) < 0) by omega, show ¬ ((n : Int) < 0) by omega, w_bits_or]
  refine ⟨rfl, _, by simp only [resFs, resF, symB, ne_eq, Nat.reduceEqDiff, not_false_eq_true]; rfl, ?_, rfl⟩
  rw [rotr, BitVec.or_comm]
  rfl
theorem mix_ok (x : U32) (i j k : Int) (i' j' k' : Nat) (hi : i = i' ∧ 0 < i' ∧ i' < 32) (hj : j = j' ∧ 0 < j' ∧ j' < 32) (hk : k = k' ∧ 0 < k' ∧ k' < 32) (H : Heap) :
    Sound Tryd.prog gv 78 [.int .u32 x.toNat, .int .i64 i, .int .i64 j, .int .i64 k] H (.ret (.int .u32 (rotr x i' ^^^ rotr x j' ^^^ rotr x k').toNat)) H := by
  obtain ⟨rfl, i1, i2⟩ := hi
  obtain ⟨rfl, j1, j2⟩ := hj
  obtain ⟨rfl, k1, k2⟩ := hk
  have neg : ∀ n : Nat, n < 32 → IntKind.i64.wrap (0 - (n : Int)) = -(n : Int) := fun n hn => by rw [wrap_i64 (by omega) (by omega)]; simp
  refine Sound_FC is78 (by unfold F78 om oo; simp) ?_
  show FC Tryd.prog gv 23 F78.body _ _ _ (retF [.tmp 8] _)
  unfold F78 om oo
  refine FC_seq fun K hK => ?_
  simp only [symA, sy, AV.cells, AV.isTup, startF, Nat.reduceLT, Nat.reduceEqDiff, Nat.reduceAdd]
  apply hK
  clear hK K
  simp only [symA, sy, AV.cells, AV.isTup, startF, Nat.reduceLT, Nat.reduceEqDiff, Nat.reduceAdd, unA, neg _ i2]
  refine FOps_call (by decide) (by simp only [sm, symB, Nat.reduceEqDiff, startF]) (rot_ok x _ i' rfl i1 i2 _) ?_
  simp only [symA, sy, AV.cells, AV.isTup, startF, Nat.reduceLT, Nat.reduceEqDiff, Nat.reduceAdd, unA, neg _ j2]
  refine FOps_call (by decide) (by simp only [sm, symB, Nat.reduceEqDiff, startF]) (rot_ok x _ j' rfl j1 j2 _) ?_
  simp only [symA, sy, AV.cells, AV.isTup, startF, Nat.reduceLT, Nat.reduceEqDiff, Nat.reduceAdd, unA, neg _ k2, w_bits_xor]
  refine FOps_call (by decide) (by simp only [sm, symB, Nat.reduceEqDiff, startF]) (rot_ok x _ k' rfl k1 k2 _) ?_
  simp only [symA, sy, AV.cells, AV.isTup, startF, Nat.reduceLT, Nat.reduceEqDiff, Nat.reduceAdd, w_bits_xor]
  refine ⟨rfl, _, by simp only [resFs, resF, symB, ne_eq, Nat.reduceEqDiff, not_false_eq_true]; rfl, ?_, rfl⟩
  rfl
end Go.Proofs.YtfdaiidepcbemaaDoor
end
section
namespace Go.Proofs.YtfdaiidepcbemaaDoor
open Go Go.Av Go.Av.Pr
set_option maxRecDepth 100000
attribute [local congr] FD2_congr stepK_congr condK_congr guardK_congr FC_congr FOps_congr thenF_congr inBlockF_congr
def beN (l : List Nat) : U32 := l.foldl (fun x b => (x <<< 8) ||| BitVec.ofNat 32 b) 0
def wstep (b : List Nat) (w : List U32) (t : Nat) : U32 :=
  if t < 16 then beN ((b.drop (4 * t)).take 4)
  else
    let p := w.getD (t - 15) 0
    let q := w.getD (t - 2) 0
    w.getD (t - 16) 0 + (rotr p 7 ^^^ rotr p 18 ^^^ p >>> 3) + w.getD (t - 7) 0 + (rotr q 17 ^^^ rotr q 19 ^^^ q >>> 10)
def wfill (b : List Nat) : Nat → List U32
  | 0 => List.replicate 64 0
  | t + 1 => (wfill b t).set t (wstep b (wfill b t) t)
theorem wfill_length (b : List Nat) : ∀ t, (wfill b t).length = 64
  | 0 => rfl
  | t + 1 => by simp [wfill, wfill_length b t]
theorem wfill_zero (b : List Nat) : ∀ t j, t ≤ j → (wfill b t).getD j 0 = 0
  | 0, j, _ => by
    simp only [wfill, List.getD_eq_getElem?_getD, List.getElem?_replicate]
    split <;> rfl
  | t + 1, j, h => by
    have := wfill_zero b t j (by omega)
    simp only [wfill, List.getD_eq_getElem?_getD, List.getElem?_set] at this ⊢
    rw [if_neg (by omega)]
    exact this
theorem splice_wC (l : List U32) {i : Nat} (h : i < l.length) (x : U32) : splice (wC l) i [.int .u32 (x.toNat : Int)] = wC (l.set i x) := by
  unfold splice wC
  rw [List.map_set, List.set_eq_take_append_cons_drop, if_pos (by simpa using h)]
  simp
theorem set_self {l : List U32} {i : Nat} {x : U32} (h : l.getD i 0 = x) (hi : i < l.length) : l.set i x = l := by
  subst h
  rw [List.getD_eq_getElem?_getD, List.getElem?_eq_getElem hi]
  simp
theorem w_ofNat (x : Nat) : IntKind.u32.wrap (x : Int) = ((BitVec.ofNat 32 x).toNat : Int) := by
  rw [wrapU_nat rfl, BitVec.toNat_ofNat]; rfl
theorem beN_snoc (l : List Nat) (x : Nat) : beN (l ++ [x]) = (beN l <<< 8) ||| BitVec.ofNat 32 x := by
  simp [beN]
theorem schedule_ok {b : List Nat} (h64 : b.length = 64) (hb : Bytes b) : ∃ H', Sound Tryd.prog gv 77 [.lst 0 1 (bytesE b)] ⟨0, .nil⟩ (.ret (.agg (wC (wfill b 64)))) H' := by
  obtain ⟨out, H', hout, hS⟩ := Sound_of_FC (R := fun o h => o = .ret (.agg (wC (wfill b 64)))) mixed is77 (args := [.lst 0 1 (bytesE b)]) (by unfold F77 om oo; simp) (H := ⟨0, .nil⟩) (by
    show FC Tryd.prog gv 79 F77.body _ _ _ (retF [.cell 2 true 64] _)
    unfold F77 om oo
    refine FC_seq fun K hK => ?_
    simp only [symA, sy, AV.cells, AV.isTup, startF, Nat.reduceLT, Nat.reduceEqDiff, Nat.reduceAdd]
    apply hK
    clear hK K
    refine FC_seq fun K hK => ?_
    simp only [symA, sy, AV.cells, AV.isTup, startF, Nat.reduceLT, Nat.reduceEqDiff, Nat.reduceAdd]
    apply hK
    clear hK K
    refine FC_seq fun K hK => ?_
    refine FC_seq fun K hK => ?_
    simp only [symA, sy, AV.cells, AV.isTup, startF, Nat.reduceLT, Nat.reduceEqDiff, Nat.reduceAdd]
    apply hK
    clear hK K
    refine FC_rangeC (id := 0) (cmp := 12) (ix := 11) (nx := 77) (fun t f H => f 0 = .lst 0 1 (bytesE b) ∧ f 2 = .ref 0 0 ∧ f 3 = .ref 1 0 ∧ H.get 0 = some (.cells (wC (List.replicate 64 0)) false) ∧ H.get 1 = some (.cells (wC (wfill b t)) false)) 64 (by decide) rfl (by decide) (by simp only [symB, ne_eq, Nat.reduceEqDiff, not_false_eq_true]) ?_ ?_ ?_ ?_
    · refine ⟨by simp only [symB, ne_eq, Nat.reduceEqDiff, not_false_eq_true, startF, List.getD_cons_zero], by simp only [symB, ne_eq, Nat.reduceEqDiff, not_false_eq_true], by simp only [symB, ne_eq, Nat.reduceEqDiff, not_false_eq_true, Heap.cellsAt, sh, Nat.reduceAdd], ?_, ?_⟩
      · simp only [Heap.cellsAt, sh, Nat.reduceAdd, Nat.reduceEqDiff, wC_replicate]
      · simp only [Heap.cellsAt, sh, Nat.reduceAdd, Nat.reduceEqDiff, wC_replicate]; rfl
    · rintro i f h d v (rfl | rfl | rfl) ⟨h1, h2, h3, h4, h5⟩ <;> exact ⟨by simpa only [symB, ne_eq, Nat.reduceEqDiff, not_false_eq_true] using h1, by simpa only [symB, ne_eq, Nat.reduceEqDiff, not_false_eq_true] using h2, by simpa only [symB, ne_eq, Nat.reduceEqDiff, not_false_eq_true] using h3, h4, h5⟩
    · rintro t f H ht e1 ⟨h1, h2, h3, h4, h5⟩
      refine FC_block (FC_seq fun K2 hK2 => ?_)
      simp only [symA, sy, AV.cells, AV.isTup, startF, Nat.reduceLT, Nat.reduceEqDiff, Nat.reduceAdd, e1]
      apply hK2
      clear hK2 K2
      refine FC_seq fun K2 hK2 => ?_
      simp only [symA, sy, AV.cells, AV.isTup, startF, Nat.reduceLT, Nat.reduceEqDiff, Nat.reduceAdd]
      refine ⟨fun ht16 => ?_, fun ht16 => ?_⟩
      · have w1 : IntKind.i64.wrap (4 * (t : Int)) = ((4 * t : Nat) : Int) := by rw [wrap_i64 (by omega) (by omega)]; simp
        have w2 : IntKind.i64.wrap (((4 * t : Nat) : Int) + 4) = ((4 * t + 4 : Nat) : Int) := by rw [wrap_i64 (by omega) (by omega)]; simp
        obtain ⟨tag', hsl⟩ := slice_mid 0 1 (els := bytesE b) (a := 4 * t) (b := 4 * t + 4) (by omega) (by rw [bytesE_length]; omega)
        rw [bytesE_drop, bytesE_take, show 4 * t + 4 - 4 * t = 4 by omega] at hsl
        obtain ⟨c, hc⟩ : ∃ c, (b.drop (4 * t)).take 4 = c := ⟨_, rfl⟩
        have hc4 : c.length = 4 := by rw [← hc]; simp; omega
        rw [hc] at hsl
        simp only [symA, sy, AV.cells, AV.isTup, startF, Nat.reduceLT, Nat.reduceEqDiff, Nat.reduceAdd, h1, w1, w2, optNat, asNat_nat, hsl, Option.isSome_none, false_implies, bytesE_length, hc4]
        refine FC_range (id := 2) (cmp := 25) (ix := 24) (ln := 23) (nx := 37) (fun j f H => f 0 = .lst 0 1 (bytesE b) ∧ f 2 = .ref 0 0 ∧ f 3 = .ref 1 0 ∧ H.get 0 = some (.cells (wC (List.replicate 64 0)) false) ∧ f 4 = .int .i64 t ∧ f 11 = .int .i64 t ∧ f 22 = .lst tag' 1 (bytesE c) ∧ H.get 1 = some (.cells (wC ((wfill b t).set t (beN (c.take j)))) false)) 4 (by decide) (by decide) (by simp only [symB, ne_eq, Nat.reduceEqDiff, not_false_eq_true]) (by simp only [symB, ne_eq, Nat.reduceEqDiff, not_false_eq_true]) ?_ ?_ ?_ ?_
        · refine ⟨by simpa only [symB, ne_eq, Nat.reduceEqDiff, not_false_eq_true] using h1, by simpa only [symB, ne_eq, Nat.reduceEqDiff, not_false_eq_true] using h2, by simpa only [symB, ne_eq, Nat.reduceEqDiff, not_false_eq_true] using h3, h4, by simp only [symB, ne_eq, Nat.reduceEqDiff, not_false_eq_true], by simp only [symB, ne_eq, Nat.reduceEqDiff, not_false_eq_true]; exact e1, by simp only [symB, ne_eq, Nat.reduceEqDiff, not_false_eq_true], ?_⟩
          rw [List.take_zero, show beN [] = 0 from rfl, set_self (wfill_zero b t t (Nat.le_refl _)) (by rw [wfill_length]; omega)]
          exact h5
        · rintro i f h d v (rfl | rfl | rfl) ⟨h1, h2, h3, h4, h5, h6, h7, h8⟩ <;> exact ⟨by simpa only [symB, ne_eq, Nat.reduceEqDiff, not_false_eq_true] using h1, by simpa only [symB, ne_eq, Nat.reduceEqDiff, not_false_eq_true] using h2, by simpa only [symB, ne_eq, Nat.reduceEqDiff, not_false_eq_true] using h3, h4, by simpa only [symB, ne_eq, Nat.reduceEqDiff, not_false_eq_true] using h5, by simpa only [symB, ne_eq, Nat.reduceEqDiff, not_false_eq_true] using h6, by simpa only [symB, ne_eq, Nat.reduceEqDiff, not_false_eq_true] using h7, h8⟩
        · rintro j f H hj q1 q2 ⟨h1, h2, h3, h4, h5, h6, h7, h8⟩
          have hjc : j < c.length := by omega
          have hlen : ((wfill b t).set t (beN (c.take j))).length = 64 := by simp [wfill_length]
          have hg : (wC ((wfill b t).set t (beN (c.take j)))).getD t undefA = .int .u32 (beN (c.take j)).toNat := by
            rw [wC_getD _ (by rw [hlen]; omega), List.getD_eq_getElem?_getD, List.getElem?_set_self (by rw [wfill_length]; omega)]; rfl
          refine FC_block (FC_seq fun K3 hK3 => ?_)
          simp only [symA, sy, AV.cells, AV.isTup, startF, Nat.reduceLT, Nat.reduceEqDiff, Nat.reduceAdd, h7, q1, asNat_nat, bytesE_length, hjc, bytesE_getD c hjc]
          apply hK3
          clear hK3 K3
          simp only [symA, sy, AV.cells, AV.isTup, startF, Nat.reduceLT, Nat.reduceEqDiff, Nat.reduceAdd, h5, h3, asNat_nat, ht, Nat.mul_one, cellsAt_get h8, wC_length, hlen, show t + 1 ≤ 64 by omega, hg, w_ofNat, Int.reduceLT, show min (Int.toNat 8) IntKind.u32.bits = 8 from rfl, w_shl, w_bits_or, h8]
          rw [splice_wC _ (by rw [hlen]; omega), List.set_set, ← beN_snoc, ← take_snoc hjc]
          exact ⟨trivial, q1, q2, h1, h2, by first | exact h3 | trivial, by rw [Heap.get_set, if_neg (by decide)]; exact h4, by first | exact h5 | trivial, h6, by first | exact h7 | trivial, get_set_self _ _ _⟩
        · rintro f H q2 ⟨h1, h2, h3, h4, h5, h6, h7, h8⟩
          simp only [symA, sy, AV.cells, AV.isTup, startF, Nat.reduceLT, Nat.reduceEqDiff, Nat.reduceAdd]
          refine ⟨trivial, h6, h1, h2, h3, h4, ?_⟩
          rw [h8, wfill, wstep, if_pos (by omega), hc, List.take_of_length_le (by omega)]
      · apply hK2
        clear hK2 K2
        have hlen : (wC (wfill b t)).length = 64 := by rw [wC_length, wfill_length]
        have hgd : ∀ c : Nat, (wC (wfill b t)).getD (t - c) undefA = .int .u32 ((wfill b t).getD (t - c) 0).toNat := fun c => by
          rw [wC_getD _ (by rw [wfill_length]; omega)]
        have s2 : IntKind.i64.wrap ((t : Int) - 2) = ((t - 2 : Nat) : Int) := by rw [wrap_i64 (by omega) (by omega)]; omega
        have s7 : IntKind.i64.wrap ((t : Int) - 7) = ((t - 7 : Nat) : Int) := by rw [wrap_i64 (by omega) (by omega)]; omega
        have s15 : IntKind.i64.wrap ((t : Int) - 15) = ((t - 15 : Nat) : Int) := by rw [wrap_i64 (by omega) (by omega)]; omega
        have s16 : IntKind.i64.wrap ((t : Int) - 16) = ((t - 16 : Nat) : Int) := by rw [wrap_i64 (by omega) (by omega)]; omega
        refine FC_seq fun K2 hK2 => ?_
        refine FC_draw0 (by decide) ?_
        simp only [symA, sy, AV.cells, AV.isTup, startF, Nat.reduceLT, Nat.reduceEqDiff, Nat.reduceAdd, symF, symFp, FD2_nil, ROp.readsId, idOf, reduceCtorEq, false_implies, implies_true, forall_const, true_and, and_true, List.not_mem_nil, List.mem_cons, or_false, false_or, Prod.mk.injEq, forall_eq, forall_eq_or_imp, forall_eq', Option.some.injEq, h3, s2, s15, asNat_nat, Nat.mul_one, cellsAt_get h5, hlen, show t - 15 < 64 by omega, show t - 2 < 64 by omega, show t - 15 + 1 ≤ 64 by omega, show t - 2 + 1 ≤ 64 by omega, hgd]
        apply hK2
        clear hK2 K2
        obtain ⟨p, hp⟩ : ∃ p, (wfill b t).getD (t - 15) 0 = p := ⟨_, rfl⟩
        obtain ⟨q, hq⟩ : ∃ q, (wfill b t).getD (t - 2) 0 = q := ⟨_, rfl⟩
        refine FC_seq fun K2 hK2 => ?_
        simp only [symA, sy, AV.cells, AV.isTup, startF, Nat.reduceLT, Nat.reduceEqDiff, Nat.reduceAdd, hp, hq]
        refine FOps_call (by decide) (by simp only [sm, symB, Nat.reduceEqDiff, startF]) (rot_ok p (-7) 7 rfl (by decide) (by decide) _) ?_
        simp only [symA, sy, AV.cells, AV.isTup, startF, Nat.reduceLT, Nat.reduceEqDiff, Nat.reduceAdd]
        refine FOps_call (by decide) (by simp only [sm, symB, Nat.reduceEqDiff, startF]) (rot_ok p (-18) 18 rfl (by decide) (by decide) _) ?_
        simp only [symA, sy, AV.cells, AV.isTup, startF, Nat.reduceLT, Nat.reduceEqDiff, Nat.reduceAdd, w_bits_xor, Int.reduceLT, show min (Int.toNat 3) IntKind.u32.bits = 3 from rfl, w_shr]
        apply hK2
        clear hK2 K2
        refine FC_seq fun K2 hK2 => ?_
        simp only [symA, sy, AV.cells, AV.isTup, startF, Nat.reduceLT, Nat.reduceEqDiff, Nat.reduceAdd]
        refine FOps_call (by decide) (by simp only [sm, symB, Nat.reduceEqDiff, startF]) (rot_ok q (-17) 17 rfl (by decide) (by decide) _) ?_
        simp only [symA, sy, AV.cells, AV.isTup, startF, Nat.reduceLT, Nat.reduceEqDiff, Nat.reduceAdd]
        refine FOps_call (by decide) (by simp only [sm, symB, Nat.reduceEqDiff, startF]) (rot_ok q (-19) 19 rfl (by decide) (by decide) _) ?_
        simp only [symA, sy, AV.cells, AV.isTup, startF, Nat.reduceLT, Nat.reduceEqDiff, Nat.reduceAdd, w_bits_xor, Int.reduceLT, show min (Int.toNat 10) IntKind.u32.bits = 10 from rfl, w_shr]
        apply hK2
        clear hK2 K2
        refine FC_draw0 (by decide) ?_
        simp only [symA, sy, AV.cells, AV.isTup, startF, Nat.reduceLT, Nat.reduceEqDiff, Nat.reduceAdd, symF, symFp, FD2_nil, ROp.readsId, idOf, reduceCtorEq, false_implies, implies_true, forall_const, true_and, and_true, List.not_mem_nil, List.mem_cons, or_false, false_or, Prod.mk.injEq, forall_eq, forall_eq_or_imp, forall_eq', Option.some.injEq, h3, s7, s16, asNat_nat, Nat.mul_one, cellsAt_get h5, hlen, show t - 7 < 64 by omega, show t - 16 < 64 by omega, show t - 7 + 1 ≤ 64 by omega, show t - 16 + 1 ≤ 64 by omega, hgd, w_add, ht, show t + 1 ≤ 64 by omega, h5, Heap.next_set]
        rw [splice_wC _ (by rw [wfill_length]; omega)]
        refine ⟨e1, h1, h2, by rw [Heap.get_set, if_neg (by decide)]; exact h4, ?_⟩
        rw [get_set_self, wfill, wstep, if_neg (by omega), hp, hq]
    · rintro f H ⟨h1, h2, h3, h4, h5⟩
      simp only [symA, sy, AV.cells, AV.isTup, startF, Nat.reduceLT, Nat.reduceEqDiff, Nat.reduceAdd]
      apply hK
      have hlen : (wC (wfill b 64)).length = 64 := by rw [wC_length, wfill_length]
      simp only [symA, sy, AV.cells, AV.isTup, startF, Nat.reduceLT, Nat.reduceEqDiff, Nat.reduceAdd, h2, h3, cellsAt_get h5, h4, hlen, List.drop_zero]
      rw [List.take_of_length_le (by omega)]
      simp only [symA, sy, AV.cells, AV.isTup, startF, Nat.reduceLT, Nat.reduceEqDiff, Nat.reduceAdd, hlen, wC_length, List.length_replicate]
      rw [splice_all (by rw [hlen]; simp [wC_length])]
      refine ⟨rfl, [.agg (wC (wfill b 64))], ?_, rfl⟩
      simp only [resFs, resF, symA, sy, AV.cells, AV.isTup, startF, Nat.reduceLT, Nat.reduceEqDiff, Nat.reduceAdd, h2, Heap.cellsAt, sh, hlen, List.drop_zero]
      rw [List.take_of_length_le (by omega)])
  rw [hout] at hS
  exact ⟨H', hS⟩
end Go.Proofs.YtfdaiidepcbemaaDoor
end
