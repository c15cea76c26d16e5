/-
  A CALL THAT ONLY READS WHAT ITS ARGUMENTS LEAD TO, and hands back something of its own.
  CONTRACTS: slices.Grow, slices.Concat.
-/
import Derived.Test.YtfdaiidepcbemaaDoorA30
import Derived.Test.YtfdaiidepcbemaaDoorA34
set_option linter.unusedVariables false
set_option linter.unusedSimpArgs false
set_option linter.unusedSectionVars false
section
namespace Go.Av
open Go
/-- a picture of what a value leads to; of a list no more is said than its elements -/
def snap1 (H : Heap) (v : AV) : Option AV :=
  match shut1 H none H.next v with
  | some (.lst _ sz els) => some (.lst 0 sz els)
  | o => o
def snapL (H : Heap) : List (List AV) → Option (List (List AV))
  | [] => some []
  | x :: r => match mapO (snap1 H) x, snapL H r with
    | some y, some ys => some (y :: ys)
    | _, _ => none
def snap2 (H : Heap) : AV → Option AV
  | .lst _ sz els => (snapL H els).map (.lst 0 sz)
  | v => snap1 H v
theorem snapL_spec {H : Heap} : ∀ {els els' : List (List AV)}, snapL H els = some els' → mapO (snap1 H) els.flatten = some els'.flatten ∧ els'.length = els.length ∧ ∀ sz, (∀ e ∈ els, e.length = sz) → ∀ e ∈ els', e.length = sz
  | [], els', h => by
    obtain rfl := Option.some.inj h
    exact ⟨rfl, rfl, fun _ _ e he => by cases he⟩
  | x :: r, els', h => by
    simp only [snapL] at h
    split at h
    · rename_i y ys hy hys
      obtain rfl := Option.some.inj h
      obtain ⟨h1, h2, h3⟩ := snapL_spec hys
      refine ⟨?_, by simp [h2], fun sz hs e he => ?_⟩
      · have app : ∀ {a b a' b' : List AV}, mapO (snap1 H) a = some a' → mapO (snap1 H) b = some b' → mapO (snap1 H) (a ++ b) = some (a' ++ b') := by
          intro a
          induction a with
          | nil =>
            intro b a' b' ha hb
            obtain rfl := Option.some.inj ha
            exact hb
          | cons z a ih =>
            intro b a' b' ha hb
            simp only [mapO] at ha
            split at ha
            · rename_i z' zs hz hzs
              obtain rfl := Option.some.inj ha
              simp only [List.cons_append, mapO, hz, ih hzs hb]
            · cases ha
        exact app hy h1
      · rcases List.mem_cons.1 he with rfl | he
        · rw [(mapO_spec hy).1]
          exact hs x List.mem_cons_self
        · exact h3 sz (fun e he => hs e (List.mem_cons_of_mem _ he)) e he
    · cases h
theorem snap1_one {H : Heap} {v v' : AV} (h : snap1 H v = some v') (h1 : v.one = true) : v'.one = true := by
  unfold snap1 at h
  split at h
  · cases h; rfl
  · exact shut_one (G := ⟨fun _ => none, fun _ _ => False⟩) (G2 := ⟨fun _ => none, fun _ _ => False⟩) (H := H) (H2 := H) (w2 := default) (tk := none) (nw := H.next) (n := 0) h h1
section
variable {P : Program} {g : Genv}
theorem snap1_VR {G : Gh} {H : Heap} {w : World} (hw : WR g G H w) {v v' : AV} {u : Value} (h : VR G w v u) (hs : snap1 H v = some v') : VR (finG G G H H none) w v' u := by
  unfold snap1 at hs
  split at hs
  · rename_i tag sz els he
    cases hs
    have := shut1_VR (G := G) (G2 := G) (H := H) (H2 := H) (w2 := w) (tk := none) (fun k hk => by cases hk) hw h he
    exact VR.tag0 this
  · exact shut1_VR (G := G) (G2 := G) (H := H) (H2 := H) (w2 := w) (tk := none) (fun k hk => by cases hk) hw h hs
theorem snap2_VR {G : Gh} {H : Heap} {w : World} (hw : WR g G H w) {v v' : AV} {u : Value} (h : VR G w v u) (hs : snap2 H v = some v') : VR (finG G G H H none) w v' u := by
  unfold snap2 at hs
  split at hs
  · rename_i tag sz els
    cases hl : snapL H els with
    | none => rw [hl] at hs; cases hs
    | some els' =>
      rw [hl] at hs
      obtain rfl := Option.some.inj hs
      obtain ⟨s1, s2, s3⟩ := snapL_spec hl
      obtain ⟨m1, m2⟩ := mapO_spec s1
      cases h with
      | lst _ _ _ b o cap us hu hh hv ht =>
        have hlen : els'.flatten.length = els.flatten.length := m1
        have := VR.lst (G := finG G G H H none) (w := w) 0 sz els' b o cap us (s3 sz hu)
          (fun j hj => by
            have hj' : j < els.flatten.length := by omega
            obtain ⟨q1, q2, q3⟩ := hh j hj'
            exact ⟨.inl q1, q2, snap1_one (m2 j hj') q3⟩)
          (fun j hj => by
            have hj' : j < els.flatten.length := by omega
            exact snap1_VR hw (hv j hj') (m2 j hj'))
          ⟨by rw [s2]; exact ht.1, trivial⟩
        rw [s2] at this
        exact this
  · exact snap1_VR hw h hs
/-- what a call that began with an empty heap hands back, as others see it: 'res2' : of what it made itself alone -/
def res1 (H2 : Heap) (tk : Option Nat) (nw : Nat) : AV → Option AV
  | .lst (k + 2) sz els => match tk with
    | some k' => if k = k' ∧ freeLL els = true ∧ els.flatten.all scal = true then some (.lst (nw + 2) sz els) else none
    | none => none
  | .sl id sz off len cap => match H2.cellsAt id with
    | some cs => if off + len * sz ≤ cs.length ∧ cs.all scal = true ∧ 0 < cs.length then some (.lst 0 sz (chunkF sz len (cs.drop off))) else none
    | none => none
  | .agg cs => if cs.all scal = true then some (.agg cs) else none
  | v => if scal v = true then some v else none
def res2 (H2 : Heap) (tk : Option Nat) (nw : Nat) : AV → Option AV
  | .tup vs => (mapO (res1 H2 tk nw) vs).map .tup
  | v => res1 H2 tk nw v
theorem Sound.snapF (hg : GFree g) {f : FuncId} {args args' : List AV} (H : Heap) (ha : mapO (snap2 H) args = some args') (hf : freeL args' = true) {v : AV} {H2 : Heap} (h : Sound P g f args' ⟨0, .nil⟩ (.ret v) H2) {tk : Option Nat}
    (htk : ∀ k, tk = some k → H2.get k = some .tok) {v' : AV} (hs : res2 H2 tk H.next v = some v') : Sound P g f args H (.ret v') (addTok tk H) := by
  refine ⟨h.1, fun G w vs hw hv => ?_⟩
  let G1 : Gh := finG G G H H none
  let G0 : Gh := ⟨fun _ => none, G1.imm⟩
  have h10 : ∀ b o, G1.imm b o → G0.imm b o ∧ w.cell? ⟨b, o, none⟩ = w.cell? ⟨b, o, none⟩ := fun b o hh => ⟨hh, rfl⟩
  have hG0 : ∀ b o, G.imm b o → G0.imm b o ∧ w.cell? ⟨b, o, none⟩ = w.cell? ⟨b, o, none⟩ := fun b o hh => ⟨.inl hh, rfl⟩
  have himme : ∀ b o, G0.imm b o → ∃ x, w.cell? ⟨b, o, none⟩ = some x := fun b o hi => by
    rcases hi with hi | ⟨id, l, cs, opn, h1, h2, rfl, h4, h5⟩
    · exact hw.imme b o hi
    · obtain ⟨a1, _, _, _, a5⟩ := hw.cells id l cs opn h1 h2
      obtain ⟨x, hx, _⟩ := a5 (o - l.base) (by omega)
      exact ⟨x, by rw [show o = l.base + (o - l.base) by omega]; exact hx⟩
  have hw0 : WR g G0 ⟨0, .nil⟩ w := {
    cells := fun id l cs opn h1 => by cases h1
    room := fun id l h1 => by cases h1
    disj := fun id id' l l' _ h1 => by cases h1
    immd := fun id l h1 => by cases h1
    mapr := fun id l es h1 => by cases h1
    lt := fun id l h1 => by cases h1
    imme := himme
    glob := fun k cs hk => (hw.glob k cs hk).free_mono (hg k cs hk) hG0 }
  obtain ⟨m1, m2⟩ := mapO_spec ha
  have hvs0 : VRs G0 w args' vs := by
    refine ⟨by rw [hv.1, m1], fun j hj => ?_⟩
    have hj' : j < args.length := by omega
    exact (snap2_VR hw (hv.2 j hj') (m2 j hj')).free_mono (freeL_getD hf hj) h10
  refine (h.2 G0 w vs hw0 hvs0).mono fun e w2 he => ?_
  obtain ⟨G2, hw2, hext, hout⟩ := he
  let Gf : Gh := ⟨fun id => if id = H.next then tk.bind G2.loc else G.loc id, fun b o => G.imm b o ∨ (w.heap.size ≤ b ∧ (finG G G2 H H2 tk).imm b o)⟩
  have hnew : ∀ id l, G2.loc id = some l → H2.live id → w.heap.size ≤ l.blk := fun id l h1 h2 => by
    rcases hext.blks id l h1 h2 with hh | ⟨id0, l0, hh, _⟩
    · exact hh
    · cases hh
  have hfrm : ∀ b, b < w.heap.size → w2.heap[b]? = w.heap[b]? := fun b hb => hext.frame b hb fun id l hh => by cases hh
  have himm2 : ∀ b o, Gf.imm b o → G.imm b o ∨ w.heap.size ≤ b := fun b o hi => by
    rcases hi with hi | ⟨hi, _⟩
    · exact .inl hi
    · exact .inr hi
  have hloc : ∀ id l, G.loc id = some l → Gf.loc id = some l := fun id l hl => by
    have := hw.lt id l hl
    show (if id = H.next then tk.bind G2.loc else G.loc id) = some l
    rw [if_neg (by omega)]
    exact hl
  have himm : ∀ b o, G.imm b o → Gf.imm b o ∧ w2.cell? ⟨b, o, none⟩ = w.cell? ⟨b, o, none⟩ := fun b o hi => ⟨.inl hi, (hext.imm b o (.inl hi)).2⟩
  have hnext : H.next ≤ (addTok tk H).next := by cases tk <;> simp [addTok]
  have hget : ∀ id, id ≠ H.next → (addTok tk H).get id = H.get id := fun id hne => by
    cases tk with
    | none => rfl
    | some k => simp only [addTok, Heap.get_alloc, if_neg hne]
  -- what an address of the new ghost is
  have hcase : ∀ id l, Gf.loc id = some l → (id ≠ H.next ∧ G.loc id = some l) ∨ (id = H.next ∧ ∃ k, tk = some k ∧ G2.loc k = some l ∧ (addTok tk H).get id = some .tok) := fun id l hl => by
    replace hl : (if id = H.next then tk.bind G2.loc else G.loc id) = some l := hl
    by_cases hid : id = H.next
    · rw [if_pos hid] at hl
      cases tk with
      | none => cases hl
      | some k => exact .inr ⟨hid, k, rfl, hl, by simp only [addTok, Heap.get_alloc, if_pos hid]⟩
    · rw [if_neg hid] at hl
      exact .inl ⟨hid, hl⟩
  have hliv : ∀ id, id ≠ H.next → (addTok tk H).live id → H.live id := fun id hne ⟨o, h1, h2⟩ => ⟨o, by rw [← hget id hne]; exact h1, h2⟩
  have htokblk : ∀ k l, tk = some k → G2.loc k = some l → w.heap.size ≤ l.blk := fun k l h1 h2 => hnew k l h2 ⟨_, htk k h1, rfl⟩
  have hrel : WR g Gf (addTok tk H) w2 := {
    cells := fun id l cs opn h1 h2 => by
      rcases hcase id l h1 with ⟨hne, hl⟩ | ⟨_, k, _, _, ht⟩
      · rw [hget id hne] at h2
        obtain ⟨a1, a2, a3, a4, a5⟩ := hw.cells id l cs opn hl h2
        have hb := hw.blk_lt hl ⟨_, h2, rfl⟩
        refine ⟨a1, a2, a3, a4, fun j hj => ?_⟩
        obtain ⟨x, hx, hvx⟩ := a5 j hj
        exact ⟨x, by rw [cell?_congr (hfrm _ hb)]; exact hx, hvx.mono hloc himm⟩
      · rw [ht] at h2; cases h2
    room := fun id l h1 h2 => by
      rcases hcase id l h1 with ⟨hne, hl⟩ | ⟨_, k, hk, hl2, ht⟩
      · rw [hget id hne] at h2
        have hb : l.blk < w.heap.size := hw.blk_lt hl (by
          rcases h2 with ⟨cs, opn, hh⟩ | hh
          · exact ⟨_, hh, rfl⟩
          · exact ⟨_, hh, rfl⟩)
        obtain ⟨c, el, fz, b1, b2, b3⟩ := hw.room id l hl h2
        exact ⟨c, el, fz, by rw [hfrm _ hb]; exact b1, b2, fun j hj => by rw [frozen?_congr (hfrm _ hb)]; exact b3 j hj⟩
      · exact hw2.room k l hl2 (.inr (htk k hk))
    disj := fun id id' l l' hne h1 h2 hv1 hv2 => by
      rcases hcase id l h1 with ⟨hn1, hl1⟩ | ⟨hn1, k, hk, hk1, _⟩ <;> rcases hcase id' l' h2 with ⟨hn2, hl2⟩ | ⟨hn2, k', hk', hk2, _⟩
      · exact hw.disj id id' l l' hne hl1 hl2 (hliv id hn1 hv1) (hliv id' hn2 hv2)
      · have := hw.blk_lt hl1 (hliv id hn1 hv1)
        have := htokblk k' l' hk' hk2
        exact .inl (by omega)
      · have := hw.blk_lt hl2 (hliv id' hn2 hv2)
        have := htokblk k l hk hk1
        exact .inl (by omega)
      · exact absurd (hn1.trans hn2.symm) hne
    immd := fun id l h1 hv1 j hj hi => by
      rcases hcase id l h1 with ⟨hn1, hl1⟩ | ⟨hn1, k, hk, hk1, _⟩
      · have hb := hw.blk_lt hl1 (hliv id hn1 hv1)
        rcases himm2 _ _ hi with hh | hh
        · exact hw.immd id l hl1 (hliv id hn1 hv1) j hj hh
        · omega
      · rcases hi with hi | ⟨_, hi | ⟨id2, l2, cs, opn, q1, q2, q3, q4, q5⟩⟩
        · obtain ⟨x, hx⟩ := hw.imme _ _ hi
          have := cell?_lt hx
          have := htokblk k l hk hk1
          omega
        · exact hw2.immd k l hk1 ⟨_, htk k hk, rfl⟩ j hj hi
        · have hne : id2 ≠ k := fun hh => by rw [hh, htk k hk] at q2; cases q2
          have hs := (hw2.cells id2 l2 cs opn q1 q2).2.1
          rcases hw2.disj id2 k l2 l hne q1 hk1 ⟨_, q2, rfl⟩ ⟨_, htk k hk, rfl⟩ with hd | hd | hd
          · exact hd q3
          · omega
          · omega
    mapr := fun id l es h1 h2 => by
      rcases hcase id l h1 with ⟨hne, hl⟩ | ⟨_, k, _, _, ht⟩
      · rw [hget id hne] at h2
        have hb := hw.blk_lt hl ⟨_, h2, rfl⟩
        obtain ⟨a1, a2, en, cl, a3, a4, a5⟩ := hw.mapr id l es hl h2
        exact ⟨a1, a2, en, cl, by rw [hfrm _ hb]; exact a3, a4, fun j hj => ⟨(a5 j hj).1.mono hloc himm, (a5 j hj).2.mono hloc himm⟩⟩
      · rw [ht] at h2; cases h2
    lt := fun id l h1 => by
      rcases hcase id l h1 with ⟨hne, hl⟩ | ⟨hn, k, hk, _, _⟩
      · have := hw.lt id l hl; omega
      · subst hk
        simp [addTok, hn]
    imme := fun b o hi => by
      rcases hi with hi | ⟨_, hi | ⟨id, l, cs, opn, q1, q2, rfl, q4, q5⟩⟩
      · obtain ⟨x, hx⟩ := hw.imme b o hi
        exact ⟨x, by rw [(himm b o hi).2]; exact hx⟩
      · exact hw2.imme b o hi
      · obtain ⟨a1, _, _, _, a5⟩ := hw2.cells id l cs opn q1 q2
        obtain ⟨x, hx, _⟩ := a5 (o - l.base) (by omega)
        exact ⟨x, by rw [show o = l.base + (o - l.base) by omega]; exact hx⟩
    glob := fun k cs hk => (hw.glob k cs hk).mono hloc himm }
  have hext' : Ext G H w Gf (addTok tk H) w2 := {
    loc := hloc
    imm := himm
    size := hext.size
    frame := fun b hb _ => hfrm b hb
    blks := fun id l h1 hv1 => by
      rcases hcase id l h1 with ⟨hne, hl⟩ | ⟨_, k, hk, hk1, _⟩
      · exact .inr ⟨id, l, hl, hliv id hne hv1, rfl⟩
      · exact .inl (htokblk k l hk hk1)
    immn := fun b o hi => by
      rcases himm2 b o hi with hh | hh
      · exact .inl hh
      · exact .inr (.inl hh)
    next := hnext
    news := fun id l h1 h2 => by
      rcases hcase id l h1 with ⟨hne, hl⟩ | ⟨hn, _⟩
      · rw [h2] at hl; cases hl
      · omega
    dead := fun id l h1 hv1 => hliv id (by have := hw.lt id l h1; omega) hv1
    same := hext.same }
  refine ⟨Gf, hrel, hext', ?_⟩
  have hall : ∀ {l : List AV}, l.all scal = true → ∀ j, j < l.length → scal (l.getD j undefA) = true := fun {l} h j hj => by
    rw [List.all_eq_true] at h
    exact h _ (getD_mem hj)
  have one1 : ∀ {a : AV}, scal a = true → a.one = true := fun {a} h => by cases a <;> first | rfl | cases h
  have res : ∀ {v v' : AV} {u : Value}, VR G2 w2 v u → res1 H2 tk H.next v = some v' → VR Gf w2 v' u := by
    intro v v' u hvr hs
    unfold res1 at hs
    split at hs
    · rename_i k sz els
      split at hs
      · rename_i k'
        split at hs
        · rename_i hc
          obtain ⟨rfl, hc1, hc2⟩ := hc
          obtain rfl := Option.some.inj hs
          cases hvr with
          | lst _ _ _ b o cap us hu hh hv ht =>
            obtain ⟨t1, l, t2, t3, t4, t5, t6⟩ := ht
            have hb : w.heap.size ≤ b := by rw [← t3]; exact htokblk k l rfl t2
            refine .lst _ sz els b o cap us hu (fun j hj => ⟨.inr ⟨hb, .inl (hh j hj).1⟩, (hh j hj).2⟩) (fun j hj => (hv j hj).scal (hall hc2 j hj)) ⟨t1, l, ?_, t3, t4, t5, t6⟩
            show (if H.next = H.next then (some k).bind G2.loc else G.loc H.next) = some l
            rw [if_pos rfl]
            exact t2
        · cases hs
      · cases hs
    · rename_i id sz off len cap
      split at hs
      · rename_i cs hc
        split at hs
        · rename_i hcond
          obtain ⟨hle, hsc, hpos⟩ := hcond
          obtain rfl := Option.some.inj hs
          obtain ⟨opn, hgt⟩ := Heap.cellsAt_some hc
          cases hvr with
          | sl _ _ _ _ _ cap' l hl hlen hin hcap =>
            have hb : w.heap.size ≤ l.blk := hnew id l hl ⟨_, hgt, rfl⟩
            obtain ⟨a1, a2, a3, a4, a5⟩ := hw2.cells id l cs opn hl hgt
            obtain ⟨f1, f2, f3⟩ := chunkF_flat sz len (cs.drop off) (by simp; omega)
            have hj' : ∀ j, j < (chunkF sz len (cs.drop off)).flatten.length → off + j < cs.length ∧ (chunkF sz len (cs.drop off)).flatten.getD j undefA = cs.getD (off + j) undefA := fun j hj => by
              rw [f1] at hj ⊢
              simp only [List.length_take, List.length_drop] at hj
              refine ⟨by omega, ?_⟩
              rw [getD_take _ _ _ _ (by omega), getD_eq, getD_eq, List.getElem?_drop]
            have key := VR.lst (G := Gf) (w := w2) 0 sz (chunkF sz len (cs.drop off)) l.blk (l.base + off) cap' (fun j => (w2.cell? ⟨l.blk, l.base + off + j, none⟩).getD undef) f3
              (fun j hj => by
                obtain ⟨h1, h2⟩ := hj' j hj
                obtain ⟨x, hx, hvx⟩ := a5 (off + j) h1
                refine ⟨.inr ⟨hb, .inr ⟨id, l, cs, opn, hl, hgt, rfl, by omega, by omega⟩⟩, ?_, ?_⟩
                · rw [Nat.add_assoc, hx]; rfl
                · rw [h2]; exact one1 (hall hsc _ h1))
              (fun j hj => by
                obtain ⟨h1, h2⟩ := hj' j hj
                obtain ⟨x, hx, hvx⟩ := a5 (off + j) h1
                rw [h2, Nat.add_assoc, hx]
                exact hvx.scal (hall hsc _ h1))
              ⟨by rw [f2]; rcases hcap with rfl | ⟨_, hc2, _⟩ <;> omega, trivial⟩
            rw [f2] at key
            exact key
        · cases hs
      · cases hs
    · rename_i cs
      split at hs
      · rename_i hc
        obtain rfl := Option.some.inj hs
        refine hvr.flat1 (.inr ⟨cs, rfl, fun c hc' => ?_⟩)
        rw [List.all_eq_true] at hc
        exact hc c hc'
      · cases hs
    · split at hs
      · rename_i hc
        obtain rfl := Option.some.inj hs
        exact hvr.scal hc
      · cases hs
  cases e with
  | returned u =>
    have hvr : VR G2 w2 v u := hout
    show VR Gf w2 v' u
    unfold res2 at hs
    split at hs
    · rename_i xs
      cases hm : mapO (res1 H2 tk H.next) xs with
      | none => rw [hm] at hs; cases hs
      | some ys =>
        rw [hm] at hs
        obtain rfl := Option.some.inj hs
        obtain ⟨r1, r2⟩ := mapO_spec hm
        cases hvr with
        | tup _ vs hl hv => exact .tup ys vs (by omega) fun j hj => res (hv j (by omega)) (r2 j (by omega))
    · exact res hvr hs
  | _ => exact hout.elim
end
end Go.Av
end
section
namespace Go.Proofs.YtfdaiidepcbemaaDoor
open Go Go.Av Go.Av.Pr
set_option maxRecDepth 100000
attribute [local congr] FD2_congr stepK_congr condK_congr guardK_congr FC_congr FOps_congr thenF_congr inBlockF_congr
attribute [local irreducible] FC FOps FD2
def intsC (l : List Int) : List AV := l.map fun x => .int .i64 x
theorem intsC_length (l : List Int) : (intsC l).length = l.length := by simp [intsC]
theorem intsE_flatten (l : List Int) : (intsE l).flatten = intsC l := by
  induction l with
  | nil => rfl
  | cons x b ih => simp only [intsE, intsC, List.map_cons, List.flatten_cons] at ih ⊢; rw [ih]; rfl
theorem chunk_intsC : ∀ (l : List Int), chunkF 1 l.length (intsC l) = intsE l
  | [] => rfl
  | x :: l => by
    have := chunk_intsC l
    simp only [intsC, intsE, List.map_cons, List.length_cons, chunkF] at this ⊢
    simp [this]
theorem freeL_intsC : ∀ l, freeL (intsC l) = true
  | [] => rfl
  | x :: l => by
    simp only [intsC, List.map_cons, freeL, AV.free, Bool.true_and]
    exact freeL_intsC l
theorem grow_ok {n : Nat} (h0 : 0 < n) (hn : n < 2^30) (H : Heap) : Sound Tryd.prog gv 40 [.nilsl, .int .i64 n] H (.ret (.sl H.next 1 0 0 n)) (H.alloc (.cells (intsC (List.replicate n 0)) true)) := by
  refine Sound_FC is40 (by unfold F40 om oo; simp) ?_
  show FC Tryd.prog gv 27 F40.body _ _ _ (retF [.tmp 4] _)
  unfold F40 om oo
  refine FC_seq fun K hK => ?_
  simp only [symA, sy, AV.cells, AV.isTup, startF, Nat.reduceLT, Nat.reduceEqDiff, Nat.reduceAdd]
  apply hK
  clear hK K
  have hfl : (List.replicate n [AV.int .i64 0]).flatten = intsC (List.replicate n 0) := by
    rw [← intsE_flatten]; congr 1; simp [intsE]
  have w0 : IntKind.i64.wrap ((0 : Int) - 0) = 0 := rfl
  have w1 : IntKind.i64.wrap ((n : Int) - 0) = (n : Int) := by rw [wrap_i64 (by omega) (by omega)]; omega
  refine FC_seq fun K hK => ?_
  simp only [symA, sy, AV.cells, AV.isTup, startF, Nat.reduceLT, Nat.reduceEqDiff, Nat.reduceAdd, show decide ((n : Int) < 0) = false from decide_eq_false (by omega)]
  apply hK
  clear hK K
  refine FC_seq fun K hK => ?_
  simp only [symA, sy, AV.cells, AV.isTup, startF, Nat.reduceLT, Nat.reduceEqDiff, Nat.reduceAdd, w0, w1, show decide ((n : Int) > 0) = true from decide_eq_true (by omega), optNat, show asNat (.int .i64 0) = some 0 from rfl, sliceA, Option.getD_none, Option.getD_some, Option.isSome_none, false_implies, asNat_nat, show 1 ≤ 1 from Nat.le_refl 1, show n * 8 ≤ 2 ^ 40 by omega, show ¬ (n = 0) by omega, newRowA, List.length_replicate, Nat.zero_le, show ¬ (0 = n) by omega, hfl, Nat.sub_zero, Nat.zero_mul, Nat.add_zero]
  apply hK
  simp only [symA, sy, AV.cells, AV.isTup, startF, Nat.reduceLT, Nat.reduceEqDiff, Nat.reduceAdd]
  refine ⟨rfl, _, by simp only [resFs, resF, symB, ne_eq, Nat.reduceEqDiff, not_false_eq_true]; rfl, ?_, rfl⟩
  rfl
def partsE (l : List (List Int)) : List (List AV) := l.map fun p => [.lst 0 1 (intsE p)]
theorem partsE_length (l : List (List Int)) : (partsE l).length = l.length := by simp [partsE]
theorem partsE_getD (l : List (List Int)) {i : Nat} (h : i < l.length) : (partsE l).getD i [] = [.lst 0 1 (intsE (l.getD i []))] := by
  simp [partsE, List.getElem?_eq_getElem h]
theorem freeLL_partsE : ∀ l, freeLL (partsE l) = true
  | [] => rfl
  | x :: l => by
    simp only [partsE, List.map_cons, freeLL, freeL, AV.free, freeLL_intsE, Bool.and_self, Bool.true_and]
    exact freeLL_partsE l
theorem flat_take {l : List (List Int)} {i : Nat} (h : i < l.length) : (l.take (i + 1)).flatten = (l.take i).flatten ++ l.getD i [] := by
  rw [List.take_add_one, List.flatten_append]
  simp [List.getElem?_eq_getElem h]
theorem splice_ints (a b c : List Int) {n : Nat} (hn : n = a.length) : splice (intsC (a ++ b)) n (intsC c) = intsC (a ++ c ++ b.drop c.length) := by
  subst hn
  unfold splice
  simp only [intsC, List.map_append, ← List.map_drop, ← List.map_take, List.length_map]
  rw [List.take_left' (by simp), ← List.drop_drop, List.drop_left' (by simp), List.map_drop]
theorem concat_body (parts : List (List Int)) (hne : ∀ p ∈ parts, p ≠ []) (n : Nat) (hn : parts.flatten.length = n) (h0 : 0 < n) (hn' : n < 2^30) (hpl : parts.length < 2^30) :
    ∃ H', Sound Tryd.prog gv 21 [.lst 0 1 (partsE parts)] ⟨0, .nil⟩ (.ret (.sl 0 1 0 n n)) H' ∧ ∃ b, H'.get 0 = some (.cells (intsC parts.flatten) b) := by
  obtain ⟨out, H', ⟨hout, hH⟩, hS⟩ := Sound_of_FC (R := fun o h => o = .ret (.sl 0 1 0 n n) ∧ ∃ b, h.get 0 = some (.cells (intsC parts.flatten) b)) mixed is21 (args := [.lst 0 1 (partsE parts)]) (by unfold F21 om oo; simp) (H := ⟨0, .nil⟩) (by
    show FC Tryd.prog gv 36 F21.body _ _ _ (retF [.tmp 2] _)
    unfold F21 om oo
    have hle : ∀ i, (parts.take i).flatten.length ≤ n := fun i => by
      have := congrArg List.length (congrArg List.flatten (List.take_append_drop i parts))
      rw [List.flatten_append, List.length_append, hn] at this
      omega
    have hnei : ∀ i, i < parts.length → 0 < (parts.getD i []).length := fun i hi => by
      have := hne (parts.getD i []) (by rw [List.getD_eq_getElem?_getD, List.getElem?_eq_getElem hi]; exact List.getElem_mem hi)
      cases hh : parts.getD i [] with
      | nil => exact absurd hh this
      | cons _ _ => simp
    refine FC_seq fun K hK => ?_
    simp only [symA, sy, AV.cells, AV.isTup, startF, Nat.reduceLT, Nat.reduceEqDiff, Nat.reduceAdd]
    apply hK
    clear hK K
    refine FC_seq fun K hK => ?_
    simp only [symA, sy, AV.cells, AV.isTup, startF, Nat.reduceLT, Nat.reduceEqDiff, Nat.reduceAdd]
    apply hK
    clear hK K
    refine FC_seq fun K hK => ?_
    refine FC_seq fun K2 hK2 => ?_
    simp only [symA, sy, AV.cells, AV.isTup, startF, Nat.reduceLT, Nat.reduceEqDiff, Nat.reduceAdd, partsE_length]
    apply hK2
    clear hK2 K2
    refine FC_range (id := 0) (cmp := 12) (ix := 11) (ln := 10) (nx := 22) (fun i f h => f 0 = .lst 0 1 (partsE parts) ∧ f 9 = .lst 0 1 (partsE parts) ∧ f 3 = .int .i64 ((parts.take i).flatten.length : Nat) ∧ h = ⟨0, .nil⟩)
      parts.length (by omega) (by decide) (by simp only [symB, ne_eq, Nat.reduceEqDiff, not_false_eq_true]) (by simp only [symB, ne_eq, Nat.reduceEqDiff, not_false_eq_true]) ?_ ?_ ?_ ?_
    · exact ⟨by simp only [symB, ne_eq, Nat.reduceEqDiff, not_false_eq_true, startF, List.getD_cons_zero], by simp only [symB, ne_eq, Nat.reduceEqDiff, not_false_eq_true], by simp only [symB, ne_eq, Nat.reduceEqDiff, not_false_eq_true]; rfl, rfl⟩
    · rintro i f h d v (rfl | rfl | rfl) ⟨h1, h2, h3, h4⟩ <;> exact ⟨by simpa only [symB, ne_eq, Nat.reduceEqDiff, not_false_eq_true] using h1, by simpa only [symB, ne_eq, Nat.reduceEqDiff, not_false_eq_true] using h2, by simpa only [symB, ne_eq, Nat.reduceEqDiff, not_false_eq_true] using h3, h4⟩
    · rintro i f h hi e1 e2 ⟨h1, h2, h3, rfl⟩
      have hft := congrArg List.length (flat_take hi)
      rw [List.length_append] at hft
      have := hle (i + 1)
      have hw : IntKind.i64.wrap (((parts.take i).flatten.length : Int) + ((parts.getD i []).length : Int)) = (((parts.take (i + 1)).flatten.length : Nat) : Int) := by rw [wrap_i64 (by omega) (by omega)]; omega
      refine FC_block (FC_seq fun K3 hK3 => ?_)
      simp only [symA, sy, AV.cells, AV.isTup, startF, Nat.reduceLT, Nat.reduceEqDiff, Nat.reduceAdd, h2, e1, asNat_nat, partsE_length, hi, partsE_getD parts hi]
      apply hK3
      clear hK3 K3
      simp only [symA, sy, AV.cells, AV.isTup, startF, Nat.reduceLT, Nat.reduceEqDiff, Nat.reduceAdd, h3, intsE_length, hw, show decide ((((parts.take (i + 1)).flatten.length : Nat) : Int) < 0) = false from decide_eq_false (by omega)]
      exact ⟨trivial, e1, e2, h1, (by first | exact h2 | trivial), trivial⟩
    · rintro f h e2 ⟨h1, h2, h3, rfl⟩
      rw [List.take_length, hn] at h3
      simp only [symA, sy, AV.cells, AV.isTup, startF, Nat.reduceLT, Nat.reduceEqDiff, Nat.reduceAdd]
      apply hK
      clear hK K
      refine FC_seq fun K hK => ?_
      simp only [symA, sy, AV.cells, AV.isTup, startF, Nat.reduceLT, Nat.reduceEqDiff, Nat.reduceAdd, h3]
      refine FOps_call (by decide) (by simp only [sm, symB, Nat.reduceEqDiff, startF]) (grow_ok h0 hn' _) ?_
      simp only [symA, sy, AV.cells, AV.isTup, startF, Nat.reduceLT, Nat.reduceEqDiff, Nat.reduceAdd, Heap.next]
      apply hK
      clear hK K
      refine FC_seq fun K hK => ?_
      refine FC_seq fun K2 hK2 => ?_
      simp only [symA, sy, AV.cells, AV.isTup, startF, Nat.reduceLT, Nat.reduceEqDiff, Nat.reduceAdd, h1, partsE_length]
      apply hK2
      clear hK2 K2
      refine FC_range (id := 2) (cmp := 28) (ix := 27) (ln := 26) (nx := 34) (fun i f h => f 25 = .lst 0 1 (partsE parts) ∧ f 6 = .sl 0 1 0 (parts.take i).flatten.length n ∧ h.get 0 = some (.cells (intsC ((parts.take i).flatten ++ List.replicate (n - (parts.take i).flatten.length) 0)) true))
        parts.length (by omega) (by decide) (by simp only [symB, ne_eq, Nat.reduceEqDiff, not_false_eq_true]) (by simp only [symB, ne_eq, Nat.reduceEqDiff, not_false_eq_true]) ?_ ?_ ?_ ?_
      · exact ⟨by simp only [symB, ne_eq, Nat.reduceEqDiff, not_false_eq_true], by simp only [symB, ne_eq, Nat.reduceEqDiff, not_false_eq_true]; rfl, by simp only [Heap.cellsAt, sh, Nat.reduceAdd, Nat.reduceEqDiff]; rfl⟩
      · rintro i f h d v (rfl | rfl | rfl) ⟨h1, h2, h4⟩ <;> exact ⟨by simpa only [symB, ne_eq, Nat.reduceEqDiff, not_false_eq_true] using h1, by simpa only [symB, ne_eq, Nat.reduceEqDiff, not_false_eq_true] using h2, h4⟩
      · rintro i f h hi e1 e2 ⟨h1, h2, h4⟩
        have hft := flat_take hi
        have hft' := congrArg List.length hft
        rw [List.length_append] at hft'
        have hle1 := hle (i + 1)
        have hpos := hnei i hi
        obtain ⟨p, hp⟩ : ∃ p, parts.getD i [] = p := ⟨_, rfl⟩
        rw [hp] at hft hft' hpos
        obtain ⟨a, ha⟩ : ∃ a, (parts.take i).flatten = a := ⟨_, rfl⟩
        rw [ha] at hft hft' h2 h4
        have hne' : (intsE p).isEmpty = false := by cases p with
          | nil => simp at hpos
          | cons _ _ => rfl
        have hcl : (intsC (a ++ List.replicate (n - a.length) 0)).length = n := by rw [intsC_length, List.length_append, List.length_replicate]; omega
        have hsp := splice_ints a (List.replicate (n - a.length) 0) p rfl
        rw [List.drop_replicate, ← hft, show n - a.length - p.length = n - (parts.take (i + 1)).flatten.length by omega] at hsp
        refine FC_block (FC_seq fun K3 hK3 => ?_)
        simp only [symA, sy, AV.cells, AV.isTup, startF, Nat.reduceLT, Nat.reduceEqDiff, Nat.reduceAdd, h1, e1, asNat_nat, partsE_length, hi, partsE_getD parts hi, hp]
        apply hK3
        clear hK3 K3
        simp only [symA, sy, AV.cells, AV.isTup, startF, Nat.reduceLT, Nat.reduceEqDiff, Nat.reduceAdd, sn, Nat.reduceLeDiff, Nat.reduceMul, Nat.reduceSub, Nat.reduceMod, Nat.reduceDiv, h2, elemsOf, appendA, hne', intsE_length, show (a.length + p.length) * 8 ≤ 2 ^ 40 by omega, show 1 ≤ 1 from Nat.le_refl 1, h4, show a.length + p.length ≤ n by omega, hcl, intsE_flatten, hsp]
        refine ⟨trivial, e1, e2, (by first | exact h1 | trivial), ?_, get_set_self _ _ _⟩
        rw [hft']
      · rintro f h e2 ⟨h1, h2, h4⟩
        rw [List.take_length, hn] at h2
        rw [List.take_length, hn, Nat.sub_self, List.replicate_zero, List.append_nil] at h4
        simp only [symA, sy, AV.cells, AV.isTup, startF, Nat.reduceLT, Nat.reduceEqDiff, Nat.reduceAdd]
        apply hK
        simp only [symA, sy, AV.cells, AV.isTup, startF, Nat.reduceLT, Nat.reduceEqDiff, Nat.reduceAdd]
        exact ⟨rfl, [f 6], by simp only [resFs, resF, symB, ne_eq, Nat.reduceEqDiff, not_false_eq_true], by rw [h2]; rfl, _, h4⟩)
  rw [hout] at hS
  exact ⟨H', hS, hH⟩
/-- slices.Concat, of what the arguments lead to -/
theorem concat_ok {vs : List AV} {H : Heap} (parts : List (List Int)) (hne : ∀ p ∈ parts, p ≠ []) (n : Nat) (hn : parts.flatten.length = n) (h0 : 0 < n) (hn' : n < 2^30) (hpl : parts.length < 2^30)
    {tag : Nat} (hv : snapL H (vs.map fun v => [v]) = some (partsE parts)) :
    Sound Tryd.prog gv 21 [.lst tag 1 (vs.map fun v => [v])] H (.ret (.lst 0 1 (intsE parts.flatten))) H := by
  obtain ⟨H2, hS, b, hb⟩ := concat_body parts hne n hn h0 hn' hpl
  have hsc : (intsC parts.flatten).all scal = true := by
    rw [List.all_eq_true]
    intro x hx
    simp only [intsC, List.mem_map] at hx
    obtain ⟨y, _, rfl⟩ := hx
    rfl
  refine Sound.snapF gfree H (args' := [.lst 0 1 (partsE parts)]) ?_ (by simp [freeL, AV.free, freeLL_partsE]) hS (tk := none) (fun k hk => by cases hk) ?_
  · have : snap2 H (.lst tag 1 (vs.map fun v => [v])) = some (.lst 0 1 (partsE parts)) := by
      simp only [snap2, hv, Option.map_some]
    simp only [mapO, this]
  · have hl : (intsC parts.flatten).length = n := by rw [intsC_length, hn]
    simp only [res2, res1, cellsAt_get hb]
    rw [if_pos ⟨by rw [hl]; omega, hsc, by rw [hl]; exact h0⟩, List.drop_zero, ← hn, chunk_intsC]
end Go.Proofs.YtfdaiidepcbemaaDoor
end
