/-
  A REGION THAT DRAWS ITS ORDER: each kind of operation; the whole.
-/
import Derived.Test.YtfdaiidepcbemaaDoorA12
set_option linter.unusedVariables false
set_option linter.unusedSectionVars false
set_option linter.unusedSimpArgs false
section
namespace Go.Av
open Go
theorem reads_not_eff {r : ROp} (h : r.reads = true) : r.eff = false := by cases r <;> first | rfl | cases h
theorem reads_not_fresh {r : ROp} (h : r.reads = true) : r.fresh = false := by cases r <;> first | rfl | cases h
theorem idOf_loc {G : Gh} {w : World} {v : AV} {u : Value} {id : Nat} (h : idOf v = some id) (hv : VR G w v u) : ∃ l, G.loc id = some l := by
  cases hv <;> simp only [idOf] at h <;> first
    | (cases h; done)
    | (obtain rfl := Option.some.inj h; exact ⟨_, by assumption⟩)
theorem readsId_arg {ev : Arg → AV} {r : ROp} {id : Nat} (h : r.readsId ev = some id) : ∃ y ∈ r.args, idOf (ev y) = some id := by
  cases r <;> simp only [ROp.readsId] at h <;> first
    | (cases h; done)
    | exact ⟨_, by simp [ROp.args], h⟩
theorem readsId_congr {ev ev' : Arg → AV} {r : ROp} (h : ∀ y ∈ r.args, ev y = ev' y) : r.readsId ev = r.readsId ev' := by
  cases r <;> simp only [ROp.readsId] <;> first
    | rfl
    | rw [h _ (by simp [ROp.args])]
theorem fop_live {ev : Arg → AV} {r : ROp} {ob : AObj} {val : Nat → AV} (h : fop ev r = some (ob, val)) : ob.live = true := by
  cases r <;> simp only [fop] at h <;> first
    | (cases h; done)
    | (obtain ⟨rfl, rfl⟩ := Prod.mk.inj (Option.some.inj h); rfl)
    | (repeat' (split at h)
       all_goals first
         | (cases h; done)
         | (obtain ⟨rfl, rfl⟩ := Prod.mk.inj (Option.some.inj h); rfl))
section
variable {P : Program} {g : Genv} {ops : Array Oper} {rl : List ROper} {pairs : List (Nat × Nat)} {anc : Nat → Nat → Bool} {s0 : List AV} {H0 : Heap} {Hs : Nat → Heap} {ss : Nat → List AV} {vs : Nat → AV}
variable {G0 : Gh} {w0 : World} {dl : List Deferred} {listed : Array Bool} {p : Nat} {G : Gh} {HS : Heap} {w : World} {a : Act} {sS : List AV}
variable (I : DInv P g ops rl pairs anc s0 H0 Hs ss vs G0 w0 dl listed p G HS w a sS) (D : DrawRun P g rl pairs s0 H0 Hs ss vs) (K : DrawOK ops rl pairs anc)
include I K D
theorem DInv.not_anc {j e : Nat} (hj : Rdy ops listed j) (he : doneB listed e = true) : anc j e = false := by
  cases hc : anc j e with
  | false => rfl
  | true =>
    have := I.closed j e he hc
    rw [hj.not] at this
    cases this
theorem DInv.not_anc' {j e : Nat} (hj : Rdy ops listed j) (he : doneB listed e = false) : anc e j = false := by
  cases hc : anc e j with
  | false => rfl
  | true =>
    have := I.anc_done K hj hc
    rw [he] at this
    cases this
theorem DInv.undone {e : Nat} {re : ROper} (hre : rl[e]? = some re) (hee : re.op.eff = true) (h : p ≤ e) : doneB listed e = false := by
  cases hs : doneB listed e with
  | false => rfl
  | true => have := (I.pos e re hre hee).1 hs; omega
/-- what is read is as it was in the order of the text -/
theorem DInv.read_same {j : Nat} {r : ROper} (hj : Rdy ops listed j) (hr : rl[j]? = some r) (hw : wantedA (ss j) r = true) {id : Nat} (hid : r.op.readsId (Arg.eval g (ss j)) = some id) {l : Loc} (hl : G.loc id = some l)
    (hsome : (Hs j).get id ≠ none) : HS.get id = (Hs j).get id := by
  have hrd := readsId_reads hid
  have hlt := (List.getElem?_eq_some_iff.1 hr).1
  rcases I.cont id l hl with ⟨i, ri, h1, h2, h3, h4, h5, rfl, h7⟩ | ⟨h1, h2⟩
  · have hne : i ≠ j := fun he => by rw [he, hj.not] at h3; cases h3
    by_cases hij : i < j
    · rw [h7]
      refine (D.same_get (p := i + 1) (q := j) (by omega) (fun e re q1 q2 q3 q4 q5 => ?_) (fun k rk q1 q2 q3 q4 q5 => kept_ne h1 q3 h2 q4 (by omega)) j (by omega) (Nat.le_refl _)).symm
      have hnd := I.undone D K q3 q4 (by omega)
      exact D.stable j e ((K.cmp e j re r q2 q3 hr (I.not_anc' D K hj hnd)).2.2.2.2 q4 hrd) r re hr q3 hw q5 _ (.inl hid)
    · exact absurd (D.none_before K h1 h2 h4 j (by omega)) hsome
  · rw [h2]
    by_cases hpj : p ≤ j
    · refine (D.same_get (p := p) (q := j) (by omega) (fun e re q1 q2 q3 q4 q5 => ?_) (fun k rk q1 q2 q3 q4 q5 => h1 k rk q1 q3 q4 q5) j hpj (Nat.le_refl _)).symm
      have hnd := I.undone D K q3 q4 q1
      exact D.stable j e ((K.cmp e j re r q2 q3 hr (I.not_anc' D K hj hnd)).2.2.2.2 q4 hrd) r re hr q3 hw q5 _ (.inl hid)
    · refine D.same_get (p := j) (q := p) I.ple (fun e re q1 q2 q3 q4 q5 => ?_) (fun k rk q1 q2 q3 q4 q5 he => ?_) p (by omega) (Nat.le_refl _)
      · have hne : e ≠ j := fun he => by
          subst he
          rw [hr] at q3
          cases q3
          rw [reads_not_eff hrd] at q4
          cases q4
        have hd := (I.pos e re q3 q4).2 q2
        exact D.stable j e ((K.cmp j e r re (by omega) hr q3 (I.not_anc D K hj hd)).2.2.2.1 q4 (.inl hrd)) r re hr q3 hw q5 _ (.inl hid)
      · rw [he] at hsome
        exact hsome (D.none_before K q3 q4 q5 j q1)
theorem DInv.kept_small {i : Nat} {ri : ROper} (hi : rl[i]? = some ri) (hf : ri.op.fresh = true) {k : Nat} (hk : k ≤ rl.length) : kept H0 rl i < (Hs k).next := by
  have h1 := D.next_mono (p := 0) k (Nat.zero_le _) hk
  have h2 := kept_lt (rl := rl) hi hf
  rw [D.h0] at h1
  unfold kept
  simp only at h1
  omega
/-- where an operation that changes something may be next, the heap of the text says what is there -/
theorem DInv.at_eff {j : Nat} {r : ROper} (hj : Rdy ops listed j) (hr : rl[j]? = some r) (he : r.op.eff = true) : ∀ id l, G.loc id = some l →
    (∃ i ri, rl[i]? = some ri ∧ ri.op.fresh = true ∧ doneB listed i = true ∧ wantedA (ss i) ri = true ∧ j < i ∧ id = kept H0 rl i ∧ HS.get id = (Hs (i + 1)).get id ∧ (Hs j).get id = none) ∨
    ((∀ i ri, j ≤ i → rl[i]? = some ri → ri.op.fresh = true → wantedA (ss i) ri = true → id ≠ kept H0 rl i) ∧ HS.get id = (Hs j).get id) := by
  intro id l hl
  have hlt := (List.getElem?_eq_some_iff.1 hr).1
  obtain ⟨hpj, hno⟩ := I.no_eff K hj hr he
  have noE : ∀ {q : Nat}, p ≤ q → ∀ e re, q ≤ e → e < j → rl[e]? = some re → re.op.eff = true → wantedA (ss e) re = true → (Hs e).get id = (Hs (e + 1)).get id := fun hq e re q1 q2 q3 q4 q5 => by
    have := hno e re (by omega) q2 q3
    rw [q4] at this
    cases this
  rcases I.cont id l hl with ⟨i, ri, h1, h2, h3, h4, h5, h6, h7⟩ | ⟨h1, h2⟩
  · have hne : i ≠ j := fun hh => by rw [hh, hj.not] at h3; cases h3
    by_cases hij : i < j
    · refine .inr ⟨fun k rk q1 q2 q3 q4 => ?_, ?_⟩
      · rw [h6]; exact kept_ne h1 q2 h2 q3 (by omega)
      · rw [h7]
        exact (D.same_get (p := i + 1) (q := j) (by omega) (noE (by omega)) (fun k rk q1 q2 q3 q4 q5 => by rw [h6]; exact kept_ne h1 q3 h2 q4 (by omega)) j (by omega) (Nat.le_refl _)).symm
    · exact .inl ⟨i, ri, h1, h2, h3, h4, by omega, h6, h7, by rw [h6]; exact D.none_before K h1 h2 h4 j (by omega)⟩
  · refine .inr ⟨fun k rk q1 q2 q3 q4 => h1 k rk (by omega) q2 q3 q4, ?_⟩
    rw [h2]
    exact (D.same_get (p := p) (q := j) (by omega) (noE (Nat.le_refl _)) (fun k rk q1 q2 q3 q4 q5 => h1 k rk q1 q3 q4 q5) j hpj (Nat.le_refl _)).symm
theorem DInv.rel_at {j : Nat} {r : ROper} (hj : Rdy ops listed j) (hr : rl[j]? = some r) (he : r.op.eff = true) : WR g G (Hs j) w := by
  have hA := I.at_eff D K hj hr he
  have hlt := (List.getElem?_eq_some_iff.1 hr).1
  obtain ⟨hpj, hno⟩ := I.no_eff K hj hr he
  have hget : ∀ {id l o}, G.loc id = some l → (Hs j).get id = some o → HS.get id = some o := fun hl ho => by
    rcases hA _ _ hl with ⟨_, _, _, _, _, _, _, _, _, hn⟩ | ⟨_, h⟩
    · rw [hn] at ho; cases ho
    · rw [h]; exact ho
  have hliv : ∀ {id l}, G.loc id = some l → (Hs j).live id → HS.live id := fun hl ⟨o, ho, hv⟩ => ⟨o, hget hl ho, hv⟩
  exact {
    cells := fun id l cs opn h1 h2 => I.rel.cells id l cs opn h1 (hget h1 h2)
    room := fun id l h1 h2 => I.rel.room id l h1 (h2.imp (fun ⟨cs, opn, h⟩ => ⟨cs, opn, hget h1 h⟩) (fun h => hget h1 h))
    disj := fun id id' l l' hne h1 h2 h3 h4 => I.rel.disj id id' l l' hne h1 h2 (hliv h1 h3) (hliv h2 h4)
    immd := fun id l h1 h2 => I.rel.immd id l h1 (hliv h1 h2)
    mapr := fun id l es h1 h2 => I.rel.mapr id l es h1 (hget h1 h2)
    lt := fun id l h1 => by
      have := I.rel.lt id l h1
      rw [I.nxt] at this
      rwa [D.same_next (p := p) (q := j) (by omega) hno j hpj (Nat.le_refl _)]
    imme := I.rel.imme
    glob := I.rel.glob }
/-- the objects that are made early, beside what an operation leaves -/
theorem DInv.heap_with (j : Nat) (H : Heap) : ∀ m, m ≤ rl.length → ∃ Hm : Heap, Hm.next = H.next ∧
    (∀ i ri, i < m → rl[i]? = some ri → ri.op.fresh = true → doneB listed i = true → wantedA (ss i) ri = true → j < i → Hm.get (kept H0 rl i) = (Hs (i + 1)).get (kept H0 rl i)) ∧
    (∀ id, (∀ i ri, i < m → rl[i]? = some ri → ri.op.fresh = true → doneB listed i = true → wantedA (ss i) ri = true → j < i → id ≠ kept H0 rl i) → Hm.get id = H.get id) := by
  intro m
  induction m with
  | zero => exact fun _ => ⟨H, rfl, fun i ri h => absurd h (Nat.not_lt_zero i), fun id _ => rfl⟩
  | succ m ih =>
    intro hm
    obtain ⟨Hm, h1, h2, h3⟩ := ih (by omega)
    obtain ⟨rm, hrm⟩ : ∃ r, rl[m]? = some r := ⟨rl[m]'(by omega), List.getElem?_eq_getElem (by omega)⟩
    by_cases hc : rm.op.fresh = true ∧ doneB listed m = true ∧ wantedA (ss m) rm = true ∧ j < m
    · obtain ⟨c1, c2, c3, c4⟩ := hc
      obtain ⟨ob, val, _, _, e3⟩ := D.fresh_step hrm c1 c3
      have hob : (Hs (m + 1)).get (kept H0 rl m) = some ob := by rw [e3, Heap.get_set, if_pos rfl]
      refine ⟨Hm.set (kept H0 rl m) ob, h1, fun i ri q1 q2 q3 q4 q5 q6 => ?_, fun id hid => ?_⟩
      · rw [Heap.get_set]
        by_cases him : i = m
        · subst him
          rw [if_pos rfl, hob]
        · rw [if_neg (kept_ne q2 hrm q3 c1 him)]
          exact h2 i ri (by omega) q2 q3 q4 q5 q6
      · rw [Heap.get_set, if_neg (hid m rm (by omega) hrm c1 c2 c3 c4)]
        exact h3 id (fun i ri q1 => hid i ri (by omega))
    · refine ⟨Hm, h1, fun i ri q1 q2 q3 q4 q5 q6 => ?_, fun id hid => h3 id (fun i ri q1 => hid i ri (by omega))⟩
      by_cases him : i = m
      · subst him
        rw [hrm] at q2
        cases q2
        exact absurd ⟨q3, q4, q5, q6⟩ hc
      · exact h2 i ri (by omega) q2 q3 q4 q5 q6
/-- behind an operation that changes something -/
theorem DInv.after_eff (hlt0 : ∀ id l, G0.loc id = some l → id < H0.next) {j : Nat} {r : ROper} (hj : Rdy ops listed j) (hr : rl[j]? = some r) (he : r.op.eff = true) {G1 : Gh} {w1 : World} {u : Value}
    (rel1 : WR g G1 (Hs (j + 1)) w1) (e1 : Ext G (Hs j) w G1 (Hs (j + 1)) w1) (hv : VR G1 w1 (vs j) u) :
    ∃ HS1, DInv P g ops rl pairs anc s0 H0 Hs ss vs G0 w0 dl (listed.setIfInBounds j true) (j + 1) G1 HS1 w1 (a.put r.dst u) (putA sS r.dst (vs j)) := by
  have hA := I.at_eff D K hj hr he
  have hlt := (List.getElem?_eq_some_iff.1 hr).1
  obtain ⟨hpj, hno⟩ := I.no_eff K hj hr he
  obtain ⟨HS1, n1, n2, n3⟩ := I.heap_with D K j (Hs (j + 1)) rl.length (Nat.le_refl _)
  -- an object that was made early
  let Late : Nat → Prop := fun id => ∃ i ri, rl[i]? = some ri ∧ ri.op.fresh = true ∧ doneB listed i = true ∧ wantedA (ss i) ri = true ∧ j < i ∧ id = kept H0 rl i
  have hlate : ∀ id, Late id → ∃ i ri, rl[i]? = some ri ∧ ri.op.fresh = true ∧ doneB listed i = true ∧ wantedA (ss i) ri = true ∧ j < i ∧ id = kept H0 rl i ∧ HS1.get id = (Hs (i + 1)).get id := fun id ⟨i, ri, q1, q2, q3, q4, q5, q6⟩ =>
    ⟨i, ri, q1, q2, q3, q4, q5, q6, by rw [q6]; exact n2 i ri (List.getElem?_eq_some_iff.1 q1).1 q1 q2 q3 q4 q5⟩
  have hnlate : ∀ id, ¬ Late id → HS1.get id = (Hs (j + 1)).get id := fun id hn => n3 id (fun i ri q0 q1 q2 q3 q4 q5 he => hn ⟨i, ri, q1, q2, q3, q4, q5, he⟩)
  have locOld : ∀ {id l}, Late id → G1.loc id = some l → G.loc id = some l := fun {id l} ⟨i, ri, q1, q2, q3, q4, q5, q6⟩ hl1 => by
    cases hl : G.loc id with
    | none =>
      have := e1.news id l hl1 hl
      have h2 := I.kept_small D K q1 q2 (k := j) (by omega)
      rw [q6] at this
      omega
    | some l' => rw [e1.loc id l' hl] at hl1; exact hl1
  have lateGet : ∀ {id l}, Late id → G.loc id = some l → HS1.get id = HS.get id ∧ (Hs j).get id = none := fun {id l} hL hl => by
    obtain ⟨i, ri, q1, q2, q3, q4, q5, q6, q7⟩ := hlate id hL
    rcases hA id l hl with ⟨i', ri', p1, p2, p3, p4, p5, p6, p7, p8⟩ | ⟨h1, _⟩
    · have : i = i' := by
        refine Decidable.byContradiction fun hne => ?_
        exact kept_ne q1 p1 q2 p2 hne (q6.symm.trans p6)
      subst this
      exact ⟨q7.trans p7.symm, p8⟩
    · exact absurd q6 (h1 i ri (by omega) q1 q2 q4)
  have liveOld : ∀ {id0 l0}, G.loc id0 = some l0 → (Hs j).live id0 → HS.live id0 ∧ ¬ Late id0 := fun {id0 l0} hl0 ⟨o, ho, hv⟩ => by
    rcases hA id0 l0 hl0 with ⟨_, _, _, _, _, _, _, _, _, hn⟩ | ⟨h1, h2⟩
    · rw [hn] at ho; cases ho
    · refine ⟨⟨o, by rw [h2]; exact ho, hv⟩, fun hL => ?_⟩
      have := (lateGet hL hl0).2
      rw [this] at ho
      cases ho
  have lateExcl : ∀ {id l}, Late id → G.loc id = some l → ∀ id' l', id' ≠ id → G.loc id' = some l' → HS.live id' → l'.blk ≠ l.blk := fun {id l} ⟨i, ri, q1, q2, q3, q4, q5, q6⟩ hl id' l' hne hl' hv' => by
    rw [q6] at hl hne
    exact I.excl i ri (by omega) q1 q2 q3 q4 l hl id' l' hne hl' hv'
  have lateLive : ∀ {id l}, Late id → G.loc id = some l → HS.live id := fun {id l} hL hl => by
    obtain ⟨i, ri, q1, q2, q3, q4, q5, q6, q7⟩ := hlate id hL
    obtain ⟨ob, val, f1, _, f3⟩ := D.fresh_step q1 q2 q4
    refine ⟨ob, ?_, fop_live f1⟩
    rw [← (lateGet hL hl).1, q7, q6, f3, Heap.get_set, if_pos rfl]
  have blkOther : ∀ {id l}, Late id → G.loc id = some l → ∀ id0 l0, G.loc id0 = some l0 → (Hs j).live id0 → l0.blk ≠ l.blk := fun hL hl id0 l0 hl0 hv0 => by
    obtain ⟨h1, h2⟩ := liveOld hl0 hv0
    exact lateExcl hL hl id0 l0 (fun he => h2 (he ▸ hL)) hl0 h1
  have blkNew : ∀ {id l}, Late id → G.loc id = some l → ∀ id' l', G1.loc id' = some l' → (Hs (j + 1)).live id' → l'.blk ≠ l.blk := fun hL hl id' l' hl' hv' => by
    have hb := I.rel.blk_lt hl (lateLive hL hl)
    rcases e1.blks id' l' hl' hv' with h | ⟨id0, l0, h1, h2, h3⟩
    · omega
    · rw [← h3]; exact blkOther hL hl id0 l0 h1 h2
  have heapSame : ∀ {id l}, Late id → G.loc id = some l → w1.heap[l.blk]? = w.heap[l.blk]? := fun hL hl =>
    e1.frame _ (I.rel.blk_lt hl (lateLive hL hl)) (fun id0 l0 h1 h2 => blkOther hL hl id0 l0 h1 h2)
  have liveNew : ∀ {id}, HS1.live id → Late id ∨ (¬ Late id ∧ (Hs (j + 1)).live id) := fun {id} ⟨o, ho, hv⟩ => by
    by_cases hL : Late id
    · exact .inl hL
    · exact .inr ⟨hL, o, by rw [← hnlate id hL]; exact ho, hv⟩
  have otherBlk : ∀ {id l}, Late id → G1.loc id = some l → ∀ id' l', id' ≠ id → G1.loc id' = some l' → HS1.live id' → l'.blk ≠ l.blk := fun {id l} hL hl1 id' l' hne hl' hv' => by
    have hl := locOld hL hl1
    rcases liveNew hv' with hL' | ⟨_, hv'⟩
    · exact lateExcl hL hl id' l' hne (locOld hL' hl') (lateLive hL' (locOld hL' hl'))
    · exact blkNew hL hl id' l' hl' hv'
  have hm : ∀ {x y}, VR G w x y → VR G1 w1 x y := fun hx => hx.mono e1.loc e1.imm
  have rel' : WR g G1 HS1 w1 := {
    cells := fun id l cs opn h1 h2 => by
      by_cases hL : Late id
      · have hl := locOld hL h1
        obtain ⟨a1, a2, a3, a4, a5⟩ := I.rel.cells id l cs opn hl (by rw [← (lateGet hL hl).1]; exact h2)
        refine ⟨a1, a2, a3, a4, fun k hk => ?_⟩
        obtain ⟨x, hx, hvx⟩ := a5 k hk
        exact ⟨x, by rw [cell?_congr (heapSame hL hl)]; exact hx, hm hvx⟩
      · exact rel1.cells id l cs opn h1 (by rw [← hnlate id hL]; exact h2)
    room := fun id l h1 h2 => by
      by_cases hL : Late id
      · have hl := locOld hL h1
        obtain ⟨c, el, fz, a1, a2, a3⟩ := I.rel.room id l hl (by rw [← (lateGet hL hl).1]; exact h2)
        exact ⟨c, el, fz, by rw [heapSame hL hl]; exact a1, a2, fun k hk => by rw [frozen?_congr (heapSame hL hl)]; exact a3 k hk⟩
      · exact rel1.room id l h1 (by rw [← hnlate id hL]; exact h2)
    disj := fun id id' l l' hne h1 h2 hv1 hv2 => by
      by_cases hL : Late id
      · exact .inl (Ne.symm (otherBlk hL h1 id' l' (Ne.symm hne) h2 hv2))
      · by_cases hL' : Late id'
        · exact .inl (otherBlk hL' h2 id l hne h1 hv1)
        · rcases liveNew hv1 with h | ⟨_, hv1⟩
          · exact absurd h hL
          · rcases liveNew hv2 with h | ⟨_, hv2⟩
            · exact absurd h hL'
            · exact rel1.disj id id' l l' hne h1 h2 hv1 hv2
    immd := fun id l h1 hv1 k hk hi => by
      rcases liveNew hv1 with hL | ⟨_, hv1⟩
      · have hl := locOld hL h1
        rcases e1.immn _ _ hi with h | h | ⟨id0, l0, q1, q2, q3⟩
        · exact I.rel.immd id l hl (lateLive hL hl) k hk h
        · have := I.rel.blk_lt hl (lateLive hL hl); omega
        · exact blkOther hL hl id0 l0 q1 q2 q3
      · exact rel1.immd id l h1 hv1 k hk hi
    mapr := fun id l es h1 h2 => by
      by_cases hL : Late id
      · have hl := locOld hL h1
        obtain ⟨a1, a2, en, cl, a3, a4, a5⟩ := I.rel.mapr id l es hl (by rw [← (lateGet hL hl).1]; exact h2)
        exact ⟨a1, a2, en, cl, by rw [heapSame hL hl]; exact a3, a4, fun k hk => ⟨hm (a5 k hk).1, hm (a5 k hk).2⟩⟩
      · exact rel1.mapr id l es h1 (by rw [← hnlate id hL]; exact h2)
    lt := fun id l h1 => by rw [n1]; exact rel1.lt id l h1
    imme := rel1.imme
    glob := rel1.glob }
  have ext' : Ext G0 H0 w0 G1 HS1 w1 := {
    loc := fun id l h => e1.loc _ _ (I.ext.loc _ _ h)
    imm := fun b o hi => ⟨(e1.imm _ _ (I.ext.imm _ _ hi).1).1, ((e1.imm _ _ (I.ext.imm _ _ hi).1).2).trans (I.ext.imm _ _ hi).2⟩
    size := Nat.le_trans I.ext.size e1.size
    frame := fun b hb hn => by
      rw [e1.frame b (Nat.lt_of_lt_of_le hb I.ext.size) (fun id l h1 h2 => ?_), I.ext.frame b hb hn]
      rcases I.ext.blks id l h1 (liveOld h1 h2).1 with h | ⟨id0, l0, q1, q2, q3⟩
      · omega
      · rw [← q3]; exact hn id0 l0 q1 q2
    blks := fun id l h1 h2 => by
      have old : ∀ {id l}, G.loc id = some l → HS.live id → w0.heap.size ≤ l.blk ∨ ∃ id0 l0, G0.loc id0 = some l0 ∧ H0.live id0 ∧ l0.blk = l.blk := fun h1 h2 => I.ext.blks _ _ h1 h2
      rcases liveNew h2 with hL | ⟨_, h2⟩
      · have hl := locOld hL h1
        exact old hl (lateLive hL hl)
      · rcases e1.blks id l h1 h2 with h | ⟨id0, l0, q1, q2, q3⟩
        · exact .inl (Nat.le_trans I.ext.size h)
        · rw [← q3]; exact old q1 (liveOld q1 q2).1
    immn := fun b o hi => by
      rcases e1.immn b o hi with h | h | ⟨id0, l0, q1, q2, q3⟩
      · exact I.ext.immn b o h
      · exact .inr (.inl (Nat.le_trans I.ext.size h))
      · rcases I.ext.blks id0 l0 q1 (liveOld q1 q2).1 with h | ⟨id1, l1, p1, p2, p3⟩
        · exact .inr (.inl (by omega))
        · exact .inr (.inr ⟨id1, l1, p1, p2, p3.trans q3⟩)
    next := by
      have h1 := I.ext.next
      rw [I.nxt] at h1
      rw [n1]
      exact Nat.le_trans h1 (D.next_mono (p := p) (j + 1) (by omega) (by omega))
    news := fun id l h1 h2 => by
      cases hl : G.loc id with
      | none =>
        have := e1.news id l h1 hl
        have h3 := I.ext.next
        rw [I.nxt] at h3
        exact Nat.le_trans (Nat.le_trans h3 (D.next_mono (p := p) j hpj (by omega))) this
      | some l' => exact I.ext.news id l' hl h2
    dead := fun id l h1 h2 => by
      have hl := I.ext.loc id l h1
      have hnl : ¬ Late id := fun ⟨i, ri, q1, q2, q3, q4, q5, q6⟩ => by
        have := hlt0 id l h1
        rw [q6] at this
        unfold kept at this
        omega
      rcases liveNew h2 with h | ⟨_, h2⟩
      · exact absurd h hnl
      · exact I.ext.dead id l h1 (liveOld hl (e1.dead id l hl h2)).1
    same := ⟨e1.same.1.trans I.ext.same.1, e1.same.2.trans I.ext.same.2⟩ }
  refine ⟨HS1, I.next K hj hr (p' := j + 1) (by rw [if_pos he]) rel' (by rw [n1]) (fun i ri h1 h2 ⟨l, h3⟩ => ?_) (fun id l hl1 => ?_) (fun i ri h1 h2 h3 h4 h5 l hl1 id' l' hne hl' hv' => ?_) ext' hv (I.temps.ext e1)⟩
  · have hl : ∃ l, G.loc (kept H0 rl i) = some l := by
      cases hl : G.loc (kept H0 rl i) with
      | none =>
        have := e1.news _ l h3 hl
        have := I.kept_small D K h1 h2 (k := j) (by omega)
        omega
      | some l' => exact ⟨l', rfl⟩
    have := I.domS i ri h1 h2 hl
    exact ⟨.inr this.1, this.2⟩
  · by_cases hL : Late id
    · obtain ⟨i, ri, q1, q2, q3, q4, q5, q6, q7⟩ := hlate id hL
      exact .inl ⟨i, ri, q1, q2, .inr q3, q4, by omega, q6, q7⟩
    · refine .inr ⟨fun i ri q1 q2 q3 q4 q5 => hL ?_, hnlate id hL⟩
      have hl : ∃ l, G.loc (kept H0 rl i) = some l := by
        rw [q5] at hl1
        cases hl : G.loc (kept H0 rl i) with
        | none =>
          have := e1.news _ l hl1 hl
          have := I.kept_small D K q2 q3 (k := j) (by omega)
          omega
        | some l' => exact ⟨l', rfl⟩
      have := I.domS i ri q2 q3 hl
      exact ⟨i, ri, q2, q3, this.1, this.2, by omega, q5⟩
  · have hd : doneB listed i = true := by
      rcases h4 with rfl | h4
      · omega
      · exact h4
    exact otherBlk ⟨i, ri, h2, h3, hd, h5, by omega, rfl⟩ hl1 id' l' hne hl' hv'
end
end Go.Av
end
