/-
  A REGION THAT DRAWS ITS ORDER: one operation more; the whole region.
-/
import Derived.Test.YtfdaiidepcbemaaDoorA13
import Derived.Orders
set_option linter.unusedVariables false
set_option linter.unusedSimpArgs false
set_option linter.unusedSectionVars false
section
namespace Go.Av
open Go
theorem copers_get {P : Program} {g : Genv} {mu : Bool} {ops : Array Oper} : ∀ (l : List Oper) (rl : List ROper), copers P g mu ops l = some rl →
    rl.length = l.length ∧ ∀ (i : Nat) (o : Oper), l[i]? = some o → ∃ r, rl[i]? = some r ∧ coper P g mu ops o = some r
  | [], rl, h => by
    obtain rfl := Option.some.inj h
    exact ⟨rfl, fun i o h => by simp at h⟩
  | o :: l, rl, h => by
    unfold copers at h
    split at h
    · rename_i r rs hr hrs
      obtain rfl := Option.some.inj h
      obtain ⟨h1, h2⟩ := copers_get l rs hrs
      refine ⟨by simp [h1], fun i o' hi => ?_⟩
      cases i with
      | zero => simp at hi; subst hi; exact ⟨r, rfl, hr⟩
      | succ i => simpa using h2 i o' (by simpa using hi)
    · cases h
theorem WR.heap_congr {g : Genv} {G : Gh} {H H' : Heap} {w : World} (h : WR g G H w) (hg : ∀ id l, G.loc id = some l → H'.get id = H.get id) (hn : H.next ≤ H'.next) : WR g G H' w := by
  have hl : ∀ {id l}, G.loc id = some l → H'.live id → H.live id := fun h1 ⟨o, h2, h3⟩ => ⟨o, by rw [← hg _ _ h1]; exact h2, h3⟩
  exact {
    cells := fun id l cs opn h1 h2 => h.cells id l cs opn h1 (by rw [← hg _ _ h1]; exact h2)
    room := fun id l h1 h2 => h.room id l h1 (by rw [← hg _ _ h1]; exact h2)
    disj := fun id id' l l' hne h1 h2 h3 h4 => h.disj id id' l l' hne h1 h2 (hl h1 h3) (hl h2 h4)
    immd := fun id l h1 h2 => h.immd id l h1 (hl h1 h2)
    mapr := fun id l es h1 h2 => h.mapr id l es h1 (by rw [← hg _ _ h1]; exact h2)
    lt := fun id l h1 => Nat.lt_of_lt_of_le (h.lt id l h1) hn
    imme := h.imme
    glob := h.glob }
theorem Ext.heap_congr {G G' : Gh} {H H' H'' : Heap} {w w' : World} (h : Ext G H w G' H' w') (hg : ∀ id l, G'.loc id = some l → H''.get id = H'.get id) (hn : H'.next ≤ H''.next) : Ext G H w G' H'' w' := by
  have hl : ∀ {id l}, G'.loc id = some l → H''.live id → H'.live id := fun h1 ⟨o, h2, h3⟩ => ⟨o, by rw [← hg _ _ h1]; exact h2, h3⟩
  exact { h with
    blks := fun id l h1 h2 => h.blks id l h1 (hl h1 h2)
    next := Nat.le_trans h.next hn
    dead := fun id l h1 h2 => h.dead id l h1 (hl (h.loc _ _ h1) h2) }
/-- the mark of a draw -/
theorem WR.drawn {g : Genv} {G : Gh} {H : Heap} {w : World} (h : WR g G H w) (n : Nat) : WR g G H { w with drawn := n } := by
  have hv : ∀ {x y}, VR G w x y → VR G { w with drawn := n } x y := fun hx => hx.mono (fun _ _ h => h) (fun _ _ h => ⟨h, rfl⟩)
  exact {
    cells := fun id l cs opn h1 h2 => let ⟨a, b, c, d, e⟩ := h.cells id l cs opn h1 h2; ⟨a, b, c, d, fun j hj => let ⟨u, h3, h4⟩ := e j hj; ⟨u, h3, hv h4⟩⟩
    room := fun id l h1 h2 => h.room id l h1 h2
    disj := h.disj
    immd := h.immd
    mapr := fun id l es h1 h2 => let ⟨a, b, en, cl, c, d, e⟩ := h.mapr id l es h1 h2; ⟨a, b, en, cl, c, d, fun j hj => ⟨hv (e j hj).1, hv (e j hj).2⟩⟩
    lt := h.lt
    imme := h.imme
    glob := fun k cs h1 => hv (h.glob k cs h1) }
theorem Ext.drawn (G : Gh) (H : Heap) (w : World) (n : Nat) : Ext G H w G H { w with drawn := n } where
  loc := fun _ _ h => h
  imm := fun _ _ h => ⟨h, rfl⟩
  size := Nat.le_refl _
  frame := fun _ _ _ => rfl
  blks := fun id l h hl => .inr ⟨id, l, h, hl, rfl⟩
  immn := fun _ _ h => .inl h
  next := Nat.le_refl _
  news := fun _ _ h h' => by rw [h] at h'; cases h'
  dead := fun _ _ _ h => h
  same := ⟨rfl, rfl⟩
section
variable {P : Program} {g : Genv} {mu : Bool} {ops : Array Oper} {rl : List ROper} {pairs : List (Nat × Nat)} {anc : Nat → Nat → Bool} {s0 : List AV} {H0 : Heap} {Hs : Nat → Heap} {ss : Nat → List AV} {vs : Nat → AV}
variable {G0 : Gh} {w0 : World} {dl : List Deferred} {listed : Array Bool} {p : Nat} {G : Gh} {HS : Heap} {w : World} {a : Act} {sS : List AV}
/-- an operation without an effect and without an object of its own: the world is as it was, but for what the model itself makes -/
theorem DInv.quiet (I : DInv P g ops rl pairs anc s0 H0 Hs ss vs G0 w0 dl listed p G HS w a sS) (D : DrawRun P g rl pairs s0 H0 Hs ss vs) (K : DrawOK ops rl pairs anc)
    {j : Nat} {r : ROper} (hj : Rdy ops listed j) (hr : rl[j]? = some r) (he : r.op.eff = false) (hf : r.op.fresh = true → wantedA (ss j) r = false) {G' : Gh} {w' : World} {u : Value}
    (hw : WR g G' HS w') (e : Ext G HS w G' HS w') (hv : VR G' w' (vs j) u) :
    DInv P g ops rl pairs anc s0 H0 Hs ss vs G0 w0 dl (listed.setIfInBounds j true) p G' HS w' (a.put r.dst u) (putA sS r.dst (vs j)) := by
  have hback : ∀ id l, G'.loc id = some l → G.loc id = some l := fun id l hl => by
    cases h : G.loc id with
    | none =>
      have h1 := e.news id l hl h
      have h2 := hw.lt id l hl
      omega
    | some l' => rw [e.loc id l' h] at hl; exact hl
  refine I.next K hj hr (p' := p) (by simp [he]) hw I.nxt (fun i r' h1 h2 h3 => ?_) (fun id l hl => ?_) (fun i r' h1 h2 h3 h4 h5 l hl id' l' hne hl' hv' => ?_) (I.ext.trans e) hv (I.temps.ext e)
  · obtain ⟨l, hl⟩ := h3
    have := I.domS i r' h1 h2 ⟨l, hback _ _ hl⟩
    exact ⟨.inr this.1, this.2⟩
  · rcases I.cont id l (hback _ _ hl) with ⟨i, ri, q1, q2, q3, q4⟩ | h
    · exact .inl ⟨i, ri, q1, q2, .inr q3, q4⟩
    · exact .inr h
  · rcases h4 with rfl | h4
    · rw [hr] at h2
      cases h2
      rw [hf h3] at h5
      cases h5
    · exact I.excl i r' h1 h2 h3 h4 h5 l (hback _ _ hl) id' l' hne (hback _ _ hl') hv'
/-- an operation that makes an object -/
theorem DInv.fresh (I : DInv P g ops rl pairs anc s0 H0 Hs ss vs G0 w0 dl listed p G HS w a sS) (D : DrawRun P g rl pairs s0 H0 Hs ss vs) (K : DrawOK ops rl pairs anc)
    {j : Nat} {r : ROper} (hj : Rdy ops listed j) (hr : rl[j]? = some r) (hf : r.op.fresh = true) (hwt : wantedA (ss j) r = true) {o : Oper} (hok : FopOK P g o r.op) :
    ∃ u w' G' HS', (execOp a.eval o).run P w = .ok (.value u) w' ∧
      DInv P g ops rl pairs anc s0 H0 Hs ss vs G0 w0 dl (listed.setIfInBounds j true) p G' HS' w' (a.put r.dst u) (putA sS r.dst (vs j)) := by
  have he := fresh_not_eff hf
  have hlt := (List.getElem?_eq_some_iff.1 hr).1
  obtain ⟨ob, val, f1, f2, f3⟩ := D.fresh_step hr hf hwt
  have f1' : fop (Arg.eval g sS) r.op = some (ob, val) := by
    rw [fop_congr (ev' := Arg.eval g (ss j)) (fun y hy => I.eval_eq K hj hr D y hy)]
    exact f1
  have hnone : G.loc (kept H0 rl j) = none := by
    cases h : G.loc (kept H0 rl j) with
    | none => rfl
    | some l =>
      have := (I.domS j r hr hf ⟨l, h⟩).1
      rw [hj.not] at this
      cases this
  have hsmall : kept H0 rl j < HS.next := by
    rw [I.nxt]
    exact I.kept_small D K hr hf I.ple
  obtain ⟨u, w', G', hrun, M, hv⟩ := hok sS a G HS (HS.set (kept H0 rl j) ob) w ob val (kept H0 rl j) I.rel I.temps f1' hnone (fun m => by rw [Heap.get_set]) (Nat.le_refl _) hsmall
  obtain ⟨l0, hblk, hl0, hloc⟩ := M.locs
  have hgo : ∀ id l, G.loc id = some l → G'.loc id = some l := fun id l hl => by
    rw [hloc id (fun hh => by rw [hh, hnone] at hl; cases hl)]
    exact hl
  have himm : ∀ b q, G.imm b q → G'.imm b q ∧ w'.cell? ⟨b, q, none⟩ = w.cell? ⟨b, q, none⟩ := fun b q hi => by
    refine ⟨M.immo b q hi, cell?_congr (M.old b ?_)⟩
    obtain ⟨v, hv⟩ := I.rel.imme b q hi
    have := cell?_lt hv
    simpa using this
  have hlive : ∀ {id}, id ≠ kept H0 rl j → (HS.set (kept H0 rl j) ob).live id → HS.live id := fun {id} hne ⟨x, h1, h2⟩ => ⟨x, by rw [Heap.get_set, if_neg hne] at h1; exact h1, h2⟩
  refine ⟨u, w', G', HS.set (kept H0 rl j) ob, hrun, ?_⟩
  refine I.next K hj hr (p' := p) (by simp [he]) M.rel I.nxt (fun i r' h1 h2 h3 => ?_) (fun id l hl => ?_) (fun i r' h1 h2 h3 h4 h5 l hl id' l' hne hl' hv' => ?_) (M.ext I.ext (Nat.le_add_right _ _)) ?_ ?_
  · obtain ⟨l, hl⟩ := h3
    by_cases hij : i = j
    · subst hij
      rw [hr] at h1
      cases h1
      exact ⟨.inl rfl, hwt⟩
    · rw [hloc _ (kept_ne h1 hr h2 hf hij)] at hl
      have := I.domS i r' h1 h2 ⟨l, hl⟩
      exact ⟨.inr this.1, this.2⟩
  · by_cases hid : id = kept H0 rl j
    · subst hid
      by_cases hpj : p ≤ j
      · exact .inl ⟨j, r, hr, hf, .inl rfl, hwt, hpj, rfl, by rw [f3, Heap.get_set, if_pos rfl, Heap.get_set, if_pos rfl]⟩
      · refine .inr ⟨fun i ri q1 q2 q3 q4 => kept_ne hr q2 hf q3 (by omega), ?_⟩
        have hjp : (Hs p).get (kept H0 rl j) = (Hs (j + 1)).get (kept H0 rl j) :=
          D.same_get (p := j + 1) (q := p) I.ple (fun e re q1 q2 q3 q4 q5 => by
            have hd := (I.pos e re q3 q4).2 q2
            exact D.stable j e ((K.cmp j e r re (by omega) hr q3 (I.not_anc D K hj hd)).2.2.2.1 q4 (.inr hf)) r re hr q3 hwt q5 _ (.inr ⟨hf, rfl⟩)) (fun k rk q1 q2 q3 q4 q5 => kept_ne hr q3 hf q4 (by omega)) p (by omega) (Nat.le_refl _)
        rw [hjp, f3, Heap.get_set, if_pos rfl, Heap.get_set, if_pos rfl]
    · rw [hloc id hid] at hl
      have hsame : (HS.set (kept H0 rl j) ob).get id = HS.get id := by rw [Heap.get_set, if_neg hid]
      rw [hsame]
      rcases I.cont id l hl with ⟨i, ri, q1, q2, q3, q4⟩ | h
      · exact .inl ⟨i, ri, q1, q2, .inr q3, q4⟩
      · exact .inr h
  · by_cases hij : i = j
    · subst hij
      rw [hl0] at hl
      cases hl
      rw [hloc id' hne] at hl'
      have := I.rel.blk_lt hl' (hlive hne hv')
      omega
    · have hki := kept_ne (H0 := H0) h2 hr h3 hf hij
      have hd : doneB listed i = true := by
        rcases h4 with h | h
        · exact absurd h hij
        · exact h
      rw [hloc _ hki] at hl
      by_cases hid : id' = kept H0 rl j
      · subst hid
        rw [hl0] at hl'
        cases hl'
        have hli : HS.live (kept H0 rl i) := by
          rcases I.cont _ l hl with ⟨i', ri', q1, q2, q3, q4, q5, q6, q7⟩ | ⟨q1, _⟩
          · have : i = i' := by
              refine Decidable.byContradiction fun hn => ?_
              exact kept_ne h2 q1 h3 q2 hn q6
            subst this
            obtain ⟨ob', val', g1, _, g3⟩ := D.fresh_step h2 h3 h5
            refine ⟨ob', ?_, fop_live g1⟩
            rw [q7, g3, Heap.get_set, if_pos rfl]
          · exact absurd rfl (q1 i r' h1 h2 h3 h5)
        have := I.rel.blk_lt hl hli
        omega
      · rw [hloc _ hid] at hl'
        exact I.excl i r' h1 h2 h3 hd h5 l hl id' l' hne hl' (hlive hid hv')
  · rw [f2]; exact hv
  · exact ⟨I.temps.1, fun t ht => (I.temps.2 t ht).mono hgo himm⟩
/-- all is done -/
theorem DInv.done (I : DInv P g ops rl pairs anc s0 H0 Hs ss vs G0 w0 dl listed p G HS w a sS) (D : DrawRun P g rl pairs s0 H0 Hs ss vs) (K : DrawOK ops rl pairs anc)
    (hall : ∀ i, i < rl.length → doneB listed i = true) {ds : List Dfr} (hd : DsR G0 w0 ds dl) {Q : AQ} (hQ : Q .normal (ss rl.length) ds (Hs rl.length)) : QR g G0 H0 w0 Q .normal a w := by
  have hno : ∀ e re, p ≤ e → e < rl.length → rl[e]? = some re → re.op.eff = false := fun e re h1 h2 h3 => by
    cases hee : re.op.eff with
    | false => rfl
    | true => have := (I.pos e re h3 hee).1 (hall e h2); omega
  have hget : ∀ id l, G.loc id = some l → (Hs rl.length).get id = HS.get id := fun id l hl => by
    rcases I.cont id l hl with ⟨i, ri, q1, q2, q3, q4, q5, q6, q7⟩ | ⟨q1, q2⟩
    · have hi := (List.getElem?_eq_some_iff.1 q1).1
      rw [q7]
      exact D.same_get (p := i + 1) (q := rl.length) (Nat.le_refl _) (fun e re c1 c2 c3 c4 c5 => by rw [hno e re (by omega) c2 c3] at c4; cases c4)
        (fun k rk c1 c2 c3 c4 c5 => by rw [q6]; exact kept_ne q1 c3 q2 c4 (by omega)) rl.length (by omega) (Nat.le_refl _)
    · rw [q2]
      exact D.same_get (p := p) (q := rl.length) (Nat.le_refl _) (fun e re c1 c2 c3 c4 c5 => by rw [hno e re (by omega) c2 c3] at c4; cases c4)
        (fun k rk c1 c2 c3 c4 c5 => q1 k rk c1 c3 c4 c5) rl.length I.ple (Nat.le_refl _)
  have hnx : HS.next ≤ (Hs rl.length).next := by
    rw [I.nxt]
    exact D.next_mono rl.length I.ple (Nat.le_refl _)
  have hs : sS = ss rl.length := by
    have hl1 := D.length_ss rl.length (Nat.le_refl _)
    refine List.ext_getElem? fun t => ?_
    by_cases ht : t < s0.length
    · have h1 := I.last t
      rw [lastv_congr (S' := fun _ => true) rl.length (fun i hi => by rw [hall i hi]), ← D.ss_lastv t rl.length (Nat.le_refl _)] at h1
      have e1 : t < sS.length := by rw [I.len]; exact ht
      have e2 : t < (ss rl.length).length := by rw [hl1]; exact ht
      rw [List.getElem?_eq_getElem e1, List.getElem?_eq_getElem e2]
      simpa [getD_eq, List.getElem?_eq_getElem e1, List.getElem?_eq_getElem e2] using h1
    · rw [List.getElem?_eq_none (by rw [I.len]; omega), List.getElem?_eq_none (by rw [hl1]; omega)]
  refine ⟨.normal, ss rl.length, ds, Hs rl.length, G, hQ, I.rel.heap_congr hget hnx, I.ext.heap_congr hget hnx, ?_, ?_, trivial⟩
  · rw [← hs]; exact I.temps
  · rw [I.dfr]; exact hd.ext I.ext
theorem ready_iff {i : Nat} (hs : listed.size = ops.size) : i ∈ Region.ready .any ops listed ↔ Rdy ops listed i := by
  have hget : ∀ k, k < ops.size → listed.getD k true = doneB listed k := fun k hk => by
    unfold doneB
    simp [Array.getD_eq_getD_getElem?, hs, hk]
  unfold Region.ready
  simp only [List.mem_filter, List.mem_range, Bool.and_eq_true, Bool.not_eq_true']
  constructor
  · rintro ⟨h1, h2, h3⟩
    refine ⟨h1, by rw [← hget i h1]; exact h2, fun o ho e he hb => ?_⟩
    rw [ho] at h3
    simp only [Option.map_some, Option.getD_some] at h3
    have h4 : (!Region.binds .any e || listed.getD e.on false) = true := by
      rw [Array.all_eq_true_iff_forall_mem] at h3
      exact h3 e he
    rw [hb] at h4
    simpa [doneB] using h4
  · rintro ⟨h1, h2, h3⟩
    refine ⟨h1, by rw [hget i h1]; exact h2, ?_⟩
    obtain ⟨o, ho⟩ : ∃ o, ops[i]? = some o := ⟨ops[i], by simp [h1]⟩
    rw [ho]
    simp only [Option.map_some, Option.getD_some]
    rw [Array.all_eq_true_iff_forall_mem]
    intro e he
    cases hb : Region.binds .any e with
    | false => rfl
    | true =>
      have := h3 o ho e he hb
      simpa [doneB] using this
/-- where no operation may be next, all is done -/
theorem none_ready (hs : listed.size = ops.size) (K : DrawOK ops rl pairs anc) (h : Region.ready .any ops listed = []) : ∀ i, i < ops.size → doneB listed i = true := by
  intro i
  induction i using Nat.strongRecOn with
  | _ i ih =>
    intro hi
    cases hd : doneB listed i with
    | true => rfl
    | false =>
      have : i ∈ Region.ready .any ops listed := (ready_iff hs).2 ⟨hi, hd, fun o ho e he hb => by
        have h1 := K.edges i o ho e he hb
        exact ih e.on h1 (by omega)⟩
      rw [h] at this
      cases this
def todo (listed : Array Bool) (n : Nat) : Nat := (List.range n).countP fun i => !doneB listed i
theorem countP_lt_of {p q : Nat → Bool} : ∀ (l : List Nat) (j : Nat), j ∈ l → (∀ i ∈ l, q i = true → p i = true) → p j = true → q j = false → l.countP q < l.countP p
  | [], j, h, _, _, _ => by cases h
  | x :: l, j, h, hpq, hp, hq => by
    have hle : l.countP q ≤ l.countP p := List.countP_mono_left fun i hi => hpq i (List.mem_cons_of_mem _ hi)
    rw [List.countP_cons, List.countP_cons]
    rcases List.mem_cons.1 h with rfl | h
    · simp only [hp, hq, if_true]
      simp
      omega
    · have := countP_lt_of l j h (fun i hi => hpq i (List.mem_cons_of_mem _ hi)) hp hq
      have h2 : (if q x = true then 1 else 0) ≤ (if p x = true then 1 else 0) := by
        by_cases hqx : q x = true
        · simp [hqx, hpq x List.mem_cons_self hqx]
        · simp [hqx]
      omega
theorem todo_set {j n : Nat} (hj : doneB listed j = false) (hlt : j < n) (hs : listed.size = n) : todo (listed.setIfInBounds j true) n < todo listed n := by
  have hset : ∀ i, doneB (listed.setIfInBounds j true) i = if i = j then true else doneB listed i := fun i => by
    unfold doneB
    rw [Array.getD_eq_getD_getElem?, Array.getD_eq_getD_getElem?, Array.getElem?_setIfInBounds]
    by_cases h : j = i
    · subst h
      simp [hs, hlt]
    · rw [if_neg h, if_neg (Ne.symm h)]
  refine countP_lt_of _ j (List.mem_range.2 hlt) (fun i _ h => ?_) (by simp [hj]) (by simp [hset])
  rw [hset] at h
  by_cases hij : i = j
  · rw [hij, hj]; rfl
  · rw [if_neg hij] at h; exact h
/-- every order from here on -/
theorem draw_steps (hc : copers P g mu ops ops.toList = some rl) (D : DrawRun P g rl pairs s0 H0 Hs ss vs) (K : DrawOK ops rl pairs anc) (hlt0 : ∀ id l, G0.loc id = some l → id < H0.next)
    {ds : List Dfr} (hd : DsR G0 w0 ds dl) {Q : AQ} (hQ : Q .normal (ss rl.length) ds (Hs rl.length)) :
    ∀ (fuel : Nat) (listed : Array Bool) (p : Nat) (G : Gh) (HS : Heap) (w : World) (a : Act) (sS : List AV), todo listed rl.length ≤ fuel →
      DInv P g ops rl pairs anc s0 H0 Hs ss vs G0 w0 dl listed p G HS w a sS → wpAny P .any ops (QR g G0 H0 w0 Q) fuel listed a w := by
  obtain ⟨hlen, hget⟩ := copers_get _ _ hc
  have hsz : rl.length = ops.size := by simpa using hlen
  intro fuel
  induction fuel with
  | zero =>
    intro listed p G HS w a sS ht I
    have hall : ∀ i, i < rl.length → doneB listed i = true := fun i hi => by
      have h0 : todo listed rl.length = 0 := by omega
      unfold todo at h0
      rw [List.countP_eq_zero] at h0
      have := h0 i (List.mem_range.2 hi)
      simpa using this
    refine ⟨?_, I.done D K hall hd hQ⟩
    refine List.eq_nil_iff_forall_not_mem.2 fun i hi => ?_
    have := (ready_iff (by rw [I.size, hsz])).1 hi
    have h2 := hall i (by rw [hsz]; exact this.lt)
    rw [this.not] at h2
    cases h2
  | succ fuel ih =>
    intro listed p G HS w a sS ht I
    have hsize : listed.size = ops.size := by rw [I.size, hsz]
    refine ⟨fun hn => I.done D K (fun i hi => none_ready hsize K hn i (by omega)) hd hQ, fun j hjr => ?_⟩
    have hj := (ready_iff hsize).1 hjr
    obtain ⟨o, ho⟩ : ∃ o, ops[j]? = some o := ⟨ops[j]'hj.lt, by simp [hj.lt]⟩
    obtain ⟨r, hr, hco⟩ := hget j o (by simpa using ho)
    obtain ⟨hdst, hcop, _⟩ := coper_some hco
    have hjl : j < rl.length := by rw [hsz]; exact hj.lt
    have htodo : todo (listed.setIfInBounds j true) rl.length ≤ fuel := by
      have := todo_set (n := rl.length) hj.not hjl I.size
      omega
    have hwant := wanted_rel hco I.temps
    rw [I.wanted_eq K hj hr D] at hwant
    have hstep := (D.step j r hr).1
    unfold wpOp
    simp only [ho]
    rw [hwant]
    unfold DStep at hstep
    by_cases hwa : wantedA (ss j) r = true
    · rw [if_pos hwa] at hstep ⊢
      refine .inl ?_
      by_cases hf : r.op.fresh = true
      · obtain ⟨u, w', G', HS', hrun, I'⟩ := I.fresh D K hj hr hf hwa (cop_fok hcop hf)
        unfold Oper.wp Oper.upon
        rw [hrun]
        rw [hdst] at I'
        exact ih _ _ _ _ _ _ _ htodo I'
      · rw [if_neg hf] at hstep
        have hf' : r.op.fresh = false := by simpa using hf
        split at hstep
        · rename_i f as hop
          obtain ⟨q, hq, hS⟩ := hstep
          have he : r.op.eff = true := by rw [hop]; rfl
          have hev := I.eval_eq K hj hr D
          rw [hop] at hcop hev
          obtain ⟨c, f0, e1, e2, e3, e4⟩ := cop_call hcop
          have hfe : f.eval g sS = f.eval g (ss j) := hev f (by simp [ROp.args])
          have hae : as.map (Arg.eval g sS) = as.map (Arg.eval g (ss j)) := List.map_congr_left fun y hy => hev y (by simp [ROp.args, hy])
          refine wp_call (p := q) e1 e2 e3 e4 (I.rel_at D K hj hr he) I.temps (by rw [hfe]; exact hq) (by rw [hae]; exact hS) (fun v hv u w' G' hw' hee hvu => ?_) (fun v hv => by cases hv)
          cases hv
          obtain ⟨HS1, I'⟩ := I.after_eff D K hlt0 hj hr he hw' hee hvu
          rw [hdst] at I'
          exact ih _ _ _ _ _ _ _ htodo I'
        · exact hstep.elim
        · exact hstep.elim
        · rename_i n1 n2 n3
          have hpl : r.op.plain = true := by
            cases hrop : r.op <;> first | rfl | exact absurd hrop (n1 _ _) | exact absurd hrop (n2 _) | exact absurd hrop (n3 _ _)
          have hst' : aop (Arg.eval g sS) (Hs j) r.op = some (vs j, Hs (j + 1)) := by
            rw [aop_congr (Hs j) (ev' := Arg.eval g (ss j)) (fun y hy => I.eval_eq K hj hr D y hy)]
            exact hstep
          by_cases he : r.op.eff = true
          · refine wp_plain (cop_ok hcop hpl) (I.rel_at D K hj hr he) I.temps hst' (fun u w' G' hw' hee hvu => ?_)
            obtain ⟨HS1, I'⟩ := I.after_eff D K hlt0 hj hr he hw' hee hvu
            rw [hdst] at I'
            exact ih _ _ _ _ _ _ _ htodo I'
          · have he' : r.op.eff = false := by simpa using he
            have hq := aop_quiet (H1 := HS) he' hf' hst' (fun id hid => by
              have hid' : r.op.readsId (Arg.eval g (ss j)) = some id := by
                rw [← readsId_congr (ev := Arg.eval g sS) (fun y hy => I.eval_eq K hj hr D y hy)]
                exact hid
              obtain ⟨y, hy, hyi⟩ := readsId_arg hid
              have hloc : ∃ l, G.loc id = some l := by
                cases y with
                | tmp t => exact idOf_loc hyi (I.temps.getD t)
                | const v =>
                  have := K.lits j r hr (readsId_reads hid) v hy
                  rw [Arg.eval, this] at hyi
                  cases hyi
                | glob n =>
                  simp only [Arg.eval] at hyi
                  split at hyi <;> cases hyi
              obtain ⟨l, hl⟩ := hloc
              exact I.read_same D K hj hr hwa hid' hl (aop_reads_some hstep hid'))
            refine wp_plain (cop_ok hcop hpl) I.rel I.temps hq.2 (fun u w' G' hw' hee hvu => ?_)
            have I' := I.quiet D K hj hr he' (fun h => by rw [hf'] at h; cases h) hw' hee hvu
            rw [hdst] at I'
            exact ih _ _ _ _ _ _ _ htodo I'
    · rw [if_neg hwa] at hstep ⊢
      obtain ⟨hv, hH⟩ := hstep
      have hwa' : wantedA (ss j) r = false := by simpa using hwa
      by_cases he : r.op.eff = true
      · have hrel := I.rel_at D K hj hr he
        obtain ⟨HS1, I'⟩ := I.after_eff D K hlt0 hj hr he (G1 := G) (w1 := w) (u := undef) (by rw [hH]; exact hrel) (by rw [hH]; exact Ext.refl G (Hs j) w) (by rw [hv]; exact VR.undefV G w)
        rw [hdst] at I'
        exact ih _ _ _ _ _ _ _ htodo I'
      · have I' := I.quiet D K hj hr (by simpa using he) (fun _ => hwa') (u := undef) I.rel (Ext.refl G HS w) (by rw [hv]; exact VR.undefV G w)
        rw [hdst] at I'
        exact ih _ _ _ _ _ _ _ htodo I'
/-- a region that draws its order -/
theorem draw_sound {id : Nat} (hm : P.follows .mixedOrders = true) (hc : copers P g mu ops ops.toList = some rl) (D : DrawRun P g rl pairs s0 H0 Hs ss vs) (K : DrawOK ops rl pairs anc)
    (hw : WR g G0 H0 w0) (hs : SR G0 w0 s0 a) {ds : List Dfr} (hd : DsR G0 w0 ds a.defers) {Q : AQ} (hQ : Q .normal (ss rl.length) ds (Hs rl.length)) :
    (Code.region id ops true).wp P (QR g G0 H0 w0 Q) a w0 := by
  refine wp_region_any hm ?_
  obtain ⟨hlen, hget⟩ := copers_get _ _ hc
  have hsz : rl.length = ops.size := by simpa using hlen
  have hH : ∀ id, (Hs 0).get id = H0.get id := fun id => by rw [D.h0]; rfl
  have hN : H0.next ≤ (Hs 0).next := by rw [D.h0]; exact Nat.le_add_right _ _
  have hdone : ∀ i, doneB (Array.replicate ops.size false) i = false := fun i => by
    unfold doneB
    rw [Array.getD_eq_getD_getElem?, Array.getElem?_replicate]
    split <;> rfl
  have hkept : ∀ i r, rl[i]? = some r → ∀ l, G0.loc (kept H0 rl i) = some l → False := fun i r hr l hl => by
    have := hw.lt _ _ hl
    unfold kept at this
    omega
  have hd' : DsR G0 w0 ds a.defers := hd
  refine draw_steps (pairs := pairs) (anc := anc) (G0 := G0) (w0 := w0) (dl := a.defers) hc D K hw.lt hd hQ ops.size (Array.replicate ops.size false) 0 G0 (Hs 0) { w0 with drawn := w0.drawn + 1 } a s0 ?_ ?_
  · unfold todo
    refine Nat.le_trans List.countP_le_length ?_
    simp [hsz]
  · exact {
      size := by simp [hsz]
      closed := fun i j h => by rw [hdone] at h; cases h
      ple := Nat.zero_le _
      pos := fun i r h1 h2 => by rw [hdone]; simp
      rel := (hw.drawn _).heap_congr (fun id l _ => hH id) hN
      nxt := rfl
      domS := fun i r h1 h2 ⟨l, h3⟩ => (hkept i r h1 l h3).elim
      cont := fun id l hl => .inr ⟨fun i r h1 h2 h3 h4 he => by rw [he] at hl; exact hkept i r h2 l hl, rfl⟩
      excl := fun i r h1 h2 h3 h4 => by rw [hdone] at h4; cases h4
      ext := (Ext.drawn G0 H0 w0 _).heap_congr (fun id l _ => hH id) hN
      temps := hs.ext (Ext.drawn G0 H0 w0 _)
      last := fun t => by
        have : ∀ m, lastv (doneB (Array.replicate ops.size false)) rl s0 vs t m = s0.getD t undefA := fun m => by
          induction m with
          | zero => rfl
          | succ m ih => simp only [lastv, hdone, Bool.false_and, Bool.false_eq_true, if_false, ih]
        rw [this]
      len := rfl
      dfr := rfl }
end
end Go.Av
end
