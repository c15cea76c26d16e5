/-
  FROM A READING OF THE ARGUMENTS TO ABSTRACT VALUES.
  A WORLD NOT YET CALLED IN: all its cells stay. SLICES OF NUMBERS.
  THE ROW: from the arguments' readings to the function's contract, and back.
  THE ROW, PROVED.
-/
import Derived.Test.YtfdaiidepcbemaaDoorA11
import Derived.Test.YtfdaiidepcbemaaDoorA43
import Derived.ProofKit
import Derived.OpenShut
import Derived.Deep.Slices
import Derived.Test.YtfdaiidepcbemaaDoorRows
import Derived.LaidMore
import Derived.LaidLaws
import Derived.MakeChecks
set_option linter.unusedVariables false
set_option linter.unusedSimpArgs false
set_option linter.unusedSectionVars false
section
namespace Go.Av
open Go Go.RowKit
/-! ### a type laid out cell by cell: numbers and slices -/
def flatFs (P : Program) (fl : TypeId → Option (List TypeId)) : List Field → List TypeId → Option (List TypeId)
  | [], acc => some acc
  | f :: r, acc => match fl f.type with
    | some ts => if f.offset = acc.length ∧ P.cellsOf f.type = ts.length then flatFs P fl r (acc ++ ts) else none
    | none => none
def flatT (P : Program) : Nat → TypeId → Option (List TypeId)
  | 0, _ => none
  | d + 1, t => match P.underlying t with
    | some (.struct fs) => match flatFs P (flatT P d) fs.toList [] with
      | some ts => if P.cellsOf t = ts.length then some ts else none
      | none => none
    | some (.array n e) => match flatT P d e with
      | some ts => if P.cellsOf e = ts.length ∧ P.cellsOf t = n * ts.length ∧ 0 < ts.length then some (List.replicate n ts).flatten else none
      | none => none
    | some (.int _) => some [t]
    | some (.slice _) => some [t]
    | _ => none
section
variable {H : Type} {enc : TypeId × Value → H} {P : Program} {w : World} {base : Nat} {spare : Nat → Bool} {held : Bool}
/-- every cell reads as its type says -/
def ReadAs (enc : TypeId × Value → H) (P : Program) (w : World) (base : Nat) (spare : Nat → Bool) (held : Bool) (ts : List TypeId) (cs : List Value) : Prop :=
  ∀ (i : Nat) (u : TypeId), ts[i]? = some u → ∃ (v : Value) (m : Nat) (y : DataW H × List MemPlace), cs[i]? = some v ∧ DataW.trod enc P w base spare held m u [v] = some y
theorem readAs_append {ts us : List TypeId} {cs : List Value} (h1 : ReadAs enc P w base spare held ts cs) (h2 : ReadAs enc P w base spare held us (cs.drop ts.length)) : ReadAs enc P w base spare held (ts ++ us) cs := by
  intro i u h
  by_cases hi : i < ts.length
  · rw [List.getElem?_append_left hi] at h
    exact h1 i u h
  · rw [List.getElem?_append_right (by omega)] at h
    obtain ⟨v, m, y, hv, hy⟩ := h2 _ u h
    refine ⟨v, m, y, ?_, hy⟩
    rw [List.getElem?_drop] at hv
    rw [← hv]
    congr 1
    omega
theorem readAs_take {ts : List TypeId} {cs : List Value} (n : Nat) (h : ReadAs enc P w base spare held ts (cs.take n)) : ReadAs enc P w base spare held ts cs := by
  intro i u hu
  obtain ⟨v, m, y, hv, hy⟩ := h i u hu
  refine ⟨v, m, y, ?_, hy⟩
  rw [List.getElem?_take] at hv
  split at hv
  · exact hv
  · cases hv
theorem readAs_fields {fl : TypeId → Option (List TypeId)} {n : Nat} {cs : List Value}
    (hfl : ∀ (u : TypeId) (ts : List TypeId) (cs : List Value) (x : DataW H × List MemPlace), fl u = some ts → DataW.trod enc P w base spare held n u cs = some x → ReadAs enc P w base spare held ts cs) :
    ∀ (fs : List Field) (acc ts : List TypeId), flatFs P fl fs acc = some ts → ReadAs enc P w base spare held acc cs →
      (∀ f ∈ fs, ∃ x, DataW.trod enc P w base spare held n f.type ((cs.drop f.offset).take (P.cellsOf f.type)) = some x) → ReadAs enc P w base spare held ts cs
  | [], acc, ts, h, ha, hf => by
    obtain rfl := Option.some.inj h
    exact ha
  | f :: r, acc, ts, h, ha, hf => by
    unfold flatFs at h
    split at h
    · rename_i us hus
      split at h
      · rename_i hc
        obtain ⟨x, hx⟩ := hf f (List.mem_cons_self ..)
        refine readAs_fields hfl r _ ts h (readAs_append ha ?_) (fun g hg => hf g (List.mem_cons_of_mem _ hg))
        rw [← hc.1]
        exact readAs_take _ (hfl _ _ _ _ hus hx)
      · cases h
    · cases h
theorem readAs_rep {e : TypeId} {n : Nat} {ts : List TypeId} : ∀ (k : Nat) (cs : List Value), (∀ i, i < k → ReadAs enc P w base spare held ts ((cs.drop (i * ts.length)).take ts.length)) → ReadAs enc P w base spare held (List.replicate k ts).flatten cs
  | 0, cs, h => by intro i u hu; simp at hu
  | k + 1, cs, h => by
    rw [List.replicate_succ, List.flatten_cons]
    refine readAs_append ?_ ?_
    · have := h 0 (by omega)
      rw [Nat.zero_mul, List.drop_zero] at this
      exact readAs_take _ this
    · refine readAs_rep (e := e) (n := n) k _ fun i hi => ?_
      have := h (i + 1) (by omega)
      rw [List.drop_drop]
      rw [show ts.length + i * ts.length = (i + 1) * ts.length by rw [Nat.add_mul, Nat.one_mul, Nat.add_comm]]
      exact this
theorem trod_flat : ∀ (d : Nat) {t : TypeId} {ts : List TypeId} {fuel : Nat} {cs : List Value} {x : DataW H × List MemPlace}, flatT P d t = some ts → DataW.trod enc P w base spare held fuel t cs = some x → ReadAs enc P w base spare held ts cs
  | 0, t, ts, fuel, cs, x, h, hx => by cases h
  | d + 1, t, ts, fuel, cs, x, h, hx => by
    unfold flatT at h
    split at h
    · rename_i fs ht
      split at h
      · rename_i us hus
        split at h
        · obtain rfl := Option.some.inj h
          obtain ⟨xs, n, _, _, hl, hxl, hf⟩ := DataW.trod_struct ht hx
          refine readAs_fields (n := n) (fun u ts cs x h1 h2 => trod_flat d h1 h2) fs.toList [] us hus (fun i u hu => by simp at hu) fun f hfm => ?_
          obtain ⟨i, hi, hif⟩ := List.getElem_of_mem hfm
          have := hf i f (by rw [← hif]; simp)
          rw [this]
          have hi' : i < xs.length := by rw [hxl]; simpa using hi
          exact ⟨_, List.getElem?_eq_getElem hi'⟩
        · cases h
      · cases h
    · rename_i n e ht
      split at h
      · rename_i us hus
        split at h
        · rename_i hc
          obtain rfl := Option.some.inj h
          obtain ⟨xs, m, _, _, hl, hxl, hf⟩ := DataW.trod_array ht hx
          refine readAs_rep (e := e) (n := m) n cs fun i hi => ?_
          have := hf i hi
          rw [hc.1, List.getElem?_eq_getElem (by omega)] at this
          exact trod_flat d hus this
        · cases h
      · cases h
    · rename_i k ht
      obtain rfl := Option.some.inj h
      obtain ⟨n, rfl, _⟩ := DataW.trod_int ht hx
      intro i u hu
      match i, hu with
      | 0, hu => exact ⟨_, fuel, x, rfl, by simpa [← Option.some.inj hu] using hx⟩
    · rename_i e ht
      obtain rfl := Option.some.inj h
      have hc : ∃ c, cs = [c] := by
        rcases DataW.trod_slice ht hx with ⟨h, _⟩ | ⟨a, len, cap, _, _, _, _, h, _⟩
        · exact ⟨_, h⟩
        · exact ⟨_, h⟩
      obtain ⟨c, rfl⟩ := hc
      intro i u hu
      match i, hu with
      | 0, hu => exact ⟨_, fuel, x, rfl, by simpa [← Option.some.inj hu] using hx⟩
    · cases h
theorem readAs_int {ts : List TypeId} {cs : List Value} (h : ReadAs enc P w base spare held ts cs) {i : Nat} {u : TypeId} {k : IntKind} (hu : ts[i]? = some u) (hk : P.underlying u = some (.int k)) :
    ∃ n, cs[i]? = some (.int k n) ∧ (Lit.int k n).wf = true := by
  obtain ⟨v, m, y, hv, hy⟩ := h i u hu
  obtain ⟨n, hn, _, hw⟩ := DataW.trod_int hk hy
  refine ⟨n, ?_, hw⟩
  rw [hv]
  simpa using hn
end
end Go.Av
end
section
namespace Go.Av
open Go Go.RowKit Go.ChangeShapes Go.WideShapes Go.ChangeAt Go.Deep
/-- all that is there stays as it is -/
def fullG (W : World) : Gh := ⟨fun _ => none, fun b o => ∃ v, W.cell? ⟨b, o, none⟩ = some v⟩
theorem fullWR {g : Genv} {W : World} (hg : ∀ n cs, g n = some cs → VR (fullG W) W (.pl cs) (.pointer (some ⟨n, 0, none⟩))) : WR g (fullG W) ⟨0, .nil⟩ W where
  cells := fun id l cs opn h => by cases h
  room := fun id l h => by cases h
  disj := fun id id' l l' _ h => by cases h
  immd := fun id l h => by cases h
  mapr := fun id l es h => by cases h
  lt := fun id l h => by cases h
  imme := fun b o h => h
  glob := hg
theorem full_old {W W' : World} {G' : Gh} {H' : Heap} (h : Ext (fullG W) ⟨0, .nil⟩ W G' H' W') {b : Nat} (hb : b < W.heap.size) : W'.heap[b]? = W.heap[b]? :=
  h.frame b hb fun id l hl => by cases hl
theorem vr_row {W : World} {k : IntKind} {sz len cap b o : Nat} {f : Nat → Int} {els : List (List AV)} (hu : ∀ e ∈ els, e.length = sz) (hl : els.length = len)
    (hf : els.flatten = (List.range (len * sz)).map fun j => AV.int k (f j)) (hc : ∀ j, j < len * sz → W.cell? ⟨b, o + j, none⟩ = some (.int k (f j))) (hcap : len ≤ cap) :
    VR (fullG W) W (.lst 0 sz els) (.slice (some ⟨b, o, none⟩) len cap) := by
  subst hl
  have hfl : els.flatten.length = els.length * sz := by rw [hf]; simp
  have hg : ∀ j, j < els.length * sz → els.flatten.getD j undefA = .int k (f j) := fun j hj => by
    rw [hf, List.getD, List.getElem?_map, List.getElem?_range hj]
    rfl
  refine .lst 0 sz els b o cap (fun j => .int k (f j)) hu (fun j hj => ?_) (fun j hj => ?_) ⟨hcap, trivial⟩
  · rw [hfl] at hj
    refine ⟨⟨_, hc j hj⟩, hc j hj, ?_⟩
    rw [hg j hj]
    rfl
  · rw [hfl] at hj
    rw [hg j hj]
    exact .int _ _
section
variable {H : Type} {enc : TypeId × Value → H} {P : Program} {w : World} {base : Nat} {spare : Nat → Bool} {held : Bool}
/-- a slice whose elements are numbers, cell by cell -/
theorem open_numbers {t e : TypeId} {k : IntKind} {d : Nat} {ts : List TypeId} {fuel : Nat} {cs : List Value} {x : DataW H × List MemPlace} (ht : P.underlying t = some (.slice e)) (hf : flatT P d e = some ts)
    (hk : ∀ u ∈ ts, P.underlying u = some (.int k)) (hsz : P.cellsOf e = ts.length) (h : DataW.trod enc P w base spare held fuel t cs = some x) :
    cs = [.slice none 0 0] ∨ ∃ (a : Addr) (len cap : Nat) (f : Nat → Int), cs = [.slice (some a) len cap] ∧ len ≤ cap ∧ cap ≤ maxLen ∧
      ∀ j, j < len * ts.length → w.cell? (a.add j) = some (.int k (f j)) ∧ (Lit.int k (f j)).wf = true := by
  rcases open_slice ht h with ⟨h0, _⟩ | ⟨a, len, cap, m, n, D, Pl, rfl, hb, hl, hm, hmm, rfl, hx⟩
  · exact .inl h0
  right
  have hlm : len ≤ m := by rw [hmm]; split <;> omega
  obtain ⟨f, hfn⟩ := choose_lt (α := Int) (n := len * ts.length) (p := fun j r => w.cell? (a.add j) = some (.int k r) ∧ (Lit.int k r).wf = true) (fun j hj => by
    have h0 : 0 < ts.length := by
      rcases Nat.eq_zero_or_pos ts.length with h | h
      · rw [h, Nat.mul_zero] at hj; omega
      · exact h
    have hi : j / ts.length < len := Nat.div_lt_of_lt_mul (by rwa [Nat.mul_comm])
    have hr : j % ts.length < ts.length := Nat.mod_lt _ h0
    obtain ⟨cs', h1, h2⟩ := hx (j / ts.length) (by omega)
    rw [hsz] at h1
    obtain ⟨_, hlen, hcell⟩ := World.cells?_some h1
    have hra := trod_flat d hf h2
    obtain ⟨r, hr1, hr2⟩ := readAs_int hra (i := j % ts.length) (u := ts[j % ts.length]) (List.getElem?_eq_getElem hr) (hk _ (List.getElem_mem hr))
    refine ⟨r, ?_, hr2⟩
    rw [← hr1, ← hcell _ hr, add_add, Nat.mul_comm, Nat.div_add_mod])
  exact ⟨a, len, cap, f, rfl, hl, hm, hfn⟩
end
theorem range_rows {α : Type} (f : Nat → α) (sz : Nat) : ∀ len : Nat, ((List.range len).map fun i => (List.range sz).map fun r => f (i * sz + r)).flatten = (List.range (len * sz)).map f
  | 0 => by simp
  | len + 1 => by
    rw [List.range_succ, List.map_append, List.flatten_append, range_rows f sz len, Nat.add_mul, Nat.one_mul, List.range_add, List.map_append, List.map_map]
    simp
/-- what a place in the world is, behind a call -/
theorem frozen_old {W W' : World} {G' : Gh} {H' : Heap} (h : Ext (fullG W) ⟨0, .nil⟩ W G' H' W') (a : Addr) (ha : a.block < W.heap.size) : W'.frozen? a = W.frozen? a := by
  simp only [World.frozen?, full_old h ha]
theorem kept_old {W W' : World} {G' : Gh} {H' : Heap} (h : Ext (fullG W) ⟨0, .nil⟩ W G' H' W') (may : MemPlace → Prop) : W.keptBut W' may := by
  refine ⟨h.same.1, h.same.2, fun i hi => ?_⟩
  rw [full_old h hi]
  cases W.heap[i]? with
  | none => rfl
  | some o =>
    cases o with
    | cells c t fr => exact ⟨rfl, rfl, rfl, fun _ _ => rfl⟩
    | map es clock => exact .inr ⟨rfl, rfl⟩
    | _ => rfl
section
variable {H : Type} {enc : TypeId × Value → H} {P : Program}
theorem post_of_ext {f : Func} {s : ChangeSpec} {apart fresh handsOn again : Bool} {W W' : World} {args : Array Value} {v : Value} {ds gs : List (DataW H)} {before pa pv : List MemPlace} {G' : Gh} {H' : Heap}
    (hE : Ext (fullG W) ⟨0, .nil⟩ W G' H' W')
    (hW : DataW.Whole enc P f.params.toList s.vars apart W args.toList ds gs before)
    (hres : ∀ (b : Nat) (sp : Nat → Bool) (hd : Bool), DataW.TrodAll enc P W' b sp hd f.resultTypes.toList (v.resultList f.resultTypes.size) (s.fn H (ds ++ gs)).results [])
    (hargs : ∀ sp : Nat → Bool, (∀ p ∈ before, sp p.block = true) → DataW.TrodAll enc P W' 0 sp true f.params.toList args.toList (s.fn H (ds ++ gs)).args pa)
    (hvars : ∀ sp : Nat → Bool, (∀ p ∈ before, sp p.block = true) → DataW.TrodVars enc P W' sp s.vars (s.fn H (ds ++ gs)).vars pv)
    (hps : before = pa ++ pv)
    (hok : ∀ (j : Nat) (t : TypeId) (r : Value), f.resultTypes[j]? = some t → (v.resultList f.resultTypes.size)[j]? = some r → Value.okWide P W' .any 0 t r) :
    s.post enc P f apart fresh handsOn again W args v W' := by
  have hold : ∀ p ∈ before, (fun b => decide (b < W.heap.size)) p.block = true := fun p hp => by simpa using hW.lt p hp
  refine ⟨ds, gs, before, [], pa, pv, hW, hres _ _ _, hargs _ hold, hvars _ hold, kept_old hE _, fun _ => ?_⟩
  obtain ⟨_, _, _, _, _, hz, hn⟩ := id hW
  refine ⟨hok, _, _, ([] ++ pa) ++ pv, ⟨[] ++ pa, pv, trodAll_append (hargs _ (fun _ _ => rfl)) (hres _ _ _), hvars _ (fun _ _ => rfl), rfl, ?_, ?_⟩, ?_⟩
  · intro b off hp
    have hp' : MemPlace.cell b off ∈ before := by rw [hps]; simpa using hp
    rw [frozen_old hE _ (hW.lt _ hp')]
    exact hz b off hp'
  · intro ha
    have := hn ha
    rw [hps] at this
    simpa using this
  · intro p hp _
    rw [hps]
    simpa using hp
end
end Go.Av
end
section
namespace Go.Proofs.YtfdaiidepcbemaaDoor
open Go Go.Av Go.Av.Pr
open Go.ChangeShapes Go.WideShapes Go.ChangeAt Go.RowKit
theorem own : ownKnob Tryd.prog.godebug = none := by kernel_rfl
theorem laidOut : laidOutB Tryd.prog = true := by kernel_rfl
/-- the names of the two listed variables, as the row has them -/
def nmAt (i : Nat) : String := (Rows.logCodesAsSpecifiedRow.laid.map (·.1)).getD i default
theorem gRef : Tryd.prog.globalNamed (nmAt 0) = some 1 := by kernel_rfl
theorem gHash : Tryd.prog.globalNamed (nmAt 1) = some 0 := by kernel_rfl
theorem tHash : (Tryd.prog.globals[0]?).map (·.type) = some 146 := by kernel_rfl
theorem tRef : (Tryd.prog.globals[1]?).map (·.type) = some 146 := by kernel_rfl
def laid2 : List (String × DataW Unit) := [(nmAt 0, Rows.laid_skewback_skewbackref02_constants), (nmAt 1, Rows.laid_skewback_hash_constants)]
/-- a number of the abstract values as a reading -/
def asLit : AV → DataW Unit
  | .int k n => .lit (.int k n)
  | _ => .nil
theorem laidRef_is : Rows.laid_skewback_skewbackref02_constants = DataW.agg (roundC.map asLit) := by kernel_rfl
theorem laidHash_is : Rows.laid_skewback_hash_constants = DataW.agg (roundC.map asLit) := by kernel_rfl
theorem glob_of {W : World} {enc : TypeId × Value → Unit} {name : String} {g : Nat} {cs : Array Value} {base fuel : Nat} {sp : Nat → Bool} {hd : Bool} {p : List MemPlace} (hg : Tryd.prog.globalNamed name = some g) (hv : W.var? Tryd.prog name = some cs)
    (h : DataW.trod enc Tryd.prog W base sp hd fuel 146 cs.toList = some (DataW.agg (roundC.map asLit), p)) : VR (fullG W) W (.pl roundC) (.pointer (some ⟨g, 0, none⟩)) := by
  obtain ⟨xs, m, _, hx, hl, hxl, hel⟩ := DataW.trod_array Tryd.underlying146 h
  have c1 : Tryd.prog.cellsOf 110 = 1 := by kernel_rfl
  simp only [Prod.mk.injEq, DataW.agg.injEq] at hx
  have hr : roundC.length = 64 := by kernel_rfl
  have key : ∀ j, j < 64 → ∃ n, cs[j]? = some (.int .u32 n) ∧ roundC.getD j undefA = .int .u32 n := by
    intro j hj
    have h1 := hel j hj
    rw [c1, Nat.mul_one, List.getElem?_eq_getElem (by omega)] at h1
    obtain ⟨n, e1, e2, _⟩ := DataW.trod_int Tryd.underlying110 h1
    refine ⟨n, ?_, ?_⟩
    · have h3 : (((cs.toList.drop j).take 1))[0]? = some (.int .u32 n) := by rw [e1]; rfl
      rw [List.getElem?_take, if_pos (by decide), List.getElem?_drop] at h3
      simpa using h3
    · have h2 : (roundC.map asLit)[j]? = some (.lit (.int .u32 n)) := by
        rw [hx.1, List.getElem?_map, List.getElem?_eq_getElem (by omega), e2]
        rfl
      rw [List.getElem?_map] at h2
      rw [List.getD]
      cases hq : roundC[j]? with
      | none => rw [hq] at h2; cases h2
      | some a =>
        rw [hq] at h2
        simp only [Option.map_some, Option.some.injEq] at h2
        cases a <;> simp [asLit] at h2
        obtain ⟨rfl, rfl⟩ := h2
        rfl
  have cell : ∀ j, W.cell? ⟨g, 0 + j, none⟩ = cs[j]? := fun j => by rw [Nat.zero_add]; exact World.var?_cell hg hv j
  obtain ⟨f, hf⟩ := Go.Deep.choose_lt (α := Int) (n := 64) (p := fun j n => cs[j]? = some (.int .u32 n) ∧ roundC.getD j undefA = .int .u32 n) key
  refine .pl roundC g 0 (fun j => .int .u32 (f j)) (fun j hj => ?_) (fun j hj => ?_)
  · rw [hr] at hj
    have := hf j hj
    refine ⟨⟨_, (cell j).trans this.1⟩, (cell j).trans this.1, ?_⟩
    rw [this.2]
    rfl
  · rw [hr] at hj
    rw [(hf j hj).2]
    exact .int _ _
theorem laid_wr {W : World} (h : laidMetH Tryd.prog laid2 W) : WR gv (fullG W) ⟨0, .nil⟩ W := by
  rw [MakeChecks.laidMetH_plain _ _ _ (by kernel_rfl)] at h
  obtain ⟨ps, ⟨g0, t0, cs0, f0, p0, q0, hg0, ht0, hv0, hd0, ⟨g1, t1, cs1, f1, p1, q1, hg1, ht1, hv1, hd1, _, _⟩, _⟩, _, _⟩ := h
  obtain rfl := Option.some.inj (gRef.symm.trans hg0)
  obtain rfl := Option.some.inj (gHash.symm.trans hg1)
  obtain rfl := Option.some.inj (tRef.symm.trans ht0)
  obtain rfl := Option.some.inj (tHash.symm.trans ht1)
  rw [laidRef_is] at hd0
  rw [laidHash_is] at hd1
  refine fullWR fun n cs hn => ?_
  unfold gv at hn
  split at hn
  · obtain rfl := Option.some.inj hn
    exact glob_of hg1 hv1 hd1
  · obtain rfl := Option.some.inj hn
    exact glob_of hg0 hv0 hd0
  · cases hn
/-- the number of a cell -/
def ivV : Value → Int
  | .int _ n => n
  | _ => 0
theorem vr_i64 {G : Gh} {w : World} {cs : List Value} {i : Nat} (h : ∃ n, cs[i]? = some (.int .i64 n) ∧ (Lit.int .i64 n).wf = true) : VR G w (.int .i64 (ivV (cs.getD i undef))) (cs.getD i undef) := by
  obtain ⟨n, hn, _⟩ := h
  rw [List.getD, hn]
  exact .int _ _
theorem vr_u8 {G : Gh} {w : World} {cs : List Value} {i : Nat} (h : ∃ n, cs[i]? = some (.int .u8 n) ∧ (Lit.int .u8 n).wf = true) : VR G w (.int .u8 ((ivV (cs.getD i undef)).toNat : Nat)) (cs.getD i undef) := by
  obtain ⟨n, hn, hw⟩ := h
  have hb := bounds_u8 hw
  rw [List.getD, hn]
  have : (((ivV (Value.int .u8 n)).toNat : Nat) : Int) = n := by show ((n.toNat : Nat) : Int) = n; omega
  show VR G w (.int .u8 (((ivV (Value.int .u8 n)).toNat : Nat) : Int)) (.int .u8 n)
  rw [this]
  exact .int _ _
/-- the entry that a row of cells is -/
def entOf (cs : List Value) (mv : List (List Int)) : Ent where
  num := ivV (cs.getD 0 undef)
  kind := ivV (cs.getD 1 undef)
  op := ivV (cs.getD 2 undef)
  time := ivV (cs.getD 3 undef)
  halves := ivV (cs.getD 4 undef)
  moved := mv
  certs := (List.range 16).map fun j => (ivV (cs.getD (6 + j) undef)).toNat
  cause := ivV (cs.getD 22 undef)
  prev := (List.range 16).map fun j => (ivV (cs.getD (23 + j) undef)).toNat
def entTs : List TypeId := [3, 3, 3, 3, 3, 22, 5, 5, 5, 5, 5, 5, 5, 5, 5, 5, 5, 5, 5, 5, 5, 5, 25, 5, 5, 5, 5, 5, 5, 5, 5, 5, 5, 5, 5, 5, 5, 5, 5]
theorem flat27 : flatT Tryd.prog 8 27 = some entTs := by kernel_rfl
theorem flat68 : flatT Tryd.prog 8 68 = some (List.replicate 14 3) := by kernel_rfl
theorem flat5 : flatT Tryd.prog 8 5 = some [5] := by kernel_rfl
section
variable {H : Type} {enc : TypeId × Value → H} {W w : World} {base : Nat} {sp : Nat → Bool} {hd : Bool} {G : Gh}
theorem ent_vr {cs : List Value} (R : ReadAs enc Tryd.prog W base sp hd entTs cs) (hl : cs.length = 39) {mv : AV} {lm : List (List Int)} (hm : VR G w mv (cs.getD 5 undef)) (hone : mv.one = true) :
    VR G w (.agg (entC mv (entOf cs lm))) (.agg cs.toArray) := by
  have hlen : (entC mv (entOf cs lm)).length = 39 := rfl
  refine .agg _ cs (by rw [hlen, hl]) ?_ ?_
  · intro c hc
    simp only [entC, bytesC, List.mem_cons, List.mem_append, List.mem_map] at hc
    rcases hc with rfl | rfl | rfl | rfl | rfl | rfl | ⟨_, _, rfl⟩ | rfl | ⟨_, _, rfl⟩ <;> first | rfl | exact hone
  · intro j hj
    rw [hlen] at hj
    exact match j, hj with
    | 0, _ => vr_i64 (readAs_int R (i := 0) (u := 3) rfl Tryd.underlying3)
    | 1, _ => vr_i64 (readAs_int R (i := 1) (u := 3) rfl Tryd.underlying3)
    | 2, _ => vr_i64 (readAs_int R (i := 2) (u := 3) rfl Tryd.underlying3)
    | 3, _ => vr_i64 (readAs_int R (i := 3) (u := 3) rfl Tryd.underlying3)
    | 4, _ => vr_i64 (readAs_int R (i := 4) (u := 3) rfl Tryd.underlying3)
    | 5, _ => hm
    | 6, _ => vr_u8 (readAs_int R (i := 6) (u := 5) rfl Tryd.underlying5)
    | 7, _ => vr_u8 (readAs_int R (i := 7) (u := 5) rfl Tryd.underlying5)
    | 8, _ => vr_u8 (readAs_int R (i := 8) (u := 5) rfl Tryd.underlying5)
    | 9, _ => vr_u8 (readAs_int R (i := 9) (u := 5) rfl Tryd.underlying5)
    | 10, _ => vr_u8 (readAs_int R (i := 10) (u := 5) rfl Tryd.underlying5)
    | 11, _ => vr_u8 (readAs_int R (i := 11) (u := 5) rfl Tryd.underlying5)
    | 12, _ => vr_u8 (readAs_int R (i := 12) (u := 5) rfl Tryd.underlying5)
    | 13, _ => vr_u8 (readAs_int R (i := 13) (u := 5) rfl Tryd.underlying5)
    | 14, _ => vr_u8 (readAs_int R (i := 14) (u := 5) rfl Tryd.underlying5)
    | 15, _ => vr_u8 (readAs_int R (i := 15) (u := 5) rfl Tryd.underlying5)
    | 16, _ => vr_u8 (readAs_int R (i := 16) (u := 5) rfl Tryd.underlying5)
    | 17, _ => vr_u8 (readAs_int R (i := 17) (u := 5) rfl Tryd.underlying5)
    | 18, _ => vr_u8 (readAs_int R (i := 18) (u := 5) rfl Tryd.underlying5)
    | 19, _ => vr_u8 (readAs_int R (i := 19) (u := 5) rfl Tryd.underlying5)
    | 20, _ => vr_u8 (readAs_int R (i := 20) (u := 5) rfl Tryd.underlying5)
    | 21, _ => vr_u8 (readAs_int R (i := 21) (u := 5) rfl Tryd.underlying5)
    | 22, _ => vr_i64 (readAs_int R (i := 22) (u := 25) rfl Tryd.underlying25)
    | 23, _ => vr_u8 (readAs_int R (i := 23) (u := 5) rfl Tryd.underlying5)
    | 24, _ => vr_u8 (readAs_int R (i := 24) (u := 5) rfl Tryd.underlying5)
    | 25, _ => vr_u8 (readAs_int R (i := 25) (u := 5) rfl Tryd.underlying5)
    | 26, _ => vr_u8 (readAs_int R (i := 26) (u := 5) rfl Tryd.underlying5)
    | 27, _ => vr_u8 (readAs_int R (i := 27) (u := 5) rfl Tryd.underlying5)
    | 28, _ => vr_u8 (readAs_int R (i := 28) (u := 5) rfl Tryd.underlying5)
    | 29, _ => vr_u8 (readAs_int R (i := 29) (u := 5) rfl Tryd.underlying5)
    | 30, _ => vr_u8 (readAs_int R (i := 30) (u := 5) rfl Tryd.underlying5)
    | 31, _ => vr_u8 (readAs_int R (i := 31) (u := 5) rfl Tryd.underlying5)
    | 32, _ => vr_u8 (readAs_int R (i := 32) (u := 5) rfl Tryd.underlying5)
    | 33, _ => vr_u8 (readAs_int R (i := 33) (u := 5) rfl Tryd.underlying5)
    | 34, _ => vr_u8 (readAs_int R (i := 34) (u := 5) rfl Tryd.underlying5)
    | 35, _ => vr_u8 (readAs_int R (i := 35) (u := 5) rfl Tryd.underlying5)
    | 36, _ => vr_u8 (readAs_int R (i := 36) (u := 5) rfl Tryd.underlying5)
    | 37, _ => vr_u8 (readAs_int R (i := 37) (u := 5) rfl Tryd.underlying5)
    | 38, _ => vr_u8 (readAs_int R (i := 38) (u := 5) rfl Tryd.underlying5)
    | n + 39, h => absurd h (by omega)
theorem ent_nums {cs : List Value} (R : ReadAs enc Tryd.prog W base sp hd entTs cs) {lm : List (List Int)} (hm : lm.length < 2^63) : ∀ x ∈ (entOf cs lm).nums, I64 x := by
  have key : ∀ {i : Nat} {u : TypeId}, entTs[i]? = some u → Tryd.prog.underlying u = some (.int .i64) → I64 (ivV (cs.getD i undef)) := fun {i u} h1 h2 => by
    obtain ⟨n, hn, hw⟩ := readAs_int R h1 h2
    have hb := bounds_i64 hw
    rw [List.getD, hn]
    show I64 n
    exact ⟨by omega, by omega⟩
  intro x hx
  simp only [Ent.nums, entOf, List.mem_cons, List.not_mem_nil, or_false] at hx
  rcases hx with rfl | rfl | rfl | rfl | rfl | rfl | rfl
  · exact key (i := 0) rfl Tryd.underlying3
  · exact key (i := 1) rfl Tryd.underlying3
  · exact key (i := 2) rfl Tryd.underlying3
  · exact key (i := 3) rfl Tryd.underlying3
  · exact key (i := 4) rfl Tryd.underlying3
  · exact key (i := 22) rfl Tryd.underlying25
  · exact ⟨by omega, by omega⟩
theorem ent_bytes {cs : List Value} (R : ReadAs enc Tryd.prog W base sp hd entTs cs) {k : Nat} (hk : ∀ j, j < 16 → entTs[k + j]? = some 5) : Bytes ((List.range 16).map fun j => (ivV (cs.getD (k + j) undef)).toNat) := by
  intro x hx
  simp only [List.mem_map, List.mem_range] at hx
  obtain ⟨j, hj, rfl⟩ := hx
  obtain ⟨n, hn, hw⟩ := readAs_int R (hk j hj) Tryd.underlying5
  have hb := bounds_u8 hw
  rw [List.getD, hn]
  show n.toNat < 256
  omega
theorem addr_add (b o j : Nat) : (Addr.mk b o none).add j = ⟨b, o + j, none⟩ := by
  unfold Addr.add
  split
  · rename_i h; rw [h]; rfl
  · rfl
/-- a slice of moves -/
theorem open_moves {v : Value} {t : TypeId} {m : Nat} {y : DataW H × List MemPlace} (ht : Tryd.prog.underlying t = some (.slice 68)) (h : DataW.trod enc Tryd.prog W base sp hd m t [v] = some y) (hspot : ∀ a len cap, v = .slice (some a) len cap → a.spot = none) :
    ∃ (mv : AV) (lm : List (List Int)), IsMv mv lm ∧ lm.length < 2^63 ∧ (∀ m ∈ lm, m.length = 14 ∧ ∀ x ∈ m, I64 x) ∧ VR (fullG W) W mv v := by
  rcases open_numbers ht flat68 (fun u hu => by rw [List.eq_of_mem_replicate hu]; exact Tryd.underlying3) (by kernel_rfl) h with h0 | ⟨a, len, cap, f, h0, hlc, hcm, hf⟩
  · have h0' : v = .slice none 0 0 := by simpa using h0
    subst h0'
    exact ⟨.nilsl, [], .inl ⟨rfl, rfl⟩, by decide, by simp, .nilsl⟩
  · have h0' : v = .slice (some a) len cap := by simpa using h0
    subst h0'
    have hsp := hspot a len cap rfl
    obtain ⟨b, o, s⟩ := a
    simp only at hsp
    subst hsp
    rw [List.length_replicate] at hf
    have hcap : cap ≤ 2 ^ 63 - 1 := hcm
    refine ⟨.lst 0 14 (mvE ((List.range len).map fun i => (List.range 14).map fun r => f (i * 14 + r))), _, .inr rfl, ?_, ?_, ?_⟩
    · simp only [List.length_map, List.length_range]
      omega
    · intro m hm
      simp only [List.mem_map, List.mem_range] at hm
      obtain ⟨i, hi, rfl⟩ := hm
      refine ⟨by simp, fun x hx => ?_⟩
      simp only [List.mem_map, List.mem_range] at hx
      obtain ⟨r, hr, rfl⟩ := hx
      have hb := bounds_i64 (hf (i * 14 + r) (by omega)).2
      exact ⟨by omega, by omega⟩
    · refine vr_row (k := .i64) (f := f) ?_ (by simp [mvE]) ?_ (fun j hj => ?_) hlc
      · intro e he
        simp only [mvE, List.mem_map, List.mem_range] at he
        obtain ⟨l, ⟨i, _, rfl⟩, rfl⟩ := he
        simp [intsC]
      · rw [mvE, List.map_map]
        have := range_rows (fun j => AV.int .i64 (f j)) 14 len
        rw [← this]
        simp only [intsC, Function.comp_def, List.map_map]
      · refine Eq.trans ?_ (hf j hj).1
        rw [addr_add]
/-- a slice of bytes -/
theorem open_bytes {v : Value} {t : TypeId} {m : Nat} {y : DataW H × List MemPlace} (ht : Tryd.prog.underlying t = some (.slice 5)) (h : DataW.trod enc Tryd.prog W base sp hd m t [v] = some y) (hspot : ∀ a len cap, v = .slice (some a) len cap → a.spot = none) :
    ∃ (bv : AV) (b : List Nat), IsBv bv b ∧ Bytes b ∧ VR (fullG W) W bv v := by
  rcases open_numbers ht flat5 (fun u hu => by rw [List.mem_singleton.1 hu]; exact Tryd.underlying5) (by kernel_rfl) h with h0 | ⟨a, len, cap, f, h0, hlc, hcm, hf⟩
  · have h0' : v = .slice none 0 0 := by simpa using h0
    subst h0'
    exact ⟨.nilsl, [], .inl ⟨rfl, rfl⟩, by intro x hx; simp at hx, .nilsl⟩
  · have h0' : v = .slice (some a) len cap := by simpa using h0
    subst h0'
    have hsp := hspot a len cap rfl
    obtain ⟨b, o, s⟩ := a
    simp only at hsp
    subst hsp
    rw [List.length_singleton] at hf
    have hn : ∀ j, j < len → (((f j).toNat : Nat) : Int) = f j ∧ (f j).toNat < 256 := fun j hj => by
      have hb := bounds_u8 (hf j (by omega)).2
      omega
    refine ⟨.lst 0 1 (bytesE ((List.range len).map fun i => (f i).toNat)), _, .inr rfl, ?_, ?_⟩
    · intro x hx
      simp only [List.mem_map, List.mem_range] at hx
      obtain ⟨i, hi, rfl⟩ := hx
      exact (hn i hi).2
    · refine vr_row (k := .u8) (f := f) ?_ (by simp [bytesE]) ?_ (fun j hj => ?_) hlc
      · intro e he
        simp only [bytesE, List.mem_map] at he
        obtain ⟨x, _, rfl⟩ := he
        rfl
      · rw [bytesE, List.map_map, Nat.mul_one]
        have : ∀ l : List Nat, (∀ i ∈ l, i < len) → (l.map ((fun b => [AV.int .u8 ((b : Nat) : Int)]) ∘ fun i => (f i).toNat)).flatten = l.map fun j => AV.int .u8 (f j) := by
          intro l
          induction l with
          | nil => intro _; rfl
          | cons i l ih =>
            intro h
            rw [List.map_cons, List.flatten_cons, ih fun i hi => h i (by simp [hi])]
            show [AV.int .u8 (((f i).toNat : Nat) : Int)] ++ _ = _
            rw [(hn i (h i (by simp))).1]
            rfl
        exact this _ fun i hi => List.mem_range.1 hi
      · refine Eq.trans ?_ (hf j hj).1
        rw [addr_add]
end
end Go.Proofs.YtfdaiidepcbemaaDoor
end
section
set_option maxRecDepth 100000
namespace Go.Proofs.YtfdaiidepcbemaaDoor
open Go Go.Av Go.Av.Pr
open Go.ChangeShapes Go.WideShapes Go.ChangeAt Go.RowKit
/-- the variables' own run meets the condition -/
theorem door_met (os : Os) (args : Array Value) : laidMetH Tryd.prog laid2 ((World.doorLaid Tryd.prog 4000 os).forCall (fun _ _ => 0) ⟨#[], args, []⟩).memory :=
  laidMetH_of_parts3 (fuel := 8) (laidMet_of_run' 8 (by kernel_rfl) (by kernel_rfl)) (by kernel_rfl) (by kernel_rfl)
theorem okSlice_spot {W : World} {base : Nat} {t e : TypeId} {v : Value} (ht : Tryd.prog.underlying t = some (.slice e)) (h : Cell.okWide Tryd.prog W .any base t v) : ∀ a len cap, v = .slice (some a) len cap → a.spot = none := by
  rintro a len cap rfl
  simp only [Cell.okWide, Cell.ok, ht] at h
  exact h.2.2.2.1
theorem cellTs27 : Tryd.prog.cellTypes Tryd.prog.depth 27 = some entTs := by kernel_rfl
set_option maxRecDepth 100000 in
theorem f_lifted (os : Os) (started : os.Started) (H : Type) (enc : TypeId × Value → H) :
    ReturnsInHanded {} Tryd.checked os 3 .any (fun w args => (Rows.logCodesAsSpecifiedSpec.pre enc Tryd.prog Tryd.f3 [] false w args ∧ laidMetH Tryd.prog laid2 w) ∧ sizedMet enc Tryd.prog Tryd.f3 (OpenSpec.ofChange Rows.logCodesAsSpecifiedSpec) false w args)
      (Rows.logCodesAsSpecifiedSpec.post enc Tryd.prog Tryd.f3 false true false false) := by
  refine returnsInHanded_of_change_and (C := Tryd.checked) (X := fun w _ => laidMetH Tryd.prog laid2 w) (fun _ _ _ hh h => h.of_heap hh) own started (by kernel_rfl) Tryd.func3
    (ChangeSpec.witness_shaped (enc := enc) (C := Tryd.checked) (os := os) (X := fun w _ => laidMetH Tryd.prog laid2 w) false (World.doorLaid Tryd.prog 4000 os) #[.agg #[.int .i64 0, .int .i64 0, .int .i64 0, .int .i64 0, .int .i64 0, .slice none 0 0, .int .u8 0, .int .u8 0, .int .u8 0, .int .u8 0, .int .u8 0, .int .u8 0, .int .u8 0, .int .u8 0, .int .u8 0, .int .u8 0, .int .u8 0, .int .u8 0, .int .u8 0, .int .u8 0, .int .u8 0, .int .u8 0, .int .i64 0, .int .u8 0, .int .u8 0, .int .u8 0, .int .u8 0, .int .u8 0, .int .u8 0, .int .u8 0, .int .u8 0, .int .u8 0, .int .u8 0, .int .u8 0, .int .u8 0, .int .u8 0, .int .u8 0, .int .u8 0, .int .u8 0], .slice none 0 0, .int .u8 0] 8 rfl (World.shaped_of_RefB (by kernel_rfl) (by kernel_rfl)) (by kernel_rfl) (by kernel_rfl) (by kernel_rfl) (door_met os _)) ?_
  intro W base args ds gs before hval0 hW _ _ hL _
  have hval : ∀ (j : Nat) t v, Tryd.f3.params[j]? = some t → args[j]? = some v → Value.okWide Tryd.prog W .any base t v := hval0
  have hW' := hW
  obtain ⟨p, q, hA0, hV, rfl, hfz, hnd⟩ := hW
  have hA : DataW.TrodAll enc Tryd.prog W 0 (fun _ => true) true Tryd.f3.params.toList args.toList ds p := hA0
  rw [Tryd.params3] at hA hval
  obtain ⟨v0, v1, v2, d0, d1, d2, p0, p1, p2, rfl, rfl, rfl, h0, h1, h2⟩ := trodAll_three hA
  obtain ⟨rfl, rfl⟩ := trodVars_none hV
  have k0 := hval 0 27 v0 rfl rfl
  have k1 := hval 1 28 v1 rfl rfl
  obtain ⟨less, rfl, rfl, rfl, wl⟩ := open_int Tryd.underlying5 (hval 2 5 v2 rfl rfl) h2
  have hb8 := bounds_u8 wl
  -- the entry
  simp only [Value.okWide, Tryd.underlying27] at k0
  obtain ⟨cs, rfl, hcs, ts, hts, _, hcell⟩ := k0
  obtain rfl := Option.some.inj (cellTs27.symm.trans hts)
  have h0k := h0
  obtain ⟨f0, h0⟩ := h0
  replace h0 : DataW.trod enc Tryd.prog W 0 (fun _ => true) true f0 27 cs.toList = some (d0, p0) := h0
  have R := trod_flat 8 flat27 h0
  have hlen : cs.toList.length = 39 := by
    rw [Array.length_toList, hcs]
    kernel_rfl
  have R5 := R 5 22 rfl
  obtain ⟨v5, m5, y5, hv5, hy5⟩ := R5
  have hv5' : cs[5]? = some v5 := by simpa using hv5
  obtain ⟨u5, hu5, ok5⟩ := hcell 5 v5 hv5'
  obtain rfl : u5 = 22 := by
    have : entTs[5 % entTs.length]? = some 22 := by decide
    rw [this] at hu5
    exact (Option.some.inj hu5).symm
  obtain ⟨mv, lm, hmv, hlm, hmoved, hvr5⟩ := open_moves Tryd.underlying22 hy5 (okSlice_spot Tryd.underlying22 ok5)
  have hone : mv.one = true := by
    rcases hmv with ⟨rfl, _⟩ | rfl <;> rfl
  have hg5 : cs.toList.getD 5 undef = v5 := by rw [List.getD, hv5]; rfl
  have hvr0 : VR (fullG W) W (.agg (entC mv (entOf cs.toList lm))) (.agg cs) := ent_vr R hlen (lm := lm) (by rw [hg5]; exact hvr5) hone
  -- the bytes
  have k1' : Cell.okWide Tryd.prog W .any base 28 v1 := by
    simpa only [Value.okWide, Tryd.underlying28] using k1
  have h1k := h1
  obtain ⟨f1, h1⟩ := h1
  have hc1 : v1.cells.toList = [v1] := by
    cases v1 <;> simp [Cell.okWide, Cell.ok, Tryd.underlying28] at k1' <;> rfl
  rw [hc1] at h1
  obtain ⟨bv, b, hbv, hb, hvr1⟩ := open_bytes Tryd.underlying28 h1 (okSlice_spot Tryd.underlying28 k1')
  -- the call
  have hS := (f3_ok (e := entOf cs.toList lm) (ent_nums R hlm) hmoved hlm (by simp [entOf]) (by simp [entOf]) (ent_bytes R (k := 6) (by decide)) (ent_bytes R (k := 23) (by decide)) hmv hb hbv hb8.1 (by omega) ⟨0, .nil⟩).2 (fullG W) W [.agg cs, v1, .int .u8 less] (laid_wr hL)
    ⟨rfl, fun j hj => match j, hj with
      | 0, _ => hvr0
      | 1, _ => hvr1
      | 2, _ => .int _ _
      | n + 3, h => absurd h (by simp)⟩
  refine hS.mono fun e W' ⟨G', hw, hE, hO⟩ => ?_
  have he : e = .returned (.bool true) := by
    cases e with
    | returned u =>
      cases hO with
      | bool b => rfl
    | _ => exact hO.elim
  subst he
  have same : ∀ x : MemPlace, x.block < W.heap.size → W.sameAt W' x := fun x hx => by
    cases x with
    | cell b o =>
      have hx' : b < W.heap.size := hx
      show W'.cell? ⟨b, o, none⟩ = W.cell? ⟨b, o, none⟩
      simp only [World.cell?, full_old hE hx']
    | map b => exact full_old hE hx
  have hlt : ∀ x ∈ p0 ++ p1 ++ [] ++ [], x.block < W.heap.size := fun x hx => by simpa using hW'.lt x hx
  have stay : ∀ {sp : Nat → Bool} {t : TypeId} {v : Value} {d : DataW H} {ps : List MemPlace}, Tryd.prog.readableRec t = true → t < Tryd.prog.types.size → DataW.Trod enc Tryd.prog W 0 (fun _ => true) true t v d ps → (∀ x ∈ ps, x ∈ p0 ++ p1 ++ [] ++ []) →
      (∀ x ∈ p0 ++ p1 ++ [] ++ [], sp x.block = true) → DataW.Trod enc Tryd.prog W' 0 sp true t v d ps := fun hr hrow h hin hsp =>
    WideElems.Trod_stays laidOut hr hrow h (fun x hx => same x (hlt x (hin x hx))) fun x hx => hsp x (hin x hx)
  refine ⟨_, rfl, post_of_ext (pa := p0 ++ (p1 ++ [])) (pv := []) hE hW' (fun _ _ _ => trodAll_mk1 (shut_bool Tryd.underlying4 _)) (fun sp hsp => ?_) (fun _ _ => rfl) (by simp) (ok_one (by kernel_rfl) rfl (okWide_bool_mk Tryd.underlying4 _))⟩
  exact trodAll_mk3 (stay (by kernel_rfl) (of_decide_eq_true (by kernel_rfl)) h0k (fun x hx => by simp [hx]) hsp) (stay (by kernel_rfl) (of_decide_eq_true (by kernel_rfl)) h1k (fun x hx => by simp [hx]) hsp) (shut_int Tryd.underlying5 wl)
theorem f_holds : Rows.LogCodesAsSpecifiedSaid :=
  OpenClaim.holds_of_wide 3 Tryd.f3 rfl rfl rfl rfl rfl rfl rfl ⟨rfl, rfl, rfl, rfl, rfl⟩ rfl rfl rfl rfl rfl (by kernel_rfl) Tryd.func3 (by kernel_rfl)
    (of_decide_eq_true (by kernel_rfl)) (by unfold Func.isWrapper; rw [if_neg (by decide +kernel)]; exact ⟨rfl, rfl⟩)
    (fun os started H enc _ => f_lifted os started H enc)
end Go.Proofs.YtfdaiidepcbemaaDoor
end
