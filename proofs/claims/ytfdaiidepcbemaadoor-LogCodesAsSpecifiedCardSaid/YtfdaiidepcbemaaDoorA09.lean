/-
  OPERATIONS ON ABSTRACT VALUES ARE WHAT THE MODEL DOES: bytes of a string, maps.
-/
import Derived.Test.YtfdaiidepcbemaaDoorA08
set_option linter.unusedVariables false
set_option linter.unusedSimpArgs false
section
namespace Go.Av
open Go
section
variable {P : Program} {g : Genv} {o : Oper}
theorem push_modify (h : Array Go.Obj) (x : Go.Obj) (f : Go.Obj → Go.Obj) : (h.push x).modify h.size f = h.push (f x) := by
  apply Array.ext
  · simp
  · intro i h1 h2
    simp only [Array.size_push] at h2
    rw [Array.getElem_modify]
    by_cases hi : i = h.size
    · subst hi
      simp
    · have : i < h.size := by omega
      rw [if_neg (Ne.symm hi)]
      simp [Array.getElem_push, this]
theorem fok_str2b {src dst e : TypeId} {x : Operand} {x' : Arg} (ho : o.op = .convert src dst x) (hx : argOf g x = some x') (hsrc : P.underlying src = some .string) (hdst : P.underlying dst = some (.slice e))
    (he : P.underlying e = some (.int .u8)) : FopOK P g o (.str2b x') := by
  intro s a G H H' w ob val id0 hw hs h hid hget hnx hlt
  have vx := argOf_VR hw hs hx
  simp only [fop] at h
  split at h
  · rename_i str hid0
    rw [hid0] at vx
    have hxv := vx.str_inv
    simp only [Option.some.injEq, Prod.mk.injEq] at h
    obtain ⟨rfl, rfl⟩ := h
    have hsz : (⟨str.toArray⟩ : ByteArray).size = str.length := by simp [ByteArray.size]
    obtain ⟨cap, hc1, hc2⟩ := run_choose_cap (P := P) (need := str.length) (old := 0) (e := e) w
    let vs : List Value := str.map fun b => .int .u8 b.toNat
    let rest : List Value := List.replicate (cap - str.length) (.int .u8 0)
    let w' : World := { w with heap := w.heap.push (.cells (vs ++ rest).toArray e (cap, cap + 1)), drawn := w.drawn + 1 }
    have hfl : (u8s str).flatten = str.map fun b => AV.int .u8 b.toNat := by
      unfold u8s
      clear hid0 vx hxv hsz hc1 hc2
      induction str with
      | nil => rfl
      | cons b r ih => simp [ih]
    have hvl : vs.length = str.length := by simp [vs]
    have hrl : rest.length = cap - str.length := by simp [rest]
    have hv : VRs G w (u8s str).flatten vs := by
      rw [hfl]
      refine ⟨by simp [vs], fun j hj => ?_⟩
      simp at hj
      simp only [vs, getD_eq, List.getElem?_map, List.getElem?_eq_getElem hj, Option.map_some, Option.getD_some]
      exact .int _ _
    have hp : Pushed w w' (.cells (vs ++ rest).toArray e (cap, cap + 1)) := ⟨rfl, rfl, rfl⟩
    obtain ⟨G', hl, hm, r3⟩ := hw.pushTokAt id0 hid _ vs rest hv hget hnx hlt (fz := (cap, cap + 1)) (fun o' ho' => by
      simp only [List.size_toArray, List.length_append, hvl, hrl] at ho'
      simp; omega) hp
    have hun : ∀ x ∈ u8s str, x.length = 1 := fun x hx => by
      simp only [u8s, List.mem_map] at hx
      obtain ⟨b, _, rfl⟩ := hx
      rfl
    have hlen : (u8s str).length = str.length := by simp [u8s]
    have hfll : (u8s str).flatten.length = str.length := by rw [hfl]; simp
    refine ⟨.slice (some ⟨w.heap.size, 0, none⟩) str.length cap, w', G', ?_, hm, ?_⟩
    · have hconv : (convert src dst (.string ⟨str.toArray⟩)).run P w = (Conv.stringToBytes e ⟨str.toArray⟩).run P w := by
        simp only [convert, Sem.run_bind, run_underlying hsrc w, run_underlying hdst w, Result.andThen_ok, run_underlying he w]
      have hrow : (((⟨str.toArray⟩ : ByteArray).data.map fun b => (Value.int .u8 b.toNat)) ++ Array.replicate (cap - str.length) (.int .u8 0)) = (vs ++ rest).toArray := by
        apply Array.ext'
        simp [vs, rest]
      have hsb : (Conv.stringToBytes e ⟨str.toArray⟩).run P w = .ok (.slice (some ⟨w.heap.size, 0, none⟩) str.length cap) w' := by
        simp only [Conv.stringToBytes, hsz, Sem.run_bind, hc2, Result.andThen_ok, hrow]
        simp only [newRow, newObj, markStringish, shape, freeze, Sem.run_bind, Sem.run, Result.andThen_ok, World.shape?, Array.getElem?_push_size, World.freeze, Nat.one_ne_zero, if_false, Sem.run_pure]
        rw [push_modify]
        simp only [List.size_toArray, List.length_append, hvl, hrl]
        have : str.length + (cap - str.length) = cap := by omega
        simp [this, w']
      simp [execOp, ho, hxv, hconv, hsb]
    · have := VR.lst (G := G') (w := w') (id0 + 2) 1 (u8s str) w.heap.size 0 cap (fun j => vs.getD j undef) hun (fun j hj => ⟨(r3 j hj).1, (r3 j hj).2.1, by
          rw [hfl] at hj ⊢
          simp at hj
          simp only [getD_eq, List.getElem?_map, List.getElem?_eq_getElem hj, Option.map_some, Option.getD_some]
          rfl⟩) (fun j hj => (r3 j hj).2.2) ⟨by omega, ⟨_, hl, rfl, by simp only [hfll, hlen]; omega, rfl, by simp only [hrl, hlen, Nat.mul_one]⟩⟩
      rw [hlen] at this
      exact this
  · cases h
theorem ok_str2b {src dst e : TypeId} {x : Operand} {x' : Arg} (ho : o.op = .convert src dst x) (hx : argOf g x = some x') (hsrc : P.underlying src = some .string) (hdst : P.underlying dst = some (.slice e))
    (he : P.underlying e = some (.int .u8)) : OpOK P g o (.str2b x') :=
  (fok_str2b ho hx hsrc hdst he).op fun _ _ => rfl
theorem WR.pushMapAt {G : Gh} {H H' : Heap} {w w' : World} (h : WR g G H w) (id0 : Nat) (hid : G.loc id0 = none) (hget : ∀ m, H'.get m = if m = id0 then some (.map []) else H.get m) (hnx : H.next ≤ H'.next) (hlt0 : id0 < H'.next)
    (p : Pushed w w' (.map #[] 0)) : Made g G H w id0 (.map []) (G.addLoc id0 ⟨w.heap.size, 0, 0, 1⟩) H' w' := by
  have hp := h.pushed p
  have he := Ext.pushed h p
  refine ⟨hp.addAt id0 _ _ hid hget hnx hlt0 (fun id l' hl hv => .inl (Ne.symm (Nat.ne_of_lt (h.blk_lt hl hv)))) (fun j _ hi => ?_) (fun cs' opn' he' => by cases he') (fun hh => ?_) (fun es he' => ?_),
    ⟨⟨w.heap.size, 0, 0, 1⟩, rfl, by simp only [Gh.addLoc, if_true], fun id hne => by simp only [Gh.addLoc]; rw [if_neg hne]⟩, fun {G0 H0 w0} e0 hge => (e0.trans he).addAt id0 _ _ hid hget hnx hge (.inl e0.size), fun b o hi => .inl hi, fun b o hi => hi, p.size, p.old⟩
  · obtain ⟨v, hv⟩ := h.imme _ _ hi
    have := cell?_lt hv
    simp at this
  · rcases hh with ⟨_, _, hh⟩ | hh <;> cases hh
  · cases he'
    exact ⟨rfl, rfl, #[], 0, p.new, rfl, fun j hj => absurd hj (Nat.not_lt_zero j)⟩
theorem fok_mkmap {t : TypeId} {r : Option Operand} {kt vt : TypeId} (ho : o.op = .makeMap t r) (ht : P.underlying t = some (.map kt vt)) (hr : r = none ∨ ∃ k n, r = some (.const (.int k n))) : FopOK P g o .mkmap := by
  intro s a G H H' w ob val id0 hw hs h hid hget hnx hlt
  simp only [fop, Option.some.injEq, Prod.mk.injEq] at h
  obtain ⟨rfl, rfl⟩ := h
  have hp : Pushed w { w with heap := w.heap.push (.map #[] 0) } (.map #[] 0) := ⟨rfl, rfl, rfl⟩
  have hm := hw.pushMapAt id0 hid hget hnx hlt hp
  refine ⟨.map (some w.heap.size), _, _, ?_, hm, ?_⟩
  · rcases hr with rfl | ⟨k, n, rfl⟩
    · simp [execOp, ho, Instr.makeMap, newObj, Sem.run]
    · simp [execOp, ho, Instr.makeMap, run_underlying ht w, Act.eval, asInt, asIntOf, newObj, Sem.run]
  · exact VR.map id0 ⟨w.heap.size, 0, 0, 1⟩ (by simp only [Gh.addLoc, if_true])
theorem ok_mkmap {t : TypeId} {r : Option Operand} {kt vt : TypeId} (ho : o.op = .makeMap t r) (ht : P.underlying t = some (.map kt vt)) (hr : r = none ∨ ∃ k n, r = some (.const (.int k n))) : OpOK P g o .mkmap :=
  (fok_mkmap ho ht hr).op fun _ _ => rfl
/-- kinds of keys -/
def keyP (P : Program) (t : TypeId) : Option Sk :=
  match P.underlying t with
  | some .bool => some .b
  | some (.int _) => some .i
  | some .string => some .s
  | _ => none
theorem sameKey_now {G : Gh} {w : World} {kt : TypeId} {k : Sk} {d : TypeDesc} (hk : keyP P kt = some k) (hd : P.underlying kt = some d) {x y : AV} {u v : Value} {b : Bool} (h : sameKey k x y = some b) (hx : VR G w x u) (hy : VR G w y v) :
    Instr.sameNow d u v = some b := by
  unfold keyP at hk
  rw [hd] at hk
  cases x <;> cases y <;> simp only [sameKey] at h <;> first
    | (cases h; done)
    | skip
  · split at h
    · rename_i hkb
      obtain rfl := Option.some.inj h
      subst hkb
      rw [hx.bool_inv, hy.bool_inv]
      cases d <;> first | (cases hk; done) | rfl
    · cases h
  · split at h
    · rename_i hkb
      obtain ⟨hkb, hjj⟩ := hkb
      obtain rfl := Option.some.inj h
      subst hkb hjj
      rw [hx.int_inv, hy.int_inv]
      cases d <;> first | (cases hk; done) | simp [Instr.sameNow]
    · cases h
  · split at h
    · rename_i hkb
      obtain rfl := Option.some.inj h
      subst hkb
      rw [hx.str_inv, hy.str_inv]
      cases d <;> first | (cases hk; done) | skip
      simp only [Instr.sameNow, Option.some.injEq]
      rw [beq_toListBytes, ByteArray.toList_mk, ByteArray.toList_mk]
    · cases h
theorem run_checkKey {kt : TypeId} {k : Sk} (hk : keyP P kt = some k) (b : Bool) (d : Nat) (u : Value) (w : World) : (Instr.checkKey b (d + 1) kt u).run P w = .ok () w := by
  unfold keyP at hk
  rw [Instr.checkKey]
  split at hk <;> rename_i hu <;> first
    | (cases hk; done)
    | (simp only [Sem.run_bind, run_underlying hu w, Result.andThen_ok]
       rfl)
theorem findKey_rel {G : Gh} {w : World} {kt : TypeId} {k : Sk} {d : TypeDesc} (hk : keyP P kt = some k) (hd : P.underlying kt = some d) {x : AV} {u : Value} (hx : VR G w x u) :
    ∀ (es : List (AV × AV)) (ents : List MapEntry) (i : Nat) (r : Option (Nat × AV)), findKeyA k x es i = some r → ents.length = es.length →
      (∀ j, j < es.length → VR G w (es.getD j (undefA, undefA)).1 (ents.getD j default).key ∧ VR G w (es.getD j (undefA, undefA)).2 (ents.getD j default).val) →
      ∃ r', Instr.findNow d u ents i = some r' ∧ ((r = none ∧ r' = none) ∨ ∃ j av vv, r = some (j, av) ∧ r' = some (j, vv) ∧ VR G w av vv ∧ i ≤ j ∧ j < i + es.length ∧ sameKey k x (es.getD (j - i) (undefA, undefA)).1 = some true)
  | [], [], i, r, h, hl, hv => by
    obtain rfl := Option.some.inj h
    exact ⟨none, rfl, .inl ⟨rfl, rfl⟩⟩
  | [], _ :: _, i, r, h, hl, hv => by simp at hl
  | (y, z) :: es, [], i, r, h, hl, hv => by simp at hl
  | (y, z) :: es, e :: ents, i, r, h, hl, hv => by
    have h0 := hv 0 (by simp)
    simp only [List.getD_cons_zero] at h0
    simp only [findKeyA] at h
    split at h
    · rename_i hs
      obtain rfl := Option.some.inj h
      have hn := sameKey_now hk hd hs hx h0.1
      refine ⟨some (i, e.val), by simp [Instr.findNow, hn], .inr ⟨i, z, e.val, rfl, rfl, h0.2, Nat.le_refl _, by simp, by simpa using hs⟩⟩
    · rename_i hs
      have hn := sameKey_now hk hd hs hx h0.1
      obtain ⟨r', h1, h2⟩ := findKey_rel hk hd hx es ents (i + 1) r h (by simpa using hl) (fun j hj => by
        have := hv (j + 1) (by simpa using hj)
        simpa using this)
      refine ⟨r', by simp only [Instr.findNow, hn]; exact h1, ?_⟩
      rcases h2 with h2 | ⟨j, av, vv, a1, a2, a3, a4, a5, a6⟩
      · exact .inl h2
      · refine .inr ⟨j, av, vv, a1, a2, a3, by omega, by simp; omega, ?_⟩
        rw [show j - i = (j - (i + 1)) + 1 by omega, List.getD_cons_succ]
        exact a6
    · cases h
theorem run_findKey {G : Gh} {w : World} {kt : TypeId} {k : Sk} (hk : keyP P kt = some k) {x : AV} {u : Value} (hx : VR G w x u) {es : List (AV × AV)} {ents : Array MapEntry} {r : Option (Nat × AV)} (h : findKeyA k x es 0 = some r) (hl : ents.size = es.length)
    (hv : ∀ j, j < es.length → VR G w (es.getD j (undefA, undefA)).1 (ents.getD j default).key ∧ VR G w (es.getD j (undefA, undefA)).2 (ents.getD j default).val) :
    ∃ r', (Instr.findKey kt u ents.toList).run P w = .ok r' w ∧ ((r = none ∧ r' = none) ∨ ∃ j av vv, r = some (j, av) ∧ r' = some (j, vv) ∧ VR G w av vv ∧ j < es.length ∧ sameKey k x (es.getD j (undefA, undefA)).1 = some true) := by
  obtain ⟨d, hd⟩ : ∃ d, P.underlying kt = some d := by
    unfold keyP at hk
    split at hk <;> rename_i hu <;> first | (cases hk; done) | exact ⟨_, hu⟩
  obtain ⟨r', h1, h2⟩ := findKey_rel hk hd hx es ents.toList 0 r h (by simpa using hl) (fun j hj => by
    have := hv j hj
    have e : ents.toList.getD j default = ents.getD j default := by
      simp [List.getD, Array.getD_eq_getD_getElem?]
    rw [e]; exact this)
  refine ⟨r', ?_, ?_⟩
  · simp only [Instr.findKey, Sem.run_bind, run_underlying hd w, Result.andThen_ok, h1]
    rfl
  · rcases h2 with h2 | ⟨j, av, vv, a1, a2, a3, a4, a5, a6⟩
    · exact .inl h2
    · exact .inr ⟨j, av, vv, a1, a2, a3, by omega, by simpa using a6⟩
theorem run_getObj_map {w : World} {r : Nat} {ents : Array MapEntry} {clock : Nat} (h : w.heap[r]? = some (.map ents clock)) : (getObj r).run P w = .ok (.map ents clock) w := by
  simp [getObj, Sem.run, h]
theorem ok_lookup {t kt vt : TypeId} {k : Sk} {zv : Value} {z : AV} {ok : Bool} {x i : Operand} {x' i' : Arg} (ho : o.op = .lookup t x i ok) (hx : argOf g x = some x') (hi : argOf g i = some i') (ht : P.underlying t = some (.map kt vt))
    (hk : keyP P kt = some k) (hz : zeroP P vt = some zv) (hzc : ofConst zv = some z) : OpOK P g o (.lookup k z ok x' i') := by
  intro s a G H w v H' hw hs h
  have vx := argOf_VR hw hs hx
  have vi := argOf_VR hw hs hi
  have hzero := run_zeroP hz w
  have hzr := ofConst_VR hzc G w
  have hck := fun b => run_checkKey hk b 9999 (a.eval i) w
  have hck' : ∀ b, (Instr.checkKey b 10000 kt (a.eval i)).run P w = .ok () w := hck
  have two : ∀ {p q : AV} {u1 u2 : Value}, VR G w p u1 → VR G w q u2 → VR G w (.tup [p, q]) (.tuple #[u1, u2]) := fun h1 h2 =>
    .tup [_, _] [_, _] rfl (h1.cons (h2.cons (VRs.nil G w))).2
  simp only [aop] at h
  split at h
  · rename_i hko
    split at h
    · rename_i hid
      rw [hid] at vx
      generalize hxv : a.eval x = u at vx
      cases vx
      simp only [Option.some.injEq, Prod.mk.injEq] at h
      obtain ⟨rfl, rfl⟩ := h
      have hfk : (Instr.findKey kt (a.eval i) []).run P w = .ok none w := by
        obtain ⟨r', h1, h2⟩ := run_findKey (P := P) hk vi (es := []) (ents := #[]) (r := none) rfl rfl (fun j hj => absurd hj (Nat.not_lt_zero j))
        rcases h2 with ⟨_, rfl⟩ | ⟨j, av, vv, hh, _⟩
        · exact h1
        · cases hh
      refine OpOK.pure' hw (u := if ok then .tuple #[zv, .bool false] else zv) ?_ (by cases ok <;> simp <;> first | exact hzr | exact two hzr (.bool false))
      simp only [execOp, ho, hxv, Instr.lookup, Sem.run_bind, run_underlying ht w, Result.andThen_ok, Sem.run_pure, hck', hfk, hzero]
    · rename_i id hid
      rw [hid] at vx
      generalize hxv : a.eval x = u at vx
      cases vx with
      | map _ l hl =>
        split at h
        · rename_i es hg
          obtain ⟨_, _, ents, clock, m1, m2, m3⟩ := hw.mapr id l es hl hg
          have hgo := run_getObj_map (P := P) m1
          split at h
          · rename_i j av hf
            simp only [Option.some.injEq, Prod.mk.injEq] at h
            obtain ⟨rfl, rfl⟩ := h
            obtain ⟨r', h1, h2⟩ := run_findKey (P := P) hk vi hf m2 m3
            rcases h2 with ⟨hh, _⟩ | ⟨j', av', vv, e1, e2, e3, _⟩
            · cases hh
            · cases e1
              subst e2
              refine OpOK.pure' hw (u := if ok then .tuple #[vv, .bool true] else vv) ?_ (by cases ok <;> simp <;> first | exact e3 | exact two e3 (.bool true))
              simp only [execOp, ho, hxv, Instr.lookup, Sem.run_bind, run_underlying ht w, Result.andThen_ok, hgo, Sem.run_pure, hck', h1]
          · rename_i hf
            simp only [Option.some.injEq, Prod.mk.injEq] at h
            obtain ⟨rfl, rfl⟩ := h
            obtain ⟨r', h1, h2⟩ := run_findKey (P := P) hk vi hf m2 m3
            rcases h2 with ⟨_, e2⟩ | ⟨j', av', vv, e1, _⟩
            · subst e2
              refine OpOK.pure' hw (u := if ok then .tuple #[zv, .bool false] else zv) ?_ (by cases ok <;> simp <;> first | exact hzr | exact two hzr (.bool false))
              simp only [execOp, ho, hxv, Instr.lookup, Sem.run_bind, run_underlying ht w, Result.andThen_ok, hgo, Sem.run_pure, hck', h1, hzero]
            · cases e1
          · cases h
        · cases h
    · cases h
  · cases h
/-- a map's entries are set -/
theorem WR.setMap {G : Gh} {H : Heap} {w w' : World} (h : WR g G H w) {id : Nat} {l : Loc} {es es' : List (AV × AV)} {ents ents' : Array MapEntry} {clock clock' : Nat} (hl : G.loc id = some l) (hg : H.get id = some (.map es))
    (hm : w.heap[l.blk]? = some (.map ents clock)) (hw' : w'.heap = w.heap.setIfInBounds l.blk (.map ents' clock')) (hsame : w'.os = w.os ∧ w'.output = w.output) (hl' : ents'.size = es'.length)
    (hv : ∀ j, j < es'.length → VR G w (es'.getD j (undefA, undefA)).1 (ents'.getD j default).key ∧ VR G w (es'.getD j (undefA, undefA)).2 (ents'.getD j default).val) :
    WR g G (H.set id (.map es')) w' ∧ Ext G H w G (H.set id (.map es')) w' := by
  have hlive : H.live id := ⟨_, hg, rfl⟩
  obtain ⟨m1, m2, _⟩ := h.mapr id l es hl hg
  have hlt := (Array.getElem?_eq_some_iff.1 hm).1
  have hother : ∀ b, b ≠ l.blk → w'.heap[b]? = w.heap[b]? := fun b hb => by
    rw [hw', Array.getElem?_setIfInBounds_ne]
    exact Ne.symm hb
  have hself : w'.heap[l.blk]? = some (.map ents' clock') := by
    rw [hw']
    simp [hlt]
  have himm : ∀ b o, G.imm b o → b ≠ l.blk := fun b o hi hb => by
    obtain ⟨v, hv⟩ := h.imme b o hi
    obtain ⟨c, el, fz, hc, _⟩ := cell?_block hv
    rw [hb, hm] at hc
    cases hc
  have hic : ∀ b o, G.imm b o → w'.cell? ⟨b, o, none⟩ = w.cell? ⟨b, o, none⟩ := fun b o hi => cell?_congr (hother b (himm b o hi))
  have hmono : ∀ {a u}, VR G w a u → VR G w' a u := fun hv => hv.mono (fun _ _ h => h) (fun b o hi => ⟨hi, hic b o hi⟩)
  have hne : ∀ {i l'}, i ≠ id → G.loc i = some l' → H.live i → l'.blk ≠ l.blk := fun {i l'} hi hl1 hv1 hb => by
    obtain ⟨ob, hob, hov⟩ := hv1
    cases ob with
    | cells cs opn => obtain ⟨c, el, fz, hc, _⟩ := h.room i l' hl1 (.inl ⟨cs, opn, hob⟩); rw [hb, hm] at hc; cases hc
    | tok => obtain ⟨c, el, fz, hc, _⟩ := h.room i l' hl1 (.inr hob); rw [hb, hm] at hc; cases hc
    | map es2 =>
      obtain ⟨n1, n2, _⟩ := h.mapr i l' es2 hl1 hob
      rcases h.disj i id l' l hi hl1 hl ⟨_, hob, rfl⟩ hlive with hd | hd | hd
      · exact hd hb
      · omega
      · omega
    | dead => cases hov
  have hget : ∀ {m}, m ≠ id → (H.set id (.map es')).get m = H.get m := fun hm => by rw [Heap.get_set, if_neg hm]
  have hgid : (H.set id (.map es')).get id = some (.map es') := by rw [Heap.get_set, if_pos rfl]
  have hliv : ∀ {m}, (H.set id (.map es')).live m → H.live m := fun {m} hv => by
    rcases Heap.live_set.1 hv with ⟨rfl, _⟩ | ⟨_, hv⟩
    · exact hlive
    · exact hv
  refine ⟨{
    cells := fun i l' cs opn h1 h2 => by
      have hi : i ≠ id := fun e => by rw [e, hgid] at h2; cases h2
      rw [hget hi] at h2
      obtain ⟨a1, a2, a3, a4, a5⟩ := h.cells i l' cs opn h1 h2
      refine ⟨a1, a2, a3, a4, fun j hj => ?_⟩
      obtain ⟨u, hu, hvu⟩ := a5 j hj
      exact ⟨u, by rw [cell?_congr (hother _ (hne hi h1 ⟨_, h2, rfl⟩))]; exact hu, hmono hvu⟩
    room := fun i l' h1 h2 => by
      have hi : i ≠ id := fun e => by rw [e, hgid] at h2; rcases h2 with ⟨_, _, h2⟩ | h2 <;> cases h2
      rw [hget hi] at h2
      obtain ⟨c, el, fz, a1, a2, a3⟩ := h.room i l' h1 h2
      have hb := hne hi h1 (by rcases h2 with ⟨cs, opn, h2⟩ | h2 <;> exact ⟨_, h2, rfl⟩)
      exact ⟨c, el, fz, by rw [hother _ hb]; exact a1, a2, fun j hj => by rw [frozen?_congr (hother _ hb)]; exact a3 j hj⟩
    disj := fun i i' l1 l2 hn h1 h2 hv1 hv2 => h.disj i i' l1 l2 hn h1 h2 (hliv hv1) (hliv hv2)
    immd := fun i l' h1 hv1 => h.immd i l' h1 (hliv hv1)
    mapr := fun i l' es2 h1 h2 => by
      by_cases hi : i = id
      · subst hi
        obtain rfl := Option.some.inj (h1.symm.trans hl)
        rw [hgid] at h2
        cases h2
        exact ⟨m1, m2, ents', clock', hself, hl', fun j hj => ⟨hmono (hv j hj).1, hmono (hv j hj).2⟩⟩
      · rw [hget hi] at h2
        obtain ⟨a1, a2, en, cl, a3, a4, a5⟩ := h.mapr i l' es2 h1 h2
        exact ⟨a1, a2, en, cl, by rw [hother _ (hne hi h1 ⟨_, h2, rfl⟩)]; exact a3, a4, fun j hj => ⟨hmono (a5 j hj).1, hmono (a5 j hj).2⟩⟩
    lt := h.lt
    imme := fun b o hi => by rw [hic b o hi]; exact h.imme b o hi
    glob := fun n cs hn => hmono (h.glob n cs hn) }, ?_⟩
  have e0 := Ext.refl G H w
  exact {
    loc := fun _ _ h => h
    imm := fun b o hi => ⟨hi, hic b o hi⟩
    size := by rw [hw']; simp
    frame := fun b hb hn => hother b (fun e => hn id l hl hlive e.symm)
    blks := fun i l' h1 hv1 => .inr ⟨i, l', h1, hliv hv1, rfl⟩
    immn := fun _ _ h => .inl h
    next := Nat.le_refl _
    news := fun _ _ h h' => by rw [h] at h'; cases h'
    dead := fun _ _ _ hv => hliv hv
    same := hsame }
theorem sameKey_bits {G : Gh} {w : World} {k : Sk} {x y : AV} {u v : Value} (d : Nat) (h : sameKey k x y = some true) (hx : VR G w x u) (hy : VR G w y v) : Instr.sameBits d v u = true := by
  cases x <;> cases y <;> simp only [sameKey] at h <;> first
    | (cases h; done)
    | skip
  · split at h
    · simp at h
      subst h
      rw [hx.bool_inv, hy.bool_inv]
      cases d <;> simp [Instr.sameBits]
    · cases h
  · split at h
    · rename_i hc
      simp at h
      obtain ⟨_, rfl⟩ := hc
      subst h
      rw [hx.int_inv, hy.int_inv]
      cases d <;> simp [Instr.sameBits]
    · cases h
  · split at h
    · simp at h
      subst h
      rw [hx.str_inv, hy.str_inv]
      cases d <;> simp only [Instr.sameBits] <;> rw [beq_toListBytes] <;> simp
    · cases h
theorem getD_modify_ents (ents : Array MapEntry) (i : Nat) (f : MapEntry → MapEntry) (j : Nat) (hj : j < ents.size) : (ents.modify i f).getD j default = if i = j then f (ents.getD j default) else ents.getD j default := by
  simp only [Array.getD_eq_getD_getElem?, Array.getElem?_modify]
  split
  · simp [hj]
  · rfl
theorem ok_mapup {t kt vt : TypeId} {k : Sk} {x i y : Operand} {x' i' y' : Arg} (ho : o.op = .mapUpdate t x i y ∨ o.op = .insert t x i y) (hx : argOf g x = some x') (hi : argOf g i = some i') (hy : argOf g y = some y')
    (ht : P.underlying t = some (.map kt vt)) (hk : keyP P kt = some k) : OpOK P g o (.mapup k x' i' y') := by
  intro s a G H w v H' hw hs h
  have vx := argOf_VR hw hs hx
  have vi := argOf_VR hw hs hi
  have vy := argOf_VR hw hs hy
  have hck : (Instr.checkKey false 10000 kt (a.eval i)).run P w = .ok () w := run_checkKey hk false 9999 (a.eval i) w
  simp only [aop] at h
  split at h
  · rename_i hko
    split at h
    · rename_i id hid
      rw [hid] at vx
      generalize hxv : a.eval x = u at vx
      cases vx with
      | map _ l hl =>
        split at h
        · rename_i es hg
          obtain ⟨_, _, ents, clock, m1, m2, m3⟩ := hw.mapr id l es hl hg
          have hgo := run_getObj_map (P := P) m1
          have hrun : ∀ {w' : World}, (Instr.mapUpdate t (.map (some l.blk)) (a.eval i) (a.eval y)).run P w = .ok () w' → (execOp a.eval o).run P w = .ok .skip w' := fun hr => by
            rcases ho with ho | ho <;> simp [execOp, ho, hxv, hr]
          have hset : ∀ (en : Array MapEntry) (cl : Nat), (setObj l.blk (.map en cl)).run P w = .ok () { w with heap := w.heap.setIfInBounds l.blk (.map en cl) } := fun en cl => by
            simp [setObj, Sem.run, m1]
          split at h
          · rename_i j av hf
            simp only [Option.some.injEq, Prod.mk.injEq] at h
            obtain ⟨rfl, rfl⟩ := h
            obtain ⟨r', h1, h2⟩ := run_findKey (P := P) hk vi hf m2 m3
            rcases h2 with ⟨hh, _⟩ | ⟨j', av', vv, e1, e2, e3, e4, e5⟩
            · cases hh
            · cases e1
              subst e2
              have hsb := sameKey_bits 10000 e5 vi (m3 j e4).1
              obtain ⟨r1, r2⟩ := hw.setMap (es' := es.set j (Arg.eval g s i', Arg.eval g s y')) (ents' := ents.modify j fun e => { e with key := a.eval i, val := a.eval y }) (clock' := clock) (w' := { w with heap := w.heap.setIfInBounds l.blk (.map (ents.modify j fun e => { e with key := a.eval i, val := a.eval y }) clock) }) hl hg m1 rfl ⟨rfl, rfl⟩ (by simp [m2]) (fun q hq => by
                simp only [List.length_set] at hq
                rw [getD_modify_ents _ _ _ _ (by omega), getD_eq, List.getElem?_set]
                by_cases hjq : j = q
                · rw [if_pos hjq, if_pos hjq]
                  subst hjq
                  rw [if_pos e4]
                  exact ⟨vi, vy⟩
                · rw [if_neg hjq, if_neg hjq]
                  exact m3 q hq)
              refine ⟨.skip, undef, _, G, hrun ?_, .inr ⟨rfl, rfl⟩, r1, r2, VR.undefV G _⟩
              have hkey : ((ents[j]?).map (·.key)).getD (a.eval i) = (ents.getD j default).key := by
                have hjs : j < ents.size := by omega
                simp [Array.getD, hjs]
              simp only [Instr.mapUpdate, Sem.run_bind, run_underlying ht w, Result.andThen_ok, hgo, hck, h1, Instr.keyThatStays, hkey, hsb, if_true, Sem.run_pure, hset]
          · rename_i hf
            simp only [Option.some.injEq, Prod.mk.injEq] at h
            obtain ⟨rfl, rfl⟩ := h
            obtain ⟨r', h1, h2⟩ := run_findKey (P := P) hk vi hf m2 m3
            rcases h2 with ⟨_, e2⟩ | ⟨j', av', vv, e1, _⟩
            · subst e2
              obtain ⟨r1, r2⟩ := hw.setMap (es' := es ++ [(Arg.eval g s i', Arg.eval g s y')]) (ents' := ents.push { key := a.eval i, val := a.eval y, born := clock }) (clock' := clock + 1) (w' := { w with heap := w.heap.setIfInBounds l.blk (.map (ents.push { key := a.eval i, val := a.eval y, born := clock }) (clock + 1)) }) hl hg m1 rfl ⟨rfl, rfl⟩ (by simp [m2]) (fun q hq => by
                simp only [List.length_append, List.length_cons, List.length_nil] at hq
                rw [getD_eq, List.getElem?_append, Array.getD_eq_getD_getElem?, Array.getElem?_push]
                by_cases hjq : q < es.length
                · rw [if_pos hjq, if_neg (by omega)]
                  have := m3 q hjq
                  rwa [Array.getD_eq_getD_getElem?] at this
                · rw [if_neg hjq, if_pos (by omega)]
                  have hq0 : q - es.length = 0 := by omega
                  rw [hq0]
                  exact ⟨vi, vy⟩)
              refine ⟨.skip, undef, _, G, hrun ?_, .inr ⟨rfl, rfl⟩, r1, r2, VR.undefV G _⟩
              simp only [Instr.mapUpdate, Sem.run_bind, run_underlying ht w, Result.andThen_ok, hgo, hck, h1, hset]
            · cases e1
          · cases h
        · cases h
    · cases h
  · cases h
end
end Go.Av
end
