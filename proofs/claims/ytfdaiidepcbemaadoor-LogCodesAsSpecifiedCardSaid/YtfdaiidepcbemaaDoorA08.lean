/-
  OPERATIONS ON ABSTRACT VALUES ARE WHAT THE MODEL DOES: copy, make, bytes and strings, maps.
-/
import Derived.Test.YtfdaiidepcbemaaDoorA07
import Derived.Laws.BytesArg
set_option linter.unusedVariables false
set_option linter.unusedSimpArgs false
section
namespace Go.Av
open Go
theorem getD_replicate_flatten (zs : List AV) : ∀ (n k : Nat), k < n * zs.length → (List.replicate n zs).flatten.getD k undefA = zs.getD (k % zs.length) undefA
  | 0, k, h => by simp at h
  | n + 1, k, h => by
    rw [List.replicate_succ, List.flatten_cons, getD_eq, List.getElem?_append]
    rw [Nat.succ_mul] at h
    by_cases hk : k < zs.length
    · rw [if_pos hk, Nat.mod_eq_of_lt hk]; rfl
    · rw [if_neg hk]
      have := getD_replicate_flatten zs n (k - zs.length) (by omega)
      rw [getD_eq] at this
      rw [this, ← Nat.mod_eq_sub_mod (by omega)]
/-- zero values, over and over -/
theorem zeros_rel {G : Gh} {w : World} {zs : List AV} {z : Array Value} (h : VRs G w zs z.toList) (hpos : 1 ≤ zs.length) (n m : Nat) (hm : m = n * zs.length) :
    VRs G w (List.replicate n zs).flatten ((Array.range m).map fun i => z[i % z.size]!).toList := by
  have hl := h.1
  simp only [Array.length_toList] at hl
  refine ⟨by simp [hm], fun k hk => ?_⟩
  have hk' : k < n * zs.length := by simpa using hk
  rw [getD_replicate_flatten zs n k hk', toList_getD]
  have hkm : k < m := by omega
  have hmod : k % zs.length < zs.length := Nat.mod_lt _ hpos
  have := h.2 (k % zs.length) hmod
  rw [toList_getD] at this
  have e : ((Array.range m).map fun i => z[i % z.size]!)[k]? = some (z[k % z.size]!) := by
    simp [hkm]
  rw [e]
  have e2 : z[k % z.size]! = (z[k % zs.length]?).getD undef := by
    rw [hl]
    have : k % zs.length < z.size := by omega
    simp [getElem!_pos, this]
  simp only [Option.getD_some]
  rw [e2]
  exact this
section
variable {P : Program} {g : Genv} {o : Oper}
theorem one_replicate {zs : List AV} (h1 : ∀ c ∈ zs, c.one = true) (n : Nat) : ∀ c ∈ (List.replicate n zs).flatten, c.one = true := fun c hc => by
  simp only [List.mem_flatten, List.mem_replicate] at hc
  obtain ⟨l, ⟨_, rfl⟩, hc⟩ := hc
  exact h1 c hc
theorem wrap_nat (n : Nat) (h : n ≤ 2 ^ 40) : IntKind.i64.wrap (n : Int) = (n : Int) := by
  have hs : IntKind.i64.signed = true := rfl
  have hb : IntKind.i64.bits = 64 := rfl
  unfold IntKind.wrap
  simp only [hs, hb, Bool.true_and]
  have e : ((n : Int) % 2 ^ 64) = n := by omega
  rw [e]
  have : ¬ ((n : Int) ≥ 2 ^ (64 - 1)) := by omega
  rw [decide_eq_false this]
  rfl
theorem fok_mkslice {t e : TypeId} {sz : Nat} {i : TypeInfo} {z : Value} {zs : List AV} {x y : Operand} {x' y' : Arg} (ho : o.op = .makeSlice t x y) (hx : argOf g x = some x') (hy : argOf g y = some y') (ht : sliceP P t = some (e, sz))
    (hi : P.info? e = some i) (hz : zeroP P e = some z) (hzs : constsL z.cells.toList = some zs) (hpos : 1 ≤ sz) (hb1 : 1 ≤ i.bytes) : FopOK P g o (.mkslice sz i.bytes zs x' y') := by
  intro s a G H H' w ob val id0 hw hs h hid hget hnx hlt
  have vx := argOf_VR hw hs hx
  have vy := argOf_VR hw hs hy
  obtain ⟨hu, hsz⟩ := sliceP_some ht
  simp only [fop] at h
  split at h
  · rename_i l c hl hc
    obtain ⟨k1, e1, f1⟩ := asNat_VR hl vx
    obtain ⟨k2, e2, f2⟩ := asNat_VR hc vy
    split at h
    · rename_i hcond
      obtain ⟨c1, c2, c3⟩ := hcond
      simp only [Option.some.injEq, Prod.mk.injEq] at h
      obtain ⟨rfl, rfl⟩ := h
      have hcz := constsL_VRs hzs G w
      have hc40 : c ≤ 2 ^ 40 := by
        have : 1 * c ≤ i.bytes * c := Nat.mul_le_mul_right _ hb1
        omega
      have w1 := wrap_nat l (by omega)
      have w2 := wrap_nat c hc40
      have hzsl : z.cells.size = zs.length := by simpa using hcz.1.1
      have hpos' : 1 ≤ zs.length := by omega
      have hz1 := zeros_rel hcz.1 hpos' c (c * sz) (by rw [c3])
      have hp : Pushed w { w with heap := w.heap.push (.cells ((Array.range (c * sz)).map fun i => z.cells[i % z.cells.size]!) e) } (.cells (((Array.range (c * sz)).map fun i => z.cells[i % z.cells.size]!).toList ++ []).toArray e (0, 0)) := ⟨by rw [List.append_nil, Array.toArray_toList], rfl, rfl⟩
      have hm := hw.pushObjAt id0 hid _ _ [] hz1 (one_replicate hcz.2 c) false (fun _ => rfl) hget hnx hlt (Clear.zero _) hp
      refine ⟨.slice (some ⟨w.heap.size, 0, none⟩) l c, _, _, ?_, hm, ?_⟩
      · have t1 : (decide ((c : Int) < 0) || decide ((i.bytes : Int) * (c : Int) > 2 ^ 48)) = false := by
          have : (i.bytes : Int) * (c : Int) ≤ 2 ^ 40 := by exact_mod_cast c2
          simp; omega
        have t2 : ¬ ((l : Int) < 0) := by omega
        have t3 : ¬ ((l : Int) > (c : Int)) := by omega
        simp only [execOp, ho, Instr.makeSlice, Sem.run_bind, run_underlying hu w, Result.andThen_ok, f1, f2, asInt, asIntOf, Sem.run_pure, run_typeInfo' hi w, w1, w2, t1, decide_eq_false t2, decide_eq_false t3, Bool.or_false, Bool.false_eq_true, if_false, run_askRoom, Int.toNat_natCast, run_sizeP hsz w]
        by_cases h0 : c * sz = 0
        · have hA : ∀ f : Nat → Value, (Array.range 0).map f = #[] := fun f => by simp
          simp only [h0, if_true, Sem.run_bind, Sem.run_pure, Result.andThen_ok, hA]
          rfl
        · simp only [h0, if_false, Sem.run_bind, run_zeroP hz w, Sem.run_pure, Result.andThen_ok]
          rfl
      · have hlen : (List.replicate c zs).flatten.length = c * sz := by simp [c3]
        refine VR.sl id0 sz 0 l c c ⟨w.heap.size, 0, (List.replicate c zs).flatten.length, (((Array.range (c * sz)).map fun i => z.cells[i % z.cells.size]!).toList ++ []).length⟩ (by simp only [Gh.addLoc, if_true]) c1 (by simp only [hlen]; omega) (.inl rfl)
    · cases h
  · cases h
theorem ok_mkslice {t e : TypeId} {sz : Nat} {i : TypeInfo} {z : Value} {zs : List AV} {x y : Operand} {x' y' : Arg} (ho : o.op = .makeSlice t x y) (hx : argOf g x = some x') (hy : argOf g y = some y') (ht : sliceP P t = some (e, sz))
    (hi : P.info? e = some i) (hz : zeroP P e = some z) (hzs : constsL z.cells.toList = some zs) (hpos : 1 ≤ sz) (hb1 : 1 ≤ i.bytes) : OpOK P g o (.mkslice sz i.bytes zs x' y') :=
  (fok_mkslice ho hx hy ht hi hz hzs hpos hb1).op fun _ _ => rfl
theorem ok_appendz {c : Call} {x y : Operand} {x' y' : Arg} {t t2 elem : TypeId} {k : IntKind} {i : TypeInfo} {z : Value} {zs : List AV} {sz : Nat} (ho : o.op = .call c) (hc : c.callee = .builtin .append) (ha : c.args = #[x, y])
    (hx : argOf g x = some x') (hy : argOf g y = some y') (hat : c.argTypes = #[t, t2]) (ht : P.underlying t = some (.slice elem)) (hsz : sizeP P elem = some sz) (h2 : P.underlying t2 = some (.int k))
    (hi : P.info? elem = some i) (hb1 : 1 ≤ i.bytes) (hz : zeroP P elem = some z) (hzs : constsL z.cells.toList = some zs) : OpOK P g o (.appendz sz i.bytes zs x' y') := by
  intro s a G H w v H' hw hs h
  have vx := argOf_VR hw hs hx
  have vy := argOf_VR hw hs hy
  simp only [aop] at h
  split at h
  · rename_i n hn hid
    rw [hid] at vx
    generalize hxv : a.eval x = u at vx
    cases vx
    obtain ⟨k1, e1, f1⟩ := asNat_VR hn vy
    split at h
    · rename_i hcond
      obtain ⟨c1, c2, c3⟩ := hcond
      have hn40 : n ≤ 2 ^ 40 := by
        have : n * 1 ≤ n * i.bytes := Nat.mul_le_mul_left _ hb1
        omega
      have w1 := wrap_nat n hn40
      have t1 : ¬ ((n : Int) < 0) := by omega
      have t2' : ¬ ((n : Int) * (i.bytes : Int) > 2 ^ 48) := by
        have : (n : Int) * (i.bytes : Int) ≤ 2 ^ 40 := by exact_mod_cast c3
        omega
      have hop : ∀ {r : Value} {w' : World}, (Builtin.append_ #[t, t2] o.type #[.slice none 0 0, a.eval y]).run P w = .ok r w' → (execOp a.eval o).run P w = .ok (.value r) w' := by
        intro r w' hr
        simp [execOp, ho, resolve, hc, ha, hat, invoke, builtin, hxv, hr]
      split at h
      · rename_i hn0
        subst hn0
        simp only [Option.some.injEq, Prod.mk.injEq] at h
        obtain ⟨rfl, rfl⟩ := h
        refine OpOK.pure' hw (u := .slice none 0 0) (hop ?_) .nilsl
        unfold Builtin.append_
        simp only [List.getElem?_toArray, List.getElem?_cons_zero, List.getElem?_cons_succ, Sem.run_bind, run_underlying ht w, run_underlying h2 w, run_sizeP hsz w, Result.andThen_ok, Sem.run_pure, if_true, f1, asInt, asIntOf, w1, if_neg t1, run_typeInfo' hi w, if_neg t2', Int.toNat_natCast, Nat.zero_add, Nat.le_refl, Bool.not_true, Bool.false_eq_true, if_false, Nat.zero_mul]
      · rename_i hn0
        simp only [Option.some.injEq] at h
        have hcz := constsL_VRs hzs G w
        have hzsl : z.cells.size = zs.length := by simpa using hcz.1.1
        obtain ⟨cap, hc1, hc2⟩ := run_choose_cap (P := P) (need := n) (old := 0) (e := elem) w
        have hns := nextslicecap_le (need := n) (cap := 0) (by omega)
        have hmul : Builtin.nextslicecap n 0 * i.bytes ≤ (2 * n + 192) * i.bytes := Nat.mul_le_mul_right _ hns
        have hmul2 : (2 * n + 192) * i.bytes = 2 * (n * i.bytes) + 192 * i.bytes := by rw [Nat.add_mul, Nat.mul_assoc]
        have hib : i.bytes ≤ n * i.bytes := Nat.le_mul_of_pos_left _ (by omega)
        have hn2 : ¬ Builtin.nextslicecap n 0 * i.bytes > 2 ^ 48 := by omega
        have hmax : ¬ ((n : Int) > IntKind.i64.max ∧ (True ∨ i.bytes = 0)) := fun hh => by
          have : IntKind.i64.max = 9223372036854775807 := by decide
          omega
        have hvz := zeros_rel hcz.1 (by omega) n (n * z.cells.size) (by rw [hzsl])
        have hfl : ∀ m, (List.replicate m zs).flatten.length = m * sz := fun m => by simp [c1]
        obtain ⟨G', r1, r2, r3⟩ := newRow_rel hw true (sz := sz) (els := List.replicate n zs) (vs := (Builtin.zeroCells z.cells n).toList) (rest := (Builtin.zeroCells z.cells (cap - n)).toList) (e := elem) (cap := cap)
          (fun e he => by simp only [List.mem_replicate] at he; rw [he.2]; exact c1) (one_replicate hcz.2 n) hvz (by simp; exact hc1) (by simp [Builtin.zeroCells, hzsl, c1])
        rw [h] at r1 r2 r3
        simp only [List.length_replicate] at r3
        refine ⟨_, _, _, G', hop ?_, .inl rfl, r1, r2, r3⟩
        unfold Builtin.append_
        have hnle : ¬ (n ≤ 0) := by omega
        have hm0 : ¬ (n * sz = 0) := by
          intro hh
          rcases Nat.mul_eq_zero.1 hh with hh | hh <;> omega
        simp only [List.getElem?_toArray, List.getElem?_cons_zero, List.getElem?_cons_succ, Sem.run_bind, run_underlying ht w, run_underlying h2 w, run_sizeP hsz w, Result.andThen_ok, Sem.run_pure, if_true, f1, asInt, asIntOf, w1, if_neg t1, run_typeInfo' hi w, if_neg t2', Int.toNat_natCast, Nat.zero_add, if_neg hnle, if_neg hmax, if_neg hn2, hc2, run_typeInfo' hi { w with drawn := w.drawn + 1 }, run_askRoom, Builtin.firstCells, Bool.not_true, Bool.false_eq_true, if_false, if_neg hm0, run_zeroP hz { w with drawn := w.drawn + 1 }]
        have he : #[] ++ Builtin.zeroCells z.cells n ++ Builtin.zeroCells z.cells (cap - n) = ((Builtin.zeroCells z.cells n).toList ++ (Builtin.zeroCells z.cells (cap - n)).toList).toArray := by
          apply Array.ext'
          simp
        rw [he]
        rfl
    · cases h
  · cases h
theorem ok_copy {c : Call} {x y : Operand} {x' y' : Arg} {t elem : TypeId} {sz : Nat} (ho : o.op = .call c) (hc : c.callee = .builtin .copy) (ha : c.args = #[x, y])
    (hx : argOf g x = some x') (hy : argOf g y = some y') (hat : c.argTypes[0]? = some t) (ht : P.underlying t = some (.slice elem)) (hsz : sizeP P elem = some sz) : OpOK P g o (.copy sz x' y') := by
  intro s a G H w v H' hw hs h
  have vx := argOf_VR hw hs hx
  have vy := argOf_VR hw hs hy
  simp only [aop] at h
  have hop : ∀ {p : Option Addr} {dl dc : Nat} {n : Nat} {vs : List Value}, a.eval x = .slice p dl dc → (Builtin.lenOf (a.eval y)).run P w = .ok n w → (Builtin.firstCells sz (Nat.min n dl) (a.eval y)).run P w = .ok vs.toArray w →
      ∀ {w' : World}, ((match p with | some q => storeCells q vs | none => pure () : Sem Unit).run P w = .ok () w') → (execOp a.eval o).run P w = .ok (.value (.int .i64 (Nat.min n dl : Nat))) w' := by
    intro p dl dc n vs hxv hl hf w' hr
    simp only [execOp, ho, resolve, hc, ha, List.map_toArray, List.map_cons, List.map_nil, hxv, Sem.run_bind, Sem.run_pure, Result.andThen_ok, invoke, builtin, Builtin.copy_, hat, List.getElem?_toArray, List.getElem?_cons_zero, List.getElem?_cons_succ, run_underlying ht w, hl, run_sizeP hsz w, hf]
    cases p with
    | none =>
      simp at hr
      subst hr
      simp [goInt]
    | some q =>
      simp only at hr
      simp [hr, goInt]
  split at h
  · rename_i ys hys hid
    rw [hid] at vx
    generalize hxv : a.eval x = u at vx
    cases vx
    simp only [Option.some.injEq, Prod.mk.injEq] at h
    obtain ⟨rfl, rfl⟩ := h
    obtain ⟨yu, y1, ylen, yvs, yv, yf⟩ := elems_run P hw hys vy
    have := hop hxv ylen (vs := []) (by
      have := yf 0 (Nat.zero_le _)
      rw [show Nat.min ys.length 0 = 0 from Nat.min_zero _]
      simpa using this) (w' := w) rfl
    exact OpOK.pure' hw this (.int _ _)
  · rename_i ys id sz' off len cap hys hid
    rw [hid] at vx
    obtain ⟨yu, y1, ylen, yvs, yv, yf⟩ := elems_run P hw hys vy
    split at h
    · rename_i hszz
      subst hszz
      split at h
      · rename_i cs opn hg
        split at h
        · rename_i hin
          simp only [Option.some.injEq, Prod.mk.injEq] at h
          obtain ⟨rfl, rfl⟩ := h
          generalize hxv : a.eval x = u at vx
          cases vx with
          | sl _ _ _ _ _ cap' l hl hlen hinn hcap =>
            obtain ⟨a1, a2, a3, a4, a5⟩ := hw.cells id l cs opn hl hg
            obtain ⟨ca, el, fz, b1, b2, b3⟩ := hw.room id l hl (.inl ⟨cs, opn, hg⟩)
            have yfl := length_flatten yu
            have hmn : min ys.length len ≤ ys.length := Nat.min_le_left _ _
            have hmul : min ys.length len * sz' ≤ ys.length * sz' := Nat.mul_le_mul_right _ hmn
            have hyl := yv.1
            have hft : (ys.take (min ys.length len)).flatten = ys.flatten.take (min ys.length len * sz') := flatten_take yu _
            have yvt := yv.take (min ys.length len * sz')
            rw [← hft] at yvt
            have hvl : (yvs.take (min ys.length len * sz')).length = min ys.length len * sz' := by simp; omega
            obtain ⟨w', hr, hu⟩ := run_storeCells_rel P l.blk (l.base + off) (yvs.take (min ys.length len * sz')) 0 w ⟨ca, el, fz, b1, by omega⟩
              (fun j hj => by rw [Nat.add_zero, Nat.add_assoc]; exact b3 (off + j) (by omega)) (oneV_of_VRs yvt (fun c hc => by
                rw [hft] at hc
                exact y1 c (List.mem_of_mem_take hc)))
            rw [Nat.add_zero] at hu
            obtain ⟨r1, r2⟩ := hw.store hl hg yvt (fun c hc => by rw [hft] at hc; exact y1 c (List.mem_of_mem_take hc)) (by rw [hft]; simp; omega) hu
            refine ⟨_, _, w', G, hop hxv ylen (yf _ hmn) hr, .inl rfl, r1, r2, .int _ _⟩
        · cases h
      · cases h
    · cases h
  · cases h
theorem ok_b2str {src dst e : TypeId} {x : Operand} {x' : Arg} (ho : o.op = .convert src dst x) (hx : argOf g x = some x') (hsrc : P.underlying src = some (.slice e)) (hdst : P.underlying dst = some .string)
    (he : P.underlying e = some (.int .u8)) : OpOK P g o (.b2str x') := by
  intro s a G H w v H' hw hs h
  have vx := argOf_VR hw hs hx
  simp only [aop] at h
  generalize hva : Arg.eval g s x' = va at vx h
  split at h
  · cases h
  · rename_i hnstr
    split at h
    · rename_i els hels
      simp only [Option.map_eq_some_iff, Prod.mk.injEq] at h
      obtain ⟨bs, hbs, rfl, rfl⟩ := h
      obtain ⟨eu, e1, elen, evs, ev, ef⟩ := elems_run P hw hels vx
      have efl := length_flatten eu
      have hev : evs.length = els.length := by rw [ev.1, efl, Nat.mul_one]
      have ef0 := ef els.length (Nat.le_refl _)
      rw [Nat.mul_one, List.take_of_length_le (by omega)] at ef0
      -- the values are bytes
      have key : ∀ (els : List (List AV)) (bs : List UInt8), bytesOf els = some bs → ∃ ns : List Int, els.flatten = ns.map (fun n => AV.int .u8 n) ∧ bs = ns.map fun n => UInt8.ofNat n.toNat := by
        intro els
        induction els with
        | nil => intro bs hb; obtain rfl := Option.some.inj hb; exact ⟨[], rfl, rfl⟩
        | cons e r ih =>
          intro bs hb
          match e, hb with
          | [.int .u8 n], hb =>
            simp only [bytesOf, Option.map_eq_some_iff] at hb
            obtain ⟨bs', hb', rfl⟩ := hb
            obtain ⟨ns, h1, h2⟩ := ih bs' hb'
            exact ⟨n :: ns, by simp [h1], by simp [h2]⟩
      obtain ⟨ns, k1, k2⟩ := key els bs hbs
      have hns : evs = ns.map (fun n => Value.int .u8 n) := by
        apply List.ext_getElem?
        intro j
        have hl2 : els.flatten.length = ns.length := by rw [k1]; simp
        by_cases hj : j < ns.length
        · have := ev.2 j (by omega)
          rw [k1] at this
          have e2 : (ns.map fun n => AV.int .u8 n).getD j undefA = .int .u8 (ns[j]) := by simp [getD_eq, hj]
          rw [e2] at this
          have := this.int_inv
          rw [getD_list evs undef j (by rw [ev.1]; omega), this]
          simp [hj]
        · rw [List.getElem?_eq_none (by rw [ev.1]; omega), List.getElem?_eq_none (by simp; omega)]
      have hstr : VR G w (.str bs) (.string ⟨bs.toArray⟩) := VR.str_mk _ _ _
      have fin : ∀ u : Value, a.eval x = u → (convert src dst u).run P w = .ok (.string ⟨bs.toArray⟩) w → ∃ n u w' G', (execOp a.eval o).run P w = .ok n w' ∧ NextV n u ∧ WR g G' H w' ∧ Ext G H w G' H w' ∧ VR G' w' (.str bs) u := fun u hu hr =>
        OpOK.pure' hw (by simp [execOp, ho, hu, hr]) hstr
      generalize hxv : a.eval x = u at vx ef0
      have slc : ∀ {b o' len cap : Nat}, u = .slice (some ⟨b, o', none⟩) len cap → len = els.length → (convert src dst u).run P w = .ok (.string ⟨bs.toArray⟩) w := by
        intro b o' len cap hu' hl'
        subst hu' hl'
        have hld : (loadCells ⟨b, o', none⟩ els.length).run P w = .ok (ns.map (Value.int .u8)).toArray w := by
          rw [hns] at ef0
          simpa [Builtin.firstCells] using ef0
        rw [run_convert_bytes_string w src dst e _ els.length cap hsrc he hdst, run_bytesToString w _ els.length cap ns hld, foldl_push_bytes, k2]
        simp [ByteArray.empty, ByteArray.emptyWithCapacity]
        rfl
      cases vx with
      | nilsl =>
        simp [elemsOf] at hels
        subst hels
        simp [bytesOf] at hbs
        subst hbs
        refine fin _ hxv ?_
        simp only [convert, Sem.run_bind, run_underlying hsrc w, run_underlying hdst w, Result.andThen_ok, run_underlying he w, Conv.bytesToString]
        rfl
      | lst tag sz' els' b o' cap us hun hh hv htag =>
        simp only [elemsOf] at hels
        split at hels
        · obtain rfl := Option.some.inj hels
          exact fin _ hxv (slc rfl rfl)
        · cases hels
      | sl id sz' off len cap cap' l hl hlen hin hcap =>
        refine fin _ hxv (slc rfl ?_)
        simp only [elemsOf] at hels
        split at hels
        · split at hels
          · split at hels
            · rename_i hcs hle
              obtain rfl := Option.some.inj hels
              rename_i hs1 cs
              have := (chunkF_flat 1 len (cs.drop off) (by simp; omega)).2.1
              omega
            · cases hels
          · cases hels
        · cases hels
      | str s => exact absurd rfl (hnstr _)
      | _ => simp [elemsOf] at hels
    · cases h
end
end Go.Av
end
