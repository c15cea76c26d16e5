/-
  OPERATIONS ON ABSTRACT VALUES ARE WHAT THE MODEL DOES: indexes, lengths, arithmetic, conversions.
-/
import Derived.Test.YtfdaiidepcbemaaDoorA03
import Derived.Laws.Strings
set_option linter.unusedVariables false
set_option linter.unusedSimpArgs false
section
namespace Go.Av
open Go
theorem getD_flatten {els : List (List AV)} {sz : Nat} (hu : ∀ e ∈ els, e.length = sz) : ∀ {i j : Nat}, i < els.length → j < sz → els.flatten.getD (i * sz + j) undefA = (els.getD i []).getD j undefA := by
  induction els with
  | nil => intro i j hi; simp at hi
  | cons e r ih =>
    intro i j hi hj
    have he : e.length = sz := hu e (by simp)
    cases i with
    | zero =>
      simp only [getD_eq, List.flatten_cons, Nat.zero_mul, Nat.zero_add, List.getElem?_cons_zero, Option.getD_some]
      rw [List.getElem?_append_left (by omega)]
    | succ i =>
      have := ih (fun e he => hu e (by simp [he])) (i := i) (j := j) (by simpa using hi) hj
      simp only [getD_eq, List.flatten_cons, List.getElem?_cons_succ] at this ⊢
      rw [List.getElem?_append_right (by rw [he, Nat.succ_mul]; omega)]
      rw [show (i + 1) * sz + j - e.length = i * sz + j by rw [he, Nat.succ_mul]; omega]
      exact this
theorem length_flatten {els : List (List AV)} {sz : Nat} (hu : ∀ e ∈ els, e.length = sz) : els.flatten.length = els.length * sz := by
  induction els with
  | nil => simp
  | cons e r ih =>
    simp only [List.flatten_cons, List.length_append, List.length_cons, Nat.succ_mul]
    rw [ih (fun e he => hu e (by simp [he])), hu e (by simp)]
    omega
section
variable {P : Program} {g : Genv} {o : Oper}
def arrayP (P : Program) (t : TypeId) : Option (Nat × Nat × Bool) :=
  match P.underlying t with
  | some (.array n e) => match sizeP P e, isAggP P e with
    | some sz, some b => some (n, sz, b)
    | _, _ => none
  | _ => none
def sliceP (P : Program) (t : TypeId) : Option (TypeId × Nat) :=
  match P.underlying t with
  | some (.slice e) => match sizeP P e with
    | some sz => some (e, sz)
    | none => none
  | _ => none
theorem arrayP_some {t : TypeId} {n sz : Nat} {b : Bool} (h : arrayP P t = some (n, sz, b)) : ∃ e, P.underlying t = some (.array n e) ∧ sizeP P e = some sz ∧ isAggP P e = some b := by
  unfold arrayP at h
  split at h
  · rename_i n' e hu
    split at h
    · rename_i sz' b' h1 h2
      simp only [Option.some.injEq, Prod.mk.injEq] at h
      obtain ⟨rfl, rfl, rfl⟩ := h
      exact ⟨e, hu, h1, h2⟩
    · cases h
  · cases h
theorem sliceP_some {t e : TypeId} {sz : Nat} (h : sliceP P t = some (e, sz)) : P.underlying t = some (.slice e) ∧ sizeP P e = some sz := by
  unfold sliceP at h
  split at h
  · rename_i e' hu
    split at h
    · rename_i sz' h1
      simp only [Option.some.injEq, Prod.mk.injEq] at h
      obtain ⟨rfl, rfl⟩ := h
      exact ⟨hu, h1⟩
    · cases h
  · cases h
theorem ok_iadr_arr {t : TypeId} {x i : Operand} {x' i' : Arg} {n sz : Nat} {b : Bool} (ho : o.op = .indexAddr t x i) (hx : argOf g x = some x') (hi : argOf g i = some i') (ht : arrayP P t = some (n, sz, b)) :
    OpOK P g o (.iadr (some n) sz x' i') := by
  intro s a G H w v H' hw hs h
  have vx := argOf_VR hw hs hx
  have vi := argOf_VR hw hs hi
  obtain ⟨e, hu, he, hb⟩ := arrayP_some ht
  simp only [aop] at h
  split at h
  · rename_i k hk
    obtain ⟨kk, hka, hkv⟩ := asNat_VR hk vi
    have hrun : ∀ bl o', a.eval x = .pointer (some ⟨bl, o', none⟩) → k < n → (execOp a.eval o).run P w = .ok (.value (.pointer (some ⟨bl, o' + k * sz, none⟩))) w := fun bl o' hxe hlt => by
      have h0 : (0 : Int) ≤ (k : Int) ∧ (k : Int) < (n : Int) := by omega
      simp [execOp, ho, Instr.indexAt, hkv, asIntOf, run_underlying hu w, hxe, Instr.sureAddr, h0, run_sizeP he w, add_none]
      intro hge; omega
    split at h
    · rename_i n' id off hn hid
      cases hn
      rw [hid] at vx
      split at h
      · rename_i hlt
        simp only [Option.some.injEq, Prod.mk.injEq] at h
        obtain ⟨rfl, rfl⟩ := h
        cases hxv : a.eval x with
        | pointer p =>
          rw [hxv] at vx
          cases vx with
          | ref _ _ l hl => exact OpOK.pure' hw (hrun _ _ hxv hlt) (by rw [Nat.add_assoc]; exact .ref id (off + k * sz) l hl)
        | _ => rw [hxv] at vx; cases vx
      · cases h
    · rename_i n' cs hn hid
      cases hn
      rw [hid] at vx
      split at h
      · rename_i hlt
        simp only [Option.some.injEq, Prod.mk.injEq] at h
        obtain ⟨rfl, rfl⟩ := h
        cases hxv : a.eval x with
        | pointer p =>
          rw [hxv] at vx
          cases vx with
          | pl _ bl o' us hh hv =>
            refine OpOK.pure' hw (hrun _ _ hxv hlt) (.pl _ bl (o' + k * sz) (fun j => us (k * sz + j)) (fun j hj => ?_) (fun j hj => ?_))
            · simp at hj
              rw [Nat.add_assoc, getD_drop]
              exact hh (k * sz + j) (by omega)
            · simp at hj
              rw [getD_drop]
              exact hv (k * sz + j) (by omega)
        | _ => rw [hxv] at vx; cases vx
      · cases h
    · rename_i hn _; cases hn
    · rename_i hn _; cases hn
    · cases h
  · cases h
theorem ok_iadr_sl {t e : TypeId} {x i : Operand} {x' i' : Arg} {sz : Nat} (ho : o.op = .indexAddr t x i) (hx : argOf g x = some x') (hi : argOf g i = some i') (ht : sliceP P t = some (e, sz)) :
    OpOK P g o (.iadr none sz x' i') := by
  intro s a G H w v H' hw hs h
  have vx := argOf_VR hw hs hx
  have vi := argOf_VR hw hs hi
  obtain ⟨hu, he⟩ := sliceP_some ht
  simp only [aop] at h
  split at h
  · rename_i k hk
    obtain ⟨kk, hka, hkv⟩ := asNat_VR hk vi
    have hrun : ∀ bl o' n cap, a.eval x = .slice (some ⟨bl, o', none⟩) n cap → k < n → (execOp a.eval o).run P w = .ok (.value (.pointer (some ⟨bl, o' + k * sz, none⟩))) w := fun bl o' n cap hxe hlt => by
      have h0 : (0 : Int) ≤ (k : Int) ∧ (k : Int) < (n : Int) := by omega
      simp [execOp, ho, Instr.indexAt, hkv, asIntOf, run_underlying hu w, hxe, Instr.sureAddr, h0, run_sizeP he w, add_none]
      intro hge; omega
    split at h
    · rename_i hn _; cases hn
    · rename_i hn _; cases hn
    · rename_i tag sz' els hn hid
      rw [hid] at vx
      split at h
      · rename_i hc
        obtain ⟨rfl, hlt⟩ := hc
        simp only [Option.some.injEq, Prod.mk.injEq] at h
        obtain ⟨rfl, rfl⟩ := h
        cases hxv : a.eval x with
        | slice p n cap =>
          rw [hxv] at vx
          cases vx with
          | lst _ _ _ bl o' _ us hun hh hv htag =>
            have hel : (els.getD k []).length = sz' := by
              rw [getD_eq, List.getElem?_eq_getElem hlt]
              exact hun _ (List.getElem_mem hlt)
            have hfl := length_flatten hun
            have hin : ∀ j, j < sz' → k * sz' + j < els.flatten.length := fun j hj => by
              rw [hfl]
              calc k * sz' + j < k * sz' + sz' := by omega
                _ = (k + 1) * sz' := by rw [Nat.succ_mul]
                _ ≤ els.length * sz' := Nat.mul_le_mul_right _ hlt
            refine OpOK.pure' hw (hrun _ _ _ _ hxv hlt) (.pl _ bl (o' + k * sz') (fun j => us (k * sz' + j)) (fun j hj => ?_) (fun j hj => ?_))
            · rw [hel] at hj
              rw [Nat.add_assoc, ← getD_flatten hun hlt hj]
              exact hh _ (hin j hj)
            · rw [hel] at hj
              rw [← getD_flatten hun hlt hj]
              exact hv _ (hin j hj)
        | _ => rw [hxv] at vx; cases vx
      · cases h
    · rename_i id sz' off len cap hn hid
      rw [hid] at vx
      split at h
      · rename_i hc
        obtain ⟨rfl, hlt⟩ := hc
        simp only [Option.some.injEq, Prod.mk.injEq] at h
        obtain ⟨rfl, rfl⟩ := h
        cases hxv : a.eval x with
        | slice p n cap =>
          rw [hxv] at vx
          cases vx with
          | sl _ _ _ _ _ _ l hl hlen hin hcap => exact OpOK.pure' hw (hrun _ _ _ _ hxv hlt) (by rw [Nat.add_assoc]; exact .ref id (off + k * sz') l hl)
        | _ => rw [hxv] at vx; cases vx
      · cases h
    · cases h
  · cases h
theorem ok_idx {t : TypeId} {x i : Operand} {x' i' : Arg} {n sz : Nat} {b : Bool} (ho : o.op = .index t x i) (hx : argOf g x = some x') (hi : argOf g i = some i') (ht : arrayP P t = some (n, sz, b)) :
    OpOK P g o (.idx n sz b x' i') := by
  intro s a G H w v H' hw hs h
  have vx := argOf_VR hw hs hx
  have vi := argOf_VR hw hs hi
  obtain ⟨e, hu, he, hb⟩ := arrayP_some ht
  simp only [aop] at h
  split at h
  · rename_i k cs hk hid
    rw [hid] at vx
    obtain ⟨kk, hka, hkv⟩ := asNat_VR hk vi
    obtain ⟨us, hxv, hl, h1, hv⟩ := vx.agg_inv
    split at h
    · rename_i hc
      obtain ⟨hlt, hin⟩ := hc
      have hrun : ∀ u, (part e us.toArray (k * sz)).run P w = .ok u w → (execOp a.eval o).run P w = .ok (.value u) w := fun u hr => by
        have h0 : (0 : Int) ≤ (k : Int) ∧ (k : Int) < (n : Int) := by omega
        simp [execOp, ho, hxv, Instr.index, hkv, asIntOf, run_underlying hu w, h0, run_sizeP he w, hr]
        intro hge; omega
      split at h
      · rename_i hagg
        simp only [Option.some.injEq, Prod.mk.injEq] at h
        obtain ⟨rfl, rfl⟩ := h
        obtain ⟨u, hr, hvu⟩ := run_part (P := P) he hb hl h1 hv hin (fun hf => by rw [hagg] at hf; cases hf)
        rw [if_pos hagg] at hvu
        exact OpOK.pure' hw (hrun u hr) hvu
      · rename_i hagg
        split at h
        · rename_i hn1
          simp only [Option.some.injEq, Prod.mk.injEq] at h
          obtain ⟨rfl, rfl⟩ := h
          obtain ⟨u, hr, hvu⟩ := run_part (P := P) he hb hl h1 hv hin (fun _ => hn1)
          rw [if_neg hagg, hn1, Nat.mul_one] at hvu
          rw [hn1, Nat.mul_one] at hr
          exact OpOK.pure' hw (hrun u (by rw [hn1, Nat.mul_one]; exact hr)) hvu
        · cases h
    · cases h
  · cases h
theorem ok_idxs {t : TypeId} {x i : Operand} {x' i' : Arg} (ho : o.op = .index t x i) (hx : argOf g x = some x') (hi : argOf g i = some i') (ht : P.underlying t = some .string) :
    OpOK P g o (.idxs x' i') := by
  intro s a G H w v H' hw hs h
  have vx := argOf_VR hw hs hx
  have vi := argOf_VR hw hs hi
  simp only [aop] at h
  split at h
  · rename_i k str hk hid
    rw [hid] at vx
    obtain ⟨kk, hka, hkv⟩ := asNat_VR hk vi
    have hxv := vx.str_inv
    split at h
    · rename_i b hb
      simp only [Option.some.injEq, Prod.mk.injEq] at h
      obtain ⟨rfl, rfl⟩ := h
      refine OpOK.pure' hw (u := .int .u8 b.toNat) ?_ (.int _ _)
      have hlt := (List.getElem?_eq_some_iff.1 hb).1
      have hge : (⟨str.toArray⟩ : ByteArray)[k]? = some b := by
        have hlt' : k < (⟨str.toArray⟩ : ByteArray).size := by simpa [ByteArray.size] using hlt
        rw [getElem?_pos (⟨str.toArray⟩ : ByteArray) k hlt']
        have := (List.getElem?_eq_some_iff.1 hb).2
        simpa [ByteArray.getElem_eq_getElem_data] using this
      simp [execOp, ho, Instr.index, hkv, asIntOf, run_underlying ht w, hxv, hge]
    · cases h
  · cases h
theorem ok_lens {c : Call} {x : Operand} {x' : Arg} {t : TypeId} (ho : o.op = .call c) (hc : c.callee = .builtin .len) (ha : c.args = #[x]) (hx : argOf g x = some x') (hat : c.argTypes[0]? = some t)
    (ht : P.underlying t = some .string) : OpOK P g o (.lens x') := by
  intro s a G H w v H' hw hs h
  have vx := argOf_VR hw hs hx
  simp only [aop] at h
  split at h
  · rename_i str hid
    rw [hid] at vx
    simp only [Option.some.injEq, Prod.mk.injEq] at h
    obtain ⟨rfl, rfl⟩ := h
    have hxv := vx.str_inv
    refine OpOK.pure' hw (u := .int .i64 str.length) ?_ (.int _ _)
    have hsz : (⟨str.toArray⟩ : ByteArray).size = str.length := by simp [ByteArray.size]
    simp [execOp, ho, resolve, hc, ha, invoke, builtin, Builtin.len_, hat, run_underlying ht w, hxv, goInt]
    exact congrArg (fun n : Nat => (n : Int)) hsz
  · cases h
theorem ok_maxi {c : Call} {x y : Operand} {x' y' : Arg} (ho : o.op = .call c) (hc : c.callee = .builtin .max) (ha : c.args = #[x, y]) (hx : argOf g x = some x') (hy : argOf g y = some y') : OpOK P g o (.maxi x' y') := by
  intro s a G H w v H' hw hs h
  have vx := argOf_VR hw hs hx
  have vy := argOf_VR hw hs hy
  simp only [aop] at h
  split at h
  · rename_i k m k' n h1 h2
    rw [h1] at vx
    rw [h2] at vy
    simp only [Option.some.injEq, Prod.mk.injEq] at h
    obtain ⟨rfl, rfl⟩ := h
    have hxv := vx.int_inv
    have hyv := vy.int_inv
    refine OpOK.pure' hw (u := .int k (if n > m then n else m)) ?_ (.int _ _)
    simp [execOp, ho, resolve, hc, ha, invoke, builtin, Builtin.max_, Builtin.max2, hxv, hyv]
  · cases h
theorem ok_lenl {c : Call} {x : Operand} {x' : Arg} {t e : TypeId} (ho : o.op = .call c) (hc : c.callee = .builtin .len) (ha : c.args = #[x]) (hx : argOf g x = some x') (hat : c.argTypes[0]? = some t)
    (ht : P.underlying t = some (.slice e)) : OpOK P g o (.lenl x') := by
  intro s a G H w v H' hw hs h
  have vx := argOf_VR hw hs hx
  have hrun : ∀ p n cap, a.eval x = .slice p n cap → (execOp a.eval o).run P w = .ok (.value (.int .i64 n)) w := fun p n cap hxv => by
    simp [execOp, ho, resolve, hc, ha, invoke, builtin, Builtin.len_, hat, run_underlying ht w, hxv, goInt]
  simp only [aop] at h
  split at h
  · rename_i hid
    rw [hid] at vx
    simp only [Option.some.injEq, Prod.mk.injEq] at h
    obtain ⟨rfl, rfl⟩ := h
    generalize hxv : a.eval x = u at vx
    cases vx
    exact OpOK.pure' hw (hrun _ _ _ hxv) (.int _ _)
  · rename_i tag sz els hid
    rw [hid] at vx
    simp only [Option.some.injEq, Prod.mk.injEq] at h
    obtain ⟨rfl, rfl⟩ := h
    generalize hxv : a.eval x = u at vx
    cases vx
    exact OpOK.pure' hw (hrun _ _ _ hxv) (.int _ _)
  · rename_i id sz off len cap hid
    rw [hid] at vx
    simp only [Option.some.injEq, Prod.mk.injEq] at h
    obtain ⟨rfl, rfl⟩ := h
    generalize hxv : a.eval x = u at vx
    cases vx
    exact OpOK.pure' hw (hrun _ _ _ hxv) (.int _ _)
  · cases h
theorem ok_lenc {c : Call} {x : Operand} {t e : TypeId} {n : Nat} (ho : o.op = .call c) (hc : c.callee = .builtin .len) (ha : c.args = #[x]) (hat : c.argTypes[0]? = some t)
    (ht : P.underlying t = some (.array n e) ∨ ∃ p, P.underlying t = some (.pointer p) ∧ P.underlying p = some (.array n e)) : OpOK P g o (.lenc n) := by
  intro s a G H w v H' hw hs h
  simp only [aop, Option.some.injEq, Prod.mk.injEq] at h
  obtain ⟨rfl, rfl⟩ := h
  refine OpOK.pure' hw (u := .int .i64 n) ?_ (.int _ _)
  rcases ht with ht | ⟨p, ht, hp⟩
  · simp [execOp, ho, resolve, hc, ha, invoke, builtin, Builtin.len_, hat, run_underlying ht w, goInt]
  · simp [execOp, ho, resolve, hc, ha, invoke, builtin, Builtin.len_, hat, run_underlying ht w, run_underlying hp w, goInt]
theorem ok_capl {c : Call} {x : Operand} {x' : Arg} {t e : TypeId} (ho : o.op = .call c) (hc : c.callee = .builtin .cap) (ha : c.args = #[x]) (hx : argOf g x = some x') (hat : c.argTypes[0]? = some t)
    (ht : P.underlying t = some (.slice e)) : OpOK P g o (.capl x') := by
  intro s a G H w v H' hw hs h
  have vx := argOf_VR hw hs hx
  have hrun : ∀ p n cap, a.eval x = .slice p n cap → (execOp a.eval o).run P w = .ok (.value (.int .i64 cap)) w := fun p n cap hxv => by
    simp [execOp, ho, resolve, hc, ha, invoke, builtin, Builtin.cap_, hat, run_underlying ht w, hxv, goInt]
  simp only [aop] at h
  split at h
  · rename_i hid
    rw [hid] at vx
    simp only [Option.some.injEq, Prod.mk.injEq] at h
    obtain ⟨rfl, rfl⟩ := h
    generalize hxv : a.eval x = u at vx
    cases vx
    exact OpOK.pure' hw (hrun _ _ _ hxv) (.int _ _)
  · rename_i sz els hid
    rw [hid] at vx
    simp only [Option.some.injEq, Prod.mk.injEq] at h
    obtain ⟨rfl, rfl⟩ := h
    generalize hxv : a.eval x = u at vx
    cases vx with
    | lst _ _ _ b o' cap us hu hh hv htag =>
      have := htag.2
      simp only at this
      rw [this] at hxv
      exact OpOK.pure' hw (hrun _ _ _ hxv) (.int _ _)
  · cases h
theorem run_eqGuard_no {op : BinOp} {t : TypeId} {x y : Operand} {u v : Value} (w : World) (h : ∀ c, u ≠ .agg c) (h' : u ≠ .nilIface) : (eqGuard op t x y u v).run P w = .ok () w := by
  unfold eqGuard
  cases u <;> first
    | exact absurd rfl h'
    | exact absurd rfl (h _)
    | (cases op <;> rfl)
theorem ok_binI {op : BinOp} {k k' : IntKind} {m n : Int} {v : AV} {t : TypeId} (h : binI op k m k' n = some v) (w : World) :
    ∃ u, (Go.binOp op t (.int k m) (.int k' n)).run P w = .ok u w ∧ ∀ G, VR G w v u := by
  have key : ∀ {k : IntKind} {z : Int}, ∀ G, VR G w (.int k z) (.int k z) := fun G => .int _ _
  have keyb : ∀ {z : Bool}, ∀ G, VR G w (.bool z) (.bool z) := fun G => .bool _
  cases op <;> simp only [binI] at h
  all_goals first
    | (split at h <;> first
        | (cases h; done)
        | (rename_i hk
           first
             | (subst hk
                first
                  | (obtain rfl := Option.some.inj h
                     refine ⟨_, ?_, key⟩
                     simp [Go.binOp, Op.intArith]
                     done)
                  | (obtain rfl := Option.some.inj h
                     refine ⟨_, ?_, keyb⟩
                     simp [Go.binOp, Op.intCmp]
                     done)
                  | (simp only [bitsI] at h
                     obtain rfl := Option.some.inj h
                     refine ⟨_, ?_, key⟩
                     simp [Go.binOp, Op.intBits]
                     done)
                  | (split at h
                     · cases h
                     · rename_i h0
                       obtain rfl := Option.some.inj h
                       refine ⟨_, ?_, key⟩
                       simp [Go.binOp, Op.intDiv, h0]))
             | (obtain rfl := Option.some.inj h
                refine ⟨_, ?_, key⟩
                simp [Go.binOp, Op.shift, hk]
                done)))
theorem str_eq {x y : List UInt8} : ((⟨x.toArray⟩ : ByteArray).toList == (⟨y.toArray⟩ : ByteArray).toList) = (x == y) := by
  simp [ByteArray.toList_eq]
theorem ok_binS {op : BinOp} {x y : List UInt8} {v : AV} {t : TypeId} (h : binS op x y = some v) (w : World) :
    ∃ u, (Go.binOp op t (.string ⟨x.toArray⟩) (.string ⟨y.toArray⟩)).run P w = .ok u w ∧ ∀ G, VR G w v u := by
  have keyb : ∀ {z : Bool}, ∀ G, VR G w (.bool z) (.bool z) := fun G => .bool _
  have e1 : (⟨x.toArray⟩ : ByteArray).toList = x := ByteArray.toList_mk x
  have e2 : (⟨y.toArray⟩ : ByteArray).toList = y := ByteArray.toList_mk y
  cases op <;> simp only [binS] at h
  case add =>
    split at h
    · rename_i hle
      obtain rfl := Option.some.inj h
      refine ⟨.string (⟨x.toArray⟩ ++ ⟨y.toArray⟩), ?_, fun G => ?_⟩
      · have h1 : (⟨x.toArray⟩ : ByteArray).size = x.length := by simp [ByteArray.size]
        have h2 : (⟨y.toArray⟩ : ByteArray).size = y.length := by simp [ByteArray.size]
        have hm : ¬ (((⟨x.toArray⟩ : ByteArray).size + (⟨y.toArray⟩ : ByteArray).size : Nat) : Int) > IntKind.i64.max := by
          rw [h1, h2]
          have : IntKind.i64.max = 9223372036854775807 := by decide
          omega
        simp only [Go.binOp, Op.stringOp, if_neg hm]
        rfl
      · have : (⟨x.toArray⟩ ++ ⟨y.toArray⟩ : ByteArray) = ⟨(x ++ y).toArray⟩ := by
          apply ByteArray.ext
          simp
        rw [this]
        exact VR.str_mk G w _
    · cases h
  all_goals first
    | (cases h; done)
    | (obtain rfl := Option.some.inj h
       refine ⟨_, ?_, keyb⟩
       simp only [Go.binOp, Op.stringOp, e1, e2]
       rfl)
theorem ok_bin {op : BinOp} {t t2 : TypeId} {x y : Operand} {x' y' : Arg} (ho : o.op = .binOp op t x y t2) (hx : argOf g x = some x') (hy : argOf g y = some y') : OpOK P g o (.bin op x' y') := by
  intro s a G H w v H' hw hs h
  have vx := argOf_VR hw hs hx
  have vy := argOf_VR hw hs hy
  simp only [aop] at h
  split at h
  · rename_i k m k' n h1 h2
    rw [h1] at vx
    rw [h2] at vy
    have e1 := vx.int_inv
    have e2 := vy.int_inv
    simp only [Option.map_eq_some_iff, Prod.mk.injEq] at h
    obtain ⟨v', hv', rfl, rfl⟩ := h
    obtain ⟨u, hr, hv⟩ := ok_binI (P := P) (t := t) hv' w
    refine OpOK.pure' hw (u := u) ?_ (hv G)
    have hgd := run_eqGuard_no (P := P) (op := op) (t := t) (x := x) (y := y) (u := .int k m) (v := .int k' n) w (fun c => by simp) (by simp)
    simp [execOp, ho, e1, e2, hgd, hr]
  · rename_i m n h1 h2
    rw [h1] at vx
    rw [h2] at vy
    have e1 := vx.str_inv
    have e2 := vy.str_inv
    simp only [Option.map_eq_some_iff, Prod.mk.injEq] at h
    obtain ⟨v', hv', rfl, rfl⟩ := h
    obtain ⟨u, hr, hv⟩ := ok_binS (P := P) (t := t) hv' w
    refine OpOK.pure' hw (u := u) ?_ (hv G)
    have hgd := run_eqGuard_no (P := P) (op := op) (t := t) (x := x) (y := y) (u := .string ⟨m.toArray⟩) (v := .string ⟨n.toArray⟩) w (fun c => by simp) (by simp)
    simp [execOp, ho, e1, e2, hgd, hr]
  · cases h
theorem equalIn_bool (d : Nat) {t : TypeId} (ht : P.underlying t = some .bool) (w : World) (m n : Bool) : (Op.equalIn (d + 1) t (.bool m) (.bool n)).run P w = .ok (m == n) w := by
  rw [Op.equalIn]
  simp only [Sem.run_bind, run_underlying ht w, Result.andThen_ok]
  rfl
theorem ok_eqb {op : BinOp} {neg : Bool} {t t2 : TypeId} {x y : Operand} {x' y' : Arg} (ho : o.op = .binOp op t x y t2) (hop : op = if neg then .neq else .eql) (ht : P.underlying t = some .bool)
    (hx : argOf g x = some x') (hy : argOf g y = some y') : OpOK P g o (.eqb neg x' y') := by
  intro s a G H w v H' hw hs h
  have vx := argOf_VR hw hs hx
  have vy := argOf_VR hw hs hy
  simp only [aop] at h
  split at h
  · rename_i m n h1 h2
    rw [h1] at vx
    rw [h2] at vy
    have e1 := vx.bool_inv
    have e2 := vy.bool_inv
    simp only [Option.some.injEq, Prod.mk.injEq] at h
    obtain ⟨rfl, rfl⟩ := h
    refine OpOK.pure' hw (u := .bool (if neg then !(m == n) else (m == n))) ?_ (.bool _)
    have hgd := run_eqGuard_no (P := P) (op := op) (t := t) (x := x) (y := y) (u := .bool m) (v := .bool n) w (fun c => by simp) (by simp)
    have heq : (Op.equal t (.bool m) (.bool n)).run P w = .ok (m == n) w := by
      exact equalIn_bool 9999 ht w m n
    subst hop
    cases neg <;> simp only [Bool.false_eq_true, if_false, if_true] at ho hgd <;> simp [execOp, ho, e1, e2, hgd, Go.binOp, heq]
  · cases h
theorem ok_un {op : UnOp} {t : TypeId} {x : Operand} {x' : Arg} (ho : o.op = .unOp op t x) (hx : argOf g x = some x') : OpOK P g o (.un op x') := by
  intro s a G H w v H' hw hs h
  have vx := argOf_VR hw hs hx
  simp only [aop, Option.map_eq_some_iff, Prod.mk.injEq] at h
  obtain ⟨v', hv', rfl, rfl⟩ := h
  unfold unA at hv'
  split at hv'
  · rename_i k n h1
    rw [h1] at vx
    have e1 := vx.int_inv
    split at hv'
    · obtain rfl := Option.some.inj hv'
      exact OpOK.pure' hw (u := .int k (k.wrap (0 - n))) (by simp [execOp, ho, e1, Op.unary, Op.intArith]) (.int _ _)
    · simp only [bitsI] at hv'
      obtain rfl := Option.some.inj hv'
      exact OpOK.pure' hw (u := .int k _) (by simp [execOp, ho, e1, Op.unary, Op.intBits]) (.int _ _)
    · cases hv'
  · rename_i b h1
    rw [h1] at vx
    have e1 := vx.bool_inv
    split at hv'
    · obtain rfl := Option.some.inj hv'
      exact OpOK.pure' hw (u := .bool !b) (by simp [execOp, ho, e1, Op.unary]) (.bool _)
    · cases hv'
  · cases hv'
theorem ok_convi {src dst : TypeId} {k : IntKind} {d : TypeDesc} {x : Operand} {x' : Arg} (ho : o.op = .convert src dst x) (hx : argOf g x = some x') (hs' : P.underlying src = some d)
    (hd : P.underlying dst = some (.int k)) : OpOK P g o (.convi k x') := by
  intro s a G H w v H' hw hs h
  have vx := argOf_VR hw hs hx
  simp only [aop] at h
  split at h
  · rename_i k' n h1
    rw [h1] at vx
    have e1 := vx.int_inv
    simp only [Option.some.injEq, Prod.mk.injEq] at h
    obtain ⟨rfl, rfl⟩ := h
    refine OpOK.pure' hw (u := .int k (k.wrap n)) ?_ (.int _ _)
    simp only [execOp, ho, e1, Go.convert, Sem.run_bind, run_underlying hs' w, run_underlying hd w, Result.andThen_ok, Conv.intToInt]
    rfl
  · cases h
theorem ok_convs {src dst : TypeId} {x : Operand} {x' : Arg} (ho : o.op = .convert src dst x) (hx : argOf g x = some x') (hs' : P.underlying src = some .string)
    (hd : P.underlying dst = some .string) : OpOK P g o (.convs x') := by
  intro s a G H w v H' hw hs h
  have vx := argOf_VR hw hs hx
  simp only [aop] at h
  split at h
  · rename_i str h1
    rw [h1] at vx
    have e1 := vx.str_inv
    simp only [Option.some.injEq, Prod.mk.injEq] at h
    obtain ⟨rfl, rfl⟩ := h
    refine OpOK.pure' hw (u := .string ⟨str.toArray⟩) ?_ (VR.str_mk _ _ _)
    simp only [execOp, ho, e1, Go.convert, Sem.run_bind, run_underlying hs' w, run_underlying hd w, Result.andThen_ok]
    rfl
  · cases h
theorem ok_tass {t ti : TypeId} {ok : Bool} {d : TypeDesc} {z : AV} {zv : Value} {x : Operand} {x' : Arg} (ho : o.op = .typeAssert x ti t ok) (hx : argOf g x = some x')
    (hd : P.underlying t = some d) (hni : ∀ ms, d ≠ .interface ms) (hz : zeroP P t = some zv) (hzc : ofConst zv = some z) : OpOK P g o (.tass t ok z x') := by
  intro s a G H w v H' hw hs h
  have vx := argOf_VR hw hs hx
  have hzero := run_zeroP hz w
  have hzr := ofConst_VR hzc G w
  have two : ∀ {p q : AV} {u1 u2 : Value}, VR G w p u1 → VR G w q u2 → VR G w (.tup [p, q]) (.tuple #[u1, u2]) := fun h1 h2 =>
    .tup [_, _] [_, _] rfl (h1.cons (h2.cons (VRs.nil G w))).2
  have hh : ∀ (y : Value) (r : Value), (Instr.typeAssert y ti t ok).run P w = .ok r w → a.eval x = y → (execOp a.eval o).run P w = .ok (.value r) w := fun y r hr he => by
    simp [execOp, ho, he, hr]
  have hd' : ∀ (ms : Array (String × TypeId)), d = TypeDesc.interface ms → False := fun ms he => hni ms he
  simp only [aop] at h
  split at h
  · rename_i t' y h1
    rw [h1] at vx
    generalize hxv : a.eval x = u at vx
    cases vx with
    | iface _ _ yv hy =>
      split at h
      · rename_i htt
        subst htt
        simp only [Option.some.injEq, Prod.mk.injEq] at h
        obtain ⟨rfl, rfl⟩ := h
        refine OpOK.pure' hw (u := if ok then .tuple #[yv, .bool true] else yv) (hh _ _ ?_ hxv) (by cases ok <;> simp <;> first | exact hy | exact two hy (.bool true))
        unfold Instr.typeAssert
        simp only [Sem.run_bind, run_underlying hd w, Result.andThen_ok]
        cases d <;> first | exact absurd rfl (hni _) | simp
      · rename_i htt
        split at h
        · rename_i hok
          simp only [Option.some.injEq, Prod.mk.injEq] at h
          obtain ⟨rfl, rfl⟩ := h
          refine OpOK.pure' hw (u := .tuple #[zv, .bool false]) (hh _ _ ?_ hxv) (two hzr (.bool false))
          unfold Instr.typeAssert
          simp only [Sem.run_bind, run_underlying hd w, Result.andThen_ok]
          cases d <;> first | exact absurd rfl (hni _) | simp [htt, hok, hzero]
        · cases h
  · rename_i h1
    rw [h1] at vx
    generalize hxv : a.eval x = u at vx
    cases vx
    split at h
    · rename_i hok
      simp only [Option.some.injEq, Prod.mk.injEq] at h
      obtain ⟨rfl, rfl⟩ := h
      refine OpOK.pure' hw (u := .tuple #[zv, .bool false]) (hh _ _ ?_ hxv) (two hzr (.bool false))
      unfold Instr.typeAssert
      simp only [Sem.run_bind, run_underlying hd w, Result.andThen_ok]
      cases d <;> first | exact absurd rfl (hni _) | simp [hok, hzero]
    · cases h
  · cases h
end
end Go.Av
end
