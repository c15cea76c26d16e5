/-
  STATEMENTS WHOSE ORDER IS OPEN, for simp.
-/
import Derived.Test.YtfdaiidepcbemaaDoorA21
set_option linter.unusedVariables false
set_option linter.unusedSimpArgs false
set_option linter.unusedSectionVars false
section
namespace Go.Av
open Go
def FD2 (P : Program) (g : Genv) (n : Nat) (pairs : List (Nat × Nat)) (base : Nat) : Nat → Nat → List ROper → List (Nat × Nat) → List (Nat × Heap × Heap) → Slt → Heap → (Slt → Heap → Prop) → Prop
  | _, _, [], _, _, f, H, Q => Q f H
  | i, k, r :: rs, rd, ef, f, H, Q =>
    if wantedF f r = true then
    match r.op with
    | .call c as => ∃ v H', FQStep P g r f H v H' ∧ H.next ≤ H'.next ∧ (∀ x ∈ rd, (x.1, i) ∈ pairs → H.get x.2 = H'.get x.2) ∧
          FD2 P g n pairs base (i + 1) k rs rd ((i, H, H') :: ef) (putF n f r.dst v) H' Q
    | .panic _ | .deferc _ _ => False
    | op =>
      if op.fresh then
        match fop (evF g f) op with
        | some (ob, val) => (∀ x ∈ ef, (i, x.1) ∈ pairs → x.2.1.get (base + k) = x.2.2.get (base + k)) ∧
          FD2 P g n pairs base (i + 1) (k + 1) rs ((i, base + k) :: rd) ef (putF n f r.dst (val (base + k))) (H.set (base + k) ob) Q
        | none => False
      else if op.eff then
        stepK (aop (evF g f) H op) fun v H' => H.next ≤ H'.next ∧ (∀ x ∈ rd, (x.1, i) ∈ pairs → H.get x.2 = H'.get x.2) ∧
          FD2 P g n pairs base (i + 1) k rs rd ((i, H, H') :: ef) (putF n f r.dst v) H' Q
      else
        stepK (aop (evF g f) H op) fun v H' => H' = H ∧ (∀ id, op.readsId (evF g f) = some id → ∀ x ∈ ef, (i, x.1) ∈ pairs → x.2.1.get id = x.2.2.get id) ∧
          FD2 P g n pairs base (i + 1) k rs (match op.readsId (evF g f) with | some id => (i, id) :: rd | none => rd) ef (putF n f r.dst v) H Q
    else FD2 P g n pairs base (i + 1) (if r.op.fresh then k + 1 else k) rs rd ef (putF n f r.dst undefA) H Q
section
variable {P : Program} {g : Genv} {n : Nat} {pairs : List (Nat × Nat)} {base : Nat}
theorem FD2_sound : ∀ (rl : List ROper) (i k : Nat) (rd : List (Nat × Nat)) (ef : List (Nat × Heap × Heap)) (f : Slt) (H : Heap) (Q : Slt → Heap → Prop), FD2 P g n pairs base i k rl rd ef f H Q → FDr P g n pairs base i k rl rd ef f H Q
  | [], i, k, rd, ef, f, H, Q, h => h
  | r :: rs, i, k, rd, ef, f, H, Q, h => by
    unfold FD2 at h
    unfold FDr
    split at h
    · rename_i hw
      rw [if_pos hw]
      split at h
      · rename_i c as hop
        obtain ⟨v, H', h1, h2, h3, h4⟩ := h
        rw [if_neg (by simp [hop, ROp.fresh]), if_pos (by simp [hop, ROp.eff])]
        exact ⟨v, H', h1, h2, h3, FD2_sound rs _ _ _ _ _ _ _ h4⟩
      · exact h.elim
      · exact h.elim
      · rename_i n1 n2 n3
        have hq : ∀ v H', aop (evF g f) H r.op = some (v, H') → FQStep P g r f H v H' := by
          intro v H' ha
          unfold FQStep
          split
          · rename_i c as hop; exact absurd hop (n1 c as)
          · rename_i x hop; exact absurd hop (n2 x)
          · rename_i c as hop; exact absurd hop (n3 c as)
          · exact ha
        split at h
        · rename_i hf
          rw [if_pos hf]
          split at h
          · rename_i ob val ho
            exact ⟨ob, val, ho, h.1, FD2_sound rs _ _ _ _ _ _ _ h.2⟩
          · exact h.elim
        · rename_i hf
          rw [if_neg hf]
          unfold stepK at h
          split at h
          · rename_i he
            rw [if_pos he]
            split at h
            · rename_i v H' ha
              exact ⟨v, H', hq v H' ha, h.1, h.2.1, FD2_sound rs _ _ _ _ _ _ _ h.2.2⟩
            · exact h.elim
          · rename_i he
            rw [if_neg he]
            split at h
            · rename_i v H' ha
              obtain ⟨rfl, h2, h3⟩ := h
              exact ⟨v, hq v _ ha, h2, FD2_sound rs _ _ _ _ _ _ _ h3⟩
            · exact h.elim
    · rename_i hw
      rw [if_neg hw]
      exact FD2_sound rs _ _ _ _ _ _ _ h
variable {ds : List Dfr} {Q : FQ} {f : Slt} {H : Heap}
theorem FC_draw0 {rl : List ROper} (h0 : rl.countP (·.op.fresh) = 0) (h : FD2 P g n pairs H.next 0 0 rl [] [] f H fun f' H' => Q .normal f' ds H') : FC P g n (.draw rl pairs) f ds H Q := by
  refine ⟨by rw [h0]; rfl, ?_⟩
  rw [h0]
  exact FD2_sound _ _ _ _ _ _ _ _ h
theorem FC_draw {rl : List ROper} (c : Nat) (h0 : rl.countP (·.op.fresh) = c) (hf : freeAt H c = true) (h : FD2 P g n pairs H.next 0 0 rl [] [] f { H with next := H.next + c } fun f' H' => Q .normal f' ds H') : FC P g n (.draw rl pairs) f ds H Q := by
  refine ⟨by rw [h0]; exact hf, ?_⟩
  rw [h0]
  exact FD2_sound _ _ _ _ _ _ _ _ h
theorem FC_draw' {rl : List ROper} (c : Nat) (h0 : rl.countP (·.op.fresh) = c) (hf : freeAt H c = true)
    (h : ∀ H1 : Heap, H1.next = H.next + c → (∀ id, H1.get id = H.get id) → FD2 P g n pairs H.next 0 0 rl [] [] f H1 fun f' H' => Q .normal f' ds H') : FC P g n (.draw rl pairs) f ds H Q :=
  FC_draw c h0 hf (h _ rfl fun _ => rfl)
theorem Heap.get_nil (n m : Nat) : Heap.get ⟨n, .nil⟩ m = none := rfl
variable {i k : Nat} {rs : List ROper} {rd : List (Nat × Nat)} {ef : List (Nat × Heap × Heap)} {R : Slt → Heap → Prop}
theorem FD2_nil : FD2 P g n pairs base i k [] rd ef f H R = R f H := eq_of_iff id id
theorem FD2_plain (d : Nat) (op : ROp) (hp : op.plain = true) (hf : op.fresh = false) (he : op.eff = false) (hd : d < n) :
    FD2 P g n pairs base i k (⟨some d, op, none⟩ :: rs) rd ef f H R = stepK (aop (evF g f) H op) fun v H' => H' = H ∧ (∀ id, op.readsId (evF g f) = some id → ∀ x ∈ ef, (i, x.1) ∈ pairs → x.2.1.get id = x.2.2.get id) ∧
          FD2 P g n pairs base (i + 1) k rs (match op.readsId (evF g f) with | some id => (i, id) :: rd | none => rd) ef (upd f d v) H R := by
  have : ∀ v, putF n f (some d) v = upd f d v := fun v => by simp [putF, hd]
  conv => lhs; unfold FD2
  rw [if_pos (by rfl)]
  simp only [hf, he, this]
  cases op <;> first | rfl | (simp [ROp.fresh] at hf; done) | (simp [ROp.eff] at he; done) | (simp [ROp.plain] at hp; done)
theorem FD2_store (m : Nat) (a x : Arg) :
    FD2 P g n pairs base i k (⟨none, .store m a x, none⟩ :: rs) rd ef f H R = stepK (aop (evF g f) H (.store m a x)) fun v H' => H.next ≤ H'.next ∧ (∀ x ∈ rd, (x.1, i) ∈ pairs → H.get x.2 = H'.get x.2) ∧
          FD2 P g n pairs base (i + 1) k rs rd ((i, H, H') :: ef) f H' R := by
  conv => lhs; unfold FD2
  rw [if_pos (by rfl)]
  simp only [ROp.fresh, ROp.eff, Bool.false_eq_true, if_false, if_true, putF]
theorem FD2_alloc (d : Nat) (z : List AV) (hd : d < n) :
    FD2 P g n pairs base i k (⟨some d, .alloc z, none⟩ :: rs) rd ef f H R = ((∀ x ∈ ef, (i, x.1) ∈ pairs → x.2.1.get (base + k) = x.2.2.get (base + k)) ∧
          FD2 P g n pairs base (i + 1) (k + 1) rs ((i, base + k) :: rd) ef (upd f d (.ref (base + k) 0)) (H.set (base + k) (.cells z false)) R) := by
  have : ∀ v, putF n f (some d) v = upd f d v := fun v => by simp [putF, hd]
  conv => lhs; unfold FD2
  rw [if_pos (by rfl)]
  simp only [ROp.fresh, if_true, fop, this]
theorem FD2_append (d : Nat) (sz bytes : Nat) (mu : Bool) (x y : Arg) (hd : d < n) :
    FD2 P g n pairs base i k (⟨some d, .append sz bytes mu x y, none⟩ :: rs) rd ef f H R = stepK (aop (evF g f) H (.append sz bytes mu x y)) fun v H' => H.next ≤ H'.next ∧ (∀ x ∈ rd, (x.1, i) ∈ pairs → H.get x.2 = H'.get x.2) ∧
          FD2 P g n pairs base (i + 1) k rs rd ((i, H, H') :: ef) (upd f d v) H' R := by
  have : ∀ v, putF n f (some d) v = upd f d v := fun v => by simp [putF, hd]
  conv => lhs; unfold FD2
  rw [if_pos (by rfl)]
  simp only [ROp.fresh, ROp.eff, Bool.false_eq_true, if_false, if_true, this]
/-- a call, by its contract -/
theorem FD2_call {d : Nat} {fid : FuncId} {as : List Arg} {args : List AV} {v : AV} {H' : Heap} (hd : d < n) (ha : as.map (evF g f) = args) (hS : Sound P g fid args H (.ret v) H') (hn : H.next ≤ H'.next)
    (hr : ∀ x ∈ rd, (x.1, i) ∈ pairs → H.get x.2 = H'.get x.2)
    (h : FD2 P g n pairs base (i + 1) k rs rd ((i, H, H') :: ef) (upd f d v) H' R) : FD2 P g n pairs base i k (⟨some d, .call (.const (.func (.func fid) [] [])) as, none⟩ :: rs) rd ef f H R := by
  have : ∀ v, putF n f (some d) v = upd f d v := fun v => by simp [putF, hd]
  unfold FD2
  rw [if_pos (by rfl)]
  simp only [this]
  refine ⟨v, H', ?_, hn, hr, h⟩
  exact ⟨(fid, [], []), rfl, by simpa [ha] using hS⟩
/-- a guarded one -/
theorem guardK_wanted (d : Option Nat) (x : Nat) (b : Bool) (op : ROp) (A B : Prop) : guardK (f x) b A B = if wantedF f ⟨d, op, some (x, b)⟩ = true then A else B := by
  by_cases hw : wantedF f ⟨d, op, some (x, b)⟩ = true
  · rw [if_pos hw]
    unfold wantedF at hw
    dsimp only at hw
    split at hw
    · rename_i c hc
      rw [hc]
      unfold guardK
      dsimp only
      rw [if_pos (by simpa using hw)]
    · cases hw
  · rw [if_neg hw]
    unfold wantedF at hw
    dsimp only at hw
    unfold guardK
    split
    · rename_i c hc
      rw [hc] at hw
      rw [if_neg (by simpa using hw)]
    · rfl
theorem FD2_g (d x : Nat) (b : Bool) (op : ROp) (hd : d < n) :
    FD2 P g n pairs base i k (⟨some d, op, some (x, b)⟩ :: rs) rd ef f H R = guardK (f x) b (FD2 P g n pairs base i k (⟨some d, op, none⟩ :: rs) rd ef f H R) (FD2 P g n pairs base (i + 1) (if op.fresh then k + 1 else k) rs rd ef (upd f d undefA) H R) := by
  have : ∀ v, putF n f (some d) v = upd f d v := fun v => by simp [putF, hd]
  rw [guardK_wanted (some d) x b op]
  by_cases hw : wantedF f ⟨some d, op, some (x, b)⟩ = true
  · rw [if_pos hw]
    conv => lhs; unfold FD2
    conv => rhs; unfold FD2
    rw [if_pos hw, if_pos (by rfl)]
    rfl
  · rw [if_neg hw]
    conv => lhs; unfold FD2
    rw [if_neg hw, this]
theorem FD2_congr {f' : Slt} {rl : List ROper} (h : f = f') : FD2 P g n pairs base i k rl rd ef f H R = FD2 P g n pairs base i k rl rd ef f' H R := by rw [h]
end
theorem symF (P : Program) (g : Genv) (n : Nat) :
    (∀ (pairs : List (Nat × Nat)) (base i k : Nat) (rs : List ROper) (rd : List (Nat × Nat)) (ef : List (Nat × Heap × Heap)) (f : Slt) (H : Heap) (R : Slt → Heap → Prop), FD2 P g n pairs base i k [] rd ef f H R = R f H) ∧
    (∀ (pairs : List (Nat × Nat)) (base i k : Nat) (rs : List ROper) (rd : List (Nat × Nat)) (ef : List (Nat × Heap × Heap)) (f : Slt) (H : Heap) (R : Slt → Heap → Prop) (d : Nat) (op : ROp) (hp : op.plain = true) (hf : op.fresh = false) (he : op.eff = false) (hd : d < n),
      FD2 P g n pairs base i k (⟨some d, op, none⟩ :: rs) rd ef f H R = stepK (aop (evF g f) H op) fun v H' => H' = H ∧ (∀ id, op.readsId (evF g f) = some id → ∀ x ∈ ef, (i, x.1) ∈ pairs → x.2.1.get id = x.2.2.get id) ∧
          FD2 P g n pairs base (i + 1) k rs (match op.readsId (evF g f) with | some id => (i, id) :: rd | none => rd) ef (upd f d v) H R) ∧
    (∀ (pairs : List (Nat × Nat)) (base i k : Nat) (rs : List ROper) (rd : List (Nat × Nat)) (ef : List (Nat × Heap × Heap)) (f : Slt) (H : Heap) (R : Slt → Heap → Prop) (m : Nat) (a x : Arg),
      FD2 P g n pairs base i k (⟨none, .store m a x, none⟩ :: rs) rd ef f H R = stepK (aop (evF g f) H (.store m a x)) fun v H' => H.next ≤ H'.next ∧ (∀ x ∈ rd, (x.1, i) ∈ pairs → H.get x.2 = H'.get x.2) ∧
          FD2 P g n pairs base (i + 1) k rs rd ((i, H, H') :: ef) f H' R) ∧
    (∀ (pairs : List (Nat × Nat)) (base i k : Nat) (rs : List ROper) (rd : List (Nat × Nat)) (ef : List (Nat × Heap × Heap)) (f : Slt) (H : Heap) (R : Slt → Heap → Prop) (d : Nat) (z : List AV) (hd : d < n),
      FD2 P g n pairs base i k (⟨some d, .alloc z, none⟩ :: rs) rd ef f H R = ((∀ x ∈ ef, (i, x.1) ∈ pairs → x.2.1.get (base + k) = x.2.2.get (base + k)) ∧
          FD2 P g n pairs base (i + 1) (k + 1) rs ((i, base + k) :: rd) ef (upd f d (.ref (base + k) 0)) (H.set (base + k) (.cells z false)) R)) ∧
    (∀ (pairs : List (Nat × Nat)) (base i k : Nat) (rs : List ROper) (rd : List (Nat × Nat)) (ef : List (Nat × Heap × Heap)) (f : Slt) (H : Heap) (R : Slt → Heap → Prop) (d sz bytes : Nat) (mu : Bool) (x y : Arg) (hd : d < n),
      FD2 P g n pairs base i k (⟨some d, .append sz bytes mu x y, none⟩ :: rs) rd ef f H R = stepK (aop (evF g f) H (.append sz bytes mu x y)) fun v H' => H.next ≤ H'.next ∧ (∀ x ∈ rd, (x.1, i) ∈ pairs → H.get x.2 = H'.get x.2) ∧
          FD2 P g n pairs base (i + 1) k rs rd ((i, H, H') :: ef) (upd f d v) H' R) ∧
    (∀ (pairs : List (Nat × Nat)) (base i k : Nat) (rs : List ROper) (rd : List (Nat × Nat)) (ef : List (Nat × Heap × Heap)) (f : Slt) (H : Heap) (R : Slt → Heap → Prop) (d x : Nat) (b : Bool) (op : ROp) (hd : d < n),
      FD2 P g n pairs base i k (⟨some d, op, some (x, b)⟩ :: rs) rd ef f H R = guardK (f x) b (FD2 P g n pairs base i k (⟨some d, op, none⟩ :: rs) rd ef f H R) (FD2 P g n pairs base (i + 1) (if op.fresh then k + 1 else k) rs rd ef (upd f d undefA) H R)) :=
  ⟨fun _ _ _ _ _ _ _ _ _ _ => FD2_nil, fun _ _ _ _ _ _ _ _ _ _ d op hp hf he hd => FD2_plain d op hp hf he hd, fun _ _ _ _ _ _ _ _ _ _ m a x => FD2_store m a x,
   fun _ _ _ _ _ _ _ _ _ _ d z hd => FD2_alloc d z hd, fun _ _ _ _ _ _ _ _ _ _ d sz bytes mu x y hd => FD2_append d sz bytes mu x y hd,
   fun _ _ _ _ _ _ _ _ _ _ d x b op hd => FD2_g d x b op hd⟩
theorem slice_mid (tag sz : Nat) {els : List (List AV)} {a b : Nat} (hab : a ≤ b) (hb : b ≤ els.length) : ∃ tag', sliceA sz (.lst tag sz els) (some a) (some b) none = some (.lst tag' sz ((els.drop a).take (b - a))) := by
  simp only [sliceA, Option.getD_some]
  rw [if_pos ⟨trivial, hab, hb⟩]
  by_cases h : b = els.length ∧ (a < b ∨ tag < 2)
  · rw [if_pos h]
    refine ⟨tag, ?_⟩
    rw [List.take_of_length_le (by simp; omega)]
  · rw [if_neg h]
    exact ⟨0, rfl⟩
/-! ### 'for i := range 64' -/
def rangeLoopC (id cmp ix nx : Nat) (N : Int) (B : ACode) : ACode :=
  .block id (.loop (.seq (.ops [⟨some cmp, .bin .lss (.tmp ix) (.const (.int .i64 N)), none⟩]) (.seq (.cond (.tmp cmp) .skip (.exit id)) (.seq B
    (.ops [⟨some nx, .bin .add (.tmp ix) (.const (.int .i64 1)), none⟩, ⟨some ix, .mov (.tmp nx), none⟩])))))
theorem FC_rangeC {P : Program} {g : Genv} {n : Nat} {id cmp ix nx : Nat} {B : ACode} {f : Slt} {ds : List Dfr} {H : Heap} {Q : FQ} (J : Nat → Slt → Heap → Prop) (N : Nat) {N' : Int} (hN : (N : Int) < 2^63)
    (hNN : N' = (N : Int))
    (hs : cmp < n ∧ ix < n ∧ nx < n ∧ cmp ≠ ix ∧ nx ≠ ix)
    (h1 : f ix = .int .i64 0) (h0 : J 0 f H)
    (st : ∀ (i : Nat) (f : Slt) (H : Heap) (d : Nat) (v : AV), d = cmp ∨ d = nx ∨ d = ix → J i f H → J i (upd f d v) H)
    (body : ∀ (i : Nat) (f : Slt) (H : Heap), i < N → f ix = .int .i64 i → J i f H →
      FC P g n B f ds H (thenF (fun f' ds' H' => ds' = ds ∧ f' ix = .int .i64 i ∧ J (i + 1) f' H') (inBlockF id Q)))
    (done : ∀ (f : Slt) (H : Heap), J N f H → Q .normal f ds H) : FC P g n (rangeLoopC id cmp ix nx N' B) f ds H Q := by
  subst hNN
  obtain ⟨s1, s2, s3, s4, s7⟩ := hs
  refine FC_block (FC_loop (fun m f' ds' H' => ds' = ds ∧ ∃ i : Nat, i ≤ N ∧ m = N - i ∧ f' ix = .int .i64 i ∧ J i f' H') N ⟨rfl, 0, Nat.zero_le _, by omega, h1, h0⟩ ?_)
  rintro m f1 ds1 H1 ⟨rfl, i, hi, rfl, e1, e3⟩
  refine FC_seq fun K hK => ?_
  rw [FC_ops, FOps_bin _ _ _ _ s1]
  simp only [aop, evF_tmp, evF_const, e1, binI, if_true, Option.map_some, stepK_some, FOps_nil, thenF_normal]
  apply hK
  clear hK K
  have st1 := st i f1 H1 cmp (.bool (decide ((i : Int) < N))) (.inl rfl) e3
  refine FC_seq fun K hK => FC_cond (decide ((i : Int) < N)) (by rw [evF_tmp, upd_same]) (fun ht => ?_) (fun ht => ?_)
  · rw [FC_skip, thenF_normal]
    apply hK
    clear hK K
    have hlt : i < N := by have := of_decide_eq_true ht; omega
    refine FC_seq fun K hK => ?_
    have hb := body i _ H1 hlt (by rw [upd_ne _ _ (Ne.symm s4)]; exact e1) st1
    have mono : ∀ {c : ACode} {f : Slt} {ds : List Dfr} {H : Heap} {Q Q' : FQ}, (∀ e f ds H, Q e f ds H → Q' e f ds H) → FC P g n c f ds H Q → FC P g n c f ds H Q' := fun {c f ds H Q Q'} hq h => FC_mono hq h
    refine mono (fun e f2 ds2 H2 h => ?_) hb
    cases e with
    | normal =>
      obtain ⟨rfl, b1, b3⟩ := h
      show K f2 ds2 H2
      apply hK
      rw [FC_ops, FOps_bin _ _ _ _ s3]
      have hw : IntKind.i64.wrap ((i : Int) + 1) = ((i + 1 : Nat) : Int) := by rw [wrap_i64 (by omega) (by omega)]; rfl
      simp only [aop, evF_tmp, evF_const, b1, binI, if_true, Option.map_some, stepK_some]
      rw [FOps_mov _ _ s2]
      simp only [aop, evF_tmp, stepK_some, FOps_nil, thenF_normal, upd_same, hw]
      exact ⟨N - (i + 1), by omega, trivial, i + 1, by omega, rfl, rfl, st _ _ _ _ _ (.inr (.inr rfl)) (st _ _ _ _ _ (.inr (.inl rfl)) b3)⟩
    | _ => exact h
  · rw [FC_exit, thenF_exit, thenF_exit, inBlockF_exit]
    have hge : i = N := by have := of_decide_eq_false ht; omega
    subst hge
    exact done _ _ st1
theorem symFp (P : Program) (g : Genv) (n : Nat) :
    (∀ pairs base i0 k0 rs rd ef f H R (d : Nat) (x : Arg) (hd : d < n),
      FD2 P g n pairs base i0 k0 (⟨some d, (.mov x), none⟩ :: rs) rd ef f H R = stepK (aop (evF g f) H (.mov x)) fun v H' => H' = H ∧ (∀ id, ROp.readsId (evF g f) (.mov x) = some id → ∀ x0 ∈ ef, (i0, x0.1) ∈ pairs → x0.2.1.get id = x0.2.2.get id) ∧
          FD2 P g n pairs base (i0 + 1) k0 rs (match ROp.readsId (evF g f) (.mov x) with | some id => (i0, id) :: rd | none => rd) ef (upd f d v) H R) ∧
    (∀ pairs base i0 k0 rs rd ef f H R (d : Nat) (c a b : Arg) (hd : d < n),
      FD2 P g n pairs base i0 k0 (⟨some d, (.pick c a b), none⟩ :: rs) rd ef f H R = stepK (aop (evF g f) H (.pick c a b)) fun v H' => H' = H ∧ (∀ id, ROp.readsId (evF g f) (.pick c a b) = some id → ∀ x0 ∈ ef, (i0, x0.1) ∈ pairs → x0.2.1.get id = x0.2.2.get id) ∧
          FD2 P g n pairs base (i0 + 1) k0 rs (match ROp.readsId (evF g f) (.pick c a b) with | some id => (i0, id) :: rd | none => rd) ef (upd f d v) H R) ∧
    (∀ pairs base i0 k0 rs rd ef f H R (d : Nat) (z : List AV) (ps : List (Nat × Nat × Arg)) (hd : d < n),
      FD2 P g n pairs base i0 k0 (⟨some d, (.build z ps), none⟩ :: rs) rd ef f H R = stepK (aop (evF g f) H (.build z ps)) fun v H' => H' = H ∧ (∀ id, ROp.readsId (evF g f) (.build z ps) = some id → ∀ x0 ∈ ef, (i0, x0.1) ∈ pairs → x0.2.1.get id = x0.2.2.get id) ∧
          FD2 P g n pairs base (i0 + 1) k0 rs (match ROp.readsId (evF g f) (.build z ps) with | some id => (i0, id) :: rd | none => rd) ef (upd f d v) H R) ∧
    (∀ pairs base i0 k0 rs rd ef f H R (d : Nat) (sz : Nat) (xs : List Arg) (hd : d < n),
      FD2 P g n pairs base i0 k0 (⟨some d, (.mklit sz xs), none⟩ :: rs) rd ef f H R = stepK (aop (evF g f) H (.mklit sz xs)) fun v H' => H' = H ∧ (∀ id, ROp.readsId (evF g f) (.mklit sz xs) = some id → ∀ x0 ∈ ef, (i0, x0.1) ∈ pairs → x0.2.1.get id = x0.2.2.get id) ∧
          FD2 P g n pairs base (i0 + 1) k0 rs (match ROp.readsId (evF g f) (.mklit sz xs) with | some id => (i0, id) :: rd | none => rd) ef (upd f d v) H R) ∧
    (∀ pairs base i0 k0 rs rd ef f H R (d : Nat) (agg : Bool) (m : Nat) (a : Arg) (hd : d < n),
      FD2 P g n pairs base i0 k0 (⟨some d, (.load agg m a), none⟩ :: rs) rd ef f H R = stepK (aop (evF g f) H (.load agg m a)) fun v H' => H' = H ∧ (∀ id, ROp.readsId (evF g f) (.load agg m a) = some id → ∀ x0 ∈ ef, (i0, x0.1) ∈ pairs → x0.2.1.get id = x0.2.2.get id) ∧
          FD2 P g n pairs base (i0 + 1) k0 rs (match ROp.readsId (evF g f) (.load agg m a) with | some id => (i0, id) :: rd | none => rd) ef (upd f d v) H R) ∧
    (∀ pairs base i0 k0 rs rd ef f H R (d : Nat) (x : Arg) (hd : d < n),
      FD2 P g n pairs base i0 k0 (⟨some d, (.nilck x), none⟩ :: rs) rd ef f H R = stepK (aop (evF g f) H (.nilck x)) fun v H' => H' = H ∧ (∀ id, ROp.readsId (evF g f) (.nilck x) = some id → ∀ x0 ∈ ef, (i0, x0.1) ∈ pairs → x0.2.1.get id = x0.2.2.get id) ∧
          FD2 P g n pairs base (i0 + 1) k0 rs (match ROp.readsId (evF g f) (.nilck x) with | some id => (i0, id) :: rd | none => rd) ef (upd f d v) H R) ∧
    (∀ pairs base i0 k0 rs rd ef f H R (d : Nat) (o : BinOp) (x y : Arg) (hd : d < n),
      FD2 P g n pairs base i0 k0 (⟨some d, (.bin o x y), none⟩ :: rs) rd ef f H R = stepK (aop (evF g f) H (.bin o x y)) fun v H' => H' = H ∧ (∀ id, ROp.readsId (evF g f) (.bin o x y) = some id → ∀ x0 ∈ ef, (i0, x0.1) ∈ pairs → x0.2.1.get id = x0.2.2.get id) ∧
          FD2 P g n pairs base (i0 + 1) k0 rs (match ROp.readsId (evF g f) (.bin o x y) with | some id => (i0, id) :: rd | none => rd) ef (upd f d v) H R) ∧
    (∀ pairs base i0 k0 rs rd ef f H R (d : Nat) (neg : Bool) (x y : Arg) (hd : d < n),
      FD2 P g n pairs base i0 k0 (⟨some d, (.eqb neg x y), none⟩ :: rs) rd ef f H R = stepK (aop (evF g f) H (.eqb neg x y)) fun v H' => H' = H ∧ (∀ id, ROp.readsId (evF g f) (.eqb neg x y) = some id → ∀ x0 ∈ ef, (i0, x0.1) ∈ pairs → x0.2.1.get id = x0.2.2.get id) ∧
          FD2 P g n pairs base (i0 + 1) k0 rs (match ROp.readsId (evF g f) (.eqb neg x y) with | some id => (i0, id) :: rd | none => rd) ef (upd f d v) H R) ∧
    (∀ pairs base i0 k0 rs rd ef f H R (d : Nat) (neg : Bool) (sh : List Sk) (x y : Arg) (hd : d < n),
      FD2 P g n pairs base i0 k0 (⟨some d, (.eqf neg sh x y), none⟩ :: rs) rd ef f H R = stepK (aop (evF g f) H (.eqf neg sh x y)) fun v H' => H' = H ∧ (∀ id, ROp.readsId (evF g f) (.eqf neg sh x y) = some id → ∀ x0 ∈ ef, (i0, x0.1) ∈ pairs → x0.2.1.get id = x0.2.2.get id) ∧
          FD2 P g n pairs base (i0 + 1) k0 rs (match ROp.readsId (evF g f) (.eqf neg sh x y) with | some id => (i0, id) :: rd | none => rd) ef (upd f d v) H R) ∧
    (∀ pairs base i0 k0 rs rd ef f H R (d : Nat) (neg : Bool) (k : Nk) (lit : Bool) (x y : Arg) (hd : d < n),
      FD2 P g n pairs base i0 k0 (⟨some d, (.eqn neg k lit x y), none⟩ :: rs) rd ef f H R = stepK (aop (evF g f) H (.eqn neg k lit x y)) fun v H' => H' = H ∧ (∀ id, ROp.readsId (evF g f) (.eqn neg k lit x y) = some id → ∀ x0 ∈ ef, (i0, x0.1) ∈ pairs → x0.2.1.get id = x0.2.2.get id) ∧
          FD2 P g n pairs base (i0 + 1) k0 rs (match ROp.readsId (evF g f) (.eqn neg k lit x y) with | some id => (i0, id) :: rd | none => rd) ef (upd f d v) H R) ∧
    (∀ pairs base i0 k0 rs rd ef f H R (d : Nat) (o : UnOp) (x : Arg) (hd : d < n),
      FD2 P g n pairs base i0 k0 (⟨some d, (.un o x), none⟩ :: rs) rd ef f H R = stepK (aop (evF g f) H (.un o x)) fun v H' => H' = H ∧ (∀ id, ROp.readsId (evF g f) (.un o x) = some id → ∀ x0 ∈ ef, (i0, x0.1) ∈ pairs → x0.2.1.get id = x0.2.2.get id) ∧
          FD2 P g n pairs base (i0 + 1) k0 rs (match ROp.readsId (evF g f) (.un o x) with | some id => (i0, id) :: rd | none => rd) ef (upd f d v) H R) ∧
    (∀ pairs base i0 k0 rs rd ef f H R (d : Nat) (k : IntKind) (x : Arg) (hd : d < n),
      FD2 P g n pairs base i0 k0 (⟨some d, (.convi k x), none⟩ :: rs) rd ef f H R = stepK (aop (evF g f) H (.convi k x)) fun v H' => H' = H ∧ (∀ id, ROp.readsId (evF g f) (.convi k x) = some id → ∀ x0 ∈ ef, (i0, x0.1) ∈ pairs → x0.2.1.get id = x0.2.2.get id) ∧
          FD2 P g n pairs base (i0 + 1) k0 rs (match ROp.readsId (evF g f) (.convi k x) with | some id => (i0, id) :: rd | none => rd) ef (upd f d v) H R) ∧
    (∀ pairs base i0 k0 rs rd ef f H R (d : Nat) (x : Arg) (hd : d < n),
      FD2 P g n pairs base i0 k0 (⟨some d, (.convs x), none⟩ :: rs) rd ef f H R = stepK (aop (evF g f) H (.convs x)) fun v H' => H' = H ∧ (∀ id, ROp.readsId (evF g f) (.convs x) = some id → ∀ x0 ∈ ef, (i0, x0.1) ∈ pairs → x0.2.1.get id = x0.2.2.get id) ∧
          FD2 P g n pairs base (i0 + 1) k0 rs (match ROp.readsId (evF g f) (.convs x) with | some id => (i0, id) :: rd | none => rd) ef (upd f d v) H R) ∧
    (∀ pairs base i0 k0 rs rd ef f H R (d : Nat) (x : Arg) (hd : d < n),
      FD2 P g n pairs base i0 k0 (⟨some d, (.b2str x), none⟩ :: rs) rd ef f H R = stepK (aop (evF g f) H (.b2str x)) fun v H' => H' = H ∧ (∀ id, ROp.readsId (evF g f) (.b2str x) = some id → ∀ x0 ∈ ef, (i0, x0.1) ∈ pairs → x0.2.1.get id = x0.2.2.get id) ∧
          FD2 P g n pairs base (i0 + 1) k0 rs (match ROp.readsId (evF g f) (.b2str x) with | some id => (i0, id) :: rd | none => rd) ef (upd f d v) H R) ∧
    (∀ pairs base i0 k0 rs rd ef f H R (d : Nat) (m : Nat) (x : Arg) (hd : d < n),
      FD2 P g n pairs base i0 k0 (⟨some d, (.s2ap m x), none⟩ :: rs) rd ef f H R = stepK (aop (evF g f) H (.s2ap m x)) fun v H' => H' = H ∧ (∀ id, ROp.readsId (evF g f) (.s2ap m x) = some id → ∀ x0 ∈ ef, (i0, x0.1) ∈ pairs → x0.2.1.get id = x0.2.2.get id) ∧
          FD2 P g n pairs base (i0 + 1) k0 rs (match ROp.readsId (evF g f) (.s2ap m x) with | some id => (i0, id) :: rd | none => rd) ef (upd f d v) H R) ∧
    (∀ pairs base i0 k0 rs rd ef f H R (d : Nat) (t : TypeId) (x : Arg) (hd : d < n),
      FD2 P g n pairs base i0 k0 (⟨some d, (.mkif t x), none⟩ :: rs) rd ef f H R = stepK (aop (evF g f) H (.mkif t x)) fun v H' => H' = H ∧ (∀ id, ROp.readsId (evF g f) (.mkif t x) = some id → ∀ x0 ∈ ef, (i0, x0.1) ∈ pairs → x0.2.1.get id = x0.2.2.get id) ∧
          FD2 P g n pairs base (i0 + 1) k0 rs (match ROp.readsId (evF g f) (.mkif t x) with | some id => (i0, id) :: rd | none => rd) ef (upd f d v) H R) ∧
    (∀ pairs base i0 k0 rs rd ef f H R (d : Nat) (fn : Fn) (a b : List Arg) (hd : d < n),
      FD2 P g n pairs base i0 k0 (⟨some d, (.mkfn fn a b), none⟩ :: rs) rd ef f H R = stepK (aop (evF g f) H (.mkfn fn a b)) fun v H' => H' = H ∧ (∀ id, ROp.readsId (evF g f) (.mkfn fn a b) = some id → ∀ x0 ∈ ef, (i0, x0.1) ∈ pairs → x0.2.1.get id = x0.2.2.get id) ∧
          FD2 P g n pairs base (i0 + 1) k0 rs (match ROp.readsId (evF g f) (.mkfn fn a b) with | some id => (i0, id) :: rd | none => rd) ef (upd f d v) H R) ∧
    (∀ pairs base i0 k0 rs rd ef f H R (d : Nat) (x : Arg) (lo hi : Option Arg) (hd : d < n),
      FD2 P g n pairs base i0 k0 (⟨some d, (.slstr x lo hi), none⟩ :: rs) rd ef f H R = stepK (aop (evF g f) H (.slstr x lo hi)) fun v H' => H' = H ∧ (∀ id, ROp.readsId (evF g f) (.slstr x lo hi) = some id → ∀ x0 ∈ ef, (i0, x0.1) ∈ pairs → x0.2.1.get id = x0.2.2.get id) ∧
          FD2 P g n pairs base (i0 + 1) k0 rs (match ROp.readsId (evF g f) (.slstr x lo hi) with | some id => (i0, id) :: rd | none => rd) ef (upd f d v) H R) ∧
    (∀ pairs base i0 k0 rs rd ef f H R (d : Nat) (sz : Nat) (x : Arg) (lo hi mx : Option Arg) (hd : d < n),
      FD2 P g n pairs base i0 k0 (⟨some d, (.slsl sz x lo hi mx), none⟩ :: rs) rd ef f H R = stepK (aop (evF g f) H (.slsl sz x lo hi mx)) fun v H' => H' = H ∧ (∀ id, ROp.readsId (evF g f) (.slsl sz x lo hi mx) = some id → ∀ x0 ∈ ef, (i0, x0.1) ∈ pairs → x0.2.1.get id = x0.2.2.get id) ∧
          FD2 P g n pairs base (i0 + 1) k0 rs (match ROp.readsId (evF g f) (.slsl sz x lo hi mx) with | some id => (i0, id) :: rd | none => rd) ef (upd f d v) H R) ∧
    (∀ pairs base i0 k0 rs rd ef f H R (d : Nat) (m sz : Nat) (x : Arg) (lo hi mx : Option Arg) (hd : d < n),
      FD2 P g n pairs base i0 k0 (⟨some d, (.slarr m sz x lo hi mx), none⟩ :: rs) rd ef f H R = stepK (aop (evF g f) H (.slarr m sz x lo hi mx)) fun v H' => H' = H ∧ (∀ id, ROp.readsId (evF g f) (.slarr m sz x lo hi mx) = some id → ∀ x0 ∈ ef, (i0, x0.1) ∈ pairs → x0.2.1.get id = x0.2.2.get id) ∧
          FD2 P g n pairs base (i0 + 1) k0 rs (match ROp.readsId (evF g f) (.slarr m sz x lo hi mx) with | some id => (i0, id) :: rd | none => rd) ef (upd f d v) H R) ∧
    (∀ pairs base i0 k0 rs rd ef f H R (d : Nat) (off : Nat) (x : Arg) (hd : d < n),
      FD2 P g n pairs base i0 k0 (⟨some d, (.fadr off x), none⟩ :: rs) rd ef f H R = stepK (aop (evF g f) H (.fadr off x)) fun v H' => H' = H ∧ (∀ id, ROp.readsId (evF g f) (.fadr off x) = some id → ∀ x0 ∈ ef, (i0, x0.1) ∈ pairs → x0.2.1.get id = x0.2.2.get id) ∧
          FD2 P g n pairs base (i0 + 1) k0 rs (match ROp.readsId (evF g f) (.fadr off x) with | some id => (i0, id) :: rd | none => rd) ef (upd f d v) H R) ∧
    (∀ pairs base i0 k0 rs rd ef f H R (d : Nat) (off m : Nat) (agg : Bool) (x : Arg) (hd : d < n),
      FD2 P g n pairs base i0 k0 (⟨some d, (.fld off m agg x), none⟩ :: rs) rd ef f H R = stepK (aop (evF g f) H (.fld off m agg x)) fun v H' => H' = H ∧ (∀ id, ROp.readsId (evF g f) (.fld off m agg x) = some id → ∀ x0 ∈ ef, (i0, x0.1) ∈ pairs → x0.2.1.get id = x0.2.2.get id) ∧
          FD2 P g n pairs base (i0 + 1) k0 rs (match ROp.readsId (evF g f) (.fld off m agg x) with | some id => (i0, id) :: rd | none => rd) ef (upd f d v) H R) ∧
    (∀ pairs base i0 k0 rs rd ef f H R (d : Nat) (arr : Option Nat) (sz : Nat) (x i : Arg) (hd : d < n),
      FD2 P g n pairs base i0 k0 (⟨some d, (.iadr arr sz x i), none⟩ :: rs) rd ef f H R = stepK (aop (evF g f) H (.iadr arr sz x i)) fun v H' => H' = H ∧ (∀ id, ROp.readsId (evF g f) (.iadr arr sz x i) = some id → ∀ x0 ∈ ef, (i0, x0.1) ∈ pairs → x0.2.1.get id = x0.2.2.get id) ∧
          FD2 P g n pairs base (i0 + 1) k0 rs (match ROp.readsId (evF g f) (.iadr arr sz x i) with | some id => (i0, id) :: rd | none => rd) ef (upd f d v) H R) ∧
    (∀ pairs base i0 k0 rs rd ef f H R (d : Nat) (m sz : Nat) (agg : Bool) (x i : Arg) (hd : d < n),
      FD2 P g n pairs base i0 k0 (⟨some d, (.idx m sz agg x i), none⟩ :: rs) rd ef f H R = stepK (aop (evF g f) H (.idx m sz agg x i)) fun v H' => H' = H ∧ (∀ id, ROp.readsId (evF g f) (.idx m sz agg x i) = some id → ∀ x0 ∈ ef, (i0, x0.1) ∈ pairs → x0.2.1.get id = x0.2.2.get id) ∧
          FD2 P g n pairs base (i0 + 1) k0 rs (match ROp.readsId (evF g f) (.idx m sz agg x i) with | some id => (i0, id) :: rd | none => rd) ef (upd f d v) H R) ∧
    (∀ pairs base i0 k0 rs rd ef f H R (d : Nat) (x i : Arg) (hd : d < n),
      FD2 P g n pairs base i0 k0 (⟨some d, (.idxs x i), none⟩ :: rs) rd ef f H R = stepK (aop (evF g f) H (.idxs x i)) fun v H' => H' = H ∧ (∀ id, ROp.readsId (evF g f) (.idxs x i) = some id → ∀ x0 ∈ ef, (i0, x0.1) ∈ pairs → x0.2.1.get id = x0.2.2.get id) ∧
          FD2 P g n pairs base (i0 + 1) k0 rs (match ROp.readsId (evF g f) (.idxs x i) with | some id => (i0, id) :: rd | none => rd) ef (upd f d v) H R) ∧
    (∀ pairs base i0 k0 rs rd ef f H R (d : Nat) (t : TypeId) (ok : Bool) (z : AV) (x : Arg) (hd : d < n),
      FD2 P g n pairs base i0 k0 (⟨some d, (.tass t ok z x), none⟩ :: rs) rd ef f H R = stepK (aop (evF g f) H (.tass t ok z x)) fun v H' => H' = H ∧ (∀ id, ROp.readsId (evF g f) (.tass t ok z x) = some id → ∀ x0 ∈ ef, (i0, x0.1) ∈ pairs → x0.2.1.get id = x0.2.2.get id) ∧
          FD2 P g n pairs base (i0 + 1) k0 rs (match ROp.readsId (evF g f) (.tass t ok z x) with | some id => (i0, id) :: rd | none => rd) ef (upd f d v) H R) ∧
    (∀ pairs base i0 k0 rs rd ef f H R (d : Nat) (x : Arg) (i : Nat) (hd : d < n),
      FD2 P g n pairs base i0 k0 (⟨some d, (.extr x i), none⟩ :: rs) rd ef f H R = stepK (aop (evF g f) H (.extr x i)) fun v H' => H' = H ∧ (∀ id, ROp.readsId (evF g f) (.extr x i) = some id → ∀ x0 ∈ ef, (i0, x0.1) ∈ pairs → x0.2.1.get id = x0.2.2.get id) ∧
          FD2 P g n pairs base (i0 + 1) k0 rs (match ROp.readsId (evF g f) (.extr x i) with | some id => (i0, id) :: rd | none => rd) ef (upd f d v) H R) ∧
    (∀ pairs base i0 k0 rs rd ef f H R (d : Nat) (x : Arg) (hd : d < n),
      FD2 P g n pairs base i0 k0 (⟨some d, (.lens x), none⟩ :: rs) rd ef f H R = stepK (aop (evF g f) H (.lens x)) fun v H' => H' = H ∧ (∀ id, ROp.readsId (evF g f) (.lens x) = some id → ∀ x0 ∈ ef, (i0, x0.1) ∈ pairs → x0.2.1.get id = x0.2.2.get id) ∧
          FD2 P g n pairs base (i0 + 1) k0 rs (match ROp.readsId (evF g f) (.lens x) with | some id => (i0, id) :: rd | none => rd) ef (upd f d v) H R) ∧
    (∀ pairs base i0 k0 rs rd ef f H R (d : Nat) (x : Arg) (hd : d < n),
      FD2 P g n pairs base i0 k0 (⟨some d, (.lenl x), none⟩ :: rs) rd ef f H R = stepK (aop (evF g f) H (.lenl x)) fun v H' => H' = H ∧ (∀ id, ROp.readsId (evF g f) (.lenl x) = some id → ∀ x0 ∈ ef, (i0, x0.1) ∈ pairs → x0.2.1.get id = x0.2.2.get id) ∧
          FD2 P g n pairs base (i0 + 1) k0 rs (match ROp.readsId (evF g f) (.lenl x) with | some id => (i0, id) :: rd | none => rd) ef (upd f d v) H R) ∧
    (∀ pairs base i0 k0 rs rd ef f H R (d : Nat) (m : Nat) (hd : d < n),
      FD2 P g n pairs base i0 k0 (⟨some d, (.lenc m), none⟩ :: rs) rd ef f H R = stepK (aop (evF g f) H (.lenc m)) fun v H' => H' = H ∧ (∀ id, ROp.readsId (evF g f) (.lenc m) = some id → ∀ x0 ∈ ef, (i0, x0.1) ∈ pairs → x0.2.1.get id = x0.2.2.get id) ∧
          FD2 P g n pairs base (i0 + 1) k0 rs (match ROp.readsId (evF g f) (.lenc m) with | some id => (i0, id) :: rd | none => rd) ef (upd f d v) H R) ∧
    (∀ pairs base i0 k0 rs rd ef f H R (d : Nat) (x : Arg) (hd : d < n),
      FD2 P g n pairs base i0 k0 (⟨some d, (.capl x), none⟩ :: rs) rd ef f H R = stepK (aop (evF g f) H (.capl x)) fun v H' => H' = H ∧ (∀ id, ROp.readsId (evF g f) (.capl x) = some id → ∀ x0 ∈ ef, (i0, x0.1) ∈ pairs → x0.2.1.get id = x0.2.2.get id) ∧
          FD2 P g n pairs base (i0 + 1) k0 rs (match ROp.readsId (evF g f) (.capl x) with | some id => (i0, id) :: rd | none => rd) ef (upd f d v) H R) ∧
    (∀ pairs base i0 k0 rs rd ef f H R (d : Nat) (x y : Arg) (hd : d < n),
      FD2 P g n pairs base i0 k0 (⟨some d, (.maxi x y), none⟩ :: rs) rd ef f H R = stepK (aop (evF g f) H (.maxi x y)) fun v H' => H' = H ∧ (∀ id, ROp.readsId (evF g f) (.maxi x y) = some id → ∀ x0 ∈ ef, (i0, x0.1) ∈ pairs → x0.2.1.get id = x0.2.2.get id) ∧
          FD2 P g n pairs base (i0 + 1) k0 rs (match ROp.readsId (evF g f) (.maxi x y) with | some id => (i0, id) :: rd | none => rd) ef (upd f d v) H R) ∧
    (∀ pairs base i0 k0 rs rd ef f H R (d : Nat) (k : Sk) (z : AV) (ok : Bool) (x i : Arg) (hd : d < n),
      FD2 P g n pairs base i0 k0 (⟨some d, (.lookup k z ok x i), none⟩ :: rs) rd ef f H R = stepK (aop (evF g f) H (.lookup k z ok x i)) fun v H' => H' = H ∧ (∀ id, ROp.readsId (evF g f) (.lookup k z ok x i) = some id → ∀ x0 ∈ ef, (i0, x0.1) ∈ pairs → x0.2.1.get id = x0.2.2.get id) ∧
          FD2 P g n pairs base (i0 + 1) k0 rs (match ROp.readsId (evF g f) (.lookup k z ok x i) with | some id => (i0, id) :: rd | none => rd) ef (upd f d v) H R) :=
  ⟨fun _ _ _ _ _ _ _ _ _ _ d _ hd => FD2_plain d _ rfl rfl rfl hd,
   fun _ _ _ _ _ _ _ _ _ _ d _ _ _ hd => FD2_plain d _ rfl rfl rfl hd,
   fun _ _ _ _ _ _ _ _ _ _ d _ _ hd => FD2_plain d _ rfl rfl rfl hd,
   fun _ _ _ _ _ _ _ _ _ _ d _ _ hd => FD2_plain d _ rfl rfl rfl hd,
   fun _ _ _ _ _ _ _ _ _ _ d _ _ _ hd => FD2_plain d _ rfl rfl rfl hd,
   fun _ _ _ _ _ _ _ _ _ _ d _ hd => FD2_plain d _ rfl rfl rfl hd,
   fun _ _ _ _ _ _ _ _ _ _ d _ _ _ hd => FD2_plain d _ rfl rfl rfl hd,
   fun _ _ _ _ _ _ _ _ _ _ d _ _ _ hd => FD2_plain d _ rfl rfl rfl hd,
   fun _ _ _ _ _ _ _ _ _ _ d _ _ _ _ hd => FD2_plain d _ rfl rfl rfl hd,
   fun _ _ _ _ _ _ _ _ _ _ d _ _ _ _ _ hd => FD2_plain d _ rfl rfl rfl hd,
   fun _ _ _ _ _ _ _ _ _ _ d _ _ hd => FD2_plain d _ rfl rfl rfl hd,
   fun _ _ _ _ _ _ _ _ _ _ d _ _ hd => FD2_plain d _ rfl rfl rfl hd,
   fun _ _ _ _ _ _ _ _ _ _ d _ hd => FD2_plain d _ rfl rfl rfl hd,
   fun _ _ _ _ _ _ _ _ _ _ d _ hd => FD2_plain d _ rfl rfl rfl hd,
   fun _ _ _ _ _ _ _ _ _ _ d _ _ hd => FD2_plain d _ rfl rfl rfl hd,
   fun _ _ _ _ _ _ _ _ _ _ d _ _ hd => FD2_plain d _ rfl rfl rfl hd,
   fun _ _ _ _ _ _ _ _ _ _ d _ _ _ hd => FD2_plain d _ rfl rfl rfl hd,
   fun _ _ _ _ _ _ _ _ _ _ d _ _ _ hd => FD2_plain d _ rfl rfl rfl hd,
   fun _ _ _ _ _ _ _ _ _ _ d _ _ _ _ _ hd => FD2_plain d _ rfl rfl rfl hd,
   fun _ _ _ _ _ _ _ _ _ _ d _ _ _ _ _ _ hd => FD2_plain d _ rfl rfl rfl hd,
   fun _ _ _ _ _ _ _ _ _ _ d _ _ hd => FD2_plain d _ rfl rfl rfl hd,
   fun _ _ _ _ _ _ _ _ _ _ d _ _ _ _ hd => FD2_plain d _ rfl rfl rfl hd,
   fun _ _ _ _ _ _ _ _ _ _ d _ _ _ _ hd => FD2_plain d _ rfl rfl rfl hd,
   fun _ _ _ _ _ _ _ _ _ _ d _ _ _ _ _ hd => FD2_plain d _ rfl rfl rfl hd,
   fun _ _ _ _ _ _ _ _ _ _ d _ _ hd => FD2_plain d _ rfl rfl rfl hd,
   fun _ _ _ _ _ _ _ _ _ _ d _ _ _ _ hd => FD2_plain d _ rfl rfl rfl hd,
   fun _ _ _ _ _ _ _ _ _ _ d _ _ hd => FD2_plain d _ rfl rfl rfl hd,
   fun _ _ _ _ _ _ _ _ _ _ d _ hd => FD2_plain d _ rfl rfl rfl hd,
   fun _ _ _ _ _ _ _ _ _ _ d _ hd => FD2_plain d _ rfl rfl rfl hd,
   fun _ _ _ _ _ _ _ _ _ _ d _ hd => FD2_plain d _ rfl rfl rfl hd,
   fun _ _ _ _ _ _ _ _ _ _ d _ hd => FD2_plain d _ rfl rfl rfl hd,
   fun _ _ _ _ _ _ _ _ _ _ d _ _ hd => FD2_plain d _ rfl rfl rfl hd,
   fun _ _ _ _ _ _ _ _ _ _ d _ _ _ _ _ hd => FD2_plain d _ rfl rfl rfl hd⟩
end Go.Av
end
