/-
  CODE ON SLOTS THAT ARE A FUNCTION: for proofs with variables in them.
-/
import Derived.Test.YtfdaiidepcbemaaDoorA18
set_option linter.unusedVariables false
set_option linter.unusedSimpArgs false
set_option linter.unusedSectionVars false
section
namespace Go.Av
open Go
abbrev Slt := Nat → AV
abbrev FQ := AEx → Slt → List Dfr → Heap → Prop
def evF (g : Genv) (f : Slt) : Arg → AV
  | .tmp t => f t
  | .const v => v
  | .glob n => match g n with
    | some cs => .pl cs
    | none => undefA
def upd (f : Slt) (d : Nat) (v : AV) : Slt := fun t => if t = d then v else f t
theorem upd_same (f : Slt) (d : Nat) (v : AV) : upd f d v d = v := by simp [upd]
theorem upd_ne (f : Slt) {d t : Nat} (v : AV) (h : t ≠ d) : upd f d v t = f t := by simp [upd, h]
def putF (n : Nat) (f : Slt) : Option Nat → AV → Slt
  | none, _ => f
  | some d, v => if d < n then upd f d v else f
def wantedF (f : Slt) (o : ROper) : Bool :=
  match o.guard with
  | none => true
  | some (d, b) => match f d with
    | .bool c => c == b
    | _ => false
/-- the next step, if there is one -/
def stepK (r : Option (AV × Heap)) (k : AV → Heap → Prop) : Prop :=
  match r with
  | some (v, H) => k v H
  | none => False
def FOps (P : Program) (g : Genv) (n : Nat) : List ROper → Slt → List Dfr → Heap → FQ → Prop
  | [], f, ds, H, Q => Q .normal f ds H
  | o :: r, f, ds, H, Q =>
    if wantedF f o then
      match o.op with
      | .call c as => ∃ p out H', calleeA (evF g f c) = some p ∧ Sound P g p.1 (p.2.1 ++ as.map (evF g f) ++ p.2.2) H out H' ∧
          match out with
          | .ret v => FOps P g n r (putF n f o.dst v) ds H' Q
          | .pan v => Q (.panic v) f ds H'
      | .panic x => ∃ t v, evF g f x = .iface t v ∧ Q (.panic (.iface t v)) f ds H
      | .deferc c as => ∃ p, calleeA (evF g f c) = some p ∧ FOps P g n r (putF n f o.dst undefA) ((p.1, p.2.1 ++ as.map (evF g f) ++ p.2.2) :: ds) H Q
      | op => stepK (aop (evF g f) H op) fun v H' => FOps P g n r (putF n f o.dst v) ds H' Q
    else FOps P g n r (putF n f o.dst undefA) ds H Q
def FQStep (P : Program) (g : Genv) (r : ROper) (f : Slt) (H : Heap) (v : AV) (H' : Heap) : Prop :=
  match r.op with
  | .call c as => ∃ p, calleeA (evF g f c) = some p ∧ Sound P g p.1 (p.2.1 ++ as.map (evF g f) ++ p.2.2) H (.ret v) H'
  | .panic _ | .deferc _ _ => False
  | op => aop (evF g f) H op = some (v, H')
def FDr (P : Program) (g : Genv) (n : Nat) (pairs : List (Nat × Nat)) (base : Nat) : Nat → Nat → List ROper → List (Nat × Nat) → List (Nat × Heap × Heap) → Slt → Heap → (Slt → Heap → Prop) → Prop
  | _, _, [], _, _, f, H, Q => Q f H
  | i, k, r :: rs, rd, ef, f, H, Q =>
    if wantedF f r then
      if r.op.fresh then
        ∃ ob val, fop (evF g f) r.op = some (ob, val) ∧ (∀ x ∈ ef, (i, x.1) ∈ pairs → x.2.1.get (base + k) = x.2.2.get (base + k)) ∧
          FDr P g n pairs base (i + 1) (k + 1) rs ((i, base + k) :: rd) ef (putF n f r.dst (val (base + k))) (H.set (base + k) ob) Q
      else if r.op.eff then
        ∃ v H', FQStep P g r f H v H' ∧ H.next ≤ H'.next ∧ (∀ x ∈ rd, (x.1, i) ∈ pairs → H.get x.2 = H'.get x.2) ∧
          FDr P g n pairs base (i + 1) k rs rd ((i, H, H') :: ef) (putF n f r.dst v) H' Q
      else
        ∃ v, FQStep P g r f H v H ∧ (∀ id, r.op.readsId (evF g f) = some id → ∀ x ∈ ef, (i, x.1) ∈ pairs → x.2.1.get id = x.2.2.get id) ∧
          FDr P g n pairs base (i + 1) k rs (match r.op.readsId (evF g f) with | some id => (i, id) :: rd | none => rd) ef (putF n f r.dst v) H Q
    else FDr P g n pairs base (i + 1) (if r.op.fresh then k + 1 else k) rs rd ef (putF n f r.dst undefA) H Q
def thenF (next : Slt → List Dfr → Heap → Prop) (Q : FQ) : FQ
  | .normal, f, ds, H => next f ds H
  | e, f, ds, H => Q e f ds H
def inBlockF (id : Nat) (Q : FQ) : FQ
  | .exit i, f, ds, H => if i = id then Q .normal f ds H else Q (.exit i) f ds H
  | e, f, ds, H => Q e f ds H
def FC (P : Program) (g : Genv) (n : Nat) : ACode → Slt → List Dfr → Heap → FQ → Prop
  | .skip, f, ds, H, Q => Q .normal f ds H
  | .ops rl, f, ds, H, Q => FOps P g n rl f ds H Q
  | .draw rl pairs, f, ds, H, Q => freeAt H (rl.countP (·.op.fresh)) = true ∧
      FDr P g n pairs H.next 0 0 rl [] [] f { H with next := H.next + rl.countP (·.op.fresh) } fun f' H' => Q .normal f' ds H'
  | .seq a b, f, ds, H, Q => FC P g n a f ds H (thenF (fun f ds H => FC P g n b f ds H Q) Q)
  | .cond c a b, f, ds, H, Q => ∃ t, evF g f c = .bool t ∧ if t then FC P g n a f ds H Q else FC P g n b f ds H Q
  | .block id a, f, ds, H, Q => FC P g n a f ds H (inBlockF id Q)
  | .loop a, f, ds, H, Q => ∃ (I : Nat → Slt → List Dfr → Heap → Prop) (m : Nat), I m f ds H ∧
      ∀ m f ds H, I m f ds H → FC P g n a f ds H (thenF (fun f ds H => ∃ k, k < m ∧ I k f ds H) Q)
  | .exit id, f, ds, H, Q => Q (.exit id) f ds H
  | .ret, f, ds, H, Q => Q .ret f ds H
def LF (n : Nat) (f : Slt) : List AV := (List.range n).map f
def FBnd (n : Nat) (f : Slt) : Prop := ∀ t, n ≤ t → f t = undefA
theorem FBnd.put {n : Nat} {f : Slt} (h : FBnd n f) (dst : Option Nat) (v : AV) : FBnd n (putF n f dst v) := by
  cases dst with
  | none => exact h
  | some d =>
    simp only [putF]
    split
    · intro t ht
      rw [upd_ne f v (by omega)]
      exact h t ht
    · exact h
theorem LF_getD {n : Nat} {f : Slt} (h : FBnd n f) (t : Nat) : (LF n f).getD t undefA = f t := by
  unfold LF
  rw [getD_eq, List.getElem?_map]
  by_cases ht : t < n
  · simp [ht]
  · rw [h t (by omega)]
    simp [ht]
theorem LF_put {n : Nat} {f : Slt} (dst : Option Nat) (v : AV) : LF n (putF n f dst v) = putA (LF n f) dst v := by
  cases dst with
  | none => rfl
  | some d =>
    simp only [putF, putA, LF]
    apply List.ext_getElem?
    intro i
    rw [List.getElem?_set]
    simp only [List.getElem?_map, List.length_map, List.length_range]
    by_cases hd : d < n
    · rw [if_pos hd]
      by_cases hi : d = i
      · subst hi
        simp [hd, upd_same]
      · rw [if_neg hi]
        by_cases hin : i < n
        · simp [hin, upd_ne f v (Ne.symm hi)]
        · simp [hin]
    · rw [if_neg hd]
      by_cases hi : d = i
      · subst hi
        simp [hd]
      · rw [if_neg hi]
theorem evF_eq {n : Nat} {f : Slt} (h : FBnd n f) (g : Genv) : evF g f = Arg.eval g (LF n f) := by
  funext x
  cases x with
  | tmp t => exact (LF_getD h t).symm
  | const v => rfl
  | glob n => rfl
theorem wantedF_eq {n : Nat} {f : Slt} (h : FBnd n f) (o : ROper) : wantedF f o = wantedA (LF n f) o := by
  unfold wantedF wantedA
  cases o.guard with
  | none => rfl
  | some p =>
    simp only [LF_getD h]
    cases f p.1 <;> rfl
def liftQ (n : Nat) (Q : FQ) : AQ := fun e s ds H => ∃ f, s = LF n f ∧ FBnd n f ∧ Q e f ds H
section
variable {P : Program} {g : Genv} {n : Nat}
theorem FOps_sound : ∀ (rl : List ROper) (f : Slt) (ds : List Dfr) (H : Heap) (Q : FQ), FBnd n f → FOps P g n rl f ds H Q → AOps P g rl (LF n f) ds H (liftQ n Q)
  | [], f, ds, H, Q, hb, h => ⟨f, rfl, hb, h⟩
  | o :: r, f, ds, H, Q, hb, h => by
    unfold FOps at h
    unfold AOps
    rw [wantedF_eq hb, evF_eq hb] at h
    split at h
    · rename_i hw
      rw [if_pos hw]
      split at h
      · rename_i c as hop
        obtain ⟨p, out, H', h1, h2, h3⟩ := h
        rw [hop]
        refine ⟨p, out, H', h1, h2, ?_⟩
        cases out with
        | ret v =>
          have := FOps_sound r _ ds H' Q (hb.put o.dst v) h3
          rwa [LF_put] at this
        | pan v => exact ⟨f, rfl, hb, h3⟩
      · rename_i x hop
        obtain ⟨t, v, h1, h2⟩ := h
        rw [hop]
        exact ⟨t, v, h1, f, rfl, hb, h2⟩
      · rename_i c as hop
        obtain ⟨p, h1, h2⟩ := h
        rw [hop]
        refine ⟨p, h1, ?_⟩
        have := FOps_sound r _ _ H Q (hb.put o.dst undefA) h2
        rwa [LF_put] at this
      · rename_i n1 n2 n3
        unfold stepK at h
        split at h
        · rename_i v H' ha
          have := FOps_sound r _ ds H' Q (hb.put o.dst v) h
          rw [LF_put] at this
          split
          · rename_i c as hop; exact absurd hop (n1 c as)
          · rename_i x hop; exact absurd hop (n2 x)
          · rename_i c as hop; exact absurd hop (n3 c as)
          · exact ⟨v, H', ha, this⟩
        · exact h.elim
    · rename_i hw
      rw [if_neg hw]
      have := FOps_sound r _ ds H Q (hb.put o.dst undefA) h
      rwa [LF_put] at this
theorem FQStep_eq {f : Slt} (hb : FBnd n f) {r : ROper} {H H' : Heap} {v : AV} (h : FQStep P g r f H v H') : QStep P g r (LF n f) H v H' := by
  unfold FQStep at h
  unfold QStep
  rwa [evF_eq hb] at h
theorem FDr_sound {pairs : List (Nat × Nat)} {base : Nat} {Q : Slt → Heap → Prop} : ∀ (rl : List ROper) (i k : Nat) (rd : List (Nat × Nat)) (ef : List (Nat × Heap × Heap)) (f : Slt) (H : Heap), FBnd n f →
    FDr P g n pairs base i k rl rd ef f H Q → ADr P g pairs base i k rl rd ef (LF n f) H (fun s H => ∃ f, s = LF n f ∧ FBnd n f ∧ Q f H)
  | [], i, k, rd, ef, f, H, hb, h => ⟨f, rfl, hb, h⟩
  | r :: rs, i, k, rd, ef, f, H, hb, h => by
    unfold FDr at h
    unfold ADr
    rw [wantedF_eq hb] at h
    split at h
    · rename_i hw
      rw [if_pos hw]
      split at h
      · rename_i hf
        rw [if_pos hf]
        obtain ⟨ob, val, h1, h2, h3⟩ := h
        rw [evF_eq hb] at h1
        refine ⟨ob, val, h1, h2, ?_⟩
        have := FDr_sound rs _ _ _ _ _ _ (hb.put r.dst _) h3
        rwa [LF_put] at this
      · rename_i hf
        rw [if_neg hf]
        split at h
        · rename_i he
          rw [if_pos he]
          obtain ⟨v, H', h1, h2, h3, h4⟩ := h
          refine ⟨v, H', FQStep_eq hb h1, h2, h3, ?_⟩
          have := FDr_sound rs _ _ _ _ _ _ (hb.put r.dst _) h4
          rwa [LF_put] at this
        · rename_i he
          rw [if_neg he]
          obtain ⟨v, h1, h2, h3⟩ := h
          refine ⟨v, FQStep_eq hb h1, by rw [← evF_eq hb]; exact h2, ?_⟩
          have := FDr_sound rs _ _ _ _ _ _ (hb.put r.dst _) h3
          rw [LF_put] at this
          rw [← evF_eq hb]
          exact this
    · rename_i hw
      rw [if_neg hw]
      have := FDr_sound rs _ _ _ _ _ _ (hb.put r.dst _) h
      rwa [LF_put] at this
theorem FC_sound : ∀ (c : ACode) (f : Slt) (ds : List Dfr) (H : Heap) (Q : FQ), FBnd n f → FC P g n c f ds H Q → AC P g c (LF n f) ds H (liftQ n Q) := by
  intro c
  induction c with
  | skip => exact fun f ds H Q hb h => ⟨f, rfl, hb, h⟩
  | ops rl => exact fun f ds H Q hb h => FOps_sound rl f ds H Q hb h
  | draw rl pairs => exact fun f ds H Q hb h => ⟨h.1, FDr_sound rl 0 0 [] [] f _ hb h.2⟩
  | seq a b iha ihb =>
    intro f ds H Q hb h
    show AC P g a (LF n f) ds H _
    refine AC_mono (fun e s ds H hq => ?_) (iha f ds H _ hb h)
    obtain ⟨f', rfl, hb', hq⟩ := hq
    cases e with
    | normal => exact ihb f' ds H Q hb' hq
    | _ => exact ⟨f', rfl, hb', hq⟩
  | cond c a b iha ihb =>
    intro f ds H Q hb h
    obtain ⟨t, h1, h2⟩ := h
    rw [evF_eq hb] at h1
    refine ⟨t, h1, ?_⟩
    cases t with
    | true => exact iha f ds H Q hb h2
    | false => exact ihb f ds H Q hb h2
  | block id a ih =>
    intro f ds H Q hb h
    show AC P g a (LF n f) ds H _
    refine AC_mono (fun e s ds H hq => ?_) (ih f ds H _ hb h)
    obtain ⟨f', rfl, hb', hq⟩ := hq
    cases e with
    | exit i =>
      simp only [inBlockF] at hq
      simp only [inBlockA]
      split
      · rename_i hi; rw [if_pos hi] at hq; exact ⟨f', rfl, hb', hq⟩
      · rename_i hi; rw [if_neg hi] at hq; exact ⟨f', rfl, hb', hq⟩
    | _ => exact ⟨f', rfl, hb', hq⟩
  | loop a ih =>
    intro f ds H Q hb h
    obtain ⟨I, m, h0, hI⟩ := h
    refine ⟨fun m s ds H => ∃ f, s = LF n f ∧ FBnd n f ∧ I m f ds H, m, ⟨f, rfl, hb, h0⟩, ?_⟩
    rintro m s ds1 H1 ⟨f1, rfl, hb1, h1⟩
    refine AC_mono (fun e s ds H hq => ?_) (ih f1 ds1 H1 _ hb1 (hI m f1 ds1 H1 h1))
    obtain ⟨f', rfl, hb', hq⟩ := hq
    cases e with
    | normal =>
      obtain ⟨k, hk, hq⟩ := hq
      exact ⟨k, hk, f', rfl, hb', hq⟩
    | _ => exact ⟨f', rfl, hb', hq⟩
  | exit id => exact fun f ds H Q hb h => ⟨f, rfl, hb, h⟩
  | ret => exact fun f ds H Q hb h => ⟨f, rfl, hb, h⟩
/-! ### monotony -/
theorem FOps_mono {rl : List ROper} : ∀ {f : Slt} {ds : List Dfr} {H : Heap} {Q Q' : FQ}, (∀ e f ds H, Q e f ds H → Q' e f ds H) → FOps P g n rl f ds H Q → FOps P g n rl f ds H Q' := by
  induction rl with
  | nil => exact fun hq h => hq _ _ _ _ h
  | cons o r ih =>
    intro f ds H Q Q' hq h
    unfold FOps at h ⊢
    split
    · rename_i hw
      rw [if_pos hw] at h
      split at h
      · obtain ⟨p, out, H', h1, h2, h3⟩ := h
        refine ⟨p, out, H', h1, h2, ?_⟩
        cases out with
        | ret v => exact ih hq h3
        | pan v => exact hq _ _ _ _ h3
      · obtain ⟨t, v, h1, h2⟩ := h
        exact ⟨t, v, h1, hq _ _ _ _ h2⟩
      · obtain ⟨p, h1, h2⟩ := h
        exact ⟨p, h1, ih hq h2⟩
      · unfold stepK at h ⊢
        split at h
        · exact ih hq h
        · exact h.elim
    · rename_i hw
      rw [if_neg hw] at h
      exact ih hq h
theorem FDr_mono {pairs : List (Nat × Nat)} {base : Nat} {rl : List ROper} : ∀ {i k : Nat} {rd : List (Nat × Nat)} {ef : List (Nat × Heap × Heap)} {f : Slt} {H : Heap} {Q Q' : Slt → Heap → Prop}, (∀ f H, Q f H → Q' f H) →
    FDr P g n pairs base i k rl rd ef f H Q → FDr P g n pairs base i k rl rd ef f H Q' := by
  induction rl with
  | nil => exact fun hq h => hq _ _ h
  | cons r rs ih =>
    intro i k rd ef f H Q Q' hq h
    unfold FDr at h ⊢
    split
    · rename_i hw
      rw [if_pos hw] at h
      split
      · rename_i hf
        rw [if_pos hf] at h
        obtain ⟨ob, val, h1, h2, h3⟩ := h
        exact ⟨ob, val, h1, h2, ih hq h3⟩
      · rename_i hf
        rw [if_neg hf] at h
        split
        · rename_i he
          rw [if_pos he] at h
          obtain ⟨v, H', h1, h2, h3, h4⟩ := h
          exact ⟨v, H', h1, h2, h3, ih hq h4⟩
        · rename_i he
          rw [if_neg he] at h
          obtain ⟨v, h1, h2, h3⟩ := h
          exact ⟨v, h1, h2, ih hq h3⟩
    · rename_i hw
      rw [if_neg hw] at h
      exact ih hq h
theorem FC_mono {c : ACode} : ∀ {f : Slt} {ds : List Dfr} {H : Heap} {Q Q' : FQ}, (∀ e f ds H, Q e f ds H → Q' e f ds H) → FC P g n c f ds H Q → FC P g n c f ds H Q' := by
  induction c with
  | skip => exact fun hq h => hq _ _ _ _ h
  | ops rl => exact fun hq h => FOps_mono hq h
  | draw rl pairs => exact fun hq h => ⟨h.1, FDr_mono (fun s H => hq _ _ _ _) h.2⟩
  | seq a b iha ihb =>
    intro f ds H Q Q' hq h
    refine iha (fun e f ds H h => ?_) h
    cases e with
    | normal => exact ihb hq h
    | _ => exact hq _ _ _ _ h
  | cond c a b iha ihb =>
    intro f ds H Q Q' hq h
    obtain ⟨t, h1, h2⟩ := h
    refine ⟨t, h1, ?_⟩
    cases t with
    | true => exact iha hq h2
    | false => exact ihb hq h2
  | block id a ih =>
    intro f ds H Q Q' hq h
    refine ih (fun e f ds H h => ?_) h
    cases e with
    | exit i =>
      simp only [inBlockF] at h ⊢
      split
      · rename_i hi; rw [if_pos hi] at h; exact hq _ _ _ _ h
      · rename_i hi; rw [if_neg hi] at h; exact hq _ _ _ _ h
    | _ => exact hq _ _ _ _ h
  | loop a ih =>
    intro f ds H Q Q' hq h
    obtain ⟨I, m, h0, hI⟩ := h
    refine ⟨I, m, h0, fun m f ds H hi => ih (fun e f ds H h => ?_) (hI m f ds H hi)⟩
    cases e with
    | normal => exact h
    | _ => exact hq _ _ _ _ h
  | exit id => exact fun hq h => hq _ _ _ _ h
  | ret => exact fun hq h => hq _ _ _ _ h
/-! ### calls -/
def startF (args : List AV) : Slt := fun t => args.getD t undefA
def resF (f : Slt) (H : Heap) : ARes → Option AV
  | .tmp t => some (f t)
  | .cell a agg n => match aop (evF (fun _ => none) f) H (.load agg n (.tmp a)) with
    | some (v, _) => some v
    | none => none
def resFs (f : Slt) (H : Heap) : List ARes → Option (List AV)
  | [] => some []
  | x :: r => match resF f H x, resFs f H r with
    | some v, some vs => some (v :: vs)
    | _, _ => none
theorem resFs_eq {f : Slt} (hb : FBnd n f) (H : Heap) : ∀ l, resFs f H l = resAs (LF n f) H l
  | [] => rfl
  | x :: r => by
    have ih := resFs_eq hb H r
    cases x with
    | tmp t =>
      simp only [resFs, resAs, resF, resA, ih, LF_getD hb]
      cases resAs (LF n f) H r <;> rfl
    | cell a agg m =>
      simp only [resFs, resAs, resF, resA, ih, evF_eq hb]
      cases aop (Arg.eval (fun _ => none) (LF n f)) H (.load agg m (.tmp a)) with
      | none => rfl
      | some p => cases resAs (LF n f) H r <;> rfl
theorem startF_LF {args : List AV} (h : args.length ≤ n) : FBnd n (startF args) ∧ LF n (startF args) = args ++ List.replicate (n - args.length) undefA := by
  refine ⟨fun t ht => ?_, List.ext_getElem? fun t => ?_⟩
  · simp only [startF, getD_eq]
    rw [List.getElem?_eq_none (by omega)]
    rfl
  · unfold LF
    rw [List.getElem?_map]
    by_cases ht : t < n
    · rw [List.getElem?_range ht, Option.map_some]
      by_cases h1 : t < args.length
      · rw [List.getElem?_append_left h1]
        simp [startF, getD_eq, List.getElem?_eq_getElem h1]
      · rw [List.getElem?_append_right (by omega), List.getElem?_replicate, if_pos (by omega)]
        simp only [startF, getD_eq]
        rw [List.getElem?_eq_none (by omega)]
        rfl
    · rw [List.getElem?_eq_none (by simp; omega), List.getElem?_eq_none (by simp; omega)]
      rfl
/-- how a body without deferred calls ends -/
def retF (rs : List ARes) (R : Out → Heap → Prop) : FQ
  | .normal, f, ds, H | .ret, f, ds, H => ds = [] ∧ ∃ vs, resFs f H rs = some vs ∧ R (.ret (retA vs)) H
  | .panic v, _, ds, H => ds = [] ∧ R (.pan v) H
  | .exit _, _, _, _ => False
theorem AC_ret {F : AFn} {args : List AV} (ha : args.length ≤ F.ntmps) {H : Heap} {R : Out → Heap → Prop} (h : FC P g F.ntmps F.body (startF args) [] H (retF F.results R)) :
    AC P g F.body (startS F args) [] H (retQ F R) := by
  obtain ⟨hb, hl⟩ := startF_LF ha
  unfold startS
  rw [← hl]
  refine AC_mono (fun e s ds H hq => ?_) (FC_sound F.body _ [] H _ hb h)
  obtain ⟨f, rfl, hb', hq⟩ := hq
  cases e with
  | normal =>
    obtain ⟨h1, vs, h2, h3⟩ := hq
    exact ⟨h1, vs, by rw [← resFs_eq hb']; exact h2, h3⟩
  | ret =>
    obtain ⟨h1, vs, h2, h3⟩ := hq
    exact ⟨h1, vs, by rw [← resFs_eq hb']; exact h2, h3⟩
  | panic v => exact hq
  | exit id => exact hq
theorem AOps_exact {rl : List ROper} : ∀ {s : List AV} {ds : List Dfr} {H : Heap} {Q : AQ}, AOps P g rl s ds H Q →
    ∃ ae s' ds' H', Q ae s' ds' H' ∧ AOps P g rl s ds H (fun e s d h => e = ae ∧ s = s' ∧ d = ds' ∧ h = H') := by
  induction rl with
  | nil => exact fun {s ds H Q} h => ⟨.normal, s, ds, H, h, rfl, rfl, rfl, rfl⟩
  | cons o r ih =>
    intro s ds H Q h
    unfold AOps at h ⊢
    by_cases hw : wantedA s o = true
    · simp only [hw, if_true] at h ⊢
      split at h
      · obtain ⟨p, out, H', h1, h2, h3⟩ := h
        cases out with
        | ret v =>
          obtain ⟨ae, s', ds', H1, q, hA⟩ := ih h3
          exact ⟨ae, s', ds', H1, q, p, .ret v, H', h1, h2, hA⟩
        | pan v => exact ⟨.panic v, s, ds, H', h3, p, .pan v, H', h1, h2, rfl, rfl, rfl, rfl⟩
      · obtain ⟨t, v, h1, h2⟩ := h
        exact ⟨_, s, ds, H, h2, t, v, h1, rfl, rfl, rfl, rfl⟩
      · obtain ⟨p, h1, h2⟩ := h
        obtain ⟨ae, s', ds', H1, q, hA⟩ := ih h2
        exact ⟨ae, s', ds', H1, q, p, h1, hA⟩
      · obtain ⟨v, H', h1, h2⟩ := h
        obtain ⟨ae, s', ds', H1, q, hA⟩ := ih h2
        exact ⟨ae, s', ds', H1, q, v, H', h1, hA⟩
    · simp only [hw] at h ⊢
      exact ih h
theorem ADr_exact {pairs : List (Nat × Nat)} {base : Nat} {rl : List ROper} : ∀ {i k : Nat} {rd : List (Nat × Nat)} {ef : List (Nat × Heap × Heap)} {s : List AV} {H : Heap} {Q : List AV → Heap → Prop},
    ADr P g pairs base i k rl rd ef s H Q → ∃ s' H', Q s' H' ∧ ADr P g pairs base i k rl rd ef s H (fun s h => s = s' ∧ h = H') := by
  induction rl with
  | nil => exact fun {i k rd ef s H Q} h => ⟨s, H, h, rfl, rfl⟩
  | cons r rs ih =>
    intro i k rd ef s H Q h
    unfold ADr at h ⊢
    by_cases hw : wantedA s r = true
    · simp only [hw, if_true] at h ⊢
      by_cases hf : r.op.fresh = true
      · simp only [hf, if_true] at h ⊢
        obtain ⟨ob, val, h1, h2, h3⟩ := h
        obtain ⟨s', H', q, hA⟩ := ih h3
        exact ⟨s', H', q, ob, val, h1, h2, hA⟩
      · simp only [hf] at h ⊢
        by_cases he : r.op.eff = true
        · simp only [he, if_true] at h ⊢
          obtain ⟨v, H1, h1, h2, h3, h4⟩ := h
          obtain ⟨s', H', q, hA⟩ := ih h4
          exact ⟨s', H', q, v, H1, h1, h2, h3, hA⟩
        · simp only [he] at h ⊢
          obtain ⟨v, h1, h2, h3⟩ := h
          obtain ⟨s', H', q, hA⟩ := ih h3
          exact ⟨s', H', q, v, h1, h2, hA⟩
    · simp only [hw] at h ⊢
      exact ih h
/-- a run has one end -/
theorem AC_exact {c : ACode} : ∀ {s : List AV} {ds : List Dfr} {H : Heap} {Q : AQ}, AC P g c s ds H Q →
    ∃ ae s' ds' H', Q ae s' ds' H' ∧ AC P g c s ds H (fun e s d h => e = ae ∧ s = s' ∧ d = ds' ∧ h = H') := by
  induction c with
  | skip => exact fun {s ds H Q} h => ⟨.normal, s, ds, H, h, rfl, rfl, rfl, rfl⟩
  | ops rl => exact fun h => AOps_exact h
  | draw rl pairs =>
    intro s ds H Q h
    obtain ⟨s', H', q, hA⟩ := ADr_exact h.2
    exact ⟨.normal, s', ds, H', q, h.1, ADr_mono (fun s H h => ⟨rfl, h.1, rfl, h.2⟩) hA⟩
  | seq a b iha ihb =>
    intro s ds H Q h
    obtain ⟨ae, s1, ds1, H1, q, hA⟩ := iha h
    cases ae with
    | normal =>
      obtain ⟨ae2, s2, ds2, H2, q2, hB⟩ := ihb q
      refine ⟨ae2, s2, ds2, H2, q2, ?_⟩
      show AC P g a s ds H _
      refine AC_mono (fun e s d h hh => ?_) hA
      obtain ⟨rfl, rfl, rfl, rfl⟩ := hh
      exact hB
    | _ =>
      refine ⟨_, s1, ds1, H1, q, ?_⟩
      show AC P g a s ds H _
      refine AC_mono (fun e s d h hh => ?_) hA
      obtain ⟨rfl, rfl, rfl, rfl⟩ := hh
      exact ⟨rfl, rfl, rfl, rfl⟩
  | cond c a b iha ihb =>
    intro s ds H Q h
    obtain ⟨t, h1, h2⟩ := h
    cases t with
    | true =>
      obtain ⟨ae, s1, ds1, H1, q, hA⟩ := iha h2
      exact ⟨ae, s1, ds1, H1, q, true, h1, hA⟩
    | false =>
      obtain ⟨ae, s1, ds1, H1, q, hA⟩ := ihb h2
      exact ⟨ae, s1, ds1, H1, q, false, h1, hA⟩
  | block id a ih =>
    intro s ds H Q h
    obtain ⟨ae, s1, ds1, H1, q, hA⟩ := ih h
    have other : ∀ e, (∀ i, e ≠ .exit i) → Q e s1 ds1 H1 → AC P g a s ds H (fun e' s d h => e' = e ∧ s = s1 ∧ d = ds1 ∧ h = H1) →
        ∃ ae s' ds' H', Q ae s' ds' H' ∧ AC P g (.block id a) s ds H (fun e s d h => e = ae ∧ s = s' ∧ d = ds' ∧ h = H') := fun e hne hq hA => by
      refine ⟨e, s1, ds1, H1, hq, ?_⟩
      show AC P g a s ds H _
      refine AC_mono (fun e' s d h hh => ?_) hA
      obtain ⟨rfl, rfl, rfl, rfl⟩ := hh
      cases e' with
      | exit i => exact absurd rfl (hne i)
      | _ => exact ⟨rfl, rfl, rfl, rfl⟩
    cases ae with
    | exit i =>
      simp only [inBlockA] at q
      by_cases hi : i = id
      · rw [if_pos hi] at q
        refine ⟨.normal, s1, ds1, H1, q, ?_⟩
        show AC P g a s ds H _
        refine AC_mono (fun e s d h hh => ?_) hA
        obtain ⟨rfl, rfl, rfl, rfl⟩ := hh
        simp only [inBlockA]
        rw [if_pos hi]
        first | exact ⟨rfl, rfl, rfl, rfl⟩ | simp
      · rw [if_neg hi] at q
        refine ⟨.exit i, s1, ds1, H1, q, ?_⟩
        show AC P g a s ds H _
        refine AC_mono (fun e s d h hh => ?_) hA
        obtain ⟨rfl, rfl, rfl, rfl⟩ := hh
        simp only [inBlockA]
        rw [if_neg hi]
        first | exact ⟨rfl, rfl, rfl, rfl⟩ | simp
    | normal => exact other _ (fun i hh => by cases hh) q hA
    | ret => exact other _ (fun i hh => by cases hh) q hA
    | panic v => exact other _ (fun i hh => by cases hh) q hA
  | loop a ih =>
    intro s ds H Q h
    obtain ⟨I, m, h0, hI⟩ := h
    have key : ∀ (m : Nat) (s : List AV) (ds : List Dfr) (H : Heap), I m s ds H →
        ∃ ae s' ds' H', Q ae s' ds' H' ∧ AC P g (.loop a) s ds H (fun e s d h => e = ae ∧ s = s' ∧ d = ds' ∧ h = H') := by
      intro m
      induction m using Nat.strongRecOn with
      | _ m ihm =>
        intro s ds H hi
        obtain ⟨ae, s1, ds1, H1, q, hA⟩ := ih (hI m s ds H hi)
        have once : ∀ e, e ≠ .normal → Q e s1 ds1 H1 → AC P g a s ds H (fun e' s d h => e' = e ∧ s = s1 ∧ d = ds1 ∧ h = H1) →
            ∃ ae s' ds' H', Q ae s' ds' H' ∧ AC P g (.loop a) s ds H (fun e s d h => e = ae ∧ s = s' ∧ d = ds' ∧ h = H') := fun e hne hq hA => by
          refine ⟨e, s1, ds1, H1, hq, fun k s' d' h' => s' = s ∧ d' = ds ∧ h' = H, 0, ⟨rfl, rfl, rfl⟩, ?_⟩
          rintro k _ _ _ ⟨rfl, rfl, rfl⟩
          refine AC_mono (fun e' s d h hh => ?_) hA
          obtain ⟨rfl, rfl, rfl, rfl⟩ := hh
          cases e' with
          | normal => exact absurd rfl hne
          | _ => exact ⟨rfl, rfl, rfl, rfl⟩
        cases ae with
        | normal =>
          obtain ⟨k, hk, hi1⟩ := q
          obtain ⟨ae2, s2, ds2, H2, q2, J, j, hj, hJ⟩ := ihm k hk s1 ds1 H1 hi1
          refine ⟨ae2, s2, ds2, H2, q2, fun x s' d' h' => J x s' d' h' ∨ (x = j + 1 ∧ s' = s ∧ d' = ds ∧ h' = H), j + 1, .inr ⟨rfl, rfl, rfl, rfl⟩, ?_⟩
          rintro x s' d' h' (hx | ⟨rfl, rfl, rfl, rfl⟩)
          · refine AC_mono (fun e s d h hh => ?_) (hJ x s' d' h' hx)
            cases e with
            | normal =>
              obtain ⟨y, hy, hyy⟩ := hh
              exact ⟨y, hy, .inl hyy⟩
            | _ => exact hh
          · refine AC_mono (fun e s d h hh => ?_) hA
            obtain ⟨rfl, rfl, rfl, rfl⟩ := hh
            exact ⟨j, Nat.lt_succ_self j, .inl hj⟩
        | exit i => exact once _ (fun hh => by cases hh) q hA
        | ret => exact once _ (fun hh => by cases hh) q hA
        | panic v => exact once _ (fun hh => by cases hh) q hA
    exact key m s ds H h0
  | exit id => exact fun {s ds H Q} h => ⟨_, s, ds, H, h, rfl, rfl, rfl, rfl⟩
  | ret => exact fun {s ds H Q} h => ⟨_, s, ds, H, h, rfl, rfl, rfl, rfl⟩
/-- what the body does says what the call does: the result is found on the way -/
theorem Sound_of_FC {mu : Bool} (hm : P.follows .mixedOrders = true) {f : FuncId} {F : AFn} (hF : FnIs P g mu f F) {args : List AV} (ha : args.length ≤ F.ntmps) {H : Heap} {R : Out → Heap → Prop}
    (h : FC P g F.ntmps F.body (startF args) [] H (retF F.results R)) : ∃ out H', R out H' ∧ Sound P g f args H out H' := by
  obtain ⟨ae, s, ds, H', q, hA⟩ := AC_exact (AC_ret ha h)
  have fin : ∀ out, R out H' → AC P g F.body (startS F args) [] H (retQ F fun o h => o = out ∧ h = H') → ∃ out H', R out H' ∧ Sound P g f args H out H' := fun out hR hA => ⟨out, H', hR, Sound_of_AC hm hF hA⟩
  cases ae with
  | exit id => exact q.elim
  | panic v =>
    refine fin (.pan v) q.2 (AC_mono (fun e s d h hh => ?_) hA)
    obtain ⟨rfl, rfl, rfl, rfl⟩ := hh
    exact ⟨q.1, rfl, rfl⟩
  | normal =>
    obtain ⟨h1, vs, h2, h3⟩ := q
    refine fin _ h3 (AC_mono (fun e s d h hh => ?_) hA)
    obtain ⟨rfl, rfl, rfl, rfl⟩ := hh
    exact ⟨h1, vs, h2, rfl, rfl⟩
  | ret =>
    obtain ⟨h1, vs, h2, h3⟩ := q
    refine fin _ h3 (AC_mono (fun e s d h hh => ?_) hA)
    obtain ⟨rfl, rfl, rfl, rfl⟩ := hh
    exact ⟨h1, vs, h2, rfl, rfl⟩
end
end Go.Av
end
