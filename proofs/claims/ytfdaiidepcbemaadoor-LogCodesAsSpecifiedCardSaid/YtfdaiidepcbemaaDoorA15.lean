/-
  CODE: regions, one after the other, conditions, blocks, loops.
  FUNCTIONS: what a call comes to.
-/
import Derived.Test.YtfdaiidepcbemaaDoorA14
import Derived.Laws.Sem
set_option linter.unusedVariables false
set_option linter.unusedSimpArgs false
set_option linter.unusedSectionVars false
section
namespace Go.Av
open Go
/-! ### a region that draws, operation after operation -/
/-- one wanted operation that makes no object of its own number -/
def QStep (P : Program) (g : Genv) (r : ROper) (s : List AV) (H : Heap) (v : AV) (H' : Heap) : Prop :=
  match r.op with
  | .call f as => ∃ p, calleeA (f.eval g s) = some p ∧ Sound P g p.1 (p.2.1 ++ as.map (Arg.eval g s) ++ p.2.2) H (.ret v) H'
  | .panic _ | .deferc _ _ => False
  | op => aop (Arg.eval g s) H op = some (v, H')
def ADr (P : Program) (g : Genv) (pairs : List (Nat × Nat)) (base : Nat) : Nat → Nat → List ROper → List (Nat × Nat) → List (Nat × Heap × Heap) → List AV → Heap → (List AV → Heap → Prop) → Prop
  | _, _, [], _, _, s, H, Q => Q s H
  | i, k, r :: rs, rd, ef, s, H, Q =>
    if wantedA s r then
      if r.op.fresh then
        ∃ ob val, fop (Arg.eval g s) r.op = some (ob, val) ∧ (∀ x ∈ ef, (i, x.1) ∈ pairs → x.2.1.get (base + k) = x.2.2.get (base + k)) ∧
          ADr P g pairs base (i + 1) (k + 1) rs ((i, base + k) :: rd) ef (putA s r.dst (val (base + k))) (H.set (base + k) ob) Q
      else if r.op.eff then
        ∃ v H', QStep P g r s H v H' ∧ H.next ≤ H'.next ∧ (∀ x ∈ rd, (x.1, i) ∈ pairs → H.get x.2 = H'.get x.2) ∧
          ADr P g pairs base (i + 1) k rs rd ((i, H, H') :: ef) (putA s r.dst v) H' Q
      else
        ∃ v, QStep P g r s H v H ∧ (∀ id, r.op.readsId (Arg.eval g s) = some id → ∀ x ∈ ef, (i, x.1) ∈ pairs → x.2.1.get id = x.2.2.get id) ∧
          ADr P g pairs base (i + 1) k rs (match r.op.readsId (Arg.eval g s) with | some id => (i, id) :: rd | none => rd) ef (putA s r.dst v) H Q
    else ADr P g pairs base (i + 1) (if r.op.fresh then k + 1 else k) rs rd ef (putA s r.dst undefA) H Q
structure DRun (P : Program) (g : Genv) (pairs : List (Nat × Nat)) (base i k : Nat) (rs : List ROper) (rd : List (Nat × Nat)) (ef : List (Nat × Heap × Heap)) (s : List AV) (H : Heap) (Q : List AV → Heap → Prop)
    (Hs : Nat → Heap) (ss : Nat → List AV) (vs : Nat → AV) : Prop where
  h0 : Hs 0 = H
  s0 : ss 0 = s
  fin : Q (ss rs.length) (Hs rs.length)
  step : ∀ (j : Nat) (r : ROper), rs[j]? = some r → DStep P g (base + (k + freshIdx rs j)) r (ss j) (Hs j) (vs j) (Hs (j + 1)) ∧ ss (j + 1) = putA (ss j) r.dst (vs j)
  mono : ∀ (j : Nat) (r : ROper), rs[j]? = some r → r.op.eff = true → (Hs j).next ≤ (Hs (j + 1)).next
  old : ∀ x ∈ rd, ∀ (e : Nat) (re : ROper), rs[e]? = some re → re.op.eff = true → wantedA (ss e) re = true → (x.1, i + e) ∈ pairs → (Hs e).get x.2 = (Hs (e + 1)).get x.2
  new : ∀ x ∈ ef, ∀ (j : Nat) (r : ROper), rs[j]? = some r → wantedA (ss j) r = true → (i + j, x.1) ∈ pairs →
    ∀ id, (r.op.readsId (Arg.eval g (ss j)) = some id ∨ (r.op.fresh = true ∧ id = base + (k + freshIdx rs j))) → x.2.1.get id = x.2.2.get id
  both : ∀ (j e : Nat) (rj re : ROper), rs[j]? = some rj → rs[e]? = some re → re.op.eff = true → wantedA (ss j) rj = true → wantedA (ss e) re = true → (i + j, i + e) ∈ pairs →
    ∀ id, (rj.op.readsId (Arg.eval g (ss j)) = some id ∨ (rj.op.fresh = true ∧ id = base + (k + freshIdx rs j))) → (Hs e).get id = (Hs (e + 1)).get id
theorem freshIdx_zero (rs : List ROper) : freshIdx rs 0 = 0 := rfl
theorem freshIdx_cons (r : ROper) (rs : List ROper) (j : Nat) : freshIdx (r :: rs) (j + 1) = (if r.op.fresh then 1 else 0) + freshIdx rs j := by
  unfold freshIdx
  simp only [List.take_succ_cons, List.countP_cons]
  omega
def cons' {α : Type} (x : α) (f : Nat → α) : Nat → α
  | 0 => x
  | n + 1 => f n
theorem DRun.cons {P : Program} {g : Genv} {pairs : List (Nat × Nat)} {base i k : Nat} {r : ROper} {rs : List ROper} {rd rd' : List (Nat × Nat)} {ef ef' : List (Nat × Heap × Heap)} {s : List AV} {H H' : Heap} {Q : List AV → Heap → Prop}
    {Hs : Nat → Heap} {ss : Nat → List AV} {vs : Nat → AV} {v : AV}
    (R : DRun P g pairs base (i + 1) (if r.op.fresh then k + 1 else k) rs rd' ef' (putA s r.dst v) H' Q Hs ss vs)
    (hst : DStep P g (base + k) r s H v H') (hmono : r.op.eff = true → H.next ≤ H'.next)
    (hrd : ∀ x ∈ rd, x ∈ rd') (hef : ∀ x ∈ ef, x ∈ ef')
    (hrd' : wantedA s r = true → ∀ id, (r.op.readsId (Arg.eval g s) = some id ∨ (r.op.fresh = true ∧ id = base + k)) → (i, id) ∈ rd')
    (hef' : wantedA s r = true → r.op.eff = true → (i, H, H') ∈ ef')
    (hold : ∀ x ∈ rd, r.op.eff = true → wantedA s r = true → (x.1, i) ∈ pairs → H.get x.2 = H'.get x.2)
    (hnew : ∀ x ∈ ef, wantedA s r = true → (i, x.1) ∈ pairs → ∀ id, (r.op.readsId (Arg.eval g s) = some id ∨ (r.op.fresh = true ∧ id = base + k)) → x.2.1.get id = x.2.2.get id) :
    DRun P g pairs base i k (r :: rs) rd ef s H Q (cons' H Hs) (cons' s ss) (cons' v vs) := by
  have hk : ∀ j, base + ((if r.op.fresh then k + 1 else k) + freshIdx rs j) = base + (k + freshIdx (r :: rs) (j + 1)) := fun j => by
    rw [freshIdx_cons]
    split <;> omega
  have hi : ∀ j, i + 1 + j = i + (j + 1) := fun j => by omega
  refine ⟨rfl, rfl, R.fin, fun j q hq => ?_, fun j q hq he => ?_, fun x hx e re he hee hw hp => ?_, fun x hx j q hq hw hp id hid => ?_, fun j e rj re hj he hee hwj hwe hp id hid => ?_⟩
  · cases j with
    | zero =>
      simp at hq
      subst hq
      refine ⟨?_, R.s0⟩
      show DStep P g (base + (k + freshIdx (r :: rs) 0)) r s H v (Hs 0)
      rw [R.h0]
      exact hst
    | succ j =>
      have := R.step j q (by simpa using hq)
      rw [hk] at this
      exact this
  · cases j with
    | zero =>
      simp at hq
      subst hq
      show H.next ≤ (Hs 0).next
      rw [R.h0]
      exact hmono he
    | succ j => exact R.mono j q (by simpa using hq) he
  · cases e with
    | zero =>
      simp at he
      subst he
      show H.get x.2 = (Hs 0).get x.2
      rw [R.h0]
      exact hold x hx hee hw hp
    | succ e => exact R.old x (hrd x hx) e re (by simpa using he) hee hw (by rw [hi]; exact hp)
  · cases j with
    | zero =>
      simp at hq
      subst hq
      exact hnew x hx hw hp id hid
    | succ j =>
      refine R.new x (hef x hx) j q (by simpa using hq) hw (by rw [hi]; exact hp) id ?_
      rw [hk]
      exact hid
  · cases j with
    | zero =>
      simp at hj
      subst hj
      cases e with
      | zero =>
        simp at he
        subst he
        rcases hid with h | h
        · rw [reads_not_eff (readsId_reads h)] at hee; cases hee
        · rw [fresh_not_eff h.1] at hee; cases hee
      | succ e => exact R.old (i, id) (hrd' hwj id hid) e re (by simpa using he) hee hwe (by rw [hi]; exact hp)
    | succ j =>
      have hid' : rj.op.readsId (Arg.eval g (ss j)) = some id ∨ (rj.op.fresh = true ∧ id = base + ((if r.op.fresh then k + 1 else k) + freshIdx rs j)) := by rw [hk]; exact hid
      cases e with
      | zero =>
        simp at he
        subst he
        show H.get id = (Hs 0).get id
        rw [R.h0]
        exact R.new (i, H, H') (hef' hwe hee) j rj (by simpa using hj) hwj (by rw [hi]; exact hp) id hid'
      | succ e => exact R.both j e rj re (by simpa using hj) (by simpa using he) hee hwj hwe (by rw [hi, hi]; exact hp) id hid'
theorem QStep.dstep {P : Program} {g : Genv} {r : ROper} {s : List AV} {H H' : Heap} {v : AV} {id : Nat} (h : QStep P g r s H v H') (hw : wantedA s r = true) (hf : r.op.fresh = false) : DStep P g id r s H v H' := by
  unfold DStep
  rw [if_pos hw, if_neg (by simp [hf])]
  exact h
theorem ADr_run {P : Program} {g : Genv} {pairs : List (Nat × Nat)} {base : Nat} {Q : List AV → Heap → Prop} : ∀ (rs : List ROper) (i k : Nat) (rd : List (Nat × Nat)) (ef : List (Nat × Heap × Heap)) (s : List AV) (H : Heap),
    ADr P g pairs base i k rs rd ef s H Q → ∃ Hs ss vs, DRun P g pairs base i k rs rd ef s H Q Hs ss vs
  | [], i, k, rd, ef, s, H, h => ⟨fun _ => H, fun _ => s, fun _ => undefA, rfl, rfl, h, fun j r hj => by simp at hj, fun j r hj => by simp at hj, fun x hx e re he => by simp at he, fun x hx e re he => by simp at he, fun j e rj re hj => by simp at hj⟩
  | r :: rs, i, k, rd, ef, s, H, h => by
    unfold ADr at h
    by_cases hw : wantedA s r = true
    · rw [if_pos hw] at h
      by_cases hf : r.op.fresh = true
      · rw [if_pos hf] at h
        obtain ⟨ob, val, h1, h2, h3⟩ := h
        obtain ⟨Hs, ss, vs, R⟩ := ADr_run rs _ _ _ _ _ _ h3
        have hk : (if r.op.fresh then k + 1 else k) = k + 1 := by rw [if_pos hf]
        refine ⟨_, _, _, DRun.cons (v := val (base + k)) (by rw [hk]; exact R) ?_ (fun he => by rw [fresh_not_eff hf] at he; cases he) (fun x hx => List.mem_cons_of_mem _ hx) (fun x hx => hx) (fun _ id hid => ?_) (fun _ he => by rw [fresh_not_eff hf] at he; cases he) (fun x _ he => by rw [fresh_not_eff hf] at he; cases he) (fun x hx _ hp id hid => ?_)⟩
        · unfold DStep
          rw [if_pos hw, if_pos hf]
          exact ⟨ob, val, h1, rfl, rfl⟩
        · rcases hid with hid | hid
          · have := readsId_reads hid
            rw [reads_not_fresh this] at hf
            cases hf
          · rw [hid.2]; exact List.mem_cons_self
        · rcases hid with hid | hid
          · have := readsId_reads hid
            rw [reads_not_fresh this] at hf
            cases hf
          · rw [hid.2]; exact h2 x hx hp
      · rw [if_neg hf] at h
        have hf' : r.op.fresh = false := by simpa using hf
        have hk : (if r.op.fresh then k + 1 else k) = k := by rw [if_neg hf]
        by_cases he : r.op.eff = true
        · rw [if_pos he] at h
          obtain ⟨v, H', h1, h2, h3, h4⟩ := h
          obtain ⟨Hs, ss, vs, R⟩ := ADr_run rs _ _ _ _ _ _ h4
          refine ⟨_, _, _, DRun.cons (v := v) (by rw [hk]; exact R) (h1.dstep hw hf') (fun _ => h2) (fun x hx => hx) (fun x hx => List.mem_cons_of_mem _ hx) (fun _ id hid => ?_) (fun _ _ => List.mem_cons_self) (fun x hx _ _ hp => h3 x hx hp) (fun x hx _ hp id hid => ?_)⟩
          all_goals
            rcases hid with hid | hid
            · rw [reads_not_eff (readsId_reads hid)] at he; cases he
            · exact absurd hid.1 hf
        · rw [if_neg he] at h
          obtain ⟨v, h1, h2, h3⟩ := h
          obtain ⟨Hs, ss, vs, R⟩ := ADr_run rs _ _ _ _ _ _ h3
          refine ⟨_, _, _, DRun.cons (v := v) (by rw [hk]; exact R) (h1.dstep hw hf') (fun he' => absurd he' he) (fun x hx => ?_) (fun x hx => hx) (fun _ id hid => ?_) (fun _ he' => absurd he' he) (fun x _ he' => absurd he' he) (fun x hx _ hp id hid => ?_)⟩
          · split
            · exact List.mem_cons_of_mem _ hx
            · exact hx
          · rcases hid with hid | hid
            · rw [hid]; exact List.mem_cons_self
            · exact absurd hid.1 hf
          · rcases hid with hid | hid
            · exact h2 id hid x hx hp
            · exact absurd hid.1 hf
    · rw [if_neg hw] at h
      obtain ⟨Hs, ss, vs, R⟩ := ADr_run rs _ _ _ _ _ _ h
      refine ⟨_, _, _, DRun.cons (v := undefA) R ?_ (fun _ => Nat.le_refl _) (fun x hx => hx) (fun x hx => hx) (fun hw' => absurd hw' hw) (fun hw' => absurd hw' hw) (fun x _ _ hw' => absurd hw' hw) (fun x _ hw' => absurd hw' hw)⟩
      unfold DStep
      rw [if_neg hw]
      exact ⟨rfl, rfl⟩
def freeAt (H : Heap) : Nat → Bool
  | 0 => true
  | n + 1 => freeAt H n && (H.get (H.next + n)).isNone
theorem freeAt_get {H : Heap} : ∀ {n : Nat}, freeAt H n = true → ∀ k, k < n → H.get (H.next + k) = none
  | 0, _, k, hk => absurd hk (Nat.not_lt_zero k)
  | n + 1, h, k, hk => by
    simp only [freeAt, Bool.and_eq_true, Option.isNone_iff_eq_none] at h
    by_cases hkn : k = n
    · rw [hkn]; exact h.2
    · exact freeAt_get h.1 k (by omega)
/-- a region that draws: as it goes in the order of the text -/
def ADraw (P : Program) (g : Genv) (rl : List ROper) (pairs : List (Nat × Nat)) (s : List AV) (H : Heap) (Q : List AV → Heap → Prop) : Prop :=
  freeAt H (rl.countP (·.op.fresh)) = true ∧ ADr P g pairs H.next 0 0 rl [] [] s { H with next := H.next + rl.countP (·.op.fresh) } Q
theorem ADraw.run {P : Program} {g : Genv} {rl : List ROper} {pairs : List (Nat × Nat)} {s : List AV} {H : Heap} {Q : List AV → Heap → Prop} (h : ADraw P g rl pairs s H Q)
    (hp : ∀ i e, (i, e) ∈ pairs → ∀ re, rl[e]? = some re → re.op.eff = true) :
    ∃ Hs ss vs, DrawRun P g rl pairs s H Hs ss vs ∧ Q (ss rl.length) (Hs rl.length) := by
  obtain ⟨Hs, ss, vs, R⟩ := ADr_run _ _ _ _ _ _ _ h.2
  refine ⟨Hs, ss, vs, ⟨R.s0, R.h0, freeAt_get h.1, fun i r hi => ?_, R.mono, fun i e hie ri re hi he hwi hwe id hid => ?_⟩, R.fin⟩
  · have := R.step i r hi
    rw [Nat.zero_add] at this
    exact this
  · refine R.both i e ri re hi he (hp i e hie re he) hwi hwe (by simpa using hie) id ?_
    rw [Nat.zero_add]
    exact hid
/-! ### what of the order is bound: a test -/
def ancB (n : Nat) (masks : List Nat) (i j : Nat) : Bool := decide (i < j) && decide (j < n) && (masks.getD j 0).testBit i
def apartB (ri rj : ROper) : Bool :=
  (!ri.op.eff || !rj.op.eff) &&
  (match ri.dst with | some d => !(usesOf rj).contains d && rj.dst != some d | none => true) &&
  (match rj.dst with | some d => !(usesOf ri).contains d | none => true)
def litsB (r : ROper) : Bool := !r.op.reads || r.op.args.all fun | .const v => (idOf v).isNone | _ => true
def drawOKb (ops : Array Oper) (rl : List ROper) (masks : List Nat) : Bool :=
  (List.range rl.length).all fun j =>
    match ops[j]?, rl[j]? with
    | some o, some rj =>
      o.after.toList.all (fun e => !Region.binds .any e || decide (e.on < j)) && litsB rj &&
      (List.range j).all fun i =>
        if ancB rl.length masks i j then o.after.toList.any fun e => Region.binds .any e && (e.on == i || ancB rl.length masks i e.on)
        else match rl[i]? with
          | some ri => apartB ri rj
          | none => false
    | _, _ => false
def pairB (rl : List ROper) (masks : List Nat) (a b : Nat) : Bool :=
  match rl[a]?, rl[b]? with
  | some ra, some rb => rb.op.eff &&
    ((decide (a < b) && !ancB rl.length masks a b && (ra.op.reads || ra.op.fresh)) || (decide (b < a) && (ra.op.fresh || (!ancB rl.length masks b a && ra.op.reads))))
  | _, _ => false
def pairsOf (rl : List ROper) (masks : List Nat) : List (Nat × Nat) :=
  ((List.range rl.length).flatMap fun a => (List.range rl.length).map fun b => (a, b)).filter fun p => pairB rl masks p.1 p.2
theorem mem_pairsOf {rl : List ROper} {masks : List Nat} {a b : Nat} : (a, b) ∈ pairsOf rl masks ↔ a < rl.length ∧ b < rl.length ∧ pairB rl masks a b = true := by
  unfold pairsOf
  simp only [List.mem_filter, List.mem_flatMap, List.mem_range, List.mem_map, Prod.mk.injEq]
  constructor
  · rintro ⟨⟨x, hx, y, hy, rfl, rfl⟩, h⟩
    exact ⟨hx, hy, h⟩
  · rintro ⟨h1, h2, h3⟩
    exact ⟨⟨a, h1, b, h2, rfl, rfl⟩, h3⟩
theorem drawOK_of {ops : Array Oper} {rl : List ROper} {masks : List Nat} (hn : rl.length = ops.size) (h : drawOKb ops rl masks = true) : DrawOK ops rl (pairsOf rl masks) (ancB rl.length masks) := by
  unfold drawOKb at h
  rw [List.all_eq_true] at h
  have hj : ∀ (j : Nat) (o : Oper) (rj : ROper), ops[j]? = some o → rl[j]? = some rj →
      (o.after.toList.all (fun e => !Region.binds .any e || decide (e.on < j)) && litsB rj &&
      (List.range j).all fun i =>
        if ancB rl.length masks i j then o.after.toList.any fun e => Region.binds .any e && (e.on == i || ancB rl.length masks i e.on)
        else match rl[i]? with
          | some ri => apartB ri rj
          | none => false) = true := fun j o rj ho hr => by
    have := h j (List.mem_range.2 (List.getElem?_eq_some_iff.1 hr).1)
    rw [ho, hr] at this
    exact this
  have hro : ∀ (j : Nat), j < rl.length → ∃ o rj, ops[j]? = some o ∧ rl[j]? = some rj := fun j hj => ⟨ops[j]'(by omega), rl[j], by simp [show j < ops.size by omega], by simp [hj]⟩
  have hcmp : ∀ i j ri rj, i < j → rl[i]? = some ri → rl[j]? = some rj → ancB rl.length masks i j = false → apartB ri rj = true := fun i j ri rj hij hi hjj ha => by
    obtain ⟨o, rj', ho, hr'⟩ := hro j (List.getElem?_eq_some_iff.1 hjj).1
    have := hj j o rj ho hjj
    simp only [Bool.and_eq_true] at this
    have := List.all_eq_true.1 this.2 i (List.mem_range.2 hij)
    rw [ha, hi] at this
    exact this
  refine ⟨fun j o ho e he hb => ?_, fun i j ha => ?_, fun i j ri rj hij hi hjj ha => ?_, fun i j ri rj hij hi hjj he hf => ?_, fun j r hr hrd v hv => ?_⟩
  · obtain ⟨o', rj, ho', hr⟩ := hro j (by rw [hn]; exact (Array.getElem?_eq_some_iff.1 ho).1)
    have := hj j o rj ho hr
    simp only [Bool.and_eq_true] at this
    have := List.all_eq_true.1 this.1.1 e (by simpa using he)
    rw [hb] at this
    simpa using this
  · have ha' := ha
    unfold ancB at ha
    simp only [Bool.and_eq_true, decide_eq_true_eq] at ha
    obtain ⟨o, rj, ho, hr⟩ := hro j ha.1.2
    have := hj j o rj ho hr
    simp only [Bool.and_eq_true] at this
    have := List.all_eq_true.1 this.2 i (List.mem_range.2 ha.1.1)
    rw [if_pos ha'] at this
    obtain ⟨e, he, hc⟩ := List.any_eq_true.1 this
    simp only [Bool.and_eq_true, Bool.or_eq_true, beq_iff_eq] at hc
    exact ⟨o, ho, e, by simpa using he, hc.1, hc.2⟩
  · have hap := hcmp i j ri rj hij hi hjj ha
    have hli := (List.getElem?_eq_some_iff.1 hi).1
    have hlj := (List.getElem?_eq_some_iff.1 hjj).1
    unfold apartB at hap
    simp only [Bool.and_eq_true] at hap
    obtain ⟨⟨h1, h2⟩, h3⟩ := hap
    refine ⟨fun he => ?_, fun d hd => ?_, fun d hd => ?_, fun he hr => ?_, fun he hr => ?_⟩
    · rw [he] at h1; simpa using h1
    · rw [hd] at h2
      simp only [Bool.and_eq_true, Bool.not_eq_true', bne_iff_ne] at h2
      exact ⟨fun hm => by have := h2.1; simp [hm] at this, h2.2⟩
    · rw [hd] at h3
      simp only [Bool.not_eq_true'] at h3
      exact fun hm => by simp [hm] at h3
    · refine mem_pairsOf.2 ⟨hli, hlj, ?_⟩
      unfold pairB
      rw [hi, hjj]
      simp only [he, hij, ha, decide_true, Bool.not_false, Bool.and_self, Bool.true_and, Bool.or_eq_true]
      exact .inl hr
    · refine mem_pairsOf.2 ⟨hlj, hli, ?_⟩
      unfold pairB
      rw [hi, hjj]
      simp [he, hij, ha, hr]
  · have hli := (List.getElem?_eq_some_iff.1 hi).1
    have hlj := (List.getElem?_eq_some_iff.1 hjj).1
    refine mem_pairsOf.2 ⟨hlj, hli, ?_⟩
    unfold pairB
    rw [hi, hjj]
    simp [he, hij, hf]
  · obtain ⟨o, rj', ho, _⟩ := hro j (List.getElem?_eq_some_iff.1 hr).1
    have := hj j o r ho hr
    simp only [Bool.and_eq_true] at this
    have := this.1.2
    unfold litsB at this
    rw [hrd] at this
    simp only [Bool.not_true, Bool.false_or] at this
    have := List.all_eq_true.1 this _ hv
    simpa using this
theorem pairs_eff {rl : List ROper} {masks : List Nat} : ∀ i e, (i, e) ∈ pairsOf rl masks → ∀ re, rl[e]? = some re → re.op.eff = true := fun i e h re hre => by
  have := (mem_pairsOf.1 h).2.2
  unfold pairB at this
  rw [hre] at this
  cases hi : rl[i]? with
  | none => rw [hi] at this; cases this
  | some ri =>
    rw [hi] at this
    simp only [Bool.and_eq_true] at this
    exact this.1
/-! ### code -/
inductive ACode where
  | skip
  | ops (rl : List ROper)
  | draw (rl : List ROper) (pairs : List (Nat × Nat))
  | seq (a b : ACode)
  | cond (c : Arg) (a b : ACode)
  | block (id : Nat) (a : ACode)
  | loop (a : ACode)
  | exit (id : Nat)
  | ret
def acode (P : Program) (g : Genv) (mu : Bool) : Code → Option ACode
  | .skip => some .skip
  | .label _ => some .skip
  | .region _ ops false => (copers P g mu ops ops.toList).map .ops
  | .region _ ops true => match copers P g mu ops ops.toList with
    | some rl => if drawOKb ops rl (Region.before ops).toList then some (.draw rl (pairsOf rl (Region.before ops).toList)) else none
    | none => none
  | .seq a b => match acode P g mu a, acode P g mu b with
    | some x, some y => some (.seq x y)
    | _, _ => none
  | .cond c a b => match argOf g c, acode P g mu a, acode P g mu b with
    | some z, some x, some y => some (.cond z x y)
    | _, _, _ => none
  | .block id a => (acode P g mu a).map (.block id)
  | .loop a => (acode P g mu a).map .loop
  | .scope a => acode P g mu a
  | .exit id => some (.exit id)
  | .ret => some .ret
  | _ => none
def thenA (next : List AV → List Dfr → Heap → Prop) (Q : AQ) : AQ
  | .normal, s, ds, H => next s ds H
  | e, s, ds, H => Q e s ds H
def inBlockA (id : Nat) (Q : AQ) : AQ
  | .exit i, s, ds, H => if i = id then Q .normal s ds H else Q (.exit i) s ds H
  | e, s, ds, H => Q e s ds H
def AC (P : Program) (g : Genv) : ACode → List AV → List Dfr → Heap → AQ → Prop
  | .skip, s, ds, H, Q => Q .normal s ds H
  | .ops rl, s, ds, H, Q => AOps P g rl s ds H Q
  | .draw rl pairs, s, ds, H, Q => ADraw P g rl pairs s H fun s' H' => Q .normal s' ds H'
  | .seq a b, s, ds, H, Q => AC P g a s ds H (thenA (fun s ds H => AC P g b s ds H Q) Q)
  | .cond c a b, s, ds, H, Q => ∃ t, c.eval g s = .bool t ∧ if t then AC P g a s ds H Q else AC P g b s ds H Q
  | .block id a, s, ds, H, Q => AC P g a s ds H (inBlockA id Q)
  | .loop a, s, ds, H, Q => ∃ (I : Nat → List AV → List Dfr → Heap → Prop) (n : Nat), I n s ds H ∧
      ∀ n s ds H, I n s ds H → AC P g a s ds H (thenA (fun s ds H => ∃ m, m < n ∧ I m s ds H) Q)
  | .exit id, s, ds, H, Q => Q (.exit id) s ds H
  | .ret, s, ds, H, Q => Q .ret s ds H
theorem wp_scope {P : Program} {c : Code} {Q : Exit → Act → World → Prop} {a : Act} {w : World} (h : c.wp P Q a w) (hg : ∀ l a w, ¬ Q (.goto l) a w) : (Code.scope c).wp P Q a w := by
  intro b k cs
  obtain ⟨e, a', w', hq, harr⟩ := h b (.inScope c :: k) cs
  have h1 : step P (lone (b.at a (.code (.scope c) :: k)) cs w) = .next (lone (b.at a (.code c :: .inScope c :: k)) cs w) := step_lone_go (by simp [stepG, stepG.exec, Frame.at])
  have h2 : ∀ a w, step P (lone (b.at a (.inScope c :: k)) cs w) = .next (lone (b.at a k) cs w) := fun a w => step_lone_go (by simp [stepG, stepG.exec, Frame.at])
  refine ⟨e, a', w', hq, .of_steps (.one h1) ?_⟩
  cases e with
  | normal => exact Steps.trans harr (.one (h2 a' w'))
  | exit id => exact fun k' hk => harr k' (by simpa [exitTo] using hk)
  | goto l => exact (hg l a' w' hq).elim
  | ret => exact harr
  | panic ch => exact harr
  | outgrown => exact harr
theorem wp_loop_n {P : Program} {Q : Exit → Act → World → Prop} {c : Code} (I : Nat → Act → World → Prop) {n : Nat} {a : Act} {w : World} (h0 : I n a w)
    (round : ∀ n a w, I n a w → c.wp P (Exit.then (fun a' w' => ∃ m, m < n ∧ I m a' w') Q) a w) : (Code.loop c).wp P Q a w := by
  intro b k cs
  have key : ∀ n a w, I n a w → ∃ e a' w', Q e a' w' ∧ Arrives P (lone (b.at a (.code c :: .inLoop c :: k)) cs w) b k cs e a' w' := by
    intro n
    induction n using Nat.strongRecOn with
    | _ n ih =>
      intro a w hI
      obtain ⟨e, a₁, w₁, hq, harr⟩ := round n a w hI b (.inLoop c :: k) cs
      cases e with
      | normal =>
        obtain ⟨m, hlt, hI₁⟩ := hq
        obtain ⟨e₂, a₂, w₂, hq₂, harr₂⟩ := ih m hlt a₁ w₁ hI₁
        exact ⟨e₂, a₂, w₂, hq₂, .of_steps (Steps.trans harr (.one step_inLoop)) harr₂⟩
      | exit id => exact ⟨_, a₁, w₁, hq, .pass (x := .inLoop c) rfl (fun _ _ => .inl (by simp)) harr⟩
      | goto l => exact ⟨_, a₁, w₁, hq, .pass (x := .inLoop c) rfl (fun _ _ => .inl (by simp)) harr⟩
      | ret => exact ⟨_, a₁, w₁, hq, .pass (x := .inLoop c) rfl (fun _ _ => .inl (by simp)) harr⟩
      | panic ch => exact ⟨_, a₁, w₁, hq, .pass (x := .inLoop c) rfl (fun _ _ => .inl (by simp)) harr⟩
      | outgrown => exact ⟨_, a₁, w₁, hq, .pass (x := .inLoop c) rfl (fun _ _ => .inl (by simp)) harr⟩
  obtain ⟨e, a', w', hq, harr⟩ := key n a w h0
  exact ⟨e, a', w', hq, .of_steps (.one step_loop) harr⟩
theorem QR.no_goto {g : Genv} {G : Gh} {H : Heap} {w : World} {Q : AQ} {l : Nat} {a : Act} {w' : World} : ¬ QR g G H w Q (.goto l) a w' := by
  rintro ⟨ae, s', ds', H', G', _, _, _, _, _, hx⟩
  cases ae <;> exact hx.elim
theorem AC_sound {P : Program} {g : Genv} {mu : Bool} (hm : P.follows .mixedOrders = true) : ∀ (c : Code) (ac : ACode), acode P g mu c = some ac → ∀ (s : List AV) (ds : List Dfr) (G : Gh) (H : Heap) (w : World) (a : Act) (Q : AQ),
    AC P g ac s ds H Q → WR g G H w → SR G w s a → DsR G w ds a.defers → c.wp P (QR g G H w Q) a w := by
  intro c
  induction c with
  | skip =>
    intro ac hc s ds G H w a Q h hw hs hd
    simp only [acode, Option.some.injEq] at hc
    subst hc
    exact wp_skip ⟨.normal, s, ds, H, G, h, hw, Ext.refl G H w, hs, hd, trivial⟩
  | label l =>
    intro ac hc s ds G H w a Q h hw hs hd
    simp only [acode, Option.some.injEq] at hc
    subst hc
    exact wp_label ⟨.normal, s, ds, H, G, h, hw, Ext.refl G H w, hs, hd, trivial⟩
  | region id ops draw =>
    intro ac hc s ds G H w a Q h hw hs hd
    cases draw with
    | false =>
      simp only [acode, Option.map_eq_some_iff] at hc
      obtain ⟨rl, hrl, rfl⟩ := hc
      refine wp_region ?_
      have := AOps_sound ops.toList rl 0 hrl (fun j hj => by simp) s ds G H w a Q h hw hs hd
      rw [Array.length_toList] at this
      rwa [List.range_eq_range']
    | true =>
      simp only [acode] at hc
      split at hc
      · rename_i rl hrl
        split at hc
        · rename_i hok
          obtain rfl := Option.some.inj hc
          have hn : rl.length = ops.size := by simpa using (copers_get _ _ hrl).1
          obtain ⟨Hs, ss, vs, D, hQ⟩ := ADraw.run h pairs_eff
          exact draw_sound hm hrl D (drawOK_of hn hok) hw hs hd hQ
        · cases hc
      · cases hc
  | seq x y ihx ihy =>
    intro ac hc s ds G H w a Q h hw hs hd
    simp only [acode] at hc
    split at hc
    · rename_i ax ay hax hay
      obtain rfl := Option.some.inj hc
      refine wp_seq (wp_mono (ihx ax hax s ds G H w a _ h hw hs hd) fun e a' w' hq => ?_)
      obtain ⟨ae, s', ds', H', G', q, hw', he, hs', hd', hx⟩ := hq
      cases e with
      | normal =>
        cases ae with
        | normal => exact wp_mono (ihy ay hay s' ds' G' H' w' a' Q q hw' hs' hd') fun _ _ _ hq => QR.trans he hq
        | _ => exact hx.elim
      | _ =>
        cases ae with
        | normal => exact hx.elim
        | _ => exact ⟨_, s', ds', H', G', q, hw', he, hs', hd', hx⟩
    · cases hc
  | cond c x y ihx ihy =>
    intro ac hc s ds G H w a Q h hw hs hd
    simp only [acode] at hc
    split at hc
    · rename_i az ax ay haz hax hay
      obtain rfl := Option.some.inj hc
      obtain ⟨t, ht, h⟩ := h
      have hv := argOf_VR hw hs haz
      rw [ht] at hv
      refine wp_cond hv.bool_inv ?_
      cases t with
      | true => exact ihx ax hax s ds G H w a Q h hw hs hd
      | false => exact ihy ay hay s ds G H w a Q h hw hs hd
    · cases hc
  | block id x ih =>
    intro ac hc s ds G H w a Q h hw hs hd
    simp only [acode, Option.map_eq_some_iff] at hc
    obtain ⟨ax, hax, rfl⟩ := hc
    refine wp_block (wp_mono (ih ax hax s ds G H w a _ h hw hs hd) fun e a' w' hq => ?_)
    obtain ⟨ae, s', ds', H', G', q, hw', he, hs', hd', hx⟩ := hq
    cases ae with
    | exit i =>
      cases e with
      | exit i' =>
        obtain rfl : i = i' := hx
        simp only [inBlockA] at q
        simp only [Exit.inBlock]
        split
        · rename_i hi
          rw [if_pos hi] at q
          exact ⟨.normal, s', ds', H', G', q, hw', he, hs', hd', trivial⟩
        · rename_i hi
          rw [if_neg hi] at q
          exact ⟨.exit i, s', ds', H', G', q, hw', he, hs', hd', rfl⟩
      | _ => exact hx.elim
    | normal =>
      cases e with
      | normal => exact ⟨.normal, s', ds', H', G', q, hw', he, hs', hd', trivial⟩
      | _ => exact hx.elim
    | ret =>
      cases e with
      | ret => exact ⟨.ret, s', ds', H', G', q, hw', he, hs', hd', trivial⟩
      | _ => exact hx.elim
    | panic v =>
      cases e with
      | panic ch => exact ⟨.panic v, s', ds', H', G', q, hw', he, hs', hd', hx⟩
      | _ => exact hx.elim
  | loop x ih =>
    intro ac hc s ds G H w a Q h hw hs hd
    simp only [acode, Option.map_eq_some_iff] at hc
    obtain ⟨ax, hax, rfl⟩ := hc
    obtain ⟨I, n, h0, hI⟩ := h
    refine wp_loop_n (fun n a' w' => ∃ s' ds' H' G', I n s' ds' H' ∧ WR g G' H' w' ∧ Ext G H w G' H' w' ∧ SR G' w' s' a' ∧ DsR G' w' ds' a'.defers) ⟨s, ds, H, G, h0, hw, Ext.refl G H w, hs, hd⟩ fun n a1 w1 hi => ?_
    obtain ⟨s1, ds1, H1, G1, hi, hw1, he1, hs1, hd1⟩ := hi
    refine wp_mono (ih ax hax s1 ds1 G1 H1 w1 a1 _ (hI n s1 ds1 H1 hi) hw1 hs1 hd1) fun e a' w' hq => ?_
    obtain ⟨ae, s', ds', H', G', q, hw', he, hs', hd', hx⟩ := hq
    cases e with
    | normal =>
      cases ae with
      | normal =>
        obtain ⟨m, hm, hi'⟩ := q
        exact ⟨m, hm, s', ds', H', G', hi', hw', he1.trans he, hs', hd'⟩
      | _ => exact hx.elim
    | _ =>
      cases ae with
      | normal => exact hx.elim
      | _ => exact ⟨_, s', ds', H', G', q, hw', he1.trans he, hs', hd', hx⟩
  | scope x ih =>
    intro ac hc s ds G H w a Q h hw hs hd
    exact wp_scope (ih ac hc s ds G H w a Q h hw hs hd) fun l a w => QR.no_goto
  | exit id =>
    intro ac hc s ds G H w a Q h hw hs hd
    simp only [acode, Option.some.injEq] at hc
    subst hc
    exact wp_exit ⟨.exit id, s, ds, H, G, h, hw, Ext.refl G H w, hs, hd, rfl⟩
  | ret =>
    intro ac hc s ds G H w a Q h hw hs hd
    simp only [acode, Option.some.injEq] at hc
    subst hc
    exact wp_ret ⟨.ret, s, ds, H, G, h, hw, Ext.refl G H w, hs, hd, trivial⟩
  | _ =>
    intro ac hc
    simp [acode] at hc
end Go.Av
end
section
namespace Go.Av
open Go
inductive ARes where
  | tmp (t : Nat)
  | cell (a : Nat) (agg : Bool) (n : Nat)
def aresOf (P : Program) : ResultVar → Option ARes
  | .tmp t => some (.tmp t)
  | .cell a t => match isAggP P t, sizeP P t with
    | some agg, some n => some (.cell a agg n)
    | _, _ => none
def aressOf (P : Program) : List ResultVar → Option (List ARes)
  | [] => some []
  | x :: r => match aresOf P x, aressOf P r with
    | some y, some ys => some (y :: ys)
    | _, _ => none
def resA (s : List AV) (H : Heap) : ARes → Option AV
  | .tmp t => some (s.getD t undefA)
  | .cell a agg n => match aop (Arg.eval (fun _ => none) s) H (.load agg n (.tmp a)) with
    | some (v, _) => some v
    | none => none
def resAs (s : List AV) (H : Heap) : List ARes → Option (List AV)
  | [] => some []
  | x :: r => match resA s H x, resAs s H r with
    | some v, some vs => some (v :: vs)
    | _, _ => none
def retA : List AV → AV
  | [v] => v
  | vs => .tup vs
structure AFn where
  ntmps : Nat
  results : List ARes
  body : ACode
/-- the function of the program, compiled -/
def FnIs (P : Program) (g : Genv) (mu : Bool) (f : FuncId) (F : AFn) : Prop :=
  ∃ fn c, P.funcs[f]? = some fn ∧ fn.body = some c ∧ (fn.name == "runtime.NumGoroutine") = false ∧ acode P g mu c = some F.body ∧ fn.ntmps = F.ntmps ∧ aressOf P fn.results.toList = some F.results
theorem FnIs.ok {P : Program} {g : Genv} {mu : Bool} {f : FuncId} {F : AFn} (h : FnIs P g mu f F) : FnOK P f :=
  let ⟨fn, c, h1, h2, h3, _⟩ := h
  ⟨fn, h1, by rw [h2]; rfl, h3⟩
def startS (F : AFn) (args : List AV) : List AV := args ++ List.replicate (F.ntmps - args.length) undefA
/-- how a body without deferred calls ends -/
def retQ (F : AFn) (R : Out → Heap → Prop) : AQ
  | .normal, s, ds, H | .ret, s, ds, H => ds = [] ∧ ∃ vs, resAs s H F.results = some vs ∧ R (.ret (retA vs)) H
  | .panic v, _, ds, H => ds = [] ∧ R (.pan v) H
  | .exit _, _, _, _ => False
theorem res_load {P : Program} {g : Genv} {G : Gh} {H : Heap} {w : World} {s : List AV} {a : Act} {x : Nat} {t : TypeId} {agg : Bool} {n : Nat} (hag : isAggP P t = some agg) (hsz : sizeP P t = some n)
    {v : AV} {H' : Heap} (hw : WR g G H w) (hs : SR G w s a) (h : aop (Arg.eval (fun _ => none) s) H (.load agg n (.tmp x)) = some (v, H')) :
    ∃ ad u, a.tmps.getD x undef = .pointer (some ad) ∧ (loadVar t ad).run P w = .ok u w ∧ VR G w v u := by
  have vx := hs.getD x
  have fin : ∀ (b o' : Nat) (cs : List AV), a.tmps.getD x undef = .pointer (some ⟨b, o', none⟩) → n = cs.length → (∀ c ∈ cs, c.one = true) → (agg = false → n = 1) →
      (∀ j, j < n → ∃ u, w.cell? ⟨b, o' + j, none⟩ = some u ∧ VR G w (cs.getD j undefA) u) →
      ∃ ad u, a.tmps.getD x undef = .pointer (some ad) ∧ (loadVar t ad).run P w = .ok u w ∧ VR G w (if agg then .agg cs else cs.getD 0 undefA) u := by
    intro b o' cs he hl h1 hn hc
    obtain ⟨u, hr, hv⟩ := run_load_rel (P := P) hag hsz hl h1 hn hc
    exact ⟨_, u, he, hr, hv⟩
  simp only [aop, Arg.eval] at h
  generalize hxv : a.tmps.getD x undef = xv at vx fin
  split at h
  · rename_i id off hid
    rw [hid] at vx
    split at h
    · rename_i cs hcs
      obtain ⟨opn, hg⟩ := Heap.cellsAt_some hcs
      split at h
      · rename_i hin
        cases vx with
        | ref _ _ l hl =>
          have h4 := (hw.cells id l cs opn hl hg).2.2.2.1
          have hcell := ref_cells hw hl hg hin
          have hlen : n = ((cs.drop off).take n).length := by simp; omega
          have hone : ∀ c ∈ (cs.drop off).take n, c.one = true := fun c hc => h4 c (List.mem_of_mem_drop (List.mem_of_mem_take hc))
          split at h
          · rename_i hagg
            simp only [Option.some.injEq, Prod.mk.injEq] at h
            obtain ⟨rfl, rfl⟩ := h
            have := fin _ _ _ rfl hlen hone (fun hf => by rw [hagg] at hf; cases hf) hcell
            rwa [if_pos hagg] at this
          · rename_i hagg
            split at h
            · rename_i hn
              simp only [Option.some.injEq, Prod.mk.injEq] at h
              obtain ⟨rfl, rfl⟩ := h
              have := fin _ _ _ rfl hlen hone (fun _ => hn) hcell
              rwa [if_neg hagg, getD_drop_take _ _ _ _ _ (by omega), Nat.add_zero] at this
            · cases h
      · cases h
    · cases h
  · rename_i cs hid
    rw [hid] at vx
    split at h
    · rename_i hin
      cases vx with
      | pl _ b o' us hh hv =>
        have hcell : ∀ j, j < n → ∃ u, w.cell? ⟨b, o' + j, none⟩ = some u ∧ VR G w ((cs.take n).getD j undefA) u := fun j hj => by
          rw [getD_take _ _ _ _ hj]
          exact ⟨us j, (hh j (by omega)).2.1, hv j (by omega)⟩
        have hlen : n = (cs.take n).length := by simp; omega
        have hone : ∀ c ∈ cs.take n, c.one = true := fun c hc => by
          obtain ⟨j, hj, rfl⟩ := List.mem_iff_getElem.1 (List.mem_of_mem_take hc)
          have := (hh j hj).2.2
          simpa [getD_eq, List.getElem?_eq_getElem hj] using this
        split at h
        · rename_i hagg
          simp only [Option.some.injEq, Prod.mk.injEq] at h
          obtain ⟨rfl, rfl⟩ := h
          have := fin _ _ _ rfl hlen hone (fun hf => by rw [hagg] at hf; cases hf) hcell
          rwa [if_pos hagg] at this
        · rename_i hagg
          split at h
          · rename_i hn
            simp only [Option.some.injEq, Prod.mk.injEq] at h
            obtain ⟨rfl, rfl⟩ := h
            have := fin _ _ _ rfl hlen hone (fun _ => hn) hcell
            rwa [if_neg hagg, getD_take _ _ _ _ (by omega)] at this
          · cases h
    · cases h
  · cases h
def oneRes (tmps : Array Value) : ResultVar → Sem Value
  | .tmp t => pure (tmps.getD t undef)
  | .cell a t => do loadVar t (← asAddr (tmps.getD a undef))
theorem results_list {P : Program} {g : Genv} {G : Gh} {H : Heap} {w : World} {s : List AV} {a : Act} (hw : WR g G H w) (hs : SR G w s a) : ∀ (l : List ResultVar) (rl : List ARes) (vs : List AV), aressOf P l = some rl → resAs s H rl = some vs →
    ∃ us : List Value, (l.mapM (oneRes a.tmps)).run P w = Result.ok us w ∧ VRs G w vs us
  | [], rl, vs, hr, h => by
    obtain rfl := Option.some.inj hr
    obtain rfl := Option.some.inj h
    exact ⟨[], by simp, VRs.nil G w⟩
  | x :: l, rl, vs, hr, h => by
    unfold aressOf at hr
    split at hr
    · rename_i y ys hy hys
      obtain rfl := Option.some.inj hr
      unfold resAs at h
      split at h
      · rename_i v vs' hv hvs
        obtain rfl := Option.some.inj h
        obtain ⟨us, h1, h2⟩ := results_list hw hs l ys vs' hys hvs
        cases x with
        | tmp t =>
          obtain rfl := Option.some.inj hy
          obtain rfl := Option.some.inj hv
          exact ⟨a.tmps.getD t undef :: us, by simp [h1, oneRes], VRs.cons (hs.getD t) h2⟩
        | cell b t =>
          simp only [aresOf] at hy
          split at hy
          · rename_i agg n hag hsz
            obtain rfl := Option.some.inj hy
            simp only [resA] at hv
            split at hv
            · rename_i v' H' hv'
              obtain rfl := Option.some.inj hv
              obtain ⟨ad, u, e1, e2, e3⟩ := res_load hag hsz hw hs hv'
              refine ⟨u :: us, ?_, VRs.cons e3 h2⟩
              simp only [List.mapM_cons, oneRes, Sem.run_bind, e1, asAddr, Sem.run_pure, Result.andThen_ok, e2, h1]
            · cases hv
          · cases hy
      · cases h
    · cases hr
theorem run_results {P : Program} {g : Genv} {G : Gh} {H : Heap} {w : World} {s : List AV} {a : Act} {fn : Func} {rl : List ARes} {vs : List AV} (hw : WR g G H w) (hs : SR G w s a) (hr : aressOf P fn.results.toList = some rl) (h : resAs s H rl = some vs) :
    ∃ u, (results fn a.tmps).run P w = .ok u w ∧ VR G w (retA vs) u := by
  obtain ⟨us, h1, h2⟩ := results_list hw hs _ _ _ hr h
  have key : (results fn a.tmps).run P w = .ok (if h : us.toArray.size = 1 then us.toArray[0] else .tuple us.toArray) w := by
    have hres : results fn a.tmps = (fn.results.mapM (oneRes a.tmps) >>= fun vs => pure (if h : vs.size = 1 then vs[0] else .tuple vs)) := by
      unfold results
      congr 1
    rw [hres]
    rw [Array.mapM_eq_mapM_toList]
    simp only [map_eq_pure_bind, Sem.run_bind]
    rw [h1]
    simp
  refine ⟨_, key, ?_⟩
  have hl := h2.1
  cases vs with
  | nil =>
    obtain rfl : us = [] := List.length_eq_zero_iff.1 hl
    exact VR.undefV G w
  | cons v vs =>
    cases us with
    | nil => simp at hl
    | cons u us =>
      cases vs with
      | nil =>
        simp at hl
        subst hl
        have := h2.2 0 (by simp)
        simpa [retA] using this
      | cons v2 vs =>
        cases us with
        | nil => simp at hl
        | cons u2 us =>
          rw [dif_neg (by simp)]
          exact VR.tup _ _ h2.1 h2.2
/-- what a body comes to is what the call does -/
theorem Sound_of_AC {P : Program} {g : Genv} {mu : Bool} (hm : P.follows .mixedOrders = true) {f : FuncId} {F : AFn} (hF : FnIs P g mu f F) {args : List AV} {H H' : Heap} {out : Out}
    (h : AC P g F.body (startS F args) [] H (retQ F fun o h => o = out ∧ h = H')) : Sound P g f args H out H' := by
  refine ⟨hF.ok, fun G w vs hw hv => ?_⟩
  obtain ⟨fn, c, h1, h2, _, h3, h4, h5⟩ := hF
  refine calls_of_wp h1 h2 (wp_mono (AC_sound hm c F.body h3 _ [] G H w _ _ h hw ?_ trivial) fun e a w' hq => ?_)
  · have hlen := hv.1
    show VRs G w _ _
    simp only [startS, Array.toList_append, Array.toList_replicate, List.size_toArray, hlen, h4]
    refine hv.append ⟨by simp, fun j hj => ?_⟩
    simp only [List.length_replicate] at hj
    simp only [List.getD_eq_getElem?_getD, List.getElem?_replicate, hj, if_true, Option.getD_some]
    exact VR.undefV G w
  · obtain ⟨ae, s', ds', H1, G', q, hw', he, hs', hd', hx⟩ := hq
    have hnil : ds' = [] → a.defers = [] := fun hh => by
      subst hh
      cases hda : a.defers with
      | nil => rfl
      | cons d r => rw [hda] at hd'; exact hd'.elim
    have fin : ∀ e', (ds' = [] ∧ ∃ vs, resAs s' H1 F.results = some vs ∧ (Out.ret (retA vs) = out ∧ H1 = H')) →
        (e' = Exit.normal ∨ e' = Exit.ret) → bodyPost P fn (fun e w' => ∃ G', WR g G' H' w' ∧ Ext G H w G' H' w' ∧ OutR G' w' out e) e' a w' := by
      rintro e' ⟨hds, vs', hvs, rfl, rfl⟩ he'
      obtain ⟨u, hu, hvu⟩ := run_results hw' hs' h5 hvs
      rcases he' with rfl | rfl
      all_goals exact ⟨hnil hds, u, hu, G', hw', he, hvu⟩
    cases ae with
    | normal =>
      cases e with
      | normal => exact fin _ q (.inl rfl)
      | _ => exact hx.elim
    | ret =>
      cases e with
      | ret => exact fin _ q (.inr rfl)
      | _ => exact hx.elim
    | exit id => exact q.elim
    | panic v =>
      cases e with
      | panic ch =>
        obtain ⟨hds, rfl, rfl⟩ := q
        exact ⟨hnil hds, G', hw', he, hx⟩
      | _ => exact hx.elim
end Go.Av
end
