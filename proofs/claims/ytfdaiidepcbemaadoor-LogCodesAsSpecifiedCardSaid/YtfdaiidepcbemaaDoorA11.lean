/-
  CALLS, AND OPERATIONS ONE AFTER THE OTHER.
  A REGION THAT DRAWS ITS ORDER: what it comes to in the order of the text, it comes to in every order, where what stands unordered does not meet.
-/
import Derived.Test.YtfdaiidepcbemaaDoorA10
set_option linter.unusedVariables false
set_option linter.unusedSimpArgs false
section
namespace Go.Av
open Go
/-- how a call ends -/
inductive Out where
  | ret (v : AV)
  | pan (v : AV)
def OutR (G : Gh) (w : World) : Out → Ending → Prop
  | .ret v, .returned u => VR G w v u
  | .pan v, .panicked chain => ∃ u, chain = [{ v := u, recovered := false }] ∧ VR G w v u
  | _, _ => False
def FnOK (P : Program) (f : FuncId) : Prop := ∃ fn, P.funcs[f]? = some fn ∧ fn.body.isSome = true ∧ (fn.name == "runtime.NumGoroutine") = false
/-- the contract of a call on abstract values: in every world of which the abstract heap speaks, on every tape -/
def Sound (P : Program) (g : Genv) (f : FuncId) (args : List AV) (H : Heap) (out : Out) (H' : Heap) : Prop :=
  FnOK P f ∧ ∀ (G : Gh) (w : World) (vs : List Value), WR g G H w → VRs G w args vs →
    Calls P f vs.toArray w fun e w' => ∃ G', WR g G' H' w' ∧ Ext G H w G' H' w' ∧ OutR G' w' out e
/-- a deferred call: the function, and all that it is handed -/
abbrev Dfr := FuncId × List AV
inductive AEx where
  | normal
  | exit (id : Nat)
  | ret
  | panic (v : AV)
def wantedA (s : List AV) (o : ROper) : Bool :=
  match o.guard with
  | none => true
  | some (d, b) => match s.getD d undefA with
    | .bool c => c == b
    | _ => false
def putA (s : List AV) (dst : Option Nat) (v : AV) : List AV :=
  match dst with
  | none => s
  | some d => s.set d v
/-- what a value is called with: the function, what it was given first, what it captured -/
def calleeA : AV → Option (FuncId × List AV × List AV)
  | .func (.func f) fs cs => some (f, fs, cs)
  | _ => none
abbrev AQ := AEx → List AV → List Dfr → Heap → Prop
def AOps (P : Program) (g : Genv) : List ROper → List AV → List Dfr → Heap → AQ → Prop
  | [], s, ds, H, Q => Q .normal s ds H
  | o :: r, s, ds, H, Q =>
    if wantedA s o then
      match o.op with
      | .call f as => ∃ p out H', calleeA (f.eval g s) = some p ∧ Sound P g p.1 (p.2.1 ++ as.map (Arg.eval g s) ++ p.2.2) H out H' ∧
          match out with
          | .ret v => AOps P g r (putA s o.dst v) ds H' Q
          | .pan v => Q (.panic v) s ds H'
      | .panic x => ∃ t v, x.eval g s = .iface t v ∧ Q (.panic (.iface t v)) s ds H
      | .deferc f as => ∃ p, calleeA (f.eval g s) = some p ∧ AOps P g r (putA s o.dst undefA) ((p.1, p.2.1 ++ as.map (Arg.eval g s) ++ p.2.2) :: ds) H Q
      | op => ∃ v H', aop (Arg.eval g s) H op = some (v, H') ∧ AOps P g r (putA s o.dst v) ds H' Q
    else AOps P g r (putA s o.dst undefA) ds H Q
/-- the deferred calls -/
def DsR (G : Gh) (w : World) : List Dfr → List Deferred → Prop
  | [], [] => True
  | (f, as) :: ds, d :: r => (∃ cap : List Value, d.target = .fn (.func f) cap.toArray ∧ VRs G w as (d.args.toList ++ cap)) ∧ DsR G w ds r
  | _, _ => False
theorem DsR.ext {G G' : Gh} {H H' : Heap} {w w' : World} (e : Ext G H w G' H' w') : ∀ {ds : List Dfr} {l : List Deferred}, DsR G w ds l → DsR G' w' ds l
  | [], [], _ => trivial
  | (f, as) :: ds, d :: r, h => ⟨let ⟨cap, h1, h2⟩ := h.1; ⟨cap, h1, h2.ext e⟩, DsR.ext e h.2⟩
  | [], _ :: _, h => h.elim
  | _ :: _, [], h => h.elim
def ExR (G : Gh) (w : World) : AEx → Exit → Prop
  | .normal, .normal => True
  | .exit i, .exit j => i = j
  | .ret, .ret => True
  | .panic v, .panic chain => ∃ u, chain = [{ v := u, recovered := false }] ∧ VR G w v u
  | _, _ => False
/-- a postcondition on abstract values, as one on the model's -/
def QR (g : Genv) (G : Gh) (H : Heap) (w : World) (Q : AQ) : Exit → Act → World → Prop := fun e a' w' =>
  ∃ ae s' ds' H' G', Q ae s' ds' H' ∧ WR g G' H' w' ∧ Ext G H w G' H' w' ∧ SR G' w' s' a' ∧ DsR G' w' ds' a'.defers ∧ ExR G' w' ae e
theorem QR.trans {g : Genv} {G G1 : Gh} {H H1 : Heap} {w w1 : World} {Q : AQ} (e : Ext G H w G1 H1 w1) {x : Exit} {a : Act} {w' : World} (h : QR g G1 H1 w1 Q x a w') : QR g G H w Q x a w' :=
  let ⟨ae, s', ds', H', G', q, hw, he, hs, hd, hx⟩ := h
  ⟨ae, s', ds', H', G', q, hw, e.trans he, hs, hd, hx⟩
def coper (P : Program) (g : Genv) (mu : Bool) (ops : Array Oper) (o : Oper) : Option ROper :=
  match cop P g mu o with
  | some r =>
    match o.guard with
    | none => some ⟨o.dst, r, none⟩
    | some (j, b) => match (ops[j]?).bind (·.dst) with
      | some d => some ⟨o.dst, r, some (d, b)⟩
      | none => none
  | none => none
def copers (P : Program) (g : Genv) (mu : Bool) (ops : Array Oper) : List Oper → Option (List ROper)
  | [] => some []
  | o :: r => match coper P g mu ops o, copers P g mu ops r with
    | some x, some xs => some (x :: xs)
    | _, _ => none
theorem coper_some {P : Program} {g : Genv} {mu : Bool} {ops : Array Oper} {o : Oper} {r : ROper} (h : coper P g mu ops o = some r) : r.dst = o.dst ∧ cop P g mu o = some r.op ∧
    ((o.guard = none ∧ r.guard = none) ∨ ∃ j b d, o.guard = some (j, b) ∧ (ops[j]?).bind (·.dst) = some d ∧ r.guard = some (d, b)) := by
  unfold coper at h
  split at h
  · rename_i r' hr
    split at h
    · rename_i hg
      obtain rfl := Option.some.inj h
      exact ⟨rfl, hr, .inl ⟨hg, rfl⟩⟩
    · rename_i j b hg
      split at h
      · rename_i d hd
        obtain rfl := Option.some.inj h
        exact ⟨rfl, hr, .inr ⟨j, b, d, hg, hd, rfl⟩⟩
      · cases h
  · cases h
theorem VR.bool_iff {G : Gh} {w : World} {v : AV} {u : Value} (h : VR G w v u) (b : Bool) : v = .bool b ↔ u = .bool b := by
  constructor
  · rintro rfl; exact h.bool_inv
  · rintro rfl; cases h; rfl
theorem getElem?_getD_undef (a : Array Value) (d : Nat) (b : Bool) : a[d]? = some (.bool b) ↔ a.getD d undef = .bool b := by
  rw [Array.getD_eq_getD_getElem?]
  cases h : a[d]? with
  | none => simp [undef]
  | some v => simp
theorem wanted_rel {P : Program} {g : Genv} {mu : Bool} {ops : Array Oper} {o : Oper} {r : ROper} (h : coper P g mu ops o = some r) {G : Gh} {w : World} {s : List AV} {a : Act} (hs : SR G w s a) :
    Region.wanted o (yielded ops a.tmps) = wantedA s r := by
  obtain ⟨_, _, hg⟩ := coper_some h
  rcases hg with ⟨h1, h2⟩ | ⟨j, b, d, h1, h2, h3⟩
  · simp [Region.wanted, wantedA, h1, h2]
  · simp only [Region.wanted, wantedA, h1, h3, yielded, h2, Option.bind_some]
    have hv := hs.getD d
    have key : ∀ c, s.getD d undefA = .bool c ↔ a.tmps[d]? = some (.bool c) := fun c => by
      rw [getElem?_getD_undef]; exact hv.bool_iff c
    cases hsd : s.getD d undefA with
    | bool c => rw [(key c).1 hsd]; simp
    | _ =>
      have : ∀ c, a.tmps[d]? ≠ some (.bool c) := fun c hc => by
        have := (key c).2 hc
        rw [hsd] at this
        cases this
      split
      · rename_i c hc
        exact absurd hc (this c)
      · rfl
theorem SR.put {G : Gh} {w : World} {s : List AV} {a : Act} (h : SR G w s a) (dst : Option Nat) {v : AV} {u : Value} (hv : VR G w v u) : SR G w (putA s dst v) (a.put dst u) := by
  cases dst with
  | none => exact h
  | some d =>
    have hl := h.1
    refine ⟨by simpa [putA, Act.put] using hl, fun j hj => ?_⟩
    simp only [putA, List.length_set] at hj
    simp only [Array.length_toList] at hl
    have hj' : j < a.tmps.size := by omega
    simp only [putA, Act.put]
    rw [toList_getD, getD_eq, List.getElem?_set, Array.getElem?_setIfInBounds]
    by_cases hd : d = j
    · subst hd
      simp only [if_true, hj, hj', Option.getD_some]
      exact hv
    · rw [if_neg hd, if_neg hd]
      have := h.2 j hj
      rwa [toList_getD] at this
theorem SR.ext {G G' : Gh} {H H' : Heap} {w w' : World} {s : List AV} {a : Act} (h : SR G w s a) (e : Ext G H w G' H' w') : SR G' w' s a := VRs.ext h e
theorem calleeA_VR {G : Gh} {w : World} {v : AV} {u : Value} {p : FuncId × List AV × List AV} (h : calleeA v = some p) (hv : VR G w v u) :
    ∃ as bs : List Value, u = .func (.func p.1) as.toArray bs.toArray ∧ VRs G w p.2.1 as ∧ VRs G w p.2.2 bs := by
  cases v <;> simp only [calleeA] at h <;> try (cases h; done)
  rename_i fn fs cs
  cases fn <;> simp only [] at h <;> first | (cases h; done) | skip
  obtain rfl := Option.some.inj h
  cases hv with
  | func _ _ _ as bs ha hb hav hbv => exact ⟨as, bs, rfl, ⟨ha, hav⟩, ⟨hb, hbv⟩⟩
theorem run_resolve_func {P : Program} {ρ : Operand → Value} {c : Call} {t : TypeId} {f : Operand} {fid : FuncId} {as bs : List Value} (hc : c.callee = .value f) (hf : ρ f = .func (.func fid) as.toArray bs.toArray) (w : World) :
    (resolve ρ c t).run P w = .ok { target := .fn (.func fid) bs.toArray, args := as.toArray ++ c.args.map ρ } w := by
  simp [resolve, hc, hf, Deferred.ofValue]
theorem run_invoke_func {P : Program} {fid : FuncId} (hok : FnOK P fid) (args : Array Value) (cap : Array Value) (w : World) : (invoke (.fn (.func fid) cap) args).run P w = .ok (.enter fid (args ++ cap)) w := by
  obtain ⟨fn, h1, h2, h3⟩ := hok
  have hb : ¬ fn.body = none := fun hh => by rw [hh] at h2; cases h2
  have h3' : ¬ fn.name = "runtime.NumGoroutine" := by simpa using h3
  simp [invoke, callFunc, program, Sem.run, h1, h3', hb]
/-- the operation of a call, by the callee's contract -/
theorem wp_call {P : Program} {g : Genv} {o : Oper} {c : Call} {f : Operand} {f' : Arg} {as' : List Arg} (ho : o.op = .call c) (hc : c.callee = .value f) (hf : argOf g f = some f') (has : argsOf g c.args.toList = some as')
    {G : Gh} {H H' : Heap} {w : World} {s : List AV} {a : Act} {p : FuncId × List AV × List AV} {out : Out} (hw : WR g G H w) (hs : SR G w s a) (hp : calleeA (f'.eval g s) = some p)
    (hS : Sound P g p.1 (p.2.1 ++ as'.map (Arg.eval g s) ++ p.2.2) H out H') {next : Act → World → Prop} {Q : Exit → Act → World → Prop}
    (hn : ∀ v, out = .ret v → ∀ u w' G', WR g G' H' w' → Ext G H w G' H' w' → VR G' w' v u → next (a.put o.dst u) w')
    (hx : ∀ v, out = .pan v → ∀ u w' G', WR g G' H' w' → Ext G H w G' H' w' → VR G' w' v u → Q (.panic [{ v := u, recovered := false }]) a w') :
    o.wp P a w next Q := by
  obtain ⟨us, bs, hfv, h1, h2⟩ := calleeA_VR hp (argOf_VR hw hs hf)
  have hargs := argsOf_VRs hw hs has
  have hrun : (execOp a.eval o).run P w = .ok (.enter p.1 (us ++ c.args.toList.map a.eval ++ bs).toArray) w := by
    simp only [execOp, ho, Sem.run_bind, run_resolve_func hc hfv, Result.andThen_ok, run_invoke_func hS.1]
    congr 2
    apply Array.ext'
    simp
  have hcall := hS.2 G w _ hw ((h1.append hargs).append h2)
  unfold Oper.wp Oper.upon
  rw [hrun]
  refine hcall.mono fun e w' he => ?_
  obtain ⟨G', hw', hext, hout⟩ := he
  cases out with
  | ret v =>
    cases e with
    | returned u => exact hn v rfl u w' G' hw' hext hout
    | panicked _ => exact hout.elim
    | outgrown => exact hout.elim
  | pan v =>
    cases e with
    | returned _ => exact hout.elim
    | panicked chain =>
      obtain ⟨u, rfl, hv⟩ := hout
      exact hx v rfl u w' G' hw' hext hv
    | outgrown => exact hout.elim
/-- an operation of the model without a call -/
theorem wp_plain {P : Program} {g : Genv} {o : Oper} {r : ROp} (hok : OpOK P g o r) {G : Gh} {H H' : Heap} {w : World} {s : List AV} {a : Act} {v : AV} (hw : WR g G H w) (hs : SR G w s a)
    (h : aop (Arg.eval g s) H r = some (v, H')) {next : Act → World → Prop} {Q : Exit → Act → World → Prop}
    (hn : ∀ u w' G', WR g G' H' w' → Ext G H w G' H' w' → VR G' w' v u → next (a.put o.dst u) w') : o.wp P a w next Q := by
  obtain ⟨n, u, w', G', hr, hnv, r1, r2, r3⟩ := hok s a G H w v H' hw hs h
  unfold Oper.wp Oper.upon
  rw [hr]
  rcases hnv with rfl | ⟨rfl, rfl⟩
  · exact hn u w' G' r1 r2 r3
  · exact hn undef w' G' r1 r2 r3
theorem cop_call {P : Program} {g : Genv} {mu : Bool} {o : Oper} {f' : Arg} {as' : List Arg} (h : cop P g mu o = some (.call f' as')) :
    ∃ c f, o.op = .call c ∧ c.callee = .value f ∧ argOf g f = some f' ∧ argsOf g c.args.toList = some as' := by
  unfold cop at h
  split at h
  case h_29 =>
    rename_i c ho
    unfold copCall at h
    split at h
    case h_5 =>
      rename_i f hc
      split at h
      · rename_i f2 as2 hf has
        cases h
        exact ⟨c, f, ho, hc, hf, has⟩
      · cases h
    all_goals exfalso
    all_goals (try unfold copLen at h)
    all_goals (try unfold copAppend at h)
    all_goals repeat' (split at h)
    all_goals (cases h; done)
  all_goals exfalso
  all_goals (try unfold copBin at h)
  all_goals (try unfold copSlice at h)
  all_goals (try unfold copConv at h)
  all_goals repeat' (split at h)
  all_goals first
    | (cases h; done)
    | (simp only [Option.map_eq_some_iff] at h; obtain ⟨_, _, h⟩ := h; cases h; done)
theorem cop_panic {P : Program} {g : Genv} {mu : Bool} {o : Oper} {x' : Arg} (h : cop P g mu o = some (.panic x')) : ∃ x, o.op = .panic x ∧ argOf g x = some x' := by
  unfold cop at h
  split at h
  case h_30 =>
    rename_i x ho
    simp only [Option.map_eq_some_iff] at h
    obtain ⟨y, hy, he⟩ := h
    cases he
    exact ⟨x, ho, hy⟩
  all_goals exfalso
  all_goals (try unfold copBin at h)
  all_goals (try unfold copSlice at h)
  all_goals (try unfold copConv at h)
  all_goals (try unfold copCall at h)
  all_goals (try unfold copLen at h)
  all_goals (try unfold copAppend at h)
  all_goals repeat' (split at h)
  all_goals first
    | (cases h; done)
    | (simp only [Option.map_eq_some_iff] at h; obtain ⟨_, _, h⟩ := h; cases h; done)
theorem cop_defer {P : Program} {g : Genv} {mu : Bool} {o : Oper} {f' : Arg} {as' : List Arg} (h : cop P g mu o = some (.deferc f' as')) :
    ∃ c f, o.op = .defer c ∧ c.callee = .value f ∧ argOf g f = some f' ∧ argsOf g c.args.toList = some as' := by
  unfold cop at h
  split at h
  case h_31 =>
    rename_i c ho
    split at h
    · rename_i f hc
      split at h
      · rename_i f2 as2 hf has
        cases h
        exact ⟨c, f, ho, hc, hf, has⟩
      · cases h
    · cases h
  all_goals exfalso
  all_goals (try unfold copBin at h)
  all_goals (try unfold copSlice at h)
  all_goals (try unfold copConv at h)
  all_goals (try unfold copCall at h)
  all_goals (try unfold copLen at h)
  all_goals (try unfold copAppend at h)
  all_goals repeat' (split at h)
  all_goals first
    | (cases h; done)
    | (simp only [Option.map_eq_some_iff] at h; obtain ⟨_, _, h⟩ := h; cases h; done)
theorem AOps_sound {P : Program} {g : Genv} {mu : Bool} {ops : Array Oper} : ∀ (l : List Oper) (rl : List ROper) (k : Nat), copers P g mu ops l = some rl → (∀ j, (h : j < l.length) → ops[k + j]? = some l[j]) →
    ∀ (s : List AV) (ds : List Dfr) (G : Gh) (H : Heap) (w : World) (a : Act) (Q : AQ), AOps P g rl s ds H Q → WR g G H w → SR G w s a → DsR G w ds a.defers →
      wpOps P ops (QR g G H w Q) (List.range' k l.length) a w
  | [], rl, k, hc, hl, s, ds, G, H, w, a, Q, h, hw, hs, hd => by
    obtain rfl := Option.some.inj hc
    exact ⟨.normal, s, ds, H, G, h, hw, Ext.refl G H w, hs, hd, trivial⟩
  | o :: l, rl, k, hc, hl, s, ds, G, H, w, a, Q, h, hw, hs, hd => by
    unfold copers at hc
    split at hc
    · rename_i r rs hr hrs
      obtain rfl := Option.some.inj hc
      have ho : ops[k]? = some o := hl 0 (by simp)
      have hl' : ∀ j, (h : j < l.length) → ops[k + 1 + j]? = some l[j] := fun j hj => by
        have := hl (j + 1) (by simpa using hj)
        simpa [show k + (j + 1) = k + 1 + j by omega] using this
      obtain ⟨hdst, hcop, _⟩ := coper_some hr
      have hwant := wanted_rel hr hs
      have next : ∀ {v : AV} {u : Value} {H1 : Heap} {w1 : World} {G1 : Gh} {ds1 : List Dfr} {a1 : Act}, AOps P g rs (putA s r.dst v) ds1 H1 Q → WR g G1 H1 w1 → Ext G H w G1 H1 w1 → VR G1 w1 v u → SR G w s a1 → DsR G1 w1 ds1 a1.defers →
          wpOps P ops (QR g G H w Q) (List.range' (k + 1) l.length) (a1.put o.dst u) w1 := by
        intro v u H1 w1 G1 ds1 a1 hA hw1 he hv hs1 hd1
        have hs' := (hs1.ext he).put r.dst hv
        rw [hdst] at hs' hA
        have hdp : DsR G1 w1 ds1 (a1.put o.dst u).defers := by
          cases o.dst <;> exact hd1
        have := AOps_sound l rs (k + 1) hrs hl' _ ds1 G1 H1 w1 _ Q hA hw1 hs' hdp
        have mono : ∀ (l : List Nat) (a : Act) (w2 : World), wpOps P ops (QR g G1 H1 w1 Q) l a w2 → wpOps P ops (QR g G H w Q) l a w2 := by
          intro l
          induction l with
          | nil => exact fun a w2 hh => QR.trans he hh
          | cons i l ih =>
            intro a w2 hh
            rw [wpOps_cons] at hh ⊢
            unfold wpOp at hh ⊢
            split
            · rename_i hi
              simp only [hi] at hh
              exact ih _ _ hh
            · rename_i x hi
              simp only [hi] at hh
              split
              · rename_i hwa
                simp only [hwa, if_true] at hh
                rcases hh with hh | ⟨h1, a0, w0, h2⟩
                · refine .inl ?_
                  unfold Oper.wp at *
                  generalize (execOp a.eval x).run P w2 = rr at *
                  cases rr with
                  | ok n w3 =>
                    cases n <;> simp only [Oper.upon] at hh ⊢ <;> first
                      | exact ih _ _ hh
                      | exact hh
                      | exact Calls.mono hh (fun e w4 he' => by
                          cases e with
                          | returned v => exact ih _ _ he'
                          | panicked ch => exact QR.trans he he'
                          | outgrown => exact let ⟨a0, w0, q⟩ := he'; ⟨a0, w0, QR.trans he q⟩)
                      | exact Rows.mono hh (fun _ _ he' => ih _ _ he')
                  | halt x w3 => cases x <;> simp only [Oper.upon] at hh ⊢ <;> first | exact hh | exact QR.trans he hh
                · exact .inr ⟨h1, a0, w0, QR.trans he h2⟩
              · rename_i hwa
                simp only [hwa] at hh
                exact ih _ _ hh
        exact mono _ _ _ this
      simp only [List.length_cons, List.range'_succ]
      rw [wpOps_cons]
      unfold wpOp
      simp only [ho]
      rw [hwant]
      unfold AOps at h
      by_cases hwa : wantedA s r = true
      · rw [if_pos hwa] at h ⊢
        refine .inl ?_
        split at h
        · rename_i f as hop
          obtain ⟨p, out, H', hp, hS, hout⟩ := h
          rw [hop] at hcop
          obtain ⟨c, f0, e1, e2, e3, e4⟩ := cop_call hcop
          refine wp_call e1 e2 e3 e4 hw hs hp hS (fun v hv u w' G' hw' he hvu => ?_) (fun v hv u w' G' hw' he hvu => ?_)
          · subst hv
            exact next hout hw' he hvu hs (hd.ext he)
          · subst hv
            exact ⟨.panic v, s, ds, H', G', hout, hw', he, hs.ext he, hd.ext he, u, rfl, hvu⟩
        · rename_i x hop
          obtain ⟨t, v, hx, hq⟩ := h
          rw [hop] at hcop
          obtain ⟨x0, e1, e2⟩ := cop_panic hcop
          have vx := argOf_VR hw hs e2
          rw [hx] at vx
          generalize hxv : a.eval x0 = u at vx
          have hrun : ∀ q, u = .iface t q → (execOp a.eval o).run P w = .halt (.panic u) w := fun q hq => by
            subst hq
            simp [execOp, e1, hxv, Instr.panic, goPanic]
          unfold Oper.wp Oper.upon
          have vx' := vx
          cases vx with
          | iface _ _ q hqv =>
            rw [hrun q rfl]
            exact ⟨.panic (.iface t v), s, ds, H, G, hq, hw, Ext.refl G H w, hs, hd, _, rfl, vx'⟩
        · rename_i f as hop
          obtain ⟨p, hp, hA⟩ := h
          rw [hop] at hcop
          obtain ⟨c, f0, e1, e2, e3, e4⟩ := cop_defer hcop
          obtain ⟨us, bs, hfv, h1, h2⟩ := calleeA_VR hp (argOf_VR hw hs e3)
          have hargs := argsOf_VRs hw hs e4
          have hrun : (execOp a.eval o).run P w = .ok (.defer { target := .fn (.func p.1) bs.toArray, args := us.toArray ++ c.args.map a.eval }) w := by
            simp only [execOp, e1, Sem.run_bind, run_resolve_func e2 hfv, Result.andThen_ok, Sem.run_pure]
          unfold Oper.wp Oper.upon
          rw [hrun]
          exact next hA hw (Ext.refl G H w) (VR.undefV G w) (a1 := { a with defers := { target := .fn (.func p.1) bs.toArray, args := us.toArray ++ c.args.map a.eval } :: a.defers }) hs
            ⟨⟨bs, rfl, by simpa using (h1.append hargs).append h2⟩, hd⟩
        · rename_i n1 n2 n3
          obtain ⟨v, H', hA, hn⟩ := h
          have hpl : r.op.plain = true := by
            cases hrop : r.op <;> first | rfl | exact absurd hrop (n1 _ _) | exact absurd hrop (n2 _) | exact absurd hrop (n3 _ _)
          refine wp_plain (cop_ok hcop hpl) hw hs hA (fun u w' G' hw' he hv => ?_)
          exact next hn hw' he hv hs (hd.ext he)
      · rw [if_neg hwa] at h ⊢
        exact next h hw (Ext.refl G H w) (VR.undefV G w) hs hd
    · cases hc
end Go.Av
end
section
namespace Go.Av
open Go
/-- operations that change what is there -/
def ROp.eff : ROp → Bool
  | .store _ _ _ | .append _ _ _ _ _ | .appendz _ _ _ _ _ | .copy _ _ _ | .mapup _ _ _ _ | .call _ _ => true
  | _ => false
/-- operations that read an object -/
def ROp.reads : ROp → Bool
  | .load _ _ _ | .slarr _ _ _ _ _ _ | .b2str _ | .lookup _ _ _ _ _ => true
  | _ => false
def idOf : AV → Option Nat
  | .ref id _ => some id
  | .sl id _ _ _ _ => some id
  | .map id => some id
  | _ => none
/-- the object that an operation reads -/
def ROp.readsId (ev : Arg → AV) : ROp → Option Nat
  | .load _ _ a => idOf (ev a)
  | .slarr _ _ x _ _ _ => idOf (ev x)
  | .b2str x => idOf (ev x)
  | .lookup _ _ _ x _ => idOf (ev x)
  | _ => none
def Arg.tmps : Arg → List Nat
  | .tmp t => [t]
  | _ => []
def ROp.args : ROp → List Arg
  | .mov x | .box x | .nilck x | .un _ x | .convi _ x | .convs x | .str2b x | .b2str x | .s2ap _ x | .mkif _ x | .fadr _ x | .fld _ _ _ x | .tass _ _ _ x | .extr x _ | .lens x | .lenl x | .capl x | .load _ _ x | .panic x => [x]
  | .pick a b c => [a, b, c]
  | .alloc _ | .mkmap | .lenc _ => []
  | .build _ ps => ps.map (·.2.2)
  | .mklit _ xs => xs
  | .store _ a x => [a, x]
  | .bin _ x y | .eqb _ x y | .eqf _ _ x y | .eqn _ _ _ x y => [x, y]
  | .mkfn _ a b => a ++ b
  | .mkslice _ _ _ l c => [l, c]
  | .slstr x l h => x :: (l.toList ++ h.toList)
  | .slsl _ x l h m | .slarr _ _ x l h m => x :: (l.toList ++ (h.toList ++ m.toList))
  | .iadr _ _ x i | .idx _ _ _ x i | .idxs x i | .maxi x i => [x, i]
  | .append _ _ _ x y | .appendz _ _ _ x y | .copy _ x y => [x, y]
  | .lookup _ _ _ x i => [x, i]
  | .mapup _ m k v => [m, k, v]
  | .call f as | .deferc f as => f :: as
theorem optNat_congr {ev ev' : Arg → AV} {x : Option Arg} (h : ∀ y ∈ x.toList, ev y = ev' y) : optNat ev x = optNat ev' x := by
  cases x with
  | none => rfl
  | some y => simp [optNat, h y (by simp)]
theorem fillA_congr {ev ev' : Arg → AV} : ∀ (ps : List (Nat × Nat × Arg)) (cs : List AV), (∀ y ∈ ps.map (·.2.2), ev y = ev' y) → fillA ev cs ps = fillA ev' cs ps
  | [], cs, h => rfl
  | (o, n, x) :: r, cs, h => by
    have hx := h x (by simp)
    simp only [fillA, hx]
    split
    · exact fillA_congr r _ (fun y hy => h y (by simp at hy ⊢; exact .inr hy))
    · rfl
theorem litA_congr {ev ev' : Arg → AV} (sz : Nat) : ∀ (xs : List Arg), (∀ y ∈ xs, ev y = ev' y) → litA ev sz xs = litA ev' sz xs
  | [], h => rfl
  | x :: r, h => by
    have hx := h x (by simp)
    simp only [litA, hx, litA_congr sz r (fun y hy => h y (by simp [hy]))]
theorem fop_congr {ev ev' : Arg → AV} {r : ROp} (h : ∀ y ∈ r.args, ev y = ev' y) : fop ev r = fop ev' r := by
  cases r <;> simp only [fop] <;> first
    | rfl
    | (have h1 := h _ (List.mem_cons_self); simp only [ROp.args] at h; simp only [h1])
    | skip
  case mkslice sz b z l c =>
    have h2 := h c (by simp)
    rw [h2]
theorem aop_congr {ev ev' : Arg → AV} {r : ROp} (H : Heap) (h : ∀ y ∈ r.args, ev y = ev' y) : aop ev H r = aop ev' H r := by
  have hm : ∀ l : List Arg, (∀ y ∈ l, y ∈ r.args) → l.map ev = l.map ev' := fun l hl => List.map_congr_left fun y hy => h y (hl y hy)
  cases r with
  | build z ps => simp only [aop]; rw [fillA_congr ps z h]
  | mklit sz xs => simp only [aop]; rw [litA_congr sz xs h]
  | mkfn fn a b =>
    simp only [aop]
    rw [hm a (fun y hy => by simp [ROp.args, hy]), hm b (fun y hy => by simp [ROp.args, hy])]
  | slstr x l hh =>
    have h1 := h x (by simp [ROp.args])
    have h2 : optNat ev l = optNat ev' l := optNat_congr fun y hy => h y (by simp only [ROp.args, List.mem_cons, List.mem_append]; exact .inr (.inl hy))
    have h3 : optNat ev hh = optNat ev' hh := optNat_congr fun y hy => h y (by simp only [ROp.args, List.mem_cons, List.mem_append]; exact .inr (.inr hy))
    simp only [aop, h1, h2, h3]
  | slsl sz x l hh m =>
    have h1 := h x (by simp [ROp.args])
    have h2 : optNat ev l = optNat ev' l := optNat_congr fun y hy => h y (by simp only [ROp.args, List.mem_cons, List.mem_append]; exact .inr (.inl hy))
    have h3 : optNat ev hh = optNat ev' hh := optNat_congr fun y hy => h y (by simp only [ROp.args, List.mem_cons, List.mem_append]; exact .inr (.inr (.inl hy)))
    have h4 : optNat ev m = optNat ev' m := optNat_congr fun y hy => h y (by simp only [ROp.args, List.mem_cons, List.mem_append]; exact .inr (.inr (.inr hy)))
    simp only [aop, h1, h2, h3, h4]
  | slarr n sz x l hh m =>
    have h1 := h x (by simp [ROp.args])
    have h2 : optNat ev l = optNat ev' l := optNat_congr fun y hy => h y (by simp only [ROp.args, List.mem_cons, List.mem_append]; exact .inr (.inl hy))
    have h3 : optNat ev hh = optNat ev' hh := optNat_congr fun y hy => h y (by simp only [ROp.args, List.mem_cons, List.mem_append]; exact .inr (.inr (.inl hy)))
    have h4 : optNat ev m = optNat ev' m := optNat_congr fun y hy => h y (by simp only [ROp.args, List.mem_cons, List.mem_append]; exact .inr (.inr (.inr hy)))
    simp only [aop, h1, h2, h3, h4]
  | alloc z => simp only [aop, fop_congr (r := .alloc z) h]
  | box x => simp only [aop, fop_congr (r := .box x) h]
  | mkmap => simp only [aop, fop_congr (r := .mkmap) h]
  | mkslice a b c d e => simp only [aop, fop_congr (r := .mkslice a b c d e) h]
  | str2b x => simp only [aop, fop_congr (r := .str2b x) h]
  | pick a b c =>
    have h1 := h a (by simp [ROp.args])
    have h2 := h b (by simp [ROp.args])
    have h3 := h c (by simp [ROp.args])
    simp only [aop, h1, h2, h3]
  | mapup k m i v =>
    have h1 := h m (by simp [ROp.args])
    have h2 := h i (by simp [ROp.args])
    have h3 := h v (by simp [ROp.args])
    simp only [aop, h1, h2, h3]
  | lenc n => rfl
  | call f as => rfl
  | deferc f as => rfl
  | panic x => rfl
  | store n a b => have h1 := h a (by simp [ROp.args]); have h2 := h b (by simp [ROp.args]); simp only [aop, h1, h2]
  | bin op a b => have h1 := h a (by simp [ROp.args]); have h2 := h b (by simp [ROp.args]); simp only [aop, h1, h2]
  | eqb op a b => have h1 := h a (by simp [ROp.args]); have h2 := h b (by simp [ROp.args]); simp only [aop, h1, h2]
  | eqf op s a b => have h1 := h a (by simp [ROp.args]); have h2 := h b (by simp [ROp.args]); simp only [aop, h1, h2]
  | eqn op k l a b => have h1 := h a (by simp [ROp.args]); have h2 := h b (by simp [ROp.args]); simp only [aop, h1, h2]
  | iadr n sz a b => have h1 := h a (by simp [ROp.args]); have h2 := h b (by simp [ROp.args]); simp only [aop, h1, h2]
  | idx n sz g a b => have h1 := h a (by simp [ROp.args]); have h2 := h b (by simp [ROp.args]); simp only [aop, h1, h2]
  | idxs a b => have h1 := h a (by simp [ROp.args]); have h2 := h b (by simp [ROp.args]); simp only [aop, h1, h2]
  | append s b m x y => have h1 := h x (by simp [ROp.args]); have h2 := h y (by simp [ROp.args]); simp only [aop, h1, h2]
  | appendz s b m x y => have h1 := h x (by simp [ROp.args]); have h2 := h y (by simp [ROp.args]); simp only [aop, h1, h2]
  | copy s x y => have h1 := h x (by simp [ROp.args]); have h2 := h y (by simp [ROp.args]); simp only [aop, h1, h2]
  | lookup k z ok x y => have h1 := h x (by simp [ROp.args]); have h2 := h y (by simp [ROp.args]); simp only [aop, h1, h2]
  | mov x => have h1 := h x (by simp [ROp.args]); simp only [aop, h1]
  | maxi x y => have h1 := h x (by simp [ROp.args]); have h2 := h y (by simp [ROp.args]); simp only [aop, h1, h2]
  | nilck x => have h1 := h x (by simp [ROp.args]); simp only [aop, h1]
  | un o x => have h1 := h x (by simp [ROp.args]); simp only [aop, h1]
  | convi k x => have h1 := h x (by simp [ROp.args]); simp only [aop, h1]
  | convs x => have h1 := h x (by simp [ROp.args]); simp only [aop, h1]
  | b2str x => have h1 := h x (by simp [ROp.args]); simp only [aop, h1]
  | s2ap n x => have h1 := h x (by simp [ROp.args]); simp only [aop, h1]
  | mkif t x => have h1 := h x (by simp [ROp.args]); simp only [aop, h1]
  | fadr n x => have h1 := h x (by simp [ROp.args]); simp only [aop, h1]
  | fld a b c x => have h1 := h x (by simp [ROp.args]); simp only [aop, h1]
  | tass t ok z x => have h1 := h x (by simp [ROp.args]); simp only [aop, h1]
  | extr x i => have h1 := h x (by simp [ROp.args]); simp only [aop, h1]
  | lens x => have h1 := h x (by simp [ROp.args]); simp only [aop, h1]
  | lenl x => have h1 := h x (by simp [ROp.args]); simp only [aop, h1]
  | capl x => have h1 := h x (by simp [ROp.args]); simp only [aop, h1]
  | load g n x => have h1 := h x (by simp [ROp.args]); simp only [aop, h1]
/-- an operation that changes nothing and makes no object: it comes to the same wherever what it reads is the same -/
theorem aop_quiet {ev : Arg → AV} {r : ROp} (he : r.eff = false) (hf : r.fresh = false) {H H1 : Heap} {v : AV} {H' : Heap} (h : aop ev H r = some (v, H'))
    (hr : ∀ id, r.readsId ev = some id → H1.get id = H.get id) : H' = H ∧ aop ev H1 r = some (v, H1) := by
  have hca : ∀ {id : Nat}, H1.get id = H.get id → H1.cellsAt id = H.cellsAt id := fun hh => by simp [Heap.cellsAt, hh]
  cases r <;> first
    | (cases he; done)
    | (cases hf; done)
    | skip
  case load agg n a =>
    simp only [aop] at h ⊢
    simp only [ROp.readsId] at hr
    split at h
    · rename_i id off hid
      have := hca (hr id (by rw [hid]; rfl))
      simp only [this]
      split at h
      · split at h
        · split at h
          · simp only [Option.some.injEq, Prod.mk.injEq] at h ⊢; simp_all
          · split at h
            · simp only [Option.some.injEq, Prod.mk.injEq] at h ⊢; simp_all
            · cases h
        · cases h
      · cases h
    · rename_i cs hid
      split at h
      · split at h
        · simp only [Option.some.injEq, Prod.mk.injEq] at h ⊢; simp_all
        · split at h
          · simp only [Option.some.injEq, Prod.mk.injEq] at h ⊢; simp_all
          · cases h
      · cases h
    · cases h
  case slarr n sz x lo hi mx =>
    simp only [aop] at h ⊢
    simp only [ROp.readsId] at hr
    split at h
    · simp only [Option.map_eq_some_iff, Prod.mk.injEq] at h ⊢
      obtain ⟨v', h, rfl, rfl⟩ := h
      refine ⟨rfl, v', ?_, by simp⟩
      unfold sliceArrA at h ⊢
      simp only at h ⊢
      split at h
      · rename_i hc
        rw [if_pos hc]
        split at h
        · rename_i id o hid
          have := hca (hr id (by rw [hid]; rfl))
          simp only [this]
          exact h
        · exact h
        · cases h
      · cases h
    · cases h
  case b2str x =>
    simp only [aop] at h ⊢
    simp only [ROp.readsId] at hr
    have hel : elemsOf H1 1 (ev x) = elemsOf H 1 (ev x) := by
      cases hx : ev x <;> simp only [elemsOf]
      rename_i id sz off len cap
      have := hca (hr id (by rw [hx]; rfl))
      simp only [this]
    split at h
    · cases h
    · rename_i hns
      rw [hel]
      split at h
      · simp only [Option.map_eq_some_iff, Prod.mk.injEq] at h ⊢
        obtain ⟨bs, h1, rfl, rfl⟩ := h
        exact ⟨rfl, bs, h1, by simp⟩
      · cases h
  case lookup k z ok x i =>
    simp only [aop] at h ⊢
    simp only [ROp.readsId] at hr
    split at h
    · rename_i hk
      rw [if_pos hk]
      split at h
      · simp only [Option.some.injEq, Prod.mk.injEq] at h ⊢; simp_all
      · rename_i id hid
        have := hr id (by rw [hid]; rfl)
        simp only [this]
        split at h
        · split at h
          · simp only [Option.some.injEq, Prod.mk.injEq] at h ⊢; simp_all
          · simp only [Option.some.injEq, Prod.mk.injEq] at h ⊢; simp_all
          · cases h
        · cases h
      · cases h
    · cases h
  case maxi x y =>
    simp only [aop] at h ⊢
    split at h
    · rename_i h1 h2
      simp only [Option.some.injEq, Prod.mk.injEq] at h
      obtain ⟨rfl, rfl⟩ := h
      exact ⟨rfl, rfl⟩
    · cases h
  all_goals
    simp only [aop] at h ⊢
    repeat' (split at h)
    all_goals first
      | (cases h; done)
      | (simp only [Option.some.injEq, Prod.mk.injEq] at h
         obtain ⟨rfl, rfl⟩ := h
         exact ⟨rfl, by simp_all⟩)
      | (simp only [Option.map_eq_some_iff, Prod.mk.injEq] at h
         obtain ⟨q, h1, rfl, rfl⟩ := h
         exact ⟨rfl, by simp_all⟩)
end Go.Av
end
