/-
  OPERATIONS ON ABSTRACT VALUES ARE WHAT THE MODEL DOES: equality of structs and arrays, comparisons with nil.
-/
import Derived.Test.YtfdaiidepcbemaaDoorA04
import Derived.Laws.StructEq
import Derived.ChangeKeysEq
set_option linter.unusedVariables false
set_option linter.unusedSimpArgs false
section
namespace Go.Av
open Go
def shapeFs (P : Program) (sh : TypeId → Option (List Sk)) : Nat → List Field → Option (List Sk)
  | _, [] => some []
  | off, f :: fs =>
    if f.name ≠ "_" ∧ f.offset = off then
      match sh f.type with
      | some k => if sizeP P f.type = some k.length then (shapeFs P sh (off + k.length) fs).map (k ++ ·) else none
      | none => none
    else none
def shapeP (P : Program) : Nat → TypeId → Option (List Sk)
  | 0, _ => none
  | d + 1, t =>
    match P.underlying t with
    | some .bool => some [.b]
    | some (.int _) => some [.i]
    | some .string => some [.s]
    | some (.struct fs) => if P.stoodInHeld t then none else shapeFs P (shapeP P d) 0 fs.toList
    | some (.array n e) =>
      match shapeP P d e with
      | some k => if sizeP P e = some k.length then some (List.replicate n k).flatten else none
      | none => none
    | _ => none
theorem eqFlat_append : ∀ (k1 k2 : List Sk) (xs ys : List AV) (r : Bool), eqFlat (k1 ++ k2) xs ys = some r →
    ∃ r1 r2, eqFlat k1 (xs.take k1.length) (ys.take k1.length) = some r1 ∧ eqFlat k2 (xs.drop k1.length) (ys.drop k1.length) = some r2 ∧ r = (r1 && r2)
  | [], k2, xs, ys, r, h => ⟨true, r, rfl, by simpa using h, by simp⟩
  | k :: k1, k2, xs, ys, r, h => by
    have step : ∀ {x y : AV} {xs' ys' : List AV} {c : Bool}, xs = x :: xs' → ys = y :: ys' → (eqFlat (k1 ++ k2) xs' ys').map (c && ·) = some r →
        (∀ l m, eqFlat (k :: k1) (x :: l) (y :: m) = (eqFlat k1 l m).map (c && ·)) →
        ∃ r1 r2, eqFlat (k :: k1) (xs.take (k :: k1).length) (ys.take (k :: k1).length) = some r1 ∧ eqFlat k2 (xs.drop (k :: k1).length) (ys.drop (k :: k1).length) = some r2 ∧ r = (r1 && r2) := by
      intro x y xs' ys' c hx hy hm hc
      simp only [Option.map_eq_some_iff] at hm
      obtain ⟨r', hr', rfl⟩ := hm
      obtain ⟨r1, r2, h1, h2, h3⟩ := eqFlat_append k1 k2 xs' ys' r' hr'
      subst hx hy
      refine ⟨c && r1, r2, ?_, by simpa using h2, by rw [h3, Bool.and_assoc]⟩
      simp only [List.length_cons, List.take_succ_cons]
      rw [hc, h1]
      rfl
    cases k <;> cases xs with
    | nil => simp [eqFlat] at h
    | cons x xs' =>
      cases ys with
      | nil => cases x <;> simp [eqFlat] at h
      | cons y ys' =>
        cases x <;> cases y <;> simp only [List.cons_append, eqFlat] at h <;> first
          | (cases h; done)
          | exact step rfl rfl h (fun l m => rfl)
          | (split at h
             · rename_i hjk
               subst hjk
               exact step rfl rfl h (fun l m => by simp [eqFlat])
             · cases h)
def valOf (agg : Bool) (us : List Value) : Value := if agg then .agg us.toArray else us.getD 0 undef
theorem run_part_val {P : Program} {t : TypeId} {n : Nat} {b : Bool} (hn : sizeP P t = some n) (hb : isAggP P t = some b) (w : World) {us : List Value} {off : Nat} (hin : off + n ≤ us.length) (hn1 : b = false → n = 1) :
    (part t us.toArray off).run P w = .ok (valOf b ((us.drop off).take n)) w := by
  cases b with
  | true =>
    simp only [part, Sem.run_bind, run_isAggP hb w, Result.andThen_ok, if_true, run_sizeP hn w, Sem.run_pure, valOf]
    congr 2
    apply Array.ext'
    simp [List.extract_eq_take_drop]
  | false =>
    have := hn1 rfl
    simp only [part, Sem.run_bind, run_isAggP hb w, Result.andThen_ok, Bool.false_eq_true, if_false, List.getElem?_toArray, getD_list us undef off (by omega), valOf]
    rw [getD_drop_take _ _ _ _ _ (by omega)]
    rfl
theorem VRs.take_drop {G : Gh} {w : World} {xs : List AV} {us : List Value} (h : VRs G w xs us) (off n : Nat) (hin : off + n ≤ xs.length) : VRs G w ((xs.drop off).take n) ((us.drop off).take n) := by
  have hl := h.1
  refine ⟨by simp; omega, fun j hj => ?_⟩
  simp at hj
  rw [getD_drop_take _ _ _ _ _ (by omega), getD_drop_take _ _ _ _ _ (by omega)]
  exact h.2 _ (by omega)
theorem eqFlat_length : ∀ {ks : List Sk} {xs ys : List AV} {r : Bool}, eqFlat ks xs ys = some r → xs.length = ks.length ∧ ys.length = ks.length
  | [], [], [], _, _ => ⟨rfl, rfl⟩
  | [], _ :: _, ys, r, h => by cases ys <;> simp [eqFlat] at h
  | [], [], _ :: _, r, h => by simp [eqFlat] at h
  | k :: ks, [], ys, r, h => by cases k <;> simp [eqFlat] at h
  | k :: ks, x :: xs, [], r, h => by cases k <;> cases x <;> simp [eqFlat] at h
  | k :: ks, x :: xs, y :: ys, r, h => by
    have : ∃ r', eqFlat ks xs ys = some r' := by
      cases k <;> cases x <;> cases y <;> simp only [eqFlat] at h <;> first
        | (cases h; done)
        | (simp only [Option.map_eq_some_iff] at h; obtain ⟨r', h, _⟩ := h; exact ⟨r', h⟩)
        | (split at h
           · simp only [Option.map_eq_some_iff] at h; obtain ⟨r', h, _⟩ := h; exact ⟨r', h⟩
           · cases h)
    obtain ⟨r', h'⟩ := this
    have := eqFlat_length h'
    simp [this.1, this.2]
theorem shapeP_agg {P : Program} {d : Nat} {t : TypeId} {ks : List Sk} (h : shapeP P d t = some ks) : ∃ b, isAggP P t = some b ∧ (b = false → ks.length = 1) := by
  cases d with
  | zero => cases h
  | succ d =>
    simp only [shapeP] at h
    unfold isAggP
    split at h <;> rename_i hu <;> first
      | (cases h; done)
      | (obtain rfl := Option.some.inj h; exact ⟨false, by rw [hu], fun _ => rfl⟩)
      | exact ⟨true, by rw [hu], fun hf => by cases hf⟩
theorem cellsOf_sizeP {P : Program} {e : TypeId} {n : Nat} (h : sizeP P e = some n) : P.cellsOf e = n ∧ ∃ i, P.info? e = some i := by
  simp only [sizeP, Option.map_eq_some_iff] at h
  obtain ⟨i, hi, rfl⟩ := h
  exact ⟨by simp [Program.cellsOf, hi], i, hi⟩
theorem eq_shape {P : Program} : ∀ (f : Nat) (t : TypeId) (ks : List Sk), shapeP P f t = some ks → ∀ (b : Bool), isAggP P t = some b → ∀ (d : Nat) (G : Gh) (w : World) (xs ys : List AV) (us vs : List Value) (r : Bool),
    eqFlat ks xs ys = some r → VRs G w xs us → VRs G w ys vs → (Op.equalIn (d + f) t (valOf b us) (valOf b vs)).run P w = .ok r w := by
  intro f
  induction f with
  | zero => intro t ks h; cases h
  | succ f ih =>
    intro t ks h b hb d G w xs ys us vs r hr hx hy
    have hlen := eqFlat_length hr
    have scalar : ∀ {k : Sk}, ks = [k] → ∃ x y, xs = [x] ∧ ys = [y] ∧ VR G w x (us.getD 0 undef) ∧ VR G w y (vs.getD 0 undef) := fun {k} hk => by
      subst hk
      match xs, ys, hlen with
      | [x], [y], _ => exact ⟨x, y, rfl, rfl, by simpa using hx.2 0 (by simp), by simpa using hy.2 0 (by simp)⟩
    rw [show d + (f + 1) = (d + f) + 1 from rfl]
    simp only [shapeP] at h
    split at h
    · rename_i hu
      obtain rfl := Option.some.inj h
      have hbf : b = false := by simp only [isAggP, hu, Option.some.injEq] at hb; exact hb.symm
      subst hbf
      obtain ⟨x, y, rfl, rfl, h1, h2⟩ := scalar rfl
      simp only [valOf, Bool.false_eq_true, if_false]
      cases x <;> cases y <;> simp only [eqFlat] at hr <;> first | (cases hr; done) | skip
      rename_i p q
      rw [h1.bool_inv, h2.bool_inv, equalIn_bool _ hu w]
      simp at hr
      rw [← hr]
    · rename_i k hu
      obtain rfl := Option.some.inj h
      have hbf : b = false := by simp only [isAggP, hu, Option.some.injEq] at hb; exact hb.symm
      subst hbf
      obtain ⟨x, y, rfl, rfl, h1, h2⟩ := scalar rfl
      simp only [valOf, Bool.false_eq_true, if_false]
      cases x <;> cases y <;> simp only [eqFlat] at hr <;> first | (cases hr; done) | skip
      rename_i j p j' q
      split at hr
      · rename_i hj
        subst hj
        rw [h1.int_inv, h2.int_inv, run_equalIn_int w _ t j k p q hu]
        simp at hr
        rw [← hr]
      · cases hr
    · rename_i hu
      obtain rfl := Option.some.inj h
      have hbf : b = false := by simp only [isAggP, hu, Option.some.injEq] at hb; exact hb.symm
      subst hbf
      obtain ⟨x, y, rfl, rfl, h1, h2⟩ := scalar rfl
      simp only [valOf, Bool.false_eq_true, if_false]
      cases x <;> cases y <;> simp only [eqFlat] at hr <;> first | (cases hr; done) | skip
      rename_i p q
      rw [h1.str_inv, h2.str_inv, run_equalIn_string w _ t _ _ hu, ByteArray.toList_mk, ByteArray.toList_mk]
      simp at hr
      rw [← hr]
    · rename_i fs hu
      split at h
      · cases h
      · rename_i hst
        have hbt : b = true := by simp only [isAggP, hu, Option.some.injEq] at hb; exact hb.symm
        subst hbt
        simp only [valOf, if_true]
        have hfo : P.fieldsOf t = fs := by simp [Program.fieldsOf, hu]
        rw [run_equalIn_struct w _ t _ _ (by rw [hfo]; exact hu) (by simpa using hst), hfo]
        have hux := hx.1
        have huy := hy.1
        have key : ∀ (l : List Field) (off : Nat) (ks' : List Sk), shapeFs P (shapeP P f) off l = some ks' → off + ks'.length ≤ xs.length → off + ks'.length ≤ ys.length → ∀ r, eqFlat ks' ((xs.drop off).take ks'.length) ((ys.drop off).take ks'.length) = some r →
            (Op.eqFields (d + f) us.toArray vs.toArray l).run P w = .ok r w := by
          intro l
          induction l with
          | nil =>
            intro off ks' hs _ _ r hr
            obtain rfl := Option.some.inj hs
            simp [eqFlat] at hr
            subst hr
            simp [Op.eqFields]
          | cons fd l ihl =>
            intro off ks' hs hi1 hi2 r hr
            simp only [shapeFs] at hs
            split at hs
            · rename_i hc
              obtain ⟨hc1, hc2⟩ := hc
              split at hs
              · rename_i k hk
                split at hs
                · rename_i hsz
                  simp only [Option.map_eq_some_iff] at hs
                  obtain ⟨ks2, hs2, rfl⟩ := hs
                  simp only [List.length_append] at hi1 hi2 hr
                  obtain ⟨r1, r2, e1, e2, rfl⟩ := eqFlat_append _ _ _ _ _ hr
                  obtain ⟨bf, hbf, hbf1⟩ := shapeP_agg hk
                  have t1 : ∀ (z : List AV), off + (k.length + ks2.length) ≤ z.length → List.take k.length (List.take (k.length + ks2.length) (z.drop off)) = (z.drop off).take k.length := fun z hz => by
                    rw [List.take_take]; congr 1; omega
                  have t2 : ∀ (z : List AV), off + (k.length + ks2.length) ≤ z.length → List.drop k.length (List.take (k.length + ks2.length) (z.drop off)) = (z.drop (off + k.length)).take ks2.length := fun z hz => by
                    rw [List.drop_take, List.drop_drop]; congr 1; omega
                  rw [t1 _ hi1, t1 _ hi2] at e1
                  rw [t2 _ hi1, t2 _ hi2] at e2
                  have p1 := run_part_val hsz hbf w (us := us) (off := fd.offset) (by omega) hbf1
                  have p2 := run_part_val hsz hbf w (us := vs) (off := fd.offset) (by omega) hbf1
                  have p3 := ih fd.type k hk bf hbf d G w _ _ _ _ r1 e1 (hx.take_drop off k.length (by omega)) (hy.take_drop off k.length (by omega))
                  rw [← hc2] at p3
                  simp only [Op.eqFields, if_pos hc1, Sem.run_bind, p1, p2, p3, Result.andThen_ok]
                  cases r1 with
                  | false => simp
                  | true =>
                    simp only [Bool.not_true, Bool.false_eq_true, if_false, Bool.true_and]
                    exact ihl (off + k.length) ks2 hs2 (by omega) (by omega) r2 e2
                · cases hs
              · cases hs
            · cases hs
        have := key fs.toList 0 ks h (by omega) (by omega) r (by
          simp only [List.drop_zero]
          rw [List.take_of_length_le (by omega), List.take_of_length_le (by omega)]
          exact hr)
        exact this
    · rename_i n e hu
      have hbt : b = true := by simp only [isAggP, hu, Option.some.injEq] at hb; exact hb.symm
      subst hbt
      simp only [valOf, if_true]
      split at h
      · rename_i k hk
        split at h
        · rename_i hsz
          obtain rfl := Option.some.inj h
          obtain ⟨hcell, i, hi⟩ := cellsOf_sizeP hsz
          rw [run_equalIn_array w (d + f) _ _ hu hi, hcell]
          obtain ⟨bf, hbf, hbf1⟩ := shapeP_agg hk
          have hux := hx.1
          have huy := hy.1
          have hlk : ∀ m, ((List.replicate m k).flatten).length = m * k.length := fun m => by simp
          have key : ∀ (m j : Nat), (j + m) * k.length ≤ xs.length → (j + m) * k.length ≤ ys.length → ∀ r, eqFlat (List.replicate m k).flatten ((xs.drop (j * k.length)).take (m * k.length)) ((ys.drop (j * k.length)).take (m * k.length)) = some r →
              (Op.eqItems (d + f) e k.length us.toArray vs.toArray (List.range' j m)).run P w = .ok r w := by
            intro m
            induction m with
            | zero =>
              intro j _ _ r hr
              simp [eqFlat] at hr
              subst hr
              simp [Op.eqItems]
            | succ m ihm =>
              intro j hi1 hi2 r hr
              have hm1 : (m + 1) * k.length = k.length + m * k.length := by rw [Nat.succ_mul]; omega
              have hj1 : (j + (m + 1)) * k.length = j * k.length + (k.length + m * k.length) := by rw [Nat.add_mul, hm1]
              have hj2 : (j + 1) * k.length = j * k.length + k.length := by rw [Nat.succ_mul]
              rw [hj1] at hi1 hi2
              rw [hm1] at hr
              rw [List.replicate_succ, List.flatten_cons] at hr
              obtain ⟨r1, r2, e1, e2, rfl⟩ := eqFlat_append _ _ _ _ _ hr
              have t1 : ∀ (z : List AV), List.take k.length (List.take (k.length + m * k.length) (z.drop (j * k.length))) = (z.drop (j * k.length)).take k.length := fun z => by
                rw [List.take_take]; congr 1; omega
              have t2 : ∀ (z : List AV), List.drop k.length (List.take (k.length + m * k.length) (z.drop (j * k.length))) = (z.drop ((j + 1) * k.length)).take (m * k.length) := fun z => by
                rw [List.drop_take, List.drop_drop, hj2]; congr 1; omega
              rw [t1, t1] at e1
              rw [t2, t2] at e2
              have p1 := run_part_val hsz hbf w (us := us) (off := j * k.length) (by omega) hbf1
              have p2 := run_part_val hsz hbf w (us := vs) (off := j * k.length) (by omega) hbf1
              have p3 := ih e k hk bf hbf d G w _ _ _ _ r1 e1 (hx.take_drop (j * k.length) k.length (by omega)) (hy.take_drop (j * k.length) k.length (by omega))
              simp only [List.range'_succ, Op.eqItems, Sem.run_bind, p1, p2, p3, Result.andThen_ok]
              cases r1 with
              | false => simp
              | true =>
                simp only [Bool.not_true, Bool.false_eq_true, if_false, Bool.true_and]
                have hj3 : (j + 1 + m) * k.length = j * k.length + (k.length + m * k.length) := by rw [Nat.add_mul, hj2]; omega
                exact ihm (j + 1) (by rw [hj3]; exact hi1) (by rw [hj3]; exact hi2) r2 e2
          have := key n 0 (by rw [Nat.zero_add]; rw [hlk] at hlen; omega) (by rw [Nat.zero_add]; rw [hlk] at hlen; omega) r (by
            rw [hlk] at hlen
            simp only [Nat.zero_mul, List.drop_zero]
            rw [List.take_of_length_le (by omega), List.take_of_length_le (by omega)]
            exact hr)
          rw [List.range_eq_range']
          exact this
        · cases h
      · cases h
    · cases h
section
variable {P : Program} {g : Genv} {o : Oper}
theorem ok_eqf {op : BinOp} {neg : Bool} {t t2 : TypeId} {f : Nat} {ks : List Sk} {x y : Operand} {x' y' : Arg} (ho : o.op = .binOp op t x y t2) (hop : op = if neg then .neq else .eql) (hf : f ≤ 9999)
    (hk : shapeP P f t = some ks) (hb : isAggP P t = some true) (hg : P.eqGuardType P.depth t = false) (hx : argOf g x = some x') (hy : argOf g y = some y') : OpOK P g o (.eqf neg ks x' y') := by
  intro s a G H w v H' hw hs h
  have vx := argOf_VR hw hs hx
  have vy := argOf_VR hw hs hy
  simp only [aop] at h
  split at h
  · rename_i xs ys h1 h2
    rw [h1] at vx
    rw [h2] at vy
    obtain ⟨us, e1, l1, _, v1⟩ := vx.agg_inv
    obtain ⟨vs, e2, l2, _, v2⟩ := vy.agg_inv
    simp only [Option.map_eq_some_iff, Prod.mk.injEq] at h
    obtain ⟨r, hr, rfl, rfl⟩ := h
    refine OpOK.pure' hw (u := .bool (if neg then !r else r)) ?_ (.bool _)
    have hgd := run_eqGuard_agg (P := P) w op t x y us.toArray vs.toArray hg
    have heq := eq_shape f t ks hk true hb (10000 - f) G w xs ys us vs r hr ⟨l1, v1⟩ ⟨l2, v2⟩
    rw [show 10000 - f + f = 10000 by omega] at heq
    simp only [valOf, if_true] at heq
    have heq' : (Op.equal t (.agg us.toArray) (.agg vs.toArray)).run P w = .ok r w := heq
    subst hop
    cases neg <;> simp only [Bool.false_eq_true, if_false, if_true] at ho hgd <;> simp [execOp, ho, e1, e2, hgd, Go.binOp, heq']
  · cases h
def nkP (P : Program) (t : TypeId) : Option Nk :=
  match P.underlying t with
  | some (.pointer _) => some .ptr
  | some (.interface _) => some .ifc
  | some (.slice _) => some .sli
  | some (.map _ _) => some .mp
  | some (.func _ _ _) => some .fn
  | _ => none
def isNilV : Value → Bool
  | .pointer none | .nilIface | .slice none _ _ | .map none | .nilFunc => true
  | _ => false
theorem isNilA_V {G : Gh} {w : World} {k : Nk} {a : AV} {u : Value} {b : Bool} (h : isNilA k a = some b) (hv : VR G w a u) : isNilV u = b := by
  cases hv <;> simp only [isNilA] at h <;> first
    | (cases h; done)
    | (split at h
       · obtain rfl := Option.some.inj h; rfl
       · cases h)
def fitsNk : Nk → Value → Prop
  | .ptr, .pointer _ => True
  | .ifc, .nilIface | .ifc, .iface _ _ => True
  | .sli, .slice _ _ _ => True
  | .mp, .map _ => True
  | .fn, .nilFunc | .fn, .func _ _ _ => True
  | _, _ => False
theorem isNilA_fits {G : Gh} {w : World} {k : Nk} {a : AV} {u : Value} {b : Bool} (h : isNilA k a = some b) (hv : VR G w a u) : fitsNk k u := by
  cases hv <;> simp only [isNilA] at h <;> first
    | (cases h; done)
    | (split at h
       · rename_i hk; subst hk; trivial
       · cases h)
theorem run_equalIn_nil (d : Nat) {t : TypeId} {k : Nk} (hk : nkP P t = some k) (w : World) {u v : Value} (hu : fitsNk k u) (hv : fitsNk k v) (h : (isNilV u || isNilV v) = true) :
    (Op.equalIn (d + 1) t u v).run P w = .ok (isNilV u && isNilV v) w := by
  unfold nkP at hk
  rw [Op.equalIn]
  split at hk <;> rename_i hun <;> first
    | (cases hk; done)
    | (obtain rfl := Option.some.inj hk
       simp only [Sem.run_bind, run_underlying hun w, Result.andThen_ok]
       cases u <;> first | exact hu.elim | skip
       all_goals (cases v <;> first | exact hv.elim | skip)
       all_goals first
         | rfl
         | (rename_i p q; cases p <;> cases q <;> first | rfl | (simp [isNilV] at h; done))
         | (rename_i p _ _ q _ _; cases p <;> cases q <;> first | rfl | (simp [isNilV] at h; done))
         | (simp [isNilV] at h; done))
theorem ok_eqn {op : BinOp} {neg : Bool} {t t2 : TypeId} {k : Nk} {lit : Bool} {x y : Operand} {x' y' : Arg} (ho : o.op = .binOp op t x y t2) (hop : op = if neg then .neq else .eql)
    (hk : nkP P t = some k) (hlit : lit = true → (∃ c, x = .const c) ∨ ∃ c, y = .const c) (hx : argOf g x = some x') (hy : argOf g y = some y') : OpOK P g o (.eqn neg k lit x' y') := by
  intro s a G H w v H' hw hs h
  have vx := argOf_VR hw hs hx
  have vy := argOf_VR hw hs hy
  simp only [aop] at h
  split at h
  · rename_i p q h1 h2
    have f1 := isNilA_fits h1 vx
    have f2 := isNilA_fits h2 vy
    have n1 := isNilA_V h1 vx
    have n2 := isNilA_V h2 vy
    split at h
    · rename_i hc
      simp only [Option.some.injEq, Prod.mk.injEq] at h
      obtain ⟨rfl, rfl⟩ := h
      simp only [Bool.and_eq_true] at hc
      obtain ⟨hc1, hc2⟩ := hc
      refine OpOK.pure' hw (u := .bool (if neg then !(p && q) else (p && q))) ?_ (.bool _)
      generalize e1 : a.eval x = u1 at *
      generalize e2 : a.eval y = u2 at *
      have heq : (Op.equal t u1 u2).run P w = .ok (p && q) w := by
        have := run_equalIn_nil (P := P) 9999 hk w f1 f2 (by rw [n1, n2]; exact hc1)
        rw [n1, n2] at this
        exact this
      have hgd : (eqGuard op t x y u1 u2).run P w = .ok () w := by
        unfold eqGuard
        by_cases hboth : u1 = .nilIface ∧ u2 = .nilIface
        · obtain ⟨rfl, rfl⟩ := hboth
          have hki : k = .ifc := by cases k <;> first | rfl | exact f1.elim
          have hp : p = true := n1.symm
          have hq : q = true := n2.symm
          subst hki hp hq
          simp at hc2
          rcases hlit hc2 with ⟨c, rfl⟩ | ⟨c, rfl⟩
          · cases op <;> simp
          · cases op <;> simp
        · cases u1 <;> first
            | (cases k <;> exact f1.elim)
            | (cases op <;> rfl)
            | (cases u2 <;> first | exact absurd ⟨rfl, rfl⟩ hboth | (cases op <;> rfl))
      have hbin : (Go.binOp op t u1 u2).run P w = .ok (.bool (if neg then !(p && q) else (p && q))) w := by
        subst hop
        cases neg with
        | false =>
          simp only [Bool.false_eq_true, if_false]
          cases u1 <;> first
            | (cases k <;> exact f1.elim)
            | (cases u2 <;> first
                | (cases k <;> first | exact f1.elim | exact f2.elim)
                | simp [Go.binOp, heq])
        | true =>
          simp only [if_true]
          cases u1 <;> first
            | (cases k <;> exact f1.elim)
            | (cases u2 <;> first
                | (cases k <;> first | exact f1.elim | exact f2.elim)
                | simp [Go.binOp, heq])
      simp only [execOp, ho, e1, e2, Sem.run_bind, hgd, hbin, Result.andThen_ok]
      rfl
    · cases h
  · cases h
end
end Go.Av
end
