/-
  THE OPERATIONS' EQUATIONS, one each (printed by wip/tools/mkeqs.py).
  STRAIGHT ROADS BY ONE CALL OF simp: branches and guards as equations, and congruences that keep simp out of what comes later.
-/
import Derived.Test.YtfdaiidepcbemaaDoorA20
set_option linter.unusedVariables false
set_option linter.defProp false
set_option linter.unusedSimpArgs false
set_option linter.unusedSectionVars false
section
namespace Go.Av
open Go
theorem symD :
    (∀ (ev : Arg → AV) (H : Heap) x, aop ev H (.mov x) = (some (ev x, H))) ∧
    (∀ (ev : Arg → AV) (H : Heap) c a b, aop ev H (.pick c a b) = (match ev c with
    | .bool t => some (if t then ev a else ev b, H)
    | _ => none)) ∧
    (∀ (ev : Arg → AV) (H : Heap) zero, aop ev H (.alloc zero) = (some (.ref H.next 0, H.alloc (.cells zero false)))) ∧
    (∀ (ev : Arg → AV) (H : Heap) x, aop ev H (.box x) = ((fop ev (.box x)).map fun p => (p.2 H.next, H.alloc p.1))) ∧
    (∀ (ev : Arg → AV) (H : Heap) zero parts, aop ev H (.build zero parts) = ((fillA ev zero parts).map fun cs => (.agg cs, H))) ∧
    (∀ (ev : Arg → AV) (H : Heap) sz parts, aop ev H (.mklit sz parts) = ((litA ev sz parts).map fun els => (.lst 1 sz els, H))) ∧
    (∀ (ev : Arg → AV) (H : Heap) agg n a, aop ev H (.load agg n a) = (match ev a with
    | .ref id off => match H.cellsAt id with
      | some cs => if off + n ≤ cs.length then (if agg then some (.agg ((cs.drop off).take n), H) else if n = 1 then some (cs.getD off undefA, H) else none) else none
      | none => none
    | .pl cs => if n ≤ cs.length then (if agg then some (.agg (cs.take n), H) else if n = 1 then some (cs.getD 0 undefA, H) else none) else none
    | _ => none)) ∧
    (∀ (ev : Arg → AV) (H : Heap) n a x, aop ev H (.store n a x) = (match ev a with
    | .ref id off => match H.get id with
      | some (.cells cs opn) =>
        let vs := (ev x).cells
        if vs.length = n ∧ off + n ≤ cs.length ∧ (ev x).isTup = false then some (undefA, H.set id (.cells (splice cs off vs) opn)) else none
      | _ => none
    | _ => none)) ∧
    (∀ (ev : Arg → AV) (H : Heap) x, aop ev H (.nilck x) = (match ev x with
    | .ref id off => some (.ref id off, H)
    | .pl cs => some (.pl cs, H)
    | .func (.func f) a b => some (.func (.func f) a b, H)
    | .iface t v => some (.iface t v, H)
    | _ => none)) ∧
    (∀ (ev : Arg → AV) (H : Heap) op x y, aop ev H (.bin op x y) = (match ev x, ev y with
    | .int k a, .int k' b => (binI op k a k' b).map (·, H)
    | .str a, .str b => (binS op a b).map (·, H)
    | _, _ => none)) ∧
    (∀ (ev : Arg → AV) (H : Heap) neg x y, aop ev H (.eqb neg x y) = (match ev x, ev y with
    | .bool a, .bool b => some (.bool (if neg then !(a == b) else (a == b)), H)
    | _, _ => none)) ∧
    (∀ (ev : Arg → AV) (H : Heap) neg shape x y, aop ev H (.eqf neg shape x y) = (match ev x, ev y with
    | .agg xs, .agg ys => (eqFlat shape xs ys).map fun e => (.bool (if neg then !e else e), H)
    | _, _ => none)) ∧
    (∀ (ev : Arg → AV) (H : Heap) neg k lit x y, aop ev H (.eqn neg k lit x y) = (match isNilA k (ev x), isNilA k (ev y) with
    | some a, some b => if (a || b) && (k != .ifc || !(a && b) || lit) then some (.bool (if neg then !(a && b) else (a && b)), H) else none
    | _, _ => none)) ∧
    (∀ (ev : Arg → AV) (H : Heap) op x, aop ev H (.un op x) = ((unA op (ev x)).map (·, H))) ∧
    (∀ (ev : Arg → AV) (H : Heap) k x, aop ev H (.convi k x) = (match ev x with
    | .int _ n => some (.int k (k.wrap n), H)
    | _ => none)) ∧
    (∀ (ev : Arg → AV) (H : Heap) x, aop ev H (.convs x) = (match ev x with
    | .str s => some (.str s, H)
    | _ => none)) ∧
    (∀ (ev : Arg → AV) (H : Heap) x, aop ev H (.str2b x) = ((fop ev (.str2b x)).map fun p => (p.2 H.next, H.alloc p.1))) ∧
    (∀ (ev : Arg → AV) (H : Heap) x, aop ev H (.b2str x) = (match ev x with
    | .str _ => none
    | v => match elemsOf H 1 v with
      | some els => (bytesOf els).map fun s => (.str s, H)
      | none => none)) ∧
    (∀ (ev : Arg → AV) (H : Heap) n x, aop ev H (.s2ap n x) = (match ev x with
    | .lst _ _ els => if n ≤ els.length then some (.pl els.flatten, H) else none
    | .sl id _ off len _ => if n ≤ len then some (.ref id off, H) else none
    | _ => none)) ∧
    (∀ (ev : Arg → AV) (H : Heap) t x, aop ev H (.mkif t x) = (some (.iface t (ev x), H))) ∧
    (∀ (ev : Arg → AV) (H : Heap) fn first cap, aop ev H (.mkfn fn first cap) = (some (.func fn (first.map ev) (cap.map ev), H))) ∧
    (∀ (ev : Arg → AV) (H : Heap), aop ev H (.mkmap) = (some (.map H.next, H.alloc (.map [])))) ∧
    (∀ (ev : Arg → AV) (H : Heap) sz bytes zero l c, aop ev H (.mkslice sz bytes zero l c) = ((fop ev (.mkslice sz bytes zero l c)).map fun p => (p.2 H.next, H.alloc p.1))) ∧
    (∀ (ev : Arg → AV) (H : Heap) x lo hi, aop ev H (.slstr x lo hi) = (match ev x, optNat ev lo, optNat ev hi with
    | .str s, some lo, some hi =>
      let l := lo.getD 0
      let h := hi.getD s.length
      if l ≤ h ∧ h ≤ s.length then some (.str ((s.drop l).take (h - l)), H) else none
    | _, _, _ => none)) ∧
    (∀ (ev : Arg → AV) (H : Heap) sz x lo hi mx, aop ev H (.slsl sz x lo hi mx) = (match optNat ev lo, optNat ev hi, optNat ev mx with
    | some lo, some hi, some mx => if mx.isSome → hi.isSome then (sliceA sz (ev x) lo hi mx).map (·, H) else none
    | _, _, _ => none)) ∧
    (∀ (ev : Arg → AV) (H : Heap) n sz x lo hi mx, aop ev H (.slarr n sz x lo hi mx) = (match optNat ev lo, optNat ev hi, optNat ev mx with
    | some lo, some hi, some mx => (sliceArrA H n sz (ev x) lo hi mx).map (·, H)
    | _, _, _ => none)) ∧
    (∀ (ev : Arg → AV) (H : Heap) off x, aop ev H (.fadr off x) = (match ev x with
    | .ref id o => some (.ref id (o + off), H)
    | .pl cs => some (.pl (cs.drop off), H)
    | _ => none)) ∧
    (∀ (ev : Arg → AV) (H : Heap) off n agg x, aop ev H (.fld off n agg x) = (match ev x with
    | .agg cs => if off + n ≤ cs.length then (if agg then some (.agg ((cs.drop off).take n), H) else if n = 1 then some (cs.getD off undefA, H) else none) else none
    | _ => none)) ∧
    (∀ (ev : Arg → AV) (H : Heap) arr sz x i, aop ev H (.iadr arr sz x i) = (match asNat (ev i) with
    | some i => match arr, ev x with
      | some n, .ref id o => if i < n then some (.ref id (o + i * sz), H) else none
      | some n, .pl cs => if i < n then some (.pl (cs.drop (i * sz)), H) else none
      | none, .lst _ sz' els => if sz' = sz ∧ i < els.length then some (.pl (els.getD i []), H) else none
      | none, .sl id sz' off len _ => if sz' = sz ∧ i < len then some (.ref id (off + i * sz), H) else none
      | _, _ => none
    | none => none)) ∧
    (∀ (ev : Arg → AV) (H : Heap) n sz agg x i, aop ev H (.idx n sz agg x i) = (match asNat (ev i), ev x with
    | some i, .agg cs => if i < n ∧ i * sz + sz ≤ cs.length then (if agg then some (.agg ((cs.drop (i * sz)).take sz), H) else if sz = 1 then some (cs.getD i undefA, H) else none) else none
    | _, _ => none)) ∧
    (∀ (ev : Arg → AV) (H : Heap) x i, aop ev H (.idxs x i) = (match asNat (ev i), ev x with
    | some i, .str s => match s[i]? with
      | some b => some (.int .u8 b.toNat, H)
      | none => none
    | _, _ => none)) ∧
    (∀ (ev : Arg → AV) (H : Heap) t ok zero x, aop ev H (.tass t ok zero x) = (match ev x with
    | .iface t' v => if t' = t then some (if ok then .tup [v, .bool true] else v, H) else if ok then some (.tup [zero, .bool false], H) else none
    | .nilif => if ok then some (.tup [zero, .bool false], H) else none
    | _ => none)) ∧
    (∀ (ev : Arg → AV) (H : Heap) x i, aop ev H (.extr x i) = (match ev x with
    | .tup vs => if i < vs.length then some (vs.getD i undefA, H) else none
    | _ => none)) ∧
    (∀ (ev : Arg → AV) (H : Heap) x, aop ev H (.lens x) = (match ev x with
    | .str s => some (.int .i64 s.length, H)
    | _ => none)) ∧
    (∀ (ev : Arg → AV) (H : Heap) x, aop ev H (.lenl x) = (match ev x with
    | .nilsl => some (.int .i64 0, H)
    | .lst _ _ els => some (.int .i64 els.length, H)
    | .sl _ _ _ len _ => some (.int .i64 len, H)
    | _ => none)) ∧
    (∀ (ev : Arg → AV) (H : Heap) n, aop ev H (.lenc n) = (some (.int .i64 n, H))) ∧
    (∀ (ev : Arg → AV) (H : Heap) x, aop ev H (.capl x) = (match ev x with
    | .nilsl => some (.int .i64 0, H)
    | .lst 1 _ els => some (.int .i64 els.length, H)
    | _ => none)) ∧
    (∀ (ev : Arg → AV) (H : Heap) x y, aop ev H (.maxi x y) = (match ev x, ev y with
    | .int k a, .int _ b => some (.int k (if b > a then b else a), H)
    | _, _ => none)) ∧
    (∀ (ev : Arg → AV) (H : Heap) sz bytes mu x y, aop ev H (.append sz bytes mu x y) = (match elemsOf H sz (ev y) with
    | some ys => appendA H sz bytes mu (ev x) ys
    | none => none)) ∧
    (∀ (ev : Arg → AV) (H : Heap) sz bytes zero x n, aop ev H (.appendz sz bytes zero x n) = (match asNat (ev n), ev x with
    | some n, .nilsl => if zero.length = sz ∧ 1 ≤ sz ∧ n * bytes ≤ 2 ^ 40 then (if n = 0 then some (.nilsl, H) else some (newRowA H true sz (List.replicate n zero))) else none
    | _, _ => none)) ∧
    (∀ (ev : Arg → AV) (H : Heap) sz d s, aop ev H (.copy sz d s) = (match elemsOf H sz (ev s), ev d with
    | some ys, .nilsl => some (.int .i64 (min ys.length 0 : Nat), H)
    | some ys, .sl id sz' off len _ =>
      let n := min ys.length len
      if sz' = sz then
        match H.get id with
        | some (.cells cs opn) => if off + n * sz ≤ cs.length then some (.int .i64 n, H.set id (.cells (splice cs off (ys.take n).flatten) opn)) else none
        | _ => none
      else none
    | _, _ => none)) ∧
    (∀ (ev : Arg → AV) (H : Heap) kind zero ok x i, aop ev H (.lookup kind zero ok x i) = (if keyOk kind (ev i) then
      match ev x with
      | .nilmap => some (if ok then .tup [zero, .bool false] else zero, H)
      | .map id => match H.get id with
        | some (.map es) => match findKeyA kind (ev i) es 0 with
          | some (some (_, v)) => some (if ok then .tup [v, .bool true] else v, H)
          | some none => some (if ok then .tup [zero, .bool false] else zero, H)
          | none => none
        | _ => none
      | _ => none
    else none)) ∧
    (∀ (ev : Arg → AV) (H : Heap) kind m k v, aop ev H (.mapup kind m k v) = (if keyOk kind (ev k) then
      match ev m with
      | .map id => match H.get id with
        | some (.map es) => match findKeyA kind (ev k) es 0 with
          | some (some (i, _)) => some (undefA, H.set id (.map (es.set i (ev k, ev v))))
          | some none => some (undefA, H.set id (.map (es ++ [(ev k, ev v)])))
          | none => none
        | _ => none
      | _ => none
    else none)) :=
  ⟨fun _ _ _ => rfl,
   fun _ _ _ _ _ => rfl,
   fun _ _ _ => rfl,
   fun _ _ _ => rfl,
   fun _ _ _ _ => rfl,
   fun _ _ _ _ => rfl,
   fun _ _ _ _ _ => rfl,
   fun _ _ _ _ _ => rfl,
   fun _ _ _ => rfl,
   fun _ _ _ _ _ => rfl,
   fun _ _ _ _ _ => rfl,
   fun _ _ _ _ _ _ => rfl,
   fun _ _ _ _ _ _ _ => rfl,
   fun _ _ _ _ => rfl,
   fun _ _ _ _ => rfl,
   fun _ _ _ => rfl,
   fun _ _ _ => rfl,
   fun _ _ _ => rfl,
   fun _ _ _ _ => rfl,
   fun _ _ _ _ => rfl,
   fun _ _ _ _ _ => rfl,
   fun _ _ => rfl,
   fun _ _ _ _ _ _ _ => rfl,
   fun _ _ _ _ _ => rfl,
   fun _ _ _ _ _ _ _ => rfl,
   fun _ _ _ _ _ _ _ _ => rfl,
   fun _ _ _ _ => rfl,
   fun _ _ _ _ _ _ => rfl,
   fun _ _ _ _ _ _ => rfl,
   fun _ _ _ _ _ _ _ => rfl,
   fun _ _ _ _ => rfl,
   fun _ _ _ _ _ _ => rfl,
   fun _ _ _ _ => rfl,
   fun _ _ _ => rfl,
   fun _ _ _ => rfl,
   fun _ _ _ => rfl,
   fun _ _ _ => rfl,
   fun _ _ _ _ => rfl,
   fun _ _ _ _ _ _ _ => rfl,
   fun _ _ _ _ _ _ _ => rfl,
   fun _ _ _ _ _ => rfl,
   fun _ _ _ _ _ _ _ => rfl,
   fun _ _ _ _ _ _ => rfl⟩
theorem symE :
    (∀ (k : IntKind) (a : Int) (k' : IntKind) (b : Int), binI .shl k a k' b = (if b < 0 then none else some (.int k (k.wrap (a * 2 ^ (min b.toNat k.bits)))))) ∧
    (∀ (k : IntKind) (a : Int) (k' : IntKind) (b : Int), binI .shr k a k' b = (if b < 0 then none else some (.int k (a.fdiv (2 ^ (min b.toNat k.bits)))))) ∧
    (∀ (k : IntKind) (a : Int) (k' : IntKind) (b : Int), binI .add k a k' b = (if k = k' then some (.int k (k.wrap (a + b))) else none)) ∧
    (∀ (k : IntKind) (a : Int) (k' : IntKind) (b : Int), binI .sub k a k' b = (if k = k' then some (.int k (k.wrap (a - b))) else none)) ∧
    (∀ (k : IntKind) (a : Int) (k' : IntKind) (b : Int), binI .mul k a k' b = (if k = k' then some (.int k (k.wrap (a * b))) else none)) ∧
    (∀ (k : IntKind) (a : Int) (k' : IntKind) (b : Int), binI .quo k a k' b = (if k = k' then (if b = 0 then none else some (.int k (k.wrap (a.tdiv b)))) else none)) ∧
    (∀ (k : IntKind) (a : Int) (k' : IntKind) (b : Int), binI .rem k a k' b = (if k = k' then (if b = 0 then none else some (.int k (a.tmod b))) else none)) ∧
    (∀ (k : IntKind) (a : Int) (k' : IntKind) (b : Int), binI .eql k a k' b = (if k = k' then some (.bool (a == b)) else none)) ∧
    (∀ (k : IntKind) (a : Int) (k' : IntKind) (b : Int), binI .neq k a k' b = (if k = k' then some (.bool (a != b)) else none)) ∧
    (∀ (k : IntKind) (a : Int) (k' : IntKind) (b : Int), binI .lss k a k' b = (if k = k' then some (.bool (a < b)) else none)) ∧
    (∀ (k : IntKind) (a : Int) (k' : IntKind) (b : Int), binI .leq k a k' b = (if k = k' then some (.bool (a ≤ b)) else none)) ∧
    (∀ (k : IntKind) (a : Int) (k' : IntKind) (b : Int), binI .gtr k a k' b = (if k = k' then some (.bool (a > b)) else none)) ∧
    (∀ (k : IntKind) (a : Int) (k' : IntKind) (b : Int), binI .geq k a k' b = (if k = k' then some (.bool (a ≥ b)) else none)) ∧
    (∀ (k : IntKind) (a : Int) (k' : IntKind) (b : Int), binI .and k a k' b = (if k = k' then bitsI .and k a b else none)) ∧
    (∀ (k : IntKind) (a : Int) (k' : IntKind) (b : Int), binI .or k a k' b = (if k = k' then bitsI .or k a b else none)) ∧
    (∀ (k : IntKind) (a : Int) (k' : IntKind) (b : Int), binI .xor k a k' b = (if k = k' then bitsI .xor k a b else none)) ∧
    (∀ (k : IntKind) (a : Int) (k' : IntKind) (b : Int), binI .andNot k a k' b = (if k = k' then bitsI .andNot k a b else none)) :=
  ⟨fun _ _ _ _ => rfl,
   fun _ _ _ _ => rfl,
   fun _ _ _ _ => rfl,
   fun _ _ _ _ => rfl,
   fun _ _ _ _ => rfl,
   fun _ _ _ _ => rfl,
   fun _ _ _ _ => rfl,
   fun _ _ _ _ => rfl,
   fun _ _ _ _ => rfl,
   fun _ _ _ _ => rfl,
   fun _ _ _ _ => rfl,
   fun _ _ _ _ => rfl,
   fun _ _ _ _ => rfl,
   fun _ _ _ _ => rfl,
   fun _ _ _ _ => rfl,
   fun _ _ _ _ => rfl,
   fun _ _ _ _ => rfl⟩
end Go.Av
end
section
namespace Go.Av
open Go
def condK (v : AV) (A B : Prop) : Prop :=
  match v with
  | .bool true => A
  | .bool false => B
  | _ => False
def guardK (v : AV) (b : Bool) (A B : Prop) : Prop :=
  match v with
  | .bool c => if c = b then A else B
  | _ => B
section
variable {P : Program} {g : Genv} {n : Nat} {r : List ROper} {f : Slt} {ds : List Dfr} {H : Heap} {Q : FQ}
theorem FC_condK (c : Arg) (a b : ACode) : FC P g n (.cond c a b) f ds H Q = condK (evF g f c) (FC P g n a f ds H Q) (FC P g n b f ds H Q) := by
  refine eq_of_iff (fun h => ?_) (fun h => ?_)
  · obtain ⟨t, h1, h2⟩ := h
    rw [h1]
    cases t with
    | true => exact h2
    | false => exact h2
  · unfold condK at h
    split at h
    · rename_i hv; exact ⟨true, hv, h⟩
    · rename_i hv; exact ⟨false, hv, h⟩
    · exact h.elim
theorem condK_true (A B : Prop) : condK (.bool true) A B = A := eq_of_iff id id
theorem condK_false (A B : Prop) : condK (.bool false) A B = B := eq_of_iff id id
theorem condK_dec (p : Prop) [Decidable p] (A B : Prop) : condK (.bool (decide p)) A B = ((p → A) ∧ (¬ p → B)) := by
  by_cases hp : p
  · simp [hp, condK_true]
  · simp [hp, condK_false]
theorem condK_not (b : Bool) (A B : Prop) : condK (.bool (!b)) A B = condK (.bool b) B A := by
  cases b <;> rfl
theorem condK_or (a b : Bool) (A B : Prop) : condK (.bool (a || b)) A B = condK (.bool a) A (condK (.bool b) A B) := by
  cases a <;> rfl
theorem condK_and (a b : Bool) (A B : Prop) : condK (.bool (a && b)) A B = condK (.bool a) (condK (.bool b) A B) B := by
  cases a <;> rfl
theorem condK_congr {v v' : AV} (h : v = v') (A B : Prop) : condK v A B = condK v' A B := by rw [h]
theorem FOps_g (d x : Nat) (b : Bool) (op : ROp) (hd : d < n) :
    FOps P g n (⟨some d, op, some (x, b)⟩ :: r) f ds H Q = guardK (f x) b (FOps P g n (⟨some d, op, none⟩ :: r) f ds H Q) (FOps P g n r (upd f d undefA) ds H Q) := by
  have : ∀ v, putF n f (some d) v = upd f d v := fun v => by simp [putF, hd]
  conv => lhs; unfold FOps
  conv => rhs; arg 3; unfold FOps
  simp only [wantedF, this, if_true]
  unfold guardK
  cases h : f x with
  | bool c => by_cases hc : c = b <;> simp [hc]
  | _ => simp
theorem guardK_tt (A B : Prop) : guardK (.bool true) true A B = A := eq_of_iff id id
theorem guardK_ff (A B : Prop) : guardK (.bool false) false A B = A := eq_of_iff id id
theorem guardK_tf (A B : Prop) : guardK (.bool true) false A B = B := eq_of_iff id id
theorem guardK_ft (A B : Prop) : guardK (.bool false) true A B = B := eq_of_iff id id
theorem guardK_congr {v v' : AV} (h : v = v') (b : Bool) (A B : Prop) : guardK v b A B = guardK v' b A B := by rw [h]
theorem FC_seqE (a b : ACode) : FC P g n (.seq a b) f ds H Q = FC P g n a f ds H (thenF (fun f ds H => FC P g n b f ds H Q) Q) := eq_of_iff id id
theorem FC_blockE (id : Nat) (a : ACode) : FC P g n (.block id a) f ds H Q = FC P g n a f ds H (inBlockF id Q) := eq_of_iff (fun h => h) (fun h => h)
/-! ### keep out -/
theorem FC_congr {c : ACode} {f' : Slt} (h : f = f') : FC P g n c f ds H Q = FC P g n c f' ds H Q := by rw [h]
theorem FOps_congr {f' : Slt} (h : f = f') : FOps P g n r f ds H Q = FOps P g n r f' ds H Q := by rw [h]
theorem thenF_congr {K : Slt → List Dfr → Heap → Prop} {e : AEx} {f' : Slt} (h : f = f') : thenF K Q e f ds H = thenF K Q e f' ds H := by rw [h]
theorem inBlockF_congr {id : Nat} {e : AEx} {f' : Slt} (h : f = f') : inBlockF id Q e f ds H = inBlockF id Q e f' ds H := by rw [h]
end
theorem symC :
    (∀ (P : Program) (g : Genv) (n : Nat) (f : Slt) (ds : List Dfr) (H : Heap) (Q : FQ) (c : Arg) (a b : ACode), FC P g n (.cond c a b) f ds H Q = condK (evF g f c) (FC P g n a f ds H Q) (FC P g n b f ds H Q)) ∧
    (∀ (A B : Prop), condK (.bool true) A B = A) ∧
    (∀ (A B : Prop), condK (.bool false) A B = B) ∧
    (∀ (P : Program) (g : Genv) (n : Nat) (r : List ROper) (f : Slt) (ds : List Dfr) (H : Heap) (Q : FQ) (d x : Nat) (b : Bool) (op : ROp) (hd : d < n),
      FOps P g n (⟨some d, op, some (x, b)⟩ :: r) f ds H Q = guardK (f x) b (FOps P g n (⟨some d, op, none⟩ :: r) f ds H Q) (FOps P g n r (upd f d undefA) ds H Q)) ∧
    (∀ (A B : Prop), guardK (.bool true) true A B = A) ∧
    (∀ (A B : Prop), guardK (.bool false) false A B = A) ∧
    (∀ (A B : Prop), guardK (.bool true) false A B = B) ∧
    (∀ (A B : Prop), guardK (.bool false) true A B = B) ∧
    (∀ (P : Program) (g : Genv) (n : Nat) (f : Slt) (ds : List Dfr) (H : Heap) (Q : FQ) (a b : ACode), FC P g n (.seq a b) f ds H Q = FC P g n a f ds H (thenF (fun f ds H => FC P g n b f ds H Q) Q)) :=
  ⟨fun _ _ _ _ _ _ _ c a b => FC_condK c a b, condK_true, condK_false, fun _ _ _ _ _ _ _ _ d x b op hd => FOps_g d x b op hd, guardK_tt, guardK_ff, guardK_tf, guardK_ft, fun _ _ _ _ _ _ _ a b => FC_seqE a b⟩
/-! ### 'for i := 0; i < ..; i++' -/
/-- the loop that it comes to: 'ts' the test (its result in slot c), 'B' the body, 'st' the step -/
def forLoop (id c : Nat) (ts : ACode) (B : ACode) (st : ACode) : ACode :=
  .block id (.loop (.seq (.seq ts (.cond (.tmp c) .skip (.exit id))) (.seq B st)))
theorem FC_for {P : Program} {g : Genv} {n : Nat} {id c : Nat} {ts B st : ACode} {f : Slt} {ds : List Dfr} {H : Heap} {Q : FQ} (J : Nat → Slt → Heap → Prop) (N : Nat)
    (h0 : J 0 f H)
    (test : ∀ (i : Nat) (f : Slt) (H : Heap), i ≤ N → J i f H → ∀ (K : Slt → Prop), (∀ f', f' c = .bool (decide (i < N)) → J i f' H → K f') → ∀ Q' : FQ, FC P g n ts f ds H (thenF (fun f' ds' H' => ds' = ds ∧ H' = H ∧ K f') Q'))
    (body : ∀ (i : Nat) (f : Slt) (H : Heap), i < N → J i f H →
      FC P g n B f ds H (thenF (fun f' ds' H' => ds' = ds ∧ FC P g n st f' ds H' (thenF (fun f' ds' H' => ds' = ds ∧ J (i + 1) f' H') (inBlockF id Q))) (inBlockF id Q)))
    (done : ∀ (f : Slt) (H : Heap), J N f H → Q .normal f ds H) : FC P g n (forLoop id c ts B st) f ds H Q := by
  have mono : ∀ {c : ACode} {f : Slt} {ds : List Dfr} {H : Heap} {Q Q' : FQ}, (∀ e f ds H, Q e f ds H → Q' e f ds H) → FC P g n c f ds H Q → FC P g n c f ds H Q' := fun {c f ds H Q Q'} hq h => FC_mono hq h
  refine FC_block (FC_loop (fun m f' ds' H' => ds' = ds ∧ ∃ i : Nat, i ≤ N ∧ m = N - i ∧ J i f' H') N ⟨rfl, 0, Nat.zero_le _, by omega, h0⟩ ?_)
  rintro m f1 ds1 H1 ⟨rfl, i, hi, rfl, e3⟩
  refine FC_seq fun K hK => ?_
  refine FC_seq fun K2 hK2 => ?_
  refine mono (fun e f2 ds2 H2 h => ?_) (test i f1 H1 hi e3 (fun f' => K2 f' ds1 H1) (fun f' h1 h2 => ?_) (thenF K (inBlockF id Q) |> fun Z => Z))
  · cases e with
    | normal => obtain ⟨rfl, rfl, h⟩ := h; exact h
    | _ => exact h
  · apply hK2
    rw [FC_condK, evF_tmp, h1]
    by_cases hlt : i < N
    · rw [decide_eq_true hlt, condK_true, FC_skip, thenF_normal]
      apply hK
      refine FC_seq fun K3 hK3 => ?_
      refine mono (fun e f2 ds2 H2 h => ?_) (body i f' H1 hlt h2)
      cases e with
      | normal =>
        obtain ⟨rfl, h⟩ := h
        show K3 f2 ds2 H2
        apply hK3
        refine mono (fun e f3 ds3 H3 hh => ?_) h
        cases e with
        | normal =>
          obtain ⟨h5, h6⟩ := hh
          exact ⟨N - (i + 1), by omega, h5, i + 1, by omega, rfl, h6⟩
        | _ => exact hh
      | _ => exact h
    · rw [decide_eq_false hlt, condK_false, FC_exit, thenF_exit, thenF_exit, inBlockF_exit]
      obtain rfl : i = N := by omega
      exact done f' H1 h2
/-! ### lists handed back beside other results; arguments of which less is said -/
theorem VR.tag0 {G : Gh} {w : World} {tag sz : Nat} {els : List (List AV)} {u : Value} (h : VR G w (.lst tag sz els) u) : VR G w (.lst 0 sz els) u := by
  cases h with
  | lst _ _ _ b o cap us hu h hv ht => exact .lst 0 sz els b o cap us hu h hv ⟨ht.1, trivial⟩
theorem Sound.tag0 {P : Program} {g : Genv} {f : FuncId} {sz : Nat} {els : List (List AV)} {rest : List AV} {H H' : Heap} {out : Out} (h : Sound P g f (.lst 0 sz els :: rest) H out H') (tag : Nat) :
    Sound P g f (.lst tag sz els :: rest) H out H' := by
  refine ⟨h.1, fun G w vs hw hv => h.2 G w vs hw ⟨hv.1, fun j hj => ?_⟩⟩
  have := hv.2 j hj
  cases j with
  | zero => exact VR.tag0 this
  | succ j => exact this
def OwnN (H : Heap) (sz : Nat) (v : AV) (els : List (List AV)) : Prop := Own H sz v els ∧ (els = [] → v = .nilsl)
theorem OwnN.nil (H : Heap) (sz : Nat) : OwnN H sz .nilsl [] := ⟨.nil H sz, fun _ => rfl⟩
theorem OwnN.alloc {H : Heap} {sz : Nat} {v : AV} {els : List (List AV)} (h : OwnN H sz v els) (o : AObj) : OwnN (H.alloc o) sz v els := ⟨h.1.alloc o, h.2⟩
theorem OwnN.append {H : Heap} {sz bytes : Nat} {v : AV} {els : List (List AV)} {e : List AV} (h : OwnN H sz v els) (hb : (els.length + 1) * bytes ≤ 2 ^ 40) :
    ∃ v' H', appendA H sz bytes false v [e] = some (v', H') ∧ OwnN H' sz v' (els ++ [e]) ∧ Grew H H' v := by
  obtain ⟨v', H', h1, h2, h3⟩ := h.1.append (bytes := bytes) (ys := [e]) (by simpa using hb)
  exact ⟨v', H', h1, ⟨h2, fun he => by simp at he⟩, h3⟩
def ownV (H : Heap) (sz : Nat) (els : List (List AV)) : AV := if els = [] then .nilsl else .lst (H.next + 2) sz els
def ownH (H : Heap) (els : List (List AV)) : Heap := if els = [] then H else H.alloc .tok
theorem OwnN.out (H : Heap) (sz : Nat) (els : List (List AV)) : OwnN (ownH H els) sz (ownV H sz els) els := by
  unfold ownH ownV
  by_cases h : els = []
  · subst h
    exact OwnN.nil _ _
  · rw [if_neg h, if_neg h]
    exact ⟨Own.fresh _ _ _, fun he => absurd he h⟩
theorem mapO_free {k : AV → Option AV} : ∀ {l : List AV}, (∀ x ∈ l, k x = some x) → mapO k l = some l
  | [], _ => rfl
  | x :: l, h => by
    simp only [mapO]
    rw [h x List.mem_cons_self, mapO_free fun y hy => h y (List.mem_cons_of_mem _ hy)]
theorem Sound_ownT {P : Program} {g : Genv} (hg : GFree g) {f : FuncId} {args : List AV} (ha : freeL args = true) {sz : Nat} {els : List (List AV)} {rest : List AV} (hr : ∀ x ∈ rest, ∃ k n, x = .int k n) (hf : freeLL els = true)
    (h : ∃ out H', (∃ v, out = .ret (.tup (v :: rest)) ∧ OwnN H' sz v els) ∧ Sound P g f args ⟨0, .nil⟩ out H') (H : Heap) : Sound P g f args H (.ret (.tup (ownV H sz els :: rest))) (ownH H els) := by
  obtain ⟨out, H', ⟨v, rfl, hown, hnil⟩, hS⟩ := h
  have hrest : ∀ (tk : Option Nat) (nw : Nat), mapO (shutF H' tk nw 0) rest = some rest := fun tk nw => mapO_free fun x hx => by
    obtain ⟨k, n, rfl⟩ := hr x hx
    rfl
  by_cases he : els = []
  · have := hnil he
    subst this
    subst he
    have e1 : shutF H' none H.next 0 .nilsl = some .nilsl := rfl
    have := hS.frame hg ha (tk := none) (fun k' hk' => by cases hk') (n := 1) H (v' := .tup (.nilsl :: rest)) (by
      show (mapO (shutF H' none H.next 0) (.nilsl :: rest)).map AV.tup = _
      simp only [mapO, e1, hrest, Option.map_some])
    simpa [ownV, ownH, Out.with, addTok] using this
  · rcases hown with ⟨rfl, he'⟩ | ⟨k, rfl, _, hk⟩
    · exact absurd he' he
    · have e1 : shutF H' (some k) H.next 0 (.lst (k + 2) sz els) = some (.lst (H.next + 2) sz els) := by
        simp [shutF, shut1, hf, tagA]
      have := hS.frame hg ha (tk := some k) (fun k' hk' => by cases hk'; exact hk) (n := 1) H (v' := .tup (.lst (H.next + 2) sz els :: rest)) (by
        show (mapO (shutF H' (some k) H.next 0) (.lst (k + 2) sz els :: rest)).map AV.tup = _
        simp only [mapO, e1, hrest, Option.map_some])
      simpa [ownV, ownH, he, Out.with, addTok] using this
theorem slice_from (tag sz : Nat) {els : List (List AV)} {a : Nat} (ha : a ≤ els.length) : ∃ tag', (tag < 2 → tag' < 2) ∧ sliceA sz (.lst tag sz els) (some a) none none = some (.lst tag' sz (els.drop a)) := by
  simp only [sliceA, Option.getD_some, Option.getD_none]
  rw [if_pos ⟨trivial, ha, Nat.le_refl _⟩]
  by_cases h : a < els.length ∨ tag < 2
  · rw [if_pos ⟨trivial, h⟩]
    exact ⟨tag, id, rfl⟩
  · rw [if_neg (by simp [h])]
    refine ⟨0, fun _ => by omega, ?_⟩
    rw [List.take_of_length_le (by simp)]
/-! ### many equations under one name -/
theorem symL :
    (∀ {α : Type} (a b : α), (a ≠ b) = ¬ (a = b)) ∧ ((¬ False) = True) ∧ (∀ {α : Type} {_ : Decidable True} (a b : α), (if True then a else b) = a) ∧ ((false = true) = False) ∧
    (∀ {α : Type} {_ : Decidable False} (a b : α), (if False then a else b) = b) ∧ (∀ {α β : Type} (f : α → β) (a : α), Option.map f (some a) = some (f a)) ∧ (∀ {α : Type} (a : α) (l : List α), (a :: l).length = l.length + 1) ∧
    (∀ {α : Type}, ([] : List α).length = 0) ∧ (∀ n : Nat, 0 + n = n) ∧ (∀ {α : Type} (a d : α) (l : List α), (a :: l).getD 0 d = a) ∧ (∀ {α : Type} (a d : α) (l : List α) (n : Nat), (a :: l).getD (n + 1) d = l.getD n d) ∧
    (∀ p : Prop, (p ∧ p) = p) ∧ (∀ n : Nat, (n ≤ n) = True) ∧ (∀ (p : Prop) [Decidable p] (A B : Prop), condK (.bool (decide p)) A B = ((p → A) ∧ (¬ p → B))) :=
  ⟨fun a b => ne_eq a b, not_false_eq_true, fun a b => if_true a b, Bool.false_eq_true, fun a b => if_false a b, fun f a => rfl, fun a l => rfl, rfl, Nat.zero_add, fun _ _ _ => rfl, fun _ _ _ _ => rfl, and_self, fun n => eq_true (Nat.le_refl n), fun p _ A B => condK_dec p A B⟩
def sy := And.intro symB (And.intro symC (And.intro symD (And.intro symE symL)))
theorem sn : (∀ n : Nat, n * 1 = n) ∧ (∀ n : Nat, 1 * n = n) ∧ (∀ n : Nat, 0 * n = 0) ∧ (∀ n : Nat, n - 0 = n) ∧ (∀ n : Nat, n + 0 = n) ∧ (∀ n : Nat, 0 + n = n) :=
  ⟨Nat.mul_one, Nat.one_mul, Nat.zero_mul, Nat.sub_zero, Nat.add_zero, Nat.zero_add⟩
theorem sh : (∀ n m : Nat, Heap.get ⟨n, .nil⟩ m = none) ∧ (∀ (H : Heap) (o : AObj) (i : Nat), (H.alloc o).get i = if i = H.next then some o else H.get i) ∧ (∀ (H : Heap) (j : Nat) (o : AObj) (i : Nat), (H.set j o).get i = if i = j then some o else H.get i) ∧
    (∀ (H : Heap) (o : AObj), (H.alloc o).next = H.next + 1) ∧ (∀ (H : Heap) (j : Nat) (o : AObj), (H.set j o).next = H.next) ∧ (∀ n : Nat, 0 + n = n) ∧
    (∀ {α : Type} {_ : Decidable True} (a b : α), (if True then a else b) = a) ∧ (∀ {α : Type} {_ : Decidable False} (a b : α), (if False then a else b) = b) :=
  ⟨fun _ _ => rfl, fun _ _ _ => Heap.get_alloc .., fun _ _ _ _ => Heap.get_set .., fun _ _ => Heap.next_alloc .., fun _ _ _ => Heap.next_set .., Nat.zero_add, fun a b => if_true a b, fun a b => if_false a b⟩
theorem sl :
    (∀ {α : Type} (a : α) (l : List α) (n : Nat), (a :: l).take (n + 1) = a :: l.take n) ∧ (∀ {α : Type} (a : α) (l : List α) (n : Nat), (a :: l).drop (n + 1) = l.drop n) ∧ (∀ {α : Type} (l : List α), l.take 0 = []) ∧ (∀ {α : Type} (l : List α), l.drop 0 = l) ∧
    (∀ {α : Type} (n : Nat), ([] : List α).take n = []) ∧ (∀ {α : Type} (n : Nat), ([] : List α).drop n = []) ∧ (∀ {α : Type} (a : α) (l m : List α), a :: l ++ m = a :: (l ++ m)) ∧ (∀ {α : Type} (l : List α), [] ++ l = l) ∧ (∀ {α : Type} (l : List α), l ++ [] = l) ∧
    (∀ {α β : Type} (f : α → β) (a : α) (l : List α), (a :: l).map f = f a :: l.map f) ∧ (∀ {α β : Type} (f : α → β), [].map f = []) ∧ (∀ {α : Type} (a d : α) (l : List α), (a :: l).getD 0 d = a) ∧
    (∀ {α : Type} (a d : α) (l : List α) (n : Nat), (a :: l).getD (n + 1) d = l.getD n d) ∧ (∀ {α : Type} (a b : α) (l : List α), (a :: l).set 0 b = b :: l) ∧ (∀ {α : Type} (a b : α) (l : List α) (n : Nat), (a :: l).set (n + 1) b = a :: l.set n b) :=
  ⟨fun _ _ _ => rfl, fun _ _ _ => rfl, fun l => List.take_zero, fun _ => rfl, fun n => List.take_nil, fun n => List.drop_nil, fun _ _ _ => rfl, fun _ => rfl, fun l => List.append_nil l, fun _ _ _ => rfl, fun _ => rfl, fun _ _ _ => rfl, fun _ _ _ _ => rfl, fun _ _ _ => rfl, fun _ _ _ _ => rfl⟩
theorem sm : (∀ {α β : Type} (f : α → β) (a : α) (l : List α), (a :: l).map f = f a :: l.map f) ∧ (∀ {α β : Type} (f : α → β), [].map f = []) ∧ (∀ {α : Type} (a b : α), (a ≠ b) = ¬ (a = b)) ∧ ((¬ False) = True) ∧
    (∀ {α : Type} (a d : α) (l : List α), (a :: l).getD 0 d = a) ∧ (∀ {α : Type} (a d : α) (l : List α) (n : Nat), (a :: l).getD (n + 1) d = l.getD n d) :=
  ⟨fun _ _ _ => rfl, fun _ => rfl, fun a b => ne_eq a b, not_false_eq_true, fun _ _ _ => rfl, fun _ _ _ _ => rfl⟩
end Go.Av
end
