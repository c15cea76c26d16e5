/-
  STEPS, as equations for simp (none of them by rfl: the kernel must not search).
  LISTS THAT A FUNCTION BUILDS BY APPEND.
  LOOPS OVER A RANGE.
-/
import Derived.Test.YtfdaiidepcbemaaDoorA19
set_option linter.unusedVariables false
set_option linter.unusedSimpArgs false
set_option linter.unusedSectionVars false
section
namespace Go.Av
open Go
theorem eq_of_iff {a b : Prop} (h1 : a → b) (h2 : b → a) : a = b := propext ⟨h1, h2⟩
theorem stepK_congr {r r' : Option (AV × Heap)} (h : r = r') (k : AV → Heap → Prop) : stepK r k = stepK r' k := by rw [h]
theorem stepK_some (v : AV) (H : Heap) (k : AV → Heap → Prop) : stepK (some (v, H)) k = k v H := eq_of_iff id id
section
variable {P : Program} {g : Genv} {n : Nat} {r : List ROper} {f : Slt} {ds : List Dfr} {H : Heap} {Q : FQ}
theorem FOps_nil : FOps P g n [] f ds H Q = Q .normal f ds H := eq_of_iff id id
theorem FOps_op (d : Nat) (op : ROp) (hp : op.plain = true) (hd : d < n) :
    FOps P g n (⟨some d, op, none⟩ :: r) f ds H Q = stepK (aop (evF g f) H op) fun v H' => FOps P g n r (upd f d v) ds H' Q := by
  have : ∀ v, putF n f (some d) v = upd f d v := fun v => by simp [putF, hd]
  conv => lhs; unfold FOps
  simp only [wantedF, if_true, this]
  cases op <;> first | rfl | cases hp
theorem FOps_op0 (op : ROp) (hp : op.plain = true) :
    FOps P g n (⟨none, op, none⟩ :: r) f ds H Q = stepK (aop (evF g f) H op) fun v H' => FOps P g n r f ds H' Q := by
  conv => lhs; unfold FOps
  simp only [wantedF, if_true, putF]
  cases op <;> first | rfl | cases hp
theorem FOps_mov (d : Nat) (x : Arg) (hd : d < n) : FOps P g n (⟨some d, (.mov x), none⟩ :: r) f ds H Q = stepK (aop (evF g f) H (.mov x)) fun v H' => FOps P g n r (upd f d v) ds H' Q := FOps_op d _ rfl hd
theorem FOps_pick (d : Nat) (c a b : Arg) (hd : d < n) : FOps P g n (⟨some d, (.pick c a b), none⟩ :: r) f ds H Q = stepK (aop (evF g f) H (.pick c a b)) fun v H' => FOps P g n r (upd f d v) ds H' Q := FOps_op d _ rfl hd
theorem FOps_alloc (d : Nat) (z : List AV) (hd : d < n) : FOps P g n (⟨some d, (.alloc z), none⟩ :: r) f ds H Q = stepK (aop (evF g f) H (.alloc z)) fun v H' => FOps P g n r (upd f d v) ds H' Q := FOps_op d _ rfl hd
theorem FOps_box (d : Nat) (x : Arg) (hd : d < n) : FOps P g n (⟨some d, (.box x), none⟩ :: r) f ds H Q = stepK (aop (evF g f) H (.box x)) fun v H' => FOps P g n r (upd f d v) ds H' Q := FOps_op d _ rfl hd
theorem FOps_build (d : Nat) (z : List AV) (ps : List (Nat × Nat × Arg)) (hd : d < n) : FOps P g n (⟨some d, (.build z ps), none⟩ :: r) f ds H Q = stepK (aop (evF g f) H (.build z ps)) fun v H' => FOps P g n r (upd f d v) ds H' Q := FOps_op d _ rfl hd
theorem FOps_mklit (d : Nat) (sz : Nat) (xs : List Arg) (hd : d < n) : FOps P g n (⟨some d, (.mklit sz xs), none⟩ :: r) f ds H Q = stepK (aop (evF g f) H (.mklit sz xs)) fun v H' => FOps P g n r (upd f d v) ds H' Q := FOps_op d _ rfl hd
theorem FOps_load (d : Nat) (agg : Bool) (m : Nat) (a : Arg) (hd : d < n) : FOps P g n (⟨some d, (.load agg m a), none⟩ :: r) f ds H Q = stepK (aop (evF g f) H (.load agg m a)) fun v H' => FOps P g n r (upd f d v) ds H' Q := FOps_op d _ rfl hd
theorem FOps_store (d : Nat) (m : Nat) (a x : Arg) (hd : d < n) : FOps P g n (⟨some d, (.store m a x), none⟩ :: r) f ds H Q = stepK (aop (evF g f) H (.store m a x)) fun v H' => FOps P g n r (upd f d v) ds H' Q := FOps_op d _ rfl hd
theorem FOps_store0 (m : Nat) (a x : Arg) : FOps P g n (⟨none, (.store m a x), none⟩ :: r) f ds H Q = stepK (aop (evF g f) H (.store m a x)) fun v H' => FOps P g n r f ds H' Q := FOps_op0 _ rfl
theorem FOps_nilck (d : Nat) (x : Arg) (hd : d < n) : FOps P g n (⟨some d, (.nilck x), none⟩ :: r) f ds H Q = stepK (aop (evF g f) H (.nilck x)) fun v H' => FOps P g n r (upd f d v) ds H' Q := FOps_op d _ rfl hd
theorem FOps_bin (d : Nat) (o : BinOp) (x y : Arg) (hd : d < n) : FOps P g n (⟨some d, (.bin o x y), none⟩ :: r) f ds H Q = stepK (aop (evF g f) H (.bin o x y)) fun v H' => FOps P g n r (upd f d v) ds H' Q := FOps_op d _ rfl hd
theorem FOps_eqb (d : Nat) (neg : Bool) (x y : Arg) (hd : d < n) : FOps P g n (⟨some d, (.eqb neg x y), none⟩ :: r) f ds H Q = stepK (aop (evF g f) H (.eqb neg x y)) fun v H' => FOps P g n r (upd f d v) ds H' Q := FOps_op d _ rfl hd
theorem FOps_eqf (d : Nat) (neg : Bool) (sh : List Sk) (x y : Arg) (hd : d < n) : FOps P g n (⟨some d, (.eqf neg sh x y), none⟩ :: r) f ds H Q = stepK (aop (evF g f) H (.eqf neg sh x y)) fun v H' => FOps P g n r (upd f d v) ds H' Q := FOps_op d _ rfl hd
theorem FOps_eqn (d : Nat) (neg : Bool) (k : Nk) (lit : Bool) (x y : Arg) (hd : d < n) : FOps P g n (⟨some d, (.eqn neg k lit x y), none⟩ :: r) f ds H Q = stepK (aop (evF g f) H (.eqn neg k lit x y)) fun v H' => FOps P g n r (upd f d v) ds H' Q := FOps_op d _ rfl hd
theorem FOps_un (d : Nat) (o : UnOp) (x : Arg) (hd : d < n) : FOps P g n (⟨some d, (.un o x), none⟩ :: r) f ds H Q = stepK (aop (evF g f) H (.un o x)) fun v H' => FOps P g n r (upd f d v) ds H' Q := FOps_op d _ rfl hd
theorem FOps_convi (d : Nat) (k : IntKind) (x : Arg) (hd : d < n) : FOps P g n (⟨some d, (.convi k x), none⟩ :: r) f ds H Q = stepK (aop (evF g f) H (.convi k x)) fun v H' => FOps P g n r (upd f d v) ds H' Q := FOps_op d _ rfl hd
theorem FOps_convs (d : Nat) (x : Arg) (hd : d < n) : FOps P g n (⟨some d, (.convs x), none⟩ :: r) f ds H Q = stepK (aop (evF g f) H (.convs x)) fun v H' => FOps P g n r (upd f d v) ds H' Q := FOps_op d _ rfl hd
theorem FOps_str2b (d : Nat) (x : Arg) (hd : d < n) : FOps P g n (⟨some d, (.str2b x), none⟩ :: r) f ds H Q = stepK (aop (evF g f) H (.str2b x)) fun v H' => FOps P g n r (upd f d v) ds H' Q := FOps_op d _ rfl hd
theorem FOps_b2str (d : Nat) (x : Arg) (hd : d < n) : FOps P g n (⟨some d, (.b2str x), none⟩ :: r) f ds H Q = stepK (aop (evF g f) H (.b2str x)) fun v H' => FOps P g n r (upd f d v) ds H' Q := FOps_op d _ rfl hd
theorem FOps_s2ap (d : Nat) (m : Nat) (x : Arg) (hd : d < n) : FOps P g n (⟨some d, (.s2ap m x), none⟩ :: r) f ds H Q = stepK (aop (evF g f) H (.s2ap m x)) fun v H' => FOps P g n r (upd f d v) ds H' Q := FOps_op d _ rfl hd
theorem FOps_mkif (d : Nat) (t : TypeId) (x : Arg) (hd : d < n) : FOps P g n (⟨some d, (.mkif t x), none⟩ :: r) f ds H Q = stepK (aop (evF g f) H (.mkif t x)) fun v H' => FOps P g n r (upd f d v) ds H' Q := FOps_op d _ rfl hd
theorem FOps_mkfn (d : Nat) (fn : Fn) (a b : List Arg) (hd : d < n) : FOps P g n (⟨some d, (.mkfn fn a b), none⟩ :: r) f ds H Q = stepK (aop (evF g f) H (.mkfn fn a b)) fun v H' => FOps P g n r (upd f d v) ds H' Q := FOps_op d _ rfl hd
theorem FOps_mkmap (d : Nat)  (hd : d < n) : FOps P g n (⟨some d, (.mkmap), none⟩ :: r) f ds H Q = stepK (aop (evF g f) H (.mkmap)) fun v H' => FOps P g n r (upd f d v) ds H' Q := FOps_op d _ rfl hd
theorem FOps_mkslice (d : Nat) (sz bytes : Nat) (z : List AV) (l c : Arg) (hd : d < n) : FOps P g n (⟨some d, (.mkslice sz bytes z l c), none⟩ :: r) f ds H Q = stepK (aop (evF g f) H (.mkslice sz bytes z l c)) fun v H' => FOps P g n r (upd f d v) ds H' Q := FOps_op d _ rfl hd
theorem FOps_slstr (d : Nat) (x : Arg) (lo hi : Option Arg) (hd : d < n) : FOps P g n (⟨some d, (.slstr x lo hi), none⟩ :: r) f ds H Q = stepK (aop (evF g f) H (.slstr x lo hi)) fun v H' => FOps P g n r (upd f d v) ds H' Q := FOps_op d _ rfl hd
theorem FOps_slsl (d : Nat) (sz : Nat) (x : Arg) (lo hi mx : Option Arg) (hd : d < n) : FOps P g n (⟨some d, (.slsl sz x lo hi mx), none⟩ :: r) f ds H Q = stepK (aop (evF g f) H (.slsl sz x lo hi mx)) fun v H' => FOps P g n r (upd f d v) ds H' Q := FOps_op d _ rfl hd
theorem FOps_slarr (d : Nat) (m sz : Nat) (x : Arg) (lo hi mx : Option Arg) (hd : d < n) : FOps P g n (⟨some d, (.slarr m sz x lo hi mx), none⟩ :: r) f ds H Q = stepK (aop (evF g f) H (.slarr m sz x lo hi mx)) fun v H' => FOps P g n r (upd f d v) ds H' Q := FOps_op d _ rfl hd
theorem FOps_fadr (d : Nat) (off : Nat) (x : Arg) (hd : d < n) : FOps P g n (⟨some d, (.fadr off x), none⟩ :: r) f ds H Q = stepK (aop (evF g f) H (.fadr off x)) fun v H' => FOps P g n r (upd f d v) ds H' Q := FOps_op d _ rfl hd
theorem FOps_fld (d : Nat) (off m : Nat) (agg : Bool) (x : Arg) (hd : d < n) : FOps P g n (⟨some d, (.fld off m agg x), none⟩ :: r) f ds H Q = stepK (aop (evF g f) H (.fld off m agg x)) fun v H' => FOps P g n r (upd f d v) ds H' Q := FOps_op d _ rfl hd
theorem FOps_iadr (d : Nat) (arr : Option Nat) (sz : Nat) (x i : Arg) (hd : d < n) : FOps P g n (⟨some d, (.iadr arr sz x i), none⟩ :: r) f ds H Q = stepK (aop (evF g f) H (.iadr arr sz x i)) fun v H' => FOps P g n r (upd f d v) ds H' Q := FOps_op d _ rfl hd
theorem FOps_idx (d : Nat) (m sz : Nat) (agg : Bool) (x i : Arg) (hd : d < n) : FOps P g n (⟨some d, (.idx m sz agg x i), none⟩ :: r) f ds H Q = stepK (aop (evF g f) H (.idx m sz agg x i)) fun v H' => FOps P g n r (upd f d v) ds H' Q := FOps_op d _ rfl hd
theorem FOps_idxs (d : Nat) (x i : Arg) (hd : d < n) : FOps P g n (⟨some d, (.idxs x i), none⟩ :: r) f ds H Q = stepK (aop (evF g f) H (.idxs x i)) fun v H' => FOps P g n r (upd f d v) ds H' Q := FOps_op d _ rfl hd
theorem FOps_tass (d : Nat) (t : TypeId) (ok : Bool) (z : AV) (x : Arg) (hd : d < n) : FOps P g n (⟨some d, (.tass t ok z x), none⟩ :: r) f ds H Q = stepK (aop (evF g f) H (.tass t ok z x)) fun v H' => FOps P g n r (upd f d v) ds H' Q := FOps_op d _ rfl hd
theorem FOps_extr (d : Nat) (x : Arg) (i : Nat) (hd : d < n) : FOps P g n (⟨some d, (.extr x i), none⟩ :: r) f ds H Q = stepK (aop (evF g f) H (.extr x i)) fun v H' => FOps P g n r (upd f d v) ds H' Q := FOps_op d _ rfl hd
theorem FOps_lens (d : Nat) (x : Arg) (hd : d < n) : FOps P g n (⟨some d, (.lens x), none⟩ :: r) f ds H Q = stepK (aop (evF g f) H (.lens x)) fun v H' => FOps P g n r (upd f d v) ds H' Q := FOps_op d _ rfl hd
theorem FOps_lenl (d : Nat) (x : Arg) (hd : d < n) : FOps P g n (⟨some d, (.lenl x), none⟩ :: r) f ds H Q = stepK (aop (evF g f) H (.lenl x)) fun v H' => FOps P g n r (upd f d v) ds H' Q := FOps_op d _ rfl hd
theorem FOps_lenc (d : Nat) (m : Nat) (hd : d < n) : FOps P g n (⟨some d, (.lenc m), none⟩ :: r) f ds H Q = stepK (aop (evF g f) H (.lenc m)) fun v H' => FOps P g n r (upd f d v) ds H' Q := FOps_op d _ rfl hd
theorem FOps_capl (d : Nat) (x : Arg) (hd : d < n) : FOps P g n (⟨some d, (.capl x), none⟩ :: r) f ds H Q = stepK (aop (evF g f) H (.capl x)) fun v H' => FOps P g n r (upd f d v) ds H' Q := FOps_op d _ rfl hd
theorem FOps_maxi (d : Nat) (x y : Arg) (hd : d < n) : FOps P g n (⟨some d, (.maxi x y), none⟩ :: r) f ds H Q = stepK (aop (evF g f) H (.maxi x y)) fun v H' => FOps P g n r (upd f d v) ds H' Q := FOps_op d _ rfl hd
theorem FOps_append (d : Nat) (sz bytes : Nat) (mu : Bool) (x y : Arg) (hd : d < n) : FOps P g n (⟨some d, (.append sz bytes mu x y), none⟩ :: r) f ds H Q = stepK (aop (evF g f) H (.append sz bytes mu x y)) fun v H' => FOps P g n r (upd f d v) ds H' Q := FOps_op d _ rfl hd
theorem FOps_appendz (d : Nat) (sz bytes : Nat) (z : List AV) (x y : Arg) (hd : d < n) : FOps P g n (⟨some d, (.appendz sz bytes z x y), none⟩ :: r) f ds H Q = stepK (aop (evF g f) H (.appendz sz bytes z x y)) fun v H' => FOps P g n r (upd f d v) ds H' Q := FOps_op d _ rfl hd
theorem FOps_copy (d : Nat) (sz : Nat) (x y : Arg) (hd : d < n) : FOps P g n (⟨some d, (.copy sz x y), none⟩ :: r) f ds H Q = stepK (aop (evF g f) H (.copy sz x y)) fun v H' => FOps P g n r (upd f d v) ds H' Q := FOps_op d _ rfl hd
theorem FOps_lookup (d : Nat) (k : Sk) (z : AV) (ok : Bool) (x i : Arg) (hd : d < n) : FOps P g n (⟨some d, (.lookup k z ok x i), none⟩ :: r) f ds H Q = stepK (aop (evF g f) H (.lookup k z ok x i)) fun v H' => FOps P g n r (upd f d v) ds H' Q := FOps_op d _ rfl hd
theorem FOps_mapup (d : Nat) (k : Sk) (m i v : Arg) (hd : d < n) : FOps P g n (⟨some d, (.mapup k m i v), none⟩ :: r) f ds H Q = stepK (aop (evF g f) H (.mapup k m i v)) fun v H' => FOps P g n r (upd f d v) ds H' Q := FOps_op d _ rfl hd
theorem FOps_mapup0 (k : Sk) (m i v : Arg) : FOps P g n (⟨none, (.mapup k m i v), none⟩ :: r) f ds H Q = stepK (aop (evF g f) H (.mapup k m i v)) fun v H' => FOps P g n r f ds H' Q := FOps_op0 _ rfl
/-! ### monotony -/
theorem stepK_mono {r : Option (AV × Heap)} {k k' : AV → Heap → Prop} (h : ∀ v H, k v H → k' v H) (hr : stepK r k) : stepK r k' := by
  unfold stepK at *
  split at hr
  · exact h _ _ hr
  · exact hr.elim
/-- a guarded operation -/
theorem FOps_guard (d x : Nat) (b c : Bool) (op : ROp) (hp : op.plain = true) (hd : d < n) (hx : f x = .bool c) :
    FOps P g n (⟨some d, op, some (x, b)⟩ :: r) f ds H Q = if c = b then stepK (aop (evF g f) H op) fun v H' => FOps P g n r (upd f d v) ds H' Q else FOps P g n r (upd f d undefA) ds H Q := by
  have : ∀ v, putF n f (some d) v = upd f d v := fun v => by simp [putF, hd]
  conv => lhs; unfold FOps
  simp only [wantedF, hx, this, beq_iff_eq]
  by_cases hcb : c = b
  · simp only [hcb, if_true]
    cases op <;> first | rfl | cases hp
  · simp only [hcb, if_false]
/-- a call, by its contract -/
theorem FOps_call {d : Nat} {fid : FuncId} {as : List Arg} {args : List AV} {v : AV} {H' : Heap} (hd : d < n) (ha : as.map (evF g f) = args) (hS : Sound P g fid args H (.ret v) H')
    (h : FOps P g n r (upd f d v) ds H' Q) : FOps P g n (⟨some d, .call (.const (.func (.func fid) [] [])) as, none⟩ :: r) f ds H Q := by
  have : ∀ v, putF n f (some d) v = upd f d v := fun v => by simp [putF, hd]
  unfold FOps
  simp only [wantedF, if_true, this]
  exact ⟨(fid, [], []), .ret v, H', rfl, by simpa [ha] using hS, h⟩
/-- a call of a value, by its contract -/
theorem FOps_callv {d : Nat} {c : Arg} {fid : FuncId} {fs cs : List AV} {as : List Arg} {args : List AV} {v : AV} {H' : Heap} (hd : d < n) (hc : evF g f c = .func (.func fid) fs cs) (ha : fs ++ as.map (evF g f) ++ cs = args)
    (hS : Sound P g fid args H (.ret v) H') (h : FOps P g n r (upd f d v) ds H' Q) : FOps P g n (⟨some d, .call c as, none⟩ :: r) f ds H Q := by
  have : ∀ v, putF n f (some d) v = upd f d v := fun v => by simp [putF, hd]
  unfold FOps
  simp only [wantedF, if_true, this]
  exact ⟨(fid, fs, cs), .ret v, H', by rw [hc]; rfl, by rw [ha]; exact hS, h⟩
theorem evF_tmp (t : Nat) : evF g f (.tmp t) = f t := by cases h : f t <;> exact h
theorem evF_const (v : AV) : evF g f (.const v) = v := by cases v <;> rfl
theorem FC_ops (rl : List ROper) : FC P g n (.ops rl) f ds H Q = FOps P g n rl f ds H Q := eq_of_iff id id
theorem FC_skip : FC P g n .skip f ds H Q = Q .normal f ds H := eq_of_iff id id
theorem FC_ret : FC P g n .ret f ds H Q = Q .ret f ds H := eq_of_iff id id
theorem FC_exit (id : Nat) : FC P g n (.exit id) f ds H Q = Q (.exit id) f ds H := eq_of_iff (fun h => h) (fun h => h)
theorem FC_seq {a b : ACode} (h : ∀ K : Slt → List Dfr → Heap → Prop, (∀ f ds H, FC P g n b f ds H Q → K f ds H) → FC P g n a f ds H (thenF K Q)) : FC P g n (.seq a b) f ds H Q := h _ fun _ _ _ h => h
theorem FC_block {id : Nat} {a : ACode} (h : FC P g n a f ds H (inBlockF id Q)) : FC P g n (.block id a) f ds H Q := h
theorem FC_cond {c : Arg} {a b : ACode} (t : Bool) (hc : evF g f c = .bool t) (h1 : t = true → FC P g n a f ds H Q) (h2 : t = false → FC P g n b f ds H Q) : FC P g n (.cond c a b) f ds H Q := by
  refine ⟨t, hc, ?_⟩
  cases t with
  | true => exact h1 rfl
  | false => exact h2 rfl
theorem FC_loop {a : ACode} (I : Nat → Slt → List Dfr → Heap → Prop) (m : Nat) (h0 : I m f ds H) (h : ∀ m f ds H, I m f ds H → FC P g n a f ds H (thenF (fun f ds H => ∃ k, k < m ∧ I k f ds H) Q)) : FC P g n (.loop a) f ds H Q := ⟨I, m, h0, h⟩
theorem thenF_normal (K : Slt → List Dfr → Heap → Prop) : thenF K Q .normal f ds H = K f ds H := eq_of_iff id id
theorem thenF_ret (K : Slt → List Dfr → Heap → Prop) : thenF K Q .ret f ds H = Q .ret f ds H := eq_of_iff id id
theorem thenF_exit (K : Slt → List Dfr → Heap → Prop) (i : Nat) : thenF K Q (.exit i) f ds H = Q (.exit i) f ds H := eq_of_iff id id
theorem thenF_panic (K : Slt → List Dfr → Heap → Prop) (v : AV) : thenF K Q (.panic v) f ds H = Q (.panic v) f ds H := eq_of_iff id id
theorem inBlockF_normal (i : Nat) : inBlockF i Q .normal f ds H = Q .normal f ds H := eq_of_iff id id
theorem inBlockF_ret (i : Nat) : inBlockF i Q .ret f ds H = Q .ret f ds H := eq_of_iff id id
theorem inBlockF_panic (i : Nat) (v : AV) : inBlockF i Q (.panic v) f ds H = Q (.panic v) f ds H := eq_of_iff id id
theorem inBlockF_exit (i : Nat) : inBlockF i Q (.exit i) f ds H = Q .normal f ds H := by simp [inBlockF]
theorem inBlockF_other (i j : Nat) (h : j ≠ i) : inBlockF i Q (.exit j) f ds H = Q (.exit j) f ds H := by simp [inBlockF, h]
end
/-- all of them -/
theorem symA (P : Program) (g : Genv) (n : Nat) :
    (∀ (r : List ROper) (f : Slt) (ds : List Dfr) (H : Heap) (Q : FQ) (d : Nat) (x : Arg) (hd : d < n), FOps P g n (⟨some d, (.mov x), none⟩ :: r) f ds H Q = stepK (aop (evF g f) H (.mov x)) fun v H' => FOps P g n r (upd f d v) ds H' Q) ∧
    (∀ (r : List ROper) (f : Slt) (ds : List Dfr) (H : Heap) (Q : FQ) (d : Nat) (c a b : Arg) (hd : d < n), FOps P g n (⟨some d, (.pick c a b), none⟩ :: r) f ds H Q = stepK (aop (evF g f) H (.pick c a b)) fun v H' => FOps P g n r (upd f d v) ds H' Q) ∧
    (∀ (r : List ROper) (f : Slt) (ds : List Dfr) (H : Heap) (Q : FQ) (d : Nat) (z : List AV) (hd : d < n), FOps P g n (⟨some d, (.alloc z), none⟩ :: r) f ds H Q = stepK (aop (evF g f) H (.alloc z)) fun v H' => FOps P g n r (upd f d v) ds H' Q) ∧
    (∀ (r : List ROper) (f : Slt) (ds : List Dfr) (H : Heap) (Q : FQ) (d : Nat) (x : Arg) (hd : d < n), FOps P g n (⟨some d, (.box x), none⟩ :: r) f ds H Q = stepK (aop (evF g f) H (.box x)) fun v H' => FOps P g n r (upd f d v) ds H' Q) ∧
    (∀ (r : List ROper) (f : Slt) (ds : List Dfr) (H : Heap) (Q : FQ) (d : Nat) (z : List AV) (ps : List (Nat × Nat × Arg)) (hd : d < n), FOps P g n (⟨some d, (.build z ps), none⟩ :: r) f ds H Q = stepK (aop (evF g f) H (.build z ps)) fun v H' => FOps P g n r (upd f d v) ds H' Q) ∧
    (∀ (r : List ROper) (f : Slt) (ds : List Dfr) (H : Heap) (Q : FQ) (d : Nat) (sz : Nat) (xs : List Arg) (hd : d < n), FOps P g n (⟨some d, (.mklit sz xs), none⟩ :: r) f ds H Q = stepK (aop (evF g f) H (.mklit sz xs)) fun v H' => FOps P g n r (upd f d v) ds H' Q) ∧
    (∀ (r : List ROper) (f : Slt) (ds : List Dfr) (H : Heap) (Q : FQ) (d : Nat) (agg : Bool) (m : Nat) (a : Arg) (hd : d < n), FOps P g n (⟨some d, (.load agg m a), none⟩ :: r) f ds H Q = stepK (aop (evF g f) H (.load agg m a)) fun v H' => FOps P g n r (upd f d v) ds H' Q) ∧
    (∀ (r : List ROper) (f : Slt) (ds : List Dfr) (H : Heap) (Q : FQ) (d : Nat) (m : Nat) (a x : Arg) (hd : d < n), FOps P g n (⟨some d, (.store m a x), none⟩ :: r) f ds H Q = stepK (aop (evF g f) H (.store m a x)) fun v H' => FOps P g n r (upd f d v) ds H' Q) ∧
    (∀ (r : List ROper) (f : Slt) (ds : List Dfr) (H : Heap) (Q : FQ) (m : Nat) (a x : Arg), FOps P g n (⟨none, (.store m a x), none⟩ :: r) f ds H Q = stepK (aop (evF g f) H (.store m a x)) fun v H' => FOps P g n r f ds H' Q) ∧
    (∀ (r : List ROper) (f : Slt) (ds : List Dfr) (H : Heap) (Q : FQ) (d : Nat) (x : Arg) (hd : d < n), FOps P g n (⟨some d, (.nilck x), none⟩ :: r) f ds H Q = stepK (aop (evF g f) H (.nilck x)) fun v H' => FOps P g n r (upd f d v) ds H' Q) ∧
    (∀ (r : List ROper) (f : Slt) (ds : List Dfr) (H : Heap) (Q : FQ) (d : Nat) (o : BinOp) (x y : Arg) (hd : d < n), FOps P g n (⟨some d, (.bin o x y), none⟩ :: r) f ds H Q = stepK (aop (evF g f) H (.bin o x y)) fun v H' => FOps P g n r (upd f d v) ds H' Q) ∧
    (∀ (r : List ROper) (f : Slt) (ds : List Dfr) (H : Heap) (Q : FQ) (d : Nat) (neg : Bool) (x y : Arg) (hd : d < n), FOps P g n (⟨some d, (.eqb neg x y), none⟩ :: r) f ds H Q = stepK (aop (evF g f) H (.eqb neg x y)) fun v H' => FOps P g n r (upd f d v) ds H' Q) ∧
    (∀ (r : List ROper) (f : Slt) (ds : List Dfr) (H : Heap) (Q : FQ) (d : Nat) (neg : Bool) (sh : List Sk) (x y : Arg) (hd : d < n), FOps P g n (⟨some d, (.eqf neg sh x y), none⟩ :: r) f ds H Q = stepK (aop (evF g f) H (.eqf neg sh x y)) fun v H' => FOps P g n r (upd f d v) ds H' Q) ∧
    (∀ (r : List ROper) (f : Slt) (ds : List Dfr) (H : Heap) (Q : FQ) (d : Nat) (neg : Bool) (k : Nk) (lit : Bool) (x y : Arg) (hd : d < n), FOps P g n (⟨some d, (.eqn neg k lit x y), none⟩ :: r) f ds H Q = stepK (aop (evF g f) H (.eqn neg k lit x y)) fun v H' => FOps P g n r (upd f d v) ds H' Q) ∧
    (∀ (r : List ROper) (f : Slt) (ds : List Dfr) (H : Heap) (Q : FQ) (d : Nat) (o : UnOp) (x : Arg) (hd : d < n), FOps P g n (⟨some d, (.un o x), none⟩ :: r) f ds H Q = stepK (aop (evF g f) H (.un o x)) fun v H' => FOps P g n r (upd f d v) ds H' Q) ∧
    (∀ (r : List ROper) (f : Slt) (ds : List Dfr) (H : Heap) (Q : FQ) (d : Nat) (k : IntKind) (x : Arg) (hd : d < n), FOps P g n (⟨some d, (.convi k x), none⟩ :: r) f ds H Q = stepK (aop (evF g f) H (.convi k x)) fun v H' => FOps P g n r (upd f d v) ds H' Q) ∧
    (∀ (r : List ROper) (f : Slt) (ds : List Dfr) (H : Heap) (Q : FQ) (d : Nat) (x : Arg) (hd : d < n), FOps P g n (⟨some d, (.convs x), none⟩ :: r) f ds H Q = stepK (aop (evF g f) H (.convs x)) fun v H' => FOps P g n r (upd f d v) ds H' Q) ∧
    (∀ (r : List ROper) (f : Slt) (ds : List Dfr) (H : Heap) (Q : FQ) (d : Nat) (x : Arg) (hd : d < n), FOps P g n (⟨some d, (.str2b x), none⟩ :: r) f ds H Q = stepK (aop (evF g f) H (.str2b x)) fun v H' => FOps P g n r (upd f d v) ds H' Q) ∧
    (∀ (r : List ROper) (f : Slt) (ds : List Dfr) (H : Heap) (Q : FQ) (d : Nat) (x : Arg) (hd : d < n), FOps P g n (⟨some d, (.b2str x), none⟩ :: r) f ds H Q = stepK (aop (evF g f) H (.b2str x)) fun v H' => FOps P g n r (upd f d v) ds H' Q) ∧
    (∀ (r : List ROper) (f : Slt) (ds : List Dfr) (H : Heap) (Q : FQ) (d : Nat) (m : Nat) (x : Arg) (hd : d < n), FOps P g n (⟨some d, (.s2ap m x), none⟩ :: r) f ds H Q = stepK (aop (evF g f) H (.s2ap m x)) fun v H' => FOps P g n r (upd f d v) ds H' Q) ∧
    (∀ (r : List ROper) (f : Slt) (ds : List Dfr) (H : Heap) (Q : FQ) (d : Nat) (t : TypeId) (x : Arg) (hd : d < n), FOps P g n (⟨some d, (.mkif t x), none⟩ :: r) f ds H Q = stepK (aop (evF g f) H (.mkif t x)) fun v H' => FOps P g n r (upd f d v) ds H' Q) ∧
    (∀ (r : List ROper) (f : Slt) (ds : List Dfr) (H : Heap) (Q : FQ) (d : Nat) (fn : Fn) (a b : List Arg) (hd : d < n), FOps P g n (⟨some d, (.mkfn fn a b), none⟩ :: r) f ds H Q = stepK (aop (evF g f) H (.mkfn fn a b)) fun v H' => FOps P g n r (upd f d v) ds H' Q) ∧
    (∀ (r : List ROper) (f : Slt) (ds : List Dfr) (H : Heap) (Q : FQ) (d : Nat)  (hd : d < n), FOps P g n (⟨some d, (.mkmap), none⟩ :: r) f ds H Q = stepK (aop (evF g f) H (.mkmap)) fun v H' => FOps P g n r (upd f d v) ds H' Q) ∧
    (∀ (r : List ROper) (f : Slt) (ds : List Dfr) (H : Heap) (Q : FQ) (d : Nat) (sz bytes : Nat) (z : List AV) (l c : Arg) (hd : d < n), FOps P g n (⟨some d, (.mkslice sz bytes z l c), none⟩ :: r) f ds H Q = stepK (aop (evF g f) H (.mkslice sz bytes z l c)) fun v H' => FOps P g n r (upd f d v) ds H' Q) ∧
    (∀ (r : List ROper) (f : Slt) (ds : List Dfr) (H : Heap) (Q : FQ) (d : Nat) (x : Arg) (lo hi : Option Arg) (hd : d < n), FOps P g n (⟨some d, (.slstr x lo hi), none⟩ :: r) f ds H Q = stepK (aop (evF g f) H (.slstr x lo hi)) fun v H' => FOps P g n r (upd f d v) ds H' Q) ∧
    (∀ (r : List ROper) (f : Slt) (ds : List Dfr) (H : Heap) (Q : FQ) (d : Nat) (sz : Nat) (x : Arg) (lo hi mx : Option Arg) (hd : d < n), FOps P g n (⟨some d, (.slsl sz x lo hi mx), none⟩ :: r) f ds H Q = stepK (aop (evF g f) H (.slsl sz x lo hi mx)) fun v H' => FOps P g n r (upd f d v) ds H' Q) ∧
    (∀ (r : List ROper) (f : Slt) (ds : List Dfr) (H : Heap) (Q : FQ) (d : Nat) (m sz : Nat) (x : Arg) (lo hi mx : Option Arg) (hd : d < n), FOps P g n (⟨some d, (.slarr m sz x lo hi mx), none⟩ :: r) f ds H Q = stepK (aop (evF g f) H (.slarr m sz x lo hi mx)) fun v H' => FOps P g n r (upd f d v) ds H' Q) ∧
    (∀ (r : List ROper) (f : Slt) (ds : List Dfr) (H : Heap) (Q : FQ) (d : Nat) (off : Nat) (x : Arg) (hd : d < n), FOps P g n (⟨some d, (.fadr off x), none⟩ :: r) f ds H Q = stepK (aop (evF g f) H (.fadr off x)) fun v H' => FOps P g n r (upd f d v) ds H' Q) ∧
    (∀ (r : List ROper) (f : Slt) (ds : List Dfr) (H : Heap) (Q : FQ) (d : Nat) (off m : Nat) (agg : Bool) (x : Arg) (hd : d < n), FOps P g n (⟨some d, (.fld off m agg x), none⟩ :: r) f ds H Q = stepK (aop (evF g f) H (.fld off m agg x)) fun v H' => FOps P g n r (upd f d v) ds H' Q) ∧
    (∀ (r : List ROper) (f : Slt) (ds : List Dfr) (H : Heap) (Q : FQ) (d : Nat) (arr : Option Nat) (sz : Nat) (x i : Arg) (hd : d < n), FOps P g n (⟨some d, (.iadr arr sz x i), none⟩ :: r) f ds H Q = stepK (aop (evF g f) H (.iadr arr sz x i)) fun v H' => FOps P g n r (upd f d v) ds H' Q) ∧
    (∀ (r : List ROper) (f : Slt) (ds : List Dfr) (H : Heap) (Q : FQ) (d : Nat) (m sz : Nat) (agg : Bool) (x i : Arg) (hd : d < n), FOps P g n (⟨some d, (.idx m sz agg x i), none⟩ :: r) f ds H Q = stepK (aop (evF g f) H (.idx m sz agg x i)) fun v H' => FOps P g n r (upd f d v) ds H' Q) ∧
    (∀ (r : List ROper) (f : Slt) (ds : List Dfr) (H : Heap) (Q : FQ) (d : Nat) (x i : Arg) (hd : d < n), FOps P g n (⟨some d, (.idxs x i), none⟩ :: r) f ds H Q = stepK (aop (evF g f) H (.idxs x i)) fun v H' => FOps P g n r (upd f d v) ds H' Q) ∧
    (∀ (r : List ROper) (f : Slt) (ds : List Dfr) (H : Heap) (Q : FQ) (d : Nat) (t : TypeId) (ok : Bool) (z : AV) (x : Arg) (hd : d < n), FOps P g n (⟨some d, (.tass t ok z x), none⟩ :: r) f ds H Q = stepK (aop (evF g f) H (.tass t ok z x)) fun v H' => FOps P g n r (upd f d v) ds H' Q) ∧
    (∀ (r : List ROper) (f : Slt) (ds : List Dfr) (H : Heap) (Q : FQ) (d : Nat) (x : Arg) (i : Nat) (hd : d < n), FOps P g n (⟨some d, (.extr x i), none⟩ :: r) f ds H Q = stepK (aop (evF g f) H (.extr x i)) fun v H' => FOps P g n r (upd f d v) ds H' Q) ∧
    (∀ (r : List ROper) (f : Slt) (ds : List Dfr) (H : Heap) (Q : FQ) (d : Nat) (x : Arg) (hd : d < n), FOps P g n (⟨some d, (.lens x), none⟩ :: r) f ds H Q = stepK (aop (evF g f) H (.lens x)) fun v H' => FOps P g n r (upd f d v) ds H' Q) ∧
    (∀ (r : List ROper) (f : Slt) (ds : List Dfr) (H : Heap) (Q : FQ) (d : Nat) (x : Arg) (hd : d < n), FOps P g n (⟨some d, (.lenl x), none⟩ :: r) f ds H Q = stepK (aop (evF g f) H (.lenl x)) fun v H' => FOps P g n r (upd f d v) ds H' Q) ∧
    (∀ (r : List ROper) (f : Slt) (ds : List Dfr) (H : Heap) (Q : FQ) (d : Nat) (m : Nat) (hd : d < n), FOps P g n (⟨some d, (.lenc m), none⟩ :: r) f ds H Q = stepK (aop (evF g f) H (.lenc m)) fun v H' => FOps P g n r (upd f d v) ds H' Q) ∧
    (∀ (r : List ROper) (f : Slt) (ds : List Dfr) (H : Heap) (Q : FQ) (d : Nat) (x : Arg) (hd : d < n), FOps P g n (⟨some d, (.capl x), none⟩ :: r) f ds H Q = stepK (aop (evF g f) H (.capl x)) fun v H' => FOps P g n r (upd f d v) ds H' Q) ∧
    (∀ (r : List ROper) (f : Slt) (ds : List Dfr) (H : Heap) (Q : FQ) (d : Nat) (x y : Arg) (hd : d < n), FOps P g n (⟨some d, (.maxi x y), none⟩ :: r) f ds H Q = stepK (aop (evF g f) H (.maxi x y)) fun v H' => FOps P g n r (upd f d v) ds H' Q) ∧
    (∀ (r : List ROper) (f : Slt) (ds : List Dfr) (H : Heap) (Q : FQ) (d : Nat) (sz bytes : Nat) (mu : Bool) (x y : Arg) (hd : d < n), FOps P g n (⟨some d, (.append sz bytes mu x y), none⟩ :: r) f ds H Q = stepK (aop (evF g f) H (.append sz bytes mu x y)) fun v H' => FOps P g n r (upd f d v) ds H' Q) ∧
    (∀ (r : List ROper) (f : Slt) (ds : List Dfr) (H : Heap) (Q : FQ) (d : Nat) (sz bytes : Nat) (z : List AV) (x y : Arg) (hd : d < n), FOps P g n (⟨some d, (.appendz sz bytes z x y), none⟩ :: r) f ds H Q = stepK (aop (evF g f) H (.appendz sz bytes z x y)) fun v H' => FOps P g n r (upd f d v) ds H' Q) ∧
    (∀ (r : List ROper) (f : Slt) (ds : List Dfr) (H : Heap) (Q : FQ) (d : Nat) (sz : Nat) (x y : Arg) (hd : d < n), FOps P g n (⟨some d, (.copy sz x y), none⟩ :: r) f ds H Q = stepK (aop (evF g f) H (.copy sz x y)) fun v H' => FOps P g n r (upd f d v) ds H' Q) ∧
    (∀ (r : List ROper) (f : Slt) (ds : List Dfr) (H : Heap) (Q : FQ) (d : Nat) (k : Sk) (z : AV) (ok : Bool) (x i : Arg) (hd : d < n), FOps P g n (⟨some d, (.lookup k z ok x i), none⟩ :: r) f ds H Q = stepK (aop (evF g f) H (.lookup k z ok x i)) fun v H' => FOps P g n r (upd f d v) ds H' Q) ∧
    (∀ (r : List ROper) (f : Slt) (ds : List Dfr) (H : Heap) (Q : FQ) (d : Nat) (k : Sk) (m i v : Arg) (hd : d < n), FOps P g n (⟨some d, (.mapup k m i v), none⟩ :: r) f ds H Q = stepK (aop (evF g f) H (.mapup k m i v)) fun v H' => FOps P g n r (upd f d v) ds H' Q) ∧
    (∀ (r : List ROper) (f : Slt) (ds : List Dfr) (H : Heap) (Q : FQ) (k : Sk) (m i v : Arg), FOps P g n (⟨none, (.mapup k m i v), none⟩ :: r) f ds H Q = stepK (aop (evF g f) H (.mapup k m i v)) fun v H' => FOps P g n r f ds H' Q) ∧
    (∀ (f : Slt) (ds : List Dfr) (H : Heap) (Q : FQ), FOps P g n [] f ds H Q = Q .normal f ds H) ∧
    (∀ (f : Slt) (ds : List Dfr) (H : Heap) (Q : FQ) (rl : List ROper), FC P g n (.ops rl) f ds H Q = FOps P g n rl f ds H Q) ∧
    (∀ (f : Slt) (ds : List Dfr) (H : Heap) (Q : FQ), FC P g n .skip f ds H Q = Q .normal f ds H) ∧
    (∀ (f : Slt) (ds : List Dfr) (H : Heap) (Q : FQ), FC P g n .ret f ds H Q = Q .ret f ds H) ∧
    (∀ (f : Slt) (ds : List Dfr) (H : Heap) (Q : FQ) (id : Nat), FC P g n (.exit id) f ds H Q = Q (.exit id) f ds H) :=
  ⟨(fun r f ds H Q => @FOps_mov P g n r f ds H Q),
    (fun r f ds H Q => @FOps_pick P g n r f ds H Q),
    (fun r f ds H Q => @FOps_alloc P g n r f ds H Q),
    (fun r f ds H Q => @FOps_box P g n r f ds H Q),
    (fun r f ds H Q => @FOps_build P g n r f ds H Q),
    (fun r f ds H Q => @FOps_mklit P g n r f ds H Q),
    (fun r f ds H Q => @FOps_load P g n r f ds H Q),
    (fun r f ds H Q => @FOps_store P g n r f ds H Q),
    (fun r f ds H Q => @FOps_store0 P g n r f ds H Q),
    (fun r f ds H Q => @FOps_nilck P g n r f ds H Q),
    (fun r f ds H Q => @FOps_bin P g n r f ds H Q),
    (fun r f ds H Q => @FOps_eqb P g n r f ds H Q),
    (fun r f ds H Q => @FOps_eqf P g n r f ds H Q),
    (fun r f ds H Q => @FOps_eqn P g n r f ds H Q),
    (fun r f ds H Q => @FOps_un P g n r f ds H Q),
    (fun r f ds H Q => @FOps_convi P g n r f ds H Q),
    (fun r f ds H Q => @FOps_convs P g n r f ds H Q),
    (fun r f ds H Q => @FOps_str2b P g n r f ds H Q),
    (fun r f ds H Q => @FOps_b2str P g n r f ds H Q),
    (fun r f ds H Q => @FOps_s2ap P g n r f ds H Q),
    (fun r f ds H Q => @FOps_mkif P g n r f ds H Q),
    (fun r f ds H Q => @FOps_mkfn P g n r f ds H Q),
    (fun r f ds H Q => @FOps_mkmap P g n r f ds H Q),
    (fun r f ds H Q => @FOps_mkslice P g n r f ds H Q),
    (fun r f ds H Q => @FOps_slstr P g n r f ds H Q),
    (fun r f ds H Q => @FOps_slsl P g n r f ds H Q),
    (fun r f ds H Q => @FOps_slarr P g n r f ds H Q),
    (fun r f ds H Q => @FOps_fadr P g n r f ds H Q),
    (fun r f ds H Q => @FOps_fld P g n r f ds H Q),
    (fun r f ds H Q => @FOps_iadr P g n r f ds H Q),
    (fun r f ds H Q => @FOps_idx P g n r f ds H Q),
    (fun r f ds H Q => @FOps_idxs P g n r f ds H Q),
    (fun r f ds H Q => @FOps_tass P g n r f ds H Q),
    (fun r f ds H Q => @FOps_extr P g n r f ds H Q),
    (fun r f ds H Q => @FOps_lens P g n r f ds H Q),
    (fun r f ds H Q => @FOps_lenl P g n r f ds H Q),
    (fun r f ds H Q => @FOps_lenc P g n r f ds H Q),
    (fun r f ds H Q => @FOps_capl P g n r f ds H Q),
    (fun r f ds H Q => @FOps_maxi P g n r f ds H Q),
    (fun r f ds H Q => @FOps_append P g n r f ds H Q),
    (fun r f ds H Q => @FOps_appendz P g n r f ds H Q),
    (fun r f ds H Q => @FOps_copy P g n r f ds H Q),
    (fun r f ds H Q => @FOps_lookup P g n r f ds H Q),
    (fun r f ds H Q => @FOps_mapup P g n r f ds H Q),
    (fun r f ds H Q => @FOps_mapup0 P g n r f ds H Q),
    (fun f ds H Q => FOps_nil),
    (fun f ds H Q rl => FC_ops rl),
    (fun f ds H Q => FC_skip),
    (fun f ds H Q => FC_ret),
    (fun f ds H Q id => FC_exit id)⟩
theorem symB :
    (∀ (v : AV) (H : Heap) (k : AV → Heap → Prop), stepK (some (v, H)) k = k v H) ∧
    (∀ (g : Genv) (f : Slt) (t : Nat), evF g f (.tmp t) = f t) ∧
    (∀ (g : Genv) (f : Slt) (v : AV), evF g f (.const v) = v) ∧
    (∀ (f : Slt) (d : Nat) (v : AV), upd f d v d = v) ∧
    (∀ (f : Slt) (d t : Nat) (v : AV), t ≠ d → upd f d v t = f t) ∧
    (∀ (f : Slt) (ds : List Dfr) (H : Heap) (Q : FQ) (K : Slt → List Dfr → Heap → Prop), thenF K Q .normal f ds H = K f ds H) ∧
    (∀ (f : Slt) (ds : List Dfr) (H : Heap) (Q : FQ) (K : Slt → List Dfr → Heap → Prop), thenF K Q .ret f ds H = Q .ret f ds H) ∧
    (∀ (f : Slt) (ds : List Dfr) (H : Heap) (Q : FQ) (K : Slt → List Dfr → Heap → Prop) (i : Nat), thenF K Q (.exit i) f ds H = Q (.exit i) f ds H) ∧
    (∀ (f : Slt) (ds : List Dfr) (H : Heap) (Q : FQ) (i : Nat), inBlockF i Q .normal f ds H = Q .normal f ds H) ∧
    (∀ (f : Slt) (ds : List Dfr) (H : Heap) (Q : FQ) (i : Nat), inBlockF i Q .ret f ds H = Q .ret f ds H) ∧
    (∀ (f : Slt) (ds : List Dfr) (H : Heap) (Q : FQ) (i : Nat), inBlockF i Q (.exit i) f ds H = Q .normal f ds H) ∧
    (∀ (f : Slt) (ds : List Dfr) (H : Heap) (Q : FQ) (i j : Nat), j ≠ i → inBlockF i Q (.exit j) f ds H = Q (.exit j) f ds H) :=
  ⟨stepK_some,
    (fun g f t => evF_tmp t),
    (fun g f v => evF_const v),
    upd_same,
    (fun f d t v h => upd_ne f v h),
    (fun f ds H Q K => thenF_normal K),
    (fun f ds H Q K => thenF_ret K),
    (fun f ds H Q K i => thenF_exit K i),
    (fun f ds H Q i => inBlockF_normal i),
    (fun f ds H Q i => inBlockF_ret i),
    (fun f ds H Q i => inBlockF_exit i),
    (fun f ds H Q i j h => inBlockF_other i j h)⟩
end Go.Av
end
section
namespace Go.Av
open Go
/-- a list of one's own: nil, or a row whose spare places nobody else has -/
def Own (H : Heap) (sz : Nat) (v : AV) (els : List (List AV)) : Prop :=
  (v = .nilsl ∧ els = []) ∨ ∃ k, v = .lst (k + 2) sz els ∧ k < H.next ∧ H.get k = some .tok
/-- the place that it owns -/
def tokOf : AV → Option Nat
  | .lst (k + 2) _ _ => some k
  | _ => none
structure Grew (H H' : Heap) (v : AV) : Prop where
  next : H.next ≤ H'.next
  get : ∀ id, tokOf v ≠ some id → id < H.next → H'.get id = H.get id
theorem Own.nil (H : Heap) (sz : Nat) : Own H sz .nilsl [] := .inl ⟨rfl, rfl⟩
theorem Own.lst {H : Heap} {sz k : Nat} {els : List (List AV)} (hk : k < H.next) (h : H.get k = some .tok) : Own H sz (.lst (k + 2) sz els) els := .inr ⟨k, rfl, hk, h⟩
theorem Own.fresh (H : Heap) (sz : Nat) (els : List (List AV)) : Own (H.alloc .tok) sz (.lst (H.next + 2) sz els) els := .lst (by simp) (by rw [Heap.get_alloc, if_pos rfl])
theorem Own.alloc {H : Heap} {sz : Nat} {v : AV} {els : List (List AV)} (h : Own H sz v els) (o : AObj) : Own (H.alloc o) sz v els := by
  rcases h with h | ⟨k, h1, h2, h3⟩
  · exact .inl h
  · exact .inr ⟨k, h1, by simp; omega, by rw [Heap.get_alloc, if_neg (by omega)]; exact h3⟩
theorem Own.set {H : Heap} {sz : Nat} {v : AV} {els : List (List AV)} (h : Own H sz v els) (id : Nat) (o : AObj) (hid : tokOf v ≠ some id) : Own (H.set id o) sz v els := by
  rcases h with h | ⟨k, rfl, h2, h3⟩
  · exact .inl h
  · refine .inr ⟨k, rfl, h2, ?_⟩
    rw [Heap.get_set, if_neg]
    · exact h3
    · intro hh
      exact hid (by simp [tokOf, hh])
theorem Own.tok_lt {H : Heap} {sz : Nat} {v : AV} {els : List (List AV)} (h : Own H sz v els) {id : Nat} (ht : tokOf v = some id) : id < H.next := by
  rcases h with ⟨rfl, _⟩ | ⟨k, rfl, h2, h3⟩
  · cases ht
  · simp only [tokOf, Option.some.injEq] at ht
    omega
theorem Own.append {H : Heap} {sz bytes : Nat} {v : AV} {els ys : List (List AV)} (h : Own H sz v els) (hb : (els.length + ys.length) * bytes ≤ 2 ^ 40) :
    ∃ v' H', appendA H sz bytes false v ys = some (v', H') ∧ Own H' sz v' (els ++ ys) ∧ Grew H H' v := by
  by_cases hy : ys = []
  · subst hy
    refine ⟨v, H, ?_, by rw [List.append_nil]; exact h, Nat.le_refl _, fun _ _ _ => rfl⟩
    rcases h with ⟨rfl, rfl⟩ | ⟨k, rfl, _, hk⟩ <;> rfl
  · have hne : ys.isEmpty = false := by cases ys with
      | nil => exact absurd rfl hy
      | cons _ _ => rfl
    rcases h with ⟨rfl, rfl⟩ | ⟨k, rfl, hkn, hk⟩
    · refine ⟨.lst (H.next + 2) sz ys, H.alloc .tok, ?_, .inr ⟨H.next, by simp, by simp, by simp [Heap.get_alloc]⟩, by simp, fun id _ hid => by rw [Heap.get_alloc, if_neg (by omega)]⟩
      simp only [appendA, hne, newRowA]
      simp only [List.length_nil, Nat.zero_add] at hb
      simp [hb]
    · refine ⟨.lst (H.next + 2) sz (els ++ ys), (H.set k .dead).alloc .tok, ?_, .inr ⟨H.next, rfl, by simp, by simp [Heap.get_alloc]⟩, by simp, fun id h1 hid => ?_⟩
      · simp only [appendA, hne]
        simp [hb, hk]
      · rw [Heap.get_alloc, if_neg (by simp; omega), Heap.get_set, if_neg]
        intro hh
        exact h1 (by simp [tokOf, hh])
/-! ### bytes and numbers -/
def bytesE (l : List Nat) : List (List AV) := l.map fun (b : Nat) => [AV.int .u8 b]
def intsE (l : List Int) : List (List AV) := l.map fun x => [AV.int .i64 x]
theorem bytesE_append (a b : List Nat) : bytesE (a ++ b) = bytesE a ++ bytesE b := by simp [bytesE]
theorem bytesE_length (a : List Nat) : (bytesE a).length = a.length := by simp [bytesE]
theorem bytesE_nil : bytesE [] = [] := rfl
theorem intsE_append (a b : List Int) : intsE (a ++ b) = intsE a ++ intsE b := by simp [intsE]
theorem intsE_length (a : List Int) : (intsE a).length = a.length := by simp [intsE]
theorem freeLL_bytesE : ∀ l, freeLL (bytesE l) = true
  | [] => rfl
  | x :: l => by
    simp only [bytesE, List.map_cons, freeLL, freeL, AV.free, Bool.and_self, Bool.true_and]
    exact freeLL_bytesE l
theorem freeLL_intsE : ∀ l, freeLL (intsE l) = true
  | [] => rfl
  | x :: l => by
    simp only [intsE, List.map_cons, freeLL, freeL, AV.free, Bool.and_self, Bool.true_and]
    exact freeLL_intsE l
/-- a function that returns a list of its own that is not empty: the contract at every heap -/
theorem Sound_own {P : Program} {g : Genv} (hg : GFree g) {f : FuncId} {args : List AV} (ha : freeL args = true) {sz : Nat} {els : List (List AV)} (hne : els ≠ []) (hf : freeLL els = true)
    (h : ∃ out H', (∃ v, out = .ret v ∧ Own H' sz v els) ∧ Sound P g f args ⟨0, .nil⟩ out H') (H : Heap) : Sound P g f args H (.ret (.lst (H.next + 2) sz els)) (H.alloc .tok) := by
  obtain ⟨out, H', ⟨v, rfl, hown⟩, hS⟩ := h
  rcases hown with ⟨_, he⟩ | ⟨k, rfl, _, hk⟩
  · exact absurd he hne
  · refine hS.frame hg ha (tk := some k) (fun k' hk' => by cases hk'; exact hk) (n := 0) H ?_
    simp [Out.av, shutF, shut1, hf, tagA]
/-! ### cells -/
theorem get_alloc_self (H : Heap) (o : AObj) : (H.alloc o).get H.next = some o := by rw [Heap.get_alloc, if_pos rfl]
theorem get_set_self (H : Heap) (id : Nat) (o : AObj) : (H.set id o).get id = some o := by rw [Heap.get_set, if_pos rfl]
theorem cellsAt_alloc (H : Heap) (cs : List AV) (b : Bool) : (H.alloc (.cells cs b)).cellsAt H.next = some cs := by simp [Heap.cellsAt, get_alloc_self]
theorem cellsAt_set (H : Heap) (id : Nat) (cs : List AV) (b : Bool) : (H.set id (.cells cs b)).cellsAt id = some cs := by simp [Heap.cellsAt, get_set_self]
theorem cellsAt_get {H : Heap} {id : Nat} {cs : List AV} {b : Bool} (h : H.get id = some (.cells cs b)) : H.cellsAt id = some cs := by simp [Heap.cellsAt, h]
theorem splice_all {cs vs : List AV} (h : vs.length = cs.length) : splice cs 0 vs = vs := by
  simp [splice, h]
def bytesC (l : List Nat) : List AV := l.map fun (b : Nat) => AV.int .u8 b
theorem bytesC_length (l : List Nat) : (bytesC l).length = l.length := by simp [bytesC]
theorem chunk_bytesC : ∀ (l : List Nat), chunkF 1 l.length (bytesC l) = bytesE l
  | [] => rfl
  | x :: l => by
    have := chunk_bytesC l
    simp only [bytesC, bytesE, List.map_cons, List.length_cons, chunkF] at this ⊢
    simp [this]
theorem freeL_bytesC : ∀ l, freeL (bytesC l) = true
  | [] => rfl
  | x :: l => by
    simp only [bytesC, List.map_cons, freeL, AV.free, Bool.true_and]
    exact freeL_bytesC l
/-- digests in a row -/
def digsE (l : List (List Nat)) : List (List AV) := l.map bytesC
theorem digsE_length (l : List (List Nat)) : (digsE l).length = l.length := by simp [digsE]
theorem freeLL_digsE : ∀ l, freeLL (digsE l) = true
  | [] => rfl
  | x :: l => by
    simp only [digsE, List.map_cons, freeLL, freeL_bytesC, Bool.true_and]
    exact freeLL_digsE l
end Go.Av
end
section
namespace Go.Av
open Go
attribute [local congr] stepK_congr
theorem wrap_i64 {x : Int} (h0 : -2^63 ≤ x) (h1 : x < 2^63) : IntKind.i64.wrap x = x := by
  simp only [IntKind.wrap, IntKind.bits, IntKind.signed]
  simp
  split <;> omega
/-- the loop that 'for i := range ..' comes to -/
def rangeLoop (id cmp ix ln nx : Nat) (B : ACode) : ACode :=
  .block id (.loop (.seq (.ops [⟨some cmp, .bin .lss (.tmp ix) (.tmp ln), none⟩]) (.seq (.cond (.tmp cmp) .skip (.exit id)) (.seq B
    (.ops [⟨some nx, .bin .add (.tmp ix) (.const (.int .i64 1)), none⟩, ⟨some ix, .mov (.tmp nx), none⟩])))))
theorem FC_range {P : Program} {g : Genv} {n : Nat} {id cmp ix ln nx : Nat} {B : ACode} {f : Slt} {ds : List Dfr} {H : Heap} {Q : FQ} (J : Nat → Slt → Heap → Prop) (N : Nat) (hN : (N : Int) < 2^63)
    (hs : cmp < n ∧ ix < n ∧ nx < n ∧ cmp ≠ ix ∧ cmp ≠ ln ∧ nx ≠ ix ∧ nx ≠ ln ∧ ix ≠ ln)
    (h1 : f ix = .int .i64 0) (h2 : f ln = .int .i64 N) (h0 : J 0 f H)
    (st : ∀ (i : Nat) (f : Slt) (H : Heap) (d : Nat) (v : AV), d = cmp ∨ d = nx ∨ d = ix → J i f H → J i (upd f d v) H)
    (body : ∀ (i : Nat) (f : Slt) (H : Heap), i < N → f ix = .int .i64 i → f ln = .int .i64 N → J i f H →
      FC P g n B f ds H (thenF (fun f' ds' H' => ds' = ds ∧ f' ix = .int .i64 i ∧ f' ln = .int .i64 N ∧ J (i + 1) f' H') (inBlockF id Q)))
    (done : ∀ (f : Slt) (H : Heap), f ln = .int .i64 N → J N f H → Q .normal f ds H) : FC P g n (rangeLoop id cmp ix ln nx B) f ds H Q := by
  obtain ⟨s1, s2, s3, s4, s5, s6, s7, s8⟩ := hs
  refine FC_block (FC_loop (fun m f' ds' H' => ds' = ds ∧ ∃ i : Nat, i ≤ N ∧ m = N - i ∧ f' ix = .int .i64 i ∧ f' ln = .int .i64 N ∧ J i f' H') N ⟨rfl, 0, Nat.zero_le _, by omega, h1, h2, h0⟩ ?_)
  rintro m f1 ds1 H1 ⟨rfl, i, hi, rfl, e1, e2, e3⟩
  refine FC_seq fun K hK => ?_
  rw [FC_ops, FOps_bin _ _ _ _ s1]
  simp only [aop, evF_tmp, e1, e2, binI, if_true, Option.map_some, stepK_some, FOps_nil, thenF_normal]
  apply hK
  clear hK K
  have st1 := st i f1 H1 cmp (.bool (decide ((i : Int) < N))) (.inl rfl) e3
  refine FC_seq fun K hK => FC_cond (decide ((i : Int) < N)) (by rw [evF_tmp, upd_same]) (fun ht => ?_) (fun ht => ?_)
  · rw [FC_skip, thenF_normal]
    apply hK
    clear hK K
    have hlt : i < N := by have := of_decide_eq_true ht; omega
    refine FC_seq fun K hK => ?_
    have hb := body i _ H1 hlt (by rw [upd_ne _ _ (Ne.symm s4)]; exact e1) (by rw [upd_ne _ _ (Ne.symm s5)]; exact e2) st1
    -- the body, then the step
    have mono : ∀ {c : ACode} {f : Slt} {ds : List Dfr} {H : Heap} {Q Q' : FQ}, (∀ e f ds H, Q e f ds H → Q' e f ds H) → FC P g n c f ds H Q → FC P g n c f ds H Q' := fun {c f ds H Q Q'} hq h => FC_mono hq h
    refine mono (fun e f2 ds2 H2 h => ?_) hb
    cases e with
    | normal =>
      obtain ⟨rfl, b1, b2, b3⟩ := h
      show K f2 ds2 H2
      apply hK
      rw [FC_ops, FOps_bin _ _ _ _ s3]
      have hw : IntKind.i64.wrap ((i : Int) + 1) = ((i + 1 : Nat) : Int) := by rw [wrap_i64 (by omega) (by omega)]; rfl
      simp only [aop, evF_tmp, evF_const, b1, binI, if_true, Option.map_some, stepK_some]
      rw [FOps_mov _ _ s2]
      simp only [aop, evF_tmp, stepK_some, FOps_nil, thenF_normal, upd_same, hw]
      refine ⟨N - (i + 1), by omega, trivial, i + 1, by omega, rfl, rfl, ?_, ?_⟩
      · rw [upd_ne _ _ (Ne.symm s8), upd_ne _ _ (Ne.symm s7)]; exact b2
      · exact st _ _ _ _ _ (.inr (.inr rfl)) (st _ _ _ _ _ (.inr (.inl rfl)) b3)
    | _ => exact h
  · rw [FC_exit, thenF_exit, thenF_exit, inBlockF_exit]
    have hge : i = N := by have := of_decide_eq_false ht; omega
    subst hge
    exact done _ _ (by rw [upd_ne _ _ (Ne.symm s5)]; exact e2) st1
end Go.Av
end
