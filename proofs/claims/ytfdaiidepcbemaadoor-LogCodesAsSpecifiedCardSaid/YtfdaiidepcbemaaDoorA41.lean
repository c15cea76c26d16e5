/-
  THE EXAMPLES OF THE CHAPTER: the kernel plays them; digests by their contract.
-/
import Derived.Test.YtfdaiidepcbemaaDoorA37
set_option linter.unusedVariables false
set_option linter.unusedSimpArgs false
section
namespace Go.Proofs.YtfdaiidepcbemaaDoor
open Go Go.Av Go.Av.Pr
set_option maxRecDepth 1000000
/-- digests, not reckoned -/
def orc (f : FuncId) (args : List AV) (H : Heap) : Option (Out × Heap) :=
  match Nat.beq f 26 with
  | true => match args with
    | [.int .i64 t, .lst 1 1 [[.str s]]] => match Nat.ble 0 t.toNat && Nat.beq t.toNat 46 && Nat.ble s.length 1000 with
      | true => some (.ret (.agg (bytesC (ofD 46 [s]))), H)
      | false => none
    | _ => none
  | false => none
theorem orc_sound {f : FuncId} {args : List AV} {H H' : Heap} {out : Out} (h : orc f args H = some (out, H')) : Sound Tryd.prog gv f args H out H' := by
  unfold orc at h
  split at h
  · rename_i hf
    obtain rfl := Nat.eq_of_beq_eq_true hf
    split at h
    · rename_i t s
      split at h
      · rename_i hc
        simp only [Bool.and_eq_true] at hc
        obtain ⟨⟨_, h1⟩, h2⟩ := hc
        have h1' := Nat.eq_of_beq_eq_true h1
        have h2' := Nat.le_of_ble_eq_true h2
        obtain rfl : t = 46 := by omega
        simp only [Option.some.injEq, Prod.mk.injEq] at h
        obtain ⟨rfl, rfl⟩ := h
        exact of_ok (tag := 46) (by omega) (tg := 1) (by omega) (parts := [s]) (n := 1001) (by simp only [List.mem_singleton]; rintro p rfl; omega) (by simp only [List.length_cons, List.length_nil]; omega) (by omega) H
      · cases h
    · cases h
  · cases h
def exO (tab : FuncId → Option AFn) (g : Genv) (fuel : Nat) (nop : FuncId → Bool) : Nat → CallF
  | 0 => fun _ _ _ => none
  | d + 1 => fun f args H => match orc f args H with
    | some r => some r
    | none => match tab f with
      | some F => exFn (exO tab g fuel nop d) g fuel nop F args H
      | none => none
theorem exO_sound {nop : FuncId → Bool} (hn : NopOK Tryd.prog gv nop) {tab : FuncId → Option AFn} (ht : ∀ f F, tab f = some F → ∃ mu, FnIs Tryd.prog gv mu f F) {fuel : Nat} : ∀ d, CallOK Tryd.prog gv (exO tab gv fuel nop d)
  | 0 => fun f args H out H' h => by cases h
  | d + 1 => fun f args H out H' h => by
    simp only [exO] at h
    split at h
    · rename_i r hr
      cases h
      exact orc_sound hr
    · split at h
      · rename_i F hF
        obtain ⟨mu, hmu⟩ := ht f F hF
        exact exFn_sound mixed (exO_sound hn ht d) hn hmu h
      · cases h
def nop28 (f : FuncId) : Bool := Nat.beq f 28
theorem nop28_ok : NopOK Tryd.prog gv nop28 := fun f hf args H ha => by
  obtain rfl : f = 28 := Nat.eq_of_beq_eq_true hf
  exact defer_nop args ha H
def isTrue : Option (Out × Heap) → Bool
  | some (.ret (.bool true), _) => true
  | _ => false
theorem sanity_runs : isTrue (exO tabT.get gv 1000 nop28 60 5 [] ⟨0, .nil⟩) = true := by kernel_rfl
theorem sanity_ok (H : Heap) : Sound Tryd.prog gv 5 [] H (.ret (.bool true)) H := by
  have h := sanity_runs
  unfold isTrue at h
  split at h
  · rename_i H' hr
    have hS := exO_sound nop28_ok (fun f F hF => FT.All.get tabAll hF) 60 _ _ _ _ _ hr
    exact hS.frame gfree rfl (tk := none) (fun k' hk' => by cases hk') (n := 0) H (v' := .bool true) rfl
  · cases h
end Go.Proofs.YtfdaiidepcbemaaDoor
end
