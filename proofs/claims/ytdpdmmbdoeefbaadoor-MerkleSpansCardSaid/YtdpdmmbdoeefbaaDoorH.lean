/- The document's Sha256, in the print's form. -/
import Derived.Test.YtdpdmmbdoeefbaaDoorHp
namespace Go.Proofs.YtdpdmmbdoeefbaaDoor.X
open Go.RowKit H YtdpdmmbdoeefbaaDoorW.PrintWords
def imprimaturref02_Hash256.f (l0 : List Int) : Option (List Int) := if isBytes l0 = true ∧ l0.length ≤ 1048576 then some (dig l0) else none
theorem imprimaturref02_Hash256.calls (A0 : Option Addr) (c0 : Nat) (l0 : List Int) (r : List Int) (w : World) (hr0 : Kd.C (Kd.int .u8) w A0 l0.length l0) (hc0 : l0.length ≤ c0) (h : imprimaturref02_Hash256.f l0 = some r) :
    Calls Tryd.prog 56 #[.slice A0 l0.length c0] w fun e w' => ∃ v0_ : Value, e = .returned (v0_) ∧ Kd.R (Kd.int .u8) 5 w' w.heap.size (fun _ => True) v0_ r ∧ Below w.heap.size w w' := by
  unfold imprimaturref02_Hash256.f at h
  split at h
  · rename_i hc
    obtain rfl := Option.some.inj h
    obtain ⟨k, hk⟩ := PRf.hash256_f l0 (fun x hx => by have := List.all_eq_true.1 hc.1 x hx; simpa using this) hc.2
    exact PRf.imprimaturref02_Hash256.calls k A0 c0 l0 _ w hr0 hc0 hk
  · cases h
end Go.Proofs.YtdpdmmbdoeefbaaDoor.X
