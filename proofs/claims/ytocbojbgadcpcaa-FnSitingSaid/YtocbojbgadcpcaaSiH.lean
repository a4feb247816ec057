/-
  OWN WORK: the best choice.
-/
import Derived.Test.YtocbojbgadcpcaaSiG
namespace Go.Proofs.Ytocbojbgadcpcaa
open Go Go.Own Go.Proofs
set_option maxHeartbeats 4000000
set_option maxRecDepth 20000
set_option linter.unusedSimpArgs false
theorem kids_neg {g : List Int → SS → SS} {ch : List Int} {s : SS} (h : s.b < 0) : ∀ (k c : Nat), kids g ch k c s = s
  | 0, _ => rfl
  | k + 1, c => by rw [kids, if_pos h]
/-- the reference's value of what is best -/
def vl (m : Int) : Int := if m < 0 then 0 else m
noncomputable abbrev yT (ws : List Int) (cv : List (List Int)) (cs : List Int) (B count : Int) (ch : List Int) (s : SS) : XT := .op [.v (sitP ws cv cs), xi count, xints ch, xints s.best, xi (vl s.m), xb (bp (0 ≤ s.m)), xi (B - s.b), xi B]
end Go.Proofs.Ytocbojbgadcpcaa
