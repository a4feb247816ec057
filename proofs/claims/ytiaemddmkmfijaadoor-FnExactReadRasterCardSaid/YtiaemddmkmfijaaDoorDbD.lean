/-
  OWN WORK: the least number with a property, the last distance with one.
-/
import Derived.Test.YtiaemddmkmfijaaDoorDbC
import Derived.Test.YtiaemddmkmfijaaDoorRt
namespace Go.Proofs.YtiaemddmkmfijaaDoor
open Go Go.Own Go.Proofs
set_option maxHeartbeats 4000000
set_option maxRecDepth 20000
set_option linter.unusedSimpArgs false
set_option linter.unusedVariables false
theorem fst_ex (p : Int → Prop) : ∀ n, ∃ r, isFst p n r
  | 0 => ⟨0, Nat.le_refl _, fun i h => absurd h (Nat.not_lt_zero _), fun h => absurd h (Nat.not_lt_zero _)⟩
  | n + 1 => by
    obtain ⟨r, h1, h2, h3⟩ := fst_ex p n
    by_cases hr : r < n
    · exact ⟨r, by omega, h2, fun _ => h3 hr⟩
    · have e : r = n := by omega
      subst e
      by_cases hp : p (r : Int)
      · exact ⟨r, by omega, h2, fun _ => hp⟩
      · exact ⟨r + 1, Nat.le_refl _, fun i hi => by
          by_cases e : i = r
          · subst e; exact hp
          · exact h2 i (by omega), fun h => absurd h (Nat.lt_irrefl _)⟩
end Go.Proofs.YtiaemddmkmfijaaDoor
