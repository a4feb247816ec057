/-
  OWN WORK: what the arguments of laws about points stand for.
-/
import Derived.Test.YtncbhafegccpmaaLawBase
namespace Go.Proofs.Ytncbhafegccpmaa
open Go Go.Own Go.Proofs Go.ChangeShapes Go.WideShapes Go.ChangeAt Go.RowKit
set_option maxHeartbeats 1000000
set_option maxRecDepth 20000
set_option linter.unusedSimpArgs false
theorem has_pointsV {a : AVal} (h : HasV (.slice 2 (.struct 2 (.cons 1 (.int .i64) (.cons 1 (.int .i64) .nil)))) a) : ∃ (L : List Int) (m : Nat), a = .lst (mapC AVal.i L) m ∧ (L.length = m * 2 ∧ ∀ x ∈ L, In64 x) := by
  obtain ⟨gs, hg, hall⟩ := h
  have key : ∀ gs : List (List AVal), (∀ g ∈ gs, g.length = 2 ∧ HasC (.struct 2 (.cons 1 (.int .i64) (.cons 1 (.int .i64) .nil))) g) → ∃ L : List Int, gs.flatten = mapC AVal.i L ∧ L.length = gs.length * 2 ∧ ∀ x ∈ L, In64 x := by
    intro gs
    induction gs with
    | nil => intro _; exact ⟨[], rfl, rfl, by simp⟩
    | cons g gs ih =>
      intro hall
      obtain ⟨L, h1, h2, h3⟩ := ih fun g hg => hall g (by simp [hg])
      obtain ⟨_, q1, r1, rfl, l1, p1, q2, r2, rfl, l2, p2, rfl⟩ := (hall g (by simp)).2
      obtain ⟨x, rfl, hx⟩ := has_i64 q1 l1 p1
      obtain ⟨y, rfl, hy⟩ := has_i64 q2 l2 p2
      refine ⟨x :: y :: L, by rw [List.flatten_cons, h1]; rfl, by simp [h2]; omega, ?_⟩
      intro z hz
      rcases List.mem_cons.1 hz with e | hz
      · exact e ▸ hx
      rcases List.mem_cons.1 hz with e | hz
      · exact e ▸ hy
      · exact h3 z hz
  obtain ⟨L, h1, h2, h3⟩ := key gs hall
  exact ⟨L, gs.length, by simp only [List.cons.injEq, and_true] at hg; rw [hg, h1], h2, h3⟩
end Go.Proofs.Ytncbhafegccpmaa
