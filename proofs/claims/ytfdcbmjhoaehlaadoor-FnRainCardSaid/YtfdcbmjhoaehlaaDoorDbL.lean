/-
  OWN WORK: exceedances, outages by rain and by hops.
-/
import Derived.Test.YtfdcbmjhoaehlaaDoorDbK
namespace Go.Proofs.YtfdcbmjhoaehlaaDoor
open Go Go.Own Go.Proofs
set_option maxHeartbeats 4000000
set_option maxRecDepth 20000
set_option linter.unusedSimpArgs false
set_option linter.unusedVariables false
def exL : List Int := [0, 50000, 8, 10000, 30, 1000, 60, 100, 100, 10, 150, 1, 200, 0]
def exA (x : Int) : List AVal := mapC AVal.i exL
theorem ex_ok : RowsOk exL := rowsOk_of rfl (by decide +kernel)
theorem exv_dec : ∀ i : Fin 201, 0 ≤ rowV exL (i.val : Int) ∧ rowV exL (i.val : Int) ≤ 1000000 := by decide +kernel
theorem exv_step : ∀ i : Fin 200, rowV exL ((i.val : Int) + 1) ≤ rowV exL (i.val : Int) := by decide +kernel
theorem exv_in {c : Int} (h : 0 ≤ c ∧ c ≤ 200) : 0 ≤ rowV exL c ∧ rowV exL c ≤ 1000000 := by
  have := exv_dec ⟨c.toNat, by omega⟩
  simp only [show ((c.toNat : Nat) : Int) = c by omega] at this
  exact this
theorem exv_mono (c : Int) (h0 : 0 ≤ c) : ∀ n : Nat, c + n ≤ 200 → rowV exL (c + n) ≤ rowV exL c
  | 0, _ => by simp
  | n + 1, h => by
    have h1 := exv_mono c h0 n (by omega)
    have h2 := exv_step ⟨(c + n).toNat, by omega⟩
    simp only [show (((c + n).toNat : Nat) : Int) = c + n by omega] at h2
    rw [show c + ((n + 1 : Nat) : Int) = c + n + 1 by omega]
    omega
def IsRo (f d m v : Int) : Prop := (∃ c, (0 ≤ c ∧ c ≤ 200) ∧ m < rlV f c d ∧ (∀ y, 0 ≤ y → y < c → ¬ m < rlV f y d) ∧ v = rowV exL c) ∨ ((∀ y, 0 ≤ y → y ≤ 200 → ¬ m < rlV f y d) ∧ v = 0)
theorem ro_ex (f d m : Int) : ∃ v, IsRo f d m v := by
  obtain ⟨k, h1, h2, h3⟩ := fst_ex (fun i => m < rlV f i d) 201
  have below : ∀ y : Int, 0 ≤ y → y < k → ¬ m < rlV f y d := fun y y1 y2 => by
    have := h2 y.toNat (by omega)
    simp only [show ((y.toNat : Nat) : Int) = y by omega] at this
    exact this
  by_cases c : k < 201
  · exact ⟨_, .inl ⟨k, ⟨by omega, by omega⟩, h3 c, below, rfl⟩⟩
  · exact ⟨_, .inr ⟨fun y y1 y2 => below y y1 (by omega), rfl⟩⟩
theorem ro_in {f d m v : Int} (h : IsRo f d m v) : 0 ≤ v ∧ v ≤ 1000000 := by
  rcases h with ⟨c, hc, _, _, rfl⟩ | ⟨_, rfl⟩
  · exact exv_in hc
  · omega
theorem ro_mono {f d m m' v v' : Int} (h : IsRo f d m v) (h' : IsRo f d m' v') (hm : m ≤ m') : v' ≤ v := by
  have := ro_in h
  rcases h' with ⟨c', hc', a1, a2, rfl⟩ | ⟨_, rfl⟩
  · rcases h with ⟨c, hc, b1, b2, rfl⟩ | ⟨b, rfl⟩
    · have hcc : c ≤ c' := Classical.byContradiction fun k => b2 c' hc'.1 (by omega) (by omega)
      have := exv_mono c hc.1 (c' - c).toNat (by omega)
      rw [show c + (((c' - c).toNat : Nat) : Int) = c' by omega] at this
      exact this
    · exact absurd (show m < rlV f c' d by omega) (b c' hc'.1 hc'.2)
  · omega
end Go.Proofs.YtfdcbmjhoaehlaaDoor
