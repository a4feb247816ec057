/-
  OWN WORK: losses in free space, fields, ranges.
-/
import Derived.Test.YtagomliggjndeaaDoorDbD
namespace Go.Proofs.YtagomliggjndeaaDoor
open Go Go.Own Go.Proofs
set_option maxHeartbeats 4000000
set_option maxRecDepth 20000
set_option linter.unusedSimpArgs false
set_option linter.unusedVariables false
/-- a logarithm, of numbers that are positive -/
def lgI (x : Int) : Int := (lgd x.toNat : Nat)
theorem lgI_in {x : Int} (h : 1 ≤ x) (h2 : x ≤ 1000000000000) : 0 ≤ lgI x ∧ lgI x < 130000 := by
  have := lgd_le (n := x.toNat) (k := 13) (by omega) (by omega)
  unfold lgI
  omega
theorem lgI_mono {x y : Int} (h : 1 ≤ x) (hxy : x ≤ y) : lgI x ≤ lgI y := by
  have := lgd_mono (n := x.toNat) (m := y.toNat) (by omega) (by omega)
  unfold lgI
  omega
theorem den_LogDbI (x : Int) (h : 1 ≤ x) (h2 : x ≤ 9223372036854775807) : Den Tryd.prog 66 [.i x] (.i (lgI x)) := by
  obtain ⟨n, rfl⟩ := Int.eq_ofNat_of_zero_le (show 0 ≤ x by omega)
  exact den_LogDb n (by omega) (by omega)
def FOk (f : Int) : Prop := 1 ≤ f ∧ f ≤ 100000000
def DOk (d : Int) : Prop := 1 ≤ d ∧ d ≤ 283000
def LOk (v : Int) : Prop := -300000 ≤ v ∧ v ≤ 300000
def flo (f d : Int) : Int := max (2 * lgI d + 2 * lgI f - 87552) 0
theorem flo_mono {f d d' : Int} (hd : 1 ≤ d) (h : d ≤ d') : flo f d ≤ flo f d' := by
  have := lgI_mono hd h
  unfold flo
  omega
end Go.Proofs.YtagomliggjndeaaDoor
