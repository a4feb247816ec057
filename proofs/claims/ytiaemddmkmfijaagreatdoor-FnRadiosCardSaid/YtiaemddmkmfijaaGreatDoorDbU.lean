/-
  OWN WORK: levels that are drawn; sums, means and differences with their codes; what is taken away is added again.
-/
import Derived.Test.YtiaemddmkmfijaaGreatDoorDbS
import Derived.Test.YtiaemddmkmfijaaGreatDoorDbT
import Derived.Test.YtiaemddmkmfijaaGreatDoorR8
import Derived.Test.YtiaemddmkmfijaaGreatDoorSrcY
namespace Go.Proofs.YtiaemddmkmfijaaGreatDoor
open Go Go.Own Go.Proofs
set_option maxHeartbeats 4000000
set_option maxRecDepth 20000
set_option linter.unusedSimpArgs false
set_option linter.unusedVariables false
theorem prt_pos {v : Int} (h : ¬ v < -90000) : prt v = pw (90000 + v) := if_neg h
/-- what a part is: the least number with a logarithm -/
theorem prt_is {v : Int} (h : -90000 ≤ v) (h2 : v ≤ 0) : 1 ≤ prt v ∧ prt v ≤ 1000000000 ∧ (90000 + v).toNat ≤ lgd (prt v).toNat ∧ (2 ≤ (prt v).toNat → lgd ((prt v).toNat - 1) < (90000 + v).toNat) := by
  obtain ⟨⟨a1, a2⟩, a3, a4⟩ := pw_is (90000 + v)
  have i := (prt_in h2).2
  rw [prt_pos (by omega)] at i ⊢
  refine ⟨a1, i, ?_, fun k => ?_⟩
  · have : 90000 + v ≤ lgI (pw (90000 + v)) := by
      rcases a4 with a4 | a4 <;> omega
    unfold lgI at this
    omega
  · have := a3 (pw (90000 + v) - 1) (by omega) (by omega)
    unfold lgI at this
    have e : (pw (90000 + v) - 1).toNat = (pw (90000 + v)).toNat - 1 := by omega
    rw [e] at this
    omega
theorem lgd_9 : lgd 1000000000 = 90000 := by decide +kernel
theorem again_in {a b : Int} (h : b < a) (hp : prt (b - a) ≠ 1000000000) : a - 5 ≤ smV (max (a - 90000 + lgI (1000000000 - prt (b - a))) b) [a - 90000 + lgI (1000000000 - prt (b - a)), b] ∧ smV (max (a - 90000 + lgI (1000000000 - prt (b - a))) b) [a - 90000 + lgI (1000000000 - prt (b - a)), b] ≤ a + 5 := by
  by_cases c : b - a < -90000
  · have e : prt (b - a) = 0 := if_pos c
    rw [e, Int.sub_zero, lgI_9, show a - 90000 + 90000 = a by omega, show max a b = a by omega]
    unfold smV prS prS prS
    rw [Int.sub_self, prt_0, e, show (1000000000 : Int) + (0 + 0) = 1000000000 by omega, lgI_9]
    omega
  obtain ⟨i1, i2, i3, i4⟩ := prt_is (v := b - a) (by omega) (by omega)
  generalize hP : prt (b - a) = P at *
  have hu : 1 ≤ (1000000000 - P).toNat := by omega
  have hl2 : lgd (1000000000 - P).toNat ≤ 90000 := by
    have := lgd_mono hu (show (1000000000 - P).toNat ≤ 1000000000 by omega)
    rw [lgd_9] at this
    exact this
  have eL : lgI (1000000000 - P) = (lgd (1000000000 - P).toNat : Int) := rfl
  rw [eL]
  have hs : (1000000000 - P).toNat + P.toNat = 1000000000 := by omega
  generalize (1000000000 - P).toNat = u at *
  have he : ((90000 + (b - a)).toNat : Int) = 90000 + (b - a) := by omega
  generalize (90000 + (b - a)).toNat = e at *
  by_cases cl : e ≤ lgd u
  · have m1 : max (a - 90000 + (lgd u : Int)) b = a - 90000 + lgd u := by omega
    obtain ⟨q1, q2, q3, q4⟩ := prt_is (v := b - (a - 90000 + (lgd u : Int))) (by omega) (by omega)
    rw [m1]
    unfold smV prS prS prS
    rw [Int.sub_self, prt_0]
    generalize prt (b - (a - 90000 + (lgd u : Int))) = Q at *
    obtain ⟨r1, r2⟩ := again_a (e := e) (p := P.toNat) (u := u) (q := Q.toNat) (by omega) (by omega) hu hs i3 i4 cl hl2 (by omega) (by omega) (fun k => by have := q4 k; omega)
    have eQ : lgI (1000000000 + (Q + 0)) = (lgd (1000000000 + Q.toNat) : Int) := by
      unfold lgI
      rw [show (1000000000 + (Q + 0)).toNat = 1000000000 + Q.toNat by omega]
    rw [eQ]
    omega
  · have m1 : max (a - 90000 + (lgd u : Int)) b = b := by omega
    obtain ⟨q1, q2, q3, q4⟩ := prt_is (v := a - 90000 + (lgd u : Int) - b) (by omega) (by omega)
    rw [m1]
    unfold smV prS prS prS
    rw [Int.sub_self, prt_0]
    generalize prt (a - 90000 + (lgd u : Int) - b) = Q at *
    obtain ⟨r1, r2⟩ := again_b (e := e) (p := P.toNat) (u := u) (q := Q.toNat) (by omega) (by omega) hu hs i3 i4 (by omega) (by omega) (by omega) (by omega) (fun k => by have := q4 k; omega)
    have eQ : lgI (Q + (1000000000 + 0)) = (lgd (1000000000 + Q.toNat) : Int) := by
      unfold lgI
      rw [show (Q + (1000000000 + 0)).toNat = 1000000000 + Q.toNat by omega]
    rw [eQ]
    omega
theorem prS_rev (m : Int) : ∀ xs : List Int, prS m xs.reverse = prS m xs
  | [] => rfl
  | x :: xs => by
    rw [List.reverse_cons, prS_app, prS_rev m xs]
    simp only [prS]
    omega
theorem smV_rev (m : Int) (xs : List Int) : smV m xs.reverse = smV m xs := by
  unfold smV
  rw [prS_rev]
theorem prS_move (m d : Int) : ∀ xs : List Int, prS (m + d) (xs.map (· + d)) = prS m xs
  | [] => rfl
  | x :: xs => by
    simp only [List.map_cons, prS]
    rw [prS_move m d xs, show x + d - (m + d) = x - m by omega]
theorem smV_move (m d : Int) (xs : List Int) : smV (m + d) (xs.map (· + d)) = smV m xs + d := by
  unfold smV
  rw [prS_move]
  omega
theorem smV_one (m : Int) : smV m [m] = m := by
  unfold smV prS prS
  rw [Int.sub_self, prt_0, show (1000000000 : Int) + 0 = 1000000000 by omega, lgI_9]
  omega
theorem smV_two (m : Int) : smV m [m, m] = m + 3010 := by
  have e : lgI 2000000000 = 93010 := by
    have h1 : lgI 2000000000 = (lgd (1000000000 * 2) : Int) := rfl
    rw [h1, lgd_e9 (by omega), lgd_2]
    rfl
  unfold smV prS prS prS
  rw [Int.sub_self, prt_0, show (1000000000 : Int) + (1000000000 + 0) = 2000000000 by omega, e]
  omega
theorem smV_mean {m : Int} {xs : List Int} (hm : m ∈ xs) (hx : ∀ x ∈ xs, x ≤ m) : smV m xs - lgI xs.length ≤ m := by
  have a := prS_mem hx hm
  have b := (prS_in hx).2
  have l1 : 1 ≤ xs.length := List.length_pos_of_mem hm
  have c := lgI_mono (x := prS m xs) (y := 1000000000 * (xs.length : Int)) (by omega) b
  have d : lgI (1000000000 * (xs.length : Int)) = (lgd (1000000000 * xs.length) : Int) := by
    unfold lgI
    rw [show (1000000000 * (xs.length : Int)).toNat = 1000000000 * xs.length by omega]
  rw [d, lgd_e9 l1] at c
  have e : lgI (xs.length : Int) = (lgd xs.length : Int) := by
    unfold lgI
    rw [Int.toNat_natCast]
  unfold smV
  rw [e]
  omega
/-- levels that are drawn -/
def LvOk (xs : List Int) : Prop := 1 ≤ xs.length ∧ xs.length ≤ 6 ∧ ∀ x ∈ xs, -120000 ≤ x ∧ x ≤ -60001
/-- levels that can be added -/
structure SumOk (xs : List Int) (m : Int) : Prop where
  few : xs.length ≤ 64
  mem : m ∈ xs
  top : ∀ x ∈ xs, x ≤ m
  bd : ∀ x ∈ xs, -300000 ≤ x ∧ x ≤ 300000
end Go.Proofs.YtiaemddmkmfijaaGreatDoor
