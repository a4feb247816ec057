/-
  OWN WORK: outages by fading with their codes, margins, outages in series and in parallel.
-/
import Derived.Test.YtfdcbmjhoaehlaaDoorDbG
namespace Go.Proofs.YtfdcbmjhoaehlaaDoor
open Go Go.Own Go.Proofs
set_option maxHeartbeats 4000000
set_option maxRecDepth 20000
set_option linter.unusedSimpArgs false
set_option linter.unusedVariables false
def FadOk (f d c : Int) : Prop := FOk f ∧ DOk d ∧ COk c
theorem ov_margin {f d c m m' : Int} (h : m ≤ m') : ovG (ovV f d c m') ≤ ovG (ovV f d c m) := ovG_mono (by unfold ovV; omega)
theorem ov_dist {f d d' c m : Int} (h0 : 1 ≤ d) (h : d ≤ d') : ovG (ovV f d c m) ≤ ovG (ovV f d' c m) := ovG_mono (by have := lgI_mono h0 h; unfold ovV; omega)
def All01 (xs : List Int) : Prop := ∀ x ∈ xs, 0 ≤ x ∧ x ≤ 1000000
def srAt (xs : List Int) : Nat → Int
  | 0 => 1000000
  | k + 1 => srAt xs k * (1000000 - xs.getD k 0) / 1000000
def prAt (xs : List Int) : Nat → Int
  | 0 => 1000000
  | k + 1 => (prAt xs k * xs.getD k 0 + 1000000 - 1) / 1000000
theorem mul_cap {a b : Int} (ha : 0 ≤ a ∧ a ≤ 1000000) (hb : 0 ≤ b ∧ b ≤ 1000000) : 0 ≤ a * b ∧ a * b ≤ 1000000 * b ∧ a * b ≤ a * 1000000 :=
  ⟨Int.mul_nonneg ha.1 hb.1, Int.mul_le_mul_of_nonneg_right ha.2 hb.1, Int.mul_le_mul_of_nonneg_left hb.2 ha.1⟩
theorem getD01 {xs : List Int} (h : All01 xs) (k : Nat) : 0 ≤ xs.getD k 0 ∧ xs.getD k 0 ≤ 1000000 := by
  by_cases hk : k < xs.length
  · have e : xs.getD k 0 = xs[k] := by simp [List.getD, hk]
    rw [e]
    exact h _ (List.getElem_mem hk)
  · have e : xs.getD k 0 = 0 := by simp [List.getD, hk]
    omega
theorem sr_in {xs : List Int} (h : All01 xs) : ∀ k, 0 ≤ srAt xs k ∧ srAt xs k ≤ 1000000
  | 0 => ⟨show (0 : Int) ≤ 1000000 by decide, show (1000000 : Int) ≤ 1000000 by decide⟩
  | k + 1 => by
    have h1 := sr_in h k
    have h2 := getD01 h k
    have h3 := mul_cap h1 (b := 1000000 - xs.getD k 0) ⟨by omega, by omega⟩
    show 0 ≤ srAt xs k * (1000000 - xs.getD k 0) / 1000000 ∧ srAt xs k * (1000000 - xs.getD k 0) / 1000000 ≤ 1000000
    omega
theorem sr_step {xs : List Int} (h : All01 xs) (k : Nat) : srAt xs (k + 1) ≤ srAt xs k ∧ srAt xs (k + 1) ≤ 1000000 - xs.getD k 0 := by
  have h1 := sr_in h k
  have h2 := getD01 h k
  have h3 := mul_cap h1 (b := 1000000 - xs.getD k 0) ⟨by omega, by omega⟩
  show srAt xs k * (1000000 - xs.getD k 0) / 1000000 ≤ _ ∧ srAt xs k * (1000000 - xs.getD k 0) / 1000000 ≤ _
  omega
theorem pr_in {xs : List Int} (h : All01 xs) : ∀ k, 0 ≤ prAt xs k ∧ prAt xs k ≤ 1000000
  | 0 => ⟨show (0 : Int) ≤ 1000000 by decide, show (1000000 : Int) ≤ 1000000 by decide⟩
  | k + 1 => by
    have h1 := pr_in h k
    have h2 := getD01 h k
    have h3 := mul_cap h1 h2
    show 0 ≤ (prAt xs k * xs.getD k 0 + 1000000 - 1) / 1000000 ∧ (prAt xs k * xs.getD k 0 + 1000000 - 1) / 1000000 ≤ 1000000
    omega
theorem pr_step {xs : List Int} (h : All01 xs) (k : Nat) : prAt xs (k + 1) ≤ prAt xs k ∧ prAt xs (k + 1) ≤ xs.getD k 0 := by
  have h1 := pr_in h k
  have h2 := getD01 h k
  have h3 := mul_cap h1 h2
  show (prAt xs k * xs.getD k 0 + 1000000 - 1) / 1000000 ≤ _ ∧ (prAt xs k * xs.getD k 0 + 1000000 - 1) / 1000000 ≤ _
  omega
theorem sr_le {xs : List Int} (h : All01 xs) (k : Nat) : ∀ n, k < n → srAt xs n ≤ 1000000 - xs.getD k 0
  | n + 1, hk => by
    have h1 := sr_step h n
    by_cases e : k = n
    · subst e; exact h1.2
    · have := sr_le h k n (by omega); omega
theorem pr_le {xs : List Int} (h : All01 xs) (k : Nat) : ∀ n, k < n → prAt xs n ≤ xs.getD k 0
  | n + 1, hk => by
    have h1 := pr_step h n
    by_cases e : k = n
    · subst e; exact h1.2
    · have := pr_le h k n (by omega); omega
open Classical in
/-- the code of a list of outages -/
noncomputable def ocV (xs : List Int) : Int := if 64 < xs.length then 5 else if All01 xs then 0 else 2
theorem ocV5 {xs : List Int} (h : 64 < xs.length) : ocV xs = 5 := if_pos h
theorem ocV0 {xs : List Int} (h : ¬ 64 < xs.length) (h2 : All01 xs) : ocV xs = 0 := (if_neg h).trans (if_pos h2)
theorem ocV2 {xs : List Int} (h : ¬ 64 < xs.length) (h2 : ¬ All01 xs) : ocV xs = 2 := (if_neg h).trans (if_neg h2)
def OutOk (xs : List Int) : Prop := ¬ 64 < xs.length ∧ All01 xs
theorem oc_ok {xs : List Int} (h : OutOk xs) : ocV xs = 0 := ocV0 h.1 h.2
theorem oc_no {xs : List Int} (h : ¬ OutOk xs) : ¬ ocV xs = 0 := by
  by_cases h1 : 64 < xs.length
  · rw [ocV5 h1]; decide
  · rw [ocV2 h1 (fun k => h ⟨h1, k⟩)]; decide
end Go.Proofs.YtfdcbmjhoaehlaaDoor
