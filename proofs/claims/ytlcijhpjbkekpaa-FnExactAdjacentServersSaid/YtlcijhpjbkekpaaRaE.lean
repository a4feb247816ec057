/-
  OWN WORK: contracts of shares, people and changes of rasters.
-/
import Derived.Test.YtlcijhpjbkekpaaRaD
namespace Go.Proofs.Ytlcijhpjbkekpaa
open Go Go.Own Go.Proofs
set_option maxHeartbeats 4000000
set_option maxRecDepth 20000
set_option linter.unusedSimpArgs false
theorem ok_pos {s w h : Int} {sv lv : List Int} (h1 : OkRas s w h sv lv) : (sv.length : Int) ≠ 0 ∧ sv.length ≤ 576 := by
  have h2 := h1.2.1
  have h3 := size_bound h1.1
  have h4 : 2 * 2 ≤ w * h := Int.mul_le_mul (by have := h1.1.2.1; omega) (by have := h1.1.2.2.1; omega) (by omega) (by have := h1.1.2.1; omega)
  omega
noncomputable def shareV (s w h : Int) (sv lv : List Int) : AVal := if bp (OkRas s w h sv lv) then .tup [.i (IntKind.i64.wrap ((IntKind.i64.wrap ((cov sv).length * 1000000)).tdiv sv.length)), .i 0] else .tup [.i 0, .i 1]
theorem shareV_yes {s w h : Int} {sv lv : List Int} (h1 : OkRas s w h sv lv) : shareV s w h sv lv = .tup [.i (IntKind.i64.wrap ((IntKind.i64.wrap ((cov sv).length * 1000000)).tdiv sv.length)), .i 0] := if_pos (by rw [bp_true]; exact h1)
theorem shareV_no {s w h : Int} {sv lv : List Int} (h1 : ¬ OkRas s w h sv lv) : shareV s w h sv lv = .tup [.i 0, .i 1] := if_neg (by rw [bp_true]; exact h1)
theorem tree_ite {b : Bool} {x y : AVal} (h1 : x.tree = true) (h2 : y.tree = true) : (if b then x else y).tree = true := by cases b <;> assumption
theorem tree_shareV (s w h : Int) (sv lv : List Int) : (shareV s w h sv lv).tree = true := tree_ite rfl rfl
theorem covK_mem (sv : List Int) : ∀ (k : Nat) (c : Int), c ∈ covK sv k → ∃ n : Nat, c = n ∧ n < k ∧ 0 ≤ sv.getD n (-1)
  | 0, c, h => by simp [covK] at h
  | k + 1, c, h => by
    unfold covK at h
    split at h
    · rename_i h0
      rcases List.mem_append.1 h with h | h
      · obtain ⟨n, e, h1, h2⟩ := covK_mem sv k c h
        exact ⟨n, e, by omega, h2⟩
      · exact ⟨k, by simpa using h, by omega, h0⟩
    · obtain ⟨n, e, h1, h2⟩ := covK_mem sv k c h
      exact ⟨n, e, by omega, h2⟩
theorem cov_get {sv : List Int} {j : Nat} (h : j < (cov sv).length) : ∃ n : Nat, (cov sv)[j] = n ∧ n < sv.length := by
  obtain ⟨n, e, h1, _⟩ := covK_mem sv sv.length _ (List.getElem_mem h)
  exact ⟨n, e, h1⟩
def PeoOk (sv ws : List Int) : Prop := ws.length = sv.length ∧ ∀ x ∈ ws, 0 ≤ x ∧ x ≤ 1000000
noncomputable def peoV (s w h : Int) (sv lv ws : List Int) : AVal := if bp (OkRas s w h sv lv) then (if bp (PeoOk sv ws) then .tup [.i (sumAt ws (cov sv)), .i 0] else .tup [.i 0, .i 6]) else .tup [.i 0, .i 1]
theorem peoV_yes {s w h : Int} {sv lv ws : List Int} (h1 : OkRas s w h sv lv) (h2 : PeoOk sv ws) : peoV s w h sv lv ws = .tup [.i (sumAt ws (cov sv)), .i 0] := by
  unfold peoV; rw [if_pos (by rw [bp_true]; exact h1), if_pos (by rw [bp_true]; exact h2)]
theorem peoV_bad {s w h : Int} {sv lv ws : List Int} (h1 : OkRas s w h sv lv) (h2 : ¬ PeoOk sv ws) : peoV s w h sv lv ws = .tup [.i 0, .i 6] := by
  unfold peoV; rw [if_pos (by rw [bp_true]; exact h1), if_neg (by rw [bp_true]; exact h2)]
theorem peoV_no {s w h : Int} {sv lv ws : List Int} (h1 : ¬ OkRas s w h sv lv) : peoV s w h sv lv ws = .tup [.i 0, .i 1] := by
  unfold peoV; rw [if_neg (by rw [bp_true]; exact h1)]
theorem tree_peoV (s w h : Int) (sv lv ws : List Int) : (peoV s w h sv lv ws).tree = true := tree_ite (tree_ite rfl rfl) rfl
end Go.Proofs.Ytlcijhpjbkekpaa
