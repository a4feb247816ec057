/-
  OWN WORK: rasters as texts, plain.
-/
import Derived.Test.YtnklfhjpigameaaDoorTxD
namespace Go.Proofs.YtnklfhjpigameaaDoor
open Go Go.Own Go.Proofs
set_option maxHeartbeats 4000000
set_option maxRecDepth 20000
set_option linter.unusedSimpArgs false
set_option linter.unusedVariables false
def rowL (A : List Int) (n y : Nat) : List Int := (A.drop (y * n)).take n
def rowT (A B : List Int) (n y : Nat) : List UInt8 := numsT (rowL A n y) ++ [32] ++ numsT (rowL B n y)
def rowsT (A B : List Int) (n h : Nat) : List (List UInt8) := (List.range h).map (rowT A B n)
theorem rowsT_snoc (A B : List Int) (n h : Nat) : rowsT A B n (h + 1) = rowsT A B n h ++ [rowT A B n h] := by simp [rowsT, List.range_succ]
def headF (word : List UInt8) (s w h : Int) : List (List UInt8) := [word, Lib.itoa s, Lib.itoa w, Lib.itoa h]
def headT (word : List UInt8) (s w h : Int) : List UInt8 := Lib.join (headF word s w h) [32]
theorem headT_eq (word : List UInt8) (s w h : Int) : headT word s w h = word ++ [32] ++ Lib.itoa s ++ [32] ++ Lib.itoa w ++ [32] ++ Lib.itoa h := by
  unfold headT headF
  rw [Lib.join_cons]
  simp [Lib.joinTail]
def gridK (word : List UInt8) (s w h : Int) (A B : List Int) (n k : Nat) : List UInt8 := ((headT word s w h :: rowsT A B n k).map (· ++ [10])).flatten
theorem gridK_zero (word : List UInt8) (s w h : Int) (A B : List Int) (n : Nat) : gridK word s w h A B n 0 = word ++ [32] ++ Lib.itoa s ++ [32] ++ Lib.itoa w ++ [32] ++ Lib.itoa h ++ [10] := by
  unfold gridK
  rw [headT_eq]
  simp [rowsT]
theorem gridK_snoc (word : List UInt8) (s w h : Int) (A B : List Int) (n k : Nat) : gridK word s w h A B n k ++ (numsT (rowL A n k) ++ [32] ++ numsT (rowL B n k) ++ [10]) = gridK word s w h A B n (k + 1) := by
  unfold gridK
  rw [rowsT_snoc]
  simp [rowT]
section
variable {A : List Int} {n h y : Nat}
theorem rowL_len (hA : A.length = n * h) (hy : y < h) : (rowL A n y).length = n := by
  have : (y + 1) * n ≤ h * n := Nat.mul_le_mul_right n hy
  rw [Nat.succ_mul, Nat.mul_comm h n] at this
  simp [rowL]
  omega
theorem rowL_in {p : Int → Prop} (hA : ∀ x ∈ A, p x) : ∀ x ∈ rowL A n y, p x := fun x hx => hA x (List.mem_of_mem_drop (List.mem_of_mem_take hx))
end
theorem rowT_len {A B : List Int} {n h y : Nat} (hA : A.length = n * h) (hB : B.length = n * h) (hy : y < h) (a : ∀ x ∈ A, In12 x) (b : ∀ x ∈ B, In12 x) (hn : n ≤ 24) : (numsT (rowL A n y)).length ≤ 361 ∧ (numsT (rowL B n y)).length ≤ 361 := by
  have h1 := numsT_len (xs := rowL A n y) (rowL_in a)
  have h2 := numsT_len (xs := rowL B n y) (rowL_in b)
  rw [rowL_len hA hy] at h1
  rw [rowL_len hB hy] at h2
  omega
theorem gridK_len {word : List UInt8} (hw : word.length ≤ 20) {s w h : Int} (hs : In12 s) (hw2 : In12 w) (hh : In12 h) {A B : List Int} {n m : Nat} (hA : A.length = n * m) (hB : B.length = n * m) (a : ∀ x ∈ A, In12 x) (b : ∀ x ∈ B, In12 x) (hn : n ≤ 24) : ∀ k, k ≤ m → (gridK word s w h A B n k).length ≤ 100 + k * 724
  | 0, _ => by
    have i1 := itoa_len12 hs
    have i2 := itoa_len12 hw2
    have i3 := itoa_len12 hh
    rw [gridK_zero]
    simp only [List.length_append, List.length_cons, List.length_nil]
    omega
  | k + 1, hk => by
    have ih := gridK_len hw hs hw2 hh hA hB a b hn k (by omega)
    have r := rowT_len hA hB (y := k) (by omega) a b hn
    rw [← gridK_snoc]
    simp only [List.length_append, List.length_cons, List.length_nil]
    omega
end Go.Proofs.YtnklfhjpigameaaDoor
