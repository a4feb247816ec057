/-
  OWN WORK: grids as texts, plain: rows, lines, what is read back.
-/
import Derived.Test.YtiaemddmkmfijaaDoorTxF
namespace Go.Proofs.YtiaemddmkmfijaaDoor
open Go Go.Own Go.Proofs
set_option maxHeartbeats 4000000
set_option maxRecDepth 20000
set_option linter.unusedSimpArgs false
set_option linter.unusedVariables false
theorem join_lines {c : UInt8} : ∀ xs : List (List UInt8), Lib.join (xs ++ [[]]) [c] = (xs.map (· ++ [c])).flatten
  | [] => by rw [List.nil_append, Lib.join_one]; rfl
  | [x] => by
    rw [List.cons_append, List.nil_append, Lib.join_cons]
    simp [Lib.joinTail]
  | x :: y :: r => by
    have ih := join_lines (c := c) (y :: r)
    have e : Lib.join (x :: ((y :: r) ++ [[]])) [c] = x ++ c :: Lib.join ((y :: r) ++ [[]]) [c] := by
      rw [List.cons_append, Lib.join_cons, Lib.join_cons]
      simp [Lib.joinTail]
    rw [List.cons_append, e, ih]
    simp
/-- a row's numbers, a row as text, all rows -/
def rowL (A : List Int) (n y : Nat) : List Int := (A.drop (y * n)).take n
def rowT (A B : List Int) (n y : Nat) : List UInt8 := numsT (rowL A n y) ++ [32] ++ numsT (rowL B n y)
def rowsT (A B : List Int) (n h : Nat) : List (List UInt8) := (List.range h).map (rowT A B n)
theorem rowsT_len (A B : List Int) (n h : Nat) : (rowsT A B n h).length = h := by simp [rowsT]
theorem rowsT_at {A B : List Int} {n h k : Nat} (hk : k < h) : (rowsT A B n h)[k]? = some (rowT A B n k) := by simp [rowsT, hk]
theorem rowsT_snoc (A B : List Int) (n h : Nat) : rowsT A B n (h + 1) = rowsT A B n h ++ [rowT A B n h] := by simp [rowsT, List.range_succ]
/-- the first line -/
def headF (word : List UInt8) (s w h : Int) : List (List UInt8) := [word, Lib.itoa s, Lib.itoa w, Lib.itoa h]
def headT (word : List UInt8) (s w h : Int) : List UInt8 := Lib.join (headF word s w h) [32]
theorem headT_eq (word : List UInt8) (s w h : Int) : headT word s w h = word ++ [32] ++ Lib.itoa s ++ [32] ++ Lib.itoa w ++ [32] ++ Lib.itoa h := by
  unfold headT headF
  rw [Lib.join_cons]
  simp [Lib.joinTail]
/-- the text behind some rows -/
def gridK (word : List UInt8) (s w h : Int) (A B : List Int) (n k : Nat) : List UInt8 := ((headT word s w h :: rowsT A B n k).map (· ++ [10])).flatten
theorem gridK_zero (word : List UInt8) (s w h : Int) (A B : List Int) (n : Nat) : gridK word s w h A B n 0 = word ++ [32] ++ Lib.itoa s ++ [32] ++ Lib.itoa w ++ [32] ++ Lib.itoa h ++ [10] := by
  unfold gridK
  rw [headT_eq]
  simp [rowsT]
theorem gridK_snoc (word : List UInt8) (s w h : Int) (A B : List Int) (n k : Nat) : gridK word s w h A B n k ++ (numsT (rowL A n k) ++ [32] ++ numsT (rowL B n k) ++ [10]) = gridK word s w h A B n (k + 1) := by
  unfold gridK
  rw [rowsT_snoc]
  simp [rowT]
/-- the lines -/
def linesT (word : List UInt8) (s w h : Int) (A B : List Int) (n k : Nat) : List (List UInt8) := headT word s w h :: rowsT A B n k ++ [[]]
theorem gridK_lines (word : List UInt8) (s w h : Int) (A B : List Int) (n k : Nat) : gridK word s w h A B n k = Lib.join (linesT word s w h A B n k) [10] := (join_lines _).symm
theorem linesT_len (word : List UInt8) (s w h : Int) (A B : List Int) (n k : Nat) : (linesT word s w h A B n k).length = k + 2 := by simp [linesT, rowsT_len]
theorem itoa_no {n : Int} {c : UInt8} (h : c = 32 ∨ c = 10 ∨ c = 44) : c ∉ Lib.itoa n := fun hc => by
  have := numC_not (itoa_numC n c hc)
  rcases h with rfl | rfl | rfl
  · exact this.2.1 rfl
  · exact this.2.2.1 rfl
  · exact this.1 rfl
theorem headT_10 {word : List UInt8} (hw : (10 : UInt8) ∉ word) (s w h : Int) : (10 : UInt8) ∉ headT word s w h := by
  rw [headT_eq]
  simp only [List.mem_append, List.mem_singleton, not_or]
  have no := fun n : Int => itoa_no (n := n) (c := 10) (.inr (.inl rfl))
  exact ⟨⟨⟨⟨⟨⟨hw, by decide⟩, no s⟩, by decide⟩, no w⟩, by decide⟩, no h⟩
theorem headF_32 {word : List UInt8} (hw : (32 : UInt8) ∉ word) (s w h : Int) : ∀ x ∈ headF word s w h, (32 : UInt8) ∉ x := by
  have no := fun n : Int => itoa_no (n := n) (c := 32) (.inl rfl)
  intro x hx
  unfold headF at hx
  simp only [List.mem_cons, List.not_mem_nil, or_false] at hx
  rcases hx with rfl | rfl | rfl | rfl
  · exact hw
  · exact no s
  · exact no w
  · exact no h
theorem rowT_10 (A B : List Int) (n y : Nat) : (10 : UInt8) ∉ rowT A B n y := by
  unfold rowT
  simp only [List.mem_append, List.mem_singleton, not_or]
  exact ⟨⟨numsT_no (.inr rfl), by decide⟩, numsT_no (.inr rfl)⟩
theorem linesT_10 {word : List UInt8} (hw : (10 : UInt8) ∉ word) (s w h : Int) (A B : List Int) (n k : Nat) : ∀ x ∈ linesT word s w h A B n k, (10 : UInt8) ∉ x := by
  intro x hx
  unfold linesT at hx
  rcases List.mem_append.1 hx with hx | hx
  · rcases List.mem_cons.1 hx with rfl | hx
    · exact headT_10 hw s w h
    · obtain ⟨y, _, rfl⟩ := List.mem_map.1 hx
      exact rowT_10 A B n y
  · simp only [List.mem_singleton] at hx
    subst hx
    simp
theorem cut_row (A B : List Int) (n y : Nat) : Lib.cut (rowT A B n y) [32] = (numsT (rowL A n y), numsT (rowL B n y), true) := by
  have no : (32 : UInt8) ∉ numsT (rowL A n y) := numsT_no (.inl rfl)
  have em : rowT A B n y = numsT (rowL A n y) ++ 32 :: numsT (rowL B n y) := by simp [rowT]
  rw [em]
  unfold Lib.cut
  rw [index_at _ no]
  simp
theorem cut_nil : Lib.cut [] [32] = ([], [], false) := rfl
section
variable {A : List Int} {n h y : Nat}
theorem rowL_len (hA : A.length = n * h) (hy : y < h) : (rowL A n y).length = n := by
  have : (y + 1) * n ≤ h * n := Nat.mul_le_mul_right n hy
  rw [Nat.succ_mul, Nat.mul_comm h n] at this
  simp [rowL]
  omega
theorem rowL_in {p : Int → Prop} (hA : ∀ x ∈ A, p x) : ∀ x ∈ rowL A n y, p x := fun x hx => hA x (List.mem_of_mem_drop (List.mem_of_mem_take hx))
theorem rowL_snoc : A.take (y * n) ++ rowL A n y = A.take ((y + 1) * n) := by
  rw [Nat.succ_mul, List.take_add]
  rfl
end
theorem rowT_len {A B : List Int} {n h y : Nat} (hA : A.length = n * h) (hB : B.length = n * h) (hy : y < h) (a : ∀ x ∈ A, In12 x) (b : ∀ x ∈ B, In12 x) (hn : n ≤ 24) : (numsT (rowL A n y)).length ≤ 361 ∧ (numsT (rowL B n y)).length ≤ 361 := by
  have h1 := numsT_len (xs := rowL A n y) (rowL_in a)
  have h2 := numsT_len (xs := rowL B n y) (rowL_in b)
  rw [rowL_len hA hy] at h1
  rw [rowL_len hB hy] at h2
  omega
theorem gridK_len {word : List UInt8} (hw : word.length ≤ 20) {s w h : Int} (hs : In12 s) (hw2 : In12 w) (hh : In12 h) {A B : List Int} {n m : Nat} (hA : A.length = n * m) (hB : B.length = n * m) (a : ∀ x ∈ A, In12 x) (b : ∀ x ∈ B, In12 x) (hn : n ≤ 24) : ∀ k, k ≤ m → (gridK word s w h A B n k).length ≤ 100 + k * 724
  | 0, _ => by
    have i1 := itoa_len12 hs
    have i2 := itoa_len12 hw2
    have i3 := itoa_len12 hh
    rw [gridK_zero]
    simp only [List.length_append, List.length_cons, List.length_nil]
    omega
  | k + 1, hk => by
    have ih := gridK_len hw hs hw2 hh hA hB a b hn k (by omega)
    have r := rowT_len hA hB (y := k) (by omega) a b hn
    rw [← gridK_snoc]
    simp only [List.length_append, List.length_cons, List.length_nil]
    omega
end Go.Proofs.YtiaemddmkmfijaaDoor
