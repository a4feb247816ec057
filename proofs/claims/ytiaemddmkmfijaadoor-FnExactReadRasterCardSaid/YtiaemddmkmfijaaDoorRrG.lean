/-
  OWN WORK: the reference's rasters, read.
-/
import Derived.Test.YtiaemddmkmfijaaDoorRrF
namespace Go.Proofs.YtiaemddmkmfijaaDoor
open Go Go.Own Go.Proofs
set_option maxHeartbeats 4000000
set_option maxRecDepth 20000
set_option linter.unusedSimpArgs false
set_option linter.unusedVariables false
theorem lines_read (s : Int) (n m : Nat) (sv lv : List Int) : spG 10 [] (gridK wRas s n m sv lv n m) = linesT wRas s n m sv lv n m := by
  rw [gridK_lines]
  exact spG_of_join _ (by simp [linesT]) (linesT_10 (word := wRas) (by decide) s n m sv lv n m)
theorem head_read (s : Int) (n m : Nat) : spG 32 [] (headT wRas s n m) = headF wRas s n m :=
  spG_of_join _ (by simp [headF]) (headF_32 (word := wRas) (by decide) s n m)
theorem row_read (A B : List Int) (n y : Nat) : spG 32 [] (rowT A B n y) = [numsT (rowL A n y), numsT (rowL B n y)] := by
  have h := spG_of_join (c := 32) [numsT (rowL A n y), numsT (rowL B n y)] (by simp) (fun x hx => by
    simp at hx
    rcases hx with rfl | rfl <;> exact numsT_no (.inl rfl))
  rw [join_cons2] at h
  have e : rowT A B n y = numsT (rowL A n y) ++ 32 :: Lib.join [numsT (rowL B n y)] [32] := by simp [rowT, Lib.join, Lib.joinTail]
  rw [e]
  exact h
theorem rowL_old {A X : List Int} {n j : Nat} (h : (j + 1) * n ≤ A.length) : rowL (A ++ X) n j = rowL A n j := by
  have e : (j + 1) * n = j * n + n := Nat.succ_mul j n
  unfold rowL
  rw [List.drop_append_of_le_length (by omega), List.take_append_of_le_length (by rw [List.length_drop]; omega)]
theorem rowL_new {A X : List Int} {n k : Nat} (h : A.length = k * n) (hx : X.length = n) : rowL (A ++ X) n k = X := by
  unfold rowL
  rw [← h, List.drop_left, ← hx, List.take_length]
theorem rowT_old {A B X Y : List Int} {n j k : Nat} (hA : A.length = k * n) (hB : B.length = k * n) (hj : j < k) : rowT (A ++ X) (B ++ Y) n j = rowT A B n j := by
  have e : (j + 1) * n ≤ k * n := Nat.mul_le_mul_right n hj
  unfold rowT
  rw [rowL_old (by omega), rowL_old (by omega)]
/-- the first line of a raster's text, by its words -/
theorem head_of {x0 w0 w1 w2 w3 : List UInt8} {s : Int} {n m : Nat} (hW : spG 32 [] x0 = [w0, w1, w2, w3]) (h0 : w0 = wRas) (h1 : w1 = Lib.itoa s) (h2 : w2 = Lib.itoa n) (h3 : w3 = Lib.itoa m) : x0 = headT wRas s n m := by
  have j := spG_join 32 x0 []
  rw [hW, h0, h1, h2, h3] at j
  exact j.symm
theorem grid_of {T x0 : List UInt8} {TL : List (List UInt8)} {s : Int} {n m : Nat} {A B : List Int} (hL : spG 10 [] T = x0 :: TL) (h0 : x0 = headT wRas s n m) (ht : TL = rowsT A B n m ++ [[]]) : T = gridK wRas s n m A B n m := by
  have j := spG_join 10 T []
  rw [hL, h0, ht] at j
  rw [gridK_lines]
  exact j.symm
theorem rows_of {TL : List (List UInt8)} {A B : List Int} {n m : Nat} (hl : TL.length = m + 1) (hr : ∀ j, j < m → TL[j]? = some (rowT A B n j)) (he : TL[m]? = some []) : TL = rowsT A B n m ++ [[]] := by
  apply List.ext_getElem?
  intro i
  by_cases h : i < m
  · rw [hr i h, List.getElem?_append_left (by rw [rowsT_len]; exact h), rowsT_at h]
  · by_cases h2 : i = m
    · subst h2
      rw [he, List.getElem?_append_right (by rw [rowsT_len]; omega), rowsT_len]
      simp
    · rw [List.getElem?_eq_none (by omega), List.getElem?_eq_none (by simp [rowsT_len]; omega)]
structure Hd (T x0 : List UInt8) (TL W : List (List UInt8)) : Prop where
  key : ∀ (s : Int) (n m : Nat) (sv lv : List Int), OkRas s n m sv lv → T = gridK wRas s n m sv lv n m → x0 = headT wRas s n m ∧ TL = rowsT sv lv n m ++ [[]] ∧ W = headF wRas s n m
theorem hd_of {T x0 : List UInt8} {TL : List (List UInt8)} (hL : spG 10 [] T = x0 :: TL) : Hd T x0 TL (spG 32 [] x0) := ⟨fun s n m sv lv ok e => by
  rw [e, lines_read] at hL
  have h1 := List.cons.inj hL
  refine ⟨h1.1.symm, h1.2.symm, ?_⟩
  rw [← h1.1, head_read]⟩
theorem sized12 {s : Int} {n m : Nat} (h : Sized s n m) : In12 s ∧ In12 n ∧ In12 m := ⟨⟨by have := h.1; omega, by have := h.1; omega⟩, ⟨by omega, by have := h.2.1; omega⟩, ⟨by omega, by have := h.2.2.1; omega⟩⟩
/-- what a raster's text says of its lines -/
theorem hd_all {T x0 : List UInt8} {TL : List (List UInt8)} {w0 w1 w2 w3 : List UInt8} (hd : Hd T x0 TL [w0, w1, w2, w3]) (s : Int) (n m : Nat) (sv lv : List Int) (ok : OkRas s n m sv lv) (e : T = gridK wRas s n m sv lv n m) : w0 = wRas ∧ NumOk w1 ∧ NumOk w2 ∧ NumOk w3 ∧ numV w1 = s ∧ numV w2 = n ∧ numV w3 = m ∧ TL.length = m + 1 ∧ TL[m]? = some [] ∧ (∀ k, k < m → TL[k]? = some (rowT sv lv n k)) := by
  obtain ⟨k1, k2, k3⟩ := hd.key s n m sv lv ok e
  obtain ⟨i1, i2, i3⟩ := sized12 ok.1
  have a1 := num_of (in12 i1)
  have a2 := num_of (in12 i2)
  have a3 := num_of (in12 i3)
  simp only [headF, List.cons.injEq, and_true] at k3
  obtain ⟨rfl, rfl, rfl, rfl⟩ := k3
  refine ⟨rfl, a1.1, a2.1, a3.1, a1.2, a2.2, a3.2, by rw [k2]; simp [rowsT_len], ?_, fun k hk => ?_⟩
  · rw [k2, List.getElem?_append_right (by rw [rowsT_len]; omega), rowsT_len]
    simp
  · rw [k2, List.getElem?_append_left (by rw [rowsT_len]; exact hk), rowsT_at hk]
end Go.Proofs.YtiaemddmkmfijaaDoor
