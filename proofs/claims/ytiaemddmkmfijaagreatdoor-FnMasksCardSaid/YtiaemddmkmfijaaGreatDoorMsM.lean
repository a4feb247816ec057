/-
  OWN WORK: plain: masks that meet.
-/
import Derived.Test.YtiaemddmkmfijaaGreatDoorMsD
import Derived.Test.YtiaemddmkmfijaaGreatDoorLibA
namespace Go.Proofs.YtiaemddmkmfijaaGreatDoor
open Go Go.Own Go.Proofs
set_option maxHeartbeats 4000000
set_option maxRecDepth 20000
set_option linter.unusedSimpArgs false
set_option linter.unusedVariables false
/-! ### masks that meet -/
structure Meet (O P G : List Int) : Prop where
  inc : G.Pairwise (· < ·)
  mem : ∀ x, x ∈ G ↔ x ∈ O ∨ x ∈ P
theorem MkOk.pw {O L : List Int} (h : MkOk O L) : O.Pairwise (· < ·) := List.pairwise_iff_getElem.2 fun i j hi hj hij => by
  have := h.oLt hij hj
  rw [gD0 hi, gD0 hj] at this
  exact this
theorem put_meet {O : List Int} (h : O.Pairwise (· < ·)) : ∀ P : List Int, Meet O P (P.foldl put O)
  | [] => ⟨h, fun x => by simp⟩
  | p :: P => by
    rw [List.foldl_cons]
    have k := put_meet (O := put O p) (by rw [put_ins]; exact sorted_ins h) P
    refine ⟨k.inc, fun x => ?_⟩
    rw [k.mem, put_ins, mem_ins]
    simp only [List.mem_cons]
    constructor
    · rintro ((h | h) | h)
      · exact .inr (.inl h)
      · exact .inl h
      · exact .inr (.inr h)
    · rintro (h | h | h)
      · exact .inl (.inr h)
      · exact .inl (.inl h)
      · exact .inr h
/-- the losses of masks that meet -/
def meetL (O L P Q G : List Int) : List Int := G.map fun g => max (lossV O L g) (lossV P Q g)
theorem pw_first {G : List Int} (h : G.Pairwise (· < ·)) {x : Int} (hx : x ∈ G) (h0 : ∀ y ∈ G, x ≤ y) : G.getD 0 0 = x := by
  obtain ⟨i, hi, e⟩ := List.getElem_of_mem hx
  have l0 : 0 < G.length := by omega
  rw [gD0 l0]
  by_cases z : i = 0
  · subst z; exact e
  · have a := (List.pairwise_iff_getElem.1 h) 0 i l0 hi (by omega)
    have b := h0 _ (List.getElem_mem l0)
    omega
theorem meetL_at {O L P Q G : List Int} {j : Nat} (h : j < G.length) : (meetL O L P Q G).getD j 0 = max (lossV O L (G.getD j 0)) (lossV P Q (G.getD j 0)) := by
  rw [gD0 (by unfold meetL; simpa using h), gD0 h]
  simp [meetL]
theorem ab_pos {x : Int} (h : 0 ≤ x) : ab x = x := if_pos h
section
variable {O L P Q G : List Int} (h : MkOk O L) (g : MkOk P Q) (m : Meet O P G)
include h g m
theorem meet_bd : ∀ x ∈ G, 0 ≤ x ∧ x ≤ 100000 := fun x hx => by
  rcases (m.mem x).1 hx with k | k
  · exact h.oM x k
  · exact g.oM x k
theorem meet_ok (hl : G.length ≤ 12) : MkOk G (meetL O L P Q G) := by
  have n2 := h.n2
  have bd := meet_bd h g m
  have zO : (0 : Int) ∈ O := by have := getD_mem (L := O) (i := 0) (by omega); rw [h.o0] at this; exact this
  have zG : G.getD 0 0 = 0 := pw_first m.inc ((m.mem 0).2 (.inl zO)) fun y hy => (bd y hy).1
  have i1 := getD_mem (L := O) (i := 1) (by omega)
  have p1 : 0 < O.getD 1 0 := by have := h.inc 1 (by omega) (by omega); rw [show 1 - 1 = 0 from rfl, h.o0] at this; exact this
  have l2 : 2 ≤ G.length := Classical.byContradiction fun c => by
    obtain ⟨i, hi, e⟩ := mem_getD ((m.mem _).2 (.inl i1))
    rw [show i = 0 by omega, zG] at e
    omega
  have inc : ∀ i, 0 < i → i < G.length → G.getD (i - 1) 0 < G.getD i 0 := fun i i0 hi => by
    rw [gD0 hi, gD0 (by omega)]
    exact (List.pairwise_iff_getElem.1 m.inc) (i - 1) i (by omega) hi (by omega)
  have at0 : ∀ i, i < G.length → 0 ≤ G.getD i 0 := fun i hi => (bd _ (getD_mem hi)).1
  refine ⟨l2, hl, by simp [meetL], zG, ?_, inc, bd, fun i i0 hi => ?_, fun x hx => ?_⟩
  · rw [meetL_at (by omega), zG, lossV_T, lossV_T, ab_pos (Int.le_refl 0)]
    have a := lossT_at h (k := 0) (by omega)
    have b := lossT_at g (k := 0) (by have := g.n2; omega)
    rw [h.o0, h.l0] at a
    rw [g.o0, g.l0] at b
    omega
  · rw [meetL_at hi, meetL_at (by omega), lossV_T, lossV_T, lossV_T, lossV_T, ab_pos (at0 _ hi), ab_pos (at0 (i - 1) (by omega))]
    have k := inc i i0 hi
    have a := lossT_mono h (at0 (i - 1) (by omega)) (Int.le_of_lt k)
    have b := lossT_mono g (at0 (i - 1) (by omega)) (Int.le_of_lt k)
    omega
  · obtain ⟨i, hi, e⟩ := mem_getD hx
    rw [meetL_at (by unfold meetL at hi; simpa using hi)] at e
    have a := lossV_in h (G.getD i 0)
    have b := lossV_in g (G.getD i 0)
    omega
theorem meet_loss (hl : G.length ≤ 12) (x : Int) : lossV O L x - 1 ≤ lossV G (meetL O L P Q G) x ∧ lossV P Q x - 1 ≤ lossV G (meetL O L P Q G) x := by
  have ok := meet_ok h g m hl
  have bd := meet_bd h g m
  constructor
  · refine loss_common h ok (fun x hx => (m.mem x).2 (.inl hx)) (fun j hj => ?_) (ab_nn x)
    rw [meetL_at hj]
    have : lossV O L (G.getD j 0) = lossT O L (G.getD j 0) := by rw [lossV_T, ab_pos (bd _ (getD_mem hj)).1]
    omega
  · refine loss_common g ok (fun x hx => (m.mem x).2 (.inr hx)) (fun j hj => ?_) (ab_nn x)
    rw [meetL_at hj]
    have : lossV P Q (G.getD j 0) = lossT P Q (G.getD j 0) := by rw [lossV_T, ab_pos (bd _ (getD_mem hj)).1]
    omega
end
theorem foldl_len (O : List Int) : ∀ P : List Int, (P.foldl put O).length ≤ O.length + P.length
  | [] => by simp
  | p :: P => by
    rw [List.foldl_cons]
    have a := foldl_len (put O p) P
    have b : (put O p).length ≤ O.length + 1 := by
      unfold put
      have k := putK_len O p O.length
      split
      · exact k.1
      · rename_i c
        have := k.2 (by simpa using c)
        simp only [List.length_append, List.length_cons, List.length_nil]
        omega
    simp only [List.length_cons]
    omega
/-- what two masks meet in -/
def meetV (O L P Q G : List Int) : AVal := if 12 < G.length then .tup [mkV [] [], .i 5] else .tup [mkV G (meetL O L P Q G), .i 0]
theorem meetV_tree (O L P Q G : List Int) : (meetV O L P Q G).tree = true := by
  unfold meetV
  split <;> simp only [AVal.tree, treeL, treeL_i, treeL_ints, Bool.and_self, Bool.and_true]
end Go.Proofs.YtiaemddmkmfijaaGreatDoor
