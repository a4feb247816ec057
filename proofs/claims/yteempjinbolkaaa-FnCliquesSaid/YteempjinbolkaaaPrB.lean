/-
  OWN WORK: problems of assignment that the laws draw: domains rise.
-/
import Derived.Test.YteempjinbolkaaaPrA
namespace Go.Proofs.Yteempjinbolkaaa
open Go Go.Own Go.Proofs
set_option maxHeartbeats 4000000
set_option maxRecDepth 20000
set_option linter.unusedSimpArgs false
theorem ins_pw {x : Int} : ∀ {l : List Int}, l.Pairwise (· < ·) → (ins x l).Pairwise (· < ·)
  | [], _ => by simp [ins]
  | z :: l, h => by
    obtain ⟨h1, h2⟩ := List.pairwise_cons.1 h
    unfold ins
    split
    · split
      · rename_i _ hlt
        refine List.pairwise_cons.2 ⟨fun y hy => ?_, h⟩
        rcases List.mem_cons.1 hy with e | e
        · rw [e]; exact hlt
        · have := h1 y e; omega
      · exact h
    · rename_i hle
      refine List.pairwise_cons.2 ⟨fun y hy => ?_, ins_pw h2⟩
      rcases mem_ins.1 hy with e | e
      · rw [e]; omega
      · exact h1 y e
theorem ins_pos {x : Int} : ∀ {l : List Int}, 1 ≤ (ins x l).length
  | [] => by simp [ins]
  | z :: l => by
    unfold ins
    split
    · split <;> simp
    · simp
theorem rises_pw {lo hi : Int} {xs : List Int} (h : xs.Pairwise (· < ·)) (hb : ∀ y ∈ xs, lo ≤ y ∧ y ≤ hi) : Rises lo hi xs := by
  intro i hi
  refine ⟨hb _ (List.getElem_mem hi), fun h0 => ?_⟩
  exact List.pairwise_iff_getElem.1 h (i - 1) i (by omega) hi (by omega)
structure DomOk (d : List Int) : Prop where
  pos : 1 ≤ d.length
  few : d.length ≤ 15
  up : Rises 0 11 d
theorem ddK_ok {bs : List Int} (hb : Byt bs) (s : SrcS) : ∀ k, 1 ≤ (ddK bs (dd0 bs s) k).1.length ∧ (ddK bs (dd0 bs s) k).1.Pairwise (· < ·) ∧ ∀ y ∈ (ddK bs (dd0 bs s) k).1, 0 ≤ y ∧ y ≤ 11
  | 0 => by
    have h := pkV_in hb 12 s
    refine ⟨Nat.le_refl _, by simp [ddK, dd0], fun y hy => ?_⟩
    have e : y = pkV bs 12 s := by simpa [ddK, dd0] using hy
    rw [e]
    have := h.2 (by omega)
    omega
  | k + 1 => by
    obtain ⟨h1, h2, h3⟩ := ddK_ok hb s k
    have h := pkV_in hb 12 (ddK bs (dd0 bs s) k).2
    have e : (ddK bs (dd0 bs s) (k + 1)).1 = ins (pkV bs 12 (ddK bs (dd0 bs s) k).2) (ddK bs (dd0 bs s) k).1 := put_ins _ _
    rw [e]
    refine ⟨ins_pos, ins_pw h2, fun y hy => ?_⟩
    rcases mem_ins.1 hy with e2 | e2
    · rw [e2]
      have := h.2 (by omega)
      omega
    · exact h3 y e2
theorem dd_ok {bs : List Int} (hb : Byt bs) (s : SrcS) : DomOk (dd bs s).1 ∧ (dd bs s).2.1 ≤ s.1 + 20 := by
  have h2 := pkV_in hb 8 (pkS bs 12 s)
  have e1 := pkS_le bs 12 s
  have e2 := pkS_le bs 8 (pkS bs 12 s)
  have hN : ddN bs s < 8 := by
    have := h2.2 (by omega)
    unfold ddN
    omega
  obtain ⟨l1, l2⟩ := ddK_in bs (dd0 bs s) (ddN bs s)
  obtain ⟨a1, a2, a3⟩ := ddK_ok hb s (ddN bs s)
  have b1 : (dd0 bs s).1.length = 1 := rfl
  have b2 : (dd0 bs s).2.1 ≤ s.1 + 4 := by show (pkS bs 8 (pkS bs 12 s)).1 ≤ _; omega
  unfold dd
  exact ⟨⟨a1, by omega, rises_pw a2 a3⟩, by omega⟩
end Go.Proofs.Yteempjinbolkaaa
