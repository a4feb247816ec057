/-
  OWN WORK: chains of items and channels exchanged along them: plain.
-/
import Derived.Test.YtkmhoebopfgpdaaSrt
namespace Go.Proofs.Ytkmhoebopfgpdaa
open Go Go.Own Go.Proofs
set_option maxHeartbeats 4000000
set_option maxRecDepth 20000
set_option linter.unusedSimpArgs false
set_option linter.unusedVariables false
/-- a chain behind the first k items beside item c -/
def chN (T : Nat → Nat → Bool) (c : Nat) (ch : List Int) : Nat → List Int
  | 0 => ch
  | k + 1 => if T c k = true ∧ ¬ (k : Int) ∈ chN T c ch k then chN T c ch k ++ [(k : Int)] else chN T c ch k
/-- a chain from its k-th item on -/
def bfs (T : Nat → Nat → Bool) (n : Nat) : Nat → Nat → List Int → List Int
  | 0, _, ch => ch
  | f + 1, k, ch => if k < ch.length then bfs T n f (k + 1) (chN T (ch.getD k 0).toNat ch n) else ch
structure ChOk (n : Nat) (ch : List Int) : Prop where
  nd : ch.Nodup
  inn : ∀ x ∈ ch, 0 ≤ x ∧ x < n
theorem nd_len : ∀ (n : Nat) (l : List Int), l.Nodup → (∀ x ∈ l, 0 ≤ x ∧ x < n) → l.length ≤ n
  | 0, l, _, h => by
    cases l with
    | nil => simp
    | cons x r => have := h x (by simp); omega
  | n + 1, l, hn, h => by
    have ih := nd_len n (l.erase (n : Int)) (hn.erase _) fun x hx => by
      have h1 := h x (List.mem_of_mem_erase hx)
      have h2 : x ≠ (n : Int) := fun e => by
        subst e
        exact (List.Nodup.not_mem_erase hn) hx
      omega
    have h3 := List.length_erase (a := (n : Int)) (l := l)
    split at h3 <;> omega
theorem ChOk.len {n : Nat} {ch : List Int} (h : ChOk n ch) : ch.length ≤ n := nd_len n ch h.nd h.inn
theorem chN_ok {T : Nat → Nat → Bool} {c n : Nat} {ch : List Int} (h : ChOk n ch) : ∀ k, k ≤ n → ChOk n (chN T c ch k) ∧ (∀ x ∈ ch, x ∈ chN T c ch k) ∧ ∀ x ∈ chN T c ch k, x ∈ ch ∨ ∃ i : Nat, x = i ∧ T c i = true
  | 0, _ => ⟨h, fun _ hx => hx, fun _ hx => .inl hx⟩
  | k + 1, hk => by
    obtain ⟨h1, h2, h3⟩ := chN_ok h k (by omega)
    unfold chN
    split
    · rename_i hc
      refine ⟨⟨?_, fun x hx => ?_⟩, fun x hx => List.mem_append_left _ (h2 x hx), fun x hx => ?_⟩
      · rw [List.nodup_append]
        refine ⟨h1.nd, by simp, fun a ha b hb => ?_⟩
        simp only [List.mem_singleton] at hb
        subst hb
        exact fun e => hc.2 (e ▸ ha)
      · rcases List.mem_append.1 hx with hx | hx
        · exact h1.inn x hx
        · simp only [List.mem_singleton] at hx
          omega
      · rcases List.mem_append.1 hx with hx | hx
        · exact h3 x hx
        · simp only [List.mem_singleton] at hx
          exact .inr ⟨k, hx, hc.1⟩
    · exact ⟨h1, h2, h3⟩
theorem bfs_ok {T : Nat → Nat → Bool} {n : Nat} : ∀ (f k : Nat) (ch : List Int), ChOk n ch → ChOk n (bfs T n f k ch) ∧ (∀ x ∈ ch, x ∈ bfs T n f k ch) ∧ ∀ x ∈ bfs T n f k ch, x ∈ ch ∨ ∃ c i : Nat, x = i ∧ T c i = true
  | 0, _, ch, h => ⟨h, fun _ hx => hx, fun _ hx => .inl hx⟩
  | f + 1, k, ch, h => by
    unfold bfs
    split
    · obtain ⟨h1, h2, h3⟩ := chN_ok (T := T) (c := (ch.getD k 0).toNat) h n (Nat.le_refl _)
      obtain ⟨i1, i2, i3⟩ := bfs_ok f (k + 1) _ h1
      refine ⟨i1, fun x hx => i2 x (h2 x hx), fun x hx => ?_⟩
      rcases i3 x hx with hx | hx
      · rcases h3 x hx with hx | ⟨i, e, hi⟩
        · exact .inl hx
        · exact .inr ⟨_, i, e, hi⟩
      · exact .inr hx
    · exact ⟨h, fun _ hx => hx, fun _ hx => .inl hx⟩
/-- nothing more to come once all are visited -/
theorem bfs_end {T : Nat → Nat → Bool} {n f k : Nat} {ch : List Int} (h : ¬ k < ch.length) : bfs T n f k ch = ch := by
  cases f with
  | zero => rfl
  | succ f => unfold bfs; rw [if_neg h]
/-! ### channels exchanged -/
/-- the other one of two channels -/
def oth (a b x : Int) : Int := if x = a then b else a
def swK (a b : Int) (L C : List Int) : List Int := C.foldl (fun o i => o.set i.toNat (oth a b (o.getD i.toNat 0))) L
theorem swK_len (a b : Int) : ∀ (C L : List Int), (swK a b L C).length = L.length
  | [], _ => rfl
  | i :: C, L => by
    show (swK a b (L.set i.toNat _) C).length = _
    rw [swK_len a b C, List.length_set]
theorem swK_snoc (a b : Int) (L C : List Int) {k : Nat} (hk : k < C.length) : swK a b L (C.take (k + 1)) = (swK a b L (C.take k)).set C[k].toNat (oth a b ((swK a b L (C.take k)).getD C[k].toNat 0)) := by
  unfold swK
  rw [List.take_succ_eq_append_getElem hk, List.foldl_append]
  rfl
theorem getD_set (L : List Int) (i j : Nat) (v : Int) (hi : i < L.length) : (L.set i v).getD j 0 = if i = j then v else L.getD j 0 := by
  rw [List.getD_eq_getElem?_getD, List.getElem?_set, List.getD_eq_getElem?_getD]
  split
  · rfl
  · rfl
theorem swK_at {a b : Int} : ∀ (C L : List Int), ChOk L.length C → ∀ j : Nat, (swK a b L C).getD j 0 = if (j : Int) ∈ C then oth a b (L.getD j 0) else L.getD j 0
  | [], L, _, j => by simp [swK]
  | i :: C, L, h, j => by
    obtain ⟨h1, h2⟩ := List.nodup_cons.1 h.nd
    have hi := h.inn i (by simp)
    have iL : i.toNat < L.length := by omega
    have hC : ChOk (L.set i.toNat (oth a b (L.getD i.toNat 0))).length C := ⟨h2, fun x hx => by rw [List.length_set]; exact h.inn x (by simp [hx])⟩
    show (swK a b (L.set i.toNat _) C).getD j 0 = _
    rw [swK_at C _ hC j, getD_set _ _ _ _ iL]
    by_cases e : i.toNat = j
    · have e2 : (j : Int) = i := by omega
      rw [if_pos e, e2, if_neg h1, if_pos (by simp), e]
    · have e2 : ¬ (j : Int) = i := by omega
      rw [if_neg e]
      by_cases hj : (j : Int) ∈ C
      · rw [if_pos hj, if_pos (by simp [hj])]
      · rw [if_neg hj, if_neg (by simp [hj, e2])]
theorem list_ext {L M : List Int} (hl : L.length = M.length) (h : ∀ j : Nat, j < L.length → L.getD j 0 = M.getD j 0) : L = M := by
  refine List.ext_getElem hl fun i h1 h2 => ?_
  have := h i h1
  rwa [List.getD_eq_getElem?_getD, List.getD_eq_getElem?_getD, List.getElem?_eq_getElem h1, List.getElem?_eq_getElem h2] at this
theorem oth_two {a b x : Int} (h : x = a ∨ x = b) : (oth a b x = a ∨ oth a b x = b) ∧ oth b a (oth a b x) = x := by
  unfold oth
  rcases h with rfl | rfl
  · simp
  · by_cases e : x = a
    · subst e; simp
    · simp [e]
theorem oth_ne {a b x : Int} (hab : a ≠ b) (h : x = a ∨ x = b) : oth a b x ≠ x := by
  unfold oth
  rcases h with rfl | rfl
  · simp; exact fun h => hab h.symm
  · rw [if_neg (fun e => hab e.symm)]; exact hab
/-- twice is not at all -/
theorem sw_back {a b : Int} {L C : List Int} (hC : ChOk L.length C) (h : ∀ j : Nat, (j : Int) ∈ C → L.getD j 0 = a ∨ L.getD j 0 = b) : swK b a (swK a b L C) C = L := by
  refine list_ext (by rw [swK_len, swK_len]) fun j hj => ?_
  have hC' : ChOk (swK a b L C).length C := by rw [swK_len]; exact hC
  rw [swK_at C _ hC', swK_at C _ hC]
  split
  · exact (oth_two (h j ‹_›)).2
  · rfl
/-- how many places differ, of the first k -/
def dfK (xs ys : List Int) : Nat → Int
  | 0 => 0
  | k + 1 => if xs.getD k 0 = ys.getD k 0 then dfK xs ys k else dfK xs ys k + 1
theorem dfK_eq (xs ys : List Int) : ∀ k, dfK xs ys k = (((List.range k).filter fun j => decide (¬ xs.getD j 0 = ys.getD j 0)).length : Nat)
  | 0 => rfl
  | k + 1 => by
    unfold dfK
    rw [List.range_succ, List.filter_append, List.length_append, dfK_eq xs ys k]
    split
    · rename_i h
      have e : ([k].filter fun j => decide (¬ xs.getD j 0 = ys.getD j 0)) = [] := by rw [List.filter_cons, if_neg (by simpa using h), List.filter_nil]
      rw [e]
      simp
    · rename_i h
      have e : ([k].filter fun j => decide (¬ xs.getD j 0 = ys.getD j 0)) = [k] := by rw [List.filter_cons, if_pos (by simpa using h), List.filter_nil]
      rw [e]
      simp
theorem dfK_in (xs ys : List Int) (k : Nat) : 0 ≤ dfK xs ys k ∧ dfK xs ys k ≤ k := by
  rw [dfK_eq]
  have := List.length_filter_le (fun j => decide (¬ xs.getD j 0 = ys.getD j 0)) (List.range k)
  simp only [List.length_range] at this
  omega
theorem sw_diff {a b : Int} (hab : a ≠ b) {L C : List Int} (hC : ChOk L.length C) (h : ∀ j : Nat, (j : Int) ∈ C → L.getD j 0 = a ∨ L.getD j 0 = b) : dfK (swK a b L C) L L.length = C.length := by
  rw [dfK_eq]
  have hp : (((List.range L.length).filter fun j => decide (¬ (swK a b L C).getD j 0 = L.getD j 0)).map fun i : Nat => (i : Int)).Perm C := by
    refine (List.perm_ext_iff_of_nodup ?_ hC.nd).2 fun x => ?_
    · refine List.Pairwise.map _ (fun x y hxy => ?_) (List.Pairwise.filter _ List.nodup_range)
      intro e
      exact hxy (by omega)
    · simp only [List.mem_map, List.mem_filter, List.mem_range, decide_eq_true_eq]
      constructor
      · rintro ⟨j, ⟨_, h2⟩, rfl⟩
        rw [swK_at C _ hC] at h2
        by_cases hj : (j : Int) ∈ C
        · exact hj
        · rw [if_neg hj] at h2; exact absurd rfl h2
      · intro hx
        have := hC.inn x hx
        have e : ((x.toNat : Nat) : Int) = x := by omega
        refine ⟨x.toNat, ⟨by omega, ?_⟩, e⟩
        have hj : ((x.toNat : Nat) : Int) ∈ C := by rw [e]; exact hx
        rw [swK_at C _ hC, if_pos hj]
        exact oth_ne hab (h _ hj)
  have := hp.length_eq
  rw [List.length_map] at this
  omega
end Go.Proofs.Ytkmhoebopfgpdaa
