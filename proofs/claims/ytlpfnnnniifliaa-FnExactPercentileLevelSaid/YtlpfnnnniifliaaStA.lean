/-
  OWN WORK: the level that a share of the covered cells has: plain.
-/
import Derived.Test.YtlpfnnnniifliaaRaE
namespace Go.Proofs.Ytlpfnnnniifliaa
open Go Go.Own Go.Proofs
set_option maxHeartbeats 4000000
set_option maxRecDepth 20000
set_option linter.unusedSimpArgs false
/-- the levels of the covered cells among the first k -/
def levK (sv lv : List Int) : Nat → List Int
  | 0 => []
  | k + 1 => if 0 ≤ sv.getD k (-1) then levK sv lv k ++ [lv.getD k 0] else levK sv lv k
section
variable {sv lv : List Int} {k : Nat}
theorem levK_yes (h1 : k < sv.length) (h2 : k < lv.length) (h : 0 ≤ sv[k]) : levK sv lv (k + 1) = levK sv lv k ++ [lv[k]] := by
  show (if _ then _ else _) = _
  rw [if_pos (by simpa [List.getD, h1] using h)]
  simp [List.getD, h2]
theorem levK_no (h1 : k < sv.length) (h : ¬ 0 ≤ sv[k]) : levK sv lv (k + 1) = levK sv lv k := by
  show (if _ then _ else _) = _
  rw [if_neg (by simpa [List.getD, h1] using h)]
end
theorem levK_cov (sv lv : List Int) : ∀ k, levK sv lv k = (covK sv k).map fun c => lv.getD c.toNat 0
  | 0 => rfl
  | k + 1 => by
    unfold levK covK
    split
    · rw [levK_cov sv lv k]; simp
    · exact levK_cov sv lv k
theorem levK_len (sv lv : List Int) (k : Nat) : (levK sv lv k).length = (covK sv k).length := by rw [levK_cov]; simp
theorem levK_take {sv lv : List Int} {k : Nat} (h : k < (cov sv).length) {c : Nat} (e : (cov sv)[k] = c) (hc : c < lv.length) :
    ((cov sv).take (k + 1)).map (fun c => lv.getD c.toNat 0) = ((cov sv).take k).map (fun c => lv.getD c.toNat 0) ++ [lv[c]] := by
  rw [List.take_succ_eq_append_getElem h, List.map_append, e]
  simp [List.getD, hc]
/-- how many are at least as great -/
def geN (l : List Int) (v : Int) : Nat := (l.filter fun x => decide (v ≤ x)).length
theorem geN_nil (v : Int) : geN [] v = 0 := rfl
theorem geN_yes {l : List Int} {v x : Int} (h : v ≤ x) : geN (l ++ [x]) v = geN l v + 1 := by simp [geN, List.filter_append, h]
theorem geN_no {l : List Int} {v x : Int} (h : ¬ v ≤ x) : geN (l ++ [x]) v = geN l v := by simp [geN, List.filter_append, h]
theorem geN_le (l : List Int) (v : Int) : geN l v ≤ l.length := List.length_filter_le _ _
theorem geN_perm {l l' : List Int} (h : l.Perm l') (v : Int) : geN l v = geN l' v := (h.filter _).length_eq
def okP (l : List Int) (share v : Int) : Prop := share * l.length ≤ geN l v * 1000000
def isPct (l : List Int) (share v : Int) : Prop := v ∈ l ∧ okP l share v ∧ ∀ x ∈ l, okP l share x → x ≤ v
theorem isPct_uniq {l : List Int} {share v w : Int} (h : isPct l share v) (h' : isPct l share w) : v = w := by
  have := h.2.2 w h'.1 h'.2.1
  have := h'.2.2 v h.1 h.2.1
  omega
theorem min_ex : ∀ l : List Int, l ≠ [] → ∃ v ∈ l, ∀ x ∈ l, v ≤ x
  | [], h => absurd rfl h
  | [a], _ => ⟨a, by simp, by simp⟩
  | a :: b :: l, _ => by
    obtain ⟨v, h1, h2⟩ := min_ex (b :: l) (by simp)
    by_cases h : a ≤ v
    · refine ⟨a, by simp, fun x hx => ?_⟩
      rcases List.mem_cons.1 hx with e | e
      · omega
      · have := h2 x e; omega
    · refine ⟨v, List.mem_cons_of_mem _ h1, fun x hx => ?_⟩
      rcases List.mem_cons.1 hx with e | e
      · omega
      · exact h2 x e
theorem some_ok {l : List Int} {share : Int} (h0 : l ≠ []) (h2 : share ≤ 1000000) : ∃ v ∈ l, okP l share v := by
  obtain ⟨v, hv, hm⟩ := min_ex l h0
  refine ⟨v, hv, ?_⟩
  have e : geN l v = l.length := by
    unfold geN
    rw [List.filter_eq_self.2 fun x hx => by simpa using hm x hx]
  unfold okP
  rw [e, Int.mul_comm]
  exact Int.mul_le_mul_of_nonneg_left h2 (by omega)
theorem geN_split (D : List Int) (n : Nat) (v : Int) : geN D v = geN (D.take n) v + geN (D.drop n) v := by
  conv => lhs; rw [← List.take_append_drop n D]
  unfold geN
  rw [List.filter_append, List.length_append]
theorem cntHead {D : List Int} {i : Nat} {v : Int} (hs : ∀ a b : Nat, a < b → ∀ (ha : a < D.length) (hb : b < D.length), D[b] ≤ D[a]) (hi : i < D.length) (h : D[i] < v) : geN D v ≤ i := by
  have e : geN D v = geN (D.take i) v := by
    conv => lhs; rw [← List.take_append_drop i D]
    unfold geN
    rw [List.filter_append, List.length_append]
    have : List.filter (fun x => decide (v ≤ x)) (D.drop i) = [] := by
      rw [List.filter_eq_nil_iff]
      intro x hx
      obtain ⟨j, hj, rfl⟩ := List.getElem_of_mem hx
      rw [List.length_drop] at hj
      rw [List.getElem_drop]
      have : D[i + j] ≤ D[i] := by
        by_cases e : j = 0
        · subst e; exact Int.le_refl _
        · exact hs i (i + j) (by omega) hi (by omega)
      simp
      omega
    rw [this]
    rfl
  rw [e]
  have := geN_le (D.take i) v
  rw [List.length_take] at this
  omega
theorem geHead {D : List Int} {i : Nat} (hs : ∀ a b : Nat, a < b → ∀ (ha : a < D.length) (hb : b < D.length), D[b] ≤ D[a]) (hi : i < D.length) : i + 1 ≤ geN D D[i] := by
  have h1 : geN (D.take (i + 1)) D[i] = i + 1 := by
    unfold geN
    rw [List.filter_eq_self.2, List.length_take]
    · omega
    · intro x hx
      obtain ⟨j, hj, rfl⟩ := List.getElem_of_mem hx
      rw [List.length_take] at hj
      rw [List.getElem_take]
      have : D[i] ≤ D[j] := by
        by_cases e : j = i
        · subst e; exact Int.le_refl _
        · exact hs j i (by omega) (by omega) hi
      simpa using this
  have h2 := geN_split D (i + 1) D[i]
  omega
/-- the first place in falling levels that reaches the share -/
theorem pct_first {l D : List Int} {share : Int} (hp : D.Perm l) (hs : ∀ a b : Nat, a < b → ∀ (ha : a < D.length) (hb : b < D.length), D[b] ≤ D[a]) (h1 : 1 ≤ share) {i : Nat} (hi : i < D.length)
    (hy : share * l.length ≤ ((i : Int) + 1) * 1000000) (hn : ∀ j : Nat, j < i → ¬ share * l.length ≤ ((j : Int) + 1) * 1000000) : isPct l share D[i] := by
  refine ⟨hp.mem_iff.1 (List.getElem_mem hi), ?_, fun x hx hok => ?_⟩
  · unfold okP
    rw [← geN_perm hp]
    have := geHead hs hi
    omega
  · refine Classical.byContradiction fun hc => ?_
    have hc' : D[i] < x := by omega
    have := cntHead hs hi hc'
    unfold okP at hok
    rw [← geN_perm hp] at hok
    cases i with
    | zero =>
      have h0 : geN D x = 0 := by omega
      have hl : 0 < l.length := List.length_pos_of_mem hx
      have : 1 * 1 ≤ share * (l.length : Int) := Int.mul_le_mul h1 (by omega) (by omega) (by omega)
      omega
    | succ j =>
      have := hn j (by omega)
      omega
open Classical in
noncomputable def pctW (l : List Int) (share : Int) : Int := if h : ∃ v, isPct l share v then Classical.choose h else 0
theorem pctW_eq {l : List Int} {share v : Int} (h : isPct l share v) : pctW l share = v := by
  have hx : ∃ v, isPct l share v := ⟨v, h⟩
  unfold pctW
  rw [dif_pos hx]
  exact isPct_uniq (Classical.choose_spec hx) h
noncomputable def pcC (s w h : Int) (sv lv : List Int) (share : Int) : Int := if bp (OkRas s w h sv lv) then (if bp (1 ≤ share ∧ share ≤ 1000000) then (if (cov sv).length = 0 then 6 else 0) else 2) else 1
noncomputable def pcV (s w h : Int) (sv lv : List Int) (share : Int) : Int := if pcC s w h sv lv share = 0 then pctW (levK sv lv sv.length) share else 0
section
variable {s w h : Int} {sv lv : List Int} {share : Int}
theorem pc_yes (h1 : OkRas s w h sv lv) (h2 : 1 ≤ share ∧ share ≤ 1000000) (h3 : ¬ (cov sv).length = 0) : pcV s w h sv lv share = pctW (levK sv lv sv.length) share ∧ pcC s w h sv lv share = 0 := by
  have : pcC s w h sv lv share = 0 := by unfold pcC; rw [if_pos (by rw [bp_true]; exact h1), if_pos (by rw [bp_true]; exact h2), if_neg h3]
  unfold pcV
  rw [if_pos this]
  exact ⟨rfl, this⟩
theorem pc_none (h1 : OkRas s w h sv lv) (h2 : 1 ≤ share ∧ share ≤ 1000000) (h3 : (cov sv).length = 0) : pcV s w h sv lv share = 0 ∧ pcC s w h sv lv share = 6 := by
  have : pcC s w h sv lv share = 6 := by unfold pcC; rw [if_pos (by rw [bp_true]; exact h1), if_pos (by rw [bp_true]; exact h2), if_pos h3]
  unfold pcV
  rw [this, if_neg (by decide)]
  exact ⟨rfl, rfl⟩
theorem pc_bad (h1 : OkRas s w h sv lv) (h2 : ¬ (1 ≤ share ∧ share ≤ 1000000)) : pcV s w h sv lv share = 0 ∧ pcC s w h sv lv share = 2 := by
  have : pcC s w h sv lv share = 2 := by unfold pcC; rw [if_pos (by rw [bp_true]; exact h1), if_neg (by rw [bp_true]; exact h2)]
  unfold pcV
  rw [this, if_neg (by decide)]
  exact ⟨rfl, rfl⟩
theorem pc_no (h1 : ¬ OkRas s w h sv lv) : pcV s w h sv lv share = 0 ∧ pcC s w h sv lv share = 1 := by
  have : pcC s w h sv lv share = 1 := by unfold pcC; rw [if_neg (by rw [bp_true]; exact h1)]
  unfold pcV
  rw [this, if_neg (by decide)]
  exact ⟨rfl, rfl⟩
end
end Go.Proofs.Ytlpfnnnniifliaa
