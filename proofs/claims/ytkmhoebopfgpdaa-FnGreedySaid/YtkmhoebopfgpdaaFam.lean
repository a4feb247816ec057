/-
  OWN WORK, generic over any program: rows of rows that the function owns: a block of slices, each with a block of its own.
-/
import Derived.Test.YtkmhoebopfgpdaaOwnM
set_option linter.unusedSimpArgs false
namespace Go.Own
open Go Go.RowKit
variable [GL]
set_option linter.unusedSectionVars false

/-- the slices from the i-th on -/
def famCo {α : Type} (ν : Nat) (gs : Nat → Nat) : Nat → List (List α) → List AVal
  | _, [] => []
  | i, l :: ls => .own (ch ν i) (gs i) 0 l.length :: famCo ν gs (i + 1) ls
def famHo {α : Type} (f : α → AVal) (ν : Nat) (gs : Nat → Nat) : Nat → List (List α) → List (Nat × Blk)
  | _, [] => []
  | i, l :: ls => (ch ν i, ⟨gs i, 1, mapC f l⟩) :: famHo f ν gs (i + 1) ls
def famNo (ν : Nat) : Nat → Nat → List Nat
  | _, 0 => []
  | i, n + 1 => ch ν i :: famNo ν (i + 1) n
def famC {α : Type} (ν : Nat) (gs : Nat → Nat) (ls : List (List α)) : List AVal := famCo ν gs 0 ls
def famHf {α : Type} (f : α → AVal) (ν : Nat) (gs : Nat → Nat) (ls : List (List α)) : List (Nat × Blk) := famHo f ν gs 0 ls
abbrev famH (ν : Nat) (gs : Nat → Nat) (ls : List (List Int)) : List (Nat × Blk) := famHf AVal.i ν gs ls
def famN (ν : Nat) (n : Nat) : List Nat := famNo ν 0 n
def FamIn {α : Type} (f : α → AVal) (h : Nat → Option Blk) (ν : Nat) (gs : Nat → Nat) (ls : List (List α)) : Prop := ∀ j (hj : j < ls.length), h (ch ν j) = some ⟨gs j, 1, mapC f ls[j]⟩

section
variable {α : Type} {f : α → AVal} {ν : Nat} {gs : Nat → Nat} {ls : List (List α)}
theorem len_famCo : ∀ (ls : List (List α)) (i : Nat), (famCo ν gs i ls).length = ls.length
  | [], _ => rfl
  | l :: ls, i => by simp [famCo, len_famCo ls (i + 1)]
theorem len_famC : (famC ν gs ls).length = ls.length := len_famCo ls 0
theorem get_famCo : ∀ (ls : List (List α)) (i j : Nat) (h : j < ls.length), (famCo ν gs i ls)[j]? = some (.own (ch ν (i + j)) (gs (i + j)) 0 ls[j].length)
  | [], _, _, h => by simp at h
  | l :: ls, i, 0, _ => rfl
  | l :: ls, i, j + 1, h => by
    have := get_famCo ls (i + 1) j (by simpa using h)
    simp only [famCo, List.getElem?_cons_succ, this, List.getElem_cons_succ]
    rw [show i + 1 + j = i + (j + 1) by omega]
theorem get_famC {j : Nat} (h : j < ls.length) : (famC ν gs ls)[j]? = some (.own (ch ν j) (gs j) 0 ls[j].length) := by
  have := get_famCo (ν := ν) (gs := gs) ls 0 j h
  rw [Nat.zero_add] at this
  exact this
theorem famC_nil : famC ν gs ([] : List (List α)) = [] := rfl
theorem famH_nil : famHf f ν gs [] = [] := rfl
theorem take_famC {n : Nat} (h : ls.length = n) : (famC ν gs ls).take n = famC ν gs ls := List.take_of_length_le (by rw [len_famC]; omega)
theorem famCo_congr {gs' : Nat → Nat} : ∀ (ls : List (List α)) (i : Nat), (∀ j, i ≤ j → j < i + ls.length → gs j = gs' j) → famCo ν gs i ls = famCo ν gs' i ls
  | [], _, _ => rfl
  | l :: ls, i, h => by
    have h1 := h i (Nat.le_refl _) (by simp)
    have h2 := famCo_congr ls (i + 1) fun j hj hj' => h j (by omega) (by simp at hj' ⊢; omega)
    simp only [famCo, h1, h2]
theorem famCo_snoc (l : List α) : ∀ (ls : List (List α)) (i : Nat), famCo ν gs i (ls ++ [l]) = famCo ν gs i ls ++ [.own (ch ν (i + ls.length)) (gs (i + ls.length)) 0 l.length]
  | [], i => rfl
  | x :: ls, i => by
    simp only [List.cons_append, famCo, famCo_snoc l ls (i + 1), List.length_cons]
    rw [show i + 1 + ls.length = i + (ls.length + 1) by omega]
theorem famC_snoc (l : List α) (g : Nat) : famC ν gs ls ++ [.own (ch ν ls.length) g 0 l.length] = famC ν (upd gs ls.length g) (ls ++ [l]) := by
  unfold famC
  rw [famCo_snoc, Nat.zero_add]
  congr 1
  · exact famCo_congr ls 0 fun j _ hj => by simp [upd]; omega
  · simp [upd]
theorem look_lit : ∀ (ls : List (List α)) (i n : Nat), n < 65536 → lookupH (famHo f ν gs i ls) n = none
  | [], _, _, _ => rfl
  | l :: ls, i, n, h => by
    have := (ch_gt ν i).2
    simp only [famHo, lookupH]
    rw [if_neg (by omega)]
    exact look_lit ls (i + 1) n h
theorem look_ne {ν' j : Nat} (hne : ν' ≠ ν) : ∀ (ls : List (List α)) (i : Nat), lookupH (famHo f ν gs i ls) (ch ν' j) = none
  | [], _ => rfl
  | l :: ls, i => by
    simp only [famHo, lookupH]
    rw [if_neg (by rw [ch_ch]; exact fun h => hne h.1)]
    exact look_ne hne ls (i + 1)
theorem look_at : ∀ (ls : List (List α)) (i j : Nat) (h : j < ls.length), lookupH (famHo f ν gs i ls) (ch ν (i + j)) = some ⟨gs (i + j), 1, mapC f ls[j]⟩
  | [], _, _, h => by simp at h
  | l :: ls, i, 0, _ => by simp [famHo, lookupH]
  | l :: ls, i, j + 1, h => by
    have := look_at ls (i + 1) j (by simpa using h)
    simp only [famHo, lookupH]
    rw [if_neg (by rw [ch_ch]; omega), show i + (j + 1) = i + 1 + j by omega, this]
    rfl
theorem look_past : ∀ (ls : List (List α)) (i j : Nat), i + ls.length ≤ j → lookupH (famHo f ν gs i ls) (ch ν j) = none
  | [], _, _, _ => rfl
  | l :: ls, i, j, h => by
    simp only [famHo, lookupH]
    rw [if_neg (by rw [ch_ch]; simp at h; omega)]
    exact look_past ls (i + 1) j (by simp at h; omega)
theorem famH_lit {n : Nat} (h : n < 65536) : lookupH (famHf f ν gs ls) n = none := look_lit ls 0 n h
theorem famH_ne {ν' j : Nat} (h : ν' ≠ ν) : lookupH (famHf f ν gs ls) (ch ν' j) = none := look_ne h ls 0
theorem famH_at {j : Nat} (h : j < ls.length) : lookupH (famHf f ν gs ls) (ch ν j) = some ⟨gs j, 1, mapC f ls[j]⟩ := by
  have := look_at (f := f) (ν := ν) (gs := gs) ls 0 j h
  rw [Nat.zero_add] at this
  exact this
theorem famH_past {j : Nat} (h : ls.length ≤ j) : lookupH (famHf f ν gs ls) (ch ν j) = none := look_past ls 0 j (by omega)
theorem updU_look (h : Nat → Option Blk) : ∀ (U : List (Nat × Blk)) (β : Nat), updU h U β = match lookupH U β with | some b => some b | none => h β
  | [], _ => rfl
  | (k, v) :: U, β => by
    simp only [updU, upd, lookupH]
    split
    · rfl
    · exact updU_look h U β
theorem updU_lit {h : Nat → Option Blk} {n : Nat} (hn : n < 65536) : updU h (famHf f ν gs ls) n = h n := by rw [updU_look, famH_lit hn]
theorem updU_ne {h : Nat → Option Blk} {ν' j : Nat} (hn : ν' ≠ ν) : updU h (famHf f ν gs ls) (ch ν' j) = h (ch ν' j) := by rw [updU_look, famH_ne hn]
theorem updU_at {h : Nat → Option Blk} {j : Nat} (hj : j < ls.length) : updU h (famHf f ν gs ls) (ch ν j) = some ⟨gs j, 1, mapC f ls[j]⟩ := by rw [updU_look, famH_at hj]
theorem updU_app {h : Nat → Option Blk} {U : List (Nat × Blk)} : updU h (famHf f ν gs ls ++ U) = updU (updU h U) (famHf f ν gs ls) := by
  have : ∀ V : List (Nat × Blk), updU h (V ++ U) = updU (updU h U) V := by
    intro V
    induction V with
    | nil => rfl
    | cons p V ih => simp only [List.cons_append, updU, ih]
  exact this _
theorem mem_famNo {β : Nat} : ∀ (n i : Nat), β ∈ famNo ν i n ↔ ∃ j, i ≤ j ∧ j < i + n ∧ β = ch ν j
  | 0, i => by simp [famNo]; omega
  | n + 1, i => by
    simp only [famNo, List.mem_cons, mem_famNo n (i + 1)]
    constructor
    · rintro (h | ⟨j, h1, h2, h3⟩)
      · exact ⟨i, Nat.le_refl _, by omega, h⟩
      · exact ⟨j, by omega, by omega, h3⟩
    · rintro ⟨j, h1, h2, h3⟩
      by_cases e : j = i
      · subst e; exact .inl h3
      · exact .inr ⟨j, by omega, by omega, h3⟩
theorem lit_famN {β n : Nat} (h : β < 65536) : (β ∈ famN ν n) = False := by
  refine eq_false fun hm => ?_
  obtain ⟨j, _, _, e⟩ := (mem_famNo n 0).1 hm
  have := (ch_gt ν j).2
  omega
theorem ne_famN {ν' j n : Nat} (h : ν' ≠ ν) : (ch ν' j ∈ famN ν n) = False := by
  refine eq_false fun hm => ?_
  obtain ⟨k, _, _, e⟩ := (mem_famNo n 0).1 hm
  rw [ch_ch] at e
  exact h e.1
theorem updN_in (h : Nat → Option Blk) (β : Nat) : ∀ N : List Nat, updN h N β = if β ∈ N then none else h β
  | [] => by simp [updN]
  | x :: N => by
    simp only [updN, upd, List.mem_cons, updN_in h β N]
    by_cases e : β = x
    · simp [e]
    · simp [e]
theorem updN_lit {h : Nat → Option Blk} {n β : Nat} (hn : β < 65536) : updN h (famN ν n) β = h β := by simp only [updN_in, lit_famN hn, if_false]
theorem updN_ne {h : Nat → Option Blk} {n ν' j : Nat} (hn : ν' ≠ ν) : updN h (famN ν n) (ch ν' j) = h (ch ν' j) := by simp only [updN_in, ne_famN hn, if_false]
theorem updN_app {h : Nat → Option Blk} {n : Nat} {N : List Nat} : updN h (famN ν n ++ N) = updN (updN h N) (famN ν n) := by
  have : ∀ V : List Nat, updN h (V ++ N) = updN (updN h N) V := by
    intro V
    induction V with
    | nil => rfl
    | cons p V ih => simp only [List.cons_append, updN, ih]
  exact this _
theorem nodup_famNo : ∀ (n i : Nat), (famNo ν i n).Nodup
  | 0, _ => by simp [famNo]
  | n + 1, i => by
    simp only [famNo, List.nodup_cons, nodup_famNo n (i + 1), and_true]
    intro hm
    obtain ⟨j, h1, _, e⟩ := (mem_famNo n (i + 1)).1 hm
    rw [ch_ch] at e
    omega
theorem nodup_famN {n : Nat} : (famN ν n).Nodup = True := eq_true (nodup_famNo n 0)
/-- none of a family's names -/
def famFree (ν : Nat) : List Nat → Prop
  | [] => True
  | x :: L => (∀ n, x ∉ famN ν n) ∧ famFree ν L
theorem famFree_nil : famFree ν [] = True := rfl
theorem famFree_lit {x : Nat} {L : List Nat} (h : x < 65536) : famFree ν (x :: L) = famFree ν L := by
  have : ∀ n, x ∉ famN ν n := fun n hm => by rw [lit_famN h] at hm; exact hm
  exact propext ⟨fun h => h.2, fun h => ⟨this, h⟩⟩
theorem famFree_ne {ν' j : Nat} {L : List Nat} (h : ν' ≠ ν) : famFree ν (ch ν' j :: L) = famFree ν L := by
  have : ∀ n, ch ν' j ∉ famN ν n := fun n hm => by rw [ne_famN h] at hm; exact hm
  exact propext ⟨fun h => h.2, fun h => ⟨this, h⟩⟩
theorem famFree_fam {ν' n : Nat} {L : List Nat} (h : ν' ≠ ν) : famFree ν (famN ν' n ++ L) = famFree ν L := by
  have : ∀ n i, famFree ν (famNo ν' i n ++ L) = famFree ν L := by
    intro n
    induction n with
    | zero => intro i; rfl
    | succ n ih => intro i; rw [show famNo ν' i (n + 1) ++ L = ch ν' i :: (famNo ν' (i + 1) n ++ L) from rfl, famFree_ne h, ih]
  exact this n 0
theorem famFree_fam0 {ν' n : Nat} (h : ν' ≠ ν) : famFree ν (famN ν' n) = True := by
  have := famFree_fam (ν := ν) (n := n) (L := []) h
  rw [List.append_nil] at this
  rw [this, famFree_nil]
theorem nodup_app {n : Nat} {L : List Nat} (h : famFree ν L) : (famN ν n ++ L).Nodup = L.Nodup := by
  have key : ∀ L : List Nat, famFree ν L → ∀ x ∈ L, ∀ m, x ∉ famN ν m := by
    intro L
    induction L with
    | nil => intro _ x hx; simp at hx
    | cons y L ih =>
      intro h x hx
      rcases List.mem_cons.1 hx with e | e
      · exact e ▸ h.1
      · exact ih h.2 x e
  rw [List.nodup_append]
  refine propext ⟨fun h => h.2.1, fun hL => ⟨nodup_famNo n 0, hL, fun a ha b hb e => key L h b hb n (e ▸ ha)⟩⟩
theorem map_famHo : ∀ (ls : List (List α)) (i : Nat), (famHo f ν gs i ls).map (fun x => x.1) = famNo ν i ls.length
  | [], _ => rfl
  | l :: ls, i => by simp only [famHo, List.map_cons, List.length_cons, famNo, map_famHo ls (i + 1)]
theorem map_famH : (famHf f ν gs ls).map (fun x => x.1) = famN ν ls.length := map_famHo ls 0
end

/-! ### a family that stands in the heap -/
section
variable {α : Type} {f : α → AVal} {ν : Nat} {gs : Nat → Nat} {ls : List (List α)} {h : Nat → Option Blk}
theorem in_lit {n : Nat} {v : Option Blk} (hn : n < 65536) : FamIn f (upd h n v) ν gs ls = FamIn f h ν gs ls := by
  have e : ∀ j, upd h n v (ch ν j) = h (ch ν j) := fun j => by simp only [upd_apply, ch_lit hn, if_false]
  unfold FamIn
  simp only [e]
theorem in_ne {ν' j : Nat} {v : Option Blk} (hn : ν' ≠ ν) : FamIn f (upd h (ch ν' j) v) ν gs ls = FamIn f h ν gs ls := by
  have e : ∀ k, upd h (ch ν' j) v (ch ν k) = h (ch ν k) := fun k => by
    rw [upd_apply, if_neg]
    rw [ch_ch]
    exact fun h => hn h.1.symm
  unfold FamIn
  simp only [e]
theorem in_updN_ne {ν' n : Nat} (hn : ν' ≠ ν) : FamIn f (updN h (famN ν' n)) ν gs ls = FamIn f h ν gs ls := by
  have e : ∀ k, updN h (famN ν' n) (ch ν k) = h (ch ν k) := fun k => updN_ne (Ne.symm hn)
  unfold FamIn
  simp only [e]
theorem in_updU_ne {ν' : Nat} {gs' : Nat → Nat} {α' : Type} {f' : α' → AVal} {ls' : List (List α')} (hn : ν' ≠ ν) : FamIn f (updU h (famHf f' ν' gs' ls')) ν gs ls = FamIn f h ν gs ls := by
  have e : ∀ k, updU h (famHf f' ν' gs' ls') (ch ν k) = h (ch ν k) := fun k => updU_ne (Ne.symm hn)
  unfold FamIn
  simp only [e]
theorem in_updU : FamIn f (updU h (famHf f ν gs ls)) ν gs ls = True := eq_true fun _ hj => updU_at hj
theorem in_look : FamIn f (lookupH (famHf f ν gs ls)) ν gs ls = True := eq_true fun _ hj => famH_at hj
theorem in_look_lit {n : Nat} {b : Blk} {r : List (Nat × Blk)} (hn : n < 65536) : FamIn f (lookupH ((n, b) :: r)) ν gs ls = FamIn f (lookupH r) ν gs ls := by
  have e : ∀ j, lookupH ((n, b) :: r) (ch ν j) = lookupH r (ch ν j) := fun j => by
    simp only [lookupH, ch_lit hn, if_false]
  unfold FamIn
  simp only [e]
theorem in_look_ne {ν' j : Nat} {b : Blk} {r : List (Nat × Blk)} (hn : ν' ≠ ν) : FamIn f (lookupH ((ch ν' j, b) :: r)) ν gs ls = FamIn f (lookupH r) ν gs ls := by
  have e : ∀ k, lookupH ((ch ν' j, b) :: r) (ch ν k) = lookupH r (ch ν k) := fun k => by
    show (if ch ν k = ch ν' j then _ else _) = _
    rw [if_neg]
    rw [ch_ch]
    exact fun h => hn h.1.symm
  unfold FamIn
  simp only [e]
theorem in_ite {n : Nat} {b : Option Blk} {r : Nat → Option Blk} (hn : n < 65536) : FamIn f (fun x => if x = n then b else r x) ν gs ls = FamIn f r ν gs ls := by
  have e : ∀ j, (fun x => if x = n then b else r x) (ch ν j) = r (ch ν j) := fun j => by
    simp only [ch_lit hn, if_false]
  unfold FamIn
  simp only [e]
theorem in_ite_ne {ν' j : Nat} {b : Option Blk} {r : Nat → Option Blk} (hn : ν' ≠ ν) : FamIn f (fun x => if x = ch ν' j then b else r x) ν gs ls = FamIn f r ν gs ls := by
  have e : ∀ k, (fun x => if x = ch ν' j then b else r x) (ch ν k) = r (ch ν k) := fun k => by
    simp only
    rw [if_neg]
    rw [ch_ch]
    exact fun h => hn h.1.symm
  unfold FamIn
  simp only [e]
theorem in_lookU_lit {n : Nat} {b : Blk} {r : List (Nat × Blk)} (hn : n < 65536) : FamIn f (lookupU ((n, b) :: r)) ν gs ls = FamIn f (lookupU r) ν gs ls := by
  have e : ∀ j, lookupU ((n, b) :: r) (ch ν j) = lookupU r (ch ν j) := fun j => by
    simp only [w_lookup_cons, ch_lit hn, if_false]
  unfold FamIn
  simp only [e]
theorem lookU_lookH : ∀ (U : List (Nat × Blk)) (β : Nat), lookupU U β = lookupH U β
  | [], _ => rfl
  | (k, v) :: U, β => by
    simp only [lookupU, lookupH, lookU_lookH U β]
theorem in_lookU : FamIn f (lookupU (famHf f ν gs ls)) ν gs ls = True := eq_true fun _ hj => by rw [lookU_lookH]; exact famH_at hj
theorem lookU_app {U : List (Nat × Blk)} {β : Nat} : ∀ V : List (Nat × Blk), lookupU (V ++ U) β = match lookupU V β with | some b => some b | none => lookupU U β
  | [] => rfl
  | (k, v) :: V => by
    simp only [List.cons_append, lookupU]
    split
    · rfl
    · exact lookU_app V
theorem lookU_app_lit {n : Nat} {U : List (Nat × Blk)} (hn : n < 65536) : lookupU (famHf f ν gs ls ++ U) n = lookupU U n := by rw [lookU_app, lookU_lookH, famH_lit hn]
theorem lookU_app_ne {ν' j : Nat} {U : List (Nat × Blk)} (hn : ν' ≠ ν) : lookupU (famHf f ν gs ls ++ U) (ch ν' j) = lookupU U (ch ν' j) := by rw [lookU_app, lookU_lookH, famH_ne hn]
theorem in_lookU_app {U : List (Nat × Blk)} : FamIn f (lookupU (famHf f ν gs ls ++ U)) ν gs ls = True := eq_true fun _ hj => by rw [lookU_app, lookU_lookH, famH_at hj]
theorem in_lookU_ne {ν' j : Nat} {b : Blk} {r : List (Nat × Blk)} (hn : ν' ≠ ν) : FamIn f (lookupU ((ch ν' j, b) :: r)) ν gs ls = FamIn f (lookupU r) ν gs ls := by
  have e : ∀ k, lookupU ((ch ν' j, b) :: r) (ch ν k) = lookupU r (ch ν k) := fun k => by
    show (if ch ν k = ch ν' j then _ else _) = _
    rw [if_neg]
    rw [ch_ch]
    exact fun h => hn h.1.symm
  unfold FamIn
  simp only [e]
theorem mem_fam_app {x n : Nat} {L : List Nat} : (x ∈ famN ν n ++ L) = (x ∈ famN ν n ∨ x ∈ L) := propext List.mem_append
theorem map_fam_app {U : List (Nat × Blk)} : (famHf f ν gs ls ++ U).map (fun x => x.1) = famN ν ls.length ++ U.map (fun x => x.1) := by rw [List.map_append, map_famH]
theorem app_fam {n : Nat} {L M : List Nat} : (famN ν n ++ L) ++ M = famN ν n ++ (L ++ M) := List.append_assoc ..
theorem app_famH {U V : List (Nat × Blk)} : (famHf f ν gs ls ++ U) ++ V = famHf f ν gs ls ++ (U ++ V) := List.append_assoc ..
theorem lookU_lit {n : Nat} (hn : n < 65536) : lookupU (famHf f ν gs ls) n = none := by rw [lookU_lookH]; exact famH_lit hn
theorem lookU_ne {ν' j : Nat} (hn : ν' ≠ ν) : lookupU (famHf f ν gs ls) (ch ν' j) = none := by rw [lookU_lookH]; exact famH_ne hn
theorem lookU_at {j : Nat} (hj : j < ls.length) : lookupU (famHf f ν gs ls) (ch ν j) = some ⟨gs j, 1, mapC f ls[j]⟩ := by rw [lookU_lookH]; exact famH_at hj
end

/-! ### what rows read as -/
section
variable {s sm : ASt} {ν G : Nat} {gs : Nat → Nat} {ls : List (List Int)}
theorem embL_rowso : ∀ (ls : List (List Int)) (i : Nat), embL G ν i (mapC xints ls) = (famCo ν (fun _ => G) i ls, famHo AVal.i ν (fun _ => G) i ls)
  | [], _ => rfl
  | l :: ls, i => by
    have e : embL G ν i (mapC xints (l :: ls)) = ((emb G (ch ν i) (xints l)).1 :: (embL G ν (i + 1) (mapC xints ls)).1, (emb G (ch ν i) (xints l)).2 ++ (embL G ν (i + 1) (mapC xints ls)).2) := rfl
    rw [e, embL_rowso ls (i + 1)]
    simp only [xints, w_emb_ol, embL_i, famCo, famHo, List.cons_append, List.nil_append]
theorem embL_rows : embL G ν 0 (mapC xints ls) = (famC ν (fun _ => G) ls, famH ν (fun _ => G) ls) := embL_rowso ls 0
theorem blk_in {j : Nat} (h : FamIn AVal.i s.heap ν gs ls) (hj : j < ls.length) : blkOf s (ch ν j) (gs j) = some ⟨gs j, 1, mapC AVal.i ls[j]⟩ := by
  unfold blkOf
  rw [h j hj]
  simp
theorem rows_ind {p : List (List Int) → Nat → Prop} (h0 : ∀ i, p [] i) (hs : ∀ l ls i, p ls (i + 1) → p (l :: ls) i) : ∀ ls i, p ls i
  | [], i => h0 i
  | l :: ls, i => hs l ls i (rows_ind h0 hs ls (i + 1))
def FamAt (h : Nat → Option Blk) (ν : Nat) (gs : Nat → Nat) (i : Nat) (ls : List (List Int)) : Prop := ∀ j (hj : j < ls.length), h (ch ν (i + j)) = some ⟨gs (i + j), 1, mapC AVal.i ls[j]⟩
theorem famAt_zero {h : Nat → Option Blk} (hf : FamIn AVal.i h ν gs ls) : FamAt h ν gs 0 ls := fun j hj => by rw [Nat.zero_add]; exact hf j hj
theorem famAt_cons {h : Nat → Option Blk} {i : Nat} {l : List Int} (hf : FamAt h ν gs i (l :: ls)) : h (ch ν i) = some ⟨gs i, 1, mapC AVal.i l⟩ ∧ FamAt h ν gs (i + 1) ls :=
  ⟨hf 0 (by simp), fun j hj => by
    have := hf (j + 1) (by simpa using hj)
    rw [show i + 1 + j = i + (j + 1) by omega]
    exact this⟩
theorem blk_at {i : Nat} {b : Blk} (h : s.heap (ch ν i) = some b) : blkOf s (ch ν i) b.gen = some b := by
  unfold blkOf
  rw [h]
  simp
theorem xnL_rowso : ∀ (ls : List (List Int)) (i : Nat), FamAt s.heap ν gs i ls → xnL s (famCo ν gs i ls) (mapC xints ls) = famNo ν i ls.length
  | [], _, _ => rfl
  | l :: ls, i, h => by
    obtain ⟨h1, h2⟩ := famAt_cons h
    have e : xnL s (famCo ν gs i (l :: ls)) (mapC xints (l :: ls)) = xn s (.own (ch ν i) (gs i) 0 l.length) (xints l) ++ xnL s (famCo ν gs (i + 1) ls) (mapC xints ls) := rfl
    have b := blk_at h1
    rw [e, xnL_rowso ls (i + 1) h2, w_xn_own]
    simp only at b
    rw [b]
    simp only [xnL_i, List.length_cons, famNo, List.cons_append, List.nil_append]
theorem xnL_rows (h : FamIn AVal.i s.heap ν gs ls) : xnL s (famC ν gs ls) (mapC xints ls) = famN ν ls.length := xnL_rowso ls 0 (famAt_zero h)
theorem XVL_rowso : ∀ (ls : List (List Int)) (i : Nat), FamAt s.heap ν gs i ls → XVL sm s (famCo ν gs i ls) (mapC xints ls) = True
  | [], _, _ => rfl
  | l :: ls, i, h => by
    obtain ⟨h1, h2⟩ := famAt_cons h
    have e : XVL sm s (famCo ν gs i (l :: ls)) (mapC xints (l :: ls)) = (XV sm s (.own (ch ν i) (gs i) 0 l.length) (xints l) ∧ XVL sm s (famCo ν gs (i + 1) ls) (mapC xints ls)) := rfl
    have b := blk_at h1
    rw [e, XVL_rowso ls (i + 1) h2, w_XV_own]
    simp only at b
    rw [b]
    have e3 : (mapC AVal.i l).take l.length = mapC AVal.i l := List.take_of_length_le (by rw [len_mapC]; exact Nat.le_refl _)
    simp only [Nat.mul_one, e3, XVL_i, len_mapC, and_true, Nat.mul_one, Nat.le_refl]
theorem XVL_rows (h : FamIn AVal.i s.heap ν gs ls) : XVL sm s (famC ν gs ls) (mapC xints ls) = True := XVL_rowso ls 0 (famAt_zero h)
theorem xtreeL_rowso : ∀ (ls : List (List Int)) (i : Nat), FamAt s.heap ν gs i ls → xtreeL s (famCo ν gs i ls) (mapC xints ls) = true
  | [], _, _ => rfl
  | l :: ls, i, h => by
    obtain ⟨h1, h2⟩ := famAt_cons h
    have e : xtreeL s (famCo ν gs i (l :: ls)) (mapC xints (l :: ls)) = (xtree s (.own (ch ν i) (gs i) 0 l.length) (xints l) && xtreeL s (famCo ν gs (i + 1) ls) (mapC xints ls)) := rfl
    have b := blk_at h1
    rw [e, xtreeL_rowso ls (i + 1) h2, w_xtree_own]
    simp only at b
    rw [b]
    have e3 : (mapC AVal.i l).take (l.length * 1) = mapC AVal.i l := List.take_of_length_le (by rw [len_mapC]; omega)
    simp only [e3, xtreeL_i, Bool.and_self]
theorem xtreeL_rows (h : FamIn AVal.i s.heap ν gs ls) : xtreeL s (famC ν gs ls) (mapC xints ls) = true := xtreeL_rowso ls 0 (famAt_zero h)
end
section
variable {α : Type} {f : α → AVal} {s : ASt} {ν : Nat} {gs : Nat → Nat} {ls : List (List α)}
def FamAtf (f : α → AVal) (h : Nat → Option Blk) (ν : Nat) (gs : Nat → Nat) (i : Nat) (ls : List (List α)) : Prop := ∀ j (hj : j < ls.length), h (ch ν (i + j)) = some ⟨gs (i + j), 1, mapC f ls[j]⟩
theorem famAtf_cons {h : Nat → Option Blk} {i : Nat} {l : List α} (hf : FamAtf f h ν gs i (l :: ls)) : h (ch ν i) = some ⟨gs i, 1, mapC f l⟩ ∧ FamAtf f h ν gs (i + 1) ls :=
  ⟨hf 0 (by simp), fun j hj => by
    have := hf (j + 1) (by simpa using hj)
    rw [show i + 1 + j = i + (j + 1) by omega]
    exact this⟩
theorem mapO_rowso (hf : ∀ x, (f x).tree = true) (k : Nat) : ∀ (ls : List (List α)) (i : Nat), FamAtf f s.heap ν gs i ls → mapO (snap (k + 1) s) (famCo ν gs i ls) = some (mapC (lstC f) ls)
  | [], _, _ => rfl
  | l :: ls, i, h => by
    obtain ⟨h1, h2⟩ := famAtf_cons h
    have b := blk_at h1
    simp only at b
    have e : snap (k + 1) s (.own (ch ν i) (gs i) 0 l.length) = some (lstC f l) := by
      rw [snap_own, b]
      have e3 : (mapC f l).take l.length = mapC f l := List.take_of_length_le (by rw [len_mapC]; exact Nat.le_refl _)
      simp only [List.drop_zero, Nat.mul_one, e3, treeL_mapC f l hf, len_mapC, Nat.zero_add, Nat.le_refl, if_true]
    show (match snap (k + 1) s (.own (ch ν i) (gs i) 0 l.length), mapO (snap (k + 1) s) (famCo ν gs (i + 1) ls) with | some x, some l => some (x :: l) | _, _ => none) = _
    rw [e, mapO_rowso hf k ls (i + 1) h2]
    rfl
theorem mapO_rowsf (hf : ∀ x, (f x).tree = true) {k : Nat} (h : FamIn f s.heap ν gs ls) : mapO (snap (k + 1) s) (famC ν gs ls) = some (mapC (lstC f) ls) := mapO_rowso hf k ls 0 (fun j hj => by rw [Nat.zero_add]; exact h j hj)
theorem fam_itef {n : Nat} : (if treeL (famC ν gs ls) = true then some (AVal.lst (famC ν gs ls) n) else some (AVal.lst (mapC (lstC f) ls) n)) = some (AVal.lst (mapC (lstC f) ls) n) := by
  cases ls with
  | nil => rfl
  | cons l ls => rfl
end
section
variable {s sm : ASt} {ν G : Nat} {gs : Nat → Nat} {ls : List (List Int)}
theorem mapO_rows5 (h : FamIn AVal.i s.heap ν gs ls) : mapO (snap 5 s) (famC ν gs ls) = some (mapC ints ls) := mapO_rowsf (fun _ => rfl) h
theorem mapO_rows4 (h : FamIn AVal.i s.heap ν gs ls) : mapO (snap 4 s) (famC ν gs ls) = some (mapC ints ls) := mapO_rowsf (fun _ => rfl) h
theorem mapO_bools5 {ls : List (List Bool)} (h : FamIn AVal.b s.heap ν gs ls) : mapO (snap 5 s) (famC ν gs ls) = some (mapC (lstC AVal.b) ls) := mapO_rowsf (fun _ => rfl) h
theorem xflatL_rows : xflatL (mapC xints ls) = true := by
  induction ls with
  | nil => rfl
  | cons l ls ih =>
    show (xflatL (mapC xi l) && xflatL (mapC xints ls)) = true
    rw [xflatL_i, ih]
    rfl
theorem freezeL_rows : freezeL (mapC xints ls) = mapC ints ls := by
  induction ls with
  | nil => rfl
  | cons l ls ih =>
    show AVal.lst (freezeL (mapC xi l)) l.length :: freezeL (mapC xints ls) = _
    rw [freezeL_i, ih]
    rfl
theorem xlensL_rows : xlensL (mapC xints ls) = ∀ x ∈ ls, x.length ≤ 9223372036854775807 := by
  induction ls with
  | nil => simp [mapC, xlensL]
  | cons l ls ih =>
    show ((l.length ≤ maxI ∧ xlensL (mapC xi l)) ∧ xlensL (mapC xints ls)) = _
    rw [ih, xlensL_i]
    simp [maxI]
theorem wkH_fam {α : Type} {f : α → AVal} {ls : List (List α)} {s s' : ASt} {g : Nat} : wkH s s' g (famHf f ν gs ls) ↔ ∀ j (hj : j < ls.length), wkB s s' g (s.heap (ch ν j)) ⟨gs j, 1, mapC f ls[j]⟩ := by
  have key : ∀ (ls : List (List α)) (i : Nat), wkH s s' g (famHo f ν gs i ls) ↔ ∀ j (hj : j < ls.length), wkB s s' g (s.heap (ch ν (i + j))) ⟨gs (i + j), 1, mapC f ls[j]⟩ := by
    intro ls
    induction ls with
    | nil => intro i; simp [famHo, wkH]
    | cons l ls ih =>
      intro i
      show (wkB s s' g (s.heap (ch ν i)) ⟨gs i, 1, mapC f l⟩ ∧ wkH s s' g (famHo f ν gs (i + 1) ls)) ↔ _
      rw [ih (i + 1)]
      constructor
      · rintro ⟨h1, h2⟩ j hj
        cases j with
        | zero => exact h1
        | succ j =>
          have := h2 j (by simpa using hj)
          rw [show i + 1 + j = i + (j + 1) by omega] at this
          exact this
      · intro h
        refine ⟨h 0 (by simp), fun j hj => ?_⟩
        have := h (j + 1) (by simpa using hj)
        rw [show i + (j + 1) = i + 1 + j by omega] at this
        exact this
  have := key ls 0
  simp only [Nat.zero_add] at this
  exact this
end
theorem famS : type_of% (And.intro (And.intro (And.intro (And.intro @len_famC @famC_nil) (And.intro @famH_nil @take_famC)) (And.intro (And.intro @famH_lit @famH_ne) (And.intro @updU_lit @updU_ne))) (And.intro (And.intro (And.intro @updU_app @lit_famN) (And.intro @ne_famN @updN_lit)) (And.intro (And.intro @updN_ne @updN_app) (And.intro @nodup_famN @famFree_nil)))) :=
  (And.intro (And.intro (And.intro (And.intro @len_famC @famC_nil) (And.intro @famH_nil @take_famC)) (And.intro (And.intro @famH_lit @famH_ne) (And.intro @updU_lit @updU_ne))) (And.intro (And.intro (And.intro @updU_app @lit_famN) (And.intro @ne_famN @updN_lit)) (And.intro (And.intro @updN_ne @updN_app) (And.intro @nodup_famN @famFree_nil))))
theorem famS2 : type_of% (And.intro (And.intro (And.intro (And.intro @famFree_lit @famFree_ne) (And.intro @famFree_fam @famFree_fam0)) (And.intro (And.intro @nodup_app @map_famH) (And.intro @in_lit @in_ne))) (And.intro (And.intro (And.intro @in_updN_ne @in_updU_ne) (And.intro @in_updU @in_look)) (And.intro (And.intro @in_look_lit @in_look_ne) (And.intro (And.intro @in_lookU_lit @in_lookU) (And.intro @in_ite @in_ite_ne))))) :=
  (And.intro (And.intro (And.intro (And.intro @famFree_lit @famFree_ne) (And.intro @famFree_fam @famFree_fam0)) (And.intro (And.intro @nodup_app @map_famH) (And.intro @in_lit @in_ne))) (And.intro (And.intro (And.intro @in_updN_ne @in_updU_ne) (And.intro @in_updU @in_look)) (And.intro (And.intro @in_look_lit @in_look_ne) (And.intro (And.intro @in_lookU_lit @in_lookU) (And.intro @in_ite @in_ite_ne)))))
theorem famS3 : type_of% (And.intro (And.intro (And.intro (And.intro @lookU_lit @lookU_ne) (And.intro @embL_rows @xnL_rows)) (And.intro (And.intro @XVL_rows @xtreeL_rows) (And.intro @mapO_rows5 @mapO_rows4))) (And.intro (And.intro (And.intro (And.intro @fam_itef @mapO_bools5) @xflatL_rows) (And.intro @freezeL_rows (And.intro @lookU_app_lit @lookU_app_ne))) (And.intro (And.intro @in_lookU_app @in_lookU_ne) (And.intro (And.intro @mem_fam_app @map_fam_app) (And.intro @app_fam @app_famH))))) :=
  (And.intro (And.intro (And.intro (And.intro @lookU_lit @lookU_ne) (And.intro @embL_rows @xnL_rows)) (And.intro (And.intro @XVL_rows @xtreeL_rows) (And.intro @mapO_rows5 @mapO_rows4))) (And.intro (And.intro (And.intro (And.intro @fam_itef @mapO_bools5) @xflatL_rows) (And.intro @freezeL_rows (And.intro @lookU_app_lit @lookU_app_ne))) (And.intro (And.intro @in_lookU_app @in_lookU_ne) (And.intro (And.intro @mem_fam_app @map_fam_app) (And.intro @app_fam @app_famH)))))
end Go.Own
