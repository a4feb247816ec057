/-
  OWN WORK, generic over any program: rows of rows of bools that the function owns or hands over.
-/
import Derived.Test.YtkmhoebopfgpdaaFam
set_option linter.unusedSimpArgs false
namespace Go.Own
open Go Go.RowKit
variable [GL]
set_option linter.unusedSectionVars false
abbrev xbools (l : List Bool) : XT := .ol 1 (mapC xb l) l.length
abbrev bools (l : List Bool) : AVal := lstC AVal.b l
theorem embL_b (G ν : Nat) (l : List Bool) (i : Nat) : embL G ν i (mapC xb l) = (mapC AVal.b l, []) := embL_leaf AVal.b G ν l i
theorem xnL_b (s : ASt) (l : List Bool) (as : List AVal) : xnL s as (mapC xb l) = [] := xnL_leaf AVal.b s l as
theorem XVL_b (sm s : ASt) (l : List Bool) : XVL sm s (mapC AVal.b l) (mapC xb l) = True := XVL_leaf AVal.b sm s (fun _ => rfl) l
theorem xtreeL_b (s : ASt) (l : List Bool) : xtreeL s (mapC AVal.b l) (mapC xb l) = true := xtreeL_leaf AVal.b s (fun _ => rfl) l
theorem xflatL_b (l : List Bool) : xflatL (mapC xb l) = true := xflatL_leaf AVal.b (fun _ => rfl) l
theorem freezeL_b (l : List Bool) : freezeL (mapC xb l) = mapC AVal.b l := freezeL_leaf AVal.b l
theorem xlensL_b (l : List Bool) : xlensL (mapC xb l) = True := by
  induction l with
  | nil => rfl
  | cons x l ih =>
    show (xlens (xb x) ∧ xlensL (mapC xb l)) = True
    rw [ih]
    simp [xlens, lens]
/-! ### what rows read as -/
section
variable {s sm : ASt} {ν G : Nat} {gs : Nat → Nat} {ls : List (List Bool)}
theorem embL_rowsoB : ∀ (ls : List (List Bool)) (i : Nat), embL G ν i (mapC xbools ls) = (famCo ν (fun _ => G) i ls, famHo AVal.b ν (fun _ => G) i ls)
  | [], _ => rfl
  | l :: ls, i => by
    have e : embL G ν i (mapC xbools (l :: ls)) = ((emb G (ch ν i) (xbools l)).1 :: (embL G ν (i + 1) (mapC xbools ls)).1, (emb G (ch ν i) (xbools l)).2 ++ (embL G ν (i + 1) (mapC xbools ls)).2) := rfl
    rw [e, embL_rowsoB ls (i + 1)]
    simp only [xbools, w_emb_ol, embL_b, famCo, famHo, List.cons_append, List.nil_append]
theorem embL_rowsB : embL G ν 0 (mapC xbools ls) = (famC ν (fun _ => G) ls, famHf AVal.b ν (fun _ => G) ls) := embL_rowsoB ls 0
theorem blk_inB {j : Nat} (h : FamIn AVal.b s.heap ν gs ls) (hj : j < ls.length) : blkOf s (ch ν j) (gs j) = some ⟨gs j, 1, mapC AVal.b ls[j]⟩ := by
  unfold blkOf
  rw [h j hj]
  simp
theorem rows_indB {p : List (List Bool) → Nat → Prop} (h0 : ∀ i, p [] i) (hs : ∀ l ls i, p ls (i + 1) → p (l :: ls) i) : ∀ ls i, p ls i
  | [], i => h0 i
  | l :: ls, i => hs l ls i (rows_indB h0 hs ls (i + 1))
def FamAtB (h : Nat → Option Blk) (ν : Nat) (gs : Nat → Nat) (i : Nat) (ls : List (List Bool)) : Prop := ∀ j (hj : j < ls.length), h (ch ν (i + j)) = some ⟨gs (i + j), 1, mapC AVal.b ls[j]⟩
theorem famAt_zeroB {h : Nat → Option Blk} (hf : FamIn AVal.b h ν gs ls) : FamAtB h ν gs 0 ls := fun j hj => by rw [Nat.zero_add]; exact hf j hj
theorem famAt_consB {h : Nat → Option Blk} {i : Nat} {l : List Bool} (hf : FamAtB h ν gs i (l :: ls)) : h (ch ν i) = some ⟨gs i, 1, mapC AVal.b l⟩ ∧ FamAtB h ν gs (i + 1) ls :=
  ⟨hf 0 (by simp), fun j hj => by
    have := hf (j + 1) (by simpa using hj)
    rw [show i + 1 + j = i + (j + 1) by omega]
    exact this⟩
theorem blk_atB {i : Nat} {b : Blk} (h : s.heap (ch ν i) = some b) : blkOf s (ch ν i) b.gen = some b := by
  unfold blkOf
  rw [h]
  simp
theorem xnL_rowsoB : ∀ (ls : List (List Bool)) (i : Nat), FamAtB s.heap ν gs i ls → xnL s (famCo ν gs i ls) (mapC xbools ls) = famNo ν i ls.length
  | [], _, _ => rfl
  | l :: ls, i, h => by
    obtain ⟨h1, h2⟩ := famAt_consB h
    have e : xnL s (famCo ν gs i (l :: ls)) (mapC xbools (l :: ls)) = xn s (.own (ch ν i) (gs i) 0 l.length) (xbools l) ++ xnL s (famCo ν gs (i + 1) ls) (mapC xbools ls) := rfl
    have b := blk_atB h1
    rw [e, xnL_rowsoB ls (i + 1) h2, w_xn_own]
    simp only at b
    rw [b]
    simp only [xnL_b, List.length_cons, famNo, List.cons_append, List.nil_append]
theorem xnL_rowsB (h : FamIn AVal.b s.heap ν gs ls) : xnL s (famC ν gs ls) (mapC xbools ls) = famN ν ls.length := xnL_rowsoB ls 0 (famAt_zeroB h)
theorem XVL_rowsoB : ∀ (ls : List (List Bool)) (i : Nat), FamAtB s.heap ν gs i ls → XVL sm s (famCo ν gs i ls) (mapC xbools ls) = True
  | [], _, _ => rfl
  | l :: ls, i, h => by
    obtain ⟨h1, h2⟩ := famAt_consB h
    have e : XVL sm s (famCo ν gs i (l :: ls)) (mapC xbools (l :: ls)) = (XV sm s (.own (ch ν i) (gs i) 0 l.length) (xbools l) ∧ XVL sm s (famCo ν gs (i + 1) ls) (mapC xbools ls)) := rfl
    have b := blk_atB h1
    rw [e, XVL_rowsoB ls (i + 1) h2, w_XV_own]
    simp only at b
    rw [b]
    have e3 : (mapC AVal.b l).take l.length = mapC AVal.b l := List.take_of_length_le (by rw [len_mapC]; exact Nat.le_refl _)
    simp only [Nat.mul_one, e3, XVL_b, len_mapC, and_true, Nat.mul_one, Nat.le_refl]
theorem XVL_rowsB (h : FamIn AVal.b s.heap ν gs ls) : XVL sm s (famC ν gs ls) (mapC xbools ls) = True := XVL_rowsoB ls 0 (famAt_zeroB h)
theorem xtreeL_rowsoB : ∀ (ls : List (List Bool)) (i : Nat), FamAtB s.heap ν gs i ls → xtreeL s (famCo ν gs i ls) (mapC xbools ls) = true
  | [], _, _ => rfl
  | l :: ls, i, h => by
    obtain ⟨h1, h2⟩ := famAt_consB h
    have e : xtreeL s (famCo ν gs i (l :: ls)) (mapC xbools (l :: ls)) = (xtree s (.own (ch ν i) (gs i) 0 l.length) (xbools l) && xtreeL s (famCo ν gs (i + 1) ls) (mapC xbools ls)) := rfl
    have b := blk_atB h1
    rw [e, xtreeL_rowsoB ls (i + 1) h2, w_xtree_own]
    simp only at b
    rw [b]
    have e3 : (mapC AVal.b l).take (l.length * 1) = mapC AVal.b l := List.take_of_length_le (by rw [len_mapC]; omega)
    simp only [e3, xtreeL_b, Bool.and_self]
theorem xtreeL_rowsB (h : FamIn AVal.b s.heap ν gs ls) : xtreeL s (famC ν gs ls) (mapC xbools ls) = true := xtreeL_rowsoB ls 0 (famAt_zeroB h)
end
section
variable {s sm : ASt} {ν G : Nat} {gs : Nat → Nat} {ls : List (List Bool)}
theorem xflatL_rowsB : xflatL (mapC xbools ls) = true := by
  induction ls with
  | nil => rfl
  | cons l ls ih =>
    show (xflatL (mapC xb l) && xflatL (mapC xbools ls)) = true
    rw [xflatL_b, ih]
    rfl
theorem freezeL_rowsB : freezeL (mapC xbools ls) = mapC bools ls := by
  induction ls with
  | nil => rfl
  | cons l ls ih =>
    show AVal.lst (freezeL (mapC xb l)) l.length :: freezeL (mapC xbools ls) = _
    rw [freezeL_b, ih]
    rfl
theorem xlensL_rowsB : xlensL (mapC xbools ls) = ∀ x ∈ ls, x.length ≤ 9223372036854775807 := by
  induction ls with
  | nil => simp [mapC, xlensL]
  | cons l ls ih =>
    show ((l.length ≤ maxI ∧ xlensL (mapC xb l)) ∧ xlensL (mapC xbools ls)) = _
    rw [ih, xlensL_b]
    simp [maxI]
end
theorem WVL_famo {α : Type} {f : α → AVal} {s s' : ASt} {ν : Nat} {gs : Nat → Nat} (hf : ∀ x, (f x).tree = true) (hd : ∀ j, s'.heap (ch ν j) = none) : ∀ (ls : List (List α)) (i : Nat), FamAtf f s.heap ν gs i ls → WVL s s' (famCo ν gs i ls) (mapC (lstC f) ls)
  | [], _, _ => trivial
  | l :: ls, i, h => by
    obtain ⟨h1, h2⟩ := famAtf_cons h
    have e3 : (mapC f l).take (l.length * 1) = mapC f l := List.take_of_length_le (by rw [len_mapC]; omega)
    have e4 : ((mapC f l).drop 0).take (l.length * 1) = mapC f l := by rw [List.drop_zero, e3]
    exact ⟨.inr (.inr (.inr (.inl ⟨ch ν i, gs i, 0, l.length, _, rfl, h1, rfl, hd i, by simp [len_mapC], by rw [e4], by rw [e4]; exact treeL_mapC f l hf⟩))), WVL_famo hf hd ls (i + 1) h2⟩
/-- rows that are written no more -/
theorem WVL_fam {α : Type} {f : α → AVal} {s s' : ASt} {ν : Nat} {gs : Nat → Nat} {ls : List (List α)} (hf : ∀ x, (f x).tree = true) (h : FamIn f s.heap ν gs ls) (hd : ∀ j, s'.heap (ch ν j) = none) : WVL s s' (famC ν gs ls) (mapC (lstC f) ls) :=
  WVL_famo hf hd ls 0 fun j hj => by rw [Nat.zero_add]; exact h j hj
theorem famSB : type_of% (And.intro (And.intro (And.intro @embL_b (And.intro @xnL_b @XVL_b)) (And.intro @xtreeL_b (And.intro @xflatL_b @freezeL_b))) (And.intro (And.intro @embL_rowsB (And.intro @xnL_rowsB @XVL_rowsB)) (And.intro @xtreeL_rowsB (And.intro @xflatL_rowsB @freezeL_rowsB)))) :=
  (And.intro (And.intro (And.intro @embL_b (And.intro @xnL_b @XVL_b)) (And.intro @xtreeL_b (And.intro @xflatL_b @freezeL_b))) (And.intro (And.intro @embL_rowsB (And.intro @xnL_rowsB @XVL_rowsB)) (And.intro @xtreeL_rowsB (And.intro @xflatL_rowsB @freezeL_rowsB))))
end Go.Own
