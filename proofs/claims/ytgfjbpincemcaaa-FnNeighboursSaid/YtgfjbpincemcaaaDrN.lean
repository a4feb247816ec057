/-
  OWN WORK: what the laws draw about neighbours: plain.
-/
import Derived.Test.YtgfjbpincemcaaaSrc
import Derived.Test.YtgfjbpincemcaaaOwnW
namespace Go.Proofs.Ytgfjbpincemcaaa
open Go Go.Own Go.Proofs
set_option maxHeartbeats 4000000
set_option maxRecDepth 20000
set_option linter.unusedSimpArgs false
/-- a row: after k candidates -/
def rdK (bs : List Int) (part : Int) (i : Nat) (s : SrcS) : Nat → List Int × SrcS
  | 0 => ([], s)
  | k + 1 => if k = i then rdK bs part i s k else (if pkV bs 8 (rdK bs part i s k).2 < part then (rdK bs part i s k).1 ++ [(k : Int)] else (rdK bs part i s k).1, pkS bs 8 (rdK bs part i s k).2)
section
variable {bs : List Int} {part : Int} {i k : Nat} {s : SrcS}
theorem rdK_eq (h : k = i) : rdK bs part i s (k + 1) = rdK bs part i s k := by
  conv => lhs; unfold rdK
  rw [if_pos h]
theorem rdK_yes (h : ¬ k = i) (h2 : pkV bs 8 (rdK bs part i s k).2 < part) : rdK bs part i s (k + 1) = ((rdK bs part i s k).1 ++ [(k : Int)], pkS bs 8 (rdK bs part i s k).2) := by
  conv => lhs; unfold rdK
  rw [if_neg h, if_pos h2]
theorem rdK_no (h : ¬ k = i) (h2 : ¬ pkV bs 8 (rdK bs part i s k).2 < part) : rdK bs part i s (k + 1) = ((rdK bs part i s k).1, pkS bs 8 (rdK bs part i s k).2) := by
  conv => lhs; unfold rdK
  rw [if_neg h, if_neg h2]
theorem rdK_in (bs : List Int) (part : Int) (i : Nat) (s : SrcS) : ∀ k, (rdK bs part i s k).1.length ≤ k ∧ (∀ x ∈ (rdK bs part i s k).1, 0 ≤ x ∧ x < k) ∧ (rdK bs part i s k).2.1 ≤ s.1 + 2 * k
  | 0 => ⟨Nat.le_refl _, fun x h => by simp [rdK] at h, Nat.le_refl _⟩
  | k + 1 => by
    obtain ⟨h1, h2, h3⟩ := rdK_in bs part i s k
    have h4 := pkS_le bs 8 (rdK bs part i s k).2
    by_cases h : k = i
    · rw [rdK_eq h]
      exact ⟨by omega, fun x hx => by have := h2 x hx; omega, by omega⟩
    · by_cases hp : pkV bs 8 (rdK bs part i s k).2 < part
      · rw [rdK_yes h hp]
        refine ⟨by simp; omega, fun x hx => ?_, by show (pkS bs 8 _).1 ≤ _; omega⟩
        rcases List.mem_append.1 hx with hx | hx
        · have := h2 x hx; omega
        · simp only [List.mem_singleton] at hx; omega
      · rw [rdK_no h hp]
        exact ⟨by show (rdK bs part i s k).1.length ≤ _; omega, fun x hx => by have := h2 x hx; omega, by show (pkS bs 8 _).1 ≤ _; omega⟩
end
/-- the rows -/
def rsK (bs : List Int) (part : Int) (n : Nat) (s : SrcS) : Nat → List (List Int) × SrcS
  | 0 => ([], s)
  | i + 1 => ((rsK bs part n s i).1 ++ [(rdK bs part i (rsK bs part n s i).2 n).1], (rdK bs part i (rsK bs part n s i).2 n).2)
theorem rsK_in (bs : List Int) (part : Int) (n : Nat) (s : SrcS) : ∀ i, (rsK bs part n s i).1.length = i ∧ (∀ r ∈ (rsK bs part n s i).1, r.length ≤ n ∧ ∀ x ∈ r, 0 ≤ x ∧ x < n) ∧ (rsK bs part n s i).2.1 ≤ s.1 + 2 * n * i
  | 0 => ⟨rfl, fun x h => by simp [rsK] at h, Nat.le_refl _⟩
  | i + 1 => by
    obtain ⟨h1, h2, h3⟩ := rsK_in bs part n s i
    obtain ⟨h4, h5, h6⟩ := rdK_in bs part i (rsK bs part n s i).2 n
    refine ⟨by show (_ ++ [_]).length = _; simp [h1], fun r hr => ?_, ?_⟩
    · rcases List.mem_append.1 hr with hr | hr
      · exact h2 r hr
      · simp only [List.mem_singleton] at hr
        subst hr
        exact ⟨h4, h5⟩
    · show (rdK bs part i (rsK bs part n s i).2 n).2.1 ≤ _
      have : 2 * n * (i + 1) = 2 * n * i + 2 * n := by rw [Nat.mul_add, Nat.mul_one]
      omega
/-- the last choice: a row may get a number more -/
def d23c (bs : List Int) (n : Nat) (p : List (List Int) × SrcS) : List (List Int) × SrcS :=
  if 0 < n then
    if pkV bs 12 p.2 = 0 then
      (p.1.set (pkV bs n (pkS bs 12 p.2)).toNat (p.1.getD (pkV bs n (pkS bs 12 p.2)).toNat [] ++ [amV bs [-1, pkV bs n (pkS bs 12 p.2), n, 0] (pkS bs n (pkS bs 12 p.2))]), pkS bs 4 (pkS bs n (pkS bs 12 p.2)))
    else (p.1, pkS bs 12 p.2)
  else p
def d23b (bs : List Int) (n : Nat) (s : SrcS) : List (List Int) × SrcS := d23c bs n (rsK bs (pkV bs 4 s + 1) n (pkS bs 4 s) n)
def d23 (bs : List Int) (s : SrcS) : List (List Int) × SrcS :=
  if pkV bs 12 (pkS bs 8 s) = 0 then d23b bs (amV bs [14, 24, 25] (pkS bs 12 (pkS bs 8 s))).toNat (pkS bs 3 (pkS bs 12 (pkS bs 8 s)))
  else d23b bs (pkV bs 8 s).toNat (pkS bs 12 (pkS bs 8 s))
theorem am3 {bs : List Int} (hb : Byt bs) (s : SrcS) : ∃ n : Nat, amV bs [14, 24, 25] s = n ∧ n ≤ 25 := by
  have := amV_mem hb (L := [14, 24, 25]) (by simp) s
  simp only [List.mem_cons, List.not_mem_nil, or_false] at this
  rcases this with h | h | h
  · exact ⟨14, h, by omega⟩
  · exact ⟨24, h, by omega⟩
  · exact ⟨25, h, by omega⟩
theorem d23_in {bs : List Int} (hb : Byt bs) (s : SrcS) : (d23 bs s).1.length ≤ 25 ∧ ∀ r ∈ (d23 bs s).1, r.length ≤ 26 := by
  have key : ∀ (n : Nat) (s : SrcS), n ≤ 25 → (d23b bs n s).1.length ≤ 25 ∧ ∀ r ∈ (d23b bs n s).1, r.length ≤ 26 := by
    intro n s hn
    obtain ⟨h1, h2, _⟩ := rsK_in bs (pkV bs 4 s + 1) n (pkS bs 4 s) n
    unfold d23b d23c
    generalize rsK bs (pkV bs 4 s + 1) n (pkS bs 4 s) n = p at h1 h2
    have base : p.1.length ≤ 25 ∧ ∀ r ∈ p.1, r.length ≤ 26 := ⟨by omega, fun r hr => by have := (h2 r hr).1; omega⟩
    split
    · split
      · refine ⟨by simpa using base.1, fun r hr => ?_⟩
        rcases List.mem_or_eq_of_mem_set hr with hr | hr
        · exact base.2 r hr
        · subst hr
          simp only [List.length_append, List.length_cons, List.length_nil]
          have : (p.1.getD (pkV bs n (pkS bs 12 p.2)).toNat []).length ≤ 25 := by
            rw [List.getD_eq_getElem?_getD]
            cases e : p.1[(pkV bs n (pkS bs 12 p.2)).toNat]? with
            | none => simp
            | some r =>
              have := (h2 r (List.mem_of_getElem? e)).1
              simp only [Option.getD_some]
              omega
          omega
      · exact base
    · exact base
  unfold d23
  split
  · obtain ⟨n, e, hn⟩ := am3 hb (pkS bs 12 (pkS bs 8 s))
    rw [e]
    exact key _ _ (by omega)
  · have := pkV_in hb 8 s
    exact key _ _ (by have := this.2 (by omega); omega)
theorem WVL_app2 {s s' : ASt} : ∀ {a a' b b' : List AVal}, WVL s s' a a' → WVL s s' b b' → WVL s s' (a ++ b) (a' ++ b')
  | [], [], _, _, _, h => h
  | [], _ :: _, _, _, h, _ => h.elim
  | _ :: _, [], _, _, h, _ => h.elim
  | _ :: _, _ :: _, _, _, h, h2 => ⟨h.1, WVL_app2 h.2 h2⟩
theorem lay_one (cs : List AVal) (k : Nat) (a : AVal) (h : k < cs.length) : lay cs k [a] = cs.set k a := by
  unfold lay
  rw [List.set_eq_take_append_cons_drop, if_pos h]
  simp
theorem WVL_set {s s' : ASt} : ∀ {cs ds : List AVal} {k : Nat} {a b : AVal}, WVL s s' cs ds → WV s s' a b → WVL s s' (cs.set k a) (ds.set k b)
  | [], [], _, _, _, _, _ => trivial
  | _ :: _, _ :: _, 0, _, _, h, h2 => ⟨h2, h.2⟩
  | _ :: _, _ :: _, k + 1, _, _, h, h2 => ⟨h.1, WVL_set (k := k) h.2 h2⟩
  | [], _ :: _, _, _, _, h, _ => h.elim
  | _ :: _, [], _, _, _, h, _ => h.elim
theorem mapC_setC {α β : Type} (f : α → β) (l : List α) (k : Nat) (x : α) : mapC f (l.set k x) = (mapC f l).set k (f x) := by simp [mapC]
end Go.Proofs.Ytgfjbpincemcaaa
