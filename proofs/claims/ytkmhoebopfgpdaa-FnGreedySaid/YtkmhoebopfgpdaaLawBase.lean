/-
  OWN WORK: what the arguments of a law read as; shared by the laws.
-/
import Derived.Test.YtkmhoebopfgpdaaTi
import Derived.Test.YtkmhoebopfgpdaaRows
namespace Go.Proofs.Ytkmhoebopfgpdaa
open Go Go.Own Go.Proofs Go.ChangeShapes Go.WideShapes Go.ChangeAt Go.RowKit
def In64 (n : Int) : Prop := -9223372036854775808 ≤ n ∧ n ≤ 9223372036854775807
theorem has_rows {α : Type} {e : Shp} {f : α → AVal} {ok : α → Prop} (h : ∀ cs, cs.length = 1 → HasC e cs → ∃ x, cs = [f x] ∧ ok x) {a : AVal} (hv : HasC (.slice 1 e) [a]) : ∃ xs : List α, a = lstC f xs ∧ ∀ x ∈ xs, ok x := by
  obtain ⟨gs, hg, hall⟩ := hv
  have key : ∀ gs : List (List AVal), (∀ g ∈ gs, g.length = 1 ∧ HasC e g) → ∃ xs : List α, gs.flatten = mapC f xs ∧ gs.length = xs.length ∧ ∀ x ∈ xs, ok x := by
    intro gs
    induction gs with
    | nil => intro _; exact ⟨[], rfl, rfl, by simp⟩
    | cons g gs ih =>
      intro hall
      obtain ⟨xs, h1, h2, h3⟩ := ih fun g hg => hall g (by simp [hg])
      obtain ⟨x, hx, hok⟩ := h g (hall g (by simp)).1 (hall g (by simp)).2
      refine ⟨x :: xs, by rw [List.flatten_cons, hx, h1]; rfl, by simp [h2], ?_⟩
      intro y hy
      rcases List.mem_cons.1 hy with e | e
      · exact e ▸ hok
      · exact h3 y e
  obtain ⟨xs, h1, h2, h3⟩ := key gs hall
  simp only [List.cons.injEq, and_true] at hg
  exact ⟨xs, by rw [hg, h1, h2], h3⟩
theorem has_i64 (cs : List AVal) (_ : cs.length = 1) (h : HasC (.int .i64) cs) : ∃ x, cs = [AVal.i x] ∧ In64 x := by
  obtain ⟨n, rfl, hw⟩ := h
  simp [Lit.wf, IntKind.min, IntKind.max, IntKind.signed, IntKind.bits] at hw
  exact ⟨n, rfl, by unfold In64; omega⟩
theorem has_ints (cs : List AVal) (hl : cs.length = 1) (h : HasC (.slice 1 (.int .i64)) cs) : ∃ xs : List Int, cs = [ints xs] ∧ ∀ x ∈ xs, In64 x := by
  obtain ⟨a, rfl⟩ := List.length_eq_one_iff.1 hl
  obtain ⟨xs, rfl, h2⟩ := has_rows has_i64 h
  exact ⟨xs, rfl, h2⟩
theorem has_intss (cs : List AVal) (hl : cs.length = 1) (h : HasC (.slice 1 (.slice 1 (.int .i64))) cs) : ∃ xs : List (List Int), cs = [intss xs] ∧ ∀ x ∈ xs, ∀ y ∈ x, In64 y := by
  obtain ⟨a, rfl⟩ := List.length_eq_one_iff.1 hl
  obtain ⟨xs, rfl, h2⟩ := has_rows has_ints h
  exact ⟨xs, rfl, h2⟩
theorem has_i64V {a : AVal} (h : HasV (.int .i64) a) : ∃ x, a = AVal.i x ∧ In64 x := by
  obtain ⟨x, e, h⟩ := has_i64 _ rfl h
  exact ⟨x, by simpa using e, h⟩
theorem has_intsV {a : AVal} (h : HasV (.slice 1 (.int .i64)) a) : ∃ xs : List Int, a = ints xs ∧ ∀ x ∈ xs, In64 x := has_rows has_i64 h
theorem has_intssV {a : AVal} (h : HasV (.slice 1 (.slice 1 (.int .i64))) a) : ∃ xs : List (List Int), a = intss xs ∧ ∀ x ∈ xs, ∀ y ∈ x, In64 y := has_rows has_ints h
theorem has_u8 (cs : List AVal) (_ : cs.length = 1) (h : HasC (.int .u8) cs) : ∃ x, cs = [AVal.u8 x] ∧ (0 ≤ x ∧ x ≤ 255) := by
  obtain ⟨n, rfl, hw⟩ := h
  simp [Lit.wf, IntKind.min, IntKind.max, IntKind.signed, IntKind.bits] at hw
  exact ⟨n, rfl, by omega⟩
theorem has_bytesV {a : AVal} (h : HasV (.slice 1 (.int .u8)) a) : ∃ xs : List Int, a = bytesV xs ∧ ∀ x ∈ xs, 0 ≤ x ∧ x ≤ 255 := has_rows has_u8 h
theorem has_strV {a : AVal} (h : HasV .str a) : ∃ x : ByteArray, a = .flat (.string x) ∧ x.size ≤ maxLen := by
  obtain ⟨x, e, h⟩ := h
  simp only [List.cons.injEq, and_true] at e
  exact ⟨x, e, h⟩
theorem has_rasV {a : AVal} (h : HasV (.struct 5 (.cons 1 (.int .i64) (.cons 1 (.int .i64) (.cons 1 (.int .i64) (.cons 1 (.slice 1 (.int .i64)) (.cons 1 (.slice 1 (.int .i64)) .nil)))))) a) :
    ∃ s w h sv lv, a = .agg [.i s, .i w, .i h, ints sv, ints lv] ∧ In64 s ∧ In64 w ∧ In64 h ∧ (∀ x ∈ sv, In64 x) ∧ (∀ x ∈ lv, In64 x) := by
  obtain ⟨cs, rfl, _, q1, r1, rfl, l1, h1, q2, r2, rfl, l2, h2, q3, r3, rfl, l3, h3, q4, r4, rfl, l4, h4, q5, r5, rfl, l5, h5, rfl⟩ := h
  obtain ⟨s, rfl, hs⟩ := has_i64 q1 l1 h1
  obtain ⟨w, rfl, hw⟩ := has_i64 q2 l2 h2
  obtain ⟨h, rfl, hh⟩ := has_i64 q3 l3 h3
  obtain ⟨sv, rfl, hsv⟩ := has_ints q4 l4 h4
  obtain ⟨lv, rfl, hlv⟩ := has_ints q5 l5 h5
  exact ⟨s, w, h, sv, lv, rfl, hs, hw, hh, hsv, hlv⟩
theorem has_sitV {a : AVal} (h : HasV (.struct 3 (.cons 1 (.slice 1 (.int .i64)) (.cons 1 (.slice 1 (.slice 1 (.int .i64))) (.cons 1 (.slice 1 (.int .i64)) .nil)))) a) :
    ∃ ws cv cs, a = .agg [ints ws, intss cv, ints cs] ∧ (∀ x ∈ ws, In64 x) ∧ (∀ x ∈ cv, ∀ y ∈ x, In64 y) ∧ (∀ x ∈ cs, In64 x) := by
  obtain ⟨cs, rfl, _, q1, r1, rfl, l1, h1, q2, r2, rfl, l2, h2, q3, r3, rfl, l3, h3, rfl⟩ := h
  obtain ⟨ws, rfl, hs⟩ := has_ints q1 l1 h1
  obtain ⟨cv, rfl, hw⟩ := has_intss q2 l2 h2
  obtain ⟨cs, rfl, hh⟩ := has_ints q3 l3 h3
  exact ⟨ws, cv, cs, rfl, hs, hw, hh⟩
end Go.Proofs.Ytkmhoebopfgpdaa
