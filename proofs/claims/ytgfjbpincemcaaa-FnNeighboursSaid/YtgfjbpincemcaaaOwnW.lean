/-
  OWN WORK, generic over any program: a call's contract from a walk that may freeze what it has made when it returns.
-/
import Derived.Test.YtgfjbpincemcaaaOwnM
namespace Go.Own
open Go Go.RowKit
variable [GL]
set_option linter.unusedSectionVars false
def apostXW (P : Program) (fn : Func) (as : List AVal) (args' : List XT) (t : XT) : Ex → ASt → Prop := fun e s => ∃ s', Weaks s s' ∧ apostX P fn as args' t e s'
section
variable {P : Program} {okA : Nat → Prop} {w0 : Base}
theorem denx_of_awpW (gh : Gh) {f : FuncId} {fn : Func} {c : Code} {args args' : List XT} {t : XT} (hf : P.funcs[f]? = some fn) (hb : fn.body = some c) (hn : (fn.name == "runtime.NumGoroutine") = false)
    (ha : args.length ≤ fn.ntmps) (hU : ((embA 0 args).2.map (·.1)).Nodup) (hmix : P.follows .mixedOrders = true) (hd : drawsOk c = true)
    (h : xlensL args → awp P c (apostXW P fn (embA 0 args).1 args' t) { initX fn.ntmps args with gh := gh }) : DenX P f args args' t := by
  refine ⟨⟨fn, hf, by simp [hb], hn⟩, fun w vs ok S hok hSlt hSn hglob hrep => ?_⟩
  obtain ⟨Z, hZ1, hZ2, hZ3⟩ := embA_sound args 0 vs S hrep
  have hZn : (Z.map (·.1.1)).Nodup := by
    have : Z.map (·.1.1) = (embA 0 args).2.map (·.1) := by rw [← hZ1, List.map_map]; rfl
    rw [this]; exact hU
  let m : Nat → Option Nat := fun β => match lookupZ Z β with | some r => r | none => none
  have hh : (initX fn.ntmps args).heap = lookupU (Z.map (·.1)) := by rw [hZ1]; rfl
  have inZ : ∀ z ∈ Z, m z.1.1 = z.2 ∧ (initX fn.ntmps args).heap z.1.1 = some z.1.2 := fun z hz => by
    obtain ⟨q1, q2⟩ := lookup_of_mem hZn z hz
    refine ⟨?_, by rw [hh]; exact q1⟩
    show (match lookupZ Z z.1.1 with | some r => r | none => none) = z.2
    rw [q2]
  have outZ : ∀ β blk, (initX fn.ntmps args).heap β = some blk → ∃ z ∈ Z, z.1 = (β, blk) ∧ m β = z.2 := fun β blk hβ => by
    rw [hh] at hβ
    obtain ⟨z, q1, q2, q3⟩ := lookup_mem hβ
    refine ⟨z, q1, q2, ?_⟩
    show (match lookupZ Z β with | some r => r | none => none) = z.2
    rw [q3]
  have hgens : ∀ z ∈ Z, z.1.2.gen = 0 := fun z hz => embA_gens args 0 _ (by rw [← hZ1]; exact List.mem_map.2 ⟨z, hz, rfl⟩)
  have hmem : ∀ z ∈ Z, ∀ b, z.2 = some b → b ∈ S := fun z hz b hb => by rw [← hZ2]; exact List.mem_filterMap.2 ⟨z, hz, hb⟩
  let B : Base := ⟨w, fun b => b ∈ S, (embA 0 args).1.zip vs⟩
  have hokE0 : ∀ b, ok b → (envOf ok B.new (initX fn.ntmps args).heap 1 m w).ok b := fun b hb => ⟨(hok b hb).1, .inl hb, fun β blk hβ hm => by
      obtain ⟨z, q1, _, q3⟩ := outZ β blk hβ
      exact (hok b hb).2 (hmem z q1 b (q3 ▸ hm))⟩
  obtain ⟨hL, hG⟩ := hZ3 (envOf ok B.new (initX fn.ntmps args).heap 1 m w) rfl hokE0 (Nat.zero_lt_one) fun z hz => by
    obtain ⟨q1, q2⟩ := inZ z hz
    simp only [envOf, q2, q1, hgens z hz, if_true]
  have hl := repL_length hL
  have hla := embA_length args 0
  have Sm : Sim ok B (initX fn.ntmps args) m { tmps := vs.toArray ++ Array.replicate (fn.ntmps - vs.toArray.size) undef, defers := [] } w := by
    refine ⟨?_, rfl, fun t => ?_, fun p hp => ?_, fun β blk hβ => ?_, fun β β' blk blk' b hβ hβ' hm hm' => ?_, BelowB.refl _ _ _, fun b hb => ⟨(hok b hb).1, fun h => (hok b hb).2 h⟩, fun b hb => hSlt b hb⟩
    · simp [initX]; omega
    · simp only [initX]
      by_cases hlt : t < (embA 0 args).1.length
      · obtain ⟨v, hv, hr⟩ := repL_get hL (i := t) (c := (embA 0 args).1[t]) (by simp [hlt])
        have e1 : (embA 0 args).1.getD t .dead = (embA 0 args).1[t] := by simp [List.getD, hlt]
        have e2 : (vs.toArray ++ Array.replicate (fn.ntmps - vs.toArray.size) undef).getD t undef = v := by
          have hlt' : t < vs.length := by omega
          rw [Array.getD_eq_getD_getElem?, Array.getElem?_append_left (by simpa using hlt')]
          simp [hv]
        rw [e1, e2]
        exact hr
      · have e1 : (embA 0 args).1.getD t .dead = .dead := by simp [List.getD, List.getElem?_eq_none (Nat.le_of_not_lt hlt)]
        rw [e1]
        trivial
    · rcases List.mem_append.1 hp with hp | hp
      case inr => exact (hglob.tree (E' := envOf ok B.new (initX fn.ntmps args).heap 1 m w) fun b hb => ⟨hokE0 b hb, rfl⟩) p hp
      obtain ⟨i, hi, e⟩ := List.getElem_of_mem hp
      rw [List.getElem_zip] at e
      subst e
      obtain ⟨v, hv, hr⟩ := repL_get hL (i := i) (c := (embA 0 args).1[i]'(by simp [B] at hi; omega)) (by simp)
      rw [List.getElem?_eq_getElem (by simp [B] at hi; omega)] at hv
      simp only [Option.some.injEq] at hv
      rw [← hv] at hr
      exact hr
    · obtain ⟨z, q1, q2, q3⟩ := outZ β blk hβ
      obtain ⟨g1, g2⟩ := hG z q1
      rw [q2] at g1 g2
      have hg := hgens z q1
      rw [q2] at hg
      refine ⟨by show blk.gen < 1; simp only at hg; omega, fun hv => g1 (by rw [← q3]; exact hv), fun b hb => ?_⟩
      rw [q3] at hb
      obtain ⟨p1, p2⟩ := g2 b hb
      exact ⟨.inr (hmem z q1 b hb), p1, p2⟩
    · obtain ⟨z, q1, q2, q3⟩ := outZ β blk hβ
      obtain ⟨z', q1', q2', q3'⟩ := outZ β' blk' hβ'
      have := real_inj (by rw [hZ2]; exact hSn) z q1 z' q1' (q3 ▸ hm) (q3' ▸ hm')
      have e1 : z.1.1 = β := by rw [q2]
      have e2 : z'.1.1 = β' := by rw [q2']
      rw [← e1, ← e2, this]
  refine calls_of_wp hf hb (wp_mono (awp_sound hmix c hd _ _ (h (xlensL_rep hrep)) _ _ _ (Sm.ghost gh)) ?_)
  rintro e a' w' ⟨x, s₁, m₁, rfl, ⟨s', hW, hq⟩, S₁⟩
  obtain ⟨m', S'⟩ := Sim.weaks hW S₁
  have fin : (∃ r, ares P s' fn.results.toList = some r ∧ XPost s' (embA 0 args).1 args' (one r) t) → a'.defers = [] ∧ ∃ v, (results fn a'.tmps).run P w' = .ok v w' ∧
      ∃ v' S1 S2, Ending.returned v = .returned v' ∧ RepXL (treeEnv w' fun b => b < w'.heap.size ∧ b ∉ S1 ++ S2 ∧ (ok b ∨ b ∈ S ∨ w.heap.size ≤ b)) false args' vs S1 ∧
      RepX (treeEnv w' fun b => b < w'.heap.size ∧ b ∉ S1 ++ S2 ∧ (ok b ∨ b ∈ S ∨ w.heap.size ≤ b)) t v' S2 ∧
      (S1 ++ S2).Nodup ∧ (∀ b ∈ S1 ++ S2, b < w'.heap.size ∧ (b ∈ S ∨ w.heap.size ≤ b)) ∧ BelowB ⟨w, fun b => b ∈ S, []⟩ w' := by
    rintro ⟨r, hr, hN, hX, hY⟩
    obtain ⟨v, hv1, hv2⟩ := one_sound S' hr
    refine ⟨S'.defers, v, hv1, v, (xnL s' (embA 0 args).1 args').filterMap m', (xn s' (one r) t).filterMap m', rfl, ?_⟩
    have happ : (xnL s' (embA 0 args).1 args').filterMap m' ++ (xn s' (one r) t).filterMap m' = (postN s' (embA 0 args).1 args' (one r) t).filterMap m' := by
      unfold postN; rw [List.filterMap_append]
    rw [happ]
    generalize hNe : postN s' (embA 0 args).1 args' (one r) t = N at *
    have hNh : ∀ β ∈ N, ∃ blk, s'.heap β = some blk := fun β hβ => by
      rw [← hNe] at hβ
      rcases List.mem_append.1 hβ with hβ | hβ
      · exact xnL_heap s' args' _ β hβ
      · exact xn_heap s' t _ β hβ
    have hS0 : ∀ b ∈ N.filterMap m', ∃ β ∈ N, m' β = some b := fun b hb => by simpa using List.mem_filterMap.1 hb
    have hokE : ∀ b, (envOf ok B.new s'.heap s'.gen m' w').ok b → b < w'.heap.size ∧ b ∉ N.filterMap m' ∧ (ok b ∨ b ∈ S ∨ w.heap.size ≤ b) := fun b hb => by
      refine ⟨hb.1, fun hm => ?_, hb.2.1.imp id fun h => h.symm⟩
      obtain ⟨β, hβ, hmb⟩ := hS0 b hm
      obtain ⟨blk, hblk⟩ := hNh β hβ
      exact hb.2.2 β blk hblk hmb
    have hownE : ∀ β blk b, (s'.without N).heap β = some blk → m' β = some b → b < w'.heap.size ∧ b ∉ N.filterMap m' ∧ (ok b ∨ b ∈ S ∨ w.heap.size ≤ b) := fun β blk b hβ hm => by
      obtain ⟨q1, q2⟩ := without_sub β blk hβ
      obtain ⟨p1, ⟨arr, T, p2, _⟩, _⟩ := (S'.blks β blk q1).real b hm
      refine ⟨heap_lt p2, fun hmem => ?_, .inr p1.symm⟩
      obtain ⟨β', hβ', hm'⟩ := hS0 b hmem
      obtain ⟨blk', hblk'⟩ := hNh β' hβ'
      exact q2 (S'.inj β β' blk blk' b q1 hblk' hm hm' ▸ hβ')
    have hpins : RepL (envOf ok B.new s'.heap s'.gen m' w') (embA 0 args).1 vs := by
      have key : ∀ (as : List AVal) (us : List Value), as.length = us.length → (∀ p ∈ as.zip us, RepV (envOf ok B.new s'.heap s'.gen m' w') p.1 p.2) → RepL (envOf ok B.new s'.heap s'.gen m' w') as us := by
        intro as
        induction as with
        | nil => intro us hl _; exact List.eq_nil_of_length_eq_zero (by simpa using hl.symm)
        | cons x as ih =>
          intro us hl hp
          cases us with
          | nil => simp at hl
          | cons u us => exact ⟨u, us, rfl, hp (x, u) (by simp), ih us (by simpa using hl) fun p hp' => hp p (by simp [hp'])⟩
      exact key _ _ hl fun p hp => S'.pins p (List.mem_append_left _ hp)
    refine ⟨?_, ?_, ?_, ?_, ?_⟩
    · exact xvl_sound S' hokE (sm := s'.without N) (fun β blk h => (without_sub β blk h).1) false (fun _ => hownE) args' _ vs false hX (fun h => by simp at h) hpins (fun h => by simp at h)
    · exact xv_sound S' hokE (sm := s'.without N) (fun β blk h => (without_sub β blk h).1) false (fun _ => hownE) t _ v hY (fun h => by simp at h) hv2
    · exact nodup_real hN fun β hβ β' hβ' b hm hm' => by
        obtain ⟨blk, hb⟩ := hNh β hβ
        obtain ⟨blk', hb'⟩ := hNh β' hβ'
        exact S'.inj β β' blk blk' b hb hb' hm hm'
    · intro b hb
      obtain ⟨β, hβ, hm⟩ := hS0 b hb
      obtain ⟨blk, hblk⟩ := hNh β hβ
      obtain ⟨p1, ⟨arr, T, p2, _⟩, _⟩ := (S'.blks β blk hblk).real b hm
      exact ⟨heap_lt p2, p1.symm⟩
    · exact ⟨S'.below.os, S'.below.tape, S'.below.output, S'.below.size, S'.below.block, S'.below.room⟩
  cases x with
  | normal => exact fin hq
  | ret => exact fin hq
  | exit id => exact hq.elim

end
section
variable {P : Program} {s : ASt}
theorem apostXW_ret {fn : Func} {as : List AVal} {args' : List XT} {t : XT} : apostXW P fn as args' t .ret s = ∃ s', Weaks s s' ∧ ∃ r, ares P s' fn.results.toList = some r ∧ XPost s' as args' (one r) t := propext Iff.rfl
theorem apostXW_normal {fn : Func} {as : List AVal} {args' : List XT} {t : XT} : apostXW P fn as args' t .normal s = ∃ s', Weaks s s' ∧ ∃ r, ares P s' fn.results.toList = some r ∧ XPost s' as args' (one r) t := propext Iff.rfl
end
end Go.Own
