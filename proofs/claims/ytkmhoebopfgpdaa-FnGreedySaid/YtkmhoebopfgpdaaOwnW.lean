/-
  OWN WORK, generic over any program: a call's contract from a walk that may freeze what it has made when it returns.
-/
import Derived.Test.YtkmhoebopfgpdaaOwnM
namespace Go.Own
open Go Go.RowKit
variable [GL]
set_option linter.unusedSectionVars false
def apostXW (P : Program) (fn : Func) (as : List AVal) (args' : List XT) (t : XT) : Ex → ASt → Prop := fun e s => ∃ s', Weaks s s' ∧ apostX P fn as args' t e s'
section
variable {P : Program} {okA : Nat → Prop} {w0 : Base}
theorem denx_of_awpW (gh : Gh) {f : FuncId} {fn : Func} {c : Code} {args args' : List XT} {t : XT} (hf : P.funcs[f]? = some fn) (hb : fn.body = some c) (hn : (fn.name == "runtime.NumGoroutine") = false)
    (ha : args.length ≤ fn.ntmps) (hU : ((embA 0 args).2.map (·.1)).Nodup) (hmix : P.follows .mixedOrders = true) (hd : drawsOk c = true)
    (h : xlensL args → awp P c (apostXW P fn (embA 0 args).1 args' t) { initX fn.ntmps args with gh := gh }) : DenX P f args args' t := by
  have := denQ_of_awpG (ι := Unit) (p := fun _ => True) (args'' := fun _ => args') (t'' := fun _ => t) gh hf hb hn ha hU hmix hd (Q := apostXW P fn (embA 0 args).1 args' t) (fun e s ⟨s', hw, hq⟩ => by
    cases e with
    | normal => exact ⟨.inl rfl, s', hw, (), trivial, hq⟩
    | ret => exact ⟨.inr rfl, s', hw, (), trivial, hq⟩
    | exit id => exact hq.elim) h
  exact ⟨this.1, fun w vs ok S h1 h2 h3 h4 h5 => (this.2 w vs ok S h1 h2 h3 h4 h5).mono fun _ _ ⟨_, _, h⟩ => h⟩
/-- at the end of a walk with one of many outcomes -/
theorem yret {fn : Func} {as : List AVal} {ι : Type} {p : ι → Prop} {args' : ι → List XT} {t : ι → XT} {s : ASt} (i : ι) (hp : p i) (h : ∃ r, ares P s fn.results.toList = some r ∧ XPost s as (args' i) (one r) (t i)) : apostY P fn as p args' t .ret s :=
  ⟨s, .refl s, i, hp, h⟩
theorem ynormal {fn : Func} {as : List AVal} {ι : Type} {p : ι → Prop} {args' : ι → List XT} {t : ι → XT} {s : ASt} (i : ι) (hp : p i) (h : ∃ r, ares P s fn.results.toList = some r ∧ XPost s as (args' i) (one r) (t i)) : apostY P fn as p args' t .normal s :=
  ⟨s, .refl s, i, hp, h⟩
theorem yretW {fn : Func} {as : List AVal} {ι : Type} {p : ι → Prop} {args' : ι → List XT} {t : ι → XT} {s s' : ASt} (hw : Weaks s s') (i : ι) (hp : p i) (h : ∃ r, ares P s' fn.results.toList = some r ∧ XPost s' as (args' i) (one r) (t i)) : apostY P fn as p args' t .ret s :=
  ⟨s', hw, i, hp, h⟩
/-- fewer outcomes are some of more -/
theorem DenY.mono {f : FuncId} {args : List XT} {ι κ : Type} {p : ι → Prop} {args' : ι → List XT} {t : ι → XT} {q : κ → Prop} {brgs' : κ → List XT} {u : κ → XT} (h : DenY P f args p args' t) (hm : ∀ i, p i → ∃ k, q k ∧ brgs' k = args' i ∧ u k = t i) : DenY P f args q brgs' u :=
  ⟨h.1, fun w vs ok S h1 h2 h3 h4 h5 => (h.2 w vs ok S h1 h2 h3 h4 h5).mono fun _ _ ⟨i, hi, h⟩ => by
    obtain ⟨k, hk, e1, e2⟩ := hm i hi
    exact ⟨k, hk, by rw [e1, e2]; exact h⟩⟩
end
section
variable {P : Program} {s : ASt}
theorem apostXW_ret {fn : Func} {as : List AVal} {args' : List XT} {t : XT} : apostXW P fn as args' t .ret s = ∃ s', Weaks s s' ∧ ∃ r, ares P s' fn.results.toList = some r ∧ XPost s' as args' (one r) t := propext Iff.rfl
theorem apostXW_normal {fn : Func} {as : List AVal} {args' : List XT} {t : XT} : apostXW P fn as args' t .normal s = ∃ s', Weaks s s' ∧ ∃ r, ares P s' fn.results.toList = some r ∧ XPost s' as args' (one r) t := propext Iff.rfl
end
end Go.Own
