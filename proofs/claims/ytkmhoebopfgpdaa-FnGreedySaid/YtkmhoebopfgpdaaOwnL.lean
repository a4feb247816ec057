/-
  OWN WORK, generic over any program: from the row's reading of the arguments to trees, and from a contract to what the row asks.
-/
import Derived.Test.YtkmhoebopfgpdaaOwnQ
import Derived.ProofKit
namespace Go.Own
set_option linter.unusedSimpArgs false
open Go Go.RowKit Go.ChangeShapes Go.WideShapes Go.ChangeAt
variable [GL]
set_option linter.unusedSectionVars false

mutual
inductive Shp where
  | bool | int (k : IntKind) | str
  | slice (sz : Nat) (e : Shp)
  | struct (n : Nat) (fs : Flds)
inductive Flds where
  | nil
  | cons (sz : Nat) (s : Shp) (r : Flds)
end

/-- the fields, laid one behind the other from 'off' on -/
def fldsOf (P : Program) (sh : TypeId → Option Shp) : Nat → List Field → Option Flds
  | _, [] => some .nil
  | off, f :: r => match sh f.type, fldsOf P sh (off + P.cellsOf f.type) r with
    | some s, some l => if f.offset = off then some (.cons (P.cellsOf f.type) s l) else none
    | _, _ => none
def Flds.total : Flds → Nat
  | .nil => 0
  | .cons sz _ r => sz + r.total
def repFlds : Nat → Nat → Shp → Flds
  | 0, _, _ => .nil
  | n + 1, sz, s => .cons sz s (repFlds n sz s)
def shapeOf (P : Program) : Nat → TypeId → Option Shp
  | 0, _ => none
  | d + 1, t => match P.underlying t with
    | some .bool => some .bool
    | some (.int k) => some (.int k)
    | some .string => some .str
    | some (.slice e) => match shapeOf P d e with
      | some s => some (.slice (P.cellsOf e) s)
      | none => none
    | some (.struct fs) => match fldsOf P (shapeOf P d) 0 fs.toList with
      | some l => if l.total = P.cellsOf t then some (.struct (P.cellsOf t) l) else none
      | none => none
    | _ => none

mutual
/-- cells that hold a value of this shape -/
def HasC : Shp → List AVal → Prop
  | .bool, cs => ∃ x, cs = [.flat (.bool x)]
  | .int k, cs => ∃ n, cs = [.flat (.int k n)] ∧ (Lit.int k n).wf = true
  | .str, cs => ∃ x : ByteArray, cs = [.flat (.string x)] ∧ x.size ≤ maxLen
  | .slice sz e, cs => ∃ gs : List (List AVal), cs = [.lst gs.flatten gs.length] ∧ ∀ g ∈ gs, g.length = sz ∧ HasC e g
  | .struct n fs, cs => cs.length = n ∧ HasF fs cs
def HasF : Flds → List AVal → Prop
  | .nil, cs => cs = []
  | .cons sz s r, cs => ∃ x y, cs = x ++ y ∧ x.length = sz ∧ HasC s x ∧ HasF r y
end

def HasV : Shp → AVal → Prop
  | .struct n fs, a => ∃ cs, a = .agg cs ∧ HasC (.struct n fs) cs
  | s, a => HasC s [a]

theorem cells?_spec {w : World} {base : Nat} {a : Addr} {n : Nat} {cs : List Value} (h : w.cells? base a n = some cs) : cs.length = n ∧ ∀ i v, cs[i]? = some v → w.cell? (a.add i) = some v := by
  unfold World.cells? at h
  split at h
  case isFalse => simp at h
  have key : ∀ (l : List Nat) (cs : List Value), l.mapM (fun i => w.cell? (a.add i)) = some cs → cs.length = l.length ∧ ∀ (i : Nat) (v : Value), cs[i]? = some v → ∃ k : Nat, l[i]? = some k ∧ w.cell? (a.add k) = some v := by
    intro l
    induction l with
    | nil => intro cs h; simp at h; subst h; simp
    | cons x l ih =>
      intro cs h
      simp only [List.mapM_cons, Option.bind_eq_bind, Option.bind_eq_some_iff, Option.pure_def, Option.some.injEq] at h
      obtain ⟨v, hv, r, hr, rfl⟩ := h
      obtain ⟨h1, h2⟩ := ih r hr
      refine ⟨by simp [h1], fun i u hu => ?_⟩
      cases i with
      | zero => simp at hu; subst hu; exact ⟨x, rfl, hv⟩
      | succ i => simpa using h2 i u (by simpa using hu)
  obtain ⟨h1, h2⟩ := key _ _ h
  refine ⟨by simpa using h1, fun i v hv => ?_⟩
  obtain ⟨k, hk, hc⟩ := h2 i v hv
  simp only [List.getElem?_range, List.getElem?_eq_some_iff, List.length_range, List.getElem_range] at hk
  obtain ⟨_, rfl⟩ := hk
  exact hc

section
variable {H : Type} {enc : TypeId × Value → H} {P : Program} {w : World} {base : Nat} {spare : Nat → Bool} {held : Bool}

theorem mapM_some {α β : Type} {f : α → Option β} : ∀ {l : List α} {r : List β}, l.mapM f = some r → r.length = l.length ∧ ∀ (i : Nat) (x : α), l[i]? = some x → ∃ y, f x = some y
  | [], r, h => by simp at h; subst h; simp
  | a :: l, r, h => by
    simp only [List.mapM_cons, Option.bind_eq_bind, Option.bind_eq_some_iff, Option.pure_def, Option.some.injEq] at h
    obtain ⟨y, hy, r', hr, rfl⟩ := h
    obtain ⟨h1, h2⟩ := mapM_some hr
    refine ⟨by simp [h1], fun i x hx => ?_⟩
    cases i with
    | zero => simp at hx; subst hx; exact ⟨y, hy⟩
    | succ i => exact h2 i x (by simpa using hx)

theorem repC_flat {E : Env} {b sz : Nat} : ∀ (gs : List (List AVal)) (off : Nat), (∀ i g, gs[i]? = some g → g.length = sz ∧ RepC E g b (off + i * sz)) → RepC E gs.flatten b off
  | [], _, _ => trivial
  | g :: gs, off, h => by
    have h0 := h 0 g rfl
    simp only [Nat.zero_mul, Nat.add_zero] at h0
    have ih := repC_flat gs (off + sz) (fun i g' hg => by
      have := h (i + 1) g' (by simpa using hg)
      rwa [Nat.add_mul, Nat.one_mul, Nat.add_comm (i * sz) sz, ← Nat.add_assoc] at this)
    have app : ∀ (x y : List AVal) (o : Nat), RepC E x b o → RepC E y b (o + x.length) → RepC E (x ++ y) b o := by
      intro x
      induction x with
      | nil => intro y o _ hy; simpa using hy
      | cons c x ihx =>
        intro y o hx hy
        refine ⟨hx.1, ihx y (o + 1) hx.2 ?_⟩
        simpa [Nat.add_assoc, Nat.add_comm 1 x.length] using hy
    simp only [List.flatten_cons]
    exact app _ _ _ h0.2 (by rw [h0.1]; exact ih)

theorem choose_list {α : Type} (p : Nat → α → Prop) : ∀ n : Nat, (∀ i, i < n → ∃ x, p i x) → ∃ l : List α, l.length = n ∧ ∀ i x, l[i]? = some x → p i x
  | 0, _ => ⟨[], rfl, by simp⟩
  | n + 1, h => by
    obtain ⟨l, h1, h2⟩ := choose_list p n fun i hi => h i (by omega)
    obtain ⟨x, hx⟩ := h n (by omega)
    refine ⟨l ++ [x], by simp [h1], fun i y hy => ?_⟩
    by_cases hi : i < n
    · rw [List.getElem?_append_left (by omega)] at hy; exact h2 i y hy
    · have : i = n := by
        have := (List.getElem?_eq_some_iff.1 hy).1
        simp at this; omega
      subst this
      rw [List.getElem?_append_right (by omega)] at hy
      simp [h1] at hy
      exact hy ▸ hx

abbrev tenv (w : World) : Env := treeEnv w fun b => b < w.heap.size

theorem trod_has : ∀ (fuel d : Nat) (t : TypeId) (σ : Shp) (cs : List Value) (x : DataW H × List MemPlace), shapeOf P d t = some σ → DataW.trod enc P w base spare held fuel t cs = some x →
    ∃ as, HasC σ as ∧ RepA (tenv w) as cs ∧ treeL as = true := by
  intro fuel
  induction fuel with
  | zero => intro d t σ cs x _ h; simp [DataW.trod] at h
  | succ fuel ih =>
    intro d t σ cs x hs h
    cases d with
    | zero => simp [shapeOf] at hs
    | succ d =>
      simp only [shapeOf] at hs
      unfold DataW.trod at h
      split at hs
      · -- bool
        rename_i hu
        simp only [Option.some.injEq] at hs
        subst hs
        simp only [hu] at h
        split at h <;> first | (rename_i heq; simp at heq; done) | simp at h; done | skip
        rename_i b _
        exact ⟨[.flat (.bool b)], ⟨b, rfl⟩, ⟨_, [], rfl, rfl, ⟨rfl, rfl⟩, rfl⟩, rfl⟩
      · -- int
        rename_i k hu
        simp only [Option.some.injEq] at hs
        subst hs
        simp only [hu] at h
        split at h <;> first | (rename_i heq; simp at heq; done) | simp at h; done | skip
        rename_i k2 k' n heq
        simp only [Option.some.injEq, TypeDesc.int.injEq] at heq
        subst heq
        split at h
        case isFalse => simp at h
        rename_i hw
        obtain ⟨rfl, hw⟩ := hw
        exact ⟨[.flat (.int _ n)], ⟨n, rfl, hw⟩, ⟨_, [], rfl, rfl, ⟨rfl, rfl⟩, rfl⟩, rfl⟩
      · -- string
        rename_i hu
        simp only [Option.some.injEq] at hs
        subst hs
        simp only [hu] at h
        split at h <;> first | (rename_i heq; simp at heq; done) | simp at h; done | skip
        rename_i s _
        split at h
        case isFalse => simp at h
        rename_i hw
        exact ⟨[.flat (.string s)], ⟨s, rfl, hw⟩, ⟨_, [], rfl, rfl, ⟨rfl, rfl⟩, rfl⟩, rfl⟩
      · -- slice
        rename_i e hu
        split at hs
        case h_2 => simp at hs
        rename_i s he
        simp only [Option.some.injEq] at hs
        subst hs
        simp only [hu] at h
        split at h <;> first | (rename_i heq; simp at heq; done) | simp at h; done | skip
        · exact ⟨[.lst [] 0], ⟨[], rfl, by simp⟩, ⟨_, [], rfl, rfl, ⟨none, 0, rfl, Nat.le_refl _, Nat.zero_le _, .inl rfl⟩, rfl⟩, rfl⟩
        · rename_i e' a len cap heq
          simp only [Option.some.injEq, TypeDesc.slice.injEq] at heq
          subst heq
          split at h
          case isFalse => simp at h
          rename_i hc
          obtain ⟨_, hlc, hcm⟩ := hc
          simp only [Option.bind_eq_some_iff] at h
          obtain ⟨elems, hel, _⟩ := h
          obtain ⟨_, hel⟩ := mapM_some hel
          have each : ∀ i, i < len → ∃ as cs' : List _, as.length = P.cellsOf e ∧ HasC s as ∧ treeL as = true ∧ RepA (tenv w) as cs' ∧ ∀ (j : Nat) (v : Value), cs'[j]? = some v → w.cell? ((a.add (i * P.cellsOf e)).add j) = some v := fun i hi => by
            obtain ⟨y, hy⟩ := hel i i (by simp [hi])
            simp only [Option.bind_eq_some_iff] at hy
            obtain ⟨cs', hcs, hy⟩ := hy
            obtain ⟨as, h1, h2, h3⟩ := ih d e s cs' y he hy
            obtain ⟨hl, hcell⟩ := cells?_spec hcs
            have hal := repA_length h2
            exact ⟨as, cs', by omega, h1, h3, h2, hcell⟩
          by_cases hz : len = 0 ∨ P.cellsOf e = 0
          · obtain ⟨gs, g1, g2⟩ := choose_list (fun i (as : List AVal) => as.length = P.cellsOf e ∧ HasC s as) len fun i hi => by
              obtain ⟨as, _, q1, q2, _⟩ := each i hi
              exact ⟨as, q1, q2⟩
            have hfl : gs.flatten = [] := by
              rw [List.flatten_eq_nil_iff]
              intro g hg
              obtain ⟨i, hi⟩ := List.getElem?_of_mem hg
              rcases hz with h0 | h0
              · have := (List.getElem?_eq_some_iff.1 hi).1; omega
              · exact List.eq_nil_of_length_eq_zero ((g2 i g hi).1.trans h0)
            refine ⟨[.lst gs.flatten gs.length], ⟨gs, rfl, fun g hg => ?_⟩, ⟨_, [], rfl, rfl, ⟨some a, cap, by rw [g1], by omega, hcm, .inl hfl⟩, rfl⟩, by rw [hfl]; rfl⟩
            obtain ⟨i, hi⟩ := List.getElem?_of_mem hg
            exact g2 i g hi
          · have hl0 : 0 < len := by omega
            have hc0 : 0 < P.cellsOf e := by omega
            obtain ⟨b, off, spot⟩ := a
            have hspot : spot = none := by
              obtain ⟨as, cs', q1, _, _, q4, q5⟩ := each 0 hl0
              have hal := repA_length q4
              obtain ⟨v, hv⟩ : ∃ v, cs'[0]? = some v := ⟨cs'[0]'(by omega), List.getElem?_eq_getElem (by omega)⟩
              have := World.cell?_spot (q5 0 v hv)
              simpa [Addr.add] using this
            subst hspot
            have hb : b < w.heap.size := by
              obtain ⟨as, cs', q1, _, _, q4, q5⟩ := each 0 hl0
              have hal := repA_length q4
              obtain ⟨v, hv⟩ : ∃ v, cs'[0]? = some v := ⟨cs'[0]'(by omega), List.getElem?_eq_getElem (by omega)⟩
              have := World.block_lt_of_cell? w _ (q5 0 v hv)
              simpa [Addr.add] using this
            obtain ⟨gs, g1, g2⟩ := choose_list (fun i (as : List AVal) => as.length = P.cellsOf e ∧ HasC s as ∧ treeL as = true ∧ RepC (tenv w) as b (off + i * P.cellsOf e)) len fun i hi => by
              obtain ⟨as, cs', q1, q2, q3, q4, q5⟩ := each i hi
              refine ⟨as, q1, q2, q3, repC_of q4 fun j v hj => ?_⟩
              have := q5 j v hj
              rwa [Addr.add_lit, Addr.add_lit] at this
            refine ⟨[.lst gs.flatten gs.length], ⟨gs, rfl, fun g hg => ?_⟩, ⟨_, [], rfl, rfl, ⟨some ⟨b, off, none⟩, cap, by rw [g1], by omega, hcm, .inr ⟨b, off, rfl, hb, repC_flat gs off fun i g hg => ⟨(g2 i g hg).1, (g2 i g hg).2.2.2⟩⟩⟩, rfl⟩, ?_⟩
            · obtain ⟨i, hi⟩ := List.getElem?_of_mem hg
              exact ⟨(g2 i g hi).1, (g2 i g hi).2.1⟩
            · have : treeL gs.flatten = true := by
                rw [treeL_iff]
                intro c hc
                obtain ⟨g, hg, hcg⟩ := List.mem_flatten.1 hc
                obtain ⟨i, hi⟩ := List.getElem?_of_mem hg
                exact (treeL_iff g).1 (g2 i g hi).2.2.1 c hcg
              simp [treeL, AVal.tree, this]
      · -- struct
        rename_i fs hu
        split at hs
        case h_2 => simp at hs
        rename_i L hL
        split at hs
        case isFalse => simp at hs
        rename_i htot
        simp only [Option.some.injEq] at hs
        subst hs
        simp only [hu] at h
        split at h
        case isFalse => simp at h
        rename_i hlen
        simp only [Option.map_eq_some_iff] at h
        obtain ⟨xs, hxs, _⟩ := h
        have key : ∀ (l : List Field) (off : Nat) (L : Flds) (xs : List (DataW H × List MemPlace)), fldsOf P (shapeOf P d) off l = some L →
            l.mapM (fun f => DataW.trod enc P w base spare held fuel f.type ((cs.drop f.offset).take (P.cellsOf f.type))) = some xs → off + L.total = cs.length →
            ∃ as, HasF L as ∧ RepA (tenv w) as (cs.drop off) ∧ treeL as = true := by
          intro l
          induction l with
          | nil =>
            intro off L xs h1 _ h3
            simp only [fldsOf, Option.some.injEq] at h1
            subst h1
            simp only [Flds.total] at h3
            exact ⟨[], rfl, by rw [List.drop_of_length_le (by omega)]; rfl, rfl⟩
          | cons f l ihl =>
            intro off L xs h1 h2 h3
            simp only [fldsOf] at h1
            split at h1
            case h_2 => simp at h1
            rename_i s L' hs' hL'
            split at h1
            case isFalse => simp at h1
            rename_i hoff
            simp only [Option.some.injEq] at h1
            subst h1
            simp only [Flds.total] at h3
            simp only [List.mapM_cons, Option.bind_eq_bind, Option.bind_eq_some_iff, Option.pure_def, Option.some.injEq] at h2
            obtain ⟨y, hy, ys, hys, _⟩ := h2
            rw [hoff] at hy
            obtain ⟨as, q1, q2, q3⟩ := ih d f.type s _ y hs' hy
            obtain ⟨bs, r1, r2, r3⟩ := ihl (off + P.cellsOf f.type) L' ys hL' hys (by omega)
            have hal := repA_length q2
            refine ⟨as ++ bs, ⟨as, bs, rfl, by rw [hal]; simp; omega, q1, r1⟩, ?_, by simp [q3, r3]⟩
            have := repA_append q2 r2
            rwa [← List.drop_drop, List.take_append_drop] at this
        obtain ⟨as, q1, q2, q3⟩ := key fs.toList 0 L xs hL hxs (by omega)
        rw [List.drop_zero] at q2
        have hal := repA_length q2
        exact ⟨as, ⟨by omega, q1⟩, q2, q3⟩
      · simp at hs

/-- a parameter -/
theorem arg_has {t : TypeId} {d : Nat} {σ : Shp} {v : Value} {x : DataW H} {ps : List MemPlace} (hs : shapeOf P d t = some σ) (h : DataW.Trod enc P w base spare held t v x ps) {r : Reach} {bs : Nat}
    (hv : Value.okWide P w r bs t v) : ∃ a, HasV σ a ∧ RepV (tenv w) a v ∧ a.tree = true := by
  obtain ⟨fuel, hf⟩ := h
  obtain ⟨as, h1, h2, h3⟩ := trod_has fuel d t σ _ _ hs hf
  cases d with
  | zero => simp [shapeOf] at hs
  | succ d =>
    have single : ∀ a, as = [a] → v.oneCell' = true → RepV (tenv w) a v ∧ a.tree = true := fun a ha h1c => by
      subst ha
      have hc : v.cells.toList = [v] := by cases v <;> simp_all [Value.cells, Value.oneCell']
      rw [hc] at h2
      obtain ⟨u, r, e, _, hu, _⟩ := h2
      simp only [List.cons.injEq] at e
      exact ⟨e.1 ▸ hu, by simpa [treeL] using h3⟩
    simp only [shapeOf] at hs
    split at hs
    · rename_i hu
      simp only [Option.some.injEq] at hs; subst hs
      obtain ⟨b, rfl⟩ := h1
      have : v.oneCell' = true := by
        simp only [Value.okWide, hu, Cell.okWide] at hv
        cases v <;> simp_all [Cell.ok, Value.oneCell']
      exact ⟨_, ⟨b, rfl⟩, single _ rfl this⟩
    · rename_i k hu
      simp only [Option.some.injEq] at hs; subst hs
      obtain ⟨n, rfl, hw⟩ := h1
      have : v.oneCell' = true := by
        simp only [Value.okWide, hu, Cell.okWide] at hv
        cases v <;> simp_all [Cell.ok, Value.oneCell']
      exact ⟨_, ⟨n, rfl, hw⟩, single _ rfl this⟩
    · rename_i hu
      simp only [Option.some.injEq] at hs; subst hs
      obtain ⟨s, rfl, hw⟩ := h1
      have : v.oneCell' = true := by
        obtain ⟨s, rfl⟩ := okWide_string hu hv
        rfl
      exact ⟨_, ⟨s, rfl, hw⟩, single _ rfl this⟩
    · rename_i e hu
      split at hs
      case h_2 => simp at hs
      simp only [Option.some.injEq] at hs; subst hs
      obtain ⟨gs, rfl, hg⟩ := h1
      have : v.oneCell' = true := by
        obtain ⟨a, l, c, rfl⟩ := okWide_slice hu hv
        rfl
      exact ⟨_, ⟨gs, rfl, hg⟩, single _ rfl this⟩
    · rename_i fs hu
      split at hs
      case h_2 => simp at hs
      split at hs
      case isFalse => simp at hs
      simp only [Option.some.injEq] at hs; subst hs
      obtain ⟨cs, rfl, _⟩ := okWide_struct hu hv
      exact ⟨.agg as, ⟨as, rfl, h1⟩, ⟨cs.toList, by simp, h2⟩, by simpa [AVal.tree] using h3⟩
    · simp at hs

/-- the parameters -/
def HasArgs (P : Program) : List TypeId → List AVal → Prop
  | [], as => as = []
  | t :: ts, as => ∃ a r σ, as = a :: r ∧ shapeOf P 20 t = some σ ∧ HasV σ a ∧ HasArgs P ts r

theorem args_have {bs : Nat} : ∀ {ts : List TypeId} {vs : List Value} {ds : List (DataW H)} {ps : List MemPlace}, DataW.TrodAll enc P w base spare held ts vs ds ps → (∀ t ∈ ts, (shapeOf P 20 t).isSome = true) →
    (∀ (j : Nat) t v, ts[j]? = some t → vs[j]? = some v → Value.okWide P w .any bs t v) → ∃ as, HasArgs P ts as ∧ RepL (tenv w) as vs
  | [], vs, ds, ps, h, _, _ => by
    cases vs <;> cases ds <;> simp [DataW.TrodAll] at h
    exact ⟨[], rfl, rfl⟩
  | t :: ts, vs, ds, ps, h, hs, hv => by
    obtain ⟨v, vs', d, ds', p, q, rfl, rfl, rfl, h1, h2⟩ := trodAll_cons h
    obtain ⟨σ, hσ⟩ := Option.isSome_iff_exists.1 (hs t (by simp))
    obtain ⟨a, q1, q2, _⟩ := arg_has hσ h1 (hv 0 t v rfl rfl)
    obtain ⟨as, r1, r2⟩ := args_have (bs := bs) h2 (fun t ht => hs t (by simp [ht])) (fun j t v h1 h2 => hv (j + 1) t v (by simpa using h1) (by simpa using h2))
    exact ⟨a :: as, ⟨a, as, σ, rfl, hσ, q1, r1⟩, ⟨v, vs', rfl, q2, r2⟩⟩

theorem trodAll_stays (hl : laidOutB P = true) : ∀ {ts : List TypeId} {vs : List Value} {ds : List (DataW H)} {ps : List MemPlace} {W W' : World} {sp : Nat → Bool}, (∀ t ∈ ts, P.readableRec t = true ∧ t < P.types.size) →
    DataW.TrodAll enc P W 0 (fun _ => true) true ts vs ds ps → (∀ p ∈ ps, W.sameAt W' p) → (∀ p ∈ ps, sp p.block = true) → DataW.TrodAll enc P W' 0 sp true ts vs ds ps
  | [], vs, ds, ps, W, W', sp, _, h, _, _ => by cases vs <;> cases ds <;> simp [DataW.TrodAll] at h ⊢; exact h
  | t :: ts, vs, ds, ps, W, W', sp, ht, h, hsame, hsp => by
    obtain ⟨v, vs', d, ds', p, q, rfl, rfl, rfl, h1, h2⟩ := trodAll_cons h
    exact ⟨p, q, WideElems.Trod_stays hl (ht t (by simp)).1 (ht t (by simp)).2 h1 (fun x hx => hsame x (by simp [hx])) (fun x hx => hsp x (by simp [hx])),
      trodAll_stays hl (fun t h => ht t (by simp [h])) h2 (fun x hx => hsame x (by simp [hx])) (fun x hx => hsp x (by simp [hx])), rfl⟩

theorem law_calls {C : Program} {s : ChangeSpec} {fn : Func} {f : FuncId} {tb : TypeId} {apart fresh handsOn : Bool} {W : World} {args : Array Value} {ds gs : List (DataW H)} {before : List MemPlace} {bs : Nat}
    (hl : laidOutB C = true) (hvars : s.vars = []) (hrt : fn.resultTypes = #[tb]) (htb : C.underlying tb = some .bool)
    (hpar : ∀ t ∈ fn.params.toList, C.readableRec t = true ∧ t < C.types.size ∧ (shapeOf C 20 t).isSome = true)
    (hspec : ∀ ds : List (DataW H), ds.length = fn.params.size → (s.fn H ds).results = [.lit (.bool true)] ∧ (s.fn H ds).args = ds ∧ (s.fn H ds).vars = [])
    (hval : ∀ (j : Nat) t v, fn.params[j]? = some t → args[j]? = some v → Value.okWide C W .any bs t v)
    (hW : DataW.Whole enc C fn.params.toList s.vars apart W args.toList ds gs before)
    (hglob : Globs (tenv W))
    (hden : ∀ as, HasArgs C fn.params.toList as → Den C f as (.flat (.bool true))) :
    Calls C f args W fun e W' => ∃ v, e = .returned v ∧ s.post enc C fn apart fresh handsOn false W args v W' := by
  have hW' := hW
  obtain ⟨p, q, hA, hV, rfl, hfz, hnd⟩ := hW
  obtain ⟨as, h1, h2⟩ := args_have (bs := bs) hA (fun t ht => (hpar t ht).2.2) (fun j t v ht hv => hval j t v (by simpa using ht) (by simpa using hv))
  have hlen : ds.length = fn.params.size := by
    have : ∀ {ts : List TypeId} {vs : List Value} {ds : List (DataW H)} {ps : List MemPlace}, DataW.TrodAll enc C W 0 (fun _ => true) true ts vs ds ps → ds.length = ts.length := by
      intro ts
      induction ts with
      | nil => intro vs ds ps h; cases vs <;> cases ds <;> simp [DataW.TrodAll] at h; rfl
      | cons t ts ih =>
        intro vs ds ps h
        obtain ⟨v, vs', d, ds', p, q, rfl, rfl, rfl, h1, h2⟩ := trodAll_cons h
        simp [ih h2]
    simpa using this hA
  rw [hvars] at hV
  obtain ⟨rfl, rfl⟩ := trodVars_none hV
  obtain ⟨s1, s2, s3⟩ := hspec ds hlen
  have hc := (hden as h1).2.2 W args.toList (fun b => b < W.heap.size) (fun b h => h) hglob h2
  rw [Array.toArray_toList] at hc
  refine hc.mono ?_
  rintro e W' ⟨v, rfl, hr, hb⟩
  obtain ⟨_, rfl⟩ := hr
  refine ⟨_, rfl, ds, [], p ++ [], [], p, [], hW', ?_, ?_, ?_, ?_, fun h => by simp at h⟩
  · rw [List.append_nil, s1, hrt]
    exact trodAll_mk1 (shut_bool htb _)
  · rw [List.append_nil, s2]
    exact trodAll_stays hl (fun t ht => ⟨(hpar t ht).1, (hpar t ht).2.1⟩) hA (fun x hx => hb.same (by simpa using hW'.lt x (by simpa using hx))) (fun x hx => by simpa using hW'.lt x (by simpa using hx))
  · rw [List.append_nil, s3, hvars]
    rfl
  · exact World.keptBut_mono (fun x hx => ⟨hx, .inr (.inl (by simpa using hx))⟩) (hb.frame _)
end
end Go.Own
