/-
  OWN WORK, generic over any program: laws whose rows list tables of numbers: the tables read as listed; the variables read behind the call as before.
-/
import Derived.Test.YtnklfhjpigameaaDoorOwnW
import Derived.OpenVars
import Derived.LaidMore
import Derived.MakeChecks
import Derived.OpenShut
import Derived.SevenTiedAt
import Derived.Lib.LaidTab
import Derived.Handed
import Derived.Lay
import Derived.Shelf.Vars
namespace Go.Own
open Go Go.RowKit Go.ChangeShapes Go.WideShapes Go.ChangeAt
set_option linter.unusedSectionVars false
section
variable {H : Type} {enc : TypeId × Value → H}
theorem trodVars_len {P : Program} {w : World} {sp : Nat → Bool} : ∀ {ns : List String} {gs : List (DataW H)} {ps : List MemPlace}, DataW.TrodVars enc P w sp ns gs ps → gs.length = ns.length
  | [], [], _, _ => rfl
  | [], _ :: _, _, h => h.elim
  | _ :: _, [], _, h => h.elim
  | _ :: ns, _ :: gs, _, h => by
    obtain ⟨_, _, _, _, _, _, _, _, _, _, hs, _⟩ := h
    simp [trodVars_len hs]
theorem law_callsV [GL] {C : Program} {s : ChangeSpec} {fn : Func} {f : FuncId} {tb : TypeId} {apart fresh handsOn : Bool} {W : World} {args : Array Value} {ds gs : List (DataW H)} {before : List MemPlace} {bs : Nat}
    (hl : laidOutB C = true) (hrow : varsRowed C s.vars = true) (hrt : fn.resultTypes = #[tb]) (htb : C.underlying tb = some .bool)
    (hpar : ∀ t ∈ fn.params.toList, C.readableRec t = true ∧ t < C.types.size ∧ (shapeOf C 20 t).isSome = true)
    (hspec : ∀ ds gs : List (DataW H), ds.length = fn.params.size → gs.length = s.vars.length → (s.fn H (ds ++ gs)).results = [.lit (.bool true)] ∧ (s.fn H (ds ++ gs)).args = ds ∧ (s.fn H (ds ++ gs)).vars = gs)
    (hval : ∀ (j : Nat) t v, fn.params[j]? = some t → args[j]? = some v → Value.okWide C W .any bs t v)
    (hW : DataW.Whole enc C fn.params.toList s.vars apart W args.toList ds gs before)
    (hglob : Globs (tenv W))
    (hden : ∀ as, HasArgs C fn.params.toList as → Den C f as (.flat (.bool true))) :
    Calls C f args W fun e W' => ∃ v, e = .returned v ∧ s.post enc C fn apart fresh handsOn false W args v W' := by
  have hW' := hW
  obtain ⟨p, q, hA, hV, rfl, hfz, hnd⟩ := hW
  obtain ⟨as, h1, h2⟩ := args_have (bs := bs) hA (fun t ht => (hpar t ht).2.2) (fun j t v ht hv => hval j t v (by simpa using ht) (by simpa using hv))
  have hlen : ds.length = fn.params.size := by
    have : ∀ {ts : List TypeId} {vs : List Value} {ds : List (DataW H)} {ps : List MemPlace}, DataW.TrodAll enc C W 0 (fun _ => true) true ts vs ds ps → ds.length = ts.length := by
      intro ts
      induction ts with
      | nil => intro vs ds ps h; cases vs <;> cases ds <;> simp [DataW.TrodAll] at h; rfl
      | cons t ts ih =>
        intro vs ds ps h
        obtain ⟨v, vs', d, ds', p, q, rfl, rfl, rfl, h1, h2⟩ := trodAll_cons h
        simp [ih h2]
    simpa using this hA
  obtain ⟨s1, s2, s3⟩ := hspec ds gs hlen (trodVars_len hV)
  have hc := (hden as h1).2.2 W args.toList (fun b => b < W.heap.size) (fun b h => h) hglob h2
  rw [Array.toArray_toList] at hc
  refine hc.mono ?_
  rintro e W' ⟨v, rfl, hr, hb⟩
  obtain ⟨_, rfl⟩ := hr
  refine ⟨_, rfl, ds, gs, p ++ q, [], p, q, hW', ?_, ?_, ?_, ?_, fun h => by simp at h⟩
  · rw [s1, hrt]
    exact trodAll_mk1 (shut_bool htb _)
  · rw [s2]
    exact trodAll_stays hl (fun t ht => ⟨(hpar t ht).1, (hpar t ht).2.1⟩) hA (fun x hx => hb.same (hW'.lt x (by simp [hx]))) (fun x hx => by simpa using hW'.lt x (by simp [hx]))
  · rw [s3]
    exact Below.trodVars hl hb hrow hV
  · refine World.keptBut_mono (fun x hx => ⟨hx, ?_⟩) (hb.frame _)
    rcases List.mem_append.1 hx with h | h
    · exact .inr (.inl h)
    · exact .inr (.inr h)
end
/-- a table of numbers that is laid lies where it lies -/
theorem tab_rep [GL] {P : Program} {W : World} {n : String} {g t e N : Nat} {k : IntKind} {L : List Int} (hgn : P.globalNamed n = some g) (ht : (P.globals[g]?).map (·.type) = some t) (hu : P.underlying t = some (.array N e)) (he : P.underlying e = some (.int k)) (hce : P.cellsOf e = 1)
    (h : ∃ g t cs fuel p, P.globalNamed n = some g ∧ (P.globals[g]?).map (·.type) = some t ∧ W.var? P n = some cs ∧ DataW.trod (fun _ => ()) P W 0 (fun _ => true) false fuel t cs.toList = some (.agg (L.map fun x => .lit (.int k x)), p)) :
    RepV (tenv W) (.iptr (mapC (fun x => AVal.flat (.int k x)) L) 0) (.pointer (some ⟨g, 0, none⟩)) := by
  obtain ⟨g', t', cs, fuel, p, h1, h2, h3, h4⟩ := h
  obtain rfl := Option.some.inj (hgn.symm.trans h1)
  obtain rfl := Option.some.inj (ht.symm.trans h2)
  obtain ⟨xs, m, _, hx, hlen, hxl, hel⟩ := DataW.trod_array hu h4
  simp only [Prod.mk.injEq, DataW.agg.injEq] at hx
  obtain ⟨hx, _⟩ := hx
  have hN : L.length = N := by
    have := congrArg List.length hx
    simp only [List.length_map] at this
    omega
  have hcell : ∀ j (hj : j < L.length), W.cell? ⟨g, j, none⟩ = some (.int k L[j]) := fun j hj => by
    have hj2 : j < N := by omega
    have hj3 : j < xs.length := by omega
    have h5 := hel j hj2
    rw [hce, Nat.mul_one, List.getElem?_eq_getElem hj3] at h5
    obtain ⟨z, e1, e2, _⟩ := DataW.trod_int he h5
    have hxj : xs[j].1 = .lit (.int k L[j]) := by
      have e3 : (xs.map (·.1))[j]? = (L.map fun x => (DataW.lit (.int k x) : DataW Unit))[j]? := by rw [← hx]
      rw [List.getElem?_map, List.getElem?_map, List.getElem?_eq_getElem hj3, List.getElem?_eq_getElem hj] at e3
      simpa using e3
    rw [e2] at hxj
    have hz : z = L[j] := by simpa using hxj
    subst hz
    rw [World.var?_cell hgn h3 j]
    have e4 : (cs.toList.drop j).take 1 = [Value.int k L[j]] := e1
    have e5 : cs.toList[j]? = some (Value.int k L[j]) := by
      have := congrArg (fun l => l[0]?) e4
      simpa [List.getElem?_take, List.getElem?_drop] using this
    simpa using e5
  have hg : g < W.heap.size := by
    unfold World.var? at h3
    rw [hgn] at h3
    simp only [Option.bind_some] at h3
    cases hh : W.heap[g]? with
    | none => rw [hh] at h3; cases h3
    | some o => exact heap_lt hh
  refine ⟨g, 0, rfl, hg, ?_⟩
  have key : ∀ (M : List Int) (off : Nat), (∀ j (hj : j < M.length), W.cell? ⟨g, off + j, none⟩ = some (.int k M[j])) → RepC (tenv W) (mapC (fun x => AVal.flat (.int k x)) M) g off := by
    intro M
    induction M with
    | nil => intro _ _; trivial
    | cons x M ih =>
      intro off hM
      have h0 : W.cell? ⟨g, off, none⟩ = some (.int k x) := hM 0 (by simp)
      refine ⟨⟨.int k x, h0, rfl, ⟨rfl, rfl⟩⟩, ih (off + 1) fun j hj => ?_⟩
      have := hM (j + 1) (by simpa using hj)
      rw [show off + 1 + j = off + (j + 1) by omega]
      simpa using this
  exact key L 0 fun j hj => by rw [Nat.zero_add]; exact hcell j hj
/-- a table of rows: a text and two numbers -/
def tab3 (k : IntKind) (L : List (List UInt8 × Int × Int)) : List Value := L.flatMap fun x => [.string ⟨x.1.toArray⟩, .int k x.2.1, .int k x.2.2]
theorem tab_rep3 [GL] {P : Program} {W : World} {n : String} {g t e N ts tk : Nat} {k : IntKind} {L : List (List UInt8 × Int × Int)} {f0 f1 f2 : Field} (hgn : P.globalNamed n = some g) (ht : (P.globals[g]?).map (·.type) = some t) (hu : P.underlying t = some (.array N e)) (he : P.underlying e = some (.struct #[f0, f1, f2])) (hce : P.cellsOf e = 3)
    (t0 : f0.type = ts ∧ f0.offset = 0) (t1 : f1.type = tk ∧ f1.offset = 1) (t2 : f2.type = tk ∧ f2.offset = 2) (hts : P.underlying ts = some .string) (htk : P.underlying tk = some (.int k)) (hcs : P.cellsOf ts = 1) (hck : P.cellsOf tk = 1)
    (h : ∃ g t cs fuel p, P.globalNamed n = some g ∧ (P.globals[g]?).map (·.type) = some t ∧ W.var? P n = some cs ∧ DataW.trod (fun _ => ()) P W 0 (fun _ => true) false fuel t cs.toList = some (.agg (L.map fun x => .agg [.lit (.string x.1), .lit (.int k x.2.1), .lit (.int k x.2.2)]), p)) :
    RepV (tenv W) (.iptr ((tab3 k L).map AVal.flat) 0) (.pointer (some ⟨g, 0, none⟩)) := by
  obtain ⟨g', t', cs, fuel, p, h1, h2, h3, h4⟩ := h
  obtain rfl := Option.some.inj (hgn.symm.trans h1)
  obtain rfl := Option.some.inj (ht.symm.trans h2)
  obtain ⟨xs, m, _, hx, hlen, hxl, hel⟩ := DataW.trod_array hu h4
  simp only [Prod.mk.injEq, DataW.agg.injEq] at hx
  obtain ⟨hx, _⟩ := hx
  have hN : L.length = N := by
    have := congrArg List.length hx
    simp only [List.length_map] at this
    omega
  have one : ∀ (j : Nat) (v : Value), (cs.toList.drop j).take 1 = [v] → W.cell? ⟨g, j, none⟩ = some v := fun j v e4 => by
    rw [World.var?_cell hgn h3 j]
    have e5 : cs.toList[j]? = some v := by
      have := congrArg (fun l => l[0]?) e4
      simpa [List.getElem?_take, List.getElem?_drop] using this
    simpa using e5
  have hrow : ∀ j (hj : j < L.length), W.cell? ⟨g, j * 3, none⟩ = some (.string ⟨L[j].1.toArray⟩) ∧ W.cell? ⟨g, j * 3 + 1, none⟩ = some (.int k L[j].2.1) ∧ W.cell? ⟨g, j * 3 + 2, none⟩ = some (.int k L[j].2.2) := fun j hj => by
    have hj2 : j < N := by omega
    have hj3 : j < xs.length := by omega
    have h5 := hel j hj2
    rw [hce, List.getElem?_eq_getElem hj3] at h5
    obtain ⟨ys, m2, _, hy, hyl, hyn, hf⟩ := DataW.trod_struct he h5
    have hxj : xs[j].1 = .agg [.lit (.string L[j].1), .lit (.int k L[j].2.1), .lit (.int k L[j].2.2)] := by
      have e3 : (xs.map (·.1))[j]? = (L.map fun x => (DataW.agg [.lit (.string x.1), .lit (.int k x.2.1), .lit (.int k x.2.2)] : DataW Unit))[j]? := by rw [← hx]
      rw [List.getElem?_map, List.getElem?_map, List.getElem?_eq_getElem hj3, List.getElem?_eq_getElem hj] at e3
      simpa using e3
    rw [hy] at hxj
    have hyn' : ys.length = 3 := hyn
    match ys, hyn' with
    | [y0, y1, y2], _ =>
      simp only [List.map_cons, List.map_nil, DataW.agg.injEq, List.cons.injEq, and_true] at hxj
      obtain ⟨q0, q1, q2⟩ := hxj
      have r0 := hf 0 f0 rfl
      have r1 := hf 1 f1 rfl
      have r2 := hf 2 f2 rfl
      rw [t0.1, t0.2, hcs] at r0
      rw [t1.1, t1.2, hck] at r1
      rw [t2.1, t2.2, hck] at r2
      obtain ⟨s0, u0, v0, _⟩ := DataW.trod_string hts r0
      obtain ⟨s1, u1, v1, _⟩ := DataW.trod_int htk r1
      obtain ⟨s2, u2, v2, _⟩ := DataW.trod_int htk r2
      rw [v0] at q0
      rw [v1] at q1
      rw [v2] at q2
      have z0 : s0.data.toList = L[j].1 := by simpa using q0
      have z1 : s1 = L[j].2.1 := by simpa using q1
      have z2 : s2 = L[j].2.2 := by simpa using q2
      have d : ∀ i, i < 3 → (((cs.toList.drop (j * 3)).take 3).drop i).take 1 = (cs.toList.drop (j * 3 + i)).take 1 := fun i hi => by
        rw [List.drop_take, List.take_take, List.drop_drop, Nat.min_eq_left (by omega)]
      rw [d 0 (by omega)] at u0
      rw [d 1 (by omega)] at u1
      rw [d 2 (by omega)] at u2
      refine ⟨?_, ?_, ?_⟩
      · rw [← z0]
        exact one _ _ u0
      · rw [← z1]
        exact one _ _ u1
      · rw [← z2]
        exact one _ _ u2
  have hg : g < W.heap.size := by
    unfold World.var? at h3
    rw [hgn] at h3
    simp only [Option.bind_some] at h3
    cases hh : W.heap[g]? with
    | none => rw [hh] at h3; cases h3
    | some o => exact heap_lt hh
  refine ⟨g, 0, rfl, hg, ?_⟩
  have key : ∀ (M : List (List UInt8 × Int × Int)) (off : Nat), (∀ j (hj : j < M.length), W.cell? ⟨g, off + j * 3, none⟩ = some (.string ⟨M[j].1.toArray⟩) ∧ W.cell? ⟨g, off + j * 3 + 1, none⟩ = some (.int k M[j].2.1) ∧ W.cell? ⟨g, off + j * 3 + 2, none⟩ = some (.int k M[j].2.2)) → RepC (tenv W) ((tab3 k M).map AVal.flat) g off := by
    intro M
    induction M with
    | nil => intro _ _; trivial
    | cons x M ih =>
      intro off hM
      obtain ⟨h0, h1, h2⟩ := hM 0 (by simp)
      simp only [Nat.zero_mul, Nat.add_zero] at h0 h1 h2
      refine ⟨⟨_, h0, rfl, ⟨rfl, rfl⟩⟩, ⟨_, h1, rfl, ⟨rfl, rfl⟩⟩, ⟨_, h2, rfl, ⟨rfl, rfl⟩⟩, ih (off + 1 + 1 + 1) fun j hj => ?_⟩
      have := hM (j + 1) (by simpa using hj)
      rw [show off + 1 + 1 + 1 + j * 3 = off + (j + 1) * 3 by omega]
      simpa using this
  exact key L 0 fun j hj => by rw [Nat.zero_add]; exact hrow j hj
/-- .. and its cells are these alone -/
theorem tab_row [GL] {P : Program} {W : World} {n : String} {g t e N : Nat} {k : IntKind} {L : List Int} (hgn : P.globalNamed n = some g) (ht : (P.globals[g]?).map (·.type) = some t) (hu : P.underlying t = some (.array N e)) (he : P.underlying e = some (.int k)) (hce : P.cellsOf e = 1) (hct : P.cellsOf t = N)
    (h : ∃ g t cs fuel p, P.globalNamed n = some g ∧ (P.globals[g]?).map (·.type) = some t ∧ W.var? P n = some cs ∧ DataW.trod (fun _ => ()) P W 0 (fun _ => true) false fuel t cs.toList = some (.agg (L.map fun x => .lit (.int k x)), p)) :
    RepV (tenv W) (.row (L.map (Value.int k))) (.pointer (some ⟨g, 0, none⟩)) := by
  obtain ⟨g', t', cs, fuel, p, h1, h2, h3, h4⟩ := h
  obtain rfl := Option.some.inj (hgn.symm.trans h1)
  obtain rfl := Option.some.inj (ht.symm.trans h2)
  have hcs := Lib.cells_of_tab hu he hce hct h4
  unfold World.var? at h3
  rw [hgn] at h3
  simp only [Option.bind_some] at h3
  cases hh : W.heap[g]? with
  | none => rw [hh] at h3; cases h3
  | some o =>
    rw [hh] at h3
    cases o with
    | cells arr T fz =>
      simp only [Option.some.injEq] at h3
      subst h3
      refine ⟨g, T, fz, rfl, heap_lt hh, ?_⟩
      have : arr = (L.map (Value.int k)).toArray := by
        rw [← hcs]
      rw [← this]
      exact hh
    | _ => cases h3
/-- a variable that holds some number -/
theorem shp_rep [GL] {W : World} {g : Nat} (h : ∃ m, W.cell? ⟨g, 0, none⟩ = some (.int .i64 m)) : RepV (tenv W) (.iptr [.kin 0] 0) (.pointer (some ⟨g, 0, none⟩)) := by
  obtain ⟨m, hm⟩ := h
  have hg : g < W.heap.size := by
    unfold World.cell? at hm
    split at hm
    · rename_i h'
      exact heap_lt h'
    · cases hm
  exact ⟨g, 0, rfl, hg, ⟨.int .i64 m, hm, rfl, m, rfl⟩, trivial⟩
/-- a variable that is laid as an error -/
theorem trod_iface {P : Program} {W : World} {fuel t : Nat} {cs : List Value} {nm : String} {d : DataW Unit} {p : List MemPlace} {ms : _} (hu : P.underlying t = some (.interface ms)) (h : DataW.trod (fun _ => ()) P W 0 (fun _ => true) false fuel t cs = some (.iface nm d, p)) : ∃ u v, cs = [.iface u v] := by
  cases fuel with
  | zero => simp [DataW.trod] at h
  | succ n =>
    unfold DataW.trod at h
    rw [hu] at h
    split at h <;> simp_all
theorem err_rep [GL] {P : Program} {W : World} {n : String} {g t : Nat} {nm : String} {d : DataW Unit} {ms : _} (hgn : P.globalNamed n = some g) (ht : (P.globals[g]?).map (·.type) = some t) (hu : P.underlying t = some (.interface ms))
    (h : ∃ g t cs fuel p, P.globalNamed n = some g ∧ (P.globals[g]?).map (·.type) = some t ∧ W.var? P n = some cs ∧ DataW.trod (fun _ => ()) P W 0 (fun _ => true) false fuel t cs.toList = some (.iface nm d, p)) :
    RepV (tenv W) (.iptr [.kin 1] 0) (.pointer (some ⟨g, 0, none⟩)) := by
  obtain ⟨g', t', cs, fuel, p, h1, h2, h3, h4⟩ := h
  obtain rfl := Option.some.inj (hgn.symm.trans h1)
  obtain rfl := Option.some.inj (ht.symm.trans h2)
  obtain ⟨u, v, hv⟩ := trod_iface hu h4
  have hc := World.var?_cell hgn h3 0
  have e0 : cs[0]? = some (.iface u v) := by
    have := congrArg (fun l => l[0]?) hv
    simpa using this
  rw [e0] at hc
  have hg : g < W.heap.size := by
    unfold World.var? at h3
    rw [hgn] at h3
    simp only [Option.bind_some] at h3
    cases hh : W.heap[g]? with
    | none => rw [hh] at h3; cases h3
    | some o => exact heap_lt hh
  exact ⟨g, 0, rfl, hg, ⟨.iface u v, hc, rfl, u, v, rfl⟩, trivial⟩
/-- the lift, with what the world's shape says -/
theorem handed_shaped {H : Type} {enc : TypeId × Value → H} {a : Assume} {C : Checked} {os : Os} {f : FuncId} {fn : Func} {s : ChangeSpec} {apart fresh handsOn again : Bool} {X : World → Array Value → Prop}
    (hX : ∀ (w w' : World) (args : Array Value), w.heap = w'.heap → X w args → X w' args)
    (own : ownKnob C.prog.godebug = none) (started : os.Started) (noInit : C.prog.inits.idxOf? f = none) (hfn : C.prog.funcs[f]? = some fn)
    (wit : ∃ (w : World) (tape : Tape) (i : Input), w.os = os ∧ (w.forCall tape i).Shaped C.prog ∧ i.vars = [] ∧ Input.okWide C.prog (w.forCall tape i) .any w.heap.size f i ∧
      ((s.pre enc C.prog fn [] apart (w.forCall tape i).memory i.args ∧ X (w.forCall tape i).memory i.args) ∧ sizedMet enc C.prog fn (OpenSpec.ofChange s) apart (w.forCall tape i).memory i.args) ∧ a.holds C.prog (lone (Frame.enter C.prog f i.args .normal) [] (w.forCall tape i)))
    (con : ∀ (W : World) (base : Nat) (args : Array Value) (ds gs : List (DataW H)) (before : List MemPlace),
      (∀ (j : Nat) t v, fn.params[j]? = some t → args[j]? = some v → Value.okWide C.prog W .any base t v) →
      DataW.Whole enc C.prog fn.params.toList s.vars apart W args.toList ds gs before → X W args → W.ShapedOpen C.prog →
      Calls C.prog f args W fun e W' => ∃ v, e = .returned v ∧ s.post enc C.prog fn apart fresh handsOn again W args v W') :
    ReturnsInHanded a C os f .any (fun w args => (s.pre enc C.prog fn [] apart w args ∧ X w args) ∧ sizedMet enc C.prog fn (OpenSpec.ofChange s) apart w args) (s.post enc C.prog fn apart fresh handsOn again) := by
  refine returnsInHanded_of_calls own started noInit wit fun w tape i _ hsh _ hok hpre _ => ?_
  obtain ⟨_, _, _, fn', hf, _, _, _, _, hv⟩ := hok
  obtain rfl : fn' = fn := Option.some.inj (hf.symm.trans hfn)
  obtain ⟨⟨⟨ds, gs, before, hw, _⟩, hx⟩, _⟩ := hpre
  have hc := con (w.forCall tape i) w.heap.size i.args ds gs before hv (DataW.Whole.of_heap (w' := w.forCall tape i) (by rfl) hw) (hX _ _ _ (by rfl) hx) hsh
  refine hc.mono fun e W' ⟨v, he, hp⟩ => ?_
  subst he
  exact ChangeSpec.post_blind hp
end Go.Own
