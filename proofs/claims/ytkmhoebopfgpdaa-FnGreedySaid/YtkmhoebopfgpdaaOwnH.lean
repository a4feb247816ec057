/-
  OWN WORK, generic over any program: the operations that make memory or write it.
  OWN WORK, generic over any program: slices of slices; ALL operations that yield a value.
-/
import Derived.Test.YtkmhoebopfgpdaaOwnF
namespace Go.Own
open Go Go.RowKit
variable [GL]
set_option linter.unusedSectionVars false

theorem bytesOf_spec {E : Env} {b : Nat} : ∀ {cells : List AVal} {xs : List Int} {off : Nat}, bytesOf cells = some xs → RepC E cells b off → xs.length = cells.length ∧ ∀ i, i < cells.length → E.w.cell? ⟨b, off + i, none⟩ = some (.int .u8 (xs.getD i 0))
  | [], xs, off, h, _ => by
    simp only [bytesOf, Option.some.injEq] at h
    subst h
    exact ⟨rfl, fun i hi => absurd hi (by simp)⟩
  | c :: r, xs, off, h, hc => by
    unfold bytesOf at h
    split at h
    · rename_i h0
      exact absurd h0 (by simp)
    · rename_i n r' e
      have e1 := (List.cons.inj e).1
      have e2 := (List.cons.inj e).2
      subst e1
      subst e2
      obtain ⟨ys, hy, rfl⟩ := Option.map_eq_some_iff.1 h
      obtain ⟨⟨v, hv, _, hr⟩, ht⟩ := hc
      obtain rfl : v = .int .u8 n := hr.2
      obtain ⟨l, k⟩ := bytesOf_spec hy ht
      refine ⟨by simp [l], fun i hi => ?_⟩
      cases i with
      | zero => exact hv
      | succ i =>
        have := k i (by simpa using hi)
        rw [show off + 1 + i = off + (i + 1) by omega] at this
        simpa using this
    · simp at h
theorem aconv_sound {P : Program} {okA : Nat → Prop} {B : Nat → Prop} {hp : Nat → Option Blk} {G : Nat} {m : Nat → Option Nat} {w : World} {src dst : TypeId} {x y : AVal} {v : Value}
    (h : aconv P src dst x = some y) (hx : RepV (envOf okA B hp G m w) x v) : ∃ r, RepV (envOf okA B hp G m w) y r ∧ ∀ w', agree w w' → (convert src dst v).run P w' = .ok r w' := by
  unfold aconv at h
  split at h
  case h_2 => simp at h
  rename_i cells n
  split at h
  case h_2 => simp at h
  rename_i e hs hd
  split at h
  case h_2 => simp at h
  rename_i he
  split at h
  case isFalse => simp at h
  rename_i hn
  obtain ⟨xs, hxs, rfl⟩ := Option.map_eq_some_iff.1 h
  obtain ⟨a, c, rfl, hnc, hc, hm⟩ := hx
  refine ⟨_, ⟨rfl, rfl⟩, fun w' hw => ?_⟩
  have nil : ∀ a', n = 0 → xs = [] → (convert src dst (.slice a' n c)).run P w' = .ok (.string (strOfNums xs)) w' := fun a' h0 hx0 => by
    subst hx0
    cases a' with
    | none => exact run_convert_bytes_nil w' src e hs he n c dst hd
    | some a' =>
      rw [h0, run_convert_bytes_string w' src dst e _ 0 c hs he hd, run_bytesToString w' _ 0 c [] (by simpa using run_loadCells_list (P := P) w' a' [] (fun j v hj => by simp at hj))]
      rfl
  rcases hm with rfl | ⟨b, off, rfl, hok, hC⟩
  · simp only [bytesOf, Option.some.injEq] at hxs
    exact nil a (by simpa using hn.symm) hxs.symm
  · obtain ⟨l, k⟩ := bytesOf_spec hxs hC
    exact run_convert_bytes_arg w' src e hs he b off n c xs (by omega) (fun i hi => by
      rw [cell_same (hw b hok.1)]
      exact k i (by omega)) dst hd

section
variable {P : Program} {okA : Nat → Prop} {w0 : Base} {s : ASt} {m : Nat → Option Nat} {a : Act} {w : World}

theorem sliceV_sound (S : Sim okA w0 s m a w) {t : TypeId} {x y : AVal} {v : Value} {lo hi mx : Option Operand} (h : asliceV P s t x lo hi mx = some y)
    (hl : liveE (envOf okA w0.new s.heap s.gen m w) x) (hx : RepV (envOf okA w0.new s.heap s.gen m w) x v)
    (hsz : ∀ β g blk, (∃ off n, x = .own β g off n) → blkOf s β g = some blk → ∀ i e ei, ti P t = some i → i.kind = .slice e → ti P e = some ei → ei.size = blk.size) :
    ∃ u, RepV (envOf okA w0.new s.heap s.gen m w) y u ∧ ∀ w', (Instr.sliceAt t v (lo.map a.eval) (hi.map a.eval) (mx.map a.eval)).run P w' = .ok u w' := by
  unfold asliceV at h
  split at h
  case h_2 => simp at h
  rename_i sz ag by_ z e hti
  obtain ⟨inf, d, z', h1, h2, h3, h4, he⟩ := ti_spec hti
  simp only [TI.mk.injEq] at he
  have hd := kind_slice he.2.2.2.2.symm
  subst hd
  split at h
  case h_2 => simp at h
  rename_i ei hei
  obtain ⟨inf', d', z'', g1, g2, g3, g4, ge⟩ := ti_spec hei
  have hs : inf'.size = ei.size := by rw [ge]
  have run : ∀ (ad : Option Addr) (len cap l h mm : Nat) w', (Instr.sliceBounds true len cap (lo.map a.eval) (hi.map a.eval) (mx.map a.eval)).run P w' = .ok (l, h, mm) w' →
      (Instr.sliceAt t (.slice ad len cap) (lo.map a.eval) (hi.map a.eval) (mx.map a.eval)).run P w' = .ok (.slice (if mm = l then ad else ad.map (·.add (l * ei.size))) (h - l) (mm - l)) w' := fun ad len cap l h mm w' hb => by
    simp only [Instr.sliceAt, Instr.slice, Sem.run_bind, run_underlying h2, Result.andThen_ok, hb, run_sizeOf g1, Sem.run_pure, hs]
  split at h
  · -- a tree
    rename_i cells n
    obtain ⟨ad, c, rfl, hn, hmx, hcells⟩ := hx
    split at h
    · split at h
      case h_2 => simp at h
      rename_i hh l eh el
      split at h
      case isFalse => simp at h
      rename_i hc
      simp only [Option.some.injEq] at h
      subst h
      refine ⟨_, ?_, fun w' => run ad n c l hh c w' (run_sliceBounds S eh el hc.1 hc.2 rfl hn w')⟩
      refine ⟨_, c - l, rfl, by omega, by omega, ?_⟩
      by_cases hz : (cells.drop (l * ei.size)).take ((hh - l) * ei.size) = []
      · exact .inl hz
      · have hne : cells ≠ [] := fun e => by rw [e] at hz; simp at hz
        obtain ⟨b, off, rfl, hok, hrep⟩ := hcells.resolve_left hne
        refine .inr ⟨b, off + l * ei.size, ?_, hok, repC_take _ (repC_drop _ hrep)⟩
        have : c ≠ l := fun e => by
          have : hh - l = 0 := by omega
          rw [this] at hz
          simp at hz
        rw [if_neg this]
        simp [Addr.add_lit]
    · rename_i mxo
      split at h
      case h_2 => simp at h
      rename_i hho eh el em
      simp only [Option.some.injEq] at h
      subst h
      refine ⟨.slice ad 0 0, ⟨ad, rfl⟩, fun w' => ?_⟩
      have := run ad n c 0 0 0 w' (run_sliceBounds0 S em eh el w' (by simp))
      simpa using this
  · -- one of the function's own
    rename_i β g off n
    obtain ⟨hg, ho, hp⟩ := hx
    obtain ⟨p, hl⟩ := hl
    obtain ⟨ad, c, rfl, hn, hmx, hcc, hcz⟩ := hp p.1 p.2 hl
    have hblk : ∃ blk, blkOf s β g = some blk ∧ p = (m β, blk.size) := by
      simp only [envOf] at hl
      split at hl
      · rename_i blk hb
        split at hl
        · rename_i hgg
          simp only [Option.some.injEq] at hl
          exact ⟨blk, by simp [blkOf, hb, hgg], hl.symm⟩
        · simp at hl
      · simp at hl
    obtain ⟨blk, hb, hpe⟩ := hblk
    have hes : ei.size = p.2 := by rw [hpe]; exact hsz β g blk ⟨off, n, rfl⟩ hb _ e ei hti rfl hei
    split at h
    · split at h
      case h_2 => simp at h
      rename_i hh l eh el
      split at h
      case isFalse => simp at h
      rename_i hc
      simp only [Option.some.injEq] at h
      subst h
      refine ⟨_, ?_, fun w' => run ad n c l hh c w' (run_sliceBounds S eh el hc.1 hc.2.1 rfl hn w')⟩
      refine ⟨hg, rfl, fun r sz e => ?_⟩
      rw [hl] at e
      simp only [Option.some.injEq] at e
      refine ⟨_, c - l, rfl, by omega, by omega, ?_, fun h0 hc0 => ?_⟩
      case refine_2 =>
        have hl0 : l = 0 := by
          have : l * ei.size = 0 := by omega
          exact (Nat.mul_eq_zero.1 this).resolve_right hc.2.2
        rw [show r = p.1 by rw [e]]
        exact hcz (by omega) (by omega)
      by_cases hz : c = l
      · exact .inl (by omega)
      · obtain ⟨b, hb, rfl, hroom⟩ := hcc.resolve_left (by omega)
        refine .inr ⟨b, by rw [← hb, e], ?_, ?_⟩
        · rw [if_neg hz]; simp [Addr.add_lit]
        · have : off + l * ei.size + (c - l) * sz = off + c * p.2 := by
            have h1 : sz = p.2 := by rw [e]
            rw [h1, hes, Nat.add_assoc, ← Nat.add_mul]
            congr 2
            omega
          rw [this]
          exact hroom
    · rename_i mxo
      split at h
      case h_2 => simp at h
      rename_i hho eh el em
      simp only [Option.some.injEq] at h
      subst h
      refine ⟨.slice ad 0 0, ⟨ad, rfl⟩, fun w' => ?_⟩
      have := run ad n c 0 0 0 w' (run_sliceBounds0 S em eh el w' (by simp))
      simpa using this
  · -- empty
    obtain ⟨ad, rfl⟩ := hx
    split at h
    · split at h
      case h_2 => simp at h
      rename_i eh el
      simp only [Option.some.injEq] at h
      subst h
      refine ⟨.slice ad 0 0, ⟨ad, rfl⟩, fun w' => ?_⟩
      have := run ad 0 0 0 0 0 w' (run_sliceBounds S eh el (Nat.le_refl _) (Nat.le_refl _) rfl (Nat.le_refl _) w')
      simpa using this
    · rename_i mxo
      split at h
      case h_2 => simp at h
      rename_i hho eh el em
      simp only [Option.some.injEq] at h
      subst h
      refine ⟨.slice ad 0 0, ⟨ad, rfl⟩, fun w' => ?_⟩
      have := run ad 0 0 0 0 0 w' (run_sliceBounds0 S em eh el w' (by simp))
      simpa using this
  · simp at h

theorem kind_str {d : TypeDesc} (h : kindOf d = .str) : d = .string := by
  unfold kindOf at h
  split at h <;> simp at h
  rfl
theorem len_sound {E : Env} {ats : Array TypeId} {ty : TypeId} {x y : AVal} {v : Value} (h : alen P ats.toList x = some y) (hl : liveE E x) (hx : RepV E x v) : ∃ u, RepV E y u ∧ ∀ w', (Builtin.len_ ats ty #[v]).run P w' = .ok u w' := by
  unfold alen at h
  split at h
  case h_2 => simp at h
  rename_i t ht
  have ha : ats = #[t] := by apply Array.ext'; simpa using ht
  subst ha
  split at h
  case h_3 => simp at h
  · rename_i sz ag by_ z e hti
    obtain ⟨inf, d, z', h1, h2, h3, h4, he⟩ := ti_spec hti
    simp only [TI.mk.injEq] at he
    have hd := kind_slice he.2.2.2.2.symm
    subst hd
    have run : ∀ ad n c (w' : World), (Builtin.len_ #[t] ty #[.slice ad n c]).run P w' = .ok (.int .i64 n) w' := fun ad n c w' => by
      simp [Builtin.len_, run_underlying h2, goInt]
    split at h
    · simp only [Option.some.injEq] at h
      subst h
      obtain ⟨ad, c, rfl, _⟩ := hx
      exact ⟨_, ⟨rfl, rfl⟩, run _ _ _⟩
    · simp only [Option.some.injEq] at h
      subst h
      obtain ⟨_, _, hp⟩ := hx
      obtain ⟨p, hl⟩ := hl
      obtain ⟨ad, c, rfl, _⟩ := hp p.1 p.2 hl
      exact ⟨_, ⟨rfl, rfl⟩, run _ _ _⟩
    · simp only [Option.some.injEq] at h
      subst h
      obtain ⟨ad, rfl⟩ := hx
      exact ⟨_, ⟨rfl, rfl⟩, run _ _ _⟩
    · simp at h
  · rename_i sz ag by_ z hti
    obtain ⟨inf, d, z', h1, h2, h3, h4, he⟩ := ti_spec hti
    simp only [TI.mk.injEq] at he
    have hd := kind_str he.2.2.2.2.symm
    subst hd
    split at h
    case h_2 => simp at h
    simp only [Option.some.injEq] at h
    subst h
    obtain ⟨_, rfl⟩ := hx
    exact ⟨_, ⟨rfl, rfl⟩, fun w' => by simp [Builtin.len_, run_underlying h2, goInt]⟩

theorem exec_builtin {ρ : Operand → Value} {o : Oper} {b : Builtin} {args : Array Operand} {ats : Array TypeId} (ho : o.op = .call ⟨.builtin b, args, ats⟩) (w' : World) :
    (execOp ρ o).run P w' = (builtin b ats o.type (args.map fun | .const _ => true | _ => false) (args.map ρ)).run P w' := by
  simp only [execOp, ho, resolve, Sem.run_bind, Sem.run_pure, Result.andThen_ok, invoke]
  rfl

theorem nil_sound (S : Sim okA w0 s m a w) {dst : Option Tmp} {op : BinOp} {t' : TypeId} {x y : Operand} {y' : TypeId} {type : TypeId} {pos : String} {after : Array Edge} {guard : Option (Nat × Bool)} {t : AVal} (hq : nilQ op y = true) (h : nilA P s t' (s.eval x) = some t) :
    Yields P (envOf okA w0.new s.heap s.gen m w) ⟨dst, .binOp op t' x y y', type, pos, after, guard⟩ a w t := by
  unfold nilQ at hq
  split at hq
  case h_2 => simp at hq
  unfold nilA at h
  split at h
  case h_2 => simp at h
  rename_i sz ag by_ z e hti
  obtain ⟨inf, d, z', h1, h2, h3, h4, he⟩ := ti_spec hti
  simp only [TI.mk.injEq] at he
  have hd := kind_slice he.2.2.2.2.symm
  subst hd
  have hx := S.eval x
  have go : ∀ ad n c, a.eval x = .slice ad n c → ∀ w', (execOp a.eval ⟨dst, .binOp .eql t' x (.const (.slice none 0 0)) y', type, pos, after, guard⟩).run P w' = .ok (.value (.bool ad.isNone)) w' := fun ad n c hv w' => by
    have e0 : a.eval (.const (.slice none 0 0)) = .slice none 0 0 := rfl
    simp only [execOp, hv, e0]
    have e1 : eqGuard .eql t' x (.const (.slice none 0 0)) (.slice ad n c) (.slice none 0 0) = (pure () : Sem Unit) := rfl
    have e2 : binOp .eql t' (.slice ad n c) (.slice none 0 0) = (do pure (.bool (← Op.equal t' (.slice ad n c) (.slice none 0 0))) : Sem Value) := rfl
    have e3 : (Op.equal t' (.slice ad n c) (.slice none 0 0)).run P w' = .ok ad.isNone w' := by
      show (Op.equalIn (9999 + 1) t' (.slice ad n c) (.slice none 0 0)).run P w' = _
      unfold Op.equalIn
      simp only [Sem.run_bind, run_underlying h2, Result.andThen_ok]
      cases ad <;> rfl
    simp only [e1, e2, Sem.run_bind, Sem.run_pure, Result.andThen_ok, e3]
  split at h
  · rename_i cells n hc
    rw [hc] at hx
    obtain ⟨ad, c, hv, _, _, hcells⟩ := hx
    split at h
    · simp only [Option.some.injEq] at h; subst h
      exact ⟨_, ⟨_, rfl⟩, fun w' _ => go _ _ _ hv w'⟩
    · rename_i hne
      simp only [Option.some.injEq] at h; subst h
      rcases hcells with hcells | ⟨b, off, rfl, _⟩
      · subst hcells; simp at hne
      · exact ⟨_, ⟨rfl, rfl⟩, fun w' _ => go _ _ _ hv w'⟩
  · rename_i hc
    rw [hc] at hx
    obtain ⟨ad, hv⟩ := hx
    simp only [Option.some.injEq] at h; subst h
    exact ⟨_, ⟨_, rfl⟩, fun w' _ => go _ _ _ hv w'⟩
  · rename_i hc
    rw [hc] at hx
    have hv : a.eval x = .slice none 0 0 := hx
    simp only [Option.some.injEq] at h; subst h
    exact ⟨_, ⟨rfl, rfl⟩, fun w' _ => go _ _ _ hv w'⟩
  · rename_i β g off n hc
    split at h
    case isFalse => simp at h
    rename_i hn
    simp only [Option.some.injEq] at h; subst h
    rw [hc] at hx
    obtain ⟨⟨r, sz⟩, hl⟩ := live_E (okA := okA) (w0 := w0) (m := m) (w := w) hn.2
    obtain ⟨ad, c, hv, hnc, _, hcc, _⟩ := hx.2.2 r sz hl
    obtain ⟨b, _, rfl, _⟩ := hcc.resolve_left (by omega)
    exact ⟨_, ⟨rfl, rfl⟩, fun w' _ => go _ _ _ hv w'⟩
  · simp at h
theorem asgn_rep (S : Sim okA w0 s m a w) (dst : Option Tmp) (x : Operand) : RepV (envOf okA w0.new s.heap s.gen m w) (asgn s dst x) (a.eval x) := by
  unfold asgn
  split
  · split
    · rfl
    · exact ⟨none, rfl⟩
  · exact S.eval _

theorem avalue_sound (S : Sim okA w0 s m a w) {o : Oper} {t : AVal} (h : avalue P s o = some t) : Yields P (envOf okA w0.new s.heap s.gen m w) o a w t := by
  obtain ⟨dst, op, type, pos, after, guard⟩ := o
  have fl : ∀ {x : Sem Value} {t : AVal}, semS P x = some t → ∃ v, RepV (envOf okA w0.new s.heap s.gen m w) t v ∧ ∀ w', x.run P w' = .ok v w' := fun hx => by
    obtain ⟨v, rfl, hs, hr⟩ := semS_run hx
    exact ⟨v, ⟨hs, rfl⟩, hr⟩
  unfold avalue at h
  dsimp only at h
  split at h
  · -- move
    simp only [Option.some.injEq] at h; subst h
    exact ⟨_, S.eval _, fun w' _ => rfl⟩
  · simp only [Option.some.injEq] at h; subst h
    exact ⟨_, asgn_rep S _ _, fun w' _ => rfl⟩
  · -- pick
    rename_i c x y
    split at h
    case h_2 => simp at h
    rename_i b hb
    simp only [Option.some.injEq] at h; subst h
    have hc := S.eval c
    rw [hb] at hc
    refine ⟨if b then a.eval x else a.eval y, by cases b <;> exact S.eval _, fun w' _ => ?_⟩
    simp only [execOp, hc.2, asBool, Sem.run_bind, Sem.run_pure, Result.andThen_ok]
  · -- binOp
    rename_i op t' x y y'
    split at h
    case isTrue =>
      rename_i hq
      exact nil_sound S hq h
    split at h
    case h_2 => simp at h
    rename_i u v hu hv
    obtain ⟨r, hr, hrun⟩ := fl h
    refine ⟨r, hr, fun w' _ => ?_⟩
    have e1 := conc_rep hu (S.eval x)
    have e2 := conc_rep hv (S.eval y)
    have := hrun w'
    simp only [execOp, e1, e2]
    rw [Sem.run_bind, this]
    rfl
  · -- unOp
    rename_i op t' x
    split at h
    case h_2 => simp at h
    rename_i u hu
    obtain ⟨r, hr, hrun⟩ := fl h
    have e1 := S.eval x
    rw [hu] at e1
    refine ⟨r, hr, fun w' _ => ?_⟩
    simp only [execOp, e1.2]
    rw [Sem.run_bind, hrun w']
    rfl
  · -- convert
    rename_i src dst x
    split at h
    case h_2 =>
      obtain ⟨r, hr, hrun⟩ := aconv_sound h (S.eval x)
      refine ⟨r, hr, fun w' hw => ?_⟩
      simp only [execOp]
      rw [Sem.run_bind, hrun w' hw]
      rfl
    rename_i u hu
    obtain ⟨r, hr, hrun⟩ := fl h
    have e1 := S.eval x
    rw [hu] at e1
    refine ⟨r, hr, fun w' _ => ?_⟩
    simp only [execOp, e1.2]
    rw [Sem.run_bind, hrun w']
    rfl
  · -- extract
    rename_i x ix
    split at h
    case h_2 => simp at h
    rename_i vs hvs
    have e1 := S.eval x
    rw [hvs] at e1
    obtain ⟨us, e2, hl⟩ := e1
    obtain ⟨u, hu, hru⟩ := repL_get hl h
    refine ⟨u, hru, fun w' _ => ?_⟩
    have hu' : us.toArray[ix]? = some u := by simpa using hu
    simp only [execOp, e2, Instr.extract, hu', Sem.run_bind, Sem.run_pure, Result.andThen_ok]
  · -- field
    obtain ⟨u, hu, hrun⟩ := field_sound h (S.eval _)
    refine ⟨u, hu, fun w' _ => ?_⟩
    simp only [execOp, Sem.run_bind, hrun w', Result.andThen_ok, Sem.run_pure]
  · -- build
    obtain ⟨u, hu, hrun⟩ := build_sound S h
    refine ⟨u, hu, fun w' _ => ?_⟩
    simp only [execOp, Sem.run_bind, hrun w', Result.andThen_ok, Sem.run_pure]
  · -- makeFunc
    rename_i f captured
    simp only [Option.some.injEq] at h; subst h
    refine ⟨.func (.func f) #[] (captured.map a.eval), ⟨captured.toList.map a.eval, by congr 1; apply Array.ext'; simp, repL_eval S _⟩, fun w' _ => ?_⟩
    simp [execOp, Instr.makeFunc]
  · -- makeFunc, bound
    rename_i f x first
    simp only [Option.some.injEq] at h; subst h
    refine ⟨.func (.func f) ((x :: first).map a.eval).toArray #[], ⟨(x :: first).map a.eval, by simp, repL_eval S _⟩, fun w' _ => ?_⟩
    simp [execOp, Instr.makeFunc]
  · -- fieldAddr
    split at h
    case isFalse => simp at h
    rename_i hlv
    obtain ⟨u, hu, hrun⟩ := fieldAt_sound h (live_E hlv) (S.eval _)
    refine ⟨u, hu, fun w' _ => ?_⟩
    simp only [execOp, Sem.run_bind, hrun w', Result.andThen_ok, Sem.run_pure]
  · -- indexAddr
    split at h
    case isFalse => simp at h
    rename_i hlv
    obtain ⟨u, hu, hrun⟩ := indexAt_sound h (live_E hlv) (S.eval _) (S.eval _)
    refine ⟨u, hu, fun w' _ => ?_⟩
    simp only [execOp, Sem.run_bind, hrun w', Result.andThen_ok, Sem.run_pure]
  · -- index
    rename_i t' x ix
    split at h
    case h_2 => simp at h
    rename_i u v hu hv
    obtain ⟨r, hr, hrun⟩ := fl h
    have e1 := conc_rep hu (S.eval x)
    have e2 := S.eval ix
    rw [hv] at e2
    refine ⟨r, hr, fun w' _ => ?_⟩
    simp only [execOp, e1, e2.2]
    rw [Sem.run_bind, hrun w']
    rfl
  · -- load
    rename_i t' x
    obtain ⟨ad, hv, u, hu, hrun⟩ := S.load h (S.eval x)
    refine ⟨u, hu, fun w' hw => ?_⟩
    simp only [execOp, hv, Instr.loadAt, Instr.sureAddr, Sem.run_bind, Sem.run_pure, Result.andThen_ok, hrun w' hw]
  · -- nilCheck
    rename_i x
    have e1 := S.eval x
    split at h
    · rename_i β g off hx
      split at h
      case isFalse => simp at h
      rename_i hlv
      simp only [Option.some.injEq] at h; subst h
      rw [hx] at e1
      obtain ⟨p, hl⟩ := live_E (okA := okA) (w0 := w0) (m := m) (w := w) hlv
      obtain ⟨b, _, hb⟩ := e1.2.2 p.1 p.2 hl
      refine ⟨a.eval x, e1, fun w' _ => ?_⟩
      simp only [execOp, hb, Sem.run_pure]
    · rename_i cells off hx
      simp only [Option.some.injEq] at h; subst h
      rw [hx] at e1
      refine ⟨a.eval x, e1, fun w' _ => ?_⟩
      obtain ⟨b, base, hb, _⟩ := e1
      simp only [execOp, hb, Sem.run_pure]
    · rename_i f cs hx
      simp only [Option.some.injEq] at h; subst h
      rw [hx] at e1
      refine ⟨a.eval x, e1, fun w' _ => ?_⟩
      obtain ⟨vs, hb, _⟩ := e1
      simp only [execOp, hb, Sem.run_pure]
    · simp at h
  · -- slice
    rename_i t' x lo hi mx
    split at h
    · rename_i u hu
      split at h
      case h_2 => simp at h
      rename_i l hh e1 e2
      have ex := S.eval x
      rw [hu] at ex
      unfold asliceS at h
      split at h
      case h_2 => simp at h
      rename_i sz ag by_ z hti
      obtain ⟨inf, d, z', h1, hstr, h3, h4, he⟩ := ti_spec hti
      simp only [TI.mk.injEq] at he
      have hd := kind_str he.2.2.2.2.symm
      subst hd
      obtain ⟨r, hr, hrun⟩ := fl h
      have p1 : lo.map a.eval = l.head? := by
        cases lo with
        | none => simp [flats] at e1; subst e1; rfl
        | some q => rw [← flats_rep e1 (repL_eval S [q])]; rfl
      have p2 : hi.map a.eval = hh.head? := by
        cases hi with
        | none => simp [flats] at e2; subst e2; rfl
        | some q => rw [← flats_rep e2 (repL_eval S [q])]; rfl
      refine ⟨r, hr, fun w' _ => ?_⟩
      have hru := hrun w'
      simp only [execOp, ex.2, p1, p2, Option.map_none, Instr.sliceAt, Sem.run_bind, run_underlying hstr, Result.andThen_ok, hru, Sem.run_pure]
    · split at h
      case isFalse => simp at h
      rename_i hlv
      split at h
      case isFalse => simp at h
      rename_i hsz
      obtain ⟨u, hu, hrun⟩ := sliceV_sound S h (live_E hlv) (S.eval _) (fun β g blk hx hb i e ei h1 h2 h3 => by
        obtain ⟨off, n, hx⟩ := hx
        simp only [szOk, hx, hb, h1, h2, h3] at hsz
        simpa using hsz)
      refine ⟨u, hu, fun w' _ => ?_⟩
      simp only [execOp, Sem.run_bind, hrun w', Result.andThen_ok, Sem.run_pure]
  · -- len
    rename_i args ats
    split at h
    case h_2 => simp at h
    rename_i x hx
    split at h
    case isFalse => simp at h
    rename_i hlv
    obtain ⟨u, hu, hrun⟩ := len_sound (P := P) (ats := ats) (ty := type) h (live_E hlv) (S.eval x)
    refine ⟨u, hu, fun w' _ => ?_⟩
    have ha : args.map a.eval = #[a.eval x] := by
      apply Array.ext'; simp [hx]
    rw [exec_builtin rfl]
    simp only [builtin, ha, Sem.run_bind, hrun w', Result.andThen_ok, Sem.run_pure]
  · -- cap
    rename_i args ats
    split at h
    case h_2 => simp at h
    rename_i x hx
    unfold acap at h
    split at h
    case h_2 => simp at h
    rename_i t ht
    split at h
    case h_2 => simp at h
    rename_i sz ag by_ z e hti
    obtain ⟨inf, d, z', h1, h2, h3, h4, he⟩ := ti_spec hti
    simp only [TI.mk.injEq] at he
    have hd := kind_slice he.2.2.2.2.symm
    subst hd
    split at h
    case h_2 => simp at h
    rename_i hnl
    simp only [Option.some.injEq] at h; subst h
    have e1 := S.eval x
    rw [hnl] at e1
    obtain ⟨ad, e1⟩ := e1
    refine ⟨.int .i64 0, ⟨rfl, rfl⟩, fun w' _ => ?_⟩
    have ha : args.map a.eval = #[.slice ad 0 0] := by
      apply Array.ext'; simp [hx, e1]
    have hats : ats = #[t] := by apply Array.ext'; simpa using ht
    rw [exec_builtin rfl]
    simp [builtin, ha, hats, Builtin.cap_, run_underlying h2, goInt]
  · -- min
    rename_i args ats
    split at h
    case h_2 => simp at h
    rename_i l hl
    obtain ⟨r, hr, hrun⟩ := fl h
    have ha : args.map a.eval = l.toArray := by
      apply Array.ext'; rw [← flats_rep hl (repL_eval S _)]; simp
    refine ⟨r, hr, fun w' _ => ?_⟩
    rw [exec_builtin rfl]
    simp only [builtin, ha, Sem.run_bind, hrun w', Result.andThen_ok, Sem.run_pure]
  · -- max
    rename_i args ats
    split at h
    case h_2 => simp at h
    rename_i l hl
    obtain ⟨r, hr, hrun⟩ := fl h
    have ha : args.map a.eval = l.toArray := by
      apply Array.ext'; rw [← flats_rep hl (repL_eval S _)]; simp
    refine ⟨r, hr, fun w' _ => ?_⟩
    rw [exec_builtin rfl]
    simp only [builtin, ha, Sem.run_bind, hrun w', Result.andThen_ok, Sem.run_pure]
  · simp at h
end

section
variable {P : Program} {okA : Nat → Prop} {w0 : Base} {s : ASt} {m : Nat → Option Nat} {a : Act} {w : World}

theorem below_alloc (w : World) (o : Obj) : Below w.heap.size w (w.alloc o) := (Below.refl _ w).alloc (Nat.le_refl _) o

/-- what an operation with an effect comes to: a value or nothing, in a world that the new state describes -/
def Effects (P : Program) (okA : Nat → Prop) (w0 : Base) (o : Oper) (a : Act) (w : World) (s' : ASt) : Prop :=
  (∃ v w' m', (execOp a.eval o).run P w = .ok (.value v) w' ∧ Sim okA w0 s' m' (a.put o.dst v) w') ∨
  (∃ w' m', (execOp a.eval o).run P w = .ok .skip w' ∧ o.dst = none ∧ Sim okA w0 s' m' a w')

theorem repA_replicate {E : Env} {z : List AVal} {us : List Value} (h : RepA E z us) : ∀ n : Nat, RepA E (List.replicate n z).flatten (List.replicate n us).flatten
  | 0 => rfl
  | n + 1 => by simpa [List.replicate_succ] using repA_append h (repA_replicate h n)

theorem made_take (z : List Value) : ∀ n : Nat, z ≠ [] → (List.range (n * z.length)).map (fun i => z[i % z.length]!) = (List.replicate n z).flatten
  | 0, _ => by simp
  | n + 1, hz => by
    rw [Nat.add_mul, Nat.one_mul, List.range_add, List.map_append, made_take z n hz, List.replicate_succ']
    simp only [List.flatten_append, List.flatten_cons, List.flatten_nil, List.append_nil]
    congr 1
    have hpos : 0 < z.length := List.length_pos_iff.2 hz
    apply List.ext_getElem
    · simp
    · intro i h1 h2
      simp only [List.getElem_map, List.getElem_range]
      have : (n * z.length + i) % z.length = i := by
        rw [Nat.add_comm, Nat.add_mul_mod_self_right, Nat.mod_eq_of_lt h2]
      rw [this, getElem!_pos z i h2]

theorem new_n {d sz : Nat} {cells : List AVal} {t : AVal} {s' : ASt} (h : s.new d sz cells t = some s') : d < s.n ∧ s'.heap = upd s.heap (s.gh.nm d) (some ⟨s.gen, sz, cells⟩) ∧ s'.gen = s.gen + 1 := by
  unfold ASt.new at h
  split at h
  · simp only [Option.some.injEq] at h; subst h; exact ⟨‹_›, rfl, rfl⟩
  · simp at h

theorem new_eq {d sz : Nat} {cells : List AVal} {t : AVal} {s' : ASt} (h : s.new d sz cells t = some s') : d < s.n ∧ s' = { s with tmp := upd s.tmp d t, heap := upd s.heap (s.gh.nm d) (some ⟨s.gen, sz, cells⟩), gen := s.gen + 1 } := by
  unfold ASt.new at h
  split at h
  · simp only [Option.some.injEq] at h; exact ⟨‹_›, h.symm⟩
  · simp at h

theorem ptr_new {d sz : Nat} {cells : List AVal} {t : AVal} {s' : ASt} (h : s.new d sz cells t = some s') (w' : World) (b : Nat) :
    RepV (envOf okA w0.new s'.heap s'.gen (upd m (s.gh.nm d) (some b)) w') (.ptr (s.gh.nm d) s.gen 0) (.pointer (some ⟨b, 0, none⟩)) := by
  obtain ⟨_, h1, h2⟩ := new_n h
  refine ⟨by rw [h2]; exact Nat.lt_succ_self _, rfl, fun r sz' e => ⟨b, ?_, rfl⟩⟩
  simp only [envOf, h1, upd, if_true, Option.some.injEq, Prod.mk.injEq] at e
  exact e.1.symm
theorem own_new {d sz : Nat} {cells : List AVal} {t : AVal} {s' : ASt} (h : s.new d sz cells t = some s') (w' : World) (b n c : Nat) (hn : n ≤ c) (hc : c ≤ maxI) (hc0 : c ≠ 0) {arr : Array Value} {T : TypeId}
    (hb : w'.heap[b]? = some (.cells arr T (0, 0))) (hroom : c * sz ≤ arr.size) :
    RepV (envOf okA w0.new s'.heap s'.gen (upd m (s.gh.nm d) (some b)) w') (.own (s.gh.nm d) s.gen 0 n) (.slice (some ⟨b, 0, none⟩) n c) := by
  obtain ⟨_, h1, h2⟩ := new_n h
  refine ⟨by rw [h2]; exact Nat.lt_succ_self _, rfl, fun r sz' e => ⟨_, c, rfl, hn, hc, .inr ⟨b, ?_, rfl, arr, T, (0, 0), hb, ?_⟩, fun _ h => (hc0 h).elim⟩⟩
  · simp only [envOf, h1, upd, if_true, Option.some.injEq, Prod.mk.injEq] at e
    exact e.1.symm
  · simp only [envOf, h1, upd, if_true, Option.some.injEq, Prod.mk.injEq] at e
    rw [Nat.zero_add, ← e.2]; exact hroom

/-- a block that lies nowhere -/
theorem Sim.newVirt (S : Sim okA w0 s m a w) {d δ sz : Nat} (hdn : d < s.n) (ad : Option Addr) :
    Sim okA w0 { s with tmp := upd s.tmp d (.own δ s.gen 0 0), heap := upd s.heap δ (some ⟨s.gen, sz, []⟩), gen := s.gen + 1 } (upd m δ none) (a.put (some d) (.slice ad 0 0)) w := by
  have hle : EnvLe (envOf okA w0.new s.heap s.gen m w) (envOf okA w0.new (upd s.heap δ (some ⟨s.gen, sz, []⟩)) (s.gen + 1) (upd m δ none) w) := by
    refine ⟨fun b ⟨q1, q2, q3⟩ => ⟨⟨q1, q2, fun β blk hβ => ?_⟩, rfl⟩, Nat.le_succ _, fun β g r sz' hg' hl => ?_⟩
    · by_cases e : β = δ
      · subst e; simp [upd]
      · simp only [upd, e, if_false] at hβ ⊢; exact q3 β blk hβ
    · simp only [envOf, upd] at hl hg' ⊢
      by_cases e : β = δ
      · simp only [e, if_true] at hl
        split at hl
        · omega
        · simp at hl
      · simp only [e, if_false] at hl
        exact ⟨hl, fun b k _ hr => hr⟩
  refine ⟨by simpa [Act.put] using S.size, by simpa [Act.put] using S.defers, fun t' => ?_, fun p hp => repV_mono hle _ _ (S.pins p hp), fun β blk h => ?_, fun β β' blk blk' b h h' hm hm' => ?_, S.below, S.okA, S.K⟩
  · simp only [Act.put]
    rw [getD_set _ _ _ _ (by rw [S.size]; exact hdn)]
    by_cases h : t' = d
    · simp only [upd, h, if_true]
      refine ⟨Nat.lt_succ_self _, rfl, fun r sz' e => ⟨ad, 0, rfl, Nat.le_refl _, Nat.zero_le _, .inl rfl, fun _ _ => ?_⟩⟩
      simp only [envOf, upd, if_true, Option.some.injEq, Prod.mk.injEq] at e
      exact e.1.symm
    · simp only [upd, h, if_false]; exact repV_mono hle _ _ (S.tmps t')
  · by_cases e : β = δ
    · subst e
      simp only [upd, if_true, Option.some.injEq] at h
      subst h
      exact ⟨Nat.lt_succ_self _, fun _ => rfl, fun b hb => by simp [upd] at hb⟩
    · simp only [upd, e, if_false] at h
      exact (S.blks β blk h).mono (Nat.le_succ _) (by simp [upd, e]) hle fun b hm => rfl
  · by_cases e : β = δ
    · simp [upd, e] at hm
    · by_cases e' : β' = δ
      · simp [upd, e'] at hm'
      · simp only [upd, e, e', if_false] at h h' hm hm'
        exact S.inj β β' blk blk' b h h' hm hm'
theorem Sim.newVirt' (S : Sim okA w0 s m a w) {d sz : Nat} {s' : ASt} (h : s.new d sz [] (.own (s.gh.nm d) s.gen 0 0) = some s') (ad : Option Addr) : Sim okA w0 s' (upd m (s.gh.nm d) none) (a.put (some d) (.slice ad 0 0)) w := by
  obtain ⟨hd, rfl⟩ := new_eq h
  exact S.newVirt hd ad

theorem alloc_sound (S : Sim okA w0 s m a w) {d : Nat} {t : TypeId} {i : TI} {s' : ASt} (hti : ti P t = some i) (h : s.new d i.size i.zero (.ptr (s.gh.nm d) s.gen 0) = some s') :
    ∃ v w' m', (Instr.alloc t true (.tuple #[])).run P w = .ok v w' ∧ Sim okA w0 s' m' (a.put (some d) v) w' := by
  obtain ⟨inf, dd, z, h1, h2, h3, h4, rfl⟩ := ti_spec hti
  refine ⟨.pointer (some ⟨w.heap.size, 0, none⟩), w.alloc (.cells z.cells t), _, ?_, S.newBlk h (below_alloc w _) (by simp) (heap_alloc_new w _) (by simp) ?_ (ptr_new h _ _)⟩
  · simp [Instr.alloc, zeroValue, typeInfo, h1, h3, newVar, newRow]
  · have := repA_absC (envOf okA w0.new s.heap s.gen m w) z.cells.toList h4
    rw [List.take_of_length_le (by simp)]
    exact this

theorem box_sound (S : Sim okA w0 s m a w) {d sz : Nat} {t : TypeId} {x : AVal} {v : Value} {vs : List AVal} {s' : ASt} (hx : RepV (envOf okA w0.new s.heap s.gen m w) x v) (hc : cellsOf x = some vs)
    (h : s.new d sz vs (.ptr (s.gh.nm d) s.gen 0) = some s') : ∃ u w' m', (Instr.box t v).run P w = .ok u w' ∧ Sim okA w0 s' m' (a.put (some d) u) w' := by
  obtain ⟨us, hus, hA⟩ := cellsOf_rep hc hx
  have hl := repA_length hA
  refine ⟨.pointer (some ⟨w.heap.size, 0, none⟩), w.alloc (.cells us.toArray t), _, ?_, S.newBlk h (below_alloc w _) (by simp) (heap_alloc_new w _) (by simp [hl]) ?_ (ptr_new h _ _)⟩
  · simp [Instr.box, newVar, newRow, hus]
  · simpa [hl] using hA

theorem makeSlice_sound (S : Sim okA w0 s m a w) {d : Nat} {t : TypeId} {l c : AVal} {vl vc : Value} {s' : ASt} (hl : RepV (envOf okA w0.new s.heap s.gen m w) l vl)
    (hc : RepV (envOf okA w0.new s.heap s.gen m w) c vc) (h : amakeSlice P s d t l c = some s') :
    ∃ u w' m', (Instr.makeSlice t vl vc).run P w = .ok u w' ∧ Sim okA w0 s' m' (a.put (some d) u) w' := by
  unfold amakeSlice at h
  split at h
  case h_2 => simp at h
  rename_i sz ag by_ z e hti
  obtain ⟨inf, d', z', h1, h2, h3, h4, he⟩ := ti_spec hti
  simp only [TI.mk.injEq] at he
  have hd := kind_slice he.2.2.2.2.symm
  subst hd
  split at h
  case h_2 => simp at h
  rename_i ei hei
  obtain ⟨inf', d'', z'', g1, g2, g3, g4, rfl⟩ := ti_spec hei
  split at h
  case h_2 => simp at h
  rename_i kl l kc c
  obtain ⟨_, rfl⟩ := hl
  obtain ⟨_, rfl⟩ := hc
  split at h
  case isFalse => simp at h
  rename_i hcond
  obtain ⟨c1, c2, c3, c4, c5, c6⟩ := hcond
  have c5' : z''.cells.toList.length = inf'.size := by simpa using c5
  have hz0 : z''.cells.toList ≠ [] := fun e => by rw [e] at c5'; simp at c5'; exact c6 c5'.symm
  have hrun := run_make (P := P) w t e inf' z'' h2 g1 g3 kl kc l c c1 c2 (by rw [Int.mul_comm]; exact c4) c3
  have hlc : l.toNat ≤ c.toNat := by omega
  have hmade : (madeCells z''.cells (c.toNat * inf'.size)).toList = (List.replicate c.toNat z''.cells.toList).flatten := by
    have := made_take z''.cells.toList c.toNat hz0
    rw [← this, c5']
    simp [madeCells, ← c5', ← Array.getElem!_toList]
  have hlen : (List.replicate l.toNat (List.map absC z''.cells.toList)).flatten.length = l.toNat * inf'.size := by simp [← c5']
  by_cases hc0 : c.toNat = 0
  · have hl0 : l.toNat = 0 := by omega
    rw [hl0, hc0] at hrun
    rw [hl0] at h
    exact ⟨_, _, _, hrun, (S.world (below_alloc w _)).newVirt' h _⟩
  refine ⟨_, _, _, hrun, S.newBlk h (below_alloc w _) (by simp) (heap_alloc_new w _) ?_ ?_ ?_⟩
  · rw [hlen, size_madeCells]; exact Nat.mul_le_mul_right _ hlc
  · rw [hmade, hlen]
    have e1 : (List.replicate c.toNat z''.cells.toList).flatten.take (l.toNat * inf'.size) = (List.replicate l.toNat z''.cells.toList).flatten := by
      have : c.toNat = l.toNat + (c.toNat - l.toNat) := by omega
      rw [this, ← List.replicate_append_replicate, List.flatten_append]
      rw [List.take_append_of_le_length (by simp [← c5'])]
      rw [List.take_of_length_le (by simp [← c5'])]
    rw [e1]
    exact repA_replicate (repA_absC _ _ g4) _
  · exact own_new h _ _ _ _ hlc (by simp only [maxI]; omega) hc0 (heap_alloc_new w _) (by rw [size_madeCells]; exact Nat.le_refl _)

theorem foldl_size (off : Nat) : ∀ (q : List (Value × Nat)) (x : Array Value), (q.foldl (fun cs p => cs.setIfInBounds (off + p.2) p.1) x).size = x.size
  | [], _ => rfl
  | p :: r, x => by simp only [List.foldl_cons]; rw [foldl_size off r]; simp
theorem fill_size {place : Nat → Option (Nat × Nat)} : ∀ {pv : List (Nat × Value)} {x y : Array Value}, Instr.fill place x pv = some y → y.size = x.size
  | [], x, y, h => by simp only [Instr.fill, Option.some.injEq] at h; rw [h]
  | (i, v) :: r, x, y, h => by
    simp only [Instr.fill] at h
    split at h
    · simp at h
    split at h
    · simp at h
    exact (fill_size h).trans (by rw [← Array.foldl_toList]; exact foldl_size _ _ _)

theorem buildSlice_sound (S : Sim okA w0 s m a w) {d len : Nat} {t : TypeId} {parts : Array (Nat × Operand)} {s' : ASt} (h : abuildSlice P s d t len parts.toList = some s') :
    ∃ u w' m', (Instr.buildSlice t len (parts.map fun (i, x) => (i, a.eval x))).run P w = .ok u w' ∧ Sim okA w0 s' m' (a.put (some d) u) w' := by
  have hpl : (parts.map fun (i, x) => (i, a.eval x)).toList = parts.toList.map fun p => (p.1, a.eval p.2) := by simp
  unfold abuildSlice at h
  split at h
  case h_2 => simp at h
  rename_i sz ag by_ z e hti
  obtain ⟨inf, d', z', h1, h2, h3, h4, he⟩ := ti_spec hti
  simp only [TI.mk.injEq] at he
  have hd := kind_slice he.2.2.2.2.symm
  subst hd
  split at h
  case h_2 => simp at h
  rename_i ei hei
  obtain ⟨inf', d'', z'', g1, g2, g3, g4, rfl⟩ := ti_spec hei
  split at h
  case isFalse => simp at h
  rename_i hcond
  obtain ⟨c4, c5, c6⟩ := hcond
  have c4 : len * inf'.size ≤ 16777216 := c4
  have c5' : z''.cells.toList.length = inf'.size := by simpa using c5
  have c6' : inf'.size ≠ 0 := c6
  have hz0 : z''.cells.toList ≠ [] := fun e => by rw [e] at c5'; simp at c5'; exact c6 c5'.symm
  split at h
  case h_2 => simp at h
  rename_i cs hfill
  have hmade : ((Array.range (len * inf'.size)).map (fun i => z''.cells[i % z''.cells.size]!)) = (List.replicate len z''.cells.toList).flatten.toArray := by
    apply Array.ext'
    have := made_take z''.cells.toList len hz0
    rw [List.toList_toArray, ← this, c5']
    simp [← c5', ← Array.getElem!_toList]
  have hA0 := repA_replicate (repA_absC (envOf okA w0.new s.heap s.gen m w) z''.cells.toList g4) len
  obtain ⟨us, hus, hA⟩ := fill_sound (repP_eval S parts.toList) hA0 hfill
  have hl := repA_length hA
  have hsz : us.length = len * inf'.size := by
    have := fill_size hus
    simpa [← c5'] using this
  have hrun : (Instr.buildSlice t len (parts.map fun (i, x) => (i, a.eval x))).run P w = .ok (.slice (some ⟨w.heap.size, 0, none⟩) len len) (w.alloc (.cells us.toArray e)) := by
    have hus' : Instr.fill (fun i => some (i * inf'.size, inf'.size)) (List.replicate len z''.cells.toList).flatten.toArray (parts.toList.map fun p => (p.1, a.eval p.2)) = some us.toArray := hus
    have n1 : ¬ (16777216 < len * inf'.size) := by omega
    simp only [Instr.buildSlice, Sem.run_bind, run_underlying h2, Result.andThen_ok, run_sizeOf g1, hpl]
    rw [if_neg (by simpa using n1)]
    by_cases h0 : len * inf'.size = 0
    · have hz : (Array.range (len * inf'.size)).map (fun i => (#[] : Array Value)[i % (#[] : Array Value).size]!) = (List.replicate len z''.cells.toList).flatten.toArray := by
        rw [← hmade, h0]; simp
      rw [if_pos h0]
      simp only [Sem.run_bind, Sem.run_pure, Result.andThen_ok, hz, hus', newRow, run_newObj, World.alloc_eq]
    · rw [if_neg h0]
      simp only [Sem.run_bind, zeroValue, typeInfo, run_program, g1, g3, Sem.run_pure, Result.andThen_ok, hmade, hus', newRow, run_newObj, World.alloc_eq]
  by_cases hc0 : len = 0
  · subst hc0
    have hcs : cs = [] := List.eq_nil_of_length_eq_zero (by rw [hl, hsz]; simp)
    subst hcs
    exact ⟨_, _, _, hrun, (S.world (below_alloc w _)).newVirt' h _⟩
  refine ⟨_, _, _, hrun, S.newBlk h (below_alloc w _) (by simp) (heap_alloc_new w _) (by simp [hl]) (by simpa [hl] using hA) (own_new h _ _ _ _ (Nat.le_refl _) ?_ hc0 (heap_alloc_new w _) (by simp [hsz]))⟩
  have : len ≤ len * inf'.size := Nat.le_mul_of_pos_right _ (by omega)
  simp only [maxI]; omega

theorem take_lay (A : List Value) (n off : Nat) (us : List Value) (h : off + us.length ≤ n) (hn : n ≤ A.length) :
    (A.take off ++ us ++ A.drop (off + us.length)).take n = (A.take n).take off ++ us ++ (A.take n).drop (off + us.length) := by
  have hl : (A.take off ++ us).length = off + us.length := by simp; omega
  rw [List.take_append, List.take_of_length_le (by omega), hl, List.take_take, Nat.min_eq_left (by omega), List.drop_take]

theorem store_sound (S : Sim okA w0 s m a w) {t : TypeId} {x y : AVal} {vx vy : Value} {s' : ASt} (hx : RepV (envOf okA w0.new s.heap s.gen m w) x vx)
    (hy : RepV (envOf okA w0.new s.heap s.gen m w) y vy) (h : astore P s t x y = some s') :
    ∃ w', (Instr.storeAt t vx vy).run P w = .ok () w' ∧ Sim okA w0 s' m a w' := by
  unfold astore at h
  split at h
  case h_2 => simp at h
  rename_i i hti
  obtain ⟨inf, d, z, h1, h2, h3, h4, rfl⟩ := ti_spec hti
  split at h
  case h_2 => simp at h
  rename_i vs hvs
  split at h
  case isFalse => simp at h
  rename_i hlen
  split at h
  case h_2 => simp at h
  rename_i β g off
  split at h
  case h_2 => simp at h
  rename_i blk hb
  split at h
  case isFalse => simp at h
  rename_i hfit
  simp only [Option.some.injEq] at h
  subst h
  have hlen : vs.length = inf.size := hlen
  have hfit : off + inf.size ≤ blk.cells.length := hfit
  obtain ⟨us, hus, hA⟩ := cellsOf_rep hvs hy
  have hul := repA_length hA
  obtain ⟨hβ, hg⟩ := blkOf_spec hb
  obtain ⟨_, _, hp⟩ := hx
  obtain ⟨b, hm, rfl⟩ := hp _ _ (loc_of hβ hg)
  obtain ⟨hB, ⟨arr, T, hcur, hsz⟩, hC⟩ := (S.blks β blk hβ).real b hm
  obtain ⟨cur, hcurA, hcell⟩ := repC_vals hC
  have hcl := repA_length hcurA
  have hpre : arr.toList.take blk.cells.length = cur := by
    apply List.ext_getElem
    · simp; omega
    · intro j h1 h2
      have := hcell j cur[j] (List.getElem?_eq_getElem h2)
      simp only [Nat.zero_add] at this
      have e : w.cell? ⟨b, j, none⟩ = arr[j]? := by simp [World.cell?, hcur]
      have e2 : arr[j]? = some cur[j] := e ▸ this
      simp only [List.getElem_take]
      have hj : j < arr.size := by omega
      rw [Array.getElem?_eq_getElem hj] at e2
      simpa using e2
  have hst := run_storeCells_at P b off T us 0 arr w hcur (by omega) (fun u hu => repA_one hA u hu)
  refine ⟨_, ?_, (S.setBlk (blk' := { blk with cells := lay blk.cells off vs }) hβ hm (Nat.le_refl _) rfl (.inl rfl) hcur
    (arr' := (arr.toList.take (off + 0) ++ us ++ arr.toList.drop (off + 0 + us.length)).toArray) ?_ ?_ ?_).2⟩
  · have c1 : ¬ (us.length ≠ inf.size) := by omega
    simp only [Instr.storeAt, Instr.sureAddr, storeVar, Sem.run_bind, Sem.run_pure, Result.andThen_ok, run_sizeOf h1, hus, List.size_toArray]
    rw [if_neg c1]
    simp only [hst]
  · simp; omega
  · simp [lay]; omega
  · have e : ((arr.toList.take (off + 0) ++ us ++ arr.toList.drop (off + 0 + us.length)).toArray).toList.take (lay blk.cells off vs).length = cur.take off ++ us ++ cur.drop (off + us.length) := by
      have hll : (lay blk.cells off vs).length = blk.cells.length := by simp [lay]; omega
      rw [hll, ← hpre]
      simpa using take_lay arr.toList blk.cells.length off us (by omega) (by simpa using hsz)
    rw [e]
    exact lay_rep hcurA hA
end
end Go.Own
