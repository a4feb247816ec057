/-
  OWN WORK, generic over any program: slices of slices; ALL operations that yield a value.
-/
import Derived.Test.YtiaemddmkmfijaaGreatDoorOwnF
namespace Go.Own
open Go Go.RowKit
variable [GL]
set_option linter.unusedSectionVars false

section
variable {P : Program} {okA : Nat → Prop} {w0 : Base} {s : ASt} {m : Nat → Option Nat} {a : Act} {w : World}

theorem sliceV_sound (S : Sim okA w0 s m a w) {t : TypeId} {x y : AVal} {v : Value} {lo hi mx : Option Operand} (h : asliceV P s t x lo hi mx = some y)
    (hl : liveE (envOf okA w0.new s.heap s.gen m w) x) (hx : RepV (envOf okA w0.new s.heap s.gen m w) x v)
    (hsz : ∀ β g blk, (∃ off n, x = .own β g off n) → blkOf s β g = some blk → ∀ i e ei, ti P t = some i → i.kind = .slice e → ti P e = some ei → ei.size = blk.size) :
    ∃ u, RepV (envOf okA w0.new s.heap s.gen m w) y u ∧ ∀ w', (Instr.sliceAt t v (lo.map a.eval) (hi.map a.eval) (mx.map a.eval)).run P w' = .ok u w' := by
  unfold asliceV at h
  split at h
  case h_2 => simp at h
  rename_i sz ag by_ z e hti
  obtain ⟨inf, d, z', h1, h2, h3, h4, he⟩ := ti_spec hti
  simp only [TI.mk.injEq] at he
  have hd := kind_slice he.2.2.2.2.symm
  subst hd
  split at h
  case h_2 => simp at h
  rename_i ei hei
  obtain ⟨inf', d', z'', g1, g2, g3, g4, ge⟩ := ti_spec hei
  have hs : inf'.size = ei.size := by rw [ge]
  have run : ∀ (ad : Option Addr) (len cap l h mm : Nat) w', (Instr.sliceBounds true len cap (lo.map a.eval) (hi.map a.eval) (mx.map a.eval)).run P w' = .ok (l, h, mm) w' →
      (Instr.sliceAt t (.slice ad len cap) (lo.map a.eval) (hi.map a.eval) (mx.map a.eval)).run P w' = .ok (.slice (if mm = l then ad else ad.map (·.add (l * ei.size))) (h - l) (mm - l)) w' := fun ad len cap l h mm w' hb => by
    simp only [Instr.sliceAt, Instr.slice, Sem.run_bind, run_underlying h2, Result.andThen_ok, hb, run_sizeOf g1, Sem.run_pure, hs]
  split at h
  · -- a tree
    rename_i cells n
    obtain ⟨ad, c, rfl, hn, hmx, hcells⟩ := hx
    split at h
    · split at h
      case h_2 => simp at h
      rename_i hh l eh el
      split at h
      case isFalse => simp at h
      rename_i hc
      simp only [Option.some.injEq] at h
      subst h
      refine ⟨_, ?_, fun w' => run ad n c l hh c w' (run_sliceBounds S eh el hc.1 hc.2 rfl hn w')⟩
      refine ⟨_, c - l, rfl, by omega, by omega, ?_⟩
      by_cases hz : (cells.drop (l * ei.size)).take ((hh - l) * ei.size) = []
      · exact .inl hz
      · have hne : cells ≠ [] := fun e => by rw [e] at hz; simp at hz
        obtain ⟨b, off, rfl, hok, hrep⟩ := hcells.resolve_left hne
        refine .inr ⟨b, off + l * ei.size, ?_, hok, repC_take _ (repC_drop _ hrep)⟩
        have : c ≠ l := fun e => by
          have : hh - l = 0 := by omega
          rw [this] at hz
          simp at hz
        rw [if_neg this]
        simp [Addr.add_lit]
    · rename_i mxo
      split at h
      case h_2 => simp at h
      rename_i hho eh el em
      simp only [Option.some.injEq] at h
      subst h
      refine ⟨.slice ad 0 0, ⟨ad, rfl⟩, fun w' => ?_⟩
      have := run ad n c 0 0 0 w' (run_sliceBounds0 S em eh el w' (by simp))
      simpa using this
  · -- one of the function's own
    rename_i β g off n
    obtain ⟨hg, ho, hp⟩ := hx
    obtain ⟨p, hl⟩ := hl
    obtain ⟨ad, c, rfl, hn, hmx, hcc, hcz⟩ := hp p.1 p.2 hl
    have hblk : ∃ blk, blkOf s β g = some blk ∧ p = (m β, blk.size) := by
      simp only [envOf] at hl
      split at hl
      · rename_i blk hb
        split at hl
        · rename_i hgg
          simp only [Option.some.injEq] at hl
          exact ⟨blk, by simp [blkOf, hb, hgg], hl.symm⟩
        · simp at hl
      · simp at hl
    obtain ⟨blk, hb, hpe⟩ := hblk
    have hes : ei.size = p.2 := by rw [hpe]; exact hsz β g blk ⟨off, n, rfl⟩ hb _ e ei hti rfl hei
    split at h
    · split at h
      case h_2 => simp at h
      rename_i hh l eh el
      split at h
      case isFalse => simp at h
      rename_i hc
      simp only [Option.some.injEq] at h
      subst h
      refine ⟨_, ?_, fun w' => run ad n c l hh c w' (run_sliceBounds S eh el hc.1 hc.2.1 rfl hn w')⟩
      refine ⟨hg, rfl, fun r sz e => ?_⟩
      rw [hl] at e
      simp only [Option.some.injEq] at e
      refine ⟨_, c - l, rfl, by omega, by omega, ?_, fun h0 hc0 => ?_⟩
      case refine_2 =>
        have hl0 : l = 0 := by
          have : l * ei.size = 0 := by omega
          exact (Nat.mul_eq_zero.1 this).resolve_right hc.2.2
        rw [show r = p.1 by rw [e]]
        exact hcz (by omega) (by omega)
      by_cases hz : c = l
      · exact .inl (by omega)
      · obtain ⟨b, hb, rfl, hroom⟩ := hcc.resolve_left (by omega)
        refine .inr ⟨b, by rw [← hb, e], ?_, ?_⟩
        · rw [if_neg hz]; simp [Addr.add_lit]
        · have : off + l * ei.size + (c - l) * sz = off + c * p.2 := by
            have h1 : sz = p.2 := by rw [e]
            rw [h1, hes, Nat.add_assoc, ← Nat.add_mul]
            congr 2
            omega
          rw [this]
          exact hroom
    · rename_i mxo
      split at h
      case h_2 => simp at h
      rename_i hho eh el em
      simp only [Option.some.injEq] at h
      subst h
      refine ⟨.slice ad 0 0, ⟨ad, rfl⟩, fun w' => ?_⟩
      have := run ad n c 0 0 0 w' (run_sliceBounds0 S em eh el w' (by simp))
      simpa using this
  · -- empty
    obtain ⟨ad, rfl⟩ := hx
    split at h
    · split at h
      case h_2 => simp at h
      rename_i eh el
      simp only [Option.some.injEq] at h
      subst h
      refine ⟨.slice ad 0 0, ⟨ad, rfl⟩, fun w' => ?_⟩
      have := run ad 0 0 0 0 0 w' (run_sliceBounds S eh el (Nat.le_refl _) (Nat.le_refl _) rfl (Nat.le_refl _) w')
      simpa using this
    · rename_i mxo
      split at h
      case h_2 => simp at h
      rename_i hho eh el em
      simp only [Option.some.injEq] at h
      subst h
      refine ⟨.slice ad 0 0, ⟨ad, rfl⟩, fun w' => ?_⟩
      have := run ad 0 0 0 0 0 w' (run_sliceBounds0 S em eh el w' (by simp))
      simpa using this
  · simp at h

theorem kind_str {d : TypeDesc} (h : kindOf d = .str) : d = .string := by
  unfold kindOf at h
  split at h <;> simp at h
  rfl
theorem len_sound {E : Env} {ats : Array TypeId} {ty : TypeId} {x y : AVal} {v : Value} (h : alen P ats.toList x = some y) (hl : liveE E x) (hx : RepV E x v) : ∃ u, RepV E y u ∧ ∀ w', (Builtin.len_ ats ty #[v]).run P w' = .ok u w' := by
  unfold alen at h
  split at h
  case h_2 => simp at h
  rename_i t ht
  have ha : ats = #[t] := by apply Array.ext'; simpa using ht
  subst ha
  split at h
  case h_3 => simp at h
  · rename_i sz ag by_ z e hti
    obtain ⟨inf, d, z', h1, h2, h3, h4, he⟩ := ti_spec hti
    simp only [TI.mk.injEq] at he
    have hd := kind_slice he.2.2.2.2.symm
    subst hd
    have run : ∀ ad n c (w' : World), (Builtin.len_ #[t] ty #[.slice ad n c]).run P w' = .ok (.int .i64 n) w' := fun ad n c w' => by
      simp [Builtin.len_, run_underlying h2, goInt]
    split at h
    · simp only [Option.some.injEq] at h
      subst h
      obtain ⟨ad, c, rfl, _⟩ := hx
      exact ⟨_, ⟨rfl, rfl⟩, run _ _ _⟩
    · simp only [Option.some.injEq] at h
      subst h
      obtain ⟨_, _, hp⟩ := hx
      obtain ⟨p, hl⟩ := hl
      obtain ⟨ad, c, rfl, _⟩ := hp p.1 p.2 hl
      exact ⟨_, ⟨rfl, rfl⟩, run _ _ _⟩
    · simp only [Option.some.injEq] at h
      subst h
      obtain ⟨ad, rfl⟩ := hx
      exact ⟨_, ⟨rfl, rfl⟩, run _ _ _⟩
    · simp at h
  · rename_i sz ag by_ z hti
    obtain ⟨inf, d, z', h1, h2, h3, h4, he⟩ := ti_spec hti
    simp only [TI.mk.injEq] at he
    have hd := kind_str he.2.2.2.2.symm
    subst hd
    split at h
    case h_2 => simp at h
    simp only [Option.some.injEq] at h
    subst h
    obtain ⟨_, rfl⟩ := hx
    exact ⟨_, ⟨rfl, rfl⟩, fun w' => by simp [Builtin.len_, run_underlying h2, goInt]⟩

theorem exec_builtin {ρ : Operand → Value} {o : Oper} {b : Builtin} {args : Array Operand} {ats : Array TypeId} (ho : o.op = .call ⟨.builtin b, args, ats⟩) (w' : World) :
    (execOp ρ o).run P w' = (builtin b ats o.type (args.map fun | .const _ => true | _ => false) (args.map ρ)).run P w' := by
  simp only [execOp, ho, resolve, Sem.run_bind, Sem.run_pure, Result.andThen_ok, invoke]
  rfl

theorem nil_sound (S : Sim okA w0 s m a w) {dst : Option Tmp} {op : BinOp} {t' : TypeId} {x y : Operand} {y' : TypeId} {type : TypeId} {pos : String} {after : Array Edge} {guard : Option (Nat × Bool)} {t : AVal} (hq : nilQ op y = true) (h : nilA P s t' (s.eval x) = some t) :
    Yields P (envOf okA w0.new s.heap s.gen m w) ⟨dst, .binOp op t' x y y', type, pos, after, guard⟩ a w t := by
  unfold nilQ at hq
  split at hq
  case h_2 => simp at hq
  unfold nilA at h
  split at h
  case h_2 => simp at h
  rename_i sz ag by_ z e hti
  obtain ⟨inf, d, z', h1, h2, h3, h4, he⟩ := ti_spec hti
  simp only [TI.mk.injEq] at he
  have hd := kind_slice he.2.2.2.2.symm
  subst hd
  have hx := S.eval x
  have go : ∀ ad n c, a.eval x = .slice ad n c → ∀ w', (execOp a.eval ⟨dst, .binOp .eql t' x (.const (.slice none 0 0)) y', type, pos, after, guard⟩).run P w' = .ok (.value (.bool ad.isNone)) w' := fun ad n c hv w' => by
    have e0 : a.eval (.const (.slice none 0 0)) = .slice none 0 0 := rfl
    simp only [execOp, hv, e0]
    have e1 : eqGuard .eql t' x (.const (.slice none 0 0)) (.slice ad n c) (.slice none 0 0) = (pure () : Sem Unit) := rfl
    have e2 : binOp .eql t' (.slice ad n c) (.slice none 0 0) = (do pure (.bool (← Op.equal t' (.slice ad n c) (.slice none 0 0))) : Sem Value) := rfl
    have e3 : (Op.equal t' (.slice ad n c) (.slice none 0 0)).run P w' = .ok ad.isNone w' := by
      show (Op.equalIn (9999 + 1) t' (.slice ad n c) (.slice none 0 0)).run P w' = _
      unfold Op.equalIn
      simp only [Sem.run_bind, run_underlying h2, Result.andThen_ok]
      cases ad <;> rfl
    simp only [e1, e2, Sem.run_bind, Sem.run_pure, Result.andThen_ok, e3]
  split at h
  · rename_i cells n hc
    rw [hc] at hx
    obtain ⟨ad, c, hv, _, _, hcells⟩ := hx
    split at h
    · simp only [Option.some.injEq] at h; subst h
      exact ⟨_, ⟨_, rfl⟩, fun w' _ => go _ _ _ hv w'⟩
    · rename_i hne
      simp only [Option.some.injEq] at h; subst h
      rcases hcells with hcells | ⟨b, off, rfl, _⟩
      · subst hcells; simp at hne
      · exact ⟨_, ⟨rfl, rfl⟩, fun w' _ => go _ _ _ hv w'⟩
  · rename_i hc
    rw [hc] at hx
    obtain ⟨ad, hv⟩ := hx
    simp only [Option.some.injEq] at h; subst h
    exact ⟨_, ⟨_, rfl⟩, fun w' _ => go _ _ _ hv w'⟩
  · rename_i hc
    rw [hc] at hx
    have hv : a.eval x = .slice none 0 0 := hx
    simp only [Option.some.injEq] at h; subst h
    exact ⟨_, ⟨rfl, rfl⟩, fun w' _ => go _ _ _ hv w'⟩
  · rename_i β g off n hc
    split at h
    case isFalse => simp at h
    rename_i hn
    simp only [Option.some.injEq] at h; subst h
    rw [hc] at hx
    obtain ⟨⟨r, sz⟩, hl⟩ := live_E (okA := okA) (w0 := w0) (m := m) (w := w) hn.2
    obtain ⟨ad, c, hv, hnc, _, hcc, _⟩ := hx.2.2 r sz hl
    obtain ⟨b, _, rfl, _⟩ := hcc.resolve_left (by omega)
    exact ⟨_, ⟨rfl, rfl⟩, fun w' _ => go _ _ _ hv w'⟩
  · simp at h
theorem asgn_rep (S : Sim okA w0 s m a w) (dst : Option Tmp) (x : Operand) : RepV (envOf okA w0.new s.heap s.gen m w) (asgn s dst x) (a.eval x) := by
  unfold asgn
  split
  · split
    · rfl
    · exact ⟨none, rfl⟩
  · exact S.eval _

theorem avalue_sound (S : Sim okA w0 s m a w) {o : Oper} {t : AVal} (h : avalue P s o = some t) : Yields P (envOf okA w0.new s.heap s.gen m w) o a w t := by
  obtain ⟨dst, op, type, pos, after, guard⟩ := o
  have fl : ∀ {x : Sem Value} {t : AVal}, semS P x = some t → ∃ v, RepV (envOf okA w0.new s.heap s.gen m w) t v ∧ ∀ w', x.run P w' = .ok v w' := fun hx => by
    obtain ⟨v, rfl, hs, hr⟩ := semS_run hx
    exact ⟨v, ⟨hs, rfl⟩, hr⟩
  unfold avalue at h
  dsimp only at h
  split at h
  · -- move
    simp only [Option.some.injEq] at h; subst h
    exact ⟨_, S.eval _, fun w' _ => rfl⟩
  · simp only [Option.some.injEq] at h; subst h
    exact ⟨_, asgn_rep S _ _, fun w' _ => rfl⟩
  · -- pick
    rename_i c x y
    split at h
    case h_2 => simp at h
    rename_i b hb
    simp only [Option.some.injEq] at h; subst h
    have hc := S.eval c
    rw [hb] at hc
    refine ⟨if b then a.eval x else a.eval y, by cases b <;> exact S.eval _, fun w' _ => ?_⟩
    simp only [execOp, hc.2, asBool, Sem.run_bind, Sem.run_pure, Result.andThen_ok]
  · -- binOp
    rename_i op t' x y y'
    split at h
    case isTrue =>
      rename_i hq
      exact nil_sound S hq h
    split at h
    case h_2 => simp at h
    rename_i u v hu hv
    obtain ⟨r, hr, hrun⟩ := fl h
    refine ⟨r, hr, fun w' _ => ?_⟩
    have e1 := conc_rep hu (S.eval x)
    have e2 := conc_rep hv (S.eval y)
    have := hrun w'
    simp only [execOp, e1, e2]
    rw [Sem.run_bind, this]
    rfl
  · -- unOp
    rename_i op t' x
    split at h
    case h_2 => simp at h
    rename_i u hu
    obtain ⟨r, hr, hrun⟩ := fl h
    have e1 := S.eval x
    rw [hu] at e1
    refine ⟨r, hr, fun w' _ => ?_⟩
    simp only [execOp, e1.2]
    rw [Sem.run_bind, hrun w']
    rfl
  · -- convert
    rename_i src dst x
    split at h
    case h_2 => simp at h
    rename_i u hu
    obtain ⟨r, hr, hrun⟩ := fl h
    have e1 := S.eval x
    rw [hu] at e1
    refine ⟨r, hr, fun w' _ => ?_⟩
    simp only [execOp, e1.2]
    rw [Sem.run_bind, hrun w']
    rfl
  · -- extract
    rename_i x ix
    split at h
    case h_2 => simp at h
    rename_i vs hvs
    have e1 := S.eval x
    rw [hvs] at e1
    obtain ⟨us, e2, hl⟩ := e1
    obtain ⟨u, hu, hru⟩ := repL_get hl h
    refine ⟨u, hru, fun w' _ => ?_⟩
    have hu' : us.toArray[ix]? = some u := by simpa using hu
    simp only [execOp, e2, Instr.extract, hu', Sem.run_bind, Sem.run_pure, Result.andThen_ok]
  · -- field
    obtain ⟨u, hu, hrun⟩ := field_sound h (S.eval _)
    refine ⟨u, hu, fun w' _ => ?_⟩
    simp only [execOp, Sem.run_bind, hrun w', Result.andThen_ok, Sem.run_pure]
  · -- build
    obtain ⟨u, hu, hrun⟩ := build_sound S h
    refine ⟨u, hu, fun w' _ => ?_⟩
    simp only [execOp, Sem.run_bind, hrun w', Result.andThen_ok, Sem.run_pure]
  · -- makeFunc
    rename_i f captured
    simp only [Option.some.injEq] at h; subst h
    refine ⟨.func (.func f) #[] (captured.map a.eval), ⟨captured.toList.map a.eval, by congr 1; apply Array.ext'; simp, repL_eval S _⟩, fun w' _ => ?_⟩
    simp [execOp, Instr.makeFunc]
  · -- makeFunc, bound
    rename_i f x first
    simp only [Option.some.injEq] at h; subst h
    refine ⟨.func (.func f) ((x :: first).map a.eval).toArray #[], ⟨(x :: first).map a.eval, by simp, repL_eval S _⟩, fun w' _ => ?_⟩
    simp [execOp, Instr.makeFunc]
  · -- fieldAddr
    split at h
    case isFalse => simp at h
    rename_i hlv
    obtain ⟨u, hu, hrun⟩ := fieldAt_sound h (live_E hlv) (S.eval _)
    refine ⟨u, hu, fun w' _ => ?_⟩
    simp only [execOp, Sem.run_bind, hrun w', Result.andThen_ok, Sem.run_pure]
  · -- indexAddr
    split at h
    case isFalse => simp at h
    rename_i hlv
    obtain ⟨u, hu, hrun⟩ := indexAt_sound h (live_E hlv) (S.eval _) (S.eval _)
    refine ⟨u, hu, fun w' _ => ?_⟩
    simp only [execOp, Sem.run_bind, hrun w', Result.andThen_ok, Sem.run_pure]
  · -- index
    rename_i t' x ix
    split at h
    case h_2 => simp at h
    rename_i u v hu hv
    obtain ⟨r, hr, hrun⟩ := fl h
    have e1 := conc_rep hu (S.eval x)
    have e2 := S.eval ix
    rw [hv] at e2
    refine ⟨r, hr, fun w' _ => ?_⟩
    simp only [execOp, e1, e2.2]
    rw [Sem.run_bind, hrun w']
    rfl
  · -- load
    rename_i t' x
    obtain ⟨ad, hv, u, hu, hrun⟩ := S.load h (S.eval x)
    refine ⟨u, hu, fun w' hw => ?_⟩
    simp only [execOp, hv, Instr.loadAt, Instr.sureAddr, Sem.run_bind, Sem.run_pure, Result.andThen_ok, hrun w' hw]
  · -- nilCheck
    rename_i x
    have e1 := S.eval x
    split at h
    · rename_i β g off hx
      split at h
      case isFalse => simp at h
      rename_i hlv
      simp only [Option.some.injEq] at h; subst h
      rw [hx] at e1
      obtain ⟨p, hl⟩ := live_E (okA := okA) (w0 := w0) (m := m) (w := w) hlv
      obtain ⟨b, _, hb⟩ := e1.2.2 p.1 p.2 hl
      refine ⟨a.eval x, e1, fun w' _ => ?_⟩
      simp only [execOp, hb, Sem.run_pure]
    · rename_i cells off hx
      simp only [Option.some.injEq] at h; subst h
      rw [hx] at e1
      refine ⟨a.eval x, e1, fun w' _ => ?_⟩
      obtain ⟨b, base, hb, _⟩ := e1
      simp only [execOp, hb, Sem.run_pure]
    · rename_i f cs hx
      simp only [Option.some.injEq] at h; subst h
      rw [hx] at e1
      refine ⟨a.eval x, e1, fun w' _ => ?_⟩
      obtain ⟨vs, hb, _⟩ := e1
      simp only [execOp, hb, Sem.run_pure]
    · simp at h
  · -- slice
    rename_i t' x lo hi mx
    split at h
    · rename_i u hu
      split at h
      case h_2 => simp at h
      rename_i l hh e1 e2
      have ex := S.eval x
      rw [hu] at ex
      unfold asliceS at h
      split at h
      case h_2 => simp at h
      rename_i sz ag by_ z hti
      obtain ⟨inf, d, z', h1, hstr, h3, h4, he⟩ := ti_spec hti
      simp only [TI.mk.injEq] at he
      have hd := kind_str he.2.2.2.2.symm
      subst hd
      obtain ⟨r, hr, hrun⟩ := fl h
      have p1 : lo.map a.eval = l.head? := by
        cases lo with
        | none => simp [flats] at e1; subst e1; rfl
        | some q => rw [← flats_rep e1 (repL_eval S [q])]; rfl
      have p2 : hi.map a.eval = hh.head? := by
        cases hi with
        | none => simp [flats] at e2; subst e2; rfl
        | some q => rw [← flats_rep e2 (repL_eval S [q])]; rfl
      refine ⟨r, hr, fun w' _ => ?_⟩
      have hru := hrun w'
      simp only [execOp, ex.2, p1, p2, Option.map_none, Instr.sliceAt, Sem.run_bind, run_underlying hstr, Result.andThen_ok, hru, Sem.run_pure]
    · split at h
      case isFalse => simp at h
      rename_i hlv
      split at h
      case isFalse => simp at h
      rename_i hsz
      obtain ⟨u, hu, hrun⟩ := sliceV_sound S h (live_E hlv) (S.eval _) (fun β g blk hx hb i e ei h1 h2 h3 => by
        obtain ⟨off, n, hx⟩ := hx
        simp only [szOk, hx, hb, h1, h2, h3] at hsz
        simpa using hsz)
      refine ⟨u, hu, fun w' _ => ?_⟩
      simp only [execOp, Sem.run_bind, hrun w', Result.andThen_ok, Sem.run_pure]
  · -- len
    rename_i args ats
    split at h
    case h_2 => simp at h
    rename_i x hx
    split at h
    case isFalse => simp at h
    rename_i hlv
    obtain ⟨u, hu, hrun⟩ := len_sound (P := P) (ats := ats) (ty := type) h (live_E hlv) (S.eval x)
    refine ⟨u, hu, fun w' _ => ?_⟩
    have ha : args.map a.eval = #[a.eval x] := by
      apply Array.ext'; simp [hx]
    rw [exec_builtin rfl]
    simp only [builtin, ha, Sem.run_bind, hrun w', Result.andThen_ok, Sem.run_pure]
  · -- cap
    rename_i args ats
    split at h
    case h_2 => simp at h
    rename_i x hx
    unfold acap at h
    split at h
    case h_2 => simp at h
    rename_i t ht
    split at h
    case h_2 => simp at h
    rename_i sz ag by_ z e hti
    obtain ⟨inf, d, z', h1, h2, h3, h4, he⟩ := ti_spec hti
    simp only [TI.mk.injEq] at he
    have hd := kind_slice he.2.2.2.2.symm
    subst hd
    split at h
    case h_2 => simp at h
    rename_i hnl
    simp only [Option.some.injEq] at h; subst h
    have e1 := S.eval x
    rw [hnl] at e1
    obtain ⟨ad, e1⟩ := e1
    refine ⟨.int .i64 0, ⟨rfl, rfl⟩, fun w' _ => ?_⟩
    have ha : args.map a.eval = #[.slice ad 0 0] := by
      apply Array.ext'; simp [hx, e1]
    have hats : ats = #[t] := by apply Array.ext'; simpa using ht
    rw [exec_builtin rfl]
    simp [builtin, ha, hats, Builtin.cap_, run_underlying h2, goInt]
  · -- min
    rename_i args ats
    split at h
    case h_2 => simp at h
    rename_i l hl
    obtain ⟨r, hr, hrun⟩ := fl h
    have ha : args.map a.eval = l.toArray := by
      apply Array.ext'; rw [← flats_rep hl (repL_eval S _)]; simp
    refine ⟨r, hr, fun w' _ => ?_⟩
    rw [exec_builtin rfl]
    simp only [builtin, ha, Sem.run_bind, hrun w', Result.andThen_ok, Sem.run_pure]
  · -- max
    rename_i args ats
    split at h
    case h_2 => simp at h
    rename_i l hl
    obtain ⟨r, hr, hrun⟩ := fl h
    have ha : args.map a.eval = l.toArray := by
      apply Array.ext'; rw [← flats_rep hl (repL_eval S _)]; simp
    refine ⟨r, hr, fun w' _ => ?_⟩
    rw [exec_builtin rfl]
    simp only [builtin, ha, Sem.run_bind, hrun w', Result.andThen_ok, Sem.run_pure]
  · simp at h
end
end Go.Own
