/-
  OWN WORK, generic over any program: what is owned, read as trees; calls; regions, in the text's order and in whatever order is drawn.
  OWN WORK, generic over any program: append onto a slice of the function's own.
-/
import Derived.Test.YtkmhoebopfgpdaaOwnH
import Derived.Deep.LoopGhost
namespace Go.Own
open Go Go.RowKit
variable [GL]
set_option linter.unusedSectionVars false

/-- append onto a slice with room -/
theorem run_append_room' {P : Program} (w : World) (t ty e : TypeId) (inf : TypeInfo) (ht : P.underlying t = some (.slice e)) (hi : P.info? e = some inf)
    (g n c k : Nat) (cur : Array Value) (T : TypeId) (hg : w.heap[g]? = some (.cells cur T (0, 0))) (y : Value) (news : List Value) (_ : news.length = k * inf.size)
    (hlen : ∀ w', (Builtin.lenOf y).run P w' = .ok k w') (hfc : (Builtin.firstCells inf.size k y).run P w = .ok news.toArray w) (h1 : ∀ u ∈ news, u.oneCell' = true)
    (hroom : n + k ≤ c) (hfit : n * inf.size + news.length ≤ cur.size) :
    (Builtin.append_ #[t, t] ty #[.slice (some ⟨g, 0, none⟩) n c, y]).run P w =
      .ok (.slice (some ⟨g, 0, none⟩) (n + k) c) (w.setRow g (cur.toList.take (n * inf.size) ++ news ++ cur.toList.drop (n * inf.size + news.length)).toArray) := by
  have hst := run_storeCells_at P g (n * inf.size) T news 0 cur w hg (by simpa using hfit) h1
  simp only [Nat.add_zero] at hst
  simp [Builtin.append_, run_underlying ht, sizeOf, typeInfo, hi, hlen, hroom, hfc, Addr.add_lit, hst]

/-- append onto a slice without room -/
theorem run_append_grow' {P : Program} (w : World) (t ty e : TypeId) (inf : TypeInfo) (z : Value) (ht : P.underlying t = some (.slice e)) (hi : P.info? e = some inf) (hz : inf.zero = some z)
    (ad : Option Addr) (n c k : Nat) (olds : List Value) (hold : (Builtin.firstCells inf.size n (.slice ad n c)).run P w.drew = .ok olds.toArray w.drew)
    (y : Value) (news : List Value) (hlen : ∀ w', (Builtin.lenOf y).run P w' = .ok k w') (hfc : (Builtin.firstCells inf.size k y).run P w.drew = .ok news.toArray w.drew)
    (hg : c < n + k) (h63 : ((n + k : Nat) : Int) ≤ 9223372036854775807) (hfit : Builtin.nextslicecap (n + k) c * inf.bytes ≤ 281474976710656) :
    (Builtin.append_ #[t, t] ty #[.slice ad n c, y]).run P w =
      .ok (.slice (some ⟨w.heap.size, 0, none⟩) (n + k) (grownCap w (n + k) c e))
        (w.drew.alloc (.cells (olds.toArray ++ news.toArray ++ Builtin.zeroCells z.cells (grownCap w (n + k) c e - (n + k))) e)) := by
  have hn : ¬ (n + k ≤ c) := by omega
  have h63' : ¬ (9223372036854775807 < ((n : Int) + (k : Int))) := by omega
  have h48' : ¬ (281474976710656 < Builtin.nextslicecap (n + k) c * inf.bytes) := by omega
  simp [Builtin.append_, run_underlying ht, sizeOf, typeInfo, zeroValue, hi, hz, hlen, hn, h63', h48', Question.forced, hfc, hold, newRow, grownCap]
  congr 2
  apply Array.ext'
  simp [List.append_assoc]

section
variable {P : Program} {okA : Nat → Prop} {w0 : Base} {s : ASt} {m : Nat → Option Nat} {a : Act} {w : World}

/-- the source's cells, read in any world that agrees -/
theorem src_sound (S : Sim okA w0 s m a w) {size k : Nat} {y : AVal} {v : Value} {new : List AVal} (h : srcCells s size y = some (new, k)) (hy : RepV (envOf okA w0.new s.heap s.gen m w) y v) (hsz : size ≠ 0) :
    ∃ news, RepA (envOf okA w0.new s.heap s.gen m w) new news ∧ news.length = k * size ∧ (∀ w', (Builtin.lenOf v).run P w' = .ok k w') ∧
      ∀ w', agree w w' → (Builtin.firstCells size k v).run P w' = .ok news.toArray w' := by
  have zero : ∀ ad c (w' : World), (Builtin.firstCells size 0 (.slice ad 0 c)).run P w' = .ok #[] w' := fun ad c w' => by
    cases ad with
    | none => simp [Builtin.firstCells]
    | some b => simp [Builtin.firstCells, loadCells, loadCellsFrom]
  have some_ : ∀ b off n c (cells : List AVal), cells.length = n * size → (envOf okA w0.new s.heap s.gen m w).w.heap.size > b → RepC (envOf okA w0.new s.heap s.gen m w) cells b off →
      ∃ news, RepA (envOf okA w0.new s.heap s.gen m w) cells news ∧ news.length = n * size ∧ ∀ w', agree w w' → (Builtin.firstCells size n (.slice (some ⟨b, off, none⟩) n c)).run P w' = .ok news.toArray w' := fun b off n c cells hl hb hC => by
    obtain ⟨news, hA, hcell⟩ := repC_vals hC
    have hlen : news.length = n * size := by rw [← repA_length hA, hl]
    refine ⟨news, hA, hlen, fun w' hw => run_firstCells_some w' size n _ n c news hlen fun j u hu => ?_⟩
    rw [Addr.add_lit]
    exact (cell_same (hw b hb)).trans (hcell j u hu)
  unfold srcCells at h
  split at h
  · simp only [Option.some.injEq, Prod.mk.injEq] at h
    obtain ⟨rfl, rfl⟩ := h
    obtain ⟨ad, rfl⟩ := hy
    exact ⟨[], rfl, by simp, fun _ => rfl, fun w' _ => zero _ _ w'⟩
  · rename_i cells n
    split at h
    case isFalse => simp at h
    rename_i hl
    simp only [Option.some.injEq, Prod.mk.injEq] at h
    obtain ⟨rfl, rfl⟩ := h
    obtain ⟨ad, c, rfl, _, _, hc⟩ := hy
    rcases hc with hc | ⟨b, off, rfl, hok, hC⟩
    · subst hc
      have : n = 0 := by
        simp at hl
        exact (Nat.mul_eq_zero.1 hl.symm).resolve_right hsz
      subst this
      exact ⟨[], rfl, by simp, fun _ => rfl, fun w' _ => zero _ _ w'⟩
    · obtain ⟨news, hA, hlen, hrun⟩ := some_ b off n c cells hl hok.1 hC
      exact ⟨news, hA, hlen, fun _ => rfl, hrun⟩
  · rename_i β g off n
    split at h
    case h_2 => simp at h
    rename_i blk hb
    split at h
    case isFalse => simp at h
    rename_i hc
    simp only [Option.some.injEq, Prod.mk.injEq] at h
    obtain ⟨rfl, rfl⟩ := h
    obtain ⟨hβ, hg⟩ := blkOf_spec hb
    obtain ⟨_, _, hp⟩ := hy
    obtain ⟨ad, c, rfl, hn, _, hcc, _⟩ := hp _ _ (loc_of hβ hg)
    by_cases h0 : c = 0
    · have : n = 0 := by omega
      subst this
      refine ⟨[], by simp [RepA], by simp, fun _ => rfl, fun w' _ => zero _ _ w'⟩
    · obtain ⟨b, hm, rfl, hroom⟩ := hcc.resolve_left h0
      obtain ⟨_, _, hC⟩ := (S.blks β blk hβ).real b hm
      obtain ⟨news, hA, hlen, hrun⟩ := some_ b (0 + off) n c ((blk.cells.drop off).take (n * size)) (by simp; omega) (lt_of_room hroom) (repC_take _ (repC_drop _ hC))
      rw [Nat.zero_add] at hrun
      exact ⟨news, hA, hlen, fun _ => rfl, hrun⟩
  · simp at h

/-- .. the first of them alone -/
theorem src_some (q : Nat) (S : Sim okA w0 s m a w) {size k : Nat} {y : AVal} {v : Value} {new : List AVal} (h : srcCells s size y = some (new, k)) (hy : RepV (envOf okA w0.new s.heap s.gen m w) y v) (hsz : size ≠ 0) (hq : q ≤ k) :
    ∃ news, RepA (envOf okA w0.new s.heap s.gen m w) new news ∧ news.length = k * size ∧ (∀ w', (Builtin.lenOf v).run P w' = .ok k w') ∧
      ∀ w', agree w w' → (Builtin.firstCells size q v).run P w' = .ok (news.take (q * size)).toArray w' := by
  have zero : ∀ ad c (w' : World), (Builtin.firstCells size 0 (.slice ad 0 c)).run P w' = .ok #[] w' := fun ad c w' => by
    cases ad with
    | none => simp [Builtin.firstCells]
    | some b => simp [Builtin.firstCells, loadCells, loadCellsFrom]
  have some_ : ∀ b off n c (cells : List AVal), cells.length = n * size → (envOf okA w0.new s.heap s.gen m w).w.heap.size > b → RepC (envOf okA w0.new s.heap s.gen m w) cells b off →
      ∃ news, RepA (envOf okA w0.new s.heap s.gen m w) cells news ∧ news.length = n * size ∧ ∀ w', q ≤ n → agree w w' → (Builtin.firstCells size q (.slice (some ⟨b, off, none⟩) n c)).run P w' = .ok (news.take (q * size)).toArray w' := fun b off n c cells hl hb hC => by
    obtain ⟨news, hA, hcell⟩ := repC_vals hC
    have hlen : news.length = n * size := by rw [← repA_length hA, hl]
    refine ⟨news, hA, hlen, fun w' hqn hw => run_firstCells_some w' size q _ n c (news.take (q * size)) (by rw [List.length_take, hlen]; exact Nat.min_eq_left (Nat.mul_le_mul_right _ hqn)) fun j u hu => ?_⟩
    rw [Addr.add_lit]
    exact (cell_same (hw b hb)).trans (hcell j u (by rw [List.getElem?_take] at hu; split at hu <;> simp_all))
  unfold srcCells at h
  split at h
  · simp only [Option.some.injEq, Prod.mk.injEq] at h
    obtain ⟨rfl, rfl⟩ := h
    obtain ⟨ad, rfl⟩ := hy
    obtain rfl : q = 0 := by omega
    exact ⟨[], rfl, by simp, fun _ => rfl, fun w' _ => by simpa using zero ad 0 w'⟩
  · rename_i cells n
    split at h
    case isFalse => simp at h
    rename_i hl
    simp only [Option.some.injEq, Prod.mk.injEq] at h
    obtain ⟨rfl, rfl⟩ := h
    obtain ⟨ad, c, rfl, _, _, hc⟩ := hy
    rcases hc with hc | ⟨b, off, rfl, hok, hC⟩
    · subst hc
      have : n = 0 := by
        simp at hl
        exact (Nat.mul_eq_zero.1 hl.symm).resolve_right hsz
      subst this
      obtain rfl : q = 0 := by omega
      exact ⟨[], rfl, by simp, fun _ => rfl, fun w' _ => by simpa using zero ad c w'⟩
    · obtain ⟨news, hA, hlen, hrun⟩ := some_ b off n c cells hl hok.1 hC
      exact ⟨news, hA, hlen, fun _ => rfl, fun w' hw => hrun w' hq hw⟩
  · rename_i β g off n
    split at h
    case h_2 => simp at h
    rename_i blk hb
    split at h
    case isFalse => simp at h
    rename_i hc
    simp only [Option.some.injEq, Prod.mk.injEq] at h
    obtain ⟨rfl, rfl⟩ := h
    obtain ⟨hβ, hg⟩ := blkOf_spec hb
    obtain ⟨_, _, hp⟩ := hy
    obtain ⟨ad, c, rfl, hn, _, hcc, _⟩ := hp _ _ (loc_of hβ hg)
    by_cases h0 : c = 0
    · have : n = 0 := by omega
      subst this
      obtain rfl : q = 0 := by omega
      refine ⟨[], by simp [RepA], by simp, fun _ => rfl, fun w' _ => by simpa using zero ad c w'⟩
    · obtain ⟨b, hm, rfl, hroom⟩ := hcc.resolve_left h0
      obtain ⟨_, _, hC⟩ := (S.blks β blk hβ).real b hm
      obtain ⟨news, hA, hlen, hrun⟩ := some_ b (0 + off) n c ((blk.cells.drop off).take (n * size)) (by simp; omega) (lt_of_room hroom) (repC_take _ (repC_drop _ hC))
      rw [Nat.zero_add] at hrun
      exact ⟨news, hA, hlen, fun _ => rfl, fun w' hw => hrun w' hq hw⟩
  · simp at h

theorem zero_cells {size : Nat} {ad : Option Addr} {l c : Nat} (w' : World) : (Builtin.firstCells size 0 (.slice ad l c)).run P w' = .ok #[] w' := by
  cases ad with
  | none => simp [Builtin.firstCells]
  | some b => simp [Builtin.firstCells, loadCells, loadCellsFrom]
theorem copy_sound (S : Sim okA w0 s m a w) {d : Nat} {t u ty : TypeId} {x y : AVal} {vx vy : Value} {s' : ASt} (hx : RepV (envOf okA w0.new s.heap s.gen m w) x vx)
    (hy : RepV (envOf okA w0.new s.heap s.gen m w) y vy) (h : acopy P s d t x y = some s') :
    ∃ v w', (Builtin.copy_ #[t, u] ty #[vx, vy]).run P w = .ok v w' ∧ Sim okA w0 s' m (a.put (some d) v) w' := by
  unfold acopy at h
  split at h
  case h_2 => simp at h
  rename_i sz ag by_ z e hti
  obtain ⟨inf, d', z', h1, h2, h3, h4, he⟩ := ti_spec hti
  simp only [TI.mk.injEq] at he
  have hd := kind_slice he.2.2.2.2.symm
  subst hd
  split at h
  case h_2 => simp at h
  rename_i ei hei
  obtain ⟨inf', d'', z'', g1, g2, g3, g4, rfl⟩ := ti_spec hei
  split at h
  case h_2 => simp at h
  rename_i src k hsrc
  split at h
  case h_2 => simp at h
  rename_i β g off n
  split at h
  case h_2 => simp at h
  rename_i blk hb
  split at h
  case isFalse => simp at h
  rename_i hc
  obtain ⟨c1, c2, c3, c4⟩ := hc
  simp only [Option.some.injEq] at h
  subst h
  have c1 : inf'.size ≠ 0 := c1
  have c2 : blk.size = inf'.size := c2
  have c3 : off + n * inf'.size ≤ blk.cells.length := c3
  have hsrc : srcCells s inf'.size y = some (src, k) := hsrc
  obtain ⟨news, hA, hnl, hlen, hfc⟩ := src_some (P := P) (min k n) S hsrc hy c1 (Nat.min_le_left _ _)
  have hfc := hfc w (fun _ _ => rfl)
  obtain ⟨hβ, hg⟩ := blkOf_spec hb
  obtain ⟨_, _, hp⟩ := hx
  obtain ⟨ad, c, rfl, hn, _, hcc, _⟩ := hp _ _ (loc_of hβ hg)
  have hln := hlen w
  show ∃ v w', _ ∧ Sim okA w0 { s with tmp := upd s.tmp d (.i (min k n : Nat)), heap := upd s.heap β (some { blk with cells := lay blk.cells off (src.take (min k n * inf'.size)) }) } m (a.put (some d) v) w'
  have put : ∀ {s1 : ASt} {w1 : World}, s1.n = s.n → s1.tmp = s.tmp → Sim okA w0 s1 m a w1 → Sim okA w0 { s1 with tmp := upd s1.tmp d (.i (min k n : Nat)) } m (a.put (some d) (goInt (min k n : Nat))) w1 := fun {s1 w1} e1 e2 S1 => by
    refine S1.putv (dst := some d) (t := .i (min k n : Nat)) ?_ ⟨rfl, rfl⟩
    show (if d < s1.n then _ else none) = _
    rw [if_pos (by rw [e1]; exact c4)]
    rfl
  by_cases h0 : min k n = 0
  · refine ⟨goInt (min k n : Nat), w, ?_, ?_⟩
    · rw [h0] at hfc
      have hfc0 : (Builtin.firstCells inf'.size 0 vy).run P w = .ok #[] w := by simpa using hfc
      cases ad with
      | none => simp [Builtin.copy_, run_underlying h2, sizeOf, typeInfo, g1, hln, h0, hfc0]
      | some b => simp [Builtin.copy_, run_underlying h2, sizeOf, typeInfo, g1, hln, h0, hfc0, storeCells]
    · have e : upd s.heap β (some { blk with cells := lay blk.cells off (src.take (min k n * inf'.size)) }) = s.heap := by
        funext δ
        by_cases eδ : δ = β
        · subst eδ
          simp [upd, hβ, h0, lay]
        · simp [upd, eδ]
      rw [e]
      exact put rfl rfl S
  · have hc0 : c ≠ 0 := by omega
    obtain ⟨b, hm, rfl, hroom⟩ := hcc.resolve_left hc0
    obtain ⟨hB, ⟨arr, T, hcur, hsz⟩, hC⟩ := (S.blks β blk hβ).real b hm
    obtain ⟨cur, hcurA, hcell⟩ := repC_vals hC
    have hcl := repA_length hcurA
    have hpre : arr.toList.take blk.cells.length = cur := by
      apply List.ext_getElem
      · simp; omega
      · intro j h1 h2
        have := hcell j cur[j] (List.getElem?_eq_getElem h2)
        simp only [Nat.zero_add] at this
        have e : w.cell? ⟨b, j, none⟩ = arr[j]? := by simp [World.cell?, hcur]
        have e2 : arr[j]? = some cur[j] := e ▸ this
        simp only [List.getElem_take]
        have hj : j < arr.size := by omega
        rw [Array.getElem?_eq_getElem hj] at e2
        simpa using e2
    have hle : min k n * inf'.size ≤ n * inf'.size := Nat.mul_le_mul_right _ (Nat.min_le_right _ _)
    have hle2 : min k n * inf'.size ≤ k * inf'.size := Nat.mul_le_mul_right _ (Nat.min_le_left _ _)
    have hA' := repA_take (min k n * inf'.size) hA
    have hul : (news.take (min k n * inf'.size)).length = min k n * inf'.size := by rw [List.length_take, hnl]; exact Nat.min_eq_left hle2
    have hvl : (src.take (min k n * inf'.size)).length = min k n * inf'.size := by rw [repA_length hA', hul]
    have hst := run_storeCells_at P b off T (news.take (min k n * inf'.size)) 0 arr w hcur (by omega) (fun u hu => repA_one hA' u hu)
    refine ⟨goInt (min k n : Nat), _, ?_, put (s1 := { s with heap := upd s.heap β (some { blk with cells := lay blk.cells off (src.take (min k n * inf'.size)) }) }) rfl rfl (S.setBlk (blk' := { blk with cells := lay blk.cells off (src.take (min k n * inf'.size)) }) hβ hm (Nat.le_refl _) rfl (.inl rfl) hcur
      (arr' := (arr.toList.take (off + 0) ++ news.take (min k n * inf'.size) ++ arr.toList.drop (off + 0 + (news.take (min k n * inf'.size)).length)).toArray) ?_ ?_ ?_).2⟩
    · have e1 : (Builtin.firstCells inf'.size (Nat.min k n) vy).run P w = .ok (news.take (min k n * inf'.size)).toArray w := hfc
      simp only [Builtin.copy_, List.getElem?_toArray, List.getElem?_cons_zero, List.getElem?_cons_succ, Sem.run_bind, run_underlying h2, Result.andThen_ok, hln, run_sizeOf g1, e1, hst, Sem.run_pure]
    · simp; omega
    · simp [lay]; omega
    · have e : ((arr.toList.take (off + 0) ++ news.take (min k n * inf'.size) ++ arr.toList.drop (off + 0 + (news.take (min k n * inf'.size)).length)).toArray).toList.take (lay blk.cells off (src.take (min k n * inf'.size))).length = cur.take off ++ news.take (min k n * inf'.size) ++ cur.drop (off + (news.take (min k n * inf'.size)).length) := by
        have hll : (lay blk.cells off (src.take (min k n * inf'.size))).length = blk.cells.length := by
          simp only [lay, List.length_append, List.length_take, List.length_drop, hvl]
          omega
        rw [hll, ← hpre]
        simpa using take_lay arr.toList blk.cells.length off (news.take (min k n * inf'.size)) (by omega) (by simpa using hsz)
      rw [e]
      exact lay_rep hcurA hA'
theorem clear_sound (S : Sim okA w0 s m a w) {t ty : TypeId} {x : AVal} {vx : Value} {s' : ASt} (hx : RepV (envOf okA w0.new s.heap s.gen m w) x vx)
    (h : aclear P s t x = some s') :
    ∃ w', (Builtin.clear_ #[t] ty #[vx]).run P w = .ok (.tuple #[]) w' ∧ Sim okA w0 s' m a w' := by
  unfold aclear at h
  split at h
  case h_2 => simp at h
  rename_i sz ag by_ z e hti
  obtain ⟨inf, d', z', h1, h2, h3, h4, he⟩ := ti_spec hti
  simp only [TI.mk.injEq] at he
  have hd := kind_slice he.2.2.2.2.symm
  subst hd
  split at h
  case h_2 => simp at h
  rename_i ei hei
  obtain ⟨inf', d'', z'', g1, g2, g3, g4, rfl⟩ := ti_spec hei
  split at h
  case h_2 => simp at h
  rename_i β g off n
  split at h
  case h_2 => simp at h
  rename_i blk hb
  split at h
  case isFalse => simp at h
  rename_i hc
  obtain ⟨c1, c0, c2, c3⟩ := hc
  simp only [Option.some.injEq] at h
  subst h
  have c1 : inf'.size ≠ 0 := c1
  have c2 : blk.size = inf'.size := c2
  have c3 : off + n * inf'.size ≤ blk.cells.length := c3
  have c0' : z''.cells.toList.length = inf'.size := by simpa using c0
  obtain ⟨hβ, hg⟩ := blkOf_spec hb
  obtain ⟨_, _, hp⟩ := hx
  obtain ⟨ad, c, rfl, hn, _, hcc, _⟩ := hp _ _ (loc_of hβ hg)
  show ∃ w', _ ∧ Sim okA w0 { s with heap := upd s.heap β (some { blk with cells := lay blk.cells off (List.replicate n (List.map absC z''.cells.toList)).flatten }) } m a w'
  by_cases h0 : n = 0
  · subst h0
    refine ⟨w, ?_, ?_⟩
    · cases ad with
      | none => simp [Builtin.clear_, run_underlying h2]
      | some b => simp [Builtin.clear_, run_underlying h2]
    · have e : upd s.heap β (some { blk with cells := lay blk.cells off (List.replicate 0 (List.map absC z''.cells.toList)).flatten }) = s.heap := by
        funext δ
        by_cases eδ : δ = β
        · subst eδ
          simp [upd, hβ, lay]
        · simp [upd, eδ]
      rw [e]
      exact S
  · have hc0 : c ≠ 0 := by omega
    obtain ⟨b, hm, rfl, hroom⟩ := hcc.resolve_left hc0
    obtain ⟨hB, ⟨arr, T, hcur, hsz⟩, hC⟩ := (S.blks β blk hβ).real b hm
    obtain ⟨cur, hcurA, hcell⟩ := repC_vals hC
    have hcl := repA_length hcurA
    have hpre : arr.toList.take blk.cells.length = cur := by
      apply List.ext_getElem
      · simp; omega
      · intro j h1 h2
        have := hcell j cur[j] (List.getElem?_eq_getElem h2)
        simp only [Nat.zero_add] at this
        have e : w.cell? ⟨b, j, none⟩ = arr[j]? := by simp [World.cell?, hcur]
        have e2 : arr[j]? = some cur[j] := e ▸ this
        simp only [List.getElem_take]
        have hj : j < arr.size := by omega
        rw [Array.getElem?_eq_getElem hj] at e2
        simpa using e2
    have hz0 : RepA (envOf okA w0.new s.heap s.gen m w) (List.map absC z''.cells.toList) z''.cells.toList := by
      have := repA_absC (envOf okA w0.new s.heap s.gen m w) z''.cells.toList g4
      exact this
    have hA := repA_replicate hz0 n
    have hul : ((List.replicate n z''.cells.toList).flatten).length = n * inf'.size := by simp [c0']
    have hvl : ((List.replicate n (List.map absC z''.cells.toList)).flatten).length = n * inf'.size := by rw [repA_length hA, hul]
    have hne : z''.cells.toList ≠ [] := fun e => by rw [e] at c0'; simp at c0'; exact c1 c0'.symm
    have hzc : (Builtin.zeroCells z''.cells n).toList = (List.replicate n z''.cells.toList).flatten := by
      have := made_take z''.cells.toList n hne
      rw [← this]
      simp [Builtin.zeroCells, ← Array.getElem!_toList]
    generalize hus : (List.replicate n z''.cells.toList).flatten = us at hA hul hzc
    generalize hvs : (List.replicate n (List.map absC z''.cells.toList)).flatten = vs at hA hvl
    have hst := run_storeCells_at P b off T us 0 arr w hcur (by omega) (fun u hu => repA_one hA u hu)
    refine ⟨_, ?_, (S.setBlk (blk' := { blk with cells := lay blk.cells off vs }) hβ hm (Nat.le_refl _) rfl (.inl rfl) hcur
      (arr' := (arr.toList.take (off + 0) ++ us ++ arr.toList.drop (off + 0 + us.length)).toArray) ?_ ?_ ?_).2⟩
    · have hzv : ∀ w' : World, (zeroValue e).run P w' = .ok z'' w' := fun w' => by simp [zeroValue, typeInfo, g1, g3]
      have e9 : ∃ n', n = n' + 1 := ⟨n - 1, by omega⟩
      obtain ⟨n', rfl⟩ := e9
      simp only [Builtin.clear_, List.getElem?_toArray, List.getElem?_cons_zero, Sem.run_bind, run_underlying h2, Result.andThen_ok, hzv, hzc, hst, Sem.run_pure]
    · simp; omega
    · simp [lay]; omega
    · have e : ((arr.toList.take (off + 0) ++ us ++ arr.toList.drop (off + 0 + us.length)).toArray).toList.take (lay blk.cells off vs).length = cur.take off ++ us ++ cur.drop (off + us.length) := by
        have hll : (lay blk.cells off vs).length = blk.cells.length := by
          simp only [lay, List.length_append, List.length_take, List.length_drop, hvl]
          omega
        rw [hll, ← hpre]
        simpa using take_lay arr.toList blk.cells.length off us (by omega) (by simpa using hsz)
      rw [e]
      exact lay_rep hcurA hA
theorem take_pre {L : List Value} {x : List Value} {k : Nat} (h : L = x ++ L.drop k) (hk : x.length = k) : L.take k = x := by
  rw [h, ← hk, List.take_left]

theorem nz_rep {E : Env} {x : AVal} {v : Value} (h : RepV E x v) : RepV E (nz x) v := by
  unfold nz
  split
  · exact ⟨none, h⟩
  · exact h
theorem append_sound (S : Sim okA w0 s m a w) {d : Nat} {t ty : TypeId} {x y : AVal} {vx vy : Value} {s' : ASt} (hx : RepV (envOf okA w0.new s.heap s.gen m w) x vx)
    (hy : RepV (envOf okA w0.new s.heap s.gen m w) y vy) (h : aappend P s d t x y = some s') :
    ∃ v w' m', (Builtin.append_ #[t, t] ty #[vx, vy]).run P w = .ok v w' ∧ Sim okA w0 s' m' (a.put (some d) v) w' := by
  replace hx := nz_rep hx
  unfold aappend at h
  generalize nz x = x at h hx
  split at h
  case h_2 => simp at h
  rename_i sz ag by_ z e hti
  obtain ⟨inf, d', z', h1, h2, h3, h4, he⟩ := ti_spec hti
  simp only [TI.mk.injEq] at he
  have hd := kind_slice he.2.2.2.2.symm
  subst hd
  split at h
  case h_2 => simp at h
  rename_i ei hei
  obtain ⟨inf', d'', z'', g1, g2, g3, g4, rfl⟩ := ti_spec hei
  split at h
  · simp at h
  rename_i hs0
  have hz0 : z''.cells.size = inf'.size := by
    have : ¬ ((List.map absC z''.cells.toList).length ≠ inf'.size) := fun h => hs0 (.inr (.inr h))
    simpa using this
  have hb0' : inf'.bytes ≠ 0 := fun h => hs0 (.inr (.inl h))
  have hs0 : inf'.size ≠ 0 := fun h => hs0 (.inl h)
  have grow : ∀ (olds news : List Value) (q c : Nat), (olds ++ news).length = q * inf'.size → q ≤ c →
      (olds.toArray ++ news.toArray ++ Builtin.zeroCells z''.cells (c - q)).size = c * inf'.size ∧ (olds.toArray ++ news.toArray ++ Builtin.zeroCells z''.cells (c - q)).toList.take (q * inf'.size) = olds ++ news := fun olds news q c hq hc => by
    constructor
    · simp only [Array.size_append, List.size_toArray, size_zeroCells, hz0]
      rw [← List.length_append, hq, ← Nat.add_mul]
      congr 1; omega
    · simp only [Array.toList_append, List.append_assoc]
      rw [← List.append_assoc, ← hq]
      exact List.take_left
  split at h
  case h_2 => simp at h
  rename_i new k hsrc
  obtain ⟨news, hA, hnl, hlen, hfc⟩ := src_sound (P := P) S hsrc hy hs0
  have hnl : news.length = k * inf'.size := hnl
  have hnewl := repA_length hA
  have hb0 : Below w.heap.size w w.drew := (Below.refl _ w).drew
  have agd : agree w w.drew := fun b _ => rfl
  split at h
  · -- nothing yet
    split at h
    case isFalse => simp at h
    rename_i hby
    have hby : k * inf'.bytes ≤ 140737488355328 := hby
    obtain ⟨ad, rfl⟩ := hx
    by_cases hk : k = 0
    · subst hk
      have hnil : news = [] := List.eq_nil_of_length_eq_zero (by simpa using hnl)
      subst hnil
      have hnn : new = [] := List.eq_nil_of_length_eq_zero (by simpa using hnewl)
      subst hnn
      -- a block that lies nowhere
      have hrun : (Builtin.append_ #[t, t] ty #[.slice ad 0 0, vy]).run P w = .ok (.slice ad 0 0) w := by
        have hf0 := hfc w (fun b _ => rfl)
        cases ad with
        | none => simp [Builtin.append_, run_underlying h2, sizeOf, typeInfo, g1, hlen, hf0]
        | some b => simp [Builtin.append_, run_underlying h2, sizeOf, typeInfo, g1, hlen, hf0, storeCells]
      exact ⟨_, _, upd m (s.gh.nm d) none, hrun, S.newVirt' h ad⟩
    · have hold : (Builtin.firstCells inf'.size 0 (.slice ad 0 0)).run P w.drew = .ok ([] : List Value).toArray w.drew := by
        cases ad with
        | none => simp [Builtin.firstCells]
        | some b => simp [Builtin.firstCells, loadCells, loadCellsFrom]
      have hbig : ((0 + k : Nat) : Int) ≤ 9223372036854775807 := by
        have : k ≤ k * inf'.bytes := Nat.le_mul_of_pos_right _ (by omega)
        omega
      have hrun := run_append_grow' (P := P) w t ty e inf' z'' h2 g1 g3 ad 0 0 k [] hold vy news hlen (hfc _ agd) (by omega) hbig
        (growslice_fits (by omega) (by rw [Nat.zero_add]; exact hby))
      have hq := grow [] news (0 + k) (grownCap w (0 + k) 0 e) (by simpa using hnl) (grownCap_ge _ _ _ _)
      have hcap : grownCap w (0 + k) 0 e ≤ maxI := grownCap_le_maxLen w (0 + k) 0 e (by simp only [maxLen]; omega)
      have hnew := heap_alloc_new w.drew (.cells (([] : List Value).toArray ++ news.toArray ++ Builtin.zeroCells z''.cells (grownCap w (0 + k) 0 e - (0 + k))) e)
      refine ⟨_, _, _, hrun, S.newBlk h (hb0.trans (below_alloc w.drew _)) (by simp) hnew ?_ ?_ ?_⟩
      · rw [hq.1, hnewl, hnl]; exact Nat.mul_le_mul_right _ (by have := grownCap_ge w (0 + k) 0 e; omega)
      · have : new.length = (0 + k) * inf'.size := by rw [hnewl, hnl, Nat.zero_add]
        rw [this, hq.2]
        simpa using hA
      · have := own_new (okA := okA) (w0 := w0) (m := m) h (w.drew.alloc (.cells (([] : List Value).toArray ++ news.toArray ++ Builtin.zeroCells z''.cells (grownCap w (0 + k) 0 e - (0 + k))) e)) w.heap.size (0 + k) _ (grownCap_ge w (0 + k) 0 e) hcap (by have := grownCap_ge w (0 + k) 0 e; omega) hnew (by rw [hq.1]; exact Nat.le_refl _)
        simpa using this
  · -- one of the function's own
    rename_i β g n
    split at h
    case h_2 => simp at h
    rename_i blk hb
    split at h
    case isFalse => simp at h
    rename_i hc
    obtain ⟨c1, c2, c3, c4⟩ := hc
    have c1 : blk.size = inf'.size := c1
    have c2 : n * inf'.size ≤ blk.cells.length := c2
    have c3 : (n + k) * inf'.bytes ≤ 140737488355328 := c3
    simp only [Option.some.injEq] at h
    subst h
    obtain ⟨hβ, hg⟩ := blkOf_spec hb
    obtain ⟨_, _, hp⟩ := hx
    obtain ⟨ad, c, rfl, hnc, hcm, hcc, _⟩ := hp _ _ (loc_of hβ hg)
    rw [c1] at hcc
    -- what it holds
    obtain ⟨olds, hO, hol, hof⟩ : ∃ olds, RepA (envOf okA w0.new s.heap s.gen m w) (blk.cells.take (n * inf'.size)) olds ∧ olds.length = n * inf'.size ∧
        ∀ w', agree w w' → (Builtin.firstCells inf'.size n (.slice ad n c)).run P w' = .ok olds.toArray w' := by
      by_cases h0 : c = 0
      · have : n = 0 := by omega
        subst this
        refine ⟨[], by simp [RepA], by simp, fun w' _ => ?_⟩
        cases ad with
        | none => simp [Builtin.firstCells]
        | some b => simp [Builtin.firstCells, loadCells, loadCellsFrom]
      · obtain ⟨b, hm, rfl, hroom⟩ := hcc.resolve_left h0
        obtain ⟨_, _, hC⟩ := (S.blks β blk hβ).real b hm
        obtain ⟨olds, hO, hcell⟩ := repC_vals (repC_take (n * inf'.size) hC)
        have hol : olds.length = n * inf'.size := by rw [← repA_length hO]; simp; omega
        refine ⟨olds, hO, hol, fun w' hw => run_firstCells_some w' inf'.size n _ n c olds hol fun j u hu => ?_⟩
        rw [Addr.add_lit]
        exact (cell_same (hw b (lt_of_room hroom))).trans (hcell j u hu)
    have hON : RepA (envOf okA w0.new s.heap s.gen m w) (blk.cells.take (n * inf'.size) ++ new) (olds ++ news) := repA_append hO hA
    have hONl : (olds ++ news).length = (n + k) * inf'.size := by rw [List.length_append, hol, hnl, Nat.add_mul]
    have hONl' : (blk.cells.take (n * inf'.size) ++ new).length = (n + k) * inf'.size := by rw [repA_length hON, hONl]
    have hbig : ((n + k : Nat) : Int) ≤ 9223372036854775807 := by
      have : n + k ≤ (n + k) * inf'.bytes := Nat.le_mul_of_pos_right _ (by omega)
      omega
    by_cases hroomy : n + k ≤ c
    · by_cases h0 : c = 0
      · -- nothing is appended to nothing
        have hk : k = 0 := by omega
        have hn0 : n = 0 := by omega
        subst hk hn0 h0
        have hnil : news = [] := List.eq_nil_of_length_eq_zero (by simpa using hnl)
        subst hnil
        have hnn : new = [] := List.eq_nil_of_length_eq_zero (by simpa using hnewl)
        subst hnn
        have hrun : (Builtin.append_ #[t, t] ty #[.slice ad 0 0, vy]).run P w = .ok (.slice ad 0 0) w := by
          have hf0 := hfc w (fun b _ => rfl)
          cases ad with
          | none => simp [Builtin.append_, run_underlying h2, sizeOf, typeInfo, g1, hlen, hf0]
          | some b => simp [Builtin.append_, run_underlying h2, sizeOf, typeInfo, g1, hlen, hf0, storeCells]
        refine ⟨_, _, upd m β none, hrun, ?_⟩
        have := S.newVirt (δ := β) (sz := inf'.size) c4 ad
        simpa using this
      · -- within the capacity
        obtain ⟨b, hm, rfl, hroom⟩ := hcc.resolve_left h0
        obtain ⟨arr, T, fz, hcur', hle'⟩ := hroom
        obtain ⟨hB, ⟨arr2, T2, hcur, hsz⟩, hC⟩ := (S.blks β blk hβ).real b hm
        have hcur' : w.heap[b]? = some (.cells arr T fz) := hcur'
        rw [hcur] at hcur'
        simp only [Option.some.injEq, Obj.cells.injEq] at hcur'
        obtain ⟨rfl, rfl, rfl⟩ := hcur'
        have hfits : n * inf'.size + news.length ≤ arr2.size := by
          rw [hnl, ← Nat.add_mul]
          have := Nat.mul_le_mul_right inf'.size hroomy
          omega
        have hrun := run_append_room' (P := P) w t ty e inf' h2 g1 b n c k arr2 T2 hcur vy news hnl hlen (hfc w fun b _ => rfl) (fun u hu => repA_one hA u hu) hroomy hfits
        have htake : (arr2.toList.take (n * inf'.size) ++ news ++ arr2.toList.drop (n * inf'.size + news.length)).take ((n + k) * inf'.size) = olds ++ news := by
          have e1 : arr2.toList.take (n * inf'.size) = olds := by
            apply List.ext_getElem
            · simp; omega
            · intro j q1 q2
              have hj : j < n * inf'.size := by omega
              have := hof w (fun b _ => rfl)
              have h3 : w.cell? ⟨b, j, none⟩ = some olds[j] := by
                obtain ⟨us, hU, hcell⟩ := repC_vals (repC_take (n * inf'.size) hC)
                have hul : us.length = n * inf'.size := by rw [← repA_length hU]; simp; omega
                have := run_firstCells_some (P := P) w inf'.size n ⟨b, 0, none⟩ n c us hul fun j u hu => by rw [Addr.add_lit]; exact hcell j u hu
                rw [hof w (fun b _ => rfl)] at this
                simp only [Result.ok.injEq, and_true] at this
                have hou : olds = us := by simpa using congrArg Array.toList this
                subst hou
                have := hcell j olds[j] (List.getElem?_eq_getElem q2)
                rw [Nat.zero_add] at this
                exact this
              have e : w.cell? ⟨b, j, none⟩ = arr2[j]? := by simp [World.cell?, hcur]
              rw [e, Array.getElem?_eq_getElem (by omega)] at h3
              simpa using h3
          rw [e1, ← hONl]
          exact List.take_left
        obtain ⟨hle, S'⟩ := S.setBlk (blk' := ⟨s.gen, inf'.size, blk.cells.take (n * inf'.size) ++ new⟩) hβ hm (G' := s.gen + 1) (Nat.le_succ _) c1.symm (.inr ⟨Nat.le_refl _, Nat.lt_succ_self _⟩) hcur
          (arr' := (arr2.toList.take (n * inf'.size) ++ news ++ arr2.toList.drop (n * inf'.size + news.length)).toArray) (by simp; omega) (by rw [hONl']; simp; rw [Nat.add_mul, ← hnl]; omega) (by rw [hONl', List.toList_toArray, htake]; exact hON)
        have hp : ASt.put { s with heap := upd s.heap β (some ⟨s.gen, inf'.size, blk.cells.take (n * inf'.size) ++ new⟩), gen := s.gen + 1 } (some d) (.own β s.gen 0 (n + k)) =
            some { s with tmp := upd s.tmp d (.own β s.gen 0 (n + k)), heap := upd s.heap β (some ⟨s.gen, inf'.size, blk.cells.take (n * inf'.size) ++ new⟩), gen := s.gen + 1 } := by
          simp [ASt.put, ASt.set, c4]
        refine ⟨_, _, m, hrun, S'.putv hp ⟨Nat.lt_succ_self _, rfl, fun r sz' e => ⟨_, c, rfl, hroomy, hcm, .inr ⟨b, ?_, rfl, ?_⟩, fun _ h => (h0 h).elim⟩⟩⟩
        · simp only [envOf, upd, if_true, Option.some.injEq, Prod.mk.injEq] at e
          rw [← e.1]; exact hm
        · simp only [envOf, upd, if_true, Option.some.injEq, Prod.mk.injEq] at e
          refine ⟨_, T2, (0, 0), setRow_heap w b arr2 _ T2 (0, 0) hcur, ?_⟩
          rw [← e.2]
          simp; omega
    · -- a new array
      have hgrow : c < n + k := by omega
      have hrun := run_append_grow' (P := P) w t ty e inf' z'' h2 g1 g3 ad n c k olds (hof _ agd) vy news hlen (hfc _ agd) hgrow hbig (growslice_fits hgrow c3)
      have hq := grow olds news (n + k) (grownCap w (n + k) c e) hONl (grownCap_ge _ _ _ _)
      have hcap : grownCap w (n + k) c e ≤ maxI := grownCap_le_maxLen w (n + k) c e (by simp only [maxLen]; omega)
      have hnew := heap_alloc_new w.drew (.cells (olds.toArray ++ news.toArray ++ Builtin.zeroCells z''.cells (grownCap w (n + k) c e - (n + k))) e)
      refine ⟨_, _, _, hrun, S.newBlk' (δ := β) c4 (hb0.trans (below_alloc w.drew _)) (by simp) hnew ?_ ?_ ?_⟩
      · rw [hq.1, hONl']; exact Nat.mul_le_mul_right _ (grownCap_ge w (n + k) c e)
      · rw [hONl', hq.2]; exact hON
      · refine ⟨Nat.lt_succ_self _, rfl, fun r sz' e' => ⟨_, _, rfl, grownCap_ge w (n + k) c e, hcap, .inr ⟨w.heap.size, ?_, rfl, _, e, (0, 0), hnew, ?_⟩, fun _ h => by have := grownCap_ge w (n + k) c e; omega⟩⟩
        · simp only [envOf, upd, if_true, Option.some.injEq, Prod.mk.injEq] at e'
          exact e'.1.symm
        · simp only [envOf, upd, if_true, Option.some.injEq, Prod.mk.injEq] at e'
          rw [Nat.zero_add, ← e'.2, hq.1]; exact Nat.le_refl _
  · simp at h
end

mutual
theorem flatT_rep {E E' : Env} : ∀ {t : AVal} {v : Value}, t.flatT = true → RepV E t v → RepV E' t v
  | .flat _, _, _, h => h
  | .agg cs, _, ht, ⟨vs, e, hl⟩ => ⟨vs, e, flatA_rep (by simpa [AVal.flatT] using ht) hl⟩
  | .tup cs, _, ht, ⟨vs, e, hl⟩ => ⟨vs, e, flatL_rep (by simpa [AVal.flatT] using ht) hl⟩
  | .lst _ _, _, ht, _ | .nl, _, ht, _ | .iptr _ _, _, ht, _ | .own _ _ _ _, _, ht, _ | .ptr _ _ _, _, ht, _ | .clo _ _, _, ht, _ | .bnd _ _, _, ht, _ | .row _, _, ht, _ | .kin _, _, ht, _ | .anyb, _, ht, _ | .dead, _, ht, _ => by simp [AVal.flatT] at ht
theorem flatA_rep {E E' : Env} : ∀ {cs : List AVal} {vs : List Value}, (∀ c ∈ cs, isFlat c = true) → RepA E cs vs → RepA E' cs vs
  | [], _, _, h => h
  | c :: cs, _, ht, ⟨v, r, e, h1, hv, hl⟩ => by
    refine ⟨v, r, e, h1, ?_, flatA_rep (fun x hx => ht x (by simp [hx])) hl⟩
    have := ht c (by simp)
    cases c <;> simp [isFlat] at this
    exact hv
theorem flatL_rep {E E' : Env} : ∀ {cs : List AVal} {vs : List Value}, (∀ c ∈ cs, isFlat c = true) → RepL E cs vs → RepL E' cs vs
  | [], _, _, h => h
  | c :: cs, _, ht, ⟨v, r, e, hv, hl⟩ => by
    refine ⟨v, r, e, ?_, flatL_rep (fun x hx => ht x (by simp [hx])) hl⟩
    have := ht c (by simp)
    cases c <;> simp [isFlat] at this
    exact hv
end

/-- the one value that a flat tree stands for -/
theorem flatT_one {E E' : Env} {t : AVal} {v u : Value} (ht : t.flatT = true) (h : RepV E t v) (h' : RepV E' t u) : u = v := by
  have L : ∀ {cs : List AVal} {vs us : List Value}, (∀ c ∈ cs, isFlat c = true) → RepL E cs vs → RepL E' cs us → us = vs := by
    intro cs
    induction cs with
    | nil => intro vs us _ h1 h2; simp only [RepL] at h1 h2; rw [h1, h2]
    | cons c cs ih =>
      intro vs us hc ⟨v, r, e, hv, hl⟩ ⟨v', r', e', hv', hl'⟩
      have h0 := hc c (by simp)
      cases c <;> simp [isFlat] at h0
      rw [e, e', ih (fun x hx => hc x (by simp [hx])) hl hl', hv.2, hv'.2]
  cases t with
  | flat w => rw [h.2, h'.2]
  | agg cs =>
    obtain ⟨vs, e, hl⟩ := h
    obtain ⟨us, e', hl'⟩ := h'
    rw [e, e', L (by simpa [AVal.flatT] using ht) (repA_L hl) (repA_L hl')]
  | tup cs =>
    obtain ⟨vs, e, hl⟩ := h
    obtain ⟨us, e', hl'⟩ := h'
    rw [e, e', L (by simpa [AVal.flatT] using ht) hl hl']
  | _ => simp [AVal.flatT] at ht

section
variable {P : Program} {okA : Nat → Prop} {w0 : Base} {s : ASt} {m : Nat → Option Nat} {a : Act} {w : World}

theorem mapM_repL {E E' : Env} {f : AVal → Option AVal} : ∀ {cs l : List AVal} {vs : List Value}, (∀ x ∈ cs, ∀ t v, f x = some t → RepV E x v → RepV E' t v ∧ t.tree = true) → cs.mapM f = some l → RepL E cs vs → RepL E' l vs ∧ treeL l = true
  | [], l, vs, _, h, hr => by simp at h; subst h; exact ⟨hr, rfl⟩
  | c :: cs, l, vs, hf, h, ⟨v, r, e, hv, hl⟩ => by
    simp only [List.mapM_cons, Option.bind_eq_bind, Option.bind_eq_some_iff, Option.pure_def, Option.some.injEq] at h
    obtain ⟨t, ht, l', hl', rfl⟩ := h
    obtain ⟨h1, h2⟩ := hf c (by simp) t v ht hv
    obtain ⟨h3, h4⟩ := mapM_repL (fun x hx => hf x (by simp [hx])) hl' hl
    exact ⟨⟨v, r, e, h1, h3⟩, by simp [treeL, h2, h4]⟩
theorem mapM_repA {E E' : Env} {f : AVal → Option AVal} : ∀ {cs l : List AVal} {vs : List Value}, (∀ x ∈ cs, ∀ t v, f x = some t → RepV E x v → RepV E' t v ∧ t.tree = true) → cs.mapM f = some l → RepA E cs vs → RepA E' l vs ∧ treeL l = true
  | [], l, vs, _, h, hr => by simp at h; subst h; exact ⟨hr, rfl⟩
  | c :: cs, l, vs, hf, h, ⟨v, r, e, h0, hv, hl⟩ => by
    simp only [List.mapM_cons, Option.bind_eq_bind, Option.bind_eq_some_iff, Option.pure_def, Option.some.injEq] at h
    obtain ⟨t, ht, l', hl', rfl⟩ := h
    obtain ⟨h1, h2⟩ := hf c (by simp) t v ht hv
    obtain ⟨h3, h4⟩ := mapM_repA (fun x hx => hf x (by simp [hx])) hl' hl
    exact ⟨⟨v, r, e, h0, h1, h3⟩, by simp [treeL, h2, h4]⟩
theorem mapM_repC {E E' : Env} {f : AVal → Option AVal} {b : Nat} (hb : E'.w.heap[b]? = E.w.heap[b]?) : ∀ {cs l : List AVal} {off : Nat}, (∀ x ∈ cs, ∀ t v, f x = some t → RepV E x v → RepV E' t v ∧ t.tree = true) → cs.mapM f = some l → RepC E cs b off → RepC E' l b off ∧ treeL l = true
  | [], l, off, _, h, hr => by simp at h; subst h; exact ⟨trivial, rfl⟩
  | c :: cs, l, off, hf, h, ⟨⟨v, e, h0, hv⟩, hl⟩ => by
    simp only [List.mapM_cons, Option.bind_eq_bind, Option.bind_eq_some_iff, Option.pure_def, Option.some.injEq] at h
    obtain ⟨t, ht, l', hl', rfl⟩ := h
    obtain ⟨h1, h2⟩ := hf c (by simp) t v ht hv
    obtain ⟨h3, h4⟩ := mapM_repC hb (fun x hx => hf x (by simp [hx])) hl' hl
    exact ⟨⟨⟨v, (cell_same hb).trans e, h0, h1⟩, h3⟩, by simp [treeL, h2, h4]⟩

theorem snap_sound (S : Sim okA w0 s m a w) {ok : Nat → Prop} (hok : ∀ b, (envOf okA w0.new s.heap s.gen m w).ok b → ok b) (t0 : Bool) {sm : ASt} (hsub : ∀ β blk, sm.heap β = some blk → s.heap β = some blk) (hown : t0 = false → ∀ β blk b, sm.heap β = some blk → m β = some b → ok b) :
    ∀ (k : Nat) (t t' : AVal) (v : Value), snap k sm t = some t' → (t0 = true → t.tree = true) → RepV (envOf okA w0.new s.heap s.gen m w) t v → RepV (treeEnv w ok) t' v ∧ t'.tree = true := by
  have hE : ∀ b, (envOf okA w0.new s.heap s.gen m w).ok b → (treeEnv w ok).ok b ∧ (treeEnv w ok).w.heap[b]? = (envOf okA w0.new s.heap s.gen m w).w.heap[b]? := fun b h => ⟨hok b h, rfl⟩
  intro k
  induction k with
  | zero => intro t t' v h; simp [snap] at h
  | succ k ih =>
    intro t t' v h htr hr
    unfold snap at h
    split at h
    · rename_i β g off n
      have ht0 : t0 = false := by
        cases t0 with
        | false => rfl
        | true => have := htr rfl; simp [AVal.tree] at this
      split at h
      case h_2 => simp at h
      rename_i blk hb
      split at h
      case isFalse => simp at h
      rename_i hlen
      obtain ⟨hβm, hg⟩ := blkOf_spec hb
      have hβ := hsub _ _ hβm
      obtain ⟨_, _, hp⟩ := hr
      obtain ⟨ad, c, rfl, hn, hcm, hcc, _⟩ := hp _ _ (loc_of hβ hg)
      have body : ∀ l : List AVal, (((blk.cells.drop off).take (n * blk.size) = [] → l = []) ∧ ∀ b, m β = some b → RepC (treeEnv w ok) l b off) → RepV (treeEnv w ok) (.lst l n) (.slice ad n c) := fun l hl => by
        refine ⟨ad, c, rfl, hn, hcm, ?_⟩
        by_cases h0 : c = 0
        · exact .inl (hl.1 (by rw [show n = 0 by omega]; simp))
        · obtain ⟨b, hm, rfl, hroom⟩ := hcc.resolve_left h0
          exact .inr ⟨b, off, rfl, hown ht0 β blk b hβm hm, hl.2 b hm⟩
      have seg : ∀ b, m β = some b → RepC (envOf okA w0.new s.heap s.gen m w) ((blk.cells.drop off).take (n * blk.size)) b off := fun b hm => by
        have := repC_take (n * blk.size) (repC_drop off ((S.blks β blk hβ).real b hm).2.2)
        rwa [Nat.zero_add] at this
      split at h
      · rename_i hall
        simp only [Option.some.injEq] at h
        subst h
        exact ⟨body _ ⟨id, fun b hm => repC_tree hE rfl _ _ hall (seg b hm)⟩, by simpa [AVal.tree] using hall⟩
      · split at h
        case h_2 => simp at h
        rename_i l hl
        simp only [Option.some.injEq] at h
        subst h
        have hmap : ∀ x ∈ (blk.cells.drop off).take (n * blk.size), ∀ t v, snap k sm x = some t → RepV (envOf okA w0.new s.heap s.gen m w) x v → RepV (treeEnv w ok) t v ∧ t.tree = true :=
          fun x _ t v h1 h2 => ih x t v h1 (fun e => by rw [ht0] at e; simp at e) h2
        refine ⟨body l ⟨fun e => by rw [e] at hl; simpa using hl.symm, fun b hm => (mapM_repC (E := envOf okA w0.new s.heap s.gen m w) (E' := treeEnv w ok) rfl hmap hl (seg b hm)).1⟩, ?_⟩
        show treeL l = true
        by_cases hz : (blk.cells.drop off).take (n * blk.size) = []
        · rw [hz] at hl; simp at hl; subst hl; rfl
        · have hb2 : m β ≠ none := fun e => by
            have := (S.blks β blk hβ).virt e
            rw [this] at hz; simp at hz
          obtain ⟨b, hm⟩ := Option.ne_none_iff_exists'.1 hb2
          exact (mapM_repC (E := envOf okA w0.new s.heap s.gen m w) (E' := treeEnv w ok) rfl hmap hl (seg b hm)).2
    · rename_i β g off
      have ht0 : t0 = false := by
        cases t0 with
        | false => rfl
        | true => have := htr rfl; simp [AVal.tree] at this
      split at h
      case h_2 => simp at h
      rename_i blk hb
      obtain ⟨hβm, hg⟩ := blkOf_spec hb
      have hβ := hsub _ _ hβm
      obtain ⟨_, _, hp⟩ := hr
      obtain ⟨b, hm, rfl⟩ := hp _ _ (loc_of hβ hg)
      obtain ⟨hB, ⟨arr, T, hh, _⟩, hC⟩ := (S.blks β blk hβ).real b hm
      have hokb := hown ht0 β blk b hβm hm
      split at h
      · rename_i hall
        simp only [Option.some.injEq] at h
        subst h
        exact ⟨⟨b, 0, by simp, hokb, repC_tree hE rfl _ _ hall hC⟩, by simpa [AVal.tree] using hall⟩
      · split at h
        case h_2 => simp at h
        rename_i l hl
        simp only [Option.some.injEq] at h
        subst h
        obtain ⟨h1, h2⟩ := mapM_repC (E := envOf okA w0.new s.heap s.gen m w) (E' := treeEnv w ok) rfl (fun x _ t v h1 h2 => ih x t v h1 (fun e => by rw [ht0] at e; simp at e) h2) hl hC
        exact ⟨⟨b, 0, by simp, hokb, h1⟩, by simpa [AVal.tree] using h2⟩
    · rename_i cs
      split at h
      case h_2 => simp at h
      rename_i l hl
      simp only [Option.some.injEq] at h
      subst h
      obtain ⟨vs, e, hA⟩ := hr
      obtain ⟨h1, h2⟩ := mapM_repA (E' := treeEnv w ok) (fun x hx t v h1 h2 => ih x t v h1 (fun e => (treeL_iff cs).1 (by simpa [AVal.tree] using htr e) x hx) h2) hl hA
      exact ⟨⟨vs, e, h1⟩, by simpa [AVal.tree] using h2⟩
    · rename_i cs
      split at h
      case h_2 => simp at h
      rename_i l hl
      simp only [Option.some.injEq] at h
      subst h
      obtain ⟨vs, e, hA⟩ := hr
      obtain ⟨h1, h2⟩ := mapM_repL (E' := treeEnv w ok) (fun x hx t v h1 h2 => ih x t v h1 (fun e => (treeL_iff cs).1 (by simpa [AVal.tree] using htr e) x hx) h2) hl hA
      exact ⟨⟨vs, e, h1⟩, by simpa [AVal.tree] using h2⟩
    · rename_i f cs
      split at h
      case h_2 => simp at h
      rename_i l hl
      simp only [Option.some.injEq] at h
      subst h
      obtain ⟨vs, e, hA⟩ := hr
      obtain ⟨h1, h2⟩ := mapM_repL (E' := treeEnv w ok) (fun x hx t v h1 h2 => ih x t v h1 (fun e => (treeL_iff cs).1 (by simpa [AVal.tree] using htr e) x hx) h2) hl hA
      exact ⟨⟨vs, e, h1⟩, by simpa [AVal.tree] using h2⟩
    · rename_i f cs
      split at h
      case h_2 => simp at h
      rename_i l hl
      simp only [Option.some.injEq] at h
      subst h
      obtain ⟨vs, e, hA⟩ := hr
      obtain ⟨h1, h2⟩ := mapM_repL (E' := treeEnv w ok) (fun x hx t v h1 h2 => ih x t v h1 (fun e => (treeL_iff cs).1 (by simpa [AVal.tree] using htr e) x hx) h2) hl hA
      exact ⟨⟨vs, e, h1⟩, by simpa [AVal.tree] using h2⟩
    · simp only [Option.some.injEq] at h
      subst h
      obtain ⟨ad, rfl⟩ := hr
      exact ⟨⟨ad, 0, rfl, Nat.le_refl _, Nat.zero_le _, .inl rfl⟩, rfl⟩
    · simp at h
    · split at h
      case isFalse => simp at h
      rename_i htree
      simp only [Option.some.injEq] at h
      subst h
      exact ⟨repV_tree hE _ _ htree hr, htree⟩

theorem snapL_sound (S : Sim okA w0 s m a w) {ok : Nat → Prop} (hok : ∀ b, (envOf okA w0.new s.heap s.gen m w).ok b → ok b) (t0 : Bool) (hown : t0 = false → ∀ β blk b, s.heap β = some blk → m β = some b → ok b) :
    ∀ {l as : List AVal} {vs : List Value}, snapL s l = some as → (t0 = true → treeL l = true) → RepL (envOf okA w0.new s.heap s.gen m w) l vs → RepL (treeEnv w ok) as vs
  | [], as, vs, h, _, hr => by simp [snapL] at h; subst h; exact hr
  | x :: l, as, vs, h, ht, ⟨v, r, e, hv, hl⟩ => by
    simp only [snapL] at h
    split at h
    · rename_i x' l' hx hl'
      simp only [Option.some.injEq] at h
      subst h
      have ht' : t0 = true → x.tree = true ∧ treeL l = true := fun h => by simpa [treeL] using ht h
      exact ⟨v, r, e, (snap_sound S hok t0 (fun _ _ h => h) hown 6 x x' v hx (fun h => (ht' h).1) hv).1, snapL_sound S hok t0 hown hl' (fun h => (ht' h).2) hl⟩
    · simp at h

theorem repL_append {E : Env} : ∀ {cs ds : List AVal} {vs us : List Value}, RepL E cs vs → RepL E ds us → RepL E (cs ++ ds) (vs ++ us)
  | [], _, _, _, h, h2 => by simp only [RepL] at h; subst h; simpa using h2
  | _ :: _, _, _, _, ⟨v, r, e, hv, hl⟩, h2 => by subst e; exact ⟨v, _, rfl, hv, repL_append hl h2⟩

theorem run_callFunc {f : FuncId} {fn : Func} (hf : P.funcs[f]? = some fn) (hb : fn.body.isSome = true) (hn : (fn.name == "runtime.NumGoroutine") = false) (args : Array Value) (w' : World) : (callFunc f args).run P w' = .ok (.enter f args) w' := by
  have hb' : ¬ fn.body = none := by cases h : fn.body <;> simp_all
  have hn' : ¬ fn.name = "runtime.NumGoroutine" := by simpa using hn
  simp [callFunc, hf, hb', hn']

/-- what a function value calls -/
theorem cloQ_exec (S : Sim okA w0 s m a w) {o : Oper} {fx : Operand} {args : Array Operand} {ats : Array TypeId} {f : FuncId} {xs : List AVal} (ho : o.op = .call ⟨.value fx, args, ats⟩)
    (hfx : cloQ (s.eval fx) (args.toList.map s.eval) = some (f, xs)) (hd : ∃ fn, P.funcs[f]? = some fn ∧ fn.body.isSome = true ∧ (fn.name == "runtime.NumGoroutine") = false) :
    ∃ vs : List Value, (∀ w' : World, (execOp a.eval o).run P w' = .ok (.enter f vs.toArray) w') ∧ RepL (envOf okA w0.new s.heap s.gen m w) xs vs := by
  obtain ⟨fn, hf, hb, hn⟩ := hd
  have hv := S.eval fx
  cases hq : s.eval fx <;> rw [hq] at hfx hv <;> simp only [cloQ, Option.some.injEq, Prod.mk.injEq, reduceCtorEq] at hfx
  · obtain ⟨rfl, rfl⟩ := hfx
    obtain ⟨us, hfv, hcs⟩ := hv
    refine ⟨args.toList.map a.eval ++ us, fun w' => ?_, repL_append (repL_eval S args.toList) hcs⟩
    have e : (args.toList.map a.eval ++ us).toArray = #[] ++ args.map a.eval ++ us.toArray := by apply Array.ext'; simp
    simp only [execOp, ho, resolve, hfv, Deferred.ofValue, Sem.run_bind, Sem.run_pure, Result.andThen_ok, invoke, run_callFunc hf hb hn, e]
  · obtain ⟨rfl, rfl⟩ := hfx
    obtain ⟨us, hfv, hcs⟩ := hv
    refine ⟨us ++ args.toList.map a.eval, fun w' => ?_, repL_append hcs (repL_eval S args.toList)⟩
    have e : (us ++ args.toList.map a.eval).toArray = us.toArray ++ args.map a.eval ++ #[] := by apply Array.ext'; simp
    simp only [execOp, ho, resolve, hfv, Deferred.ofValue, Sem.run_bind, Sem.run_pure, Result.andThen_ok, invoke, run_callFunc hf hb hn, e]

/-- the call of a function with a contract -/
theorem call_exec (S : Sim okA w0 s m a w) {o : Oper} {fx : Operand} {args : Array Operand} {ats : Array TypeId} {f : FuncId} {cs as : List AVal} {t : AVal} (ho : o.op = .call ⟨.value fx, args, ats⟩) (hfx : cloQ (s.eval fx) (args.toList.map s.eval) = some (f, cs))
    (hs : snapL s cs = some as) (hd : Den P f as t) (hor : treeL cs = true ∨ t.flatT = true) :
    ∃ vs : Array Value, (∀ w' : World, (execOp a.eval o).run P w' = .ok (.enter f vs) w') ∧
      Calls P f vs w fun e w' => ∃ v, e = .returned v ∧ RepV (envOf okA w0.new s.heap s.gen m w') t v ∧ Below w.heap.size w w' := by
  obtain ⟨⟨fn, hf, hb, hn⟩, htt, hden⟩ := hd
  obtain ⟨us, hfv, hrep⟩ := cloQ_exec S ho hfx ⟨fn, hf, hb, hn⟩
  refine ⟨us.toArray, hfv, ?_⟩
  · by_cases ht : treeL cs = true
    · refine (hden w _ (fun b => (envOf okA w0.new s.heap s.gen m w).ok b) (fun b h => h.1) (S.globs.tree fun b h => ⟨h, rfl⟩) (snapL_sound S (fun b h => h) true (fun h => by simp at h) hs (fun _ => ht) hrep)).mono ?_
      rintro e w' ⟨v, rfl, hr, hbel⟩
      refine ⟨v, rfl, repV_tree (E := treeEnv w' _) (E' := envOf okA w0.new s.heap s.gen m w') (fun b hb => ⟨?_, rfl⟩) t v htt hr, hbel⟩
      rcases hb with hb | hb
      · exact ⟨Nat.lt_of_lt_of_le hb.1 hbel.size, hb.2.1, hb.2.2⟩
      · refine ⟨hb.2, .inr (.inl (Nat.le_trans S.below.size hb.1)), fun β blk hβ hm => ?_⟩
        obtain ⟨_, ⟨arr, T, hh, _⟩, _⟩ := (S.blks β blk hβ).real b hm
        have := heap_lt hh
        omega
    · have hfl := hor.resolve_left ht
      refine (hden w _ (fun b => b < w.heap.size) (fun b h => h) (S.globs.tree fun b h => ⟨h.1, rfl⟩) (snapL_sound S (fun b h => h.1) false (fun _ β blk b hβ hm => by obtain ⟨_, ⟨arr, T, hh, _⟩, _⟩ := (S.blks β blk hβ).real b hm; exact heap_lt hh) hs (fun h => by simp at h) hrep)).mono ?_
      rintro e w' ⟨v, rfl, hr, hbel⟩
      exact ⟨v, rfl, flatT_rep hfl hr, hbel⟩

theorem aeff_sound (S : Sim okA w0 s m a w) {o : Oper} {s' : ASt} (h : aeff P s o = some s') : Effects P okA w0 o a w s' := by
  obtain ⟨dst, op, type, pos, after, guard⟩ := o
  unfold aeff at h
  dsimp only at h
  split at h
  · rename_i t d
    unfold aalloc at h
    split at h
    case h_2 => simp at h
    rename_i i hti
    obtain ⟨v, w', m', hr, hS⟩ := alloc_sound S hti h
    exact .inl ⟨v, w', m', by simp only [execOp, Sem.run_bind, hr, Result.andThen_ok, Sem.run_pure], hS⟩
  · rename_i t x d
    unfold abox at h
    split at h
    case h_2 => simp at h
    rename_i i hti
    split at h
    case h_2 => simp at h
    rename_i vs hvs
    obtain ⟨v, w', m', hr, hS⟩ := box_sound (P := P) (t := t) S (S.eval x) hvs h
    exact .inl ⟨v, w', m', by simp only [execOp, Sem.run_bind, hr, Result.andThen_ok, Sem.run_pure], hS⟩
  · rename_i t l c d
    obtain ⟨v, w', m', hr, hS⟩ := makeSlice_sound S (S.eval l) (S.eval c) h
    exact .inl ⟨v, w', m', by simp only [execOp, Sem.run_bind, hr, Result.andThen_ok, Sem.run_pure], hS⟩
  · rename_i t len parts d
    obtain ⟨v, w', m', hr, hS⟩ := buildSlice_sound S h
    exact .inl ⟨v, w', m', by simp only [execOp, Sem.run_bind, hr, Result.andThen_ok, Sem.run_pure], hS⟩
  · rename_i t x v
    obtain ⟨w', hr, hS⟩ := store_sound S (S.eval x) (S.eval v) h
    exact .inr ⟨w', m, by simp only [execOp, Sem.run_bind, hr, Result.andThen_ok, Sem.run_pure], rfl, hS⟩
  · rename_i args ats d
    split at h
    case h_2 => simp at h
    rename_i x y t u hx hu
    split at h
    case h_2 => simp at h
    split at h
    case isFalse => simp at h
    rename_i htu
    subst htu
    obtain ⟨v, w', m', hr, hS⟩ := append_sound (ty := type) S (S.eval x) (S.eval y) h
    have ha : args.map a.eval = #[a.eval x, a.eval y] := by apply Array.ext'; simp [hx]
    have hats : ats = #[t, t] := by apply Array.ext'; simpa using hu
    refine .inl ⟨v, w', m', ?_, hS⟩
    rw [exec_builtin rfl]
    simp only [builtin, ha, hats, Sem.run_bind, hr, Result.andThen_ok, Sem.run_pure]
  · rename_i args ats d
    split at h
    case h_2 => simp at h
    rename_i x y t u hx hu
    obtain ⟨v, w', hr, hS⟩ := copy_sound (ty := type) (u := u) S (S.eval x) (S.eval y) h
    have ha : args.map a.eval = #[a.eval x, a.eval y] := by apply Array.ext'; simp [hx]
    have hats : ats = #[t, u] := by apply Array.ext'; simpa using hu
    refine .inl ⟨v, w', m, ?_, hS⟩
    rw [exec_builtin rfl]
    simp only [builtin, ha, hats, Sem.run_bind, hr, Result.andThen_ok, Sem.run_pure]
  · rename_i args ats
    split at h
    case h_2 => simp at h
    rename_i x t hx hu
    obtain ⟨w', hr, hS⟩ := clear_sound (ty := type) S (S.eval x) h
    have ha : args.map a.eval = #[a.eval x] := by apply Array.ext'; simp [hx]
    have hats : ats = #[t] := by apply Array.ext'; simpa using hu
    refine .inl ⟨.tuple #[], w', m, ?_, hS⟩
    rw [exec_builtin rfl]
    simp only [builtin, ha, hats, Sem.run_bind, hr, Result.andThen_ok, Sem.run_pure]
  · simp at h
end
end Go.Own
