/-
  OWN WORK, generic over any program: contracts of the library's shelf (a row of whole numbers in memory, written over) as contracts of calls that write what they are handed.
-/
import Derived.Test.YtkmhoebopfgpdaaOwnM
import Derived.Sort.Row
import Derived.Sort.Grow
namespace Go.Own
open Go Go.RowKit Go.Sort
variable [GL]
set_option linter.unusedSectionVars false
set_option linter.unusedVariables false

structure PutOk (w w' : World) (b : Nat) (T : TypeId) (N : Nat) (ds : List Int) : Prop where
  row : ∃ arr, w'.heap[b]? = some (.cells arr T (0, 0)) ∧ arr.size = N
  cell : ∀ j (h : j < ds.length), w'.cell? ⟨b, j, none⟩ = some (.int .i64 ds[j])
  bel : BelowB ⟨w, fun k => k = b, []⟩ w'
theorem putOk {w : World} {b : Nat} {arr : Array Value} {T : TypeId} (hb : w.heap[b]? = some (.cells arr T (0, 0))) (ds : List Int) (hd : ds.length ≤ arr.size) (n : Nat) (os : Array Obj) :
    PutOk w (grow (putRow (Value.int .i64) (Sort.ahead w n) b 0 ds.toArray) os) b T arr.size ds := by
  have hlt : b < w.heap.size := (Array.getElem?_eq_some_iff.1 hb).1
  have hsz : (putRow (Value.int .i64) (Sort.ahead w n) b 0 ds.toArray).heap.size = w.heap.size := by rw [size_putRow]; rfl
  have old : ∀ k, k < w.heap.size → (grow (putRow (Value.int .i64) (Sort.ahead w n) b 0 ds.toArray) os).heap[k]? = (putRow (Value.int .i64) (Sort.ahead w n) b 0 ds.toArray).heap[k]? := fun k hk => by
    simp only [grow]
    rw [Array.getElem?_append_left (by omega)]
  have hrow : (putRow (Value.int .i64) (Sort.ahead w n) b 0 ds.toArray).heap[b]? = some (.cells (putCells (Value.int .i64) 0 ds.toArray arr) T (0, 0)) := by
    simp only [putRow, mapBlock, Sort.ahead, Array.getElem?_modify, if_true, hb, Option.map_some, onCells]
  have hps : (putCells (Value.int .i64) 0 ds.toArray arr).size = arr.size := by simp [putCells]
  refine ⟨⟨_, (old b hlt).trans hrow, hps⟩, fun j hj => ?_, rfl, rfl, rfl, ?_, fun k hk hn => ?_, fun k hk arr1 T1 fz1 e1 => ?_⟩
  · have hjs : j < arr.size := by omega
    simp only [World.cell?, old b hlt, hrow]
    simp only [putCells, Array.getElem?_mapIdx, Array.getElem?_eq_getElem hjs, Option.map_some]
    have hz : 0 ≤ j ∧ j < 0 + ds.toArray.size := ⟨Nat.zero_le _, by simpa using hj⟩
    rw [if_pos hz]
    simp [hj]
  · show w.heap.size ≤ _
    simp only [grow, Array.size_append]
    omega
  · rw [old k hk]
    simp only [putRow, mapBlock, Sort.ahead, Array.getElem?_modify]
    have : ¬ b = k := fun e => hn e.symm
    simp [this]
  · have hkb : k = b := hk
    subst hkb
    rw [hb] at e1
    simp only [Option.some.injEq, Obj.cells.injEq] at e1
    exact ⟨_, T, (0, 0), (old k hlt).trans hrow, by rw [hps, e1.1]; exact Nat.le_refl _⟩

theorem repXL_ints {E : Env} : ∀ (xs : List Int), RepXL E true (mapC xi xs) (xs.map (Value.int .i64)) []
  | [] => ⟨rfl, rfl⟩
  | x :: xs => ⟨_, _, [], [], rfl, rfl, fun _ => rfl, ⟨rfl, rfl, rfl, rfl⟩, repXL_ints xs⟩
theorem ints_of_repXL {E : Env} : ∀ {xs : List Int} {vs : List Value} {S : List Nat}, RepXL E true (mapC xi xs) vs S → vs = xs.map (Value.int .i64) ∧ S = []
  | [], _, _, h => h
  | x :: xs, _, _, ⟨v, r, S1, S2, e, eS, _, ⟨h1, _, h2⟩, hL⟩ => by
    obtain ⟨p, q⟩ := ints_of_repXL hL
    subst e eS
    have hv : v = .int .i64 x := h2.2
    rw [hv, p, q, h1]
    exact ⟨rfl, rfl⟩

section
variable {P : Program}
/-- a slice of whole numbers that is handed over -/
theorem ol_ints {E : Env} {xs : List Int} {v : Value} {S : List Nat} (h : RepX E (xints xs) v S) :
    (∃ a, v = .slice a 0 0 ∧ xs = [] ∧ S = []) ∨ ∃ b c arr T, v = .slice (some ⟨b, 0, none⟩) xs.length c ∧ S = [b] ∧ xs.length ≤ c ∧ c ≤ maxI ∧ c ≠ 0 ∧ E.w.heap[b]? = some (.cells arr T (0, 0)) ∧ xs.length ≤ arr.size ∧ c ≤ arr.size ∧
      ∀ j (hj : j < xs.length), E.w.cell? ⟨b, j, none⟩ = some (.int .i64 xs[j]) := by
  obtain ⟨hl, a, c, hv, h1, h2, h3⟩ := h
  rcases h3 with ⟨hc, hS⟩ | ⟨hc, b, S', vs, ha, hS, ⟨arr, T, q1, q2, q3⟩, hL, hcell⟩
  · have : xs = [] := List.eq_nil_of_length_eq_zero (by omega)
    subst this
    subst hc
    exact .inl ⟨a, hv, rfl, hS⟩
  · obtain ⟨e1, e2⟩ := ints_of_repXL hL
    subst e1 e2 ha
    refine .inr ⟨b, c, arr, T, hv, hS, h1, h2, hc, q1, by simpa [mapC] using q2, by omega, fun j hj => hcell j _ (by simp [hj])⟩
theorem ol_ints_of {E : Env} {xs : List Int} {b c : Nat} {arr : Array Value} {T : TypeId} (h1 : xs.length ≤ c) (h2 : c ≤ maxI) (h3 : c ≠ 0) (h4 : E.w.heap[b]? = some (.cells arr T (0, 0))) (h6 : c ≤ arr.size)
    (hc : ∀ j (hj : j < xs.length), E.w.cell? ⟨b, j, none⟩ = some (.int .i64 xs[j])) : RepX E (xints xs) (.slice (some ⟨b, 0, none⟩) xs.length c) [b] := by
  refine ⟨by simp [mapC], some ⟨b, 0, none⟩, c, rfl, h1, h2, .inr ⟨h3, b, [], xs.map (Value.int .i64), rfl, rfl, ⟨arr, T, h4, by simp [mapC]; omega, by omega⟩, repXL_ints xs, fun j v hj => ?_⟩⟩
  have hjl : j < xs.length := by
    have := (List.getElem?_eq_some_iff.1 hj).1
    simpa using this
  rw [List.getElem?_map, List.getElem?_eq_getElem hjl] at hj
  simp only [Option.map_some, Option.some.injEq] at hj
  rw [← hj]
  exact hc j hjl
theorem frozen_of {w : World} {b j : Nat} {arr : Array Value} {T : TypeId} (h : w.heap[b]? = some (.cells arr T (0, 0))) : w.frozen? ⟨b, j, none⟩ = false := by
  simp [World.frozen?, h]
theorem holds_of {w : World} {b : Nat} {arr : Array Value} {T : TypeId} {xs : List Int} (h4 : w.heap[b]? = some (.cells arr T (0, 0)))
    (hc : ∀ j (hj : j < xs.length), w.cell? ⟨b, j, none⟩ = some (.int .i64 xs[j])) : Holds (Value.int .i64) w b 0 xs.toArray := fun j hj => by
  have hj' : j < xs.length := by simpa using hj
  rw [Nat.zero_add]
  refine ⟨?_, frozen_of h4⟩
  rw [hc j hj']
  simp [hj']
theorem perm_le (xs : List Int) : (xs.mergeSort fun x y => decide (x ≤ y)).length = xs.length := List.length_mergeSort _

theorem denx_sort {f : FuncId} (hf : ∃ fn, P.funcs[f]? = some fn ∧ fn.body.isSome = true ∧ (fn.name == "runtime.NumGoroutine") = false)
    (h : ∀ (blk off cap : Nat) (zs : List Int) (w : World), Holds (Value.int .i64) w blk off zs.toArray → blk < w.heap.size → zs.length < 4611686018427387904 →
      Calls P f #[.slice (some ⟨blk, off, none⟩) zs.length cap] w fun e w' => e = .returned (.tuple #[]) ∧ ∃ n os, w' = grow (putRow (Value.int .i64) (Sort.ahead w n) blk off (zs.mergeSort fun x y => decide (x ≤ y)).toArray) os)
    (h0 : ∀ (p : Option Addr) (cap : Nat) (w : World), Calls P f #[.slice p 0 cap] w fun e w' => e = .returned (.tuple #[]) ∧ w' = w)
    (xs : List Int) (hx : xs.length < 4611686018427387904) : DenX P f [xints xs] [xints (xs.mergeSort fun x y => decide (x ≤ y))] (.tup []) := by
  refine ⟨hf, fun w vs ok S hok hSlt hSn hglob hrep => ?_⟩
  obtain ⟨v, r, S1, S2, rfl, rfl, _, hv, hr, rfl⟩ := hrep
  subst hr
  rw [List.append_nil] at hok hSlt hSn ⊢
  rcases ol_ints hv with ⟨a, rfl, rfl, rfl⟩ | ⟨b, c, arr, T, rfl, rfl, q1, q2, q3, q4, q5, q6, q7⟩
  · refine (h0 a 0 w).mono ?_
    rintro e w' ⟨rfl, rfl⟩
    refine ⟨_, [], [], rfl, ⟨_, _, [], [], rfl, rfl, fun h => by simp at h, ⟨by simp [mapC], a, 0, by simp, by simp, Nat.zero_le _, .inl ⟨rfl, rfl⟩⟩, rfl, rfl⟩, ⟨[], rfl, rfl, rfl⟩, by simp, by simp, BelowB.refl _ _ _⟩
  · have hb : b < w.heap.size := hSlt b (by simp)
    refine (h b 0 c xs w (holds_of q4 q7) hb hx).mono ?_
    rintro e w' ⟨rfl, n, os, rfl⟩
    have hlen := perm_le xs
    have K := putOk q4 (xs.mergeSort fun x y => decide (x ≤ y)) (by omega) n os
    obtain ⟨arr', k1, k2⟩ := K.row
    have hbel := K.bel
    refine ⟨_, [b], [], rfl, ⟨_, _, [b], [], rfl, rfl, fun h => by simp at h, ?_, rfl, rfl⟩, ⟨[], rfl, rfl, rfl⟩, by simp, fun k hk => ?_, ⟨hbel.os, hbel.tape, hbel.output, hbel.size, fun k hk hn => hbel.block k hk (by simpa using hn), fun k hk => hbel.room k (by simpa using hk)⟩⟩
    · have := ol_ints_of (E := treeEnv (grow (putRow (Value.int .i64) (Sort.ahead w n) b 0 (xs.mergeSort fun x y => decide (x ≤ y)).toArray) os) fun k => k < (grow (putRow (Value.int .i64) (Sort.ahead w n) b 0 (xs.mergeSort fun x y => decide (x ≤ y)).toArray) os).heap.size ∧ k ∉ [b] ++ [] ∧ (ok k ∨ k ∈ [b] ∨ w.heap.size ≤ k)) (xs := xs.mergeSort fun x y => decide (x ≤ y)) (by omega) q2 q3 k1 (by omega) K.cell
      rw [hlen] at this
      exact this
    · simp only [List.append_nil, List.mem_singleton] at hk
      subst hk
      exact ⟨Nat.lt_of_lt_of_le hb hbel.size, .inl (by simp)⟩
mutual
theorem repX_mono {w : World} {ok ok' : Nat → Prop} (h : ∀ b, ok b → ok' b) : ∀ (t : XT) (v : Value) (S : List Nat), RepX (treeEnv w ok) t v S → RepX (treeEnv w ok') t v S
  | .v a, v, S, ⟨hS, ht, hr⟩ => ⟨hS, ht, repV_tree (E := treeEnv w ok) (E' := treeEnv w ok') (fun b hb => ⟨h b hb, rfl⟩) a v ht hr⟩
  | .ol sz cells n, v, S, ⟨h1, a, c, h2, h3, h4, h5⟩ => ⟨h1, a, c, h2, h3, h4, h5.imp id fun ⟨q1, b, S', vs, q2, q3, q4, q5, q6⟩ => ⟨q1, b, S', vs, q2, q3, q4, repXL_mono h cells vs S' true q5, q6⟩⟩
  | .op cells, v, S, ⟨b, S', vs, q2, q3, q4, q5, q6⟩ => ⟨b, S', vs, q2, q3, q4, repXL_mono h cells vs S' true q5, q6⟩
  | .agg cs, v, S, ⟨vs, e, hl⟩ => ⟨vs, e, repXL_mono h cs vs S true hl⟩
  | .tup cs, v, S, ⟨vs, e, hl⟩ => ⟨vs, e, repXL_mono h cs vs S false hl⟩
theorem repXL_mono {w : World} {ok ok' : Nat → Prop} (h : ∀ b, ok b → ok' b) : ∀ (cs : List XT) (vs : List Value) (S : List Nat) (one : Bool), RepXL (treeEnv w ok) one cs vs S → RepXL (treeEnv w ok') one cs vs S
  | [], vs, S, one, hl => hl
  | c :: cs, vs, S, one, ⟨v, r, S1, S2, q1, q2, q3, q4, q5⟩ => ⟨v, r, S1, S2, q1, q2, q3, repX_mono h c v S1 q4, repXL_mono h cs r S2 one q5⟩
end
/-- a result that is handed over may be shared instead -/
theorem DenX.frz {f : FuncId} {args args' : List XT} {t : XT} (h : DenX P f args args' t) : DenX P f args args' (.v t.freeze) := by
  refine ⟨h.1, fun w vs ok S hok hSlt hSn hglob hrep => ?_⟩
  refine (h.2 w vs ok S hok hSlt hSn hglob hrep).mono ?_
  rintro e w' ⟨v, S1, S2, rfl, h1, h2, hnd, hr, hb⟩
  have hmono : ∀ b, (b < w'.heap.size ∧ b ∉ S1 ++ S2 ∧ (ok b ∨ b ∈ S ∨ w.heap.size ≤ b)) → (b < w'.heap.size ∧ b ∉ S1 ++ [] ∧ (ok b ∨ b ∈ S ∨ w.heap.size ≤ b)) := fun b hb => ⟨hb.1, fun hm => hb.2.1 (by simp at hm ⊢; exact .inl hm), hb.2.2⟩
  obtain ⟨n1, n2, n3⟩ := List.nodup_append.1 hnd
  obtain ⟨p1, p2⟩ := freeze_rep (w' := w') hmono t v S2 (fun b hb2 => by
    have hbr := hr b (by simp [hb2])
    refine ⟨hbr.1, fun hm => ?_, .inr hbr.2⟩
    simp only [List.append_nil] at hm
    exact n3 b hm b hb2 rfl) h2
  refine ⟨v, S1, [], rfl, repXL_mono hmono _ _ _ _ h1, ⟨rfl, p2, p1⟩, by simpa using n1, fun b hb2 => hr b (by simp at hb2; simp [hb2]), hb⟩
/-- what is left of a slice stands where it stood; the slice itself is not used any more -/
theorem denx_delete {f : FuncId} (hf : ∃ fn, P.funcs[f]? = some fn ∧ fn.body.isSome = true ∧ (fn.name == "runtime.NumGoroutine") = false)
    (h : ∀ (blk off cap i j : Nat) (zs : List Int) (w : World), Holds (Value.int .i64) w blk off zs.toArray → zs.length ≤ cap → cap ≤ 9223372036854775807 → i ≤ j → j ≤ zs.length →
      Calls P f #[.slice (some ⟨blk, off, none⟩) zs.length cap, .int .i64 i, .int .i64 j] w fun e w' => e = .returned (.slice (some ⟨blk, off, none⟩) (zs.length - (j - i)) cap) ∧ ∃ q, w' = putRow (Value.int .i64) (Sort.ahead w q) blk off (zs.take i ++ zs.drop j ++ List.replicate (j - i) 0).toArray)
    (xs : List Int) (i j : Nat) (hij : i < j) (hj : j ≤ xs.length) : DenX P f [xints xs, xi i, xi j] [.v (.lst [] xs.length), xi i, xi j] (xints (xs.take i ++ xs.drop j)) := by
  refine ⟨hf, fun w vs ok S hok hSlt hSn hglob hrep => ?_⟩
  obtain ⟨v, r, S1, S2, rfl, rfl, _, hv, hr⟩ := hrep
  obtain ⟨v2, r2, T1, T2, rfl, rfl, _, hv2, hr2⟩ := hr
  obtain ⟨v3, r3, U1, U2, rfl, rfl, _, hv3, hr3, rfl⟩ := hr2
  obtain ⟨rfl, _, hw2⟩ := hv2
  obtain ⟨rfl, _, hw3⟩ := hv3
  have e2 : v2 = .int .i64 i := hw2.2
  have e3 : v3 = .int .i64 j := hw3.2
  subst hr3 e2 e3
  simp only [List.append_nil] at hok hSlt hSn ⊢
  rcases ol_ints hv with ⟨a, rfl, rfl, rfl⟩ | ⟨b, c, arr, T, rfl, rfl, q1, q2, q3, q4, q5, q6, q7⟩
  · simp at hj
    omega
  · have hb : b < w.heap.size := hSlt b (by simp)
    refine (h b 0 c i j xs w (holds_of q4 q7) q1 q2 (Nat.le_of_lt hij) hj).mono ?_
    rintro e w' ⟨rfl, n, hw'⟩
    have hgr : w' = grow (putRow (Value.int .i64) (Sort.ahead w n) b 0 (xs.take i ++ xs.drop j ++ List.replicate (j - i) 0).toArray) #[] := by rw [grow_empty]; exact hw'
    clear hw'
    subst hgr
    have hlen : (xs.take i ++ xs.drop j ++ List.replicate (j - i) 0).length = xs.length := by simp; omega
    have hlen2 : (xs.take i ++ xs.drop j).length = xs.length - (j - i) := by simp; omega
    have q4' : w.heap[b]? = some (.cells arr T (0, 0)) := q4
    have K := putOk q4' (xs.take i ++ xs.drop j ++ List.replicate (j - i) 0) (by omega) n #[]
    obtain ⟨arr', k1, k2⟩ := K.row
    have hbel := K.bel
    generalize hW : grow (putRow (Value.int .i64) (Sort.ahead w n) b 0 (xs.take i ++ xs.drop j ++ List.replicate (j - i) 0).toArray) #[] = W at K k1 hbel ⊢
    refine ⟨_, [], [b], rfl, ⟨_, _, [], [], rfl, rfl, fun h => by simp at h, ⟨rfl, rfl, some ⟨b, 0, none⟩, c, rfl, q1, q2, .inl rfl⟩, ⟨_, _, [], [], rfl, rfl, fun h => by simp at h, ⟨rfl, rfl, rfl, rfl⟩, ⟨_, _, [], [], rfl, rfl, fun h => by simp at h, ⟨rfl, rfl, rfl, rfl⟩, rfl, rfl⟩⟩⟩, ?_, by simp, fun k hk => ?_, ⟨hbel.os, hbel.tape, hbel.output, hbel.size, fun k hk hn => hbel.block k hk (by simpa using hn), fun k hk => hbel.room k (by simpa using hk)⟩⟩
    · have := ol_ints_of (E := treeEnv W fun k => k < W.heap.size ∧ k ∉ [] ++ [b] ∧ (ok k ∨ k ∈ [b] ∨ w.heap.size ≤ k)) (xs := xs.take i ++ xs.drop j) (c := c) (by omega) q2 q3 k1 (by omega) fun k hk => by
        have := K.cell k (by omega)
        rw [List.getElem_append_left (by omega)] at this
        exact this
      rw [hlen2] at this
      exact this
    · simp only [List.nil_append, List.mem_singleton] at hk
      subst hk
      exact ⟨Nat.lt_of_lt_of_le hb hbel.size, .inl (by simp)⟩
/-- the runs of equal elements are cut down to one; the slice itself is not used any more -/
theorem denx_compact {f : FuncId} {cmp : List Int → List Int} (hle : ∀ zs, (cmp zs).length ≤ zs.length) (hf : ∃ fn, P.funcs[f]? = some fn ∧ fn.body.isSome = true ∧ (fn.name == "runtime.NumGoroutine") = false)
    (h : ∀ (blk off cap : Nat) (zs : List Int) (w : World), Holds (Value.int .i64) w blk off zs.toArray → zs.length ≤ 9223372036854775807 → zs.length ≤ cap →
      Calls P f #[.slice (some ⟨blk, off, none⟩) zs.length cap] w fun e w' => e = .returned (.slice (some ⟨blk, off, none⟩) (cmp zs).length cap) ∧ ∃ q, w' = putRow (Value.int .i64) (Sort.ahead w q) blk off (cmp zs ++ List.replicate (zs.length - (cmp zs).length) 0).toArray)
    (h0 : ∀ (p : Option Addr) (cap : Nat) (w : World), Calls P f #[.slice p 0 cap] w fun e w' => e = .returned (.slice p 0 cap) ∧ w' = w)
    (xs : List Int) (hx : xs.length ≤ 9223372036854775807) : DenX P f [xints xs] [.v (.lst [] xs.length)] (xints (cmp xs)) := by
  refine ⟨hf, fun w vs ok S hok hSlt hSn hglob hrep => ?_⟩
  obtain ⟨v, r, S1, S2, rfl, rfl, _, hv, hr, rfl⟩ := hrep
  subst hr
  simp only [List.append_nil] at hok hSlt hSn ⊢
  rcases ol_ints hv with ⟨a, rfl, rfl, rfl⟩ | ⟨b, c, arr, T, rfl, rfl, q1, q2, q3, q4, q5, q6, q7⟩
  · refine (h0 a 0 w).mono ?_
    rintro e w' ⟨rfl, rfl⟩
    have e0 : cmp [] = [] := List.eq_nil_of_length_eq_zero (by have := hle []; simpa using this)
    rw [e0]
    exact ⟨_, [], [], rfl, ⟨_, _, [], [], rfl, rfl, fun h => by simp at h, ⟨rfl, rfl, a, 0, rfl, Nat.le_refl _, Nat.zero_le _, .inl rfl⟩, rfl, rfl⟩, ⟨by simp [mapC], a, 0, rfl, by simp, Nat.zero_le _, .inl ⟨rfl, rfl⟩⟩, by simp, by simp, BelowB.refl _ _ _⟩
  · have hb : b < w.heap.size := hSlt b (by simp)
    refine (h b 0 c xs w (holds_of q4 q7) hx q1).mono ?_
    rintro e w' ⟨rfl, n, hw'⟩
    have hl := hle xs
    have hgr : w' = grow (putRow (Value.int .i64) (Sort.ahead w n) b 0 (cmp xs ++ List.replicate (xs.length - (cmp xs).length) 0).toArray) #[] := by rw [grow_empty]; exact hw'
    clear hw'
    subst hgr
    have hlen : (cmp xs ++ List.replicate (xs.length - (cmp xs).length) 0).length = xs.length := by simp; omega
    have q4' : w.heap[b]? = some (.cells arr T (0, 0)) := q4
    have K := putOk q4' (cmp xs ++ List.replicate (xs.length - (cmp xs).length) 0) (by omega) n #[]
    obtain ⟨arr', k1, k2⟩ := K.row
    have hbel := K.bel
    generalize hW : grow (putRow (Value.int .i64) (Sort.ahead w n) b 0 (cmp xs ++ List.replicate (xs.length - (cmp xs).length) 0).toArray) #[] = W at K k1 hbel ⊢
    refine ⟨_, [], [b], rfl, ⟨_, _, [], [], rfl, rfl, fun h => by simp at h, ⟨rfl, rfl, some ⟨b, 0, none⟩, c, rfl, q1, q2, .inl rfl⟩, rfl, rfl⟩, ?_, by simp, fun k hk => ?_, ⟨hbel.os, hbel.tape, hbel.output, hbel.size, fun k hk hn => hbel.block k hk (by simpa using hn), fun k hk => hbel.room k (by simpa using hk)⟩⟩
    · exact ol_ints_of (E := treeEnv W fun k => k < W.heap.size ∧ k ∉ [] ++ [b] ∧ (ok k ∨ k ∈ [b] ∨ w.heap.size ≤ k)) (xs := cmp xs) (c := c) (by omega) q2 q3 k1 (by omega) fun k hk => by
        have := K.cell k (by omega)
        rw [List.getElem_append_left (by omega)] at this
        exact this
    · simp only [List.nil_append, List.mem_singleton] at hk
      subst hk
      exact ⟨Nat.lt_of_lt_of_le hb hbel.size, .inl (by simp)⟩
end
end Go.Own
