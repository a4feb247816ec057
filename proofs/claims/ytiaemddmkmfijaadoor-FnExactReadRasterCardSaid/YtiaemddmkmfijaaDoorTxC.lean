/-
  OWN WORK: texts: the library's functions on texts, as contracts.
-/
import Derived.Test.YtiaemddmkmfijaaDoorTxB
import Derived.Test.YtiaemddmkmfijaaDoorLat
import Derived.Test.YtiaemddmkmfijaaDoorDbB
namespace Go.Proofs.YtiaemddmkmfijaaDoor
open Go Go.Own Go.Proofs Go.RowKit
open Go.Sort (grow)
set_option maxHeartbeats 4000000
set_option maxRecDepth 20000
set_option linter.unusedSimpArgs false
set_option linter.unusedVariables false
theorem repS {E : Env} {l : List UInt8} {v : Value} (h : RepV E (AVal.t l) v) : v = .string (bt l) := h.2
theorem repI {E : Env} {n : Int} {v : Value} (h : RepV E (AVal.i n) v) : v = .int .i64 n := h.2
theorem mem_maxLen {w : World} {ok : Nat → Prop} (hg : Globs (treeEnv w ok)) : ∃ m, w.cell? ⟨0, 0, none⟩ = some (.int .i64 m) := glob_int hg (by simp [GL.shp])
theorem den_TrimPrefix (a p : List UInt8) : Den Tryd.prog 99 [.t a, .t p] (.t (Lib.trimPrefix a p)) := by
  refine ⟨⟨_, Tryd.func99, by kernel_rfl, by kernel_rfl⟩, rfl, fun w vs ok hok hg hr => ?_⟩
  obtain ⟨v, r, rfl, hv, v2, r2, rfl, hv2, rfl⟩ := hr
  obtain rfl := repS hv
  obtain rfl := repS hv2
  refine Calls.mono (Any.strings_TrimPrefix Tryd.trimp (bt a) (bt p) w) ?_
  rintro e w' ⟨rfl, rfl⟩
  exact ⟨_, rfl, ⟨rfl, rfl⟩, Below.refl _ _⟩
theorem den_Cut (a p : List UInt8) (h : a.length < 4294967281) : Den Tryd.prog 63 [.t a, .t p] (.tup [.t (Lib.cut a p).1, .t (Lib.cut a p).2.1, .b (Lib.cut a p).2.2]) := by
  refine ⟨⟨_, Tryd.func63, by kernel_rfl, by kernel_rfl⟩, rfl, fun w vs ok hok hg hr => ?_⟩
  obtain ⟨v, r, rfl, hv, v2, r2, rfl, hv2, rfl⟩ := hr
  obtain rfl := repS hv
  obtain rfl := repS hv2
  obtain ⟨m, hm⟩ := mem_maxLen hg
  refine Calls.mono (Any.strings_Cut { Tryd.cut with } (bt a) (bt p) m w (by rw [bt_size]; exact h) hm) ?_
  rintro e w' ⟨rfl, n, rfl⟩
  exact ⟨_, rfl, ⟨_, rfl, _, _, rfl, ⟨rfl, rfl⟩, _, _, rfl, ⟨rfl, rfl⟩, _, _, rfl, ⟨rfl, rfl⟩, rfl⟩, ⟨rfl, rfl, rfl, Nat.le_refl _, fun _ _ => rfl⟩⟩
theorem den_ParseInt (n : Int) (h1 : -1000000000000000000 < n) (h2 : n < 1000000000000000000) : Den Tryd.prog 98 [.t (Lib.itoa n), .i 10, .i 64] (.tup [.i n, .flat .nilIface]) := by
  refine ⟨⟨_, Tryd.func98, by kernel_rfl, by kernel_rfl⟩, rfl, fun w vs ok hok hg hr => ?_⟩
  obtain ⟨v, r, rfl, hv, v2, r2, rfl, hv2, v3, r3, rfl, hv3, rfl⟩ := hr
  obtain rfl := repS hv
  obtain rfl := repI hv2
  obtain rfl := repI hv3
  have hl := (itoa_len (n := n) (k := 18) (by omega) (by omega)).1
  refine Calls.mono (Any.strconv_ParseInt_10_at64_ok Tryd.parse (bt (Lib.itoa n)) (by rw [bt_size]; omega) n (parse_dec (by omega) (by omega)) w) ?_
  rintro e w' ⟨rfl, hw⟩
  refine ⟨_, rfl, ⟨_, rfl, _, _, rfl, ⟨rfl, rfl⟩, _, _, rfl, ⟨rfl, rfl⟩, rfl⟩, ?_⟩
  rcases hw with rfl | ⟨t, rfl⟩
  · exact Below.refl _ _
  · exact ⟨rfl, rfl, rfl, by rw [Lib.bytesWorld_size]; omega, fun j hj => Lib.bytesWorld_at_old w _ t j hj⟩
theorem repC_strs {E : Env} {b : Nat} : ∀ {L : List (List UInt8)} {off : Nat}, (∀ j (h : j < L.length), E.w.cell? ⟨b, off + j, none⟩ = some (.string (bt L[j]))) → RepC E (mapC AVal.t L) b off
  | [], _, _ => trivial
  | x :: L, off, h => by
    have h0 := h 0 (by simp)
    refine ⟨⟨.string (bt x), h0, rfl, ⟨rfl, rfl⟩⟩, repC_strs fun j hj => ?_⟩
    have := h (j + 1) (by simpa using hj)
    rw [show off + 1 + j = off + (j + 1) by omega]
    simpa using this
theorem strs_repC {E : Env} {b : Nat} : ∀ {L : List (List UInt8)} {off : Nat}, RepC E (mapC AVal.t L) b off → ∀ j (h : j < L.length), E.w.cell? ⟨b, off + j, none⟩ = some (.string (bt L[j]))
  | x :: L, off, ⟨⟨v, h0, _, hv⟩, hr⟩, 0, _ => by
    rw [repS hv] at h0
    exact h0
  | x :: L, off, ⟨_, hr⟩, j + 1, hj => by
    have := strs_repC (L := L) hr j (by simpa using hj)
    rw [show off + 1 + j = off + (j + 1) by omega] at this
    simpa using this
theorem den_SplitN (a : List UInt8) (c : UInt8) (n : Nat) (h : a.length < 4294967281) (hn : 1 ≤ n) (hn2 : n ≤ 1000000) : Den Tryd.prog 60 [.t a, .t [c], .i n] (strs (Lib.splitK [c] 0 (min n (a.length + 1) - 1) a)) := by
  refine ⟨⟨_, Tryd.func60, by kernel_rfl, by kernel_rfl⟩, tree_strs _, fun w vs ok hok hg hr => ?_⟩
  obtain ⟨v, r, rfl, hv, v2, r2, rfl, hv2, v3, r3, rfl, hv3, rfl⟩ := hr
  obtain rfl := repS hv
  obtain rfl := repS hv2
  obtain rfl := repI hv3
  obtain ⟨m, hm⟩ := mem_maxLen hg
  refine Calls.mono (Any.strings_SplitN { Tryd.splitn with } Tryd.splitn.i9 (bt a) (bt [c]) n m w (by rw [bt_size]; exact h) hm (by rw [bt_size]; exact Nat.le_refl 1) hn (by omega)) ?_
  rintro e w' ⟨rfl, rfl⟩
  have hsz : (bt a).size = a.length := bt_size a
  have hlen := Lib.splitB_length_le (bt [c]) 0 (min n (a.length + 1) - 1) (bt a)
  rw [hsz]
  rw [splitB_bt] at hlen ⊢
  generalize Lib.splitK [c] 0 (min n (a.length + 1) - 1) a = P at hlen ⊢
  rw [List.length_map] at hlen
  refine ⟨_, rfl, ⟨_, _, by rw [List.length_map], by omega, by show _ ≤ (9223372036854775807 : Nat); omega, .inr ⟨_, _, rfl, .inr ⟨Nat.le_refl _, by show _ < (w.heap.push _).size; rw [Array.size_push]; exact Nat.lt_succ_self _⟩, repC_strs fun j hj => ?_⟩⟩, ?_⟩
  · show World.cell? _ _ = _
    unfold World.cell?
    simp only [treeEnv]
    rw [show ∀ o, (w.alloc o).heap = w.heap.push o from fun _ => rfl, Array.getElem?_push_size]
    simp only [Lib.cellsOf, Nat.zero_add, Option.isSome_none, Bool.false_eq_true, if_false]
    rw [List.getElem?_toArray, List.getElem?_append_left (by simpa using hj)]
    simp [hj]
  · exact (Below.refl _ w).alloc (Nat.le_refl _) _
theorem join_extra : Builder.Extra Tryd.prog Tryd.join_ren where
  sizeBuilder := by kernel_rfl
  liesBuilder := by kernel_rfl
  t5 := by kernel_rfl
  a5 := Tryd.isAgg5
  z5 := Tryd.sizeOf5
  v5 := Tryd.zeroValue5
  infoByte := by kernel_rfl
  cellsByte := by kernel_rfl
  sizeByte := by kernel_rfl
  neB5 := by decide
theorem den_Join (L : List (List UInt8)) (c : UInt8) (hL : L ≠ []) (h1 : L.length ≤ 1000000) (h2 : (Lib.join L [c]).length ≤ 140737488355328) : Den Tryd.prog 84 [strs L, .t [c]] (.t (Lib.join L [c])) := by
  refine ⟨⟨_, Tryd.func84, by kernel_rfl, by kernel_rfl⟩, rfl, fun w vs ok hok hg hr => ?_⟩
  obtain ⟨v, r, rfl, hv, v2, r2, rfl, hv2, rfl⟩ := hr
  obtain rfl := repS hv2
  obtain ⟨ad, cp, rfl, hc1, hc2, hcells⟩ := hv
  rcases hcells with hcells | ⟨b, off, rfl, hb, hcells⟩
  · cases L with
    | nil => exact absurd rfl hL
    | cons x r => simp [mapC] at hcells
  have hc := strs_repC hcells
  have e1 : (L.map bt).map (fun x => x.data.toList) = L := by
    rw [List.map_map]
    have : (fun x : ByteArray => x.data.toList) ∘ bt = id := by
      funext x
      exact bt_data x
    rw [this, List.map_id]
  have hlen : L.length = (L.map bt).length := by simp
  have k := Any.strings_Join Tryd.join join_extra b off cp (L.map bt) (bt [c]) w (fun j x hx => by
    rw [List.getElem?_map] at hx
    cases hj : L[j]? with
    | none => rw [hj] at hx; cases hx
    | some y =>
      rw [hj] at hx
      simp only [Option.map_some, Option.some.injEq] at hx
      obtain ⟨hl, hy⟩ := List.getElem?_eq_some_iff.1 hj
      have := hc j hl
      rw [hy, hx] at this
      exact this) (hok _ hb) (by simp; omega) (by rw [← hlen]; exact hc1) (by rw [e1]; exact h2)
  rw [e1, ← hlen] at k
  refine Calls.mono k ?_
  rintro e w' ⟨rfl, hw⟩
  exact ⟨_, rfl, ⟨rfl, rfl⟩, hw⟩
end Go.Proofs.YtiaemddmkmfijaaDoor
