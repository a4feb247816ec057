/-
  OWN WORK: texts: the library's functions on texts, as contracts.
-/
import Derived.Test.YtnklfhjpigameaaDoorTxB
import Derived.Test.YtnklfhjpigameaaDoorLat
import Derived.Test.YtnklfhjpigameaaDoorDbB
namespace Go.Proofs.YtnklfhjpigameaaDoor
open Go Go.Own Go.Proofs Go.RowKit
open Go.Sort (grow)
set_option maxHeartbeats 4000000
set_option maxRecDepth 20000
set_option linter.unusedSimpArgs false
set_option linter.unusedVariables false
theorem repS {E : Env} {l : List UInt8} {v : Value} (h : RepV E (AVal.t l) v) : v = .string (bt l) := h.2
theorem repI {E : Env} {n : Int} {v : Value} (h : RepV E (AVal.i n) v) : v = .int .i64 n := h.2
theorem mem_maxLen {w : World} {ok : Nat → Prop} (hg : Globs (treeEnv w ok)) : ∃ m, w.cell? ⟨1, 0, none⟩ = some (.int .i64 m) := glob_int hg (by simp [GL.shp])
theorem repC_strs {E : Env} {b : Nat} : ∀ {L : List (List UInt8)} {off : Nat}, (∀ j (h : j < L.length), E.w.cell? ⟨b, off + j, none⟩ = some (.string (bt L[j]))) → RepC E (mapC AVal.t L) b off
  | [], _, _ => trivial
  | x :: L, off, h => by
    have h0 := h 0 (by simp)
    refine ⟨⟨.string (bt x), h0, rfl, ⟨rfl, rfl⟩⟩, repC_strs fun j hj => ?_⟩
    have := h (j + 1) (by simpa using hj)
    rw [show off + 1 + j = off + (j + 1) by omega]
    simpa using this
theorem strs_repC {E : Env} {b : Nat} : ∀ {L : List (List UInt8)} {off : Nat}, RepC E (mapC AVal.t L) b off → ∀ j (h : j < L.length), E.w.cell? ⟨b, off + j, none⟩ = some (.string (bt L[j]))
  | x :: L, off, ⟨⟨v, h0, _, hv⟩, hr⟩, 0, _ => by
    rw [repS hv] at h0
    exact h0
  | x :: L, off, ⟨_, hr⟩, j + 1, hj => by
    have := strs_repC (L := L) hr j (by simpa using hj)
    rw [show off + 1 + j = off + (j + 1) by omega] at this
    simpa using this
theorem join_extra : Builder.Extra Tryd.prog Tryd.join_ren where
  sizeBuilder := by kernel_rfl
  liesBuilder := by kernel_rfl
  t5 := by kernel_rfl
  a5 := Tryd.isAgg5
  z5 := Tryd.sizeOf5
  v5 := Tryd.zeroValue5
  infoByte := by kernel_rfl
  cellsByte := by kernel_rfl
  sizeByte := by kernel_rfl
  neB5 := by decide
theorem den_Join (L : List (List UInt8)) (c : UInt8) (hL : L ≠ []) (h1 : L.length ≤ 1000000) (h2 : (Lib.join L [c]).length ≤ 140737488355328) : Den Tryd.prog 26 [strs L, .t [c]] (.t (Lib.join L [c])) := by
  refine ⟨⟨_, Tryd.func26, by kernel_rfl, by kernel_rfl⟩, rfl, fun w vs ok hok hg hr => ?_⟩
  obtain ⟨v, r, rfl, hv, v2, r2, rfl, hv2, rfl⟩ := hr
  obtain rfl := repS hv2
  obtain ⟨ad, cp, rfl, hc1, hc2, hcells⟩ := hv
  rcases hcells with hcells | ⟨b, off, rfl, hb, hcells⟩
  · cases L with
    | nil => exact absurd rfl hL
    | cons x r => simp [mapC] at hcells
  have hc := strs_repC hcells
  have e1 : (L.map bt).map (fun x => x.data.toList) = L := by
    rw [List.map_map]
    have : (fun x : ByteArray => x.data.toList) ∘ bt = id := by
      funext x
      exact bt_data x
    rw [this, List.map_id]
  have hlen : L.length = (L.map bt).length := by simp
  have k := Any.strings_Join Tryd.join join_extra b off cp (L.map bt) (bt [c]) w (fun j x hx => by
    rw [List.getElem?_map] at hx
    cases hj : L[j]? with
    | none => rw [hj] at hx; cases hx
    | some y =>
      rw [hj] at hx
      simp only [Option.map_some, Option.some.injEq] at hx
      obtain ⟨hl, hy⟩ := List.getElem?_eq_some_iff.1 hj
      have := hc j hl
      rw [hy, hx] at this
      exact this) (hok _ hb) (by simp; omega) (by rw [← hlen]; exact hc1) (by rw [e1]; exact h2)
  rw [e1, ← hlen] at k
  refine Calls.mono k ?_
  rintro e w' ⟨rfl, hw⟩
  exact ⟨_, rfl, ⟨rfl, rfl⟩, hw⟩
end Go.Proofs.YtnklfhjpigameaaDoor
