/-
  OWN WORK: problems of siting: copies, comparisons, what makes one valid.
-/
import Derived.Test.YtocbojbgadcpcaaLibA
import Derived.Test.YtocbojbgadcpcaaMkS
namespace Go.Proofs.Ytocbojbgadcpcaa
open Go Go.Own Go.Proofs
set_option maxHeartbeats 4000000
set_option maxRecDepth 20000
set_option linter.unusedSimpArgs false
abbrev sitV (ws : List Int) (cv : List (List Int)) (cs : List Int) : AVal := .agg [ints ws, intss cv, ints cs]
abbrev sitP (ws : List Int) (cv : List (List Int)) (cs : List Int) : AVal := .iptr [ints ws, intss cv, ints cs] 0
def sitT (ws : List Int) (cv : List (List Int)) (cs : List Int) : Int := (ws.length : Int) + tot (fun x => (x.length : Int)) cv + cs.length
theorem sitT_nonneg (ws : List Int) (cv : List (List Int)) (cs : List Int) : 0 ≤ sitT ws cv cs := by
  have := tot_nonneg cv
  unfold sitT
  omega
structure SitB (ws : List Int) (cv : List (List Int)) (cs : List Int) : Prop where
  ws : ws.length ≤ 1000000000000
  cv : RowsB cv
  cs : cs.length ≤ 1000000000000
theorem sitB_of {ws : List Int} {cv : List (List Int)} {cs : List Int} (h : sitT ws cv cs ≤ 1000000000000) : SitB ws cv cs := by
  unfold sitT at h
  have h0 := tot0_nonneg cv
  have h1 : tot (fun x => (x.length : Int)) cv = cv.length + tot0 cv := rfl
  exact ⟨by omega, rowsB_of (by omega), by omega⟩
noncomputable def sameV (ws : List Int) (cv : List (List Int)) (cs ws' : List Int) (cv' : List (List Int)) (cs' : List Int) : Bool := bp (ws = ws' ∧ cv = cv' ∧ cs = cs')
theorem same_yes {ws : List Int} {cv : List (List Int)} {cs ws' : List Int} {cv' : List (List Int)} {cs' : List Int} (h1 : ws = ws') (h2 : cv = cv') : sameV ws cv cs ws' cv' cs' = decide (cs = cs') := by
  unfold sameV
  rw [← bp_decide]
  exact bp_congr ⟨fun h => h.2.2, fun h => ⟨h1, h2, h⟩⟩
theorem same_no {ws : List Int} {cv : List (List Int)} {cs ws' : List Int} {cv' : List (List Int)} {cs' : List Int} (h : ¬ (ws = ws' ∧ cv = cv')) : sameV ws cv cs ws' cv' cs' = false := by
  unfold sameV
  rw [bp_false]
  exact fun hr => h ⟨hr.1, hr.2.1⟩
abbrev rowsX (cv : List (List Int)) : XT := .ol 1 (mapC xints cv) cv.length
abbrev sitX (ws : List Int) (cv : List (List Int)) (cs : List Int) : XT := .agg [xints ws, rowsX cv, xints cs]
end Go.Proofs.Ytocbojbgadcpcaa
