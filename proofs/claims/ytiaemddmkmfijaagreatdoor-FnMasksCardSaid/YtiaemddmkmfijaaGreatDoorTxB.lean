/-
  OWN WORK: texts: operators.
-/
import Derived.Test.YtiaemddmkmfijaaGreatDoorTxA
namespace Go.Proofs.YtiaemddmkmfijaaGreatDoor
open Go Go.Own Go.Proofs
set_option maxHeartbeats 4000000
set_option maxRecDepth 20000
set_option linter.unusedSimpArgs false
set_option linter.unusedVariables false
abbrev _root_.Go.Own.AVal.t (l : List UInt8) : AVal := .flat (.string (bt l))
theorem toList_bt (l : List UInt8) : (bt l).toList = l := by rw [Lib.toList_data, bt_data]
theorem beq_dec {α : Type} [BEq α] [LawfulBEq α] [DecidableEq α] (a b : α) : (a == b) = decide (a = b) := by rw [Bool.eq_iff_iff]; simp
section
variable (P : Program) (t : TypeId) (x y : Operand) (a b : List UInt8)
theorem sem_addT (h : a.length + b.length ≤ 4611686018427387904) : semS P (do eqGuard .add t x y (.string (bt a)) (.string (bt b)); binOp .add t (.string (bt a)) (.string (bt b))) = some (.flat (.string (bt (a ++ b)))) := by
  have e : binOp .add t (.string (bt a)) (.string (bt b)) = (pure (.string (bt (a ++ b))) : Sem Value) := by
    show Op.stringOp .add (bt a) (bt b) = _
    unfold Op.stringOp
    simp only
    have hm : IntKind.i64.max = 9223372036854775807 := by decide
    rw [if_neg (by rw [bt_size, bt_size, hm]; omega), bt_app]
  rw [e]
  rfl
theorem sem_eqlT : semS P (do eqGuard .eql t x y (.string (bt a)) (.string (bt b)); binOp .eql t (.string (bt a)) (.string (bt b))) = some (.flat (.bool (decide (a = b)))) := by
  have e : binOp .eql t (.string (bt a)) (.string (bt b)) = (pure (.bool (decide (a = b))) : Sem Value) := by
    show Op.stringOp .eql (bt a) (bt b) = _
    unfold Op.stringOp
    simp only [toList_bt, beq_dec]
  rw [e]
  rfl
theorem sem_neqT : semS P (do eqGuard .neq t x y (.string (bt a)) (.string (bt b)); binOp .neq t (.string (bt a)) (.string (bt b))) = some (.flat (.bool (!decide (a = b)))) := by
  have e : binOp .neq t (.string (bt a)) (.string (bt b)) = (pure (.bool (!decide (a = b))) : Sem Value) := by
    show Op.stringOp .neq (bt a) (bt b) = _
    unfold Op.stringOp
    simp only [toList_bt, beq_dec]
  rw [e]
  rfl
theorem semv_under {t : TypeId} {d : TypeDesc} (h : P.underlying t = some d) : semv P (underlying t) = some d := by
  simp only [underlying, semv_bind, program, semv, h]
  rfl
theorem semv_bound (k : IntKind) (i : Int) (n : Nat) (c : BoundsCode) (h0 : 0 ≤ i) (h1 : i ≤ n) : semv P (Instr.sliceBound (.int k i) n c) = some i.toNat := by
  have e : Instr.sliceBound (.int k i) n c = (pure i.toNat : Sem Nat) := by
    show (if 0 ≤ i ∧ i ≤ n then pure i.toNat else _) = _
    rw [if_pos ⟨h0, h1⟩]
  rw [e]
  rfl
theorem sem_sliceLo {t : TypeId} (h : P.underlying t = some .string) (k : IntKind) (i : Int) (h0 : 0 ≤ i) (h1 : i ≤ (a.length : Int)) : semS P (Instr.slice t (.string (bt a)) (some (.int k i)) none none) = some (.flat (.string (bt (a.drop i.toNat)))) := by
  have hs : (bt a).size = a.length := bt_size a
  have e : semv P (Instr.slice t (.string (bt a)) (some (.int k i)) none none) = some (.string (bt (a.drop i.toNat))) := by
    unfold Instr.slice
    rw [semv_bind, semv_under P h]
    simp only [Option.isSome_none, Bool.false_eq_true, if_false]
    have q : semv P (Instr.sliceBounds false (bt a).size (bt a).size (some (.int k i)) none none) = some (i.toNat, (bt a).size, (bt a).size) := by
      unfold Instr.sliceBounds
      simp only [semv_bind, semv, pure, Option.isSome_none, Bool.false_eq_true, if_false]
      rw [semv_bound P k i _ _ h0 (by rw [hs]; exact h1)]
    rw [semv_bind]
    simp only [q, semv, pure]
    rw [bt_extract, hs, List.take_of_length_le (by simp)]
  unfold semS
  rw [e]
  rfl
end
end Go.Proofs.YtiaemddmkmfijaaGreatDoor
