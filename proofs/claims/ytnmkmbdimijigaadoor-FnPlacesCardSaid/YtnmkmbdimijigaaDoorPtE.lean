/-
  OWN WORK: comparing points.
-/
import Derived.Test.YtnmkmbdimijigaaDoorSrc
namespace Go.Proofs.YtnmkmbdimijigaaDoor
open Go Go.Own Go.Proofs
set_option maxHeartbeats 4000000
set_option maxRecDepth 20000
theorem semv_bind (P : Program) {α β : Type} (x : Sem α) (f : α → Sem β) : semv P (x >>= f) = (semv P x).bind fun a => semv P (f a) := by
  show semv P (Sem.bind x f) = _
  induction x with
  | pure a => rfl
  | program k ih => exact ih P
  | _ => rfl
theorem sem_ptEq (a b c d : Int) : semv Tryd.prog (Op.equal 42 (.agg #[.int .i64 a, .int .i64 b]) (.agg #[.int .i64 c, .int .i64 d])) = some (a == c && b == d) := by
  have hi : ∀ a c : Int, semv Tryd.prog (Op.equalIn 9999 2 (.int .i64 a) (.int .i64 c)) = some (a == c) := fun a c => rfl
  have p0 : ∀ v w : Int, semv Tryd.prog (part 2 #[.int .i64 v, .int .i64 w] 0) = some (.int .i64 v) := fun v w => rfl
  have p1 : ∀ v w : Int, semv Tryd.prog (part 2 #[.int .i64 v, .int .i64 w] 1) = some (.int .i64 w) := fun v w => rfl
  show semv _ (Op.equalIn (9999 + 1) _ _ _) = _
  obtain ⟨fx, fy, hu, hs, ⟨n1, t1, o1⟩, n2, t2, o2⟩ : ∃ fx fy : Field, semv Tryd.prog (underlying 42) = some (.struct #[fx, fy]) ∧ Tryd.prog.stoodInHeld 42 = false ∧ (fx.name ≠ "_" ∧ fx.type = 2 ∧ fx.offset = 0) ∧ fy.name ≠ "_" ∧ fy.type = 2 ∧ fy.offset = 1 := ⟨_, _, rfl, by kernel_rfl, ⟨by decide, rfl, rfl⟩, by decide, rfl, rfl⟩
  have hp : semv Tryd.prog program = some Tryd.prog := rfl
  unfold Op.equalIn
  simp only [semv_bind, hu, hp, Option.bind_some, hs]
  rw [if_neg (by decide)]
  have sp : ∀ {α : Type} (a : α), semv Tryd.prog (pure a) = some a := fun _ => rfl
  cases h1 : a == c <;> cases h2 : b == d <;>
    simp [semv_bind, ← Array.forIn_toList, List.forIn_cons, List.forIn_nil, n1, n2, t1, t2, o1, o2, p0, p1, hi, sp, h1, h2]
theorem sem_ptEql (x y : Operand) (a b c d : Int) : semS Tryd.prog (do eqGuard .eql 42 x y (.agg #[.int .i64 a, .int .i64 b]) (.agg #[.int .i64 c, .int .i64 d]); binOp .eql 42 (.agg #[.int .i64 a, .int .i64 b]) (.agg #[.int .i64 c, .int .i64 d])) = some (.flat (.bool (a == c && b == d))) := by
  have hg : semv Tryd.prog (eqGuard .eql 42 x y (.agg #[.int .i64 a, .int .i64 b]) (.agg #[.int .i64 c, .int .i64 d])) = some () := by kernel_rfl
  have hb : binOp .eql 42 (.agg #[.int .i64 a, .int .i64 b]) (.agg #[.int .i64 c, .int .i64 d]) = (do pure (.bool (← Op.equal 42 (.agg #[.int .i64 a, .int .i64 b]) (.agg #[.int .i64 c, .int .i64 d])))) := rfl
  unfold semS
  rw [semv_bind, hg, Option.bind_some, hb, semv_bind, sem_ptEq]
  rfl
theorem sem_ptNeq (x y : Operand) (a b c d : Int) : semS Tryd.prog (do eqGuard .neq 42 x y (.agg #[.int .i64 a, .int .i64 b]) (.agg #[.int .i64 c, .int .i64 d]); binOp .neq 42 (.agg #[.int .i64 a, .int .i64 b]) (.agg #[.int .i64 c, .int .i64 d])) = some (.flat (.bool (!(a == c && b == d)))) := by
  have hg : semv Tryd.prog (eqGuard .neq 42 x y (.agg #[.int .i64 a, .int .i64 b]) (.agg #[.int .i64 c, .int .i64 d])) = some () := by kernel_rfl
  have hb : binOp .neq 42 (.agg #[.int .i64 a, .int .i64 b]) (.agg #[.int .i64 c, .int .i64 d]) = (do pure (.bool (!(← Op.equal 42 (.agg #[.int .i64 a, .int .i64 b]) (.agg #[.int .i64 c, .int .i64 d]))))) := rfl
  unfold semS
  rw [semv_bind, hg, Option.bind_some, hb, semv_bind, sem_ptEq]
  rfl
end Go.Proofs.YtnmkmbdimijigaaDoor
