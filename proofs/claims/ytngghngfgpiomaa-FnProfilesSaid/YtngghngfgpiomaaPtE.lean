/-
  OWN WORK: comparing points.
-/
import Derived.Test.YtngghngfgpiomaaSrc
namespace Go.Proofs.Ytngghngfgpiomaa
open Go Go.Own Go.Proofs
set_option maxHeartbeats 4000000
set_option maxRecDepth 20000
theorem semv_bind (P : Program) {α β : Type} (x : Sem α) (f : α → Sem β) : semv P (x >>= f) = (semv P x).bind fun a => semv P (f a) := by
  show semv P (Sem.bind x f) = _
  induction x with
  | pure a => rfl
  | program k ih => exact ih P
  | _ => rfl
theorem sem_ptEq (a b c d : Int) : semv Try.prog (Op.equal 28 (.agg #[.int .i64 a, .int .i64 b]) (.agg #[.int .i64 c, .int .i64 d])) = some (a == c && b == d) := by
  have hi : ∀ a c : Int, semv Try.prog (Op.equalIn 9999 2 (.int .i64 a) (.int .i64 c)) = some (a == c) := fun a c => rfl
  have p0 : ∀ v w : Int, semv Try.prog (part 2 #[.int .i64 v, .int .i64 w] 0) = some (.int .i64 v) := fun v w => rfl
  have p1 : ∀ v w : Int, semv Try.prog (part 2 #[.int .i64 v, .int .i64 w] 1) = some (.int .i64 w) := fun v w => rfl
  show semv _ (Op.equalIn (9999 + 1) _ _ _) = _
  obtain ⟨fx, fy, hu, hs, ⟨n1, t1, o1⟩, n2, t2, o2⟩ : ∃ fx fy : Field, semv Try.prog (underlying 28) = some (.struct #[fx, fy]) ∧ Try.prog.stoodInHeld 28 = false ∧ (fx.name ≠ "_" ∧ fx.type = 2 ∧ fx.offset = 0) ∧ fy.name ≠ "_" ∧ fy.type = 2 ∧ fy.offset = 1 := ⟨_, _, rfl, by kernel_rfl, ⟨by decide, rfl, rfl⟩, by decide, rfl, rfl⟩
  have hp : semv Try.prog program = some Try.prog := rfl
  unfold Op.equalIn
  simp only [semv_bind, hu, hp, Option.bind_some, hs]
  rw [if_neg (by decide)]
  have sp : ∀ {α : Type} (a : α), semv Try.prog (pure a) = some a := fun _ => rfl
  cases h1 : a == c <;> cases h2 : b == d <;>
    simp [semv_bind, ← Array.forIn_toList, List.forIn_cons, List.forIn_nil, n1, n2, t1, t2, o1, o2, p0, p1, hi, sp, h1, h2]
theorem sem_ptEql (x y : Operand) (a b c d : Int) : semS Try.prog (do eqGuard .eql 28 x y (.agg #[.int .i64 a, .int .i64 b]) (.agg #[.int .i64 c, .int .i64 d]); binOp .eql 28 (.agg #[.int .i64 a, .int .i64 b]) (.agg #[.int .i64 c, .int .i64 d])) = some (.flat (.bool (a == c && b == d))) := by
  have hg : semv Try.prog (eqGuard .eql 28 x y (.agg #[.int .i64 a, .int .i64 b]) (.agg #[.int .i64 c, .int .i64 d])) = some () := by kernel_rfl
  have hb : binOp .eql 28 (.agg #[.int .i64 a, .int .i64 b]) (.agg #[.int .i64 c, .int .i64 d]) = (do pure (.bool (← Op.equal 28 (.agg #[.int .i64 a, .int .i64 b]) (.agg #[.int .i64 c, .int .i64 d])))) := rfl
  unfold semS
  rw [semv_bind, hg, Option.bind_some, hb, semv_bind, sem_ptEq]
  rfl
theorem sem_ptNeq (x y : Operand) (a b c d : Int) : semS Try.prog (do eqGuard .neq 28 x y (.agg #[.int .i64 a, .int .i64 b]) (.agg #[.int .i64 c, .int .i64 d]); binOp .neq 28 (.agg #[.int .i64 a, .int .i64 b]) (.agg #[.int .i64 c, .int .i64 d])) = some (.flat (.bool (!(a == c && b == d)))) := by
  have hg : semv Try.prog (eqGuard .neq 28 x y (.agg #[.int .i64 a, .int .i64 b]) (.agg #[.int .i64 c, .int .i64 d])) = some () := by kernel_rfl
  have hb : binOp .neq 28 (.agg #[.int .i64 a, .int .i64 b]) (.agg #[.int .i64 c, .int .i64 d]) = (do pure (.bool (!(← Op.equal 28 (.agg #[.int .i64 a, .int .i64 b]) (.agg #[.int .i64 c, .int .i64 d]))))) := rfl
  unfold semS
  rw [semv_bind, hg, Option.bind_some, hb, semv_bind, sem_ptEq]
  rfl
end Go.Proofs.Ytngghngfgpiomaa
