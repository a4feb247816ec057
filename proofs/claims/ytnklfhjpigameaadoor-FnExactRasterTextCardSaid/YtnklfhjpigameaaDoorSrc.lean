/-
  OWN WORK: the source of choices that the laws draw from: its state and what each of its draws yields.
-/
import Derived.Test.YtnklfhjpigameaaDoorLibA
namespace Go.Proofs.YtnklfhjpigameaaDoor
open Go Go.Own Go.Proofs
set_option maxHeartbeats 4000000
set_option maxRecDepth 20000
set_option linter.unusedSimpArgs false
theorem sem_conv (P : Program) {s d : TypeId} {ks kd : IntKind} (n : Int) (hs : P.underlying s = some (.int ks)) (hd : P.underlying d = some (.int kd)) : semS P (convert s d (.int ks n)) = some (.flat (.int kd (kd.wrap n))) := by
  have u1 : semv P (underlying s) = some (.int ks) := by
    simp only [underlying, semv_bind, program, semv, hs]
    rfl
  have u2 : semv P (underlying d) = some (.int kd) := by
    simp only [underlying, semv_bind, program, semv, hd]
    rfl
  unfold convert
  simp only [semS, semv_bind, u1, u2]
  rfl
/-- the lowest eight bits -/
def lo8 (a : Int) : Int := IntKind.u64.wrap ((BitVec.ofInt 64 a &&& BitVec.ofInt 64 255).toNat : Int)
theorem lo8_in (a : Int) : 0 ≤ lo8 a ∧ lo8 a ≤ 255 := by
  have h : (BitVec.ofInt 64 a &&& BitVec.ofInt 64 255).toNat ≤ 255 := by
    rw [BitVec.toNat_and]
    exact Nat.and_le_right
  have e : lo8 a = ((BitVec.ofInt 64 a &&& BitVec.ofInt 64 255).toNat : Int) := by
    unfold lo8
    generalize (BitVec.ofInt 64 a &&& BitVec.ofInt 64 255).toNat = m at h ⊢
    show (m : Int) % (2 ^ 64 : Int) = m
    omega
  omega
theorem sem_shr40 (P : Program) (t : TypeId) (x y : Operand) (a : Int) : semS P (do eqGuard .shr t x y (.int .u64 a) (.int .u64 40); binOp .shr t (.int .u64 a) (.int .u64 40)) = some (.flat (.int .u64 (a.fdiv (2 ^ 40)))) := rfl
theorem sem_and255 (P : Program) (t : TypeId) (x y : Operand) (a : Int) : semS P (do eqGuard .and t x y (.int .u64 a) (.int .u64 255); binOp .and t (.int .u64 a) (.int .u64 255)) = some (.flat (.int .u64 (lo8 a))) := rfl
theorem sem_c1 (n : Int) : semS Tryd.prog (convert 5 3 (.int .u8 n)) = some (.flat (.int .i64 (IntKind.i64.wrap n))) := sem_conv _ n (by kernel_rfl) (by kernel_rfl)
theorem sem_c2 (n : Int) : semS Tryd.prog (convert 3 60 (.int .i64 n)) = some (.flat (.int .u64 (IntKind.u64.wrap n))) := sem_conv _ n (by kernel_rfl) (by kernel_rfl)
theorem sem_c3 (n : Int) : semS Tryd.prog (convert 60 2 (.int .u64 n)) = some (.flat (.int .i64 (IntKind.i64.wrap n))) := sem_conv _ n (by kernel_rfl) (by kernel_rfl)
theorem sem_c4 (n : Int) : semS Tryd.prog (convert 3 2 (.int .i64 n)) = some (.flat (.int .i64 (IntKind.i64.wrap n))) := sem_conv _ n (by kernel_rfl) (by kernel_rfl)
/-- bytes that are bytes, and few enough -/
structure Byt (bs : List Int) : Prop where
  lo : ∀ x ∈ bs, 0 ≤ x ∧ x ≤ 255
  len : bs.length ≤ 1048576
abbrev SrcS := Nat × Int
abbrev srcX (bs : List Int) (s : SrcS) : XT := .op [.v (bytesV bs), xi s.1, .v (AVal.u64 s.2)]
def sByte (bs : List Int) (s : SrcS) : Int := bs.getD s.1 0
def nx (bs : List Int) (s : SrcS) : SrcS := (s.1 + 1, IntKind.u64.wrap (IntKind.u64.wrap (IntKind.u64.wrap (s.2 * 6364136223846793005) + IntKind.u64.wrap (sByte bs s)) + 1442695040888963407))
def nv (bs : List Int) (s : SrcS) : Int := if s.1 < bs.length then sByte bs s else lo8 ((nx bs s).2.fdiv (2 ^ 40))
section
variable {bs : List Int} (hb : Byt bs) {s : SrcS}
include hb
theorem sByte_in (s : SrcS) : 0 ≤ sByte bs s ∧ sByte bs s ≤ 255 := by
  unfold sByte
  by_cases h : s.1 < bs.length
  · have := hb.lo bs[s.1] (List.getElem_mem h)
    simpa [List.getD, h] using this
  · simp [List.getD, h]
theorem nv_in (s : SrcS) : 0 ≤ nv bs s ∧ nv bs s ≤ 255 := by
  unfold nv
  split
  · exact sByte_in hb s
  · exact lo8_in _
end
theorem nx_fst (bs : List Int) (s : SrcS) : (nx bs s).1 = s.1 + 1 := rfl
def pkV (bs : List Int) (n : Int) (s : SrcS) : Int := if n ≤ 1 then 0 else if 200 < n then (nv bs s * 256 + nv bs (nx bs s)).tmod n else (nv bs s).tmod n
def pkS (bs : List Int) (n : Int) (s : SrcS) : SrcS := if n ≤ 1 then s else if 200 < n then nx bs (nx bs s) else nx bs s
theorem pkS_le (bs : List Int) (n : Int) (s : SrcS) : (pkS bs n s).1 ≤ s.1 + 2 := by
  unfold pkS
  split
  · omega
  · split <;> simp only [nx_fst] <;> omega
theorem pkV_in {bs : List Int} (hb : Byt bs) (n : Int) (s : SrcS) : 0 ≤ pkV bs n s ∧ (1 ≤ n → pkV bs n s < n) := by
  have h1 := nv_in hb s
  have h2 := nv_in hb (nx bs s)
  unfold pkV
  split
  · omega
  · split
    · exact ⟨Int.tmod_nonneg _ (by omega), fun h => Int.tmod_lt_of_pos _ (by omega)⟩
    · exact ⟨Int.tmod_nonneg _ (by omega), fun h => Int.tmod_lt_of_pos _ (by omega)⟩
def amV (bs : List Int) (L : List Int) (s : SrcS) : Int := L.getD (pkV bs L.length s).toNat 0
theorem amV_mem {bs : List Int} (hb : Byt bs) {L : List Int} (hL : L ≠ []) (s : SrcS) : amV bs L s ∈ L := by
  have h := pkV_in hb L.length s
  have h0 : 0 < L.length := List.length_pos_iff.2 hL
  have h1 : (pkV bs L.length s).toNat < L.length := by have := h.2 (by omega); omega
  unfold amV
  simp [List.getD, h1]
end Go.Proofs.YtnklfhjpigameaaDoor
