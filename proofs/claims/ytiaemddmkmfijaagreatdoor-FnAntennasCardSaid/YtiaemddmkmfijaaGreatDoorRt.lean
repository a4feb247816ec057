/-
  OWN WORK: roots of numbers: two searches.
-/
import Derived.Test.YtiaemddmkmfijaaGreatDoorLibA
namespace Go.Proofs.YtiaemddmkmfijaaGreatDoor
open Go Go.Own Go.Proofs
set_option maxHeartbeats 4000000
set_option maxRecDepth 20000
set_option linter.unusedSimpArgs false
/-- the first number for which something is so that stays so -/
def isFst (p : Int → Prop) (n r : Nat) : Prop := r ≤ n ∧ (∀ i : Nat, i < r → ¬ p i) ∧ (r < n → p r)
theorem sem_iu (a : Int) : semS Tryz.prog (convert 3 165 (.int .i64 a)) = some (.flat (.int .u64 (IntKind.u64.wrap a))) := by rfl
theorem sem_ui (a : Int) : semS Tryz.prog (convert 165 3 (.int .u64 a)) = some (.flat (.int .i64 (IntKind.i64.wrap a))) := by rfl
theorem sem_shr1 (x y : Operand) (a : Int) : semS Tryz.prog (do eqGuard .shr 165 x y (.int .u64 a) (.int .u64 1); binOp .shr 165 (.int .u64 a) (.int .u64 1)) = some (.flat (.int .u64 (a.fdiv (2 ^ 1)))) := by rfl
theorem wrapU {n : Int} (h0 : 0 ≤ n) (h1 : n ≤ 9223372036854775807) : IntKind.u64.wrap n = n := by
  simp [IntKind.wrap, IntKind.bits, IntKind.signed]
  omega
theorem den_Search (n r : Nat) (f : FuncId) (cs : List AVal) (p : Int → Prop) (hn : n ≤ 1000000000000) (hcs : treeL cs = true) (hr : isFst p n r) (hmono : ∀ i k : Nat, i ≤ k → p i → p k) (hp : ∀ x : Nat, x < n → Den Tryz.prog f ([.i x] ++ cs) (.b (bp (p x)))) (hs : ∀ s, snapL s cs = some cs) :
    Den Tryz.prog 139 [.i n, .clo f cs] (.i r) := by
  refine den_of_awp Tryz.func139 rfl (by kernel_rfl) (Nat.le_of_ble_eq_true rfl) (by simp only [treeL, AVal.tree, hcs, Bool.and_self, Bool.and_true]) rfl mixed (by kernel_rfl) fun _ => ?_
  rw [Tryz.ntmps139]
  refine ex_start ?_
  simp (config := { maxSteps := 1000000 }) +decide only [NoH, Old, OldL, nilQ, nilA, asgn, nz, RechL, ReY, isNew, stepO, XPost, postN, XOk, updN, updU, isEff, avalue, aeff, ASt.eval, ASt.put, ASt.set, ASt.new, Nat.reduceDiv, Nat.reduceAdd, Int.reduceToNat, absV, absC, scalar, alen, acap, conc, flats, live, blkOf, aload, rd, part?, afieldAddr, afield, aindexAddr, cellsOf, afill, places, abuild, optI, asliceV, asliceS, szOk, srcCells, aappend, acopy, astore, amakeSlice, abuildSlice, snapL, mapO, treeL, AVal.tree, AVal.flatT, isFlat, ares, isFz, afroz, afrozB, lookupA, lookupH, tops, if_true, if_false, reduceCtorEq, forall_const, ite_true, ite_false, implies_true, walkS, tabS, Tryz.results139, hcs]
  refine ex_loop (fun q : {q : Nat × Nat // q.1 ≤ r ∧ r ≤ q.2 ∧ q.2 ≤ n} => mk [(1, .clo f cs), (5, .i q.1.1), (6, .i q.1.2)] [] 0 26) (fun q => q.1.2 - q.1.1) ⟨(0, n), Nat.zero_le _, hr.1, Nat.le_refl _⟩ ?_ ?_
  · refine weak_mk rfl (by first | exact Nat.le_refl _ | (simp only [mk_gen]; omega)) ?_ ?_ <;> simp +decide only [w_lookup_nil, w_lookup_cons, ch_ch, ch_lit, lit_ch, wkT, wkH, wkB, WVL, WV_refl', Int.natCast_zero, Int.natCast_add, Int.natCast_one, Nat.sub_self, Nat.sub_zero, List.replicate_zero, List.take_zero, List.nil_append, List.append_nil, fillC_zero, Nat.reduceDiv, Nat.reduceAdd, upd_bk, bk_at, getB_zero, getB_succ, modB_zero, modB_succ, rows_lit, repB_zero, repB_succ, List.length_cons, List.length_nil, upd_upd_same, upd_apply, mk_tmp, mk_heap, mk_gen, lookupA, lookupH, List.getD_cons_zero, List.getD_cons_succ, init_two, tops, Bool.true_and, and_self, and_true, true_and, true_or, if_true, if_false, ite_true, ite_false, reduceCtorEq, reduceIte, hcs]
  · rintro ⟨⟨lo, hi⟩, h1, h2, h3⟩
    have h1' : lo ≤ r := h1
    have h2' : r ≤ hi := h2
    have h3' : hi ≤ n := h3
    by_cases hlt : lo < hi
    · have w1 : IntKind.i64.wrap ((lo : Int) + hi) = lo + hi := wrap64 (by omega) (by omega)
      have w2 : IntKind.u64.wrap ((lo : Int) + hi) = lo + hi := wrapU (by omega) (by omega)
      have w3 : IntKind.i64.wrap (((lo : Int) + hi).fdiv (2 ^ 1)) = (((lo + hi) / 2 : Nat) : Int) := by
        rw [show (2 : Int) ^ 1 = 2 by rfl, Int.fdiv_eq_ediv_of_nonneg _ (by omega)]
        exact wrap64 (by omega) (by omega)
      have w4 : IntKind.i64.wrap ((((lo + hi) / 2 : Nat) : Int) + 1) = (((lo + hi) / 2 + 1 : Nat) : Int) := wrap64 (by omega) (by omega)
      have hm1 : lo ≤ (lo + hi) / 2 := by omega
      have hm2 : (lo + hi) / 2 < hi := by omega
      simp (config := { maxSteps := 1000000 }) +decide only [NoH, Old, OldL, nilQ, nilA, asgn, nz, RechL, ReY, isNew, stepO, XPost, postN, XOk, updN, updU, isEff, avalue, aeff, ASt.eval, ASt.put, ASt.set, ASt.new, Nat.reduceDiv, Nat.reduceAdd, Int.reduceToNat, absV, absC, scalar, alen, acap, conc, flats, live, blkOf, aload, rd, part?, afieldAddr, afield, aindexAddr, cellsOf, afill, places, abuild, optI, asliceV, asliceS, szOk, srcCells, aappend, acopy, astore, amakeSlice, abuildSlice, snapL, mapO, treeL, AVal.tree, AVal.flatT, isFlat, ares, isFz, afroz, afrozB, lookupA, lookupH, tops, if_true, if_false, reduceCtorEq, forall_const, ite_true, ite_false, implies_true, walkS, tabS, Tryz.results139, hlt, hcs, hs, sem_iu, sem_ui, sem_shr1, w1, w2, w3, List.cons_append]
      generalize (lo + hi) / 2 = m at w4 hm1 hm2
      refine callK (hp m (by omega)) (by first | exact .inl rfl | exact .inr rfl) ?_
      by_cases hpm : p m
      · have hrm : r ≤ m := by
          rcases Nat.lt_or_ge m r with h | h
          · exact (hr.2.1 m h hpm).elim
          · exact h
        simp (config := { maxSteps := 1000000 }) +decide only [NoH, Old, OldL, nilQ, nilA, asgn, nz, RechL, ReY, isNew, stepO, XPost, postN, XOk, updN, updU, isEff, avalue, aeff, ASt.eval, ASt.put, ASt.set, ASt.new, Nat.reduceDiv, Nat.reduceAdd, Int.reduceToNat, absV, absC, scalar, alen, acap, conc, flats, live, blkOf, aload, rd, part?, afieldAddr, afield, aindexAddr, cellsOf, afill, places, abuild, optI, asliceV, asliceS, szOk, srcCells, aappend, acopy, astore, amakeSlice, abuildSlice, snapL, mapO, treeL, AVal.tree, AVal.flatT, isFlat, ares, isFz, afroz, afrozB, lookupA, lookupH, tops, if_true, if_false, reduceCtorEq, forall_const, ite_true, ite_false, implies_true, walkS, tabS, Tryz.results139, eq_true hpm]
        refine ⟨⟨(lo, m), h1', hrm, by show m ≤ n; omega⟩, ?_, by show m - lo < hi - lo; omega⟩
        refine weak_mk rfl (by first | exact Nat.le_refl _ | (simp only [mk_gen]; omega)) ?_ ?_ <;> simp +decide only [w_lookup_nil, w_lookup_cons, ch_ch, ch_lit, lit_ch, wkT, wkH, wkB, WVL, WV_refl', Int.natCast_zero, Int.natCast_add, Int.natCast_one, Nat.sub_self, Nat.sub_zero, List.replicate_zero, List.take_zero, List.nil_append, List.append_nil, fillC_zero, Nat.reduceDiv, Nat.reduceAdd, upd_bk, bk_at, getB_zero, getB_succ, modB_zero, modB_succ, rows_lit, repB_zero, repB_succ, List.length_cons, List.length_nil, upd_upd_same, upd_apply, mk_tmp, mk_heap, mk_gen, lookupA, lookupH, List.getD_cons_zero, List.getD_cons_succ, init_two, tops, Bool.true_and, and_self, and_true, true_and, true_or, if_true, if_false, ite_true, ite_false, reduceCtorEq, reduceIte, hcs]
      · have hrm : m < r := by
          rcases Nat.lt_or_ge m r with h | h
          · exact h
          · exact (hpm (hmono r m h (hr.2.2 (by omega)))).elim
        simp (config := { maxSteps := 1000000 }) +decide only [NoH, Old, OldL, nilQ, nilA, asgn, nz, RechL, ReY, isNew, stepO, XPost, postN, XOk, updN, updU, isEff, avalue, aeff, ASt.eval, ASt.put, ASt.set, ASt.new, Nat.reduceDiv, Nat.reduceAdd, Int.reduceToNat, absV, absC, scalar, alen, acap, conc, flats, live, blkOf, aload, rd, part?, afieldAddr, afield, aindexAddr, cellsOf, afill, places, abuild, optI, asliceV, asliceS, szOk, srcCells, aappend, acopy, astore, amakeSlice, abuildSlice, snapL, mapO, treeL, AVal.tree, AVal.flatT, isFlat, ares, isFz, afroz, afrozB, lookupA, lookupH, tops, if_true, if_false, reduceCtorEq, forall_const, ite_true, ite_false, implies_true, walkS, tabS, Tryz.results139, eq_false hpm, w4]
        refine ⟨⟨(m + 1, hi), hrm, h2', h3'⟩, ?_, by show hi - (m + 1) < hi - lo; omega⟩
        refine weak_mk rfl (by first | exact Nat.le_refl _ | (simp only [mk_gen]; omega)) ?_ ?_ <;> simp +decide only [w_lookup_nil, w_lookup_cons, ch_ch, ch_lit, lit_ch, wkT, wkH, wkB, WVL, WV_refl', Int.natCast_zero, Int.natCast_add, Int.natCast_one, Nat.sub_self, Nat.sub_zero, List.replicate_zero, List.take_zero, List.nil_append, List.append_nil, fillC_zero, Nat.reduceDiv, Nat.reduceAdd, upd_bk, bk_at, getB_zero, getB_succ, modB_zero, modB_succ, rows_lit, repB_zero, repB_succ, List.length_cons, List.length_nil, upd_upd_same, upd_apply, mk_tmp, mk_heap, mk_gen, lookupA, lookupH, List.getD_cons_zero, List.getD_cons_succ, init_two, tops, Bool.true_and, and_self, and_true, true_and, true_or, if_true, if_false, ite_true, ite_false, reduceCtorEq, reduceIte, hcs]
    · have e : lo = r := by omega
      subst e
      simp (config := { maxSteps := 1000000 }) +decide only [NoH, Old, OldL, nilQ, nilA, asgn, nz, RechL, ReY, isNew, stepO, XPost, postN, XOk, updN, updU, isEff, avalue, aeff, ASt.eval, ASt.put, ASt.set, ASt.new, Nat.reduceDiv, Nat.reduceAdd, Int.reduceToNat, absV, absC, scalar, alen, acap, conc, flats, live, blkOf, aload, rd, part?, afieldAddr, afield, aindexAddr, cellsOf, afill, places, abuild, optI, asliceV, asliceS, szOk, srcCells, aappend, acopy, astore, amakeSlice, abuildSlice, snapL, mapO, treeL, AVal.tree, AVal.flatT, isFlat, ares, isFz, afroz, afrozB, lookupA, lookupH, tops, if_true, if_false, reduceCtorEq, forall_const, ite_true, ite_false, implies_true, walkS, tabS, Tryz.results139, hlt]
/-- a root, rounded down -/
def isRt (n : Int) (r : Nat) : Prop := (r : Int) * r ≤ n ∧ n < ((r : Int) + 1) * ((r : Int) + 1)
theorem rt_ex : ∀ n : Nat, ∃ r, isRt n r
  | 0 => ⟨0, by simp, by simp⟩
  | n + 1 => by
    obtain ⟨r, h1, h2⟩ := rt_ex n
    by_cases h : ((r : Int) + 1) * ((r : Int) + 1) ≤ ((n + 1 : Nat) : Int)
    · refine ⟨r + 1, by simpa using h, ?_⟩
      have e : (((r + 1 : Nat) : Int) + 1) * (((r + 1 : Nat) : Int) + 1) = ((r : Int) + 1) * ((r : Int) + 1) + (2 * (r : Int) + 3) := by
        rw [show ((r + 1 : Nat) : Int) = (r : Int) + 1 by omega]
        simp only [Int.mul_add, Int.add_mul]
        omega
      rw [e]
      omega
    · exact ⟨r, by omega, by omega⟩
theorem rt_ex' {n : Int} (h : 0 ≤ n) : ∃ r, isRt n r := by
  obtain ⟨m, rfl⟩ := Int.eq_ofNat_of_zero_le h
  exact rt_ex m
theorem sq_mono {a b : Int} (h0 : 0 ≤ a) (h : a ≤ b) : a * a ≤ b * b := Int.mul_le_mul h h h0 (by omega)
theorem rt_le {n : Int} {r k : Nat} (h : isRt n r) (hk : (k : Int) * k ≤ n) : k ≤ r := by
  rcases Nat.lt_or_ge r k with h1 | h1
  · have := sq_mono (a := (r : Int) + 1) (b := k) (by omega) (by omega)
    have := h.2
    omega
  · exact h1
theorem rt_lt {n : Int} {r k : Nat} (h : isRt n r) (hk : n < (k : Int) * k) : r < k := by
  rcases Nat.lt_or_ge r k with h1 | h1
  · exact h1
  · have := sq_mono (a := (k : Int)) (b := r) (by omega) (by omega)
    have := h.1
    omega
noncomputable def rt (n : Int) : Nat := if h : 0 ≤ n then Classical.choose (rt_ex' h) else 0
theorem rt_is {n : Int} (h : 0 ≤ n) : isRt n (rt n) := by
  unfold rt
  rw [dif_pos h]
  exact Classical.choose_spec (rt_ex' h)
theorem rt_small {n : Int} (h : 0 ≤ n) (h1 : n ≤ 1000000000000) : rt n ≤ 1000000 := by
  have := rt_lt (k := 1000001) (rt_is h) (by omega)
  omega
/-! ### distances -/
noncomputable def dst (x y x' y' : Int) : Int := rt ((x - x') * (x - x') + (y - y') * (y - y'))
def OkPt (x y : Int) : Prop := (0 ≤ x ∧ x ≤ 200000) ∧ (0 ≤ y ∧ y ≤ 200000)
theorem sq_le {a b : Int} (h1 : -b ≤ a) (h2 : a ≤ b) : 0 ≤ a * a ∧ a * a ≤ b * b := by
  rcases Int.le_total 0 a with h | h
  · exact ⟨Int.mul_nonneg h h, sq_mono h h2⟩
  · have e : a * a = (-a) * (-a) := by rw [Int.neg_mul_neg]
    rw [e]
    exact ⟨Int.mul_nonneg (by omega) (by omega), sq_mono (by omega) (by omega)⟩
theorem sq_flip (a b : Int) : (b - a) * (b - a) = (a - b) * (a - b) := by
  rw [show b - a = -(a - b) by omega, Int.neg_mul_neg]
end Go.Proofs.YtiaemddmkmfijaaGreatDoor
