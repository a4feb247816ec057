/-
  OWN WORK: texts that are no numerals.
-/
import Derived.Test.YtiaemddmkmfijaaGreatDoorTxD
namespace Go.Proofs.YtiaemddmkmfijaaGreatDoor
open Go Go.Own Go.Proofs Go.RowKit
set_option maxHeartbeats 4000000
set_option maxRecDepth 20000
set_option linter.unusedSimpArgs false
set_option linter.unusedVariables false
theorem den_ReadDecimalNo (T : List UInt8) (hT : T.length ≤ 281474976710656) (h : Lib.parseIntB 64 T = Lib.parseIntB 64 []) : Den Tryz.prog 60 [.t T] (.tup [.i 0, .b false]) := by
  refine ⟨⟨_, Tryz.func60, by kernel_rfl, by kernel_rfl⟩, rfl, fun w vs ok hok hg hr => ?_⟩
  obtain ⟨v, r, rfl, hv, rfl⟩ := hr
  obtain rfl := repS hv
  obtain ⟨tp, p, he⟩ := glob_err hg (g := 2) (by simp [GL.shp])
  have hP := Any.strconv_ParseInt_10_at64_syntax Tryz.parse (bt T) (by rw [bt_size]; exact hT) (by rw [bt_data]; exact h.trans (by decide +kernel)) (.iface tp p) w he (.inr ⟨tp, p, rfl⟩)
  have mixed : Tryz.prog.godebug = Tryz.prog.godebug := rfl
  have eP : ∀ args w, (callFunc 116 args).run Tryz.prog w = .ok (.enter 116 args) w := enters_of Tryz.func116 (by kernel_rfl) rfl
  go_enter Tryz.func60, Tryz.ntmps60
  go_wp2_with (go_at_fn 116; refine hP.mono ?_)
  rintro e w' N rfl hN hO hB
  go_wp2
  go_ret2
  exact ⟨_, rfl, ⟨_, rfl, _, _, rfl, ⟨rfl, rfl⟩, _, _, rfl, ⟨rfl, rfl⟩, rfl⟩, hB⟩
theorem parse_nil : Lib.parseIntB 64 [] = Lib.parseIntB 64 [] := rfl
theorem den_ReadListNil : Den Tryz.prog 61 [.t []] (.tup [ints [], .b false]) := by
  refine den_of_awpG (ghs [] []) Tryz.func61 rfl (by kernel_rfl) (Nat.le_of_ble_eq_true rfl) (by simp only [treeL, AVal.tree, treeL_i, treeL_ints, treeL_u8, treeL_append, Bool.and_self, Bool.and_true, Bool.true_and]) (by first | rfl | simp only [treeL, AVal.tree, treeL_i, treeL_ints, treeL_u8, treeL_append, Bool.and_self, Bool.and_true, Bool.true_and]) mixed (by kernel_rfl) fun hl => ?_
  simp only [lensL, lens, lensL_i, lensL_mapC, maxI, and_true, true_and] at hl
  rw [Tryz.ntmps61]
  refine ex_start ?_
  have n1 : ¬ ([] : List UInt8) = [45] := by simp
  have hs := den_SplitN [] 44 65 (by simp) (by omega) (by omega)
  have es : Lib.splitK [44] 0 (min 65 (([] : List UInt8).length + 1) - 1) [] = [[]] := rfl
  rw [es] at hs
  simp (config := { maxSteps := 1000000 }) +decide only [NoH, Old, OldL, nilQ, nilA, asgn, nz, RechL, ReY, isNew, stepO, XPost, postN, XOk, updN, updU, isEff, avalue, aeff, ASt.eval, ASt.put, ASt.set, ASt.new, Nat.reduceDiv, Nat.reduceAdd, Int.reduceToNat, absV, absC, scalar, alen, acap, conc, flats, live, blkOf, aload, rd, part?, afieldAddr, afield, aindexAddr, cellsOf, afill, places, abuild, optI, asliceV, asliceS, szOk, srcCells, aappend, acopy, astore, amakeSlice, abuildSlice, snapL, mapO, treeL, AVal.tree, AVal.flatT, isFlat, ares, isFz, afroz, afrozB, lookupA, lookupH, tops, if_true, if_false, reduceCtorEq, forall_const, ite_true, ite_false, implies_true, walkS, tabS, Tryz.results61, sem_eqlT, eq_false n1]
  refine callK (hs) (by first | exact .inl rfl | exact .inr rfl) ?_
  simp (config := { maxSteps := 1000000 }) +decide only [NoH, Old, OldL, nilQ, nilA, asgn, nz, RechL, ReY, isNew, stepO, XPost, postN, XOk, updN, updU, isEff, avalue, aeff, ASt.eval, ASt.put, ASt.set, ASt.new, Nat.reduceDiv, Nat.reduceAdd, Int.reduceToNat, absV, absC, scalar, alen, acap, conc, flats, live, blkOf, aload, rd, part?, afieldAddr, afield, aindexAddr, cellsOf, afill, places, abuild, optI, asliceV, asliceS, szOk, srcCells, aappend, acopy, astore, amakeSlice, abuildSlice, snapL, mapO, treeL, AVal.tree, AVal.flatT, isFlat, ares, isFz, afroz, afrozB, lookupA, lookupH, tops, if_true, if_false, reduceCtorEq, forall_const, ite_true, ite_false, implies_true, walkS, tabS, Tryz.results61, List.length_map]
  have e1 : ((1 : Nat) : Int) = 1 := rfl
  refine ex_loop (fun _ : Unit => mkG (ghs [] []) [(0, .t []), (12, strs [[]]), (13, .i 1), (14, .i 0)] [] 0 35) (fun _ => 0) () ?_ ?_
  · refine weak_mk rfl (by first | exact Nat.le_refl _ | (simp only [mk_gen]; omega)) ?_ ?_ <;> simp +decide only [w_lookup_nil, w_lookup_cons, ch_ch, ch_lit, lit_ch, wkT, wkH, wkB, WVL, WV_refl', Int.natCast_zero, Int.natCast_add, Int.natCast_one, Nat.sub_self, Nat.sub_zero, List.replicate_zero, List.take_zero, List.nil_append, List.append_nil, fillC_zero, Nat.reduceDiv, Nat.reduceAdd, upd_bk, bk_at, getB_zero, getB_succ, modB_zero, modB_succ, rows_lit, repB_zero, repB_succ, List.length_cons, List.length_nil, upd_upd_same, upd_apply, mk_tmp, mk_heap, mk_gen, lookupA, lookupH, List.getD_cons_zero, List.getD_cons_succ, init_two, tops, Bool.true_and, and_self, and_true, true_and, true_or, if_true, if_false, ite_true, ite_false, reduceCtorEq, reduceIte, List.length_cons, List.length_nil, Nat.zero_add, e1]
  rintro ⟨⟩
  have gt : (mapC AVal.t [[]])[0]? = some (.t []) := rfl
  have gl : ([[]] : List (List UInt8)).length = 1 := rfl
  simp (config := { maxSteps := 1000000 }) +decide only [NoH, Old, OldL, nilQ, nilA, asgn, nz, RechL, ReY, isNew, stepO, XPost, postN, XOk, updN, updU, isEff, avalue, aeff, ASt.eval, ASt.put, ASt.set, ASt.new, Nat.reduceDiv, Nat.reduceAdd, Int.reduceToNat, absV, absC, scalar, alen, acap, conc, flats, live, blkOf, aload, rd, part?, afieldAddr, afield, aindexAddr, cellsOf, afill, places, abuild, optI, asliceV, asliceS, szOk, srcCells, aappend, acopy, astore, amakeSlice, abuildSlice, snapL, mapO, treeL, AVal.tree, AVal.flatT, isFlat, ares, isFz, afroz, afrozB, lookupA, lookupH, tops, if_true, if_false, reduceCtorEq, forall_const, ite_true, ite_false, implies_true, walkS, tabS, Tryz.results61, gt, gl]
  refine callK (den_ReadDecimalNo [] (by simp) parse_nil) (by first | exact .inl rfl | exact .inr rfl) ?_
  simp (config := { maxSteps := 1000000 }) +decide only [NoH, Old, OldL, nilQ, nilA, asgn, nz, RechL, ReY, isNew, stepO, XPost, postN, XOk, updN, updU, isEff, avalue, aeff, ASt.eval, ASt.put, ASt.set, ASt.new, Nat.reduceDiv, Nat.reduceAdd, Int.reduceToNat, absV, absC, scalar, alen, acap, conc, flats, live, blkOf, aload, rd, part?, afieldAddr, afield, aindexAddr, cellsOf, afill, places, abuild, optI, asliceV, asliceS, szOk, srcCells, aappend, acopy, astore, amakeSlice, abuildSlice, snapL, mapO, treeL, AVal.tree, AVal.flatT, isFlat, ares, isFz, afroz, afrozB, lookupA, lookupH, tops, if_true, if_false, reduceCtorEq, forall_const, ite_true, ite_false, implies_true, walkS, tabS, Tryz.results61]
end Go.Proofs.YtiaemddmkmfijaaGreatDoor
