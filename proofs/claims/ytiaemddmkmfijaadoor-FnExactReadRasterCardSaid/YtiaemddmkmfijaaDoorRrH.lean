/-
  OWN WORK: the reference's rasters, read: the walk.
-/
import Derived.Test.YtiaemddmkmfijaaDoorRrG
namespace Go.Proofs.YtiaemddmkmfijaaDoor
open Go Go.Own Go.Proofs
set_option maxHeartbeats 4000000
set_option maxRecDepth 20000
set_option linter.unusedSimpArgs false
set_option linter.unusedVariables false
theorem den_specReadRaster (T : List UInt8) (hT : T.length ≤ 1048576) (a b c : Int) (xs ys : List Int) (bb : Bool)
    (hyes : ∀ (s : Int) (n m : Nat) (sv lv : List Int), OkRas s n m sv lv → T = gridK wRas s n m sv lv n m → a = s ∧ b = n ∧ c = m ∧ xs = sv ∧ ys = lv ∧ bb = true)
    (hno : NoRas T → a = 0 ∧ b = 0 ∧ c = 0 ∧ xs = [] ∧ ys = [] ∧ bb = false) : Den Tryd.prog 20 [.t T] (.tup [rasV a b c xs ys, .b bb]) := by
  have hs := den_l01Split T 10 (by omega)
  rw [show (((10 : UInt8).toNat : Nat) : Int) = 10 from rfl] at hs
  obtain ⟨sl1, sl2⟩ := spG_len 10 T []
  have sne := spG_ne 10 T []
  obtain ⟨x0, TL, hL⟩ : ∃ x l, spG 10 [] T = x :: l := by
    cases hP : spG 10 [] T with
    | nil => exact absurd hP sne
    | cons x l => exact ⟨x, l, rfl⟩
  have hd0 := hd_of hL
  rw [hL] at hs sl1 sl2
  have bx := sl2 x0 (by simp)
  have bT : ∀ x ∈ TL, x.length ≤ T.length := fun x hx => by
    have := sl2 x (by simp [hx])
    simpa using this
  have bx' : x0.length ≤ T.length := by simpa using bx
  have ll : (x0 :: TL).length = TL.length + 1 := rfl
  have h0 : (mapC AVal.t (x0 :: TL))[0]? = some (.t x0) := rfl
  have p0 : 0 < TL.length + 1 := by omega
  have p0I : (0 : Int) < ((TL.length + 1 : Nat) : Int) := by omega
  have nrL : (∀ m : Nat, 2 ≤ m → m ≤ 24 → TL.length ≠ m + 1) → NoRas T := fun h s n m sv lv ok e => by
    obtain ⟨_, k2, _⟩ := hd0.key s n m sv lv ok e
    exact h m (by have := ok.1.2.2.1; omega) (by have := ok.1.2.2.1; omega) (by rw [k2]; simp [rowsT_len])
  by_cases c1 : TL.length + 1 < 2
  · have c1I : ((TL.length + 1 : Nat) : Int) < 2 := by omega
    obtain ⟨rfl, rfl, rfl, rfl, rfl, rfl⟩ := hno (nrL fun m h1 h2 => by omega)
    refine den_of_awpG (ghs [] []) Tryd.func20 rfl (by kernel_rfl) (Nat.le_of_ble_eq_true rfl) (by simp only [treeL, AVal.tree, treeL_i, treeL_ints, treeL_u8, treeL_append, Bool.and_self, Bool.and_true, Bool.true_and]) (by first | rfl | simp only [treeL, AVal.tree, treeL_i, treeL_ints, treeL_u8, treeL_append, Bool.and_self, Bool.and_true, Bool.true_and]) mixed (by kernel_rfl) fun hl => ?_
    simp only [lensL, lens, lensL_i, lensL_mapC, maxI, and_true, true_and] at hl
    rw [Tryd.ntmps20]
    refine ex_start ?_
    simp (config := { maxSteps := 1000000 }) +decide only [NoH, Old, OldL, nilQ, nilA, asgn, nz, RechL, ReY, isNew, stepO, XPost, postN, XOk, updN, updU, isEff, avalue, aeff, ASt.eval, ASt.put, ASt.set, ASt.new, Nat.reduceDiv, Nat.reduceAdd, Int.reduceToNat, absV, absC, scalar, alen, acap, conc, flats, live, blkOf, aload, rd, part?, afieldAddr, afield, aindexAddr, cellsOf, afill, places, abuild, optI, asliceV, asliceS, szOk, srcCells, aappend, acopy, astore, amakeSlice, abuildSlice, snapL, mapO, treeL, AVal.tree, AVal.flatT, isFlat, ares, isFz, afroz, afrozB, lookupA, lookupH, tops, if_true, if_false, reduceCtorEq, forall_const, ite_true, ite_false, implies_true, walkS, tabS, Tryd.results20]
    refine callK (hs) (by first | exact .inl rfl | exact .inr rfl) ?_
    simp (config := { maxSteps := 1000000 }) +decide only [NoH, Old, OldL, nilQ, nilA, asgn, nz, RechL, ReY, isNew, stepO, XPost, postN, XOk, updN, updU, isEff, avalue, aeff, ASt.eval, ASt.put, ASt.set, ASt.new, Nat.reduceDiv, Nat.reduceAdd, Int.reduceToNat, absV, absC, scalar, alen, acap, conc, flats, live, blkOf, aload, rd, part?, afieldAddr, afield, aindexAddr, cellsOf, afill, places, abuild, optI, asliceV, asliceS, szOk, srcCells, aappend, acopy, astore, amakeSlice, abuildSlice, snapL, mapO, treeL, AVal.tree, AVal.flatT, isFlat, ares, isFz, afroz, afrozB, lookupA, lookupH, tops, if_true, if_false, reduceCtorEq, forall_const, ite_true, ite_false, implies_true, walkS, tabS, Tryd.results20, ll, eq_true c1I, mapC_nil]
    rfl
  have c1I : ¬ ((TL.length + 1 : Nat) : Int) < 2 := by omega
  by_cases c2 : 26 < TL.length + 1
  · have c2I : (26 : Int) < ((TL.length + 1 : Nat) : Int) := by omega
    obtain ⟨rfl, rfl, rfl, rfl, rfl, rfl⟩ := hno (nrL fun m h1 h2 => by omega)
    refine den_of_awpG (ghs [] []) Tryd.func20 rfl (by kernel_rfl) (Nat.le_of_ble_eq_true rfl) (by simp only [treeL, AVal.tree, treeL_i, treeL_ints, treeL_u8, treeL_append, Bool.and_self, Bool.and_true, Bool.true_and]) (by first | rfl | simp only [treeL, AVal.tree, treeL_i, treeL_ints, treeL_u8, treeL_append, Bool.and_self, Bool.and_true, Bool.true_and]) mixed (by kernel_rfl) fun hl => ?_
    simp only [lensL, lens, lensL_i, lensL_mapC, maxI, and_true, true_and] at hl
    rw [Tryd.ntmps20]
    refine ex_start ?_
    simp (config := { maxSteps := 1000000 }) +decide only [NoH, Old, OldL, nilQ, nilA, asgn, nz, RechL, ReY, isNew, stepO, XPost, postN, XOk, updN, updU, isEff, avalue, aeff, ASt.eval, ASt.put, ASt.set, ASt.new, Nat.reduceDiv, Nat.reduceAdd, Int.reduceToNat, absV, absC, scalar, alen, acap, conc, flats, live, blkOf, aload, rd, part?, afieldAddr, afield, aindexAddr, cellsOf, afill, places, abuild, optI, asliceV, asliceS, szOk, srcCells, aappend, acopy, astore, amakeSlice, abuildSlice, snapL, mapO, treeL, AVal.tree, AVal.flatT, isFlat, ares, isFz, afroz, afrozB, lookupA, lookupH, tops, if_true, if_false, reduceCtorEq, forall_const, ite_true, ite_false, implies_true, walkS, tabS, Tryd.results20]
    refine callK (hs) (by first | exact .inl rfl | exact .inr rfl) ?_
    simp (config := { maxSteps := 1000000 }) +decide only [NoH, Old, OldL, nilQ, nilA, asgn, nz, RechL, ReY, isNew, stepO, XPost, postN, XOk, updN, updU, isEff, avalue, aeff, ASt.eval, ASt.put, ASt.set, ASt.new, Nat.reduceDiv, Nat.reduceAdd, Int.reduceToNat, absV, absC, scalar, alen, acap, conc, flats, live, blkOf, aload, rd, part?, afieldAddr, afield, aindexAddr, cellsOf, afill, places, abuild, optI, asliceV, asliceS, szOk, srcCells, aappend, acopy, astore, amakeSlice, abuildSlice, snapL, mapO, treeL, AVal.tree, AVal.flatT, isFlat, ares, isFz, afroz, afrozB, lookupA, lookupH, tops, if_true, if_false, reduceCtorEq, forall_const, ite_true, ite_false, implies_true, walkS, tabS, Tryd.results20, ll, eq_false c1I, eq_true c2I, mapC_nil]
    rfl
  have c2I : ¬ (26 : Int) < ((TL.length + 1 : Nat) : Int) := by omega
  have hw := den_l01Split x0 32 (by omega)
  rw [show (((32 : UInt8).toNat : Nat) : Int) = 32 from rfl] at hw
  have wl := (spG_len 32 x0 []).2
  generalize hW : spG 32 [] x0 = W at *
  by_cases c4 : W.length = 4
  case neg =>
    have c4I : ¬ (W.length : Int) = 4 := by omega
    obtain ⟨rfl, rfl, rfl, rfl, rfl, rfl⟩ := hno (fun s n m sv lv ok e => by
      obtain ⟨_, _, k3⟩ := hd0.key s n m sv lv ok e
      exact c4 (by rw [k3]; rfl))
    refine den_of_awpG (ghs [] []) Tryd.func20 rfl (by kernel_rfl) (Nat.le_of_ble_eq_true rfl) (by simp only [treeL, AVal.tree, treeL_i, treeL_ints, treeL_u8, treeL_append, Bool.and_self, Bool.and_true, Bool.true_and]) (by first | rfl | simp only [treeL, AVal.tree, treeL_i, treeL_ints, treeL_u8, treeL_append, Bool.and_self, Bool.and_true, Bool.true_and]) mixed (by kernel_rfl) fun hl => ?_
    simp only [lensL, lens, lensL_i, lensL_mapC, maxI, and_true, true_and] at hl
    rw [Tryd.ntmps20]
    refine ex_start ?_
    simp (config := { maxSteps := 1000000 }) +decide only [NoH, Old, OldL, nilQ, nilA, asgn, nz, RechL, ReY, isNew, stepO, XPost, postN, XOk, updN, updU, isEff, avalue, aeff, ASt.eval, ASt.put, ASt.set, ASt.new, Nat.reduceDiv, Nat.reduceAdd, Int.reduceToNat, absV, absC, scalar, alen, acap, conc, flats, live, blkOf, aload, rd, part?, afieldAddr, afield, aindexAddr, cellsOf, afill, places, abuild, optI, asliceV, asliceS, szOk, srcCells, aappend, acopy, astore, amakeSlice, abuildSlice, snapL, mapO, treeL, AVal.tree, AVal.flatT, isFlat, ares, isFz, afroz, afrozB, lookupA, lookupH, tops, if_true, if_false, reduceCtorEq, forall_const, ite_true, ite_false, implies_true, walkS, tabS, Tryd.results20]
    refine callK (hs) (by first | exact .inl rfl | exact .inr rfl) ?_
    simp (config := { maxSteps := 1000000 }) +decide only [NoH, Old, OldL, nilQ, nilA, asgn, nz, RechL, ReY, isNew, stepO, XPost, postN, XOk, updN, updU, isEff, avalue, aeff, ASt.eval, ASt.put, ASt.set, ASt.new, Nat.reduceDiv, Nat.reduceAdd, Int.reduceToNat, absV, absC, scalar, alen, acap, conc, flats, live, blkOf, aload, rd, part?, afieldAddr, afield, aindexAddr, cellsOf, afill, places, abuild, optI, asliceV, asliceS, szOk, srcCells, aappend, acopy, astore, amakeSlice, abuildSlice, snapL, mapO, treeL, AVal.tree, AVal.flatT, isFlat, ares, isFz, afroz, afrozB, lookupA, lookupH, tops, if_true, if_false, reduceCtorEq, forall_const, ite_true, ite_false, implies_true, walkS, tabS, Tryd.results20, ll, eq_false c1I, eq_false c2I, h0, p0, p0I]
    refine callK (hw) (by first | exact .inl rfl | exact .inr rfl) ?_
    simp (config := { maxSteps := 1000000 }) +decide only [NoH, Old, OldL, nilQ, nilA, asgn, nz, RechL, ReY, isNew, stepO, XPost, postN, XOk, updN, updU, isEff, avalue, aeff, ASt.eval, ASt.put, ASt.set, ASt.new, Nat.reduceDiv, Nat.reduceAdd, Int.reduceToNat, absV, absC, scalar, alen, acap, conc, flats, live, blkOf, aload, rd, part?, afieldAddr, afield, aindexAddr, cellsOf, afill, places, abuild, optI, asliceV, asliceS, szOk, srcCells, aappend, acopy, astore, amakeSlice, abuildSlice, snapL, mapO, treeL, AVal.tree, AVal.flatT, isFlat, ares, isFz, afroz, afrozB, lookupA, lookupH, tops, if_true, if_false, reduceCtorEq, forall_const, ite_true, ite_false, implies_true, walkS, tabS, Tryd.results20, eq_false c4I, mapC_nil]
    rfl
  obtain ⟨w0, w1, w2, w3, rfl⟩ : ∃ a b c d, W = [a, b, c, d] := by
    match W, c4 with
    | [a, b, c, d], _ => exact ⟨a, b, c, d, rfl⟩
  have lW : ([w0, w1, w2, w3] : List (List UInt8)).length = 4 := rfl
  have g0 : (mapC AVal.t [w0, w1, w2, w3])[0]? = some (.t w0) := rfl
  have g1 : (mapC AVal.t [w0, w1, w2, w3])[1]? = some (.t w1) := rfl
  have g2 : (mapC AVal.t [w0, w1, w2, w3])[2]? = some (.t w2) := rfl
  have g3 : (mapC AVal.t [w0, w1, w2, w3])[3]? = some (.t w3) := rfl
  have all := hd_all hd0
  by_cases cw : w0 = wRas
  case neg =>
    have cw' : ¬ w0 = [114, 97, 115, 116, 101, 114] := cw
    obtain ⟨rfl, rfl, rfl, rfl, rfl, rfl⟩ := hno (fun s n m sv lv ok e => cw (all s n m sv lv ok e).1)
    refine den_of_awpG (ghs [] []) Tryd.func20 rfl (by kernel_rfl) (Nat.le_of_ble_eq_true rfl) (by simp only [treeL, AVal.tree, treeL_i, treeL_ints, treeL_u8, treeL_append, Bool.and_self, Bool.and_true, Bool.true_and]) (by first | rfl | simp only [treeL, AVal.tree, treeL_i, treeL_ints, treeL_u8, treeL_append, Bool.and_self, Bool.and_true, Bool.true_and]) mixed (by kernel_rfl) fun hl => ?_
    simp only [lensL, lens, lensL_i, lensL_mapC, maxI, and_true, true_and] at hl
    rw [Tryd.ntmps20]
    refine ex_start ?_
    simp (config := { maxSteps := 1000000 }) +decide only [NoH, Old, OldL, nilQ, nilA, asgn, nz, RechL, ReY, isNew, stepO, XPost, postN, XOk, updN, updU, isEff, avalue, aeff, ASt.eval, ASt.put, ASt.set, ASt.new, Nat.reduceDiv, Nat.reduceAdd, Int.reduceToNat, absV, absC, scalar, alen, acap, conc, flats, live, blkOf, aload, rd, part?, afieldAddr, afield, aindexAddr, cellsOf, afill, places, abuild, optI, asliceV, asliceS, szOk, srcCells, aappend, acopy, astore, amakeSlice, abuildSlice, snapL, mapO, treeL, AVal.tree, AVal.flatT, isFlat, ares, isFz, afroz, afrozB, lookupA, lookupH, tops, if_true, if_false, reduceCtorEq, forall_const, ite_true, ite_false, implies_true, walkS, tabS, Tryd.results20]
    refine callK (hs) (by first | exact .inl rfl | exact .inr rfl) ?_
    simp (config := { maxSteps := 1000000 }) +decide only [NoH, Old, OldL, nilQ, nilA, asgn, nz, RechL, ReY, isNew, stepO, XPost, postN, XOk, updN, updU, isEff, avalue, aeff, ASt.eval, ASt.put, ASt.set, ASt.new, Nat.reduceDiv, Nat.reduceAdd, Int.reduceToNat, absV, absC, scalar, alen, acap, conc, flats, live, blkOf, aload, rd, part?, afieldAddr, afield, aindexAddr, cellsOf, afill, places, abuild, optI, asliceV, asliceS, szOk, srcCells, aappend, acopy, astore, amakeSlice, abuildSlice, snapL, mapO, treeL, AVal.tree, AVal.flatT, isFlat, ares, isFz, afroz, afrozB, lookupA, lookupH, tops, if_true, if_false, reduceCtorEq, forall_const, ite_true, ite_false, implies_true, walkS, tabS, Tryd.results20, ll, eq_false c1I, eq_false c2I, h0, p0, p0I]
    refine callK (hw) (by first | exact .inl rfl | exact .inr rfl) ?_
    simp (config := { maxSteps := 1000000 }) +decide only [NoH, Old, OldL, nilQ, nilA, asgn, nz, RechL, ReY, isNew, stepO, XPost, postN, XOk, updN, updU, isEff, avalue, aeff, ASt.eval, ASt.put, ASt.set, ASt.new, Nat.reduceDiv, Nat.reduceAdd, Int.reduceToNat, absV, absC, scalar, alen, acap, conc, flats, live, blkOf, aload, rd, part?, afieldAddr, afield, aindexAddr, cellsOf, afill, places, abuild, optI, asliceV, asliceS, szOk, srcCells, aappend, acopy, astore, amakeSlice, abuildSlice, snapL, mapO, treeL, AVal.tree, AVal.flatT, isFlat, ares, isFz, afroz, afrozB, lookupA, lookupH, tops, if_true, if_false, reduceCtorEq, forall_const, ite_true, ite_false, implies_true, walkS, tabS, Tryd.results20, lW, g0, sem_neqT, eq_false cw', mapC_nil]
    rfl
  have cw' : w0 = [114, 97, 115, 116, 101, 114] := cw
  have wk1 : IntKind.i64.wrap (((TL.length + 1 : Nat) : Int) - 1) = (TL.length : Nat) := by
    rw [show ((TL.length + 1 : Nat) : Int) - 1 = (TL.length : Nat) from by omega]
    exact wrap64 (by omega) (by omega)
  have hlast : TL.length < (x0 :: TL).length := by simp
  have gG : ∀ (P : List (List UInt8)) (i : Nat) (hi : i < P.length), (mapC AVal.t P)[i]? = some (.t P[i]) := fun P i hi => by simp [mapC, hi]
  have gl := gG (x0 :: TL) TL.length hlast
  have pl : TL.length < TL.length + 1 := by omega
  have lastE : TL.length = 0 ∨ ∃ q, TL.length = q + 1 ∧ TL[q]? = some (x0 :: TL)[TL.length] := by
    rcases Nat.eq_zero_or_pos TL.length with h | h
    · exact .inl h
    have e : (x0 :: TL)[TL.length]? = some (x0 :: TL)[TL.length] := List.getElem?_eq_getElem hlast
    rw [List.getElem?_cons, if_neg (by omega)] at e
    exact .inr ⟨TL.length - 1, by omega, e⟩
  generalize (x0 :: TL)[TL.length] = z at gl lastE
  by_cases cz : z = []
  case neg =>
    obtain ⟨rfl, rfl, rfl, rfl, rfl, rfl⟩ := hno (fun s n m sv lv ok e => by
      obtain ⟨_, _, _, _, _, _, _, k8, k9, _⟩ := all s n m sv lv ok e
      rcases lastE with h | ⟨q, h1, h2⟩
      · omega
      · rw [show q = m from by omega, k9] at h2
        exact cz (Option.some.inj h2).symm)
    refine den_of_awpG (ghs [] []) Tryd.func20 rfl (by kernel_rfl) (Nat.le_of_ble_eq_true rfl) (by simp only [treeL, AVal.tree, treeL_i, treeL_ints, treeL_u8, treeL_append, Bool.and_self, Bool.and_true, Bool.true_and]) (by first | rfl | simp only [treeL, AVal.tree, treeL_i, treeL_ints, treeL_u8, treeL_append, Bool.and_self, Bool.and_true, Bool.true_and]) mixed (by kernel_rfl) fun hl => ?_
    simp only [lensL, lens, lensL_i, lensL_mapC, maxI, and_true, true_and] at hl
    rw [Tryd.ntmps20]
    refine ex_start ?_
    simp (config := { maxSteps := 1000000 }) +decide only [NoH, Old, OldL, nilQ, nilA, asgn, nz, RechL, ReY, isNew, stepO, XPost, postN, XOk, updN, updU, isEff, avalue, aeff, ASt.eval, ASt.put, ASt.set, ASt.new, Nat.reduceDiv, Nat.reduceAdd, Int.reduceToNat, absV, absC, scalar, alen, acap, conc, flats, live, blkOf, aload, rd, part?, afieldAddr, afield, aindexAddr, cellsOf, afill, places, abuild, optI, asliceV, asliceS, szOk, srcCells, aappend, acopy, astore, amakeSlice, abuildSlice, snapL, mapO, treeL, AVal.tree, AVal.flatT, isFlat, ares, isFz, afroz, afrozB, lookupA, lookupH, tops, if_true, if_false, reduceCtorEq, forall_const, ite_true, ite_false, implies_true, walkS, tabS, Tryd.results20]
    refine callK (hs) (by first | exact .inl rfl | exact .inr rfl) ?_
    simp (config := { maxSteps := 1000000 }) +decide only [NoH, Old, OldL, nilQ, nilA, asgn, nz, RechL, ReY, isNew, stepO, XPost, postN, XOk, updN, updU, isEff, avalue, aeff, ASt.eval, ASt.put, ASt.set, ASt.new, Nat.reduceDiv, Nat.reduceAdd, Int.reduceToNat, absV, absC, scalar, alen, acap, conc, flats, live, blkOf, aload, rd, part?, afieldAddr, afield, aindexAddr, cellsOf, afill, places, abuild, optI, asliceV, asliceS, szOk, srcCells, aappend, acopy, astore, amakeSlice, abuildSlice, snapL, mapO, treeL, AVal.tree, AVal.flatT, isFlat, ares, isFz, afroz, afrozB, lookupA, lookupH, tops, if_true, if_false, reduceCtorEq, forall_const, ite_true, ite_false, implies_true, walkS, tabS, Tryd.results20, ll, eq_false c1I, eq_false c2I, h0, p0, p0I]
    refine callK (hw) (by first | exact .inl rfl | exact .inr rfl) ?_
    simp (config := { maxSteps := 1000000 }) +decide only [NoH, Old, OldL, nilQ, nilA, asgn, nz, RechL, ReY, isNew, stepO, XPost, postN, XOk, updN, updU, isEff, avalue, aeff, ASt.eval, ASt.put, ASt.set, ASt.new, Nat.reduceDiv, Nat.reduceAdd, Int.reduceToNat, absV, absC, scalar, alen, acap, conc, flats, live, blkOf, aload, rd, part?, afieldAddr, afield, aindexAddr, cellsOf, afill, places, abuild, optI, asliceV, asliceS, szOk, srcCells, aappend, acopy, astore, amakeSlice, abuildSlice, snapL, mapO, treeL, AVal.tree, AVal.flatT, isFlat, ares, isFz, afroz, afrozB, lookupA, lookupH, tops, if_true, if_false, reduceCtorEq, forall_const, ite_true, ite_false, implies_true, walkS, tabS, Tryd.results20, lW, g0, sem_neqT, eq_true cw', ll, wk1, gl, pl, eq_false cz, mapC_nil]
    rfl
  have n1 := den_l01Number w1 (by have := wl w1 (by simp); simp at this; omega)
  have n2 := den_l01Number w2 (by have := wl w2 (by simp); simp at this; omega)
  have n3 := den_l01Number w3 (by have := wl w3 (by simp); simp at this; omega)
  refine den_of_awpG (ghs [] []) Tryd.func20 rfl (by kernel_rfl) (Nat.le_of_ble_eq_true rfl) (by simp only [treeL, AVal.tree, treeL_i, treeL_ints, treeL_u8, treeL_append, Bool.and_self, Bool.and_true, Bool.true_and]) (by first | rfl | simp only [treeL, AVal.tree, treeL_i, treeL_ints, treeL_u8, treeL_append, Bool.and_self, Bool.and_true, Bool.true_and]) mixed (by kernel_rfl) fun hl => ?_
  simp only [lensL, lens, lensL_i, lensL_mapC, maxI, and_true, true_and] at hl
  rw [Tryd.ntmps20]
  refine ex_start ?_
  simp (config := { maxSteps := 1000000 }) +decide only [NoH, Old, OldL, nilQ, nilA, asgn, nz, RechL, ReY, isNew, stepO, XPost, postN, XOk, updN, updU, isEff, avalue, aeff, ASt.eval, ASt.put, ASt.set, ASt.new, Nat.reduceDiv, Nat.reduceAdd, Int.reduceToNat, absV, absC, scalar, alen, acap, conc, flats, live, blkOf, aload, rd, part?, afieldAddr, afield, aindexAddr, cellsOf, afill, places, abuild, optI, asliceV, asliceS, szOk, srcCells, aappend, acopy, astore, amakeSlice, abuildSlice, snapL, mapO, treeL, AVal.tree, AVal.flatT, isFlat, ares, isFz, afroz, afrozB, lookupA, lookupH, tops, if_true, if_false, reduceCtorEq, forall_const, ite_true, ite_false, implies_true, walkS, tabS, Tryd.results20]
  refine callK (hs) (by first | exact .inl rfl | exact .inr rfl) ?_
  simp (config := { maxSteps := 1000000 }) +decide only [NoH, Old, OldL, nilQ, nilA, asgn, nz, RechL, ReY, isNew, stepO, XPost, postN, XOk, updN, updU, isEff, avalue, aeff, ASt.eval, ASt.put, ASt.set, ASt.new, Nat.reduceDiv, Nat.reduceAdd, Int.reduceToNat, absV, absC, scalar, alen, acap, conc, flats, live, blkOf, aload, rd, part?, afieldAddr, afield, aindexAddr, cellsOf, afill, places, abuild, optI, asliceV, asliceS, szOk, srcCells, aappend, acopy, astore, amakeSlice, abuildSlice, snapL, mapO, treeL, AVal.tree, AVal.flatT, isFlat, ares, isFz, afroz, afrozB, lookupA, lookupH, tops, if_true, if_false, reduceCtorEq, forall_const, ite_true, ite_false, implies_true, walkS, tabS, Tryd.results20, ll, eq_false c1I, eq_false c2I, h0, p0, p0I]
  refine callK (hw) (by first | exact .inl rfl | exact .inr rfl) ?_
  simp (config := { maxSteps := 1000000 }) +decide only [NoH, Old, OldL, nilQ, nilA, asgn, nz, RechL, ReY, isNew, stepO, XPost, postN, XOk, updN, updU, isEff, avalue, aeff, ASt.eval, ASt.put, ASt.set, ASt.new, Nat.reduceDiv, Nat.reduceAdd, Int.reduceToNat, absV, absC, scalar, alen, acap, conc, flats, live, blkOf, aload, rd, part?, afieldAddr, afield, aindexAddr, cellsOf, afill, places, abuild, optI, asliceV, asliceS, szOk, srcCells, aappend, acopy, astore, amakeSlice, abuildSlice, snapL, mapO, treeL, AVal.tree, AVal.flatT, isFlat, ares, isFz, afroz, afrozB, lookupA, lookupH, tops, if_true, if_false, reduceCtorEq, forall_const, ite_true, ite_false, implies_true, walkS, tabS, Tryd.results20, lW, g0, g1, sem_neqT, eq_true cw', ll, wk1, gl, pl, eq_true cz]
  refine callK (n1) (by first | exact .inl rfl | exact .inr rfl) ?_
  simp (config := { maxSteps := 1000000 }) +decide only [NoH, Old, OldL, nilQ, nilA, asgn, nz, RechL, ReY, isNew, stepO, XPost, postN, XOk, updN, updU, isEff, avalue, aeff, ASt.eval, ASt.put, ASt.set, ASt.new, Nat.reduceDiv, Nat.reduceAdd, Int.reduceToNat, absV, absC, scalar, alen, acap, conc, flats, live, blkOf, aload, rd, part?, afieldAddr, afield, aindexAddr, cellsOf, afill, places, abuild, optI, asliceV, asliceS, szOk, srcCells, aappend, acopy, astore, amakeSlice, abuildSlice, snapL, mapO, treeL, AVal.tree, AVal.flatT, isFlat, ares, isFz, afroz, afrozB, lookupA, lookupH, tops, if_true, if_false, reduceCtorEq, forall_const, ite_true, ite_false, implies_true, walkS, tabS, Tryd.results20, lW, g2]
  refine callK (n2) (by first | exact .inl rfl | exact .inr rfl) ?_
  simp (config := { maxSteps := 1000000 }) +decide only [NoH, Old, OldL, nilQ, nilA, asgn, nz, RechL, ReY, isNew, stepO, XPost, postN, XOk, updN, updU, isEff, avalue, aeff, ASt.eval, ASt.put, ASt.set, ASt.new, Nat.reduceDiv, Nat.reduceAdd, Int.reduceToNat, absV, absC, scalar, alen, acap, conc, flats, live, blkOf, aload, rd, part?, afieldAddr, afield, aindexAddr, cellsOf, afill, places, abuild, optI, asliceV, asliceS, szOk, srcCells, aappend, acopy, astore, amakeSlice, abuildSlice, snapL, mapO, treeL, AVal.tree, AVal.flatT, isFlat, ares, isFz, afroz, afrozB, lookupA, lookupH, tops, if_true, if_false, reduceCtorEq, forall_const, ite_true, ite_false, implies_true, walkS, tabS, Tryd.results20, lW, g3]
  refine callK (n3) (by first | exact .inl rfl | exact .inr rfl) ?_
  by_cases d1 : NumOk w1
  case neg =>
    obtain ⟨rfl, rfl, rfl, rfl, rfl, rfl⟩ := hno (fun s n m sv lv ok e => d1 (all s n m sv lv ok e).2.1)
    simp (config := { maxSteps := 1000000 }) +decide only [NoH, Old, OldL, nilQ, nilA, asgn, nz, RechL, ReY, isNew, stepO, XPost, postN, XOk, updN, updU, isEff, avalue, aeff, ASt.eval, ASt.put, ASt.set, ASt.new, Nat.reduceDiv, Nat.reduceAdd, Int.reduceToNat, absV, absC, scalar, alen, acap, conc, flats, live, blkOf, aload, rd, part?, afieldAddr, afield, aindexAddr, cellsOf, afill, places, abuild, optI, asliceV, asliceS, szOk, srcCells, aappend, acopy, astore, amakeSlice, abuildSlice, snapL, mapO, treeL, AVal.tree, AVal.flatT, isFlat, ares, isFz, afroz, afrozB, lookupA, lookupH, tops, if_true, if_false, reduceCtorEq, forall_const, ite_true, ite_false, implies_true, walkS, tabS, Tryd.results20, eq_false d1, mapC_nil]
    rfl
  by_cases d2 : NumOk w2
  case neg =>
    obtain ⟨rfl, rfl, rfl, rfl, rfl, rfl⟩ := hno (fun s n m sv lv ok e => d2 (all s n m sv lv ok e).2.2.1)
    simp (config := { maxSteps := 1000000 }) +decide only [NoH, Old, OldL, nilQ, nilA, asgn, nz, RechL, ReY, isNew, stepO, XPost, postN, XOk, updN, updU, isEff, avalue, aeff, ASt.eval, ASt.put, ASt.set, ASt.new, Nat.reduceDiv, Nat.reduceAdd, Int.reduceToNat, absV, absC, scalar, alen, acap, conc, flats, live, blkOf, aload, rd, part?, afieldAddr, afield, aindexAddr, cellsOf, afill, places, abuild, optI, asliceV, asliceS, szOk, srcCells, aappend, acopy, astore, amakeSlice, abuildSlice, snapL, mapO, treeL, AVal.tree, AVal.flatT, isFlat, ares, isFz, afroz, afrozB, lookupA, lookupH, tops, if_true, if_false, reduceCtorEq, forall_const, ite_true, ite_false, implies_true, walkS, tabS, Tryd.results20, eq_true d1, eq_false d2, mapC_nil]
    rfl
  by_cases d3 : NumOk w3
  case neg =>
    obtain ⟨rfl, rfl, rfl, rfl, rfl, rfl⟩ := hno (fun s n m sv lv ok e => d3 (all s n m sv lv ok e).2.2.2.1)
    simp (config := { maxSteps := 1000000 }) +decide only [NoH, Old, OldL, nilQ, nilA, asgn, nz, RechL, ReY, isNew, stepO, XPost, postN, XOk, updN, updU, isEff, avalue, aeff, ASt.eval, ASt.put, ASt.set, ASt.new, Nat.reduceDiv, Nat.reduceAdd, Int.reduceToNat, absV, absC, scalar, alen, acap, conc, flats, live, blkOf, aload, rd, part?, afieldAddr, afield, aindexAddr, cellsOf, afill, places, abuild, optI, asliceV, asliceS, szOk, srcCells, aappend, acopy, astore, amakeSlice, abuildSlice, snapL, mapO, treeL, AVal.tree, AVal.flatT, isFlat, ares, isFz, afroz, afrozB, lookupA, lookupH, tops, if_true, if_false, reduceCtorEq, forall_const, ite_true, ite_false, implies_true, walkS, tabS, Tryd.results20, eq_true d1, eq_true d2, eq_false d3, mapC_nil]
    rfl
  have z1 := num_itoa d1
  have z2 := num_itoa d2
  have z3 := num_itoa d3
  have all2 : ∀ (s : Int) (n m : Nat) (sv lv : List Int), OkRas s n m sv lv → T = gridK wRas s n m sv lv n m → numV w1 = s ∧ numV w2 = n ∧ numV w3 = m ∧ TL.length = m + 1 ∧ ∀ k, k < m → TL[k]? = some (rowT sv lv n k) := fun s n m sv lv ok e => by
    obtain ⟨_, _, _, _, k5, k6, k7, k8, _, k10⟩ := all s n m sv lv ok e
    exact ⟨k5, k6, k7, k8, k10⟩
  have dS := den_l04Size (numV w1) (numV w2) (numV w3)
  generalize numV w1 = s at *
  generalize hv2 : numV w2 = nI at *
  generalize hv3 : numV w3 = mI at *
  simp (config := { maxSteps := 1000000 }) +decide only [NoH, Old, OldL, nilQ, nilA, asgn, nz, RechL, ReY, isNew, stepO, XPost, postN, XOk, updN, updU, isEff, avalue, aeff, ASt.eval, ASt.put, ASt.set, ASt.new, Nat.reduceDiv, Nat.reduceAdd, Int.reduceToNat, absV, absC, scalar, alen, acap, conc, flats, live, blkOf, aload, rd, part?, afieldAddr, afield, aindexAddr, cellsOf, afill, places, abuild, optI, asliceV, asliceS, szOk, srcCells, aappend, acopy, astore, amakeSlice, abuildSlice, snapL, mapO, treeL, AVal.tree, AVal.flatT, isFlat, ares, isFz, afroz, afrozB, lookupA, lookupH, tops, if_true, if_false, reduceCtorEq, forall_const, ite_true, ite_false, implies_true, walkS, tabS, Tryd.results20, eq_true d1, eq_true d2, eq_true d3]
  refine callK (dS) (by first | exact .inl rfl | exact .inr rfl) ?_
  by_cases dz : Sized s nI mI
  case neg =>
    obtain ⟨rfl, rfl, rfl, rfl, rfl, rfl⟩ := hno (fun s' n m sv lv ok e => by
      obtain ⟨rfl, k6, k7, _⟩ := all2 s' n m sv lv ok e
      rw [k6, k7] at dz
      exact dz ok.1)
    simp (config := { maxSteps := 1000000 }) +decide only [NoH, Old, OldL, nilQ, nilA, asgn, nz, RechL, ReY, isNew, stepO, XPost, postN, XOk, updN, updU, isEff, avalue, aeff, ASt.eval, ASt.put, ASt.set, ASt.new, Nat.reduceDiv, Nat.reduceAdd, Int.reduceToNat, absV, absC, scalar, alen, acap, conc, flats, live, blkOf, aload, rd, part?, afieldAddr, afield, aindexAddr, cellsOf, afill, places, abuild, optI, asliceV, asliceS, szOk, srcCells, aappend, acopy, astore, amakeSlice, abuildSlice, snapL, mapO, treeL, AVal.tree, AVal.flatT, isFlat, ares, isFz, afroz, afrozB, lookupA, lookupH, tops, if_true, if_false, reduceCtorEq, forall_const, ite_true, ite_false, implies_true, walkS, tabS, Tryd.results20, eq_false dz, mapC_nil]
    rfl
  obtain ⟨n, rfl⟩ : ∃ n : Nat, nI = n := ⟨nI.toNat, by have := dz.2.1; omega⟩
  obtain ⟨m, rfl⟩ : ∃ m : Nat, mI = m := ⟨mI.toNat, by have := dz.2.2.1; omega⟩
  have n24 : n ≤ 24 := by have := dz.2.1; omega
  have m24 : m ≤ 24 := by have := dz.2.2.1; omega
  have w2' : IntKind.i64.wrap ((m : Int) + 2) = ((m + 2 : Nat) : Int) := wrap64 (by omega) (by omega)
  by_cases cl : TL.length + 1 = m + 2
  case neg =>
    have clI : ¬ ((TL.length + 1 : Nat) : Int) = ((m + 2 : Nat) : Int) := by omega
    obtain ⟨rfl, rfl, rfl, rfl, rfl, rfl⟩ := hno (fun s' n' m' sv lv ok e => by
      obtain ⟨_, _, k7, k8, _⟩ := all2 s' n' m' sv lv ok e
      omega)
    simp (config := { maxSteps := 1000000 }) +decide only [NoH, Old, OldL, nilQ, nilA, asgn, nz, RechL, ReY, isNew, stepO, XPost, postN, XOk, updN, updU, isEff, avalue, aeff, ASt.eval, ASt.put, ASt.set, ASt.new, Nat.reduceDiv, Nat.reduceAdd, Int.reduceToNat, absV, absC, scalar, alen, acap, conc, flats, live, blkOf, aload, rd, part?, afieldAddr, afield, aindexAddr, cellsOf, afill, places, abuild, optI, asliceV, asliceS, szOk, srcCells, aappend, acopy, astore, amakeSlice, abuildSlice, snapL, mapO, treeL, AVal.tree, AVal.flatT, isFlat, ares, isFz, afroz, afrozB, lookupA, lookupH, tops, if_true, if_false, reduceCtorEq, forall_const, ite_true, ite_false, implies_true, walkS, tabS, Tryd.results20, eq_true dz, ll, w2', eq_false clI, mapC_nil]
    rfl
  have clI : ((TL.length + 1 : Nat) : Int) = ((m + 2 : Nat) : Int) := by omega
  simp (config := { maxSteps := 1000000 }) +decide only [NoH, Old, OldL, nilQ, nilA, asgn, nz, RechL, ReY, isNew, stepO, XPost, postN, XOk, updN, updU, isEff, avalue, aeff, ASt.eval, ASt.put, ASt.set, ASt.new, Nat.reduceDiv, Nat.reduceAdd, Int.reduceToNat, absV, absC, scalar, alen, acap, conc, flats, live, blkOf, aload, rd, part?, afieldAddr, afield, aindexAddr, cellsOf, afill, places, abuild, optI, asliceV, asliceS, szOk, srcCells, aappend, acopy, astore, amakeSlice, abuildSlice, snapL, mapO, treeL, AVal.tree, AVal.flatT, isFlat, ares, isFz, afroz, afrozB, lookupA, lookupH, tops, if_true, if_false, reduceCtorEq, forall_const, ite_true, ite_false, implies_true, walkS, tabS, Tryd.results20, eq_true dz, ll, w2', eq_true clI]
  have tl1 : TL.length = m + 1 := by omega
  refine ex_loop (fun p : {p : Nat × Nat × Nat × Nat × List Int × List Int // p.1 ≤ m ∧ p.2.2.2.2.1.length = p.1 * n ∧ p.2.2.2.2.2.length = p.1 * n ∧ (∀ j, j < p.1 → TL[j]? = some (rowT p.2.2.2.2.1 p.2.2.2.2.2 n j)) ∧ (∀ (s' : Int) (n' m' : Nat) (sv lv : List Int), OkRas s' n' m' sv lv → T = gridK wRas s' n' m' sv lv n' m' → p.2.2.2.2.1 = sv.take (p.1 * n) ∧ p.2.2.2.2.2 = lv.take (p.1 * n))} => mkG (ghs [] []) [(2, .ptr 2 0 0), (4, strs (x0 :: TL)), (8, .i n), (10, .i m), (12, .ptr 12 1 0), (13, .i ((p.1.1 + 1 : Nat) : Int))] [(2, ⟨0, 5, [.i 0, .i 0, .i 0, .nl, .nl]⟩), (12, ⟨1, 5, [.i s, .i n, .i m, .own 153 p.1.2.1 0 p.1.2.2.2.2.1.length, .own 158 p.1.2.2.1 0 p.1.2.2.2.2.2.length]⟩), (153, ⟨p.1.2.1, 1, mapC AVal.i p.1.2.2.2.2.1⟩), (158, ⟨p.1.2.2.1, 1, mapC AVal.i p.1.2.2.2.2.2⟩)] p.1.2.2.2.1 164) (fun p => m - p.1.1) ⟨(0, 2, 3, 4, [], []), Nat.zero_le _, by simp, by simp, by simp, by simp⟩ ?_ ?_
  · refine weak_mk rfl (by first | exact Nat.le_refl _ | (simp only [mk_gen]; omega)) ?_ ?_ <;> simp +decide only [w_lookup_nil, w_lookup_cons, ch_ch, ch_lit, lit_ch, wkT, wkH, wkB, WVL, WV_refl', Int.natCast_zero, Int.natCast_add, Int.natCast_one, Nat.sub_self, Nat.sub_zero, List.replicate_zero, List.take_zero, List.nil_append, List.append_nil, fillC_zero, Nat.reduceDiv, Nat.reduceAdd, upd_bk, bk_at, getB_zero, getB_succ, modB_zero, modB_succ, rows_lit, repB_zero, repB_succ, List.length_cons, List.length_nil, upd_upd_same, upd_apply, mk_tmp, mk_heap, mk_gen, lookupA, lookupH, List.getD_cons_zero, List.getD_cons_succ, init_two, tops, Bool.true_and, and_self, and_true, true_and, true_or, if_true, if_false, ite_true, ite_false, reduceCtorEq, reduceIte, mapC_nil, List.length_nil, Int.zero_add]
    exact .inr ⟨WV_nl rfl rfl rfl rfl, WV_nl rfl rfl rfl rfl⟩
  rintro ⟨⟨k, g1, g2, G, A, B⟩, j1, j2, j3, j4, j5⟩
  have k1 : k ≤ m := j1
  have lA : A.length = k * n := j2
  have lB : B.length = k * n := j3
  have rws : ∀ j, j < k → TL[j]? = some (rowT A B n j) := j4
  have pre : ∀ (s' : Int) (n' m' : Nat) (sv lv : List Int), OkRas s' n' m' sv lv → T = gridK wRas s' n' m' sv lv n' m' → A = sv.take (k * n) ∧ B = lv.take (k * n) := j5
  have tA : A.take A.length = A := List.take_length
  have tB : B.take B.length = B := List.take_length
  by_cases hlt : k < m
  case neg =>
    have ek : k = m := by omega
    subst ek
    have hltI : ¬ ((k + 1 : Nat) : Int) ≤ (k : Int) := by omega
    have dO := den_l20Ok s n k A B
    by_cases ok : OkRas s n k A B
    · have zl : TL[k]? = some [] := by
        rcases lastE with h | ⟨q, h1, h2⟩
        · omega
        · rw [show k = q from by omega, h2, cz]
      have eT : T = gridK wRas s n k A B n k := grid_of hL (head_of hW cw z1 z2 z3) (rows_of tl1 rws zl)
      obtain ⟨rfl, rfl, rfl, rfl, rfl, rfl⟩ := hyes s n k A B ok eT
      simp (config := { maxSteps := 1000000 }) +decide only [NoH, Old, OldL, nilQ, nilA, asgn, nz, RechL, ReY, isNew, stepO, XPost, postN, XOk, updN, updU, isEff, avalue, aeff, ASt.eval, ASt.put, ASt.set, ASt.new, Nat.reduceDiv, Nat.reduceAdd, Int.reduceToNat, absV, absC, scalar, alen, acap, conc, flats, live, blkOf, aload, rd, part?, afieldAddr, afield, aindexAddr, cellsOf, afill, places, abuild, optI, asliceV, asliceS, szOk, srcCells, aappend, acopy, astore, amakeSlice, abuildSlice, snapL, mapO, treeL, AVal.tree, AVal.flatT, isFlat, ares, isFz, afroz, afrozB, lookupA, lookupH, tops, if_true, if_false, reduceCtorEq, forall_const, ite_true, ite_false, implies_true, walkS, tabS, Tryd.results20, eq_false hltI, tA, tB, treeL_i]
      refine callK dO (.inr rfl) ?_
      simp (config := { maxSteps := 1000000 }) +decide only [NoH, Old, OldL, nilQ, nilA, asgn, nz, RechL, ReY, isNew, stepO, XPost, postN, XOk, updN, updU, isEff, avalue, aeff, ASt.eval, ASt.put, ASt.set, ASt.new, Nat.reduceDiv, Nat.reduceAdd, Int.reduceToNat, absV, absC, scalar, alen, acap, conc, flats, live, blkOf, aload, rd, part?, afieldAddr, afield, aindexAddr, cellsOf, afill, places, abuild, optI, asliceV, asliceS, szOk, srcCells, aappend, acopy, astore, amakeSlice, abuildSlice, snapL, mapO, treeL, AVal.tree, AVal.flatT, isFlat, ares, isFz, afroz, afrozB, lookupA, lookupH, tops, if_true, if_false, reduceCtorEq, forall_const, ite_true, ite_false, implies_true, walkS, tabS, Tryd.results20, eq_true ok, tA, tB, treeL_i]
    · obtain ⟨rfl, rfl, rfl, rfl, rfl, rfl⟩ := hno (fun s' n' m' sv lv ok' e => by
        obtain ⟨p1, p2⟩ := pre s' n' m' sv lv ok' e
        obtain ⟨rfl, k6, k7, _⟩ := all2 s' n' m' sv lv ok' e
        have e6 : n = n' := by omega
        have e7 : k = m' := by omega
        subst e6
        subst e7
        have q1 := ok'.2.1
        have q2 := ok'.2.2.1
        have em : ((k * n : Nat) : Int) = (n : Int) * k := by rw [Nat.mul_comm]; exact Int.natCast_mul n k
        rw [List.take_of_length_le (by omega)] at p1
        rw [List.take_of_length_le (by omega)] at p2
        rw [p1, p2] at ok
        exact ok ok')
      simp (config := { maxSteps := 1000000 }) +decide only [NoH, Old, OldL, nilQ, nilA, asgn, nz, RechL, ReY, isNew, stepO, XPost, postN, XOk, updN, updU, isEff, avalue, aeff, ASt.eval, ASt.put, ASt.set, ASt.new, Nat.reduceDiv, Nat.reduceAdd, Int.reduceToNat, absV, absC, scalar, alen, acap, conc, flats, live, blkOf, aload, rd, part?, afieldAddr, afield, aindexAddr, cellsOf, afill, places, abuild, optI, asliceV, asliceS, szOk, srcCells, aappend, acopy, astore, amakeSlice, abuildSlice, snapL, mapO, treeL, AVal.tree, AVal.flatT, isFlat, ares, isFz, afroz, afrozB, lookupA, lookupH, tops, if_true, if_false, reduceCtorEq, forall_const, ite_true, ite_false, implies_true, walkS, tabS, Tryd.results20, eq_false hltI, tA, tB, treeL_i]
      refine callK dO (.inr rfl) ?_
      simp (config := { maxSteps := 1000000 }) +decide only [NoH, Old, OldL, nilQ, nilA, asgn, nz, RechL, ReY, isNew, stepO, XPost, postN, XOk, updN, updU, isEff, avalue, aeff, ASt.eval, ASt.put, ASt.set, ASt.new, Nat.reduceDiv, Nat.reduceAdd, Int.reduceToNat, absV, absC, scalar, alen, acap, conc, flats, live, blkOf, aload, rd, part?, afieldAddr, afield, aindexAddr, cellsOf, afill, places, abuild, optI, asliceV, asliceS, szOk, srcCells, aappend, acopy, astore, amakeSlice, abuildSlice, snapL, mapO, treeL, AVal.tree, AVal.flatT, isFlat, ares, isFz, afroz, afrozB, lookupA, lookupH, tops, if_true, if_false, reduceCtorEq, forall_const, ite_true, ite_false, implies_true, walkS, tabS, Tryd.results20, eq_false ok, tA, tB, treeL_i, mapC_nil]
      rfl
  have hltI : ((k + 1 : Nat) : Int) ≤ (m : Int) := by omega
  have hk : k < TL.length := by omega
  have gk : (mapC AVal.t (x0 :: TL))[k + 1]? = some (.t TL[k]) := gG (x0 :: TL) (k + 1) (by simp; omega)
  have pk : k + 1 < TL.length + 1 := by omega
  have pkI : ((k + 1 : Nat) : Int) < ((TL.length + 1 : Nat) : Int) := by omega
  have bk := bT TL[k] (List.getElem_mem hk)
  have hq := den_l01Split TL[k] 32 (by omega)
  rw [show (((32 : UInt8).toNat : Nat) : Int) = 32 from rfl] at hq
  have ql := (spG_len 32 TL[k] []).2
  have qj := spG_join 32 TL[k] []
  have qr : ∀ (s' : Int) (n' m' : Nat) (sv lv : List Int), OkRas s' n' m' sv lv → T = gridK wRas s' n' m' sv lv n' m' → n' = n ∧ spG 32 [] TL[k] = [numsT (rowL sv n k), numsT (rowL lv n k)] ∧ (rowL sv n k).length = n ∧ (rowL lv n k).length = n ∧ (∀ x ∈ rowL sv n k, In12 x) ∧ ∀ x ∈ rowL lv n k, In12 x := fun s' n' m' sv lv ok e => by
    obtain ⟨_, k6, k7, _, k9⟩ := all2 s' n' m' sv lv ok e
    have e6 : n = n' := by omega
    have e7 : m = m' := by omega
    subst e6
    subst e7
    have h := k9 k hlt
    rw [List.getElem?_eq_getElem hk] at h
    have q1 := ok.2.1
    have q2 := ok.2.2.1
    have em : ((n * m : Nat) : Int) = (n : Int) * m := Int.natCast_mul n m
    rw [Option.some.inj h, row_read]
    exact ⟨rfl, rfl, rowL_len (h := m) (by omega) hlt, rowL_len (h := m) (by omega) hlt, rowL_in (ras_in12 ok).1, rowL_in (ras_in12 ok).2⟩
  generalize hQ : spG 32 [] TL[k] = Q at *
  by_cases c2 : Q.length = 2
  case neg =>
    have c2I : ¬ (Q.length : Int) = 2 := by omega
    obtain ⟨rfl, rfl, rfl, rfl, rfl, rfl⟩ := hno (fun s' n' m' sv lv ok' e => c2 (by rw [(qr s' n' m' sv lv ok' e).2.1]; rfl))
    simp (config := { maxSteps := 1000000 }) +decide only [NoH, Old, OldL, nilQ, nilA, asgn, nz, RechL, ReY, isNew, stepO, XPost, postN, XOk, updN, updU, isEff, avalue, aeff, ASt.eval, ASt.put, ASt.set, ASt.new, Nat.reduceDiv, Nat.reduceAdd, Int.reduceToNat, absV, absC, scalar, alen, acap, conc, flats, live, blkOf, aload, rd, part?, afieldAddr, afield, aindexAddr, cellsOf, afill, places, abuild, optI, asliceV, asliceS, szOk, srcCells, aappend, acopy, astore, amakeSlice, abuildSlice, snapL, mapO, treeL, AVal.tree, AVal.flatT, isFlat, ares, isFz, afroz, afrozB, lookupA, lookupH, tops, if_true, if_false, reduceCtorEq, forall_const, ite_true, ite_false, implies_true, walkS, tabS, Tryd.results20, eq_true hltI, ll, gk, pk, pkI]
    refine callK (hq) (by first | exact .inl rfl | exact .inr rfl) ?_
    simp (config := { maxSteps := 1000000 }) +decide only [NoH, Old, OldL, nilQ, nilA, asgn, nz, RechL, ReY, isNew, stepO, XPost, postN, XOk, updN, updU, isEff, avalue, aeff, ASt.eval, ASt.put, ASt.set, ASt.new, Nat.reduceDiv, Nat.reduceAdd, Int.reduceToNat, absV, absC, scalar, alen, acap, conc, flats, live, blkOf, aload, rd, part?, afieldAddr, afield, aindexAddr, cellsOf, afill, places, abuild, optI, asliceV, asliceS, szOk, srcCells, aappend, acopy, astore, amakeSlice, abuildSlice, snapL, mapO, treeL, AVal.tree, AVal.flatT, isFlat, ares, isFz, afroz, afrozB, lookupA, lookupH, tops, if_true, if_false, reduceCtorEq, forall_const, ite_true, ite_false, implies_true, walkS, tabS, Tryd.results20, eq_false c2I, mapC_nil]
    rfl
  obtain ⟨u1, u2, rfl⟩ : ∃ a b, Q = [a, b] := by
    match Q, c2 with
    | [a, b], _ => exact ⟨a, b, rfl⟩
  have lQ : ([u1, u2] : List (List UInt8)).length = 2 := rfl
  have y0 : (mapC AVal.t [u1, u2])[0]? = some (.t u1) := rfl
  have y1 : (mapC AVal.t [u1, u2])[1]? = some (.t u2) := rfl
  have r1 := den_specReadList u1 (by have := ql u1 (by simp); simp at this; omega)
  have r2 := den_specReadList u2 (by have := ql u2 (by simp); simp at this; omega)
  have qr2 : ∀ (s' : Int) (n' m' : Nat) (sv lv : List Int), OkRas s' n' m' sv lv → T = gridK wRas s' n' m' sv lv n' m' → n' = n ∧ TlOk u1 ∧ TlOk u2 ∧ lsV u1 = rowL sv n k ∧ lsV u2 = rowL lv n k ∧ (lsV u1).length = n ∧ (lsV u2).length = n := fun s' n' m' sv lv ok e => by
    obtain ⟨t1, t2, t3, t4, t5, t6⟩ := qr s' n' m' sv lv ok e
    simp only [List.cons.injEq, and_true] at t2
    obtain ⟨rfl, rfl⟩ := t2
    have x1 := list_of (xs := rowL sv n k) (by omega) t5
    have x2 := list_of (xs := rowL lv n k) (by omega) t6
    exact ⟨t1, x1.1, x2.1, x1.2, x2.2, by rw [x1.2]; exact t3, by rw [x2.2]; exact t4⟩
  simp (config := { maxSteps := 1000000 }) +decide only [NoH, Old, OldL, nilQ, nilA, asgn, nz, RechL, ReY, isNew, stepO, XPost, postN, XOk, updN, updU, isEff, avalue, aeff, ASt.eval, ASt.put, ASt.set, ASt.new, Nat.reduceDiv, Nat.reduceAdd, Int.reduceToNat, absV, absC, scalar, alen, acap, conc, flats, live, blkOf, aload, rd, part?, afieldAddr, afield, aindexAddr, cellsOf, afill, places, abuild, optI, asliceV, asliceS, szOk, srcCells, aappend, acopy, astore, amakeSlice, abuildSlice, snapL, mapO, treeL, AVal.tree, AVal.flatT, isFlat, ares, isFz, afroz, afrozB, lookupA, lookupH, tops, if_true, if_false, reduceCtorEq, forall_const, ite_true, ite_false, implies_true, walkS, tabS, Tryd.results20, eq_true hltI, ll, gk, pk, pkI]
  refine callK (hq) (by first | exact .inl rfl | exact .inr rfl) ?_
  simp (config := { maxSteps := 1000000 }) +decide only [NoH, Old, OldL, nilQ, nilA, asgn, nz, RechL, ReY, isNew, stepO, XPost, postN, XOk, updN, updU, isEff, avalue, aeff, ASt.eval, ASt.put, ASt.set, ASt.new, Nat.reduceDiv, Nat.reduceAdd, Int.reduceToNat, absV, absC, scalar, alen, acap, conc, flats, live, blkOf, aload, rd, part?, afieldAddr, afield, aindexAddr, cellsOf, afill, places, abuild, optI, asliceV, asliceS, szOk, srcCells, aappend, acopy, astore, amakeSlice, abuildSlice, snapL, mapO, treeL, AVal.tree, AVal.flatT, isFlat, ares, isFz, afroz, afrozB, lookupA, lookupH, tops, if_true, if_false, reduceCtorEq, forall_const, ite_true, ite_false, implies_true, walkS, tabS, Tryd.results20, lQ, y0, y1]
  refine callK (r1) (by first | exact .inl rfl | exact .inr rfl) ?_
  simp (config := { maxSteps := 1000000 }) +decide only [NoH, Old, OldL, nilQ, nilA, asgn, nz, RechL, ReY, isNew, stepO, XPost, postN, XOk, updN, updU, isEff, avalue, aeff, ASt.eval, ASt.put, ASt.set, ASt.new, Nat.reduceDiv, Nat.reduceAdd, Int.reduceToNat, absV, absC, scalar, alen, acap, conc, flats, live, blkOf, aload, rd, part?, afieldAddr, afield, aindexAddr, cellsOf, afill, places, abuild, optI, asliceV, asliceS, szOk, srcCells, aappend, acopy, astore, amakeSlice, abuildSlice, snapL, mapO, treeL, AVal.tree, AVal.flatT, isFlat, ares, isFz, afroz, afrozB, lookupA, lookupH, tops, if_true, if_false, reduceCtorEq, forall_const, ite_true, ite_false, implies_true, walkS, tabS, Tryd.results20, lQ, y1]
  refine callK (r2) (by first | exact .inl rfl | exact .inr rfl) ?_
  by_cases f1 : TlOk u1
  case neg =>
    obtain ⟨rfl, rfl, rfl, rfl, rfl, rfl⟩ := hno (fun s' n' m' sv lv ok' e => f1 (qr2 s' n' m' sv lv ok' e).2.1)
    simp (config := { maxSteps := 1000000 }) +decide only [NoH, Old, OldL, nilQ, nilA, asgn, nz, RechL, ReY, isNew, stepO, XPost, postN, XOk, updN, updU, isEff, avalue, aeff, ASt.eval, ASt.put, ASt.set, ASt.new, Nat.reduceDiv, Nat.reduceAdd, Int.reduceToNat, absV, absC, scalar, alen, acap, conc, flats, live, blkOf, aload, rd, part?, afieldAddr, afield, aindexAddr, cellsOf, afill, places, abuild, optI, asliceV, asliceS, szOk, srcCells, aappend, acopy, astore, amakeSlice, abuildSlice, snapL, mapO, treeL, AVal.tree, AVal.flatT, isFlat, ares, isFz, afroz, afrozB, lookupA, lookupH, tops, if_true, if_false, reduceCtorEq, forall_const, ite_true, ite_false, implies_true, walkS, tabS, Tryd.results20, eq_false f1, mapC_nil]
    rfl
  by_cases f2 : TlOk u2
  case neg =>
    obtain ⟨rfl, rfl, rfl, rfl, rfl, rfl⟩ := hno (fun s' n' m' sv lv ok' e => f2 (qr2 s' n' m' sv lv ok' e).2.2.1)
    simp (config := { maxSteps := 1000000 }) +decide only [NoH, Old, OldL, nilQ, nilA, asgn, nz, RechL, ReY, isNew, stepO, XPost, postN, XOk, updN, updU, isEff, avalue, aeff, ASt.eval, ASt.put, ASt.set, ASt.new, Nat.reduceDiv, Nat.reduceAdd, Int.reduceToNat, absV, absC, scalar, alen, acap, conc, flats, live, blkOf, aload, rd, part?, afieldAddr, afield, aindexAddr, cellsOf, afill, places, abuild, optI, asliceV, asliceS, szOk, srcCells, aappend, acopy, astore, amakeSlice, abuildSlice, snapL, mapO, treeL, AVal.tree, AVal.flatT, isFlat, ares, isFz, afroz, afrozB, lookupA, lookupH, tops, if_true, if_false, reduceCtorEq, forall_const, ite_true, ite_false, implies_true, walkS, tabS, Tryd.results20, eq_true f1, eq_false f2, mapC_nil]
    rfl
  have l1 := (list_nums f1).1
  have l2 := (list_nums f2).1
  generalize lsV u1 = X at *
  generalize lsV u2 = Y at *
  by_cases f3 : X.length = n
  case neg =>
    have f3I : ¬ (X.length : Int) = (n : Int) := by omega
    obtain ⟨rfl, rfl, rfl, rfl, rfl, rfl⟩ := hno (fun s' n' m' sv lv ok' e => f3 (qr2 s' n' m' sv lv ok' e).2.2.2.2.2.1)
    simp (config := { maxSteps := 1000000 }) +decide only [NoH, Old, OldL, nilQ, nilA, asgn, nz, RechL, ReY, isNew, stepO, XPost, postN, XOk, updN, updU, isEff, avalue, aeff, ASt.eval, ASt.put, ASt.set, ASt.new, Nat.reduceDiv, Nat.reduceAdd, Int.reduceToNat, absV, absC, scalar, alen, acap, conc, flats, live, blkOf, aload, rd, part?, afieldAddr, afield, aindexAddr, cellsOf, afill, places, abuild, optI, asliceV, asliceS, szOk, srcCells, aappend, acopy, astore, amakeSlice, abuildSlice, snapL, mapO, treeL, AVal.tree, AVal.flatT, isFlat, ares, isFz, afroz, afrozB, lookupA, lookupH, tops, if_true, if_false, reduceCtorEq, forall_const, ite_true, ite_false, implies_true, walkS, tabS, Tryd.results20, eq_true f1, eq_true f2, eq_false f3I, mapC_nil]
    rfl
  have f3I : (X.length : Int) = (n : Int) := by omega
  by_cases f4 : Y.length = n
  case neg =>
    have f4I : ¬ (Y.length : Int) = (n : Int) := by omega
    obtain ⟨rfl, rfl, rfl, rfl, rfl, rfl⟩ := hno (fun s' n' m' sv lv ok' e => f4 (qr2 s' n' m' sv lv ok' e).2.2.2.2.2.2)
    simp (config := { maxSteps := 1000000 }) +decide only [NoH, Old, OldL, nilQ, nilA, asgn, nz, RechL, ReY, isNew, stepO, XPost, postN, XOk, updN, updU, isEff, avalue, aeff, ASt.eval, ASt.put, ASt.set, ASt.new, Nat.reduceDiv, Nat.reduceAdd, Int.reduceToNat, absV, absC, scalar, alen, acap, conc, flats, live, blkOf, aload, rd, part?, afieldAddr, afield, aindexAddr, cellsOf, afill, places, abuild, optI, asliceV, asliceS, szOk, srcCells, aappend, acopy, astore, amakeSlice, abuildSlice, snapL, mapO, treeL, AVal.tree, AVal.flatT, isFlat, ares, isFz, afroz, afrozB, lookupA, lookupH, tops, if_true, if_false, reduceCtorEq, forall_const, ite_true, ite_false, implies_true, walkS, tabS, Tryd.results20, eq_true f1, eq_true f2, eq_true f3I, eq_false f4I, mapC_nil]
    rfl
  have f4I : (Y.length : Int) = (n : Int) := by omega
  have wk : IntKind.i64.wrap (((k + 1 : Nat) : Int) + 1) = ((k + 1 + 1 : Nat) : Int) := wrap64 (by omega) (by omega)
  have sn : ∀ A B : List Int, mapC AVal.i A ++ mapC AVal.i B = mapC AVal.i (A ++ B) := fun A B => by simp [mapC]
  have km : k * n ≤ 24 * 24 := Nat.mul_le_mul (by omega) n24
  have e1 : (k + 1) * n = k * n + n := Nat.succ_mul k n
  have h8 : (A.length + X.length) * 8 ≤ 140737488355328 := by omega
  have h9 : (B.length + Y.length) * 8 ≤ 140737488355328 := by omega
  have tX : X.take X.length = X := List.take_length
  have tY : Y.take Y.length = Y := List.take_length
  have i1 : (A ++ X).length = (k + 1) * n := by rw [List.length_append]; omega
  have i2 : (B ++ Y).length = (k + 1) * n := by rw [List.length_append]; omega
  have i3 : ∀ j, j < k + 1 → TL[j]? = some (rowT (A ++ X) (B ++ Y) n j) := fun j hj => by
    by_cases c : j < k
    · rw [rowT_old lA lB c]
      exact rws j c
    · have e : j = k := by omega
      subst e
      rw [List.getElem?_eq_getElem hk]
      unfold rowT
      rw [rowL_new lA f3, rowL_new lB f4, ← l1, ← l2]
      rw [join_cons2] at qj
      rw [List.nil_append] at qj
      rw [← qj]
      simp [Lib.join, Lib.joinTail]
  have i4 : ∀ (s' : Int) (n' m' : Nat) (sv lv : List Int), OkRas s' n' m' sv lv → T = gridK wRas s' n' m' sv lv n' m' → A ++ X = sv.take ((k + 1) * n) ∧ B ++ Y = lv.take ((k + 1) * n) := fun s' n' m' sv lv ok e => by
    obtain ⟨p1, p2⟩ := pre s' n' m' sv lv ok e
    obtain ⟨_, _, _, q1, q2, _⟩ := qr2 s' n' m' sv lv ok e
    rw [p1, p2, q1, q2]
    exact ⟨rowL_snoc, rowL_snoc⟩
  simp (config := { maxSteps := 1000000 }) +decide only [NoH, Old, OldL, nilQ, nilA, asgn, nz, RechL, ReY, isNew, stepO, XPost, postN, XOk, updN, updU, isEff, avalue, aeff, ASt.eval, ASt.put, ASt.set, ASt.new, Nat.reduceDiv, Nat.reduceAdd, Int.reduceToNat, absV, absC, scalar, alen, acap, conc, flats, live, blkOf, aload, rd, part?, afieldAddr, afield, aindexAddr, cellsOf, afill, places, abuild, optI, asliceV, asliceS, szOk, srcCells, aappend, acopy, astore, amakeSlice, abuildSlice, snapL, mapO, treeL, AVal.tree, AVal.flatT, isFlat, ares, isFz, afroz, afrozB, lookupA, lookupH, tops, if_true, if_false, reduceCtorEq, forall_const, ite_true, ite_false, implies_true, walkS, tabS, Tryd.results20, eq_true f1, eq_true f2, eq_true f3I, eq_true f4I, wk, sn, tA, tB, tX, tY, h8, h9]
  refine ⟨⟨(k + 1, G, G + 1, G + 2, A ++ X, B ++ Y), hlt, i1, i2, i3, i4⟩, ?_, by show m - (k + 1) < m - k; omega⟩
  refine weak_mk rfl (by first | exact Nat.le_refl _ | (simp only [mk_gen]; omega)) ?_ ?_ <;> simp +decide only [w_lookup_nil, w_lookup_cons, ch_ch, ch_lit, lit_ch, wkT, wkH, wkB, WVL, WV_refl', Int.natCast_zero, Int.natCast_add, Int.natCast_one, Nat.sub_self, Nat.sub_zero, List.replicate_zero, List.take_zero, List.nil_append, List.append_nil, fillC_zero, Nat.reduceDiv, Nat.reduceAdd, upd_bk, bk_at, getB_zero, getB_succ, modB_zero, modB_succ, rows_lit, repB_zero, repB_succ, List.length_cons, List.length_nil, upd_upd_same, upd_apply, mk_tmp, mk_heap, mk_gen, lookupA, lookupH, List.getD_cons_zero, List.getD_cons_succ, init_two, tops, Bool.true_and, and_self, and_true, true_and, true_or, if_true, if_false, ite_true, ite_false, reduceCtorEq, reduceIte, List.length_append]
end Go.Proofs.YtiaemddmkmfijaaDoor
