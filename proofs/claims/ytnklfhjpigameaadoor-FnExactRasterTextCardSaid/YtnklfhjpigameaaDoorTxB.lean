/-
  OWN WORK: texts: operators.
  OWN WORK: texts, plain: numerals are read back; joined pieces are split again.
-/
import Derived.Test.YtnklfhjpigameaaDoorBase
import Derived.Lib.ItoaNum
import Derived.Lib.ItoaMem
import Derived.Lib.ParseIntBCases
import Derived.Lib.SplitLaws
import Derived.Lib.Join
namespace Go.Proofs.YtnklfhjpigameaaDoor
open Go Go.Own Go.Proofs
set_option maxHeartbeats 4000000
set_option maxRecDepth 20000
set_option linter.unusedSimpArgs false
set_option linter.unusedVariables false
/-- a text out of its bytes -/
abbrev bt (l : List UInt8) : ByteArray := ⟨l.toArray⟩
theorem bt_data (l : List UInt8) : (bt l).data.toList = l := by simp [bt]
theorem bt_size (l : List UInt8) : (bt l).size = l.length := by simp [bt, ByteArray.size]
theorem bt_inj {a b : List UInt8} (h : bt a = bt b) : a = b := by
  have := congrArg (fun x => x.data.toList) h
  simpa [bt_data] using this
theorem bt_of (x : ByteArray) : bt x.data.toList = x := by
  obtain ⟨⟨l⟩⟩ := x
  rfl
theorem bt_app (a b : List UInt8) : bt a ++ bt b = bt (a ++ b) := by
  apply ByteArray.ext
  simp [bt, ByteArray.data_append]
theorem bt_extract (l : List UInt8) (a b : Nat) : (bt l).extract a b = bt ((l.drop a).take (b - a)) := by
  rw [← bt_of ((bt l).extract a b), Lib.extract_data, bt_data]
def IsDig (c : UInt8) : Prop := 48 ≤ c.toNat ∧ c.toNat ≤ 57
theorem dig_of {d : Nat} (h : d < 10) : (UInt8.ofNat (48 + d)).toNat = 48 + d := by
  rw [UInt8.toNat_ofNat']
  omega
theorem dec_digits (u : Nat) : ∀ c ∈ Lib.decDigits u, IsDig c := by
  induction u using Nat.strongRecOn with
  | _ u ih =>
    intro c hc
    rw [Lib.decDigits] at hc
    split at hc
    · rename_i h
      simp only [List.mem_singleton] at hc
      subst hc
      unfold IsDig
      rw [dig_of h]
      omega
    · rename_i h
      rcases List.mem_append.1 hc with e | e
      · exact ih (u / 10) (by omega) c e
      · simp only [List.mem_singleton] at e
        subst e
        unfold IsDig
        rw [dig_of (by omega)]
        omega
/-- the number with some digits -/
def dval (acc : Nat) (l : List UInt8) : Nat := l.foldl (fun a c => a * 10 + (c.toNat - 48)) acc
theorem dval_ge : ∀ (l : List UInt8) (acc : Nat), acc ≤ dval acc l
  | [], acc => Nat.le_refl _
  | c :: r, acc => by
    have := dval_ge r (acc * 10 + (c.toNat - 48))
    show acc ≤ dval (acc * 10 + (c.toNat - 48)) r
    omega
theorem dval_dec (u : Nat) : dval 0 (Lib.decDigits u) = u := by
  induction u using Nat.strongRecOn with
  | _ u ih =>
    rw [Lib.decDigits]
    split
    · rename_i h
      show 0 * 10 + ((UInt8.ofNat (48 + u)).toNat - 48) = u
      rw [dig_of h]
      omega
    · rename_i h
      unfold dval
      rw [List.foldl_append]
      show (dval 0 (Lib.decDigits (u / 10))) * 10 + ((UInt8.ofNat (48 + u % 10)).toNat - 48) = u
      rw [ih (u / 10) (by omega), dig_of (by omega)]
      omega
theorem parse_val {M : Nat} (hM : M ≤ 18446744073709551615) : ∀ (l : List UInt8) (acc : Nat), (∀ c ∈ l, IsDig c) → dval acc l ≤ M → Lib.parseUintM M acc l = .ok (dval acc l)
  | [], acc, _, _ => rfl
  | c :: r, acc, h, hv => by
    have hc := h c (by simp)
    have hv' : dval (acc * 10 + (c.toNat - 48)) r ≤ M := hv
    have hg := dval_ge r (acc * 10 + (c.toNat - 48))
    unfold Lib.parseUintM
    rw [if_pos (show 48 ≤ c.toNat ∧ c.toNat ≤ 57 from hc), if_neg (by omega), if_neg (by omega)]
    exact parse_val hM r _ (fun x hx => h x (List.mem_cons_of_mem _ hx)) hv'
theorem dec_ne (u : Nat) : Lib.decDigits u ≠ [] := fun h => by
  have h1 := Lib.decDigits_length u
  have h2 := Lib.nDigits_pos u
  rw [h] at h1
  simp at h1
  omega
theorem parse_dec {n : Int} (h1 : -9000000000000000000 ≤ n) (h2 : n ≤ 9000000000000000000) : Lib.parseIntB 64 (Lib.itoa n) = .ok n := by
  have key : ∀ u : Nat, u ≤ 9000000000000000000 → Lib.parseUintB 64 (Lib.decDigits u) = .ok u := fun u hu => by
    unfold Lib.parseUintB
    rw [if_neg (dec_ne u), parse_val (by decide) _ _ (dec_digits u) (by rw [dval_dec]; omega), dval_dec]
  by_cases hn : n < 0
  · unfold Lib.itoa
    rw [if_pos hn, Lib.parseIntB_minus, key _ (by omega)]
    show (if 2 ^ 63 < n.natAbs then _ else _) = _
    rw [if_neg (by omega)]
    congr 1
    omega
  · unfold Lib.itoa
    rw [if_neg hn]
    have k := key n.toNat (by omega)
    have d := dec_digits n.toNat
    have e := dec_ne n.toNat
    generalize Lib.decDigits n.toNat = l at *
    match l, e with
    | c :: r, _ =>
      have hc := d c (by simp)
      unfold IsDig at hc
      rw [Lib.parseIntB_plain 64 c r (by omega) (by omega), k]
      show (if 2 ^ 63 ≤ n.toNat then _ else _) = _
      rw [if_neg (by omega)]
      congr 1
      omega
theorem nDigits_le : ∀ (k u : Nat), 1 ≤ k → u < 10 ^ k → Lib.nDigits u ≤ k
  | 0, _, h, _ => by omega
  | k + 1, u, _, h => by
    by_cases hu : u < 10
    · rw [Lib.nDigits_small hu]; omega
    · rw [Lib.nDigits_big hu]
      by_cases hk : k = 0
      · subst hk; simp at h; omega
      · have := nDigits_le k (u / 10) (by omega) (by rw [Nat.pow_succ] at h; omega)
        omega
theorem isPre_one (c : UInt8) (l : List UInt8) : [c].isPrefixOf l = true ↔ l.head? = some c := by
  cases l with
  | nil => simp [List.isPrefixOf]
  | cons b r =>
    simp only [List.isPrefixOf, Bool.and_true, beq_iff_eq, List.head?_cons, Option.some.injEq]
    exact eq_comm
theorem trim_dec (n : Int) : Lib.trimPrefix (Lib.itoa n) [45] = Lib.decDigits n.natAbs := by
  unfold Lib.trimPrefix Lib.hasPrefix
  by_cases hn : n < 0
  · have e : Lib.itoa n = 45 :: Lib.decDigits n.natAbs := if_pos hn
    rw [e, if_pos (by simp [List.isPrefixOf])]
    rfl
  · have e : Lib.itoa n = Lib.decDigits n.toNat := if_neg hn
    rw [e, if_neg, show n.natAbs = n.toNat by omega]
    intro h
    rw [isPre_one] at h
    have := dec_digits n.toNat 45 (List.mem_of_mem_head? h)
    exact absurd this (by unfold IsDig; decide)
/-- bytes of numerals -/
def NumC (c : UInt8) : Prop := c = 45 ∨ IsDig c
theorem itoa_numC (n : Int) : ∀ c ∈ Lib.itoa n, NumC c := by
  intro c hc
  unfold Lib.itoa at hc
  split at hc
  · rcases List.mem_cons.1 hc with e | e
    · exact .inl e
    · exact .inr (dec_digits _ c e)
  · exact .inr (dec_digits _ c hc)
theorem numC_not {c : UInt8} (h : NumC c) : c ≠ 44 ∧ c ≠ 32 ∧ c ≠ 10 ∧ c ≠ 46 := by
  rcases h with rfl | ⟨h1, h2⟩
  · decide
  · refine ⟨?_, ?_, ?_, ?_⟩ <;> (intro e; subst e; revert h1 h2; decide)
theorem itoa_ne (n : Int) : Lib.itoa n ≠ [] := by
  unfold Lib.itoa
  split
  · simp
  · exact dec_ne _
theorem itoa_len {n : Int} {k : Nat} (hk : 1 ≤ k) (h : n.natAbs < 10 ^ k) : (Lib.itoa n).length ≤ k + 1 ∧ (Lib.decDigits n.natAbs).length ≤ k := by
  have a := nDigits_le k n.natAbs hk h
  rw [← Lib.decDigits_length] at a
  refine ⟨?_, a⟩
  unfold Lib.itoa
  split
  · simp; omega
  · rw [show n.toNat = n.natAbs by omega]; omega
/-! splitting at one byte -/
theorem index_no {c : UInt8} : ∀ {s : List UInt8}, c ∉ s → Lib.index s [c] = -1
  | [], _ => rfl
  | b :: l, h => by
    have h1 : c ≠ b := fun e => h (by simp [e])
    have h2 : c ∉ l := fun e => h (by simp [e])
    unfold Lib.index
    rw [index_no h2, if_neg (by simp [List.isPrefixOf, h1])]
    rfl
theorem index_at {c : UInt8} : ∀ {s : List UInt8} (r : List UInt8), c ∉ s → Lib.index (s ++ c :: r) [c] = s.length
  | [], r, _ => by
    show Lib.index (c :: r) [c] = 0
    unfold Lib.index
    rw [if_pos (by simp [List.isPrefixOf])]
  | b :: l, r, h => by
    have h1 : c ≠ b := fun e => h (by simp [e])
    have h2 : c ∉ l := fun e => h (by simp [e])
    show Lib.index (b :: (l ++ c :: r)) [c] = _
    unfold Lib.index
    rw [index_at r h2, if_neg (by simp [List.isPrefixOf, h1]), if_neg (by simp <;> omega)]
    simp
/-- pieces and what stands between them -/
theorem splitK_join {c : UInt8} : ∀ (xs : List (List UInt8)) (k : Nat), xs ≠ [] → (∀ x ∈ xs, c ∉ x) → xs.length ≤ k + 1 → Lib.splitK [c] 0 k (Lib.join xs [c]) = xs
  | [], _, h, _, _ => absurd rfl h
  | [x], k, _, h, _ => by
    rw [Lib.join_one]
    have hx := h x (by simp)
    cases k with
    | zero => rfl
    | succ k =>
      unfold Lib.splitK
      rw [index_no hx, if_pos (by rfl)]
  | x :: y :: r, k, _, h, hl => by
    have hx := h x (by simp)
    obtain ⟨m, rfl⟩ : ∃ m, k = m + 1 := ⟨k - 1, by simp at hl; omega⟩
    have e : Lib.join (x :: y :: r) [c] = x ++ c :: Lib.join (y :: r) [c] := by
      rw [Lib.join_cons, Lib.join_cons]
      simp [Lib.joinTail]
    unfold Lib.splitK
    rw [e, index_at _ hx, if_neg (by simp <;> omega)]
    have ih := splitK_join (y :: r) m (by simp) (fun z hz => h z (List.mem_cons_of_mem _ hz)) (by simp at hl ⊢; omega)
    have e1 : (x.length : Int).toNat = x.length := by omega
    rw [e1, Nat.add_zero, List.take_left', List.length_singleton]
    · rw [show x.length + 1 = (x ++ [c]).length by simp, show x ++ c :: Lib.join (y :: r) [c] = (x ++ [c]) ++ Lib.join (y :: r) [c] by simp, List.drop_left, ih]
    · rfl
theorem splitB_bt (sep : List UInt8) (k : Nat) (s : List UInt8) : Lib.splitB (bt sep) 0 k (bt s) = (Lib.splitK sep 0 k s).map bt := by
  have h := Lib.splitB_data (bt sep) 0 k (bt s)
  rw [bt_data, bt_data] at h
  rw [← h, List.map_map]
  have : (bt ∘ fun x : ByteArray => x.data.toList) = id := by
    funext x
    exact bt_of x
  rw [this, List.map_id]
theorem join_length (xs : List (List UInt8)) (c : UInt8) : xs.length ≤ (Lib.join xs [c]).length + 1 := by
  match xs with
  | [] => simp
  | x :: r =>
    rw [Lib.join_cons]
    have : ∀ r : List (List UInt8), r.length ≤ (Lib.joinTail [c] r).length := fun r => by
      induction r with
      | nil => simp
      | cons y r ih => simp [Lib.joinTail] at ih ⊢; omega
    have := this r
    simp
    omega
theorem mem_join {c b : UInt8} : ∀ {xs : List (List UInt8)}, b ∈ Lib.join xs [c] → b = c ∨ ∃ x ∈ xs, b ∈ x
  | [], h => by simp [Lib.join_nil] at h
  | [x], h => by rw [Lib.join_one] at h; exact .inr ⟨x, by simp, h⟩
  | x :: y :: r, h => by
    have e : Lib.join (x :: y :: r) [c] = x ++ c :: Lib.join (y :: r) [c] := by
      rw [Lib.join_cons, Lib.join_cons]
      simp [Lib.joinTail]
    rw [e] at h
    rcases List.mem_append.1 h with g | g
    · exact .inr ⟨x, by simp, g⟩
    · rcases List.mem_cons.1 g with g | g
      · exact .inl g
      · rcases mem_join g with q | ⟨z, hz, q⟩
        · exact .inl q
        · exact .inr ⟨z, List.mem_cons_of_mem _ hz, q⟩
/-- lists of numbers as texts -/
def numsT (xs : List Int) : List UInt8 := if xs = [] then [45] else Lib.join (xs.map Lib.itoa) [44]
theorem numsT_chars (xs : List Int) : ∀ c ∈ numsT xs, c = 44 ∨ NumC c := by
  intro c hc
  unfold numsT at hc
  split at hc
  · simp only [List.mem_singleton] at hc
    exact .inr (.inl hc)
  · rcases mem_join hc with e | ⟨x, hx, e⟩
    · exact .inl e
    · obtain ⟨n, _, rfl⟩ := List.mem_map.1 hx
      exact .inr (itoa_numC n c e)
theorem numsT_no {xs : List Int} {c : UInt8} (h : c = 32 ∨ c = 10) : c ∉ numsT xs := fun hc => by
  rcases numsT_chars xs c hc with e | e
  · subst e; rcases h with h | h <;> exact absurd h (by decide)
  · have := numC_not e
    rcases h with h | h
    · exact this.2.1 h
    · exact this.2.2.1 h
theorem splitK_nums {xs : List Int} (h : xs ≠ []) {k : Nat} (hk : xs.length ≤ k + 1) : Lib.splitK [44] 0 k (numsT xs) = xs.map Lib.itoa := by
  unfold numsT
  rw [if_neg h]
  exact splitK_join _ k (by simpa using h) (fun x hx hc => by
    obtain ⟨n, _, rfl⟩ := List.mem_map.1 hx
    exact (numC_not (itoa_numC n _ hc)).1 rfl) (by simpa using hk)
theorem numsT_ne (xs : List Int) (h : xs ≠ []) (h2 : ∀ x ∈ xs, x.natAbs < 10 ^ 18) : numsT xs ≠ [45] := by
  unfold numsT
  rw [if_neg h]
  match xs, h with
  | x :: r, _ =>
    intro e
    rw [List.map_cons, Lib.join_cons] at e
    by_cases hx : x < 0
    · have e1 : Lib.itoa x = 45 :: Lib.decDigits x.natAbs := if_pos hx
      rw [e1] at e
      simp at e
      exact dec_ne _ e.1
    · have e1 : Lib.itoa x = Lib.decDigits x.toNat := if_neg hx
      rw [e1] at e
      have d := dec_digits x.toNat
      have ne := dec_ne x.toNat
      generalize Lib.decDigits x.toNat = l at *
      match l, ne with
      | c :: t, _ =>
        have := d c (by simp)
        simp at e
        rw [e.1] at this
        exact absurd this (by unfold IsDig; decide)
abbrev _root_.Go.Own.AVal.t (l : List UInt8) : AVal := .flat (.string (bt l))
theorem toList_bt (l : List UInt8) : (bt l).toList = l := by rw [Lib.toList_data, bt_data]
theorem beq_dec {α : Type} [BEq α] [LawfulBEq α] [DecidableEq α] (a b : α) : (a == b) = decide (a = b) := by rw [Bool.eq_iff_iff]; simp
section
variable (P : Program) (t : TypeId) (x y : Operand) (a b : List UInt8)
theorem sem_addT (h : a.length + b.length ≤ 4611686018427387904) : semS P (do eqGuard .add t x y (.string (bt a)) (.string (bt b)); binOp .add t (.string (bt a)) (.string (bt b))) = some (.flat (.string (bt (a ++ b)))) := by
  have e : binOp .add t (.string (bt a)) (.string (bt b)) = (pure (.string (bt (a ++ b))) : Sem Value) := by
    show Op.stringOp .add (bt a) (bt b) = _
    unfold Op.stringOp
    simp only
    have hm : IntKind.i64.max = 9223372036854775807 := by decide
    rw [if_neg (by rw [bt_size, bt_size, hm]; omega), bt_app]
  rw [e]
  rfl
theorem sem_eqlT : semS P (do eqGuard .eql t x y (.string (bt a)) (.string (bt b)); binOp .eql t (.string (bt a)) (.string (bt b))) = some (.flat (.bool (decide (a = b)))) := by
  have e : binOp .eql t (.string (bt a)) (.string (bt b)) = (pure (.bool (decide (a = b))) : Sem Value) := by
    show Op.stringOp .eql (bt a) (bt b) = _
    unfold Op.stringOp
    simp only [toList_bt, beq_dec]
  rw [e]
  rfl
theorem sem_neqT : semS P (do eqGuard .neq t x y (.string (bt a)) (.string (bt b)); binOp .neq t (.string (bt a)) (.string (bt b))) = some (.flat (.bool (!decide (a = b)))) := by
  have e : binOp .neq t (.string (bt a)) (.string (bt b)) = (pure (.bool (!decide (a = b))) : Sem Value) := by
    show Op.stringOp .neq (bt a) (bt b) = _
    unfold Op.stringOp
    simp only [toList_bt, beq_dec]
  rw [e]
  rfl
theorem semv_under {t : TypeId} {d : TypeDesc} (h : P.underlying t = some d) : semv P (underlying t) = some d := by
  simp only [underlying, semv_bind, program, semv, h]
  rfl
theorem semv_bound (k : IntKind) (i : Int) (n : Nat) (c : BoundsCode) (h0 : 0 ≤ i) (h1 : i ≤ n) : semv P (Instr.sliceBound (.int k i) n c) = some i.toNat := by
  have e : Instr.sliceBound (.int k i) n c = (pure i.toNat : Sem Nat) := by
    show (if 0 ≤ i ∧ i ≤ n then pure i.toNat else _) = _
    rw [if_pos ⟨h0, h1⟩]
  rw [e]
  rfl
theorem sem_sliceLo {t : TypeId} (h : P.underlying t = some .string) (k : IntKind) (i : Int) (h0 : 0 ≤ i) (h1 : i ≤ (a.length : Int)) : semS P (Instr.slice t (.string (bt a)) (some (.int k i)) none none) = some (.flat (.string (bt (a.drop i.toNat)))) := by
  have hs : (bt a).size = a.length := bt_size a
  have e : semv P (Instr.slice t (.string (bt a)) (some (.int k i)) none none) = some (.string (bt (a.drop i.toNat))) := by
    unfold Instr.slice
    rw [semv_bind, semv_under P h]
    simp only [Option.isSome_none, Bool.false_eq_true, if_false]
    have q : semv P (Instr.sliceBounds false (bt a).size (bt a).size (some (.int k i)) none none) = some (i.toNat, (bt a).size, (bt a).size) := by
      unfold Instr.sliceBounds
      simp only [semv_bind, semv, pure, Option.isSome_none, Bool.false_eq_true, if_false]
      rw [semv_bound P k i _ _ h0 (by rw [hs]; exact h1)]
    rw [semv_bind]
    simp only [q, semv, pure]
    rw [bt_extract, hs, List.take_of_length_le (by simp)]
  unfold semS
  rw [e]
  rfl
end
theorem sem_indexT (P : Program) {t : TypeId} (h : P.underlying t = some .string) (a : List UInt8) (k : IntKind) (i : Nat) (hi : i < a.length) : semS P (Instr.index t (.string (bt a)) (.int k i)) = some (.flat (.int .u8 (a[i].toNat : Nat))) := by
  have hs : (bt a).size = a.length := bt_size a
  have e : semv P (Instr.index t (.string (bt a)) (.int k i)) = some (.int .u8 (a[i].toNat : Nat)) := by
    unfold Instr.index
    simp only [asIntOf, semv_bind, semv_under P h, semv, pure]
    have h0 : (0 : Int) ≤ (i : Int) := by omega
    have hg : (bt a)[(i : Int).toNat]? = some a[i] := by
      rw [Int.toNat_natCast, getElem?_pos (bt a) i (by rw [hs]; exact hi)]
      rfl
    rw [if_pos h0, hg]
    rfl
  unfold semS
  rw [e]
  rfl
abbrev strs (L : List (List UInt8)) : AVal := lstC AVal.t L
theorem treeL_t (L : List (List UInt8)) : treeL (mapC AVal.t L) = true := treeL_mapC _ _ fun _ => rfl
theorem tree_strs (L : List (List UInt8)) : (strs L).tree = true := by simp only [strs, lstC, AVal.tree, treeL_t]
end Go.Proofs.YtnklfhjpigameaaDoor
