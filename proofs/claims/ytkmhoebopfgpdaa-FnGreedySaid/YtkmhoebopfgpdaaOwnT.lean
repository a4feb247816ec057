/-
  OWN WORK, generic over any program: regions that draw, with two operations in no order: it is enough to walk both orders.
-/
import Derived.Test.YtkmhoebopfgpdaaOwnS
namespace Go.Own
open Go Go.RowKit
variable [GL]
set_option linter.unusedSectionVars false
set_option linter.unusedVariables false

section
variable {P : Program} {Q : Exit → Act → World → Prop}
/-- it neither calls nor waits -/
def plainR : Result Next → Bool
  | .ok (.value _) _ => true
  | .ok .skip _ => true
  | .ok _ _ => false
  | .halt _ _ => true
theorem plainR_v (s : Sem Value) (w : World) : plainR ((do pure (Next.value (← s)) : Sem Next).run P w) = true := by
  rw [Sem.run_bind]
  cases s.run P w <;> rfl
theorem plainR_u (s : Sem Unit) (w : World) : plainR ((do s; pure Next.skip : Sem Next).run P w) = true := by
  rw [Sem.run_bind]
  cases s.run P w <;> rfl
theorem valOp_plain {o : Oper} (h : valOp o.op = true) (ρ : Operand → Value) (w : World) : plainR ((execOp ρ o).run P w) = true := by
  unfold execOp
  generalize o.op = op at h ⊢
  cases op <;> first | exact plainR_v _ _ | exact plainR_u _ _ | rfl | (exfalso; revert h; simp only [valOp]; decide)
theorem wp_and {o : Oper} (hv : valOp o.op = true) {K1 K2 : Act → World → Prop} {a : Act} {w : World} (h1 : o.wp P a w K1 Q) (h2 : o.wp P a w K2 Q) : o.wp P a w (fun a w => K1 a w ∧ K2 a w) Q := by
  have h := valOp_plain (P := P) hv a.eval w
  unfold Oper.wp at *
  generalize (execOp a.eval o).run P w = r at *
  cases r with
  | ok n w' => cases n <;> first | exact ⟨h1, h2⟩ | exact absurd h (by simp [plainR])
  | halt x w' => cases x <;> exact h1
theorem wp_after (o : Oper) (x : Array Edge) {K : Act → World → Prop} {a : Act} {w : World} : Oper.wp P { o with after := x } a w K Q = Oper.wp P o a w K Q := by
  cases o; rfl
theorem asks_after (o : Oper) (x : Array Edge) {a : Act} {w : World} : Oper.asks P { o with after := x } a w = Oper.asks P o a w := by
  cases o; rfl
theorem wpOp_eq {ops : Array Oper} {k : Nat} {o : Oper} (ho : ops[k]? = some o) (hg : o.guard = none) {K : Act → World → Prop} {a : Act} {w : World} : wpOp P ops Q k K a w = (o.wp P a w K Q ∨ (o.asks P a w ∧ LetsOut Q)) := by
  unfold wpOp
  rw [ho]
  simp [Region.wanted, hg]
/-- the same operation, but for its place in the order -/
def SameO (o o' : Oper) : Prop := ∃ x, o' = { o with after := x }
theorem wpOp_same {ops ops' : Array Oper} {k k' : Nat} {o o' : Oper} (ho : ops[k]? = some o) (ho' : ops'[k']? = some o') (hs : SameO o o') (hg : o.guard = none) {K : Act → World → Prop} {a : Act} {w : World} (h : wpOp P ops' Q k' K a w) : wpOp P ops Q k K a w := by
  obtain ⟨x, rfl⟩ := hs
  rw [wpOp_eq ho hg]
  rw [wpOp_eq ho' hg, wp_after, asks_after] at h
  exact h
theorem wpOp_and {ops : Array Oper} {k : Nat} {o : Oper} (ho : ops[k]? = some o) (hg : o.guard = none) (hv : valOp o.op = true) {K1 K2 : Act → World → Prop} {a : Act} {w : World} (h1 : wpOp P ops Q k K1 a w) (h2 : wpOp P ops Q k K2 a w) : wpOp P ops Q k (fun a w => K1 a w ∧ K2 a w) a w := by
  rw [wpOp_eq ho hg] at *
  rcases h1 with h1 | h1
  · rcases h2 with h2 | h2
    · exact .inl (wp_and hv h1 h2)
    · exact .inr h2
  · exact .inr h1

/-- 'ops1' is 'ops' with 'j' behind 'i' -/
structure AddTo (ops ops1 : Array Oper) (i j : Nat) : Prop where
  size : ops1.size = ops.size
  none : ∀ (k : Nat) (o : Oper), ops[k]? = some o → o.guard = Option.none ∧ valOp o.op = true
  rest : ∀ k : Nat, k ≠ j → ops1[k]? = ops[k]?
  at' : ∀ o : Oper, ops[j]? = some o → ops1[j]? = some { o with after := o.after.push ⟨i, .data⟩ }
theorem getD_set' {l : Array Bool} {i k : Nat} (hi : i < l.size) : (l.setIfInBounds i true).getD k false = if k = i then true else l.getD k false := by
  simp only [Array.getD_eq_getD_getElem?, Array.getElem?_setIfInBounds]
  by_cases e : k = i
  · subst e; simp [hi]
  · simp [e, Ne.symm e]
theorem ready_lt {ops : Array Oper} {listed : Array Bool} {k : Nat} (h : k ∈ Region.ready .any ops listed) : k < ops.size := by
  obtain ⟨_, o, ho, _⟩ := mem_ready.1 h
  exact (Array.getElem?_eq_some_iff.1 ho).1
theorem AddTo.ready {ops ops1 : Array Oper} {i j : Nat} (A : AddTo ops ops1 i j) {listed : Array Bool} {k : Nat} (hk : k ≠ j ∨ listed.getD i false = true) : k ∈ Region.ready .any ops1 listed ↔ k ∈ Region.ready .any ops listed := by
  rw [mem_ready, mem_ready]
  by_cases e : k = j
  · subst e
    have hi : listed.getD i false = true := hk.resolve_left fun h => h rfl
    constructor
    · rintro ⟨h1, o', ho', h2⟩
      have hlt := (Array.getElem?_eq_some_iff.1 ho').1
      rw [A.size] at hlt
      have ho : ops[k]? = some ops[k] := Array.getElem?_eq_getElem hlt
      have := A.at' _ ho
      rw [ho'] at this
      obtain rfl := Option.some.inj this
      exact ⟨h1, _, ho, fun e he => h2 e (by simp [he])⟩
    · rintro ⟨h1, o, ho, h2⟩
      refine ⟨h1, _, A.at' _ ho, fun e he hb => ?_⟩
      rcases Array.mem_push.1 he with he | he
      · exact h2 e he hb
      · subst he; exact hi
  · rw [A.rest k e]
theorem AddTo.sub {ops ops1 : Array Oper} {i j : Nat} (A : AddTo ops ops1 i j) {listed : Array Bool} {k : Nat} (h : k ∈ Region.ready .any ops1 listed) : k ∈ Region.ready .any ops listed := by
  by_cases e : k = j
  · subst e
    obtain ⟨h1, o', ho', h2⟩ := mem_ready.1 h
    have hlt := (Array.getElem?_eq_some_iff.1 ho').1
    rw [A.size] at hlt
    have ho : ops[k]? = some ops[k] := Array.getElem?_eq_getElem hlt
    have := A.at' _ ho
    rw [ho'] at this
    obtain rfl := Option.some.inj this
    exact mem_ready.2 ⟨h1, _, ho, fun e he => h2 e (by simp [he])⟩
  · exact (A.ready (.inl e)).1 h
theorem AddTo.same {ops ops1 : Array Oper} {i j : Nat} (A : AddTo ops ops1 i j) {k : Nat} {o : Oper} (ho : ops[k]? = some o) : ∃ o', ops1[k]? = some o' ∧ SameO o o' := by
  by_cases e : k = j
  · subst e; exact ⟨_, A.at' _ ho, _, rfl⟩
  · exact ⟨o, by rw [A.rest k e]; exact ho, o.after, rfl⟩
theorem ready_nil {ops ops' : Array Oper} {listed listed' : Array Bool} (h : ∀ k, k ∈ Region.ready .any ops' listed' → ∃ k', k' ∈ Region.ready .any ops listed) (hr : Region.ready .any ops listed = []) : Region.ready .any ops' listed' = [] := by
  cases hq : Region.ready .any ops' listed' with
  | nil => rfl
  | cons k l =>
    obtain ⟨k', h1⟩ := h k (by rw [hq]; simp)
    rw [hr] at h1
    simp at h1
/-- behind the first of the two, the edge binds no more -/
theorem any_after {ops ops1 : Array Oper} {i j : Nat} (A : AddTo ops ops1 i j) : ∀ (fuel : Nat) (listed : Array Bool) (a : Act) (w : World), listed.size = ops.size → listed.getD i false = true → wpAny P .any ops1 Q fuel listed a w → wpAny P .any ops Q fuel listed a w := by
  intro fuel
  induction fuel with
  | zero =>
    intro listed a w hsz hi h
    exact ⟨ready_nil (fun k hk => ⟨k, (A.ready (.inr hi)).2 hk⟩) h.1, h.2⟩
  | succ fuel ih =>
    intro listed a w hsz hi h
    refine ⟨fun hr => h.1 (ready_nil (fun k hk => ⟨k, (A.ready (.inr hi)).1 hk⟩) hr), fun k hk => ?_⟩
    have h1 := h.2 k ((A.ready (.inr hi)).2 hk)
    have hlt := ready_lt hk
    have ho : ops[k]? = some ops[k] := Array.getElem?_eq_getElem hlt
    obtain ⟨o', ho', hs⟩ := A.same ho
    refine wpOp_mono (fun a w hw => ih _ a w (by simpa using hsz) ?_ hw) (wpOp_same ho ho' hs (A.none k _ ho).1 h1)
    rw [getD_set' (by omega)]
    split
    · rfl
    · exact hi
/-- both orders together -/
theorem any_both {ops ops1 ops2 : Array Oper} {i j : Nat} (hij : i ≠ j) (hi : i < ops.size) (A : AddTo ops ops1 i j) (B : AddTo ops ops2 j i) : ∀ (fuel : Nat) (listed : Array Bool) (a : Act) (w : World), listed.size = ops.size → listed.getD i false = false → listed.getD j false = false →
    cu (fun k => listed.getD k false) ops.size ≤ fuel → wpAny P .any ops1 Q fuel listed a w → wpAny P .any ops2 Q fuel listed a w → wpAny P .any ops Q fuel listed a w := by
  intro fuel
  induction fuel with
  | zero =>
    intro listed a w hsz h1 h2 hc _ _
    have h3 : listed.getD i false = true := cu_zero ops.size (by omega) (L := fun k => listed.getD k false) i hi
    rw [h1] at h3
    simp at h3
  | succ fuel ih =>
    intro listed a w hsz h1 h2 hc g1 g2
    refine ⟨fun hr => g1.1 (ready_nil (fun k hk => ⟨k, A.sub hk⟩) hr), fun k hk => ?_⟩
    have hlt := ready_lt hk
    have ho : ops[k]? = some ops[k] := Array.getElem?_eq_getElem hlt
    obtain ⟨hg, hv⟩ := A.none k _ ho
    obtain ⟨o1, ho1, hs1⟩ := A.same ho
    obtain ⟨o2, ho2, hs2⟩ := B.same ho
    have hsz' : (listed.setIfInBounds k true).size = ops.size := by simpa using hsz
    have hset : ∀ m, (listed.setIfInBounds k true).getD m false = if m = k then true else listed.getD m false := fun m => getD_set' (by omega)
    by_cases eki : k = i
    · subst eki
      refine wpOp_mono (fun a w hw => any_after A fuel _ a w hsz' (by rw [hset, if_pos rfl]) hw) (wpOp_same ho ho1 hs1 hg (g1.2 k ((A.ready (.inl hij)).2 hk)))
    by_cases ekj : k = j
    · subst ekj
      refine wpOp_mono (fun a w hw => any_after B fuel _ a w hsz' (by rw [hset, if_pos rfl]) hw) (wpOp_same ho ho2 hs2 hg (g2.2 k ((B.ready (.inl eki)).2 hk)))
    have q1 := wpOp_same ho ho1 hs1 hg (g1.2 k ((A.ready (.inl ekj)).2 hk))
    have q2 := wpOp_same ho ho2 hs2 hg (g2.2 k ((B.ready (.inl eki)).2 hk))
    refine wpOp_mono (fun a w hw => ih _ a w hsz' ?_ ?_ ?_ hw.1 hw.2) (wpOp_and ho hg hv q1 q2)
    · rw [hset, if_neg (Ne.symm eki)]; exact h1
    · rw [hset, if_neg (Ne.symm ekj)]; exact h2
    · have hL : listed.getD k false = false := by
        obtain ⟨h1, _⟩ := mem_ready.1 hk
        have h3 : k < listed.size := by omega
        simp only [Array.getD_eq_getD_getElem?, Array.getElem?_eq_getElem h3, Option.getD_some] at h1 ⊢
        exact h1
      have := cu_set (L := fun m => listed.getD m false) (L' := fun m => (listed.setIfInBounds k true).getD m false) (i := k) hL (by simp only [hset]; simp) (fun m hm => by simp only [hset, hm, if_false]) ops.size
      rw [if_pos hlt] at this
      omega

/-! an operation put behind another in the text -/
def rtN (i j m : Nat) : Nat := if m = j then i else if i ≤ m ∧ m < j then m + 1 else m
theorem rtN_trN {i j : Nat} (h : i < j) (k : Nat) : rtN i j (trN i j k) = k := by
  unfold trN rtN
  repeat' split
  all_goals omega
theorem trN_rtN {i j : Nat} (h : i < j) (k : Nat) : trN i j (rtN i j k) = k := by
  unfold trN rtN
  repeat' split
  all_goals omega
theorem trN_lt {i j k n : Nat} (hi : i < n) (hj : j < n) (h : k < n) : trN i j k < n := by
  unfold trN
  repeat' split
  all_goals omega
theorem rtN_lt {i j k n : Nat} (hi : i < n) (hj : j < n) (h : k < n) : rtN i j k < n := by
  unfold rtN
  repeat' split
  all_goals omega
structure SwapOf (ops ops' : Array Oper) (i j : Nat) : Prop where
  size : ops'.size = ops.size
  none : ∀ (k : Nat) (o : Oper), ops[k]? = some o → o.guard = Option.none
  at' : ∀ (k : Nat) (o : Oper), ops[k]? = some o → ops'[trN i j k]? = some (renO i j o)
  lt : i < ops.size ∧ j < ops.size
  ij : i < j
theorem SwapOf.ready {ops ops' : Array Oper} {i j : Nat} (A : SwapOf ops ops' i j) {listed listed' : Array Bool} (hsz : listed.size = ops.size) (hsz' : listed'.size = ops.size) (hl : ∀ k, listed'.getD (trN i j k) false = listed.getD k false) {k : Nat} :
    k ∈ Region.ready .any ops listed ↔ k < ops.size ∧ trN i j k ∈ Region.ready .any ops' listed' := by
  have key : ∀ {L : Array Bool} {m : Nat}, m < L.size → L.getD m true = L.getD m false := fun {L m} h => by
    simp [Array.getD_eq_getD_getElem?, Array.getElem?_eq_getElem h]
  rw [mem_ready, mem_ready]
  constructor
  · rintro ⟨h1, o, ho, h2⟩
    have hlt := (Array.getElem?_eq_some_iff.1 ho).1
    refine ⟨hlt, ?_, _, A.at' k o ho, fun e he hb => ?_⟩
    · rw [key (by rw [hsz']; exact trN_lt A.lt.1 A.lt.2 hlt), hl, ← key (by omega)]
      exact h1
    · obtain ⟨e0, he0, rfl⟩ := Array.mem_map.1 he
      show listed'.getD (trN i j e0.on) false = true
      rw [hl]
      exact h2 e0 he0 hb
  · rintro ⟨hlt, h1, o', ho', h2⟩
    have ho : ops[k]? = some ops[k] := Array.getElem?_eq_getElem hlt
    have := A.at' k _ ho
    rw [ho'] at this
    obtain rfl := Option.some.inj this
    refine ⟨?_, _, ho, fun e he hb => ?_⟩
    · rw [key (by rw [hsz']; exact trN_lt A.lt.1 A.lt.2 hlt), hl, ← key (by omega)] at h1
      exact h1
    · have := h2 (renE i j e) (Array.mem_map.2 ⟨e, he, rfl⟩) hb
      have h3 : listed'.getD (trN i j e.on) false = true := this
      rw [hl] at h3
      exact h3
theorem any_swap {ops ops' : Array Oper} {i j : Nat} (A : SwapOf ops ops' i j) : ∀ (fuel : Nat) (listed listed' : Array Bool) (a : Act) (w : World), listed.size = ops.size → listed'.size = ops.size → (∀ k, listed'.getD (trN i j k) false = listed.getD k false) →
    wpAny P .any ops' Q fuel listed' a w → wpAny P .any ops Q fuel listed a w := by
  intro fuel
  have back : ∀ {listed listed' : Array Bool}, listed.size = ops.size → listed'.size = ops.size → (∀ k, listed'.getD (trN i j k) false = listed.getD k false) → ∀ k, k ∈ Region.ready .any ops' listed' → ∃ k', k' ∈ Region.ready .any ops listed := fun {listed listed'} h1 h2 h3 k hk => by
    refine ⟨rtN i j k, (A.ready h1 h2 h3).2 ⟨rtN_lt A.lt.1 A.lt.2 ?_, ?_⟩⟩
    · have := ready_lt hk
      rw [A.size] at this
      exact this
    · rw [trN_rtN A.ij]; exact hk
  induction fuel with
  | zero =>
    intro listed listed' a w h1 h2 h3 h
    exact ⟨ready_nil (fun k hk => ⟨_, ((A.ready h1 h2 h3).1 hk).2⟩) h.1, h.2⟩
  | succ fuel ih =>
    intro listed listed' a w h1 h2 h3 h
    refine ⟨fun hr => h.1 (ready_nil (back h1 h2 h3) hr), fun k hk => ?_⟩
    obtain ⟨hlt, hk'⟩ := (A.ready h1 h2 h3).1 hk
    have ho : ops[k]? = some ops[k] := Array.getElem?_eq_getElem hlt
    refine wpOp_mono (fun a w hw => ih _ _ a w (by simpa using h1) (by simpa using h2) (fun m => ?_) hw) (wpOp_same ho (A.at' k _ ho) ⟨_, rfl⟩ (A.none k _ ho) (h.2 _ hk'))
    rw [getD_set' (by rw [h2]; exact trN_lt A.lt.1 A.lt.2 hlt), getD_set' (by omega), h3]
    by_cases e : m = k
    · subst e; simp
    · have : ¬ trN i j m = trN i j k := fun h => e (by rw [← rtN_trN A.ij m, h, rtN_trN A.ij])
      rw [if_neg e, if_neg this]

theorem addTo_of {ops : Array Oper} {i j : Nat} (hj : j < ops.size) (h : ∀ (k : Nat) (o : Oper), ops[k]? = some o → o.guard = none ∧ valOp o.op = true) : AddTo ops (addO ops i j) i j := by
  have h1 : ops.toList[j]? = some ops[j] := by simp
  have e : addO ops i j = (ops.toList.set j { ops[j] with after := ops[j].after.push ⟨i, .data⟩ }).toArray := by
    unfold addO addE
    rw [h1]
  refine ⟨by rw [e]; simp, h, fun k hk => ?_, fun o ho => ?_⟩
  · rw [e, List.getElem?_toArray, List.getElem?_set, if_neg (Ne.symm hk)]
    simp
  · rw [e, List.getElem?_toArray, List.getElem?_set, if_pos rfl]
    rw [Array.getElem?_eq_getElem hj] at ho
    obtain rfl := Option.some.inj ho
    simp [hj]
theorem swapOf_of {ops : Array Oper} {i j : Nat} (hij : i < j) (hj : j < ops.size) (h : ∀ (k : Nat) (o : Oper), ops[k]? = some o → o.guard = none) : SwapOf ops (swapL ops.toList i j).toArray i j := by
  have h2 : ops.toList[i]? = some ops[i] := by simp
  have e : swapL ops.toList i j = (ops.toList.take i ++ ((ops.toList.drop (i + 1)).take (j - i) ++ (ops[i] :: ops.toList.drop (j + 1)))).map (renO i j) := by
    unfold swapL
    rw [h2]
  have l1 : (ops.toList.take i).length = i := by simp; omega
  have l2 : ((ops.toList.drop (i + 1)).take (j - i)).length = j - i := by simp; omega
  refine ⟨by rw [e]; simp; omega, h, fun k o ho => ?_, ⟨by omega, hj⟩, hij⟩
  have hk := (Array.getElem?_eq_some_iff.1 ho).1
  rw [Array.getElem?_eq_getElem hk] at ho
  obtain rfl := Option.some.inj ho
  rw [e, List.getElem?_toArray, List.getElem?_map]
  unfold trN
  by_cases e1 : k = i
  · subst e1
    rw [if_pos rfl, List.getElem?_append_right (by omega), List.getElem?_append_right (by omega), l1, l2, show j - k - (j - k) = 0 by omega]
    rfl
  · rw [if_neg e1]
    by_cases e2 : i < k ∧ k ≤ j
    · rw [if_pos e2, List.getElem?_append_right (by omega), List.getElem?_append_left (by omega), l1, List.getElem?_take_of_lt (by omega), List.getElem?_drop, show i + 1 + (k - 1 - i) = k by omega]
      simp [hk]
    · rw [if_neg e2]
      by_cases e3 : k < i
      · rw [List.getElem?_append_left (by omega), List.getElem?_take_of_lt e3]
        simp [hk]
      · rw [List.getElem?_append_right (by omega), List.getElem?_append_right (by omega), l1, l2, show k - i - (j - i) = (k - j - 1) + 1 by omega, List.getElem?_cons_succ, List.getElem?_drop, show j + 1 + (k - j - 1) = k by omega]
        simp [hk]
theorem any_two {ops : Array Oper} {i j : Nat} (h : bothOk ops i j = true) {a : Act} {w : World} (h1 : wpAny P .any (addO ops i j) Q (addO ops i j).size (Array.replicate (addO ops i j).size false) a w) (h2 : wpAny P .any (swapO ops i j) Q (swapO ops i j).size (Array.replicate (swapO ops i j).size false) a w) :
    wpAny P .any ops Q ops.size (Array.replicate ops.size false) a w := by
  unfold bothOk at h
  simp only [Bool.and_eq_true, decide_eq_true_eq, List.all_eq_true, Option.isNone_iff_eq_none] at h
  obtain ⟨⟨hij, hj⟩, hall⟩ := h
  have hall' : ∀ (k : Nat) (o : Oper), ops[k]? = some o → o.guard = none ∧ valOp o.op = true := fun k o ho => hall o (Array.mem_toList_iff.2 (Array.mem_of_getElem? ho))
  have A := addTo_of (i := i) hj hall'
  have B := addTo_of (i := j) (j := i) (by omega) hall'
  have zf : ∀ (n k : Nat), (Array.replicate n false).getD k false = false := fun n k => by
    simp only [Array.getD_eq_getD_getElem?, Array.getElem?_replicate]
    split <;> rfl
  have hB : ∀ (k : Nat) (o : Oper), (addO ops j i)[k]? = some o → o.guard = none := fun k o ho => by
    have hlt := (Array.getElem?_eq_some_iff.1 ho).1
    rw [B.size] at hlt
    obtain ⟨o', ho', x, rfl⟩ := B.same (Array.getElem?_eq_getElem hlt)
    rw [ho] at ho'
    obtain rfl := Option.some.inj ho'
    exact (hall' k _ (Array.getElem?_eq_getElem hlt)).1
  have C : SwapOf (addO ops j i) (swapO ops i j) i j := by
    have := swapOf_of (ops := addO ops j i) (i := i) (j := j) hij (by rw [B.size]; omega) hB
    exact this
  have hcu : ∀ (L : Nat → Bool) n, cu L n ≤ n := fun L n => by
    induction n with
    | zero => exact Nat.le_refl _
    | succ n ih => simp only [cu]; split <;> omega
  rw [A.size] at h1
  rw [C.size, B.size] at h2
  refine any_both (by omega) (by omega) A B _ _ a w (by simp) (zf _ _) (zf _ _) (hcu _ _) h1 (any_swap C _ _ _ a w (by rw [B.size]; simp) (by rw [B.size]; simp) (fun k => by rw [zf, zf]) h2)
end
end Go.Own
