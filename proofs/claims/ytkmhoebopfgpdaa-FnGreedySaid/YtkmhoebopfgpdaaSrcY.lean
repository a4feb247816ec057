/-
  OWN WORK: the source of choices: each draw with one of many outcomes.
-/
import Derived.Test.YtkmhoebopfgpdaaSrc
import Derived.Test.YtkmhoebopfgpdaaOwnW
namespace Go.Proofs.Ytkmhoebopfgpdaa
open Go Go.Own Go.Proofs
set_option maxHeartbeats 4000000
set_option maxRecDepth 20000
set_option linter.unusedSimpArgs false
theorem mapC_lit {α : Type} (f : α → AVal) (x : α) (l : List α) : mapC f (x :: l) = f x :: mapC f l := rfl
theorem deny_next {bs : List Int} (hb : Byt bs) (s : SrcS) (hs : s.1 ≤ 1000000000000) : DenY Try.prog 92 [srcX bs s] (fun i : SrcS × Int => i.1.1 ≤ s.1 + 1 ∧ 0 ≤ i.2 ∧ i.2 ≤ 255) (fun i => [srcX bs i.1]) (fun i => xi i.2) :=
  (denx_next hb s hs).denY.mono fun _ _ => ⟨(nx bs s, nv bs s), ⟨by rw [nx_fst]; omega, nv_in hb s⟩, rfl, rfl⟩
theorem deny_pick {bs : List Int} (hb : Byt bs) (n : Int) (s : SrcS) (hs : s.1 ≤ 100000000000) : DenY Try.prog 69 [srcX bs s, xi n] (fun i : SrcS × Int => i.1.1 ≤ s.1 + 2 ∧ 0 ≤ i.2 ∧ (1 ≤ n → i.2 < n)) (fun i => [srcX bs i.1, xi n]) (fun i => xi i.2) :=
  (denx_pick hb n s hs).denY.mono fun _ _ => ⟨(pkS bs n s, pkV bs n s), ⟨pkS_le bs n s, pkV_in hb n s⟩, rfl, rfl⟩
theorem deny_one {bs : List Int} (hb : Byt bs) (n : Int) (s : SrcS) (hs : s.1 ≤ 100000000000) : DenY Try.prog 64 [srcX bs s, xi n] (fun i : SrcS × Bool => i.1.1 ≤ s.1 + 2) (fun i => [srcX bs i.1, xi n]) (fun i => xb i.2) :=
  (denx_one hb n s hs).denY.mono fun _ _ => ⟨(pkS bs n s, _), pkS_le bs n s, rfl, rfl⟩
theorem deny_among {bs : List Int} (hb : Byt bs) (L : List Int) (hL : L ≠ []) (m : Int) (hm : (L.length : Int) = m) (s : SrcS) (hs : s.1 ≤ 100000000000) : DenY Try.prog 70 [srcX bs s, .v (ints L)] (fun i : SrcS × Int => i.1.1 ≤ s.1 + 2 ∧ i.2 ∈ L) (fun i => [srcX bs i.1, .v (ints L)]) (fun i => xi i.2) :=
  (denx_among hb L hL m hm s hs).denY.mono fun _ _ => ⟨(pkS bs m s, amV bs L s), ⟨pkS_le bs m s, amV_mem hb hL s⟩, rfl, rfl⟩
end Go.Proofs.Ytkmhoebopfgpdaa
