/-
 A part of the proofs over this program: rules and contracts of its functions (the contracts).
-/
import Derived.Test.YtahdccneecdmmaaGreatJ4B05
import Derived.Test.YtahdccneecdmmaaGreatRows
import Derived.WalkKit
import Derived.ProofKit
import Derived.OpenShut
import Derived.Carry
import Derived.ChangeSlices
set_option linter.unusedVariables false
set_option linter.unusedSimpArgs false
set_option maxHeartbeats 8000000
set_option maxRecDepth 4000
attribute [local irreducible] Go.AL.RW Go.AL.AW Go.AL.Stop
namespace Go.Proofs.YtahdccneecdmmaaGreat
open Go.AL Go.RowKit
theorem M0 (ts : List Int) (bd : List AL.Stmt) (pts : List Pnt) (s : Mc) (x : Pnt) (htl : ts.length ≤ 6) (hm : OkM s.cells) (hsl : s.slots.length = ts.length) (ho : x.op = 6) (hrl : s.read.length ≤ 1000) (hx : 0 ≤ x.x ∧ x.x < ts.length) (hy : 0 ≤ x.y ∧ x.y < ts.length) (hz : ¬ bD s.cells s.slots[x.y.toNat]!.ptr false = 0) : MC Tryz.prog 140 [.optr 0 0, dJ x] [(0, some (mO ts bd pts 1 2 s)), (1, some (flat c9 s.slots)), (2, some (flat cI s.read))] 3 (fun _ : Unit => True) (fun _ => iv (dO ts s x).2) (fun _ => [(0, some (mO ts bd pts 1 2 (dO ts s x).1)), (1, some (flat c9 (dO ts s x).1.slots)), (2, some (flat cI (dO ts s x).1.read))]) := by
 have hus := fT ts bd pts x htl
 have hsm : Sm (wS ts x [1, 2, 3]) := bS (by omega)
 obtain ⟨L, hL⟩ : ∃ L, L = aZ (wS ts x [1, 2, 3]) := ⟨_, rfl⟩
 have hLl : L.length ≤ 62 := by rw [hL]; exact b6 _
 have hmem : ∀ k, k < L.length → 0 ≤ L[k]! ∧ L[k]! < s.slots.length := fun k hk => by
  rw [hsl]; exact gQ (by rw [← hL]; exact aR _ _ hk)
 refine aT Tryz.func140 Tryz.ntmps140 ?_
 repeat' (first|(apply aH;first|(apply aA (k := 158);rfl;exact hus;exact Pur.pf;rfl)|(apply aA (k := 120);rfl;(apply fK <;> (assumption));(rfl);rfl))|refine aE ?_|refine aF ?_|refine bO ?_|fail)
 rw [← hL]
 refine aI (σ := Nat) [0, 3, 26, 27] [0, 1, 2, 3] (fun k => [(28, iv (k : Int))]) (fun k => []) (fun k => k ≤ L.length ∧ ∀ j, j < k → s.slots[(L[j]!).toNat]!.set = true) (fun k => L.length - k) (0) ⟨Nat.zero_le _, fun j h => absurd h (by omega)⟩ ?_
 rintro k ⟨hk, hall⟩
 by_cases hkn : k < L.length
 ·have hmk := hmem k hkn
  repeat' (first|refine aE ?_|refine aF ?_|(refine aK ?_ ?_ <;> intro hc hq <;> try (exfalso;omega))|fail)
  ·have hu : cT ts s x = true := (cH htl).2 ⟨L[k]!, by rw [← hL]; exact aR _ _ hkn, by assumption⟩
   rw [uT hu]
   (refine aD rfl ?_; refine aQ () trivial ?_ ⟨.inr (Eq.trans (b := some _) rfl ?_), ⟨.inr (Eq.trans (b := some _) rfl ?_), ⟨.inr (Eq.trans (b := some _) rfl ?_), trivial⟩⟩⟩)
   ·rfl
   ·rfl
   ·rfl
   ·rfl
  ·(refine bC (k + 1) (Le.renA [(3, 3)]) ?_ ?_)
   ·refine ⟨by omega, fun j hj => ?_⟩
    rcases Nat.lt_or_ge j k with h|h
    ·exact hall j h
    ·rw [show j = k by omega]; assumption
   ·omega
 ·have hu : cT ts s x = false := by
   cases q : cT ts s x with
   | false => rfl
   | true =>
    obtain ⟨v, hv, hs⟩ := (cH htl).1 q
    rw [← hL] at hv
    obtain ⟨j, hj, e⟩ := List.getElem_of_mem hv
    have h1 := hall j (by omega)
    rw [bB _ _ hj, e, hs] at h1;cases h1
  rw [qR hu]
  have hrc := qF s.cells hm s.slots[x.y.toNat]!.ptr
  have hd : dG ts s x = (s, e7 (bD s.cells s.slots[x.y.toNat]!.ptr false)) := by unfold dG;rw [if_neg (show ¬ x.op = 1 by omega), if_neg (show ¬ x.op = 2 by omega), if_neg (show ¬ x.op = 3 by omega), if_neg (show ¬ (x.op = 4 ∨ x.op = 5) by omega), if_pos ho, if_neg hz]
  rw [hd]
  repeat' (first|(apply aH;first|(apply iG;(case hx|hH => rfl);(case hf|hg|hα => infer_instance);(case hk => omega);(case hj => decide);(case hc => exact (rfl:_=[_, _]));(case h0|hN => rfl))|(apply aA (k := 202);rfl;exact hrc;exact Pur.pf;rfl)|(apply aA (k := 201);rfl;(apply rC);(rfl);rfl))|refine aE ?_|refine aF ?_|(refine aK ?_ ?_ <;> intro hc hq <;> try (exfalso;omega))|refine bO ?_|fail)
  (refine aD rfl ?_; refine aQ () trivial ?_ ⟨.inr (Eq.trans (b := some _) rfl ?_), ⟨.inr (Eq.trans (b := some _) rfl ?_), ⟨.inr (Eq.trans (b := some _) rfl ?_), trivial⟩⟩⟩)
  ·rfl
  ·rfl
  ·rfl
  ·rfl
theorem Nj (ts : List Int) (bd : List AL.Stmt) (pts : List Pnt) (s : Mc) (x : Pnt) (htl : ts.length ≤ 6) (hm : OkM s.cells) (hsl : s.slots.length = ts.length) (ho : x.op = 7) (hx : 0 ≤ x.x ∧ x.x < ts.length) (hy : 0 ≤ x.y ∧ x.y < ts.length) : MC Tryz.prog 140 [.optr 0 0, dJ x] [(0, some (mO ts bd pts 1 2 s)), (1, some (flat c9 s.slots)), (2, some (flat cI s.read))] 3 (fun _ : Unit => True) (fun _ => iv (dO ts s x).2) (fun _ => [(0, some (mO ts bd pts 1 2 (dO ts s x).1)), (1, some (flat c9 (dO ts s x).1.slots)), (2, some (flat cI (dO ts s x).1.read))]) := by
 have hus := fT ts bd pts x htl
 have hsm : Sm (wS ts x [1, 2, 3]) := bS (by omega)
 obtain ⟨L, hL⟩ : ∃ L, L = aZ (wS ts x [1, 2, 3]) := ⟨_, rfl⟩
 have hLl : L.length ≤ 62 := by rw [hL]; exact b6 _
 have hmem : ∀ k, k < L.length → 0 ≤ L[k]! ∧ L[k]! < s.slots.length := fun k hk => by
  rw [hsl]; exact gQ (by rw [← hL]; exact aR _ _ hk)
 refine aT Tryz.func140 Tryz.ntmps140 ?_
 repeat' (first|(apply aH;first|(apply aA (k := 158);rfl;exact hus;exact Pur.pf;rfl)|(apply aA (k := 120);rfl;(apply fK <;> (assumption));(rfl);rfl))|refine aE ?_|refine aF ?_|refine bO ?_|fail)
 rw [← hL]
 refine aI (σ := Nat) [0, 3, 26, 27] [0, 1, 2, 3] (fun k => [(28, iv (k : Int))]) (fun k => []) (fun k => k ≤ L.length ∧ ∀ j, j < k → s.slots[(L[j]!).toNat]!.set = true) (fun k => L.length - k) (0) ⟨Nat.zero_le _, fun j h => absurd h (by omega)⟩ ?_
 rintro k ⟨hk, hall⟩
 by_cases hkn : k < L.length
 ·have hmk := hmem k hkn
  repeat' (first|refine aE ?_|refine aF ?_|(refine aK ?_ ?_ <;> intro hc hq <;> try (exfalso;omega))|fail)
  ·have hu : cT ts s x = true := (cH htl).2 ⟨L[k]!, by rw [← hL]; exact aR _ _ hkn, by assumption⟩
   rw [uT hu]
   (refine aD rfl ?_; refine aQ () trivial ?_ ⟨.inr (Eq.trans (b := some _) rfl ?_), ⟨.inr (Eq.trans (b := some _) rfl ?_), ⟨.inr (Eq.trans (b := some _) rfl ?_), trivial⟩⟩⟩)
   ·rfl
   ·rfl
   ·rfl
   ·rfl
  ·(refine bC (k + 1) (Le.renA [(3, 3)]) ?_ ?_)
   ·refine ⟨by omega, fun j hj => ?_⟩
    rcases Nat.lt_or_ge j k with h|h
    ·exact hall j h
    ·rw [show j = k by omega]; assumption
   ·omega
 ·have hu : cT ts s x = false := by
   cases q : cT ts s x with
   | false => rfl
   | true =>
    obtain ⟨v, hv, hs⟩ := (cH htl).1 q
    rw [← hL] at hv
    obtain ⟨j, hj, e⟩ := List.getElem_of_mem hv
    have h1 := hall j (by omega)
    rw [bB _ _ hj, e, hs] at h1;cases h1
  rw [qR hu]
  have hwr := x4 s.cells hm s.slots[x.x.toNat]!.ptr s.slots[x.y.toNat]!.num
  have hd : dG ts s x = (⟨s.slots, zM s.cells s.slots[x.x.toNat]!.ptr s.slots[x.y.toNat]!.num, s.read⟩, nX (u7 s.cells s.slots[x.x.toNat]!.ptr s.slots[x.y.toNat]!.num)) := by unfold dG;rw [if_neg (show ¬ x.op = 1 by omega), if_neg (show ¬ x.op = 2 by omega), if_neg (show ¬ x.op = 3 by omega), if_neg (show ¬ (x.op = 4 ∨ x.op = 5) by omega), if_neg (show ¬ x.op = 6 by omega), if_pos ho]
  rw [hd]
  repeat' (first|(apply aH;first|(apply iG;(case hx|hH => rfl);(case hf|hg|hα => infer_instance);(case hk => omega);(case hj => decide);(case hc => exact (rfl:_=[_, _]));(case h0|hN => rfl))|(apply aA (k := 203);rfl;exact hwr;exact Pur.pf;rfl)|(apply aA (k := 201);rfl;(apply rC);(rfl);rfl))|refine aE ?_|refine aF ?_|(refine aK ?_ ?_ <;> intro hc hq <;> try (exfalso;omega))|refine bO ?_|fail)
  ·have hk : ¬ u7 s.cells s.slots[x.x.toNat]!.ptr s.slots[x.y.toNat]!.num = 0 := by assumption
   (refine aD rfl ?_; refine aQ () trivial ?_ ⟨.inr (Eq.trans (b := some _) rfl ?_), ⟨.inr (Eq.trans (b := some _) rfl ?_), ⟨.inr (Eq.trans (b := some _) rfl ?_), trivial⟩⟩⟩)
   ·show iv (e7 _) = iv (nX _)
    unfold nX;rw [if_neg hk]
   ·rfl
   ·rfl
   ·rfl
  ·have hk : u7 s.cells s.slots[x.x.toNat]!.ptr s.slots[x.y.toNat]!.num = 0 := by assumption
   (refine aD rfl ?_; refine aQ () trivial ?_ ⟨.inr (Eq.trans (b := some _) rfl ?_), ⟨.inr (Eq.trans (b := some _) rfl ?_), ⟨.inr (Eq.trans (b := some _) rfl ?_), trivial⟩⟩⟩)
   ·rw [hk]; rfl
   ·rfl
   ·rfl
   ·rfl
theorem M9 (ts : List Int) (bd : List AL.Stmt) (pts : List Pnt) (s : Mc) (x : Pnt) (htl : ts.length ≤ 6) (hm : OkM s.cells) (hsl : s.slots.length = ts.length) (ho : x.op = 8) (hx : 0 ≤ x.x ∧ x.x < ts.length) : MC Tryz.prog 140 [.optr 0 0, dJ x] [(0, some (mO ts bd pts 1 2 s)), (1, some (flat c9 s.slots)), (2, some (flat cI s.read))] 3 (fun _ : Unit => True) (fun _ => iv (dO ts s x).2) (fun _ => [(0, some (mO ts bd pts 1 2 (dO ts s x).1)), (1, some (flat c9 (dO ts s x).1.slots)), (2, some (flat cI (dO ts s x).1.read))]) := by
 have hus := fT ts bd pts x htl
 have hsm : Sm (wS ts x [1, 2, 3]) := bS (by omega)
 obtain ⟨L, hL⟩ : ∃ L, L = aZ (wS ts x [1, 2, 3]) := ⟨_, rfl⟩
 have hLl : L.length ≤ 62 := by rw [hL]; exact b6 _
 have hmem : ∀ k, k < L.length → 0 ≤ L[k]! ∧ L[k]! < s.slots.length := fun k hk => by
  rw [hsl]; exact gQ (by rw [← hL]; exact aR _ _ hk)
 refine aT Tryz.func140 Tryz.ntmps140 ?_
 repeat' (first|(apply aH;first|(apply aA (k := 158);rfl;exact hus;exact Pur.pf;rfl)|(apply aA (k := 120);rfl;(apply fK <;> (assumption));(rfl);rfl))|refine aE ?_|refine aF ?_|refine bO ?_|fail)
 rw [← hL]
 refine aI (σ := Nat) [0, 3, 26, 27] [0, 1, 2, 3] (fun k => [(28, iv (k : Int))]) (fun k => []) (fun k => k ≤ L.length ∧ ∀ j, j < k → s.slots[(L[j]!).toNat]!.set = true) (fun k => L.length - k) (0) ⟨Nat.zero_le _, fun j h => absurd h (by omega)⟩ ?_
 rintro k ⟨hk, hall⟩
 by_cases hkn : k < L.length
 ·have hmk := hmem k hkn
  repeat' (first|refine aE ?_|refine aF ?_|(refine aK ?_ ?_ <;> intro hc hq <;> try (exfalso;omega))|fail)
  ·have hu : cT ts s x = true := (cH htl).2 ⟨L[k]!, by rw [← hL]; exact aR _ _ hkn, by assumption⟩
   rw [uT hu]
   (refine aD rfl ?_; refine aQ () trivial ?_ ⟨.inr (Eq.trans (b := some _) rfl ?_), ⟨.inr (Eq.trans (b := some _) rfl ?_), ⟨.inr (Eq.trans (b := some _) rfl ?_), trivial⟩⟩⟩)
   ·rfl
   ·rfl
   ·rfl
   ·rfl
  ·(refine bC (k + 1) (Le.renA [(3, 3)]) ?_ ?_)
   ·refine ⟨by omega, fun j hj => ?_⟩
    rcases Nat.lt_or_ge j k with h|h
    ·exact hall j h
    ·rw [show j = k by omega]; assumption
   ·omega
 ·have hu : cT ts s x = false := by
   cases q : cT ts s x with
   | false => rfl
   | true =>
    obtain ⟨v, hv, hs⟩ := (cH htl).1 q
    rw [← hL] at hv
    obtain ⟨j, hj, e⟩ := List.getElem_of_mem hv
    have h1 := hall j (by omega)
    rw [bB _ _ hj, e, hs] at h1;cases h1
  rw [qR hu]
  have hfr := Fe ts bd pts s x.x hm hsl hx
  have hd : dG ts s x = (⟨s.slots.set x.x.toNat mQ, kW s.cells s.slots[x.x.toNat]!.ptr, s.read⟩, nX (bD s.cells s.slots[x.x.toNat]!.ptr true)) := by unfold dG;rw [if_neg (show ¬ x.op = 1 by omega), if_neg (show ¬ x.op = 2 by omega), if_neg (show ¬ x.op = 3 by omega), if_neg (show ¬ (x.op = 4 ∨ x.op = 5) by omega), if_neg (show ¬ x.op = 6 by omega), if_neg (show ¬ x.op = 7 by omega), if_pos ho]
  rw [hd]
  repeat' (first|(apply aH;first|(apply EA (ts := ts) (bd := bd) (pts := pts) (s := s) (v := x.x);rfl;rfl;rfl;rfl;rfl;rfl;exact hfr;rfl;rfl)|(apply a7;rfl;rfl;rfl;rfl;rfl;(rw [aJ]; simp only [gB] <;> omega);(exact vH (by (omega)))))|refine aE ?_|refine aF ?_|(refine aK ?_ ?_ <;> intro hc hq <;> try (exfalso;omega))|refine bO ?_|fail)
  (refine aD rfl ?_; refine aQ () trivial ?_ ⟨.inr (Eq.trans (b := some _) rfl ?_), ⟨.inr (Eq.trans (b := some _) rfl ?_), ⟨.inr (Eq.trans (b := some _) rfl ?_), trivial⟩⟩⟩)
  ·rfl
  ·rfl
  ·rfl
  ·rfl
theorem MU (ts : List Int) (bd : List AL.Stmt) (pts : List Pnt) (s : Mc) (x : Pnt) (htl : ts.length ≤ 6) (hm : OkM s.cells) (hsl : s.slots.length = ts.length) (ho : x.op = 9 ∨ x.op = 10 ∨ x.op = 11) : MC Tryz.prog 140 [.optr 0 0, dJ x] [(0, some (mO ts bd pts 1 2 s)), (1, some (flat c9 s.slots)), (2, some (flat cI s.read))] 3 (fun _ : Unit => True) (fun _ => iv (dO ts s x).2) (fun _ => [(0, some (mO ts bd pts 1 2 (dO ts s x).1)), (1, some (flat c9 (dO ts s x).1.slots)), (2, some (flat cI (dO ts s x).1.read))]) := by
 have hus := fT ts bd pts x htl
 have hsm : Sm (wS ts x [1, 2, 3]) := bS (by omega)
 obtain ⟨L, hL⟩ : ∃ L, L = aZ (wS ts x [1, 2, 3]) := ⟨_, rfl⟩
 have hLl : L.length ≤ 62 := by rw [hL]; exact b6 _
 have hmem : ∀ k, k < L.length → 0 ≤ L[k]! ∧ L[k]! < s.slots.length := fun k hk => by
  rw [hsl]; exact gQ (by rw [← hL]; exact aR _ _ hk)
 refine aT Tryz.func140 Tryz.ntmps140 ?_
 repeat' (first|(apply aH;first|(apply aA (k := 158);rfl;exact hus;exact Pur.pf;rfl)|(apply aA (k := 120);rfl;(apply fK <;> (assumption));(rfl);rfl))|refine aE ?_|refine aF ?_|refine bO ?_|fail)
 rw [← hL]
 refine aI (σ := Nat) [0, 3, 26, 27] [0, 1, 2, 3] (fun k => [(28, iv (k : Int))]) (fun k => []) (fun k => k ≤ L.length ∧ ∀ j, j < k → s.slots[(L[j]!).toNat]!.set = true) (fun k => L.length - k) (0) ⟨Nat.zero_le _, fun j h => absurd h (by omega)⟩ ?_
 rintro k ⟨hk, hall⟩
 by_cases hkn : k < L.length
 ·have hmk := hmem k hkn
  repeat' (first|refine aE ?_|refine aF ?_|(refine aK ?_ ?_ <;> intro hc hq <;> try (exfalso;omega))|fail)
  ·have hu : cT ts s x = true := (cH htl).2 ⟨L[k]!, by rw [← hL]; exact aR _ _ hkn, by assumption⟩
   rw [uT hu]
   (refine aD rfl ?_; refine aQ () trivial ?_ ⟨.inr (Eq.trans (b := some _) rfl ?_), ⟨.inr (Eq.trans (b := some _) rfl ?_), ⟨.inr (Eq.trans (b := some _) rfl ?_), trivial⟩⟩⟩)
   ·rfl
   ·rfl
   ·rfl
   ·rfl
  ·(refine bC (k + 1) (Le.renA [(3, 3)]) ?_ ?_)
   ·refine ⟨by omega, fun j hj => ?_⟩
    rcases Nat.lt_or_ge j k with h|h
    ·exact hall j h
    ·rw [show j = k by omega]; assumption
   ·omega
 ·have hu : cT ts s x = false := by
   cases q : cT ts s x with
   | false => rfl
   | true =>
    obtain ⟨v, hv, hs⟩ := (cH htl).1 q
    rw [← hL] at hv
    obtain ⟨j, hj, e⟩ := List.getElem_of_mem hv
    have h1 := hall j (by omega)
    rw [bB _ _ hj, e, hs] at h1;cases h1
  rw [qR hu]
  by_cases h11 : x.op = 11
  ·have hd : dG ts s x = cV ts ts.length 0 s := Gj h11
   rw [hd]
   have hfi := LC ts bd pts s hm hsl (by omega)
   repeat' (first|(apply aH;(apply JH (ts := ts) (bd := bd) (pts := pts) (s := s);rfl;rfl;rfl;rfl;rfl;exact hfi;rfl;rfl))|refine aE ?_|refine aF ?_|(refine aK ?_ ?_ <;> intro hc hq <;> try (exfalso;omega))|fail)
   (refine aD rfl ?_; refine aQ () trivial ?_ ⟨.inr (Eq.trans (b := some _) rfl ?_), ⟨.inr (Eq.trans (b := some _) rfl ?_), ⟨.inr (Eq.trans (b := some _) rfl ?_), trivial⟩⟩⟩)
   ·rfl
   ·rfl
   ·rfl
   ·rfl
  ·have hd : dG ts s x = (s, -1) := by unfold dG; rw [if_neg (show ¬ x.op = 1 by omega), if_neg (show ¬ x.op = 2 by omega), if_neg (show ¬ x.op = 3 by omega), if_neg (show ¬ (x.op = 4 ∨ x.op = 5) by omega), if_neg (show ¬ x.op = 6 by omega), if_neg (show ¬ x.op = 7 by omega), if_neg (show ¬ x.op = 8 by omega), if_neg (show ¬ x.op = 11 by omega)]
   rw [hd]
   repeat' (first|refine aE ?_|refine aF ?_|(refine aK ?_ ?_ <;> intro hc hq <;> try (exfalso;omega))|fail)
   (refine aD rfl ?_; refine aQ () trivial ?_ ⟨.inr (Eq.trans (b := some _) rfl ?_), ⟨.inr (Eq.trans (b := some _) rfl ?_), ⟨.inr (Eq.trans (b := some _) rfl ?_), trivial⟩⟩⟩)
   ·rfl
   ·rfl
   ·rfl
   ·rfl
theorem LK (ts : List Int) (bd : List AL.Stmt) (pts : List Pnt) (s : Mc) (x : Pnt) (htl : ts.length ≤ 6) (hm : OkM s.cells) (hsl : s.slots.length = ts.length) (ho : x.op = 6) (hrl : s.read.length ≤ 1000) (hx : 0 ≤ x.x ∧ x.x < ts.length) (hy : 0 ≤ x.y ∧ x.y < ts.length) (hz : bD s.cells s.slots[x.y.toNat]!.ptr false = 0) (hun : cT ts s x = false) : MC Tryz.prog 140 [.optr 0 0, dJ x] [(0, some (mO ts bd pts 1 2 s)), (1, some (flat c9 s.slots)), (2, some (flat cI s.read))] 3 (fun _ : Unit => True) (fun _ => iv (dO ts s x).2) (fun _ => [(0, some (mO ts bd pts 1 5 (dO ts s x).1)), (1, some (flat c9 (dO ts s x).1.slots)), (5, some (flat cI (dO ts s x).1.read))]) := by
 have hus := fT ts bd pts x htl
 have hsm : Sm (wS ts x [1, 2, 3]) := bS (by omega)
 obtain ⟨L, hL⟩ : ∃ L, L = aZ (wS ts x [1, 2, 3]) := ⟨_, rfl⟩
 have hLl : L.length ≤ 62 := by rw [hL]; exact b6 _
 have hmem : ∀ k, k < L.length → 0 ≤ L[k]! ∧ L[k]! < s.slots.length := fun k hk => by
  rw [hsl]; exact gQ (by rw [← hL]; exact aR _ _ hk)
 refine aT Tryz.func140 Tryz.ntmps140 ?_
 repeat' (first|(apply aH;first|(apply aA (k := 158);rfl;exact hus;exact Pur.pf;rfl)|(apply aA (k := 120);rfl;(apply fK <;> (assumption));(rfl);rfl))|refine aE ?_|refine aF ?_|refine bO ?_|fail)
 rw [← hL]
 refine aI (σ := Nat) [0, 3, 26, 27] [0, 1, 2, 3] (fun k => [(28, iv (k : Int))]) (fun k => []) (fun k => k ≤ L.length ∧ ∀ j, j < k → s.slots[(L[j]!).toNat]!.set = true) (fun k => L.length - k) (0) ⟨Nat.zero_le _, fun j h => absurd h (by omega)⟩ ?_
 rintro k ⟨hk, hall⟩
 by_cases hkn : k < L.length
 ·have hmk := hmem k hkn
  repeat' (first|refine aE ?_|refine aF ?_|(refine aK ?_ ?_ <;> intro hc hq <;> try (exfalso;omega))|fail)
  ·exfalso
   have hu : cT ts s x = true := (cH htl).2 ⟨L[k]!, by rw [← hL]; exact aR _ _ hkn, by assumption⟩
   rw [hun] at hu;cases hu
  ·(refine bC (k + 1) (Le.renA [(3, 3)]) ?_ ?_)
   ·refine ⟨by omega, fun j hj => ?_⟩
    rcases Nat.lt_or_ge j k with h|h
    ·exact hall j h
    ·rw [show j = k by omega]; assumption
   ·omega
 ·have hu : cT ts s x = false := by
   cases q : cT ts s x with
   | false => rfl
   | true =>
    obtain ⟨v, hv, hs⟩ := (cH htl).1 q
    rw [← hL] at hv
    obtain ⟨j, hj, e⟩ := List.getElem_of_mem hv
    have h1 := hall j (by omega)
    rw [bB _ _ hj, e, hs] at h1;cases h1
  rw [qR hu]
  have hrc := qF s.cells hm s.slots[x.y.toNat]!.ptr
  have hp := mK ts bd pts ⟨s.slots, dQ s.cells s.slots[x.y.toNat]!.ptr false, s.read ++ [oH s.cells s.slots[x.y.toNat]!.ptr]⟩ x.x ⟨true, oH s.cells s.slots[x.y.toNat]!.ptr, ⟨0, 0⟩⟩ (hm.tch _ _) hsl hx
  have hd : dG ts s x = bW ts ⟨s.slots, dQ s.cells s.slots[x.y.toNat]!.ptr false, s.read ++ [oH s.cells s.slots[x.y.toNat]!.ptr]⟩ x.x.toNat ⟨true, oH s.cells s.slots[x.y.toNat]!.ptr, ⟨0, 0⟩⟩ := by unfold dG;rw [if_neg (show ¬ x.op = 1 by omega), if_neg (show ¬ x.op = 2 by omega), if_neg (show ¬ x.op = 3 by omega), if_neg (show ¬ (x.op = 4 ∨ x.op = 5) by omega), if_pos ho, if_pos hz]
  rw [hd]
  rw [hz] at hrc
  repeat' (first|(apply aH;first|(apply iG;(case hx|hH => rfl);(case hf|hg|hα => infer_instance);(case hk => omega);(case hj => decide);(case hc => exact (rfl:_=[_, _]));(case h0|hN => rfl))|(apply aA (k := 202);rfl;exact hrc;exact Pur.pf;rfl)|(with_reducible apply aV (d := 184))|(apply aM (t := _);rfl;rfl;rfl;exact (rfl:_=some [_]);rfl;rfl))|refine aE ?_|refine aF ?_|(refine aK ?_ ?_ <;> intro hc hq <;> try (exfalso;omega))|refine bO ?_|fail)
  refine bV ?_
  rw [show s.read.length + 1 = (s.read ++ [oH s.cells s.slots[x.y.toNat]!.ptr]).length from by rw [List.length_append]; rfl]
  repeat' (first|(apply aH;(apply jW (ts := ts) (bd := bd) (pts := pts) (s := ⟨s.slots, dQ s.cells s.slots[x.y.toNat]!.ptr false, s.read ++ [oH s.cells s.slots[x.y.toNat]!.ptr]⟩) (v := x.x) (y := ⟨true, oH s.cells s.slots[x.y.toNat]!.ptr, ⟨0, 0⟩⟩);rfl;rfl;rfl;rfl;rfl;rfl;rfl;exact hp;rfl;rfl))|refine aE ?_|refine aF ?_|fail)
  (refine aD rfl ?_; refine aQ () trivial ?_ ⟨.inr (Eq.trans (b := some _) rfl ?_), ⟨.inr (Eq.trans (b := some _) rfl ?_), ⟨.inr (Eq.trans (b := some _) rfl ?_), trivial⟩⟩⟩)
  ·rfl
  ·rfl
  ·rfl
  ·rfl
theorem MH (ts : List Int) (bd : List AL.Stmt) (pts : List Pnt) (s : Mc) (x : Pnt) (htl : ts.length ≤ 6) (hm : OkM s.cells) (hsl : s.slots.length = ts.length) (hun : cT ts s x = true) : MC Tryz.prog 140 [.optr 0 0, dJ x] [(0, some (mO ts bd pts 1 2 s)), (1, some (flat c9 s.slots)), (2, some (flat cI s.read))] 3 (fun _ : Unit => True) (fun _ => iv (dO ts s x).2) (fun _ => [(0, some (mO ts bd pts 1 2 (dO ts s x).1)), (1, some (flat c9 (dO ts s x).1.slots)), (2, some (flat cI (dO ts s x).1.read))]) := by
 have hus := fT ts bd pts x htl
 have hsm : Sm (wS ts x [1, 2, 3]) := bS (by omega)
 obtain ⟨L, hL⟩ : ∃ L, L = aZ (wS ts x [1, 2, 3]) := ⟨_, rfl⟩
 have hLl : L.length ≤ 62 := by rw [hL]; exact b6 _
 have hmem : ∀ k, k < L.length → 0 ≤ L[k]! ∧ L[k]! < s.slots.length := fun k hk => by
  rw [hsl]; exact gQ (by rw [← hL]; exact aR _ _ hk)
 refine aT Tryz.func140 Tryz.ntmps140 ?_
 repeat' (first|(apply aH;first|(apply aA (k := 158);rfl;exact hus;exact Pur.pf;rfl)|(apply aA (k := 120);rfl;(apply fK <;> (assumption));(rfl);rfl))|refine aE ?_|refine aF ?_|refine bO ?_|fail)
 rw [← hL]
 refine aI (σ := Nat) [0, 3, 26, 27] [0, 1, 2, 3] (fun k => [(28, iv (k : Int))]) (fun k => []) (fun k => k ≤ L.length ∧ ∀ j, j < k → s.slots[(L[j]!).toNat]!.set = true) (fun k => L.length - k) (0) ⟨Nat.zero_le _, fun j h => absurd h (by omega)⟩ ?_
 rintro k ⟨hk, hall⟩
 by_cases hkn : k < L.length
 ·have hmk := hmem k hkn
  repeat' (first|refine aE ?_|refine aF ?_|(refine aK ?_ ?_ <;> intro hc hq <;> try (exfalso;omega))|fail)
  ·have hu : cT ts s x = true := (cH htl).2 ⟨L[k]!, by rw [← hL]; exact aR _ _ hkn, by assumption⟩
   rw [uT hu]
   (refine aD rfl ?_; refine aQ () trivial ?_ ⟨.inr (Eq.trans (b := some _) rfl ?_), ⟨.inr (Eq.trans (b := some _) rfl ?_), ⟨.inr (Eq.trans (b := some _) rfl ?_), trivial⟩⟩⟩)
   ·rfl
   ·rfl
   ·rfl
   ·rfl
  ·(refine bC (k + 1) (Le.renA [(3, 3)]) ?_ ?_)
   ·refine ⟨by omega, fun j hj => ?_⟩
    rcases Nat.lt_or_ge j k with h|h
    ·exact hall j h
    ·rw [show j = k by omega]; assumption
   ·omega
 ·have hu : cT ts s x = false := by
   cases q : cT ts s x with
   | false => rfl
   | true =>
    obtain ⟨v, hv, hs⟩ := (cH htl).1 q
    rw [← hL] at hv
    obtain ⟨j, hj, e⟩ := List.getElem_of_mem hv
    have h1 := hall j (by omega)
    rw [bB _ _ hj, e, hs] at h1;cases h1
  rw [qR hu]
  rw [hun] at hu;cases hu
theorem JD {ts : List Int} {bd : List AL.Stmt} {pts : List Pnt} {s : Mc} {x : Pnt} {N : Nat} {Q : Exit → AS → Prop} {all : Array Oper} {rest : List Oper} {tsl : List (Nat × AV)} {hsl : List (Nat × Option (List AV))} {nidl : Nat} {z0 : Lo} {md : Md} {d : Nat} {ty : TypeId} {pos : String} {af : Array Edge} {tys : Array TypeId} {x0 x1 : Operand} {i0 i1 i2 : Nat} (ha0 : ev (lk tsl) x0 = some (.optr i0 0)) (ha1 : ev (lk tsl) x1 = some (dJ x)) (hH0 : aP hsl i0 = some (mO ts bd pts i1 i2 s)) (hH1 : aP hsl i1 = some (flat c9 s.slots)) (hH2 : aP hsl i2 = some (flat cI s.read)) (hdd : Go.AL.distinct [i0, i1, i2] = true) (hmc : MC Tryz.prog 140 [.optr 0 0, dJ x] [(0, some (mO ts bd pts 1 2 s)), (1, some (flat c9 s.slots)), (2, some (flat cI s.read))] 3 (fun _ : Unit => True) (fun _ => iv (dO ts s x).2) (fun _ => [(0, some (mO ts bd pts 1 5 (dO ts s x).1)), (1, some (flat c9 (dO ts s x).1.slots)), (5, some (flat cI (dO ts s x).1.read))])) (hM : Nat.ble (nidl + 3) aS = true) (hN : Nat.blt d N = true) {md' : Md} [hmd : MdA md (fG [x0, x1] ++ [.inr i0, .inr i1, .inr i2]) (List.map Sum.inr (List.map Prod.fst ([(i0, some (mO ts bd pts i1 (nidl + 2) (dO ts s x).1)), (i1, some (flat c9 (dO ts s x).1.slots)), ((nidl + 2), some (flat cI (dO ts s x).1.read)), (i2, none)] : List (Nat × Option (List AV)))) ++ [.inl d]) md'] (kk : RW Tryz.prog N all Q md' rest ⟨(d, iv (dO ts s x).2) :: tsl, g6 hsl [(i0, some (mO ts bd pts i1 (nidl + 2) (dO ts s x).1)), (i1, some (flat c9 (dO ts s x).1.slots)), ((nidl + 2), some (flat cI (dO ts s x).1.read)), (i2, none)], nidl + 3, z0⟩) : RW Tryz.prog N all Q md (⟨some d, .call ⟨.value (.func 140), #[x0, x1], tys⟩, ty, pos, af, none⟩ :: rest) ⟨tsl, hsl, nidl, z0⟩ := by
 refine aY [i0, i1, i2] 6 [(i0, some (mO ts bd pts i1 (nidl + 2) (dO ts s x).1)), (i1, some (flat c9 (dO ts s x).1.slots)), ((nidl + 2), some (flat cI (dO ts s x).1.read)), (i2, none)] hmc (avs := [.optr i0 0, dJ x]) ?_ hdd ?_ rfl ?_ (by simpa using hM) ?_ ?_ ?_ hN (md' := md') (hmd := hmd) kk
 ·show evL (lk tsl) [x0, x1] = _
  simp only [evL, ha0, ha1]
 ·exact ⟨⟨_, _, rfl, hH0, by (repeat' (first|exact RnL.purI inferInstance|exact RnV.purI inferInstance|exact RnV.own rfl|refine RnL.cons ?_ ?_))⟩, ⟨⟨_, _, rfl, hH1, by (repeat' (exact RnL.purI inferInstance))⟩, ⟨⟨_, _, rfl, hH2, by (repeat' (exact RnL.purI inferInstance))⟩, trivial⟩⟩⟩
 ·(repeat' (first|exact RnL.purI inferInstance|exact RnV.optr rfl|refine RnL.cons ?_ ?_))
 ·(repeat' (exact RnV.purI inferInstance))
 ·simp [cK]
 ·(repeat' (first|exact trivial|(refine And.intro ⟨0, _, rfl, rfl, ?_⟩ ?_)|(refine And.intro ⟨1, _, rfl, rfl, ?_⟩ ?_)|(refine And.intro ⟨5, _, rfl, rfl, ?_⟩ ?_)|exact RnL.purI inferInstance|exact RnV.purI inferInstance|exact RnV.own rfl|refine RnL.cons ?_ ?_))
theorem MK (ts : List Int) (bd : List AL.Stmt) (pts : List Pnt) (s : Mc) (x : Pnt) (htl : ts.length ≤ 6) (hm : OkM s.cells) (hsl : s.slots.length = ts.length) (hop : 1 ≤ x.op ∧ x.op ≤ 11) (hrl : s.read.length ≤ 1000)
  (hx : x.op ≤ 8 → 0 ≤ x.x ∧ x.x < ts.length) (hy : 3 ≤ x.op → x.op ≤ 7 → 0 ≤ x.y ∧ x.y < ts.length) (hn : x.op = 2 → 0 ≤ x.n ∧ x.n ≤ 9) (h6 : ¬ (x.op = 6 ∧ bD s.cells s.slots[x.y.toNat]!.ptr false = 0 ∧ cT ts s x = false)) : MC Tryz.prog 140 [.optr 0 0, dJ x] [(0, some (mO ts bd pts 1 2 s)), (1, some (flat c9 s.slots)), (2, some (flat cI s.read))] 3 (fun _ : Unit => True) (fun _ => iv (dO ts s x).2) (fun _ => [(0, some (mO ts bd pts 1 2 (dO ts s x).1)), (1, some (flat c9 (dO ts s x).1.slots)), (2, some (flat cI (dO ts s x).1.read))]) := by
 by_cases h1 : x.op = 1
 ·exact Nn ts bd pts s x htl hm hsl h1 (hx (by omega))
 by_cases h2 : x.op = 2
 ·exact Np ts bd pts s x htl hm hsl h2 (hn h2) (hx (by omega))
 by_cases h3 : x.op = 3
 ·exact M7 ts bd pts s x htl hm hsl h3 (hx (by omega)) (hy (by omega) (by omega))
 by_cases h4 : x.op = 4 ∨ x.op = 5
 ·exact Lk ts bd pts s x htl hm hsl h4 (hx (by omega)) (hy (by omega) (by omega))
 by_cases h6' : x.op = 6
 ·by_cases hu : cT ts s x = true
  ·exact MH ts bd pts s x htl hm hsl hu
  ·exact M0 ts bd pts s x htl hm hsl h6' hrl (hx (by omega)) (hy (by omega) (by omega)) (fun q => h6 ⟨h6', q, by simpa using hu⟩)
 by_cases h7 : x.op = 7
 ·exact Nj ts bd pts s x htl hm hsl h7 (hx (by omega)) (hy (by omega) (by omega))
 by_cases h8 : x.op = 8
 ·exact M9 ts bd pts s x htl hm hsl h8 (hx (by omega))
 ·exact MU ts bd pts s x htl hm hsl (by omega)
theorem BY (x : Pnt) (h : x.next.length ≤ 1000000) : PC Tryz.prog 91 [dJ x] (fun r => r = bv (decide (x.next.length = 2))) := by
 refine aC Tryz.func91 Tryz.ntmps91 ?_
 repeat' (first|refine aE ?_|refine aF ?_|fail)
 refine aD rfl ⟨?_, rfl⟩
 simp only [aN, AV.v.injEq, Value.bool.injEq, decide_eq_decide]; omega
theorem M8 {pts : List Pnt} {a : Nat} {C : List Int} (h : pts[a]!.next.length = 2) (hC : 0 < C.length) : iF pts a C = ((pts[a]!.next[(C[0]! % 2).toNat]!).toNat, C.drop 1) := by
 cases C with
 | nil => simp at hC
 | cons c C => unfold iF;rw [if_pos h]; rfl
theorem MS {pts : List Pnt} {a : Nat} (h : pts[a]!.next.length = 2) : iF pts a [] = ((pts[a]!.next[1]!).toNat, []) := by unfold iF; rw [if_pos h]
theorem HK {pts : List Pnt} {n a b : Nat} {out C C2 : List Int} {q : List Int × Bool} (h : ¬ pts[a]!.op = 11) (ho : out.length ≤ n) (hs : iF pts a C = (b, C2)) (hq : q = (out ++ (wm pts (n - out.length) a C).1, (wm pts (n - out.length) a C).2)) :
  ((out ++ [(a : Int)]).length ≤ n ∧ q = ((out ++ [(a : Int)]) ++ (wm pts (n - (out ++ [(a : Int)]).length) b C2).1, (wm pts (n - (out ++ [(a : Int)]).length) b C2).2)) ∨ ((out ++ [(a : Int)]).length = n + 1 ∧ q = ((out ++ [(a : Int)]).take n, false)) := by
 have hl : (out ++ [(a : Int)]).length = out.length + 1 := by rw [List.length_append]; rfl
 rcases Nat.lt_or_ge out.length n with h1|h1
 ·exact .inl ⟨by omega, oB h h1 hs hq⟩
 ·refine .inr ⟨by omega, ?_⟩
  have e : out.length = n := by omega
  rw [hq, e, Nat.sub_self, FK h, ← e, List.take_left' rfl, List.append_nil]
theorem La (ts : List Int) (bd : List AL.Stmt) (pts : List Pnt) (cs : List Int) (n : Nat) (w : WG ts pts) (wa : WA ts pts) (hn : n ≤ 1000) (hcl : cs.length ≤ 1000000) : PC Tryz.prog 139 [aG ts bd pts, sl cI cs, iv (n : Int)] (fun r => r = .tup [sl cI (wm pts n 0 cs).1, bv (wm pts n 0 cs).2]) := by
 have hpl := w.pl
 have hp0 := w.p0
 refine aC Tryz.func139 Tryz.ntmps139 ?_
 repeat' (first|(apply aH;(apply e5 (d := 8) (e := 1);rfl;rfl))|refine aE ?_|refine aF ?_|fail)
 refine aI (σ := Int × List Int × Nat × List Int) [0, 2] [] (fun k => [(9, iv k.1), (1, sl cI k.2.2.2), (8, .own 0 0 k.2.2.1 1)]) (fun k => [(0, some (flat cI k.2.1))]) (fun k => (0 ≤ k.1 ∧ k.1 < pts.length) ∧ k.2.2.1 = k.2.1.length ∧ k.2.2.2.length ≤ 1000000 ∧ ((k.2.1.length ≤ n ∧ wm pts n 0 cs = (k.2.1 ++ (wm pts (n - k.2.1.length) k.1.toNat k.2.2.2).1, (wm pts (n - k.2.1.length) k.1.toNat k.2.2.2).2)) ∨ (k.2.1.length = n + 1 ∧ wm pts n 0 cs = (k.2.1.take n, false)))) (fun k => n + 1 - k.2.1.length) (0, [], 0, cs) ⟨⟨Int.le_refl _, by show (0 : Int) < _; omega⟩, rfl, hcl, .inl ⟨Nat.zero_le _, rfl⟩⟩ ?_
 rintro ⟨a, out, m, C⟩ ⟨⟨ha0, ha⟩, hm, hC, hw⟩
 dsimp only at ha0 ha hm hC hw ⊢
 by_cases hout : out.length ≤ n
 ·have hw2 : wm pts n 0 cs = (out ++ (wm pts (n - out.length) a.toNat C).1, (wm pts (n - out.length) a.toNat C).2) := by
   rcases hw with h|h
   ·exact h.2
   ·omega
  have hat : (a.toNat : Int) = a := Int.toNat_of_nonneg ha0
  have hnx := w.nx a.toNat (by omega)
  have hnl := w.nl a.toNat (by omega)
  have hn1 := wa.n a.toNat (by omega)
  have hk : ∀ k, k < pts[a.toNat]!.next.length → 0 ≤ pts[a.toNat]!.next[k]! ∧ pts[a.toNat]!.next[k]! < pts.length := fun k h => hnx _ (aR _ _ h)
  have hch := BY pts[a.toNat]! (by omega)
  repeat' (first|(apply aH;first|(apply aA (k := 91);rfl;exact hch;exact Pur.pf;rfl)|(apply Iv;rfl;rfl;rfl)|(apply aM (t := _);rfl;rfl;rfl;exact (rfl:_=some [_]);rfl;rfl))|refine aE ?_|refine aF ?_|(refine aK ?_ ?_ <;> intro hc hq <;> try (exfalso;omega))|refine bO ?_|fail)
  ·have hop : pts[a.toNat]!.op = 11 := by assumption
   have e : wm pts n 0 cs = (out ++ [a], true) := by rw [hw2, HU hop, hat]
   rw [e]
   (refine aU (Le.frzD (d := 6) (i := 2) rfl rfl) ?_; refine aD rfl ?_)
   refine ⟨?_, (by exact Pur.pf)⟩
   simp only [aN, sl]
   rw [hm, List.length_append]; rfl
  ·have hop : ¬ pts[a.toNat]!.op = 11 := by assumption
   have hst := HK hop hout (Ki (by omega)) hw2
   rw [hat] at hst
   have hk := hk 0 (by omega)
   (refine bC (pts[a.toNat]!.next[0]!, _, _, C) (Le.renA [(0, 2)]) ?_ ?_)
   ·exact ⟨hk, by dsimp only;rw [List.length_append, hm]; rfl, hC, hst⟩
   ·dsimp only;rw [List.length_append]; simp only [List.length_singleton]; omega
  ·have hop : ¬ pts[a.toNat]!.op = 11 := by assumption
   have hC0 : 0 < C.length := by omega
   have hst := HK hop hout (M8 (by omega) hC0) hw2
   rw [hat] at hst
   have hk := hk (C[0]! % 2).toNat (by omega)
   have hCe : List.take (C.length - Int.toNat 1) (List.drop (Int.toNat 1) C) = C.drop 1 := List.take_of_length_le (by rw [List.length_drop]; exact Nat.le_refl _)
   rw [hCe]
   (refine bC (pts[a.toNat]!.next[(C[0]! % 2).toNat]!, _, _, C.drop 1) (Le.renA [(0, 2)]) ?_ ?_)
   ·exact ⟨hk, by dsimp only;rw [List.length_append, hm]; rfl, by dsimp only;rw [List.length_drop]; omega, hst⟩
   ·dsimp only;rw [List.length_append]; simp only [List.length_singleton]; omega
  ·have hop : ¬ pts[a.toNat]!.op = 11 := by assumption
   have hC0 : C = [] := List.eq_nil_of_length_eq_zero (by omega)
   subst hC0
   have hst := HK hop hout (MS (by omega)) hw2
   rw [hat] at hst
   have hk := hk 1 (by omega)
   (refine bC (pts[a.toNat]!.next[1]!, _, _, []) (Le.renA [(0, 2)]) ?_ ?_)
   ·exact ⟨hk, by dsimp only;rw [List.length_append, hm]; rfl, hC, hst⟩
   ·dsimp only;rw [List.length_append]; simp only [List.length_singleton]; omega
 ·have hw2 : out.length = n + 1 ∧ wm pts n 0 cs = (out.take n, false) := by
   rcases hw with h|h
   ·omega
   ·exact h
  repeat' (first|(apply aH;(apply iS (d := 59) (l := 0) (h := n);rfl;rfl;rfl;exact pJ rfl (by omega);exact if_pos (by omega);rfl))|refine aE ?_|refine aF ?_|(refine aK ?_ ?_ <;> intro hc hq <;> try (exfalso;omega))|fail)
  refine aU (Le.cut (i := 0) (n * 1) rfl) ?_
  refine aU (Le.frzD (d := 6) (i := 0) rfl rfl) ?_
  rw [hw2.2, eG cI (e := 1)]
  refine aD (l := [.imm (n - 0) (flat cI (out.take n)), bv false]) rfl ⟨?_, (by exact Pur.pf)⟩
  rw [eI (by rw [List.length_take]; omega)]
  rfl
theorem IP {p : Prg} {cs : List Int} {n : Int} {N : Nat} {Q : Exit → AS → Prop} {all : Array Oper} {rest : List Oper} {tsl : List (Nat × AV)} {hsl : List (Nat × Option (List AV))} {nidl : Nat} {z0 : Lo} {md : Md} {d : Nat} {ty : TypeId} {pos : String} {af : Array Edge} {tys : Array TypeId} {x0 x1 x2 : Operand} (ha0 : ev (lk tsl) x0 = some (bZ p)) (ha1 : ev (lk tsl) x1 = some (sl cI cs)) (ha2 : ev (lk tsl) x2 = some (iv n)) (hmc : MC Tryz.prog 69 [bZ p, sl cI cs, iv n] [] 0 (fun _ : Unit => True) (fun _ => .tup [.optr 1 0, iv 5, iv 0]) (fun _ => [(1, some ([.v (.pointer none), .imm 0 [], .imm 0 [], .imm 0 []]))])) (hM : Nat.ble (nidl + 2) aS = true) (hN : Nat.blt d N = true) {md' : Md} [hmd : MdA md (fG [x0, x1, x2] ++ []) (List.map Sum.inr (List.map Prod.fst ([((nidl + 1), some ([.v (.pointer none), .imm 0 [], .imm 0 [], .imm 0 []]))] : List (Nat × Option (List AV)))) ++ [.inl d]) md'] (kk : RW Tryz.prog N all Q md' rest ⟨(d, .tup [.optr (nidl + 1) 0, iv 5, iv 0]) :: tsl, g6 hsl [((nidl + 1), some ([.v (.pointer none), .imm 0 [], .imm 0 [], .imm 0 []]))], nidl + 2, z0⟩) : RW Tryz.prog N all Q md (⟨some d, .call ⟨.value (.func 69), #[x0, x1, x2], tys⟩, ty, pos, af, none⟩ :: rest) ⟨tsl, hsl, nidl, z0⟩ := by
 refine aY [] 2 [((nidl + 1), some ([.v (.pointer none), .imm 0 [], .imm 0 [], .imm 0 []]))] hmc (avs := [bZ p, sl cI cs, iv n]) ?_ rfl ?_ rfl ?_ (by simpa using hM) ?_ ?_ ?_ hN (md' := md') (hmd := hmd) kk
 ·show evL (lk tsl) [x0, x1, x2] = _
  simp only [evL, ha0, ha1, ha2]
 ·exact trivial
 ·(repeat' (exact RnL.purI inferInstance))
 ·(repeat' (first|exact RnL.purI inferInstance|exact RnV.optr rfl|refine RnL.cons ?_ ?_|refine RnV.tup ?_))
 ·simp [cK]
 ·(repeat' (first|exact trivial|(refine And.intro ⟨1, _, rfl, rfl, ?_⟩ ?_)|exact RnL.purI inferInstance))
theorem Le.nilMid {ts : List (Nat × AV)} {hs : List (Nat × Option (List AV))} {n : Nat} {z0 : Lo} {i : Nat} (c1 : List AV) {c2 : List AV} (hi : aP hs i = some (c1 ++ .v (.slice none 0 0) :: c2)) :
  Le ⟨ts, hs, n, z0⟩ ⟨ts, (i, some (c1 ++ .imm 0 [] :: c2)) :: hs, n, z0⟩ :=
 Le.cells hi (by simp) fun w bad ι b β h => rG (fun y hy => by have := pV (av := .v (.slice none 0 0)) hy;exact this) c1 c2 b β h
theorem LU {ts : List Int} {pts : List Pnt} {a last : Nat} {l : List Nat} {s : Mc} : mT ts pts (a :: l) s last = if (dO ts s pts[a]!).2 = -1 then mT ts pts l (dO ts s pts[a]!).1 a else ((dO ts s pts[a]!).1, (dO ts s pts[a]!).2, a) := by
 rw [mT]
 by_cases h : cT ts s pts[a]! = true
 ·rw [if_pos h, uT h, if_neg (show ¬ (2 : Int) = -1 by decide)]
 ·have h2 : cT ts s pts[a]! = false := by simpa using h
  rw [if_neg h, qR h2]
theorem Nk {ts : List Int} {nt : Nat} {s : Mc} (h : OkS nt s) {x : Pnt} (hx : PtN x) : OkS nt (dO ts s x).1 := by
 unfold dO;split
 ·exact h
 ·exact h.do hx
theorem Jr {ts : List Int} {s : Mc} {x : Pnt} : (dO ts s x).1.read.length ≤ s.read.length + 1 := by
 unfold dO;split
 ·dsimp only;omega
 ·exact zF
theorem NM {ts : List Int} {s : Mc} {x : Pnt} (ho : x.op = 6) (hz : bD s.cells s.slots[x.y.toNat]!.ptr false = 0) (hu : cT ts s x = false) (ht : ts[x.x.toNat]! = 1) : (dO ts s x).2 = -1 := by
 rw [qR hu]
 unfold dG
 rw [if_neg (show ¬ x.op = 1 by omega), if_neg (show ¬ x.op = 2 by omega), if_neg (show ¬ x.op = 3 by omega), if_neg (show ¬ (x.op = 4 ∨ x.op = 5) by omega), if_pos ho, if_pos hz]
 unfold bW
 rw [if_neg (fun h => by have := h.1;omega)]
theorem LG (p : Prg) (cs : List Int) (n : Int) (hl : p.types.length ≤ 1000000) (hs : bE p.body ≤ 1000000) (hr : CH p n = false) : MC Tryz.prog 69 [bZ p, sl cI cs, iv n] [] 0 (fun _ : Unit => True) (fun _ => .tup [.optr 1 0, iv 5, iv 0]) (fun _ => [(1, some ([.v (.pointer none), .imm 0 [], .imm 0 [], .imm 0 []]))]) := by
 have hg := iL p hl hs
 unfold CH at hr
 by_cases hv : bK p = true
 ·rw [if_pos hv] at hg
  rw [hv] at hr
  have hnn : ¬ (0 ≤ n ∧ n ≤ 150) := fun h => by rw [decide_eq_true h.1, decide_eq_true h.2] at hr;cases hr
  refine aT Tryz.func69 Tryz.ntmps69 ?_
  repeat' (first|(apply aH;first|(apply aA (k := 72);rfl;exact hg;exact Pur.pf;rfl)|(apply aA (k := 54);rfl;(apply cX);(rfl);rfl))|refine aE ?_|refine aF ?_|(refine aK ?_ ?_ <;> intro hc hq <;> try (exfalso;omega))|fail)
  ·(refine aD rfl ?_; refine aQ () trivial ?_ ⟨.inr (Eq.trans (b := some _) rfl ?_), trivial⟩)
   ·rfl
   ·rfl
 ·rw [if_neg hv] at hg
  refine aT Tryz.func69 Tryz.ntmps69 ?_
  repeat' (first|(apply aH;(apply aA (k := 72);rfl;exact hg;exact Pur.pf;rfl))|refine aE ?_|refine aF ?_|fail)
  (refine aD rfl ?_; refine aQ () trivial ?_ ⟨.inr (Eq.trans (b := some _) rfl ?_), trivial⟩)
  ·rfl
  ·rfl
theorem L6 (p : Prg) (cs : List Int) (n : Nat) (q : Mc × Int × Nat) (hqq : q = jC p.types (aB p) cs n) (hv : bK p = true) (hl : p.types.length ≤ 1000000) (hs : bE p.body ≤ 1000000) (hn : n ≤ 150) (hcl : cs.length ≤ 1000000) : MC Tryz.prog 69 [bZ p, sl cI cs, iv (n : Int)] [] 0 (fun _ : Unit => True) (fun _ => .tup [.optr 2 0, iv q.2.1, iv (q.2.2 : Int)]) (fun _ => [(2, some (mO p.types p.body (aB p) 1 3 q.1)), (1, some (flat c9 q.1.slots)), (3, some (flat cI q.1.read))]) := by
 have hg := iL p hl hs
 rw [if_pos hv] at hg
 have w := WG.of_valid hv
 have wa := WA.of_valid hv
 have hru := La p.types p.body (aB p) cs n w wa (by omega) hcl
 have htl := w.tl
 have hpl := w.pl
 have hL := Ck w wa n 0 cs w.p0
 have hLl := rR (pts := aB p) n 0 cs
 unfold jC at hqq
 unfold wm at hru
 obtain ⟨L, hLe⟩ : ∃ L, L = (gI (aB p) n 0 cs).1 := ⟨_, rfl⟩
 obtain ⟨dn, hdn⟩ : ∃ dn, dn = (gI (aB p) n 0 cs).2 := ⟨_, rfl⟩
 rw [← hLe, ← hdn] at hru
 rw [← hLe] at hqq hL hLl
 have hgx : ∀ i, i < L.length → (L.map (fun a : Nat => (a : Int)))[i]! = (L[i]! : Int) := fun i h => by rw [bB _ _ (by rw [List.length_map]; exact h), List.getElem_map, bB _ _ h]
 have hml : (L.map (fun a : Nat => (a : Int))).length = L.length := List.length_map _
 generalize (L.map (fun a : Nat => (a : Int))) = LI at *
 generalize hP : aB p = pts at *
 refine aT Tryz.func69 Tryz.ntmps69 ?_
 repeat' (first|(apply aH;first|(apply aA (k := 72);rfl;exact hg;exact Pur.pf;rfl)|(with_reducible apply aV (d := 40))|(apply aA (k := 54);rfl;(apply cX);(rfl);rfl))|refine aE ?_|refine aF ?_|(refine aK ?_ ?_ <;> intro hc hq <;> try (exfalso;omega))|fail)
 refine bV ?_
 rw [show (List.replicate p.types.length ([Value.bool false, Value.int .i64 0, Value.int .i64 0, Value.int .i64 0].map AV.v)).flatten = flat c9 (List.replicate p.types.length mQ) from tZ rfl]
 apply nR
 case hl => rfl
 case hf => exact (rfl:_=some [_, _, AV.v (.slice none 0 0), AV.v (.slice none 0 0)])
 case hN => rfl
 repeat' (first|(apply aH;(with_reducible apply aV (d := 43)))|refine aE ?_|refine aF ?_|fail)
 refine bV (c7 ?_ (Le.nilMid (i := 2) [_, _] rfl))
 refine c7 ?_ (Le.nilCell (i := 2) 1 [_, _, _] rfl (by decide) (by decide))
 repeat' (first|(apply aH;(apply aA (k := 139);rfl;exact hru;exact Pur.pf;rfl))|refine aE ?_|refine aF ?_|fail)
 refine aI (σ := Nat × Mc × Nat) [9, 11, 49, 50] [] (fun k => [(51, iv (k.1 : Int)), (14, iv (k.2.2 : Int))]) (fun k => [(2, some (mO p.types p.body pts 1 3 k.2.1)), (1, some (flat c9 k.2.1.slots)), (3, some (flat cI k.2.1.read))]) (fun k => k.1 ≤ L.length ∧ mT p.types pts (L.drop k.1) k.2.1 k.2.2 = q ∧ OkS p.types.length k.2.1 ∧ k.2.1.read.length ≤ k.1) (fun k => L.length - k.1) (0, mc0 p.types.length, 0) ⟨Nat.zero_le _, hqq.symm, OkS.mc0 _, Nat.le_refl _⟩ ?_
 rintro ⟨i, s, last⟩ ⟨hi, hf, hok, hrd⟩
 dsimp only at hi hf hok hrd ⊢
 by_cases hiL : i < L.length
 ·have hap := hL L[i]! (aR _ _ hiL)
  have hop := w.op L[i]! hap
  have hwx := w.x L[i]! hap
  have hwy := w.y L[i]! hap
  have hA := wa.a L[i]! hap
  have hg2 := hgx i hiL
  have hdr : L.drop i = L[i]! :: L.drop (i + 1) := by rw [List.drop_eq_getElem_cons hiL, bB _ _ hiL]
  rw [hdr, LU] at hf
  have hpt : PtN pts[L[i]!]! := ⟨fun h => hA.n (.inr h)⟩
  have hdo := Nk (ts := p.types) hok hpt
  have hdr2 := Jr (ts := p.types) (s := s) (x := pts[L[i]!]!)
  by_cases h6 : pts[L[i]!]!.op = 6 ∧ bD s.cells s.slots[(pts[L[i]!]!).y.toNat]!.ptr false = 0 ∧ cT p.types s pts[L[i]!]! = false
  ·have hm6 := LK p.types p.body pts s pts[L[i]!]! htl hok.m hok.l h6.1 (by omega) (by omega) (by omega) h6.2.1 h6.2.2
   repeat' (first|(apply aH;(with_reducible apply aV (d := 16)))|refine aE ?_|refine aF ?_|(refine aK ?_ ?_ <;> intro hc hq <;> try (exfalso;omega))|fail)
   refine bV ?_
   rw [hg2]
   repeat' (first|(apply aH;(apply JD (ts := p.types) (bd := p.body) (pts := pts) (s := s) (x := pts[L[i]!]!);rfl;rfl;rfl;rfl;rfl;rfl;exact hm6;rfl;rfl))|refine aE ?_|refine aF ?_|(refine aK ?_ ?_ <;> intro hc hq <;> try (exfalso;omega))|fail)
   ·exfalso
    have h9 : ¬ (dO p.types s pts[L[i]!]!).2 = -1 := by assumption
    exact h9 (NM h6.1 h6.2.1 h6.2.2 (hA.t6 h6.1).1)
   ·(refine bC (i + 1, (dO p.types s pts[L[i]!]!).1, L[i]!) (Le.renA [(1, 1), (2, 2), (3, 6)]) ?_ ?_)
    ·refine ⟨by dsimp only; omega, ?_, hdo, by dsimp only; omega⟩
     dsimp only
     rw [if_pos (by assumption)] at hf
     exact hf
    ·dsimp only;omega
  ·have hmd := MK p.types p.body pts s pts[L[i]!]! htl hok.m hok.l hop (by omega) (fun h => by omega) (fun h h2 => by omega) (fun h => hA.n (.inr h)) h6
   repeat' (first|(apply aH;(with_reducible apply aV (d := 16)))|refine aE ?_|refine aF ?_|(refine aK ?_ ?_ <;> intro hc hq <;> try (exfalso;omega))|fail)
   refine bV ?_
   rw [hg2]
   repeat' (first|(apply aH;(apply KC (ts := p.types) (bd := p.body) (pts := pts) (s := s) (x := pts[L[i]!]!);rfl;rfl;rfl;rfl;rfl;rfl;exact hmd;rfl;rfl))|refine aE ?_|refine aF ?_|(refine aK ?_ ?_ <;> intro hc hq <;> try (exfalso;omega))|fail)
   ·have h9 : ¬ (dO p.types s pts[L[i]!]!).2 = -1 := by assumption
    rw [if_neg h9] at hf
    rw [← hf]
    (refine aD rfl ?_; refine aQ () trivial ?_ ⟨.inr (Eq.trans (b := some _) rfl ?_), ⟨.inr (Eq.trans (b := some _) rfl ?_), ⟨.inr (Eq.trans (b := some _) rfl ?_), trivial⟩⟩⟩)
    ·rfl
    ·rfl
    ·rfl
    ·rfl
   ·(refine bC (i + 1, (dO p.types s pts[L[i]!]!).1, L[i]!) (Le.renA [(1, 1), (2, 2), (3, 3)]) ?_ ?_)
    ·refine ⟨by dsimp only; omega, ?_, hdo, by dsimp only; omega⟩
     dsimp only
     rw [if_pos (by assumption)] at hf
     exact hf
    ·dsimp only;omega
 ·repeat' (first | refine aE ?_ | refine aF ?_ | (refine aK ?_ ?_ <;> intro hc hq <;> try (exfalso; omega))|fail)
  have hie : i = L.length := by omega
  have hq2 : q = (s, 1, last) := by rw [← hf, hie, List.drop_length]; rfl
  rw [hq2]
  (refine aD rfl ?_; refine aQ () trivial ?_ ⟨.inr (Eq.trans (b := some _) rfl ?_), ⟨.inr (Eq.trans (b := some _) rfl ?_), ⟨.inr (Eq.trans (b := some _) rfl ?_), trivial⟩⟩⟩)
  ·rfl
  ·rfl
  ·rfl
  ·rfl
theorem Fq {p : Prg} {cs : List Int} {n : Int} {q : Mc × Int × Nat} {N : Nat} {Q : Exit → AS → Prop} {all : Array Oper} {rest : List Oper} {tsl : List (Nat × AV)} {hsl : List (Nat × Option (List AV))} {nidl : Nat} {z0 : Lo} {md : Md} {d : Nat} {ty : TypeId} {pos : String} {af : Array Edge} {tys : Array TypeId} {x0 x1 x2 : Operand} (ha0 : ev (lk tsl) x0 = some (bZ p)) (ha1 : ev (lk tsl) x1 = some (sl cI cs)) (ha2 : ev (lk tsl) x2 = some (iv n)) (hmc : MC Tryz.prog 69 [bZ p, sl cI cs, iv n] [] 0 (fun _ : Unit => True) (fun _ => .tup [.optr 2 0, iv q.2.1, iv (q.2.2 : Int)]) (fun _ => [(2, some (mO p.types p.body (aB p) 1 3 q.1)), (1, some (flat c9 q.1.slots)), (3, some (flat cI q.1.read))])) (hM : Nat.ble (nidl + 4) aS = true) (hN : Nat.blt d N = true) {md' : Md} [hmd : MdA md (fG [x0, x1, x2] ++ []) (List.map Sum.inr (List.map Prod.fst ([((nidl + 2), some (mO p.types p.body (aB p) (nidl + 1) (nidl + 3) q.1)), ((nidl + 1), some (flat c9 q.1.slots)), ((nidl + 3), some (flat cI q.1.read))] : List (Nat × Option (List AV)))) ++ [.inl d]) md'] (kk : RW Tryz.prog N all Q md' rest ⟨(d, .tup [.optr (nidl + 2) 0, iv q.2.1, iv (q.2.2 : Int)]) :: tsl, g6 hsl [((nidl + 2), some (mO p.types p.body (aB p) (nidl + 1) (nidl + 3) q.1)), ((nidl + 1), some (flat c9 q.1.slots)), ((nidl + 3), some (flat cI q.1.read))], nidl + 4, z0⟩) : RW Tryz.prog N all Q md (⟨some d, .call ⟨.value (.func 69), #[x0, x1, x2], tys⟩, ty, pos, af, none⟩ :: rest) ⟨tsl, hsl, nidl, z0⟩ := by
 refine aY [] 4 [((nidl + 2), some (mO p.types p.body (aB p) (nidl + 1) (nidl + 3) q.1)), ((nidl + 1), some (flat c9 q.1.slots)), ((nidl + 3), some (flat cI q.1.read))] hmc (avs := [bZ p, sl cI cs, iv n]) ?_ rfl ?_ rfl ?_ (by simpa using hM) ?_ ?_ ?_ hN (md' := md') (hmd := hmd) kk
 ·show evL (lk tsl) [x0, x1, x2] = _
  simp only [evL, ha0, ha1, ha2]
 ·exact trivial
 ·(repeat' (exact RnL.purI inferInstance))
 ·(repeat' (first|exact RnL.purI inferInstance|exact RnV.optr rfl|refine RnL.cons ?_ ?_|refine RnV.tup ?_))
 ·simp [cK]
 ·(repeat' (first|exact trivial|(refine And.intro ⟨1, _, rfl, rfl, ?_⟩ ?_)|(refine And.intro ⟨2, _, rfl, rfl, ?_⟩ ?_)|(refine And.intro ⟨3, _, rfl, rfl, ?_⟩ ?_)|exact RnL.purI inferInstance|exact RnV.purI inferInstance|exact RnV.own rfl|refine RnL.cons ?_ ?_))
theorem uN (p : Prg) (cs : List Int) (most : Int) (hl : p.types.length ≤ 1000000) (hs : bE p.body ≤ 1000000) (hcl : cs.length ≤ 1000000) : PC Tryz.prog 35 [bZ p, sl cI cs, iv most] (fun r => r = .tup (if CH p most = true then [iv (jC p.types (aB p) cs most.toNat).2.1, iv (jC p.types (aB p) cs most.toNat).2.2] else [iv 5, iv 0])) := by
 by_cases h : CH p most = true
 ·have h' := h
  unfold CH at h'
  simp only [Bool.and_eq_true, decide_eq_true_eq] at h'
  obtain ⟨hv, h0, h1⟩ := h'
  have hru := L6 p cs most.toNat _ rfl hv hl hs (by omega) hcl
  have hok := KJ (cs := cs) (n := most.toNat) hv
  have hrl := BG (ts := p.types) (pts := aB p) (cs := cs) (n := most.toNat) (by omega)
  have htl := (WG.of_valid hv).tl
  rw [Int.toNat_of_nonneg h0] at hru
  rw [if_pos h]
  have hon := Int.toNat_of_nonneg h0
  have hm := hok.m
  have hml := hm.l
  have hsl := hok.l
  generalize jC p.types (aB p) cs most.toNat = q at *
  refine aC Tryz.func35 Tryz.ntmps35 ?_
  repeat' (first|(apply aH;(apply Fq (p := p) (cs := cs) (n := most) (q := q);rfl;rfl;rfl;exact hru;rfl;rfl))|refine aE ?_|refine aF ?_|fail)
  exact aD (l := [iv q.2.1, iv q.2.2]) rfl ⟨rfl, rfl⟩
 ·rw [if_neg h]
  have h2 : CH p most = false := by simpa using h
  refine aC Tryz.func35 Tryz.ntmps35 ?_
  repeat' (first|(apply aH;(apply IP (p := p) (cs := cs) (n := most);rfl;rfl;rfl;exact LG p cs most hl hs h2;rfl;rfl))|refine aE ?_|refine aF ?_|fail)
  exact aD (l := [iv 5, iv 0]) rfl ⟨rfl, rfl⟩
def E5 (p : Prg) (cs : List Int) (n : Int) : Int := if CH p n = true then (jC p.types (aB p) cs n.toNat).2.1 else 5
def LN (p : Prg) (cs : List Int) (n : Int) : Int := if CH p n = true then ((jC p.types (aB p) cs n.toNat).2.2 : Int) else 0
theorem Mu (p : Prg) (cs : List Int) (n : Int) (hl : p.types.length ≤ 1000000) (hs : bE p.body ≤ 1000000) (hcl : cs.length ≤ 1000000) : PC Tryz.prog 35 [bZ p, sl cI cs, iv n] (fun r => r = .tup [iv (E5 p cs n), iv (LN p cs n)]) := by
 have h := uN p cs n hl hs hcl
 unfold E5 LN
 split
 ·rename_i h2;rw [if_pos h2] at h;exact h
 ·rename_i h2;rw [if_neg h2] at h;exact h
theorem KY (p : Prg) (cs : List Int) (n : Int) (hl : p.types.length ≤ 1000000) (hs : bE p.body ≤ 1000000) (hcl : cs.length ≤ 1000000) : PC Tryz.prog 84 [bZ p, sl cI cs, iv n] (fun r => r = .tup [iv (E5 p cs n), iv (LN p cs n)]) := by
 have h := uJ p cs n hl hs hcl
 unfold E5 LN
 split
 ·rename_i h2;rw [if_pos h2] at h;exact h
 ·rename_i h2;rw [if_neg h2] at h;exact h
def u9 (n l : Nat) : List Int := (List.range l).map fun i => ((n / 2 ^ i % 2 : Nat) : Int)
theorem rK (n l : Nat) : (u9 n l).length = l := by unfold u9; rw [List.length_map, List.length_range]
theorem zT (n l : Nat) : u9 n (l + 1) = u9 n l ++ [((n / 2 ^ l % 2 : Nat) : Int)] := by
 unfold u9;rw [List.range_succ, List.map_append]; rfl
def nJ (p : Prg) (l n : Nat) : Bool := decide (E5 p (u9 n l) 80 ≠ 0) && decide (E5 p (u9 n l) 80 ≠ 1)
def Cv (p : Prg) (l k : Nat) : Nat := ((List.range k).filter (nJ p l)).length
theorem Jx {p : Prg} {l k : Nat} (h : nJ p l k = true) : Cv p l (k + 1) = Cv p l k + 1 := by
 unfold Cv;rw [List.range_succ, List.filter_append, List.length_append]; simp [h]
theorem Gg {p : Prg} {l k : Nat} (h : nJ p l k = false) : Cv p l (k + 1) = Cv p l k := by
 unfold Cv;rw [List.range_succ, List.filter_append, List.length_append]; simp [h]
theorem KE {p : Prg} {l k : Nat} : Cv p l k ≤ k := by
 unfold Cv;exact Nat.le_trans (List.length_filter_le _ _) (by rw [List.length_range]; exact Nat.le_refl _)
theorem AY (n l : Nat) (hl : l ≤ 100) (hn : n ≤ 1000000) : PC Tryz.prog 229 [iv (n : Int), iv (l : Int)] (fun r => r = sl cI (u9 n l)) := by
 refine aC Tryz.func229 Tryz.ntmps229 ?_
 repeat' (first|refine aE ?_|refine aF ?_|fail)
 refine aI (σ := Nat × Nat × List Int × Nat) [1] [] (fun k => [(6, iv (k.1 : Int)), (0, iv (k.2.1 : Int)), (5, .own 0 0 k.2.2.2 1)]) (fun k => [(0, some (flat cI k.2.2.1))]) (fun k => k.1 ≤ l ∧ k.2.1 = n / 2 ^ k.1 ∧ k.2.2.1 = u9 n k.1 ∧ k.2.2.2 = k.1) (fun k => l - k.1) (0, n, [], 0) ⟨Nat.zero_le _, by simp, rfl, rfl⟩ ?_
 rintro ⟨i, n', xs, m⟩ ⟨hi, hn', hxs, hm⟩
 dsimp only at hi hn' hxs hm ⊢
 have hnl : n' ≤ 1000000 := by rw [hn']; exact Nat.le_trans (Nat.div_le_self _ _) hn
 have hxl : xs.length = m := by rw [hxs, rK, hm]
 repeat' (first|(apply aH;(apply aM (t := _);rfl;rfl;rfl;exact (rfl:_=some [_]);rfl;rfl))|refine aE ?_|refine aF ?_|(refine aK ?_ ?_ <;> intro hc hq <;> try (exfalso;omega))|fail)
 ·(refine bC (i + 1, n' / 2, _, m + 1) (Le.renA [(0, 2)]) ?_ ?_)
  ·refine ⟨by dsimp only; omega, ?_, ?_, by dsimp only; omega⟩
   ·dsimp only;rw [hn', Nat.pow_succ, Nat.div_div_eq_div_mul]
   ·dsimp only;rw [zT, ← hxs, ← hn']; rfl
  ·dsimp only;omega
 ·(refine aU (Le.frzD (d := 4) (i := 0) rfl rfl) ?_; refine aD rfl ?_)
  refine ⟨?_, (by (exact a6 _ _))⟩
  have hie : i = l := by omega
  simp only [aN, sl]
  rw [← hxl, hxs, hie]
theorem HZ (l : Nat) (hl : l ≤ 10) : PC Tryz.prog 227 [iv (l : Int)] (fun r => r = iv ((2 ^ l : Nat) : Int)) := by
 refine aC Tryz.func227 Tryz.ntmps227 ?_
 repeat' (first|refine aE ?_|refine aF ?_|fail)
 refine aI (σ := Nat) [0] [] (fun k => [(4, iv (k : Int)), (3, iv ((2 ^ k : Nat) : Int))]) (fun k => []) (fun k => k ≤ l) (fun k => l - k) (0) (Nat.zero_le _) ?_
 rintro k hk
 have hp : 2 ^ k ≤ 2 ^ 10 := Nat.pow_le_pow_right (by decide) (by omega)
 repeat' (first|refine aE ?_|refine aF ?_|(refine aK ?_ ?_ <;> intro hc hq <;> try (exfalso;omega))|fail)
 ·have hw : IntKind.i64.wrap (((2 ^ k : Nat) : Int) * 2) = ((2 ^ (k + 1) : Nat) : Int) := by
   rw [show (((2 ^ k : Nat) : Int) * 2) = ((2 ^ (k + 1) : Nat) : Int) by rw [Nat.pow_succ, Int.natCast_mul]; rfl]
   exact oI (Sm.pow (by omega)).pf
  rw [hw]
  (refine bC (k + 1) (Le.renA []) ?_ ?_)
  ·omega
  ·omega
 ·refine aD rfl ⟨?_, rfl⟩
  rw [show l = k by omega]; rfl
def qT (p : Prg) (l : Int) : Bool := bK p && (decide (0 ≤ l) && decide (l ≤ 6))
theorem rN {p : Prg} {l : Int} : qT p l = true ↔ bK p = true ∧ 0 ≤ l ∧ l ≤ 6 := by unfold qT; simp only [Bool.and_eq_true, decide_eq_true_eq]
theorem vX (p : Prg) (l : Int) (hl : p.types.length ≤ 1000000) (hs : bE p.body ≤ 1000000) : PC Tryz.prog 178 [bZ p, iv l] (fun r => r = bv (qT p l)) := by
 have hval := gA p hl (by omega)
 refine aC Tryz.func178 Tryz.ntmps178 ?_
 repeat' (first|(apply aH;(apply aA (k := 61);rfl;exact hval;exact Pur.pf;rfl))|refine aE ?_|refine aF ?_|(refine bQ ?_ ?_ <;> intro hg hq <;> try (exfalso;omega))|fail)
 all_goals (refine aD rfl ⟨?_, rfl⟩; simp only [aN, AV.v.injEq, Value.bool.injEq]; unfold qT;grind)
theorem G1 : PC Tryz.prog 262 [] (fun r => r = iv 80) := by
 refine aC Tryz.func262 Tryz.ntmps262 ?_
 repeat' (first|refine aE ?_|refine aF ?_|fail)
 exact aD rfl ⟨rfl, rfl⟩
theorem EZ (p : Prg) (cs : List Int) (hl : p.types.length ≤ 1000000) (hs : bE p.body ≤ 1000000) (hcl : cs.length ≤ 1000000) : PC Tryz.prog 228 [bZ p, sl cI cs] (fun r => r = .tup [bv (decide (E5 p cs 80 ≠ 0) && decide (E5 p cs 80 ≠ 1)), iv (LN p cs 80)]) := by
 have h := KY p cs 80 hl hs hcl
 have hm := G1
 generalize E5 p cs 80 = e at *
 generalize LN p cs 80 = a at *
 refine aC Tryz.func228 Tryz.ntmps228 ?_
 repeat' (first|(apply aH;first|(apply aA (k := 84);rfl;exact h;exact Pur.pf;rfl)|(apply aA (k := 262);rfl;exact hm;(rfl);rfl))|refine aE ?_|refine aF ?_|(refine bQ ?_ ?_ <;> intro hg hq <;> try (exfalso;omega))|refine bO ?_|fail)
 ·refine aD (l := [bv _, iv a]) ?_ ⟨rfl, rfl⟩
  have hd : (decide (e ≠ 0) && decide (e ≠ 1)) = !decide (e = 1) := by simp_all
  rw [hd]; rfl
 ·refine aD (l := [bv _, iv a]) ?_ ⟨rfl, rfl⟩
  have hd : (decide (e ≠ 0) && decide (e ≠ 1)) = false := by simp_all
  rw [hd]; rfl
theorem Cd (l : Int) : PC Tryz.prog 257 [iv l] (fun r => r = bv (decide (0 ≤ l) && decide (l ≤ 6))) := by
 have hw := cX l 0 6
 refine aC Tryz.func257 Tryz.ntmps257 ?_
 repeat' (first|(apply aH;(apply aA (k := 54);rfl;exact hw;(rfl);rfl))|refine aE ?_|refine aF ?_|fail)
 exact aD rfl ⟨rfl, rfl⟩
theorem z5 (n l : Nat) (hl : l ≤ 60) (hn : n ≤ 1000000) : PC Tryz.prog 258 [iv (n : Int), iv (l : Int)] (fun r => r = sl cI (u9 n l)) := by
 have : Sm n := ⟨by omega⟩
 refine aC Tryz.func258 Tryz.ntmps258 ?_
 repeat' (first|refine aE ?_|refine aF ?_|fail)
 refine AW.le ?_ (Le.nilOwn (d := 5) 1 rfl (by decide))
 refine aI (σ := Nat × List Int × Nat) [0, 7] [] (fun k => [(8, iv (k.1 : Int)), (5, .own 0 0 k.2.2 1)]) (fun k => [(0, some (flat cI k.2.1))]) (fun k => k.1 ≤ l ∧ k.2.1 = u9 n k.1 ∧ k.2.2 = k.1) (fun k => l - k.1) (0, [], 0) ⟨Nat.zero_le _, rfl, rfl⟩ ?_
 rintro ⟨i, xs, m⟩ ⟨hi, hxs, hm⟩
 dsimp only at hi hxs hm ⊢
 have hxl : xs.length = m := by rw [hxs, rK, hm]
 repeat' (first|(apply aH;(apply aM (t := _);rfl;rfl;rfl;exact (rfl:_=some [_]);rfl;rfl))|refine aE ?_|refine aF ?_|(refine aK ?_ ?_ <;> intro hc hq <;> try (exfalso;omega))|fail)
 ·(refine bC (i + 1, _, m + 1) (Le.renA [(0, 2)]) ?_ ?_)
  ·refine ⟨by dsimp only; omega, ?_, by dsimp only; omega⟩
   have hz : n >>> (i : Int).toNat &&& 1 = n / 2 ^ i % 2 := by rw [Int.toNat_natCast, Nat.shiftRight_eq_div_pow]; exact Nat.and_one_is_mod _
   dsimp only;rw [zT, ← hxs, ← hz]
  ·dsimp only;omega
 ·refine aU (Le.frzD (d := 4) (i := 0) rfl rfl) ?_
  refine aD rfl ⟨?_, (by (exact a6 _ _))⟩
  have hie : i = l := by omega
  simp only [aN, sl]
  rw [← hxl, hxs, hie]
theorem Lc (a b c : Int) (h0 : 0 ≤ c) (h1 : c ≤ 100) : MC Tryz.prog 221 [iv a, iv b, .optr 0 0] [(0, some [iv c])] 1 (fun _ : Unit => True) (fun _ => .tup []) (fun _ => [(0, some [iv (c + 1)])]) := by
 refine aT Tryz.func221 Tryz.ntmps221 ?_
 repeat' (first|refine aE ?_|refine aF ?_|fail)
 refine xZ (l := []) rfl ?_
 exact aQ () trivial rfl ⟨.inr rfl, trivial⟩
theorem Hk (p : Prg) (l : Int) (hl : p.types.length ≤ 1000000) (hs : bE p.body ≤ 1000000) : MC Tryz.prog 220 [bZ p, iv l, .clos (.func 221) [] [.optr 0 0]] [(0, some [iv 0])] 1 (fun _ : Unit => True) (fun _ => bv (qT p l)) (fun _ => [(0, some [iv (if qT p l = true then (Cv p l.toNat (2 ^ l.toNat) : Int) else 0)])]) := by
 have hv0 := oC p hl (by omega)
 have hil := Cd l
 by_cases h : qT p l = true
 ·obtain ⟨hv, h0, h1⟩ := rN.1 h
  rw [hv] at hv0
  rw [h, if_pos rfl]
  obtain ⟨L, rfl⟩ := Int.eq_ofNat_of_zero_le h0
  rw [show (decide (0 ≤ (L : Int)) && decide ((L : Int) ≤ 6)) = true by rw [decide_eq_true h0, decide_eq_true h1]; rfl] at hil
  have hp : 2 ^ L ≤ 2 ^ 6 := Nat.pow_le_pow_right (by decide) (by omega)
  rw [Int.toNat_natCast]
  refine aT Tryz.func220 Tryz.ntmps220 ?_
  repeat' (first|(apply aH;first|(apply aA (k := 39);rfl;exact hv0;exact Pur.pf;rfl)|(apply aA (k := 257);rfl;exact hil;(rfl);rfl)|(apply fZ;rfl;rfl;infer_instance;omega;rfl;(case' kk => intro hsm)))|refine aE ?_|refine aF ?_|fail)
  rw [Int.toNat_natCast]
  generalize hT : 2 ^ L = T at *
  refine aI (σ := Nat × Nat) [1, 2, 3, 19] [] (fun s => [(20, iv (s.1 : Int))]) (fun s => [(0, some [iv (s.2 : Int)]), (1, some [sl cI p.types, sl bF p.body])]) (fun s => s.1 ≤ T ∧ s.2 = Cv p L s.1) (fun s => T - s.1) (0, 0) ⟨Nat.zero_le _, rfl⟩ ?_
  rintro ⟨k, c⟩ ⟨hk, hc⟩
  dsimp only at hk hc ⊢
  have hcb := KE (p := p) (l := L) (k := k)
  have hch1 := Jx (p := p) (l := L) (k := k)
  have hcs1 := Gg (p := p) (l := L) (k := k)
  rw [← hc] at hcb hch1 hcs1
  have hch := z5 k L (by omega) (by omega)
  have hru := Mu p (u9 k L) 80 hl hs (by rw [rK]; omega)
  have hbd : nJ p L k = (decide (E5 p (u9 k L) 80 ≠ 0) && decide (E5 p (u9 k L) 80 ≠ 1)) := rfl
  generalize E5 p (u9 k L) 80 = e at hru hbd
  generalize LN p (u9 k L) 80 = a at hru
  repeat' (first|(apply aH;first|(apply aA (k := 258);rfl;exact hch;(rfl);rfl)|(apply aA (k := 35);rfl;exact hru;exact Pur.pf;rfl))|refine aE ?_|refine aF ?_|(refine aK ?_ ?_ <;> intro hc hq <;> try (exfalso;omega))|(refine bQ ?_ ?_ <;> intro hg hq <;> try (exfalso;omega))|refine bO ?_|fail)
  ·have hbt : nJ p L k = true := by rw [hbd]; simp_all
   refine Ep (k := 221) (avs := [iv (k : Int), iv a]) (avs0 := [iv (k : Int), iv a, .optr 0 0]) (rr' := .tup []) [0] 1 [(0, some [iv ((c : Int) + 1)])] (Lc (k : Int) a (c : Int) (by omega) (by omega)) rfl rfl rfl rfl ⟨⟨_, _, rfl, rfl, RnL.purI inferInstance⟩, trivial⟩ rfl (RnL.cons (RnV.purI inferInstance) (RnL.cons (RnV.purI inferInstance) (RnL.cons (RnV.optr rfl) .nil))) rfl (RnV.purI inferInstance) rfl ⟨⟨0, _, rfl, rfl, RnL.purI inferInstance⟩, trivial⟩ rfl ?_
   repeat' (first|refine aE ?_|refine aF ?_|fail)
   (apply bC (k + 1, c + 1);focus (refine Le.of (l9 ?_) (jK ?_) (Nat.le_refl 2) rfl <;> repeat' (first|exact trivial|refine And.intro rfl ?_|refine And.intro (.inr rfl) ?_)))
   ·exact ⟨by dsimp only;omega, (hch1 hbt).symm⟩
   ·dsimp only;omega
  ·have hbf : nJ p L k = false := by rw [hbd]; simp_all
   (apply bC (k + 1, c);focus (refine Le.of (l9 ?_) (jK ?_) (Nat.le_refl 2) rfl <;> repeat' (first|exact trivial|refine And.intro rfl ?_|refine And.intro (.inr rfl) ?_)))
   ·exact ⟨by dsimp only;omega, (hcs1 hbf).symm⟩
   ·dsimp only;omega
  ·have hbf : nJ p L k = false := by rw [hbd]; simp_all
   (apply bC (k + 1, c);focus (refine Le.of (l9 ?_) (jK ?_) (Nat.le_refl 2) rfl <;> repeat' (first|exact trivial|refine And.intro rfl ?_|refine And.intro (.inr rfl) ?_)))
   ·exact ⟨by dsimp only;omega, (hcs1 hbf).symm⟩
   ·dsimp only;omega
  all_goals
   obtain rfl : k = T := by omega
   obtain rfl : c = Cv p L k := by assumption
   refine aD rfl ?_
   exact aQ () trivial rfl ⟨.inr rfl, trivial⟩
 ·have h2 : qT p l = false := by simpa using h
  rw [h2, if_neg (by decide)]
  by_cases hv : bK p = true
  ·have hil2 : (decide (0 ≤ l) && decide (l ≤ 6)) = false := by unfold qT at h2; rw [hv] at h2; simpa using h2
   rw [hv] at hv0
   rw [hil2] at hil
   refine aT Tryz.func220 Tryz.ntmps220 ?_
   repeat' (first|(apply aH;first|(apply aA (k := 39);rfl;exact hv0;exact Pur.pf;rfl)|(apply aA (k := 257);rfl;exact hil;(rfl);rfl))|refine aE ?_|refine aF ?_|fail)
   refine aD rfl ?_
   exact aQ () trivial rfl ⟨.inr rfl, trivial⟩
  ·have hv2 : bK p = false := by simpa using hv
   rw [hv2] at hv0
   refine aT Tryz.func220 Tryz.ntmps220 ?_
   repeat' (first|(apply aH;(apply aA (k := 39);rfl;exact hv0;exact Pur.pf;rfl))|refine aE ?_|refine aF ?_|fail)
   refine aD rfl ?_
   exact aQ () trivial rfl ⟨.inr rfl, trivial⟩
theorem uP (p : Prg) (l : Int) (hl : p.types.length ≤ 1000000) (hs : bE p.body ≤ 1000000) : PC Tryz.prog 168 [bZ p, iv l] (fun r => r = .tup (if qT p l = true then [iv (Cv p l.toNat (2 ^ l.toNat)), iv ((2 ^ l.toNat : Nat) : Int)] else [iv 0, iv 0])) := by
 have hw := Hk p l hl hs
 have harg : RnL (([1] : List Nat)[·]?) [bZ p, iv l, .clos (.func 221) [] [.optr 0 0]] [bZ p, iv l, .clos (.func 221) [] [.optr 1 0]] := RnL.cons (RnV.purI inferInstance) (RnL.cons (RnV.purI inferInstance) (RnL.cons (RnV.clos .nil (RnL.cons (RnV.optr rfl) .nil)) .nil))
 by_cases h : qT p l = true
 ·obtain ⟨hv, h0, h1⟩ := rN.1 h
  rw [h, if_pos rfl] at hw
  rw [h, if_pos rfl]
  obtain ⟨L, rfl⟩ := Int.eq_ofNat_of_zero_le h0
  have hp : 2 ^ L ≤ 2 ^ 6 := Nat.pow_le_pow_right (by decide) (by omega)
  rw [Int.toNat_natCast] at *
  refine aC Tryz.func168 Tryz.ntmps168 ?_
  repeat' (first|refine aE ?_|refine aF ?_|fail)
  refine aY (k := 220) (avs := [bZ p, iv (L : Int), .clos (.func 221) [] [.optr 1 0]]) (rr' := bv true) [1] 1 [(1, some [iv (Cv p L (2 ^ L) : Int)])] hw rfl rfl ⟨⟨_, _, rfl, rfl, RnL.purI inferInstance⟩, trivial⟩ rfl harg rfl (RnV.purI inferInstance) rfl ⟨⟨0, _, rfl, rfl, RnL.purI inferInstance⟩, trivial⟩ rfl ?_
  repeat' (first|(apply aH;(apply fZ;rfl;rfl;infer_instance;omega;rfl;(case' kk => intro hsm)))|refine aE ?_|refine aF ?_|refine bO ?_|fail)
  exact aD (l := [iv _, iv _]) rfl ⟨rfl, rfl⟩
 ·have h2 : qT p l = false := by simpa using h
  rw [h2, if_neg (by decide)] at hw
  rw [if_neg h]
  refine aC Tryz.func168 Tryz.ntmps168 ?_
  repeat' (first|refine aE ?_|refine aF ?_|fail)
  refine aY (k := 220) (avs := [bZ p, iv l, .clos (.func 221) [] [.optr 1 0]]) (rr' := bv false) [1] 1 [(1, some [iv 0])] hw rfl rfl ⟨⟨_, _, rfl, rfl, RnL.purI inferInstance⟩, trivial⟩ rfl harg rfl (RnV.purI inferInstance) rfl ⟨⟨0, _, rfl, rfl, RnL.purI inferInstance⟩, trivial⟩ rfl ?_
  repeat' (first|refine aE ?_|refine aF ?_|fail)
  exact aD (l := [iv 0, iv 0]) rfl ⟨rfl, rfl⟩
def MM (p : Prg) (l : Int) : Int := if qT p l = true then (Cv p l.toNat (2 ^ l.toNat) : Int) else 0
def Kb (p : Prg) (l : Int) : Int := if qT p l = true then ((2 ^ l.toNat : Nat) : Int) else 0
theorem M6 (p : Prg) (l : Int) (hl : p.types.length ≤ 1000000) (hs : bE p.body ≤ 1000000) : PC Tryz.prog 168 [bZ p, iv l] (fun r => r = .tup [iv (MM p l), iv (Kb p l)]) := by
 have h := uP p l hl hs
 unfold MM Kb
 split
 ·rename_i h2;rw [if_pos h2] at h;exact h
 ·rename_i h2;rw [if_neg h2] at h;exact h
theorem LR (p : Prg) (l : Int) : 0 ≤ Kb p l ∧ Kb p l ≤ 64 := by
 unfold Kb
 split
 ·rename_i h
  obtain ⟨_, h0, h1⟩ := rN.1 h
  have hp : 2 ^ l.toNat ≤ 2 ^ 6 := Nat.pow_le_pow_right (by decide) (by omega)
  have h64 : (2 ^ 6 : Nat) = 64 := rfl
  rw [h64] at hp
  exact ⟨Int.natCast_nonneg _, by exact_mod_cast hp⟩
 ·omega
def Ba (p : Prg) (l : Int) : Option Nat := if qT p l = true then (List.range (2 ^ l.toNat)).find? (nJ p l.toNat) else none
def Nl (p : Prg) (l : Int) : List Int := match Ba p l with | some n => u9 n l.toNat | none => []
theorem Jf {P : Nat → Bool} {k T : Nat} (hk : k < T) (h : P k = true) (hb : ∀ j, j < k → P j = false) : (List.range T).find? P = some k := by
 rw [List.find?_range_eq_some]
 exact ⟨h, List.mem_range.2 hk, fun j hj => by rw [hb j hj]; rfl⟩
theorem JT {P : Nat → Bool} {T : Nat} (hb : ∀ j, j < T → P j = false) : (List.range T).find? P = none := by
 rw [List.find?_eq_none]; intro x hx;rw [hb x (List.mem_range.1 hx)]; decide
theorem uR (p : Prg) (l : Int) (hl : p.types.length ≤ 1000000) (hs : bE p.body ≤ 1000000) : PC Tryz.prog 177 [bZ p, iv l] (fun r => r = .tup [sl cI (Nl p l), bv (Ba p l).isSome]) := by
 have hr := vX p l hl hs
 by_cases h : qT p l = true
 ·obtain ⟨hv, h0, h1⟩ := rN.1 h
  rw [h] at hr
  obtain ⟨L, rfl⟩ := Int.eq_ofNat_of_zero_le h0
  have e : Ba p (L : Int) = (List.range (2 ^ L)).find? (nJ p L) := by unfold Ba;rw [if_pos h, Int.toNat_natCast]
  have e2 : Nl p (L : Int) = match (List.range (2 ^ L)).find? (nJ p L) with|some n => u9 n L|none => [] := by unfold Nl;rw [e, Int.toNat_natCast]
  rw [e, e2]
  have hru := HZ L (by omega)
  have hp : 2 ^ L ≤ 2 ^ 6 := Nat.pow_le_pow_right (by decide) (by omega)
  generalize hT : 2 ^ L = T at *
  refine aC Tryz.func177 Tryz.ntmps177 ?_
  repeat' (first|(apply aH;(apply aA (k := 178);rfl;exact hr;exact Pur.pf;rfl))|refine aE ?_|refine aF ?_|fail)
  refine aI (σ := Nat) [1, 2] [0] (fun k => [(6, iv (k : Int))]) (fun k => []) (fun k => k ≤ T ∧ ∀ j, j < k → nJ p L j = false) (fun k => T - k) (0) ⟨Nat.zero_le _, fun j hj => by omega⟩ ?_
  rintro k ⟨hk, hb⟩
  have hch := AY k L (by omega) (by omega)
  have hwr := EZ p (u9 k L) hl hs (by rw [rK]; omega)
  change PC _ _ _ (fun r => r = .tup [bv (nJ p L k), _]) at hwr
  repeat' (first|(apply aH;first|(apply aA (k := 229);rfl;exact hch;(rfl);rfl)|(apply aA (k := 228);rfl;exact hwr;exact Pur.pf;rfl)|(apply aA (k := 227);rfl;exact hru;(rfl);rfl)|(apply aM (t := _);rfl;rfl;rfl;(rfl);rfl;rfl))|refine aE ?_|refine aF ?_|(refine aK ?_ ?_ <;> intro hc hq <;> try (exfalso;omega))|refine bO ?_|fail)
  ·rw [Jf (by omega) (by assumption) hb]
   exact aD (l := [sl cI (u9 k L), bv true]) rfl ⟨rfl, Pur.pf⟩
  ·(refine bC (k + 1) (Le.renA [(0, 0)]) ?_ ?_)
   ·refine ⟨by omega, fun j hj => ?_⟩
    by_cases q : j = k
    ·subst q;assumption
    ·exact hb j (by omega)
   ·omega
  ·obtain rfl : k = T := by omega
   rw [JT hb]
   exact aD (l := [.imm 0 [], bv false]) rfl ⟨rfl, rfl⟩
 ·have h2 : qT p l = false := by simpa using h
  rw [h2] at hr
  have e : Ba p l = none := by unfold Ba;rw [if_neg h]
  have e2 : Nl p l = [] := by unfold Nl;rw [e]
  rw [e, e2]
  refine aC Tryz.func177 Tryz.ntmps177 ?_
  repeat' (first|(apply aH;first|(apply aA (k := 178);rfl;exact hr;exact Pur.pf;rfl)|(apply aM (t := _);rfl;rfl;rfl;(rfl);rfl;rfl))|refine aE ?_|refine aF ?_|fail)
  exact aD (l := [.imm 0 [], bv false]) rfl ⟨rfl, rfl⟩
theorem Jl (p : Prg) (l : Int) (hl : p.types.length ≤ 1000000) (hs : bE p.body ≤ 1000000) : PC Tryz.prog 99 [bZ p, iv l] (fun r => r = bv (qT p l && (Ba p l).isNone)) := by
 have h1 := uR p l hl hs
 have h2 := vX p l hl hs
 have e : (Ba p l).isNone = !(Ba p l).isSome := by cases Ba p l <;> rfl
 rw [e]
 generalize (Ba p l).isSome = b at *
 refine aC Tryz.func99 Tryz.ntmps99 ?_
 repeat' (first|(apply aH;first|(apply aA (k := 177);rfl;exact h1;exact Pur.pf;rfl)|(apply aA (k := 178);rfl;exact h2;exact Pur.pf;rfl))|refine aE ?_|refine aF ?_|(refine bQ ?_ ?_ <;> intro hg hq <;> try (exfalso;omega))|fail)
 all_goals (refine aD rfl ⟨?_, rfl⟩; simp only [aN]; simp_all)
theorem JC (p : Prg) (l : Int) : (decide (0 < Kb p l) && decide (MM p l = 0)) = (qT p l && (Ba p l).isNone) := by
 unfold Kb MM Ba
 by_cases h : qT p l = true
 ·rw [if_pos h, if_pos h, if_pos h, h]
  have hp : 0 < 2 ^ l.toNat := Nat.pow_pos (by decide)
  rw [decide_eq_true (by omega : (0 : Int) < ((2 ^ l.toNat : Nat) : Int)), Bool.true_and, Bool.true_and, Bool.eq_iff_iff, decide_eq_true_eq, Option.isNone_iff_eq_none, List.find?_eq_none]
  unfold Cv
  constructor
  ·intro q x hx hb
   have : (List.range (2 ^ l.toNat)).filter (nJ p l.toNat) = [] := List.length_eq_zero_iff.1 (by omega)
   have hm : x ∈ (List.range (2 ^ l.toNat)).filter (nJ p l.toNat) := List.mem_filter.2 ⟨hx, hb⟩
   rw [this] at hm;cases hm
  ·intro q
   have : (List.range (2 ^ l.toNat)).filter (nJ p l.toNat) = [] := List.filter_eq_nil_iff.2 q
   rw [this]; rfl
 ·rw [if_neg h, if_neg h, if_neg h]
  have h2 : qT p l = false := by simpa using h
  rw [h2]; rfl
theorem Ie (p : Prg) (l : Int) (hl : p.types.length ≤ 1000000) (hs : bE p.body ≤ 1000000) : PC Tryz.prog 95 [bZ p, iv l] (fun r => r = bv (qT p l && (Ba p l).isNone)) := by
 have h1 := M6 p l hl hs
 rw [← JC]
 have hb := LR p l
 generalize Kb p l = a at *
 generalize MM p l = c at *
 refine aC Tryz.func95 Tryz.ntmps95 ?_
 repeat' (first|(apply aH;(apply aA (k := 168);rfl;exact h1;exact Pur.pf;rfl))|refine aE ?_|refine aF ?_|(refine bQ ?_ ?_ <;> intro hg hq <;> try (exfalso;omega))|fail)
 all_goals (refine aD rfl ⟨?_, rfl⟩; simp only [aN]; first|(simp_all;done)|(simp_all;omega))
end Go.Proofs.YtahdccneecdmmaaGreat
namespace Go.Proofs.YtahdccneecdmmaaGreat
open Go.AL Go.ChangeShapes Go.WideShapes Go.ChangeAt Go.RowKit
theorem vJ {w : World} {bad : Nat → Prop} {ι : Pl} {b : Nat} : ∀ (bs : List UInt8) (o : Nat), ¬ bad b → (∀ j, j < bs.length → w.cell? ⟨b, o + j, none⟩ = some (.int .u8 ((bs[j]!).toNat : Int))) → RdC w bad ι (flat cU bs) b o
 | [], _, _, _ => by simp only [flat, List.flatMap_nil, RdC]
 | x :: bs, o, hb, h => by
  have h0 := h 0 (by simp)
  have e : flat cU (x :: bs) = .v (.int .u8 (x.toNat : Int)) :: flat cU bs := rfl
  rw [e]
  simp only [RdC]
  refine ⟨⟨.int .u8 (x.toNat : Int), by simpa using h0, rfl, by simp only [Rd]⟩, vJ bs (o + 1) hb fun j hj => ?_⟩
  have := h (j + 1) (by simpa using hj)
  rw [show o + 1 + j = o + (j + 1) from by omega]
  simpa using this
theorem xG {P : Program} {k : FuncId} {bs ms : List UInt8} (h : PC P k [sl cU bs, sl cU ms] (fun r => r = bv true)) {W : World} {v v' : Value} (hv : Rd W (fun _ => False) (fun _ => none) (sl cU bs) v) (hv' : Rd W (fun _ => False) (fun _ => none) (sl cU ms) v') :
  Calls P k #[v, v'] W fun e W' => e = .returned (.bool true) ∧ Below W.heap.size W W' := by
 let C : Ctx := { N := 0, w0 := W, W0 := fun _ => False, X := fun _ => False, ι0 := fun _ => none, xlt := fun _ h => h.elim }
 have hbad : ∀ b, ¬ aL C.X (fun _ => none) (aP []) b := by
  rintro b (h | ⟨id, cs, β, h1, h2⟩)
  ·exact h
  ·cases h2
 have g : HG C (fun _ => none) (fun j => 0 ≤ j) (aP []) W :=
  ⟨fun id cs h => by simp [aP] at h, fun id id' cs cs' b β β' h => by simp [aP] at h, Fr.refl _ _, fun _ _ h => h, fun _ _ => rfl⟩
 have hcar : Carry W (fun _ => False) (fun _ => none) W (aL C.X (fun _ => none) (aP [])) (fun _ => none) := ⟨fun b o x _ h2 => ⟨hbad b, h2⟩, fun _ _ h => h, fun _ => Nat.le_refl _⟩
 have ha : RdV W (aL C.X (fun _ => none) (aP [])) (fun _ => none) [sl cU bs, sl cU ms] [v, v'] := by
  simp only [RdV]
  exact ⟨v, [v'], rfl, Rd.carry hcar _ _ hv, v', [], rfl, Rd.carry hcar _ _ hv', rfl⟩
 refine (h C _ W [v, v'] rfl rfl g ha).mono ?_
 rintro e W' ⟨v'', r, H', ι', rfl, ⟨rfl, _⟩, h4, h5⟩
 simp only [Rd] at h4
 subst h4
 have f := h5.fr
 exact ⟨rfl, f.os, f.tape, f.output, f.size, fun b hb => f.block b hb (fun h => h)⟩
theorem Fh : laidOutB Tryz.prog = true := by kernel_rfl
theorem K4 : Tryz.prog.cellsOf 5 = 1 := by kernel_rfl
theorem Ao {H : Type} {enc : TypeId × Value → H} {W : World} {base : Nat} {v0 : Value} {d0 : DataW H} {p : List MemPlace} (hval : Value.okWide Tryz.prog W .any base 22 v0) (h0 : DataW.Trod enc Tryz.prog W 0 (fun _ => true) true 22 v0 d0 p) :
  ∃ bs : List UInt8, Rd W (fun _ => False) (fun _ => none) (sl cU bs) v0 := by
 obtain ⟨a0, len, cap, rfl⟩ := okWide_slice Tryz.underlying22 hval
 obtain ⟨fuel, hf⟩ := h0
 rcases open_ints Tryz.underlying22 Tryz.underlying5 K4 hf with ⟨hcs, hx⟩ | ⟨a, len', cap', zs, hcs, _, hl, hm, hz, hx, hcell, hwz⟩
 ·simp [Value.cells] at hcs
  obtain ⟨rfl, rfl, rfl⟩ := hcs
  refine ⟨[], ?_⟩
  simp only [Rd]
  exact ⟨none, 0, rfl, .inl rfl⟩
 ·simp [Value.cells] at hcs
  obtain ⟨rfl, rfl, rfl⟩ := hcs
  simp only [if_true] at hz
  refine ⟨(zs.take len).map fun n => UInt8.ofNat n.toNat, ?_⟩
  have hlen : ((zs.take len).map fun n => UInt8.ofNat n.toNat).length = len := by simp;omega
  simp only [Rd]
  refine ⟨some a, cap, by rw [hlen], ?_⟩
  by_cases h00 : len = 0
  ·exact .inl (by rw [hlen]; exact h00)
  ·obtain ⟨b, off, spot⟩ := a
   have hspot : spot = none := by simpa [Addr.add] using World.cell?_spot (hcell 0 (by omega))
   subst hspot
   refine .inr ⟨b, off, by rw [hlen]; exact hl, rfl, .inr ⟨fun h => h, vJ _ _ (fun h => h) fun j hj => ?_⟩⟩
   rw [hlen] at hj
   have hcj := hcell j (by omega)
   rw [Addr.add_lit] at hcj
   rw [hcj]
   have e : zs.getD j 0 = zs[j]'(by omega) := by simp [List.getD, List.getElem?_eq_getElem (show j < zs.length by omega)]
   have hw := hwz (zs[j]'(by omega)) (List.getElem_mem _)
   have hr : 0 ≤ zs[j]'(by omega) ∧ zs[j]'(by omega) ≤ 255 := by simpa [Lit.wf, IntKind.min, IntKind.max, IntKind.signed, IntKind.bits] using hw
   rw [e, bB _ _ (by rw [hlen]; exact hj)]
   simp only [List.getElem_map, List.getElem_take]
   congr 2
   simp only [UInt8.toNat_ofNat']
   omega
theorem w9 {P : Program} {k : FuncId} {avs : List AV} (h : PC P k avs (fun r => r = bv true)) {W : World} {vs : List Value} (hv : RdV W (fun _ => False) (fun _ => none) avs vs) :
  Calls P k vs.toArray W fun e W' => e = .returned (.bool true) ∧ Below W.heap.size W W' := by
 let C : Ctx := { N := 0, w0 := W, W0 := fun _ => False, X := fun _ => False, ι0 := fun _ => none, xlt := fun _ h => h.elim }
 have hbad : ∀ b, ¬ aL C.X (fun _ => none) (aP []) b := by
  rintro b (h | ⟨id, cs, β, h1, h2⟩)
  ·exact h
  ·cases h2
 have g : HG C (fun _ => none) (fun j => 0 ≤ j) (aP []) W :=
  ⟨fun id cs h => by simp [aP] at h, fun id id' cs cs' b β β' h => by simp [aP] at h, Fr.refl _ _, fun _ _ h => h, fun _ _ => rfl⟩
 have hcar : Carry W (fun _ => False) (fun _ => none) W (aL C.X (fun _ => none) (aP [])) (fun _ => none) := ⟨fun b o x _ h2 => ⟨hbad b, h2⟩, fun _ _ h => h, fun _ => Nat.le_refl _⟩
 refine (h C _ W vs rfl rfl g (RdV.carry hcar _ _ hv)).mono ?_
 rintro e W' ⟨v'', r, H', ι', rfl, ⟨rfl, _⟩, h4, h5⟩
 simp only [Rd] at h4
 subst h4
 have f := h5.fr
 exact ⟨rfl, f.os, f.tape, f.output, f.size, fun b hb => f.block b hb (fun h => h)⟩
end Go.Proofs.YtahdccneecdmmaaGreat
namespace Go.Proofs.YtahdccneecdmmaaGreat
open Go.AL Go.RowKit
theorem Hr (ck : Nat) [hck : CaT Tryz.prog ck] (ts : List Int) (bd : List AL.Stmt) (pts : List Pnt) (Aa Am Al Af Ap : List Nat) (w : WG ts pts) (ga : m6 ts pts Aa) (gm : lN ts pts Am) (hll : Al.length = pts.length) (hAlb : ∀ i, i < pts.length → Al[i]! < 2 ^ ts.length) (gf : nN ts pts Af) (gp : mX ts pts Ap)
  (hcl : ∀ i : Int, 0 ≤ i ∧ i < pts.length → PC Tryz.prog ck [iv i, .iptr [.imm pts.length (flat cW Af)]] (fun r => r = .agg (flat cW (cF Af i.toNat)))) :
  PC Tryz.prog 105 [aG ts bd pts, .imm pts.length (flat cN Al), .clos (.func ck) [] [.iptr [.imm pts.length (flat cW Af)]]] (fun r => r = sl dN (kM ts pts Aa Am Al Af Ap pts.length)) := by
 have hpl := w.pl
 have htl := w.tl
 have hla := ga.1
 have hlm := gm.1
 have hlf := gf.1
 have hlp := gp.1
 refine aC Tryz.func105 Tryz.ntmps105 ?_
 repeat' (first|(apply aH;first|(apply e5 (d := 10) (e := 3);rfl;rfl)|(first|(apply aA (k := 102);rfl;(apply qY <;> (assumption));exact Pur.pf;rfl)|(apply aA (k := 121);rfl;(apply tO <;> (assumption));exact Pur.pf;rfl)|(apply aA (k := 184);rfl;(apply uF <;> (assumption));exact Pur.pf;rfl)))|refine aE ?_|refine aF ?_|fail)
 refine aI (σ := Nat × List Iss × Nat) [0, 1, 2, 7, 8, 9, 27, 28] [] (fun k => [(29, iv (k.1 : Int)), (10, .own 0 0 k.2.2 3)]) (fun k => [(0, some (flat dN k.2.1))]) (fun k => k.1 ≤ pts.length ∧ k.2.1 = kM ts pts Aa Am Al Af Ap k.1 ∧ k.2.2 = k.2.1.length ∧ k.2.2 ≤ k.1 * 124) (fun k => pts.length - k.1) (0, [], 0) ⟨by omega, rfl, rfl, Nat.le_refl _⟩ ?_
 rintro ⟨i, u, m⟩ ⟨hk, hu, hm, hmk⟩
 dsimp only at hk hu hm hmk ⊢
 by_cases hin : i < pts.length
 ·have hst := w.set i hin
  have hsU : Sm (wS ts pts[i]! [1, 2, 3]) := bS (by omega)
  have bl : ∀ {A : Nat} {n : Nat}, n ≤ 62 → (∀ v, A.testBit v = true → v < n) → A < 2 ^ n := fun _ hv => Nat.lt_pow_two_of_testBit _ fun v h => by
   cases hq : Nat.testBit _ v with
   | false => rfl
   | true => have := hv v hq;omega
  have hAa : Sm Aa[i]! := ⟨bl (n := 62) (by omega) fun v hv => by have := ((ga.2 i hin v).1 hv).1;omega⟩
  have hAm : Sm Am[i]! := ⟨bl (n := 62) (by omega) fun v hv => by have := qG w ((gm.2 i hin v).1 hv);dsimp only at this;omega⟩
  have hAl := hAlb i hin
  have hAl2 : Sm Al[i]! := ⟨Nat.lt_of_lt_of_le hAl (Nat.pow_le_pow_right (by decide) (by omega))⟩
  have hAp : Ap[i]! < 2 ^ pts.length := bl (by omega) fun v hv => (k6 ((gp.2 i hin v).1 hv)).1
  have hAp2 : Sm Ap[i]! := ⟨Nat.lt_of_lt_of_le hAp (Nat.pow_le_pow_right (by decide) (by omega))⟩
  have hrl := eE hlf hin
  have hrs : ∀ z : Nat, Sm (cF Af i)[z]! := by
   intro z
   by_cases hz : z < 6
   ·rw [dX hlf hin hz]
    exact ⟨bl (n := 62) (by omega) fun v hv => by have := (wI w ((gf.2 i z hin hz v).1 hv)).2.2;dsimp only at this;omega⟩
   ·rw [getElem!_neg _ z (by rw [hrl]; exact hz)]; exact ⟨by decide⟩
  have hkp : mW ts pts[(i : Int).toNat]! Al[i]! (cF Af (i : Int).toNat) < 2 ^ pts.length := by
   refine bl (by omega) fun v hv => ?_
   unfold mW at hv
   rw [eW] at hv
   rcases hv with hv | ⟨z, hz, hv⟩
   ·simp at hv
   ·obtain ⟨q, h1, h2, rfl⟩ := cO.1 hz
    rw [b8, Bool.and_eq_true] at h2
    have h3 := cA hAl h2.1
    have h4 : q < 6 := by omega
    have h5 : (cF Af i)[q]!.testBit v = true := hv
    rw [dX hlf hin h4] at h5
    exact (wI w ((gf.2 i q hin h4 v).1 h5)).2.2
  have hkp2 : Sm (mW ts pts[(i : Int).toNat]! Al[i]! (cF Af (i : Int).toNat)) := ⟨Nat.lt_of_lt_of_le hkp (Nat.pow_le_pow_right (by decide) (by omega))⟩
  have hlo : mW ts pts[(i : Int).toNat]! Al[i]! (cF Af (i : Int).toNat) &&& Ap[i]! < 2 ^ pts.length := Nat.and_lt_two_pow _ hAp
  have hcf := pA w (Am := Am) (Al := Al) (Af := Af) (i := i) hAp
  have hcf2 : Sm (zH ts pts Am Al Af Ap i) := ⟨Nat.lt_of_lt_of_le hcf (Nat.pow_le_pow_right (by decide) (by omega))⟩
  have hcf3 : Sm (C9 pts (mW ts pts[(i : Int).toNat]! Al[i]! (cF Af (i : Int).toNat) &&& Ap[i]!) (fE ts pts[(i : Int).toNat]! (Am[i]!.testBit (aO pts[(i : Int).toNat]!).toNat)) 0) := hcf2
  have hb1 := b6 (g7 (wS ts pts[i]! [1, 2, 3]) Aa[i]!)
  have hb2 := b6 (zH ts pts Am Al Af Ap i)
  repeat' (first|(apply aH;(first|(apply aA (k := 120);rfl;(apply fK <;> (infer_instance));(rfl);rfl)|(apply aA (k := 158);rfl;(apply fT <;> (assumption));exact Pur.pf;rfl)))|refine aE ?_|refine aF ?_|(refine aK ?_ ?_ <;> intro hc hq <;> try (exfalso;omega))|refine bO ?_|fail)
  have hb1b : ∀ j, j < (aZ (g7 (wS ts pts[i]! [1, 2, 3]) Aa[i]!)).length → 0 ≤ (aZ (g7 (wS ts pts[i]! [1, 2, 3]) Aa[i]!))[j]! := fun j h => (gC (inferInstance : Sm (g7 (wS ts pts[i]! [1, 2, 3]) Aa[i]!)).pf h).1
  refine aI (σ := Nat × List Iss × Nat) [0, 1, 2, 7, 8, 9, 11, 27, 28, 29, 42, 43] [] (fun j => [(44, iv (j.1 : Int)), (10, .own 0 0 j.2.2 3)]) (fun j => [(0, some (flat dN j.2.1))]) (fun j => j.1 ≤ (aZ (g7 (wS ts pts[i]! [1, 2, 3]) Aa[i]!)).length ∧ j.2.1 = u ++ nE i ((aZ (g7 (wS ts pts[i]! [1, 2, 3]) Aa[i]!)).take j.1) ∧ j.2.2 = j.2.1.length ∧ j.2.2 ≤ i * 124 + j.1) (fun j => (aZ (g7 (wS ts pts[i]! [1, 2, 3]) Aa[i]!)).length - j.1) (0, u, m) ⟨by omega, by simp [nE], hm, by omega⟩ ?_
  rintro ⟨j, u2, m2⟩ ⟨hj, hu2, hm2, hmk2⟩
  dsimp only at hj hu2 hm2 hmk2 ⊢
  by_cases hjn : j < (aZ (g7 (wS ts pts[i]! [1, 2, 3]) Aa[i]!)).length
  ·repeat' (first | (apply aH; (apply aM (t := _);rfl;rfl;rfl;(exact (rfl:_=some [_, _, _]));rfl;rfl)) | refine aE ?_ | refine aF ?_ | (refine aK ?_ ?_ <;> intro hc hq <;> try (exfalso; omega))|fail)
   (refine bC (j + 1, _, _) (Le.renA [(0, 3)]) ?_ ?_)
   ·dsimp only
    refine ⟨by omega, ?_, by simp;omega, by omega⟩
    rw [hu2]; unfold nE;rw [cQ _ _ _ hjn, List.append_assoc]
   ·dsimp only;omega
  ·have hu3 : u2 = u ++ nE i (aZ (g7 (wS ts pts[i]! [1, 2, 3]) Aa[i]!)) := by rw [hu2, List.take_of_length_le (by omega)]
   have hcl0 := hcl (i : Int) (by omega)
   repeat' (first|(apply aH;first|(first|(apply aA (k := 76);rfl;(apply kN <;> (assumption));(rfl);rfl)|(apply aA (k := 185);rfl;(apply pG <;> (first|assumption|omega));exact Pur.pf;rfl)|(apply aA (k := 186);rfl;(apply BF <;> (first|assumption|omega));exact Pur.pf;rfl))|(apply fY;rfl;rfl;infer_instance;rfl;(apply hcl0);exact Pur.pf;rfl))|refine aE ?_|refine aF ?_|(refine aK ?_ ?_ <;> intro hc hq <;> try (exfalso;omega))|refine bO ?_|fail)
   generalize hL : aZ (C9 pts (mW ts pts[(i : Int).toNat]! Al[i]! (cF Af (i : Int).toNat) &&& Ap[i]!) (fE ts pts[(i : Int).toNat]! (Am[i]!.testBit (aO pts[(i : Int).toNat]!).toNat)) 0) = L2
   have hL2 : aZ (zH ts pts Am Al Af Ap i) = L2 := hL
   have hbd : ∀ j, j < L2.length → 0 ≤ L2[j]! ∧ L2[j]! < pts.length := fun j h => by rw [← hL2] at h ⊢; exact gC hcf h
   rw [hL2] at hb2
   refine aI (σ := Nat × List Iss × Nat) [0, 1, 2, 7, 8, 9, 11, 27, 28, 29, 77, 78] [] (fun l => [(79, iv (l.1 : Int)), (10, .own 0 0 l.2.2 3)]) (fun l => [(0, some (flat dN l.2.1))]) (fun l => l.1 ≤ L2.length ∧ l.2.1 = u2 ++ nB pts i (L2.take l.1) ∧ l.2.2 = l.2.1.length ∧ l.2.2 ≤ i * 124 + 62 + l.1) (fun l => L2.length - l.1) (0, u2, m2) ⟨by omega, by simp [nB], hm2, Nat.le_trans hmk2 (by omega)⟩ ?_
   rintro ⟨l, u4, m4⟩ ⟨hl, hu4, hm4, hmk4⟩
   dsimp only at hl hu4 hm4 hmk4 ⊢
   by_cases hln : l < L2.length
   ·have hbl := hbd l hln
    repeat' (first|(apply aH;(apply aM (t := _);rfl;rfl;rfl;(exact (rfl:_=some [_, _, _]));rfl;rfl))|refine aE ?_|refine aF ?_|(refine aK ?_ ?_ <;> intro hc hq <;> try (exfalso;omega))|fail)
    ·(refine bC (l + 1, _, _) (Le.renA [(0, 3)]) ?_ ?_)
     ·dsimp only
      refine ⟨by omega, ?_, by simp;omega, by omega⟩
      rw [hu4]; unfold nB;rw [cQ _ _ _ hln, List.append_assoc, if_pos hq]
     ·dsimp only;omega
    ·(refine bC (l + 1, _, _) (Le.renA [(0, 3)]) ?_ ?_)
     ·dsimp only
      refine ⟨by omega, ?_, by simp;omega, by omega⟩
      rw [hu4]; unfold nB;rw [cQ _ _ _ hln, List.append_assoc, if_neg hq]
     ·dsimp only;omega
   ·repeat' (first | refine aE ?_ | refine aF ?_ | (refine aK ?_ ?_ <;> intro hc hq <;> try (exfalso; omega))|fail)
    (refine bC (i + 1, u4, m4) (Le.renA [(0, 0)]) ?_ ?_)
    ·dsimp only
     refine ⟨by omega, ?_, hm4, by omega⟩
     rw [iJ, hu4, List.take_of_length_le (by omega), hu3, ← hL2, hu, List.append_assoc]; rfl
    ·dsimp only;omega
 ·repeat' (first | refine aE ?_ | refine aF ?_ | (refine aK ?_ ?_ <;> intro hc hq <;> try (exfalso; omega))|fail)
  (refine aU (Le.frzD (d := 6) (i := 0) rfl rfl) ?_; refine aD rfl ?_)
  refine ⟨?_, (by (exact a6 _ _))⟩
  simp only [aN, sl]
  rw [hm, hu, show i = pts.length by omega]
theorem Gf (n : Nat) (A : List Nat) (i : Int) (hA : A.length = n * 6) (hi : 0 ≤ i ∧ i < n) : PC Tryz.prog 106 [iv i, .iptr [.imm n (flat cW A)]] (fun r => r = .agg (flat cW (cF A i.toNat))) := by
 have h6 : ((A.drop (i.toNat * 6)).take 6).length = 6 := eE hA (by omega)
 refine aC Tryz.func106 Tryz.ntmps106 ?_
 repeat' (first|refine aE ?_|refine aF ?_|fail)
 refine aD (gG (z := 6) rfl rfl h6 (by decide)) ⟨rfl, (by (exact a6 _ _))⟩
theorem Lm {ts : List Int} {pts : List Pnt} (w : WG ts pts) {Am : List Nat} (gm : lN ts pts Am) (i : Nat) (hi : i < pts.length) : (zX ts pts Am)[i]! < 2 ^ ts.length := by
 rw [rM _ _ _ hi]
 refine mF w hi (Nat.lt_pow_two_of_testBit _ fun v hv => ?_)
 rw [Bool.eq_false_iff]; intro hq
 have := qG w ((gm.2 i hi v).1 hq);dsimp only at this;omega
theorem Dx (p : Prg) (f : Flows p.types (aB p)) (hv : bK p = true) (hl : p.types.length ≤ 1000000) (hs : bE p.body ≤ 1000000) : PC Tryz.prog 40 [bZ p] (fun r => r = sl dN (Mk p f)) := by
 have w := WG.of_valid hv
 have hg := iL p hl hs
 rw [if_pos hv] at hg
 have hpl := w.pl
 have hck := Hr 106 p.types p.body (aB p) f.Aa f.Am (zX p.types (aB p) f.Am) f.Af f.Ap w f.ga f.gm (CI _ _ _) (Lm w f.gm) f.gf f.gp (fun i hi => Gf _ _ i f.gf.1 hi)
 have hml := f.gm.1
 have hsm : ∀ z : Nat, Sm f.Am[z]! := by
  intro z
  by_cases hz : z < (aB p).length
  ·refine ⟨Nat.lt_of_lt_of_le (Nat.lt_pow_two_of_testBit _ (n := 6) fun v hv => ?_) (by decide)⟩
   cases hq : f.Am[z]!.testBit v with
   | false => rfl
   | true => have := qG w ((f.gm.2 z hz v).1 hq);have := w.tl;dsimp only at *; omega
  ·rw [getElem!_neg f.Am z (by rw [hml]; exact hz)]; exact ⟨by decide⟩
 have hms := qY p.types p.body (aB p) f.Am w f.gm
 have hln := vF p.types p.body (aB p) f.Af w f.gf
 refine aC Tryz.func40 Tryz.ntmps40 ?_
 repeat' (first|(apply aH;first|(apply aA (k := 72);rfl;exact hg;exact Pur.pf;rfl)|(apply aA (k := 102);rfl;exact hms;exact Pur.pf;rfl))|refine aE ?_|refine aF ?_|fail)
 refine AW.le ?_ (Le.nilOwn (d := 5) 1 rfl (by decide))
 refine aI (σ := Nat × List Nat) [3, 17, 18] [] (fun k => [(19, iv (k.1 : Int)), (5, .own 1 0 k.1 1)]) (fun k => [(1, some (flat cN k.2))]) (fun k => k.1 ≤ (aB p).length ∧ k.2 = (zX p.types (aB p) f.Am).take k.1) (fun k => (aB p).length - k.1) (0, []) ⟨Nat.zero_le _, rfl⟩ ?_
 rintro ⟨k, u⟩ ⟨hk, hu⟩
 dsimp only at hk hu ⊢
 have hvll := CI p.types (aB p) f.Am
 have hul : u.length = k := by rw [hu, List.length_take]; omega
 repeat' (first|(apply aH;first|(apply aA (k := 104);rfl;exact hln;exact Pur.pf;rfl)|(with_reducible apply aV (d := 34))|(apply aA (k := 103);rfl;(apply uA <;> (first|assumption|omega|infer_instance));exact Pur.pf;rfl))|refine aE ?_|refine aF ?_|(refine aK ?_ ?_ <;> intro hc hq <;> try (exfalso;omega))|fail)
 ·(refine bC (k + 1, _) (Le.renA [(1, 3)]) ?_ ?_)
  ·dsimp only
   refine ⟨by omega, ?_⟩
   rw [hu, b7 _ _ (by omega), rM _ _ _ (by omega)]; rfl
  ·dsimp only;omega
 ·have huu : u = zX p.types (aB p) f.Am := by rw [hu, List.take_of_length_le (by omega)]
  refine bV (c7 ?_ (Le.frzD (d := 5) (i := 1) rfl rfl))
  rw [huu, show k = (aB p).length by omega]
  repeat' (first|(apply aH;first|(apply lY;rfl;rfl;rfl)|(apply aA (k := 105);rfl;exact hck;exact Pur.pf;rfl))|refine aE ?_|refine aF ?_|fail)
  exact aD rfl ⟨rfl, (by (exact a6 _ _))⟩
theorem BM (p : Prg) (f : Flows p.types (aB p)) (Al : List Nat) (hal : ∀ i, i < (aB p).length → Al[i]! < 2 ^ p.types.length) (hs : bE p.body ≤ 1000000) (w : WG p.types (aB p)) (hr : Rch (aB p)) : PC Tryz.prog 169 [bZ p, sl fS (bG p.types.length (aB p).length Al)] (fun r => r = sl dN (kM p.types (aB p) f.Aa f.Am Al f.Af f.Ap (aB p).length)) := by
 have hpl := w.pl
 have hp0 := w.p0
 have htl := w.tl
 have hfa := eY p true f.Aa hs w hr (by unfold jS;exact f.ga)
 have hfm := eY p false f.Am hs w hr (by unfold jS;exact f.gm)
 have hfl := sW p f.Af f.Ap hs w f.gf f.gp
 have hra := cP p.types.length (aB p).length f.Aa
 have hrm := cP p.types.length (aB p).length f.Am
 have hrl := cP p.types.length (aB p).length Al
 have hfll : ((List.range (aB p).length).map (dZ p.types.length (aB p).length f.Af f.Ap)).length = (aB p).length := by simp
 refine aC Tryz.func169 Tryz.ntmps169 ?_
 repeat' (first|(apply aH;first|(apply aA (k := 132);rfl;exact dE p hs;exact Pur.pf;rfl)|(apply aA (k := 64) (d := 20);rfl;exact hfa;exact Pur.pf;rfl)|(apply aA (k := 64) (d := 22);rfl;exact hfm;exact Pur.pf;rfl)|(apply aA (k := 171);rfl;exact hfl;exact Pur.pf;rfl))|refine aE ?_|refine aF ?_|fail)
 refine aI (σ := Nat × List Iss × Nat) [1, 2, 6, 7, 8, 9] [0] (fun s => [(10, iv (s.1 : Int)), (5, .own 1 0 s.2.2 3)]) (fun s => [(1, some (flat dN s.2.1))]) (fun s => s.1 ≤ (aB p).length ∧ s.2.1 = kM p.types (aB p) f.Aa f.Am Al f.Af f.Ap s.1 ∧ s.2.2 = s.2.1.length ∧ s.2.2 ≤ 67 * s.1) (fun s => (aB p).length - s.1) (0, [], 0) ⟨Nat.zero_le _, rfl, rfl, Nat.le_refl _⟩ ?_
 rintro ⟨i, L, m⟩ ⟨hi, hL, hm, hmb⟩
 dsimp only at hi hL hm hmb
 try dsimp only
 by_cases hin : i < (aB p).length
 ·repeat' (first | refine aE ?_ | refine aF ?_ | (refine aK ?_ ?_ <;> intro hc hq <;> try (exfalso; omega))|fail)
  refine aI (σ := Nat × List Iss × Nat) [1, 2, 6, 7, 8, 9, 10] [0] (fun s => [(11, iv (s.1 : Int)), (5, .own 1 0 s.2.2 3)]) (fun s => [(1, some (flat dN s.2.1))]) (fun s => s.1 ≤ p.types.length ∧ s.2.1 = L ++ JX p.types (aB p) f.Aa i s.1 ∧ s.2.2 = s.2.1.length ∧ s.2.2 ≤ 67 * i + s.1) (fun s => p.types.length - s.1) (0, L, m) ⟨Nat.zero_le _, (List.append_nil L).symm, hm, hmb⟩ ?_
  rintro ⟨v, L2, m2⟩ ⟨hv, hL2, hm2, hmb2⟩
  dsimp only at hv hL2 hm2 hmb2
  try dsimp only
  by_cases hvn : v < p.types.length
  ·have hga := gL p.types.length (aB p).length f.Aa i v hin hvn
   have hgl : (bG p.types.length (aB p).length f.Aa)[i]!.length = p.types.length := by rw [cG _ _ _ _ hin]; simp
   repeat' (first|(apply aH;(apply aA (k := 173);rfl;(apply jM <;> (omega));exact Pur.pf;rfl))|refine aE ?_|refine aF ?_|(refine aK ?_ ?_ <;> intro hc hq <;> try (exfalso;omega))|(refine bQ ?_ ?_ <;> intro hg hq <;> try (exfalso;omega))|refine bO ?_|fail)
   ·(refine bC (v + 1, L2 ++ [⟨i, 1, v⟩], m2 + 1) (Le.renA [(0, 0), (1, 3)]) ?_ ?_)
    ·have hu : qA p.types (aB p) f.Aa i v = true := by
      unfold qA;rw [← hga, decide_eq_false (by assumption), (by assumption : (bG p.types.length (aB p).length f.Aa)[i]![v]! = false)]; rfl
     exact ⟨(by show v + 1 ≤ p.types.length;omega), (by show L2 ++ [⟨i, 1, v⟩] = _; rw [hL2, List.append_assoc, ← yB hu]), (by show m2 + 1 = (L2 ++ [_]).length;rw [List.length_append, List.length_singleton, hm2]), (by show m2 + 1 ≤ 67 * i + (v + 1);omega)⟩
    ·show p.types.length - (v + 1) < p.types.length - v;omega
   ·(refine bC (v + 1, L2, m2) (Le.renA [(0, 0), (1, 1)]) ?_ ?_)
    ·have hu : qA p.types (aB p) f.Aa i v = false := by
      unfold qA;rw [← hga, (by assumption : (bG p.types.length (aB p).length f.Aa)[i]![v]! = true)]; simp
     exact ⟨(by show v + 1 ≤ p.types.length;omega), (by show L2 = _; rw [j1 hu]; exact hL2), hm2, (by show m2 ≤ 67 * i + (v + 1);omega)⟩
    ·show p.types.length - (v + 1) < p.types.length - v;omega
   ·(refine bC (v + 1, L2, m2) (Le.renA [(0, 0), (1, 1)]) ?_ ?_)
    ·have hu : qA p.types (aB p) f.Aa i v = false := by
      unfold qA;rw [decide_eq_true (by assumption)]; rfl
     exact ⟨(by show v + 1 ≤ p.types.length;omega), (by show L2 = _; rw [j1 hu]; exact hL2), hm2, (by show m2 ≤ 67 * i + (v + 1);omega)⟩
    ·show p.types.length - (v + 1) < p.types.length - v;omega
  ·have hvN : v = p.types.length := by omega
   have hset := w.set i hin
   have hy := w.y i hin
   have hfi : ((List.range (aB p).length).map (dZ p.types.length (aB p).length f.Af f.Ap))[i]! = dZ p.types.length (aB p).length f.Af f.Ap i := aX _ _ _ hin
   have hgm : (bG p.types.length (aB p).length f.Am)[i]!.length = p.types.length := by rw [cG _ _ _ _ hin]; simp
   have hgl : (bG p.types.length (aB p).length Al)[i]!.length = p.types.length := by rw [cG _ _ _ _ hin]; simp
   have hf2 : (dZ p.types.length (aB p).length f.Af f.Ap i).2.length = (aB p).length := by simp [dZ]
   have hf1 : (dZ p.types.length (aB p).length f.Af f.Ap i).1.length = p.types.length := by simp [dZ]
   have hf3 : ∀ v, v < p.types.length → (dZ p.types.length (aB p).length f.Af f.Ap i).1[v]!.length = (dZ p.types.length (aB p).length f.Af f.Ap i).2.length := fun v hv => by
    rw [hf2]; unfold dZ;dsimp only;rw [aX _ _ _ hv]; simp
   have hacc := kI p.types (aB p)[i]! (bG p.types.length (aB p).length f.Am)[i]! htl hgm hset.1 hy
   have hlv := tP p.types (aB p)[i]! ((List.range (aB p).length).map (dZ p.types.length (aB p).length f.Af f.Ap))[i]!.1 ((List.range (aB p).length).map (dZ p.types.length (aB p).length f.Af f.Ap))[i]!.2 (bG p.types.length (aB p).length Al)[i]! htl (by rw [hfi, hf2]; exact hpl) hgl (by rw [hfi]; exact hf1) (by rw [hfi]; exact hf3)
   have hlvl : (tI p.types (aB p)[i]! ((List.range (aB p).length).map (dZ p.types.length (aB p).length f.Af f.Ap))[i]!.1 (bG p.types.length (aB p).length Al)[i]! ((List.range (aB p).length).map (dZ p.types.length (aB p).length f.Af f.Ap))[i]!.2.length).length = (aB p).length := by unfold tI;rw [List.length_map, List.length_range, hfi, hf2]
   have hcn := jQ (aB p) (fE p.types (aB p)[i]! (bG p.types.length (aB p).length f.Am)[i]![(aO (aB p)[i]!).toNat]!) ((List.range (aB p).length).map (dZ p.types.length (aB p).length f.Af f.Ap))[i]!.1 ((List.range (aB p).length).map (dZ p.types.length (aB p).length f.Af f.Ap))[i]!.2 (tI p.types (aB p)[i]! ((List.range (aB p).length).map (dZ p.types.length (aB p).length f.Af f.Ap))[i]!.1 (bG p.types.length (aB p).length Al)[i]! ((List.range (aB p).length).map (dZ p.types.length (aB p).length f.Af f.Ap))[i]!.2.length) hpl (by have := nV p.types (aB p)[i]! (bG p.types.length (aB p).length f.Am)[i]![(aO (aB p)[i]!).toNat]!; omega) (by rw [hfi]; exact hf2) hlvl
   have hcf : IN (aB p) (fE p.types (aB p)[i]! (bG p.types.length (aB p).length f.Am)[i]![(aO (aB p)[i]!).toNat]!) ((List.range (aB p).length).map (dZ p.types.length (aB p).length f.Af f.Ap))[i]!.2 (tI p.types (aB p)[i]! ((List.range (aB p).length).map (dZ p.types.length (aB p).length f.Af f.Ap))[i]!.1 (bG p.types.length (aB p).length Al)[i]! ((List.range (aB p).length).map (dZ p.types.length (aB p).length f.Af f.Ap))[i]!.2.length) = yU p.types (aB p) f.Am Al f.Af f.Ap i := by
    rw [hfi, hf2]; rfl
   have hcl : (yU p.types (aB p) f.Am Al f.Af f.Ap i).length = (aB p).length := by unfold yU;rw [nO]
   repeat' (first|(apply aH;first|(apply aA (k := 175);rfl;exact hacc;exact Pur.pf;rfl)|(apply aA (k := 176);rfl;exact hlv;exact Pur.pf;rfl)|(apply aA (k := 174);rfl;exact hcn;exact Pur.pf;rfl)|(with_reducible apply aV (d := 14)))|refine aE ?_|refine aF ?_|(refine aK ?_ ?_ <;> intro hc hq <;> try (exfalso;omega))|refine bO ?_|fail)
   refine bV ?_
   rw [hcf]
   repeat' (first|refine aE ?_|refine aF ?_|fail)
   refine aI (σ := Nat × List Iss × Nat) [1, 2, 6, 7, 8, 9, 10, 13] [0] (fun s => [(14, iv (s.1 : Int)), (5, .own 1 0 s.2.2 3)]) (fun s => [(1, some (flat dN s.2.1))]) (fun s => s.1 ≤ (aB p).length ∧ s.2.1 = L2 ++ IC (aB p) (yU p.types (aB p) f.Am Al f.Af f.Ap i) i s.1 ∧ s.2.2 = s.2.1.length ∧ s.2.2 ≤ 67 * i + 6 + s.1) (fun s => (aB p).length - s.1) (0, L2, m2) ⟨Nat.zero_le _, (List.append_nil L2).symm, hm2, by show m2 ≤ 67 * i + 6 + 0;omega⟩ ?_
   rintro ⟨l, L3, m3⟩ ⟨hl, hL3, hm3, hmb3⟩
   dsimp only at hl hL3 hm3 hmb3
   try dsimp only
   by_cases hln : l < (aB p).length
   ·repeat' (first | refine aE ?_ | refine aF ?_ | (refine aK ?_ ?_ <;> intro hc hq <;> try (exfalso; omega))|fail)
    ·(refine bC (l + 1, L3, m3) (Le.renA [(0, 0), (1, 1)]) ?_ ?_)
     ·exact ⟨(by show l + 1 ≤ (aB p).length;omega), (by show L3 = _; rw [sJ (by assumption)]; exact hL3), hm3, (by show m3 ≤ 67 * i + 6 + (l + 1);omega)⟩
     ·show (aB p).length - (l + 1) < (aB p).length - l;omega
    ·(refine bC (l + 1, L3 ++ [⟨i, 3, l⟩], m3 + 1) (Le.renA [(0, 0), (1, 3)]) ?_ ?_)
     ·have hk : B1 (aB p) l = 3 := by unfold B1; rw [if_pos (by assumption)]
      exact ⟨(by show l + 1 ≤ (aB p).length;omega), (by show L3 ++ [⟨i, 3, l⟩] = _; rw [hL3, List.append_assoc, ← hk, ← l5 (by assumption)]), (by show m3 + 1 = (L3 ++ [_]).length;rw [List.length_append, List.length_singleton, hm3]), (by show m3 + 1 ≤ 67 * i + 6 + (l + 1);omega)⟩
     ·show (aB p).length - (l + 1) < (aB p).length - l;omega
    ·(refine bC (l + 1, L3 ++ [⟨i, 2, l⟩], m3 + 1) (Le.renA [(0, 0), (1, 3)]) ?_ ?_)
     ·have hk : B1 (aB p) l = 2 := by unfold B1; rw [if_neg (by assumption)]
      exact ⟨(by show l + 1 ≤ (aB p).length;omega), (by show L3 ++ [⟨i, 2, l⟩] = _; rw [hL3, List.append_assoc, ← hk, ← l5 (by assumption)]), (by show m3 + 1 = (L3 ++ [_]).length;rw [List.length_append, List.length_singleton, hm3]), (by show m3 + 1 ≤ 67 * i + 6 + (l + 1);omega)⟩
     ·show (aB p).length - (l + 1) < (aB p).length - l;omega
   ·repeat' (first | refine aE ?_ | refine aF ?_ | (refine aK ?_ ?_ <;> intro hc hq <;> try (exfalso; omega))|fail)
    (refine bC (i + 1, L3, m3) (Le.renA [(0, 0), (1, 1)]) ?_ ?_)
    ·refine ⟨(by show i + 1 ≤ (aB p).length; omega), ?_, hm3, (by show m3 ≤ 67 * (i + 1); omega)⟩
     show L3 = kM p.types (aB p) f.Aa f.Am Al f.Af f.Ap (i + 1)
     rw [iJ, ← JU w f f.gf.1 hin (hal i hin), hL3, hL2, hL, hvN, show l = (aB p).length by omega, List.append_assoc]
     rfl
    ·show (aB p).length - (i + 1) < (aB p).length - i;omega
 ·repeat' (first | refine aE ?_ | refine aF ?_ | (refine aK ?_ ?_ <;> intro hc hq <;> try (exfalso; omega))|fail)
  have hiN : i = (aB p).length := by omega
  refine aU (Le.frzD (d := 4) (i := 1) rfl rfl) ?_
  refine aD rfl ⟨?_, (by (exact a6 _ _))⟩
  simp only [aN]
  rw [hm, hL, hiN]
theorem KZ {ts : List Int} {pts : List Pnt} (w : WG ts pts) {Am : List Nat} {i : Nat} (hi : i < pts.length) : gZ ts pts[i]! (bG ts.length pts.length Am)[i]! = (bG ts.length pts.length (zX ts pts Am))[i]! := by
 have hst := (w.set i hi).1
 have htl := w.tl
 have hset : aO pts[i]! < 62 := by omega
 rw [cG _ _ _ _ hi, cG _ _ _ _ hi, rM _ _ _ hi]
 refine bR (by simp [gZ]) fun v hv => ?_
 have hvn : v < ts.length := by simpa [gZ] using hv
 unfold gZ
 rw [aX _ _ _ (by simpa using hvn), aX _ _ _ hvn, aX _ _ _ hvn, dM hset, decide_eq_true hvn, Bool.true_and]
 cases decide (aO pts[i]! = (v : Int)) <;> cases Am[i]!.testBit v <;> simp
theorem Jt {xs : List (List Bool)} {m : Nat} {r : List Bool} (hm : m = xs.length) : ((flat fS xs).drop 0).take (m * 1) ++ [sl cB r] = flat fS (xs ++ [r]) := dR hm rfl
theorem E0 (p : Prg) (f : Flows p.types (aB p)) (hv : bK p = true) (hl : p.types.length ≤ 1000000) (hs : bE p.body ≤ 1000000) : PC Tryz.prog 96 [bZ p] (fun r => r = sl dN (Mk p f)) := by
 have w := WG.of_valid hv
 have hr := Rch.of p
 have hval := gA p hl (by omega)
 rw [hv] at hval
 have htl := w.tl
 have hpl := w.pl
 have hpt := dE p hs
 have hfm := eY p false f.Am hs w hr (by unfold jS;exact f.gm)
 have hal : ∀ i, i < (aB p).length → (zX p.types (aB p) f.Am)[i]! < 2 ^ p.types.length := fun i hi => by
  rw [rM _ _ _ hi]
  refine mF w hi (Nat.lt_pow_two_of_testBit _ fun v hv => ?_)
  rw [Bool.eq_false_iff]; intro hq
  have := qG w ((f.gm.2 i hi v).1 hq);dsimp only at this;omega
 have hck := BM p f (zX p.types (aB p) f.Am) hal hs w hr
 have hrm := cP p.types.length (aB p).length f.Am
 refine aC Tryz.func96 Tryz.ntmps96 ?_
 repeat' (first|(apply aH;first|(apply aA (k := 61);rfl;exact hval;exact Pur.pf;rfl)|(apply aA (k := 132);rfl;exact hpt;exact Pur.pf;rfl)|(apply aA (k := 64);rfl;exact hfm;exact Pur.pf;rfl))|refine aE ?_|refine aF ?_|fail)
 refine aI (σ := Nat × List (List Bool)) [1, 3, 4] [0] (fun k => [(6, iv (k.1 : Int)), (5, .own 1 0 k.1 1)]) (fun k => [(1, some (flat fS k.2))]) (fun k => k.1 ≤ (aB p).length ∧ k.2 = (bG p.types.length (aB p).length (zX p.types (aB p) f.Am)).take k.1) (fun k => (aB p).length - k.1) (0, []) ⟨Nat.zero_le _, rfl⟩ ?_
 rintro ⟨k, u⟩ ⟨hk, hu⟩
 dsimp only at hk hu ⊢
 have hrv := cP p.types.length (aB p).length (zX p.types (aB p) f.Am)
 have hul : u.length = k := by rw [hu, List.length_take]; omega
 have haf : k < (aB p).length → PC Tryz.prog 133 [sl cI p.types, dJ (aB p)[k]!, sl cB (bG p.types.length (aB p).length f.Am)[k]!] (fun r => r = sl cB (bG p.types.length (aB p).length (zX p.types (aB p) f.Am))[k]!) := fun h => by
  rw [← KZ w h]
  exact vK p.types (aB p)[k]! (bG p.types.length (aB p).length f.Am)[k]! (by rw [cG _ _ _ _ h]; simp) htl (w.set k h).1
 repeat' (first|(apply aH;first|(apply aA (k := 133);rfl;exact haf (by omega);exact Pur.pf;rfl)|(with_reducible apply aV (d := 36))|(apply bT;rfl;rfl;rfl;rfl;rfl;(rw [aJ]; omega);(rfl);omega;omega;(exact Jt (by (omega)));rfl;rfl))|refine aE ?_|refine aF ?_|(refine aK ?_ ?_ <;> intro hc hq <;> try (exfalso;omega))|refine bO ?_|fail)
 ·(refine bC (k + 1, _) (Le.renA [(0, 0), (1, 3)]) ?_ ?_)
  ·dsimp only
   refine ⟨by omega, ?_⟩
   rw [hu, b7 _ _ (by omega)]
  ·dsimp only;omega
 ·have huu : u = bG p.types.length (aB p).length (zX p.types (aB p) f.Am) := by rw [hu, List.take_of_length_le (by omega)]
  refine bV (c7 ?_ (Le.frzD (d := 5) (i := 1) rfl rfl))
  rw [huu, show AV.imm k (flat fS (bG p.types.length (aB p).length (zX p.types (aB p) f.Am))) = sl fS (bG p.types.length (aB p).length (zX p.types (aB p) f.Am)) from by unfold sl;rw [hrv, show k = (aB p).length by omega]]
  repeat' (first|(apply aH;(apply aA (k := 169);rfl;exact hck;exact Pur.pf;rfl))|refine aE ?_|refine aF ?_|fail)
  exact aD rfl ⟨rfl, (by (exact a6 _ _))⟩
end Go.Proofs.YtahdccneecdmmaaGreat
