/-
 A part of the proofs over this program: rules and contracts of its functions (the contracts).
-/
import Derived.Test.YtahdccneecdmmaaGreatE2B05
import Derived.Test.YtahdccneecdmmaaGreatRows
import Derived.WalkKit
import Derived.ProofKit
import Derived.OpenShut
import Derived.Carry
import Derived.ChangeSlices
set_option linter.unusedVariables false
set_option linter.unusedSimpArgs false
set_option maxHeartbeats 8000000
set_option maxRecDepth 4000
attribute [local irreducible] Go.AL.RW Go.AL.AW Go.AL.Stop
namespace Go.Proofs.YtahdccneecdmmaaGreat
open Go.AL Go.RowKit
variable {N : Nat} {Q : Exit → AS → Prop} {all : Array Oper} {rest : List Oper} {tsl : List (Nat × AV)} {hsl : List (Nat × Option (List AV))} {nidl : Nat} {z0 : Lo} {md : Md} {d : Nat} {ty : TypeId} {pos : String} {af : Array Edge} {tys : Array TypeId}
theorem Ma (ts:List Int) (bd:List AL.Stmt) (pts:List Pnt) (s:Mc) (x:Pnt) (htl:ts.length ≤ 6) (hm:OkM s.cells) (hsl:s.slots.length = ts.length) (ho:x.op = 4 ∨ x.op = 5) (hx:0 ≤ x.x ∧ x.x < ts.length) (hy:0 ≤ x.y ∧ x.y < ts.length):MC Tryz.prog 140 [.optr 0 0,dD x] [(0,some (mO ts bd pts 1 2 s)),(1,some (flat cT s.slots)),(2,some (flat cI s.read))] 3 (fun _:Unit => True) (fun _ => iv (dH ts s x).2) (fun _ => [(0,some (mO ts bd pts 1 2 (dH ts s x).1)),(1,some (flat cT (dH ts s x).1.slots)),(2,some (flat cI (dH ts s x).1.read))]):=by
 have hus := fR ts bd pts x htl
 have hsm : Sm (wS ts x [1,2,3]) := bR (by omega)
 obtain ⟨L,hL⟩ : ∃ L,L = a8 (wS ts x [1,2,3]) := ⟨_,rfl⟩
 have hLl : L.length ≤ 62 := by rw [hL]; exact cA _
 have hmem : ∀ k, k < L.length → 0 ≤ L[k]! ∧ L[k]! < s.slots.length := fun k hk => by
  rw [hsl]; exact gK (by rw [← hL]; exact aN _ _ hk)
 refine aX Tryz.func140 Tryz.ntmps140 ?_
 repeat' (first|(apply aF;first|(apply aA (k := 158);rfl;exact hus;exact Pur.pf;rfl)|(apply aA (k := 120);rfl;(apply fO <;> (assumption));(rfl);rfl))|refine aE ?_|refine bI ?_|fail)
 rw [← hL]
 refine aH (σ := Nat) [0,3,26,27] [0,1,2,3] (fun k => [(28,iv (k : Int))]) (fun k => []) (fun k => k ≤ L.length ∧ ∀ j,j < k → s.slots[(L[j]!).toNat]!.set = true) (fun k => L.length - k) (0) ⟨Nat.zero_le _,fun j h => absurd h (by omega)⟩ ?_
 rintro k ⟨hk,hall⟩
 by_cases hkn : k < L.length
 ·have hmk := hmem k hkn
  repeat' (first|refine aE ?_|(refine aJ ?_ ?_ <;> intro hc hq <;> try (exfalso;omega))|fail)
  ·have hu : cG ts s x = true := (b8 htl).2 ⟨L[k]!, by rw [← hL]; exact aN _ _ hkn, by assumption⟩
   rw [uW hu]
   (refine aD rfl ?_; refine aT () trivial ?_ ⟨sE ?_,⟨sE ?_,⟨sE ?_,trivial⟩⟩⟩)
   ·rfl
   ·rfl
   ·rfl
   ·rfl
  ·(refine bC (k + 1) (Le.renA [(3, 3)]) ?_ ?_)
   ·refine ⟨by omega, fun j hj => ?_⟩
    rcases Nat.lt_or_ge j k with h|h
    ·exact hall j h
    ·rw [show j = k by omega]; assumption
   ·omega
 ·have hu : cG ts s x = false := by
   cases q : cG ts s x with
   | false => rfl
   | true =>
    obtain ⟨v,hv,hs⟩ := (b8 htl).1 q
    rw [← hL] at hv
    obtain ⟨j,hj,e⟩ := List.getElem_of_mem hv
    have h1 := hall j (by omega)
    rw [aS _ _ hj,e,hs] at h1;cases h1
  rw [qU hu]
  have hle := Je s.cells hm s.slots[x.y.toNat]!.ptr (decide (x.op = 5))
  by_cases hk : lV s.cells s.slots[x.y.toNat]!.ptr (decide (x.op = 5)) = 0
  ·have hp := mM ts bd pts ⟨s.slots, nG s.cells s.slots[x.y.toNat]!.ptr (decide (x.op = 5)), s.read⟩ x.x ⟨true, 0, rF s.cells s.slots[x.y.toNat]!.ptr (decide (x.op = 5))⟩ (hm.ln _ _) hsl hx
   have hd : c7 ts s x = bT ts ⟨s.slots,nG s.cells s.slots[x.y.toNat]!.ptr (decide (x.op = 5)),s.read⟩ x.x.toNat ⟨true,0,rF s.cells s.slots[x.y.toNat]!.ptr (decide (x.op = 5))⟩ := by unfold c7;rw [if_neg (show ¬ x.op = 1 by omega),if_neg (show ¬ x.op = 2 by omega),if_neg (show ¬ x.op = 3 by omega),if_pos ho,if_pos hk]
   rw [hd]
   rw [hk] at hle
   repeat' (first|(apply aF;first|(apply iI;(case hx|hH => rfl);(case hf|hg|hα => infer_instance);(case hk => omega);(case hj => decide);(case hc => exact (rfl:_=[_,_]));(case h0|hN => rfl))|(apply aA (k := 200);rfl;exact hle;exact Pur.pf;rfl)|(apply j8 (ts := ts) (bd := bd) (pts := pts) (s := ⟨s.slots,nG s.cells s.slots[x.y.toNat]!.ptr (decide (x.op = 5)),s.read⟩) (v := x.x) (y := ⟨true,0,rF s.cells s.slots[x.y.toNat]!.ptr (decide (x.op = 5))⟩);(case ha0|ha1|ha2|hH0|hH1|hH2|hdd => rfl);(case hmc => exact hp);(case hM|hN => rfl)))|refine aE ?_|(refine aJ ?_ ?_ <;> intro hc hq <;> try (exfalso;omega))|refine bI ?_|fail)
   all_goals (
    (refine aD rfl ?_; refine aT () trivial ?_ ⟨sE ?_,⟨sE ?_,⟨sE ?_,trivial⟩⟩⟩)
    ·rfl
    ·rfl
    ·rfl
    ·rfl)
  ·have hd : c7 ts s x = (s, eR (lV s.cells s.slots[x.y.toNat]!.ptr (decide (x.op = 5)))) := by unfold c7; rw [if_neg (show ¬ x.op = 1 by omega), if_neg (show ¬ x.op = 2 by omega), if_neg (show ¬ x.op = 3 by omega), if_pos ho, if_neg hk]
   rw [hd]
   repeat' (first|(apply aF;first|(apply iI;(case hx|hH => rfl);(case hf|hg|hα => infer_instance);(case hk => omega);(case hj => decide);(case hc => exact (rfl:_=[_,_]));(case h0|hN => rfl))|(apply aA (k := 200);rfl;exact hle;exact Pur.pf;rfl)|(apply aA (k := 201);rfl;(apply rC);(rfl);rfl))|refine aE ?_|(refine aJ ?_ ?_ <;> intro hc hq <;> try (exfalso;omega))|refine bI ?_|fail)
   all_goals (
    (refine aD rfl ?_; refine aT () trivial ?_ ⟨sE ?_,⟨sE ?_,⟨sE ?_,trivial⟩⟩⟩)
    ·rfl
    ·rfl
    ·rfl
    ·rfl)
theorem Ot (ts:List Int) (bd:List AL.Stmt) (pts:List Pnt) (s:Mc) (x:Pnt) (htl:ts.length ≤ 6) (hm:OkM s.cells) (hsl:s.slots.length = ts.length) (ho:x.op = 6) (hrl:s.read.length ≤ 1000) (hx:0 ≤ x.x ∧ x.x < ts.length) (hy:0 ≤ x.y ∧ x.y < ts.length) (hz:¬ a7 s.cells s.slots[x.y.toNat]!.ptr false = 0):MC Tryz.prog 140 [.optr 0 0,dD x] [(0,some (mO ts bd pts 1 2 s)),(1,some (flat cT s.slots)),(2,some (flat cI s.read))] 3 (fun _:Unit => True) (fun _ => iv (dH ts s x).2) (fun _ => [(0,some (mO ts bd pts 1 2 (dH ts s x).1)),(1,some (flat cT (dH ts s x).1.slots)),(2,some (flat cI (dH ts s x).1.read))]):=by
 have hus := fR ts bd pts x htl
 have hsm : Sm (wS ts x [1,2,3]) := bR (by omega)
 obtain ⟨L,hL⟩ : ∃ L,L = a8 (wS ts x [1,2,3]) := ⟨_,rfl⟩
 have hLl : L.length ≤ 62 := by rw [hL]; exact cA _
 have hmem : ∀ k, k < L.length → 0 ≤ L[k]! ∧ L[k]! < s.slots.length := fun k hk => by
  rw [hsl]; exact gK (by rw [← hL]; exact aN _ _ hk)
 refine aX Tryz.func140 Tryz.ntmps140 ?_
 repeat' (first|(apply aF;first|(apply aA (k := 158);rfl;exact hus;exact Pur.pf;rfl)|(apply aA (k := 120);rfl;(apply fO <;> (assumption));(rfl);rfl))|refine aE ?_|refine bI ?_|fail)
 rw [← hL]
 refine aH (σ := Nat) [0,3,26,27] [0,1,2,3] (fun k => [(28,iv (k : Int))]) (fun k => []) (fun k => k ≤ L.length ∧ ∀ j,j < k → s.slots[(L[j]!).toNat]!.set = true) (fun k => L.length - k) (0) ⟨Nat.zero_le _,fun j h => absurd h (by omega)⟩ ?_
 rintro k ⟨hk,hall⟩
 by_cases hkn : k < L.length
 ·have hmk := hmem k hkn
  repeat' (first|refine aE ?_|(refine aJ ?_ ?_ <;> intro hc hq <;> try (exfalso;omega))|fail)
  ·have hu : cG ts s x = true := (b8 htl).2 ⟨L[k]!, by rw [← hL]; exact aN _ _ hkn, by assumption⟩
   rw [uW hu]
   (refine aD rfl ?_; refine aT () trivial ?_ ⟨sE ?_,⟨sE ?_,⟨sE ?_,trivial⟩⟩⟩)
   ·rfl
   ·rfl
   ·rfl
   ·rfl
  ·(refine bC (k + 1) (Le.renA [(3, 3)]) ?_ ?_)
   ·refine ⟨by omega, fun j hj => ?_⟩
    rcases Nat.lt_or_ge j k with h|h
    ·exact hall j h
    ·rw [show j = k by omega]; assumption
   ·omega
 ·have hu : cG ts s x = false := by
   cases q : cG ts s x with
   | false => rfl
   | true =>
    obtain ⟨v,hv,hs⟩ := (b8 htl).1 q
    rw [← hL] at hv
    obtain ⟨j,hj,e⟩ := List.getElem_of_mem hv
    have h1 := hall j (by omega)
    rw [aS _ _ hj,e,hs] at h1;cases h1
  rw [qU hu]
  have hrc := qM s.cells hm s.slots[x.y.toNat]!.ptr
  have hd : c7 ts s x = (s,eR (a7 s.cells s.slots[x.y.toNat]!.ptr false)) := by unfold c7;rw [if_neg (show ¬ x.op = 1 by omega),if_neg (show ¬ x.op = 2 by omega),if_neg (show ¬ x.op = 3 by omega),if_neg (show ¬ (x.op = 4 ∨ x.op = 5) by omega),if_pos ho,if_neg hz]
  rw [hd]
  repeat' (first|(apply aF;first|(apply iI;(case hx|hH => rfl);(case hf|hg|hα => infer_instance);(case hk => omega);(case hj => decide);(case hc => exact (rfl:_=[_,_]));(case h0|hN => rfl))|(apply aA (k := 202);rfl;exact hrc;exact Pur.pf;rfl)|(apply aA (k := 201);rfl;(apply rC);(rfl);rfl))|refine aE ?_|(refine aJ ?_ ?_ <;> intro hc hq <;> try (exfalso;omega))|refine bI ?_|fail)
  (refine aD rfl ?_; refine aT () trivial ?_ ⟨sE ?_,⟨sE ?_,⟨sE ?_,trivial⟩⟩⟩)
  ·rfl
  ·rfl
  ·rfl
  ·rfl
theorem N1 (ts:List Int) (bd:List AL.Stmt) (pts:List Pnt) (s:Mc) (x:Pnt) (htl:ts.length ≤ 6) (hm:OkM s.cells) (hsl:s.slots.length = ts.length) (ho:x.op = 7) (hx:0 ≤ x.x ∧ x.x < ts.length) (hy:0 ≤ x.y ∧ x.y < ts.length):MC Tryz.prog 140 [.optr 0 0,dD x] [(0,some (mO ts bd pts 1 2 s)),(1,some (flat cT s.slots)),(2,some (flat cI s.read))] 3 (fun _:Unit => True) (fun _ => iv (dH ts s x).2) (fun _ => [(0,some (mO ts bd pts 1 2 (dH ts s x).1)),(1,some (flat cT (dH ts s x).1.slots)),(2,some (flat cI (dH ts s x).1.read))]):=by
 have hus := fR ts bd pts x htl
 have hsm : Sm (wS ts x [1,2,3]) := bR (by omega)
 obtain ⟨L,hL⟩ : ∃ L,L = a8 (wS ts x [1,2,3]) := ⟨_,rfl⟩
 have hLl : L.length ≤ 62 := by rw [hL]; exact cA _
 have hmem : ∀ k, k < L.length → 0 ≤ L[k]! ∧ L[k]! < s.slots.length := fun k hk => by
  rw [hsl]; exact gK (by rw [← hL]; exact aN _ _ hk)
 refine aX Tryz.func140 Tryz.ntmps140 ?_
 repeat' (first|(apply aF;first|(apply aA (k := 158);rfl;exact hus;exact Pur.pf;rfl)|(apply aA (k := 120);rfl;(apply fO <;> (assumption));(rfl);rfl))|refine aE ?_|refine bI ?_|fail)
 rw [← hL]
 refine aH (σ := Nat) [0,3,26,27] [0,1,2,3] (fun k => [(28,iv (k : Int))]) (fun k => []) (fun k => k ≤ L.length ∧ ∀ j,j < k → s.slots[(L[j]!).toNat]!.set = true) (fun k => L.length - k) (0) ⟨Nat.zero_le _,fun j h => absurd h (by omega)⟩ ?_
 rintro k ⟨hk,hall⟩
 by_cases hkn : k < L.length
 ·have hmk := hmem k hkn
  repeat' (first|refine aE ?_|(refine aJ ?_ ?_ <;> intro hc hq <;> try (exfalso;omega))|fail)
  ·have hu : cG ts s x = true := (b8 htl).2 ⟨L[k]!, by rw [← hL]; exact aN _ _ hkn, by assumption⟩
   rw [uW hu]
   (refine aD rfl ?_; refine aT () trivial ?_ ⟨sE ?_,⟨sE ?_,⟨sE ?_,trivial⟩⟩⟩)
   ·rfl
   ·rfl
   ·rfl
   ·rfl
  ·(refine bC (k + 1) (Le.renA [(3, 3)]) ?_ ?_)
   ·refine ⟨by omega, fun j hj => ?_⟩
    rcases Nat.lt_or_ge j k with h|h
    ·exact hall j h
    ·rw [show j = k by omega]; assumption
   ·omega
 ·have hu : cG ts s x = false := by
   cases q : cG ts s x with
   | false => rfl
   | true =>
    obtain ⟨v,hv,hs⟩ := (b8 htl).1 q
    rw [← hL] at hv
    obtain ⟨j,hj,e⟩ := List.getElem_of_mem hv
    have h1 := hall j (by omega)
    rw [aS _ _ hj,e,hs] at h1;cases h1
  rw [qU hu]
  have hwr := yG s.cells hm s.slots[x.x.toNat]!.ptr s.slots[x.y.toNat]!.num
  have hd : c7 ts s x = (⟨s.slots,zY s.cells s.slots[x.x.toNat]!.ptr s.slots[x.y.toNat]!.num,s.read⟩,o6 (vH s.cells s.slots[x.x.toNat]!.ptr s.slots[x.y.toNat]!.num)) := by unfold c7;rw [if_neg (show ¬ x.op = 1 by omega),if_neg (show ¬ x.op = 2 by omega),if_neg (show ¬ x.op = 3 by omega),if_neg (show ¬ (x.op = 4 ∨ x.op = 5) by omega),if_neg (show ¬ x.op = 6 by omega),if_pos ho]
  rw [hd]
  repeat' (first|(apply aF;first|(apply iI;(case hx|hH => rfl);(case hf|hg|hα => infer_instance);(case hk => omega);(case hj => decide);(case hc => exact (rfl:_=[_,_]));(case h0|hN => rfl))|(apply aA (k := 203);rfl;exact hwr;exact Pur.pf;rfl)|(apply aA (k := 201);rfl;(apply rC);(rfl);rfl))|refine aE ?_|(refine aJ ?_ ?_ <;> intro hc hq <;> try (exfalso;omega))|refine bI ?_|fail)
  ·have hk : ¬ vH s.cells s.slots[x.x.toNat]!.ptr s.slots[x.y.toNat]!.num = 0 := by assumption
   (refine aD rfl ?_; refine aT () trivial ?_ ⟨sE ?_,⟨sE ?_,⟨sE ?_,trivial⟩⟩⟩)
   ·show iv (eR _) = iv (o6 _)
    unfold o6;rw [if_neg hk]
   ·rfl
   ·rfl
   ·rfl
  ·have hk : vH s.cells s.slots[x.x.toNat]!.ptr s.slots[x.y.toNat]!.num = 0 := by assumption
   (refine aD rfl ?_; refine aT () trivial ?_ ⟨sE ?_,⟨sE ?_,⟨sE ?_,trivial⟩⟩⟩)
   ·rw [hk]; rfl
   ·rfl
   ·rfl
   ·rfl
theorem Og (ts:List Int) (bd:List AL.Stmt) (pts:List Pnt) (s:Mc) (x:Pnt) (htl:ts.length ≤ 6) (hm:OkM s.cells) (hsl:s.slots.length = ts.length) (ho:x.op = 8) (hx:0 ≤ x.x ∧ x.x < ts.length):MC Tryz.prog 140 [.optr 0 0,dD x] [(0,some (mO ts bd pts 1 2 s)),(1,some (flat cT s.slots)),(2,some (flat cI s.read))] 3 (fun _:Unit => True) (fun _ => iv (dH ts s x).2) (fun _ => [(0,some (mO ts bd pts 1 2 (dH ts s x).1)),(1,some (flat cT (dH ts s x).1.slots)),(2,some (flat cI (dH ts s x).1.read))]):=by
 have hus := fR ts bd pts x htl
 have hsm : Sm (wS ts x [1,2,3]) := bR (by omega)
 obtain ⟨L,hL⟩ : ∃ L,L = a8 (wS ts x [1,2,3]) := ⟨_,rfl⟩
 have hLl : L.length ≤ 62 := by rw [hL]; exact cA _
 have hmem : ∀ k, k < L.length → 0 ≤ L[k]! ∧ L[k]! < s.slots.length := fun k hk => by
  rw [hsl]; exact gK (by rw [← hL]; exact aN _ _ hk)
 refine aX Tryz.func140 Tryz.ntmps140 ?_
 repeat' (first|(apply aF;first|(apply aA (k := 158);rfl;exact hus;exact Pur.pf;rfl)|(apply aA (k := 120);rfl;(apply fO <;> (assumption));(rfl);rfl))|refine aE ?_|refine bI ?_|fail)
 rw [← hL]
 refine aH (σ := Nat) [0,3,26,27] [0,1,2,3] (fun k => [(28,iv (k : Int))]) (fun k => []) (fun k => k ≤ L.length ∧ ∀ j,j < k → s.slots[(L[j]!).toNat]!.set = true) (fun k => L.length - k) (0) ⟨Nat.zero_le _,fun j h => absurd h (by omega)⟩ ?_
 rintro k ⟨hk,hall⟩
 by_cases hkn : k < L.length
 ·have hmk := hmem k hkn
  repeat' (first|refine aE ?_|(refine aJ ?_ ?_ <;> intro hc hq <;> try (exfalso;omega))|fail)
  ·have hu : cG ts s x = true := (b8 htl).2 ⟨L[k]!, by rw [← hL]; exact aN _ _ hkn, by assumption⟩
   rw [uW hu]
   (refine aD rfl ?_; refine aT () trivial ?_ ⟨sE ?_,⟨sE ?_,⟨sE ?_,trivial⟩⟩⟩)
   ·rfl
   ·rfl
   ·rfl
   ·rfl
  ·(refine bC (k + 1) (Le.renA [(3, 3)]) ?_ ?_)
   ·refine ⟨by omega, fun j hj => ?_⟩
    rcases Nat.lt_or_ge j k with h|h
    ·exact hall j h
    ·rw [show j = k by omega]; assumption
   ·omega
 ·have hu : cG ts s x = false := by
   cases q : cG ts s x with
   | false => rfl
   | true =>
    obtain ⟨v,hv,hs⟩ := (b8 htl).1 q
    rw [← hL] at hv
    obtain ⟨j,hj,e⟩ := List.getElem_of_mem hv
    have h1 := hall j (by omega)
    rw [aS _ _ hj,e,hs] at h1;cases h1
  rw [qU hu]
  have hfr := Hs ts bd pts s x.x hm hsl hx
  have hd : c7 ts s x = (⟨s.slots.set x.x.toNat mL,k9 s.cells s.slots[x.x.toNat]!.ptr,s.read⟩,o6 (a7 s.cells s.slots[x.x.toNat]!.ptr true)) := by unfold c7;rw [if_neg (show ¬ x.op = 1 by omega),if_neg (show ¬ x.op = 2 by omega),if_neg (show ¬ x.op = 3 by omega),if_neg (show ¬ (x.op = 4 ∨ x.op = 5) by omega),if_neg (show ¬ x.op = 6 by omega),if_neg (show ¬ x.op = 7 by omega),if_pos ho]
  rw [hd]
  repeat' (first|(apply aF;first|(apply Ex (ts := ts) (bd := bd) (pts := pts) (s := s) (v := x.x);rfl;rfl;rfl;rfl;rfl;rfl;exact hfr;rfl;rfl)|(apply bB;rfl;rfl;rfl;rfl;rfl;(rw [aI]; simp only [gB] <;> omega);(exact uX (by (omega)))))|refine aE ?_|(refine aJ ?_ ?_ <;> intro hc hq <;> try (exfalso;omega))|refine bI ?_|fail)
  (refine aD rfl ?_; refine aT () trivial ?_ ⟨sE ?_,⟨sE ?_,⟨sE ?_,trivial⟩⟩⟩)
  ·rfl
  ·rfl
  ·rfl
  ·rfl
theorem Ou (ts:List Int) (bd:List AL.Stmt) (pts:List Pnt) (s:Mc) (x:Pnt) (htl:ts.length ≤ 6) (hm:OkM s.cells) (hsl:s.slots.length = ts.length) (ho:x.op = 9 ∨ x.op = 10 ∨ x.op = 11):MC Tryz.prog 140 [.optr 0 0,dD x] [(0,some (mO ts bd pts 1 2 s)),(1,some (flat cT s.slots)),(2,some (flat cI s.read))] 3 (fun _:Unit => True) (fun _ => iv (dH ts s x).2) (fun _ => [(0,some (mO ts bd pts 1 2 (dH ts s x).1)),(1,some (flat cT (dH ts s x).1.slots)),(2,some (flat cI (dH ts s x).1.read))]):=by
 have hus := fR ts bd pts x htl
 have hsm : Sm (wS ts x [1,2,3]) := bR (by omega)
 obtain ⟨L,hL⟩ : ∃ L,L = a8 (wS ts x [1,2,3]) := ⟨_,rfl⟩
 have hLl : L.length ≤ 62 := by rw [hL]; exact cA _
 have hmem : ∀ k, k < L.length → 0 ≤ L[k]! ∧ L[k]! < s.slots.length := fun k hk => by
  rw [hsl]; exact gK (by rw [← hL]; exact aN _ _ hk)
 refine aX Tryz.func140 Tryz.ntmps140 ?_
 repeat' (first|(apply aF;first|(apply aA (k := 158);rfl;exact hus;exact Pur.pf;rfl)|(apply aA (k := 120);rfl;(apply fO <;> (assumption));(rfl);rfl))|refine aE ?_|refine bI ?_|fail)
 rw [← hL]
 refine aH (σ := Nat) [0,3,26,27] [0,1,2,3] (fun k => [(28,iv (k : Int))]) (fun k => []) (fun k => k ≤ L.length ∧ ∀ j,j < k → s.slots[(L[j]!).toNat]!.set = true) (fun k => L.length - k) (0) ⟨Nat.zero_le _,fun j h => absurd h (by omega)⟩ ?_
 rintro k ⟨hk,hall⟩
 by_cases hkn : k < L.length
 ·have hmk := hmem k hkn
  repeat' (first|refine aE ?_|(refine aJ ?_ ?_ <;> intro hc hq <;> try (exfalso;omega))|fail)
  ·have hu : cG ts s x = true := (b8 htl).2 ⟨L[k]!, by rw [← hL]; exact aN _ _ hkn, by assumption⟩
   rw [uW hu]
   (refine aD rfl ?_; refine aT () trivial ?_ ⟨sE ?_,⟨sE ?_,⟨sE ?_,trivial⟩⟩⟩)
   ·rfl
   ·rfl
   ·rfl
   ·rfl
  ·(refine bC (k + 1) (Le.renA [(3, 3)]) ?_ ?_)
   ·refine ⟨by omega, fun j hj => ?_⟩
    rcases Nat.lt_or_ge j k with h|h
    ·exact hall j h
    ·rw [show j = k by omega]; assumption
   ·omega
 ·have hu : cG ts s x = false := by
   cases q : cG ts s x with
   | false => rfl
   | true =>
    obtain ⟨v,hv,hs⟩ := (b8 htl).1 q
    rw [← hL] at hv
    obtain ⟨j,hj,e⟩ := List.getElem_of_mem hv
    have h1 := hall j (by omega)
    rw [aS _ _ hj,e,hs] at h1;cases h1
  rw [qU hu]
  by_cases h11 : x.op = 11
  ·have hd : c7 ts s x = cF ts ts.length 0 s := GC h11
   rw [hd]
   have hfi := LO ts bd pts s hm hsl (by omega)
   repeat' (first|(apply aF;(apply K0 (ts := ts) (bd := bd) (pts := pts) (s := s);rfl;rfl;rfl;rfl;rfl;exact hfi;rfl;rfl))|refine aE ?_|(refine aJ ?_ ?_ <;> intro hc hq <;> try (exfalso;omega))|fail)
   (refine aD rfl ?_; refine aT () trivial ?_ ⟨sE ?_,⟨sE ?_,⟨sE ?_,trivial⟩⟩⟩)
   ·rfl
   ·rfl
   ·rfl
   ·rfl
  ·have hd : c7 ts s x = (s, -1) := by unfold c7; rw [if_neg (show ¬ x.op = 1 by omega), if_neg (show ¬ x.op = 2 by omega), if_neg (show ¬ x.op = 3 by omega), if_neg (show ¬ (x.op = 4 ∨ x.op = 5) by omega), if_neg (show ¬ x.op = 6 by omega), if_neg (show ¬ x.op = 7 by omega), if_neg (show ¬ x.op = 8 by omega), if_neg (show ¬ x.op = 11 by omega)]
   rw [hd]
   repeat' (first|refine aE ?_|(refine aJ ?_ ?_ <;> intro hc hq <;> try (exfalso;omega))|fail)
   (refine aD rfl ?_; refine aT () trivial ?_ ⟨sE ?_,⟨sE ?_,⟨sE ?_,trivial⟩⟩⟩)
   ·rfl
   ·rfl
   ·rfl
   ·rfl
theorem M8 (ts:List Int) (bd:List AL.Stmt) (pts:List Pnt) (s:Mc) (x:Pnt) (htl:ts.length ≤ 6) (hm:OkM s.cells) (hsl:s.slots.length = ts.length) (ho:x.op = 6) (hrl:s.read.length ≤ 1000) (hx:0 ≤ x.x ∧ x.x < ts.length) (hy:0 ≤ x.y ∧ x.y < ts.length) (hz:a7 s.cells s.slots[x.y.toNat]!.ptr false = 0) (hun:cG ts s x = false):MC Tryz.prog 140 [.optr 0 0,dD x] [(0,some (mO ts bd pts 1 2 s)),(1,some (flat cT s.slots)),(2,some (flat cI s.read))] 3 (fun _:Unit => True) (fun _ => iv (dH ts s x).2) (fun _ => [(0,some (mO ts bd pts 1 5 (dH ts s x).1)),(1,some (flat cT (dH ts s x).1.slots)),(5,some (flat cI (dH ts s x).1.read))]):=by
 have hus := fR ts bd pts x htl
 have hsm : Sm (wS ts x [1,2,3]) := bR (by omega)
 obtain ⟨L,hL⟩ : ∃ L,L = a8 (wS ts x [1,2,3]) := ⟨_,rfl⟩
 have hLl : L.length ≤ 62 := by rw [hL]; exact cA _
 have hmem : ∀ k, k < L.length → 0 ≤ L[k]! ∧ L[k]! < s.slots.length := fun k hk => by
  rw [hsl]; exact gK (by rw [← hL]; exact aN _ _ hk)
 refine aX Tryz.func140 Tryz.ntmps140 ?_
 repeat' (first|(apply aF;first|(apply aA (k := 158);rfl;exact hus;exact Pur.pf;rfl)|(apply aA (k := 120);rfl;(apply fO <;> (assumption));(rfl);rfl))|refine aE ?_|refine bI ?_|fail)
 rw [← hL]
 refine aH (σ := Nat) [0,3,26,27] [0,1,2,3] (fun k => [(28,iv (k : Int))]) (fun k => []) (fun k => k ≤ L.length ∧ ∀ j,j < k → s.slots[(L[j]!).toNat]!.set = true) (fun k => L.length - k) (0) ⟨Nat.zero_le _,fun j h => absurd h (by omega)⟩ ?_
 rintro k ⟨hk,hall⟩
 by_cases hkn : k < L.length
 ·have hmk := hmem k hkn
  repeat' (first|refine aE ?_|(refine aJ ?_ ?_ <;> intro hc hq <;> try (exfalso;omega))|fail)
  ·exfalso
   have hu : cG ts s x = true := (b8 htl).2 ⟨L[k]!,by rw [← hL]; exact aN _ _ hkn,by assumption⟩
   rw [hun] at hu;cases hu
  ·(refine bC (k + 1) (Le.renA [(3, 3)]) ?_ ?_)
   ·refine ⟨by omega, fun j hj => ?_⟩
    rcases Nat.lt_or_ge j k with h|h
    ·exact hall j h
    ·rw [show j = k by omega]; assumption
   ·omega
 ·have hu : cG ts s x = false := by
   cases q : cG ts s x with
   | false => rfl
   | true =>
    obtain ⟨v,hv,hs⟩ := (b8 htl).1 q
    rw [← hL] at hv
    obtain ⟨j,hj,e⟩ := List.getElem_of_mem hv
    have h1 := hall j (by omega)
    rw [aS _ _ hj,e,hs] at h1;cases h1
  rw [qU hu]
  have hrc := qM s.cells hm s.slots[x.y.toNat]!.ptr
  have hp := mM ts bd pts ⟨s.slots,dI s.cells s.slots[x.y.toNat]!.ptr false,s.read ++ [oV s.cells s.slots[x.y.toNat]!.ptr]⟩ x.x ⟨true,oV s.cells s.slots[x.y.toNat]!.ptr,⟨0,0⟩⟩ (hm.tch _ _) hsl hx
  have hd : c7 ts s x = bT ts ⟨s.slots,dI s.cells s.slots[x.y.toNat]!.ptr false,s.read ++ [oV s.cells s.slots[x.y.toNat]!.ptr]⟩ x.x.toNat ⟨true,oV s.cells s.slots[x.y.toNat]!.ptr,⟨0,0⟩⟩ := by unfold c7;rw [if_neg (show ¬ x.op = 1 by omega),if_neg (show ¬ x.op = 2 by omega),if_neg (show ¬ x.op = 3 by omega),if_neg (show ¬ (x.op = 4 ∨ x.op = 5) by omega),if_pos ho,if_pos hz]
  rw [hd]
  rw [hz] at hrc
  repeat' (first|(apply aF;first|(apply iI;(case hx|hH => rfl);(case hf|hg|hα => infer_instance);(case hk => omega);(case hj => decide);(case hc => exact (rfl:_=[_,_]));(case h0|hN => rfl))|(apply aA (k := 202);rfl;exact hrc;exact Pur.pf;rfl)|(with_reducible apply aW (d := 184))|(apply aL (t := _);rfl;rfl;rfl;exact (rfl:_=some [_]);rfl;rfl))|refine aE ?_|(refine aJ ?_ ?_ <;> intro hc hq <;> try (exfalso;omega))|refine bI ?_|fail)
  refine bU ?_
  rw [show s.read.length + 1 = (s.read ++ [oV s.cells s.slots[x.y.toNat]!.ptr]).length from by rw [List.length_append]; rfl]
  repeat' (first|(apply aF;(apply j8 (ts := ts) (bd := bd) (pts := pts) (s := ⟨s.slots,dI s.cells s.slots[x.y.toNat]!.ptr false,s.read ++ [oV s.cells s.slots[x.y.toNat]!.ptr]⟩) (v := x.x) (y := ⟨true,oV s.cells s.slots[x.y.toNat]!.ptr,⟨0,0⟩⟩);rfl;rfl;rfl;rfl;rfl;rfl;rfl;exact hp;rfl;rfl))|refine aE ?_|fail)
  (refine aD rfl ?_; refine aT () trivial ?_ ⟨sE ?_,⟨sE ?_,⟨sE ?_,trivial⟩⟩⟩)
  ·rfl
  ·rfl
  ·rfl
  ·rfl
theorem NM (ts:List Int) (bd:List AL.Stmt) (pts:List Pnt) (s:Mc) (x:Pnt) (htl:ts.length ≤ 6) (hm:OkM s.cells) (hsl:s.slots.length = ts.length) (hun:cG ts s x = true):MC Tryz.prog 140 [.optr 0 0,dD x] [(0,some (mO ts bd pts 1 2 s)),(1,some (flat cT s.slots)),(2,some (flat cI s.read))] 3 (fun _:Unit => True) (fun _ => iv (dH ts s x).2) (fun _ => [(0,some (mO ts bd pts 1 2 (dH ts s x).1)),(1,some (flat cT (dH ts s x).1.slots)),(2,some (flat cI (dH ts s x).1.read))]):=by
 have hus := fR ts bd pts x htl
 have hsm : Sm (wS ts x [1,2,3]) := bR (by omega)
 obtain ⟨L,hL⟩ : ∃ L,L = a8 (wS ts x [1,2,3]) := ⟨_,rfl⟩
 have hLl : L.length ≤ 62 := by rw [hL]; exact cA _
 have hmem : ∀ k, k < L.length → 0 ≤ L[k]! ∧ L[k]! < s.slots.length := fun k hk => by
  rw [hsl]; exact gK (by rw [← hL]; exact aN _ _ hk)
 refine aX Tryz.func140 Tryz.ntmps140 ?_
 repeat' (first|(apply aF;first|(apply aA (k := 158);rfl;exact hus;exact Pur.pf;rfl)|(apply aA (k := 120);rfl;(apply fO <;> (assumption));(rfl);rfl))|refine aE ?_|refine bI ?_|fail)
 rw [← hL]
 refine aH (σ := Nat) [0,3,26,27] [0,1,2,3] (fun k => [(28,iv (k : Int))]) (fun k => []) (fun k => k ≤ L.length ∧ ∀ j,j < k → s.slots[(L[j]!).toNat]!.set = true) (fun k => L.length - k) (0) ⟨Nat.zero_le _,fun j h => absurd h (by omega)⟩ ?_
 rintro k ⟨hk,hall⟩
 by_cases hkn : k < L.length
 ·have hmk := hmem k hkn
  repeat' (first|refine aE ?_|(refine aJ ?_ ?_ <;> intro hc hq <;> try (exfalso;omega))|fail)
  ·have hu : cG ts s x = true := (b8 htl).2 ⟨L[k]!, by rw [← hL]; exact aN _ _ hkn, by assumption⟩
   rw [uW hu]
   (refine aD rfl ?_; refine aT () trivial ?_ ⟨sE ?_,⟨sE ?_,⟨sE ?_,trivial⟩⟩⟩)
   ·rfl
   ·rfl
   ·rfl
   ·rfl
  ·(refine bC (k + 1) (Le.renA [(3, 3)]) ?_ ?_)
   ·refine ⟨by omega, fun j hj => ?_⟩
    rcases Nat.lt_or_ge j k with h|h
    ·exact hall j h
    ·rw [show j = k by omega]; assumption
   ·omega
 ·have hu : cG ts s x = false := by
   cases q : cG ts s x with
   | false => rfl
   | true =>
    obtain ⟨v,hv,hs⟩ := (b8 htl).1 q
    rw [← hL] at hv
    obtain ⟨j,hj,e⟩ := List.getElem_of_mem hv
    have h1 := hall j (by omega)
    rw [aS _ _ hj,e,hs] at h1;cases h1
  rw [qU hu]
  rw [hun] at hu;cases hu
theorem Kq {ts:List Int}{bd:List AL.Stmt}{pts:List Pnt}{s:Mc}{x:Pnt}{x0 x1:Operand}{i0 i1 i2:Nat}(ha0:ev (lk tsl) x0 = some (.optr i0 0)) (ha1:ev (lk tsl) x1 = some (dD x)) (hH0:aO hsl i0 = some (mO ts bd pts i1 i2 s)) (hH1:aO hsl i1 = some (flat cT s.slots)) (hH2:aO hsl i2 = some (flat cI s.read)) (hdd:Go.AL.distinct [i0,i1,i2] = true) (hmc:MC Tryz.prog 140 [.optr 0 0,dD x] [(0,some (mO ts bd pts 1 2 s)),(1,some (flat cT s.slots)),(2,some (flat cI s.read))] 3 (fun _:Unit => True) (fun _ => iv (dH ts s x).2) (fun _ => [(0,some (mO ts bd pts 1 5 (dH ts s x).1)),(1,some (flat cT (dH ts s x).1.slots)),(5,some (flat cI (dH ts s x).1.read))])) (hM:Nat.ble (nidl + 3) aV = true) (hN:Nat.blt d N = true){md':Md}[hmd:MdA md (fU [x0,x1] ++ [.inr i0,.inr i1,.inr i2]) (List.map Sum.inr (List.map Prod.fst ([(i0,some (mO ts bd pts i1 (nidl + 2) (dH ts s x).1)),(i1,some (flat cT (dH ts s x).1.slots)),((nidl + 2),some (flat cI (dH ts s x).1.read)),(i2,none)]:List (Nat × Option (List AV)))) ++ [.inl d]) md'] (kk:RW Tryz.prog N all Q md' rest ⟨(d,iv (dH ts s x).2) :: tsl,hO hsl [(i0,some (mO ts bd pts i1 (nidl + 2) (dH ts s x).1)),(i1,some (flat cT (dH ts s x).1.slots)),((nidl + 2),some (flat cI (dH ts s x).1.read)),(i2,none)],nidl + 3,z0⟩):RW Tryz.prog N all Q md (⟨some d,.call ⟨.value (.func 140),#[x0,x1],tys⟩,ty,pos,af,none⟩ :: rest) ⟨tsl,hsl,nidl,z0⟩:=by
 exact aZ (l := [x0,x1]) [i0,i1,i2] 6 [(i0,some (mO ts bd pts i1 (nidl + 2) (dH ts s x).1)),(i1,some (flat cT (dH ts s x).1.slots)),((nidl + 2),some (flat cI (dH ts s x).1.read)),(i2,none)] hmc (avs := [.optr i0 0,dD x]) (by simp only [evL,ha0,ha1]) hdd hM hN (md' := md') (hmd := hmd) kk
theorem Oj (ts:List Int) (bd:List AL.Stmt) (pts:List Pnt) (s:Mc) (x:Pnt) (htl:ts.length ≤ 6) (hm:OkM s.cells) (hsl:s.slots.length = ts.length) (hop:1 ≤ x.op ∧ x.op ≤ 11) (hrl:s.read.length ≤ 1000)
  (hx : x.op ≤ 8 → 0 ≤ x.x ∧ x.x < ts.length) (hy : 3 ≤ x.op → x.op ≤ 7 → 0 ≤ x.y ∧ x.y < ts.length) (hn : x.op = 2 → 0 ≤ x.n ∧ x.n ≤ 9) (h6 : ¬ (x.op = 6 ∧ a7 s.cells s.slots[x.y.toNat]!.ptr false = 0 ∧ cG ts s x = false)) : MC Tryz.prog 140 [.optr 0 0,dD x] [(0,some (mO ts bd pts 1 2 s)),(1,some (flat cT s.slots)),(2,some (flat cI s.read))] 3 (fun _ : Unit => True) (fun _ => iv (dH ts s x).2) (fun _ => [(0,some (mO ts bd pts 1 2 (dH ts s x).1)),(1,some (flat cT (dH ts s x).1.slots)),(2,some (flat cI (dH ts s x).1.read))]) := by
 by_cases h1 : x.op = 1
 ·exact NN ts bd pts s x htl hm hsl h1 (hx (by omega))
 by_cases h2 : x.op = 2
 ·exact NR ts bd pts s x htl hm hsl h2 (hn h2) (hx (by omega))
 by_cases h3 : x.op = 3
 ·exact Ok ts bd pts s x htl hm hsl h3 (hx (by omega)) (hy (by omega) (by omega))
 by_cases h4 : x.op = 4 ∨ x.op = 5
 ·exact Ma ts bd pts s x htl hm hsl h4 (hx (by omega)) (hy (by omega) (by omega))
 by_cases h6' : x.op = 6
 ·by_cases hu : cG ts s x = true
  ·exact NM ts bd pts s x htl hm hsl hu
  ·exact Ot ts bd pts s x htl hm hsl h6' hrl (hx (by omega)) (hy (by omega) (by omega)) (fun q => h6 ⟨h6',q,by simpa using hu⟩)
 by_cases h7 : x.op = 7
 ·exact N1 ts bd pts s x htl hm hsl h7 (hx (by omega)) (hy (by omega) (by omega))
 by_cases h8 : x.op = 8
 ·exact Og ts bd pts s x htl hm hsl h8 (hx (by omega))
 ·exact Ou ts bd pts s x htl hm hsl (by omega)
theorem uA (x:Pnt) (h:x.next.length ≤ 1048576):PC Tryz.prog 91 [dD x] (fun r => r = bv (decide (x.next.length = 2))):=by
 refine aB Tryz.func91 Tryz.ntmps91 ?_
 repeat' (first|refine aE ?_|fail)
 refine aD rfl ⟨?_,rfl⟩
 simp only [aM,AV.v.injEq,Value.bool.injEq,decide_eq_decide]; omega
theorem NO {pts:List Pnt}{a:Nat}{C:List Int}(h:pts[a]!.next.length = 2) (hC:0 < C.length):hZ pts a C = ((pts[a]!.next[(C[0]! % 2).toNat]!).toNat,C.drop 1):=by
 cases C with
 | nil => simp at hC
 | cons c C => unfold hZ;rw [if_pos h]; rfl
theorem Ov {pts:List Pnt}{a:Nat}(h:pts[a]!.next.length = 2):hZ pts a [] = ((pts[a]!.next[1]!).toNat,[]) := by unfold hZ;rw [if_pos h]
theorem Gm {pts:List Pnt}{n a b:Nat}{out C C2:List Int}{q:List Int × Bool}(h:¬ pts[a]!.op = 11) (ho:out.length ≤ n) (hs:hZ pts a C = (b,C2)) (hq:q = (out ++ (wm pts (n - out.length) a C).1,(wm pts (n - out.length) a C).2)) :
  ((out ++ [(a : Int)]).length ≤ n ∧ q = ((out ++ [(a : Int)]) ++ (wm pts (n - (out ++ [(a : Int)]).length) b C2).1,(wm pts (n - (out ++ [(a : Int)]).length) b C2).2)) ∨ ((out ++ [(a : Int)]).length = n + 1 ∧ q = ((out ++ [(a : Int)]).take n,false)) := by
 have hl : (out ++ [(a : Int)]).length = out.length + 1 := by rw [List.length_append]; rfl
 rcases Nat.lt_or_ge out.length n with h1|h1
 ·exact .inl ⟨by omega,oX h h1 hs hq⟩
 ·refine .inr ⟨by omega, ?_⟩
  have e : out.length = n := by omega
  rw [hq,e,Nat.sub_self,Gf h,← e,List.take_left' rfl,List.append_nil]
theorem MJ (ts:List Int) (bd:List AL.Stmt) (pts:List Pnt) (cs:List Int) (n:Nat) (w:WG ts pts) (wa:WA ts pts) (hn:n ≤ 1000) (hcl:cs.length ≤ 1048576):PC Tryz.prog 139 [aG ts bd pts,sl cI cs,iv (n:Int)] (fun r => r = .tup [sl cI (wm pts n 0 cs).1,bv (wm pts n 0 cs).2]):=by
 have hpl := w.pl
 have hp0 := w.p0
 refine aB Tryz.func139 Tryz.ntmps139 ?_
 repeat' (first|(apply aF;(apply k6 (d := 8) (e := 1);rfl;rfl))|refine aE ?_|fail)
 refine aH (σ := Int × List Int × Nat × List Int) [0,2] [] (fun k => [(9,iv k.1),(1,sl cI k.2.2.2),(8,.own 0 0 k.2.2.1 1)]) (fun k => [(0,some (flat cI k.2.1))]) (fun k => (0 ≤ k.1 ∧ k.1 < pts.length) ∧ k.2.2.1 = k.2.1.length ∧ k.2.2.2.length ≤ 1048576 ∧ ((k.2.1.length ≤ n ∧ wm pts n 0 cs = (k.2.1 ++ (wm pts (n - k.2.1.length) k.1.toNat k.2.2.2).1,(wm pts (n - k.2.1.length) k.1.toNat k.2.2.2).2)) ∨ (k.2.1.length = n + 1 ∧ wm pts n 0 cs = (k.2.1.take n,false)))) (fun k => n + 1 - k.2.1.length) (0,[],0,cs) ⟨⟨Int.le_refl _,by show (0 : Int) < _; omega⟩,rfl,hcl,.inl ⟨Nat.zero_le _,rfl⟩⟩ ?_
 rintro ⟨a,out,m,C⟩ ⟨⟨ha0,ha⟩,hm,hC,hw⟩
 dsimp only at ha0 ha hm hC hw ⊢
 by_cases hout : out.length ≤ n
 ·have hw2 : wm pts n 0 cs = (out ++ (wm pts (n - out.length) a.toNat C).1, (wm pts (n - out.length) a.toNat C).2) := by
   rcases hw with h|h
   ·exact h.2
   ·omega
  have hat : (a.toNat : Int) = a := Int.toNat_of_nonneg ha0
  have hnx := w.nx a.toNat (by omega)
  have hnl := w.nl a.toNat (by omega)
  have hn1 := wa.n a.toNat (by omega)
  have hk : ∀ k,k < pts[a.toNat]!.next.length → 0 ≤ pts[a.toNat]!.next[k]! ∧ pts[a.toNat]!.next[k]! < pts.length := fun k h => hnx _ (aN _ _ h)
  have hch := uA pts[a.toNat]! (by omega)
  repeat' (first|(apply aF;first|(apply aA (k := 91);rfl;exact hch;exact Pur.pf;rfl)|(apply JV;rfl;rfl;rfl)|(apply aL (t := _);rfl;rfl;rfl;exact (rfl:_=some [_]);rfl;rfl))|refine aE ?_|(refine aJ ?_ ?_ <;> intro hc hq <;> try (exfalso;omega))|refine bI ?_|fail)
  ·have hop : pts[a.toNat]!.op = 11 := by assumption
   have e : wm pts n 0 cs = (out ++ [a],true) := by rw [hw2,HK hop,hat]
   rw [e]
   (refine aR (Le.frzD (d := 6) (i := 2) rfl rfl) ?_; refine aD rfl ?_)
   refine ⟨?_,(by exact Pur.pf)⟩
   simp only [aM,sl]
   rw [hm,List.length_append]; rfl
  ·have hop : ¬ pts[a.toNat]!.op = 11 := by assumption
   have hst := Gm hop hout (Lq (by omega)) hw2
   rw [hat] at hst
   have hk := hk 0 (by omega)
   (refine bC (pts[a.toNat]!.next[0]!,_,_,C) (Le.renA [(0,2)]) ?_ ?_)
   ·exact ⟨hk,by dsimp only;rw [List.length_append,hm]; rfl,hC,hst⟩
   ·dsimp only;rw [List.length_append]; simp only [List.length_singleton]; omega
  ·have hop : ¬ pts[a.toNat]!.op = 11 := by assumption
   have hC0 : 0 < C.length := by omega
   have hst := Gm hop hout (NO (by omega) hC0) hw2
   rw [hat] at hst
   have hk := hk (C[0]! % 2).toNat (by omega)
   have hCe : List.take (C.length - Int.toNat 1) (List.drop (Int.toNat 1) C) = C.drop 1 := List.take_of_length_le (by rw [List.length_drop]; exact Nat.le_refl _)
   rw [hCe]
   (refine bC (pts[a.toNat]!.next[(C[0]! % 2).toNat]!,_,_,C.drop 1) (Le.renA [(0,2)]) ?_ ?_)
   ·exact ⟨hk,by dsimp only;rw [List.length_append,hm]; rfl,by dsimp only;rw [List.length_drop]; omega,hst⟩
   ·dsimp only;rw [List.length_append]; simp only [List.length_singleton]; omega
  ·have hop : ¬ pts[a.toNat]!.op = 11 := by assumption
   have hC0 : C = [] := List.eq_nil_of_length_eq_zero (by omega)
   subst hC0
   have hst := Gm hop hout (Ov (by omega)) hw2
   rw [hat] at hst
   have hk := hk 1 (by omega)
   (refine bC (pts[a.toNat]!.next[1]!,_,_,[]) (Le.renA [(0,2)]) ?_ ?_)
   ·exact ⟨hk,by dsimp only;rw [List.length_append,hm]; rfl,hC,hst⟩
   ·dsimp only;rw [List.length_append]; simp only [List.length_singleton]; omega
 ·have hw2 : out.length = n + 1 ∧ wm pts n 0 cs = (out.take n, false) := by
   rcases hw with h|h
   ·omega
   ·exact h
  repeat' (first|(apply aF;(apply gV (d := 59) (l := 0) (h := n);rfl;rfl;rfl;exact p9 rfl (by omega);exact if_pos (by omega);rfl))|refine aE ?_|(refine aJ ?_ ?_ <;> intro hc hq <;> try (exfalso;omega))|fail)
  refine aR (Le.cut (i := 0) (n * 1) rfl) ?_
  refine aR (Le.frzD (d := 6) (i := 0) rfl rfl) ?_
  rw [hw2.2,dK cI (e := 1)]
  refine aD (l := [.imm (n - 0) (flat cI (out.take n)),bv false]) rfl ⟨?_,(by exact Pur.pf)⟩
  rw [dV (by rw [List.length_take]; omega)]
  rfl
theorem Kx {p:Prg}{cs:List Int}{n:Int}{x0 x1 x2:Operand}(ha0:ev (lk tsl) x0 = some (bQ p)) (ha1:ev (lk tsl) x1 = some (sl cI cs)) (ha2:ev (lk tsl) x2 = some (iv n)) (hmc:MC Tryz.prog 69 [bQ p,sl cI cs,iv n] [] 0 (fun _:Unit => True) (fun _ => .tup [.optr 1 0,iv 5,iv 0]) (fun _ => [(1,some ([.v (.pointer none),.imm 0 [],.imm 0 [],.imm 0 []]))])) (hM:Nat.ble (nidl + 2) aV = true) (hN:Nat.blt d N = true){md':Md}[hmd:MdA md (fU [x0,x1,x2] ++ []) (List.map Sum.inr (List.map Prod.fst ([((nidl + 1),some ([.v (.pointer none),.imm 0 [],.imm 0 [],.imm 0 []]))]:List (Nat × Option (List AV)))) ++ [.inl d]) md'] (kk:RW Tryz.prog N all Q md' rest ⟨(d,.tup [.optr (nidl + 1) 0,iv 5,iv 0]) :: tsl,hO hsl [((nidl + 1),some ([.v (.pointer none),.imm 0 [],.imm 0 [],.imm 0 []]))],nidl + 2,z0⟩):RW Tryz.prog N all Q md (⟨some d,.call ⟨.value (.func 69),#[x0,x1,x2],tys⟩,ty,pos,af,none⟩ :: rest) ⟨tsl,hsl,nidl,z0⟩:=by
 exact aZ (l := [x0,x1,x2]) [] 2 [((nidl + 1),some ([.v (.pointer none),.imm 0 [],.imm 0 [],.imm 0 []]))] hmc (avs := [bQ p,sl cI cs,iv n]) (by simp only [evL,ha0,ha1,ha2]) rfl hM hN (md' := md') (hmd := hmd) kk
theorem Le.nilMid {ts:List (Nat × AV)}{hs:List (Nat × Option (List AV))}{n:Nat}{z0:Lo}{i:Nat}(c1:List AV){c2:List AV}(hi:aO hs i = some (c1 ++ .v (.slice none 0 0) :: c2)) :
  Le ⟨ts,hs,n,z0⟩ ⟨ts,(i,some (c1 ++ .imm 0 [] :: c2)) :: hs,n,z0⟩ :=
 Le.cells hi (by simp) fun w bad ι b β h => rD (fun y hy => by have := lS (av := .v (.slice none 0 0)) hy;exact this) c1 c2 b β h
theorem Mp {ts:List Int}{pts:List Pnt}{a last:Nat}{l:List Nat}{s:Mc}:nB ts pts (a :: l) s last = if (dH ts s pts[a]!).2 = -1 then nB ts pts l (dH ts s pts[a]!).1 a else ((dH ts s pts[a]!).1,(dH ts s pts[a]!).2,a):=by
 rw [nB]
 by_cases h : cG ts s pts[a]! = true
 ·rw [if_pos h,uW h,if_neg (show ¬ (2 : Int) = -1 by decide)]
 ·have h2 : cG ts s pts[a]! = false := by simpa using h
  rw [if_neg h,qU h2]
theorem N0 {ts:List Int}{nt:Nat}{s:Mc}(h:OkS nt s){x:Pnt}(hx:PtN x):OkS nt (dH ts s x).1:=by
 unfold dH;split
 ·exact h
 ·exact h.do hx
theorem JH {ts:List Int}{s:Mc}{x:Pnt}:(dH ts s x).1.read.length ≤ s.read.length + 1:=by
 unfold dH;split
 ·dsimp only;omega
 ·exact Bd
theorem OU {ts:List Int}{s:Mc}{x:Pnt}(ho:x.op = 6) (hz:a7 s.cells s.slots[x.y.toNat]!.ptr false = 0) (hu:cG ts s x = false) (ht:ts[x.x.toNat]! = 1):(dH ts s x).2 = -1:=by
 rw [qU hu]
 unfold c7
 rw [if_neg (show ¬ x.op = 1 by omega),if_neg (show ¬ x.op = 2 by omega),if_neg (show ¬ x.op = 3 by omega),if_neg (show ¬ (x.op = 4 ∨ x.op = 5) by omega),if_pos ho,if_pos hz]
 unfold bT
 rw [if_neg (fun h => by have := h.1;omega)]
theorem Np (p:Prg) (cs:List Int) (n:Int) (hl:p.types.length ≤ 1048576) (hs:aU p.body ≤ 1048576) (hr:DY p n = false):MC Tryz.prog 69 [bQ p,sl cI cs,iv n] [] 0 (fun _:Unit => True) (fun _ => .tup [.optr 1 0,iv 5,iv 0]) (fun _ => [(1,some ([.v (.pointer none),.imm 0 [],.imm 0 [],.imm 0 []]))]):=by
 have hg := eQ p hl hs
 unfold DY at hr
 by_cases hv : bK p = true
 ·rw [if_pos hv] at hg
  rw [hv] at hr
  have hnn : ¬ (0 ≤ n ∧ n ≤ 150) := fun h => by rw [decide_eq_true h.1,decide_eq_true h.2] at hr;cases hr
  refine aX Tryz.func69 Tryz.ntmps69 ?_
  repeat' (first|(apply aF;first|(apply aA (k := 72);rfl;exact hg;exact Pur.pf;rfl)|(apply aA (k := 54);rfl;(apply c9);(rfl);rfl))|refine aE ?_|(refine aJ ?_ ?_ <;> intro hc hq <;> try (exfalso;omega))|fail)
  ·(refine aD rfl ?_; refine aT () trivial ?_ ⟨sE ?_, trivial⟩)
   ·rfl
   ·rfl
 ·rw [if_neg hv] at hg
  refine aX Tryz.func69 Tryz.ntmps69 ?_
  repeat' (first|(apply aF;(apply aA (k := 72);rfl;exact hg;exact Pur.pf;rfl))|refine aE ?_|fail)
  (refine aD rfl ?_; refine aT () trivial ?_ ⟨sE ?_,trivial⟩)
  ·rfl
  ·rfl
theorem Nl (p:Prg) (cs:List Int) (n:Nat) (q:Mc × Int × Nat) (hqq:q = jE p.types (aC p) cs n) (hv:bK p = true) (hl:p.types.length ≤ 1048576) (hs:aU p.body ≤ 1048576) (hn:n ≤ 150) (hcl:cs.length ≤ 1048576):MC Tryz.prog 69 [bQ p,sl cI cs,iv (n:Int)] [] 0 (fun _:Unit => True) (fun _ => .tup [.optr 2 0,iv q.2.1,iv (q.2.2:Int)]) (fun _ => [(2,some (mO p.types p.body (aC p) 1 3 q.1)),(1,some (flat cT q.1.slots)),(3,some (flat cI q.1.read))]):=by
 have hg := eQ p hl hs
 rw [if_pos hv] at hg
 have w := WG.of_valid hv
 have wa := WA.of_valid hv
 have hru := MJ p.types p.body (aC p) cs n w wa (by omega) hcl
 have htl := w.tl
 have hpl := w.pl
 have hL := CL w wa n 0 cs w.p0
 have hLl := rS (pts := aC p) n 0 cs
 unfold jE at hqq
 unfold wm at hru
 obtain ⟨L,hLe⟩ : ∃ L,L = (gF (aC p) n 0 cs).1 := ⟨_,rfl⟩
 obtain ⟨dn,hdn⟩ : ∃ dn,dn = (gF (aC p) n 0 cs).2 := ⟨_,rfl⟩
 rw [← hLe,← hdn] at hru
 rw [← hLe] at hqq hL hLl
 have hgx : ∀ i,i < L.length → (L.map (fun a : Nat => (a : Int)))[i]! = (L[i]! : Int) := fun i h => by rw [aS _ _ (by rw [List.length_map]; exact h),List.getElem_map,aS _ _ h]
 have hml : (L.map (fun a : Nat => (a : Int))).length = L.length := List.length_map _
 generalize (L.map (fun a : Nat => (a : Int))) = LI at *
 generalize hP : aC p = pts at *
 refine aX Tryz.func69 Tryz.ntmps69 ?_
 repeat' (first|(apply aF;first|(apply aA (k := 72);rfl;exact hg;exact Pur.pf;rfl)|(with_reducible apply aW (d := 40))|(apply aA (k := 54);rfl;(apply c9);(rfl);rfl))|refine aE ?_|(refine aJ ?_ ?_ <;> intro hc hq <;> try (exfalso;omega))|fail)
 refine bU ?_
 rw [show (List.replicate p.types.length ([Value.bool false,Value.int .i64 0,Value.int .i64 0,Value.int .i64 0].map AV.v)).flatten = flat cT (List.replicate p.types.length mL) from uD rfl]
 apply oO
 case hl => rfl
 case hf => exact (rfl:_=some [_,_,AV.v (.slice none 0 0),AV.v (.slice none 0 0)])
 case hN => rfl
 repeat' (first|(apply aF;(with_reducible apply aW (d := 43)))|refine aE ?_|fail)
 refine bU (cX ?_ (Le.nilMid (i := 2) [_,_] rfl))
 refine cX ?_ (Le.nilCell (i := 2) 1 [_,_,_] rfl (by decide) (by decide))
 repeat' (first|(apply aF;(apply aA (k := 139);rfl;exact hru;exact Pur.pf;rfl))|refine aE ?_|fail)
 refine aH (σ := Nat × Mc × Nat) [9,11,49,50] [] (fun k => [(51,iv (k.1 : Int)),(14,iv (k.2.2 : Int))]) (fun k => [(2,some (mO p.types p.body pts 1 3 k.2.1)),(1,some (flat cT k.2.1.slots)),(3,some (flat cI k.2.1.read))]) (fun k => k.1 ≤ L.length ∧ nB p.types pts (L.drop k.1) k.2.1 k.2.2 = q ∧ OkS p.types.length k.2.1 ∧ k.2.1.read.length ≤ k.1) (fun k => L.length - k.1) (0,mc0 p.types.length,0) ⟨Nat.zero_le _,hqq.symm,OkS.mc0 _,Nat.le_refl _⟩ ?_
 rintro ⟨i,s,last⟩ ⟨hi,hf,hok,hrd⟩
 dsimp only at hi hf hok hrd ⊢
 by_cases hiL : i < L.length
 ·have hap := hL L[i]! (aN _ _ hiL)
  have hop := w.op L[i]! hap
  have hwx := w.x L[i]! hap
  have hwy := w.y L[i]! hap
  have hA := wa.a L[i]! hap
  have hg2 := hgx i hiL
  have hdr : L.drop i = L[i]! :: L.drop (i + 1) := by rw [List.drop_eq_getElem_cons hiL,aS _ _ hiL]
  rw [hdr,Mp] at hf
  have hpt : PtN pts[L[i]!]! := ⟨fun h => hA.n (.inr h)⟩
  have hdo := N0 (ts := p.types) hok hpt
  have hdr2 := JH (ts := p.types) (s := s) (x := pts[L[i]!]!)
  by_cases h6 : pts[L[i]!]!.op = 6 ∧ a7 s.cells s.slots[(pts[L[i]!]!).y.toNat]!.ptr false = 0 ∧ cG p.types s pts[L[i]!]! = false
  ·have hm6 := M8 p.types p.body pts s pts[L[i]!]! htl hok.m hok.l h6.1 (by omega) (by omega) (by omega) h6.2.1 h6.2.2
   repeat' (first|(apply aF;(with_reducible apply aW (d := 16)))|refine aE ?_|(refine aJ ?_ ?_ <;> intro hc hq <;> try (exfalso;omega))|fail)
   refine bU ?_
   rw [hg2]
   repeat' (first|(apply aF;(apply Kq (ts := p.types) (bd := p.body) (pts := pts) (s := s) (x := pts[L[i]!]!);rfl;rfl;rfl;rfl;rfl;rfl;exact hm6;rfl;rfl))|refine aE ?_|(refine aJ ?_ ?_ <;> intro hc hq <;> try (exfalso;omega))|fail)
   ·exfalso
    have h9 : ¬ (dH p.types s pts[L[i]!]!).2 = -1 := by assumption
    exact h9 (OU h6.1 h6.2.1 h6.2.2 (hA.t6 h6.1).1)
   ·(refine bC (i + 1, (dH p.types s pts[L[i]!]!).1, L[i]!) (Le.renA [(1, 1), (2, 2), (3, 6)]) ?_ ?_)
    ·refine ⟨by dsimp only; omega, ?_, hdo, by dsimp only; omega⟩
     dsimp only
     rw [if_pos (by assumption)] at hf
     exact hf
    ·dsimp only;omega
  ·have hmd := Oj p.types p.body pts s pts[L[i]!]! htl hok.m hok.l hop (by omega) (fun h => by omega) (fun h h2 => by omega) (fun h => hA.n (.inr h)) h6
   repeat' (first|(apply aF;(with_reducible apply aW (d := 16)))|refine aE ?_|(refine aJ ?_ ?_ <;> intro hc hq <;> try (exfalso;omega))|fail)
   refine bU ?_
   rw [hg2]
   repeat' (first|(apply aF;(apply L7 (ts := p.types) (bd := p.body) (pts := pts) (s := s) (x := pts[L[i]!]!);rfl;rfl;rfl;rfl;rfl;rfl;exact hmd;rfl;rfl))|refine aE ?_|(refine aJ ?_ ?_ <;> intro hc hq <;> try (exfalso;omega))|fail)
   ·have h9 : ¬ (dH p.types s pts[L[i]!]!).2 = -1 := by assumption
    rw [if_neg h9] at hf
    rw [← hf]
    (refine aD rfl ?_; refine aT () trivial ?_ ⟨sE ?_,⟨sE ?_,⟨sE ?_,trivial⟩⟩⟩)
    ·rfl
    ·rfl
    ·rfl
    ·rfl
   ·(refine bC (i + 1, (dH p.types s pts[L[i]!]!).1, L[i]!) (Le.renA [(1, 1), (2, 2), (3, 3)]) ?_ ?_)
    ·refine ⟨by dsimp only; omega, ?_, hdo, by dsimp only; omega⟩
     dsimp only
     rw [if_pos (by assumption)] at hf
     exact hf
    ·dsimp only;omega
 ·repeat' (first | refine aE ?_ | (refine aJ ?_ ?_ <;> intro hc hq <;> try (exfalso; omega))|fail)
  have hie : i = L.length := by omega
  have hq2 : q = (s,1,last) := by rw [← hf,hie,List.drop_length]; rfl
  rw [hq2]
  (refine aD rfl ?_; refine aT () trivial ?_ ⟨sE ?_,⟨sE ?_,⟨sE ?_,trivial⟩⟩⟩)
  ·rfl
  ·rfl
  ·rfl
  ·rfl
theorem Hp {p:Prg}{cs:List Int}{n:Int}{q:Mc × Int × Nat}{x0 x1 x2:Operand}(ha0:ev (lk tsl) x0 = some (bQ p)) (ha1:ev (lk tsl) x1 = some (sl cI cs)) (ha2:ev (lk tsl) x2 = some (iv n)) (hmc:MC Tryz.prog 69 [bQ p,sl cI cs,iv n] [] 0 (fun _:Unit => True) (fun _ => .tup [.optr 2 0,iv q.2.1,iv (q.2.2:Int)]) (fun _ => [(2,some (mO p.types p.body (aC p) 1 3 q.1)),(1,some (flat cT q.1.slots)),(3,some (flat cI q.1.read))])) (hM:Nat.ble (nidl + 4) aV = true) (hN:Nat.blt d N = true){md':Md}[hmd:MdA md (fU [x0,x1,x2] ++ []) (List.map Sum.inr (List.map Prod.fst ([((nidl + 2),some (mO p.types p.body (aC p) (nidl + 1) (nidl + 3) q.1)),((nidl + 1),some (flat cT q.1.slots)),((nidl + 3),some (flat cI q.1.read))]:List (Nat × Option (List AV)))) ++ [.inl d]) md'] (kk:RW Tryz.prog N all Q md' rest ⟨(d,.tup [.optr (nidl + 2) 0,iv q.2.1,iv (q.2.2:Int)]) :: tsl,hO hsl [((nidl + 2),some (mO p.types p.body (aC p) (nidl + 1) (nidl + 3) q.1)),((nidl + 1),some (flat cT q.1.slots)),((nidl + 3),some (flat cI q.1.read))],nidl + 4,z0⟩):RW Tryz.prog N all Q md (⟨some d,.call ⟨.value (.func 69),#[x0,x1,x2],tys⟩,ty,pos,af,none⟩ :: rest) ⟨tsl,hsl,nidl,z0⟩:=by
 exact aZ (l := [x0,x1,x2]) [] 4 [((nidl + 2),some (mO p.types p.body (aC p) (nidl + 1) (nidl + 3) q.1)),((nidl + 1),some (flat cT q.1.slots)),((nidl + 3),some (flat cI q.1.read))] hmc (avs := [bQ p,sl cI cs,iv n]) (by simp only [evL,ha0,ha1,ha2]) rfl hM hN (md' := md') (hmd := hmd) kk
theorem uL (p:Prg) (cs:List Int) (most:Int) (hl:p.types.length ≤ 1048576) (hs:aU p.body ≤ 1048576) (hcl:cs.length ≤ 1048576):PC Tryz.prog 35 [bQ p,sl cI cs,iv most] (fun r => r = .tup (if DY p most = true then [iv (jE p.types (aC p) cs most.toNat).2.1,iv (jE p.types (aC p) cs most.toNat).2.2] else [iv 5,iv 0])):=by
 by_cases h : DY p most = true
 ·have h' := h
  unfold DY at h'
  simp only [Bool.and_eq_true,decide_eq_true_eq] at h'
  obtain ⟨hv,h0,h1⟩ := h'
  have hru := Nl p cs most.toNat _ rfl hv hl hs (by omega) hcl
  have hok := MV (cs := cs) (n := most.toNat) hv
  have hrl := B9 (ts := p.types) (pts := aC p) (cs := cs) (n := most.toNat) (by omega)
  have htl := (WG.of_valid hv).tl
  rw [Int.toNat_of_nonneg h0] at hru
  rw [if_pos h]
  have hon := Int.toNat_of_nonneg h0
  have hm := hok.m
  have hml := hm.l
  have hsl := hok.l
  generalize jE p.types (aC p) cs most.toNat = q at *
  refine aB Tryz.func35 Tryz.ntmps35 ?_
  repeat' (first|(apply aF;(apply Hp (p := p) (cs := cs) (n := most) (q := q);rfl;rfl;rfl;exact hru;rfl;rfl))|refine aE ?_|fail)
  exact aD (l := [iv q.2.1,iv q.2.2]) rfl ⟨rfl,rfl⟩
 ·rw [if_neg h]
  have h2 : DY p most = false := by simpa using h
  refine aB Tryz.func35 Tryz.ntmps35 ?_
  repeat' (first|(apply aF;(apply Kx (p := p) (cs := cs) (n := most);rfl;rfl;rfl;exact Np p cs most hl hs h2;rfl;rfl))|refine aE ?_|fail)
  exact aD (l := [iv 5,iv 0]) rfl ⟨rfl,rfl⟩
def N7 (p : Prg) (cs : List Int) (n : Int) : Int := if DY p n = true then (jE p.types (aC p) cs n.toNat).2.1 else 5
def Oz (p : Prg) (cs : List Int) (n : Int) : Int := if DY p n = true then ((jE p.types (aC p) cs n.toNat).2.2 : Int) else 0
theorem ME (p:Prg) (cs:List Int) (n:Int) (hl:p.types.length ≤ 1048576) (hs:aU p.body ≤ 1048576) (hcl:cs.length ≤ 1048576):PC Tryz.prog 35 [bQ p,sl cI cs,iv n] (fun r => r = .tup [iv (N7 p cs n),iv (Oz p cs n)]):=by
 have h := uL p cs n hl hs hcl
 unfold N7 Oz
 split
 ·rename_i h2;rw [if_pos h2] at h;exact h
 ·rename_i h2;rw [if_neg h2] at h;exact h
theorem Mz (p:Prg) (cs:List Int) (n:Int) (hl:p.types.length ≤ 1048576) (hs:aU p.body ≤ 1048576) (hcl:cs.length ≤ 1048576):PC Tryz.prog 84 [bQ p,sl cI cs,iv n] (fun r => r = .tup [iv (N7 p cs n),iv (Oz p cs n)]):=by
 have h := uS p cs n hl hs hcl
 unfold N7 Oz
 split
 ·rename_i h2;rw [if_pos h2] at h;exact h
 ·rename_i h2;rw [if_neg h2] at h;exact h
def OV (pts : List Pnt) (W : List Nat) (i : Nat) : List Int := if pts[W[i]!]!.next.length = 2 then [if pts[W[i]!]!.next[0]! = (W[i + 1]! : Int) then 0 else 1] else []
def Db (pts : List Pnt) (W : List Nat) (k : Nat) : List Int := (List.range k).flatMap (OV pts W)
theorem HM {pts:List Pnt}{W:List Nat}{k:Nat}(h:pts[W[k]!]!.next.length = 2):Db pts W (k + 1) = Db pts W k ++ [if pts[W[k]!]!.next[0]! = (W[k + 1]!:Int) then 0 else 1]:=by
 unfold Db;rw [List.range_succ,List.flatMap_append]; simp only [List.flatMap_cons,List.flatMap_nil,List.append_nil]; unfold OV;rw [if_pos h]
theorem HX {pts:List Pnt}{W:List Nat}{k:Nat}(h:¬ pts[W[k]!]!.next.length = 2):Db pts W (k + 1) = Db pts W k:=by
 unfold Db;rw [List.range_succ,List.flatMap_append]; simp only [List.flatMap_cons,List.flatMap_nil,List.append_nil]; unfold OV;rw [if_neg h,List.append_nil]
theorem rJ {pts:List Pnt}{W:List Nat}:∀ k,(Db pts W k).length ≤ k
 | 0 => by simp [Db]
 | k + 1 => by
  have := rJ (pts := pts) (W := W) k
  by_cases h : pts[W[k]!]!.next.length = 2
  ·rw [HM h,List.length_append]; simp;exact this
  ·rw [HX h]; omega
structure Wok (pts : List Pnt) (W : List Nat) : Prop where
 c : Chn pts W
 z : ∃ T,W = 0 :: T
 l : W.length ≤ 1000
theorem Dy {W:List Nat}{i:Nat}(h:i < W.length):(dS W)[i]! = (W[i]!:Int):=by
 unfold dS;rw [aS _ _ (by simpa using h),List.getElem_map,aS _ _ h]
theorem KJ (L:List Int) (n:Int) (hl:L.length ≤ 1048576):PC Tryz.prog 152 [sl cI L,iv n] (fun r => r = bv (decide (n ∈ L))):=by
 refine aB Tryz.func152 Tryz.ntmps152 ?_
 repeat' (first|refine aE ?_|fail)
 refine aH (σ := Nat) [0,1] [] (fun k => [(5,iv (k : Int))]) (fun k => []) (fun k => k ≤ L.length ∧ ∀ j,j < k → L[j]! ≠ n) (fun k => L.length - k) (0) ⟨by omega,by omega⟩ ?_
 rintro k ⟨hk,hall⟩
 repeat' (first|refine aE ?_|(refine aJ ?_ ?_ <;> intro hc hq <;> try (exfalso;omega))|fail)
 ·refine aD rfl ⟨?_, rfl⟩
  simp only [aM]
  rw [decide_eq_true (by have h := aN L k (by omega);rw [hq] at h;exact h)]
 ·(refine bC (k + 1) (Le.renA []) ?_ ?_)
  ·exact ⟨by omega, fun j hj => by
    by_cases e : j = k
    ·subst e;exact hq
    ·exact hall j (by omega)⟩
  ·omega
 ·refine aD rfl ⟨?_, rfl⟩
  simp only [aM]
  rw [decide_eq_false (fun h => by
   obtain ⟨j,hj,e⟩ := List.getElem_of_mem h
   exact hall j (by omega) (by rw [aS _ _ hj]; exact e))]
theorem Wok.at {ts:List Int}{pts:List Pnt}{W:List Nat}(w:WG ts pts) (h:Wok pts W){i:Nat}(hi:i + 1 < W.length):W[i]! < pts.length ∧ (dS W)[i]! = (W[i]!:Int) ∧ (dS W)[i + 1]! = (W[i + 1]!:Int) ∧ (W[i + 1]!:Int) ∈ pts[W[i]!]!.next ∧ pts[W[i]!]!.next.length ≤ 2:=by
 have he := Chn.at W i h.c hi
 exact ⟨he.1,Dy (by omega),Dy hi,he.2,w.nl _ he.1⟩
theorem No (p:Prg) (W:List Nat) (hW:Wok (aC p) W) (hv:bK p = true) (hl:p.types.length ≤ 1048576) (hs:aU p.body ≤ 1048576):PC Tryz.prog 34 [bQ p,sl cI (dS W)] (fun r => r = .tup [sl cI (Db (aC p) W (W.length - 1)),bv true]):=by
 have w := WG.of_valid hv
 have hpl := w.pl
 have hg := eQ p hl hs
 rw [if_pos hv] at hg
 have hWl := hW.l
 obtain ⟨T,hT⟩ := hW.z
 have hcl : (dS W).length = W.length := cQ _
 have h0 : (dS W)[0]! = 0 := by rw [hT]; rfl
 have hlen : 0 < W.length := by rw [hT]; simp
 have hbn : (if (0 : Int) ≤ ((dS W).length : Int) - 1 then some (((dS W).length : Int) - 1).toNat else none) = some (W.length - 1) := by
  rw [if_pos (by omega)]; congr 1;omega
 have hbb : 0 ≤ W.length - 1 ∧ W.length - 1 ≤ (dS W).length := ⟨Nat.zero_le _,by omega⟩
 have hV : (((dS W).drop 0).take (W.length - 1 - 0)).length = W.length - 1 := by rw [List.length_take,List.length_drop]; omega
 have hVg : ∀ k, k < W.length - 1 → (((dS W).drop 0).take (W.length - 1 - 0))[k]! = (dS W)[k]! := fun k hk => by
  rw [List.drop_zero,Nat.sub_zero,aS _ _ (by rw [List.length_take]; omega),aS _ _ (by omega),List.getElem_take]
 generalize hVe : ((dS W).drop 0).take (W.length - 1 - 0) = V at *
 refine aB Tryz.func34 Tryz.ntmps34 ?_
 repeat' (first|(apply aF;first|(apply aA (k := 72);rfl;exact hg;exact Pur.pf;rfl)|(apply vZ (l := 0) (h := W.length - 1);rfl;infer_instance;rfl;exact hbn;exact hbb;rfl);rw [hVe])|refine aE ?_|(refine aJ ?_ ?_ <;> intro hc hq <;> try (exfalso;omega))|(refine bO ?_ ?_ <;> intro hg hq <;> try (exfalso;omega))|fail)
 ·exfalso;exact (by assumption : ¬ (dS W)[Int.toNat 0]! = 0) h0
 refine AW.le ?_ (Le.nilOwn (d := 8) 1 rfl (by decide))
 refine aH (σ := Nat × List Int × Nat) [1,6,35,36] [0] (fun k => [(37,iv (k.1 : Int)),(8,.own 1 0 k.2.2 1)]) (fun k => [(1,some (flat cI k.2.1))]) (fun k => k.1 ≤ W.length - 1 ∧ k.2.1 = Db (aC p) W k.1 ∧ k.2.2 = k.2.1.length) (fun k => W.length - 1 - k.1) (0,[],0) ⟨Nat.zero_le _,rfl,rfl⟩ ?_
 rintro ⟨k,xs,m⟩ ⟨hk,hxs,hm⟩
 dsimp only at hk hxs hm
 try dsimp only
 have hxl := rJ (pts := aC p) (W := W) k
 rw [← hxs] at hxl
 by_cases hkn : k < W.length - 1
 ·obtain ⟨a1, a2, a3, a4, a5⟩ := hW.at w (i := k) (by omega)
  have hVk : V[((k : Nat) : Int).toNat]! = (W[k]! : Int) := (hVg k hkn).trans a2
  have hct := nZ (aC p)[W[k]!]!.next (W[k + 1]! : Int) (by omega)
  rw [decide_eq_true a4] at hct
  have hw2 := HM (pts := aC p) (W := W) (k := k)
  have hw1 := HX (pts := aC p) (W := W) (k := k)
  rw [← hxs] at hw2 hw1
  generalize W[k]! = a at *
  generalize W[k + 1]! = b at *
  repeat' (first|(apply aF;(with_reducible apply aW (d := 42)))|refine aE ?_|(refine aJ ?_ ?_ <;> intro hc hq <;> try (exfalso;omega))|fail)
  refine bU ?_
  first|rw [hVk]|rw [show V[k]! = (a : Int) from hVk]
  have hch := uA (aC p)[a]! (by omega)
  have a3' : (dS W)[((k : Int) + 1).toNat]! = (b : Int) := a3
  repeat' (first|(apply aF;first|(apply aA (k := 91);rfl;exact hch;exact Pur.pf;rfl)|(apply aL (t := _);rfl;rfl;rfl;exact (rfl:_=some [_]);rfl;rfl)|(apply aA (k := 56);rfl;(apply nZ <;> (omega));exact Pur.pf;rfl))|refine aE ?_|(refine aJ ?_ ?_ <;> intro hc hq <;> try (exfalso;omega))|refine bI ?_|fail)
  ·exfalso
   exact (by assumption : ¬ (dS W)[((k : Int) + 1).toNat]! ∈ (aC p)[a]!.next) (by rw [a3']; exact a4)
  all_goals try simp only [a3'] at *
  ·have e1 := hw2 (by assumption)
   have e0 : (aC p)[a]!.next[0]! = (b : Int) := Eq.symm (by assumption)
   rw [if_pos e0] at e1
   (refine bC (k + 1,_,m + 1) (Le.renA [(0,0),(1,4)]) ?_ ?_)
   ·exact ⟨by dsimp only;omega,e1.symm,by simp [hm]⟩
   ·dsimp only;omega
  ·have e1 := hw2 (by assumption)
   have e0 : ¬ (aC p)[a]!.next[0]! = (b : Int) := fun q => (by assumption : ¬ (b : Int) = (aC p)[a]!.next[Int.toNat 0]!) q.symm
   rw [if_neg e0] at e1
   (refine bC (k + 1,_,m + 1) (Le.renA [(0,0),(1,4)]) ?_ ?_)
   ·exact ⟨by dsimp only;omega,e1.symm,by simp [hm]⟩
   ·dsimp only;omega
  ·have e1 := hw1 (by assumption)
   (refine bC (k + 1,xs,m) (Le.renA [(0,0),(1,1)]) ?_ ?_)
   ·exact ⟨by dsimp only;omega,e1.symm,hm⟩
   ·dsimp only;omega
 ·obtain rfl : k = W.length - 1 := by omega
  repeat' (first|refine aE ?_|(refine aJ ?_ ?_ <;> intro hc hq <;> try (exfalso;omega))|fail)
  refine aR (Le.frzD (d := 4) (i := 1) rfl rfl) ?_
  refine aD (l := [_,bv true]) rfl ⟨?_,(by exact Pur.pf)⟩
  subst hm;rw [hxs]; rfl
theorem Nv (p:Prg) (W:List Nat) (hW:Wok (aC p) W) (hv:bK p = true) (hl:p.types.length ≤ 1048576) (hs:aU p.body ≤ 1048576):PC Tryz.prog 83 [bQ p,sl cI (dS W)] (fun r => r = .tup [sl cI (Db (aC p) W (W.length - 1)),bv true]):=by
 have w := WG.of_valid hv
 have hpl := w.pl
 have hp0 := w.p0
 have hg := qC p hl hs
 rw [if_pos hv] at hg
 have hWl := hW.l
 obtain ⟨T,hT⟩ := hW.z
 have hcl : (dS W).length = W.length := cQ _
 have h0 : (dS W)[0]! = 0 := by rw [hT]; rfl
 have hlen : 0 < W.length := by rw [hT]; simp
 refine aB Tryz.func83 Tryz.ntmps83 ?_
 repeat' (first|(apply aF;(apply aA (k := 151);rfl;exact hg;exact Pur.pf;rfl))|refine aE ?_|(refine aJ ?_ ?_ <;> intro hc hq <;> try (exfalso;omega))|(refine bO ?_ ?_ <;> intro hg hq <;> try (exfalso;omega))|fail)
 ·exfalso;exact (by assumption : ¬ (dS W)[Int.toNat 0]! = 0) h0
 refine aH (σ := Nat × List Int × Nat) [1,7] [0] (fun s => [(8,iv (s.1 : Int)),(6,.own 1 0 s.2.2 1)]) (fun s => [(1,some (flat cI s.2.1))]) (fun s => 1 ≤ s.1 ∧ s.1 ≤ W.length ∧ s.2.1 = Db (aC p) W (s.1 - 1) ∧ s.2.2 = s.2.1.length) (fun s => W.length - s.1) (1,[],0) ⟨Nat.le_refl _,hlen,rfl,rfl⟩ ?_
 rintro ⟨i,xs,m⟩ ⟨hi1,hi2,hxs,hm⟩
 dsimp only at hi1 hi2 hxs hm
 try dsimp only
 have hxl := rJ (pts := aC p) (W := W) (i - 1)
 rw [← hxs] at hxl
 by_cases hin : i < W.length
 ·obtain ⟨k, rfl⟩ : ∃ k, i = k + 1 := ⟨i - 1, by omega⟩
  rw [Nat.add_sub_cancel] at hxs hxl
  obtain ⟨a1,a2,a3,a4,a5⟩ := hW.at w hin
  have hw2 := HM (pts := aC p) (W := W) (k := k)
  have hw1 := HX (pts := aC p) (W := W) (k := k)
  rw [← hxs] at hw2 hw1
  generalize W[k]! = a at *
  generalize W[k + 1]! = b at *
  have hA : (dS W)[(((k + 1 : Nat) : Int) - 1).toNat]! = (a : Int) := by
   rw [show (((k + 1 : Nat) : Int) - 1).toNat = k by omega]; exact a2
  have hB : (dS W)[((k + 1 : Nat) : Int).toNat]! = (b : Int) := a3
  have hA0 : 0 ≤ (dS W)[(((k + 1 : Nat) : Int) - 1).toNat]! := by omega
  have hA1 : (dS W)[(((k + 1 : Nat) : Int) - 1).toNat]! < ((aC p).length : Int) := by omega
  have hA2 : (aC p)[((dS W)[(((k + 1 : Nat) : Int) - 1).toNat]!).toNat]!.next.length ≤ 2 := by rw [hA,Int.toNat_natCast]; exact a5
  have hct := fun z => KJ (aC p)[((dS W)[(((k + 1 : Nat) : Int) - 1).toNat]!).toNat]!.next z (by omega)
  have hAA : (aC p)[((dS W)[(((k + 1 : Nat) : Int) - 1).toNat]!).toNat]!.next = (aC p)[a]!.next := by rw [hA,Int.toNat_natCast]
  repeat' (first|(apply aF;first|(apply aA (k := 152);rfl;exact hct _;exact Pur.pf;rfl)|(apply aL (t := _);rfl;rfl;rfl;(first|exact (rfl:_=some [_])|rfl);rfl;rfl))|refine aE ?_|(refine aJ ?_ ?_ <;> intro hc hq <;> try (exfalso;omega))|refine bI ?_|fail)
  ·exfalso
   have q := (by assumption : ¬ (dS W)[k + 1]! ∈ (aC p)[((dS W)[(((k + 1 : Nat) : Int) - 1).toNat]!).toNat]!.next)
   rw [a3,hAA] at q;exact q a4
  ·have e2 := (by assumption : ((aC p)[((dS W)[(((k + 1 : Nat) : Int) - 1).toNat]!).toNat]!.next.length : Int) = 2)
   have e0 := (by assumption : ¬ (aC p)[((dS W)[(((k + 1 : Nat) : Int) - 1).toNat]!).toNat]!.next[Int.toNat 0]! = (dS W)[k + 1]!)
   rw [a3,hAA] at e0
   rw [hAA] at e2
   have e1 := hw2 (by omega)
   rw [if_neg (show ¬ (aC p)[a]!.next[0]! = (b : Int) from e0)] at e1
   (refine bC (k + 1 + 1,_,m + 1) (Le.renA [(0,0),(1,3)]) ?_ ?_)
   ·exact ⟨by dsimp only;omega,by dsimp only;omega,e1.symm,by simp [hm]⟩
   ·dsimp only;omega
  ·have e2 := (by assumption : ((aC p)[((dS W)[(((k + 1 : Nat) : Int) - 1).toNat]!).toNat]!.next.length : Int) = 2)
   have e0 := (by assumption : (aC p)[((dS W)[(((k + 1 : Nat) : Int) - 1).toNat]!).toNat]!.next[Int.toNat 0]! = (dS W)[k + 1]!)
   rw [a3,hAA] at e0
   rw [hAA] at e2
   have e1 := hw2 (by omega)
   rw [if_pos (show (aC p)[a]!.next[0]! = (b : Int) from e0)] at e1
   (refine bC (k + 1 + 1,_,m + 1) (Le.renA [(0,0),(1,3)]) ?_ ?_)
   ·exact ⟨by dsimp only;omega,by dsimp only;omega,e1.symm,by simp [hm]⟩
   ·dsimp only;omega
  ·have e2 := (by assumption : ¬ ((aC p)[((dS W)[(((k + 1 : Nat) : Int) - 1).toNat]!).toNat]!.next.length : Int) = 2)
   rw [hAA] at e2
   have e1 := hw1 (by omega)
   (refine bC (k + 1 + 1,xs,m) (Le.renA [(0,0),(1,1)]) ?_ ?_)
   ·exact ⟨by dsimp only;omega,by dsimp only;omega,e1.symm,hm⟩
   ·dsimp only;omega
 ·obtain rfl : i = W.length := by omega
  repeat' (first|refine aE ?_|(refine aJ ?_ ?_ <;> intro hc hq <;> try (exfalso;omega))|fail)
  refine aR (Le.frzD (d := 4) (i := 1) rfl rfl) ?_
  refine aD (l := [_,bv true]) rfl ⟨?_,(by exact Pur.pf)⟩
  subst hm;rw [hxs]; rfl
theorem Jn (p:Prg) (x:Iss) (hl:p.types.length ≤ 1048576) (hs:aU p.body ≤ 1048576):∃ (way:List Int) (ok:Bool),
  PC Tryz.prog 33 [bQ p,fV x] (fun r => r = .tup [sl cI way,bv ok]) ∧ PC Tryz.prog 82 [bQ p,fV x] (fun r => r = .tup [sl cI way,bv ok]) ∧
  (ok = true → bK p = true ∧ ∃ W,way = dS W ∧ Wok (aC p) W) := by
 cases hv : bK p
 ·exact ⟨[],false,J5 p x hv hl hs,DA p [] x (Fs p hv hl hs) (by simp) (by simp),fun h => Bool.noConfusion h⟩
 ·have w := WG.of_valid hv
  obtain ⟨f⟩ := Flows.ex w
  have e : L9 p f = f.iss := if_pos hv
  have hC := Ij p f hl hs
  rw [e] at hC
  have hLl : f.iss.length ≤ 1048576 := Nat.le_trans (kJ w f) (by decide)
  by_cases hx : x ∈ f.iss
  ·obtain ⟨j, hj, hje⟩ := List.getElem_of_mem hx
   have hok := (Mf w f).1 j hj
   rw [aS _ _ hj,hje] at hok
   obtain ⟨pt,k,wi⟩ := x
   obtain ⟨a,rfl⟩ := Int.eq_ofNat_of_zero_le hok.p0
   have ha : a < (aC p).length := by have := hok.p1;dsimp only at this;omega
   have hpl := w.pl
   by_cases hk : k = 1
   ·refine ⟨_, true, KU p f a k wi hk ha hv hx hl hs, KF p f.iss a k wi hC hLl hk ha hv hx hs, fun _ => ⟨rfl, wG (aC p) a, rfl, (DW w.nx (Rch.of p) ha).1, zN w.nx (Rch.of p) ha, ?_⟩⟩
    have := rV w.nx w.p0 a;omega
   ·have hwi : 0 ≤ wi ∧ wi < (aC p).length := by
     rcases hok.k with h|h
     ·exact absurd h.1 hk
     ·exact h.2
    obtain ⟨l,rfl⟩ := Int.eq_ofNat_of_zero_le hwi.1
    have hll : l < (aC p).length := by omega
    rcases oR (dP (aC p) a) (dR p.types (aC p) f.Af l) (aC p).length with ⟨hu,_⟩ | ⟨u,hun,hu,_,_,h3⟩
    ·exact ⟨[],false,JD p f a l k hk ha hll hv hx hl hs (by omega),Jg p f f.iss a l k hC hLl hk ha hll hv hx hl hs (by omega),fun h => Bool.noConfusion h⟩
    ·by_cases h2 : Wy (aC p) l a
     ·have h2' := (iM w.nx hll).2 h2
      refine ⟨_,true,K7 p f a l k hk ha hll hv hx hl hs u hu hun h2' h3,J6 p f f.iss a l k hC hLl hk ha hll hv hx hl hs u hu hun h2' h3,fun _ => ⟨rfl,wG (aC p) l ++ (dP (aC p) l a).drop 1 ++ (dP (aC p) a u).drop 1,?_,GS w.nx (Rch.of p) ha hll h2' h3,?_,?_⟩⟩
      ·unfold dS;simp only [List.map_append,List.map_drop]
      ·obtain ⟨T, hT⟩ := zN w.nx (Rch.of p) hll
       rw [hT]; exact ⟨_,rfl⟩
      ·have h4 := rV w.nx w.p0 l
       have h5 := gO (x := a) w.nx hll
       have h6 := gO (x := u) w.nx ha
       simp only [List.length_append,List.length_drop]; omega
     ·exact ⟨[],false,Kw p f a l k hk ha hll hv hx hl hs u hu hun h2,Jh p f f.iss a l k hC hLl hk ha hll hv hx hl hs u hu h2,fun h => Bool.noConfusion h⟩
  ·exact ⟨[],false,Lc p f x hv hx hl hs,DA p f.iss x hC hLl hx,fun h => Bool.noConfusion h⟩
theorem GB (p:Prg) (x:Iss) (way:List Int) (h:PC Tryz.prog 33 [bQ p,fV x] (fun r => r = .tup [sl cI way,bv false])):PC Tryz.prog 31 [bQ p,fV x] (fun r => r = bv false):=by
 refine aB Tryz.func31 Tryz.ntmps31 ?_
 repeat' (first|(apply aF;(apply aA (k := 33);rfl;exact h;exact Pur.pf;rfl))|refine aE ?_|fail)
 exact aD rfl ⟨rfl,rfl⟩
theorem Hr (p:Prg) (x:Iss) (way cs:List Int) (e a:Int) (h:PC Tryz.prog 33 [bQ p,fV x] (fun r => r = .tup [sl cI way,bv true])) (h2:PC Tryz.prog 34 [bQ p,sl cI way] (fun r => r = .tup [sl cI cs,bv true])) (h3:PC Tryz.prog 35 [bQ p,sl cI cs,iv 150] (fun r => r = .tup [iv e,iv a])) :
  PC Tryz.prog 31 [bQ p,fV x] (fun r => r = bv (decide (e ≠ 0) && decide (e ≠ 1))) := by
 refine aB Tryz.func31 Tryz.ntmps31 ?_
 repeat' (first|(apply aF;first|(apply aA (k := 33);rfl;exact h;exact Pur.pf;rfl)|(apply aA (k := 34);rfl;exact h2;exact Pur.pf;rfl)|(apply aA (k := 35);rfl;exact h3;exact Pur.pf;rfl))|refine aE ?_|(refine bO ?_ ?_ <;> intro hg hq <;> try (exfalso;omega))|fail)
 all_goals (refine aD rfl ⟨?_,rfl⟩; simp only [aM]; simp_all)
theorem HP (p:Prg) (x:Iss) (way:List Int) (h:PC Tryz.prog 82 [bQ p,fV x] (fun r => r = .tup [sl cI way,bv false])):PC Tryz.prog 32 [bQ p,fV x] (fun r => r = bv false):=by
 refine aB Tryz.func32 Tryz.ntmps32 ?_
 repeat' (first|(apply aF;(apply aA (k := 82);rfl;exact h;exact Pur.pf;rfl))|refine aE ?_|fail)
 exact aD rfl ⟨rfl,rfl⟩
theorem IB (p:Prg) (x:Iss) (way cs:List Int) (e a:Int) (h:PC Tryz.prog 82 [bQ p,fV x] (fun r => r = .tup [sl cI way,bv true])) (h2:PC Tryz.prog 83 [bQ p,sl cI way] (fun r => r = .tup [sl cI cs,bv true])) (h3:PC Tryz.prog 84 [bQ p,sl cI cs,iv 150] (fun r => r = .tup [iv e,iv a])) :
  PC Tryz.prog 32 [bQ p,fV x] (fun r => r = bv (decide (e ≠ 0) && decide (e ≠ 1))) := by
 refine aB Tryz.func32 Tryz.ntmps32 ?_
 repeat' (first|(apply aF;first|(apply aA (k := 82);rfl;exact h;exact Pur.pf;rfl)|(apply aA (k := 83);rfl;exact h2;exact Pur.pf;rfl)|(apply aA (k := 84);rfl;exact h3;exact Pur.pf;rfl))|refine aE ?_|(refine bO ?_ ?_ <;> intro hg hq <;> try (exfalso;omega))|fail)
 all_goals (refine aD rfl ⟨?_,rfl⟩; simp only [aM]; simp_all)
theorem Gp (p:Prg) (x:Iss) (hl:p.types.length ≤ 1048576) (hs:aU p.body ≤ 1048576):∃ (way:List Int) (ok:Bool) (cs:List Int) (e a:Int),PC Tryz.prog 33 [bQ p,fV x] (fun r => r = .tup [sl cI way,bv ok]) ∧
  (ok = true → PC Tryz.prog 34 [bQ p,sl cI way] (fun r => r = .tup [sl cI cs,bv true]) ∧ PC Tryz.prog 35 [bQ p,sl cI cs,iv 150] (fun r => r = .tup [iv e,iv a]) ∧ bK p = true ∧ e = N7 p cs 150) ∧
  PC Tryz.prog 31 [bQ p,fV x] (fun r => r = bv (ok && (decide (e ≠ 0) && decide (e ≠ 1)))) ∧ PC Tryz.prog 32 [bQ p,fV x] (fun r => r = bv (ok && (decide (e ≠ 0) && decide (e ≠ 1)))) := by
 obtain ⟨way,ok,h1,h2,h3⟩ := Jn p x hl hs
 cases ok with
 | false => exact ⟨way,false,[],0,0,h1,fun h => Bool.noConfusion h,GB p x way h1,HP p x way h2⟩
 | true =>
  obtain ⟨hv,W,rfl,hW⟩ := h3 rfl
  have h4 := No p W hW hv hl hs
  have h5 := Nv p W hW hv hl hs
  have hWl := hW.l
  have hwl := rJ (pts := aC p) (W := W) (W.length - 1)
  have h6 := ME p (Db (aC p) W (W.length - 1)) 150 hl hs (by omega)
  have h7 := Mz p (Db (aC p) W (W.length - 1)) 150 hl hs (by omega)
  exact ⟨_,true,_,_,_,h1,fun _ => ⟨h4,h6,hv,rfl⟩,Hr p x _ _ _ _ h1 h4 h6,IB p x _ _ _ _ h2 h5 h7⟩
end Go.Proofs.YtahdccneecdmmaaGreat
namespace Go.Proofs.YtahdccneecdmmaaGreat
open Go.AL Go.ChangeShapes Go.WideShapes Go.ChangeAt Go.RowKit
theorem NY:laidOutB Tryz.prog = true := by kernel_rfl
theorem xU {P:Program}{k:FuncId}{avs:List AV}(h:PC P k avs (fun r => r = bv true)){W:World}{vs:List Value}(hv:RdV W (fun _ => False) (fun _ => none) avs vs) :
  Calls P k vs.toArray W fun e W' => e = .returned (.bool true) ∧ Below W.heap.size W W' := by
 let C : Ctx := { N := 0,w0 := W,W0 := fun _ => False,X := fun _ => False,ι0 := fun _ => none,xlt := fun _ h => h.elim }
 have hbad : ∀ b, ¬ aK C.X (fun _ => none) (aO []) b := by
  rintro b (h | ⟨id,cs,β,h1,h2⟩)
  ·exact h
  ·cases h2
 have g : HG C (fun _ => none) (fun j => 0 ≤ j) (aO []) W :=
  ⟨fun id cs h => by simp [aO] at h,fun id id' cs cs' b β β' h => by simp [aO] at h,Fr.refl _ _,fun _ _ h => h,fun _ _ => rfl⟩
 have hcar : Carry W (fun _ => False) (fun _ => none) W (aK C.X (fun _ => none) (aO [])) (fun _ => none) := ⟨fun b o x _ h2 => ⟨hbad b,h2⟩,fun _ _ h => h,fun _ => Nat.le_refl _⟩
 refine (h C _ W vs rfl rfl g (RdV.carry hcar _ _ hv)).mono ?_
 rintro e W' ⟨v'',r,H',ι',rfl,⟨rfl,_⟩,h4,h5⟩
 simp only [Rd] at h4
 subst h4
 have f := h5.fr
 exact ⟨rfl,f.os,f.tape,f.output,f.size,fun b hb => f.block b hb (fun h => h)⟩
end Go.Proofs.YtahdccneecdmmaaGreat
namespace Go.Proofs.YtahdccneecdmmaaGreat
open Go.AL Go.RowKit
def IN (l : List Iss) : List AV := [sl fA l]
instance : FlT IN 1:=⟨fun _ => rfl⟩
instance : FE IN (fun r => [sl fA r]):=⟨fun _ => rfl⟩
instance (r : List Iss) : Pur (IN r):=⟨by show (AV.pur (sl fA r) && true) = true;rw [Bool.and_true]; exact a9 fA r⟩
theorem nJ {c left:Int}(h:c ≤ left):Gi c left = left - c := if_pos h
theorem j5 {c left:Int}(h:¬ c ≤ left):Gi c left = -1 := if_neg h
theorem GD (l:List Int) (left:Int) (h0:0 ≤ left) (h1:left ≤ 1048576) (hl:l.length ≤ 9223372036854775807):PC Tryz.prog 113 [sl cI l,iv left] (fun r => r = iv (Gi l.length left)):=by
 refine aB Tryz.func113 Tryz.ntmps113 ?_
 repeat' (first|refine aE ?_|(refine aJ ?_ ?_ <;> intro hc hq <;> try (exfalso;omega))|fail)
 all_goals (refine aD rfl ⟨?_,rfl⟩; simp only [aM]; first|rw [nJ (by omega)]|rw [j5 (by omega)])
theorem Fl (m:Nat) (ih:∀ l (left:Int),aU l < m → I4 l → 0 ≤ left → left ≤ 1048576 → PC Tryz.prog 114 [sl aY l,iv left] (fun r => r = iv (Gi (aU l) left))) (s:AL.Stmt) (left:Int) (hs:dY s ≤ m) (hln:FJ s) (h0:0 ≤ left) (h1:left ≤ 1048576) :
  PC Tryz.prog 191 [cK s,iv left] (fun r => r = iv (Gi (aU s.th + aU s.el : Nat) left)) := by
 have hct := k5 s
 obtain ⟨l1,l2⟩ := Mv hln
 have c1 := ih s.th left (by omega) l1 h0 h1
 by_cases q1 : (aU s.th : Int) ≤ left
 ·rw [nJ q1] at c1
  have c2 := ih s.el (left - aU s.th) (by omega) l2 (by omega) (by omega)
  by_cases q2 : (aU s.el : Int) ≤ left - aU s.th
  ·rw [nJ q2] at c2
   rw [nJ (by omega)]
   refine aB Tryz.func191 Tryz.ntmps191 ?_
   repeat' (first|(apply aF;(apply aA (k := 114);rfl;(first|exact c1|exact c2);exact Pur.pf;rfl))|refine aE ?_|(refine aJ ?_ ?_ <;> intro hc hq <;> try (exfalso;omega))|fail)
   all_goals first
    | (exfalso;omega)
    | (refine aD rfl ⟨?_,rfl⟩; simp only [aM]; refine congrArg (fun z => AV.v (Value.int .i64 z)) ?_; omega)
  ·rw [j5 q2] at c2
   rw [j5 (by omega)]
   refine aB Tryz.func191 Tryz.ntmps191 ?_
   repeat' (first|(apply aF;(apply aA (k := 114);rfl;(first|exact c1|exact c2);exact Pur.pf;rfl))|refine aE ?_|(refine aJ ?_ ?_ <;> intro hc hq <;> try (exfalso;omega))|fail)
   all_goals first
    | (exfalso;omega)
    | (refine aD rfl ⟨?_,rfl⟩; rfl)
 ·rw [j5 q1] at c1
  rw [j5 (by omega)]
  refine aB Tryz.func191 Tryz.ntmps191 ?_
  repeat' (first|(apply aF;(apply aA (k := 114);rfl;exact c1;exact Pur.pf;rfl))|refine aE ?_|fail)
  all_goals first
   | (exfalso;omega)
   | (refine aD rfl ⟨?_,rfl⟩; rfl)
theorem BN (m:Nat) (ih:∀ s (left:Int),dY s ≤ m → FJ s → 0 ≤ left → left ≤ 1048576 → PC Tryz.prog 191 [cK s,iv left] (fun r => r = iv (Gi (aU s.th + aU s.el:Nat) left))) (l:List AL.Stmt) (left:Int) (hs:aU l ≤ m) (hln:I4 l) (h0:0 ≤ left) (h1:left ≤ 1048576) :
  PC Tryz.prog 114 [sl aY l,iv left] (fun r => r = iv (Gi (aU l) left)) := by
 have hX := Gx l
 have hl := hln.1
 by_cases q0 : (l.length : Int) ≤ left
 ·refine aB Tryz.func114 Tryz.ntmps114 ?_
  repeat' (first|refine aE ?_|(refine aJ ?_ ?_ <;> intro hc hq <;> try (exfalso;omega))|fail)
  refine aH (σ := Nat × Int) [0] [] (fun k => [(5,iv (k.1 : Int)),(1,iv k.2)]) (fun k => []) (fun k => k.1 ≤ l.length ∧ 0 ≤ k.2 ∧ k.2 + l.length + m9 (l.take k.1) = left) (fun k => l.length - k.1) (0,left - l.length) ⟨by omega,by dsimp only;omega,by simp [m9]⟩ ?_
  rintro ⟨k,z⟩ ⟨hk,hz0,hz⟩
  dsimp only at hk hz0 hz ⊢
  by_cases hkl : k < l.length
  ·have hck := iE l k hkl
   have hsx := Em hkl
   have hle := Kr l (k + 1)
   have c1 := ih l[k]! z (by omega) (Mm hln hkl) hz0 (by omega)
   by_cases q1 : ((aU l[k]!.th + aU l[k]!.el : Nat) : Int) ≤ z
   ·rw [nJ q1] at c1
    repeat' (first|(apply aF;(apply aA (k := 191);rfl;exact c1;exact Pur.pf;rfl))|refine aE ?_|(refine aJ ?_ ?_ <;> intro hc hq <;> try (exfalso;omega))|fail)
    all_goals first
     | (exfalso;omega)
     | ((refine bC (k + 1, z - (aU l[k]!.th + aU l[k]!.el : Nat)) (Le.renA []) ?_ ?_)
        ·exact ⟨by dsimp only;omega,by dsimp only;omega,by dsimp only;rw [hsx]; omega⟩
        ·dsimp only;omega)
   ·rw [j5 q1] at c1
    repeat' (first|(apply aF;(apply aA (k := 191);rfl;exact c1;exact Pur.pf;rfl))|refine aE ?_|(refine aJ ?_ ?_ <;> intro hc hq <;> try (exfalso;omega))|fail)
    all_goals first
     | (exfalso;omega)
     | (refine aD rfl ⟨?_,rfl⟩; simp only [aM]; rw [j5 (by omega)])
  ·have hke : k = l.length := by omega
   subst hke
   rw [List.take_length] at hz
   repeat' (first|refine aE ?_|(refine aJ ?_ ?_ <;> intro hc hq <;> try (exfalso;omega))|fail)
   refine aD rfl ⟨?_,rfl⟩; simp only [aM]; rw [nJ (by omega)]
   refine congrArg (fun z => AV.v (Value.int .i64 z)) ?_; omega
 ·refine aB Tryz.func114 Tryz.ntmps114 ?_
  repeat' (first|refine aE ?_|(refine aJ ?_ ?_ <;> intro hc hq <;> try (exfalso;omega))|fail)
  all_goals first
   | (exfalso;omega)
   | (refine aD rfl ⟨?_,rfl⟩; simp only [aM]; rw [j5 (by omega)])
theorem J8:∀ (m:Nat),(∀ s (left:Int),dY s ≤ m → FJ s → 0 ≤ left → left ≤ 1048576 → PC Tryz.prog 191 [cK s,iv left] (fun r => r = iv (Gi (aU s.th + aU s.el:Nat) left))) ∧
  (∀ l (left : Int),aU l ≤ m → I4 l → 0 ≤ left → left ≤ 1048576 → PC Tryz.prog 114 [sl aY l,iv left] (fun r => r = iv (Gi (aU l) left))) := by
 intro m
 induction m using Nat.strongRecOn with
 | ind m ih =>
  have h1 : ∀ s (left : Int), dY s ≤ m → FJ s → 0 ≤ left → left ≤ 1048576 → PC Tryz.prog 191 [cK s, iv left] (fun r => r = iv (Gi (aU s.th + aU s.el : Nat) left)) :=
   fun s left a1 a2 a3 a4 => Fl m (fun l left' g1 g2 g3 g4 => (ih (aU l) g1).2 l left' (Nat.le_refl _) g2 g3 g4) s left a1 a2 a3 a4
  exact ⟨h1,fun l left g1 g2 g3 g4 => BN m h1 l left g1 g2 g3 g4⟩
theorem Bt (p:Prg) (left:Int) (h0:0 ≤ left) (h1:left ≤ 1048576) (hl:p.types.length ≤ 9223372036854775807) (hln:I4 p.body):PC Tryz.prog 46 [bQ p,iv left] (fun r => r = iv (Gi (p.types.length + aU p.body:Nat) left)):=by
 have c1 := GD p.types left h0 h1 hl
 by_cases q1 : (p.types.length : Int) ≤ left
 ·rw [nJ q1] at c1
  have c2 := (J8 _).2 p.body (left - p.types.length) (Nat.le_refl _) hln (by omega) (by omega)
  by_cases q2 : (aU p.body : Int) ≤ left - p.types.length
  ·rw [nJ q2] at c2
   rw [nJ (by omega)]
   refine aB Tryz.func46 Tryz.ntmps46 ?_
   repeat' (first|(apply aF;first|(apply aA (k := 113);rfl;exact c1;exact Pur.pf;rfl)|(apply aA (k := 114);rfl;exact c2;exact Pur.pf;rfl))|refine aE ?_|(refine aJ ?_ ?_ <;> intro hc hq <;> try (exfalso;omega))|fail)
   all_goals first
    | (exfalso;omega)
    | (refine aD rfl ⟨?_,rfl⟩; simp only [aM]; refine congrArg (fun z => AV.v (Value.int .i64 z)) ?_; omega)
  ·rw [j5 q2] at c2
   rw [j5 (by omega)]
   refine aB Tryz.func46 Tryz.ntmps46 ?_
   repeat' (first|(apply aF;first|(apply aA (k := 113);rfl;exact c1;exact Pur.pf;rfl)|(apply aA (k := 114);rfl;exact c2;exact Pur.pf;rfl))|refine aE ?_|(refine aJ ?_ ?_ <;> intro hc hq <;> try (exfalso;omega))|fail)
   all_goals first
    | (exfalso;omega)
    | (refine aD rfl ⟨?_,rfl⟩; rfl)
 ·rw [j5 q1] at c1
  rw [j5 (by omega)]
  refine aB Tryz.func46 Tryz.ntmps46 ?_
  repeat' (first|(apply aF;(apply aA (k := 113);rfl;exact c1;exact Pur.pf;rfl))|refine aE ?_|fail)
  all_goals first
   | (exfalso;omega)
   | (refine aD rfl ⟨?_,rfl⟩; rfl)
theorem Mi {xs:List AL.Stmt}{k:Nat}(s:AL.Stmt) (hk:k < xs.length):gM (flat aY xs) (0 + k * 6) [iv s.op,iv s.x,iv s.y,iv s.n,sl aY s.th,sl aY s.el] = flat aY (xs.set k s) := fH hk (j1 s).symm
theorem Lh:∀ n:Nat,flat cN (List.replicate n 0) = flat cI (List.replicate n 0)
 | 0 => rfl
 | n + 1 => by rw [List.replicate_succ,List.replicate_succ]; show cN 0 ++ flat cN (List.replicate n 0) = cI 0 ++ flat cI (List.replicate n 0);rw [Lh n]; rfl
theorem Ii (l:List Int) (hl:l.length ≤ 1048576):PC Tryz.prog 115 [sl cI l] (fun r => r = sl cI l):=by
 refine aB Tryz.func115 Tryz.ntmps115 ?_
 repeat' (first|refine aE ?_|fail)
 rw [Lh]
 refine aH (σ := Nat × List Int) [0,3] [] (fun k => [(4,iv (k.1 : Int))]) (fun k => [(0,some (flat cI k.2))]) (fun k => k.1 ≤ l.length ∧ k.2.length = l.length ∧ (∀ j,j < k.1 → k.2[j]! = l[j]!)) (fun k => l.length - k.1) (0,List.replicate l.length 0) ⟨by omega,by simp,by omega⟩ ?_
 rintro ⟨k,u⟩ ⟨hk,hul,hu⟩
 dsimp only at hk hul hu ⊢
 repeat' (first|refine aE ?_|(refine aJ ?_ ?_ <;> intro hc hq <;> try (exfalso;omega))|fail)
 ·(refine bC (k + 1, u.set k l[k]!) (Le.renA [(0, 0)]) ?_ ?_)
  ·refine ⟨by dsimp only; omega, by dsimp only; rw [List.length_set]; exact hul, fun j hj => ?_⟩
   dsimp only at hj ⊢
   rw [aQ]
   by_cases e : k = j
   ·subst e;rw [if_pos ⟨rfl,by omega⟩]
   ·rw [if_neg (fun q => e q.1)]; exact hu j (by omega)
  ·dsimp only;omega
 ·refine aR (Le.frzD (d := 2) (i := 0) rfl rfl) ?_
  have e : u = l := bG hul fun j hj => hu j (by omega)
  subst e
  exact aD rfl ⟨rfl,(by (exact a9 _ _))⟩
theorem Fh (m:Nat) (ih:∀ l,aU l < m → PC Tryz.prog 116 [sl aY l] (fun r => r = sl aY l)) (s:AL.Stmt) (hs:dY s ≤ m):PC Tryz.prog 192 [cK s] (fun r => r = cK s):=by
 have hct := k5 s
 have c1 := ih s.th (by omega)
 have c2 := ih s.el (by omega)
 refine aB Tryz.func192 Tryz.ntmps192 ?_
 repeat' (first|(apply aF;(apply aA (k := 116);rfl;(first|exact c1|exact c2);exact Pur.pf;rfl))|refine aE ?_|fail)
 exact aD (l := [cK s]) rfl ⟨rfl,Pur.pf⟩
theorem Cp (m:Nat) (hm:m ≤ 1048576) (ih:∀ s,dY s ≤ m → PC Tryz.prog 192 [cK s] (fun r => r = cK s)) (l:List AL.Stmt) (hs:aU l ≤ m):PC Tryz.prog 116 [sl aY l] (fun r => r = sl aY l):=by
 have hlen := fJ l
 refine aB Tryz.func116 Tryz.ntmps116 ?_
 repeat' (first|refine aE ?_|fail)
 refine N5 (Le.zeroS (i := 0) (m := l.length) rfl) ?_
 refine aH (σ := Nat × List AL.Stmt) [0,3] [] (fun k => [(4,iv (k.1 : Int))]) (fun k => [(0,some (flat aY k.2))]) (fun k => k.1 ≤ l.length ∧ k.2.length = l.length ∧ (∀ j,j < k.1 → k.2[j]! = l[j]!)) (fun k => l.length - k.1) (0,List.replicate l.length OI) ⟨by omega,by simp,by omega⟩ ?_
 rintro ⟨k,u⟩ ⟨hk,hul,hu⟩
 dsimp only at hk hul hu ⊢
 by_cases hkl : k < l.length
 ·have hck := iE l k hkl
  have c1 := ih l[k]! (by omega)
  repeat' (first|(apply aF;first|(apply aA (k := 192);rfl;exact c1;exact Pur.pf;rfl)|(apply bB;rfl;rfl;rfl;rfl;rfl;(rw [aI aY (e := 6)]; (show _ + 6 ≤ _);omega);exact Mi _ (by omega)))|refine aE ?_|(refine aJ ?_ ?_ <;> intro hc hq <;> try (exfalso;omega))|fail)
  (refine bC (k + 1,u.set k l[k]!) (Le.renA [(0,0)]) ?_ ?_)
  ·refine ⟨by dsimp only; omega, by dsimp only; rw [List.length_set]; exact hul, fun j hj => ?_⟩
   dsimp only at hj ⊢
   rw [aQ]
   by_cases e : k = j
   ·subst e;rw [if_pos ⟨rfl,by omega⟩]
   ·rw [if_neg (fun q => e q.1)]; exact hu j (by omega)
  ·dsimp only;omega
 ·repeat' (first | refine aE ?_ | (refine aJ ?_ ?_ <;> intro hc hq <;> try (exfalso; omega))|fail)
  refine aR (Le.frzD (d := 2) (i := 0) rfl rfl) ?_
  have e : u = l := bG hul fun j hj => hu j (by omega)
  subst e
  exact aD rfl ⟨rfl,(by (exact a9 _ _))⟩
theorem KY:∀ (m:Nat),m ≤ 1048576 → (∀ s,dY s ≤ m → PC Tryz.prog 192 [cK s] (fun r => r = cK s)) ∧ (∀ l,aU l ≤ m → PC Tryz.prog 116 [sl aY l] (fun r => r = sl aY l)):=by
 intro m
 induction m using Nat.strongRecOn with
 | ind m ih =>
  intro hm
  have h1 : ∀ s,dY s ≤ m → PC Tryz.prog 192 [cK s] (fun r => r = cK s) := fun s a1 => Fh m (fun l g1 => (ih (aU l) g1 (by omega)).2 l (Nat.le_refl _)) s a1
  exact ⟨h1,fun l g1 => Cp m hm h1 l g1⟩
theorem A5 (p:Prg) (hl:p.types.length ≤ 1048576) (hs:aU p.body ≤ 1048576):PC Tryz.prog 47 [bQ p] (fun r => r = bQ p):=by
 have c1 := Ii p.types hl
 have c2 := (KY _ hs).2 p.body (Nat.le_refl _)
 refine aB Tryz.func47 Tryz.ntmps47 ?_
 repeat' (first|(apply aF;first|(apply aA (k := 115);rfl;exact c1;exact Pur.pf;rfl)|(apply aA (k := 116);rfl;exact c2;exact Pur.pf;rfl))|refine aE ?_|fail)
 exact aD (l := [bQ p]) rfl ⟨rfl,Pur.pf⟩
theorem Ew (x:Iss):PC Tryz.prog 49 [.agg (fA x)] (fun r => r = .agg (fA x)):=by
 refine aB Tryz.func49 Tryz.ntmps49 ?_
 repeat' (first|refine aE ?_|fail)
 exact aD (l := [.agg (fA x)]) rfl ⟨rfl,Pur.pf⟩
theorem FX (L:List Int) (hl:L.length ≤ 1048576):PC Tryz.prog 117 [sl cI L,sl cI L] (fun r => r = bv true):=by
 refine aB Tryz.func117 Tryz.ntmps117 ?_
 repeat' (first|refine aE ?_|(refine aJ ?_ ?_ <;> intro hc hq <;> try (exfalso;omega))|fail)
 ·exact (hq trivial).elim
 refine aH (σ := Nat) [0,1] [] (fun k => [(5,iv (k : Int))]) (fun k => []) (fun k => k ≤ L.length) (fun k => L.length - k) (0) (by omega) ?_
 rintro k hk
 repeat' (first|refine aE ?_|(refine aJ ?_ ?_ <;> intro hc hq <;> try (exfalso;omega))|refine bI ?_|fail)
 ·exfalso
  simp at hq
 ·(refine bC (k + 1) (Le.renA []) ?_ ?_)
  ·omega
  ·omega
 ·exact aD rfl ⟨rfl,rfl⟩
theorem ES (m:Nat) (ih:∀ l,aU l < m → PC Tryz.prog 118 [sl aY l,sl aY l] (fun r => r = bv true)) (s:AL.Stmt) (hs:dY s ≤ m):PC Tryz.prog 193 [cK s,cK s] (fun r => r = bv true):=by
 have hct := k5 s
 have c1 := ih s.th (by omega)
 have c2 := ih s.el (by omega)
 refine aB Tryz.func193 Tryz.ntmps193 ?_
 repeat' (first|(apply aF;(apply aA (k := 118);rfl;(first|exact c1|exact c2);exact Pur.pf;rfl))|refine aE ?_|(refine aJ ?_ ?_ <;> intro hc hq <;> try (exfalso;omega))|fail)
 all_goals first
  | (exfalso;exact (by assumption : ¬ True) trivial)
  | exact aD rfl ⟨rfl,rfl⟩
theorem Ca (m:Nat) (hm:m ≤ 1048576) (ih:∀ s,dY s ≤ m → PC Tryz.prog 193 [cK s,cK s] (fun r => r = bv true)) (l:List AL.Stmt) (hs:aU l ≤ m):PC Tryz.prog 118 [sl aY l,sl aY l] (fun r => r = bv true):=by
 have hlen := fJ l
 refine aB Tryz.func118 Tryz.ntmps118 ?_
 repeat' (first|refine aE ?_|(refine aJ ?_ ?_ <;> intro hc hq <;> try (exfalso;omega))|fail)
 ·exact (hq trivial).elim
 refine aH (σ := Nat) [0,1] [] (fun k => [(5,iv (k : Int))]) (fun k => []) (fun k => k ≤ l.length) (fun k => l.length - k) (0) (by omega) ?_
 rintro k hk
 by_cases hkl : k < l.length
 ·have hck := iE l k hkl
  have c1 := ih l[k]! (by omega)
  repeat' (first|(apply aF;(apply aA (k := 193);rfl;exact c1;exact Pur.pf;rfl))|refine aE ?_|(refine aJ ?_ ?_ <;> intro hc hq <;> try (exfalso;omega))|refine bI ?_|fail)
  all_goals first
   | (exfalso;exact (by assumption : ¬ True) trivial)
   | ((refine bC (k + 1) (Le.renA []) ?_ ?_)
      ·omega
      ·omega)
 ·repeat' (first | refine aE ?_ | (refine aJ ?_ ?_ <;> intro hc hq <;> try (exfalso; omega))|fail)
  exact aD rfl ⟨rfl,rfl⟩
theorem Jx:∀ (m:Nat),m ≤ 1048576 → (∀ s,dY s ≤ m → PC Tryz.prog 193 [cK s,cK s] (fun r => r = bv true)) ∧ (∀ l,aU l ≤ m → PC Tryz.prog 118 [sl aY l,sl aY l] (fun r => r = bv true)):=by
 intro m
 induction m using Nat.strongRecOn with
 | ind m ih =>
  intro hm
  have h1 : ∀ s,dY s ≤ m → PC Tryz.prog 193 [cK s,cK s] (fun r => r = bv true) := fun s a1 => ES m (fun l g1 => (ih (aU l) g1 (by omega)).2 l (Nat.le_refl _)) s a1
  exact ⟨h1,fun l g1 => Ca m hm h1 l g1⟩
theorem AJ (p:Prg) (hl:p.types.length ≤ 1048576) (hs:aU p.body ≤ 1048576):PC Tryz.prog 48 [bQ p,bQ p] (fun r => r = bv true):=by
 have c1 := FX p.types hl
 have c2 := (Jx _ hs).2 p.body (Nat.le_refl _)
 refine aB Tryz.func48 Tryz.ntmps48 ?_
 repeat' (first|(apply aF;first|(apply aA (k := 117);rfl;exact c1;exact Pur.pf;rfl)|(apply aA (k := 118);rfl;exact c2;exact Pur.pf;rfl))|refine aE ?_|fail)
 all_goals first
  | (exfalso;exact (by assumption : ¬ True) trivial)
  | exact aD rfl ⟨rfl,rfl⟩
theorem nR (p:Prg) (x:Iss) (hl:p.types.length ≤ 9223372036854775807) (hln:I4 p.body):PC Tryz.prog 12 [bQ p,fV x] (fun r => r = bv true):=by
 have c0 := Bt p 1048576 (by decide) (by decide) hl hln
 by_cases q : ((p.types.length + aU p.body : Nat) : Int) ≤ 1048576
 ·rw [nJ q] at c0
  have h1 := A5 p (by omega) (by omega)
  have h2 := AJ p (by omega) (by omega)
  obtain ⟨way,ok,cs,e,a,_,_,h3,h4⟩ := Gp p x (by omega) (by omega)
  have h5 := Ew x
  generalize (ok && (decide (e ≠ 0) && decide (e ≠ 1))) = J at *
  refine aB Tryz.func12 Tryz.ntmps12 ?_
  repeat' (first|(apply aF;first|(apply aA (k := 46);rfl;exact c0;exact Pur.pf;rfl)|(apply aA (k := 47);rfl;exact h1;exact Pur.pf;rfl)|(apply aA (k := 48);rfl;exact h2;exact Pur.pf;rfl)|(apply aA (k := 31);rfl;exact h3;exact Pur.pf;rfl)|(apply aA (k := 32);rfl;exact h4;exact Pur.pf;rfl)|(apply aA (k := 49);rfl;exact h5;(rfl);rfl))|refine aE ?_|(refine aJ ?_ ?_ <;> intro hc hq <;> try (exfalso;omega))|refine bI ?_|fail)
  all_goals first
   | (exfalso;exact (by assumption : ¬ True) trivial)
   | (exfalso;omega)
   | (refine aD rfl ⟨?_,rfl⟩; simp only [aM,decide_true]; done)
 ·rw [j5 q] at c0
  refine aB Tryz.func12 Tryz.ntmps12 ?_
  repeat' (first|(apply aF;(apply aA (k := 46);rfl;exact c0;exact Pur.pf;rfl))|refine aE ?_|fail)
  all_goals first
   | exact aD rfl ⟨rfl,rfl⟩
   | (exfalso;omega)
end Go.Proofs.YtahdccneecdmmaaGreat
namespace Go.Proofs.YtahdccneecdmmaaGreat
open Go.AL Go.ChangeShapes Go.WideShapes Go.ChangeAt Go.RowKit
theorem Ak {w:World}{b:Nat}:∀ (cs:List AV) (l:List Value) (o:Nat),RdL w (fun _ => False) (fun _ => none) cs l → (∀ j,j < l.length → w.cell? ⟨b,o + j,none⟩ = l[j]?) → RdC w (fun _ => False) (fun _ => none) cs b o
 | [],_,_,_,_ => by simp only [RdC]
 | c :: cs, l, o, h, hc => by
  simp only [RdL] at h
  obtain ⟨x,l',rfl,h1,h2,h3⟩ := h
  simp only [RdC]
  refine ⟨⟨x,by simpa using hc 0 (by simp),h1,h2⟩,Ak cs l' (o + 1) h3 fun j hj => ?_⟩
  have := hc (j + 1) (by simpa using hj)
  rw [show o + 1 + j = o + (j + 1) from by omega,this]; rfl
theorem AI {w:World}{bad:Nat → Prop}{ι:Pl}{b:Nat}:∀ (cs ds:List AV) (o:Nat),RdC w bad ι cs b o → RdC w bad ι ds b (o + cs.length) → RdC w bad ι (cs ++ ds) b o
 | [],ds,o,_,h => by simpa using h
 | c :: cs, ds, o, h, h2 => by
  simp only [List.cons_append,RdC] at h ⊢
  exact ⟨h.1,AI cs ds (o + 1) h.2 (by rw [List.length_cons] at h2;rwa [show o + 1 + cs.length = o + (cs.length + 1) from by omega])⟩
theorem RdC_stmts {w:World}{b:Nat}:∀ (l:List AL.Stmt) (o:Nat),(∀ i,i < l.length → RdC w (fun _ => False) (fun _ => none) (aY l[i]!) b (o + i * 6)) → RdC w (fun _ => False) (fun _ => none) (flat aY l) b o
 | [],_,_ => by simp only [flat,List.flatMap_nil,RdC]
 | s :: l, o, h => by
  have e : flat aY (s :: l) = aY s ++ flat aY l := by simp only [flat,List.flatMap_cons]
  rw [e]
  have h0 := h 0 (by simp)
  refine AI _ _ o (by simpa using h0) (RdC_stmts l _ fun i hi => ?_)
  have hi' := h (i + 1) (by simpa using hi)
  have e6 : (aY s).length = 6 := by rw [j1]; rfl
  rw [e6,show o + 6 + i * 6 = o + (i + 1) * 6 from by omega]
  simpa using hi'
theorem z8 {w:World}{b:Nat}:∀ (zs:List Int) (o:Nat),(∀ j,j < zs.length → w.cell? ⟨b,o + j,none⟩ = some (.int .i64 zs[j]!)) → RdC w (fun _ => False) (fun _ => none) (flat cI zs) b o
 | [],_,_ => by simp only [flat,List.flatMap_nil,RdC]
 | x :: zs, o, h => by
  have h0 := h 0 (by simp)
  have e : flat cI (x :: zs) = iv x :: flat cI zs := rfl
  rw [e]
  simp only [RdC]
  refine ⟨⟨.int .i64 x,by simpa using h0,rfl,by simp only [Rd]⟩,z8 zs (o + 1) fun j hj => ?_⟩
  have := h (j + 1) (by simpa using hj)
  rw [show o + 1 + j = o + (j + 1) from by omega]
  simpa using this
theorem CI:Tryz.prog.cellsOf 3 = 1 := by kernel_rfl
theorem C5:Tryz.prog.cellsOf 74 = 1 := by kernel_rfl
theorem Kz:Tryz.prog.cellsOf 23 = 1 := by kernel_rfl
theorem A8:Tryz.prog.cellsOf 219 = 6 := by kernel_rfl
theorem JZ:Tryz.prog.cellsOf 76 = 2 := by kernel_rfl
theorem J0:Tryz.prog.cellsOf 80 = 3 := by kernel_rfl
theorem z5 {α:Type}[Inhabited α] {P:Nat → α → Prop}(n:Nat) (h:∀ i,i < n → ∃ x,P i x):∃ l:List α,l.length = n ∧ ∀ i,i < n → P i l[i]!:=by
 induction n with
 | zero => exact ⟨[],rfl,by omega⟩
 | succ n ih =>
  obtain ⟨l,h1,h2⟩ := ih fun i hi => h i (by omega)
  obtain ⟨x,hx⟩ := h n (by omega)
  refine ⟨l ++ [x],by simp [h1],fun i hi => ?_⟩
  by_cases e : i < n
  ·rw [aS _ _ (by simp;omega),List.getElem_append_left (by omega),← aS l i (by omega)]; exact h2 i e
  ·have : i = n := by omega
   subst this
   rw [aS _ _ (by simp;omega),List.getElem_append_right (by omega)]
   simp only [h1,Nat.sub_self,List.getElem_cons_zero]; exact hx
section
variable {H : Type} {enc : TypeId × Value → H} {W : World}
theorem Kn {fuel:Nat}{v:Value}{x:DataW H × List MemPlace}(hf:DataW.trod enc Tryz.prog W 0 (fun _ => true) true fuel 23 [v] = some x):∃ l:List Int,l.length ≤ 9223372036854775807 ∧ Rd W (fun _ => False) (fun _ => none) (sl cI l) v ∧ v.oneCell' = true:=by
 rcases open_ints Tryz.underlying23 Tryz.underlying3 CI hf with ⟨hcs,hx⟩ | ⟨a,len,cap,zs,hcs,_,hl,hm,hz,hx,hcell,hwz⟩
 ·simp at hcs
  subst hcs
  refine ⟨[],by decide,?_,rfl⟩
  simp only [Rd]
  exact ⟨none,0,rfl,.inl rfl⟩
 ·simp at hcs
  subst hcs
  simp only [if_true] at hz
  have hlen : (zs.take len).length = len := by simp;omega
  have hmx : maxLen = 9223372036854775807 := by decide
  refine ⟨zs.take len,by omega,?_,rfl⟩
  simp only [Rd]
  refine ⟨some a,cap,by rw [hlen],?_⟩
  by_cases h00 : len = 0
  ·exact .inl (by rw [hlen]; exact h00)
  ·obtain ⟨b, off, spot⟩ := a
   have hspot : spot = none := by simpa [Addr.add] using World.cell?_spot (hcell 0 (by omega))
   subst hspot
   refine .inr ⟨b,off,by rw [hlen]; exact hl,rfl,.inr ⟨fun h => h,z8 _ _ fun j hj => ?_⟩⟩
   rw [hlen] at hj
   have hcj := hcell j (by omega)
   rw [Addr.add_lit] at hcj
   rw [hcj,aS _ _ (by rw [hlen]; exact hj),List.getElem_take]
   simp [List.getD,List.getElem?_eq_getElem (show j < zs.length by omega)]
theorem O3 {cs:List Value}(h:cs.length = 6):∃ a b c d e f,cs = [a,b,c,d,e,f]:=by
 match cs,h with
 | [a,b,c,d,e,f],_ => exact ⟨a,b,c,d,e,f,rfl⟩
theorem Gk:∀ fuel:Nat,(∀ cs x,DataW.trod enc Tryz.prog W 0 (fun _ => true) true fuel 219 cs = some x → ∃ s:AL.Stmt,FJ s ∧ cs.length = 6 ∧ RdL W (fun _ => False) (fun _ => none) (aY s) cs) ∧
  (∀ v x,DataW.trod enc Tryz.prog W 0 (fun _ => true) true fuel 74 [v] = some x → ∃ l : List AL.Stmt,I4 l ∧ Rd W (fun _ => False) (fun _ => none) (sl aY l) v ∧ v.oneCell' = true) := by
 intro fuel
 induction fuel using Nat.strongRecOn with
 | ind fuel ih =>
  constructor
  ·intro cs x h
   obtain ⟨xs,n,hn,_,hl,hlen,hf⟩ := DataW.trod_struct Tryz.underlying219 h
   rw [A8] at hl
   obtain ⟨v0,v1,v2,v3,v4,v5,rfl⟩ := O3 hl
   have f0 := hf 0 _ rfl
   have f1 := hf 1 _ rfl
   have f2 := hf 2 _ rfl
   have f3 := hf 3 _ rfl
   have f4 := hf 4 _ rfl
   have f5 := hf 5 _ rfl
   have g : ∀ i,i < 6 → ∃ y,xs[i]? = some y := fun i hi => ⟨xs[i]'(by rw [hlen]; exact hi),List.getElem?_eq_getElem (by rw [hlen]; exact hi)⟩
   obtain ⟨y0,e0⟩ := g 0 (by decide)
   obtain ⟨y1,e1⟩ := g 1 (by decide)
   obtain ⟨y2,e2⟩ := g 2 (by decide)
   obtain ⟨y3,e3⟩ := g 3 (by decide)
   obtain ⟨y4,e4⟩ := g 4 (by decide)
   obtain ⟨y5,e5⟩ := g 5 (by decide)
   rw [e0] at f0
   rw [e1] at f1
   rw [e2] at f2
   rw [e3] at f3
   rw [e4] at f4
   rw [e5] at f5
   change DataW.trod _ _ _ _ _ _ n 3 (([v0,v1,v2,v3,v4,v5].drop 0).take (Tryz.prog.cellsOf 3)) = _ at f0
   change DataW.trod _ _ _ _ _ _ n 3 (([v0,v1,v2,v3,v4,v5].drop 1).take (Tryz.prog.cellsOf 3)) = _ at f1
   change DataW.trod _ _ _ _ _ _ n 3 (([v0,v1,v2,v3,v4,v5].drop 2).take (Tryz.prog.cellsOf 3)) = _ at f2
   change DataW.trod _ _ _ _ _ _ n 3 (([v0,v1,v2,v3,v4,v5].drop 3).take (Tryz.prog.cellsOf 3)) = _ at f3
   change DataW.trod _ _ _ _ _ _ n 74 (([v0,v1,v2,v3,v4,v5].drop 4).take (Tryz.prog.cellsOf 74)) = _ at f4
   change DataW.trod _ _ _ _ _ _ n 74 (([v0,v1,v2,v3,v4,v5].drop 5).take (Tryz.prog.cellsOf 74)) = _ at f5
   rw [CI] at f0 f1 f2 f3
   rw [C5] at f4 f5
   obtain ⟨n0,q0,_,_⟩ := DataW.trod_int Tryz.underlying3 f0
   obtain ⟨n1,q1,_,_⟩ := DataW.trod_int Tryz.underlying3 f1
   obtain ⟨n2,q2,_,_⟩ := DataW.trod_int Tryz.underlying3 f2
   obtain ⟨n3,q3,_,_⟩ := DataW.trod_int Tryz.underlying3 f3
   have ih' := ih n (by omega)
   obtain ⟨l4,a4,b4,c4⟩ := ih'.2 v4 _ f4
   obtain ⟨l5,a5,b5,c5⟩ := ih'.2 v5 _ f5
   simp at q0 q1 q2 q3
   subst q0 q1 q2 q3
   refine ⟨.mk n0 n1 n2 n3 l4 l5,by simp only [FJ]; exact ⟨a4,a5⟩,rfl,?_⟩
   rw [j1]
   simp only [RdL]
   exact ⟨_,_,rfl,rfl,(by simp only [Rd]; rfl),_,_,rfl,rfl,(by simp only [Rd]; rfl),_,_,rfl,rfl,(by simp only [Rd]; rfl),_,_,rfl,rfl,(by simp only [Rd]; rfl),_,_,rfl,c4,b4,_,_,rfl,c5,b5,rfl⟩
  ·intro v x h
   rcases DataW.trod_slice Tryz.underlying74 h with ⟨hcs,_⟩ | ⟨a,len,cap,elems,rest,n,hn,hcs,_,hb,hl,hm,hlen,hel,hsp,hns⟩
   ·simp at hcs
    subst hcs
    refine ⟨[],⟨by decide,by simp only [I3]⟩,?_,rfl⟩
    simp only [Rd]
    exact ⟨none,0,rfl,.inl rfl⟩
   ·simp at hcs
    subst hcs
    rw [A8] at hel
    have hmx : maxLen = 9223372036854775807 := by decide
    have key : ∀ i, i < len → ∃ s : AL.Stmt, FJ s ∧ ∃ cs : List Value, cs.length = 6 ∧ RdL W (fun _ => False) (fun _ => none) (aY s) cs ∧ ∀ j, j < 6 → W.cell? ((a.add (i * 6)).add j) = cs[j]? := fun i hi => by
     have h1 := hel i hi
     rw [List.getElem?_eq_getElem (by omega),Option.bind_eq_some_iff] at h1
     obtain ⟨cs,h2,h3⟩ := h1
     obtain ⟨s,s1,s2,s3⟩ := (ih n (by omega)).1 cs _ h3
     exact ⟨s,s1,cs,s2,s3,(World.cells?_some h2).2.2⟩
    obtain ⟨l,k1,k2⟩ := z5 len key
    refine ⟨l,⟨by omega,Gw fun s hs => ?_⟩,?_,rfl⟩
    ·obtain ⟨i, hi, e⟩ := List.getElem_of_mem hs
     have := (k2 i (by omega)).1
     rw [aS _ _ hi,e] at this;exact this
    ·simp only [Rd]
     refine ⟨some a,cap,by rw [k1],?_⟩
     by_cases h00 : len = 0
     ·exact .inl (by rw [k1]; exact h00)
     ·obtain ⟨b, off, spot⟩ := a
      have hspot : spot = none := by
       obtain ⟨_,cs,c1,_,c3⟩ := k2 0 (by omega)
       have := c3 0 (by decide)
       rw [List.getElem?_eq_getElem (by omega)] at this
       simpa [Addr.add] using World.cell?_spot this
      subst hspot
      refine .inr ⟨b,off,by rw [k1]; exact hl,rfl,.inr ⟨fun h => h,RdC_stmts _ _ fun i hi => ?_⟩⟩
      rw [k1] at hi
      obtain ⟨_,cs,c1,c2,c3⟩ := k2 i hi
      refine Ak _ cs _ c2 fun j hj => ?_
      have := c3 j (by omega)
      rw [Addr.add_lit,Addr.add_lit] at this
      exact this
theorem Jl {base:Nat}{v0:Value}{d0:DataW H}{p:List MemPlace}(hval:Value.okWide Tryz.prog W .any base 76 v0) (h0:DataW.Trod enc Tryz.prog W 0 (fun _ => true) true 76 v0 d0 p) :
  ∃ q : Prg,q.types.length ≤ 9223372036854775807 ∧ I4 q.body ∧ Rd W (fun _ => False) (fun _ => none) (bQ q) v0 := by
 obtain ⟨cs,rfl,hsz⟩ := okWide_struct Tryz.underlying76 hval
 obtain ⟨fuel,hf⟩ := h0
 obtain ⟨xs,n,hn,_,hl,hlen,hg⟩ := DataW.trod_struct Tryz.underlying76 hf
 have f0 := hg 0 _ rfl
 have f1 := hg 1 _ rfl
 have g : ∀ i,i < 2 → ∃ y,xs[i]? = some y := fun i hi => ⟨xs[i]'(by rw [hlen]; exact hi),List.getElem?_eq_getElem (by rw [hlen]; exact hi)⟩
 obtain ⟨y0,e0⟩ := g 0 (by decide)
 obtain ⟨y1,e1⟩ := g 1 (by decide)
 rw [e0] at f0
 rw [e1] at f1
 change DataW.trod _ _ _ _ _ _ n 23 (((Value.agg cs).cells.toList.drop 0).take (Tryz.prog.cellsOf 23)) = _ at f0
 change DataW.trod _ _ _ _ _ _ n 74 (((Value.agg cs).cells.toList.drop 1).take (Tryz.prog.cellsOf 74)) = _ at f1
 rw [Kz] at f0
 rw [C5] at f1
 have hcs : (Value.agg cs).cells.toList = cs.toList := rfl
 rw [JZ] at hl
 rw [hcs] at hl f0 f1
 obtain ⟨a, b, hab⟩ : ∃ a b, cs.toList = [a, b] := by
  match h : cs.toList,hl with
  | [a,b],_ => exact ⟨a,b,rfl⟩
 rw [hab] at f0 f1
 obtain ⟨ts,t1,t2,t3⟩ := Kn f0
 obtain ⟨body,b1,b2,b3⟩ := (Gk n).2 _ _ f1
 refine ⟨⟨ts,body⟩,t1,b1,?_⟩
 simp only [Rd]
 refine ⟨[a,b],by rw [← hab],?_⟩
 simp only [RdL]
 exact ⟨_,_,rfl,t3,t2,_,_,rfl,b3,b2,rfl⟩
theorem H3 {base:Nat}{v0:Value}{d0:DataW H}{p:List MemPlace}(hval:Value.okWide Tryz.prog W .any base 80 v0) (h0:DataW.Trod enc Tryz.prog W 0 (fun _ => true) true 80 v0 d0 p) :
  ∃ x : Iss,Rd W (fun _ => False) (fun _ => none) (fV x) v0 := by
 obtain ⟨cs,rfl,hsz⟩ := okWide_struct Tryz.underlying80 hval
 obtain ⟨fuel,hf⟩ := h0
 obtain ⟨xs,n,hn,_,hl,hlen,hg⟩ := DataW.trod_struct Tryz.underlying80 hf
 have f0 := hg 0 _ rfl
 have f1 := hg 1 _ rfl
 have f2 := hg 2 _ rfl
 have g : ∀ i,i < 3 → ∃ y,xs[i]? = some y := fun i hi => ⟨xs[i]'(by rw [hlen]; exact hi),List.getElem?_eq_getElem (by rw [hlen]; exact hi)⟩
 obtain ⟨y0,e0⟩ := g 0 (by decide)
 obtain ⟨y1,e1⟩ := g 1 (by decide)
 obtain ⟨y2,e2⟩ := g 2 (by decide)
 rw [e0] at f0
 rw [e1] at f1
 rw [e2] at f2
 change DataW.trod _ _ _ _ _ _ n 3 (((Value.agg cs).cells.toList.drop 0).take (Tryz.prog.cellsOf 3)) = _ at f0
 change DataW.trod _ _ _ _ _ _ n 3 (((Value.agg cs).cells.toList.drop 1).take (Tryz.prog.cellsOf 3)) = _ at f1
 change DataW.trod _ _ _ _ _ _ n 3 (((Value.agg cs).cells.toList.drop 2).take (Tryz.prog.cellsOf 3)) = _ at f2
 rw [CI] at f0 f1 f2
 have hcs : (Value.agg cs).cells.toList = cs.toList := rfl
 rw [J0] at hl
 rw [hcs] at hl f0 f1 f2
 obtain ⟨a, b, c, hab⟩ : ∃ a b c, cs.toList = [a, b, c] := by
  match h : cs.toList,hl with
  | [a,b,c],_ => exact ⟨a,b,c,rfl⟩
 rw [hab] at f0 f1 f2
 obtain ⟨n0,q0,_,_⟩ := DataW.trod_int Tryz.underlying3 f0
 obtain ⟨n1,q1,_,_⟩ := DataW.trod_int Tryz.underlying3 f1
 obtain ⟨n2,q2,_,_⟩ := DataW.trod_int Tryz.underlying3 f2
 simp at q0 q1 q2
 subst q0 q1 q2
 refine ⟨⟨n0,n1,n2⟩,?_⟩
 simp only [Rd]
 refine ⟨[.int .i64 n0,.int .i64 n1,.int .i64 n2],by rw [← hab],?_⟩
 simp only [RdL]
 exact ⟨_,_,rfl,rfl,(by simp only [Rd]),_,_,rfl,rfl,(by simp only [Rd]),_,_,rfl,rfl,(by simp only [Rd]),rfl⟩
end
end Go.Proofs.YtahdccneecdmmaaGreat
