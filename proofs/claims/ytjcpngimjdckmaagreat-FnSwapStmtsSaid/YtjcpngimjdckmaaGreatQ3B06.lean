/-
 A part of the proofs over this program: rules and contracts of its functions (the contracts).
-/
import Derived.Test.YtjcpngimjdckmaaGreatQ3B05
import Derived.Test.YtjcpngimjdckmaaGreatRows
import Derived.WalkKit
import Derived.ProofKit
import Derived.OpenShut
import Derived.Carry
import Derived.ChangeSlices
set_option linter.unusedVariables false
set_option linter.unusedSimpArgs false
set_option maxHeartbeats 8000000
set_option maxRecDepth 4000
attribute [local irreducible] Go.AL.RW Go.AL.AW Go.AL.Stop
namespace Go.Proofs.YtjcpngimjdckmaaGreat
open Go.AL Go.RowKit
theorem LO (ts : List Int) (bd : List AL.Stmt) (pts : List Pnt) (s : Mc) (x : Pnt) (htl : ts.length ≤ 6) (hm : OkM s.cells) (hsl : s.slots.length = ts.length) (ho : x.op = 8) (hx : 0 ≤ x.x ∧ x.x < ts.length) : MC Tryz.prog 120 [.optr 0 0, iD x] [(0, some (mO ts bd pts 1 2 s)), (1, some (aI eV s.slots)), (2, some (aI cI s.read))] 3 (fun _ : Unit => True) (fun _ => iv (eX ts s x).2) (fun _ => [(0, some (mO ts bd pts 1 2 (eX ts s x).1)), (1, some (aI eV (eX ts s x).1.slots)), (2, some (aI cI (eX ts s x).1.read))]) := by
 have hus := iP ts bd pts x htl
 have hsm : Sm (wS ts x [1, 2, 3]) := dJ (by omega)
 obtain ⟨L, hL⟩ : ∃ L, L = cS (wS ts x [1, 2, 3]) := ⟨_, rfl⟩
 have hLl : L.length ≤ 62 := by rw [hL]; exact dY _
 have hmem : ∀ k, k < L.length → 0 ≤ L[k]! ∧ L[k]! < s.slots.length := fun k hk => by
  rw [hsl]; exact g9 (by rw [← hL]; exact bY _ _ hk)
 (refine b0 Tryz.func120 rfl (by simp [Tryz.ntmps120]) ?_; rw [Tryz.ntmps120])
 repeat' (first|(apply aM;first|((with_reducible apply aJ (k := 151));(case ha => rfl);(case h => exact hus);(case hp => (exact Pur.pf));(case hN => rfl))|(apply aE;rfl;rfl)|(first|(apply aK;rfl;rfl;rfl;rfl)|(apply aX;rfl;rfl;(exact (rfl:_=[_, _, _, _, _]));rfl;rfl;rfl))|(apply aD;rfl;rfl;rfl)|(apply aC;rfl;rfl)|((with_reducible apply aJ (k := 100));(case ha => rfl);(case h => (apply g8 <;> (assumption)));(case hp => (rfl));(case hN => rfl))|(apply a9;rfl;rfl;rfl)|(apply aF;kernel_rfl)|(apply bU;rfl;rfl;rfl)|(apply bW;rfl;rfl;rfl;rfl))|(apply aN;first|apply aH|apply aB|(apply bZ;kernel_rfl)|apply aL)|with_reducible apply aA)
 rw [← hL]
 refine a7 (σ := Nat) [0, 3, 26, 27] [(0, _), (3, _), (26, _), (27, _)] [0, 1, 2, 3] [(0, some _), (1, some _), (2, some _), (3, some _)] (fun k => [(28, iv (k : Int))]) (fun k => []) (fun k => k ≤ L.length ∧ ∀ j, j < k → s.slots[(L[j]!).toNat]!.set = true) (fun k => L.length - k) (0) ⟨Nat.zero_le _, fun j h => absurd h (by omega)⟩ rfl rfl (by repeat' (first|exact trivial|refine And.intro rfl ?_)) (by repeat' (exact trivial)) ?_
 rintro k ⟨hk, hall⟩
 by_cases hkn : k < L.length
 ·have hmk := hmem k hkn
  repeat' (first|(apply aM;first|(apply aE;rfl;rfl)|(first|(apply cV;(case hx|hH => rfl);(case hf|hg|hα => infer_instance);(case hk => omega);(case hc|hN => rfl))|(apply aK;rfl;rfl;rfl;rfl))|(apply aD;rfl;rfl;rfl)|(first|(apply bR;rfl;rfl;omega;rfl)|(apply aR;rfl;rfl;rfl;rfl))|(apply aC;rfl;rfl)|(first|(apply a6;(case hx|hi => rfl);(case hm => (assumption));(case hml => (rfl));(case hα | hf|hg => infer_instance);(case hN => rfl))|(apply cM;rfl;rfl;(omega);rfl))|(apply aF;kernel_rfl)|(apply cQ;rfl;rfl)|(apply bU;rfl;rfl;rfl))|(apply aN;first|apply aH|apply aB|(apply aO;rfl;all_goals intro hc;have hq:=hc;(try simp only [cK] at hq);try exfalso;omega)|apply aL|apply aS|apply aQ)|with_reducible apply aA|with_reducible apply bJ|with_reducible apply aV|with_reducible apply cY)
  ·have hu : cX ts s x = true := (dP htl).2 ⟨L[k]!, by rw [← hL]; exact bY _ _ hkn, by assumption⟩
   rw [uQ hu]
   (refine aP rfl ?_; refine bV () trivial ?_ ⟨.inr (Eq.trans (b := some _) rfl ?_), ⟨.inr (Eq.trans (b := some _) rfl ?_), ⟨.inr (Eq.trans (b := some _) rfl ?_), trivial⟩⟩⟩)
   ·rfl
   ·rfl
   ·rfl
   ·rfl
  ·(apply dV (k + 1); focus (refine Le.ren [(3, 3)] rfl (by decide) ?_ ?_ <;> repeat' (first | exact trivial | refine And.intro ⟨_, rfl, ?_⟩ ?_ | refine And.intro ⟨_, _, rfl, rfl, ?_⟩ ?_ | exact Or.inr rfl | refine Or.inl ⟨?_, (by first | rfl | exact aZ _ _ | exact Pur.pf)⟩ | refine Or.inr (All2.cons ?_ ?_) | refine All2.cons ?_ ?_ | exact All2.nil | rfl)))
   ·refine ⟨by omega, fun j hj => ?_⟩
    rcases Nat.lt_or_ge j k with h|h
    ·exact hall j h
    ·rw [show j = k by omega]; assumption
   ·omega
 ·have hu : cX ts s x = false := by
   cases q : cX ts s x with
   | false => rfl
   | true =>
    obtain ⟨v, hv, hs⟩ := (dP htl).1 q
    rw [← hL] at hv
    obtain ⟨j, hj, e⟩ := List.getElem_of_mem hv
    have h1 := hall j (by omega)
    rw [cL _ _ hj, e, hs] at h1;cases h1
  rw [qO hu]
  have hfr := Fw ts bd pts s x.x hm hsl hx
  have hd : cO ts s x = (⟨s.slots.set x.x.toNat iT, jB s.cells s.slots[x.x.toNat]!.ptr, s.read⟩, lL (cR s.cells s.slots[x.x.toNat]!.ptr true)) := by unfold cO;rw [if_neg (show ¬ x.op = 1 by omega), if_neg (show ¬ x.op = 2 by omega), if_neg (show ¬ x.op = 3 by omega), if_neg (show ¬ (x.op = 4 ∨ x.op = 5) by omega), if_neg (show ¬ x.op = 6 by omega), if_neg (show ¬ x.op = 7 by omega), if_pos ho]
  rw [hd]
  repeat' (first|(apply aM;first|((apply El (ts := ts) (bd := bd) (pts := pts) (s := s) (v := x.x));(case ha0|ha1|hH0|hH1|hH2|hdd => rfl);(case hmc => exact hfr);(case hM|hN => rfl))|(apply aE;rfl;rfl)|(apply aK;rfl;rfl;rfl;rfl)|(apply aD;rfl;rfl;rfl)|(apply aR;rfl;rfl;rfl;rfl)|(apply aC;rfl;rfl)|(apply cM;rfl;rfl;(assumption);rfl)|(apply aF;kernel_rfl)|(apply b9;rfl;(exact (rfl:_=some [_, _, _, _]));(exact (rfl:_=[_, _, _, _]));rfl)|(apply bU;rfl;rfl;rfl)|(apply aW;rfl;rfl;rfl;rfl;rfl;(rw [aU]; simp only [hZ] <;> omega);(exact C1 (by (omega)))))|(apply aN;first|apply aH|apply aB|(apply bZ;kernel_rfl)|(apply aO;rfl;all_goals intro hc;have hq:=hc;(try simp only [cK] at hq);try exfalso;omega)|apply aL|apply bF|apply aQ)|with_reducible apply aA|with_reducible apply bJ|with_reducible apply bE|with_reducible apply cY|with_reducible apply bG)
  (refine aP rfl ?_; refine bV () trivial ?_ ⟨.inr (Eq.trans (b := some _) rfl ?_), ⟨.inr (Eq.trans (b := some _) rfl ?_), ⟨.inr (Eq.trans (b := some _) rfl ?_), trivial⟩⟩⟩)
  ·rfl
  ·rfl
  ·rfl
  ·rfl
theorem Lm (ts : List Int) (bd : List AL.Stmt) (pts : List Pnt) (s : Mc) (x : Pnt) (htl : ts.length ≤ 6) (hm : OkM s.cells) (hsl : s.slots.length = ts.length) (ho : x.op = 9 ∨ x.op = 10 ∨ x.op = 11) : MC Tryz.prog 120 [.optr 0 0, iD x] [(0, some (mO ts bd pts 1 2 s)), (1, some (aI eV s.slots)), (2, some (aI cI s.read))] 3 (fun _ : Unit => True) (fun _ => iv (eX ts s x).2) (fun _ => [(0, some (mO ts bd pts 1 2 (eX ts s x).1)), (1, some (aI eV (eX ts s x).1.slots)), (2, some (aI cI (eX ts s x).1.read))]) := by
 have hus := iP ts bd pts x htl
 have hsm : Sm (wS ts x [1, 2, 3]) := dJ (by omega)
 obtain ⟨L, hL⟩ : ∃ L, L = cS (wS ts x [1, 2, 3]) := ⟨_, rfl⟩
 have hLl : L.length ≤ 62 := by rw [hL]; exact dY _
 have hmem : ∀ k, k < L.length → 0 ≤ L[k]! ∧ L[k]! < s.slots.length := fun k hk => by
  rw [hsl]; exact g9 (by rw [← hL]; exact bY _ _ hk)
 (refine b0 Tryz.func120 rfl (by simp [Tryz.ntmps120]) ?_; rw [Tryz.ntmps120])
 repeat' (first|(apply aM;first|((with_reducible apply aJ (k := 151));(case ha => rfl);(case h => exact hus);(case hp => (exact Pur.pf));(case hN => rfl))|(apply aE;rfl;rfl)|(first|(apply aK;rfl;rfl;rfl;rfl)|(apply aX;rfl;rfl;(exact (rfl:_=[_, _, _, _, _]));rfl;rfl;rfl))|(apply aD;rfl;rfl;rfl)|(apply aC;rfl;rfl)|((with_reducible apply aJ (k := 100));(case ha => rfl);(case h => (apply g8 <;> (assumption)));(case hp => (rfl));(case hN => rfl))|(apply a9;rfl;rfl;rfl)|(apply aF;kernel_rfl)|(apply bU;rfl;rfl;rfl)|(apply bW;rfl;rfl;rfl;rfl))|(apply aN;first|apply aH|apply aB|(apply bZ;kernel_rfl)|apply aL)|with_reducible apply aA)
 rw [← hL]
 refine a7 (σ := Nat) [0, 3, 26, 27] [(0, _), (3, _), (26, _), (27, _)] [0, 1, 2, 3] [(0, some _), (1, some _), (2, some _), (3, some _)] (fun k => [(28, iv (k : Int))]) (fun k => []) (fun k => k ≤ L.length ∧ ∀ j, j < k → s.slots[(L[j]!).toNat]!.set = true) (fun k => L.length - k) (0) ⟨Nat.zero_le _, fun j h => absurd h (by omega)⟩ rfl rfl (by repeat' (first|exact trivial|refine And.intro rfl ?_)) (by repeat' (exact trivial)) ?_
 rintro k ⟨hk, hall⟩
 by_cases hkn : k < L.length
 ·have hmk := hmem k hkn
  repeat' (first|(apply aM;first|(apply aE;rfl;rfl)|(first|(apply cV;(case hx|hH => rfl);(case hf|hg|hα => infer_instance);(case hk => omega);(case hc|hN => rfl))|(apply aK;rfl;rfl;rfl;rfl))|(apply aD;rfl;rfl;rfl)|(first|(apply bR;rfl;rfl;omega;rfl)|(apply aR;rfl;rfl;rfl;rfl))|(apply aC;rfl;rfl)|(first|(apply a6;(case hx|hi => rfl);(case hm => (assumption));(case hml => (rfl));(case hα | hf|hg => infer_instance);(case hN => rfl))|(apply cM;rfl;rfl;(omega);rfl))|(apply aF;kernel_rfl)|(apply cQ;rfl;rfl)|(apply bU;rfl;rfl;rfl))|(apply aN;first|apply aH|apply aB|(apply aO;rfl;all_goals intro hc;have hq:=hc;(try simp only [cK] at hq);try exfalso;omega)|apply aL|apply aS|apply aQ)|with_reducible apply aA|with_reducible apply bJ|with_reducible apply aV|with_reducible apply cY)
  ·have hu : cX ts s x = true := (dP htl).2 ⟨L[k]!, by rw [← hL]; exact bY _ _ hkn, by assumption⟩
   rw [uQ hu]
   (refine aP rfl ?_; refine bV () trivial ?_ ⟨.inr (Eq.trans (b := some _) rfl ?_), ⟨.inr (Eq.trans (b := some _) rfl ?_), ⟨.inr (Eq.trans (b := some _) rfl ?_), trivial⟩⟩⟩)
   ·rfl
   ·rfl
   ·rfl
   ·rfl
  ·(apply dV (k + 1); focus (refine Le.ren [(3, 3)] rfl (by decide) ?_ ?_ <;> repeat' (first | exact trivial | refine And.intro ⟨_, rfl, ?_⟩ ?_ | refine And.intro ⟨_, _, rfl, rfl, ?_⟩ ?_ | exact Or.inr rfl | refine Or.inl ⟨?_, (by first | rfl | exact aZ _ _ | exact Pur.pf)⟩ | refine Or.inr (All2.cons ?_ ?_) | refine All2.cons ?_ ?_ | exact All2.nil | rfl)))
   ·refine ⟨by omega, fun j hj => ?_⟩
    rcases Nat.lt_or_ge j k with h|h
    ·exact hall j h
    ·rw [show j = k by omega]; assumption
   ·omega
 ·have hu : cX ts s x = false := by
   cases q : cX ts s x with
   | false => rfl
   | true =>
    obtain ⟨v, hv, hs⟩ := (dP htl).1 q
    rw [← hL] at hv
    obtain ⟨j, hj, e⟩ := List.getElem_of_mem hv
    have h1 := hall j (by omega)
    rw [cL _ _ hj, e, hs] at h1;cases h1
  rw [qO hu]
  by_cases h11 : x.op = 11
  ·have hd : cO ts s x = dT ts ts.length 0 s := qG h11
   rw [hd]
   have hfi := JY ts bd pts s hm hsl (by omega)
   repeat' (first|(apply aM;first|((apply HK (ts := ts) (bd := bd) (pts := pts) (s := s));(case ha0|hH0|hH1|hH2|hdd => rfl);(case hmc => exact hfi);(case hM|hN => rfl))|(apply aE;rfl;rfl)|(apply aK;rfl;rfl;rfl;rfl)|(apply aD;rfl;rfl;rfl)|(apply aR;rfl;rfl;rfl;rfl)|(apply aC;rfl;rfl)|(apply aF;kernel_rfl))|(apply aN;first|apply aH|apply aB|(apply aO;rfl;all_goals intro hc;have hq:=hc;(try simp only [cK] at hq);try exfalso;omega)|apply aL|apply bF|apply aQ)|with_reducible apply aA|with_reducible apply bJ|with_reducible apply bE|with_reducible apply cY|with_reducible apply bG)
   (refine aP rfl ?_; refine bV () trivial ?_ ⟨.inr (Eq.trans (b := some _) rfl ?_), ⟨.inr (Eq.trans (b := some _) rfl ?_), ⟨.inr (Eq.trans (b := some _) rfl ?_), trivial⟩⟩⟩)
   ·rfl
   ·rfl
   ·rfl
   ·rfl
  ·have hd : cO ts s x = (s, -1) := by unfold cO; rw [if_neg (show ¬ x.op = 1 by omega), if_neg (show ¬ x.op = 2 by omega), if_neg (show ¬ x.op = 3 by omega), if_neg (show ¬ (x.op = 4 ∨ x.op = 5) by omega), if_neg (show ¬ x.op = 6 by omega), if_neg (show ¬ x.op = 7 by omega), if_neg (show ¬ x.op = 8 by omega), if_neg (show ¬ x.op = 11 by omega)]
   rw [hd]
   repeat' (first|(apply aM;first|(apply aK;rfl;rfl;rfl;rfl)|(apply aD;rfl;rfl;rfl)|(apply aR;rfl;rfl;rfl;rfl)|(apply aC;rfl;rfl)|(apply aF;kernel_rfl))|(apply aN;first|apply aH|apply aB|(apply aO;rfl;all_goals intro hc;have hq:=hc;(try simp only [cK] at hq);try exfalso;omega)|apply aL|apply aS|apply bF|apply aQ)|with_reducible apply aA|with_reducible apply bE|with_reducible apply aV|with_reducible apply bG)
   (refine aP rfl ?_; refine bV () trivial ?_ ⟨.inr (Eq.trans (b := some _) rfl ?_), ⟨.inr (Eq.trans (b := some _) rfl ?_), ⟨.inr (Eq.trans (b := some _) rfl ?_), trivial⟩⟩⟩)
   ·rfl
   ·rfl
   ·rfl
   ·rfl
theorem Kk (ts : List Int) (bd : List AL.Stmt) (pts : List Pnt) (s : Mc) (x : Pnt) (htl : ts.length ≤ 6) (hm : OkM s.cells) (hsl : s.slots.length = ts.length) (ho : x.op = 6) (hrl : s.read.length ≤ 1000) (hx : 0 ≤ x.x ∧ x.x < ts.length) (hy : 0 ≤ x.y ∧ x.y < ts.length) (hz : cR s.cells s.slots[x.y.toNat]!.ptr false = 0) (hun : cX ts s x = false) : MC Tryz.prog 120 [.optr 0 0, iD x] [(0, some (mO ts bd pts 1 2 s)), (1, some (aI eV s.slots)), (2, some (aI cI s.read))] 3 (fun _ : Unit => True) (fun _ => iv (eX ts s x).2) (fun _ => [(0, some (mO ts bd pts 1 5 (eX ts s x).1)), (1, some (aI eV (eX ts s x).1.slots)), (5, some (aI cI (eX ts s x).1.read))]) := by
 have hus := iP ts bd pts x htl
 have hsm : Sm (wS ts x [1, 2, 3]) := dJ (by omega)
 obtain ⟨L, hL⟩ : ∃ L, L = cS (wS ts x [1, 2, 3]) := ⟨_, rfl⟩
 have hLl : L.length ≤ 62 := by rw [hL]; exact dY _
 have hmem : ∀ k, k < L.length → 0 ≤ L[k]! ∧ L[k]! < s.slots.length := fun k hk => by
  rw [hsl]; exact g9 (by rw [← hL]; exact bY _ _ hk)
 (refine b0 Tryz.func120 rfl (by simp [Tryz.ntmps120]) ?_; rw [Tryz.ntmps120])
 repeat' (first|(apply aM;first|((with_reducible apply aJ (k := 151));(case ha => rfl);(case h => exact hus);(case hp => (exact Pur.pf));(case hN => rfl))|(apply aE;rfl;rfl)|(first|(apply aK;rfl;rfl;rfl;rfl)|(apply aX;rfl;rfl;(exact (rfl:_=[_, _, _, _, _]));rfl;rfl;rfl))|(apply aD;rfl;rfl;rfl)|(apply aC;rfl;rfl)|((with_reducible apply aJ (k := 100));(case ha => rfl);(case h => (apply g8 <;> (assumption)));(case hp => (rfl));(case hN => rfl))|(apply a9;rfl;rfl;rfl)|(apply aF;kernel_rfl)|(apply bU;rfl;rfl;rfl)|(apply bW;rfl;rfl;rfl;rfl))|(apply aN;first|apply aH|apply aB|(apply bZ;kernel_rfl)|apply aL)|with_reducible apply aA)
 rw [← hL]
 refine a7 (σ := Nat) [0, 3, 26, 27] [(0, _), (3, _), (26, _), (27, _)] [0, 1, 2, 3] [(0, some _), (1, some _), (2, some _), (3, some _)] (fun k => [(28, iv (k : Int))]) (fun k => []) (fun k => k ≤ L.length ∧ ∀ j, j < k → s.slots[(L[j]!).toNat]!.set = true) (fun k => L.length - k) (0) ⟨Nat.zero_le _, fun j h => absurd h (by omega)⟩ rfl rfl (by repeat' (first|exact trivial|refine And.intro rfl ?_)) (by repeat' (exact trivial)) ?_
 rintro k ⟨hk, hall⟩
 by_cases hkn : k < L.length
 ·have hmk := hmem k hkn
  repeat' (first|(apply aM;first|(apply aE;rfl;rfl)|(first|(apply cV;(case hx|hH => rfl);(case hf|hg|hα => infer_instance);(case hk => omega);(case hc|hN => rfl))|(apply aK;rfl;rfl;rfl;rfl))|(apply aD;rfl;rfl;rfl)|(first|(apply bR;rfl;rfl;omega;rfl)|(apply aR;rfl;rfl;rfl;rfl))|(apply aC;rfl;rfl)|(first|(apply a6;(case hx|hi => rfl);(case hm => (assumption));(case hml => (rfl));(case hα | hf|hg => infer_instance);(case hN => rfl))|(apply cM;rfl;rfl;(omega);rfl))|(apply aF;kernel_rfl)|(apply cQ;rfl;rfl)|(apply bU;rfl;rfl;rfl))|(apply aN;first|apply aH|apply aB|(apply aO;rfl;all_goals intro hc;have hq:=hc;(try simp only [cK] at hq);try exfalso;omega)|apply aL|apply aS|apply aQ)|with_reducible apply aA|with_reducible apply bJ|with_reducible apply aV|with_reducible apply cY)
  ·exfalso
   have hu : cX ts s x = true := (dP htl).2 ⟨L[k]!, by rw [← hL]; exact bY _ _ hkn, by assumption⟩
   rw [hun] at hu;cases hu
  ·(apply dV (k + 1); focus (refine Le.ren [(3, 3)] rfl (by decide) ?_ ?_ <;> repeat' (first | exact trivial | refine And.intro ⟨_, rfl, ?_⟩ ?_ | refine And.intro ⟨_, _, rfl, rfl, ?_⟩ ?_ | exact Or.inr rfl | refine Or.inl ⟨?_, (by first | rfl | exact aZ _ _ | exact Pur.pf)⟩ | refine Or.inr (All2.cons ?_ ?_) | refine All2.cons ?_ ?_ | exact All2.nil | rfl)))
   ·refine ⟨by omega, fun j hj => ?_⟩
    rcases Nat.lt_or_ge j k with h|h
    ·exact hall j h
    ·rw [show j = k by omega]; assumption
   ·omega
 ·have hu : cX ts s x = false := by
   cases q : cX ts s x with
   | false => rfl
   | true =>
    obtain ⟨v, hv, hs⟩ := (dP htl).1 q
    rw [← hL] at hv
    obtain ⟨j, hj, e⟩ := List.getElem_of_mem hv
    have h1 := hall j (by omega)
    rw [cL _ _ hj, e, hs] at h1;cases h1
  rw [qO hu]
  have hrc := qF s.cells hm s.slots[x.y.toNat]!.ptr
  have hp := mG ts bd pts ⟨s.slots, fL s.cells s.slots[x.y.toNat]!.ptr false, s.read ++ [uK s.cells s.slots[x.y.toNat]!.ptr]⟩ x.x ⟨true, uK s.cells s.slots[x.y.toNat]!.ptr, ⟨0, 0⟩⟩ (hm.tch _ _) hsl hx
  have hd : cO ts s x = dM ts ⟨s.slots, fL s.cells s.slots[x.y.toNat]!.ptr false, s.read ++ [uK s.cells s.slots[x.y.toNat]!.ptr]⟩ x.x.toNat ⟨true, uK s.cells s.slots[x.y.toNat]!.ptr, ⟨0, 0⟩⟩ := by unfold cO;rw [if_neg (show ¬ x.op = 1 by omega), if_neg (show ¬ x.op = 2 by omega), if_neg (show ¬ x.op = 3 by omega), if_neg (show ¬ (x.op = 4 ∨ x.op = 5) by omega), if_pos ho, if_pos hz]
  rw [hd]
  rw [hz] at hrc
  repeat' (first|(apply aM;first|(apply jI;(case hx|hH => rfl);(case hf|hg|hα => infer_instance);(case hk => omega);(case hj => decide);(case hc => exact (rfl:_=[_, _]));(case h0|hN => rfl))|((with_reducible apply aJ (k := 157));(case ha => rfl);(case h => exact hrc);(case hp => (exact Pur.pf));(case hN => rfl))|(with_reducible apply dG (d := 184))|(apply aE;rfl;rfl)|(apply aK;rfl;rfl;rfl;rfl)|(apply aD;rfl;rfl;rfl)|(apply aR;rfl;rfl;rfl;rfl)|(apply aC;rfl;rfl)|(apply cM;rfl;rfl;(assumption);rfl)|(apply cF;rfl;rfl;rfl;rfl;rfl;(rw [aU]; omega);(rfl);omega;omega;(exact jD (by (omega)));rfl;rfl)|(apply aF;kernel_rfl)|(apply bU;rfl;rfl;rfl)|(apply cD;rfl;rfl;rfl)|((apply bQ (t := _));(case hze|hsm|hl => rfl);(case hfl => exact (rfl:_=some [_]));(case hM|hN => rfl))|(apply aW;rfl;rfl;rfl;rfl;rfl;(case hl => (simp;done));(exact (rfl:_=[_, _, _, _]))))|(apply aN;first|apply aH|apply aB|(apply bZ;kernel_rfl)|(apply cH;rfl;(rfl))|(apply aO;rfl;all_goals intro hc;have hq:=hc;(try simp only [cK] at hq);try exfalso;omega)|apply aL|apply aS|apply bF)|with_reducible apply aA|with_reducible apply bE|with_reducible apply bG)
  refine fA ?_
  rw [show s.read.length + 1 = (s.read ++ [uK s.cells s.slots[x.y.toNat]!.ptr]).length from by rw [List.length_append]; rfl]
  repeat' (first|(apply aM;first|((apply kJ (ts := ts) (bd := bd) (pts := pts) (s := ⟨s.slots, fL s.cells s.slots[x.y.toNat]!.ptr false, s.read ++ [uK s.cells s.slots[x.y.toNat]!.ptr]⟩) (v := x.x) (y := ⟨true, uK s.cells s.slots[x.y.toNat]!.ptr, ⟨0, 0⟩⟩));(case ha0|ha1|ha2|hH0|hH1|hH2|hdd => rfl);(case hmc => exact hp);(case hM|hN => rfl))|(apply aE;rfl;rfl)|(apply aK;rfl;rfl;rfl;rfl)|(apply aD;rfl;rfl;rfl)|(apply aC;rfl;rfl)|(apply aF;kernel_rfl)|(apply b9;rfl;(exact (rfl:_=some [_, _, _, _]));(exact (rfl:_=[_, _, _, _]));rfl))|(apply aN;(apply aQ))|with_reducible apply aA|with_reducible apply bJ|with_reducible apply cY)
  (refine aP rfl ?_; refine bV () trivial ?_ ⟨.inr (Eq.trans (b := some _) rfl ?_), ⟨.inr (Eq.trans (b := some _) rfl ?_), ⟨.inr (Eq.trans (b := some _) rfl ?_), trivial⟩⟩⟩)
  ·rfl
  ·rfl
  ·rfl
  ·rfl
theorem LZ (ts : List Int) (bd : List AL.Stmt) (pts : List Pnt) (s : Mc) (x : Pnt) (htl : ts.length ≤ 6) (hm : OkM s.cells) (hsl : s.slots.length = ts.length) (hun : cX ts s x = true) : MC Tryz.prog 120 [.optr 0 0, iD x] [(0, some (mO ts bd pts 1 2 s)), (1, some (aI eV s.slots)), (2, some (aI cI s.read))] 3 (fun _ : Unit => True) (fun _ => iv (eX ts s x).2) (fun _ => [(0, some (mO ts bd pts 1 2 (eX ts s x).1)), (1, some (aI eV (eX ts s x).1.slots)), (2, some (aI cI (eX ts s x).1.read))]) := by
 have hus := iP ts bd pts x htl
 have hsm : Sm (wS ts x [1, 2, 3]) := dJ (by omega)
 obtain ⟨L, hL⟩ : ∃ L, L = cS (wS ts x [1, 2, 3]) := ⟨_, rfl⟩
 have hLl : L.length ≤ 62 := by rw [hL]; exact dY _
 have hmem : ∀ k, k < L.length → 0 ≤ L[k]! ∧ L[k]! < s.slots.length := fun k hk => by
  rw [hsl]; exact g9 (by rw [← hL]; exact bY _ _ hk)
 (refine b0 Tryz.func120 rfl (by simp [Tryz.ntmps120]) ?_; rw [Tryz.ntmps120])
 repeat' (first|(apply aM;first|((with_reducible apply aJ (k := 151));(case ha => rfl);(case h => exact hus);(case hp => (exact Pur.pf));(case hN => rfl))|(apply aE;rfl;rfl)|(first|(apply aK;rfl;rfl;rfl;rfl)|(apply aX;rfl;rfl;(exact (rfl:_=[_, _, _, _, _]));rfl;rfl;rfl))|(apply aD;rfl;rfl;rfl)|(apply aC;rfl;rfl)|((with_reducible apply aJ (k := 100));(case ha => rfl);(case h => (apply g8 <;> (assumption)));(case hp => (rfl));(case hN => rfl))|(apply a9;rfl;rfl;rfl)|(apply aF;kernel_rfl)|(apply bU;rfl;rfl;rfl)|(apply bW;rfl;rfl;rfl;rfl))|(apply aN;first|apply aH|apply aB|(apply bZ;kernel_rfl)|apply aL)|with_reducible apply aA)
 rw [← hL]
 refine a7 (σ := Nat) [0, 3, 26, 27] [(0, _), (3, _), (26, _), (27, _)] [0, 1, 2, 3] [(0, some _), (1, some _), (2, some _), (3, some _)] (fun k => [(28, iv (k : Int))]) (fun k => []) (fun k => k ≤ L.length ∧ ∀ j, j < k → s.slots[(L[j]!).toNat]!.set = true) (fun k => L.length - k) (0) ⟨Nat.zero_le _, fun j h => absurd h (by omega)⟩ rfl rfl (by repeat' (first|exact trivial|refine And.intro rfl ?_)) (by repeat' (exact trivial)) ?_
 rintro k ⟨hk, hall⟩
 by_cases hkn : k < L.length
 ·have hmk := hmem k hkn
  repeat' (first|(apply aM;first|(apply aE;rfl;rfl)|(first|(apply cV;(case hx|hH => rfl);(case hf|hg|hα => infer_instance);(case hk => omega);(case hc|hN => rfl))|(apply aK;rfl;rfl;rfl;rfl))|(apply aD;rfl;rfl;rfl)|(first|(apply bR;rfl;rfl;omega;rfl)|(apply aR;rfl;rfl;rfl;rfl))|(apply aC;rfl;rfl)|(first|(apply a6;(case hx|hi => rfl);(case hm => (assumption));(case hml => (rfl));(case hα | hf|hg => infer_instance);(case hN => rfl))|(apply cM;rfl;rfl;(omega);rfl))|(apply aF;kernel_rfl)|(apply cQ;rfl;rfl)|(apply bU;rfl;rfl;rfl))|(apply aN;first|apply aH|apply aB|(apply aO;rfl;all_goals intro hc;have hq:=hc;(try simp only [cK] at hq);try exfalso;omega)|apply aL|apply aS|apply aQ)|with_reducible apply aA|with_reducible apply bJ|with_reducible apply aV|with_reducible apply cY)
  ·have hu : cX ts s x = true := (dP htl).2 ⟨L[k]!, by rw [← hL]; exact bY _ _ hkn, by assumption⟩
   rw [uQ hu]
   (refine aP rfl ?_; refine bV () trivial ?_ ⟨.inr (Eq.trans (b := some _) rfl ?_), ⟨.inr (Eq.trans (b := some _) rfl ?_), ⟨.inr (Eq.trans (b := some _) rfl ?_), trivial⟩⟩⟩)
   ·rfl
   ·rfl
   ·rfl
   ·rfl
  ·(apply dV (k + 1); focus (refine Le.ren [(3, 3)] rfl (by decide) ?_ ?_ <;> repeat' (first | exact trivial | refine And.intro ⟨_, rfl, ?_⟩ ?_ | refine And.intro ⟨_, _, rfl, rfl, ?_⟩ ?_ | exact Or.inr rfl | refine Or.inl ⟨?_, (by first | rfl | exact aZ _ _ | exact Pur.pf)⟩ | refine Or.inr (All2.cons ?_ ?_) | refine All2.cons ?_ ?_ | exact All2.nil | rfl)))
   ·refine ⟨by omega, fun j hj => ?_⟩
    rcases Nat.lt_or_ge j k with h|h
    ·exact hall j h
    ·rw [show j = k by omega]; assumption
   ·omega
 ·have hu : cX ts s x = false := by
   cases q : cX ts s x with
   | false => rfl
   | true =>
    obtain ⟨v, hv, hs⟩ := (dP htl).1 q
    rw [← hL] at hv
    obtain ⟨j, hj, e⟩ := List.getElem_of_mem hv
    have h1 := hall j (by omega)
    rw [cL _ _ hj, e, hs] at h1;cases h1
  rw [qO hu]
  rw [hun] at hu;cases hu
theorem I8 {ts : List Int} {bd : List AL.Stmt} {pts : List Pnt} {s : Mc} {x : Pnt} {N : Nat} {Q : Exit → AS → Prop} {all : Array Oper} {rest : List Oper} {tsl : List (Nat × AV)} {hsl : List (Nat × Option (List AV))} {nidl : Nat} {z0 : Lo} {md : Md} {d : Nat} {ty : TypeId} {pos : String} {af : Array Edge} {tys : Array TypeId} {x0 x1 : Operand} {i0 i1 i2 : Nat} (ha0 : ev (lk tsl) x0 = some (.optr i0 0)) (ha1 : ev (lk tsl) x1 = some (iD x)) (hH0 : cE hsl i0 = some (mO ts bd pts i1 i2 s)) (hH1 : cE hsl i1 = some (aI eV s.slots)) (hH2 : cE hsl i2 = some (aI cI s.read)) (hdd : Go.AL.distinct [i0, i1, i2] = true) (hmc : MC Tryz.prog 120 [.optr 0 0, iD x] [(0, some (mO ts bd pts 1 2 s)), (1, some (aI eV s.slots)), (2, some (aI cI s.read))] 3 (fun _ : Unit => True) (fun _ => iv (eX ts s x).2) (fun _ => [(0, some (mO ts bd pts 1 5 (eX ts s x).1)), (1, some (aI eV (eX ts s x).1.slots)), (5, some (aI cI (eX ts s x).1.read))])) (hM : Nat.ble (nidl + 3) fD = true) (hN : Nat.blt d N = true) {md' : Md} [hmd : MdA md (gS [x0, x1] ++ [.inr i0, .inr i1, .inr i2]) (List.map Sum.inr (List.map Prod.fst ([(i0, some (mO ts bd pts i1 (nidl + 2) (eX ts s x).1)), (i1, some (aI eV (eX ts s x).1.slots)), ((nidl + 2), some (aI cI (eX ts s x).1.read)), (i2, none)] : List (Nat × Option (List AV)))) ++ [.inl d]) md'] (kk : RW Tryz.prog N all Q md' rest ⟨(d, iv (eX ts s x).2) :: tsl, iK hsl [(i0, some (mO ts bd pts i1 (nidl + 2) (eX ts s x).1)), (i1, some (aI eV (eX ts s x).1.slots)), ((nidl + 2), some (aI cI (eX ts s x).1.read)), (i2, none)], nidl + 3, z0⟩) : RW Tryz.prog N all Q md (⟨some d, .call ⟨.value (.func 120), #[x0, x1], tys⟩, ty, pos, af, none⟩ :: rest) ⟨tsl, hsl, nidl, z0⟩ := by
 refine cJ [i0, i1, i2] 6 [(i0, some (mO ts bd pts i1 (nidl + 2) (eX ts s x).1)), (i1, some (aI eV (eX ts s x).1.slots)), ((nidl + 2), some (aI cI (eX ts s x).1.read)), (i2, none)] hmc (avs := [.optr i0 0, iD x]) ?_ hdd ?_ rfl ?_ (by simpa using hM) ?_ ?_ ?_ hN (md' := md') (hmd := hmd) kk
 ·show evL (lk tsl) [x0, x1] = _
  simp only [evL, ha0, ha1]
 ·exact ⟨⟨_, _, rfl, hH0, by (repeat' (first|exact RnL.purI inferInstance|exact RnV.purI inferInstance|exact RnV.own rfl|refine RnL.cons ?_ ?_))⟩, ⟨⟨_, _, rfl, hH1, by (repeat' (exact RnL.purI inferInstance))⟩, ⟨⟨_, _, rfl, hH2, by (repeat' (exact RnL.purI inferInstance))⟩, trivial⟩⟩⟩
 ·(repeat' (first|exact RnL.purI inferInstance|exact RnV.optr rfl|refine RnL.cons ?_ ?_))
 ·(repeat' (exact RnV.purI inferInstance))
 ·simp [dQ]
 ·(repeat' (first|exact trivial|(refine And.intro ⟨0, _, rfl, rfl, ?_⟩ ?_)|(refine And.intro ⟨1, _, rfl, rfl, ?_⟩ ?_)|(refine And.intro ⟨5, _, rfl, rfl, ?_⟩ ?_)|exact RnL.purI inferInstance|exact RnV.purI inferInstance|exact RnV.own rfl|refine RnL.cons ?_ ?_))
theorem LC (ts : List Int) (bd : List AL.Stmt) (pts : List Pnt) (s : Mc) (x : Pnt) (htl : ts.length ≤ 6) (hm : OkM s.cells) (hsl : s.slots.length = ts.length) (hop : 1 ≤ x.op ∧ x.op ≤ 11) (hrl : s.read.length ≤ 1000)
  (hx : x.op ≤ 8 → 0 ≤ x.x ∧ x.x < ts.length) (hy : 3 ≤ x.op → x.op ≤ 7 → 0 ≤ x.y ∧ x.y < ts.length) (hn : x.op = 2 → 0 ≤ x.n ∧ x.n ≤ 9) (h6 : ¬ (x.op = 6 ∧ cR s.cells s.slots[x.y.toNat]!.ptr false = 0 ∧ cX ts s x = false)) : MC Tryz.prog 120 [.optr 0 0, iD x] [(0, some (mO ts bd pts 1 2 s)), (1, some (aI eV s.slots)), (2, some (aI cI s.read))] 3 (fun _ : Unit => True) (fun _ => iv (eX ts s x).2) (fun _ => [(0, some (mO ts bd pts 1 2 (eX ts s x).1)), (1, some (aI eV (eX ts s x).1.slots)), (2, some (aI cI (eX ts s x).1.read))]) := by
 by_cases h1 : x.op = 1
 ·exact Lj ts bd pts s x htl hm hsl h1 (hx (by omega))
 by_cases h2 : x.op = 2
 ·exact K7 ts bd pts s x htl hm hsl h2 (hn h2) (hx (by omega))
 by_cases h3 : x.op = 3
 ·exact L5 ts bd pts s x htl hm hsl h3 (hx (by omega)) (hy (by omega) (by omega))
 by_cases h4 : x.op = 4 ∨ x.op = 5
 ·exact Ks ts bd pts s x htl hm hsl h4 (hx (by omega)) (hy (by omega) (by omega))
 by_cases h6' : x.op = 6
 ·by_cases hu : cX ts s x = true
  ·exact LZ ts bd pts s x htl hm hsl hu
  ·exact Lc ts bd pts s x htl hm hsl h6' hrl (hx (by omega)) (hy (by omega) (by omega)) (fun q => h6 ⟨h6', q, by simpa using hu⟩)
 by_cases h7 : x.op = 7
 ·exact Lz ts bd pts s x htl hm hsl h7 (hx (by omega)) (hy (by omega) (by omega))
 by_cases h8 : x.op = 8
 ·exact LO ts bd pts s x htl hm hsl h8 (hx (by omega))
 ·exact Lm ts bd pts s x htl hm hsl (by omega)
theorem Bm (x : Pnt) (h : x.next.length ≤ 1000000) : PC Tryz.prog 150 [iD x] (fun r => r = bv (decide (x.next.length = 2))) := by
 (refine aT Tryz.func150 rfl (by simp [Tryz.ntmps150]) ?_; rw [Tryz.ntmps150])
 repeat' (first|(apply aM;first|(apply aK;rfl;rfl;rfl;rfl)|(apply aD;rfl;rfl;rfl)|(apply aR;rfl;rfl;rfl;rfl)|(apply aC;rfl;rfl)|(apply a9;rfl;rfl;rfl)|(apply aF;kernel_rfl)|(apply bW;rfl;rfl;rfl;rfl))|(apply aN;first|apply aH|apply aB|apply aQ)|with_reducible apply aA)
 refine aP rfl ⟨?_, rfl⟩
 simp only [bX, AV.v.injEq, Value.bool.injEq, decide_eq_decide]; omega
theorem Lk {pts : List Pnt} {a : Nat} {C : List Int} (h : pts[a]!.next.length = 2) (hC : 0 < C.length) : eS pts a C = ((pts[a]!.next[(C[0]! % 2).toNat]!).toNat, C.drop 1) := by
 cases C with
 | nil => simp at hC
 | cons c C => unfold eS;rw [if_pos h]; rfl
theorem LU {pts : List Pnt} {a : Nat} (h : pts[a]!.next.length = 2) : eS pts a [] = ((pts[a]!.next[1]!).toNat, []) := by unfold eS; rw [if_pos h]
theorem GZ {pts : List Pnt} {n a b : Nat} {out C C2 : List Int} {q : List Int × Bool} (h : ¬ pts[a]!.op = 11) (ho : out.length ≤ n) (hs : eS pts a C = (b, C2)) (hq : q = (out ++ (wm pts (n - out.length) a C).1, (wm pts (n - out.length) a C).2)) :
  ((out ++ [(a : Int)]).length ≤ n ∧ q = ((out ++ [(a : Int)]) ++ (wm pts (n - (out ++ [(a : Int)]).length) b C2).1, (wm pts (n - (out ++ [(a : Int)]).length) b C2).2)) ∨ ((out ++ [(a : Int)]).length = n + 1 ∧ q = ((out ++ [(a : Int)]).take n, false)) := by
 have hl : (out ++ [(a : Int)]).length = out.length + 1 := by rw [List.length_append]; rfl
 rcases Nat.lt_or_ge out.length n with h1|h1
 ·exact .inl ⟨by omega, IA h h1 hs hq⟩
 ·refine .inr ⟨by omega, ?_⟩
  have e : out.length = n := by omega
  rw [hq, e, Nat.sub_self, KF h, ← e, List.take_left' rfl, List.append_nil]
theorem Kt (ts : List Int) (bd : List AL.Stmt) (pts : List Pnt) (cs : List Int) (n : Nat) (w : WG ts pts) (wa : WA ts pts) (hn : n ≤ 1000) (hcl : cs.length ≤ 1000000) : PC Tryz.prog 119 [aG ts bd pts, sl cI cs, iv (n : Int)] (fun r => r = .tup [sl cI (wm pts n 0 cs).1, bv (wm pts n 0 cs).2]) := by
 have hpl := w.pl
 have hp0 := w.p0
 (refine aT Tryz.func119 rfl (by simp [Tryz.ntmps119]) ?_; rw [Tryz.ntmps119])
 repeat' (first|(apply aM;first|((apply fU (d := 8) (e := 1));(case hM|hN => rfl))|(apply aC;rfl;rfl)|(apply aF;kernel_rfl))|(apply aN;first|apply aH|apply aB|apply aL)|with_reducible apply aA)
 refine a7 (σ := Int × List Int × Nat × List Int) [0, 2] [(0, _), (2, _)] [] [] (fun k => [(9, iv k.1), (1, sl cI k.2.2.2), (8, .own 0 0 k.2.2.1 1)]) (fun k => [(0, some (aI cI k.2.1))]) (fun k => (0 ≤ k.1 ∧ k.1 < pts.length) ∧ k.2.2.1 = k.2.1.length ∧ k.2.2.2.length ≤ 1000000 ∧ ((k.2.1.length ≤ n ∧ wm pts n 0 cs = (k.2.1 ++ (wm pts (n - k.2.1.length) k.1.toNat k.2.2.2).1, (wm pts (n - k.2.1.length) k.1.toNat k.2.2.2).2)) ∨ (k.2.1.length = n + 1 ∧ wm pts n 0 cs = (k.2.1.take n, false)))) (fun k => n + 1 - k.2.1.length) (0, [], 0, cs) ⟨⟨Int.le_refl _, by show (0 : Int) < _; omega⟩, rfl, hcl, .inl ⟨Nat.zero_le _, rfl⟩⟩ rfl rfl (by repeat' (first|exact trivial|refine And.intro rfl ?_)) (by repeat' (first|exact trivial|refine And.intro (.inr rfl) ?_)) ?_
 rintro ⟨a, out, m, C⟩ ⟨⟨ha0, ha⟩, hm, hC, hw⟩
 dsimp only at ha0 ha hm hC hw ⊢
 by_cases hout : out.length ≤ n
 ·have hw2 : wm pts n 0 cs = (out ++ (wm pts (n - out.length) a.toNat C).1, (wm pts (n - out.length) a.toNat C).2) := by
   rcases hw with h|h
   ·exact h.2
   ·omega
  have hat : (a.toNat : Int) = a := Int.toNat_of_nonneg ha0
  have hnx := w.nx a.toNat (by omega)
  have hnl := w.nl a.toNat (by omega)
  have hn1 := wa.n a.toNat (by omega)
  have hk : ∀ k, k < pts[a.toNat]!.next.length → 0 ≤ pts[a.toNat]!.next[k]! ∧ pts[a.toNat]!.next[k]! < pts.length := fun k h => hnx _ (bY _ _ h)
  have hch := Bm pts[a.toNat]! (by omega)
  repeat' (first|(apply aM;first|((with_reducible apply aJ (k := 150));(case ha => rfl);(case h => exact hch);(case hp => (exact Pur.pf));(case hN => rfl))|(apply Ii;rfl;rfl;rfl)|(apply aE;rfl;rfl)|(first|(apply aK;rfl;rfl;rfl;rfl)|(apply aX;rfl;rfl;(exact (rfl:_=[_, _, _, _, _]));rfl;rfl;rfl))|(apply aD;rfl;rfl;rfl)|(apply aR;rfl;rfl;rfl;rfl)|(apply aC;rfl;rfl)|(apply dA;(case hx|hi => rfl);(case hm => (omega));(case hml => (rfl));(case hα | hf|hg => infer_instance);(case hN => rfl))|(first|(apply a9;rfl;rfl;rfl)|(apply cF;rfl;rfl;rfl;rfl;rfl;(rw [aU]; omega);(rfl);omega;omega;(exact jD (by (assumption)));rfl;rfl))|(apply aF;kernel_rfl)|(apply wC;rfl;infer_instance;rfl;rfl;(omega);rfl)|(apply cQ;rfl;rfl)|(apply bU;rfl;rfl;rfl)|(apply bH;rfl;rfl)|((apply bQ (t := _));(case hze|hsm|hl => rfl);(case hfl => exact (rfl:_=some [_]));(case hM|hN => rfl))|(apply aW;rfl;rfl;rfl;rfl;rfl;(case hl => (simp;done));(exact (rfl:_=[_, _, _, _, _]))))|(apply aN;first|apply aH|apply aB|(apply bZ;kernel_rfl)|(apply aO;rfl;all_goals intro hc;have hq:=hc;(try simp only [cK] at hq);try exfalso;omega)|apply aL|apply aS|apply aQ)|with_reducible apply aA|with_reducible apply bJ|with_reducible apply aV|with_reducible apply cY)
  ·have hop : pts[a.toNat]!.op = 11 := by assumption
   have e : wm pts n 0 cs = (out ++ [a], true) := by rw [hw2, JZ hop, hat]
   rw [e]
   (refine cC (Le.frzD (d := 6) (i := 2) rfl rfl) ?_; refine aP rfl ?_)
   refine ⟨?_, (by (exact Pur.pf))⟩
   simp only [bX, sl]
   rw [hm, List.length_append]; rfl
  ·have hop : ¬ pts[a.toNat]!.op = 11 := by assumption
   have hst := GZ hop hout (K3 (by omega)) hw2
   rw [hat] at hst
   have hk := hk 0 (by omega)
   (apply dV (pts[a.toNat]!.next[0]!, _, _, C);focus (refine Le.ren [(0, 2)] rfl (by decide) ?_ ?_ <;> repeat' (first|exact trivial|refine And.intro ⟨_, rfl, ?_⟩ ?_|refine And.intro ⟨_, _, rfl, rfl, ?_⟩ ?_|exact Or.inr rfl|refine Or.inl ⟨?_, (by first|rfl|exact aZ _ _|exact Pur.pf)⟩|rfl)))
   ·exact ⟨hk, by dsimp only;rw [List.length_append, hm]; rfl, hC, hst⟩
   ·dsimp only;rw [List.length_append]; simp only [List.length_singleton]; omega
  ·have hop : ¬ pts[a.toNat]!.op = 11 := by assumption
   have hC0 : 0 < C.length := by omega
   have hst := GZ hop hout (Lk (by omega) hC0) hw2
   rw [hat] at hst
   have hk := hk (C[0]! % 2).toNat (by omega)
   have hCe : List.take (C.length - Int.toNat 1) (List.drop (Int.toNat 1) C) = C.drop 1 := List.take_of_length_le (by rw [List.length_drop]; exact Nat.le_refl _)
   rw [hCe]
   (apply dV (pts[a.toNat]!.next[(C[0]! % 2).toNat]!, _, _, C.drop 1);focus (refine Le.ren [(0, 2)] rfl (by decide) ?_ ?_ <;> repeat' (first|exact trivial|refine And.intro ⟨_, rfl, ?_⟩ ?_|refine And.intro ⟨_, _, rfl, rfl, ?_⟩ ?_|exact Or.inr rfl|refine Or.inl ⟨?_, (by first|rfl|exact aZ _ _|exact Pur.pf)⟩|rfl)))
   ·exact ⟨hk, by dsimp only;rw [List.length_append, hm]; rfl, by dsimp only;rw [List.length_drop]; omega, hst⟩
   ·dsimp only;rw [List.length_append]; simp only [List.length_singleton]; omega
  ·have hop : ¬ pts[a.toNat]!.op = 11 := by assumption
   have hC0 : C = [] := List.eq_nil_of_length_eq_zero (by omega)
   subst hC0
   have hst := GZ hop hout (LU (by omega)) hw2
   rw [hat] at hst
   have hk := hk 1 (by omega)
   (apply dV (pts[a.toNat]!.next[1]!, _, _, []);focus (refine Le.ren [(0, 2)] rfl (by decide) ?_ ?_ <;> repeat' (first|exact trivial|refine And.intro ⟨_, rfl, ?_⟩ ?_|refine And.intro ⟨_, _, rfl, rfl, ?_⟩ ?_|exact Or.inr rfl|refine Or.inl ⟨?_, (by first|rfl|exact aZ _ _|exact Pur.pf)⟩|rfl)))
   ·exact ⟨hk, by dsimp only;rw [List.length_append, hm]; rfl, hC, hst⟩
   ·dsimp only;rw [List.length_append]; simp only [List.length_singleton]; omega
 ·have hw2 : out.length = n + 1 ∧ wm pts n 0 cs = (out.take n, false) := by
   rcases hw with h|h
   ·omega
   ·exact h
  repeat' (first|(apply aM;first|((apply iH (d := 59) (l := 0) (h := n));(case hx|hn|hl => rfl);(case hh => exact o9 rfl (by omega));(case hp => exact if_pos (by omega));(case hN => rfl))|(apply aE;rfl;rfl)|(apply aR;rfl;rfl;rfl;rfl)|(apply aC;rfl;rfl)|(apply a9;rfl;rfl;rfl)|(apply aF;kernel_rfl))|(apply aN;first|apply aH|apply aB|(apply aO;rfl;all_goals intro hc;have hq:=hc;(try simp only [cK] at hq);try exfalso;omega)|apply bF|apply aQ)|with_reducible apply aA|with_reducible apply bE|with_reducible apply bG)
  refine cC (Le.cut (i := 0) (n * 1) rfl) ?_
  refine cC (Le.frzD (d := 6) (i := 0) rfl rfl) ?_
  rw [hw2.2, fB cI (e := 1)]
  refine aP (l := [.imm (n - 0) (aI cI (out.take n)), bv false]) rfl ⟨?_, (by (exact Pur.pf))⟩
  rw [lS (by rw [List.length_take]; omega)]
  rfl
theorem Hy {p : Prg} {cs : List Int} {n : Int} {N : Nat} {Q : Exit → AS → Prop} {all : Array Oper} {rest : List Oper} {tsl : List (Nat × AV)} {hsl : List (Nat × Option (List AV))} {nidl : Nat} {z0 : Lo} {md : Md} {d : Nat} {ty : TypeId} {pos : String} {af : Array Edge} {tys : Array TypeId} {x0 x1 x2 : Operand} (ha0 : ev (lk tsl) x0 = some (dS p)) (ha1 : ev (lk tsl) x1 = some (sl cI cs)) (ha2 : ev (lk tsl) x2 = some (iv n)) (hmc : MC Tryz.prog 67 [dS p, sl cI cs, iv n] [] 0 (fun _ : Unit => True) (fun _ => .tup [.optr 1 0, iv 5, iv 0]) (fun _ => [(1, some ([.v (.pointer none), .imm 0 [], .imm 0 [], .imm 0 []]))])) (hM : Nat.ble (nidl + 2) fD = true) (hN : Nat.blt d N = true) {md' : Md} [hmd : MdA md (gS [x0, x1, x2] ++ []) (List.map Sum.inr (List.map Prod.fst ([((nidl + 1), some ([.v (.pointer none), .imm 0 [], .imm 0 [], .imm 0 []]))] : List (Nat × Option (List AV)))) ++ [.inl d]) md'] (kk : RW Tryz.prog N all Q md' rest ⟨(d, .tup [.optr (nidl + 1) 0, iv 5, iv 0]) :: tsl, iK hsl [((nidl + 1), some ([.v (.pointer none), .imm 0 [], .imm 0 [], .imm 0 []]))], nidl + 2, z0⟩) : RW Tryz.prog N all Q md (⟨some d, .call ⟨.value (.func 67), #[x0, x1, x2], tys⟩, ty, pos, af, none⟩ :: rest) ⟨tsl, hsl, nidl, z0⟩ := by
 refine cJ [] 2 [((nidl + 1), some ([.v (.pointer none), .imm 0 [], .imm 0 [], .imm 0 []]))] hmc (avs := [dS p, sl cI cs, iv n]) ?_ rfl ?_ rfl ?_ (by simpa using hM) ?_ ?_ ?_ hN (md' := md') (hmd := hmd) kk
 ·show evL (lk tsl) [x0, x1, x2] = _
  simp only [evL, ha0, ha1, ha2]
 ·exact trivial
 ·(repeat' (exact RnL.purI inferInstance))
 ·(repeat' (first|exact RnL.purI inferInstance|exact RnV.optr rfl|refine RnL.cons ?_ ?_|refine RnV.tup ?_))
 ·simp [dQ]
 ·(repeat' (first|exact trivial|(refine And.intro ⟨1, _, rfl, rfl, ?_⟩ ?_)|exact RnL.purI inferInstance))
theorem Le.nilMid {ts : List (Nat × AV)} {hs : List (Nat × Option (List AV))} {n : Nat} {z0 : Lo} {i : Nat} (c1 : List AV) {c2 : List AV} (hi : cE hs i = some (c1 ++ .v (.slice none 0 0) :: c2)) :
  Le ⟨ts, hs, n, z0⟩ ⟨ts, (i, some (c1 ++ .imm 0 [] :: c2)) :: hs, n, z0⟩ :=
 Le.cells hi (by simp) fun w bad ι b β h => qR (fun y hy => by have := nD (av := .v (.slice none 0 0)) hy;exact this) c1 c2 b β h
theorem Ka {ts : List Int} {pts : List Pnt} {a last : Nat} {l : List Nat} {s : Mc} : gD ts pts (a :: l) s last = if (eX ts s pts[a]!).2 = -1 then gD ts pts l (eX ts s pts[a]!).1 a else ((eX ts s pts[a]!).1, (eX ts s pts[a]!).2, a) := by
 rw [gD]
 by_cases h : cX ts s pts[a]! = true
 ·rw [if_pos h, uQ h, if_neg (show ¬ (2 : Int) = -1 by decide)]
 ·have h2 : cX ts s pts[a]! = false := by simpa using h
  rw [if_neg h, qO h2]
theorem K9 {ts : List Int} {nt : Nat} {s : Mc} (h : OkS nt s) {x : Pnt} (hx : PtN x) : OkS nt (eX ts s x).1 := by
 unfold eX;split
 ·exact h
 ·exact h.do hx
theorem HN {ts : List Int} {s : Mc} {x : Pnt} : (eX ts s x).1.read.length ≤ s.read.length + 1 := by
 unfold eX;split
 ·dsimp only;omega
 ·exact zN
theorem Mg {ts : List Int} {s : Mc} {x : Pnt} (ho : x.op = 6) (hz : cR s.cells s.slots[x.y.toNat]!.ptr false = 0) (hu : cX ts s x = false) (ht : ts[x.x.toNat]! = 1) : (eX ts s x).2 = -1 := by
 rw [qO hu]
 unfold cO
 rw [if_neg (show ¬ x.op = 1 by omega), if_neg (show ¬ x.op = 2 by omega), if_neg (show ¬ x.op = 3 by omega), if_neg (show ¬ (x.op = 4 ∨ x.op = 5) by omega), if_pos ho, if_pos hz]
 unfold dM
 rw [if_neg (fun h => by have := h.1;omega)]
theorem KA (p : Prg) (cs : List Int) (n : Int) (hl : p.types.length ≤ 1000000) (hs : bT p.body ≤ 1000000) (hr : KJ p n = false) : MC Tryz.prog 67 [dS p, sl cI cs, iv n] [] 0 (fun _ : Unit => True) (fun _ => .tup [.optr 1 0, iv 5, iv 0]) (fun _ => [(1, some ([.v (.pointer none), .imm 0 [], .imm 0 [], .imm 0 []]))]) := by
 have hg := mN p hl hs
 unfold KJ at hr
 by_cases hv : dC p = true
 ·rw [if_pos hv] at hg
  rw [hv] at hr
  have hnn : ¬ (0 ≤ n ∧ n ≤ 150) := fun h => by rw [decide_eq_true h.1, decide_eq_true h.2] at hr;cases hr
  (refine b0 Tryz.func67 rfl (by simp [Tryz.ntmps67]) ?_; rw [Tryz.ntmps67])
  repeat' (first|(apply aM;first|((with_reducible apply aJ (k := 78));(case ha => rfl);(case h => exact hg);(case hp => (exact Pur.pf));(case hN => rfl))|(apply aE;rfl;rfl)|(apply aX;rfl;rfl;(exact (rfl:_=[_, _]));rfl;rfl;rfl)|(apply bB;rfl;rfl;rfl;(rfl))|(apply aC;rfl;rfl)|(apply bI;rfl;(rfl);rfl;rfl)|((with_reducible apply aJ (k := 50));(case ha => rfl);(case h => (apply dO <;> (fail)));(case hp => (rfl));(case hN => rfl))|(apply aF;kernel_rfl)|(apply b9;rfl;(exact (rfl:_=some [_, _, _, _]));(exact (rfl:_=[_, _, _, _]));rfl)|(apply cQ;rfl;rfl)|(apply bW;rfl;rfl;rfl;rfl)|(apply cD;rfl;rfl;rfl))|(apply aN;first|apply aH|apply aB|(apply aO;rfl;all_goals intro hc;have hq:=hc;(try simp only [cK] at hq);try exfalso;omega)|apply aQ)|with_reducible apply aA|with_reducible apply bJ)
  ·(refine aP rfl ?_; refine bV () trivial ?_ ⟨.inr (Eq.trans (b := some _) rfl ?_), trivial⟩)
   ·rfl
   ·rfl
 ·rw [if_neg hv] at hg
  (refine b0 Tryz.func67 rfl (by simp [Tryz.ntmps67]) ?_; rw [Tryz.ntmps67])
  repeat' (first|(apply aM;first|((with_reducible apply aJ (k := 78));(case ha => rfl);(case h => exact hg);(case hp => (exact Pur.pf));(case hN => rfl))|(apply aE;rfl;rfl)|(apply aX;rfl;rfl;(exact (rfl:_=[_, _]));rfl;rfl;rfl)|(apply bC;rfl;rfl;rfl;(rfl))|(apply aC;rfl;rfl)|(apply bS;rfl;(rfl);rfl;rfl)|(apply aF;kernel_rfl)|(apply b9;rfl;(exact (rfl:_=some [_, _, _, _]));(exact (rfl:_=[_, _, _, _]));rfl)|(apply cQ;rfl;rfl)|(apply bW;rfl;rfl;rfl;rfl)|(apply cD;rfl;rfl;rfl))|(apply aN;first|apply aH|apply aB|(apply b8;rfl;(rfl))|apply aQ)|with_reducible apply aA|with_reducible apply bJ)
  (refine aP rfl ?_; refine bV () trivial ?_ ⟨.inr (Eq.trans (b := some _) rfl ?_), trivial⟩)
  ·rfl
  ·rfl
theorem KE (p : Prg) (cs : List Int) (n : Nat) (q : Mc × Int × Nat) (hqq : q = dZ p.types (dF p) cs n) (hv : dC p = true) (hl : p.types.length ≤ 1000000) (hs : bT p.body ≤ 1000000) (hn : n ≤ 150) (hcl : cs.length ≤ 1000000) : MC Tryz.prog 67 [dS p, sl cI cs, iv (n : Int)] [] 0 (fun _ : Unit => True) (fun _ => .tup [.optr 2 0, iv q.2.1, iv (q.2.2 : Int)]) (fun _ => [(2, some (mO p.types p.body (dF p) 1 3 q.1)), (1, some (aI eV q.1.slots)), (3, some (aI cI q.1.read))]) := by
 have hg := mN p hl hs
 rw [if_pos hv] at hg
 have w := WG.of_valid hv
 have wa := WA.of_valid hv
 have hru := Kt p.types p.body (dF p) cs n w wa (by omega) hcl
 have htl := w.tl
 have hpl := w.pl
 have hL := GP w wa n 0 cs w.p0
 have hLl := wT (pts := dF p) n 0 cs
 unfold dZ at hqq
 unfold wm at hru
 obtain ⟨L, hLe⟩ : ∃ L, L = (eH (dF p) n 0 cs).1 := ⟨_, rfl⟩
 obtain ⟨dn, hdn⟩ : ∃ dn, dn = (eH (dF p) n 0 cs).2 := ⟨_, rfl⟩
 rw [← hLe, ← hdn] at hru
 rw [← hLe] at hqq hL hLl
 have hgx : ∀ i, i < L.length → (L.map (fun a : Nat => (a : Int)))[i]! = (L[i]! : Int) := fun i h => by rw [cL _ _ (by rw [List.length_map]; exact h), List.getElem_map, cL _ _ h]
 have hml : (L.map (fun a : Nat => (a : Int))).length = L.length := List.length_map _
 generalize (L.map (fun a : Nat => (a : Int))) = LI at *
 generalize hP : dF p = pts at *
 (refine b0 Tryz.func67 rfl (by simp [Tryz.ntmps67]) ?_; rw [Tryz.ntmps67])
 repeat' (first|(apply aM;first|((with_reducible apply aJ (k := 78));(case ha => rfl);(case h => exact hg);(case hp => (exact Pur.pf));(case hN => rfl))|(with_reducible apply dG (d := 40))|(apply aE;rfl;rfl)|(first|(apply aK;rfl;rfl;rfl;rfl)|(apply aX;rfl;rfl;(exact (rfl:_=[_, _]));rfl;rfl;rfl))|(apply aD;rfl;rfl;rfl)|(apply bB;rfl;rfl;rfl;(rfl))|(apply aC;rfl;rfl)|(apply bI;rfl;(rfl);rfl;rfl)|((with_reducible apply aJ (k := 50));(case ha => rfl);(case h => (apply dO <;> (fail)));(case hp => (rfl));(case hN => rfl))|(apply a9;rfl;rfl;rfl)|(apply aF;kernel_rfl)|(apply cQ;rfl;rfl)|(apply bU;rfl;rfl;rfl)|(apply bW;rfl;rfl;rfl;rfl)|(apply cD;rfl;rfl;rfl)|(apply eW;rfl;rfl;rfl;omega;omega;(rfl);rfl;rfl))|(apply aN;first|apply aH|apply aB|(apply aO;rfl;all_goals intro hc;have hq:=hc;(try simp only [cK] at hq);try exfalso;omega)|apply aS)|with_reducible apply aA)
 refine fA ?_
 rw [show (List.replicate p.types.length ([Value.bool false, Value.int .i64 0, Value.int .i64 0, Value.int .i64 0].map AV.v)).flatten = aI eV (List.replicate p.types.length iT) from xA rfl]
 apply yW
 case hl => rfl
 case hf => exact (rfl:_=some [_, _, AV.v (.slice none 0 0), AV.v (.slice none 0 0)])
 case hN => rfl
 repeat' (first|(apply aM;first|(with_reducible apply dG (d := 43))|(apply aC;rfl;rfl)|(apply aF;kernel_rfl)|(apply bW;rfl;rfl;rfl;rfl))|(apply aN;first|apply aH|apply aB)|with_reducible apply aA)
 refine fA (kI ?_ (Le.nilMid (i := 2) [_, _] rfl))
 refine kI ?_ (Le.nilCell (i := 2) 1 [_, _, _] rfl (by decide) (by decide))
 repeat' (first|(apply aM;first|((with_reducible apply aJ (k := 119));(case ha => rfl);(case h => exact hru);(case hp => (exact Pur.pf));(case hN => rfl))|(apply aE;rfl;rfl)|(apply aC;rfl;rfl)|(apply a9;rfl;rfl;rfl)|(apply aF;kernel_rfl)|(apply cD;rfl;rfl;rfl))|(apply aN;first|apply aH|apply aB|apply aL)|with_reducible apply aA)
 refine a7 (σ := Nat × Mc × Nat) [9, 11, 49, 50] [(9, _), (11, _), (49, _), (50, _)] [] [] (fun k => [(51, iv (k.1 : Int)), (14, iv (k.2.2 : Int))]) (fun k => [(2, some (mO p.types p.body pts 1 3 k.2.1)), (1, some (aI eV k.2.1.slots)), (3, some (aI cI k.2.1.read))]) (fun k => k.1 ≤ L.length ∧ gD p.types pts (L.drop k.1) k.2.1 k.2.2 = q ∧ OkS p.types.length k.2.1 ∧ k.2.1.read.length ≤ k.1) (fun k => L.length - k.1) (0, mc0 p.types.length, 0) ⟨Nat.zero_le _, hqq.symm, OkS.mc0 _, Nat.le_refl _⟩ rfl rfl (by repeat' (first|exact trivial|refine And.intro rfl ?_)) (by repeat' (first|exact trivial|refine And.intro (.inr rfl) ?_)) ?_
 rintro ⟨i, s, last⟩ ⟨hi, hf, hok, hrd⟩
 dsimp only at hi hf hok hrd ⊢
 by_cases hiL : i < L.length
 ·have hap := hL L[i]! (bY _ _ hiL)
  have hop := w.op L[i]! hap
  have hwx := w.x L[i]! hap
  have hwy := w.y L[i]! hap
  have hA := wa.a L[i]! hap
  have hg2 := hgx i hiL
  have hdr : L.drop i = L[i]! :: L.drop (i + 1) := by rw [List.drop_eq_getElem_cons hiL, cL _ _ hiL]
  rw [hdr, Ka] at hf
  have hpt : PtN pts[L[i]!]! := ⟨fun h => hA.n (.inr h)⟩
  have hdo := K9 (ts := p.types) hok hpt
  have hdr2 := HN (ts := p.types) (s := s) (x := pts[L[i]!]!)
  by_cases h6 : pts[L[i]!]!.op = 6 ∧ cR s.cells s.slots[(pts[L[i]!]!).y.toNat]!.ptr false = 0 ∧ cX p.types s pts[L[i]!]! = false
  ·have hm6 := Kk p.types p.body pts s pts[L[i]!]! htl hok.m hok.l h6.1 (by omega) (by omega) (by omega) h6.2.1 h6.2.2
   repeat' (first|(apply aM;first|(with_reducible apply dG (d := 16))|(apply aK;rfl;rfl;rfl;rfl)|(apply aR;rfl;rfl;rfl;rfl)|(apply a6;(case hx|hi => rfl);(case hm => (omega));(case hml => (rfl));(case hα | hf|hg => infer_instance);(case hN => rfl))|(apply aF;kernel_rfl))|(apply aN;first|apply aH|apply aB|(apply aO;rfl;all_goals intro hc;have hq:=hc;(try simp only [cK] at hq);try exfalso;omega)|apply aL|apply aS)|with_reducible apply aA)
   refine fA ?_
   rw [hg2]
   repeat' (first|(apply aM;first|((apply I8 (ts := p.types) (bd := p.body) (pts := pts) (s := s) (x := pts[L[i]!]!));(case ha0|ha1|hH0|hH1|hH2|hdd => rfl);(case hmc => exact hm6);(case hM|hN => rfl))|(apply aE;rfl;rfl)|(first|(apply aK;rfl;rfl;rfl;rfl)|(apply aX;rfl;rfl;(exact (rfl:_=[_, _, _, _, _]));rfl;rfl;rfl))|(apply aD;rfl;rfl;rfl)|(first|(apply bR;rfl;rfl;omega;rfl)|(apply aR;rfl;rfl;rfl;rfl))|(apply aC;rfl;rfl)|(apply a6;(case hx|hi => rfl);(case hm => (assumption));(case hml => (rfl));(case hα | hf|hg => infer_instance);(case hN => rfl))|(apply aF;kernel_rfl)|(apply bU;rfl;rfl;rfl))|(apply aN;first|apply aH|apply aB|(apply aO;rfl;all_goals intro hc;have hq:=hc;(try simp only [cK] at hq);try exfalso;omega)|apply aS|apply aQ)|with_reducible apply aA|with_reducible apply bJ|with_reducible apply aV|with_reducible apply cY)
   ·exfalso
    have h9 : ¬ (eX p.types s pts[L[i]!]!).2 = -1 := by assumption
    exact h9 (Mg h6.1 h6.2.1 h6.2.2 (hA.t6 h6.1).1)
   ·(apply dV (i + 1, (eX p.types s pts[L[i]!]!).1, L[i]!); focus (refine Le.ren [(1, 1), (2, 2), (3, 6)] rfl (by decide) ?_ ?_ <;> repeat' (first | exact trivial | refine And.intro ⟨_, rfl, ?_⟩ ?_ | refine And.intro ⟨_, _, rfl, rfl, ?_⟩ ?_ | exact Or.inr rfl | refine Or.inl ⟨?_, (by first | rfl | exact aZ _ _ | exact Pur.pf)⟩ | refine Or.inr (All2.cons ?_ ?_) | refine All2.cons ?_ ?_ | exact All2.nil | rfl)))
    ·refine ⟨by dsimp only; omega, ?_, hdo, by dsimp only; omega⟩
     dsimp only
     rw [if_pos (by assumption)] at hf
     exact hf
    ·dsimp only;omega
  ·have hmd := LC p.types p.body pts s pts[L[i]!]! htl hok.m hok.l hop (by omega) (fun h => by omega) (fun h h2 => by omega) (fun h => hA.n (.inr h)) h6
   repeat' (first|(apply aM;first|(with_reducible apply dG (d := 16))|(apply aK;rfl;rfl;rfl;rfl)|(apply aR;rfl;rfl;rfl;rfl)|(apply a6;(case hx|hi => rfl);(case hm => (omega));(case hml => (rfl));(case hα | hf|hg => infer_instance);(case hN => rfl))|(apply aF;kernel_rfl))|(apply aN;first|apply aH|apply aB|(apply aO;rfl;all_goals intro hc;have hq:=hc;(try simp only [cK] at hq);try exfalso;omega)|apply aL|apply aS)|with_reducible apply aA)
   refine fA ?_
   rw [hg2]
   repeat' (first|(apply aM;first|((apply JA (ts := p.types) (bd := p.body) (pts := pts) (s := s) (x := pts[L[i]!]!));(case ha0|ha1|hH0|hH1|hH2|hdd => rfl);(case hmc => exact hmd);(case hM|hN => rfl))|(apply aE;rfl;rfl)|(first|(apply aK;rfl;rfl;rfl;rfl)|(apply aX;rfl;rfl;(exact (rfl:_=[_, _, _, _, _]));rfl;rfl;rfl))|(apply aD;rfl;rfl;rfl)|(first|(apply bR;rfl;rfl;omega;rfl)|(apply aR;rfl;rfl;rfl;rfl))|(apply aC;rfl;rfl)|(apply a6;(case hx|hi => rfl);(case hm => (assumption));(case hml => (rfl));(case hα | hf|hg => infer_instance);(case hN => rfl))|(apply aF;kernel_rfl)|(apply bU;rfl;rfl;rfl))|(apply aN;first|apply aH|apply aB|(apply aO;rfl;all_goals intro hc;have hq:=hc;(try simp only [cK] at hq);try exfalso;omega)|apply aS|apply aQ)|with_reducible apply aA|with_reducible apply bJ|with_reducible apply aV|with_reducible apply cY)
   ·have h9 : ¬ (eX p.types s pts[L[i]!]!).2 = -1 := by assumption
    rw [if_neg h9] at hf
    rw [← hf]
    (refine aP rfl ?_; refine bV () trivial ?_ ⟨.inr (Eq.trans (b := some _) rfl ?_), ⟨.inr (Eq.trans (b := some _) rfl ?_), ⟨.inr (Eq.trans (b := some _) rfl ?_), trivial⟩⟩⟩)
    ·rfl
    ·rfl
    ·rfl
    ·rfl
   ·(apply dV (i + 1, (eX p.types s pts[L[i]!]!).1, L[i]!); focus (refine Le.ren [(1, 1), (2, 2), (3, 3)] rfl (by decide) ?_ ?_ <;> repeat' (first | exact trivial | refine And.intro ⟨_, rfl, ?_⟩ ?_ | refine And.intro ⟨_, _, rfl, rfl, ?_⟩ ?_ | exact Or.inr rfl | refine Or.inl ⟨?_, (by first | rfl | exact aZ _ _ | exact Pur.pf)⟩ | refine Or.inr (All2.cons ?_ ?_) | refine All2.cons ?_ ?_ | exact All2.nil | rfl)))
    ·refine ⟨by dsimp only; omega, ?_, hdo, by dsimp only; omega⟩
     dsimp only
     rw [if_pos (by assumption)] at hf
     exact hf
    ·dsimp only;omega
 ·repeat' (first | (apply aM; first | (apply aE;rfl;rfl) | (apply aR;rfl;rfl;rfl;rfl) | (apply aC;rfl;rfl) | (apply aF;kernel_rfl)) | (apply aN; first | apply aH | apply aB | (apply aO;rfl;all_goals intro hc;have hq:=hc;(try simp only [cK] at hq);try exfalso;omega) | apply bF | apply aQ) | with_reducible apply aA | with_reducible apply bE | with_reducible apply bG)
  have hie : i = L.length := by omega
  have hq2 : q = (s, 1, last) := by rw [← hf, hie, List.drop_length]; rfl
  rw [hq2]
  (refine aP rfl ?_; refine bV () trivial ?_ ⟨.inr (Eq.trans (b := some _) rfl ?_), ⟨.inr (Eq.trans (b := some _) rfl ?_), ⟨.inr (Eq.trans (b := some _) rfl ?_), trivial⟩⟩⟩)
  ·rfl
  ·rfl
  ·rfl
  ·rfl
theorem F0 {p : Prg} {cs : List Int} {n : Int} {q : Mc × Int × Nat} {N : Nat} {Q : Exit → AS → Prop} {all : Array Oper} {rest : List Oper} {tsl : List (Nat × AV)} {hsl : List (Nat × Option (List AV))} {nidl : Nat} {z0 : Lo} {md : Md} {d : Nat} {ty : TypeId} {pos : String} {af : Array Edge} {tys : Array TypeId} {x0 x1 x2 : Operand} (ha0 : ev (lk tsl) x0 = some (dS p)) (ha1 : ev (lk tsl) x1 = some (sl cI cs)) (ha2 : ev (lk tsl) x2 = some (iv n)) (hmc : MC Tryz.prog 67 [dS p, sl cI cs, iv n] [] 0 (fun _ : Unit => True) (fun _ => .tup [.optr 2 0, iv q.2.1, iv (q.2.2 : Int)]) (fun _ => [(2, some (mO p.types p.body (dF p) 1 3 q.1)), (1, some (aI eV q.1.slots)), (3, some (aI cI q.1.read))])) (hM : Nat.ble (nidl + 4) fD = true) (hN : Nat.blt d N = true) {md' : Md} [hmd : MdA md (gS [x0, x1, x2] ++ []) (List.map Sum.inr (List.map Prod.fst ([((nidl + 2), some (mO p.types p.body (dF p) (nidl + 1) (nidl + 3) q.1)), ((nidl + 1), some (aI eV q.1.slots)), ((nidl + 3), some (aI cI q.1.read))] : List (Nat × Option (List AV)))) ++ [.inl d]) md'] (kk : RW Tryz.prog N all Q md' rest ⟨(d, .tup [.optr (nidl + 2) 0, iv q.2.1, iv (q.2.2 : Int)]) :: tsl, iK hsl [((nidl + 2), some (mO p.types p.body (dF p) (nidl + 1) (nidl + 3) q.1)), ((nidl + 1), some (aI eV q.1.slots)), ((nidl + 3), some (aI cI q.1.read))], nidl + 4, z0⟩) : RW Tryz.prog N all Q md (⟨some d, .call ⟨.value (.func 67), #[x0, x1, x2], tys⟩, ty, pos, af, none⟩ :: rest) ⟨tsl, hsl, nidl, z0⟩ := by
 refine cJ [] 4 [((nidl + 2), some (mO p.types p.body (dF p) (nidl + 1) (nidl + 3) q.1)), ((nidl + 1), some (aI eV q.1.slots)), ((nidl + 3), some (aI cI q.1.read))] hmc (avs := [dS p, sl cI cs, iv n]) ?_ rfl ?_ rfl ?_ (by simpa using hM) ?_ ?_ ?_ hN (md' := md') (hmd := hmd) kk
 ·show evL (lk tsl) [x0, x1, x2] = _
  simp only [evL, ha0, ha1, ha2]
 ·exact trivial
 ·(repeat' (exact RnL.purI inferInstance))
 ·(repeat' (first|exact RnL.purI inferInstance|exact RnV.optr rfl|refine RnL.cons ?_ ?_|refine RnV.tup ?_))
 ·simp [dQ]
 ·(repeat' (first|exact trivial|(refine And.intro ⟨1, _, rfl, rfl, ?_⟩ ?_)|(refine And.intro ⟨2, _, rfl, rfl, ?_⟩ ?_)|(refine And.intro ⟨3, _, rfl, rfl, ?_⟩ ?_)|exact RnL.purI inferInstance|exact RnV.purI inferInstance|exact RnV.own rfl|refine RnL.cons ?_ ?_))
theorem uP (p : Prg) (cs : List Int) (most : Int) (hl : p.types.length ≤ 1000000) (hs : bT p.body ≤ 1000000) (hcl : cs.length ≤ 1000000) : PC Tryz.prog 24 [dS p, sl cI cs, iv most] (fun r => r = .tup (if KJ p most = true then [sl eV (dZ p.types (dF p) cs most.toNat).1.slots, iv (dZ p.types (dF p) cs most.toNat).2.1] else [sl eV [], iv 5])) := by
 by_cases h : KJ p most = true
 ·have h' := h
  unfold KJ at h'
  simp only [Bool.and_eq_true, decide_eq_true_eq] at h'
  obtain ⟨hv, h0, h1⟩ := h'
  have hru := KE p cs most.toNat _ rfl hv hl hs (by omega) hcl
  have hok := JU (cs := cs) (n := most.toNat) hv
  have hrl := Bw (ts := p.types) (pts := dF p) (cs := cs) (n := most.toNat) (by omega)
  have htl := (WG.of_valid hv).tl
  rw [Int.toNat_of_nonneg h0] at hru
  rw [if_pos h]
  have hon := Int.toNat_of_nonneg h0
  have hm := hok.m
  have hml := hm.l
  have hsl := hok.l
  generalize dZ p.types (dF p) cs most.toNat = q at *
  (refine aT Tryz.func24 rfl (by simp [Tryz.ntmps24]) ?_; rw [Tryz.ntmps24])
  repeat' (first|(apply aM;first|((apply F0 (p := p) (cs := cs) (n := most) (q := q));(case ha0|ha1|ha2 => rfl);(case hmc => exact hru);(case hM|hN => rfl))|(apply aE;rfl;rfl)|(first|(apply aK;rfl;rfl;rfl;rfl)|(apply aX;rfl;rfl;(exact (rfl:_=[_, _]));rfl;rfl;rfl))|(apply aD;rfl;rfl;rfl)|(apply aC;rfl;rfl)|(apply aF;kernel_rfl)|(apply bU;rfl;rfl;rfl)|(apply bW;rfl;rfl;rfl;rfl)|(apply cD;rfl;rfl;rfl))|(apply aN;first|apply aH|apply aB|apply aQ)|with_reducible apply aA)
  refine cC (Le.frzD (d := 6) (i := 2) rfl rfl) ?_
  refine aP (l := [.imm p.types.length (aI eV q.1.slots), iv q.2.1]) rfl ?_
  rw [lS hsl.symm]
  exact ⟨rfl, by (exact Pur.pf)⟩
 ·rw [if_neg h]
  have h2 : KJ p most = false := by simpa using h
  (refine aT Tryz.func24 rfl (by simp [Tryz.ntmps24]) ?_; rw [Tryz.ntmps24])
  repeat' (first|(apply aM;first|((apply Hy (p := p) (cs := cs) (n := most));(case ha0|ha1|ha2 => rfl);(case hmc => exact KA p cs most hl hs h2);(case hM|hN => rfl))|(apply aE;rfl;rfl)|(first|(apply aK;rfl;rfl;rfl;rfl)|(apply aX;rfl;rfl;(exact (rfl:_=[_, _]));rfl;rfl;rfl))|(apply aD;rfl;rfl;rfl)|(apply aC;rfl;rfl)|(apply aF;kernel_rfl)|(apply bU;rfl;rfl;rfl)|(apply bW;rfl;rfl;rfl;rfl)|(apply cD;rfl;rfl;rfl))|(apply aN;first|apply aH|apply aB|apply aQ)|with_reducible apply aA)
  exact aP (l := [sl eV [], iv 5]) rfl ⟨rfl, rfl⟩
theorem Ez (bs : List UInt8) (p : Nat) (hb : bs.length ≤ 2000) (hp : p ≤ 10000) : MC Tryz.prog 118 [.optr 0 0] [(0, some (eZ bs p))] 1 (fun x : List Int × Nat => x.1.length ≤ 8 ∧ x.2 ≤ 20000) (fun x => sl cI x.1) (fun x => [(0, some (eZ bs x.2))]) := by
 have hn := xI bs p [4, 2, 6, 0, 8] 0 8 (by decide) (by decide)
 (refine b0 Tryz.func118 rfl (by simp [Tryz.ntmps118]) ?_; rw [Tryz.ntmps118])
 repeat' (first|(apply aM;first|(apply aE;rfl;rfl)|(apply aC;rfl;rfl)|(apply oJ;rfl;rfl;rfl;rfl;infer_instance;rfl;(rfl);assumption;omega;(decide);(decide);rfl;rfl)|(apply aF;kernel_rfl)|(apply cA;rfl;rfl;rfl;(first|exact (rfl:_=some [_, _, _, _, _])|rfl);rfl;rfl))|(apply aN;first|apply aH|apply aB|apply aL)|with_reducible apply aA)
 refine a7 (σ := Int × List Int × Nat × Nat) [0] [(0, _)] [] [] (fun k => [(4, iv k.1), (3, .own 1 0 k.2.2.1 1)]) (fun k => [(0, some (eZ bs k.2.2.2)), (1, some (aI cI k.2.1))]) (fun k => (0 ≤ k.1 ∧ k.1 + k.2.1.length ≤ 8) ∧ k.2.2.1 = k.2.1.length ∧ k.2.2.2 ≤ 10001 + k.2.1.length) (fun k => k.1.toNat) (gX bs p [4, 2, 6, 0, 8], [], 0, p + 1) ⟨⟨hn.1, by show _ + ((0 : Nat) : Int) ≤ 8;omega⟩, rfl, by dsimp only;omega⟩ rfl rfl (by repeat' (first|exact trivial|refine And.intro rfl ?_)) (by repeat' (first|exact trivial|refine And.intro (.inr rfl) ?_)) ?_
 rintro ⟨i, xs, m, p'⟩ ⟨⟨hi, hx⟩, hm, hp'⟩
 dsimp only at hi hx hm hp' ⊢
 repeat' (first|(apply aM;first|(apply aE;rfl;rfl)|(first|(apply fO;rfl;rfl;omega;rfl)|(apply aR;rfl;rfl;rfl;rfl))|(apply aC;rfl;rfl)|(apply GM;rfl;rfl;infer_instance;rfl;(rfl);assumption;omega;(decide);(decide);rfl;rfl)|(apply cF;rfl;rfl;rfl;rfl;rfl;(rw [aU]; omega);(rfl);omega;omega;(exact jD (by (assumption)));rfl;rfl)|(apply aF;kernel_rfl)|((apply bQ (t := _));(case hze|hsm|hl => rfl);(case hfl => (first|exact (rfl:_=some [_])|exact (rfl:_=some [_, _, _, _, _, _])));(case hM|hN => rfl)))|(apply aN;first|apply aH|apply aB|(apply aO;rfl;all_goals intro hc;have hq:=hc;(try simp only [cK] at hq);try exfalso;omega)|apply aL|apply aS|apply bF|apply aQ)|with_reducible apply aA|with_reducible apply bE|with_reducible apply aV|with_reducible apply bG)
 ·(apply dV (i - 1, xs ++ [gX bs p' [0, 1, 0, 1, -1, 2]], m + 1, p' + 1); focus (refine Le.ren [(1, 5)] rfl (by decide) ?_ ?_ <;> repeat' (first | exact trivial | refine And.intro ⟨_, rfl, ?_⟩ ?_ | refine And.intro ⟨_, _, rfl, rfl, ?_⟩ ?_ | exact Or.inr rfl | refine Or.inl ⟨?_, (by first | rfl | exact aZ _ _ | exact Pur.pf)⟩ | rfl)))
  ·refine ⟨⟨by dsimp only; omega, ?_⟩, by dsimp only; rw [List.length_append, hm]; rfl, ?_⟩
   ·dsimp only;rw [List.length_append]; simp only [List.length_singleton]; omega
   ·dsimp only;rw [List.length_append]; simp only [List.length_singleton]; omega
  ·dsimp only;omega
 ·refine cC (Le.frzD (d := 2) (i := 1) rfl rfl) ?_
  refine aP rfl ?_
  refine bV (xs, p') ⟨by dsimp only;omega, by dsimp only;omega⟩ ?_ ⟨.inr rfl, trivial⟩
  show AV.imm m (aI cI xs) = sl cI xs
  rw [hm]
theorem Em {P : Program} {N : Nat} {Q : Exit → AS → Prop} {all : Array Oper} {rest : List Oper} {ts : List (Nat × AV)} {hs : List (Nat × Option (List AV))} {n : Nat} {z0 : Lo} {ty : TypeId} {pos : String} {af : Array Edge} {d : Nat} {args : Array Operand} {tys : Array TypeId}
  {k : FuncId} {p0 : List Int × Nat → Prop} {i p : Nat} {bs : List UInt8} (h : MC P k [.optr 0 0] [(0, some (eZ bs p))] 1 p0 (fun x => sl cI x.1) (fun x => [(0, some (eZ bs x.2))])) [hc : CaT P k] (ha : evL (lk ts) args.toList = some [.optr i 0])
  (hH : cE hs i = some (eZ bs p)) (hM : Nat.ble (n + 0) fD = true) (hN : Nat.blt d N = true) (kk : ∀ x, p0 x → RW P N all Q .txt rest ⟨(d, sl cI x.1) :: ts, (i, some (eZ bs x.2)) :: hs, n + 0, z0⟩) :
  RW P N all Q .txt (⟨some d, .call ⟨.value (.func k), args, tys⟩, ty, pos, af, none⟩ :: rest) ⟨ts, hs, n, z0⟩ :=
 AD (σ := List Int × Nat) [i] 1 (fun x : List Int × Nat => [(i, some (eZ bs x.2))]) h ha rfl ⟨⟨_, _, rfl, hH, RnL.purI inferInstance⟩, trivial⟩ rfl (RnL.cons (RnV.optr rfl) .nil) (by simpa using hM)
  (fun x _ => RnV.purI inferInstance) (fun x _ => by simp [dQ]) (fun x _ => ⟨⟨0, _, rfl, rfl, RnL.purI inferInstance⟩, trivial⟩) hN kk
theorem HX (bs : List UInt8) (hb : bs.length ≤ 1048576) : PC Tryz.prog 66 [sl cU bs] (fun r => ∃ (q : Prg) (cs : List Int) (n : Int), r = .tup [dS q, sl cI cs, iv n] ∧ bT q.body ≤ 20000 ∧ q.types.length ≤ 1000 ∧ cs.length ≤ 8 ∧ -1 ≤ n ∧ n ≤ 151) := by
 have hb2 : (bs.take 2000).length ≤ 2000 := by rw [List.length_take]; omega
 (refine aT Tryz.func66 rfl (by simp [Tryz.ntmps66]) ?_; rw [Tryz.ntmps66])
 repeat' (first|(apply aM;first|((with_reducible apply k9 (k := 74));(case h => exact Fv (bs.take 2000) 0 hb2 (by decide));(case ha|hpv|hH|hM|hN => rfl);(rintro ⟨q, p1⟩ ⟨hq1, hq2, hq3⟩);(dsimp only at hq1 hq2 hq3))|((with_reducible apply k9 (k := 73));(case h => exact Ae (bs.take 2000) p1 q hb2 (by omega) (by omega) (by omega));(case ha => rfl);(case hpv => exact Pur.pf);(case hH|hM|hN => rfl);(rintro ⟨q2, p2⟩ ⟨hr1, hr2, hr3⟩);(dsimp only at hr1 hr2 hr3))|((apply Em (k := 118));(case h => exact Ez (bs.take 2000) p2 hb2 (by omega));(case ha|hH|hM|hN => rfl);(rintro ⟨cs, p3⟩ ⟨hc1, hc2⟩);(dsimp only at hc1 hc2);(have hn9 := xI (bs.take 2000) p3 [100, 150, 60, 5, 0, 151, -1] (-1) 151 (by decide) (by decide)))|(apply aE;rfl;rfl)|(apply aX;rfl;rfl;(exact (rfl:_=[_, _]));rfl;rfl;rfl)|(apply aC;rfl;rfl)|(first|(apply nK;rfl;(apply pG <;> (assumption));rfl;rfl)|(apply oJ;rfl;rfl;rfl;rfl;infer_instance;rfl;(rfl);assumption;omega;(decide);(decide);rfl;rfl))|(apply aF;kernel_rfl)|(apply bH;rfl;rfl)|(apply cA;rfl;rfl;rfl;(exact (rfl:_=some [_, _, _, _, _, _, _]));rfl;rfl)|(apply aW;rfl;rfl;rfl;rfl;rfl;(case hl => (simp;done));(exact (rfl:_=[_, _]))))|(apply aN;first|apply aH|apply aB|(apply bZ;kernel_rfl)|apply aQ)|with_reducible apply aA)
 exact aP (l := [dS q2, sl cI cs, iv (gX (bs.take 2000) p3 [100, 150, 60, 5, 0, 151, -1])]) rfl ⟨⟨q2, cs, _, rfl, by omega, by omega, hc1, hn9.1, hn9.2⟩, Pur.pf⟩
theorem Et (bs : List UInt8) (hb : bs.length ≤ 1048576) : PC Tryz.prog 16 [sl cU bs] (fun r => ∃ (q : Prg) (cs : List Int) (n : Int), r = .tup [dS q, sl cI cs, iv n] ∧ bT q.body ≤ 20000 ∧ q.types.length ≤ 1000 ∧ cs.length ≤ 8 ∧ -1 ≤ n ∧ n ≤ 151) := by
 (refine aT Tryz.func16 rfl (by simp [Tryz.ntmps16]) ?_; rw [Tryz.ntmps16])
 repeat' (first|(apply aM;first|((with_reducible apply gI (k := 66));(case ha => rfl);(case h => exact HX bs hb);(case hp => (exact Pur.pf));(case hN => rfl);(rintro _ ⟨q, cs, n, rfl, h1, h2, h3, h4, h5⟩ _))|(apply aE;rfl;rfl)|(apply aC;rfl;rfl)|(apply aF;kernel_rfl)|(apply bH;rfl;rfl)|(apply cD;rfl;rfl;rfl)|(apply aW;rfl;rfl;rfl;rfl;rfl;(case hl => (simp;done));(exact (rfl:_=[_, _]))))|(apply aN;first|apply aH|apply aB|apply aQ)|with_reducible apply aA)
 exact aP (l := [dS q, sl cI cs, iv n]) rfl ⟨⟨q, cs, n, rfl, h1, h2, h3, h4, h5⟩, Pur.pf⟩
end Go.Proofs.YtjcpngimjdckmaaGreat
namespace Go.Proofs.YtjcpngimjdckmaaGreat
open Go.AL Go.ChangeShapes Go.WideShapes Go.ChangeAt Go.RowKit
theorem wB {w : World} {bad : Nat → Prop} {ι : Pl} {b : Nat} : ∀ (bs : List UInt8) (o : Nat), ¬ bad b → (∀ j, j < bs.length → w.cell? ⟨b, o + j, none⟩ = some (.int .u8 ((bs[j]!).toNat : Int))) → RdC w bad ι (aI cU bs) b o
 | [], _, _, _ => by simp only [aI, List.flatMap_nil, RdC]
 | x :: bs, o, hb, h => by
  have h0 := h 0 (by simp)
  have e : aI cU (x :: bs) = .v (.int .u8 (x.toNat : Int)) :: aI cU bs := rfl
  rw [e]
  simp only [RdC]
  refine ⟨⟨.int .u8 (x.toNat : Int), by simpa using h0, rfl, by simp only [Rd]⟩, wB bs (o + 1) hb fun j hj => ?_⟩
  have := h (j + 1) (by simpa using hj)
  rw [show o + 1 + j = o + (j + 1) from by omega]
  simpa using this
theorem xX {P : Program} {k : FuncId} {bs ms : List UInt8} (h : PC P k [sl cU bs, sl cU ms] (fun r => r = bv true)) {W : World} {v v' : Value} (hv : Rd W (fun _ => False) (fun _ => none) (sl cU bs) v) (hv' : Rd W (fun _ => False) (fun _ => none) (sl cU ms) v') :
  Calls P k #[v, v'] W fun e W' => e = .returned (.bool true) ∧ Below W.heap.size W W' := by
 let C : Ctx := { N := 0, w0 := W, W0 := fun _ => False, X := fun _ => False, ι0 := fun _ => none, xlt := fun _ h => h.elim }
 have hbad : ∀ b, ¬ a8 C.X (fun _ => none) (cE []) b := by
  rintro b (h | ⟨id, cs, β, h1, h2⟩)
  ·exact h
  ·cases h2
 have g : HG C (fun _ => none) (fun j => 0 ≤ j) (cE []) W :=
  ⟨fun id cs h => by simp [cE] at h, fun id id' cs cs' b β β' h => by simp [cE] at h, Fr.refl _ _, fun _ _ h => h, fun _ _ => rfl⟩
 have hcar : Carry W (fun _ => False) (fun _ => none) W (a8 C.X (fun _ => none) (cE [])) (fun _ => none) := ⟨fun b o x _ h2 => ⟨hbad b, h2⟩, fun _ _ h => h, fun _ => Nat.le_refl _⟩
 have ha : RdV W (a8 C.X (fun _ => none) (cE [])) (fun _ => none) [sl cU bs, sl cU ms] [v, v'] := by
  simp only [RdV]
  exact ⟨v, [v'], rfl, Rd.carry hcar _ _ hv, v', [], rfl, Rd.carry hcar _ _ hv', rfl⟩
 refine (h C _ W [v, v'] rfl rfl g ha).mono ?_
 rintro e W' ⟨v'', r, H', ι', rfl, ⟨rfl, _⟩, h4, h5⟩
 simp only [Rd] at h4
 subst h4
 have f := h5.fr
 exact ⟨rfl, f.os, f.tape, f.output, f.size, fun b hb => f.block b hb (fun h => h)⟩
theorem Lp : laidOutB Tryz.prog = true := by kernel_rfl
theorem Kz : Tryz.prog.cellsOf 5 = 1 := by kernel_rfl
theorem AN {H : Type} {enc : TypeId × Value → H} {W : World} {base : Nat} {v0 : Value} {d0 : DataW H} {p : List MemPlace} (hval : Value.okWide Tryz.prog W .any base 22 v0) (h0 : DataW.Trod enc Tryz.prog W 0 (fun _ => true) true 22 v0 d0 p) :
  ∃ bs : List UInt8, Rd W (fun _ => False) (fun _ => none) (sl cU bs) v0 := by
 obtain ⟨a0, len, cap, rfl⟩ := okWide_slice Tryz.underlying22 hval
 obtain ⟨fuel, hf⟩ := h0
 rcases open_ints Tryz.underlying22 Tryz.underlying5 Kz hf with ⟨hcs, hx⟩ | ⟨a, len', cap', zs, hcs, _, hl, hm, hz, hx, hcell, hwz⟩
 ·simp [Value.cells] at hcs
  obtain ⟨rfl, rfl, rfl⟩ := hcs
  refine ⟨[], ?_⟩
  simp only [Rd]
  exact ⟨none, 0, rfl, .inl rfl⟩
 ·simp [Value.cells] at hcs
  obtain ⟨rfl, rfl, rfl⟩ := hcs
  simp only [if_true] at hz
  refine ⟨(zs.take len).map fun n => UInt8.ofNat n.toNat, ?_⟩
  have hlen : ((zs.take len).map fun n => UInt8.ofNat n.toNat).length = len := by simp;omega
  simp only [Rd]
  refine ⟨some a, cap, by rw [hlen], ?_⟩
  by_cases h00 : len = 0
  ·exact .inl (by rw [hlen]; exact h00)
  ·obtain ⟨b, off, spot⟩ := a
   have hspot : spot = none := by simpa [Addr.add] using World.cell?_spot (hcell 0 (by omega))
   subst hspot
   refine .inr ⟨b, off, by rw [hlen]; exact hl, rfl, .inr ⟨fun h => h, wB _ _ (fun h => h) fun j hj => ?_⟩⟩
   rw [hlen] at hj
   have hcj := hcell j (by omega)
   rw [Addr.add_lit] at hcj
   rw [hcj]
   have e : zs.getD j 0 = zs[j]'(by omega) := by simp [List.getD, List.getElem?_eq_getElem (show j < zs.length by omega)]
   have hw := hwz (zs[j]'(by omega)) (List.getElem_mem _)
   have hr : 0 ≤ zs[j]'(by omega) ∧ zs[j]'(by omega) ≤ 255 := by simpa [Lit.wf, IntKind.min, IntKind.max, IntKind.signed, IntKind.bits] using hw
   rw [e, cL _ _ (by rw [hlen]; exact hj)]
   simp only [List.getElem_map, List.getElem_take]
   congr 2
   simp only [UInt8.toNat_ofNat']
   omega
end Go.Proofs.YtjcpngimjdckmaaGreat
namespace Go.Proofs.YtjcpngimjdckmaaGreat
open Go.AL Go.RowKit
theorem HI (bs : List UInt8) (hb : bs.length ≤ 1048576) : PC Tryz.prog 45 [sl cU bs] (fun r => ∃ (q : Prg) (k : Int), r = .tup [dS q, iv k] ∧ bT q.body ≤ 20000 ∧ q.types.length ≤ 1000 ∧ -1 ≤ k ∧ k ≤ 20000) := by
 have hb2 : (bs.take 2000).length ≤ 2000 := by rw [List.length_take]; omega
 (refine aT Tryz.func45 rfl (by simp [Tryz.ntmps45]) ?_; rw [Tryz.ntmps45])
 repeat' (first|(apply aM;first|((with_reducible apply k9 (k := 74));(case h => exact Fv (bs.take 2000) 0 hb2 (by decide));(case ha|hpv|hH|hM|hN => rfl);(rintro ⟨q, p1⟩ ⟨hq1, hq2, hq3⟩);(dsimp only at hq1 hq2 hq3))|((with_reducible apply k9 (k := 73));(case h => exact Ae (bs.take 2000) p1 q hb2 (by omega) (by omega) (by omega));(case ha => rfl);(case hpv => exact Pur.pf);(case hH|hM|hN => rfl);(rintro ⟨q2, p2⟩ ⟨hr1, hr2, hr3⟩);(dsimp only at hr1 hr2 hr3);(have hln := dL q2.body);(have hpk := fun p => e9 (bs.take 2000) p (q2.body.length : Int));(have hn9 := fun p => xI (bs.take 2000) p [0, -1, 40] (-1) 40 (by decide) (by decide)))|(apply aE;rfl;rfl)|(first|(apply aK;rfl;rfl;rfl;rfl)|(apply aX;rfl;rfl;(exact (rfl:_=[_, _]));rfl;rfl;rfl))|(apply aD;rfl;rfl;rfl)|(first|(apply bB;rfl;rfl;rfl;(assumption))|(apply bC;rfl;rfl;rfl;(assumption))|(apply bK;(case hj|hb|hN => rfl);all_goals (intro hg;have hq := hg;(try simp only [cK] at hq);(try (exfalso;omega)))))|(apply aR;rfl;rfl;rfl;rfl)|(apply aC;rfl;rfl)|(first|(apply bS;rfl;(assumption);rfl;rfl)|(apply bI;rfl;(assumption);rfl;rfl))|(first|(apply nK;rfl;(apply pG <;> (assumption));rfl;rfl)|(apply iS;rfl;rfl;(rfl);(apply lF <;> (first|assumption|omega|(simp only [hZ] <;> omega)));rfl;rfl)|(apply oJ;rfl;rfl;rfl;rfl;infer_instance;rfl;(rfl);assumption;omega;(decide);(decide);rfl;rfl))|(apply a9;rfl;rfl;rfl)|(apply aF;kernel_rfl)|(apply bH;rfl;rfl)|(apply cA;rfl;rfl;rfl;(exact (rfl:_=some [_, _, _]));rfl;rfl)|(apply aW;rfl;rfl;rfl;rfl;rfl;(case hl => (simp;done));(exact (rfl:_=[_, _]))))|(apply aN;first|apply aH|apply aB|(apply bZ;kernel_rfl)|(apply b8;rfl;(rfl))|(apply aO;rfl;all_goals intro hc;have hq:=hc;(try simp only [cK] at hq);try exfalso;omega)|apply aS|apply aQ)|with_reducible apply aA|with_reducible apply bJ)
 ·exact aP (l := [dS q2, iv (gX (bs.take 2000) (p2 + 1) [0, -1, 40])]) rfl ⟨⟨q2, _, rfl, by omega, by omega, (hn9 _).1, by have := (hn9 (p2 + 1)).2;omega⟩, Pur.pf⟩
 ·exact aP (l := [dS q2, iv (cT (bs.take 2000) (p2 + 1) (q2.body.length : Int))]) rfl ⟨⟨q2, _, rfl, by omega, by omega, by have := hpk (p2 + 1);omega, by have := hpk (p2 + 1);omega⟩, Pur.pf⟩
 ·exact aP (l := [dS q2, iv (gX (bs.take 2000) p2 [0, -1, 40])]) rfl ⟨⟨q2, _, rfl, by omega, by omega, (hn9 _).1, by have := (hn9 p2).2;omega⟩, Pur.pf⟩
theorem Km (xs : List Int) (hl : xs.length ≤ 1000000) : PC Tryz.prog 62 [sl cI xs, sl cI xs] (fun r => r = bv true) := by
 (refine aT Tryz.func62 rfl (by simp [Tryz.ntmps62]) ?_; rw [Tryz.ntmps62])
 repeat' (first|(apply aM;first|(apply aE;rfl;rfl)|(apply aR;rfl;rfl;rfl;rfl)|(apply aC;rfl;rfl)|(apply a9;rfl;rfl;rfl)|(apply aF;kernel_rfl))|(apply aN;first|apply aH|apply aB|(apply aO;rfl;all_goals intro hc;have hq:=hc;(try simp only [cK] at hq);try exfalso;omega)|apply aL|apply aS|apply aQ)|with_reducible apply aA|with_reducible apply bJ)
 all_goals try exact absurd trivial (by assumption : ¬ True)
 refine a7 (σ := Nat) [0, 1, 12] [(0, _), (1, _), (12, _)] [] [] (fun k => [(13, iv (k : Int))]) (fun k => []) (fun k => k ≤ xs.length) (fun k => xs.length - k) (0) (Nat.zero_le _) rfl rfl (by repeat' (first|exact trivial|refine And.intro rfl ?_)) (by repeat' (exact trivial)) ?_
 intro k hk
 repeat' (first|(apply aM;first|(apply aE;rfl;rfl)|(apply aK;rfl;rfl;rfl;rfl)|(first|(apply bR;rfl;rfl;omega;rfl)|(apply aR;rfl;rfl;rfl;rfl))|(apply aC;rfl;rfl)|(apply a6;(case hx|hi => rfl);(case hm => (omega));(case hml => (rfl));(case hα | hf|hg => infer_instance);(case hN => rfl))|(apply aF;kernel_rfl))|(apply aN;first|apply aH|apply aB|(apply bZ;kernel_rfl)|(apply aO;rfl;all_goals intro hc;have hq:=hc;(try simp only [cK] at hq);try exfalso;omega)|apply aL|apply aS|apply bF|apply aQ)|with_reducible apply aA|with_reducible apply bJ|with_reducible apply bE|with_reducible apply aV|with_reducible apply cY|with_reducible apply bG)
 all_goals try exact absurd trivial (by assumption : ¬ True)
 ·(apply dV (k + 1); focus (refine Le.ren [] rfl (by decide) ?_ ?_ <;> repeat' (first | exact trivial | refine And.intro ⟨_, rfl, ?_⟩ ?_ | refine Or.inl ⟨?_, (by first | rfl | exact aZ _ _)⟩ | rfl)))
  ·omega
  ·omega
 ·exact aP rfl ⟨rfl, rfl⟩
theorem Iv (mm : Nat) (same_ih : ∀ l, bT l < mm → PC Tryz.prog 63 [sl aY l, sl aY l] (fun r => r = bv true)) (s : AL.Stmt) (hs : dK s ≤ mm) : PC Tryz.prog 116 [dH s, dH s] (fun r => r = bv true) := by
 have hct := iL s
 (refine aT Tryz.func116 rfl (by simp [Tryz.ntmps116]) ?_; rw [Tryz.ntmps116])
 repeat' (first|(apply aM;first|(apply aE;rfl;rfl)|(apply aK;rfl;rfl;rfl;rfl)|(apply aD;rfl;rfl;rfl)|(first|(apply bB;rfl;rfl;rfl;(first|rfl|assumption))|(apply bC;rfl;rfl;rfl;(first|rfl|assumption))|(apply bK;(case hj|hb|hN => rfl);all_goals (intro hg;have hq := hg;(try simp only [cK] at hq);(try (exfalso;omega)))))|(apply aR;rfl;rfl;rfl;rfl)|(apply aC;rfl;rfl)|(first|(apply bS;rfl;(first|rfl|assumption);rfl;rfl)|(apply bI;rfl;(first|rfl|assumption);rfl;rfl))|((with_reducible apply aJ (k := 63));(case ha => rfl);(case h => (apply same_ih <;> (omega)));(case hp => (exact Pur.pf));(case hN => rfl))|(apply aF;kernel_rfl)|(apply bW;rfl;rfl;rfl;rfl))|(apply aN;first|apply aH|apply aB|apply aQ)|with_reducible apply aA)
 all_goals try exact absurd trivial (by assumption : ¬ True)
 exact aP rfl ⟨rfl, rfl⟩
theorem Lg (l : List AL.Stmt) (hs : bT l ≤ 1000000) (h1 : ∀ s, s ∈ l → PC Tryz.prog 116 [dH s, dH s] (fun r => r = bv true)) : PC Tryz.prog 115 [sl aY l, sl aY l, .v (.func (.func 116) #[] #[])] (fun r => r = bv true) := by
 have hlen := dL l
 (refine aT Tryz.func115 rfl (by simp [Tryz.ntmps115]) ?_; rw [Tryz.ntmps115])
 repeat' (first|(apply aM;first|(apply aE;rfl;rfl)|(apply aR;rfl;rfl;rfl;rfl)|(apply aC;rfl;rfl)|(apply a9;rfl;rfl;rfl)|(apply aF;kernel_rfl))|(apply aN;first|apply aH|apply aB|(apply aO;rfl;all_goals intro hc;have hq:=hc;(try simp only [cK] at hq);try exfalso;omega)|apply aL|apply aS|apply aQ)|with_reducible apply aA|with_reducible apply bJ)
 all_goals try exact absurd trivial (by assumption : ¬ True)
 refine a7 (σ := Nat) [1, 2, 15, 16] [(1, _), (2, _), (15, _), (16, _)] [] [] (fun k => [(17, iv (k : Int))]) (fun k => []) (fun k => k ≤ l.length) (fun k => l.length - k) (0) (Nat.zero_le _) rfl rfl (by repeat' (first|exact trivial|refine And.intro rfl ?_)) (by repeat' (exact trivial)) ?_
 intro k hk
 by_cases hkn : k < l.length
 ·have hcl := h1 l[k]! (bY l k hkn)
  repeat' (first|(apply aM;first|(apply aE;rfl;rfl)|(apply aX;rfl;rfl;(exact (rfl:_=[_, _, _, _, _, _]));rfl;rfl;rfl)|(first|(apply bR;rfl;rfl;omega;rfl)|(apply aR;rfl;rfl;rfl;rfl))|(apply aC;rfl;rfl)|(apply a6;(case hx|hi => rfl);(case hm => (assumption));(case hml => (rfl));(case hα | hf|hg => infer_instance);(case hN => rfl))|((with_reducible apply gF);(case hx|hcl => rfl);(case hc => infer_instance);(case ha => rfl);(case h => (apply hcl <;> (fail)));(case hp => (exact Pur.pf));(case hN => rfl))|(apply aF;kernel_rfl)|(apply cQ;rfl;rfl)|(apply bH;rfl;rfl)|(apply aW;rfl;rfl;rfl;rfl;rfl;(case hl => (simp;done));(exact (rfl:_=[_, _, _, _, _, _]))))|(apply aN;first|apply aH|apply aB|(apply cH;rfl;(rfl))|(apply aO;rfl;all_goals intro hc;have hq:=hc;(try simp only [cK] at hq);try exfalso;omega)|apply aL|apply aS)|with_reducible apply aA|with_reducible apply aV)
  (apply dV (k + 1);focus (refine Le.ren [] rfl (by decide) ?_ ?_ <;> repeat' (first|exact trivial|refine And.intro ⟨_, rfl, ?_⟩ ?_|refine Or.inl ⟨?_, (by first|rfl|exact aZ _ _)⟩|rfl)))
  ·omega
  ·omega
 ·repeat' (first | (apply aM; first | (apply aR;rfl;rfl;rfl;rfl) | (apply aC;rfl;rfl) | (apply aF;kernel_rfl)) | (apply aN; first | apply aH | apply aB | (apply aO;rfl;all_goals intro hc;have hq:=hc;(try simp only [cK] at hq);try exfalso;omega) | apply bF | apply aQ) | with_reducible apply aA | with_reducible apply bE | with_reducible apply bG)
  exact aP rfl ⟨rfl, rfl⟩
theorem C3 (mm : Nat) (hmm : mm ≤ 1000000) (same_ih : ∀ l, bT l < mm → PC Tryz.prog 63 [sl aY l, sl aY l] (fun r => r = bv true)) (l : List AL.Stmt) (hs : bT l ≤ mm) : PC Tryz.prog 63 [sl aY l, sl aY l] (fun r => r = bv true) := by
 have hq := Lg l (by omega) (fun s hm => Iv mm same_ih s (Nat.le_trans (n6 hm) hs))
 (refine aT Tryz.func63 rfl (by simp [Tryz.ntmps63]) ?_; rw [Tryz.ntmps63])
 repeat' (first|(apply aM;first|((with_reducible apply aJ (k := 115));(case ha => rfl);(case h => exact hq);(case hp => (exact Pur.pf));(case hN => rfl))|(apply aE;rfl;rfl)|(apply aC;rfl;rfl)|(apply aF;kernel_rfl))|(apply aN;first|apply aH|apply aB|apply aQ)|with_reducible apply aA)
 exact aP rfl ⟨rfl, rfl⟩
theorem JW (l : List AL.Stmt) (hb : bT l ≤ 1000000) : PC Tryz.prog 63 [sl aY l, sl aY l] (fun r => r = bv true) := by
 have key : ∀ m, m ≤ 1000000 → ∀ l, bT l ≤ m → PC Tryz.prog 63 [sl aY l, sl aY l] (fun r => r = bv true) := by
  intro m
  induction m with
  | zero => intro hm l hl;exact C3 0 hm (fun l h => by omega) l hl
  | succ m ih => intro hm l hl;exact C3 (m + 1) hm (fun l h => ih (by omega) l (by omega)) l hl
 exact key (bT l) hb l (Nat.le_refl _)
theorem rW (q : Prg) (hs : bT q.body ≤ 1000000) (ht : q.types.length ≤ 1000000) : PC Tryz.prog 14 [dS q, dS q] (fun r => r = bv true) := by
 have h1 := Km q.types ht
 have h2 := JW q.body hs
 (refine aT Tryz.func14 rfl (by simp [Tryz.ntmps14]) ?_; rw [Tryz.ntmps14])
 repeat' (first|(apply aM;first|((with_reducible apply aJ (k := 62));(case ha => rfl);(case h => exact h1);(case hp => (exact Pur.pf));(case hN => rfl))|((with_reducible apply aJ (k := 63));(case ha => rfl);(case h => exact h2);(case hp => (exact Pur.pf));(case hN => rfl))|(apply aE;rfl;rfl)|(apply aK;rfl;rfl;rfl;rfl)|(apply aD;rfl;rfl;rfl)|(apply bB;rfl;rfl;rfl;(rfl))|(apply aC;rfl;rfl)|(apply bS;rfl;(rfl);rfl;rfl)|(apply aF;kernel_rfl)|(apply bW;rfl;rfl;rfl;rfl))|(apply aN;first|apply aH|apply aB|apply aQ)|with_reducible apply aA)
 exact aP rfl ⟨rfl, rfl⟩
def HM (r : Option Prg) : AV := .tup [dS (r.getD ⟨[], []⟩), bv r.isSome]
theorem Iu (r : Option Prg) : (HM r).pur = true := by unfold HM; exact PurV.pf
theorem Jm {P : Program} {s : AS} {res : Array ResultVar} {r : Option Prg} {l : List AV} (hr : sH P (lk s.ts) (cE s.hs) res.toList = some l) (e : bX l = HM r) : x8 P res (fun x _ => x = HM r ∧ x.pur = true) .ret s := aP hr ⟨e, by rw [e]; exact Iu r⟩
theorem Eu (p : Prg) (k : Int) (hl : p.types.length ≤ 1000000) (hs : bT p.body ≤ 1000000) : PC Tryz.prog 69 [dS p, iv k] (fun r => r = bv (decide (dC p = true ∧ 0 ≤ k ∧ k ≤ (p.body.length : Int) - 2))) := by
 have hlen := dL p.body
 have hval := sS p hl (by omega)
 (refine aT Tryz.func69 rfl (by simp [Tryz.ntmps69]) ?_; rw [Tryz.ntmps69])
 repeat' (first|(apply aM;first|((with_reducible apply aJ (k := 49));(case ha => rfl);(case h => exact hval);(case hp => (exact Pur.pf));(case hN => rfl))|(apply aE;rfl;rfl)|(first|(apply aK;rfl;rfl;rfl;rfl)|(apply aX;rfl;rfl;(exact (rfl:_=[_, _]));rfl;rfl;rfl))|(apply aD;rfl;rfl;rfl)|(first|(apply bB;rfl;rfl;rfl;(assumption))|(apply bC;rfl;rfl;rfl;(assumption))|(apply bK;(case hj|hb|hN => rfl);all_goals (intro hg;have hq := hg;(try simp only [cK] at hq);(try (exfalso;omega)))))|(apply fO;rfl;rfl;omega;rfl)|(apply aC;rfl;rfl)|(first|(apply bS;rfl;(assumption);rfl;rfl)|(apply bI;rfl;(assumption);rfl;rfl))|((with_reducible apply aJ (k := 50));(case ha => rfl);(case h => (apply dO <;> (fail)));(case hp => (rfl));(case hN => rfl))|(apply a9;rfl;rfl;rfl)|(apply aF;kernel_rfl)|(apply bW;rfl;rfl;rfl;rfl))|(apply aN;first|apply aH|apply aB|apply aQ)|with_reducible apply aA)
 ·refine aP rfl ⟨?_, rfl⟩
  simp only [bX]
  rw [hq, ← Bool.decide_and]
  congr 1
  simp
 ·refine aP rfl ⟨?_, rfl⟩
  simp only [bX]
  rw [decide_eq_false (by rw [hq]; rintro ⟨h, _⟩; cases h)]
def fwdC (p : Prg) (k : Nat) : Prop := k + 1 < p.body.length ∧ p.body[k]!.op = 7 ∧ p.body[k + 1]!.op = 6 ∧ p.body[k + 1]!.y = p.body[k]!.x ∧ p.body[k + 1]!.x ≠ p.body[k]!.y
instance (p : Prg) (k : Nat) : Decidable (fwdC p k) := by unfold fwdC; infer_instance
def QK (r : AV) : Prop := ∃ (q : Prg) (k : Int), r = .tup [dS q, iv k] ∧ bT q.body ≤ 20000 ∧ q.types.length ≤ 1000 ∧ -1 ≤ k ∧ k ≤ 20000
theorem QK.mk (q : Prg) (k : Int) (h1 : bT q.body ≤ 20000) (h2 : q.types.length ≤ 1000) (h3 : -1 ≤ k) (h4 : k ≤ 20000) : QK (bX [dS q, iv k]) ∧ (bX [dS q, iv k]).pur = true := ⟨⟨q, k, rfl, h1, h2, h3, h4⟩, Pur.pf⟩
theorem FT {P : Program} {N : Nat} {Q : Exit → AS → Prop} {all : Array Oper} {rest : List Oper} {ts : List (Nat × AV)} {hs : List (Nat × Option (List AV))} {n : Nat} {z0 : Lo} {cs : List AV} {xs : List ByteArray} {m d : Nat} (hd : lk ts d = some (.imm m cs)) (h : NumS cs xs) (hm : m = xs.length) (ha : xs.all (fun s => decide (s.size ≤ 600)) = true)
  (k : ∀ ys : List ByteArray, ys.length = m → (∀ i : Nat, (ys[i]!).size ≤ 600) → RW P N all Q .txt rest ⟨(d, sl y8 ys) :: ts, hs, n, z0⟩) : RW P N all Q .txt rest ⟨ts, hs, n, z0⟩ := by
 obtain ⟨ys, e, h1, h2⟩ := zI h hm ha
 exact kI (k ys h1 h2) (Le.slotEq _ _ hd e)
theorem GR (bs : List UInt8) (hb : bs.length ≤ 1048576) : PC Tryz.prog 45 [sl cU bs] QK := HI bs hb
theorem BH (bs : List UInt8) (hb : bs.length ≤ 1048576) : PC Tryz.prog 32 [sl cU bs] QK := by
 have hb2 : (bs.take 2000).length ≤ 2000 := by rw [List.length_take]; omega
 (refine aT Tryz.func32 rfl (by simp [Tryz.ntmps32]) ?_; rw [Tryz.ntmps32])
 repeat' (first|(apply aM;first|((with_reducible apply gI (k := 45));(case ha => rfl);(case h => exact GR bs hb);(case hp => (exact Pur.pf));(case hN => rfl);(rintro _ ⟨q, k, rfl, h1, h2, h3, h4⟩ _))|((apply bQ (d := 13));(case hze|hsm|hl => rfl);(case hfl => exact (rfl:_=some [_, _, _]));(case hM|hN => rfl))|(with_reducible apply dG (d := 15))|(apply aE;rfl;rfl)|(apply aR;rfl;rfl;rfl;rfl)|(apply aC;rfl;rfl)|(first|(apply nK;rfl;(apply pG <;> (assumption));rfl;rfl)|(apply iS;rfl;rfl;(rfl);(apply lF <;> (first|assumption|omega));rfl;rfl))|(apply aF;kernel_rfl)|(apply bH;rfl;rfl)|(apply cD;rfl;rfl;rfl)|(apply aW;rfl;rfl;rfl;rfl;rfl;(case hl => (simp;done));(exact (rfl:_=[_, _]))))|(apply aN;first|apply aH|apply aB|(apply aO;rfl;all_goals intro hc;have hq:=hc;(try simp only [cK] at hq);try exfalso;omega)|apply aS|apply aQ)|with_reducible apply aA)
 ·refine fA (FT (d := 5) (m := 3) rfl inferInstance rfl (by decide) ?_)
  intro ys hyl hsz
  have hpk := e9 (bs.take 2000) (0 + 1) (ys.length : Int)
  repeat' (first|(apply aM;first|((with_reducible apply gI (k := 68));(case ha => rfl);(case h => exact mC _ (Nat.le_trans (hsz _) (by decide)));(case hp => (rfl));(case hN => rfl);(rintro _ ⟨q, b, rfl, hqc, hqt⟩ _);(have hln := dL q.body);(have h9 := hsz (cT (bs.take 2000) (0 + 1) (ys.length : Int)).toNat))|(apply aE;rfl;rfl)|(first|(apply aK;rfl;rfl;rfl;rfl)|(apply aX;rfl;rfl;(exact (rfl:_=[_, _]));rfl;rfl;rfl))|(apply aD;rfl;rfl;rfl)|(apply aC;rfl;rfl)|(apply dA;(case hx|hi => rfl);(case hm => (omega));(case hml => (rfl));(case hα | hf|hg => infer_instance);(case hN => rfl))|(apply iS;rfl;rfl;(rfl);(apply lF <;> (first|assumption|omega));rfl;rfl)|(apply a9;rfl;rfl;rfl)|(apply aF;kernel_rfl)|(apply bH;rfl;rfl)|(apply cD;rfl;rfl;rfl)|(apply aW;rfl;rfl;rfl;rfl;rfl;(case hl => (simp;done));(exact (rfl:_=[_, _]))))|(apply aN;first|apply aH|(apply bZ;kernel_rfl)|apply aQ)|with_reducible apply aA|with_reducible apply bJ)
  have hp2 := e9 (bs.take 2000) (0 + 1 + 1) (q.body.length : Int)
  exact aP (l := [dS q, iv (cT (bs.take 2000) (0 + 1 + 1) (q.body.length : Int))]) rfl (QK.mk q _ (by omega) (by omega) (by omega) (by omega))
 ·exact aP (l := [dS q, iv k]) rfl (QK.mk q k h1 h2 h3 h4)
theorem Jp (p : Prg) (hv : dC p = true) (hl : p.types.length ≤ 1000000) (hs : bT p.body ≤ 1000000) (f : Flows p.types (dF p)) :
  PC Tryz.prog 31 [dS p] (fun r => r = sl qJ f.iss) ∧ PC Tryz.prog 19 [dS p] (fun r => r = bv f.iss.isEmpty) := by
 have h := FY p f hl hs
 have e : JP p f = f.iss := if_pos hv
 rw [e] at h
 have h2 := yT p f.iss hl hs h
 rw [hv, Bool.true_and] at h2
 exact ⟨h, h2⟩
def Mq (l : List Value) : Prop := ∃ (b : Bool) (n c d : Int), l = [.bool b, .int .i64 n, .int .i64 c, .int .i64 d]
instance : EqS Go.Proofs.Tryz.prog 51 Mq where
 g := Go.Proofs.Tryz.eqGuardType51
 e := fun l hl w => by
  obtain ⟨b, n, c, d, rfl⟩ := hl
  have u3 := Go.Proofs.Tryz.underlying3
  have a3 := Go.Proofs.Tryz.isAgg3
  have z3 := Go.Proofs.Tryz.sizeOf3
  have u4 := Go.Proofs.Tryz.underlying4
  have a4 := Go.Proofs.Tryz.isAgg4
  have z4 := Go.Proofs.Tryz.sizeOf4
  have a5 := Go.Proofs.Tryz.isAgg49
  have z5 := Go.Proofs.Tryz.sizeOf49
  have hS : Go.Proofs.Tryz.prog.underlying 51 = some (.struct (Go.Proofs.Tryz.prog.fieldsOf 51)) := by kernel_rfl
  have hp : Go.Proofs.Tryz.prog.stoodInHeld 51 = false := by kernel_rfl
  have hS5 : Go.Proofs.Tryz.prog.underlying 49 = some (.struct (Go.Proofs.Tryz.prog.fieldsOf 49)) := by kernel_rfl
  have hp5 : Go.Proofs.Tryz.prog.stoodInHeld 49 = false := by kernel_rfl
  have h5 : ∀ w, (Op.equalIn 9999 49 (.agg #[.int .i64 c, .int .i64 d]) (.agg #[.int .i64 c, .int .i64 d])).run Go.Proofs.Tryz.prog w = .ok true w := fun w => by
   rw [show (9999 : Nat) = 9998 + 1 from rfl, run_equalIn_agg w 9998 49 _ _ hS5 hp5]
   simp only [Program.fieldsOf, Go.Proofs.Tryz.underlying49]
   go_simp
  rw [show (10000 : Nat) = 9999 + 1 from rfl, run_equalIn_agg w 9999 51 _ _ hS hp]
  simp only [Program.fieldsOf, Go.Proofs.Tryz.underlying51]
  go_simp
theorem Ji (p : Prg) (hv : dC p = true) (hl : p.types.length ≤ 1000000) (hs : bT p.body ≤ 1000000) (cs : List Int) (hc : cs.length ≤ 1000000) (n : Nat) (hn : n ≤ 150) :
  PC Tryz.prog 24 [dS p, sl cI cs, iv (n : Int)] (fun r => r = .tup [sl eV (dZ p.types (dF p) cs n).1.slots, iv (dZ p.types (dF p) cs n).2.1]) := by
 have h := uP p cs n hl hs hc
 rw [if_pos (by unfold KJ;rw [hv, decide_eq_true (by omega), decide_eq_true (by omega)]; rfl), Int.toNat_natCast] at h
 exact h
theorem vS (ts : List Int) (pts : List Pnt) (cs : List Int) (n : Nat) : (dZ ts pts cs n).1.slots.length = ts.length := by
 have key : ∀ (l : List Nat) (s : Mc) (last : Nat), s.slots.length = ts.length → (gD ts pts l s last).1.slots.length = ts.length := by
  intro l
  induction l with
  | nil => intro s last h;exact h
  | cons a l ih =>
   intro s last h
   rw [gD]
   split
   ·exact h
   ·split
    ·exact ih _ _ (by rw [iM]; exact h)
    ·rw [iM]; exact h
 exact key _ _ _ (by simp [mc0])
theorem p8 (s : AL.Stmt) : PC Tryz.prog 83 [dH s] (fun r => r = bv (decide (s.op ≠ 9 ∧ s.op ≠ 10))) := by
 (refine aT Tryz.func83 rfl (by simp [Tryz.ntmps83]) ?_; rw [Tryz.ntmps83])
 repeat' (first|(apply aM;first|(apply aE;rfl;rfl)|(apply aK;rfl;rfl;rfl;rfl)|(apply aD;rfl;rfl;rfl)|(first|(apply bB;rfl;rfl;rfl;(assumption))|(apply bC;rfl;rfl;rfl;(assumption))|(apply bK;(case hj|hb|hN => rfl);all_goals (intro hg;have hq := hg;(try simp only [cK] at hq);(try (exfalso;omega)))))|(apply aR;rfl;rfl;rfl;rfl)|(apply aC;rfl;rfl)|(first|(apply bS;rfl;(assumption);rfl;rfl)|(apply bI;rfl;(assumption);rfl;rfl))|(apply aF;kernel_rfl)|(apply bW;rfl;rfl;rfl;rfl))|(apply aN;first|apply aH|apply aB|apply aQ)|with_reducible apply aA)
 ·refine aP rfl ⟨?_, rfl⟩
  simp only [bX]
  congr 1
  simp [hq]
 ·refine aP rfl ⟨?_, rfl⟩
  simp only [bX]
  congr 1
  simp [hq]
def wG (op x y : Int) : List Bool := if 3 ≤ op ∧ op ≤ 7 then ((List.replicate 6 false).set x.toNat true).set y.toNat true else (List.replicate 6 false).set x.toNat true
theorem DF {op x y n : Int} {N : Nat} {Q : Exit → AS → Prop} {all : Array Oper} {rest : List Oper} {tsl : List (Nat × AV)} {hsl : List (Nat × Option (List AV))} {nidl : Nat} {z0 : Lo} {md : Md} {d : Nat} {ty : TypeId} {pos : String} {af : Array Edge} {tys : Array TypeId} {x0 x1 : Operand} {i0 : Nat} (ha0 : ev (lk tsl) x0 = some (.own i0 0 6 1)) (ha1 : ev (lk tsl) x1 = some (dH (.mk op x y n [] []))) (hH0 : cE hsl i0 = some (aI cB (List.replicate 6 false))) (hmc : MC Tryz.prog 173 [.own 0 0 6 1, dH (.mk op x y n [] [])] [(0, some (aI cB (List.replicate 6 false)))] 1 (fun _ : Unit => True) (fun _ => .own 0 0 6 1) (fun _ => [(0, some (aI cB (wG op x y)))])) (hM : Nat.ble (nidl + 0) fD = true) (hN : Nat.blt d N = true) {md' : Md} [hmd : MdA md (gS [x0, x1] ++ [.inr i0]) (List.map Sum.inr (List.map Prod.fst ([(i0, some (aI cB (wG op x y)))] : List (Nat × Option (List AV)))) ++ [.inl d]) md'] (kk : RW Tryz.prog N all Q md' rest ⟨(d, .own i0 0 6 1) :: tsl, iK hsl [(i0, some (aI cB (wG op x y)))], nidl + 0, z0⟩) : RW Tryz.prog N all Q md (⟨some d, .call ⟨.value (.func 173), #[x0, x1], tys⟩, ty, pos, af, none⟩ :: rest) ⟨tsl, hsl, nidl, z0⟩ := by
 refine cJ [i0] 1 [(i0, some (aI cB (wG op x y)))] hmc (avs := [.own i0 0 6 1, dH (.mk op x y n [] [])]) ?_ rfl ?_ rfl ?_ (by simpa using hM) ?_ ?_ ?_ hN (md' := md') (hmd := hmd) kk
 ·show evL (lk tsl) [x0, x1] = _
  simp only [evL, ha0, ha1]
 ·exact ⟨⟨_, _, rfl, hH0, by (repeat' (exact RnL.purI inferInstance))⟩, trivial⟩
 ·(repeat' (first|exact RnL.purI inferInstance|exact RnV.own rfl|refine RnL.cons ?_ ?_))
 ·(repeat' (exact RnV.own rfl))
 ·simp [dQ]
 ·(repeat' (first|exact trivial|(refine And.intro ⟨0, _, rfl, rfl, ?_⟩ ?_)|exact RnL.purI inferInstance))
theorem Hc (op x y n : Int) (ho : 1 ≤ op ∧ op ≤ 8) (hx : 0 ≤ x ∧ x < 6) (hy : 0 ≤ y) (hy2 : 3 ≤ op → op ≤ 7 → y < 6) : MC Tryz.prog 173 [.own 0 0 6 1, dH (.mk op x y n [] [])] [(0, some (aI cB (List.replicate 6 false)))] 1 (fun _ : Unit => True) (fun _ => .own 0 0 6 1) (fun _ => [(0, some (aI cB (wG op x y)))]) := by
 have key : op = 1 ∨ op = 2 ∨ op = 3 ∨ op = 4 ∨ op = 5 ∨ op = 6 ∨ op = 7 ∨ op = 8 := by omega
 rcases key with rfl|rfl|rfl|rfl|rfl|rfl|rfl|rfl
 all_goals
  (refine b0 Tryz.func173 rfl (by simp [Tryz.ntmps173]) ?_; rw [Tryz.ntmps173])
  repeat' (first|(apply aM;first|(apply aE;rfl;rfl)|(apply aK;rfl;rfl;rfl;rfl)|(apply aD;rfl;rfl;rfl)|(first|(apply bB;rfl;rfl;rfl;(first|rfl|assumption))|(apply bC;rfl;rfl;rfl;(first|rfl|assumption))|(apply bK;(case hj|hb|hN => rfl);all_goals (intro hg;have hq := hg;(try simp only [cK] at hq);(try (exfalso;omega)))))|(apply aR;rfl;rfl;rfl;rfl)|(apply aC;rfl;rfl)|(first|(apply bS;rfl;(first|rfl|assumption);rfl;rfl)|(apply bI;rfl;(first|rfl|assumption);rfl;rfl))|(apply cM;rfl;rfl;(first|assumption|omega);rfl)|(apply a9;rfl;rfl;rfl)|(apply aF;kernel_rfl)|(apply bW;rfl;rfl;rfl;rfl)|(apply aW;rfl;rfl;rfl;rfl;rfl;(rw [aU]; simp only [hZ] <;> omega);(exact Dg (by (simp only [hZ] <;> omega)))))|(apply aN;first|apply aH|apply aB|(apply cH;rfl;(rfl))|(apply aO;rfl;all_goals intro hc;have hq:=hc;(try simp only [cK] at hq);try exfalso;omega)|apply aL|apply aS)|with_reducible apply aA)
 all_goals first
  | (exfalso;dsimp only [AL.Stmt.x, AL.Stmt.y] at *; omega)
  | skip
 all_goals
  refine a7 (σ := Unit) [0, 3] [(0, _), (3, _)] [0, 1] [(0, some _), (1, some _)] (fun u => [(6, iv 0)]) (fun u => []) (fun u => True) (fun u => 0) () trivial rfl rfl (by repeat' (first|exact trivial|refine And.intro rfl ?_)) (by repeat' (exact trivial)) ?_
  intro u _
  repeat' (first|(apply aM;first|(apply aE;rfl;rfl)|(apply aK;rfl;rfl;rfl;rfl)|(apply aD;rfl;rfl;rfl)|(apply aR;rfl;rfl;rfl;rfl)|(apply aC;rfl;rfl)|(apply a9;rfl;rfl;rfl)|(apply aF;kernel_rfl))|(apply aN;first|apply aH|apply aB|(apply cH;rfl;(rfl))|apply aL|apply bF)|with_reducible apply aA|with_reducible apply bE|with_reducible apply bG)
  refine a7 (σ := Unit) [0, 3] [(0, _), (3, _)] [0, 1] [(0, some _), (1, some _)] (fun u => [(7, iv 0)]) (fun u => []) (fun u => True) (fun u => 0) () trivial rfl rfl (by repeat' (first|exact trivial|refine And.intro rfl ?_)) (by repeat' (exact trivial)) ?_
  intro u _
  repeat' (first|(apply aM;first|(apply aE;rfl;rfl)|(apply aK;rfl;rfl;rfl;rfl)|(apply aD;rfl;rfl;rfl)|(apply aR;rfl;rfl;rfl;rfl)|(apply aC;rfl;rfl)|(apply a9;rfl;rfl;rfl)|(apply aF;kernel_rfl))|(apply aN;first|apply aH|apply aB|(apply cH;rfl;(rfl))|apply bF|apply aQ)|with_reducible apply aA|with_reducible apply bE|with_reducible apply bG)
  (refine aP rfl ?_; refine bV () trivial ?_ ⟨.inr (Eq.trans (b := some _) rfl ?_), trivial⟩)
  ·rfl
  ·rfl
def o3 (F : List Bool) (k : Nat) : List Int := ((List.range k).filter (fun i => F[i]!)).map fun (i : Nat) => (i : Int)
theorem vK {F : List Bool} {k : Nat} : o3 F (k + 1) = if F[k]! = true then o3 F k ++ [(k : Int)] else o3 F k := by
 unfold o3
 rw [List.range_succ, List.filter_append, List.map_append]
 have e : List.filter (fun i => F[i]!) [k] = if F[k]! = true then [k] else [] := by
  rw [List.filter_cons]; rfl
 rw [e]
 split
 ·rfl
 ·rw [List.map_nil, List.append_nil]
theorem rU (F : List Bool) (k : Nat) : (o3 F k).length ≤ k := by
 unfold o3; rw [List.length_map]; exact Nat.le_trans (List.length_filter_le _ _) (by rw [List.length_range]; exact Nat.le_refl _)
theorem CB (op x y : Int) : (wG op x y).length = 6 := by unfold wG; split <;> simp
theorem D6 (op x y n : Int) (ho : 1 ≤ op ∧ op ≤ 8) (hx : 0 ≤ x ∧ x < 6) (hy : 0 ≤ y) (hy2 : 3 ≤ op → op ≤ 7 → y < 6) : PC Tryz.prog 133 [dH (.mk op x y n [] [])] (fun r => r = sl cI (o3 (wG op x y) 6)) := by
 have hvl := CB op x y
 (refine aT Tryz.func133 rfl (by simp [Tryz.ntmps133]) ?_; rw [Tryz.ntmps133])
 repeat' (first|(apply aM;first|((apply eW (d := 7) (m := 6));(case hx|hy|hze => rfl);(case hsm => omega);(case hmx => omega);(case hcs => exact I9);(case hM|hN => rfl))|(apply DF;rfl;rfl;rfl;(exact Hc op x y n ho hx hy hy2);rfl;rfl)|(apply aX;rfl;rfl;(exact (rfl:_=[_, _, _, _, _, _]));rfl;rfl;rfl)|(apply aC;rfl;rfl)|(apply aF;kernel_rfl)|(apply bW;rfl;rfl;rfl;rfl)|(apply cA;rfl;rfl;rfl;(rfl);rfl;rfl))|(apply aN;first|apply aH|apply aB|(apply bZ;kernel_rfl)|apply aL)|with_reducible apply aA)
 generalize wG op x y = F at *
 refine a7 (σ := Nat × List Int × Nat) [4] [(4, _)] [0, 2] [(0, some _), (2, some _)] (fun k => [(5, iv (k.1 : Int)), (3, .own 1 0 k.2.2 1)]) (fun k => [(1, some (aI cI k.2.1))]) (fun k => k.1 ≤ 6 ∧ k.2.1 = o3 F k.1 ∧ k.2.2 = k.2.1.length) (fun k => 6 - k.1) (0, [], 0) ⟨by omega, rfl, rfl⟩ rfl rfl (by repeat' (first|exact trivial|refine And.intro rfl ?_)) (by repeat' (first|exact trivial|refine And.intro (.inr rfl) ?_)) ?_
 rintro ⟨k, xs, m⟩ ⟨hk, hxs, hm⟩
 dsimp only at hk hxs hm ⊢
 have hlen := rU F k
 rw [← hxs] at hlen
 have hsc := vK (F := F) (k := k)
 by_cases hk6 : k < 6
 ·repeat' (first | (apply aM; first | (apply aE;rfl;rfl) | (apply eR; (case hx | hH => rfl); (case hf | hg | hα => infer_instance); (case hk => omega); (case hc | hN => rfl)) | (first | (apply bR;rfl;rfl;omega;rfl) | (apply aR;rfl;rfl;rfl;rfl)) | (apply aC;rfl;rfl) | (apply cG;rfl;rfl;(assumption);rfl) | (first | (apply a9;rfl;rfl;rfl) | (apply cF;rfl;rfl;rfl;rfl;rfl;(rw [aU]; omega);(rfl);omega;omega;(exact jD (by (assumption)));rfl;rfl)) | (apply aF;kernel_rfl) | (apply cA;rfl;rfl;rfl;exact (rfl:_=some [_]);rfl;rfl)) | (apply aN; first | apply aH | apply aB | (apply aO;rfl;all_goals intro hc;have hq:=hc;(try simp only [cK] at hq);try exfalso;omega) | apply aL | apply aS) | with_reducible apply aA | with_reducible apply aV)
  ·have hb' : F[k]! = true := by assumption
   rw [if_pos hb'] at hsc
   (apply dV (k + 1, _, m + 1);focus (refine Le.ren [(0, 0), (1, 4), (2, 2)] rfl (by decide) ?_ ?_ <;> repeat' (first|exact trivial|refine And.intro ⟨_, rfl, ?_⟩ ?_|refine And.intro ⟨_, _, rfl, rfl, ?_⟩ ?_|exact Or.inr rfl|refine Or.inl ⟨?_, (by first|rfl|exact aZ _ _)⟩|rfl)))
   ·refine ⟨by dsimp only; omega, ?_, ?_⟩
    ·dsimp only;rw [hxs, hsc]
    ·dsimp only;rw [List.length_append, hm]; rfl
   ·dsimp only;omega
  ·have hb' : ¬ F[k]! = true := by rw [show F[k]! = false by assumption]; decide
   rw [if_neg hb'] at hsc
   (apply dV (k + 1, xs, m);focus (refine Le.ren [(0, 0), (1, 1), (2, 2)] rfl (by decide) ?_ ?_ <;> repeat' (first|exact trivial|refine And.intro ⟨_, rfl, ?_⟩ ?_|refine And.intro ⟨_, _, rfl, rfl, ?_⟩ ?_|exact Or.inr rfl|refine Or.inl ⟨?_, (by first|rfl|exact aZ _ _)⟩|rfl)))
   ·refine ⟨by dsimp only; omega, ?_, ?_⟩
    ·dsimp only;rw [hxs, hsc]
    ·dsimp only;exact hm
   ·dsimp only;omega
 ·repeat' (first | (apply aM; first | (apply aE;rfl;rfl) | (apply aR;rfl;rfl;rfl;rfl) | (apply aC;rfl;rfl) | (apply a9;rfl;rfl;rfl) | (apply aF;kernel_rfl)) | (apply aN; first | apply aH | apply aB | (apply aO;rfl;all_goals intro hc;have hq:=hc;(try simp only [cK] at hq);try exfalso;omega) | apply bF | apply aQ) | with_reducible apply aA | with_reducible apply bE | with_reducible apply bG)
  have hk : k = 6 := by omega
  subst hk
  subst hxs
  refine cC (Le.frzD (d := 2) (i := 1) rfl rfl) ?_
  refine aP rfl ⟨?_, (by (exact aZ _ _))⟩
  simp only [bX]
  rw [show m = (o3 F 6).length from hm]
theorem IN (L : List Int) (n : Int) (hl : L.length ≤ 1000000) : PC Tryz.prog 124 [sl cI L, iv n] (fun r => r = bv (decide (n ∈ L))) := by
 (refine aT Tryz.func124 rfl (by simp [Tryz.ntmps124]) ?_; rw [Tryz.ntmps124])
 repeat' (first|(apply aM;first|(apply aC;rfl;rfl)|(apply aF;kernel_rfl))|(apply aN;first|apply aH|apply aB|apply aL)|with_reducible apply aA)
 refine a7 (σ := Nat) [0, 1] [(0, _), (1, _)] [] [] (fun k => [(5, iv (k : Int))]) (fun k => []) (fun k => k ≤ L.length ∧ ∀ j, j < k → L[j]! ≠ n) (fun k => L.length - k) (0) ⟨by omega, by omega⟩ rfl rfl (by repeat' (first|exact trivial|refine And.intro rfl ?_)) (by repeat' (exact trivial)) ?_
 rintro k ⟨hk, hall⟩
 repeat' (first|(apply aM;first|(apply aE;rfl;rfl)|(apply aK;rfl;rfl;rfl;rfl)|(first|(apply bR;rfl;rfl;omega;rfl)|(apply aR;rfl;rfl;rfl;rfl))|(apply aC;rfl;rfl)|(apply a6;(case hx|hi => rfl);(case hm => (omega));(case hml => (rfl));(case hα | hf|hg => infer_instance);(case hN => rfl))|(apply a9;rfl;rfl;rfl)|(apply aF;kernel_rfl))|(apply aN;first|apply aH|apply aB|(apply aO;rfl;all_goals intro hc;have hq:=hc;(try simp only [cK] at hq);try exfalso;omega)|apply aL|apply aS|apply bF|apply aQ)|with_reducible apply aA|with_reducible apply bJ|with_reducible apply bE|with_reducible apply aV|with_reducible apply cY|with_reducible apply bG)
 ·refine aP rfl ⟨?_, rfl⟩
  simp only [bX]
  rw [decide_eq_true (by have h := bY L k (by omega);rw [hq] at h;exact h)]
 ·(apply dV (k + 1); focus (refine Le.ren [] rfl (by decide) ?_ ?_ <;> repeat' (first | exact trivial | refine And.intro ⟨_, rfl, ?_⟩ ?_ | refine Or.inl ⟨?_, (by first | rfl | exact aZ _ _)⟩ | rfl)))
  ·exact ⟨by omega, fun j hj => by
    by_cases e : j = k
    ·subst e;exact hq
    ·exact hall j (by omega)⟩
  ·omega
 ·refine aP rfl ⟨?_, rfl⟩
  simp only [bX]
  rw [decide_eq_false (fun h => by
   obtain ⟨j, hj, e⟩ := List.getElem_of_mem h
   exact hall j (by omega) (by rw [cL _ _ hj]; exact e))]
def Dx (X Y : List Int) : Bool := X.all (fun v => !decide (v ∈ Y))
theorem JL {X Y : List Int} {k : Nat} (hk : k < X.length) (h : X[k]! ∈ Y) : Dx X Y = false := by
 unfold Dx;rw [List.all_eq_false]
 exact ⟨X[k]!, bY X k hk, by rw [decide_eq_true h]; decide⟩
theorem H3 {X Y : List Int} (h : ∀ j, j < X.length → ¬ X[j]! ∈ Y) : Dx X Y = true := by
 unfold Dx;rw [List.all_eq_true]
 intro v hv
 obtain ⟨j, hj, e⟩ := List.getElem_of_mem hv
 have := h j hj
 rw [cL _ _ hj, e] at this
 simp [this]
def Db (op x y : Int) : List Int := o3 (wG op x y) 6
theorem rD (op x y : Int) : (Db op x y).length ≤ 6 := rU _ _
def zV (op x y : Int) : Prop := (1 ≤ op ∧ op ≤ 8) ∧ (0 ≤ x ∧ x < 6) ∧ 0 ≤ y ∧ (3 ≤ op → op ≤ 7 → y < 6)
theorem wF (op x y n : Int) (h : zV op x y) : PC Tryz.prog 133 [dH (.mk op x y n [] [])] (fun r => r = sl cI (Db op x y)) := D6 op x y n h.1 h.2.1 h.2.2.1 h.2.2.2
theorem xE (op x y n op' x' y' n' : Int) (h1 : zV op x y) (h2 : zV op' x' y') : PC Tryz.prog 84 [dH (.mk op x y n [] []), dH (.mk op' x' y' n' [] [])] (fun r => r = bv (Dx (Db op x y) (Db op' x' y'))) := by
 have e1 := wF op x y n h1
 have e2 := wF op' x' y' n' h2
 have hX := rD op x y
 have hY := rD op' x' y'
 generalize Db op x y = X at *
 generalize Db op' x' y' = Y at *
 clear h1 h2
 (refine aT Tryz.func84 rfl (by simp [Tryz.ntmps84]) ?_; rw [Tryz.ntmps84])
 repeat' (first|(apply aM;first|((with_reducible apply aJ (k := 133));(case ha => rfl);(case h => first|exact e1|exact e2);(case hp => (rfl));(case hN => rfl))|(apply aX;rfl;rfl;(exact (rfl:_=[_, _, _, _, _, _]));rfl;rfl;rfl)|(apply aC;rfl;rfl)|(apply aF;kernel_rfl)|(apply bW;rfl;rfl;rfl;rfl))|(apply aN;first|apply aH|apply aB|apply aL)|with_reducible apply aA)
 refine a7 (σ := Nat) [5, 6] [(5, _), (6, _)] [0, 1] [(0, some _), (1, some _)] (fun k => [(7, iv (k : Int))]) (fun k => []) (fun k => k ≤ X.length ∧ ∀ j, j < k → ¬ X[j]! ∈ Y) (fun k => X.length - k) (0) ⟨by omega, by omega⟩ rfl rfl (by repeat' (first|exact trivial|refine And.intro rfl ?_)) (by repeat' (exact trivial)) ?_
 rintro k ⟨hk, hall⟩
 have hct := fun z => IN Y z (by omega)
 repeat' (first|(apply aM;first|((with_reducible apply aJ (k := 124));(case ha => rfl);(case h => exact hct _);(case hp => (exact Pur.pf));(case hN => rfl))|(apply aE;rfl;rfl)|(apply aK;rfl;rfl;rfl;rfl)|(first|(apply bR;rfl;rfl;omega;rfl)|(apply aR;rfl;rfl;rfl;rfl))|(apply aC;rfl;rfl)|(apply a6;(case hx|hi => rfl);(case hm => (omega));(case hml => (rfl));(case hα | hf|hg => infer_instance);(case hN => rfl))|(apply a9;rfl;rfl;rfl)|(apply aF;kernel_rfl))|(apply aN;first|apply aH|apply aB|(apply aO;rfl;all_goals intro hc;have hq:=hc;(try simp only [cK] at hq);try exfalso;omega)|apply aL|apply aS|apply bF|apply aQ)|with_reducible apply aA|with_reducible apply bJ|with_reducible apply bE|with_reducible apply aV|with_reducible apply cY|with_reducible apply bG)
 ·refine aP rfl ⟨?_, rfl⟩
  simp only [bX]
  rw [JL (by omega) hq]
 ·(apply dV (k + 1); focus (refine Le.ren [(0, 0), (1, 1)] rfl (by decide) ?_ ?_ <;> repeat' (first | exact trivial | refine And.intro ⟨_, rfl, ?_⟩ ?_ | refine And.intro ⟨_, _, rfl, rfl, ?_⟩ ?_ | refine Or.inl ⟨?_, (by first | rfl | exact aZ _ _)⟩ | rfl)))
  ·exact ⟨by omega, fun j hj => by
    by_cases e : j = k
    ·subst e;exact hq
    ·exact hall j (by omega)⟩
  ·omega
 ·refine aP rfl ⟨?_, rfl⟩
  simp only [bX]
  rw [H3 (fun j hj => hall j (by omega))]
end Go.Proofs.YtjcpngimjdckmaaGreat
