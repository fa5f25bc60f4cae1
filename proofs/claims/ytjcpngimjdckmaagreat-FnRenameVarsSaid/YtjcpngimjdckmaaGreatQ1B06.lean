/-
 A part of the proofs over this program: rules and contracts of its functions (the contracts).
-/
import Derived.Test.YtjcpngimjdckmaaGreatQ1B05
import Derived.Test.YtjcpngimjdckmaaGreatRows
import Derived.WalkKit
import Derived.ProofKit
import Derived.OpenShut
import Derived.Carry
import Derived.ChangeSlices
set_option linter.unusedVariables false
set_option linter.unusedSimpArgs false
set_option maxHeartbeats 8000000
set_option maxRecDepth 4000
attribute [local irreducible] Go.AL.RW Go.AL.AW Go.AL.Stop
namespace Go.Proofs.YtjcpngimjdckmaaGreat
open Go.AL Go.RowKit
theorem LJ (ts : List Int) (bd : List AL.Stmt) (pts : List Pnt) (s : Mc) (x : Pnt) (htl : ts.length ≤ 6) (hm : OkM s.cells) (hsl : s.slots.length = ts.length) (ho : x.op = 6) (hrl : s.read.length ≤ 1000) (hx : 0 ≤ x.x ∧ x.x < ts.length) (hy : 0 ≤ x.y ∧ x.y < ts.length) (hz : ¬ dB s.cells s.slots[x.y.toNat]!.ptr false = 0) : MC Tryz.prog 120 [.optr 0 0, iG x] [(0, some (mO ts bd pts 1 2 s)), (1, some (aH fD s.slots)), (2, some (aH cI s.read))] 3 (fun _ : Unit => True) (fun _ => iv (eY ts s x).2) (fun _ => [(0, some (mO ts bd pts 1 2 (eY ts s x).1)), (1, some (aH fD (eY ts s x).1.slots)), (2, some (aH cI (eY ts s x).1.read))]) := by
 have hus := iR ts bd pts x htl
 have hsm : Sm (wS ts x [1, 2, 3]) := dK (by omega)
 obtain ⟨L, hL⟩ : ∃ L, L = cO (wS ts x [1, 2, 3]) := ⟨_, rfl⟩
 have hLl : L.length ≤ 62 := by rw [hL]; exact eC _
 have hmem : ∀ k, k < L.length → 0 ≤ L[k]! ∧ L[k]! < s.slots.length := fun k hk => by
  rw [hsl]; exact iE (by rw [← hL]; exact cA _ _ hk)
 (refine cD Tryz.func120 rfl (by simp [Tryz.ntmps120]) ?_; rw [Tryz.ntmps120])
 repeat' (first|(apply aM;first|((with_reducible apply aJ (k := 151));(case ha => rfl);(case h => exact hus);(case hp => (exact Pur.pf));(case hN => rfl))|(apply aE;rfl;rfl)|(first|(apply aL;rfl;rfl;rfl;rfl)|(apply aY;rfl;rfl;(exact (rfl:_=[_, _, _, _, _]));rfl;rfl;rfl))|(apply aD;rfl;rfl;rfl)|(apply aC;rfl;rfl)|((with_reducible apply aJ (k := 100));(case ha => rfl);(case h => (apply hO <;> (assumption)));(case hp => (rfl));(case hN => rfl))|(apply a8;rfl;rfl;rfl)|(apply aF;kernel_rfl)|(apply bW;rfl;rfl;rfl)|(apply b0;rfl;rfl;rfl;rfl))|(apply aN;first|apply aI|apply aB|(apply b8;kernel_rfl)|apply aK)|with_reducible apply aA)
 rw [← hL]
 refine bC (σ := Nat) [0, 3, 26, 27] [(0, _), (3, _), (26, _), (27, _)] [0, 1, 2, 3] [(0, some _), (1, some _), (2, some _), (3, some _)] (fun k => [(28, iv (k : Int))]) (fun k => []) (fun k => k ≤ L.length ∧ ∀ j, j < k → s.slots[(L[j]!).toNat]!.set = true) (fun k => L.length - k) (0) ⟨Nat.zero_le _, fun j h => absurd h (by omega)⟩ rfl rfl (by repeat' (first|exact trivial|refine And.intro rfl ?_)) (by repeat' (exact trivial)) ?_
 rintro k ⟨hk, hall⟩
 by_cases hkn : k < L.length
 ·have hmk := hmem k hkn
  repeat' (first|(apply aM;first|(apply aE;rfl;rfl)|(first|(apply cX;(case hx|hH => rfl);(case hf|hg|hα => infer_instance);(case hk => omega);(case hc|hN => rfl))|(apply aL;rfl;rfl;rfl;rfl))|(apply aD;rfl;rfl;rfl)|(first|(apply bU;rfl;rfl;omega;rfl)|(apply aR;rfl;rfl;rfl;rfl))|(apply aC;rfl;rfl)|(first|(apply a7;(case hx|hi => rfl);(case hm => (assumption));(case hml => (rfl));(case hα | hf|hg => infer_instance);(case hN => rfl))|(apply cP;rfl;rfl;(omega);rfl))|(apply aF;kernel_rfl)|(apply cC;rfl;rfl)|(apply bW;rfl;rfl;rfl))|(apply aN;first|apply aI|apply aB|(apply aO;rfl;all_goals intro hc;have hq:=hc;(try simp only [cF] at hq);try exfalso;omega)|apply aK|apply aS|apply aQ)|with_reducible apply aA|with_reducible apply bK|with_reducible apply aX|with_reducible apply cT)
  ·have hu : dH ts s x = true := (dT htl).2 ⟨L[k]!, by rw [← hL]; exact cA _ _ hkn, by assumption⟩
   rw [uZ hu]
   (refine aP rfl ?_; refine bY () trivial ?_ ⟨.inr (Eq.trans (b := some _) rfl ?_), ⟨.inr (Eq.trans (b := some _) rfl ?_), ⟨.inr (Eq.trans (b := some _) rfl ?_), trivial⟩⟩⟩)
   ·rfl
   ·rfl
   ·rfl
   ·rfl
  ·(apply dW (k + 1); focus (refine Le.ren [(3, 3)] rfl (by decide) ?_ ?_ <;> repeat' (first | exact trivial | refine And.intro ⟨_, rfl, ?_⟩ ?_ | refine And.intro ⟨_, _, rfl, rfl, ?_⟩ ?_ | exact Or.inr rfl | refine Or.inl ⟨?_, (by first | rfl | exact aZ _ _ | exact Pur.pf)⟩ | refine Or.inr (All2.cons ?_ ?_) | refine All2.cons ?_ ?_ | exact All2.nil | rfl)))
   ·refine ⟨by omega, fun j hj => ?_⟩
    rcases Nat.lt_or_ge j k with h|h
    ·exact hall j h
    ·rw [show j = k by omega]; assumption
   ·omega
 ·have hu : dH ts s x = false := by
   cases q : dH ts s x with
   | false => rfl
   | true =>
    obtain ⟨v, hv, hs⟩ := (dT htl).1 q
    rw [← hL] at hv
    obtain ⟨j, hj, e⟩ := List.getElem_of_mem hv
    have h1 := hall j (by omega)
    rw [cK _ _ hj, e, hs] at h1;cases h1
  rw [qN hu]
  have hrc := qA s.cells hm s.slots[x.y.toNat]!.ptr
  have hd : dR ts s x = (s, lM (dB s.cells s.slots[x.y.toNat]!.ptr false)) := by unfold dR;rw [if_neg (show ¬ x.op = 1 by omega), if_neg (show ¬ x.op = 2 by omega), if_neg (show ¬ x.op = 3 by omega), if_neg (show ¬ (x.op = 4 ∨ x.op = 5) by omega), if_pos ho, if_neg hz]
  rw [hd]
  repeat' (first|(apply aM;first|(apply jG;(case hx|hH => rfl);(case hf|hg|hα => infer_instance);(case hk => omega);(case hj => decide);(case hc => exact (rfl:_=[_, _]));(case h0|hN => rfl))|((with_reducible apply aJ (k := 157));(case ha => rfl);(case h => exact hrc);(case hp => (exact Pur.pf));(case hN => rfl))|(apply aE;rfl;rfl)|(apply aL;rfl;rfl;rfl;rfl)|(apply aD;rfl;rfl;rfl)|(apply aR;rfl;rfl;rfl;rfl)|(apply aC;rfl;rfl)|(apply cP;rfl;rfl;(assumption);rfl)|((with_reducible apply aJ (k := 156));(case ha => rfl);(case h => (apply rI <;> (fail)));(case hp => (rfl));(case hN => rfl))|(apply aF;kernel_rfl)|(apply bW;rfl;rfl;rfl)|(apply cB;rfl;rfl;rfl))|(apply aN;first|apply aI|apply aB|(apply b8;kernel_rfl)|(apply aO;rfl;all_goals intro hc;have hq:=hc;(try simp only [cF] at hq);try exfalso;omega)|apply aK|apply bI|apply aQ)|with_reducible apply aA|with_reducible apply bK|with_reducible apply bJ|with_reducible apply cT|with_reducible apply bH)
  (refine aP rfl ?_; refine bY () trivial ?_ ⟨.inr (Eq.trans (b := some _) rfl ?_), ⟨.inr (Eq.trans (b := some _) rfl ?_), ⟨.inr (Eq.trans (b := some _) rfl ?_), trivial⟩⟩⟩)
  ·rfl
  ·rfl
  ·rfl
  ·rfl
theorem Lx (ts : List Int) (bd : List AL.Stmt) (pts : List Pnt) (s : Mc) (x : Pnt) (htl : ts.length ≤ 6) (hm : OkM s.cells) (hsl : s.slots.length = ts.length) (ho : x.op = 7) (hx : 0 ≤ x.x ∧ x.x < ts.length) (hy : 0 ≤ x.y ∧ x.y < ts.length) : MC Tryz.prog 120 [.optr 0 0, iG x] [(0, some (mO ts bd pts 1 2 s)), (1, some (aH fD s.slots)), (2, some (aH cI s.read))] 3 (fun _ : Unit => True) (fun _ => iv (eY ts s x).2) (fun _ => [(0, some (mO ts bd pts 1 2 (eY ts s x).1)), (1, some (aH fD (eY ts s x).1.slots)), (2, some (aH cI (eY ts s x).1.read))]) := by
 have hus := iR ts bd pts x htl
 have hsm : Sm (wS ts x [1, 2, 3]) := dK (by omega)
 obtain ⟨L, hL⟩ : ∃ L, L = cO (wS ts x [1, 2, 3]) := ⟨_, rfl⟩
 have hLl : L.length ≤ 62 := by rw [hL]; exact eC _
 have hmem : ∀ k, k < L.length → 0 ≤ L[k]! ∧ L[k]! < s.slots.length := fun k hk => by
  rw [hsl]; exact iE (by rw [← hL]; exact cA _ _ hk)
 (refine cD Tryz.func120 rfl (by simp [Tryz.ntmps120]) ?_; rw [Tryz.ntmps120])
 repeat' (first|(apply aM;first|((with_reducible apply aJ (k := 151));(case ha => rfl);(case h => exact hus);(case hp => (exact Pur.pf));(case hN => rfl))|(apply aE;rfl;rfl)|(first|(apply aL;rfl;rfl;rfl;rfl)|(apply aY;rfl;rfl;(exact (rfl:_=[_, _, _, _, _]));rfl;rfl;rfl))|(apply aD;rfl;rfl;rfl)|(apply aC;rfl;rfl)|((with_reducible apply aJ (k := 100));(case ha => rfl);(case h => (apply hO <;> (assumption)));(case hp => (rfl));(case hN => rfl))|(apply a8;rfl;rfl;rfl)|(apply aF;kernel_rfl)|(apply bW;rfl;rfl;rfl)|(apply b0;rfl;rfl;rfl;rfl))|(apply aN;first|apply aI|apply aB|(apply b8;kernel_rfl)|apply aK)|with_reducible apply aA)
 rw [← hL]
 refine bC (σ := Nat) [0, 3, 26, 27] [(0, _), (3, _), (26, _), (27, _)] [0, 1, 2, 3] [(0, some _), (1, some _), (2, some _), (3, some _)] (fun k => [(28, iv (k : Int))]) (fun k => []) (fun k => k ≤ L.length ∧ ∀ j, j < k → s.slots[(L[j]!).toNat]!.set = true) (fun k => L.length - k) (0) ⟨Nat.zero_le _, fun j h => absurd h (by omega)⟩ rfl rfl (by repeat' (first|exact trivial|refine And.intro rfl ?_)) (by repeat' (exact trivial)) ?_
 rintro k ⟨hk, hall⟩
 by_cases hkn : k < L.length
 ·have hmk := hmem k hkn
  repeat' (first|(apply aM;first|(apply aE;rfl;rfl)|(first|(apply cX;(case hx|hH => rfl);(case hf|hg|hα => infer_instance);(case hk => omega);(case hc|hN => rfl))|(apply aL;rfl;rfl;rfl;rfl))|(apply aD;rfl;rfl;rfl)|(first|(apply bU;rfl;rfl;omega;rfl)|(apply aR;rfl;rfl;rfl;rfl))|(apply aC;rfl;rfl)|(first|(apply a7;(case hx|hi => rfl);(case hm => (assumption));(case hml => (rfl));(case hα | hf|hg => infer_instance);(case hN => rfl))|(apply cP;rfl;rfl;(omega);rfl))|(apply aF;kernel_rfl)|(apply cC;rfl;rfl)|(apply bW;rfl;rfl;rfl))|(apply aN;first|apply aI|apply aB|(apply aO;rfl;all_goals intro hc;have hq:=hc;(try simp only [cF] at hq);try exfalso;omega)|apply aK|apply aS|apply aQ)|with_reducible apply aA|with_reducible apply bK|with_reducible apply aX|with_reducible apply cT)
  ·have hu : dH ts s x = true := (dT htl).2 ⟨L[k]!, by rw [← hL]; exact cA _ _ hkn, by assumption⟩
   rw [uZ hu]
   (refine aP rfl ?_; refine bY () trivial ?_ ⟨.inr (Eq.trans (b := some _) rfl ?_), ⟨.inr (Eq.trans (b := some _) rfl ?_), ⟨.inr (Eq.trans (b := some _) rfl ?_), trivial⟩⟩⟩)
   ·rfl
   ·rfl
   ·rfl
   ·rfl
  ·(apply dW (k + 1); focus (refine Le.ren [(3, 3)] rfl (by decide) ?_ ?_ <;> repeat' (first | exact trivial | refine And.intro ⟨_, rfl, ?_⟩ ?_ | refine And.intro ⟨_, _, rfl, rfl, ?_⟩ ?_ | exact Or.inr rfl | refine Or.inl ⟨?_, (by first | rfl | exact aZ _ _ | exact Pur.pf)⟩ | refine Or.inr (All2.cons ?_ ?_) | refine All2.cons ?_ ?_ | exact All2.nil | rfl)))
   ·refine ⟨by omega, fun j hj => ?_⟩
    rcases Nat.lt_or_ge j k with h|h
    ·exact hall j h
    ·rw [show j = k by omega]; assumption
   ·omega
 ·have hu : dH ts s x = false := by
   cases q : dH ts s x with
   | false => rfl
   | true =>
    obtain ⟨v, hv, hs⟩ := (dT htl).1 q
    rw [← hL] at hv
    obtain ⟨j, hj, e⟩ := List.getElem_of_mem hv
    have h1 := hall j (by omega)
    rw [cK _ _ hj, e, hs] at h1;cases h1
  rw [qN hu]
  have hwr := xO s.cells hm s.slots[x.x.toNat]!.ptr s.slots[x.y.toNat]!.num
  have hd : dR ts s x = (⟨s.slots, qR s.cells s.slots[x.x.toNat]!.ptr s.slots[x.y.toNat]!.num, s.read⟩, qW (vY s.cells s.slots[x.x.toNat]!.ptr s.slots[x.y.toNat]!.num)) := by unfold dR;rw [if_neg (show ¬ x.op = 1 by omega), if_neg (show ¬ x.op = 2 by omega), if_neg (show ¬ x.op = 3 by omega), if_neg (show ¬ (x.op = 4 ∨ x.op = 5) by omega), if_neg (show ¬ x.op = 6 by omega), if_pos ho]
  rw [hd]
  repeat' (first|(apply aM;first|(apply jG;(case hx|hH => rfl);(case hf|hg|hα => infer_instance);(case hk => omega);(case hj => decide);(case hc => exact (rfl:_=[_, _]));(case h0|hN => rfl))|((with_reducible apply aJ (k := 158));(case ha => rfl);(case h => exact hwr);(case hp => (exact Pur.pf));(case hN => rfl))|(apply aE;rfl;rfl)|(first|(apply cX;(case hx|hH => rfl);(case hf|hg|hα => infer_instance);(case hk => omega);(case hc|hN => rfl))|(apply aL;rfl;rfl;rfl;rfl))|(apply aD;rfl;rfl;rfl)|(apply aR;rfl;rfl;rfl;rfl)|(apply aC;rfl;rfl)|(apply cP;rfl;rfl;(assumption);rfl)|((with_reducible apply aJ (k := 156));(case ha => rfl);(case h => (apply rI <;> (fail)));(case hp => (rfl));(case hN => rfl))|(apply aF;kernel_rfl)|(apply bW;rfl;rfl;rfl)|(apply cB;rfl;rfl;rfl)|(apply aW;rfl;rfl;rfl;rfl;rfl;(case hl => (simp;done));(exact (rfl:_=[_, _, _, _]))))|(apply aN;first|apply aI|apply aB|(apply b8;kernel_rfl)|(apply aO;rfl;all_goals intro hc;have hq:=hc;(try simp only [cF] at hq);try exfalso;omega)|apply aK|apply aS|apply bI|apply aQ)|with_reducible apply aA|with_reducible apply bK|with_reducible apply bJ|with_reducible apply aX|with_reducible apply cT|with_reducible apply bH)
  ·have hk : ¬ vY s.cells s.slots[x.x.toNat]!.ptr s.slots[x.y.toNat]!.num = 0 := by assumption
   (refine aP rfl ?_; refine bY () trivial ?_ ⟨.inr (Eq.trans (b := some _) rfl ?_), ⟨.inr (Eq.trans (b := some _) rfl ?_), ⟨.inr (Eq.trans (b := some _) rfl ?_), trivial⟩⟩⟩)
   ·show iv (lM _) = iv (qW _)
    unfold qW;rw [if_neg hk]
   ·rfl
   ·rfl
   ·rfl
  ·have hk : vY s.cells s.slots[x.x.toNat]!.ptr s.slots[x.y.toNat]!.num = 0 := by assumption
   (refine aP rfl ?_; refine bY () trivial ?_ ⟨.inr (Eq.trans (b := some _) rfl ?_), ⟨.inr (Eq.trans (b := some _) rfl ?_), ⟨.inr (Eq.trans (b := some _) rfl ?_), trivial⟩⟩⟩)
   ·rw [hk]; rfl
   ·rfl
   ·rfl
   ·rfl
theorem LF (ts : List Int) (bd : List AL.Stmt) (pts : List Pnt) (s : Mc) (x : Pnt) (htl : ts.length ≤ 6) (hm : OkM s.cells) (hsl : s.slots.length = ts.length) (ho : x.op = 8) (hx : 0 ≤ x.x ∧ x.x < ts.length) : MC Tryz.prog 120 [.optr 0 0, iG x] [(0, some (mO ts bd pts 1 2 s)), (1, some (aH fD s.slots)), (2, some (aH cI s.read))] 3 (fun _ : Unit => True) (fun _ => iv (eY ts s x).2) (fun _ => [(0, some (mO ts bd pts 1 2 (eY ts s x).1)), (1, some (aH fD (eY ts s x).1.slots)), (2, some (aH cI (eY ts s x).1.read))]) := by
 have hus := iR ts bd pts x htl
 have hsm : Sm (wS ts x [1, 2, 3]) := dK (by omega)
 obtain ⟨L, hL⟩ : ∃ L, L = cO (wS ts x [1, 2, 3]) := ⟨_, rfl⟩
 have hLl : L.length ≤ 62 := by rw [hL]; exact eC _
 have hmem : ∀ k, k < L.length → 0 ≤ L[k]! ∧ L[k]! < s.slots.length := fun k hk => by
  rw [hsl]; exact iE (by rw [← hL]; exact cA _ _ hk)
 (refine cD Tryz.func120 rfl (by simp [Tryz.ntmps120]) ?_; rw [Tryz.ntmps120])
 repeat' (first|(apply aM;first|((with_reducible apply aJ (k := 151));(case ha => rfl);(case h => exact hus);(case hp => (exact Pur.pf));(case hN => rfl))|(apply aE;rfl;rfl)|(first|(apply aL;rfl;rfl;rfl;rfl)|(apply aY;rfl;rfl;(exact (rfl:_=[_, _, _, _, _]));rfl;rfl;rfl))|(apply aD;rfl;rfl;rfl)|(apply aC;rfl;rfl)|((with_reducible apply aJ (k := 100));(case ha => rfl);(case h => (apply hO <;> (assumption)));(case hp => (rfl));(case hN => rfl))|(apply a8;rfl;rfl;rfl)|(apply aF;kernel_rfl)|(apply bW;rfl;rfl;rfl)|(apply b0;rfl;rfl;rfl;rfl))|(apply aN;first|apply aI|apply aB|(apply b8;kernel_rfl)|apply aK)|with_reducible apply aA)
 rw [← hL]
 refine bC (σ := Nat) [0, 3, 26, 27] [(0, _), (3, _), (26, _), (27, _)] [0, 1, 2, 3] [(0, some _), (1, some _), (2, some _), (3, some _)] (fun k => [(28, iv (k : Int))]) (fun k => []) (fun k => k ≤ L.length ∧ ∀ j, j < k → s.slots[(L[j]!).toNat]!.set = true) (fun k => L.length - k) (0) ⟨Nat.zero_le _, fun j h => absurd h (by omega)⟩ rfl rfl (by repeat' (first|exact trivial|refine And.intro rfl ?_)) (by repeat' (exact trivial)) ?_
 rintro k ⟨hk, hall⟩
 by_cases hkn : k < L.length
 ·have hmk := hmem k hkn
  repeat' (first|(apply aM;first|(apply aE;rfl;rfl)|(first|(apply cX;(case hx|hH => rfl);(case hf|hg|hα => infer_instance);(case hk => omega);(case hc|hN => rfl))|(apply aL;rfl;rfl;rfl;rfl))|(apply aD;rfl;rfl;rfl)|(first|(apply bU;rfl;rfl;omega;rfl)|(apply aR;rfl;rfl;rfl;rfl))|(apply aC;rfl;rfl)|(first|(apply a7;(case hx|hi => rfl);(case hm => (assumption));(case hml => (rfl));(case hα | hf|hg => infer_instance);(case hN => rfl))|(apply cP;rfl;rfl;(omega);rfl))|(apply aF;kernel_rfl)|(apply cC;rfl;rfl)|(apply bW;rfl;rfl;rfl))|(apply aN;first|apply aI|apply aB|(apply aO;rfl;all_goals intro hc;have hq:=hc;(try simp only [cF] at hq);try exfalso;omega)|apply aK|apply aS|apply aQ)|with_reducible apply aA|with_reducible apply bK|with_reducible apply aX|with_reducible apply cT)
  ·have hu : dH ts s x = true := (dT htl).2 ⟨L[k]!, by rw [← hL]; exact cA _ _ hkn, by assumption⟩
   rw [uZ hu]
   (refine aP rfl ?_; refine bY () trivial ?_ ⟨.inr (Eq.trans (b := some _) rfl ?_), ⟨.inr (Eq.trans (b := some _) rfl ?_), ⟨.inr (Eq.trans (b := some _) rfl ?_), trivial⟩⟩⟩)
   ·rfl
   ·rfl
   ·rfl
   ·rfl
  ·(apply dW (k + 1); focus (refine Le.ren [(3, 3)] rfl (by decide) ?_ ?_ <;> repeat' (first | exact trivial | refine And.intro ⟨_, rfl, ?_⟩ ?_ | refine And.intro ⟨_, _, rfl, rfl, ?_⟩ ?_ | exact Or.inr rfl | refine Or.inl ⟨?_, (by first | rfl | exact aZ _ _ | exact Pur.pf)⟩ | refine Or.inr (All2.cons ?_ ?_) | refine All2.cons ?_ ?_ | exact All2.nil | rfl)))
   ·refine ⟨by omega, fun j hj => ?_⟩
    rcases Nat.lt_or_ge j k with h|h
    ·exact hall j h
    ·rw [show j = k by omega]; assumption
   ·omega
 ·have hu : dH ts s x = false := by
   cases q : dH ts s x with
   | false => rfl
   | true =>
    obtain ⟨v, hv, hs⟩ := (dT htl).1 q
    rw [← hL] at hv
    obtain ⟨j, hj, e⟩ := List.getElem_of_mem hv
    have h1 := hall j (by omega)
    rw [cK _ _ hj, e, hs] at h1;cases h1
  rw [qN hu]
  have hfr := FA ts bd pts s x.x hm hsl hx
  have hd : dR ts s x = (⟨s.slots.set x.x.toNat jX, jW s.cells s.slots[x.x.toNat]!.ptr, s.read⟩, qW (dB s.cells s.slots[x.x.toNat]!.ptr true)) := by unfold dR;rw [if_neg (show ¬ x.op = 1 by omega), if_neg (show ¬ x.op = 2 by omega), if_neg (show ¬ x.op = 3 by omega), if_neg (show ¬ (x.op = 4 ∨ x.op = 5) by omega), if_neg (show ¬ x.op = 6 by omega), if_neg (show ¬ x.op = 7 by omega), if_pos ho]
  rw [hd]
  repeat' (first|(apply aM;first|((apply EA (ts := ts) (bd := bd) (pts := pts) (s := s) (v := x.x));(case ha0|ha1|hH0|hH1|hH2|hdd => rfl);(case hmc => exact hfr);(case hM|hN => rfl))|(apply aE;rfl;rfl)|(apply aL;rfl;rfl;rfl;rfl)|(apply aD;rfl;rfl;rfl)|(apply aR;rfl;rfl;rfl;rfl)|(apply aC;rfl;rfl)|(apply cP;rfl;rfl;(assumption);rfl)|(apply aF;kernel_rfl)|(apply bV;rfl;(exact (rfl:_=some [_, _, _, _]));(exact (rfl:_=[_, _, _, _]));rfl)|(apply bW;rfl;rfl;rfl)|(apply aW;rfl;rfl;rfl;rfl;rfl;(rw [aT]; simp only [gX] <;> omega);(exact Cq (by (omega)))))|(apply aN;first|apply aI|apply aB|(apply b8;kernel_rfl)|(apply aO;rfl;all_goals intro hc;have hq:=hc;(try simp only [cF] at hq);try exfalso;omega)|apply aK|apply bI|apply aQ)|with_reducible apply aA|with_reducible apply bK|with_reducible apply bJ|with_reducible apply cT|with_reducible apply bH)
  (refine aP rfl ?_; refine bY () trivial ?_ ⟨.inr (Eq.trans (b := some _) rfl ?_), ⟨.inr (Eq.trans (b := some _) rfl ?_), ⟨.inr (Eq.trans (b := some _) rfl ?_), trivial⟩⟩⟩)
  ·rfl
  ·rfl
  ·rfl
  ·rfl
theorem Mp (ts : List Int) (bd : List AL.Stmt) (pts : List Pnt) (s : Mc) (x : Pnt) (htl : ts.length ≤ 6) (hm : OkM s.cells) (hsl : s.slots.length = ts.length) (ho : x.op = 9 ∨ x.op = 10 ∨ x.op = 11) : MC Tryz.prog 120 [.optr 0 0, iG x] [(0, some (mO ts bd pts 1 2 s)), (1, some (aH fD s.slots)), (2, some (aH cI s.read))] 3 (fun _ : Unit => True) (fun _ => iv (eY ts s x).2) (fun _ => [(0, some (mO ts bd pts 1 2 (eY ts s x).1)), (1, some (aH fD (eY ts s x).1.slots)), (2, some (aH cI (eY ts s x).1.read))]) := by
 have hus := iR ts bd pts x htl
 have hsm : Sm (wS ts x [1, 2, 3]) := dK (by omega)
 obtain ⟨L, hL⟩ : ∃ L, L = cO (wS ts x [1, 2, 3]) := ⟨_, rfl⟩
 have hLl : L.length ≤ 62 := by rw [hL]; exact eC _
 have hmem : ∀ k, k < L.length → 0 ≤ L[k]! ∧ L[k]! < s.slots.length := fun k hk => by
  rw [hsl]; exact iE (by rw [← hL]; exact cA _ _ hk)
 (refine cD Tryz.func120 rfl (by simp [Tryz.ntmps120]) ?_; rw [Tryz.ntmps120])
 repeat' (first|(apply aM;first|((with_reducible apply aJ (k := 151));(case ha => rfl);(case h => exact hus);(case hp => (exact Pur.pf));(case hN => rfl))|(apply aE;rfl;rfl)|(first|(apply aL;rfl;rfl;rfl;rfl)|(apply aY;rfl;rfl;(exact (rfl:_=[_, _, _, _, _]));rfl;rfl;rfl))|(apply aD;rfl;rfl;rfl)|(apply aC;rfl;rfl)|((with_reducible apply aJ (k := 100));(case ha => rfl);(case h => (apply hO <;> (assumption)));(case hp => (rfl));(case hN => rfl))|(apply a8;rfl;rfl;rfl)|(apply aF;kernel_rfl)|(apply bW;rfl;rfl;rfl)|(apply b0;rfl;rfl;rfl;rfl))|(apply aN;first|apply aI|apply aB|(apply b8;kernel_rfl)|apply aK)|with_reducible apply aA)
 rw [← hL]
 refine bC (σ := Nat) [0, 3, 26, 27] [(0, _), (3, _), (26, _), (27, _)] [0, 1, 2, 3] [(0, some _), (1, some _), (2, some _), (3, some _)] (fun k => [(28, iv (k : Int))]) (fun k => []) (fun k => k ≤ L.length ∧ ∀ j, j < k → s.slots[(L[j]!).toNat]!.set = true) (fun k => L.length - k) (0) ⟨Nat.zero_le _, fun j h => absurd h (by omega)⟩ rfl rfl (by repeat' (first|exact trivial|refine And.intro rfl ?_)) (by repeat' (exact trivial)) ?_
 rintro k ⟨hk, hall⟩
 by_cases hkn : k < L.length
 ·have hmk := hmem k hkn
  repeat' (first|(apply aM;first|(apply aE;rfl;rfl)|(first|(apply cX;(case hx|hH => rfl);(case hf|hg|hα => infer_instance);(case hk => omega);(case hc|hN => rfl))|(apply aL;rfl;rfl;rfl;rfl))|(apply aD;rfl;rfl;rfl)|(first|(apply bU;rfl;rfl;omega;rfl)|(apply aR;rfl;rfl;rfl;rfl))|(apply aC;rfl;rfl)|(first|(apply a7;(case hx|hi => rfl);(case hm => (assumption));(case hml => (rfl));(case hα | hf|hg => infer_instance);(case hN => rfl))|(apply cP;rfl;rfl;(omega);rfl))|(apply aF;kernel_rfl)|(apply cC;rfl;rfl)|(apply bW;rfl;rfl;rfl))|(apply aN;first|apply aI|apply aB|(apply aO;rfl;all_goals intro hc;have hq:=hc;(try simp only [cF] at hq);try exfalso;omega)|apply aK|apply aS|apply aQ)|with_reducible apply aA|with_reducible apply bK|with_reducible apply aX|with_reducible apply cT)
  ·have hu : dH ts s x = true := (dT htl).2 ⟨L[k]!, by rw [← hL]; exact cA _ _ hkn, by assumption⟩
   rw [uZ hu]
   (refine aP rfl ?_; refine bY () trivial ?_ ⟨.inr (Eq.trans (b := some _) rfl ?_), ⟨.inr (Eq.trans (b := some _) rfl ?_), ⟨.inr (Eq.trans (b := some _) rfl ?_), trivial⟩⟩⟩)
   ·rfl
   ·rfl
   ·rfl
   ·rfl
  ·(apply dW (k + 1); focus (refine Le.ren [(3, 3)] rfl (by decide) ?_ ?_ <;> repeat' (first | exact trivial | refine And.intro ⟨_, rfl, ?_⟩ ?_ | refine And.intro ⟨_, _, rfl, rfl, ?_⟩ ?_ | exact Or.inr rfl | refine Or.inl ⟨?_, (by first | rfl | exact aZ _ _ | exact Pur.pf)⟩ | refine Or.inr (All2.cons ?_ ?_) | refine All2.cons ?_ ?_ | exact All2.nil | rfl)))
   ·refine ⟨by omega, fun j hj => ?_⟩
    rcases Nat.lt_or_ge j k with h|h
    ·exact hall j h
    ·rw [show j = k by omega]; assumption
   ·omega
 ·have hu : dH ts s x = false := by
   cases q : dH ts s x with
   | false => rfl
   | true =>
    obtain ⟨v, hv, hs⟩ := (dT htl).1 q
    rw [← hL] at hv
    obtain ⟨j, hj, e⟩ := List.getElem_of_mem hv
    have h1 := hall j (by omega)
    rw [cK _ _ hj, e, hs] at h1;cases h1
  rw [qN hu]
  by_cases h11 : x.op = 11
  ·have hd : dR ts s x = eI ts ts.length 0 s := v7 h11
   rw [hd]
   have hfi := JZ ts bd pts s hm hsl (by omega)
   repeat' (first|(apply aM;first|((apply Ip (ts := ts) (bd := bd) (pts := pts) (s := s));(case ha0|hH0|hH1|hH2|hdd => rfl);(case hmc => exact hfi);(case hM|hN => rfl))|(apply aE;rfl;rfl)|(apply aL;rfl;rfl;rfl;rfl)|(apply aD;rfl;rfl;rfl)|(apply aR;rfl;rfl;rfl;rfl)|(apply aC;rfl;rfl)|(apply aF;kernel_rfl))|(apply aN;first|apply aI|apply aB|(apply aO;rfl;all_goals intro hc;have hq:=hc;(try simp only [cF] at hq);try exfalso;omega)|apply aK|apply bI|apply aQ)|with_reducible apply aA|with_reducible apply bK|with_reducible apply bJ|with_reducible apply cT|with_reducible apply bH)
   (refine aP rfl ?_; refine bY () trivial ?_ ⟨.inr (Eq.trans (b := some _) rfl ?_), ⟨.inr (Eq.trans (b := some _) rfl ?_), ⟨.inr (Eq.trans (b := some _) rfl ?_), trivial⟩⟩⟩)
   ·rfl
   ·rfl
   ·rfl
   ·rfl
  ·have hd : dR ts s x = (s, -1) := by unfold dR; rw [if_neg (show ¬ x.op = 1 by omega), if_neg (show ¬ x.op = 2 by omega), if_neg (show ¬ x.op = 3 by omega), if_neg (show ¬ (x.op = 4 ∨ x.op = 5) by omega), if_neg (show ¬ x.op = 6 by omega), if_neg (show ¬ x.op = 7 by omega), if_neg (show ¬ x.op = 8 by omega), if_neg (show ¬ x.op = 11 by omega)]
   rw [hd]
   repeat' (first|(apply aM;first|(apply aL;rfl;rfl;rfl;rfl)|(apply aD;rfl;rfl;rfl)|(apply aR;rfl;rfl;rfl;rfl)|(apply aC;rfl;rfl)|(apply aF;kernel_rfl))|(apply aN;first|apply aI|apply aB|(apply aO;rfl;all_goals intro hc;have hq:=hc;(try simp only [cF] at hq);try exfalso;omega)|apply aK|apply aS|apply bI|apply aQ)|with_reducible apply aA|with_reducible apply bJ|with_reducible apply aX|with_reducible apply bH)
   (refine aP rfl ?_; refine bY () trivial ?_ ⟨.inr (Eq.trans (b := some _) rfl ?_), ⟨.inr (Eq.trans (b := some _) rfl ?_), ⟨.inr (Eq.trans (b := some _) rfl ?_), trivial⟩⟩⟩)
   ·rfl
   ·rfl
   ·rfl
   ·rfl
theorem Kj (ts : List Int) (bd : List AL.Stmt) (pts : List Pnt) (s : Mc) (x : Pnt) (htl : ts.length ≤ 6) (hm : OkM s.cells) (hsl : s.slots.length = ts.length) (ho : x.op = 6) (hrl : s.read.length ≤ 1000) (hx : 0 ≤ x.x ∧ x.x < ts.length) (hy : 0 ≤ x.y ∧ x.y < ts.length) (hz : dB s.cells s.slots[x.y.toNat]!.ptr false = 0) (hun : dH ts s x = false) : MC Tryz.prog 120 [.optr 0 0, iG x] [(0, some (mO ts bd pts 1 2 s)), (1, some (aH fD s.slots)), (2, some (aH cI s.read))] 3 (fun _ : Unit => True) (fun _ => iv (eY ts s x).2) (fun _ => [(0, some (mO ts bd pts 1 5 (eY ts s x).1)), (1, some (aH fD (eY ts s x).1.slots)), (5, some (aH cI (eY ts s x).1.read))]) := by
 have hus := iR ts bd pts x htl
 have hsm : Sm (wS ts x [1, 2, 3]) := dK (by omega)
 obtain ⟨L, hL⟩ : ∃ L, L = cO (wS ts x [1, 2, 3]) := ⟨_, rfl⟩
 have hLl : L.length ≤ 62 := by rw [hL]; exact eC _
 have hmem : ∀ k, k < L.length → 0 ≤ L[k]! ∧ L[k]! < s.slots.length := fun k hk => by
  rw [hsl]; exact iE (by rw [← hL]; exact cA _ _ hk)
 (refine cD Tryz.func120 rfl (by simp [Tryz.ntmps120]) ?_; rw [Tryz.ntmps120])
 repeat' (first|(apply aM;first|((with_reducible apply aJ (k := 151));(case ha => rfl);(case h => exact hus);(case hp => (exact Pur.pf));(case hN => rfl))|(apply aE;rfl;rfl)|(first|(apply aL;rfl;rfl;rfl;rfl)|(apply aY;rfl;rfl;(exact (rfl:_=[_, _, _, _, _]));rfl;rfl;rfl))|(apply aD;rfl;rfl;rfl)|(apply aC;rfl;rfl)|((with_reducible apply aJ (k := 100));(case ha => rfl);(case h => (apply hO <;> (assumption)));(case hp => (rfl));(case hN => rfl))|(apply a8;rfl;rfl;rfl)|(apply aF;kernel_rfl)|(apply bW;rfl;rfl;rfl)|(apply b0;rfl;rfl;rfl;rfl))|(apply aN;first|apply aI|apply aB|(apply b8;kernel_rfl)|apply aK)|with_reducible apply aA)
 rw [← hL]
 refine bC (σ := Nat) [0, 3, 26, 27] [(0, _), (3, _), (26, _), (27, _)] [0, 1, 2, 3] [(0, some _), (1, some _), (2, some _), (3, some _)] (fun k => [(28, iv (k : Int))]) (fun k => []) (fun k => k ≤ L.length ∧ ∀ j, j < k → s.slots[(L[j]!).toNat]!.set = true) (fun k => L.length - k) (0) ⟨Nat.zero_le _, fun j h => absurd h (by omega)⟩ rfl rfl (by repeat' (first|exact trivial|refine And.intro rfl ?_)) (by repeat' (exact trivial)) ?_
 rintro k ⟨hk, hall⟩
 by_cases hkn : k < L.length
 ·have hmk := hmem k hkn
  repeat' (first|(apply aM;first|(apply aE;rfl;rfl)|(first|(apply cX;(case hx|hH => rfl);(case hf|hg|hα => infer_instance);(case hk => omega);(case hc|hN => rfl))|(apply aL;rfl;rfl;rfl;rfl))|(apply aD;rfl;rfl;rfl)|(first|(apply bU;rfl;rfl;omega;rfl)|(apply aR;rfl;rfl;rfl;rfl))|(apply aC;rfl;rfl)|(first|(apply a7;(case hx|hi => rfl);(case hm => (assumption));(case hml => (rfl));(case hα | hf|hg => infer_instance);(case hN => rfl))|(apply cP;rfl;rfl;(omega);rfl))|(apply aF;kernel_rfl)|(apply cC;rfl;rfl)|(apply bW;rfl;rfl;rfl))|(apply aN;first|apply aI|apply aB|(apply aO;rfl;all_goals intro hc;have hq:=hc;(try simp only [cF] at hq);try exfalso;omega)|apply aK|apply aS|apply aQ)|with_reducible apply aA|with_reducible apply bK|with_reducible apply aX|with_reducible apply cT)
  ·exfalso
   have hu : dH ts s x = true := (dT htl).2 ⟨L[k]!, by rw [← hL]; exact cA _ _ hkn, by assumption⟩
   rw [hun] at hu;cases hu
  ·(apply dW (k + 1); focus (refine Le.ren [(3, 3)] rfl (by decide) ?_ ?_ <;> repeat' (first | exact trivial | refine And.intro ⟨_, rfl, ?_⟩ ?_ | refine And.intro ⟨_, _, rfl, rfl, ?_⟩ ?_ | exact Or.inr rfl | refine Or.inl ⟨?_, (by first | rfl | exact aZ _ _ | exact Pur.pf)⟩ | refine Or.inr (All2.cons ?_ ?_) | refine All2.cons ?_ ?_ | exact All2.nil | rfl)))
   ·refine ⟨by omega, fun j hj => ?_⟩
    rcases Nat.lt_or_ge j k with h|h
    ·exact hall j h
    ·rw [show j = k by omega]; assumption
   ·omega
 ·have hu : dH ts s x = false := by
   cases q : dH ts s x with
   | false => rfl
   | true =>
    obtain ⟨v, hv, hs⟩ := (dT htl).1 q
    rw [← hL] at hv
    obtain ⟨j, hj, e⟩ := List.getElem_of_mem hv
    have h1 := hall j (by omega)
    rw [cK _ _ hj, e, hs] at h1;cases h1
  rw [qN hu]
  have hrc := qA s.cells hm s.slots[x.y.toNat]!.ptr
  have hp := mU ts bd pts ⟨s.slots, gQ s.cells s.slots[x.y.toNat]!.ptr false, s.read ++ [A6 s.cells s.slots[x.y.toNat]!.ptr]⟩ x.x ⟨true, A6 s.cells s.slots[x.y.toNat]!.ptr, ⟨0, 0⟩⟩ (hm.tch _ _) hsl hx
  have hd : dR ts s x = dY ts ⟨s.slots, gQ s.cells s.slots[x.y.toNat]!.ptr false, s.read ++ [A6 s.cells s.slots[x.y.toNat]!.ptr]⟩ x.x.toNat ⟨true, A6 s.cells s.slots[x.y.toNat]!.ptr, ⟨0, 0⟩⟩ := by unfold dR;rw [if_neg (show ¬ x.op = 1 by omega), if_neg (show ¬ x.op = 2 by omega), if_neg (show ¬ x.op = 3 by omega), if_neg (show ¬ (x.op = 4 ∨ x.op = 5) by omega), if_pos ho, if_pos hz]
  rw [hd]
  rw [hz] at hrc
  repeat' (first|(apply aM;first|(apply jG;(case hx|hH => rfl);(case hf|hg|hα => infer_instance);(case hk => omega);(case hj => decide);(case hc => exact (rfl:_=[_, _]));(case h0|hN => rfl))|((with_reducible apply aJ (k := 157));(case ha => rfl);(case h => exact hrc);(case hp => (exact Pur.pf));(case hN => rfl))|(with_reducible apply dE (d := 184))|(apply aE;rfl;rfl)|(apply aL;rfl;rfl;rfl;rfl)|(apply aD;rfl;rfl;rfl)|(apply aR;rfl;rfl;rfl;rfl)|(apply aC;rfl;rfl)|(apply cP;rfl;rfl;(assumption);rfl)|(apply cH;rfl;rfl;rfl;rfl;rfl;(rw [aT]; omega);(rfl);omega;omega;(exact j1 (by (omega)));rfl;rfl)|(apply aF;kernel_rfl)|(apply bW;rfl;rfl;rfl)|(apply cB;rfl;rfl;rfl)|((apply bS (t := _));(case hze|hsm|hl => rfl);(case hfl => exact (rfl:_=some [_]));(case hM|hN => rfl))|(apply aW;rfl;rfl;rfl;rfl;rfl;(case hl => (simp;done));(exact (rfl:_=[_, _, _, _]))))|(apply aN;first|apply aI|apply aB|(apply b8;kernel_rfl)|(apply cS;rfl;(rfl))|(apply aO;rfl;all_goals intro hc;have hq:=hc;(try simp only [cF] at hq);try exfalso;omega)|apply aK|apply aS|apply bI)|with_reducible apply aA|with_reducible apply bJ|with_reducible apply bH)
  refine eR ?_
  rw [show s.read.length + 1 = (s.read ++ [A6 s.cells s.slots[x.y.toNat]!.ptr]).length from by rw [List.length_append]; rfl]
  repeat' (first|(apply aM;first|((apply kX (ts := ts) (bd := bd) (pts := pts) (s := ⟨s.slots, gQ s.cells s.slots[x.y.toNat]!.ptr false, s.read ++ [A6 s.cells s.slots[x.y.toNat]!.ptr]⟩) (v := x.x) (y := ⟨true, A6 s.cells s.slots[x.y.toNat]!.ptr, ⟨0, 0⟩⟩));(case ha0|ha1|ha2|hH0|hH1|hH2|hdd => rfl);(case hmc => exact hp);(case hM|hN => rfl))|(apply aE;rfl;rfl)|(apply aL;rfl;rfl;rfl;rfl)|(apply aD;rfl;rfl;rfl)|(apply aC;rfl;rfl)|(apply aF;kernel_rfl)|(apply bV;rfl;(exact (rfl:_=some [_, _, _, _]));(exact (rfl:_=[_, _, _, _]));rfl))|(apply aN;(apply aQ))|with_reducible apply aA|with_reducible apply bK|with_reducible apply cT)
  (refine aP rfl ?_; refine bY () trivial ?_ ⟨.inr (Eq.trans (b := some _) rfl ?_), ⟨.inr (Eq.trans (b := some _) rfl ?_), ⟨.inr (Eq.trans (b := some _) rfl ?_), trivial⟩⟩⟩)
  ·rfl
  ·rfl
  ·rfl
  ·rfl
theorem LQ (ts : List Int) (bd : List AL.Stmt) (pts : List Pnt) (s : Mc) (x : Pnt) (htl : ts.length ≤ 6) (hm : OkM s.cells) (hsl : s.slots.length = ts.length) (hun : dH ts s x = true) : MC Tryz.prog 120 [.optr 0 0, iG x] [(0, some (mO ts bd pts 1 2 s)), (1, some (aH fD s.slots)), (2, some (aH cI s.read))] 3 (fun _ : Unit => True) (fun _ => iv (eY ts s x).2) (fun _ => [(0, some (mO ts bd pts 1 2 (eY ts s x).1)), (1, some (aH fD (eY ts s x).1.slots)), (2, some (aH cI (eY ts s x).1.read))]) := by
 have hus := iR ts bd pts x htl
 have hsm : Sm (wS ts x [1, 2, 3]) := dK (by omega)
 obtain ⟨L, hL⟩ : ∃ L, L = cO (wS ts x [1, 2, 3]) := ⟨_, rfl⟩
 have hLl : L.length ≤ 62 := by rw [hL]; exact eC _
 have hmem : ∀ k, k < L.length → 0 ≤ L[k]! ∧ L[k]! < s.slots.length := fun k hk => by
  rw [hsl]; exact iE (by rw [← hL]; exact cA _ _ hk)
 (refine cD Tryz.func120 rfl (by simp [Tryz.ntmps120]) ?_; rw [Tryz.ntmps120])
 repeat' (first|(apply aM;first|((with_reducible apply aJ (k := 151));(case ha => rfl);(case h => exact hus);(case hp => (exact Pur.pf));(case hN => rfl))|(apply aE;rfl;rfl)|(first|(apply aL;rfl;rfl;rfl;rfl)|(apply aY;rfl;rfl;(exact (rfl:_=[_, _, _, _, _]));rfl;rfl;rfl))|(apply aD;rfl;rfl;rfl)|(apply aC;rfl;rfl)|((with_reducible apply aJ (k := 100));(case ha => rfl);(case h => (apply hO <;> (assumption)));(case hp => (rfl));(case hN => rfl))|(apply a8;rfl;rfl;rfl)|(apply aF;kernel_rfl)|(apply bW;rfl;rfl;rfl)|(apply b0;rfl;rfl;rfl;rfl))|(apply aN;first|apply aI|apply aB|(apply b8;kernel_rfl)|apply aK)|with_reducible apply aA)
 rw [← hL]
 refine bC (σ := Nat) [0, 3, 26, 27] [(0, _), (3, _), (26, _), (27, _)] [0, 1, 2, 3] [(0, some _), (1, some _), (2, some _), (3, some _)] (fun k => [(28, iv (k : Int))]) (fun k => []) (fun k => k ≤ L.length ∧ ∀ j, j < k → s.slots[(L[j]!).toNat]!.set = true) (fun k => L.length - k) (0) ⟨Nat.zero_le _, fun j h => absurd h (by omega)⟩ rfl rfl (by repeat' (first|exact trivial|refine And.intro rfl ?_)) (by repeat' (exact trivial)) ?_
 rintro k ⟨hk, hall⟩
 by_cases hkn : k < L.length
 ·have hmk := hmem k hkn
  repeat' (first|(apply aM;first|(apply aE;rfl;rfl)|(first|(apply cX;(case hx|hH => rfl);(case hf|hg|hα => infer_instance);(case hk => omega);(case hc|hN => rfl))|(apply aL;rfl;rfl;rfl;rfl))|(apply aD;rfl;rfl;rfl)|(first|(apply bU;rfl;rfl;omega;rfl)|(apply aR;rfl;rfl;rfl;rfl))|(apply aC;rfl;rfl)|(first|(apply a7;(case hx|hi => rfl);(case hm => (assumption));(case hml => (rfl));(case hα | hf|hg => infer_instance);(case hN => rfl))|(apply cP;rfl;rfl;(omega);rfl))|(apply aF;kernel_rfl)|(apply cC;rfl;rfl)|(apply bW;rfl;rfl;rfl))|(apply aN;first|apply aI|apply aB|(apply aO;rfl;all_goals intro hc;have hq:=hc;(try simp only [cF] at hq);try exfalso;omega)|apply aK|apply aS|apply aQ)|with_reducible apply aA|with_reducible apply bK|with_reducible apply aX|with_reducible apply cT)
  ·have hu : dH ts s x = true := (dT htl).2 ⟨L[k]!, by rw [← hL]; exact cA _ _ hkn, by assumption⟩
   rw [uZ hu]
   (refine aP rfl ?_; refine bY () trivial ?_ ⟨.inr (Eq.trans (b := some _) rfl ?_), ⟨.inr (Eq.trans (b := some _) rfl ?_), ⟨.inr (Eq.trans (b := some _) rfl ?_), trivial⟩⟩⟩)
   ·rfl
   ·rfl
   ·rfl
   ·rfl
  ·(apply dW (k + 1); focus (refine Le.ren [(3, 3)] rfl (by decide) ?_ ?_ <;> repeat' (first | exact trivial | refine And.intro ⟨_, rfl, ?_⟩ ?_ | refine And.intro ⟨_, _, rfl, rfl, ?_⟩ ?_ | exact Or.inr rfl | refine Or.inl ⟨?_, (by first | rfl | exact aZ _ _ | exact Pur.pf)⟩ | refine Or.inr (All2.cons ?_ ?_) | refine All2.cons ?_ ?_ | exact All2.nil | rfl)))
   ·refine ⟨by omega, fun j hj => ?_⟩
    rcases Nat.lt_or_ge j k with h|h
    ·exact hall j h
    ·rw [show j = k by omega]; assumption
   ·omega
 ·have hu : dH ts s x = false := by
   cases q : dH ts s x with
   | false => rfl
   | true =>
    obtain ⟨v, hv, hs⟩ := (dT htl).1 q
    rw [← hL] at hv
    obtain ⟨j, hj, e⟩ := List.getElem_of_mem hv
    have h1 := hall j (by omega)
    rw [cK _ _ hj, e, hs] at h1;cases h1
  rw [qN hu]
  rw [hun] at hu;cases hu
theorem G7 {ts : List Int} {bd : List AL.Stmt} {pts : List Pnt} {s : Mc} {x : Pnt} {N : Nat} {Q : Exit → AS → Prop} {all : Array Oper} {rest : List Oper} {tsl : List (Nat × AV)} {hsl : List (Nat × Option (List AV))} {nidl : Nat} {z0 : Lo} {md : Md} {d : Nat} {ty : TypeId} {pos : String} {af : Array Edge} {tys : Array TypeId} {x0 x1 : Operand} {i0 i1 i2 : Nat} (ha0 : ev (lk tsl) x0 = some (.optr i0 0)) (ha1 : ev (lk tsl) x1 = some (iG x)) (hH0 : cJ hsl i0 = some (mO ts bd pts i1 i2 s)) (hH1 : cJ hsl i1 = some (aH fD s.slots)) (hH2 : cJ hsl i2 = some (aH cI s.read)) (hdd : Go.AL.distinct [i0, i1, i2] = true) (hmc : MC Tryz.prog 120 [.optr 0 0, iG x] [(0, some (mO ts bd pts 1 2 s)), (1, some (aH fD s.slots)), (2, some (aH cI s.read))] 3 (fun _ : Unit => True) (fun _ => iv (eY ts s x).2) (fun _ => [(0, some (mO ts bd pts 1 5 (eY ts s x).1)), (1, some (aH fD (eY ts s x).1.slots)), (5, some (aH cI (eY ts s x).1.read))])) (hM : Nat.ble (nidl + 3) fG = true) (hN : Nat.blt d N = true) {md' : Md} [hmd : MdA md (hG [x0, x1] ++ [.inr i0, .inr i1, .inr i2]) (List.map Sum.inr (List.map Prod.fst ([(i0, some (mO ts bd pts i1 (nidl + 2) (eY ts s x).1)), (i1, some (aH fD (eY ts s x).1.slots)), ((nidl + 2), some (aH cI (eY ts s x).1.read)), (i2, none)] : List (Nat × Option (List AV)))) ++ [.inl d]) md'] (kk : RW Tryz.prog N all Q md' rest ⟨(d, iv (eY ts s x).2) :: tsl, jF hsl [(i0, some (mO ts bd pts i1 (nidl + 2) (eY ts s x).1)), (i1, some (aH fD (eY ts s x).1.slots)), ((nidl + 2), some (aH cI (eY ts s x).1.read)), (i2, none)], nidl + 3, z0⟩) : RW Tryz.prog N all Q md (⟨some d, .call ⟨.value (.func 120), #[x0, x1], tys⟩, ty, pos, af, none⟩ :: rest) ⟨tsl, hsl, nidl, z0⟩ := by
 refine cM [i0, i1, i2] 6 [(i0, some (mO ts bd pts i1 (nidl + 2) (eY ts s x).1)), (i1, some (aH fD (eY ts s x).1.slots)), ((nidl + 2), some (aH cI (eY ts s x).1.read)), (i2, none)] hmc (avs := [.optr i0 0, iG x]) ?_ hdd ?_ rfl ?_ (by simpa using hM) ?_ ?_ ?_ hN (md' := md') (hmd := hmd) kk
 ·show evL (lk tsl) [x0, x1] = _
  simp only [evL, ha0, ha1]
 ·exact ⟨⟨_, _, rfl, hH0, by (repeat' (first|exact RnL.purI inferInstance|exact RnV.purI inferInstance|exact RnV.own rfl|refine RnL.cons ?_ ?_))⟩, ⟨⟨_, _, rfl, hH1, by (repeat' (exact RnL.purI inferInstance))⟩, ⟨⟨_, _, rfl, hH2, by (repeat' (exact RnL.purI inferInstance))⟩, trivial⟩⟩⟩
 ·(repeat' (first|exact RnL.purI inferInstance|exact RnV.optr rfl|refine RnL.cons ?_ ?_))
 ·(repeat' (exact RnV.purI inferInstance))
 ·simp [eA]
 ·(repeat' (first|exact trivial|(refine And.intro ⟨0, _, rfl, rfl, ?_⟩ ?_)|(refine And.intro ⟨1, _, rfl, rfl, ?_⟩ ?_)|(refine And.intro ⟨5, _, rfl, rfl, ?_⟩ ?_)|exact RnL.purI inferInstance|exact RnV.purI inferInstance|exact RnV.own rfl|refine RnL.cons ?_ ?_))
theorem Mi (ts : List Int) (bd : List AL.Stmt) (pts : List Pnt) (s : Mc) (x : Pnt) (htl : ts.length ≤ 6) (hm : OkM s.cells) (hsl : s.slots.length = ts.length) (hop : 1 ≤ x.op ∧ x.op ≤ 11) (hrl : s.read.length ≤ 1000)
  (hx : x.op ≤ 8 → 0 ≤ x.x ∧ x.x < ts.length) (hy : 3 ≤ x.op → x.op ≤ 7 → 0 ≤ x.y ∧ x.y < ts.length) (hn : x.op = 2 → 0 ≤ x.n ∧ x.n ≤ 9) (h6 : ¬ (x.op = 6 ∧ dB s.cells s.slots[x.y.toNat]!.ptr false = 0 ∧ dH ts s x = false)) : MC Tryz.prog 120 [.optr 0 0, iG x] [(0, some (mO ts bd pts 1 2 s)), (1, some (aH fD s.slots)), (2, some (aH cI s.read))] 3 (fun _ : Unit => True) (fun _ => iv (eY ts s x).2) (fun _ => [(0, some (mO ts bd pts 1 2 (eY ts s x).1)), (1, some (aH fD (eY ts s x).1.slots)), (2, some (aH cI (eY ts s x).1.read))]) := by
 by_cases h1 : x.op = 1
 ·exact L6 ts bd pts s x htl hm hsl h1 (hx (by omega))
 by_cases h2 : x.op = 2
 ·exact L9 ts bd pts s x htl hm hsl h2 (hn h2) (hx (by omega))
 by_cases h3 : x.op = 3
 ·exact LV ts bd pts s x htl hm hsl h3 (hx (by omega)) (hy (by omega) (by omega))
 by_cases h4 : x.op = 4 ∨ x.op = 5
 ·exact JM ts bd pts s x htl hm hsl h4 (hx (by omega)) (hy (by omega) (by omega))
 by_cases h6' : x.op = 6
 ·by_cases hu : dH ts s x = true
  ·exact LQ ts bd pts s x htl hm hsl hu
  ·exact LJ ts bd pts s x htl hm hsl h6' hrl (hx (by omega)) (hy (by omega) (by omega)) (fun q => h6 ⟨h6', q, by simpa using hu⟩)
 by_cases h7 : x.op = 7
 ·exact Lx ts bd pts s x htl hm hsl h7 (hx (by omega)) (hy (by omega) (by omega))
 by_cases h8 : x.op = 8
 ·exact LF ts bd pts s x htl hm hsl h8 (hx (by omega))
 ·exact Mp ts bd pts s x htl hm hsl (by omega)
theorem Cb (x : Pnt) (h : x.next.length ≤ 1000000) : PC Tryz.prog 150 [iG x] (fun r => r = bv (decide (x.next.length = 2))) := by
 (refine aU Tryz.func150 rfl (by simp [Tryz.ntmps150]) ?_; rw [Tryz.ntmps150])
 repeat' (first|(apply aM;first|(apply aL;rfl;rfl;rfl;rfl)|(apply aD;rfl;rfl;rfl)|(apply aR;rfl;rfl;rfl;rfl)|(apply aC;rfl;rfl)|(apply a8;rfl;rfl;rfl)|(apply aF;kernel_rfl)|(apply b0;rfl;rfl;rfl;rfl))|(apply aN;first|apply aI|apply aB|apply aQ)|with_reducible apply aA)
 refine aP rfl ⟨?_, rfl⟩
 simp only [b9, AV.v.injEq, Value.bool.injEq, decide_eq_decide]; omega
theorem Mg {pts : List Pnt} {a : Nat} {C : List Int} (h : pts[a]!.next.length = 2) (hC : 0 < C.length) : fP pts a C = ((pts[a]!.next[(C[0]! % 2).toNat]!).toNat, C.drop 1) := by
 cases C with
 | nil => simp at hC
 | cons c C => unfold fP;rw [if_pos h]; rfl
theorem Lt {pts : List Pnt} {a : Nat} (h : pts[a]!.next.length = 2) : fP pts a [] = ((pts[a]!.next[1]!).toNat, []) := by unfold fP; rw [if_pos h]
theorem E4 {pts : List Pnt} {n a b : Nat} {out C C2 : List Int} {q : List Int × Bool} (h : ¬ pts[a]!.op = 11) (ho : out.length ≤ n) (hs : fP pts a C = (b, C2)) (hq : q = (out ++ (wm pts (n - out.length) a C).1, (wm pts (n - out.length) a C).2)) :
  ((out ++ [(a : Int)]).length ≤ n ∧ q = ((out ++ [(a : Int)]) ++ (wm pts (n - (out ++ [(a : Int)]).length) b C2).1, (wm pts (n - (out ++ [(a : Int)]).length) b C2).2)) ∨ ((out ++ [(a : Int)]).length = n + 1 ∧ q = ((out ++ [(a : Int)]).take n, false)) := by
 have hl : (out ++ [(a : Int)]).length = out.length + 1 := by rw [List.length_append]; rfl
 rcases Nat.lt_or_ge out.length n with h1|h1
 ·exact .inl ⟨by omega, IN h h1 hs hq⟩
 ·refine .inr ⟨by omega, ?_⟩
  have e : out.length = n := by omega
  rw [hq, e, Nat.sub_self, J0 h, ← e, List.take_left' rfl, List.append_nil]
theorem KI (ts : List Int) (bd : List AL.Stmt) (pts : List Pnt) (cs : List Int) (n : Nat) (w : WG ts pts) (wa : WA ts pts) (hn : n ≤ 1000) (hcl : cs.length ≤ 1000000) : PC Tryz.prog 119 [aG ts bd pts, sl cI cs, iv (n : Int)] (fun r => r = .tup [sl cI (wm pts n 0 cs).1, bv (wm pts n 0 cs).2]) := by
 have hpl := w.pl
 have hp0 := w.p0
 (refine aU Tryz.func119 rfl (by simp [Tryz.ntmps119]) ?_; rw [Tryz.ntmps119])
 repeat' (first|(apply aM;first|((apply fX (d := 8) (e := 1));(case hM|hN => rfl))|(apply aC;rfl;rfl)|(apply aF;kernel_rfl))|(apply aN;first|apply aI|apply aB|apply aK)|with_reducible apply aA)
 refine bC (σ := Int × List Int × Nat × List Int) [0, 2] [(0, _), (2, _)] [] [] (fun k => [(9, iv k.1), (1, sl cI k.2.2.2), (8, .own 0 0 k.2.2.1 1)]) (fun k => [(0, some (aH cI k.2.1))]) (fun k => (0 ≤ k.1 ∧ k.1 < pts.length) ∧ k.2.2.1 = k.2.1.length ∧ k.2.2.2.length ≤ 1000000 ∧ ((k.2.1.length ≤ n ∧ wm pts n 0 cs = (k.2.1 ++ (wm pts (n - k.2.1.length) k.1.toNat k.2.2.2).1, (wm pts (n - k.2.1.length) k.1.toNat k.2.2.2).2)) ∨ (k.2.1.length = n + 1 ∧ wm pts n 0 cs = (k.2.1.take n, false)))) (fun k => n + 1 - k.2.1.length) (0, [], 0, cs) ⟨⟨Int.le_refl _, by show (0 : Int) < _; omega⟩, rfl, hcl, .inl ⟨Nat.zero_le _, rfl⟩⟩ rfl rfl (by repeat' (first|exact trivial|refine And.intro rfl ?_)) (by repeat' (first|exact trivial|refine And.intro (.inr rfl) ?_)) ?_
 rintro ⟨a, out, m, C⟩ ⟨⟨ha0, ha⟩, hm, hC, hw⟩
 dsimp only at ha0 ha hm hC hw ⊢
 by_cases hout : out.length ≤ n
 ·have hw2 : wm pts n 0 cs = (out ++ (wm pts (n - out.length) a.toNat C).1, (wm pts (n - out.length) a.toNat C).2) := by
   rcases hw with h|h
   ·exact h.2
   ·omega
  have hat : (a.toNat : Int) = a := Int.toNat_of_nonneg ha0
  have hnx := w.nx a.toNat (by omega)
  have hnl := w.nl a.toNat (by omega)
  have hn1 := wa.n a.toNat (by omega)
  have hk : ∀ k, k < pts[a.toNat]!.next.length → 0 ≤ pts[a.toNat]!.next[k]! ∧ pts[a.toNat]!.next[k]! < pts.length := fun k h => hnx _ (cA _ _ h)
  have hch := Cb pts[a.toNat]! (by omega)
  repeat' (first|(apply aM;first|((with_reducible apply aJ (k := 150));(case ha => rfl);(case h => exact hch);(case hp => (exact Pur.pf));(case hN => rfl))|(apply G9;rfl;rfl;rfl)|(apply aE;rfl;rfl)|(first|(apply aL;rfl;rfl;rfl;rfl)|(apply aY;rfl;rfl;(exact (rfl:_=[_, _, _, _, _]));rfl;rfl;rfl))|(apply aD;rfl;rfl;rfl)|(apply aR;rfl;rfl;rfl;rfl)|(apply aC;rfl;rfl)|(apply dA;(case hx|hi => rfl);(case hm => (omega));(case hml => (rfl));(case hα | hf|hg => infer_instance);(case hN => rfl))|(first|(apply a8;rfl;rfl;rfl)|(apply cH;rfl;rfl;rfl;rfl;rfl;(rw [aT]; omega);(rfl);omega;omega;(exact j1 (by (assumption)));rfl;rfl))|(apply aF;kernel_rfl)|(apply mT;rfl;infer_instance;rfl;rfl;(omega);rfl)|(apply cC;rfl;rfl)|(apply bW;rfl;rfl;rfl)|(apply bE;rfl;rfl)|((apply bS (t := _));(case hze|hsm|hl => rfl);(case hfl => exact (rfl:_=some [_]));(case hM|hN => rfl))|(apply aW;rfl;rfl;rfl;rfl;rfl;(case hl => (simp;done));(exact (rfl:_=[_, _, _, _, _]))))|(apply aN;first|apply aI|apply aB|(apply b8;kernel_rfl)|(apply aO;rfl;all_goals intro hc;have hq:=hc;(try simp only [cF] at hq);try exfalso;omega)|apply aK|apply aS|apply aQ)|with_reducible apply aA|with_reducible apply bK|with_reducible apply aX|with_reducible apply cT)
  ·have hop : pts[a.toNat]!.op = 11 := by assumption
   have e : wm pts n 0 cs = (out ++ [a], true) := by rw [hw2, K4 hop, hat]
   rw [e]
   (refine cE (Le.frzD (d := 6) (i := 2) rfl rfl) ?_; refine aP rfl ?_)
   refine ⟨?_, (by (exact Pur.pf))⟩
   simp only [b9, sl]
   rw [hm, List.length_append]; rfl
  ·have hop : ¬ pts[a.toNat]!.op = 11 := by assumption
   have hst := E4 hop hout (Ll (by omega)) hw2
   rw [hat] at hst
   have hk := hk 0 (by omega)
   (apply dW (pts[a.toNat]!.next[0]!, _, _, C);focus (refine Le.ren [(0, 2)] rfl (by decide) ?_ ?_ <;> repeat' (first|exact trivial|refine And.intro ⟨_, rfl, ?_⟩ ?_|refine And.intro ⟨_, _, rfl, rfl, ?_⟩ ?_|exact Or.inr rfl|refine Or.inl ⟨?_, (by first|rfl|exact aZ _ _|exact Pur.pf)⟩|rfl)))
   ·exact ⟨hk, by dsimp only;rw [List.length_append, hm]; rfl, hC, hst⟩
   ·dsimp only;rw [List.length_append]; simp only [List.length_singleton]; omega
  ·have hop : ¬ pts[a.toNat]!.op = 11 := by assumption
   have hC0 : 0 < C.length := by omega
   have hst := E4 hop hout (Mg (by omega) hC0) hw2
   rw [hat] at hst
   have hk := hk (C[0]! % 2).toNat (by omega)
   have hCe : List.take (C.length - Int.toNat 1) (List.drop (Int.toNat 1) C) = C.drop 1 := List.take_of_length_le (by rw [List.length_drop]; exact Nat.le_refl _)
   rw [hCe]
   (apply dW (pts[a.toNat]!.next[(C[0]! % 2).toNat]!, _, _, C.drop 1);focus (refine Le.ren [(0, 2)] rfl (by decide) ?_ ?_ <;> repeat' (first|exact trivial|refine And.intro ⟨_, rfl, ?_⟩ ?_|refine And.intro ⟨_, _, rfl, rfl, ?_⟩ ?_|exact Or.inr rfl|refine Or.inl ⟨?_, (by first|rfl|exact aZ _ _|exact Pur.pf)⟩|rfl)))
   ·exact ⟨hk, by dsimp only;rw [List.length_append, hm]; rfl, by dsimp only;rw [List.length_drop]; omega, hst⟩
   ·dsimp only;rw [List.length_append]; simp only [List.length_singleton]; omega
  ·have hop : ¬ pts[a.toNat]!.op = 11 := by assumption
   have hC0 : C = [] := List.eq_nil_of_length_eq_zero (by omega)
   subst hC0
   have hst := E4 hop hout (Lt (by omega)) hw2
   rw [hat] at hst
   have hk := hk 1 (by omega)
   (apply dW (pts[a.toNat]!.next[1]!, _, _, []);focus (refine Le.ren [(0, 2)] rfl (by decide) ?_ ?_ <;> repeat' (first|exact trivial|refine And.intro ⟨_, rfl, ?_⟩ ?_|refine And.intro ⟨_, _, rfl, rfl, ?_⟩ ?_|exact Or.inr rfl|refine Or.inl ⟨?_, (by first|rfl|exact aZ _ _|exact Pur.pf)⟩|rfl)))
   ·exact ⟨hk, by dsimp only;rw [List.length_append, hm]; rfl, hC, hst⟩
   ·dsimp only;rw [List.length_append]; simp only [List.length_singleton]; omega
 ·have hw2 : out.length = n + 1 ∧ wm pts n 0 cs = (out.take n, false) := by
   rcases hw with h|h
   ·omega
   ·exact h
  repeat' (first|(apply aM;first|((apply iP (d := 59) (l := 0) (h := n));(case hx|hn|hl => rfl);(case hh => exact pP rfl (by omega));(case hp => exact if_pos (by omega));(case hN => rfl))|(apply aE;rfl;rfl)|(apply aR;rfl;rfl;rfl;rfl)|(apply aC;rfl;rfl)|(apply a8;rfl;rfl;rfl)|(apply aF;kernel_rfl))|(apply aN;first|apply aI|apply aB|(apply aO;rfl;all_goals intro hc;have hq:=hc;(try simp only [cF] at hq);try exfalso;omega)|apply bI|apply aQ)|with_reducible apply aA|with_reducible apply bJ|with_reducible apply bH)
  refine cE (Le.cut (i := 0) (n * 1) rfl) ?_
  refine cE (Le.frzD (d := 6) (i := 0) rfl rfl) ?_
  rw [hw2.2, fA cI (e := 1)]
  refine aP (l := [.imm (n - 0) (aH cI (out.take n)), bv false]) rfl ⟨?_, (by (exact Pur.pf))⟩
  rw [nN (by rw [List.length_take]; omega)]
  rfl
theorem IB {p : Prg} {cs : List Int} {n : Int} {N : Nat} {Q : Exit → AS → Prop} {all : Array Oper} {rest : List Oper} {tsl : List (Nat × AV)} {hsl : List (Nat × Option (List AV))} {nidl : Nat} {z0 : Lo} {md : Md} {d : Nat} {ty : TypeId} {pos : String} {af : Array Edge} {tys : Array TypeId} {x0 x1 x2 : Operand} (ha0 : ev (lk tsl) x0 = some (dD p)) (ha1 : ev (lk tsl) x1 = some (sl cI cs)) (ha2 : ev (lk tsl) x2 = some (iv n)) (hmc : MC Tryz.prog 67 [dD p, sl cI cs, iv n] [] 0 (fun _ : Unit => True) (fun _ => .tup [.optr 1 0, iv 5, iv 0]) (fun _ => [(1, some ([.v (.pointer none), .imm 0 [], .imm 0 [], .imm 0 []]))])) (hM : Nat.ble (nidl + 2) fG = true) (hN : Nat.blt d N = true) {md' : Md} [hmd : MdA md (hG [x0, x1, x2] ++ []) (List.map Sum.inr (List.map Prod.fst ([((nidl + 1), some ([.v (.pointer none), .imm 0 [], .imm 0 [], .imm 0 []]))] : List (Nat × Option (List AV)))) ++ [.inl d]) md'] (kk : RW Tryz.prog N all Q md' rest ⟨(d, .tup [.optr (nidl + 1) 0, iv 5, iv 0]) :: tsl, jF hsl [((nidl + 1), some ([.v (.pointer none), .imm 0 [], .imm 0 [], .imm 0 []]))], nidl + 2, z0⟩) : RW Tryz.prog N all Q md (⟨some d, .call ⟨.value (.func 67), #[x0, x1, x2], tys⟩, ty, pos, af, none⟩ :: rest) ⟨tsl, hsl, nidl, z0⟩ := by
 refine cM [] 2 [((nidl + 1), some ([.v (.pointer none), .imm 0 [], .imm 0 [], .imm 0 []]))] hmc (avs := [dD p, sl cI cs, iv n]) ?_ rfl ?_ rfl ?_ (by simpa using hM) ?_ ?_ ?_ hN (md' := md') (hmd := hmd) kk
 ·show evL (lk tsl) [x0, x1, x2] = _
  simp only [evL, ha0, ha1, ha2]
 ·exact trivial
 ·(repeat' (exact RnL.purI inferInstance))
 ·(repeat' (first|exact RnL.purI inferInstance|exact RnV.optr rfl|refine RnL.cons ?_ ?_|refine RnV.tup ?_))
 ·simp [eA]
 ·(repeat' (first|exact trivial|(refine And.intro ⟨1, _, rfl, rfl, ?_⟩ ?_)|exact RnL.purI inferInstance))
theorem Le.nilMid {ts : List (Nat × AV)} {hs : List (Nat × Option (List AV))} {n : Nat} {z0 : Lo} {i : Nat} (c1 : List AV) {c2 : List AV} (hi : cJ hs i = some (c1 ++ .v (.slice none 0 0) :: c2)) :
  Le ⟨ts, hs, n, z0⟩ ⟨ts, (i, some (c1 ++ .imm 0 [] :: c2)) :: hs, n, z0⟩ :=
 Le.cells hi (by simp) fun w bad ι b β h => qU (fun y hy => by have := nU (av := .v (.slice none 0 0)) hy;exact this) c1 c2 b β h
theorem JA {ts : List Int} {pts : List Pnt} {a last : Nat} {l : List Nat} {s : Mc} : gK ts pts (a :: l) s last = if (eY ts s pts[a]!).2 = -1 then gK ts pts l (eY ts s pts[a]!).1 a else ((eY ts s pts[a]!).1, (eY ts s pts[a]!).2, a) := by
 rw [gK]
 by_cases h : dH ts s pts[a]! = true
 ·rw [if_pos h, uZ h, if_neg (show ¬ (2 : Int) = -1 by decide)]
 ·have h2 : dH ts s pts[a]! = false := by simpa using h
  rw [if_neg h, qN h2]
theorem LO {ts : List Int} {nt : Nat} {s : Mc} (h : OkS nt s) {x : Pnt} (hx : PtN x) : OkS nt (eY ts s x).1 := by
 unfold eY;split
 ·exact h
 ·exact h.do hx
theorem H2 {ts : List Int} {s : Mc} {x : Pnt} : (eY ts s x).1.read.length ≤ s.read.length + 1 := by
 unfold eY;split
 ·dsimp only;omega
 ·exact zC
theorem MB {ts : List Int} {s : Mc} {x : Pnt} (ho : x.op = 6) (hz : dB s.cells s.slots[x.y.toNat]!.ptr false = 0) (hu : dH ts s x = false) (ht : ts[x.x.toNat]! = 1) : (eY ts s x).2 = -1 := by
 rw [qN hu]
 unfold dR
 rw [if_neg (show ¬ x.op = 1 by omega), if_neg (show ¬ x.op = 2 by omega), if_neg (show ¬ x.op = 3 by omega), if_neg (show ¬ (x.op = 4 ∨ x.op = 5) by omega), if_pos ho, if_pos hz]
 unfold dY
 rw [if_neg (fun h => by have := h.1;omega)]
theorem K7 (p : Prg) (cs : List Int) (n : Int) (hl : p.types.length ≤ 1000000) (hs : bQ p.body ≤ 1000000) (hr : Ki p n = false) : MC Tryz.prog 67 [dD p, sl cI cs, iv n] [] 0 (fun _ : Unit => True) (fun _ => .tup [.optr 1 0, iv 5, iv 0]) (fun _ => [(1, some ([.v (.pointer none), .imm 0 [], .imm 0 [], .imm 0 []]))]) := by
 have hg := mY p hl hs
 unfold Ki at hr
 by_cases hv : cQ p = true
 ·rw [if_pos hv] at hg
  rw [hv] at hr
  have hnn : ¬ (0 ≤ n ∧ n ≤ 150) := fun h => by rw [decide_eq_true h.1, decide_eq_true h.2] at hr;cases hr
  (refine cD Tryz.func67 rfl (by simp [Tryz.ntmps67]) ?_; rw [Tryz.ntmps67])
  repeat' (first|(apply aM;first|((with_reducible apply aJ (k := 78));(case ha => rfl);(case h => exact hg);(case hp => (exact Pur.pf));(case hN => rfl))|(apply aE;rfl;rfl)|(apply aY;rfl;rfl;(exact (rfl:_=[_, _]));rfl;rfl;rfl)|(apply a6;rfl;rfl;rfl;(rfl))|(apply aC;rfl;rfl)|(apply bF;rfl;(rfl);rfl;rfl)|((with_reducible apply aJ (k := 50));(case ha => rfl);(case h => (apply eD <;> (fail)));(case hp => (rfl));(case hN => rfl))|(apply aF;kernel_rfl)|(apply bV;rfl;(exact (rfl:_=some [_, _, _, _]));(exact (rfl:_=[_, _, _, _]));rfl)|(apply cC;rfl;rfl)|(apply b0;rfl;rfl;rfl;rfl)|(apply cB;rfl;rfl;rfl))|(apply aN;first|apply aI|apply aB|(apply aO;rfl;all_goals intro hc;have hq:=hc;(try simp only [cF] at hq);try exfalso;omega)|apply aQ)|with_reducible apply aA|with_reducible apply bK)
  ·(refine aP rfl ?_; refine bY () trivial ?_ ⟨.inr (Eq.trans (b := some _) rfl ?_), trivial⟩)
   ·rfl
   ·rfl
 ·rw [if_neg hv] at hg
  (refine cD Tryz.func67 rfl (by simp [Tryz.ntmps67]) ?_; rw [Tryz.ntmps67])
  repeat' (first|(apply aM;first|((with_reducible apply aJ (k := 78));(case ha => rfl);(case h => exact hg);(case hp => (exact Pur.pf));(case hN => rfl))|(apply aE;rfl;rfl)|(apply aY;rfl;rfl;(exact (rfl:_=[_, _]));rfl;rfl;rfl)|(apply bD;rfl;rfl;rfl;(rfl))|(apply aC;rfl;rfl)|(apply bR;rfl;(rfl);rfl;rfl)|(apply aF;kernel_rfl)|(apply bV;rfl;(exact (rfl:_=some [_, _, _, _]));(exact (rfl:_=[_, _, _, _]));rfl)|(apply cC;rfl;rfl)|(apply b0;rfl;rfl;rfl;rfl)|(apply cB;rfl;rfl;rfl))|(apply aN;first|apply aI|apply aB|(apply bZ;rfl;(rfl))|apply aQ)|with_reducible apply aA|with_reducible apply bK)
  (refine aP rfl ?_; refine bY () trivial ?_ ⟨.inr (Eq.trans (b := some _) rfl ?_), trivial⟩)
  ·rfl
  ·rfl
theorem JY (p : Prg) (cs : List Int) (n : Nat) (q : Mc × Int × Nat) (hqq : q = runP p.types (c9 p) cs n) (hv : cQ p = true) (hl : p.types.length ≤ 1000000) (hs : bQ p.body ≤ 1000000) (hn : n ≤ 150) (hcl : cs.length ≤ 1000000) : MC Tryz.prog 67 [dD p, sl cI cs, iv (n : Int)] [] 0 (fun _ : Unit => True) (fun _ => .tup [.optr 2 0, iv q.2.1, iv (q.2.2 : Int)]) (fun _ => [(2, some (mO p.types p.body (c9 p) 1 3 q.1)), (1, some (aH fD q.1.slots)), (3, some (aH cI q.1.read))]) := by
 have hg := mY p hl hs
 rw [if_pos hv] at hg
 have w := WG.of_valid hv
 have wa := WA.of_valid hv
 have hru := KI p.types p.body (c9 p) cs n w wa (by omega) hcl
 have htl := w.tl
 have hpl := w.pl
 have hL := Ba w wa n 0 cs w.p0
 have hLl := xF (pts := c9 p) n 0 cs
 unfold runP at hqq
 unfold wm at hru
 obtain ⟨L, hLe⟩ : ∃ L, L = (eX (c9 p) n 0 cs).1 := ⟨_, rfl⟩
 obtain ⟨dn, hdn⟩ : ∃ dn, dn = (eX (c9 p) n 0 cs).2 := ⟨_, rfl⟩
 rw [← hLe, ← hdn] at hru
 rw [← hLe] at hqq hL hLl
 have hgx : ∀ i, i < L.length → (L.map (fun a : Nat => (a : Int)))[i]! = (L[i]! : Int) := fun i h => by rw [cK _ _ (by rw [List.length_map]; exact h), List.getElem_map, cK _ _ h]
 have hml : (L.map (fun a : Nat => (a : Int))).length = L.length := List.length_map _
 generalize (L.map (fun a : Nat => (a : Int))) = LI at *
 generalize hP : c9 p = pts at *
 (refine cD Tryz.func67 rfl (by simp [Tryz.ntmps67]) ?_; rw [Tryz.ntmps67])
 repeat' (first|(apply aM;first|((with_reducible apply aJ (k := 78));(case ha => rfl);(case h => exact hg);(case hp => (exact Pur.pf));(case hN => rfl))|(with_reducible apply dE (d := 40))|(apply aE;rfl;rfl)|(first|(apply aL;rfl;rfl;rfl;rfl)|(apply aY;rfl;rfl;(exact (rfl:_=[_, _]));rfl;rfl;rfl))|(apply aD;rfl;rfl;rfl)|(apply a6;rfl;rfl;rfl;(rfl))|(apply aC;rfl;rfl)|(apply bF;rfl;(rfl);rfl;rfl)|((with_reducible apply aJ (k := 50));(case ha => rfl);(case h => (apply eD <;> (fail)));(case hp => (rfl));(case hN => rfl))|(apply a8;rfl;rfl;rfl)|(apply aF;kernel_rfl)|(apply cC;rfl;rfl)|(apply bW;rfl;rfl;rfl)|(apply b0;rfl;rfl;rfl;rfl)|(apply cB;rfl;rfl;rfl)|(apply dV;rfl;rfl;rfl;omega;omega;(rfl);rfl;rfl))|(apply aN;first|apply aI|apply aB|(apply aO;rfl;all_goals intro hc;have hq:=hc;(try simp only [cF] at hq);try exfalso;omega)|apply aS)|with_reducible apply aA)
 refine eR ?_
 rw [show (List.replicate p.types.length ([Value.bool false, Value.int .i64 0, Value.int .i64 0, Value.int .i64 0].map AV.v)).flatten = aH fD (List.replicate p.types.length jX) from wX rfl]
 apply zK
 case hl => rfl
 case hf => exact (rfl:_=some [_, _, AV.v (.slice none 0 0), AV.v (.slice none 0 0)])
 case hN => rfl
 repeat' (first|(apply aM;first|(with_reducible apply dE (d := 43))|(apply aC;rfl;rfl)|(apply aF;kernel_rfl)|(apply b0;rfl;rfl;rfl;rfl))|(apply aN;first|apply aI|apply aB)|with_reducible apply aA)
 refine eR (iT ?_ (Le.nilMid (i := 2) [_, _] rfl))
 refine iT ?_ (Le.nilCell (i := 2) 1 [_, _, _] rfl (by decide) (by decide))
 repeat' (first|(apply aM;first|((with_reducible apply aJ (k := 119));(case ha => rfl);(case h => exact hru);(case hp => (exact Pur.pf));(case hN => rfl))|(apply aE;rfl;rfl)|(apply aC;rfl;rfl)|(apply a8;rfl;rfl;rfl)|(apply aF;kernel_rfl)|(apply cB;rfl;rfl;rfl))|(apply aN;first|apply aI|apply aB|apply aK)|with_reducible apply aA)
 refine bC (σ := Nat × Mc × Nat) [9, 11, 49, 50] [(9, _), (11, _), (49, _), (50, _)] [] [] (fun k => [(51, iv (k.1 : Int)), (14, iv (k.2.2 : Int))]) (fun k => [(2, some (mO p.types p.body pts 1 3 k.2.1)), (1, some (aH fD k.2.1.slots)), (3, some (aH cI k.2.1.read))]) (fun k => k.1 ≤ L.length ∧ gK p.types pts (L.drop k.1) k.2.1 k.2.2 = q ∧ OkS p.types.length k.2.1 ∧ k.2.1.read.length ≤ k.1) (fun k => L.length - k.1) (0, mc0 p.types.length, 0) ⟨Nat.zero_le _, hqq.symm, OkS.mc0 _, Nat.le_refl _⟩ rfl rfl (by repeat' (first|exact trivial|refine And.intro rfl ?_)) (by repeat' (first|exact trivial|refine And.intro (.inr rfl) ?_)) ?_
 rintro ⟨i, s, last⟩ ⟨hi, hf, hok, hrd⟩
 dsimp only at hi hf hok hrd ⊢
 by_cases hiL : i < L.length
 ·have hap := hL L[i]! (cA _ _ hiL)
  have hop := w.op L[i]! hap
  have hwx := w.x L[i]! hap
  have hwy := w.y L[i]! hap
  have hA := wa.a L[i]! hap
  have hg2 := hgx i hiL
  have hdr : L.drop i = L[i]! :: L.drop (i + 1) := by rw [List.drop_eq_getElem_cons hiL, cK _ _ hiL]
  rw [hdr, JA] at hf
  have hpt : PtN pts[L[i]!]! := ⟨fun h => hA.n (.inr h)⟩
  have hdo := LO (ts := p.types) hok hpt
  have hdr2 := H2 (ts := p.types) (s := s) (x := pts[L[i]!]!)
  by_cases h6 : pts[L[i]!]!.op = 6 ∧ dB s.cells s.slots[(pts[L[i]!]!).y.toNat]!.ptr false = 0 ∧ dH p.types s pts[L[i]!]! = false
  ·have hm6 := Kj p.types p.body pts s pts[L[i]!]! htl hok.m hok.l h6.1 (by omega) (by omega) (by omega) h6.2.1 h6.2.2
   repeat' (first|(apply aM;first|(with_reducible apply dE (d := 16))|(apply aL;rfl;rfl;rfl;rfl)|(apply aR;rfl;rfl;rfl;rfl)|(apply a7;(case hx|hi => rfl);(case hm => (omega));(case hml => (rfl));(case hα | hf|hg => infer_instance);(case hN => rfl))|(apply aF;kernel_rfl))|(apply aN;first|apply aI|apply aB|(apply aO;rfl;all_goals intro hc;have hq:=hc;(try simp only [cF] at hq);try exfalso;omega)|apply aK|apply aS)|with_reducible apply aA)
   refine eR ?_
   rw [hg2]
   repeat' (first|(apply aM;first|((apply G7 (ts := p.types) (bd := p.body) (pts := pts) (s := s) (x := pts[L[i]!]!));(case ha0|ha1|hH0|hH1|hH2|hdd => rfl);(case hmc => exact hm6);(case hM|hN => rfl))|(apply aE;rfl;rfl)|(first|(apply aL;rfl;rfl;rfl;rfl)|(apply aY;rfl;rfl;(exact (rfl:_=[_, _, _, _, _]));rfl;rfl;rfl))|(apply aD;rfl;rfl;rfl)|(first|(apply bU;rfl;rfl;omega;rfl)|(apply aR;rfl;rfl;rfl;rfl))|(apply aC;rfl;rfl)|(apply a7;(case hx|hi => rfl);(case hm => (assumption));(case hml => (rfl));(case hα | hf|hg => infer_instance);(case hN => rfl))|(apply aF;kernel_rfl)|(apply bW;rfl;rfl;rfl))|(apply aN;first|apply aI|apply aB|(apply aO;rfl;all_goals intro hc;have hq:=hc;(try simp only [cF] at hq);try exfalso;omega)|apply aS|apply aQ)|with_reducible apply aA|with_reducible apply bK|with_reducible apply aX|with_reducible apply cT)
   ·exfalso
    have h9 : ¬ (eY p.types s pts[L[i]!]!).2 = -1 := by assumption
    exact h9 (MB h6.1 h6.2.1 h6.2.2 (hA.t6 h6.1).1)
   ·(apply dW (i + 1, (eY p.types s pts[L[i]!]!).1, L[i]!); focus (refine Le.ren [(1, 1), (2, 2), (3, 6)] rfl (by decide) ?_ ?_ <;> repeat' (first | exact trivial | refine And.intro ⟨_, rfl, ?_⟩ ?_ | refine And.intro ⟨_, _, rfl, rfl, ?_⟩ ?_ | exact Or.inr rfl | refine Or.inl ⟨?_, (by first | rfl | exact aZ _ _ | exact Pur.pf)⟩ | refine Or.inr (All2.cons ?_ ?_) | refine All2.cons ?_ ?_ | exact All2.nil | rfl)))
    ·refine ⟨by dsimp only; omega, ?_, hdo, by dsimp only; omega⟩
     dsimp only
     rw [if_pos (by assumption)] at hf
     exact hf
    ·dsimp only;omega
  ·have hmd := Mi p.types p.body pts s pts[L[i]!]! htl hok.m hok.l hop (by omega) (fun h => by omega) (fun h h2 => by omega) (fun h => hA.n (.inr h)) h6
   repeat' (first|(apply aM;first|(with_reducible apply dE (d := 16))|(apply aL;rfl;rfl;rfl;rfl)|(apply aR;rfl;rfl;rfl;rfl)|(apply a7;(case hx|hi => rfl);(case hm => (omega));(case hml => (rfl));(case hα | hf|hg => infer_instance);(case hN => rfl))|(apply aF;kernel_rfl))|(apply aN;first|apply aI|apply aB|(apply aO;rfl;all_goals intro hc;have hq:=hc;(try simp only [cF] at hq);try exfalso;omega)|apply aK|apply aS)|with_reducible apply aA)
   refine eR ?_
   rw [hg2]
   repeat' (first|(apply aM;first|((apply Kd (ts := p.types) (bd := p.body) (pts := pts) (s := s) (x := pts[L[i]!]!));(case ha0|ha1|hH0|hH1|hH2|hdd => rfl);(case hmc => exact hmd);(case hM|hN => rfl))|(apply aE;rfl;rfl)|(first|(apply aL;rfl;rfl;rfl;rfl)|(apply aY;rfl;rfl;(exact (rfl:_=[_, _, _, _, _]));rfl;rfl;rfl))|(apply aD;rfl;rfl;rfl)|(first|(apply bU;rfl;rfl;omega;rfl)|(apply aR;rfl;rfl;rfl;rfl))|(apply aC;rfl;rfl)|(apply a7;(case hx|hi => rfl);(case hm => (assumption));(case hml => (rfl));(case hα | hf|hg => infer_instance);(case hN => rfl))|(apply aF;kernel_rfl)|(apply bW;rfl;rfl;rfl))|(apply aN;first|apply aI|apply aB|(apply aO;rfl;all_goals intro hc;have hq:=hc;(try simp only [cF] at hq);try exfalso;omega)|apply aS|apply aQ)|with_reducible apply aA|with_reducible apply bK|with_reducible apply aX|with_reducible apply cT)
   ·have h9 : ¬ (eY p.types s pts[L[i]!]!).2 = -1 := by assumption
    rw [if_neg h9] at hf
    rw [← hf]
    (refine aP rfl ?_; refine bY () trivial ?_ ⟨.inr (Eq.trans (b := some _) rfl ?_), ⟨.inr (Eq.trans (b := some _) rfl ?_), ⟨.inr (Eq.trans (b := some _) rfl ?_), trivial⟩⟩⟩)
    ·rfl
    ·rfl
    ·rfl
    ·rfl
   ·(apply dW (i + 1, (eY p.types s pts[L[i]!]!).1, L[i]!); focus (refine Le.ren [(1, 1), (2, 2), (3, 3)] rfl (by decide) ?_ ?_ <;> repeat' (first | exact trivial | refine And.intro ⟨_, rfl, ?_⟩ ?_ | refine And.intro ⟨_, _, rfl, rfl, ?_⟩ ?_ | exact Or.inr rfl | refine Or.inl ⟨?_, (by first | rfl | exact aZ _ _ | exact Pur.pf)⟩ | refine Or.inr (All2.cons ?_ ?_) | refine All2.cons ?_ ?_ | exact All2.nil | rfl)))
    ·refine ⟨by dsimp only; omega, ?_, hdo, by dsimp only; omega⟩
     dsimp only
     rw [if_pos (by assumption)] at hf
     exact hf
    ·dsimp only;omega
 ·repeat' (first | (apply aM; first | (apply aE;rfl;rfl) | (apply aR;rfl;rfl;rfl;rfl) | (apply aC;rfl;rfl) | (apply aF;kernel_rfl)) | (apply aN; first | apply aI | apply aB | (apply aO;rfl;all_goals intro hc;have hq:=hc;(try simp only [cF] at hq);try exfalso;omega) | apply bI | apply aQ) | with_reducible apply aA | with_reducible apply bJ | with_reducible apply bH)
  have hie : i = L.length := by omega
  have hq2 : q = (s, 1, last) := by rw [← hf, hie, List.drop_length]; rfl
  rw [hq2]
  (refine aP rfl ?_; refine bY () trivial ?_ ⟨.inr (Eq.trans (b := some _) rfl ?_), ⟨.inr (Eq.trans (b := some _) rfl ?_), ⟨.inr (Eq.trans (b := some _) rfl ?_), trivial⟩⟩⟩)
  ·rfl
  ·rfl
  ·rfl
  ·rfl
theorem Gp {p : Prg} {cs : List Int} {n : Int} {q : Mc × Int × Nat} {N : Nat} {Q : Exit → AS → Prop} {all : Array Oper} {rest : List Oper} {tsl : List (Nat × AV)} {hsl : List (Nat × Option (List AV))} {nidl : Nat} {z0 : Lo} {md : Md} {d : Nat} {ty : TypeId} {pos : String} {af : Array Edge} {tys : Array TypeId} {x0 x1 x2 : Operand} (ha0 : ev (lk tsl) x0 = some (dD p)) (ha1 : ev (lk tsl) x1 = some (sl cI cs)) (ha2 : ev (lk tsl) x2 = some (iv n)) (hmc : MC Tryz.prog 67 [dD p, sl cI cs, iv n] [] 0 (fun _ : Unit => True) (fun _ => .tup [.optr 2 0, iv q.2.1, iv (q.2.2 : Int)]) (fun _ => [(2, some (mO p.types p.body (c9 p) 1 3 q.1)), (1, some (aH fD q.1.slots)), (3, some (aH cI q.1.read))])) (hM : Nat.ble (nidl + 4) fG = true) (hN : Nat.blt d N = true) {md' : Md} [hmd : MdA md (hG [x0, x1, x2] ++ []) (List.map Sum.inr (List.map Prod.fst ([((nidl + 2), some (mO p.types p.body (c9 p) (nidl + 1) (nidl + 3) q.1)), ((nidl + 1), some (aH fD q.1.slots)), ((nidl + 3), some (aH cI q.1.read))] : List (Nat × Option (List AV)))) ++ [.inl d]) md'] (kk : RW Tryz.prog N all Q md' rest ⟨(d, .tup [.optr (nidl + 2) 0, iv q.2.1, iv (q.2.2 : Int)]) :: tsl, jF hsl [((nidl + 2), some (mO p.types p.body (c9 p) (nidl + 1) (nidl + 3) q.1)), ((nidl + 1), some (aH fD q.1.slots)), ((nidl + 3), some (aH cI q.1.read))], nidl + 4, z0⟩) : RW Tryz.prog N all Q md (⟨some d, .call ⟨.value (.func 67), #[x0, x1, x2], tys⟩, ty, pos, af, none⟩ :: rest) ⟨tsl, hsl, nidl, z0⟩ := by
 refine cM [] 4 [((nidl + 2), some (mO p.types p.body (c9 p) (nidl + 1) (nidl + 3) q.1)), ((nidl + 1), some (aH fD q.1.slots)), ((nidl + 3), some (aH cI q.1.read))] hmc (avs := [dD p, sl cI cs, iv n]) ?_ rfl ?_ rfl ?_ (by simpa using hM) ?_ ?_ ?_ hN (md' := md') (hmd := hmd) kk
 ·show evL (lk tsl) [x0, x1, x2] = _
  simp only [evL, ha0, ha1, ha2]
 ·exact trivial
 ·(repeat' (exact RnL.purI inferInstance))
 ·(repeat' (first|exact RnL.purI inferInstance|exact RnV.optr rfl|refine RnL.cons ?_ ?_|refine RnV.tup ?_))
 ·simp [eA]
 ·(repeat' (first|exact trivial|(refine And.intro ⟨1, _, rfl, rfl, ?_⟩ ?_)|(refine And.intro ⟨2, _, rfl, rfl, ?_⟩ ?_)|(refine And.intro ⟨3, _, rfl, rfl, ?_⟩ ?_)|exact RnL.purI inferInstance|exact RnV.purI inferInstance|exact RnV.own rfl|refine RnL.cons ?_ ?_))
theorem tR (p : Prg) (cs : List Int) (most : Int) (hl : p.types.length ≤ 1000000) (hs : bQ p.body ≤ 1000000) (hcl : cs.length ≤ 1000000) : PC Tryz.prog 17 [dD p, sl cI cs, iv most] (fun r => r = .tup (if Ki p most = true then [sl cI (runP p.types (c9 p) cs most.toNat).1.read, iv (runP p.types (c9 p) cs most.toNat).2.1] else [sl cI [], iv 5])) := by
 by_cases h : Ki p most = true
 ·have h' := h
  unfold Ki at h'
  simp only [Bool.and_eq_true, decide_eq_true_eq] at h'
  obtain ⟨hv, h0, h1⟩ := h'
  have hru := JY p cs most.toNat _ rfl hv hl hs (by omega) hcl
  have hok := Ke (cs := cs) (n := most.toNat) hv
  have hrl := nF (ts := p.types) (pts := c9 p) (cs := cs) (n := most.toNat) (by omega)
  have htl := (WG.of_valid hv).tl
  rw [Int.toNat_of_nonneg h0] at hru
  rw [if_pos h]
  have hon := Int.toNat_of_nonneg h0
  have hm := hok.m
  have hml := hm.l
  have hsl := hok.l
  generalize runP p.types (c9 p) cs most.toNat = q at *
  (refine aU Tryz.func17 rfl (by simp [Tryz.ntmps17]) ?_; rw [Tryz.ntmps17])
  repeat' (first|(apply aM;first|((apply Gp (p := p) (cs := cs) (n := most) (q := q));(case ha0|ha1|ha2 => rfl);(case hmc => exact hru);(case hM|hN => rfl))|(apply aE;rfl;rfl)|(first|(apply aL;rfl;rfl;rfl;rfl)|(apply aY;rfl;rfl;(exact (rfl:_=[_, _]));rfl;rfl;rfl))|(apply aD;rfl;rfl;rfl)|(apply aC;rfl;rfl)|(apply aF;kernel_rfl)|(apply bW;rfl;rfl;rfl)|(apply b0;rfl;rfl;rfl;rfl)|(apply cB;rfl;rfl;rfl))|(apply aN;first|apply aI|apply aB|apply aQ)|with_reducible apply aA)
  refine cE (Le.frzD (d := 6) (i := 4) rfl rfl) ?_
  exact aP (l := [sl cI q.1.read, iv q.2.1]) rfl ⟨rfl, by (exact Pur.pf)⟩
 ·rw [if_neg h]
  have h2 : Ki p most = false := by simpa using h
  (refine aU Tryz.func17 rfl (by simp [Tryz.ntmps17]) ?_; rw [Tryz.ntmps17])
  repeat' (first|(apply aM;first|((apply IB (p := p) (cs := cs) (n := most));(case ha0|ha1|ha2 => rfl);(case hmc => exact K7 p cs most hl hs h2);(case hM|hN => rfl))|(apply aE;rfl;rfl)|(first|(apply aL;rfl;rfl;rfl;rfl)|(apply aY;rfl;rfl;(exact (rfl:_=[_, _]));rfl;rfl;rfl))|(apply aD;rfl;rfl;rfl)|(apply aC;rfl;rfl)|(apply aF;kernel_rfl)|(apply bW;rfl;rfl;rfl)|(apply b0;rfl;rfl;rfl;rfl)|(apply cB;rfl;rfl;rfl))|(apply aN;first|apply aI|apply aB|apply aQ)|with_reducible apply aA)
  exact aP (l := [sl cI [], iv 5]) rfl ⟨rfl, rfl⟩
theorem DI (bs : List UInt8) (p : Nat) (hb : bs.length ≤ 2000) (hp : p ≤ 10000) : MC Tryz.prog 118 [.optr 0 0] [(0, some (e5 bs p))] 1 (fun x : List Int × Nat => x.1.length ≤ 8 ∧ x.2 ≤ 20000) (fun x => sl cI x.1) (fun x => [(0, some (e5 bs x.2))]) := by
 have hn := tF bs p [4, 2, 6, 0, 8] 0 8 (by decide) (by decide)
 (refine cD Tryz.func118 rfl (by simp [Tryz.ntmps118]) ?_; rw [Tryz.ntmps118])
 repeat' (first|(apply aM;first|(apply aE;rfl;rfl)|(apply aC;rfl;rfl)|(apply mX;rfl;rfl;rfl;rfl;infer_instance;rfl;(rfl);assumption;omega;(decide);(decide);rfl;rfl)|(apply aF;kernel_rfl)|(apply cG;rfl;rfl;rfl;(first|exact (rfl:_=some [_, _, _, _, _])|rfl);rfl;rfl))|(apply aN;first|apply aI|apply aB|apply aK)|with_reducible apply aA)
 refine bC (σ := Int × List Int × Nat × Nat) [0] [(0, _)] [] [] (fun k => [(4, iv k.1), (3, .own 1 0 k.2.2.1 1)]) (fun k => [(0, some (e5 bs k.2.2.2)), (1, some (aH cI k.2.1))]) (fun k => (0 ≤ k.1 ∧ k.1 + k.2.1.length ≤ 8) ∧ k.2.2.1 = k.2.1.length ∧ k.2.2.2 ≤ 10001 + k.2.1.length) (fun k => k.1.toNat) (gP bs p [4, 2, 6, 0, 8], [], 0, p + 1) ⟨⟨hn.1, by show _ + ((0 : Nat) : Int) ≤ 8;omega⟩, rfl, by dsimp only;omega⟩ rfl rfl (by repeat' (first|exact trivial|refine And.intro rfl ?_)) (by repeat' (first|exact trivial|refine And.intro (.inr rfl) ?_)) ?_
 rintro ⟨i, xs, m, p'⟩ ⟨⟨hi, hx⟩, hm, hp'⟩
 dsimp only at hi hx hm hp' ⊢
 repeat' (first|(apply aM;first|(apply aE;rfl;rfl)|(first|(apply fU;rfl;rfl;omega;rfl)|(apply aR;rfl;rfl;rfl;rfl))|(apply aC;rfl;rfl)|(apply Bx;rfl;rfl;infer_instance;rfl;(rfl);assumption;omega;(decide);(decide);rfl;rfl)|(apply cH;rfl;rfl;rfl;rfl;rfl;(rw [aT]; omega);(rfl);omega;omega;(exact j1 (by (assumption)));rfl;rfl)|(apply aF;kernel_rfl)|((apply bS (t := _));(case hze|hsm|hl => rfl);(case hfl => (first|exact (rfl:_=some [_])|exact (rfl:_=some [_, _, _, _, _, _])));(case hM|hN => rfl)))|(apply aN;first|apply aI|apply aB|(apply aO;rfl;all_goals intro hc;have hq:=hc;(try simp only [cF] at hq);try exfalso;omega)|apply aK|apply aS|apply bI|apply aQ)|with_reducible apply aA|with_reducible apply bJ|with_reducible apply aX|with_reducible apply bH)
 ·(apply dW (i - 1, xs ++ [gP bs p' [0, 1, 0, 1, -1, 2]], m + 1, p' + 1); focus (refine Le.ren [(1, 5)] rfl (by decide) ?_ ?_ <;> repeat' (first | exact trivial | refine And.intro ⟨_, rfl, ?_⟩ ?_ | refine And.intro ⟨_, _, rfl, rfl, ?_⟩ ?_ | exact Or.inr rfl | refine Or.inl ⟨?_, (by first | rfl | exact aZ _ _ | exact Pur.pf)⟩ | rfl)))
  ·refine ⟨⟨by dsimp only; omega, ?_⟩, by dsimp only; rw [List.length_append, hm]; rfl, ?_⟩
   ·dsimp only;rw [List.length_append]; simp only [List.length_singleton]; omega
   ·dsimp only;rw [List.length_append]; simp only [List.length_singleton]; omega
  ·dsimp only;omega
 ·refine cE (Le.frzD (d := 2) (i := 1) rfl rfl) ?_
  refine aP rfl ?_
  refine bY (xs, p') ⟨by dsimp only;omega, by dsimp only;omega⟩ ?_ ⟨.inr rfl, trivial⟩
  show AV.imm m (aH cI xs) = sl cI xs
  rw [hm]
theorem DE {P : Program} {N : Nat} {Q : Exit → AS → Prop} {all : Array Oper} {rest : List Oper} {ts : List (Nat × AV)} {hs : List (Nat × Option (List AV))} {n : Nat} {z0 : Lo} {ty : TypeId} {pos : String} {af : Array Edge} {d : Nat} {args : Array Operand} {tys : Array TypeId}
  {k : FuncId} {p0 : List Int × Nat → Prop} {i p : Nat} {bs : List UInt8} (h : MC P k [.optr 0 0] [(0, some (e5 bs p))] 1 p0 (fun x => sl cI x.1) (fun x => [(0, some (e5 bs x.2))])) [hc : CaT P k] (ha : evL (lk ts) args.toList = some [.optr i 0])
  (hH : cJ hs i = some (e5 bs p)) (hM : Nat.ble (n + 0) fG = true) (hN : Nat.blt d N = true) (kk : ∀ x, p0 x → RW P N all Q .txt rest ⟨(d, sl cI x.1) :: ts, (i, some (e5 bs x.2)) :: hs, n + 0, z0⟩) :
  RW P N all Q .txt (⟨some d, .call ⟨.value (.func k), args, tys⟩, ty, pos, af, none⟩ :: rest) ⟨ts, hs, n, z0⟩ :=
 AU (σ := List Int × Nat) [i] 1 (fun x : List Int × Nat => [(i, some (e5 bs x.2))]) h ha rfl ⟨⟨_, _, rfl, hH, RnL.purI inferInstance⟩, trivial⟩ rfl (RnL.cons (RnV.optr rfl) .nil) (by simpa using hM)
  (fun x _ => RnV.purI inferInstance) (fun x _ => by simp [eA]) (fun x _ => ⟨⟨0, _, rfl, rfl, RnL.purI inferInstance⟩, trivial⟩) hN kk
theorem Ir (bs : List UInt8) (hb : bs.length ≤ 1048576) : PC Tryz.prog 66 [sl cU bs] (fun r => ∃ (q : Prg) (cs : List Int) (n : Int), r = .tup [dD q, sl cI cs, iv n] ∧ bQ q.body ≤ 20000 ∧ q.types.length ≤ 1000 ∧ cs.length ≤ 8 ∧ -1 ≤ n ∧ n ≤ 151) := by
 have hb2 : (bs.take 2000).length ≤ 2000 := by rw [List.length_take]; omega
 (refine aU Tryz.func66 rfl (by simp [Tryz.ntmps66]) ?_; rw [Tryz.ntmps66])
 repeat' (first|(apply aM;first|((with_reducible apply hZ (k := 74));(case h => exact BL (bs.take 2000) 0 hb2 (by decide));(case ha|hpv|hH|hM|hN => rfl);(rintro ⟨q, p1⟩ ⟨hq1, hq2, hq3⟩);(dsimp only at hq1 hq2 hq3))|((with_reducible apply hZ (k := 73));(case h => exact sF (bs.take 2000) p1 q hb2 (by omega) (by omega) (by omega));(case ha => rfl);(case hpv => exact Pur.pf);(case hH|hM|hN => rfl);(rintro ⟨q2, p2⟩ ⟨hr1, hr2, hr3⟩);(dsimp only at hr1 hr2 hr3))|((apply DE (k := 118));(case h => exact DI (bs.take 2000) p2 hb2 (by omega));(case ha|hH|hM|hN => rfl);(rintro ⟨cs, p3⟩ ⟨hc1, hc2⟩);(dsimp only at hc1 hc2);(have hn9 := tF (bs.take 2000) p3 [100, 150, 60, 5, 0, 151, -1] (-1) 151 (by decide) (by decide)))|(apply aE;rfl;rfl)|(apply aY;rfl;rfl;(exact (rfl:_=[_, _]));rfl;rfl;rfl)|(apply aC;rfl;rfl)|(first|(apply k5;rfl;(apply mV <;> (assumption));rfl;rfl)|(apply mX;rfl;rfl;rfl;rfl;infer_instance;rfl;(rfl);assumption;omega;(decide);(decide);rfl;rfl))|(apply aF;kernel_rfl)|(apply bE;rfl;rfl)|(apply cG;rfl;rfl;rfl;(exact (rfl:_=some [_, _, _, _, _, _, _]));rfl;rfl)|(apply aW;rfl;rfl;rfl;rfl;rfl;(case hl => (simp;done));(exact (rfl:_=[_, _]))))|(apply aN;first|apply aI|apply aB|(apply b8;kernel_rfl)|apply aQ)|with_reducible apply aA)
 exact aP (l := [dD q2, sl cI cs, iv (gP (bs.take 2000) p3 [100, 150, 60, 5, 0, 151, -1])]) rfl ⟨⟨q2, cs, _, rfl, by omega, by omega, hc1, hn9.1, hn9.2⟩, Pur.pf⟩
theorem wV (bs : List UInt8) (hb : bs.length ≤ 1048576) : PC Tryz.prog 16 [sl cU bs] (fun r => ∃ (q : Prg) (cs : List Int) (n : Int), r = .tup [dD q, sl cI cs, iv n] ∧ bQ q.body ≤ 20000 ∧ q.types.length ≤ 1000 ∧ cs.length ≤ 8 ∧ -1 ≤ n ∧ n ≤ 151) := by
 (refine aU Tryz.func16 rfl (by simp [Tryz.ntmps16]) ?_; rw [Tryz.ntmps16])
 repeat' (first|(apply aM;first|((with_reducible apply e8 (k := 66));(case ha => rfl);(case h => exact Ir bs hb);(case hp => (exact Pur.pf));(case hN => rfl);(rintro _ ⟨q, cs, n, rfl, h1, h2, h3, h4, h5⟩ _))|(apply aE;rfl;rfl)|(apply aC;rfl;rfl)|(apply aF;kernel_rfl)|(apply bE;rfl;rfl)|(apply cB;rfl;rfl;rfl)|(apply aW;rfl;rfl;rfl;rfl;rfl;(case hl => (simp;done));(exact (rfl:_=[_, _]))))|(apply aN;first|apply aI|apply aB|apply aQ)|with_reducible apply aA)
 exact aP (l := [dD q, sl cI cs, iv n]) rfl ⟨⟨q, cs, n, rfl, h1, h2, h3, h4, h5⟩, Pur.pf⟩
end Go.Proofs.YtjcpngimjdckmaaGreat
namespace Go.Proofs.YtjcpngimjdckmaaGreat
open Go.AL Go.ChangeShapes Go.WideShapes Go.ChangeAt Go.RowKit
theorem wB {w : World} {bad : Nat → Prop} {ι : Pl} {b : Nat} : ∀ (bs : List UInt8) (o : Nat), ¬ bad b → (∀ j, j < bs.length → w.cell? ⟨b, o + j, none⟩ = some (.int .u8 ((bs[j]!).toNat : Int))) → RdC w bad ι (aH cU bs) b o
 | [], _, _, _ => by simp only [aH, List.flatMap_nil, RdC]
 | x :: bs, o, hb, h => by
  have h0 := h 0 (by simp)
  have e : aH cU (x :: bs) = .v (.int .u8 (x.toNat : Int)) :: aH cU bs := rfl
  rw [e]
  simp only [RdC]
  refine ⟨⟨.int .u8 (x.toNat : Int), by simpa using h0, rfl, by simp only [Rd]⟩, wB bs (o + 1) hb fun j hj => ?_⟩
  have := h (j + 1) (by simpa using hj)
  rw [show o + 1 + j = o + (j + 1) from by omega]
  simpa using this
theorem n7 {P : Program} {k : FuncId} {bs ms : List UInt8} (h : PC P k [sl cU bs, sl cU ms] (fun r => r = bv true)) {W : World} {v v' : Value} (hv : Rd W (fun _ => False) (fun _ => none) (sl cU bs) v) (hv' : Rd W (fun _ => False) (fun _ => none) (sl cU ms) v') :
  Calls P k #[v, v'] W fun e W' => e = .returned (.bool true) ∧ Below W.heap.size W W' := by
 let C : Ctx := { N := 0, w0 := W, W0 := fun _ => False, X := fun _ => False, ι0 := fun _ => none, xlt := fun _ h => h.elim }
 have hbad : ∀ b, ¬ a9 C.X (fun _ => none) (cJ []) b := by
  rintro b (h | ⟨id, cs, β, h1, h2⟩)
  ·exact h
  ·cases h2
 have g : HG C (fun _ => none) (fun j => 0 ≤ j) (cJ []) W :=
  ⟨fun id cs h => by simp [cJ] at h, fun id id' cs cs' b β β' h => by simp [cJ] at h, Fr.refl _ _, fun _ _ h => h, fun _ _ => rfl⟩
 have hcar : Carry W (fun _ => False) (fun _ => none) W (a9 C.X (fun _ => none) (cJ [])) (fun _ => none) := ⟨fun b o x _ h2 => ⟨hbad b, h2⟩, fun _ _ h => h, fun _ => Nat.le_refl _⟩
 have ha : RdV W (a9 C.X (fun _ => none) (cJ [])) (fun _ => none) [sl cU bs, sl cU ms] [v, v'] := by
  simp only [RdV]
  exact ⟨v, [v'], rfl, Rd.carry hcar _ _ hv, v', [], rfl, Rd.carry hcar _ _ hv', rfl⟩
 refine (h C _ W [v, v'] rfl rfl g ha).mono ?_
 rintro e W' ⟨v'', r, H', ι', rfl, ⟨rfl, _⟩, h4, h5⟩
 simp only [Rd] at h4
 subst h4
 have f := h5.fr
 exact ⟨rfl, f.os, f.tape, f.output, f.size, fun b hb => f.block b hb (fun h => h)⟩
theorem Hy : laidOutB Tryz.prog = true := by kernel_rfl
theorem JO : Tryz.prog.cellsOf 5 = 1 := by kernel_rfl
theorem oO {H : Type} {enc : TypeId × Value → H} {W : World} {base : Nat} {v0 : Value} {d0 : DataW H} {p : List MemPlace} (hval : Value.okWide Tryz.prog W .any base 22 v0) (h0 : DataW.Trod enc Tryz.prog W 0 (fun _ => true) true 22 v0 d0 p) :
  ∃ bs : List UInt8, Rd W (fun _ => False) (fun _ => none) (sl cU bs) v0 := by
 obtain ⟨a0, len, cap, rfl⟩ := okWide_slice Tryz.underlying22 hval
 obtain ⟨fuel, hf⟩ := h0
 rcases open_ints Tryz.underlying22 Tryz.underlying5 JO hf with ⟨hcs, hx⟩ | ⟨a, len', cap', zs, hcs, _, hl, hm, hz, hx, hcell, hwz⟩
 ·simp [Value.cells] at hcs
  obtain ⟨rfl, rfl, rfl⟩ := hcs
  refine ⟨[], ?_⟩
  simp only [Rd]
  exact ⟨none, 0, rfl, .inl rfl⟩
 ·simp [Value.cells] at hcs
  obtain ⟨rfl, rfl, rfl⟩ := hcs
  simp only [if_true] at hz
  refine ⟨(zs.take len).map fun n => UInt8.ofNat n.toNat, ?_⟩
  have hlen : ((zs.take len).map fun n => UInt8.ofNat n.toNat).length = len := by simp;omega
  simp only [Rd]
  refine ⟨some a, cap, by rw [hlen], ?_⟩
  by_cases h00 : len = 0
  ·exact .inl (by rw [hlen]; exact h00)
  ·obtain ⟨b, off, spot⟩ := a
   have hspot : spot = none := by simpa [Addr.add] using World.cell?_spot (hcell 0 (by omega))
   subst hspot
   refine .inr ⟨b, off, by rw [hlen]; exact hl, rfl, .inr ⟨fun h => h, wB _ _ (fun h => h) fun j hj => ?_⟩⟩
   rw [hlen] at hj
   have hcj := hcell j (by omega)
   rw [Addr.add_lit] at hcj
   rw [hcj]
   have e : zs.getD j 0 = zs[j]'(by omega) := by simp [List.getD, List.getElem?_eq_getElem (show j < zs.length by omega)]
   have hw := hwz (zs[j]'(by omega)) (List.getElem_mem _)
   have hr : 0 ≤ zs[j]'(by omega) ∧ zs[j]'(by omega) ≤ 255 := by simpa [Lit.wf, IntKind.min, IntKind.max, IntKind.signed, IntKind.bits] using hw
   rw [e, cK _ _ (by rw [hlen]; exact hj)]
   simp only [List.getElem_map, List.getElem_take]
   congr 2
   simp only [UInt8.toNat_ofNat']
   omega
end Go.Proofs.YtjcpngimjdckmaaGreat
namespace Go.Proofs.YtjcpngimjdckmaaGreat
open Go.AL Go.RowKit
def qB (nm : List Int) (v : Nat) : Nat := nm[v]!.toNat
theorem Jr {xs : List AL.Stmt} {m : Nat} {a b c d : Int} {t e : List AL.Stmt} (hm : m = xs.length) : ((aH aV xs).drop 0).take (m * 6) ++ [iv a, iv b, iv c, iv d, sl aV t, sl aV e] = aH aV (xs ++ [.mk a b c d t e]) := gS hm (dJ (.mk a b c d t e)).symm
theorem sG (σ : Nat → Nat) : ∀ (l : List AL.Stmt) (s : AL.Stmt), kG σ (l ++ [s]) = kG σ l ++ [yO σ s]
 | [], s => rfl
 | a :: l, s => by show yO σ a :: kG σ (l ++ [s]) = _; rw [sG σ l s]; rfl
theorem lJ (σ : Nat → Nat) : ∀ l : List AL.Stmt, (kG σ l).length = l.length
 | [] => rfl
 | _ :: l => by show (kG σ l).length + 1 = _; rw [lJ σ l]; rfl
theorem k6 (σ : Nat → Nat) (s : AL.Stmt) : yO σ s = .mk s.op (if s.op ≤ 8 then (σ s.x.toNat : Int) else s.x) (if 3 ≤ s.op ∧ s.op ≤ 7 then (σ s.y.toNat : Int) else s.y) s.n (kG σ s.th) (kG σ s.el) := by cases s; rfl
theorem C4 {ts : List Int} (ht : cR ts = true) {d : Nat} {s : AL.Stmt} (h : o8 ts d s = true) : 1 ≤ s.op ∧ s.op ≤ 10 ∧ (s.op ≤ 8 → 0 ≤ s.x ∧ s.x < ts.length) ∧ (3 ≤ s.op → s.op ≤ 7 → 0 ≤ s.y ∧ s.y < ts.length) ∧ (∃ e, okL ts e s.th = true ∧ okL ts e s.el = true) ∧ (9 ≤ s.op → s.x = 0 ∧ s.y = 0) := by
 rw [jD] at h
 by_cases q : s.op ≠ 9 ∧ s.op ≠ 10
 ·rw [if_pos q, Bool.and_eq_true, Bool.and_eq_true] at h
  have hs := nT ht h.2
  have e1 : s.th = [] := by simpa using h.1.1
  have e2 : s.el = [] := by simpa using h.1.2
  refine ⟨hs.1, by omega, fun _ => ⟨hs.2.2.1, hs.2.2.2.1⟩, fun h1 h2 => ⟨hs.2.2.2.2.1, hs.2.2.2.2.2 h1 h2⟩, ⟨0, by rw [e1]; rfl, by rw [e2]; rfl⟩, fun _ => by omega⟩
 ·rw [if_neg q] at h
  cases d with
  | zero => cases h
  | succ d =>
   simp only [Bool.and_eq_true, decide_eq_true_eq] at h
   exact ⟨by omega, by omega, fun _ => by omega, fun _ _ => by omega, ⟨d, h.1.2, h.2⟩, fun _ => ⟨h.1.1.1.1, h.1.1.1.2.1⟩⟩
theorem Bm {ts : List Int} {d : Nat} {l : List AL.Stmt} (h : okL ts d l = true) {k : Nat} (hk : k < l.length) : o8 ts d l[k]! = true := by
 rw [rY, List.all_eq_true] at h
 exact h _ (cA _ _ hk)
structure NmS (ts nm : List Int) : Prop where
 t : cR ts = true
 l : nm.length = ts.length
 p : ∀ v, v < ts.length → 0 ≤ nm[v]!
theorem NmS.at {ts nm : List Int} (h : NmS ts nm) {z : Int} (h0 : 0 ≤ z) (h1 : z < ts.length) : ((qB nm z.toNat : Nat) : Int) = nm[z.toNat]! := by
 have := h.p z.toNat (by omega)
 unfold qB;omega
theorem EZ (ts nm : List Int) (N : NmS ts nm) (mm : Nat) (hmm : mm ≤ 1000000) (ren_ih : ∀ l d, okL ts d l = true → bQ l < mm → PC Tryz.prog 75 [sl aV l, sl cI nm] (fun r => r = sl aV (kG (qB nm) l))) (l : List AL.Stmt) (d : Nat) (ho : okL ts d l = true) (hs : bQ l ≤ mm) : PC Tryz.prog 75 [sl aV l, sl cI nm] (fun r => r = sl aV (kG (qB nm) l)) := by
 have hlen := dI l
 have hnl := N.l
 (refine aU Tryz.func75 rfl (by simp [Tryz.ntmps75]) ?_; rw [Tryz.ntmps75])
 repeat' (first|(apply aM;first|((apply fX (d := 5) (e := 6));(case hM|hN => rfl))|(apply aE;rfl;rfl)|(apply aC;rfl;rfl)|(apply a8;rfl;rfl;rfl)|(apply aF;kernel_rfl))|(apply aN;first|apply aI|apply aB|apply aK)|with_reducible apply aA)
 refine bC (σ := Nat × List AL.Stmt) [1, 8, 9] [(1, _), (8, _), (9, _)] [] [] (fun k => [(10, iv (k.1 : Int)), (5, .own 0 0 k.1 6)]) (fun k => [(0, some (aH aV k.2))]) (fun k => k.1 ≤ l.length ∧ k.2 = kG (qB nm) (l.take k.1)) (fun k => l.length - k.1) (0, []) ⟨by omega, rfl⟩ rfl rfl (by repeat' (first|exact trivial|refine And.intro rfl ?_)) (by repeat' (first|exact trivial|refine And.intro (.inr rfl) ?_)) ?_
 rintro ⟨k, xs⟩ ⟨hk, hxs⟩
 dsimp only at hk hxs ⊢
 have hck := eS l k
 have hct := gB l[k]!
 have hln : xs.length = k := by rw [hxs, lJ, List.length_take]; omega
 by_cases hkl : k < l.length
 ·obtain ⟨u1, u2, u3, u4, ⟨e, u5, u6⟩, u7⟩ := C4 N.t (Bm ho hkl)
  have y1 := fun h => N.at (u3 h).1 (u3 h).2
  have y2 := fun h h2 => N.at (u4 h h2).1 (u4 h h2).2
  have fin : ∀ x y : Int, x = (if l[k]!.op ≤ 8 then (qB nm l[k]!.x.toNat : Int) else l[k]!.x) → y = (if 3 ≤ l[k]!.op ∧ l[k]!.op ≤ 7 then (qB nm l[k]!.y.toNat : Int) else l[k]!.y) → xs ++ [.mk l[k]!.op x y l[k]!.n (kG (qB nm) l[k]!.th) (kG (qB nm) l[k]!.el)] = kG (qB nm) (l.take (k + 1)) := by
   intro x y hx hy
   rw [cY l k hkl, sG, k6, ← hx, ← hy, hxs]
  repeat' (first|(apply aM;first|((apply cH (d := 45));(case hx|hy|hze|he0|hH => rfl);(case hl => (rw [aT aV (e := 6)]; omega));(case hs' => rfl);(case hbig => omega);(case hmx => omega);(case hcs => exact Jr hln.symm);(case hM|hN => rfl))|(apply aE;rfl;rfl)|(first|(apply aL;rfl;rfl;rfl;rfl)|(apply aY;rfl;rfl;(exact (rfl:_=[_, _, _, _, _, _]));rfl;rfl;rfl))|(apply aD;rfl;rfl;rfl)|(first|(apply bU;rfl;rfl;omega;rfl)|(apply aR;rfl;rfl;rfl;rfl))|(apply aC;rfl;rfl)|(first|(apply a7;(case hx|hi => rfl);(case hm => (assumption));(case hml => (rfl));(case hα | hf|hg => infer_instance);(case hN => rfl))|(apply dA;(case hx|hi => rfl);(case hm => (omega));(case hml => (rfl));(case hα | hf|hg => infer_instance);(case hN => rfl)))|(first|((with_reducible apply aJ (k := 50));(case ha => rfl);(case h => (apply eD <;> (fail)));(case hp => (rfl));(case hN => rfl))|((with_reducible apply aJ (k := 75));(case ha => rfl);(case h => (apply ren_ih <;> (first|assumption|omega)));(case hp => (exact Pur.pf));(case hN => rfl)))|(apply aF;kernel_rfl)|(apply bE;rfl;rfl)|((apply bS (t := _));(case hze|hsm|hl => rfl);(case hfl => (exact (rfl:_=some [_, _, _, _, _, _])));(case hM|hN => rfl))|(apply aW;rfl;rfl;rfl;rfl;rfl;(case hl => (simp;done));(exact (rfl:_=[_, _, _, _, _, _]))))|(apply aN;first|apply aI|apply aB|(apply b8;kernel_rfl)|(apply aO;rfl;all_goals intro hc;have hq:=hc;(try simp only [cF] at hq);try exfalso;omega)|apply aK|apply aS)|with_reducible apply aA|with_reducible apply aX)
  ·(apply dW (k + 1, _); focus (refine Le.ren [(0, 3)] rfl (by decide) ?_ ?_ <;> repeat' (first | exact trivial | refine And.intro ⟨_, rfl, ?_⟩ ?_ | refine And.intro ⟨_, _, rfl, rfl, ?_⟩ ?_ | exact Or.inr rfl | refine Or.inl ⟨?_, (by first | rfl | exact aZ _ _)⟩ | rfl)))
   ·refine ⟨by dsimp only; omega, ?_⟩
    dsimp only
    refine fin _ _ ?_ ?_
    ·first|(rw [if_pos (by omega)]; exact (y1 (by omega)).symm)|(rw [if_neg (by omega)])
    ·first|(rw [if_pos (by omega)]; exact (y2 (by omega) (by omega)).symm)|(rw [if_neg (by omega)])
   ·dsimp only;omega
  ·(apply dW (k + 1, _); focus (refine Le.ren [(0, 3)] rfl (by decide) ?_ ?_ <;> repeat' (first | exact trivial | refine And.intro ⟨_, rfl, ?_⟩ ?_ | refine And.intro ⟨_, _, rfl, rfl, ?_⟩ ?_ | exact Or.inr rfl | refine Or.inl ⟨?_, (by first | rfl | exact aZ _ _)⟩ | rfl)))
   ·refine ⟨by dsimp only; omega, ?_⟩
    dsimp only
    refine fin _ _ ?_ ?_
    ·first|(rw [if_pos (by omega)]; exact (y1 (by omega)).symm)|(rw [if_neg (by omega)])
    ·first|(rw [if_pos (by omega)]; exact (y2 (by omega) (by omega)).symm)|(rw [if_neg (by omega)])
   ·dsimp only;omega
  ·(apply dW (k + 1, _); focus (refine Le.ren [(0, 3)] rfl (by decide) ?_ ?_ <;> repeat' (first | exact trivial | refine And.intro ⟨_, rfl, ?_⟩ ?_ | refine And.intro ⟨_, _, rfl, rfl, ?_⟩ ?_ | exact Or.inr rfl | refine Or.inl ⟨?_, (by first | rfl | exact aZ _ _)⟩ | rfl)))
   ·refine ⟨by dsimp only; omega, ?_⟩
    dsimp only
    refine fin _ _ ?_ ?_
    ·first|(rw [if_pos (by omega)]; exact (y1 (by omega)).symm)|(rw [if_neg (by omega)])
    ·first|(rw [if_pos (by omega)]; exact (y2 (by omega) (by omega)).symm)|(rw [if_neg (by omega)])
   ·dsimp only;omega
 ·repeat' (first | (apply aM; first | (apply aE;rfl;rfl) | (apply aR;rfl;rfl;rfl;rfl) | (apply aC;rfl;rfl) | (apply aF;kernel_rfl)) | (apply aN; first | apply aI | apply aB | (apply aO;rfl;all_goals intro hc;have hq:=hc;(try simp only [cF] at hq);try exfalso;omega) | apply bI | apply aQ) | with_reducible apply aA | with_reducible apply bJ | with_reducible apply bH)
  have hke : k = l.length := by omega
  (refine cE (Le.frzD (d := 4) (i := 0) rfl rfl) ?_; refine aP rfl ?_)
  refine ⟨?_, Pur.pf⟩
  rw [hxs, hke, List.take_length]
  simp only [b9, sl, lJ]
theorem Ly (ts nm : List Int) (N : NmS ts nm) (l : List AL.Stmt) (d : Nat) (ho : okL ts d l = true) (hb : bQ l ≤ 1000000) : PC Tryz.prog 75 [sl aV l, sl cI nm] (fun r => r = sl aV (kG (qB nm) l)) := by
 have key : ∀ m, m ≤ 1000000 → ∀ l d, okL ts d l = true → bQ l ≤ m → PC Tryz.prog 75 [sl aV l, sl cI nm] (fun r => r = sl aV (kG (qB nm) l)) := by
  intro m
  induction m with
  | zero => intro hm l d ho hl;exact EZ ts nm N 0 hm (fun l d _ h => by omega) l d ho hl
  | succ m ih => intro hm l d ho hl;exact EZ ts nm N (m + 1) hm (fun l d ho h => ih (by omega) l d ho (by omega)) l d ho hl
 exact key (bQ l) hb l d ho (Nat.le_refl _)
def Eu (ts nm : List Int) : Nat → List Int
 | 0 => List.replicate ts.length 0
 | k + 1 => (Eu ts nm k).set nm[k]!.toNat ts[k]!
theorem j3 (ts nm : List Int) : ∀ k, (Eu ts nm k).length = ts.length
 | 0 => by simp [Eu]
 | k + 1 => by rw [Eu, List.length_set, j3 ts nm k]
def J9 (p : Prg) (nm : List Int) : Prg := ⟨Eu p.types nm p.types.length, kG (qB nm) p.body⟩
def xU (p : Prg) (nm : List Int) (b : Bool) : Prg := if b = true then J9 p nm else ⟨[], []⟩
theorem Kc {ts nm : List Int} (h : nmOk ts.length nm) : ∀ k, k ≤ ts.length → ∀ v, v < k → (Eu ts nm k)[nm[v]!.toNat]! = ts[v]! := by
 intro k
 induction k with
 | zero => intro _ v hv;omega
 | succ k ih =>
  intro hk v hv
  obtain ⟨h1, h2, h3⟩ := h k (by omega)
  rw [Eu, dS]
  by_cases q : v = k
  ·subst q;rw [if_pos ⟨rfl, by rw [j3]; omega⟩]
  ·obtain ⟨g1, g2, _⟩ := h v (by omega)
   have := h3 v (by omega)
   rw [if_neg (fun z => by omega), ih (by omega) v (by omega)]
theorem Fo {m : Nat} : (List.replicate m (([.int .i64 0] : List Value).map AV.v)).flatten = aH cI (List.replicate m 0) := wX rfl
theorem Iw {m m' : Nat} (h : m = m') : (List.replicate m (([.int .i64 0] : List Value).map AV.v)).flatten = aH cI (List.replicate m' 0) := by rw [h]; exact Fo
theorem JI (p : Prg) (nm : List Int) (b : Bool) (hv : cQ p = true) (hl : nm.length = p.types.length) (hb : b = true ↔ nmOk p.types.length nm) : PC Tryz.prog 29 [dD p, sl cI nm] (fun r => r = .tup [dD (xU p nm b), bv b]) := by
 have hts : cR p.types = true := by unfold cQ at hv;simp only [Bool.and_eq_true] at hv;exact hv.1.1
 have hok : okL p.types 4 p.body = true := by unfold cQ at hv;simp only [Bool.and_eq_true] at hv;exact hv.1.2
 have hcn : bQ p.body ≤ 30 := by unfold cQ at hv;simp only [Bool.and_eq_true, decide_eq_true_eq] at hv;exact hv.2
 have htl := fF hts
 have hval := kO p (by omega) (by omega)
 rw [hv] at hval
 have nb : ∀ k, k < nm.length → ¬ (0 ≤ nm[k]! ∧ nm[k]! < p.types.length ∧ ∀ u, u < k → nm[u]! ≠ nm[k]!) → b = false := fun k hk h => by
  cases q : b with
  | false => rfl
  | true => exact absurd (hb.1 q k (by omega)) h
 (refine aU Tryz.func29 rfl (by simp [Tryz.ntmps29]) ?_; rw [Tryz.ntmps29])
 repeat' (first|(apply aM;first|((with_reducible apply aJ (k := 49));(case ha => rfl);(case h => exact hval);(case hp => (exact Pur.pf));(case hN => rfl))|((apply dV (d := 23));(case hx|hy|hze => rfl);(case hsm => omega);(case hmx => omega);(case hcs => exact Iw hl);(case hM|hN => rfl))|(apply aE;rfl;rfl)|(first|(apply aL;rfl;rfl;rfl;rfl)|(apply aY;rfl;rfl;(exact (rfl:_=[_, _]));rfl;rfl;rfl))|(apply aD;rfl;rfl;rfl)|(apply a6;rfl;rfl;rfl;(rfl))|(apply aR;rfl;rfl;rfl;rfl)|(apply aC;rfl;rfl)|(apply bF;rfl;(rfl);rfl;rfl)|(apply a8;rfl;rfl;rfl)|(apply aF;kernel_rfl)|(apply bV;rfl;(exact (rfl:_=some [_, _]));(exact (rfl:_=[_, _]));rfl)|(apply cC;rfl;rfl)|(apply b0;rfl;rfl;rfl;rfl)|(apply bE;rfl;rfl)|(apply aW;rfl;rfl;rfl;rfl;rfl;(case hl => (simp;done));(exact (rfl:_=[_, _]))))|(apply aN;first|apply aI|apply aB|(apply aO;rfl;all_goals intro hc;have hq:=hc;(try simp only [cF] at hq);try exfalso;omega)|apply aK|apply aS)|with_reducible apply aA)
 refine bC (σ := Nat) [1, 2, 4, 6, 25, 26] [(1, _), (2, _), (4, _), (6, _), (25, _), (26, _)] [0, 1, 3] [(0, some _), (1, some _), (3, some _)] (fun k => [(27, iv (k : Int))]) (fun k => [(2, some (aH cI (Eu p.types nm k)))]) (fun k => k ≤ nm.length ∧ ∀ v, v < k → 0 ≤ nm[v]! ∧ nm[v]! < p.types.length ∧ ∀ u, u < v → nm[u]! ≠ nm[v]!) (fun k => nm.length - k) (0) ⟨by omega, by omega⟩ rfl rfl (by repeat' (first|exact trivial|refine And.intro rfl ?_)) (by repeat' (first|exact trivial|refine And.intro (.inr rfl) ?_)) ?_
 rintro k ⟨hk, hall⟩
 have hpl := j3 p.types nm k
 by_cases hkn : k < nm.length
 ·repeat' (first | (apply aM; first | (apply aE;rfl;rfl) | (apply aL;rfl;rfl;rfl;rfl) | (apply aD;rfl;rfl;rfl) | (first | (apply a6;rfl;rfl;rfl;(assumption)) | (apply bD;rfl;rfl;rfl;(assumption)) | (apply bO; (case hj | hb | hN => rfl); all_goals (intro hg; have hq := hg; (try simp only [cF] at hq); (try (exfalso; omega))))) | (first | (apply bU;rfl;rfl;omega;rfl) | (apply fU;rfl;rfl;omega;rfl) | (apply aR;rfl;rfl;rfl;rfl)) | (apply aC;rfl;rfl) | (first | (apply bR;rfl;(assumption);rfl;rfl) | (apply bF;rfl;(assumption);rfl;rfl)) | (first | (apply a7; (case hx | hi => rfl); (case hm => (first | assumption | omega)); (case hml => (rfl)); (case hα | hf | hg => infer_instance); (case hN => rfl)) | (apply cP;rfl;rfl;(omega);rfl)) | (first | ((with_reducible apply aJ (k := 50)); (case ha => rfl); (case h => (apply eD <;> (fail))); (case hp => (rfl)); (case hN => rfl)) | ((with_reducible apply aJ (k := 52)); (case ha => rfl); (case h => (apply tG <;> (simp only [gX] <;> omega))); (case hp => (exact Pur.pf)); (case hN => rfl))) | (apply a8;rfl;rfl;rfl) | (apply aF;kernel_rfl) | (apply bV;rfl;(exact (rfl:_=some [_, _]));(exact (rfl:_=[_, _]));rfl) | (apply mT;rfl;infer_instance;rfl;rfl;(omega);rfl) | (apply cC;rfl;rfl) | (apply aW;rfl;rfl;rfl;rfl;rfl;(first | decide | (rw [aT]; simp only [gX] <;> omega));(first | exact Br (by (first | assumption | omega)) | exact (rfl:_=[_, _])))) | (apply aN; first | apply aI | apply aB | (apply b8;kernel_rfl) | (apply bZ;rfl;(rfl)) | (apply aO;rfl;all_goals intro hc;have hq:=hc;(try simp only [cF] at hq);try exfalso;omega) | apply aK | apply aS | apply aQ) | with_reducible apply aA | with_reducible apply bK | with_reducible apply aX | with_reducible apply cT)
  ·have bf : b = false := nb k hkn fun ⟨_, _, h⟩ => by
    rw [Int.toNat_natCast, Nat.sub_zero, List.drop_zero] at hq
    obtain ⟨j, hj, e⟩ := List.getElem_of_mem hq
    rw [List.length_take] at hj
    rw [List.getElem_take] at e
    exact h j (by omega) (by rw [cK _ _ (by omega)]; exact e)
   refine aP (l := [.agg [.imm 0 [], .imm 0 []], bv false]) rfl ⟨?_, rfl⟩
   rw [bf]; rfl
  ·(apply dW (k + 1); focus (refine Le.ren [(0, 0), (1, 1), (2, 2), (3, 3)] rfl (by decide) ?_ ?_ <;> repeat' (first | exact trivial | refine And.intro ⟨_, rfl, ?_⟩ ?_ | refine And.intro ⟨_, _, rfl, rfl, ?_⟩ ?_ | exact Or.inr rfl | refine Or.inl ⟨?_, (by first | rfl | exact aZ _ _ | exact Pur.pf)⟩ | refine Or.inr (All2.cons ?_ ?_) | refine All2.cons ?_ ?_ | exact All2.nil | rfl)))
   ·refine ⟨by omega, fun v hv => ?_⟩
    by_cases e : v = k
    ·subst e
     refine ⟨by omega, by omega, fun u hu q => hq ?_⟩
     rw [Int.toNat_natCast, Nat.sub_zero, List.drop_zero, ← q]
     rw [cK _ _ (by omega)]
     exact List.mem_take_iff_getElem.2 ⟨u, by omega, rfl⟩
    ·exact hall v (by omega)
   ·omega
  ·have bf : b = false := nb k hkn fun ⟨h1, h2, _⟩ => by omega
   refine aP (l := [.agg [.imm 0 [], .imm 0 []], bv false]) rfl ⟨?_, rfl⟩
   rw [bf]; rfl
 ·have hkl : k = p.types.length := by omega
  subst hkl
  have bt : b = true := hb.2 hall
  have hren := Ly p.types nm ⟨hts, hl, fun v hv => (hall v hv).1⟩ p.body 4 hok (by omega)
  repeat' (first|(apply aM;first|((with_reducible apply aJ (k := 75));(case ha => rfl);(case h => exact hren);(case hp => (exact Pur.pf));(case hN => rfl))|(apply aE;rfl;rfl)|(first|(apply aL;rfl;rfl;rfl;rfl)|(apply aY;rfl;rfl;(exact (rfl:_=[_, _]));rfl;rfl;rfl))|(apply aD;rfl;rfl;rfl)|(apply aR;rfl;rfl;rfl;rfl)|(apply aC;rfl;rfl)|(apply aF;kernel_rfl)|(apply aW;rfl;rfl;rfl;rfl;rfl;(case hl => (simp;done));(exact (rfl:_=[_, _]))))|(apply aN;first|apply aI|apply aB|(apply aO;rfl;all_goals intro hc;have hq:=hc;(try simp only [cF] at hq);try exfalso;omega)|apply bI|apply aQ)|with_reducible apply aA|with_reducible apply bJ|with_reducible apply bH)
  refine cE (Le.frzC (j := 1) (i := 2) [] rfl rfl (by decide)) ?_
  refine aP (l := [.agg [.imm nm.length (aH cI (Eu p.types nm p.types.length)), sl aV (kG (qB nm) p.body)], bv true]) rfl ⟨?_, (by (exact Pur.pf))⟩
  rw [bt, xU, if_pos rfl, hl]
  show AV.tup [.agg [.imm p.types.length _, _], _] = AV.tup [dD ⟨Eu p.types nm p.types.length, _⟩, _]
  unfold dD sl
  rw [j3]
end Go.Proofs.YtjcpngimjdckmaaGreat
