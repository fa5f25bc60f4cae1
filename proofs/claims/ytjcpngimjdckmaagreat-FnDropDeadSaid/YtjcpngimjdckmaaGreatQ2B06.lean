/-
 A part of the proofs over this program: rules and contracts of its functions (the contracts).
-/
import Derived.Test.YtjcpngimjdckmaaGreatQ2B05
set_option linter.unusedVariables false
set_option linter.unusedSimpArgs false
set_option maxHeartbeats 8000000
set_option maxRecDepth 4000
attribute [local irreducible] Go.AL.RW Go.AL.AW Go.AL.Stop
namespace Go.Proofs.YtjcpngimjdckmaaGreat
open Go.AL Go.RowKit
theorem Ma (ts:List Int) (bd:List AL.Stmt) (pts:List Pnt) (s:Mc) (x:Pnt) (htl:ts.length ≤ 6) (hm:OkM s.cells) (hsl:s.slots.length = ts.length) (ho:x.op = 1) (hx:0 ≤ x.x ∧ x.x < ts.length):MC Tryz.prog 120 [.optr 0 0,hG x] [(0,some (mO ts bd pts 1 2 s)),(1,some (flat e5 s.slots)),(2,some (flat cI s.read))] 3 (fun _:Unit => True) (fun _ => iv (e7 ts s x).2) (fun _ => [(0,some (mO ts bd pts 1 2 (e7 ts s x).1)),(1,some (flat e5 (e7 ts s x).1.slots)),(2,some (flat cI (e7 ts s x).1.read))]) := by
 have hus := iS ts bd pts x htl
 have hsm : Sm (wS ts x [1, 2, 3]) := dL (by omega)
 obtain ⟨L, hL⟩ : ∃ L, L = cQ (wS ts x [1, 2, 3]) := ⟨_, rfl⟩
 have hLl : L.length ≤ 62 := by rw [hL]; exact dW _
 have hmem : ∀ k, k < L.length → 0 ≤ L[k]! ∧ L[k]! < s.slots.length := fun k hk => by
  rw [hsl]; exact iC (by rw [← hL]; exact b9 _ _ hk)
 (refine cC Tryz.func120 rfl (by simp [Tryz.ntmps120]) ?_; rw [Tryz.ntmps120])
 repeat' (first|(apply aK;first|((with_reducible apply aI (k := 151));(case ha => rfl);(case h => exact hus);(case hp => (exact Pur.pf));(case hN => rfl))|(apply aE;rfl;rfl)|(first|(apply aJ;rfl;rfl;rfl;rfl)|(apply aU;rfl;rfl;(exact (rfl:_=[_, _, _, _, _]));rfl;rfl;rfl))|(apply aD;rfl;rfl;rfl)|(apply aC;rfl;rfl)|((with_reducible apply aI (k := 100));(case ha => rfl);(case h => (apply g6 <;> (assumption)));(case hp => (rfl));(case hN => rfl))|(apply a8;rfl;rfl;rfl)|(apply aF;kernel_rfl)|(apply bV;rfl;rfl;rfl)|(apply bT;rfl;rfl;rfl;rfl))|(apply aL;first|apply aH|apply aB|(apply bZ;kernel_rfl)|apply aM)|with_reducible apply aA)
 rw [← hL]
 refine bF (σ := Nat) [0, 3, 26, 27] [(0, _), (3, _), (26, _), (27, _)] [0, 1, 2, 3] [(0, some _), (1, some _), (2, some _), (3, some _)] (fun k => [(28, iv (k : Int))]) (fun k => []) (fun k => k ≤ L.length ∧ ∀ j, j < k → s.slots[(L[j]!).toNat]!.set = true) (fun k => L.length - k) (0) ⟨Nat.zero_le _, fun j h => absurd h (by omega)⟩ rfl rfl (by repeat' (first|exact trivial|refine And.intro rfl ?_)) (by repeat' (exact trivial)) ?_
 rintro k ⟨hk, hall⟩
 by_cases hkn : k < L.length
 ·have hmk := hmem k hkn
  repeat' (first|(apply aK;first|(apply aE;rfl;rfl)|(first|(apply cV;(case hx|hH => rfl);(case hf|hg|hα => infer_instance);(case hk => omega);(case hc|hN => rfl))|(apply aJ;rfl;rfl;rfl;rfl))|(apply aD;rfl;rfl;rfl)|(first|(apply bR;rfl;rfl;omega;rfl)|(apply aS;rfl;rfl;rfl;rfl))|(apply aC;rfl;rfl)|(first|(apply a7;(case hx|hi => rfl);(case hm => (assumption));(case hml => (rfl));(case hα | hf|hg => infer_instance);(case hN => rfl))|(apply cR;rfl;rfl;(omega);rfl))|(apply aF;kernel_rfl)|(apply cF;rfl;rfl)|(apply bV;rfl;rfl;rfl))|(apply aL;first|apply aH|apply aB|(apply aN;rfl;all_goals intro hc;have hq:=hc;(try simp only [cH] at hq);try exfalso;omega)|apply aM|apply aR|apply aP)|with_reducible apply aA|with_reducible apply bH|with_reducible apply aW|with_reducible apply cX)
  ·have hu : dB ts s x = true := (dR htl).2 ⟨L[k]!, by rw [← hL]; exact b9 _ _ hkn, by assumption⟩
   rw [v7 hu]
   (refine aO rfl ?_; refine bY () trivial ?_ ⟨.inr (Eq.trans (b := some _) rfl ?_), ⟨.inr (Eq.trans (b := some _) rfl ?_), ⟨.inr (Eq.trans (b := some _) rfl ?_), trivial⟩⟩⟩)
   ·rfl
   ·rfl
   ·rfl
   ·rfl
  ·(apply dV (k + 1); focus (refine Le.ren [(3, 3)] rfl (by decide) ?_ ?_ <;> repeat' (first | exact trivial | refine And.intro ⟨_, rfl, ?_⟩ ?_ | refine And.intro ⟨_, _, rfl, rfl, ?_⟩ ?_ | exact Or.inr rfl | refine Or.inl ⟨?_, (by first | rfl | exact aZ _ _ | exact Pur.pf)⟩ | refine Or.inr (All2.cons ?_ ?_) | refine All2.cons ?_ ?_ | exact All2.nil | rfl)))
   ·refine ⟨by omega, fun j hj => ?_⟩
    rcases Nat.lt_or_ge j k with h|h
    ·exact hall j h
    ·rw [show j = k by omega]; assumption
   ·omega
 ·have hu : dB ts s x = false := by
   cases q : dB ts s x with
   | false => rfl
   | true =>
    obtain ⟨v, hv, hs⟩ := (dR htl).1 q
    rw [← hL] at hv
    obtain ⟨j, hj, e⟩ := List.getElem_of_mem hv
    have h1 := hall j (by omega)
    rw [cK _ _ hj, e, hs] at h1;cases h1
  rw [rT hu]
  have hd : dF ts s x = dN ts s x.x.toNat ⟨true, x.n, ⟨0, 0⟩⟩ := by unfold dF;rw [if_pos ho]
  rw [hd]
  have hp := nR ts bd pts s x.x ⟨true, x.n, ⟨0, 0⟩⟩ hm hsl hx
  repeat' (first|(apply aK;first|((apply kV (ts := ts) (bd := bd) (pts := pts) (s := s) (v := x.x) (y := ⟨true, x.n, ⟨0, 0⟩⟩));(case ha0|ha1|ha2|hH0|hH1|hH2|hdd => rfl);(case hmc => exact hp);(case hM|hN => rfl))|(apply aE;rfl;rfl)|(apply aJ;rfl;rfl;rfl;rfl)|(apply aD;rfl;rfl;rfl)|(apply aS;rfl;rfl;rfl;rfl)|(apply aC;rfl;rfl)|(apply aF;kernel_rfl)|(apply bW;rfl;(exact (rfl:_=some [_, _, _, _]));(exact (rfl:_=[_, _, _, _]));rfl))|(apply aL;first|apply aH|apply aB|(apply aN;rfl;all_goals intro hc;have hq:=hc;(try simp only [cH] at hq);try exfalso;omega)|apply aM|apply bI|apply aP)|with_reducible apply aA|with_reducible apply bH|with_reducible apply bJ|with_reducible apply cX|with_reducible apply bG)
  (refine aO rfl ?_; refine bY () trivial ?_ ⟨.inr (Eq.trans (b := some _) rfl ?_), ⟨.inr (Eq.trans (b := some _) rfl ?_), ⟨.inr (Eq.trans (b := some _) rfl ?_), trivial⟩⟩⟩)
  ·rfl
  ·rfl
  ·rfl
  ·rfl
theorem Ml (ts:List Int) (bd:List AL.Stmt) (pts:List Pnt) (s:Mc) (x:Pnt) (htl:ts.length ≤ 6) (hm:OkM s.cells) (hsl:s.slots.length = ts.length) (ho:x.op = 2) (hn:0 ≤ x.n ∧ x.n ≤ 9) (hx:0 ≤ x.x ∧ x.x < ts.length):MC Tryz.prog 120 [.optr 0 0,hG x] [(0,some (mO ts bd pts 1 2 s)),(1,some (flat e5 s.slots)),(2,some (flat cI s.read))] 3 (fun _:Unit => True) (fun _ => iv (e7 ts s x).2) (fun _ => [(0,some (mO ts bd pts 1 2 (e7 ts s x).1)),(1,some (flat e5 (e7 ts s x).1.slots)),(2,some (flat cI (e7 ts s x).1.read))]) := by
 have hus := iS ts bd pts x htl
 have hsm : Sm (wS ts x [1, 2, 3]) := dL (by omega)
 obtain ⟨L, hL⟩ : ∃ L, L = cQ (wS ts x [1, 2, 3]) := ⟨_, rfl⟩
 have hLl : L.length ≤ 62 := by rw [hL]; exact dW _
 have hmem : ∀ k, k < L.length → 0 ≤ L[k]! ∧ L[k]! < s.slots.length := fun k hk => by
  rw [hsl]; exact iC (by rw [← hL]; exact b9 _ _ hk)
 (refine cC Tryz.func120 rfl (by simp [Tryz.ntmps120]) ?_; rw [Tryz.ntmps120])
 repeat' (first|(apply aK;first|((with_reducible apply aI (k := 151));(case ha => rfl);(case h => exact hus);(case hp => (exact Pur.pf));(case hN => rfl))|(apply aE;rfl;rfl)|(first|(apply aJ;rfl;rfl;rfl;rfl)|(apply aU;rfl;rfl;(exact (rfl:_=[_, _, _, _, _]));rfl;rfl;rfl))|(apply aD;rfl;rfl;rfl)|(apply aC;rfl;rfl)|((with_reducible apply aI (k := 100));(case ha => rfl);(case h => (apply g6 <;> (assumption)));(case hp => (rfl));(case hN => rfl))|(apply a8;rfl;rfl;rfl)|(apply aF;kernel_rfl)|(apply bV;rfl;rfl;rfl)|(apply bT;rfl;rfl;rfl;rfl))|(apply aL;first|apply aH|apply aB|(apply bZ;kernel_rfl)|apply aM)|with_reducible apply aA)
 rw [← hL]
 refine bF (σ := Nat) [0, 3, 26, 27] [(0, _), (3, _), (26, _), (27, _)] [0, 1, 2, 3] [(0, some _), (1, some _), (2, some _), (3, some _)] (fun k => [(28, iv (k : Int))]) (fun k => []) (fun k => k ≤ L.length ∧ ∀ j, j < k → s.slots[(L[j]!).toNat]!.set = true) (fun k => L.length - k) (0) ⟨Nat.zero_le _, fun j h => absurd h (by omega)⟩ rfl rfl (by repeat' (first|exact trivial|refine And.intro rfl ?_)) (by repeat' (exact trivial)) ?_
 rintro k ⟨hk, hall⟩
 by_cases hkn : k < L.length
 ·have hmk := hmem k hkn
  repeat' (first|(apply aK;first|(apply aE;rfl;rfl)|(first|(apply cV;(case hx|hH => rfl);(case hf|hg|hα => infer_instance);(case hk => omega);(case hc|hN => rfl))|(apply aJ;rfl;rfl;rfl;rfl))|(apply aD;rfl;rfl;rfl)|(first|(apply bR;rfl;rfl;omega;rfl)|(apply aS;rfl;rfl;rfl;rfl))|(apply aC;rfl;rfl)|(first|(apply a7;(case hx|hi => rfl);(case hm => (assumption));(case hml => (rfl));(case hα | hf|hg => infer_instance);(case hN => rfl))|(apply cR;rfl;rfl;(omega);rfl))|(apply aF;kernel_rfl)|(apply cF;rfl;rfl)|(apply bV;rfl;rfl;rfl))|(apply aL;first|apply aH|apply aB|(apply aN;rfl;all_goals intro hc;have hq:=hc;(try simp only [cH] at hq);try exfalso;omega)|apply aM|apply aR|apply aP)|with_reducible apply aA|with_reducible apply bH|with_reducible apply aW|with_reducible apply cX)
  ·have hu : dB ts s x = true := (dR htl).2 ⟨L[k]!, by rw [← hL]; exact b9 _ _ hkn, by assumption⟩
   rw [v7 hu]
   (refine aO rfl ?_; refine bY () trivial ?_ ⟨.inr (Eq.trans (b := some _) rfl ?_), ⟨.inr (Eq.trans (b := some _) rfl ?_), ⟨.inr (Eq.trans (b := some _) rfl ?_), trivial⟩⟩⟩)
   ·rfl
   ·rfl
   ·rfl
   ·rfl
  ·(apply dV (k + 1); focus (refine Le.ren [(3, 3)] rfl (by decide) ?_ ?_ <;> repeat' (first | exact trivial | refine And.intro ⟨_, rfl, ?_⟩ ?_ | refine And.intro ⟨_, _, rfl, rfl, ?_⟩ ?_ | exact Or.inr rfl | refine Or.inl ⟨?_, (by first | rfl | exact aZ _ _ | exact Pur.pf)⟩ | refine Or.inr (All2.cons ?_ ?_) | refine All2.cons ?_ ?_ | exact All2.nil | rfl)))
   ·refine ⟨by omega, fun j hj => ?_⟩
    rcases Nat.lt_or_ge j k with h|h
    ·exact hall j h
    ·rw [show j = k by omega]; assumption
   ·omega
 ·have hu : dB ts s x = false := by
   cases q : dB ts s x with
   | false => rfl
   | true =>
    obtain ⟨v, hv, hs⟩ := (dR htl).1 q
    rw [← hL] at hv
    obtain ⟨j, hj, e⟩ := List.getElem_of_mem hv
    have h1 := hall j (by omega)
    rw [cK _ _ hj, e, hs] at h1;cases h1
  rw [rT hu]
  have hml := hm.l
  have hnc := Cx s.cells hm x.n
  by_cases h2 : s.cells.length = 200
  ·rw [if_neg (by omega)] at hnc
   have hd : dF ts s x = (s, 1) := by unfold dF;rw [if_neg (show ¬ x.op = 1 by omega), if_pos ho, if_pos h2]
   rw [hd]
   repeat' (first|(apply aK;first|((with_reducible apply aI (k := 153));(case ha => rfl);(case h => exact hnc);(case hp => (exact Pur.pf));(case hN => rfl))|(apply aE;rfl;rfl)|(apply aJ;rfl;rfl;rfl;rfl)|(apply aD;rfl;rfl;rfl)|(apply aS;rfl;rfl;rfl;rfl)|(apply aC;rfl;rfl)|(apply aF;kernel_rfl)|(apply cF;rfl;rfl)|(apply bV;rfl;rfl;rfl)|(apply bB;rfl;rfl)|(apply b0;rfl;rfl;rfl)|(apply aV;rfl;rfl;rfl;rfl;rfl;(decide);(exact (rfl:_=[_, _]))))|(apply aL;first|apply aH|apply aB|(apply bZ;kernel_rfl)|(apply bU;rfl;(rfl))|(apply aN;rfl;all_goals intro hc;have hq:=hc;(try simp only [cH] at hq);try exfalso;omega)|apply aM|apply bI|apply aP)|with_reducible apply aA|with_reducible apply bH|with_reducible apply bJ|with_reducible apply cX|with_reducible apply bG)
   (refine aO rfl ?_; refine bY () trivial ?_ ⟨.inr (Eq.trans (b := some _) rfl ?_), ⟨.inr (Eq.trans (b := some _) rfl ?_), ⟨.inr (Eq.trans (b := some _) rfl ?_), trivial⟩⟩⟩)
   ·rfl
   ·rfl
   ·rfl
   ·rfl
  ·rw [if_pos (by omega)] at hnc
   have hp := nR ts bd pts ⟨s.slots, s.cells ++ [pX x.n], s.read⟩ x.x ⟨true, 0, ⟨s.cells.length, 0⟩⟩ (hm.nw hn (by omega)) hsl hx
   have hd : dF ts s x = dN ts ⟨s.slots, s.cells ++ [pX x.n], s.read⟩ x.x.toNat ⟨true, 0, ⟨s.cells.length, 0⟩⟩ := by unfold dF;rw [if_neg (show ¬ x.op = 1 by omega), if_pos ho, if_neg h2]
   rw [hd]
   repeat' (first|(apply aK;first|((with_reducible apply aI (k := 153));(case ha => rfl);(case h => exact hnc);(case hp => (exact Pur.pf));(case hN => rfl))|((apply kV (ts := ts) (bd := bd) (pts := pts) (s := ⟨s.slots, s.cells ++ [pX x.n], s.read⟩) (v := x.x) (y := ⟨true, 0, ⟨s.cells.length, 0⟩⟩));(case ha0|ha1|ha2|hH0|hH1|hH2|hdd => rfl);(case hmc => exact hp);(case hM|hN => rfl))|(apply aE;rfl;rfl)|(first|(apply aJ;rfl;rfl;rfl;rfl)|(apply aU;rfl;rfl;(exact (rfl:_=[_, _]));rfl;rfl;rfl))|(apply aD;rfl;rfl;rfl)|(apply aS;rfl;rfl;rfl;rfl)|(apply aC;rfl;rfl)|(apply aF;kernel_rfl)|(apply bW;rfl;(exact (rfl:_=some [_, _, _, _]));(exact (rfl:_=[_, _, _, _]));rfl)|(apply cF;rfl;rfl)|(apply bV;rfl;rfl;rfl)|(apply bB;rfl;rfl)|(apply b0;rfl;rfl;rfl)|(apply aV;rfl;rfl;rfl;rfl;rfl;(case hl => (simp;done));(first|exact (rfl:_=[_, _])|exact (rfl:_=[_, _, _, _]))))|(apply aL;first|apply aH|apply aB|(apply bZ;kernel_rfl)|(apply cG;rfl;(rfl))|(apply aN;rfl;all_goals intro hc;have hq:=hc;(try simp only [cH] at hq);try exfalso;omega)|apply aM|apply aR|apply bI|apply aP)|with_reducible apply aA|with_reducible apply bH|with_reducible apply bJ|with_reducible apply cX|with_reducible apply bG)
   (refine aO rfl ?_; refine bY () trivial ?_ ⟨.inr (Eq.trans (b := some _) rfl ?_), ⟨.inr (Eq.trans (b := some _) rfl ?_), ⟨.inr (Eq.trans (b := some _) rfl ?_), trivial⟩⟩⟩)
   ·rfl
   ·rfl
   ·rfl
   ·rfl
theorem MT (ts:List Int) (bd:List AL.Stmt) (pts:List Pnt) (s:Mc) (x:Pnt) (htl:ts.length ≤ 6) (hm:OkM s.cells) (hsl:s.slots.length = ts.length) (ho:x.op = 3) (hx:0 ≤ x.x ∧ x.x < ts.length) (hy:0 ≤ x.y ∧ x.y < ts.length):MC Tryz.prog 120 [.optr 0 0,hG x] [(0,some (mO ts bd pts 1 2 s)),(1,some (flat e5 s.slots)),(2,some (flat cI s.read))] 3 (fun _:Unit => True) (fun _ => iv (e7 ts s x).2) (fun _ => [(0,some (mO ts bd pts 1 2 (e7 ts s x).1)),(1,some (flat e5 (e7 ts s x).1.slots)),(2,some (flat cI (e7 ts s x).1.read))]) := by
 have hus := iS ts bd pts x htl
 have hsm : Sm (wS ts x [1, 2, 3]) := dL (by omega)
 obtain ⟨L, hL⟩ : ∃ L, L = cQ (wS ts x [1, 2, 3]) := ⟨_, rfl⟩
 have hLl : L.length ≤ 62 := by rw [hL]; exact dW _
 have hmem : ∀ k, k < L.length → 0 ≤ L[k]! ∧ L[k]! < s.slots.length := fun k hk => by
  rw [hsl]; exact iC (by rw [← hL]; exact b9 _ _ hk)
 (refine cC Tryz.func120 rfl (by simp [Tryz.ntmps120]) ?_; rw [Tryz.ntmps120])
 repeat' (first|(apply aK;first|((with_reducible apply aI (k := 151));(case ha => rfl);(case h => exact hus);(case hp => (exact Pur.pf));(case hN => rfl))|(apply aE;rfl;rfl)|(first|(apply aJ;rfl;rfl;rfl;rfl)|(apply aU;rfl;rfl;(exact (rfl:_=[_, _, _, _, _]));rfl;rfl;rfl))|(apply aD;rfl;rfl;rfl)|(apply aC;rfl;rfl)|((with_reducible apply aI (k := 100));(case ha => rfl);(case h => (apply g6 <;> (assumption)));(case hp => (rfl));(case hN => rfl))|(apply a8;rfl;rfl;rfl)|(apply aF;kernel_rfl)|(apply bV;rfl;rfl;rfl)|(apply bT;rfl;rfl;rfl;rfl))|(apply aL;first|apply aH|apply aB|(apply bZ;kernel_rfl)|apply aM)|with_reducible apply aA)
 rw [← hL]
 refine bF (σ := Nat) [0, 3, 26, 27] [(0, _), (3, _), (26, _), (27, _)] [0, 1, 2, 3] [(0, some _), (1, some _), (2, some _), (3, some _)] (fun k => [(28, iv (k : Int))]) (fun k => []) (fun k => k ≤ L.length ∧ ∀ j, j < k → s.slots[(L[j]!).toNat]!.set = true) (fun k => L.length - k) (0) ⟨Nat.zero_le _, fun j h => absurd h (by omega)⟩ rfl rfl (by repeat' (first|exact trivial|refine And.intro rfl ?_)) (by repeat' (exact trivial)) ?_
 rintro k ⟨hk, hall⟩
 by_cases hkn : k < L.length
 ·have hmk := hmem k hkn
  repeat' (first|(apply aK;first|(apply aE;rfl;rfl)|(first|(apply cV;(case hx|hH => rfl);(case hf|hg|hα => infer_instance);(case hk => omega);(case hc|hN => rfl))|(apply aJ;rfl;rfl;rfl;rfl))|(apply aD;rfl;rfl;rfl)|(first|(apply bR;rfl;rfl;omega;rfl)|(apply aS;rfl;rfl;rfl;rfl))|(apply aC;rfl;rfl)|(first|(apply a7;(case hx|hi => rfl);(case hm => (assumption));(case hml => (rfl));(case hα | hf|hg => infer_instance);(case hN => rfl))|(apply cR;rfl;rfl;(omega);rfl))|(apply aF;kernel_rfl)|(apply cF;rfl;rfl)|(apply bV;rfl;rfl;rfl))|(apply aL;first|apply aH|apply aB|(apply aN;rfl;all_goals intro hc;have hq:=hc;(try simp only [cH] at hq);try exfalso;omega)|apply aM|apply aR|apply aP)|with_reducible apply aA|with_reducible apply bH|with_reducible apply aW|with_reducible apply cX)
  ·have hu : dB ts s x = true := (dR htl).2 ⟨L[k]!, by rw [← hL]; exact b9 _ _ hkn, by assumption⟩
   rw [v7 hu]
   (refine aO rfl ?_; refine bY () trivial ?_ ⟨.inr (Eq.trans (b := some _) rfl ?_), ⟨.inr (Eq.trans (b := some _) rfl ?_), ⟨.inr (Eq.trans (b := some _) rfl ?_), trivial⟩⟩⟩)
   ·rfl
   ·rfl
   ·rfl
   ·rfl
  ·(apply dV (k + 1); focus (refine Le.ren [(3, 3)] rfl (by decide) ?_ ?_ <;> repeat' (first | exact trivial | refine And.intro ⟨_, rfl, ?_⟩ ?_ | refine And.intro ⟨_, _, rfl, rfl, ?_⟩ ?_ | exact Or.inr rfl | refine Or.inl ⟨?_, (by first | rfl | exact aZ _ _ | exact Pur.pf)⟩ | refine Or.inr (All2.cons ?_ ?_) | refine All2.cons ?_ ?_ | exact All2.nil | rfl)))
   ·refine ⟨by omega, fun j hj => ?_⟩
    rcases Nat.lt_or_ge j k with h|h
    ·exact hall j h
    ·rw [show j = k by omega]; assumption
   ·omega
 ·have hu : dB ts s x = false := by
   cases q : dB ts s x with
   | false => rfl
   | true =>
    obtain ⟨v, hv, hs⟩ := (dR htl).1 q
    rw [← hL] at hv
    obtain ⟨j, hj, e⟩ := List.getElem_of_mem hv
    have h1 := hall j (by omega)
    rw [cK _ _ hj, e, hs] at h1;cases h1
  rw [rT hu]
  have hd : dF ts s x = dN ts (if Ea ts[x.y.toNat]! = true then ⟨s.slots.set x.y.toNat jZ, s.cells, s.read⟩ else s) x.x.toNat s.slots[x.y.toNat]! := by unfold dF;rw [if_neg (show ¬ x.op = 1 by omega), if_neg (show ¬ x.op = 2 by omega), if_pos ho]
  rw [hd]
  have htk := y9 ts bd pts x.y hy
  by_cases hk : Ea ts[x.y.toNat]! = true
  ·rw [hk] at htk
   rw [if_pos hk]
   have hp := nR ts bd pts ⟨s.slots.set x.y.toNat jZ, s.cells, s.read⟩ x.x s.slots[x.y.toNat]! hm (by show (s.slots.set _ _).length = _; rw [List.length_set]; exact hsl) hx
   repeat' (first|(apply aK;first|((with_reducible apply aI (k := 154));(case ha => rfl);(case h => exact htk);(case hp => (exact Pur.pf));(case hN => rfl))|((apply kV (ts := ts) (bd := bd) (pts := pts) (s := ⟨s.slots.set x.y.toNat jZ, s.cells, s.read⟩) (v := x.x) (y := s.slots[x.y.toNat]!));(case ha0|ha1|ha2|hH0|hH1|hH2|hdd => rfl);(case hmc => exact hp);(case hM|hN => rfl))|(apply aE;rfl;rfl)|(first|(apply iA;(case hx|hH => rfl);(case hf|hg|hα => infer_instance);(case hk => omega);(case h0|hN => rfl))|(apply aJ;rfl;rfl;rfl;rfl)|(apply aU;rfl;rfl;(exact (rfl:_=[_, _, _, _]));rfl;rfl;rfl))|(apply aD;rfl;rfl;rfl)|(apply aS;rfl;rfl;rfl;rfl)|(apply aC;rfl;rfl)|(apply cR;rfl;rfl;(assumption);rfl)|(apply aF;kernel_rfl)|(apply bW;rfl;(exact (rfl:_=some [_, _, _, _]));(exact (rfl:_=[_, _, _, _]));rfl)|(apply bV;rfl;rfl;rfl)|(apply bB;rfl;rfl)|(apply aV;rfl;rfl;rfl;rfl;rfl;(case hl => (first|(rw [aQ]; simp only [gN] <;> omega)|(simp;done)));(first|exact Dw (by (omega))|exact (rfl:_=[_, _, _, _]))))|(apply aL;first|apply aH|apply aB|(apply bZ;kernel_rfl)|(apply bU;rfl;(rfl))|(apply aN;rfl;all_goals intro hc;have hq:=hc;(try simp only [cH] at hq);try exfalso;omega)|apply aM|apply bI|apply aP)|with_reducible apply aA|with_reducible apply bH|with_reducible apply bJ|with_reducible apply cX|with_reducible apply bG)
   (refine aO rfl ?_; refine bY () trivial ?_ ⟨.inr (Eq.trans (b := some _) rfl ?_), ⟨.inr (Eq.trans (b := some _) rfl ?_), ⟨.inr (Eq.trans (b := some _) rfl ?_), trivial⟩⟩⟩)
   ·rfl
   ·rfl
   ·rfl
   ·rfl
  ·have hk2 : Ea ts[x.y.toNat]! = false := by simpa using hk
   rw [hk2] at htk
   rw [if_neg hk]
   have hp := nR ts bd pts s x.x s.slots[x.y.toNat]! hm hsl hx
   repeat' (first|(apply aK;first|((with_reducible apply aI (k := 154));(case ha => rfl);(case h => exact htk);(case hp => (exact Pur.pf));(case hN => rfl))|((apply kV (ts := ts) (bd := bd) (pts := pts) (s := s) (v := x.x) (y := s.slots[x.y.toNat]!));(case ha0|ha1|ha2|hH0|hH1|hH2|hdd => rfl);(case hmc => exact hp);(case hM|hN => rfl))|(apply aE;rfl;rfl)|(first|(apply iA;(case hx|hH => rfl);(case hf|hg|hα => infer_instance);(case hk => omega);(case h0|hN => rfl))|(apply aJ;rfl;rfl;rfl;rfl)|(apply aU;rfl;rfl;(exact (rfl:_=[_, _, _, _]));rfl;rfl;rfl))|(apply aD;rfl;rfl;rfl)|(apply aS;rfl;rfl;rfl;rfl)|(apply aC;rfl;rfl)|(apply cR;rfl;rfl;(assumption);rfl)|(apply aF;kernel_rfl)|(apply bV;rfl;rfl;rfl)|(apply bB;rfl;rfl)|(apply aV;rfl;rfl;rfl;rfl;rfl;(case hl => (simp;done));(exact (rfl:_=[_, _, _, _]))))|(apply aL;first|apply aH|apply aB|(apply bZ;kernel_rfl)|(apply cG;rfl;(rfl))|(apply aN;rfl;all_goals intro hc;have hq:=hc;(try simp only [cH] at hq);try exfalso;omega)|apply aM|apply aR|apply bI|apply aP)|with_reducible apply aA|with_reducible apply bH|with_reducible apply bJ|with_reducible apply cX|with_reducible apply bG)
   (refine aO rfl ?_; refine bY () trivial ?_ ⟨.inr (Eq.trans (b := some _) rfl ?_), ⟨.inr (Eq.trans (b := some _) rfl ?_), ⟨.inr (Eq.trans (b := some _) rfl ?_), trivial⟩⟩⟩)
   ·rfl
   ·rfl
   ·rfl
   ·rfl
theorem KA (ts:List Int) (bd:List AL.Stmt) (pts:List Pnt) (s:Mc) (x:Pnt) (htl:ts.length ≤ 6) (hm:OkM s.cells) (hsl:s.slots.length = ts.length) (ho:x.op = 4 ∨ x.op = 5) (hx:0 ≤ x.x ∧ x.x < ts.length) (hy:0 ≤ x.y ∧ x.y < ts.length):MC Tryz.prog 120 [.optr 0 0,hG x] [(0,some (mO ts bd pts 1 2 s)),(1,some (flat e5 s.slots)),(2,some (flat cI s.read))] 3 (fun _:Unit => True) (fun _ => iv (e7 ts s x).2) (fun _ => [(0,some (mO ts bd pts 1 2 (e7 ts s x).1)),(1,some (flat e5 (e7 ts s x).1.slots)),(2,some (flat cI (e7 ts s x).1.read))]) := by
 have hus := iS ts bd pts x htl
 have hsm : Sm (wS ts x [1, 2, 3]) := dL (by omega)
 obtain ⟨L, hL⟩ : ∃ L, L = cQ (wS ts x [1, 2, 3]) := ⟨_, rfl⟩
 have hLl : L.length ≤ 62 := by rw [hL]; exact dW _
 have hmem : ∀ k, k < L.length → 0 ≤ L[k]! ∧ L[k]! < s.slots.length := fun k hk => by
  rw [hsl]; exact iC (by rw [← hL]; exact b9 _ _ hk)
 (refine cC Tryz.func120 rfl (by simp [Tryz.ntmps120]) ?_; rw [Tryz.ntmps120])
 repeat' (first|(apply aK;first|((with_reducible apply aI (k := 151));(case ha => rfl);(case h => exact hus);(case hp => (exact Pur.pf));(case hN => rfl))|(apply aE;rfl;rfl)|(first|(apply aJ;rfl;rfl;rfl;rfl)|(apply aU;rfl;rfl;(exact (rfl:_=[_, _, _, _, _]));rfl;rfl;rfl))|(apply aD;rfl;rfl;rfl)|(apply aC;rfl;rfl)|((with_reducible apply aI (k := 100));(case ha => rfl);(case h => (apply g6 <;> (assumption)));(case hp => (rfl));(case hN => rfl))|(apply a8;rfl;rfl;rfl)|(apply aF;kernel_rfl)|(apply bV;rfl;rfl;rfl)|(apply bT;rfl;rfl;rfl;rfl))|(apply aL;first|apply aH|apply aB|(apply bZ;kernel_rfl)|apply aM)|with_reducible apply aA)
 rw [← hL]
 refine bF (σ := Nat) [0, 3, 26, 27] [(0, _), (3, _), (26, _), (27, _)] [0, 1, 2, 3] [(0, some _), (1, some _), (2, some _), (3, some _)] (fun k => [(28, iv (k : Int))]) (fun k => []) (fun k => k ≤ L.length ∧ ∀ j, j < k → s.slots[(L[j]!).toNat]!.set = true) (fun k => L.length - k) (0) ⟨Nat.zero_le _, fun j h => absurd h (by omega)⟩ rfl rfl (by repeat' (first|exact trivial|refine And.intro rfl ?_)) (by repeat' (exact trivial)) ?_
 rintro k ⟨hk, hall⟩
 by_cases hkn : k < L.length
 ·have hmk := hmem k hkn
  repeat' (first|(apply aK;first|(apply aE;rfl;rfl)|(first|(apply cV;(case hx|hH => rfl);(case hf|hg|hα => infer_instance);(case hk => omega);(case hc|hN => rfl))|(apply aJ;rfl;rfl;rfl;rfl))|(apply aD;rfl;rfl;rfl)|(first|(apply bR;rfl;rfl;omega;rfl)|(apply aS;rfl;rfl;rfl;rfl))|(apply aC;rfl;rfl)|(first|(apply a7;(case hx|hi => rfl);(case hm => (assumption));(case hml => (rfl));(case hα | hf|hg => infer_instance);(case hN => rfl))|(apply cR;rfl;rfl;(omega);rfl))|(apply aF;kernel_rfl)|(apply cF;rfl;rfl)|(apply bV;rfl;rfl;rfl))|(apply aL;first|apply aH|apply aB|(apply aN;rfl;all_goals intro hc;have hq:=hc;(try simp only [cH] at hq);try exfalso;omega)|apply aM|apply aR|apply aP)|with_reducible apply aA|with_reducible apply bH|with_reducible apply aW|with_reducible apply cX)
  ·have hu : dB ts s x = true := (dR htl).2 ⟨L[k]!, by rw [← hL]; exact b9 _ _ hkn, by assumption⟩
   rw [v7 hu]
   (refine aO rfl ?_; refine bY () trivial ?_ ⟨.inr (Eq.trans (b := some _) rfl ?_), ⟨.inr (Eq.trans (b := some _) rfl ?_), ⟨.inr (Eq.trans (b := some _) rfl ?_), trivial⟩⟩⟩)
   ·rfl
   ·rfl
   ·rfl
   ·rfl
  ·(apply dV (k + 1); focus (refine Le.ren [(3, 3)] rfl (by decide) ?_ ?_ <;> repeat' (first | exact trivial | refine And.intro ⟨_, rfl, ?_⟩ ?_ | refine And.intro ⟨_, _, rfl, rfl, ?_⟩ ?_ | exact Or.inr rfl | refine Or.inl ⟨?_, (by first | rfl | exact aZ _ _ | exact Pur.pf)⟩ | refine Or.inr (All2.cons ?_ ?_) | refine All2.cons ?_ ?_ | exact All2.nil | rfl)))
   ·refine ⟨by omega, fun j hj => ?_⟩
    rcases Nat.lt_or_ge j k with h|h
    ·exact hall j h
    ·rw [show j = k by omega]; assumption
   ·omega
 ·have hu : dB ts s x = false := by
   cases q : dB ts s x with
   | false => rfl
   | true =>
    obtain ⟨v, hv, hs⟩ := (dR htl).1 q
    rw [← hL] at hv
    obtain ⟨j, hj, e⟩ := List.getElem_of_mem hv
    have h1 := hall j (by omega)
    rw [cK _ _ hj, e, hs] at h1;cases h1
  rw [rT hu]
  have hle := I1 s.cells hm s.slots[x.y.toNat]!.ptr (decide (x.op = 5))
  by_cases hk : rX s.cells s.slots[x.y.toNat]!.ptr (decide (x.op = 5)) = 0
  ·have hp := nR ts bd pts ⟨s.slots, nX s.cells s.slots[x.y.toNat]!.ptr (decide (x.op = 5)), s.read⟩ x.x ⟨true, 0, BT s.cells s.slots[x.y.toNat]!.ptr (decide (x.op = 5))⟩ (hm.ln _ _) hsl hx
   have hd : dF ts s x = dN ts ⟨s.slots, nX s.cells s.slots[x.y.toNat]!.ptr (decide (x.op = 5)), s.read⟩ x.x.toNat ⟨true, 0, BT s.cells s.slots[x.y.toNat]!.ptr (decide (x.op = 5))⟩ := by unfold dF;rw [if_neg (show ¬ x.op = 1 by omega), if_neg (show ¬ x.op = 2 by omega), if_neg (show ¬ x.op = 3 by omega), if_pos ho, if_pos hk]
   rw [hd]
   rw [hk] at hle
   repeat' (first|(apply aK;first|(apply jO;(case hx|hH => rfl);(case hf|hg|hα => infer_instance);(case hk => omega);(case hj => decide);(case hc => exact (rfl:_=[_, _]));(case h0|hN => rfl))|((with_reducible apply aI (k := 155));(case ha => rfl);(case h => exact hle);(case hp => (exact Pur.pf));(case hN => rfl))|((apply kV (ts := ts) (bd := bd) (pts := pts) (s := ⟨s.slots, nX s.cells s.slots[x.y.toNat]!.ptr (decide (x.op = 5)), s.read⟩) (v := x.x) (y := ⟨true, 0, BT s.cells s.slots[x.y.toNat]!.ptr (decide (x.op = 5))⟩));(case ha0|ha1|ha2|hH0|hH1|hH2|hdd => rfl);(case hmc => exact hp);(case hM|hN => rfl))|(apply aE;rfl;rfl)|(first|(apply aJ;rfl;rfl;rfl;rfl)|(apply aU;rfl;rfl;(exact (rfl:_=[_, _]));rfl;rfl;rfl))|(apply aD;rfl;rfl;rfl)|(apply aS;rfl;rfl;rfl;rfl)|(apply aC;rfl;rfl)|(apply cR;rfl;rfl;(assumption);rfl)|(apply aF;kernel_rfl)|(apply bW;rfl;(exact (rfl:_=some [_, _, _, _]));(exact (rfl:_=[_, _, _, _]));rfl)|(apply bV;rfl;rfl;rfl)|(apply bB;rfl;rfl)|(apply b0;rfl;rfl;rfl)|(apply aV;rfl;rfl;rfl;rfl;rfl;(case hl => (simp;done));(first|exact (rfl:_=[_, _])|exact (rfl:_=[_, _, _, _]))))|(apply aL;first|apply aH|apply aB|(apply bZ;kernel_rfl)|(apply bU;rfl;(assumption))|(apply cG;rfl;(rfl))|(apply aN;rfl;all_goals intro hc;have hq:=hc;(try simp only [cH] at hq);try exfalso;omega)|apply aM|apply aR|apply bI|apply aP)|with_reducible apply aA|with_reducible apply bH|with_reducible apply bJ|with_reducible apply cX|with_reducible apply bG)
   all_goals (
    (refine aO rfl ?_; refine bY () trivial ?_ ⟨.inr (Eq.trans (b := some _) rfl ?_), ⟨.inr (Eq.trans (b := some _) rfl ?_), ⟨.inr (Eq.trans (b := some _) rfl ?_), trivial⟩⟩⟩)
    ·rfl
    ·rfl
    ·rfl
    ·rfl)
  ·have hd : dF ts s x = (s, jI (rX s.cells s.slots[x.y.toNat]!.ptr (decide (x.op = 5)))) := by unfold dF; rw [if_neg (show ¬ x.op = 1 by omega), if_neg (show ¬ x.op = 2 by omega), if_neg (show ¬ x.op = 3 by omega), if_pos ho, if_neg hk]
   rw [hd]
   repeat' (first|(apply aK;first|(apply jO;(case hx|hH => rfl);(case hf|hg|hα => infer_instance);(case hk => omega);(case hj => decide);(case hc => exact (rfl:_=[_, _]));(case h0|hN => rfl))|((with_reducible apply aI (k := 155));(case ha => rfl);(case h => exact hle);(case hp => (exact Pur.pf));(case hN => rfl))|(apply aE;rfl;rfl)|(apply aJ;rfl;rfl;rfl;rfl)|(apply aD;rfl;rfl;rfl)|(apply aS;rfl;rfl;rfl;rfl)|(apply aC;rfl;rfl)|(apply cR;rfl;rfl;(assumption);rfl)|((with_reducible apply aI (k := 156));(case ha => rfl);(case h => (apply s8 <;> (fail)));(case hp => (rfl));(case hN => rfl))|(apply aF;kernel_rfl)|(apply bV;rfl;rfl;rfl)|(apply bB;rfl;rfl)|(apply b0;rfl;rfl;rfl)|(apply aV;rfl;rfl;rfl;rfl;rfl;(case hl => (simp;done));(exact (rfl:_=[_, _]))))|(apply aL;first|apply aH|apply aB|(apply bZ;kernel_rfl)|(apply bU;rfl;(assumption))|(apply aN;rfl;all_goals intro hc;have hq:=hc;(try simp only [cH] at hq);try exfalso;omega)|apply aM|apply aR|apply bI|apply aP)|with_reducible apply aA|with_reducible apply bH|with_reducible apply bJ|with_reducible apply cX|with_reducible apply bG)
   all_goals (
    (refine aO rfl ?_; refine bY () trivial ?_ ⟨.inr (Eq.trans (b := some _) rfl ?_), ⟨.inr (Eq.trans (b := some _) rfl ?_), ⟨.inr (Eq.trans (b := some _) rfl ?_), trivial⟩⟩⟩)
    ·rfl
    ·rfl
    ·rfl
    ·rfl)
theorem MV (ts:List Int) (bd:List AL.Stmt) (pts:List Pnt) (s:Mc) (x:Pnt) (htl:ts.length ≤ 6) (hm:OkM s.cells) (hsl:s.slots.length = ts.length) (ho:x.op = 6) (hrl:s.read.length ≤ 1000) (hx:0 ≤ x.x ∧ x.x < ts.length) (hy:0 ≤ x.y ∧ x.y < ts.length) (hz:¬ cS s.cells s.slots[x.y.toNat]!.ptr false = 0):MC Tryz.prog 120 [.optr 0 0,hG x] [(0,some (mO ts bd pts 1 2 s)),(1,some (flat e5 s.slots)),(2,some (flat cI s.read))] 3 (fun _:Unit => True) (fun _ => iv (e7 ts s x).2) (fun _ => [(0,some (mO ts bd pts 1 2 (e7 ts s x).1)),(1,some (flat e5 (e7 ts s x).1.slots)),(2,some (flat cI (e7 ts s x).1.read))]) := by
 have hus := iS ts bd pts x htl
 have hsm : Sm (wS ts x [1, 2, 3]) := dL (by omega)
 obtain ⟨L, hL⟩ : ∃ L, L = cQ (wS ts x [1, 2, 3]) := ⟨_, rfl⟩
 have hLl : L.length ≤ 62 := by rw [hL]; exact dW _
 have hmem : ∀ k, k < L.length → 0 ≤ L[k]! ∧ L[k]! < s.slots.length := fun k hk => by
  rw [hsl]; exact iC (by rw [← hL]; exact b9 _ _ hk)
 (refine cC Tryz.func120 rfl (by simp [Tryz.ntmps120]) ?_; rw [Tryz.ntmps120])
 repeat' (first|(apply aK;first|((with_reducible apply aI (k := 151));(case ha => rfl);(case h => exact hus);(case hp => (exact Pur.pf));(case hN => rfl))|(apply aE;rfl;rfl)|(first|(apply aJ;rfl;rfl;rfl;rfl)|(apply aU;rfl;rfl;(exact (rfl:_=[_, _, _, _, _]));rfl;rfl;rfl))|(apply aD;rfl;rfl;rfl)|(apply aC;rfl;rfl)|((with_reducible apply aI (k := 100));(case ha => rfl);(case h => (apply g6 <;> (assumption)));(case hp => (rfl));(case hN => rfl))|(apply a8;rfl;rfl;rfl)|(apply aF;kernel_rfl)|(apply bV;rfl;rfl;rfl)|(apply bT;rfl;rfl;rfl;rfl))|(apply aL;first|apply aH|apply aB|(apply bZ;kernel_rfl)|apply aM)|with_reducible apply aA)
 rw [← hL]
 refine bF (σ := Nat) [0, 3, 26, 27] [(0, _), (3, _), (26, _), (27, _)] [0, 1, 2, 3] [(0, some _), (1, some _), (2, some _), (3, some _)] (fun k => [(28, iv (k : Int))]) (fun k => []) (fun k => k ≤ L.length ∧ ∀ j, j < k → s.slots[(L[j]!).toNat]!.set = true) (fun k => L.length - k) (0) ⟨Nat.zero_le _, fun j h => absurd h (by omega)⟩ rfl rfl (by repeat' (first|exact trivial|refine And.intro rfl ?_)) (by repeat' (exact trivial)) ?_
 rintro k ⟨hk, hall⟩
 by_cases hkn : k < L.length
 ·have hmk := hmem k hkn
  repeat' (first|(apply aK;first|(apply aE;rfl;rfl)|(first|(apply cV;(case hx|hH => rfl);(case hf|hg|hα => infer_instance);(case hk => omega);(case hc|hN => rfl))|(apply aJ;rfl;rfl;rfl;rfl))|(apply aD;rfl;rfl;rfl)|(first|(apply bR;rfl;rfl;omega;rfl)|(apply aS;rfl;rfl;rfl;rfl))|(apply aC;rfl;rfl)|(first|(apply a7;(case hx|hi => rfl);(case hm => (assumption));(case hml => (rfl));(case hα | hf|hg => infer_instance);(case hN => rfl))|(apply cR;rfl;rfl;(omega);rfl))|(apply aF;kernel_rfl)|(apply cF;rfl;rfl)|(apply bV;rfl;rfl;rfl))|(apply aL;first|apply aH|apply aB|(apply aN;rfl;all_goals intro hc;have hq:=hc;(try simp only [cH] at hq);try exfalso;omega)|apply aM|apply aR|apply aP)|with_reducible apply aA|with_reducible apply bH|with_reducible apply aW|with_reducible apply cX)
  ·have hu : dB ts s x = true := (dR htl).2 ⟨L[k]!, by rw [← hL]; exact b9 _ _ hkn, by assumption⟩
   rw [v7 hu]
   (refine aO rfl ?_; refine bY () trivial ?_ ⟨.inr (Eq.trans (b := some _) rfl ?_), ⟨.inr (Eq.trans (b := some _) rfl ?_), ⟨.inr (Eq.trans (b := some _) rfl ?_), trivial⟩⟩⟩)
   ·rfl
   ·rfl
   ·rfl
   ·rfl
  ·(apply dV (k + 1); focus (refine Le.ren [(3, 3)] rfl (by decide) ?_ ?_ <;> repeat' (first | exact trivial | refine And.intro ⟨_, rfl, ?_⟩ ?_ | refine And.intro ⟨_, _, rfl, rfl, ?_⟩ ?_ | exact Or.inr rfl | refine Or.inl ⟨?_, (by first | rfl | exact aZ _ _ | exact Pur.pf)⟩ | refine Or.inr (All2.cons ?_ ?_) | refine All2.cons ?_ ?_ | exact All2.nil | rfl)))
   ·refine ⟨by omega, fun j hj => ?_⟩
    rcases Nat.lt_or_ge j k with h|h
    ·exact hall j h
    ·rw [show j = k by omega]; assumption
   ·omega
 ·have hu : dB ts s x = false := by
   cases q : dB ts s x with
   | false => rfl
   | true =>
    obtain ⟨v, hv, hs⟩ := (dR htl).1 q
    rw [← hL] at hv
    obtain ⟨j, hj, e⟩ := List.getElem_of_mem hv
    have h1 := hall j (by omega)
    rw [cK _ _ hj, e, hs] at h1;cases h1
  rw [rT hu]
  have hrc := rM s.cells hm s.slots[x.y.toNat]!.ptr
  have hd : dF ts s x = (s, jI (cS s.cells s.slots[x.y.toNat]!.ptr false)) := by unfold dF;rw [if_neg (show ¬ x.op = 1 by omega), if_neg (show ¬ x.op = 2 by omega), if_neg (show ¬ x.op = 3 by omega), if_neg (show ¬ (x.op = 4 ∨ x.op = 5) by omega), if_pos ho, if_neg hz]
  rw [hd]
  repeat' (first|(apply aK;first|(apply jO;(case hx|hH => rfl);(case hf|hg|hα => infer_instance);(case hk => omega);(case hj => decide);(case hc => exact (rfl:_=[_, _]));(case h0|hN => rfl))|((with_reducible apply aI (k := 157));(case ha => rfl);(case h => exact hrc);(case hp => (exact Pur.pf));(case hN => rfl))|(apply aE;rfl;rfl)|(apply aJ;rfl;rfl;rfl;rfl)|(apply aD;rfl;rfl;rfl)|(apply aS;rfl;rfl;rfl;rfl)|(apply aC;rfl;rfl)|(apply cR;rfl;rfl;(assumption);rfl)|((with_reducible apply aI (k := 156));(case ha => rfl);(case h => (apply s8 <;> (fail)));(case hp => (rfl));(case hN => rfl))|(apply aF;kernel_rfl)|(apply bV;rfl;rfl;rfl)|(apply b0;rfl;rfl;rfl))|(apply aL;first|apply aH|apply aB|(apply bZ;kernel_rfl)|(apply aN;rfl;all_goals intro hc;have hq:=hc;(try simp only [cH] at hq);try exfalso;omega)|apply aM|apply bI|apply aP)|with_reducible apply aA|with_reducible apply bH|with_reducible apply bJ|with_reducible apply cX|with_reducible apply bG)
  (refine aO rfl ?_; refine bY () trivial ?_ ⟨.inr (Eq.trans (b := some _) rfl ?_), ⟨.inr (Eq.trans (b := some _) rfl ?_), ⟨.inr (Eq.trans (b := some _) rfl ?_), trivial⟩⟩⟩)
  ·rfl
  ·rfl
  ·rfl
  ·rfl
theorem MX (ts:List Int) (bd:List AL.Stmt) (pts:List Pnt) (s:Mc) (x:Pnt) (htl:ts.length ≤ 6) (hm:OkM s.cells) (hsl:s.slots.length = ts.length) (ho:x.op = 7) (hx:0 ≤ x.x ∧ x.x < ts.length) (hy:0 ≤ x.y ∧ x.y < ts.length):MC Tryz.prog 120 [.optr 0 0,hG x] [(0,some (mO ts bd pts 1 2 s)),(1,some (flat e5 s.slots)),(2,some (flat cI s.read))] 3 (fun _:Unit => True) (fun _ => iv (e7 ts s x).2) (fun _ => [(0,some (mO ts bd pts 1 2 (e7 ts s x).1)),(1,some (flat e5 (e7 ts s x).1.slots)),(2,some (flat cI (e7 ts s x).1.read))]) := by
 have hus := iS ts bd pts x htl
 have hsm : Sm (wS ts x [1, 2, 3]) := dL (by omega)
 obtain ⟨L, hL⟩ : ∃ L, L = cQ (wS ts x [1, 2, 3]) := ⟨_, rfl⟩
 have hLl : L.length ≤ 62 := by rw [hL]; exact dW _
 have hmem : ∀ k, k < L.length → 0 ≤ L[k]! ∧ L[k]! < s.slots.length := fun k hk => by
  rw [hsl]; exact iC (by rw [← hL]; exact b9 _ _ hk)
 (refine cC Tryz.func120 rfl (by simp [Tryz.ntmps120]) ?_; rw [Tryz.ntmps120])
 repeat' (first|(apply aK;first|((with_reducible apply aI (k := 151));(case ha => rfl);(case h => exact hus);(case hp => (exact Pur.pf));(case hN => rfl))|(apply aE;rfl;rfl)|(first|(apply aJ;rfl;rfl;rfl;rfl)|(apply aU;rfl;rfl;(exact (rfl:_=[_, _, _, _, _]));rfl;rfl;rfl))|(apply aD;rfl;rfl;rfl)|(apply aC;rfl;rfl)|((with_reducible apply aI (k := 100));(case ha => rfl);(case h => (apply g6 <;> (assumption)));(case hp => (rfl));(case hN => rfl))|(apply a8;rfl;rfl;rfl)|(apply aF;kernel_rfl)|(apply bV;rfl;rfl;rfl)|(apply bT;rfl;rfl;rfl;rfl))|(apply aL;first|apply aH|apply aB|(apply bZ;kernel_rfl)|apply aM)|with_reducible apply aA)
 rw [← hL]
 refine bF (σ := Nat) [0, 3, 26, 27] [(0, _), (3, _), (26, _), (27, _)] [0, 1, 2, 3] [(0, some _), (1, some _), (2, some _), (3, some _)] (fun k => [(28, iv (k : Int))]) (fun k => []) (fun k => k ≤ L.length ∧ ∀ j, j < k → s.slots[(L[j]!).toNat]!.set = true) (fun k => L.length - k) (0) ⟨Nat.zero_le _, fun j h => absurd h (by omega)⟩ rfl rfl (by repeat' (first|exact trivial|refine And.intro rfl ?_)) (by repeat' (exact trivial)) ?_
 rintro k ⟨hk, hall⟩
 by_cases hkn : k < L.length
 ·have hmk := hmem k hkn
  repeat' (first|(apply aK;first|(apply aE;rfl;rfl)|(first|(apply cV;(case hx|hH => rfl);(case hf|hg|hα => infer_instance);(case hk => omega);(case hc|hN => rfl))|(apply aJ;rfl;rfl;rfl;rfl))|(apply aD;rfl;rfl;rfl)|(first|(apply bR;rfl;rfl;omega;rfl)|(apply aS;rfl;rfl;rfl;rfl))|(apply aC;rfl;rfl)|(first|(apply a7;(case hx|hi => rfl);(case hm => (assumption));(case hml => (rfl));(case hα | hf|hg => infer_instance);(case hN => rfl))|(apply cR;rfl;rfl;(omega);rfl))|(apply aF;kernel_rfl)|(apply cF;rfl;rfl)|(apply bV;rfl;rfl;rfl))|(apply aL;first|apply aH|apply aB|(apply aN;rfl;all_goals intro hc;have hq:=hc;(try simp only [cH] at hq);try exfalso;omega)|apply aM|apply aR|apply aP)|with_reducible apply aA|with_reducible apply bH|with_reducible apply aW|with_reducible apply cX)
  ·have hu : dB ts s x = true := (dR htl).2 ⟨L[k]!, by rw [← hL]; exact b9 _ _ hkn, by assumption⟩
   rw [v7 hu]
   (refine aO rfl ?_; refine bY () trivial ?_ ⟨.inr (Eq.trans (b := some _) rfl ?_), ⟨.inr (Eq.trans (b := some _) rfl ?_), ⟨.inr (Eq.trans (b := some _) rfl ?_), trivial⟩⟩⟩)
   ·rfl
   ·rfl
   ·rfl
   ·rfl
  ·(apply dV (k + 1); focus (refine Le.ren [(3, 3)] rfl (by decide) ?_ ?_ <;> repeat' (first | exact trivial | refine And.intro ⟨_, rfl, ?_⟩ ?_ | refine And.intro ⟨_, _, rfl, rfl, ?_⟩ ?_ | exact Or.inr rfl | refine Or.inl ⟨?_, (by first | rfl | exact aZ _ _ | exact Pur.pf)⟩ | refine Or.inr (All2.cons ?_ ?_) | refine All2.cons ?_ ?_ | exact All2.nil | rfl)))
   ·refine ⟨by omega, fun j hj => ?_⟩
    rcases Nat.lt_or_ge j k with h|h
    ·exact hall j h
    ·rw [show j = k by omega]; assumption
   ·omega
 ·have hu : dB ts s x = false := by
   cases q : dB ts s x with
   | false => rfl
   | true =>
    obtain ⟨v, hv, hs⟩ := (dR htl).1 q
    rw [← hL] at hv
    obtain ⟨j, hj, e⟩ := List.getElem_of_mem hv
    have h1 := hall j (by omega)
    rw [cK _ _ hj, e, hs] at h1;cases h1
  rw [rT hu]
  have hwr := y6 s.cells hm s.slots[x.x.toNat]!.ptr s.slots[x.y.toNat]!.num
  have hd : dF ts s x = (⟨s.slots, qK s.cells s.slots[x.x.toNat]!.ptr s.slots[x.y.toNat]!.num, s.read⟩, l7 (r7 s.cells s.slots[x.x.toNat]!.ptr s.slots[x.y.toNat]!.num)) := by unfold dF;rw [if_neg (show ¬ x.op = 1 by omega), if_neg (show ¬ x.op = 2 by omega), if_neg (show ¬ x.op = 3 by omega), if_neg (show ¬ (x.op = 4 ∨ x.op = 5) by omega), if_neg (show ¬ x.op = 6 by omega), if_pos ho]
  rw [hd]
  repeat' (first|(apply aK;first|(apply jO;(case hx|hH => rfl);(case hf|hg|hα => infer_instance);(case hk => omega);(case hj => decide);(case hc => exact (rfl:_=[_, _]));(case h0|hN => rfl))|((with_reducible apply aI (k := 158));(case ha => rfl);(case h => exact hwr);(case hp => (exact Pur.pf));(case hN => rfl))|(apply aE;rfl;rfl)|(first|(apply cV;(case hx|hH => rfl);(case hf|hg|hα => infer_instance);(case hk => omega);(case hc|hN => rfl))|(apply aJ;rfl;rfl;rfl;rfl))|(apply aD;rfl;rfl;rfl)|(apply aS;rfl;rfl;rfl;rfl)|(apply aC;rfl;rfl)|(apply cR;rfl;rfl;(assumption);rfl)|((with_reducible apply aI (k := 156));(case ha => rfl);(case h => (apply s8 <;> (fail)));(case hp => (rfl));(case hN => rfl))|(apply aF;kernel_rfl)|(apply bV;rfl;rfl;rfl)|(apply b0;rfl;rfl;rfl)|(apply aV;rfl;rfl;rfl;rfl;rfl;(case hl => (simp;done));(exact (rfl:_=[_, _, _, _]))))|(apply aL;first|apply aH|apply aB|(apply bZ;kernel_rfl)|(apply aN;rfl;all_goals intro hc;have hq:=hc;(try simp only [cH] at hq);try exfalso;omega)|apply aM|apply aR|apply bI|apply aP)|with_reducible apply aA|with_reducible apply bH|with_reducible apply bJ|with_reducible apply aW|with_reducible apply cX|with_reducible apply bG)
  ·have hk : ¬ r7 s.cells s.slots[x.x.toNat]!.ptr s.slots[x.y.toNat]!.num = 0 := by assumption
   (refine aO rfl ?_; refine bY () trivial ?_ ⟨.inr (Eq.trans (b := some _) rfl ?_), ⟨.inr (Eq.trans (b := some _) rfl ?_), ⟨.inr (Eq.trans (b := some _) rfl ?_), trivial⟩⟩⟩)
   ·show iv (jI _) = iv (l7 _)
    unfold l7;rw [if_neg hk]
   ·rfl
   ·rfl
   ·rfl
  ·have hk : r7 s.cells s.slots[x.x.toNat]!.ptr s.slots[x.y.toNat]!.num = 0 := by assumption
   (refine aO rfl ?_; refine bY () trivial ?_ ⟨.inr (Eq.trans (b := some _) rfl ?_), ⟨.inr (Eq.trans (b := some _) rfl ?_), ⟨.inr (Eq.trans (b := some _) rfl ?_), trivial⟩⟩⟩)
   ·rw [hk]; rfl
   ·rfl
   ·rfl
   ·rfl
theorem MI (ts:List Int) (bd:List AL.Stmt) (pts:List Pnt) (s:Mc) (x:Pnt) (htl:ts.length ≤ 6) (hm:OkM s.cells) (hsl:s.slots.length = ts.length) (ho:x.op = 8) (hx:0 ≤ x.x ∧ x.x < ts.length):MC Tryz.prog 120 [.optr 0 0,hG x] [(0,some (mO ts bd pts 1 2 s)),(1,some (flat e5 s.slots)),(2,some (flat cI s.read))] 3 (fun _:Unit => True) (fun _ => iv (e7 ts s x).2) (fun _ => [(0,some (mO ts bd pts 1 2 (e7 ts s x).1)),(1,some (flat e5 (e7 ts s x).1.slots)),(2,some (flat cI (e7 ts s x).1.read))]) := by
 have hus := iS ts bd pts x htl
 have hsm : Sm (wS ts x [1, 2, 3]) := dL (by omega)
 obtain ⟨L, hL⟩ : ∃ L, L = cQ (wS ts x [1, 2, 3]) := ⟨_, rfl⟩
 have hLl : L.length ≤ 62 := by rw [hL]; exact dW _
 have hmem : ∀ k, k < L.length → 0 ≤ L[k]! ∧ L[k]! < s.slots.length := fun k hk => by
  rw [hsl]; exact iC (by rw [← hL]; exact b9 _ _ hk)
 (refine cC Tryz.func120 rfl (by simp [Tryz.ntmps120]) ?_; rw [Tryz.ntmps120])
 repeat' (first|(apply aK;first|((with_reducible apply aI (k := 151));(case ha => rfl);(case h => exact hus);(case hp => (exact Pur.pf));(case hN => rfl))|(apply aE;rfl;rfl)|(first|(apply aJ;rfl;rfl;rfl;rfl)|(apply aU;rfl;rfl;(exact (rfl:_=[_, _, _, _, _]));rfl;rfl;rfl))|(apply aD;rfl;rfl;rfl)|(apply aC;rfl;rfl)|((with_reducible apply aI (k := 100));(case ha => rfl);(case h => (apply g6 <;> (assumption)));(case hp => (rfl));(case hN => rfl))|(apply a8;rfl;rfl;rfl)|(apply aF;kernel_rfl)|(apply bV;rfl;rfl;rfl)|(apply bT;rfl;rfl;rfl;rfl))|(apply aL;first|apply aH|apply aB|(apply bZ;kernel_rfl)|apply aM)|with_reducible apply aA)
 rw [← hL]
 refine bF (σ := Nat) [0, 3, 26, 27] [(0, _), (3, _), (26, _), (27, _)] [0, 1, 2, 3] [(0, some _), (1, some _), (2, some _), (3, some _)] (fun k => [(28, iv (k : Int))]) (fun k => []) (fun k => k ≤ L.length ∧ ∀ j, j < k → s.slots[(L[j]!).toNat]!.set = true) (fun k => L.length - k) (0) ⟨Nat.zero_le _, fun j h => absurd h (by omega)⟩ rfl rfl (by repeat' (first|exact trivial|refine And.intro rfl ?_)) (by repeat' (exact trivial)) ?_
 rintro k ⟨hk, hall⟩
 by_cases hkn : k < L.length
 ·have hmk := hmem k hkn
  repeat' (first|(apply aK;first|(apply aE;rfl;rfl)|(first|(apply cV;(case hx|hH => rfl);(case hf|hg|hα => infer_instance);(case hk => omega);(case hc|hN => rfl))|(apply aJ;rfl;rfl;rfl;rfl))|(apply aD;rfl;rfl;rfl)|(first|(apply bR;rfl;rfl;omega;rfl)|(apply aS;rfl;rfl;rfl;rfl))|(apply aC;rfl;rfl)|(first|(apply a7;(case hx|hi => rfl);(case hm => (assumption));(case hml => (rfl));(case hα | hf|hg => infer_instance);(case hN => rfl))|(apply cR;rfl;rfl;(omega);rfl))|(apply aF;kernel_rfl)|(apply cF;rfl;rfl)|(apply bV;rfl;rfl;rfl))|(apply aL;first|apply aH|apply aB|(apply aN;rfl;all_goals intro hc;have hq:=hc;(try simp only [cH] at hq);try exfalso;omega)|apply aM|apply aR|apply aP)|with_reducible apply aA|with_reducible apply bH|with_reducible apply aW|with_reducible apply cX)
  ·have hu : dB ts s x = true := (dR htl).2 ⟨L[k]!, by rw [← hL]; exact b9 _ _ hkn, by assumption⟩
   rw [v7 hu]
   (refine aO rfl ?_; refine bY () trivial ?_ ⟨.inr (Eq.trans (b := some _) rfl ?_), ⟨.inr (Eq.trans (b := some _) rfl ?_), ⟨.inr (Eq.trans (b := some _) rfl ?_), trivial⟩⟩⟩)
   ·rfl
   ·rfl
   ·rfl
   ·rfl
  ·(apply dV (k + 1); focus (refine Le.ren [(3, 3)] rfl (by decide) ?_ ?_ <;> repeat' (first | exact trivial | refine And.intro ⟨_, rfl, ?_⟩ ?_ | refine And.intro ⟨_, _, rfl, rfl, ?_⟩ ?_ | exact Or.inr rfl | refine Or.inl ⟨?_, (by first | rfl | exact aZ _ _ | exact Pur.pf)⟩ | refine Or.inr (All2.cons ?_ ?_) | refine All2.cons ?_ ?_ | exact All2.nil | rfl)))
   ·refine ⟨by omega, fun j hj => ?_⟩
    rcases Nat.lt_or_ge j k with h|h
    ·exact hall j h
    ·rw [show j = k by omega]; assumption
   ·omega
 ·have hu : dB ts s x = false := by
   cases q : dB ts s x with
   | false => rfl
   | true =>
    obtain ⟨v, hv, hs⟩ := (dR htl).1 q
    rw [← hL] at hv
    obtain ⟨j, hj, e⟩ := List.getElem_of_mem hv
    have h1 := hall j (by omega)
    rw [cK _ _ hj, e, hs] at h1;cases h1
  rw [rT hu]
  have hfr := Ie ts bd pts s x.x hm hsl hx
  have hd : dF ts s x = (⟨s.slots.set x.x.toNat jZ, jG s.cells s.slots[x.x.toNat]!.ptr, s.read⟩, l7 (cS s.cells s.slots[x.x.toNat]!.ptr true)) := by unfold dF;rw [if_neg (show ¬ x.op = 1 by omega), if_neg (show ¬ x.op = 2 by omega), if_neg (show ¬ x.op = 3 by omega), if_neg (show ¬ (x.op = 4 ∨ x.op = 5) by omega), if_neg (show ¬ x.op = 6 by omega), if_neg (show ¬ x.op = 7 by omega), if_pos ho]
  rw [hd]
  repeat' (first|(apply aK;first|((apply Fz (ts := ts) (bd := bd) (pts := pts) (s := s) (v := x.x));(case ha0|ha1|hH0|hH1|hH2|hdd => rfl);(case hmc => exact hfr);(case hM|hN => rfl))|(apply aE;rfl;rfl)|(apply aJ;rfl;rfl;rfl;rfl)|(apply aD;rfl;rfl;rfl)|(apply aS;rfl;rfl;rfl;rfl)|(apply aC;rfl;rfl)|(apply cR;rfl;rfl;(assumption);rfl)|(apply aF;kernel_rfl)|(apply bW;rfl;(exact (rfl:_=some [_, _, _, _]));(exact (rfl:_=[_, _, _, _]));rfl)|(apply bV;rfl;rfl;rfl)|(apply aV;rfl;rfl;rfl;rfl;rfl;(rw [aQ]; simp only [gN] <;> omega);(exact Dw (by (omega)))))|(apply aL;first|apply aH|apply aB|(apply bZ;kernel_rfl)|(apply aN;rfl;all_goals intro hc;have hq:=hc;(try simp only [cH] at hq);try exfalso;omega)|apply aM|apply bI|apply aP)|with_reducible apply aA|with_reducible apply bH|with_reducible apply bJ|with_reducible apply cX|with_reducible apply bG)
  (refine aO rfl ?_; refine bY () trivial ?_ ⟨.inr (Eq.trans (b := some _) rfl ?_), ⟨.inr (Eq.trans (b := some _) rfl ?_), ⟨.inr (Eq.trans (b := some _) rfl ?_), trivial⟩⟩⟩)
  ·rfl
  ·rfl
  ·rfl
  ·rfl
theorem ML (ts:List Int) (bd:List AL.Stmt) (pts:List Pnt) (s:Mc) (x:Pnt) (htl:ts.length ≤ 6) (hm:OkM s.cells) (hsl:s.slots.length = ts.length) (ho:x.op = 9 ∨ x.op = 10 ∨ x.op = 11):MC Tryz.prog 120 [.optr 0 0,hG x] [(0,some (mO ts bd pts 1 2 s)),(1,some (flat e5 s.slots)),(2,some (flat cI s.read))] 3 (fun _:Unit => True) (fun _ => iv (e7 ts s x).2) (fun _ => [(0,some (mO ts bd pts 1 2 (e7 ts s x).1)),(1,some (flat e5 (e7 ts s x).1.slots)),(2,some (flat cI (e7 ts s x).1.read))]) := by
 have hus := iS ts bd pts x htl
 have hsm : Sm (wS ts x [1, 2, 3]) := dL (by omega)
 obtain ⟨L, hL⟩ : ∃ L, L = cQ (wS ts x [1, 2, 3]) := ⟨_, rfl⟩
 have hLl : L.length ≤ 62 := by rw [hL]; exact dW _
 have hmem : ∀ k, k < L.length → 0 ≤ L[k]! ∧ L[k]! < s.slots.length := fun k hk => by
  rw [hsl]; exact iC (by rw [← hL]; exact b9 _ _ hk)
 (refine cC Tryz.func120 rfl (by simp [Tryz.ntmps120]) ?_; rw [Tryz.ntmps120])
 repeat' (first|(apply aK;first|((with_reducible apply aI (k := 151));(case ha => rfl);(case h => exact hus);(case hp => (exact Pur.pf));(case hN => rfl))|(apply aE;rfl;rfl)|(first|(apply aJ;rfl;rfl;rfl;rfl)|(apply aU;rfl;rfl;(exact (rfl:_=[_, _, _, _, _]));rfl;rfl;rfl))|(apply aD;rfl;rfl;rfl)|(apply aC;rfl;rfl)|((with_reducible apply aI (k := 100));(case ha => rfl);(case h => (apply g6 <;> (assumption)));(case hp => (rfl));(case hN => rfl))|(apply a8;rfl;rfl;rfl)|(apply aF;kernel_rfl)|(apply bV;rfl;rfl;rfl)|(apply bT;rfl;rfl;rfl;rfl))|(apply aL;first|apply aH|apply aB|(apply bZ;kernel_rfl)|apply aM)|with_reducible apply aA)
 rw [← hL]
 refine bF (σ := Nat) [0, 3, 26, 27] [(0, _), (3, _), (26, _), (27, _)] [0, 1, 2, 3] [(0, some _), (1, some _), (2, some _), (3, some _)] (fun k => [(28, iv (k : Int))]) (fun k => []) (fun k => k ≤ L.length ∧ ∀ j, j < k → s.slots[(L[j]!).toNat]!.set = true) (fun k => L.length - k) (0) ⟨Nat.zero_le _, fun j h => absurd h (by omega)⟩ rfl rfl (by repeat' (first|exact trivial|refine And.intro rfl ?_)) (by repeat' (exact trivial)) ?_
 rintro k ⟨hk, hall⟩
 by_cases hkn : k < L.length
 ·have hmk := hmem k hkn
  repeat' (first|(apply aK;first|(apply aE;rfl;rfl)|(first|(apply cV;(case hx|hH => rfl);(case hf|hg|hα => infer_instance);(case hk => omega);(case hc|hN => rfl))|(apply aJ;rfl;rfl;rfl;rfl))|(apply aD;rfl;rfl;rfl)|(first|(apply bR;rfl;rfl;omega;rfl)|(apply aS;rfl;rfl;rfl;rfl))|(apply aC;rfl;rfl)|(first|(apply a7;(case hx|hi => rfl);(case hm => (assumption));(case hml => (rfl));(case hα | hf|hg => infer_instance);(case hN => rfl))|(apply cR;rfl;rfl;(omega);rfl))|(apply aF;kernel_rfl)|(apply cF;rfl;rfl)|(apply bV;rfl;rfl;rfl))|(apply aL;first|apply aH|apply aB|(apply aN;rfl;all_goals intro hc;have hq:=hc;(try simp only [cH] at hq);try exfalso;omega)|apply aM|apply aR|apply aP)|with_reducible apply aA|with_reducible apply bH|with_reducible apply aW|with_reducible apply cX)
  ·have hu : dB ts s x = true := (dR htl).2 ⟨L[k]!, by rw [← hL]; exact b9 _ _ hkn, by assumption⟩
   rw [v7 hu]
   (refine aO rfl ?_; refine bY () trivial ?_ ⟨.inr (Eq.trans (b := some _) rfl ?_), ⟨.inr (Eq.trans (b := some _) rfl ?_), ⟨.inr (Eq.trans (b := some _) rfl ?_), trivial⟩⟩⟩)
   ·rfl
   ·rfl
   ·rfl
   ·rfl
  ·(apply dV (k + 1); focus (refine Le.ren [(3, 3)] rfl (by decide) ?_ ?_ <;> repeat' (first | exact trivial | refine And.intro ⟨_, rfl, ?_⟩ ?_ | refine And.intro ⟨_, _, rfl, rfl, ?_⟩ ?_ | exact Or.inr rfl | refine Or.inl ⟨?_, (by first | rfl | exact aZ _ _ | exact Pur.pf)⟩ | refine Or.inr (All2.cons ?_ ?_) | refine All2.cons ?_ ?_ | exact All2.nil | rfl)))
   ·refine ⟨by omega, fun j hj => ?_⟩
    rcases Nat.lt_or_ge j k with h|h
    ·exact hall j h
    ·rw [show j = k by omega]; assumption
   ·omega
 ·have hu : dB ts s x = false := by
   cases q : dB ts s x with
   | false => rfl
   | true =>
    obtain ⟨v, hv, hs⟩ := (dR htl).1 q
    rw [← hL] at hv
    obtain ⟨j, hj, e⟩ := List.getElem_of_mem hv
    have h1 := hall j (by omega)
    rw [cK _ _ hj, e, hs] at h1;cases h1
  rw [rT hu]
  by_cases h11 : x.op = 11
  ·have hd : dF ts s x = dU ts ts.length 0 s := rK h11
   rw [hd]
   have hfi := KL ts bd pts s hm hsl (by omega)
   repeat' (first|(apply aK;first|((apply JS (ts := ts) (bd := bd) (pts := pts) (s := s));(case ha0|hH0|hH1|hH2|hdd => rfl);(case hmc => exact hfi);(case hM|hN => rfl))|(apply aE;rfl;rfl)|(apply aJ;rfl;rfl;rfl;rfl)|(apply aD;rfl;rfl;rfl)|(apply aS;rfl;rfl;rfl;rfl)|(apply aC;rfl;rfl)|(apply aF;kernel_rfl))|(apply aL;first|apply aH|apply aB|(apply aN;rfl;all_goals intro hc;have hq:=hc;(try simp only [cH] at hq);try exfalso;omega)|apply aM|apply bI|apply aP)|with_reducible apply aA|with_reducible apply bH|with_reducible apply bJ|with_reducible apply cX|with_reducible apply bG)
   (refine aO rfl ?_; refine bY () trivial ?_ ⟨.inr (Eq.trans (b := some _) rfl ?_), ⟨.inr (Eq.trans (b := some _) rfl ?_), ⟨.inr (Eq.trans (b := some _) rfl ?_), trivial⟩⟩⟩)
   ·rfl
   ·rfl
   ·rfl
   ·rfl
  ·have hd : dF ts s x = (s, -1) := by unfold dF; rw [if_neg (show ¬ x.op = 1 by omega), if_neg (show ¬ x.op = 2 by omega), if_neg (show ¬ x.op = 3 by omega), if_neg (show ¬ (x.op = 4 ∨ x.op = 5) by omega), if_neg (show ¬ x.op = 6 by omega), if_neg (show ¬ x.op = 7 by omega), if_neg (show ¬ x.op = 8 by omega), if_neg (show ¬ x.op = 11 by omega)]
   rw [hd]
   repeat' (first|(apply aK;first|(apply aJ;rfl;rfl;rfl;rfl)|(apply aD;rfl;rfl;rfl)|(apply aS;rfl;rfl;rfl;rfl)|(apply aC;rfl;rfl)|(apply aF;kernel_rfl))|(apply aL;first|apply aH|apply aB|(apply aN;rfl;all_goals intro hc;have hq:=hc;(try simp only [cH] at hq);try exfalso;omega)|apply aM|apply aR|apply bI|apply aP)|with_reducible apply aA|with_reducible apply bJ|with_reducible apply aW|with_reducible apply bG)
   (refine aO rfl ?_; refine bY () trivial ?_ ⟨.inr (Eq.trans (b := some _) rfl ?_), ⟨.inr (Eq.trans (b := some _) rfl ?_), ⟨.inr (Eq.trans (b := some _) rfl ?_), trivial⟩⟩⟩)
   ·rfl
   ·rfl
   ·rfl
   ·rfl
theorem LV (ts:List Int) (bd:List AL.Stmt) (pts:List Pnt) (s:Mc) (x:Pnt) (htl:ts.length ≤ 6) (hm:OkM s.cells) (hsl:s.slots.length = ts.length) (ho:x.op = 6) (hrl:s.read.length ≤ 1000) (hx:0 ≤ x.x ∧ x.x < ts.length) (hy:0 ≤ x.y ∧ x.y < ts.length) (hz:cS s.cells s.slots[x.y.toNat]!.ptr false = 0) (hun:dB ts s x = false):MC Tryz.prog 120 [.optr 0 0,hG x] [(0,some (mO ts bd pts 1 2 s)),(1,some (flat e5 s.slots)),(2,some (flat cI s.read))] 3 (fun _:Unit => True) (fun _ => iv (e7 ts s x).2) (fun _ => [(0,some (mO ts bd pts 1 5 (e7 ts s x).1)),(1,some (flat e5 (e7 ts s x).1.slots)),(5,some (flat cI (e7 ts s x).1.read))]) := by
 have hus := iS ts bd pts x htl
 have hsm : Sm (wS ts x [1, 2, 3]) := dL (by omega)
 obtain ⟨L, hL⟩ : ∃ L, L = cQ (wS ts x [1, 2, 3]) := ⟨_, rfl⟩
 have hLl : L.length ≤ 62 := by rw [hL]; exact dW _
 have hmem : ∀ k, k < L.length → 0 ≤ L[k]! ∧ L[k]! < s.slots.length := fun k hk => by
  rw [hsl]; exact iC (by rw [← hL]; exact b9 _ _ hk)
 (refine cC Tryz.func120 rfl (by simp [Tryz.ntmps120]) ?_; rw [Tryz.ntmps120])
 repeat' (first|(apply aK;first|((with_reducible apply aI (k := 151));(case ha => rfl);(case h => exact hus);(case hp => (exact Pur.pf));(case hN => rfl))|(apply aE;rfl;rfl)|(first|(apply aJ;rfl;rfl;rfl;rfl)|(apply aU;rfl;rfl;(exact (rfl:_=[_, _, _, _, _]));rfl;rfl;rfl))|(apply aD;rfl;rfl;rfl)|(apply aC;rfl;rfl)|((with_reducible apply aI (k := 100));(case ha => rfl);(case h => (apply g6 <;> (assumption)));(case hp => (rfl));(case hN => rfl))|(apply a8;rfl;rfl;rfl)|(apply aF;kernel_rfl)|(apply bV;rfl;rfl;rfl)|(apply bT;rfl;rfl;rfl;rfl))|(apply aL;first|apply aH|apply aB|(apply bZ;kernel_rfl)|apply aM)|with_reducible apply aA)
 rw [← hL]
 refine bF (σ := Nat) [0, 3, 26, 27] [(0, _), (3, _), (26, _), (27, _)] [0, 1, 2, 3] [(0, some _), (1, some _), (2, some _), (3, some _)] (fun k => [(28, iv (k : Int))]) (fun k => []) (fun k => k ≤ L.length ∧ ∀ j, j < k → s.slots[(L[j]!).toNat]!.set = true) (fun k => L.length - k) (0) ⟨Nat.zero_le _, fun j h => absurd h (by omega)⟩ rfl rfl (by repeat' (first|exact trivial|refine And.intro rfl ?_)) (by repeat' (exact trivial)) ?_
 rintro k ⟨hk, hall⟩
 by_cases hkn : k < L.length
 ·have hmk := hmem k hkn
  repeat' (first|(apply aK;first|(apply aE;rfl;rfl)|(first|(apply cV;(case hx|hH => rfl);(case hf|hg|hα => infer_instance);(case hk => omega);(case hc|hN => rfl))|(apply aJ;rfl;rfl;rfl;rfl))|(apply aD;rfl;rfl;rfl)|(first|(apply bR;rfl;rfl;omega;rfl)|(apply aS;rfl;rfl;rfl;rfl))|(apply aC;rfl;rfl)|(first|(apply a7;(case hx|hi => rfl);(case hm => (assumption));(case hml => (rfl));(case hα | hf|hg => infer_instance);(case hN => rfl))|(apply cR;rfl;rfl;(omega);rfl))|(apply aF;kernel_rfl)|(apply cF;rfl;rfl)|(apply bV;rfl;rfl;rfl))|(apply aL;first|apply aH|apply aB|(apply aN;rfl;all_goals intro hc;have hq:=hc;(try simp only [cH] at hq);try exfalso;omega)|apply aM|apply aR|apply aP)|with_reducible apply aA|with_reducible apply bH|with_reducible apply aW|with_reducible apply cX)
  ·exfalso
   have hu : dB ts s x = true := (dR htl).2 ⟨L[k]!, by rw [← hL]; exact b9 _ _ hkn, by assumption⟩
   rw [hun] at hu;cases hu
  ·(apply dV (k + 1); focus (refine Le.ren [(3, 3)] rfl (by decide) ?_ ?_ <;> repeat' (first | exact trivial | refine And.intro ⟨_, rfl, ?_⟩ ?_ | refine And.intro ⟨_, _, rfl, rfl, ?_⟩ ?_ | exact Or.inr rfl | refine Or.inl ⟨?_, (by first | rfl | exact aZ _ _ | exact Pur.pf)⟩ | refine Or.inr (All2.cons ?_ ?_) | refine All2.cons ?_ ?_ | exact All2.nil | rfl)))
   ·refine ⟨by omega, fun j hj => ?_⟩
    rcases Nat.lt_or_ge j k with h|h
    ·exact hall j h
    ·rw [show j = k by omega]; assumption
   ·omega
 ·have hu : dB ts s x = false := by
   cases q : dB ts s x with
   | false => rfl
   | true =>
    obtain ⟨v, hv, hs⟩ := (dR htl).1 q
    rw [← hL] at hv
    obtain ⟨j, hj, e⟩ := List.getElem_of_mem hv
    have h1 := hall j (by omega)
    rw [cK _ _ hj, e, hs] at h1;cases h1
  rw [rT hu]
  have hrc := rM s.cells hm s.slots[x.y.toNat]!.ptr
  have hp := nR ts bd pts ⟨s.slots, gG s.cells s.slots[x.y.toNat]!.ptr false, s.read ++ [wC s.cells s.slots[x.y.toNat]!.ptr]⟩ x.x ⟨true, wC s.cells s.slots[x.y.toNat]!.ptr, ⟨0, 0⟩⟩ (hm.tch _ _) hsl hx
  have hd : dF ts s x = dN ts ⟨s.slots, gG s.cells s.slots[x.y.toNat]!.ptr false, s.read ++ [wC s.cells s.slots[x.y.toNat]!.ptr]⟩ x.x.toNat ⟨true, wC s.cells s.slots[x.y.toNat]!.ptr, ⟨0, 0⟩⟩ := by unfold dF;rw [if_neg (show ¬ x.op = 1 by omega), if_neg (show ¬ x.op = 2 by omega), if_neg (show ¬ x.op = 3 by omega), if_neg (show ¬ (x.op = 4 ∨ x.op = 5) by omega), if_pos ho, if_pos hz]
  rw [hd]
  rw [hz] at hrc
  repeat' (first|(apply aK;first|(apply jO;(case hx|hH => rfl);(case hf|hg|hα => infer_instance);(case hk => omega);(case hj => decide);(case hc => exact (rfl:_=[_, _]));(case h0|hN => rfl))|((with_reducible apply aI (k := 157));(case ha => rfl);(case h => exact hrc);(case hp => (exact Pur.pf));(case hN => rfl))|(with_reducible apply dE (d := 184))|(apply aE;rfl;rfl)|(apply aJ;rfl;rfl;rfl;rfl)|(apply aD;rfl;rfl;rfl)|(apply aS;rfl;rfl;rfl;rfl)|(apply aC;rfl;rfl)|(apply cR;rfl;rfl;(assumption);rfl)|(apply cJ;rfl;rfl;rfl;rfl;rfl;(rw [aQ]; omega);(rfl);omega;omega;(exact lE (by (omega)));rfl;rfl)|(apply aF;kernel_rfl)|(apply bV;rfl;rfl;rfl)|(apply b0;rfl;rfl;rfl)|((apply bS (t := _));(case hze|hsm|hl => rfl);(case hfl => exact (rfl:_=some [_]));(case hM|hN => rfl))|(apply aV;rfl;rfl;rfl;rfl;rfl;(case hl => (simp;done));(exact (rfl:_=[_, _, _, _]))))|(apply aL;first|apply aH|apply aB|(apply bZ;kernel_rfl)|(apply cG;rfl;(rfl))|(apply aN;rfl;all_goals intro hc;have hq:=hc;(try simp only [cH] at hq);try exfalso;omega)|apply aM|apply aR|apply bI)|with_reducible apply aA|with_reducible apply bJ|with_reducible apply bG)
  refine eX ?_
  rw [show s.read.length + 1 = (s.read ++ [wC s.cells s.slots[x.y.toNat]!.ptr]).length from by rw [List.length_append]; rfl]
  repeat' (first|(apply aK;first|((apply kV (ts := ts) (bd := bd) (pts := pts) (s := ⟨s.slots, gG s.cells s.slots[x.y.toNat]!.ptr false, s.read ++ [wC s.cells s.slots[x.y.toNat]!.ptr]⟩) (v := x.x) (y := ⟨true, wC s.cells s.slots[x.y.toNat]!.ptr, ⟨0, 0⟩⟩));(case ha0|ha1|ha2|hH0|hH1|hH2|hdd => rfl);(case hmc => exact hp);(case hM|hN => rfl))|(apply aE;rfl;rfl)|(apply aJ;rfl;rfl;rfl;rfl)|(apply aD;rfl;rfl;rfl)|(apply aC;rfl;rfl)|(apply aF;kernel_rfl)|(apply bW;rfl;(exact (rfl:_=some [_, _, _, _]));(exact (rfl:_=[_, _, _, _]));rfl))|(apply aL;(apply aP))|with_reducible apply aA|with_reducible apply bH|with_reducible apply cX)
  (refine aO rfl ?_; refine bY () trivial ?_ ⟨.inr (Eq.trans (b := some _) rfl ?_), ⟨.inr (Eq.trans (b := some _) rfl ?_), ⟨.inr (Eq.trans (b := some _) rfl ?_), trivial⟩⟩⟩)
  ·rfl
  ·rfl
  ·rfl
  ·rfl
theorem MF (ts:List Int) (bd:List AL.Stmt) (pts:List Pnt) (s:Mc) (x:Pnt) (htl:ts.length ≤ 6) (hm:OkM s.cells) (hsl:s.slots.length = ts.length) (hun:dB ts s x = true):MC Tryz.prog 120 [.optr 0 0,hG x] [(0,some (mO ts bd pts 1 2 s)),(1,some (flat e5 s.slots)),(2,some (flat cI s.read))] 3 (fun _:Unit => True) (fun _ => iv (e7 ts s x).2) (fun _ => [(0,some (mO ts bd pts 1 2 (e7 ts s x).1)),(1,some (flat e5 (e7 ts s x).1.slots)),(2,some (flat cI (e7 ts s x).1.read))]) := by
 have hus := iS ts bd pts x htl
 have hsm : Sm (wS ts x [1, 2, 3]) := dL (by omega)
 obtain ⟨L, hL⟩ : ∃ L, L = cQ (wS ts x [1, 2, 3]) := ⟨_, rfl⟩
 have hLl : L.length ≤ 62 := by rw [hL]; exact dW _
 have hmem : ∀ k, k < L.length → 0 ≤ L[k]! ∧ L[k]! < s.slots.length := fun k hk => by
  rw [hsl]; exact iC (by rw [← hL]; exact b9 _ _ hk)
 (refine cC Tryz.func120 rfl (by simp [Tryz.ntmps120]) ?_; rw [Tryz.ntmps120])
 repeat' (first|(apply aK;first|((with_reducible apply aI (k := 151));(case ha => rfl);(case h => exact hus);(case hp => (exact Pur.pf));(case hN => rfl))|(apply aE;rfl;rfl)|(first|(apply aJ;rfl;rfl;rfl;rfl)|(apply aU;rfl;rfl;(exact (rfl:_=[_, _, _, _, _]));rfl;rfl;rfl))|(apply aD;rfl;rfl;rfl)|(apply aC;rfl;rfl)|((with_reducible apply aI (k := 100));(case ha => rfl);(case h => (apply g6 <;> (assumption)));(case hp => (rfl));(case hN => rfl))|(apply a8;rfl;rfl;rfl)|(apply aF;kernel_rfl)|(apply bV;rfl;rfl;rfl)|(apply bT;rfl;rfl;rfl;rfl))|(apply aL;first|apply aH|apply aB|(apply bZ;kernel_rfl)|apply aM)|with_reducible apply aA)
 rw [← hL]
 refine bF (σ := Nat) [0, 3, 26, 27] [(0, _), (3, _), (26, _), (27, _)] [0, 1, 2, 3] [(0, some _), (1, some _), (2, some _), (3, some _)] (fun k => [(28, iv (k : Int))]) (fun k => []) (fun k => k ≤ L.length ∧ ∀ j, j < k → s.slots[(L[j]!).toNat]!.set = true) (fun k => L.length - k) (0) ⟨Nat.zero_le _, fun j h => absurd h (by omega)⟩ rfl rfl (by repeat' (first|exact trivial|refine And.intro rfl ?_)) (by repeat' (exact trivial)) ?_
 rintro k ⟨hk, hall⟩
 by_cases hkn : k < L.length
 ·have hmk := hmem k hkn
  repeat' (first|(apply aK;first|(apply aE;rfl;rfl)|(first|(apply cV;(case hx|hH => rfl);(case hf|hg|hα => infer_instance);(case hk => omega);(case hc|hN => rfl))|(apply aJ;rfl;rfl;rfl;rfl))|(apply aD;rfl;rfl;rfl)|(first|(apply bR;rfl;rfl;omega;rfl)|(apply aS;rfl;rfl;rfl;rfl))|(apply aC;rfl;rfl)|(first|(apply a7;(case hx|hi => rfl);(case hm => (assumption));(case hml => (rfl));(case hα | hf|hg => infer_instance);(case hN => rfl))|(apply cR;rfl;rfl;(omega);rfl))|(apply aF;kernel_rfl)|(apply cF;rfl;rfl)|(apply bV;rfl;rfl;rfl))|(apply aL;first|apply aH|apply aB|(apply aN;rfl;all_goals intro hc;have hq:=hc;(try simp only [cH] at hq);try exfalso;omega)|apply aM|apply aR|apply aP)|with_reducible apply aA|with_reducible apply bH|with_reducible apply aW|with_reducible apply cX)
  ·have hu : dB ts s x = true := (dR htl).2 ⟨L[k]!, by rw [← hL]; exact b9 _ _ hkn, by assumption⟩
   rw [v7 hu]
   (refine aO rfl ?_; refine bY () trivial ?_ ⟨.inr (Eq.trans (b := some _) rfl ?_), ⟨.inr (Eq.trans (b := some _) rfl ?_), ⟨.inr (Eq.trans (b := some _) rfl ?_), trivial⟩⟩⟩)
   ·rfl
   ·rfl
   ·rfl
   ·rfl
  ·(apply dV (k + 1); focus (refine Le.ren [(3, 3)] rfl (by decide) ?_ ?_ <;> repeat' (first | exact trivial | refine And.intro ⟨_, rfl, ?_⟩ ?_ | refine And.intro ⟨_, _, rfl, rfl, ?_⟩ ?_ | exact Or.inr rfl | refine Or.inl ⟨?_, (by first | rfl | exact aZ _ _ | exact Pur.pf)⟩ | refine Or.inr (All2.cons ?_ ?_) | refine All2.cons ?_ ?_ | exact All2.nil | rfl)))
   ·refine ⟨by omega, fun j hj => ?_⟩
    rcases Nat.lt_or_ge j k with h|h
    ·exact hall j h
    ·rw [show j = k by omega]; assumption
   ·omega
 ·have hu : dB ts s x = false := by
   cases q : dB ts s x with
   | false => rfl
   | true =>
    obtain ⟨v, hv, hs⟩ := (dR htl).1 q
    rw [← hL] at hv
    obtain ⟨j, hj, e⟩ := List.getElem_of_mem hv
    have h1 := hall j (by omega)
    rw [cK _ _ hj, e, hs] at h1;cases h1
  rw [rT hu]
  rw [hun] at hu;cases hu
theorem Jc {ts:List Int}{bd:List AL.Stmt}{pts:List Pnt}{s:Mc}{x:Pnt}{N:Nat}{Q:Exit → AS → Prop}{all:Array Oper}{rest:List Oper}{tsl:List (Nat × AV)}{hsl:List (Nat × Option (List AV))}{nidl:Nat}{z0:Lo}{md:Md}{d:Nat}{ty:TypeId}{pos:String}{af:Array Edge}{tys:Array TypeId}{x0 x1:Operand}{i0 i1 i2:Nat}(ha0:ev (lk tsl) x0 = some (.optr i0 0)) (ha1:ev (lk tsl) x1 = some (hG x)) (hH0:cA hsl i0 = some (mO ts bd pts i1 i2 s)) (hH1:cA hsl i1 = some (flat e5 s.slots)) (hH2:cA hsl i2 = some (flat cI s.read)) (hdd:Go.AL.distinct [i0,i1,i2] = true) (hmc:MC Tryz.prog 120 [.optr 0 0,hG x] [(0,some (mO ts bd pts 1 2 s)),(1,some (flat e5 s.slots)),(2,some (flat cI s.read))] 3 (fun _:Unit => True) (fun _ => iv (e7 ts s x).2) (fun _ => [(0,some (mO ts bd pts 1 5 (e7 ts s x).1)),(1,some (flat e5 (e7 ts s x).1.slots)),(5,some (flat cI (e7 ts s x).1.read))])) (hM:Nat.ble (nidl + 3) dJ = true) (hN:Nat.blt d N = true){md':Md}[hmd:MdA md (hO [x0,x1] ++ [.inr i0,.inr i1,.inr i2]) (List.map Sum.inr (List.map Prod.fst ([(i0,some (mO ts bd pts i1 (nidl + 2) (e7 ts s x).1)),(i1,some (flat e5 (e7 ts s x).1.slots)),((nidl + 2),some (flat cI (e7 ts s x).1.read)),(i2,none)]:List (Nat × Option (List AV)))) ++ [.inl d]) md'] (kk:RW Tryz.prog N all Q md' rest ⟨(d,iv (e7 ts s x).2) :: tsl,iY hsl [(i0,some (mO ts bd pts i1 (nidl + 2) (e7 ts s x).1)),(i1,some (flat e5 (e7 ts s x).1.slots)),((nidl + 2),some (flat cI (e7 ts s x).1.read)),(i2,none)],nidl + 3,z0⟩):RW Tryz.prog N all Q md (⟨some d,.call ⟨.value (.func 120),#[x0,x1],tys⟩,ty,pos,af,none⟩ :: rest) ⟨tsl,hsl,nidl,z0⟩ := by
 refine cL [i0, i1, i2] 6 [(i0, some (mO ts bd pts i1 (nidl + 2) (e7 ts s x).1)), (i1, some (flat e5 (e7 ts s x).1.slots)), ((nidl + 2), some (flat cI (e7 ts s x).1.read)), (i2, none)] hmc (avs := [.optr i0 0, hG x]) ?_ hdd ?_ rfl ?_ (by simpa using hM) ?_ ?_ ?_ hN (md' := md') (hmd := hmd) kk
 ·show evL (lk tsl) [x0, x1] = _
  simp only [evL, ha0, ha1]
 ·exact ⟨⟨_, _, rfl, hH0, by (repeat' (first|exact RnL.purI inferInstance|exact RnV.purI inferInstance|exact RnV.own rfl|refine RnL.cons ?_ ?_))⟩, ⟨⟨_, _, rfl, hH1, by (repeat' (exact RnL.purI inferInstance))⟩, ⟨⟨_, _, rfl, hH2, by (repeat' (exact RnL.purI inferInstance))⟩, trivial⟩⟩⟩
 ·(repeat' (first|exact RnL.purI inferInstance|exact RnV.optr rfl|refine RnL.cons ?_ ?_))
 ·(repeat' (exact RnV.purI inferInstance))
 ·simp [dT]
 ·(repeat' (first|exact trivial|(refine And.intro ⟨0, _, rfl, rfl, ?_⟩ ?_)|(refine And.intro ⟨1, _, rfl, rfl, ?_⟩ ?_)|(refine And.intro ⟨5, _, rfl, rfl, ?_⟩ ?_)|exact RnL.purI inferInstance|exact RnV.purI inferInstance|exact RnV.own rfl|refine RnL.cons ?_ ?_))
theorem MU (ts:List Int) (bd:List AL.Stmt) (pts:List Pnt) (s:Mc) (x:Pnt) (htl:ts.length ≤ 6) (hm:OkM s.cells) (hsl:s.slots.length = ts.length) (hop:1 ≤ x.op ∧ x.op ≤ 11) (hrl:s.read.length ≤ 1000)
  (hx : x.op ≤ 8 → 0 ≤ x.x ∧ x.x < ts.length) (hy : 3 ≤ x.op → x.op ≤ 7 → 0 ≤ x.y ∧ x.y < ts.length) (hn : x.op = 2 → 0 ≤ x.n ∧ x.n ≤ 9) (h6 : ¬ (x.op = 6 ∧ cS s.cells s.slots[x.y.toNat]!.ptr false = 0 ∧ dB ts s x = false)) : MC Tryz.prog 120 [.optr 0 0, hG x] [(0, some (mO ts bd pts 1 2 s)), (1, some (flat e5 s.slots)), (2, some (flat cI s.read))] 3 (fun _ : Unit => True) (fun _ => iv (e7 ts s x).2) (fun _ => [(0, some (mO ts bd pts 1 2 (e7 ts s x).1)), (1, some (flat e5 (e7 ts s x).1.slots)), (2, some (flat cI (e7 ts s x).1.read))]) := by
 by_cases h1 : x.op = 1
 ·exact Ma ts bd pts s x htl hm hsl h1 (hx (by omega))
 by_cases h2 : x.op = 2
 ·exact Ml ts bd pts s x htl hm hsl h2 (hn h2) (hx (by omega))
 by_cases h3 : x.op = 3
 ·exact MT ts bd pts s x htl hm hsl h3 (hx (by omega)) (hy (by omega) (by omega))
 by_cases h4 : x.op = 4 ∨ x.op = 5
 ·exact KA ts bd pts s x htl hm hsl h4 (hx (by omega)) (hy (by omega) (by omega))
 by_cases h6' : x.op = 6
 ·by_cases hu : dB ts s x = true
  ·exact MF ts bd pts s x htl hm hsl hu
  ·exact MV ts bd pts s x htl hm hsl h6' hrl (hx (by omega)) (hy (by omega) (by omega)) (fun q => h6 ⟨h6', q, by simpa using hu⟩)
 by_cases h7 : x.op = 7
 ·exact MX ts bd pts s x htl hm hsl h7 (hx (by omega)) (hy (by omega) (by omega))
 by_cases h8 : x.op = 8
 ·exact MI ts bd pts s x htl hm hsl h8 (hx (by omega))
 ·exact ML ts bd pts s x htl hm hsl (by omega)
theorem CQ (x:Pnt) (h:x.next.length ≤ 1000000):PC Tryz.prog 150 [hG x] (fun r => r = bv (decide (x.next.length = 2))) := by
 (refine aT Tryz.func150 rfl (by simp [Tryz.ntmps150]) ?_; rw [Tryz.ntmps150])
 repeat' (first|(apply aK;first|(apply aJ;rfl;rfl;rfl;rfl)|(apply aD;rfl;rfl;rfl)|(apply aS;rfl;rfl;rfl;rfl)|(apply aC;rfl;rfl)|(apply a8;rfl;rfl;rfl)|(apply aF;kernel_rfl)|(apply bT;rfl;rfl;rfl;rfl))|(apply aL;first|apply aH|apply aB|apply aP)|with_reducible apply aA)
 refine aO rfl ⟨?_, rfl⟩
 simp only [b8, AV.v.injEq, Value.bool.injEq, decide_eq_decide]; omega
theorem Mi {pts:List Pnt}{a:Nat}{C:List Int}(h:pts[a]!.next.length = 2) (hC:0 < C.length):eE pts a C = ((pts[a]!.next[(C[0]! % 2).toNat]!).toNat,C.drop 1) := by
 cases C with
 | nil => simp at hC
 | cons c C => unfold eE;rw [if_pos h]; rfl
theorem Mm {pts:List Pnt}{a:Nat}(h:pts[a]!.next.length = 2):eE pts a [] = ((pts[a]!.next[1]!).toNat,[]) := by unfold eE; rw [if_pos h]
theorem He {pts:List Pnt}{n a b:Nat}{out C C2:List Int}{q:List Int × Bool}(h:¬ pts[a]!.op = 11) (ho:out.length ≤ n) (hs:eE pts a C = (b,C2)) (hq:q = (out ++ (wm pts (n - out.length) a C).1,(wm pts (n - out.length) a C).2)) :
  ((out ++ [(a : Int)]).length ≤ n ∧ q = ((out ++ [(a : Int)]) ++ (wm pts (n - (out ++ [(a : Int)]).length) b C2).1, (wm pts (n - (out ++ [(a : Int)]).length) b C2).2)) ∨ ((out ++ [(a : Int)]).length = n + 1 ∧ q = ((out ++ [(a : Int)]).take n, false)) := by
 have hl : (out ++ [(a : Int)]).length = out.length + 1 := by rw [List.length_append]; rfl
 rcases Nat.lt_or_ge out.length n with h1|h1
 ·exact .inl ⟨by omega, Ji h h1 hs hq⟩
 ·refine .inr ⟨by omega, ?_⟩
  have e : out.length = n := by omega
  rw [hq, e, Nat.sub_self, Li h, ← e, List.take_left' rfl, List.append_nil]
theorem Lr (ts:List Int) (bd:List AL.Stmt) (pts:List Pnt) (cs:List Int) (n:Nat) (w:WG ts pts) (wa:WA ts pts) (hn:n ≤ 1000) (hcl:cs.length ≤ 1000000):PC Tryz.prog 119 [aG ts bd pts,sl cI cs,iv (n:Int)] (fun r => r = .tup [sl cI (wm pts n 0 cs).1,bv (wm pts n 0 cs).2]) := by
 have hpl := w.pl
 have hp0 := w.p0
 (refine aT Tryz.func119 rfl (by simp [Tryz.ntmps119]) ?_; rw [Tryz.ntmps119])
 repeat' (first|(apply aK;first|((apply gY (d := 8) (e := 1));(case hM|hN => rfl))|(apply aC;rfl;rfl)|(apply aF;kernel_rfl))|(apply aL;first|apply aH|apply aB|apply aM)|with_reducible apply aA)
 refine bF (σ := Int × List Int × Nat × List Int) [0, 2] [(0, _), (2, _)] [] [] (fun k => [(9, iv k.1), (1, sl cI k.2.2.2), (8, .own 0 0 k.2.2.1 1)]) (fun k => [(0, some (flat cI k.2.1))]) (fun k => (0 ≤ k.1 ∧ k.1 < pts.length) ∧ k.2.2.1 = k.2.1.length ∧ k.2.2.2.length ≤ 1000000 ∧ ((k.2.1.length ≤ n ∧ wm pts n 0 cs = (k.2.1 ++ (wm pts (n - k.2.1.length) k.1.toNat k.2.2.2).1, (wm pts (n - k.2.1.length) k.1.toNat k.2.2.2).2)) ∨ (k.2.1.length = n + 1 ∧ wm pts n 0 cs = (k.2.1.take n, false)))) (fun k => n + 1 - k.2.1.length) (0, [], 0, cs) ⟨⟨Int.le_refl _, by show (0 : Int) < _; omega⟩, rfl, hcl, .inl ⟨Nat.zero_le _, rfl⟩⟩ rfl rfl (by repeat' (first|exact trivial|refine And.intro rfl ?_)) (by repeat' (first|exact trivial|refine And.intro (.inr rfl) ?_)) ?_
 rintro ⟨a, out, m, C⟩ ⟨⟨ha0, ha⟩, hm, hC, hw⟩
 dsimp only at ha0 ha hm hC hw ⊢
 by_cases hout : out.length ≤ n
 ·have hw2 : wm pts n 0 cs = (out ++ (wm pts (n - out.length) a.toNat C).1, (wm pts (n - out.length) a.toNat C).2) := by
   rcases hw with h|h
   ·exact h.2
   ·omega
  have hat : (a.toNat : Int) = a := Int.toNat_of_nonneg ha0
  have hnx := w.nx a.toNat (by omega)
  have hnl := w.nl a.toNat (by omega)
  have hn1 := wa.n a.toNat (by omega)
  have hk : ∀ k, k < pts[a.toNat]!.next.length → 0 ≤ pts[a.toNat]!.next[k]! ∧ pts[a.toNat]!.next[k]! < pts.length := fun k h => hnx _ (b9 _ _ h)
  have hch := CQ pts[a.toNat]! (by omega)
  repeat' (first|(apply aK;first|((with_reducible apply aI (k := 150));(case ha => rfl);(case h => exact hch);(case hp => (exact Pur.pf));(case hN => rfl))|(apply JU;rfl;rfl;rfl)|(apply aE;rfl;rfl)|(first|(apply aJ;rfl;rfl;rfl;rfl)|(apply aU;rfl;rfl;(exact (rfl:_=[_, _, _, _, _]));rfl;rfl;rfl))|(apply aD;rfl;rfl;rfl)|(apply aS;rfl;rfl;rfl;rfl)|(apply aC;rfl;rfl)|(apply cO;(case hx|hi => rfl);(case hm => (omega));(case hml => (rfl));(case hα | hf|hg => infer_instance);(case hN => rfl))|(first|(apply a8;rfl;rfl;rfl)|(apply cJ;rfl;rfl;rfl;rfl;rfl;(rw [aQ]; omega);(rfl);omega;omega;(exact lE (by (assumption)));rfl;rfl))|(apply aF;kernel_rfl)|(apply nK;rfl;infer_instance;rfl;rfl;(omega);rfl)|(apply cF;rfl;rfl)|(apply bV;rfl;rfl;rfl)|(apply bB;rfl;rfl)|((apply bS (t := _));(case hze|hsm|hl => rfl);(case hfl => exact (rfl:_=some [_]));(case hM|hN => rfl))|(apply aV;rfl;rfl;rfl;rfl;rfl;(case hl => (simp;done));(exact (rfl:_=[_, _, _, _, _]))))|(apply aL;first|apply aH|apply aB|(apply bZ;kernel_rfl)|(apply aN;rfl;all_goals intro hc;have hq:=hc;(try simp only [cH] at hq);try exfalso;omega)|apply aM|apply aR|apply aP)|with_reducible apply aA|with_reducible apply bH|with_reducible apply aW|with_reducible apply cX)
  ·have hop : pts[a.toNat]!.op = 11 := by assumption
   have e : wm pts n 0 cs = (out ++ [a], true) := by rw [hw2, LY hop, hat]
   rw [e]
   (refine cE (Le.frzD (d := 6) (i := 2) rfl rfl) ?_; refine aO rfl ?_)
   refine ⟨?_, (by (exact Pur.pf))⟩
   simp only [b8, sl]
   rw [hm, List.length_append]; rfl
  ·have hop : ¬ pts[a.toNat]!.op = 11 := by assumption
   have hst := He hop hout (MW (by omega)) hw2
   rw [hat] at hst
   have hk := hk 0 (by omega)
   (apply dV (pts[a.toNat]!.next[0]!, _, _, C);focus (refine Le.ren [(0, 2)] rfl (by decide) ?_ ?_ <;> repeat' (first|exact trivial|refine And.intro ⟨_, rfl, ?_⟩ ?_|refine And.intro ⟨_, _, rfl, rfl, ?_⟩ ?_|exact Or.inr rfl|refine Or.inl ⟨?_, (by first|rfl|exact aZ _ _|exact Pur.pf)⟩|rfl)))
   ·exact ⟨hk, by dsimp only;rw [List.length_append, hm]; rfl, hC, hst⟩
   ·dsimp only;rw [List.length_append]; simp only [List.length_singleton]; omega
  ·have hop : ¬ pts[a.toNat]!.op = 11 := by assumption
   have hC0 : 0 < C.length := by omega
   have hst := He hop hout (Mi (by omega) hC0) hw2
   rw [hat] at hst
   have hk := hk (C[0]! % 2).toNat (by omega)
   have hCe : List.take (C.length - Int.toNat 1) (List.drop (Int.toNat 1) C) = C.drop 1 := List.take_of_length_le (by rw [List.length_drop]; exact Nat.le_refl _)
   rw [hCe]
   (apply dV (pts[a.toNat]!.next[(C[0]! % 2).toNat]!, _, _, C.drop 1);focus (refine Le.ren [(0, 2)] rfl (by decide) ?_ ?_ <;> repeat' (first|exact trivial|refine And.intro ⟨_, rfl, ?_⟩ ?_|refine And.intro ⟨_, _, rfl, rfl, ?_⟩ ?_|exact Or.inr rfl|refine Or.inl ⟨?_, (by first|rfl|exact aZ _ _|exact Pur.pf)⟩|rfl)))
   ·exact ⟨hk, by dsimp only;rw [List.length_append, hm]; rfl, by dsimp only;rw [List.length_drop]; omega, hst⟩
   ·dsimp only;rw [List.length_append]; simp only [List.length_singleton]; omega
  ·have hop : ¬ pts[a.toNat]!.op = 11 := by assumption
   have hC0 : C = [] := List.eq_nil_of_length_eq_zero (by omega)
   subst hC0
   have hst := He hop hout (Mm (by omega)) hw2
   rw [hat] at hst
   have hk := hk 1 (by omega)
   (apply dV (pts[a.toNat]!.next[1]!, _, _, []);focus (refine Le.ren [(0, 2)] rfl (by decide) ?_ ?_ <;> repeat' (first|exact trivial|refine And.intro ⟨_, rfl, ?_⟩ ?_|refine And.intro ⟨_, _, rfl, rfl, ?_⟩ ?_|exact Or.inr rfl|refine Or.inl ⟨?_, (by first|rfl|exact aZ _ _|exact Pur.pf)⟩|rfl)))
   ·exact ⟨hk, by dsimp only;rw [List.length_append, hm]; rfl, hC, hst⟩
   ·dsimp only;rw [List.length_append]; simp only [List.length_singleton]; omega
 ·have hw2 : out.length = n + 1 ∧ wm pts n 0 cs = (out.take n, false) := by
   rcases hw with h|h
   ·omega
   ·exact h
  repeat' (first|(apply aK;first|((apply gB (d := 59) (l := 0) (h := n));(case hx|hn|hl => rfl);(case hh => exact gP rfl (by omega));(case hp => exact if_pos (by omega));(case hN => rfl))|(apply aE;rfl;rfl)|(apply aS;rfl;rfl;rfl;rfl)|(apply aC;rfl;rfl)|(apply a8;rfl;rfl;rfl)|(apply aF;kernel_rfl))|(apply aL;first|apply aH|apply aB|(apply aN;rfl;all_goals intro hc;have hq:=hc;(try simp only [cH] at hq);try exfalso;omega)|apply bI|apply aP)|with_reducible apply aA|with_reducible apply bJ|with_reducible apply bG)
  refine cE (Le.cut (i := 0) (n * 1) rfl) ?_
  refine cE (Le.frzD (d := 6) (i := 0) rfl rfl) ?_
  rw [hw2.2, eV cI (e := 1)]
  refine aO (l := [.imm (n - 0) (flat cI (out.take n)), bv false]) rfl ⟨?_, (by (exact Pur.pf))⟩
  rw [mS (by rw [List.length_take]; omega)]
  rfl
theorem IQ {p:Prg}{cs:List Int}{n:Int}{N:Nat}{Q:Exit → AS → Prop}{all:Array Oper}{rest:List Oper}{tsl:List (Nat × AV)}{hsl:List (Nat × Option (List AV))}{nidl:Nat}{z0:Lo}{md:Md}{d:Nat}{ty:TypeId}{pos:String}{af:Array Edge}{tys:Array TypeId}{x0 x1 x2:Operand}(ha0:ev (lk tsl) x0 = some (dH p)) (ha1:ev (lk tsl) x1 = some (sl cI cs)) (ha2:ev (lk tsl) x2 = some (iv n)) (hmc:MC Tryz.prog 67 [dH p,sl cI cs,iv n] [] 0 (fun _:Unit => True) (fun _ => .tup [.optr 1 0,iv 5,iv 0]) (fun _ => [(1,some ([.v (.pointer none),.imm 0 [],.imm 0 [],.imm 0 []]))])) (hM:Nat.ble (nidl + 2) dJ = true) (hN:Nat.blt d N = true){md':Md}[hmd:MdA md (hO [x0,x1,x2] ++ []) (List.map Sum.inr (List.map Prod.fst ([((nidl + 1),some ([.v (.pointer none),.imm 0 [],.imm 0 [],.imm 0 []]))]:List (Nat × Option (List AV)))) ++ [.inl d]) md'] (kk:RW Tryz.prog N all Q md' rest ⟨(d,.tup [.optr (nidl + 1) 0,iv 5,iv 0]) :: tsl,iY hsl [((nidl + 1),some ([.v (.pointer none),.imm 0 [],.imm 0 [],.imm 0 []]))],nidl + 2,z0⟩):RW Tryz.prog N all Q md (⟨some d,.call ⟨.value (.func 67),#[x0,x1,x2],tys⟩,ty,pos,af,none⟩ :: rest) ⟨tsl,hsl,nidl,z0⟩ := by
 refine cL [] 2 [((nidl + 1), some ([.v (.pointer none), .imm 0 [], .imm 0 [], .imm 0 []]))] hmc (avs := [dH p, sl cI cs, iv n]) ?_ rfl ?_ rfl ?_ (by simpa using hM) ?_ ?_ ?_ hN (md' := md') (hmd := hmd) kk
 ·show evL (lk tsl) [x0, x1, x2] = _
  simp only [evL, ha0, ha1, ha2]
 ·exact trivial
 ·(repeat' (exact RnL.purI inferInstance))
 ·(repeat' (first|exact RnL.purI inferInstance|exact RnV.optr rfl|refine RnL.cons ?_ ?_|refine RnV.tup ?_))
 ·simp [dT]
 ·(repeat' (first|exact trivial|(refine And.intro ⟨1, _, rfl, rfl, ?_⟩ ?_)|exact RnL.purI inferInstance))
theorem Le.nilMid {ts:List (Nat × AV)}{hs:List (Nat × Option (List AV))}{n:Nat}{z0:Lo}{i:Nat}(c1:List AV){c2:List AV}(hi:cA hs i = some (c1 ++ .v (.slice none 0 0) :: c2)) :
  Le ⟨ts, hs, n, z0⟩ ⟨ts, (i, some (c1 ++ .imm 0 [] :: c2)) :: hs, n, z0⟩ :=
 Le.cells hi (by simp) fun w bad ι b β h => sK (fun y hy => by have := mA (av := .v (.slice none 0 0)) hy;exact this) c1 c2 b β h
theorem Ls {ts:List Int}{pts:List Pnt}{a last:Nat}{l:List Nat}{s:Mc}:gI ts pts (a :: l) s last = if (e7 ts s pts[a]!).2 = -1 then gI ts pts l (e7 ts s pts[a]!).1 a else ((e7 ts s pts[a]!).1,(e7 ts s pts[a]!).2,a) := by
 rw [gI]
 by_cases h : dB ts s pts[a]! = true
 ·rw [if_pos h, v7 h, if_neg (show ¬ (2 : Int) = -1 by decide)]
 ·have h2 : dB ts s pts[a]! = false := by simpa using h
  rw [if_neg h, rT h2]
theorem Mt {ts:List Int}{nt:Nat}{s:Mc}(h:OkS nt s){x:Pnt}(hx:PtN x):OkS nt (e7 ts s x).1 := by
 unfold e7;split
 ·exact h
 ·exact h.do hx
theorem JN {ts:List Int}{s:Mc}{x:Pnt}:(e7 ts s x).1.read.length ≤ s.read.length + 1 := by
 unfold e7;split
 ·dsimp only;omega
 ·exact Bb
theorem M9 {ts:List Int}{s:Mc}{x:Pnt}(ho:x.op = 6) (hz:cS s.cells s.slots[x.y.toNat]!.ptr false = 0) (hu:dB ts s x = false) (ht:ts[x.x.toNat]! = 1):(e7 ts s x).2 = -1 := by
 rw [rT hu]
 unfold dF
 rw [if_neg (show ¬ x.op = 1 by omega), if_neg (show ¬ x.op = 2 by omega), if_neg (show ¬ x.op = 3 by omega), if_neg (show ¬ (x.op = 4 ∨ x.op = 5) by omega), if_pos ho, if_pos hz]
 unfold dN
 rw [if_neg (fun h => by have := h.1;omega)]
theorem KI (p:Prg) (cs:List Int) (n:Int) (hl:p.types.length ≤ 1000000) (hs:bO p.body ≤ 1000000) (hr:LX p n = false):MC Tryz.prog 67 [dH p,sl cI cs,iv n] [] 0 (fun _:Unit => True) (fun _ => .tup [.optr 1 0,iv 5,iv 0]) (fun _ => [(1,some ([.v (.pointer none),.imm 0 [],.imm 0 [],.imm 0 []]))]) := by
 have hg := nE p hl hs
 unfold LX at hr
 by_cases hv : cP p = true
 ·rw [if_pos hv] at hg
  rw [hv] at hr
  have hnn : ¬ (0 ≤ n ∧ n ≤ 150) := fun h => by rw [decide_eq_true h.1, decide_eq_true h.2] at hr;cases hr
  (refine cC Tryz.func67 rfl (by simp [Tryz.ntmps67]) ?_; rw [Tryz.ntmps67])
  repeat' (first|(apply aK;first|((with_reducible apply aI (k := 78));(case ha => rfl);(case h => exact hg);(case hp => (exact Pur.pf));(case hN => rfl))|(apply aE;rfl;rfl)|(apply aU;rfl;rfl;(exact (rfl:_=[_, _]));rfl;rfl;rfl)|(apply aY;rfl;rfl;rfl;(rfl))|(apply aC;rfl;rfl)|(apply bC;rfl;(rfl);rfl;rfl)|((with_reducible apply aI (k := 50));(case ha => rfl);(case h => (apply eA <;> (fail)));(case hp => (rfl));(case hN => rfl))|(apply aF;kernel_rfl)|(apply bW;rfl;(exact (rfl:_=some [_, _, _, _]));(exact (rfl:_=[_, _, _, _]));rfl)|(apply cF;rfl;rfl)|(apply bT;rfl;rfl;rfl;rfl)|(apply b0;rfl;rfl;rfl))|(apply aL;first|apply aH|apply aB|(apply aN;rfl;all_goals intro hc;have hq:=hc;(try simp only [cH] at hq);try exfalso;omega)|apply aP)|with_reducible apply aA|with_reducible apply bH)
  ·(refine aO rfl ?_; refine bY () trivial ?_ ⟨.inr (Eq.trans (b := some _) rfl ?_), trivial⟩)
   ·rfl
   ·rfl
 ·rw [if_neg hv] at hg
  (refine cC Tryz.func67 rfl (by simp [Tryz.ntmps67]) ?_; rw [Tryz.ntmps67])
  repeat' (first|(apply aK;first|((with_reducible apply aI (k := 78));(case ha => rfl);(case h => exact hg);(case hp => (exact Pur.pf));(case hN => rfl))|(apply aE;rfl;rfl)|(apply aU;rfl;rfl;(exact (rfl:_=[_, _]));rfl;rfl;rfl)|(apply a6;rfl;rfl;rfl;(rfl))|(apply aC;rfl;rfl)|(apply bK;rfl;(rfl);rfl;rfl)|(apply aF;kernel_rfl)|(apply bW;rfl;(exact (rfl:_=some [_, _, _, _]));(exact (rfl:_=[_, _, _, _]));rfl)|(apply cF;rfl;rfl)|(apply bT;rfl;rfl;rfl;rfl)|(apply b0;rfl;rfl;rfl))|(apply aL;first|apply aH|apply aB|(apply bU;rfl;(rfl))|apply aP)|with_reducible apply aA|with_reducible apply bH)
  (refine aO rfl ?_; refine bY () trivial ?_ ⟨.inr (Eq.trans (b := some _) rfl ?_), trivial⟩)
  ·rfl
  ·rfl
theorem K1 (p:Prg) (cs:List Int) (n:Nat) (q:Mc × Int × Nat) (hqq:q = dI p.types (bX p) cs n) (hv:cP p = true) (hl:p.types.length ≤ 1000000) (hs:bO p.body ≤ 1000000) (hn:n ≤ 150) (hcl:cs.length ≤ 1000000):MC Tryz.prog 67 [dH p,sl cI cs,iv (n:Int)] [] 0 (fun _:Unit => True) (fun _ => .tup [.optr 2 0,iv q.2.1,iv (q.2.2:Int)]) (fun _ => [(2,some (mO p.types p.body (bX p) 1 3 q.1)),(1,some (flat e5 q.1.slots)),(3,some (flat cI q.1.read))]) := by
 have hg := nE p hl hs
 rw [if_pos hv] at hg
 have w := WG.of_valid hv
 have wa := WA.of_valid hv
 have hru := Lr p.types p.body (bX p) cs n w wa (by omega) hcl
 have htl := w.tl
 have hpl := w.pl
 have hL := Hz w wa n 0 cs w.p0
 have hLl := zU (pts := bX p) n 0 cs
 unfold dI at hqq
 unfold wm at hru
 obtain ⟨L, hLe⟩ : ∃ L, L = (eR (bX p) n 0 cs).1 := ⟨_, rfl⟩
 obtain ⟨dn, hdn⟩ : ∃ dn, dn = (eR (bX p) n 0 cs).2 := ⟨_, rfl⟩
 rw [← hLe, ← hdn] at hru
 rw [← hLe] at hqq hL hLl
 have hgx : ∀ i, i < L.length → (L.map (fun a : Nat => (a : Int)))[i]! = (L[i]! : Int) := fun i h => by rw [cK _ _ (by rw [List.length_map]; exact h), List.getElem_map, cK _ _ h]
 have hml : (L.map (fun a : Nat => (a : Int))).length = L.length := List.length_map _
 generalize (L.map (fun a : Nat => (a : Int))) = LI at *
 generalize hP : bX p = pts at *
 (refine cC Tryz.func67 rfl (by simp [Tryz.ntmps67]) ?_; rw [Tryz.ntmps67])
 repeat' (first|(apply aK;first|((with_reducible apply aI (k := 78));(case ha => rfl);(case h => exact hg);(case hp => (exact Pur.pf));(case hN => rfl))|(with_reducible apply dE (d := 40))|(apply aE;rfl;rfl)|(first|(apply aJ;rfl;rfl;rfl;rfl)|(apply aU;rfl;rfl;(exact (rfl:_=[_, _]));rfl;rfl;rfl))|(apply aD;rfl;rfl;rfl)|(apply aY;rfl;rfl;rfl;(rfl))|(apply aC;rfl;rfl)|(apply bC;rfl;(rfl);rfl;rfl)|((with_reducible apply aI (k := 50));(case ha => rfl);(case h => (apply eA <;> (fail)));(case hp => (rfl));(case hN => rfl))|(apply a8;rfl;rfl;rfl)|(apply aF;kernel_rfl)|(apply cF;rfl;rfl)|(apply bV;rfl;rfl;rfl)|(apply bT;rfl;rfl;rfl;rfl)|(apply b0;rfl;rfl;rfl)|(apply e9;rfl;rfl;rfl;omega;omega;(rfl);rfl;rfl))|(apply aL;first|apply aH|apply aB|(apply aN;rfl;all_goals intro hc;have hq:=hc;(try simp only [cH] at hq);try exfalso;omega)|apply aR)|with_reducible apply aA)
 refine eX ?_
 rw [show (List.replicate p.types.length ([Value.bool false, Value.int .i64 0, Value.int .i64 0, Value.int .i64 0].map AV.v)).flatten = flat e5 (List.replicate p.types.length jZ) from yC rfl]
 apply Bg
 case hl => rfl
 case hf => exact (rfl:_=some [_, _, AV.v (.slice none 0 0), AV.v (.slice none 0 0)])
 case hN => rfl
 repeat' (first|(apply aK;first|(with_reducible apply dE (d := 43))|(apply aC;rfl;rfl)|(apply aF;kernel_rfl)|(apply bT;rfl;rfl;rfl;rfl))|(apply aL;first|apply aH|apply aB)|with_reducible apply aA)
 refine eX (kL ?_ (Le.nilMid (i := 2) [_, _] rfl))
 refine kL ?_ (Le.nilCell (i := 2) 1 [_, _, _] rfl (by decide) (by decide))
 repeat' (first|(apply aK;first|((with_reducible apply aI (k := 119));(case ha => rfl);(case h => exact hru);(case hp => (exact Pur.pf));(case hN => rfl))|(apply aE;rfl;rfl)|(apply aC;rfl;rfl)|(apply a8;rfl;rfl;rfl)|(apply aF;kernel_rfl)|(apply b0;rfl;rfl;rfl))|(apply aL;first|apply aH|apply aB|apply aM)|with_reducible apply aA)
 refine bF (σ := Nat × Mc × Nat) [9, 11, 49, 50] [(9, _), (11, _), (49, _), (50, _)] [] [] (fun k => [(51, iv (k.1 : Int)), (14, iv (k.2.2 : Int))]) (fun k => [(2, some (mO p.types p.body pts 1 3 k.2.1)), (1, some (flat e5 k.2.1.slots)), (3, some (flat cI k.2.1.read))]) (fun k => k.1 ≤ L.length ∧ gI p.types pts (L.drop k.1) k.2.1 k.2.2 = q ∧ OkS p.types.length k.2.1 ∧ k.2.1.read.length ≤ k.1) (fun k => L.length - k.1) (0, mc0 p.types.length, 0) ⟨Nat.zero_le _, hqq.symm, OkS.mc0 _, Nat.le_refl _⟩ rfl rfl (by repeat' (first|exact trivial|refine And.intro rfl ?_)) (by repeat' (first|exact trivial|refine And.intro (.inr rfl) ?_)) ?_
 rintro ⟨i, s, last⟩ ⟨hi, hf, hok, hrd⟩
 dsimp only at hi hf hok hrd ⊢
 by_cases hiL : i < L.length
 ·have hap := hL L[i]! (b9 _ _ hiL)
  have hop := w.op L[i]! hap
  have hwx := w.x L[i]! hap
  have hwy := w.y L[i]! hap
  have hA := wa.a L[i]! hap
  have hg2 := hgx i hiL
  have hdr : L.drop i = L[i]! :: L.drop (i + 1) := by rw [List.drop_eq_getElem_cons hiL, cK _ _ hiL]
  rw [hdr, Ls] at hf
  have hpt : PtN pts[L[i]!]! := ⟨fun h => hA.n (.inr h)⟩
  have hdo := Mt (ts := p.types) hok hpt
  have hdr2 := JN (ts := p.types) (s := s) (x := pts[L[i]!]!)
  by_cases h6 : pts[L[i]!]!.op = 6 ∧ cS s.cells s.slots[(pts[L[i]!]!).y.toNat]!.ptr false = 0 ∧ dB p.types s pts[L[i]!]! = false
  ·have hm6 := LV p.types p.body pts s pts[L[i]!]! htl hok.m hok.l h6.1 (by omega) (by omega) (by omega) h6.2.1 h6.2.2
   repeat' (first|(apply aK;first|(with_reducible apply dE (d := 16))|(apply aJ;rfl;rfl;rfl;rfl)|(apply aS;rfl;rfl;rfl;rfl)|(apply a7;(case hx|hi => rfl);(case hm => (omega));(case hml => (rfl));(case hα | hf|hg => infer_instance);(case hN => rfl))|(apply aF;kernel_rfl))|(apply aL;first|apply aH|apply aB|(apply aN;rfl;all_goals intro hc;have hq:=hc;(try simp only [cH] at hq);try exfalso;omega)|apply aM|apply aR)|with_reducible apply aA)
   refine eX ?_
   rw [hg2]
   repeat' (first|(apply aK;first|((apply Jc (ts := p.types) (bd := p.body) (pts := pts) (s := s) (x := pts[L[i]!]!));(case ha0|ha1|hH0|hH1|hH2|hdd => rfl);(case hmc => exact hm6);(case hM|hN => rfl))|(apply aE;rfl;rfl)|(first|(apply aJ;rfl;rfl;rfl;rfl)|(apply aU;rfl;rfl;(exact (rfl:_=[_, _, _, _, _]));rfl;rfl;rfl))|(apply aD;rfl;rfl;rfl)|(first|(apply bR;rfl;rfl;omega;rfl)|(apply aS;rfl;rfl;rfl;rfl))|(apply aC;rfl;rfl)|(apply a7;(case hx|hi => rfl);(case hm => (assumption));(case hml => (rfl));(case hα | hf|hg => infer_instance);(case hN => rfl))|(apply aF;kernel_rfl)|(apply bV;rfl;rfl;rfl))|(apply aL;first|apply aH|apply aB|(apply aN;rfl;all_goals intro hc;have hq:=hc;(try simp only [cH] at hq);try exfalso;omega)|apply aR|apply aP)|with_reducible apply aA|with_reducible apply bH|with_reducible apply aW|with_reducible apply cX)
   ·exfalso
    have h9 : ¬ (e7 p.types s pts[L[i]!]!).2 = -1 := by assumption
    exact h9 (M9 h6.1 h6.2.1 h6.2.2 (hA.t6 h6.1).1)
   ·(apply dV (i + 1, (e7 p.types s pts[L[i]!]!).1, L[i]!); focus (refine Le.ren [(1, 1), (2, 2), (3, 6)] rfl (by decide) ?_ ?_ <;> repeat' (first | exact trivial | refine And.intro ⟨_, rfl, ?_⟩ ?_ | refine And.intro ⟨_, _, rfl, rfl, ?_⟩ ?_ | exact Or.inr rfl | refine Or.inl ⟨?_, (by first | rfl | exact aZ _ _ | exact Pur.pf)⟩ | refine Or.inr (All2.cons ?_ ?_) | refine All2.cons ?_ ?_ | exact All2.nil | rfl)))
    ·refine ⟨by dsimp only; omega, ?_, hdo, by dsimp only; omega⟩
     dsimp only
     rw [if_pos (by assumption)] at hf
     exact hf
    ·dsimp only;omega
  ·have hmd := MU p.types p.body pts s pts[L[i]!]! htl hok.m hok.l hop (by omega) (fun h => by omega) (fun h h2 => by omega) (fun h => hA.n (.inr h)) h6
   repeat' (first|(apply aK;first|(with_reducible apply dE (d := 16))|(apply aJ;rfl;rfl;rfl;rfl)|(apply aS;rfl;rfl;rfl;rfl)|(apply a7;(case hx|hi => rfl);(case hm => (omega));(case hml => (rfl));(case hα | hf|hg => infer_instance);(case hN => rfl))|(apply aF;kernel_rfl))|(apply aL;first|apply aH|apply aB|(apply aN;rfl;all_goals intro hc;have hq:=hc;(try simp only [cH] at hq);try exfalso;omega)|apply aM|apply aR)|with_reducible apply aA)
   refine eX ?_
   rw [hg2]
   repeat' (first|(apply aK;first|((apply KD (ts := p.types) (bd := p.body) (pts := pts) (s := s) (x := pts[L[i]!]!));(case ha0|ha1|hH0|hH1|hH2|hdd => rfl);(case hmc => exact hmd);(case hM|hN => rfl))|(apply aE;rfl;rfl)|(first|(apply aJ;rfl;rfl;rfl;rfl)|(apply aU;rfl;rfl;(exact (rfl:_=[_, _, _, _, _]));rfl;rfl;rfl))|(apply aD;rfl;rfl;rfl)|(first|(apply bR;rfl;rfl;omega;rfl)|(apply aS;rfl;rfl;rfl;rfl))|(apply aC;rfl;rfl)|(apply a7;(case hx|hi => rfl);(case hm => (assumption));(case hml => (rfl));(case hα | hf|hg => infer_instance);(case hN => rfl))|(apply aF;kernel_rfl)|(apply bV;rfl;rfl;rfl))|(apply aL;first|apply aH|apply aB|(apply aN;rfl;all_goals intro hc;have hq:=hc;(try simp only [cH] at hq);try exfalso;omega)|apply aR|apply aP)|with_reducible apply aA|with_reducible apply bH|with_reducible apply aW|with_reducible apply cX)
   ·have h9 : ¬ (e7 p.types s pts[L[i]!]!).2 = -1 := by assumption
    rw [if_neg h9] at hf
    rw [← hf]
    (refine aO rfl ?_; refine bY () trivial ?_ ⟨.inr (Eq.trans (b := some _) rfl ?_), ⟨.inr (Eq.trans (b := some _) rfl ?_), ⟨.inr (Eq.trans (b := some _) rfl ?_), trivial⟩⟩⟩)
    ·rfl
    ·rfl
    ·rfl
    ·rfl
   ·(apply dV (i + 1, (e7 p.types s pts[L[i]!]!).1, L[i]!); focus (refine Le.ren [(1, 1), (2, 2), (3, 3)] rfl (by decide) ?_ ?_ <;> repeat' (first | exact trivial | refine And.intro ⟨_, rfl, ?_⟩ ?_ | refine And.intro ⟨_, _, rfl, rfl, ?_⟩ ?_ | exact Or.inr rfl | refine Or.inl ⟨?_, (by first | rfl | exact aZ _ _ | exact Pur.pf)⟩ | refine Or.inr (All2.cons ?_ ?_) | refine All2.cons ?_ ?_ | exact All2.nil | rfl)))
    ·refine ⟨by dsimp only; omega, ?_, hdo, by dsimp only; omega⟩
     dsimp only
     rw [if_pos (by assumption)] at hf
     exact hf
    ·dsimp only;omega
 ·repeat' (first | (apply aK; first | (apply aE;rfl;rfl) | (apply aS;rfl;rfl;rfl;rfl) | (apply aC;rfl;rfl) | (apply aF;kernel_rfl)) | (apply aL; first | apply aH | apply aB | (apply aN;rfl;all_goals intro hc;have hq:=hc;(try simp only [cH] at hq);try exfalso;omega) | apply bI | apply aP) | with_reducible apply aA | with_reducible apply bJ | with_reducible apply bG)
  have hie : i = L.length := by omega
  have hq2 : q = (s, 1, last) := by rw [← hf, hie, List.drop_length]; rfl
  rw [hq2]
  (refine aO rfl ?_; refine bY () trivial ?_ ⟨.inr (Eq.trans (b := some _) rfl ?_), ⟨.inr (Eq.trans (b := some _) rfl ?_), ⟨.inr (Eq.trans (b := some _) rfl ?_), trivial⟩⟩⟩)
  ·rfl
  ·rfl
  ·rfl
  ·rfl
theorem GI {p:Prg}{cs:List Int}{n:Int}{q:Mc × Int × Nat}{N:Nat}{Q:Exit → AS → Prop}{all:Array Oper}{rest:List Oper}{tsl:List (Nat × AV)}{hsl:List (Nat × Option (List AV))}{nidl:Nat}{z0:Lo}{md:Md}{d:Nat}{ty:TypeId}{pos:String}{af:Array Edge}{tys:Array TypeId}{x0 x1 x2:Operand}(ha0:ev (lk tsl) x0 = some (dH p)) (ha1:ev (lk tsl) x1 = some (sl cI cs)) (ha2:ev (lk tsl) x2 = some (iv n)) (hmc:MC Tryz.prog 67 [dH p,sl cI cs,iv n] [] 0 (fun _:Unit => True) (fun _ => .tup [.optr 2 0,iv q.2.1,iv (q.2.2:Int)]) (fun _ => [(2,some (mO p.types p.body (bX p) 1 3 q.1)),(1,some (flat e5 q.1.slots)),(3,some (flat cI q.1.read))])) (hM:Nat.ble (nidl + 4) dJ = true) (hN:Nat.blt d N = true){md':Md}[hmd:MdA md (hO [x0,x1,x2] ++ []) (List.map Sum.inr (List.map Prod.fst ([((nidl + 2),some (mO p.types p.body (bX p) (nidl + 1) (nidl + 3) q.1)),((nidl + 1),some (flat e5 q.1.slots)),((nidl + 3),some (flat cI q.1.read))]:List (Nat × Option (List AV)))) ++ [.inl d]) md'] (kk:RW Tryz.prog N all Q md' rest ⟨(d,.tup [.optr (nidl + 2) 0,iv q.2.1,iv (q.2.2:Int)]) :: tsl,iY hsl [((nidl + 2),some (mO p.types p.body (bX p) (nidl + 1) (nidl + 3) q.1)),((nidl + 1),some (flat e5 q.1.slots)),((nidl + 3),some (flat cI q.1.read))],nidl + 4,z0⟩):RW Tryz.prog N all Q md (⟨some d,.call ⟨.value (.func 67),#[x0,x1,x2],tys⟩,ty,pos,af,none⟩ :: rest) ⟨tsl,hsl,nidl,z0⟩ := by
 refine cL [] 4 [((nidl + 2), some (mO p.types p.body (bX p) (nidl + 1) (nidl + 3) q.1)), ((nidl + 1), some (flat e5 q.1.slots)), ((nidl + 3), some (flat cI q.1.read))] hmc (avs := [dH p, sl cI cs, iv n]) ?_ rfl ?_ rfl ?_ (by simpa using hM) ?_ ?_ ?_ hN (md' := md') (hmd := hmd) kk
 ·show evL (lk tsl) [x0, x1, x2] = _
  simp only [evL, ha0, ha1, ha2]
 ·exact trivial
 ·(repeat' (exact RnL.purI inferInstance))
 ·(repeat' (first|exact RnL.purI inferInstance|exact RnV.optr rfl|refine RnL.cons ?_ ?_|refine RnV.tup ?_))
 ·simp [dT]
 ·(repeat' (first|exact trivial|(refine And.intro ⟨1, _, rfl, rfl, ?_⟩ ?_)|(refine And.intro ⟨2, _, rfl, rfl, ?_⟩ ?_)|(refine And.intro ⟨3, _, rfl, rfl, ?_⟩ ?_)|exact RnL.purI inferInstance|exact RnV.purI inferInstance|exact RnV.own rfl|refine RnL.cons ?_ ?_))
theorem wA (p:Prg) (cs:List Int) (most:Int) (hl:p.types.length ≤ 1000000) (hs:bO p.body ≤ 1000000) (hcl:cs.length ≤ 1000000):PC Tryz.prog 24 [dH p,sl cI cs,iv most] (fun r => r = .tup (if LX p most = true then [sl e5 (dI p.types (bX p) cs most.toNat).1.slots,iv (dI p.types (bX p) cs most.toNat).2.1] else [sl e5 [],iv 5])) := by
 by_cases h : LX p most = true
 ·have h' := h
  unfold LX at h'
  simp only [Bool.and_eq_true, decide_eq_true_eq] at h'
  obtain ⟨hv, h0, h1⟩ := h'
  have hru := K1 p cs most.toNat _ rfl hv hl hs (by omega) hcl
  have hok := Lq (cs := cs) (n := most.toNat) hv
  have hrl := Cz (ts := p.types) (pts := bX p) (cs := cs) (n := most.toNat) (by omega)
  have htl := (WG.of_valid hv).tl
  rw [Int.toNat_of_nonneg h0] at hru
  rw [if_pos h]
  have hon := Int.toNat_of_nonneg h0
  have hm := hok.m
  have hml := hm.l
  have hsl := hok.l
  generalize dI p.types (bX p) cs most.toNat = q at *
  (refine aT Tryz.func24 rfl (by simp [Tryz.ntmps24]) ?_; rw [Tryz.ntmps24])
  repeat' (first|(apply aK;first|((apply GI (p := p) (cs := cs) (n := most) (q := q));(case ha0|ha1|ha2 => rfl);(case hmc => exact hru);(case hM|hN => rfl))|(apply aE;rfl;rfl)|(first|(apply aJ;rfl;rfl;rfl;rfl)|(apply aU;rfl;rfl;(exact (rfl:_=[_, _]));rfl;rfl;rfl))|(apply aD;rfl;rfl;rfl)|(apply aC;rfl;rfl)|(apply aF;kernel_rfl)|(apply bV;rfl;rfl;rfl)|(apply bT;rfl;rfl;rfl;rfl)|(apply b0;rfl;rfl;rfl))|(apply aL;first|apply aH|apply aB|apply aP)|with_reducible apply aA)
  refine cE (Le.frzD (d := 6) (i := 2) rfl rfl) ?_
  refine aO (l := [.imm p.types.length (flat e5 q.1.slots), iv q.2.1]) rfl ?_
  rw [mS hsl.symm]
  exact ⟨rfl, by (exact Pur.pf)⟩
 ·rw [if_neg h]
  have h2 : LX p most = false := by simpa using h
  (refine aT Tryz.func24 rfl (by simp [Tryz.ntmps24]) ?_; rw [Tryz.ntmps24])
  repeat' (first|(apply aK;first|((apply IQ (p := p) (cs := cs) (n := most));(case ha0|ha1|ha2 => rfl);(case hmc => exact KI p cs most hl hs h2);(case hM|hN => rfl))|(apply aE;rfl;rfl)|(first|(apply aJ;rfl;rfl;rfl;rfl)|(apply aU;rfl;rfl;(exact (rfl:_=[_, _]));rfl;rfl;rfl))|(apply aD;rfl;rfl;rfl)|(apply aC;rfl;rfl)|(apply aF;kernel_rfl)|(apply bV;rfl;rfl;rfl)|(apply bT;rfl;rfl;rfl;rfl)|(apply b0;rfl;rfl;rfl))|(apply aL;first|apply aH|apply aB|apply aP)|with_reducible apply aA)
  exact aO (l := [sl e5 [], iv 5]) rfl ⟨rfl, rfl⟩
theorem E6 (bs:List UInt8) (p:Nat) (hb:bs.length ≤ 2000) (hp:p ≤ 10000):MC Tryz.prog 118 [.optr 0 0] [(0,some (fE bs p))] 1 (fun x:List Int × Nat => x.1.length ≤ 8 ∧ x.2 ≤ 20000) (fun x => sl cI x.1) (fun x => [(0,some (fE bs x.2))]) := by
 have hn := uC bs p [4, 2, 6, 0, 8] 0 8 (by decide) (by decide)
 (refine cC Tryz.func118 rfl (by simp [Tryz.ntmps118]) ?_; rw [Tryz.ntmps118])
 repeat' (first|(apply aK;first|(apply aE;rfl;rfl)|(apply aC;rfl;rfl)|(apply nQ;rfl;rfl;rfl;rfl;infer_instance;rfl;(rfl);assumption;omega;(decide);(decide);rfl;rfl)|(apply aF;kernel_rfl)|(apply cD;rfl;rfl;rfl;(first|exact (rfl:_=some [_, _, _, _, _])|rfl);rfl;rfl))|(apply aL;first|apply aH|apply aB|apply aM)|with_reducible apply aA)
 refine bF (σ := Int × List Int × Nat × Nat) [0] [(0, _)] [] [] (fun k => [(4, iv k.1), (3, .own 1 0 k.2.2.1 1)]) (fun k => [(0, some (fE bs k.2.2.2)), (1, some (flat cI k.2.1))]) (fun k => (0 ≤ k.1 ∧ k.1 + k.2.1.length ≤ 8) ∧ k.2.2.1 = k.2.1.length ∧ k.2.2.2 ≤ 10001 + k.2.1.length) (fun k => k.1.toNat) (gU bs p [4, 2, 6, 0, 8], [], 0, p + 1) ⟨⟨hn.1, by show _ + ((0 : Nat) : Int) ≤ 8;omega⟩, rfl, by dsimp only;omega⟩ rfl rfl (by repeat' (first|exact trivial|refine And.intro rfl ?_)) (by repeat' (first|exact trivial|refine And.intro (.inr rfl) ?_)) ?_
 rintro ⟨i, xs, m, p'⟩ ⟨⟨hi, hx⟩, hm, hp'⟩
 dsimp only at hi hx hm hp' ⊢
 repeat' (first|(apply aK;first|(apply aE;rfl;rfl)|(first|(apply e6;rfl;rfl;omega;rfl)|(apply aS;rfl;rfl;rfl;rfl))|(apply aC;rfl;rfl)|(apply GM;rfl;rfl;infer_instance;rfl;(rfl);assumption;omega;(decide);(decide);rfl;rfl)|(apply cJ;rfl;rfl;rfl;rfl;rfl;(rw [aQ]; omega);(rfl);omega;omega;(exact lE (by (assumption)));rfl;rfl)|(apply aF;kernel_rfl)|((apply bS (t := _));(case hze|hsm|hl => rfl);(case hfl => (first|exact (rfl:_=some [_])|exact (rfl:_=some [_, _, _, _, _, _])));(case hM|hN => rfl)))|(apply aL;first|apply aH|apply aB|(apply aN;rfl;all_goals intro hc;have hq:=hc;(try simp only [cH] at hq);try exfalso;omega)|apply aM|apply aR|apply bI|apply aP)|with_reducible apply aA|with_reducible apply bJ|with_reducible apply aW|with_reducible apply bG)
 ·(apply dV (i - 1, xs ++ [gU bs p' [0, 1, 0, 1, -1, 2]], m + 1, p' + 1); focus (refine Le.ren [(1, 5)] rfl (by decide) ?_ ?_ <;> repeat' (first | exact trivial | refine And.intro ⟨_, rfl, ?_⟩ ?_ | refine And.intro ⟨_, _, rfl, rfl, ?_⟩ ?_ | exact Or.inr rfl | refine Or.inl ⟨?_, (by first | rfl | exact aZ _ _ | exact Pur.pf)⟩ | rfl)))
  ·refine ⟨⟨by dsimp only; omega, ?_⟩, by dsimp only; rw [List.length_append, hm]; rfl, ?_⟩
   ·dsimp only;rw [List.length_append]; simp only [List.length_singleton]; omega
   ·dsimp only;rw [List.length_append]; simp only [List.length_singleton]; omega
  ·dsimp only;omega
 ·refine cE (Le.frzD (d := 2) (i := 1) rfl rfl) ?_
  refine aO rfl ?_
  refine bY (xs, p') ⟨by dsimp only;omega, by dsimp only;omega⟩ ?_ ⟨.inr rfl, trivial⟩
  show AV.imm m (flat cI xs) = sl cI xs
  rw [hm]
theorem E7 {P:Program}{N:Nat}{Q:Exit → AS → Prop}{all:Array Oper}{rest:List Oper}{ts:List (Nat × AV)}{hs:List (Nat × Option (List AV))}{n:Nat}{z0:Lo}{ty:TypeId}{pos:String}{af:Array Edge}{d:Nat}{args:Array Operand}{tys:Array TypeId}
  {k : FuncId} {p0 : List Int × Nat → Prop} {i p : Nat} {bs : List UInt8} (h : MC P k [.optr 0 0] [(0, some (fE bs p))] 1 p0 (fun x => sl cI x.1) (fun x => [(0, some (fE bs x.2))])) [hc : CaT P k] (ha : evL (lk ts) args.toList = some [.optr i 0])
  (hH : cA hs i = some (fE bs p)) (hM : Nat.ble (n + 0) dJ = true) (hN : Nat.blt d N = true) (kk : ∀ x, p0 x → RW P N all Q .txt rest ⟨(d, sl cI x.1) :: ts, (i, some (fE bs x.2)) :: hs, n + 0, z0⟩) :
  RW P N all Q .txt (⟨some d, .call ⟨.value (.func k), args, tys⟩, ty, pos, af, none⟩ :: rest) ⟨ts, hs, n, z0⟩ :=
 Aq (σ := List Int × Nat) [i] 1 (fun x : List Int × Nat => [(i, some (fE bs x.2))]) h ha rfl ⟨⟨_, _, rfl, hH, RnL.purI inferInstance⟩, trivial⟩ rfl (RnL.cons (RnV.optr rfl) .nil) (by simpa using hM)
  (fun x _ => RnV.purI inferInstance) (fun x _ => by simp [dT]) (fun x _ => ⟨⟨0, _, rfl, rfl, RnL.purI inferInstance⟩, trivial⟩) hN kk
theorem Jy (bs:List UInt8) (hb:bs.length ≤ 1048576):PC Tryz.prog 66 [sl cU bs] (fun r => ∃ (q:Prg) (cs:List Int) (n:Int),r = .tup [dH q,sl cI cs,iv n] ∧ bO q.body ≤ 20000 ∧ q.types.length ≤ 1000 ∧ cs.length ≤ 8 ∧ -1 ≤ n ∧ n ≤ 151) := by
 have hb2 : (bs.take 2000).length ≤ 2000 := by rw [List.length_take]; omega
 (refine aT Tryz.func66 rfl (by simp [Tryz.ntmps66]) ?_; rw [Tryz.ntmps66])
 repeat' (first|(apply aK;first|((with_reducible apply lL (k := 74));(case h => exact Gg (bs.take 2000) 0 hb2 (by decide));(case ha|hpv|hH|hM|hN => rfl);(rintro ⟨q, p1⟩ ⟨hq1, hq2, hq3⟩);(dsimp only at hq1 hq2 hq3))|((with_reducible apply lL (k := 73));(case h => exact AY (bs.take 2000) p1 q hb2 (by omega) (by omega) (by omega));(case ha => rfl);(case hpv => exact Pur.pf);(case hH|hM|hN => rfl);(rintro ⟨q2, p2⟩ ⟨hr1, hr2, hr3⟩);(dsimp only at hr1 hr2 hr3))|((apply E7 (k := 118));(case h => exact E6 (bs.take 2000) p2 hb2 (by omega));(case ha|hH|hM|hN => rfl);(rintro ⟨cs, p3⟩ ⟨hc1, hc2⟩);(dsimp only at hc1 hc2);(have hn9 := uC (bs.take 2000) p3 [100, 150, 60, 5, 0, 151, -1] (-1) 151 (by decide) (by decide)))|(apply aE;rfl;rfl)|(apply aU;rfl;rfl;(exact (rfl:_=[_, _]));rfl;rfl;rfl)|(apply aC;rfl;rfl)|(first|(apply n8;rfl;(apply qW <;> (assumption));rfl;rfl)|(apply nQ;rfl;rfl;rfl;rfl;infer_instance;rfl;(rfl);assumption;omega;(decide);(decide);rfl;rfl))|(apply aF;kernel_rfl)|(apply bB;rfl;rfl)|(apply cD;rfl;rfl;rfl;(exact (rfl:_=some [_, _, _, _, _, _, _]));rfl;rfl)|(apply aV;rfl;rfl;rfl;rfl;rfl;(case hl => (simp;done));(exact (rfl:_=[_, _]))))|(apply aL;first|apply aH|apply aB|(apply bZ;kernel_rfl)|apply aP)|with_reducible apply aA)
 exact aO (l := [dH q2, sl cI cs, iv (gU (bs.take 2000) p3 [100, 150, 60, 5, 0, 151, -1])]) rfl ⟨⟨q2, cs, _, rfl, by omega, by omega, hc1, hn9.1, hn9.2⟩, Pur.pf⟩
theorem xR (bs:List UInt8) (hb:bs.length ≤ 1048576):PC Tryz.prog 16 [sl cU bs] (fun r => ∃ (q:Prg) (cs:List Int) (n:Int),r = .tup [dH q,sl cI cs,iv n] ∧ bO q.body ≤ 20000 ∧ q.types.length ≤ 1000 ∧ cs.length ≤ 8 ∧ -1 ≤ n ∧ n ≤ 151) := by
 (refine aT Tryz.func16 rfl (by simp [Tryz.ntmps16]) ?_; rw [Tryz.ntmps16])
 repeat' (first|(apply aK;first|((with_reducible apply fN (k := 66));(case ha => rfl);(case h => exact Jy bs hb);(case hp => (exact Pur.pf));(case hN => rfl);(rintro _ ⟨q, cs, n, rfl, h1, h2, h3, h4, h5⟩ _))|(apply aE;rfl;rfl)|(apply aC;rfl;rfl)|(apply aF;kernel_rfl)|(apply bB;rfl;rfl)|(apply b0;rfl;rfl;rfl)|(apply aV;rfl;rfl;rfl;rfl;rfl;(case hl => (simp;done));(exact (rfl:_=[_, _]))))|(apply aL;first|apply aH|apply aB|apply aP)|with_reducible apply aA)
 exact aO (l := [dH q, sl cI cs, iv n]) rfl ⟨⟨q, cs, n, rfl, h1, h2, h3, h4, h5⟩, Pur.pf⟩
end Go.Proofs.YtjcpngimjdckmaaGreat
