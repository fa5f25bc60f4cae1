/-
 A part of the proofs over this program: rules and contracts of its functions (the contracts).
-/
import Derived.Test.YtckihjkcgfphmaaGreatP2B03
set_option linter.unusedVariables false
set_option linter.unusedSimpArgs false
set_option maxHeartbeats 8000000
set_option maxRecDepth 4000
attribute [local irreducible] Go.AL.RW Go.AL.AW Go.AL.Stop
namespace Go.Proofs.YtckihjkcgfphmaaGreat
open Go.AL Go.RowKit
theorem FB (ts : List Int) (s : Mc) (x : Pnt) (ho : x.op = 1) (hm : OkM s.cells) (hsl : s.slots.length = ts.length) (hx : 0 ≤ x.x ∧ x.x < ts.length) (hl : ts.length ≤ 1000000) : PC Tryz.prog 91 [sl cI ts, e9 s, eX x] (fun r => r = .tup [e9 (dM ts s x).1, iv (gk (dM ts s x).2)]) := by
 have hp := jP ts s x.x.toNat ⟨true, x.n, ⟨0, 0⟩⟩ hm (by omega) (by omega) (by omega)
 rw [Int.toNat_of_nonneg hx.1] at hp
 have hd : dM ts s x = cR ts s x.x.toNat ⟨true, x.n, ⟨0, 0⟩⟩ := by unfold dM;rw [if_pos ho]
 rw [hd]
 (refine aS Tryz.func91 rfl (by simp [Tryz.ntmps91]) ?_; rw [Tryz.ntmps91])
 repeat' (first|(apply aL;first|((with_reducible apply aJ (k := 144) (avs := [sl cI ts, e9 s, iv x.x, Cp ⟨true, x.n, ⟨0, 0⟩⟩]));(case ha => rfl);(case h => exact hp);(case hp => (exact Pur.pf));(case hN => rfl))|(apply aE;rfl;rfl)|(first|(apply aP;rfl;rfl;rfl;rfl)|(apply aR;rfl;rfl;(exact (rfl:_=[_, _, _]));rfl;rfl;rfl))|(apply aD;rfl;rfl;rfl)|(apply aU;rfl;rfl;rfl;rfl)|(apply aC;rfl;rfl)|(apply aF;kernel_rfl)|(apply bY;rfl;(exact (rfl:_=some [_, _, _, _]));(exact (rfl:_=[_, _, _, _]));rfl)|(apply bA;rfl;rfl;rfl;rfl)|(apply bD;rfl;rfl)|(apply aZ;rfl;rfl;rfl)|(apply aW;rfl;rfl;rfl;rfl;rfl;(case hl => (simp;done));(exact (rfl:_=[_, _, _]))))|(apply aM;first|apply aH|apply aB|(apply aQ;rfl;all_goals intro hc;have hq:=hc;(try simp only [cC] at hq);try exfalso;omega)|apply aN|apply aO)|with_reducible apply aA|with_reducible apply a8|with_reducible apply cA)
 exact aK (l := [e9 (cR ts s x.x.toNat ⟨true, x.n, ⟨0, 0⟩⟩).1, iv (gk (cR ts s x.x.toNat ⟨true, x.n, ⟨0, 0⟩⟩).2)]) rfl ⟨rfl, by (exact Pur.pf)⟩
theorem Fo (ts : List Int) (s : Mc) (x : Pnt) (ho : x.op = 2) (hm : OkM s.cells) (hsl : s.slots.length = ts.length) (hx : 0 ≤ x.x ∧ x.x < ts.length) (hn : 0 ≤ x.n ∧ x.n ≤ 9) (hl : ts.length ≤ 1000000) : PC Tryz.prog 91 [sl cI ts, e9 s, eX x] (fun r => r = .tup [e9 (dM ts s x).1, iv (gk (dM ts s x).2)]) := by
 have hml := hm.l
 have hnc := w5 s.cells hm x.n
 by_cases h2 : s.cells.length = 200
 ·rw [if_neg (by omega)] at hnc
  have hd : dM ts s x = (s, 1) := by unfold dM;rw [if_neg (by omega), if_pos ho, if_pos h2]
  rw [hd]
  (refine aS Tryz.func91 rfl (by simp [Tryz.ntmps91]) ?_; rw [Tryz.ntmps91])
  repeat' (first|(apply aL;first|((with_reducible apply aJ (k := 145));(case ha => rfl);(case h => exact hnc);(case hp => (exact Pur.pf));(case hN => rfl))|(apply aE;rfl;rfl)|(first|(apply aP;rfl;rfl;rfl;rfl)|(apply aR;rfl;rfl;(exact (rfl:_=[_, _, _]));rfl;rfl;rfl))|(apply aD;rfl;rfl;rfl)|(apply aU;rfl;rfl;rfl;rfl)|(apply aC;rfl;rfl)|(apply aF;kernel_rfl)|(apply bW;rfl;rfl)|(apply bA;rfl;rfl;rfl;rfl)|(apply bD;rfl;rfl)|(apply aZ;rfl;rfl;rfl)|(apply aW;rfl;rfl;rfl;rfl;rfl;(case hl => (first|decide|(simp;done)));(first|exact (rfl:_=[_, _])|exact (rfl:_=[_, _, _]))))|(apply aM;first|apply aH|apply aB|(apply bR;rfl;(rfl))|(apply aQ;rfl;all_goals intro hc;have hq:=hc;(try simp only [cC] at hq);try exfalso;omega)|apply aN|apply aO)|with_reducible apply aA|with_reducible apply a8|with_reducible apply cA)
  exact aK (l := [e9 s, iv 1]) rfl ⟨rfl, by (exact Pur.pf)⟩
 ·rw [if_pos (by omega)] at hnc
  have hp := jP ts ⟨s.slots, s.cells ++ [p7 x.n], s.read⟩ x.x.toNat ⟨true, 0, ⟨s.cells.length, 0⟩⟩ (hm.nw hn (by omega)) (by show _ < s.slots.length;omega) (by omega) (by show s.slots.length ≤ _; omega)
  rw [Int.toNat_of_nonneg hx.1] at hp
  have hd : dM ts s x = cR ts ⟨s.slots, s.cells ++ [p7 x.n], s.read⟩ x.x.toNat ⟨true, 0, ⟨s.cells.length, 0⟩⟩ := by unfold dM;rw [if_neg (by omega), if_pos ho, if_neg h2]
  rw [hd]
  (refine aS Tryz.func91 rfl (by simp [Tryz.ntmps91]) ?_; rw [Tryz.ntmps91])
  repeat' (first|(apply aL;first|((with_reducible apply aJ (k := 145));(case ha => rfl);(case h => exact hnc);(case hp => (exact Pur.pf));(case hN => rfl))|((with_reducible apply aJ (k := 144) (avs := [sl cI ts, e9 ⟨s.slots, s.cells ++ [p7 x.n], s.read⟩, iv x.x, Cp ⟨true, 0, ⟨s.cells.length, 0⟩⟩]));(case ha => rfl);(case h => exact hp);(case hp => (exact Pur.pf));(case hN => rfl))|(apply aE;rfl;rfl)|(first|(apply aP;rfl;rfl;rfl;rfl)|(apply aR;rfl;rfl;(first|exact (rfl:_=[_, _])|exact (rfl:_=[_, _, _]));rfl;rfl;rfl))|(apply aD;rfl;rfl;rfl)|(apply aU;rfl;rfl;rfl;rfl)|(apply aC;rfl;rfl)|(apply aF;kernel_rfl)|(apply bY;rfl;(exact (rfl:_=some [_, _, _, _]));(exact (rfl:_=[_, _, _, _]));rfl)|(apply bW;rfl;rfl)|(apply bA;rfl;rfl;rfl;rfl)|(apply bD;rfl;rfl)|(apply aZ;rfl;rfl;rfl)|(apply aW;rfl;rfl;rfl;rfl;rfl;(case hl => (simp;done));(first|exact (rfl:_=[_, _])|exact (rfl:_=[_, _, _]))))|(apply aM;first|apply aH|apply aB|(apply b9;rfl;(rfl))|(apply aQ;rfl;all_goals intro hc;have hq:=hc;(try simp only [cC] at hq);try exfalso;omega)|apply aN|apply aV|apply aO)|with_reducible apply aA|with_reducible apply a8|with_reducible apply cA)
  exact aK (l := [e9 (cR ts ⟨s.slots, s.cells ++ [p7 x.n], s.read⟩ x.x.toNat ⟨true, 0, ⟨s.cells.length, 0⟩⟩).1, iv (gk (cR ts ⟨s.slots, s.cells ++ [p7 x.n], s.read⟩ x.x.toNat ⟨true, 0, ⟨s.cells.length, 0⟩⟩).2)]) rfl ⟨rfl, by (exact Pur.pf)⟩
theorem EI (ts : List Int) (s : Mc) (x : Pnt) (ho : x.op = 3) (hm : OkM s.cells) (hsl : s.slots.length = ts.length) (hx : 0 ≤ x.x ∧ x.x < ts.length) (hy : 0 ≤ x.y ∧ x.y < ts.length) (hl : ts.length ≤ 1000000) : PC Tryz.prog 91 [sl cI ts, e9 s, eX x] (fun r => r = .tup [e9 (dM ts s x).1, iv (gk (dM ts s x).2)]) := by
 have hmv := Cu ts s x hm hsl hx hy hl
 have hd : dM ts s x = cR ts (if yO ts[x.y.toNat]! = true then ⟨s.slots.set x.y.toNat kG, s.cells, s.read⟩ else s) x.x.toNat s.slots[x.y.toNat]! := by unfold dM;rw [if_neg (by omega), if_neg (by omega), if_pos ho]
 rw [← hd] at hmv
 (refine aS Tryz.func91 rfl (by simp [Tryz.ntmps91]) ?_; rw [Tryz.ntmps91])
 repeat' (first|(apply aL;first|((with_reducible apply aJ (k := 146));(case ha => rfl);(case h => exact hmv);(case hp => (exact Pur.pf));(case hN => rfl))|(apply aE;rfl;rfl)|(first|(apply aP;rfl;rfl;rfl;rfl)|(apply aR;rfl;rfl;(first|exact (rfl:_=[_, _, _])|exact (rfl:_=[_, _, _, _, _]));rfl;rfl;rfl))|(apply aD;rfl;rfl;rfl)|(apply aU;rfl;rfl;rfl;rfl)|(apply aC;rfl;rfl)|(apply aF;kernel_rfl)|(apply bA;rfl;rfl;rfl;rfl)|(apply bD;rfl;rfl)|(apply aZ;rfl;rfl;rfl)|(apply aW;rfl;rfl;rfl;rfl;rfl;(case hl => (simp;done));(exact (rfl:_=[_, _, _]))))|(apply aM;first|apply aH|apply aB|(apply aQ;rfl;all_goals intro hc;have hq:=hc;(try simp only [cC] at hq);try exfalso;omega)|apply aN|apply aO)|with_reducible apply aA|with_reducible apply a8|with_reducible apply cA)
 exact aK (l := [e9 (dM ts s x).1, iv (gk (dM ts s x).2)]) rfl ⟨rfl, by (exact Pur.pf)⟩
theorem Dj (ts : List Int) (s : Mc) (x : Pnt) (ho : x.op = 4 ∨ x.op = 5) (hm : OkM s.cells) (hsl : s.slots.length = ts.length) (hx : 0 ≤ x.x ∧ x.x < ts.length) (hy : 0 ≤ x.y ∧ x.y < ts.length) (hl : ts.length ≤ 1000000) : PC Tryz.prog 91 [sl cI ts, e9 s, eX x] (fun r => r = .tup [e9 (dM ts s x).1, iv (gk (dM ts s x).2)]) := by
 have hmk := AZ ts s x (decide (x.op = 5)) rfl hm hsl hx hy hl
 have h0 : dM ts s x = (if j1 s.cells s.slots[x.y.toNat]!.ptr (decide (x.op = 5)) = 0 then cR ts ⟨s.slots, kW s.cells s.slots[x.y.toNat]!.ptr (decide (x.op = 5)), s.read⟩ x.x.toNat ⟨true, 0, nN s.cells s.slots[x.y.toNat]!.ptr (decide (x.op = 5))⟩
   else (s, eU (j1 s.cells s.slots[x.y.toNat]!.ptr (decide (x.op = 5))))) := by
  unfold dM;rw [if_neg (show ¬ x.op = 1 by omega), if_neg (show ¬ x.op = 2 by omega), if_neg (show ¬ x.op = 3 by omega), if_pos ho]
 have hd : ∀ r, (r = if j1 s.cells s.slots[x.y.toNat]!.ptr (decide (x.op = 5)) = 0 then
   AV.tup [e9 (cR ts ⟨s.slots, kW s.cells s.slots[x.y.toNat]!.ptr (decide (x.op = 5)), s.read⟩ x.x.toNat ⟨true, 0, nN s.cells s.slots[x.y.toNat]!.ptr (decide (x.op = 5))⟩).1, iv (gk (cR ts ⟨s.slots, kW s.cells s.slots[x.y.toNat]!.ptr (decide (x.op = 5)), s.read⟩ x.x.toNat ⟨true, 0, nN s.cells s.slots[x.y.toNat]!.ptr (decide (x.op = 5))⟩).2)]
   else AV.tup [e9 s, iv (eU (j1 s.cells s.slots[x.y.toNat]!.ptr (decide (x.op = 5))))]) = (r = AV.tup [e9 (dM ts s x).1, iv (gk (dM ts s x).2)]) := by
  intro r
  rw [h0]
  by_cases hk : j1 s.cells s.slots[x.y.toNat]!.ptr (decide (x.op = 5)) = 0
  ·rw [if_pos hk, if_pos hk]
  ·rw [if_neg hk, if_neg hk]
   have : ∀ k, gk (eU k) = eU k := fun k => by unfold gk eU;split <;> rfl
   dsimp only
   rw [this]
 simp only [hd] at hmk
 (refine aS Tryz.func91 rfl (by simp [Tryz.ntmps91]) ?_; rw [Tryz.ntmps91])
 repeat' (first|(apply aL;first|((with_reducible apply aJ (k := 147));(case ha => rfl);(case h => exact hmk);(case hp => (exact Pur.pf));(case hN => rfl))|(apply aE;rfl;rfl)|(first|(apply aP;rfl;rfl;rfl;rfl)|(apply aR;rfl;rfl;(first|exact (rfl:_=[_, _, _])|exact (rfl:_=[_, _, _, _, _]));rfl;rfl;rfl))|(apply aD;rfl;rfl;rfl)|(apply aU;rfl;rfl;rfl;rfl)|(apply aC;rfl;rfl)|(apply aF;kernel_rfl)|(apply bA;rfl;rfl;rfl;rfl)|(apply bD;rfl;rfl)|(apply aZ;rfl;rfl;rfl)|(apply aW;rfl;rfl;rfl;rfl;rfl;(case hl => (simp;done));(exact (rfl:_=[_, _, _]))))|(apply aM;first|apply aH|apply aB|(apply bR;rfl;(assumption))|(apply aQ;rfl;all_goals intro hc;have hq:=hc;(try simp only [cC] at hq);try exfalso;omega)|apply aN|apply aV|apply aO)|with_reducible apply aA|with_reducible apply a8|with_reducible apply cA)
 all_goals exact aK (l := [e9 (dM ts s x).1, iv (gk (dM ts s x).2)]) rfl ⟨rfl, by (exact Pur.pf)⟩
theorem EA (ts : List Int) (s : Mc) (x : Pnt) (ho : x.op = 6) (hm : OkM s.cells) (hsl : s.slots.length = ts.length) (hx : 0 ≤ x.x ∧ x.x < ts.length) (hy : 0 ≤ x.y ∧ x.y < ts.length) (hl : ts.length ≤ 1000000) (hrl : s.read.length ≤ 1000000) : PC Tryz.prog 91 [sl cI ts, e9 s, eX x] (fun r => r = .tup [e9 (dM ts s x).1, iv (gk (dM ts s x).2)]) := by
 have hrd := m2 s.cells hm s.slots[x.y.toNat]!.ptr
 have h0 : dM ts s x = (if cD s.cells s.slots[x.y.toNat]!.ptr false = 0 then cR ts ⟨s.slots, dT s.cells s.slots[x.y.toNat]!.ptr false, s.read ++ [lV s.cells s.slots[x.y.toNat]!.ptr]⟩ x.x.toNat ⟨true, lV s.cells s.slots[x.y.toNat]!.ptr, ⟨0, 0⟩⟩
   else (s, eU (cD s.cells s.slots[x.y.toNat]!.ptr false))) := by
  unfold dM;rw [if_neg (show ¬ x.op = 1 by omega), if_neg (show ¬ x.op = 2 by omega), if_neg (show ¬ x.op = 3 by omega), if_neg (show ¬ (x.op = 4 ∨ x.op = 5) by omega), if_pos ho]
 have hp := jP ts ⟨s.slots, dT s.cells s.slots[x.y.toNat]!.ptr false, s.read ++ [lV s.cells s.slots[x.y.toNat]!.ptr]⟩ x.x.toNat ⟨true, lV s.cells s.slots[x.y.toNat]!.ptr, ⟨0, 0⟩⟩ (hm.tch _ _) (by show _ < s.slots.length;omega) (by omega) (by show s.slots.length ≤ _; omega)
 rw [Int.toNat_of_nonneg hx.1] at hp
 by_cases hk : cD s.cells s.slots[x.y.toNat]!.ptr false = 0
 ·rw [if_pos hk] at h0
  rw [h0]
  (refine aS Tryz.func91 rfl (by simp [Tryz.ntmps91]) ?_; rw [Tryz.ntmps91])
  repeat' (first|(apply aL;first|((with_reducible apply aJ (k := 148));(case ha => rfl);(case h => exact hrd);(case hp => (exact Pur.pf));(case hN => rfl))|(with_reducible apply cF (d := 105))|(apply aE;rfl;rfl)|(first|(apply aP;rfl;rfl;rfl;rfl)|(apply aR;rfl;rfl;(exact (rfl:_=[_, _]));rfl;rfl;rfl))|(apply aD;rfl;rfl;rfl)|(apply aU;rfl;rfl;rfl;rfl)|(apply aC;rfl;rfl)|(apply cM;(case hx|hi => rfl);(case hm => (omega));(case hml => (rfl));(case hα | hf|hg => infer_instance);(case hN => rfl))|(apply bV;rfl;rfl;rfl;rfl;rfl;(case hl => first|(rw [aT]; omega)|(simp [aT]; done));(first|rfl|exact gF (by (rfl)));omega;omega;(first|exact dW (by (omega))|exact fW (by (omega)));rfl;rfl)|(apply aF;kernel_rfl)|(apply bA;rfl;rfl;rfl;rfl)|(apply bD;rfl;rfl)|(apply aZ;rfl;rfl;rfl)|(apply bQ;rfl;rfl;rfl;(first|exact (rfl:_=some [_])|rfl);rfl;rfl)|(apply aW;rfl;rfl;rfl;rfl;rfl;(case hl => (simp;done));(exact (rfl:_=[_, _, _]))))|(apply aM;first|apply aH|apply aB|(apply bZ;kernel_rfl)|(apply aQ;rfl;all_goals intro hc;have hq:=hc;(try simp only [cC] at hq);try exfalso;omega)|apply aN|apply aV)|with_reducible apply aA)
  refine dB (gI ?_ (Le.frzC (j := 0) (i := 6) [sl dK s.slots, sl cK (dT s.cells s.slots[x.y.toNat]!.ptr false)] (m := 0 + s.read.length + 1) (d := aI cI (s.read ++ [lV s.cells s.slots[x.y.toNat]!.ptr])) rfl rfl (by decide)))
  have e : AV.imm (0 + s.read.length + 1) (aI cI (s.read ++ [lV s.cells s.slots[x.y.toNat]!.ptr])) = sl cI (s.read ++ [lV s.cells s.slots[x.y.toNat]!.ptr]) := eH (by rw [Nat.zero_add, List.length_append]; rfl)
  rw [e]
  repeat' (first|(apply aL;first|((with_reducible apply aJ (k := 144) (avs := [sl cI ts, e9 ⟨s.slots, dT s.cells s.slots[x.y.toNat]!.ptr false, s.read ++ [lV s.cells s.slots[x.y.toNat]!.ptr]⟩, iv x.x, Cp ⟨true, lV s.cells s.slots[x.y.toNat]!.ptr, ⟨0, 0⟩⟩]));(case ha => rfl);(case h => exact hp);(case hp => (exact Pur.pf));(case hN => rfl))|(apply aE;rfl;rfl)|(first|(apply aP;rfl;rfl;rfl;rfl)|(apply aR;rfl;rfl;(exact (rfl:_=[_, _, _]));rfl;rfl;rfl))|(apply aD;rfl;rfl;rfl)|(apply aC;rfl;rfl)|(apply aF;kernel_rfl)|(apply bY;rfl;(exact (rfl:_=some [_, _, _, _]));(exact (rfl:_=[_, _, _, _]));rfl)|(apply aZ;rfl;rfl;rfl)|(apply aW;rfl;rfl;rfl;rfl;rfl;(case hl => (simp;done));(exact (rfl:_=[_, _, _]))))|(apply aM;(apply aO))|with_reducible apply aA|with_reducible apply a8|with_reducible apply cA)
  exact aK (l := [e9 (cR ts ⟨s.slots, dT s.cells s.slots[x.y.toNat]!.ptr false, s.read ++ [lV s.cells s.slots[x.y.toNat]!.ptr]⟩ x.x.toNat ⟨true, lV s.cells s.slots[x.y.toNat]!.ptr, ⟨0, 0⟩⟩).1, iv (gk (cR ts ⟨s.slots, dT s.cells s.slots[x.y.toNat]!.ptr false, s.read ++ [lV s.cells s.slots[x.y.toNat]!.ptr]⟩ x.x.toNat ⟨true, lV s.cells s.slots[x.y.toNat]!.ptr, ⟨0, 0⟩⟩).2)]) rfl ⟨rfl, by (exact Pur.pf)⟩
 ·rw [if_neg hk] at h0
  rw [h0]
  have e4 : dT s.cells s.slots[x.y.toNat]!.ptr false = s.cells := by unfold dT;rw [if_neg hk]
  rw [e4] at hrd
  (refine aS Tryz.func91 rfl (by simp [Tryz.ntmps91]) ?_; rw [Tryz.ntmps91])
  repeat' (first|(apply aL;first|((with_reducible apply aJ (k := 148));(case ha => rfl);(case h => exact hrd);(case hp => (exact Pur.pf));(case hN => rfl))|(apply aE;rfl;rfl)|(first|(apply aP;rfl;rfl;rfl;rfl)|(apply aR;rfl;rfl;(first|exact (rfl:_=[_, _])|exact (rfl:_=[_, _, _]));rfl;rfl;rfl))|(apply aD;rfl;rfl;rfl)|(apply aU;rfl;rfl;rfl;rfl)|(apply aC;rfl;rfl)|(apply cM;(case hx|hi => rfl);(case hm => (omega));(case hml => (rfl));(case hα | hf|hg => infer_instance);(case hN => rfl))|((with_reducible apply aJ (k := 142));(case ha => rfl);(case h => (apply jB <;> (fail)));(case hp => (rfl));(case hN => rfl))|(apply aF;kernel_rfl)|(apply bA;rfl;rfl;rfl;rfl)|(apply bD;rfl;rfl)|(apply aZ;rfl;rfl;rfl)|(apply aW;rfl;rfl;rfl;rfl;rfl;(case hl => (simp;done));(exact (rfl:_=[_, _, _]))))|(apply aM;first|apply aH|apply aB|(apply bZ;kernel_rfl)|(apply aQ;rfl;all_goals intro hc;have hq:=hc;(try simp only [cC] at hq);try exfalso;omega)|apply aN|apply aO)|with_reducible apply aA|with_reducible apply a8|with_reducible apply cA)
  refine aK (l := [e9 s, iv (if cD s.cells s.slots[x.y.toNat]!.ptr false = 1 then 3 else if cD s.cells s.slots[x.y.toNat]!.ptr false = 0 then 0 else 4)]) rfl ?_
  rw [rS hk]
  have : ∀ k, gk (eU k) = eU k := fun k => by unfold gk eU;split <;> rfl
  dsimp only
  rw [this]
  exact ⟨rfl, by (exact Pur.pf)⟩
theorem EO (ts : List Int) (s : Mc) (x : Pnt) (ho : x.op = 7) (hm : OkM s.cells) (hsl : s.slots.length = ts.length) (hx : 0 ≤ x.x ∧ x.x < ts.length) (hy : 0 ≤ x.y ∧ x.y < ts.length) (hl : ts.length ≤ 1000000) : PC Tryz.prog 91 [sl cI ts, e9 s, eX x] (fun r => r = .tup [e9 (dM ts s x).1, iv (gk (dM ts s x).2)]) := by
 have hwr := rR s.cells hm s.slots[x.x.toNat]!.ptr s.slots[x.y.toNat]!.num
 have h0 : dM ts s x = (⟨s.slots, vP s.cells s.slots[x.x.toNat]!.ptr s.slots[x.y.toNat]!.num, s.read⟩, lD (rI s.cells s.slots[x.x.toNat]!.ptr s.slots[x.y.toNat]!.num)) := by
  unfold dM;rw [if_neg (show ¬ x.op = 1 by omega), if_neg (show ¬ x.op = 2 by omega), if_neg (show ¬ x.op = 3 by omega), if_neg (show ¬ (x.op = 4 ∨ x.op = 5) by omega), if_neg (show ¬ x.op = 6 by omega), if_pos ho]
 rw [h0]
 (refine aS Tryz.func91 rfl (by simp [Tryz.ntmps91]) ?_; rw [Tryz.ntmps91])
 repeat' (first|(apply aL;first|((with_reducible apply aJ (k := 149));(case ha => rfl);(case h => exact hwr);(case hp => (exact Pur.pf));(case hN => rfl))|(apply aE;rfl;rfl)|(first|(apply aP;rfl;rfl;rfl;rfl)|(apply aR;rfl;rfl;(first|exact (rfl:_=[_, _])|exact (rfl:_=[_, _, _]));rfl;rfl;rfl))|(apply aD;rfl;rfl;rfl)|(apply aU;rfl;rfl;rfl;rfl)|(apply aC;rfl;rfl)|(apply cM;(case hx|hi => rfl);(case hm => (omega));(case hml => (rfl));(case hα | hf|hg => infer_instance);(case hN => rfl))|((with_reducible apply aJ (k := 142));(case ha => rfl);(case h => (apply jB <;> (fail)));(case hp => (rfl));(case hN => rfl))|(apply aF;kernel_rfl)|(apply bA;rfl;rfl;rfl;rfl)|(apply bD;rfl;rfl)|(apply aZ;rfl;rfl;rfl)|(apply aW;rfl;rfl;rfl;rfl;rfl;(case hl => (simp;done));(exact (rfl:_=[_, _, _]))))|(apply aM;first|apply aH|apply aB|(apply bZ;kernel_rfl)|(apply aQ;rfl;all_goals intro hc;have hq:=hc;(try simp only [cC] at hq);try exfalso;omega)|apply aN|apply aO)|with_reducible apply aA|with_reducible apply a8|with_reducible apply cA)
 refine aK (l := [e9 ⟨s.slots, vP s.cells s.slots[x.x.toNat]!.ptr s.slots[x.y.toNat]!.num, s.read⟩, iv (if rI s.cells s.slots[x.x.toNat]!.ptr s.slots[x.y.toNat]!.num = 1 then 3 else if rI s.cells s.slots[x.x.toNat]!.ptr s.slots[x.y.toNat]!.num = 0 then 0 else 4)]) rfl ?_
 rw [← BZ]
 exact ⟨rfl, by (exact Pur.pf)⟩
theorem Ew (ts : List Int) (s : Mc) (x : Pnt) (ho : x.op = 8) (hm : OkM s.cells) (hsl : s.slots.length = ts.length) (hx : 0 ≤ x.x ∧ x.x < ts.length) (hl : ts.length ≤ 1000000) : PC Tryz.prog 91 [sl cI ts, e9 s, eX x] (fun r => r = .tup [e9 (dM ts s x).1, iv (gk (dM ts s x).2)]) := by
 have hfr := jZ s.cells hm s.slots[x.x.toNat]!.ptr
 have hcl := mN ⟨s.slots, jW s.cells s.slots[x.x.toNat]!.ptr, s.read⟩ x.x.toNat (by show _ < s.slots.length;omega) (by show s.slots.length ≤ _; omega)
 rw [Int.toNat_of_nonneg hx.1] at hcl
 have h0 : dM ts s x = (⟨s.slots.set x.x.toNat kG, jW s.cells s.slots[x.x.toNat]!.ptr, s.read⟩, lD (cD s.cells s.slots[x.x.toNat]!.ptr true)) := by
  unfold dM;rw [if_neg (show ¬ x.op = 1 by omega), if_neg (show ¬ x.op = 2 by omega), if_neg (show ¬ x.op = 3 by omega), if_neg (show ¬ (x.op = 4 ∨ x.op = 5) by omega), if_neg (show ¬ x.op = 6 by omega), if_neg (show ¬ x.op = 7 by omega), if_pos ho]
 rw [h0]
 (refine aS Tryz.func91 rfl (by simp [Tryz.ntmps91]) ?_; rw [Tryz.ntmps91])
 repeat' (first|(apply aL;first|((with_reducible apply aJ (k := 141));(case ha => rfl);(case h => exact hfr);(case hp => (exact Pur.pf));(case hN => rfl))|((with_reducible apply aJ (k := 143));(case ha => rfl);(case h => exact hcl);(case hp => (exact Pur.pf));(case hN => rfl))|(apply aE;rfl;rfl)|(first|(apply aP;rfl;rfl;rfl;rfl)|(apply aR;rfl;rfl;(first|exact (rfl:_=[_, _])|exact (rfl:_=[_, _, _]));rfl;rfl;rfl))|(apply aD;rfl;rfl;rfl)|(apply aU;rfl;rfl;rfl;rfl)|(apply aC;rfl;rfl)|(apply cM;(case hx|hi => rfl);(case hm => (omega));(case hml => (rfl));(case hα | hf|hg => infer_instance);(case hN => rfl))|((with_reducible apply aJ (k := 142));(case ha => rfl);(case h => (apply jB <;> (fail)));(case hp => (rfl));(case hN => rfl))|(apply aF;kernel_rfl)|(apply bA;rfl;rfl;rfl;rfl)|(apply bD;rfl;rfl)|(apply aZ;rfl;rfl;rfl)|(apply aW;rfl;rfl;rfl;rfl;rfl;(case hl => (simp;done));(exact (rfl:_=[_, _, _]))))|(apply aM;first|apply aH|apply aB|(apply bZ;kernel_rfl)|(apply aQ;rfl;all_goals intro hc;have hq:=hc;(try simp only [cC] at hq);try exfalso;omega)|apply aN|apply aO)|with_reducible apply aA|with_reducible apply a8|with_reducible apply cA)
 refine aK (l := [e9 ⟨s.slots.set x.x.toNat kG, jW s.cells s.slots[x.x.toNat]!.ptr, s.read⟩, iv (if cD s.cells s.slots[x.x.toNat]!.ptr true = 1 then 3 else if cD s.cells s.slots[x.x.toNat]!.ptr true = 0 then 0 else 4)]) rfl ?_
 rw [← BZ]
 exact ⟨rfl, by (exact Pur.pf)⟩
def Fs (s : Mc) (x : Pnt) : Bool :=
 if x.op = 3 ∨ x.op = 4 ∨ x.op = 5 ∨ x.op = 6 then !s.slots[x.y.toNat]!.set
 else if x.op = 7 then !s.slots[x.x.toNat]!.set || !s.slots[x.y.toNat]!.set
 else if x.op = 8 then !s.slots[x.x.toNat]!.set else false
theorem zL (s : Mc) (x : Pnt) (hx : (x.op = 7 ∨ x.op = 8) → 0 ≤ x.x ∧ x.x < s.slots.length) (hy : (x.op = 3 ∨ x.op = 4 ∨ x.op = 5 ∨ x.op = 6 ∨ x.op = 7) → 0 ≤ x.y ∧ x.y < s.slots.length) : PC Tryz.prog 90 [eX x, e9 s] (fun r => r = bv (Fs s x)) := by
 (refine aS Tryz.func90 rfl (by simp [Tryz.ntmps90]) ?_; rw [Tryz.ntmps90])
 repeat' (first|(apply aL;first|(apply aE;rfl;rfl)|(apply aP;rfl;rfl;rfl;rfl)|(apply aD;rfl;rfl;rfl)|(first|(apply aY;rfl;rfl;rfl;(assumption))|(apply a7;rfl;rfl;rfl;(assumption))|(apply bE;(case hj|hb|hN => rfl);all_goals (intro hg;have hq := hg;(try simp only [cC] at hq);(try (exfalso;omega)))))|(apply aU;rfl;rfl;rfl;rfl)|(apply aC;rfl;rfl)|(first|(apply bJ;rfl;(assumption);rfl;rfl)|(apply bC;rfl;(assumption);rfl;rfl))|(apply cM;(case hx|hi => rfl);(case hm => (omega));(case hml => (rfl));(case hα | hf|hg => infer_instance);(case hN => rfl))|(apply aF;kernel_rfl)|(apply bW;rfl;rfl)|(apply bA;rfl;rfl;rfl;rfl))|(apply aM;first|apply aH|apply aB|(apply bR;rfl;(assumption))|(apply aQ;rfl;all_goals intro hc;have hq:=hc;(try simp only [cC] at hq);try exfalso;omega)|apply aN|apply aV|apply aO)|with_reducible apply aA|with_reducible apply a8|with_reducible apply aX|with_reducible apply cA)
 all_goals (refine aK rfl ⟨?_, rfl⟩; simp only [bX, AV.v.injEq, Value.bool.injEq]; unfold Fs;grind)
theorem tA {ts : List Int} {n v : Nat} {q : Mc} (h : ¬ (ts[v]! = 2 ∧ q.slots[v]!.set = true)) : dE ts (n + 1) v q = dE ts n (v + 1) q := by
 rw [dE, if_neg h]
theorem Cz {ts : List Int} {n v : Nat} {q : Mc} (h : ts[v]! = 2 ∧ q.slots[v]!.set = true) (hk : cD q.cells q.slots[v]!.ptr true = 0) : dE ts (n + 1) v q = dE ts n (v + 1) ⟨q.slots.set v kG, jW q.cells q.slots[v]!.ptr, q.read⟩ := by
 rw [dE, if_pos h, if_pos hk]
theorem Ca {ts : List Int} {n v : Nat} {q : Mc} (h : ts[v]! = 2 ∧ q.slots[v]!.set = true) (hk : ¬ cD q.cells q.slots[v]!.ptr true = 0) : dE ts (n + 1) v q = (⟨q.slots, jW q.cells q.slots[v]!.ptr, q.read⟩, eU (cD q.cells q.slots[v]!.ptr true)) := by
 rw [dE, if_pos h, if_neg hk]
theorem D9 (ts : List Int) (s : Mc) (hm : OkM s.cells) (hsl : s.slots.length = ts.length) (hl : ts.length ≤ 1000000) : PC Tryz.prog 89 [sl cI ts, e9 s] (fun r => r = .tup [e9 (dE ts ts.length 0 s).1, iv (dE ts ts.length 0 s).2]) := by
 (refine aS Tryz.func89 rfl (by simp [Tryz.ntmps89]) ?_; rw [Tryz.ntmps89])
 repeat' (first|(apply aL;first|(apply aC;rfl;rfl)|(apply aF;kernel_rfl)|(apply bA;rfl;rfl;rfl;rfl)|(apply bD;rfl;rfl))|(apply aM;first|apply aH|apply aB|apply aN)|with_reducible apply aA)
 refine bL (σ := Nat × Mc) [0, 3, 4] [(0, _), (3, _), (4, _)] [1] [(1, some _)] (fun k => [(6, iv (k.1 : Int))]) (fun k => [(0, some [sl dK k.2.slots, sl cK k.2.cells, sl cI k.2.read])]) (fun k => k.1 ≤ ts.length ∧ dE ts (ts.length - k.1) k.1 k.2 = dE ts ts.length 0 s ∧ OkM k.2.cells ∧ k.2.slots.length = ts.length) (fun k => ts.length - k.1) (0, s) ⟨Nat.zero_le _, rfl, hm, hsl⟩ rfl rfl (by repeat' (first|exact trivial|refine And.intro rfl ?_)) (by repeat' (first|exact trivial|refine And.intro (.inr rfl) ?_)) ?_
 rintro ⟨v, q⟩ ⟨hv, hf, hmq, hlq⟩
 dsimp only at hv hf hmq hlq ⊢
 have hfr := jZ q.cells hmq q.slots[v]!.ptr
 have hcl := fun h => mN ⟨q.slots, jW q.cells q.slots[v]!.ptr, q.read⟩ v h (by show q.slots.length ≤ _; omega)
 repeat' (first|(apply aL;first|((with_reducible apply aJ (k := 141));(case ha => rfl);(case h => exact hfr);(case hp => (exact Pur.pf));(case hN => rfl))|((with_reducible apply aJ (k := 143));(case ha => rfl);(case h => exact hcl (by show v < q.slots.length;omega));(case hp => (exact Pur.pf));(case hN => rfl))|(apply aE;rfl;rfl)|(first|(apply aP;rfl;rfl;rfl;rfl)|(apply aR;rfl;rfl;(first|exact (rfl:_=[_, _])|exact (rfl:_=[_, _, _]));rfl;rfl;rfl))|(apply aD;rfl;rfl;rfl)|(first|(apply aY;rfl;rfl;rfl;(assumption))|(apply a7;rfl;rfl;rfl;(assumption))|(apply bE;(case hj|hb|hN => rfl);all_goals (intro hg;have hq := hg;(try simp only [cC] at hq);(try (exfalso;omega)))))|(first|(apply bN;rfl;rfl;omega;rfl)|(apply aU;rfl;rfl;rfl;rfl))|(apply aC;rfl;rfl)|(first|(apply bJ;rfl;(assumption);rfl;rfl)|(apply bC;rfl;(assumption);rfl;rfl))|(apply bI;(case hx|hi => rfl);(case hm => (omega));(case hml => (rfl));(case hα | hf|hg => infer_instance);(case hN => rfl))|((with_reducible apply aJ (k := 142));(case ha => rfl);(case h => (apply jB <;> (fail)));(case hp => (rfl));(case hN => rfl))|(apply bM;rfl;rfl;rfl)|(apply aF;kernel_rfl)|(apply bW;rfl;rfl)|(apply aZ;rfl;rfl;rfl)|(apply aW;rfl;rfl;rfl;rfl;rfl;(case hl => (simp;done));(exact (rfl:_=[_, _, _]))))|(apply aM;first|apply aH|apply aB|(apply bZ;kernel_rfl)|(apply bR;rfl;(rfl))|(apply aQ;rfl;all_goals intro hc;have hq:=hc;(try simp only [cC] at hq);try exfalso;omega)|apply aN|apply aV|apply bS|apply aO)|with_reducible apply aA|with_reducible apply a8|with_reducible apply bU|with_reducible apply aX|with_reducible apply cA|with_reducible apply bT)
 ·(apply dG (v + 1, q); focus (refine Le.ren [(0, 0), (1, 1)] rfl (by decide) ?_ ?_ <;> repeat' (first | exact trivial | refine And.intro ⟨_, rfl, ?_⟩ ?_ | refine And.intro ⟨_, _, rfl, rfl, ?_⟩ ?_ | exact Or.inr rfl | refine Or.inl ⟨?_, (by first | rfl | exact bH _ _ | exact Pur.pf)⟩ | rfl)))
  ·refine ⟨by omega, ?_, hmq, hlq⟩
   dsimp only
   rw [← hf, show ts.length - v = (ts.length - (v + 1)) + 1 by omega, tA (fun h => by
    have h2 : q.slots[v]!.set = false := by assumption
    rw [h2] at h;exact absurd h.2 (by decide))]
  ·dsimp only;omega
 ·have hk : ¬ cD q.cells q.slots[v]!.ptr true = 0 := by assumption
  have hq2 : dE ts ts.length 0 s = (⟨q.slots, jW q.cells q.slots[v]!.ptr, q.read⟩, eU (cD q.cells q.slots[v]!.ptr true)) := by
   rw [← hf, show ts.length - v = (ts.length - (v + 1)) + 1 by omega, Ca ⟨by assumption, by assumption⟩ hk]
  rw [hq2]
  refine aK (l := [e9 ⟨q.slots, jW q.cells q.slots[v]!.ptr, q.read⟩, iv (if cD q.cells q.slots[v]!.ptr true = 1 then 3 else if cD q.cells q.slots[v]!.ptr true = 0 then 0 else 4)]) rfl ?_
  rw [rS hk]
  exact ⟨rfl, by (exact Pur.pf)⟩
 ·(apply dG (v + 1, ⟨q.slots.set v kG, jW q.cells q.slots[v]!.ptr, q.read⟩); focus (refine Le.ren [(0, 0), (1, 1)] rfl (by decide) ?_ ?_ <;> repeat' (first | exact trivial | refine And.intro ⟨_, rfl, ?_⟩ ?_ | refine And.intro ⟨_, _, rfl, rfl, ?_⟩ ?_ | exact Or.inr rfl | refine Or.inl ⟨?_, (by first | rfl | exact bH _ _ | exact Pur.pf)⟩ | rfl)))
  ·refine ⟨by omega, ?_, hmq.fr _, by show (q.slots.set v kG).length = _; rw [List.length_set]; exact hlq⟩
   dsimp only
   rw [← hf, show ts.length - v = (ts.length - (v + 1)) + 1 by omega, Cz ⟨by assumption, by assumption⟩ (by assumption)]
  ·dsimp only;omega
 ·(apply dG (v + 1, q); focus (refine Le.ren [(0, 0), (1, 1)] rfl (by decide) ?_ ?_ <;> repeat' (first | exact trivial | refine And.intro ⟨_, rfl, ?_⟩ ?_ | refine And.intro ⟨_, _, rfl, rfl, ?_⟩ ?_ | exact Or.inr rfl | refine Or.inl ⟨?_, (by first | rfl | exact bH _ _ | exact Pur.pf)⟩ | rfl)))
  ·refine ⟨by omega, ?_, hmq, hlq⟩
   dsimp only
   rw [← hf, show ts.length - v = (ts.length - (v + 1)) + 1 by omega, tA (fun h => by
    have h2 : ¬ ts[v]! = 2 := by assumption
    exact h2 h.1)]
  ·dsimp only;omega
 ·have hve : v = ts.length := by omega
  have hq2 : dE ts ts.length 0 s = (q, 0) := by rw [← hf, hve, Nat.sub_self]; rfl
  rw [hq2]
  exact aK (l := [e9 q, iv 0]) rfl ⟨rfl, by (exact Pur.pf)⟩
theorem sK (p : Prg) (hl : p.types.length ≤ 1000000) (hs : bO p.body ≤ 1000000) : PC Tryz.prog 116 [cW p] (fun r => r = sl dA (if c8 p = true then cX p else [])) := by
 have hval := lS p hl (by omega)
 have h2 := oA p hs
 (refine aS Tryz.func116 rfl (by simp [Tryz.ntmps116]) ?_; rw [Tryz.ntmps116])
 repeat' (first|(apply aL;first|((with_reducible apply aJ (k := 87));(case ha => rfl);(case h => exact hval);(case hp => (exact Pur.pf));(case hN => rfl))|((with_reducible apply aJ (k := 60));(case ha => rfl);(case h => exact h2);(case hp => (exact Pur.pf));(case hN => rfl))|(apply aR;rfl;rfl;(exact (rfl:_=[_, _]));rfl;rfl;rfl)|(apply aC;rfl;rfl)|(apply aF;kernel_rfl)|(apply bW;rfl;rfl)|(apply bA;rfl;rfl;rfl;rfl)|((apply bF (t := _));(case hze|hsm|hl => rfl);(case hfl => (rfl));(case hM|hN => rfl)))|(apply aM;first|apply aH|apply aB|(apply aQ;rfl;all_goals intro hc;have hq:=hc;(try simp only [cC] at hq);try exfalso;omega)|apply aV|apply aO)|with_reducible apply aA|with_reducible apply a8)
 ·refine aK rfl ⟨?_, (by (rfl))⟩
  rw [if_neg (by simp [hq])]; rfl
 ·refine aK rfl ⟨?_, (by (exact bH _ _))⟩
  rw [if_pos hq]; rfl
def wm (pts : List Pnt) (n a : Nat) (cs : List Int) : List Int × Bool := ((fP pts n a cs).1.map (fun a : Nat => (a : Int)), (fP pts n a cs).2)
theorem Bk {pts : List Pnt} {n a : Nat} {cs : List Int} (h : pts[a]!.op = 11) : wm pts n a cs = ([(a : Int)], true) := by
 have e : fP pts n a cs = ([a], true) := by cases n <;> (unfold fP;rw [if_pos h])
 unfold wm;rw [e]; rfl
theorem BN {pts : List Pnt} {a : Nat} {cs : List Int} (h : ¬ pts[a]!.op = 11) : wm pts 0 a cs = ([], false) := by
 have e : fP pts 0 a cs = ([], false) := by unfold fP;rw [if_neg h]
 unfold wm;rw [e]; rfl
theorem Gc {pts : List Pnt} {n a : Nat} {cs : List Int} (h : ¬ pts[a]!.op = 11) : wm pts (n + 1) a cs = ((a : Int) :: (wm pts n (gN pts a cs).1 (gN pts a cs).2).1, (wm pts n (gN pts a cs).1 (gN pts a cs).2).2) := by
 unfold wm;rw [fP, if_neg h]; rfl
theorem Ek {pts : List Pnt} {a : Nat} {cs : List Int} (h : ¬ pts[a]!.next.length = 2) : gN pts a cs = ((pts[a]!.next[0]!).toNat, cs) := by
 unfold gN;rw [if_neg h]
theorem FH {pts : List Pnt} {a u : Nat} {cs : List Int} (h : pts[a]!.next.length = 2) (hu : cs.length ≤ u) : gN pts a (cs.drop u) = ((pts[a]!.next[1]!).toNat, cs.drop (u + 1)) := by
 unfold gN;rw [if_pos h, List.drop_eq_nil_of_le hu, List.drop_eq_nil_of_le (by omega)]
theorem Ep {pts : List Pnt} {a u : Nat} {cs : List Int} (h : pts[a]!.next.length = 2) (hu : u < cs.length) : gN pts a (cs.drop u) = ((pts[a]!.next[if cs[u]!.tmod 2 = 0 then 0 else 1]!).toNat, cs.drop (u + 1)) := by
 have e : (cs[u]! % 2).toNat = if cs[u]!.tmod 2 = 0 then 0 else 1 := by
  by_cases q : cs[u]!.tmod 2 = 0
  ·rw [if_pos q, Int.emod_eq_zero_of_dvd (Int.dvd_of_tmod_eq_zero q)]; rfl
  ·rw [if_neg q]
   have : ¬ cs[u]! % 2 = 0 := fun q2 => q (Int.tmod_eq_zero_of_dvd (Int.dvd_of_emod_eq_zero q2))
   omega
 have e2 : cs.drop u = cs[u]! :: cs.drop (u + 1) := by rw [List.drop_eq_getElem_cons hu, cV _ _ hu]
 unfold gN
 rw [if_pos h, e2]
 dsimp only
 rw [e]
theorem lK {pts : List Pnt} {n a : Nat} {out cs cs2 : List Int} {b : Nat} {q : List Int × Bool} (h : ¬ pts[a]!.op = 11) (ho : out.length < n) (hs : gN pts a cs = (b, cs2)) (hq : q = (out ++ (wm pts (n - out.length) a cs).1, (wm pts (n - out.length) a cs).2)) :
  q = ((out ++ [(a : Int)]) ++ (wm pts (n - (out ++ [(a : Int)]).length) b cs2).1, (wm pts (n - (out ++ [(a : Int)]).length) b cs2).2) := by
 rw [hq, show n - out.length = (n - (out.length + 1)) + 1 by omega, Gc h, hs, List.length_append, List.append_assoc]
 rfl
theorem xS (p : Prg) (cs : List Int) (n : Nat) (hv : c8 p = true) (hl : p.types.length ≤ 1000000) (hs : bO p.body ≤ 1000000) (hn : n ≤ 1000) (hcl : cs.length ≤ 1000000) : PC Tryz.prog 88 [cW p, sl cI cs, iv (n : Int)] (fun r => r = .tup [sl cI (wm (cX p) n 0 cs).1, bv (wm (cX p) n 0 cs).2]) := by
 have hpo := sK p hl hs
 rw [if_pos hv] at hpo
 have w := WG.of_valid hv
 have wa := WA.of_valid hv
 obtain ⟨pts, hpts⟩ : ∃ pts, pts = cX p := ⟨_, rfl⟩
 rw [← hpts] at hpo w wa ⊢
 have hpl := w.pl
 have hp0 := w.p0
 (refine aS Tryz.func88 rfl (by simp [Tryz.ntmps88]) ?_; rw [Tryz.ntmps88])
 repeat' (first|(apply aL;first|((with_reducible apply aJ (k := 116));(case ha => rfl);(case h => exact hpo);(case hp => (exact Pur.pf));(case hN => rfl))|(apply aE;rfl;rfl)|(apply aR;rfl;rfl;(exact (rfl:_=[_, _]));rfl;rfl;rfl)|(first|(apply aY;rfl;rfl;rfl;(first|rfl|assumption))|(apply bE;(case hj|hb|hN => rfl);all_goals (intro hg;have hq := hg;(try simp only [cC] at hq);(try (exfalso;omega)))))|(apply aU;rfl;rfl;rfl;rfl)|(apply aC;rfl;rfl)|(apply bC;rfl;(first|rfl|assumption);rfl;rfl)|(apply bM;rfl;rfl;rfl)|(apply aF;kernel_rfl)|(apply bA;rfl;rfl;rfl;rfl)|(apply bQ;rfl;rfl;rfl;(rfl);rfl;rfl))|(apply aM;first|apply aH|apply aB|(apply aQ;rfl;all_goals intro hc;have hq:=hc;(try simp only [cC] at hq);try exfalso;omega)|apply aN|apply aV)|with_reducible apply aA)
 refine bL (σ := Int × Nat × List Int × Nat) [1, 2, 9] [(1, _), (2, _), (9, _)] [] [] (fun k => [(10, iv k.1), (11, iv (k.2.1 : Int)), (8, .own 1 0 k.2.2.2 1)]) (fun k => [(1, some (aI cI k.2.2.1))]) (fun k => (0 ≤ k.1 ∧ k.1 < pts.length) ∧ k.2.1 ≤ k.2.2.1.length ∧ k.2.2.1.length ≤ n ∧ k.2.2.2 = k.2.2.1.length ∧ wm pts n 0 cs = (k.2.2.1 ++ (wm pts (n - k.2.2.1.length) k.1.toNat (cs.drop k.2.1)).1, (wm pts (n - k.2.2.1.length) k.1.toNat (cs.drop k.2.1)).2)) (fun k => n + 1 - k.2.2.1.length) (0, 0, [], 0) ⟨⟨Int.le_refl _, by show (0 : Int) < _; omega⟩, Nat.le_refl _, Nat.zero_le _, rfl, rfl⟩ rfl rfl (by repeat' (first|exact trivial|refine And.intro rfl ?_)) (by repeat' (first|exact trivial|refine And.intro (.inr rfl) ?_)) ?_
 rintro ⟨a, u, out, m⟩ ⟨⟨ha0, ha⟩, hu, ho, hm, hw⟩
 dsimp only at ha0 ha hu ho hm hw ⊢
 have hat : (a.toNat : Int) = a := Int.toNat_of_nonneg ha0
 have hnx := w.nx a.toNat (by omega)
 have hnl := w.nl a.toNat (by omega)
 have hn1 := wa.n a.toNat (by omega)
 have hk : ∀ k, k < pts[a.toNat]!.next.length → 0 ≤ pts[a.toNat]!.next[k]! ∧ pts[a.toNat]!.next[k]! < pts.length := fun k h => hnx _ (cN _ _ h)
 repeat' (first|(apply aL;first|(apply aE;rfl;rfl)|(apply aP;rfl;rfl;rfl;rfl)|(apply aD;rfl;rfl;rfl)|(first|(apply aY;rfl;rfl;rfl;(assumption))|(apply a7;rfl;rfl;rfl;(assumption))|(apply bE;(case hj|hb|hN => rfl);all_goals (intro hg;have hq := hg;(try simp only [cC] at hq);(try (exfalso;omega)))))|(first|(apply bN;rfl;rfl;omega;rfl)|(apply aU;rfl;rfl;rfl;rfl))|(apply aC;rfl;rfl)|(first|(apply bJ;rfl;(assumption);rfl;rfl)|(apply bC;rfl;(assumption);rfl;rfl))|(first|(apply bI;(case hx|hi => rfl);(case hm => (omega));(case hml => (rfl));(case hα | hf|hg => infer_instance);(case hN => rfl))|(apply cM;(case hx|hi => rfl);(case hm => (omega));(case hml => (rfl));(case hα | hf|hg => infer_instance);(case hN => rfl)))|(first|(apply bM;rfl;rfl;rfl)|(apply bV;rfl;rfl;rfl;rfl;rfl;(rw [aT]; omega);(rfl);omega;omega;(exact fW (by (assumption)));rfl;rfl))|(apply aF;kernel_rfl)|((apply bF (t := _));(case hze|hsm|hl => rfl);(case hfl => exact (rfl:_=some [_]));(case hM|hN => rfl)))|(apply aM;first|apply aH|apply aB|(apply b9;rfl;(rfl))|(apply aQ;rfl;all_goals intro hc;have hq:=hc;(try simp only [cC] at hq);try exfalso;omega)|apply aN|apply aV|apply bS|apply aO)|with_reducible apply aA|with_reducible apply a8|with_reducible apply bU|with_reducible apply aX|with_reducible apply cA|with_reducible apply bT)
 ·have hop : ¬ pts[a.toNat]!.op = 11 := by assumption
  have e : wm pts n 0 cs = (out, false) := by rw [hw, show n - out.length = 0 by omega, BN hop, List.append_nil]
  rw [e]
  (refine b0 (Le.frzD (d := 6) (i := 1) rfl rfl) ?_; refine aK rfl ?_)
  refine ⟨?_, (by (exact Pur.pf))⟩
  simp only [bX, sl]
  rw [hm]
 ·have hop : ¬ pts[a.toNat]!.op = 11 := by assumption
  have hst := lK hop (by omega) ((Ep (by omega) (by omega)).trans (by rw [if_pos (by assumption)])) hw
  rw [hat] at hst
  have hk := hk 0 (by omega)
  (apply dG (pts[a.toNat]!.next[0]!, u + 1, _, _);focus (refine Le.ren [(1, 3)] rfl (by decide) ?_ ?_ <;> repeat' (first|exact trivial|refine And.intro ⟨_, rfl, ?_⟩ ?_|refine And.intro ⟨_, _, rfl, rfl, ?_⟩ ?_|exact Or.inr rfl|refine Or.inl ⟨?_, (by first|rfl|exact bH _ _)⟩|rfl)))
  ·refine ⟨hk, ?_, ?_, ?_, hst⟩ <;> (dsimp only;rw [List.length_append]; simp only [List.length_singleton]; omega)
  ·dsimp only;rw [List.length_append]; simp only [List.length_singleton]; omega
 ·have hop : ¬ pts[a.toNat]!.op = 11 := by assumption
  have hst := lK hop (by omega) ((Ep (by omega) (by omega)).trans (by rw [if_neg (by assumption)])) hw
  rw [hat] at hst
  have hk := hk 1 (by omega)
  (apply dG (pts[a.toNat]!.next[1]!, u + 1, _, _);focus (refine Le.ren [(1, 3)] rfl (by decide) ?_ ?_ <;> repeat' (first|exact trivial|refine And.intro ⟨_, rfl, ?_⟩ ?_|refine And.intro ⟨_, _, rfl, rfl, ?_⟩ ?_|exact Or.inr rfl|refine Or.inl ⟨?_, (by first|rfl|exact bH _ _)⟩|rfl)))
  ·refine ⟨hk, ?_, ?_, ?_, hst⟩ <;> (dsimp only;rw [List.length_append]; simp only [List.length_singleton]; omega)
  ·dsimp only;rw [List.length_append]; simp only [List.length_singleton]; omega
 ·have hop : ¬ pts[a.toNat]!.op = 11 := by assumption
  have hst := lK hop (by omega) (FH (by omega) (by omega)) hw
  rw [hat] at hst
  have hk := hk 1 (by omega)
  (apply dG (pts[a.toNat]!.next[1]!, u + 1, _, _);focus (refine Le.ren [(1, 3)] rfl (by decide) ?_ ?_ <;> repeat' (first|exact trivial|refine And.intro ⟨_, rfl, ?_⟩ ?_|refine And.intro ⟨_, _, rfl, rfl, ?_⟩ ?_|exact Or.inr rfl|refine Or.inl ⟨?_, (by first|rfl|exact bH _ _)⟩|rfl)))
  ·refine ⟨hk, ?_, ?_, ?_, hst⟩ <;> (dsimp only;rw [List.length_append]; simp only [List.length_singleton]; omega)
  ·dsimp only;rw [List.length_append]; simp only [List.length_singleton]; omega
 ·have hop : ¬ pts[a.toNat]!.op = 11 := by assumption
  have hst := lK hop (by omega) (Ek (by omega)) hw
  rw [hat] at hst
  have hk := hk 0 (by omega)
  (apply dG (pts[a.toNat]!.next[0]!, u, _, _);focus (refine Le.ren [(1, 3)] rfl (by decide) ?_ ?_ <;> repeat' (first|exact trivial|refine And.intro ⟨_, rfl, ?_⟩ ?_|refine And.intro ⟨_, _, rfl, rfl, ?_⟩ ?_|exact Or.inr rfl|refine Or.inl ⟨?_, (by first|rfl|exact bH _ _)⟩|rfl)))
  ·refine ⟨hk, ?_, ?_, ?_, hst⟩ <;> (dsimp only;rw [List.length_append]; simp only [List.length_singleton]; omega)
  ·dsimp only;rw [List.length_append]; simp only [List.length_singleton]; omega
 ·have hop : pts[a.toNat]!.op = 11 := by assumption
  have e : wm pts n 0 cs = (out ++ [a], true) := by rw [hw, Bk hop, hat]
  rw [e]
  (refine b0 (Le.frzD (d := 6) (i := 3) rfl rfl) ?_; refine aK rfl ?_)
  refine ⟨?_, (by (exact Pur.pf))⟩
  simp only [bX, sl]
  rw [hm, List.length_append]; rfl
theorem Fy {ts : List Int} {s : Mc} {x : Pnt} (hx : (x.op = 7 ∨ x.op = 8) → 0 ≤ x.x ∧ x.x < ts.length) (hy : (x.op = 3 ∨ x.op = 4 ∨ x.op = 5 ∨ x.op = 6 ∨ x.op = 7) → 0 ≤ x.y ∧ x.y < ts.length) : Fs s x = dD ts s x := by
 have hX : ∀ v : Nat, (v : Int) = x.x → v = x.x.toNat := fun v h => by omega
 have hY : ∀ v : Nat, (v : Int) = x.y → v = x.y.toNat := fun v h => by omega
 cases hu : dD ts s x with
 | true =>
  obtain ⟨v, hv, hne, hs⟩ := tK hu
  unfold fN at hne
  unfold Fs
  by_cases h3 : x.op = 3
  ·rw [if_pos h3] at hne
   by_cases e : (v : Int) = x.y
   ·rw [if_pos (.inl h3), ← hY v e, hs]; rfl
   ·rw [if_neg e] at hne;exact absurd rfl hne
  ·rw [if_neg h3] at hne
   by_cases h4 : x.op = 4 ∨ x.op = 5 ∨ x.op = 6
   ·rw [if_pos h4] at hne
    by_cases e : (v : Int) = x.y
    ·rw [if_pos (by omega), ← hY v e, hs]; rfl
    ·rw [if_neg e] at hne;exact absurd rfl hne
   ·rw [if_neg h4] at hne
    rw [if_neg (by omega)]
    by_cases h7 : x.op = 7
    ·rw [if_pos h7] at hne ⊢
     by_cases e : (v : Int) = x.x
     ·rw [← hX v e, hs]; rfl
     ·rw [if_neg e] at hne
      by_cases e2 : (v : Int) = x.y
      ·rw [← hY v e2, hs]; simp
      ·rw [if_neg e2] at hne;exact absurd rfl hne
    ·rw [if_neg h7] at hne ⊢
     by_cases h8 : x.op = 8
     ·rw [if_pos h8] at hne ⊢
      by_cases e : (v : Int) = x.x
      ·rw [← hX v e, hs]; rfl
      ·rw [if_neg e] at hne;exact absurd rfl hne
     ·rw [if_neg h8] at hne;exact absurd rfl hne
 | false =>
  have hS : ∀ v : Nat, v < ts.length → fN ts x v ≠ 0 → s.slots[v]!.set = true := fun v hv h => DI hu hv h
  unfold Fs
  by_cases h3 : x.op = 3
  ·have := hy (.inl h3)
   rw [if_pos (.inl h3), hS x.y.toNat (by omega) (by unfold fN;rw [if_pos h3, if_pos (by omega)]; split <;> decide)]; rfl
  ·by_cases h4 : x.op = 4 ∨ x.op = 5 ∨ x.op = 6
   ·have := hy (by omega)
    rw [if_pos (by omega), hS x.y.toNat (by omega) (by unfold fN;rw [if_neg h3, if_pos h4, if_pos (by omega)]; decide)]; rfl
   ·rw [if_neg (by omega)]
    by_cases h7 : x.op = 7
    ·have hy7 := hy (by omega)
     have hx7 := hx (.inl h7)
     rw [if_pos h7, hS x.x.toNat (by omega) (by unfold fN; rw [if_neg h3, if_neg h4, if_pos h7, if_pos (by omega)]; decide),
      hS x.y.toNat (by omega) (by unfold fN;rw [if_neg h3, if_neg h4, if_pos h7]; split;decide;rw [if_pos (by omega)]; decide)]; rfl
    ·rw [if_neg h7]
     by_cases h8 : x.op = 8
     ·have hx8 := hx (.inr h8)
      rw [if_pos h8, hS x.x.toNat (by omega) (by unfold fN;rw [if_neg h3, if_neg h4, if_neg h7, if_pos h8, if_pos (by omega)]; decide)]; rfl
     ·rw [if_neg h8]
theorem wG (k : Int) : lD k ≠ 0 := by
 unfold lD eU;split
 ·decide
 ·split <;> decide
theorem zH (k : Int) : eU k ≠ 0 := by unfold eU; split <;> decide
theorem lH {ts : List Int} {s : Mc} {v : Nat} {y : Sl} : (cR ts s v y).2 ≠ 0 := by
 unfold cR;split
 ·exact wG _
 ·show (-1 : Int) ≠ 0;decide
theorem EP {ts : List Int} {s : Mc} {x : Pnt} (h : x.op ≠ 11) : (dM ts s x).2 ≠ 0 := by
 unfold dM
 split
 ·exact lH
 split
 ·split
  ·show (1 : Int) ≠ 0;decide
  ·exact lH
 split
 ·exact lH
 split
 ·split
  ·exact lH
  ·exact zH _
 split
 ·split
  ·exact lH
  ·exact zH _
 split
 ·exact wG _
 split
 ·exact wG _
 show (-1 : Int) ≠ 0;decide
theorem FK {ts : List Int} {s : Mc} {x : Pnt} (h : x.op ≠ 11) : gk (dM ts s x).2 = 0 ↔ (dM ts s x).2 = -1 := by
 have := EP (ts := ts) (s := s) h
 unfold gk;split
 ·simp [*]
 ·constructor <;> (intro q;contradiction)
theorem Fu (ts : List Int) (s : Mc) (x : Pnt) (ho : x.op = 9 ∨ x.op = 10) : PC Tryz.prog 91 [sl cI ts, e9 s, eX x] (fun r => r = .tup [e9 (dM ts s x).1, iv (gk (dM ts s x).2)]) := by
 have h0 : dM ts s x = (s, -1) := by
  unfold dM;rw [if_neg (show ¬ x.op = 1 by omega), if_neg (show ¬ x.op = 2 by omega), if_neg (show ¬ x.op = 3 by omega), if_neg (show ¬ (x.op = 4 ∨ x.op = 5) by omega), if_neg (show ¬ x.op = 6 by omega), if_neg (show ¬ x.op = 7 by omega), if_neg (show ¬ x.op = 8 by omega), if_neg (show ¬ x.op = 11 by omega)]
 rw [h0]
 (refine aS Tryz.func91 rfl (by simp [Tryz.ntmps91]) ?_; rw [Tryz.ntmps91])
 repeat' (first|(apply aL;first|(first|(apply aP;rfl;rfl;rfl;rfl)|(apply aR;rfl;rfl;(exact (rfl:_=[_, _, _]));rfl;rfl;rfl))|(apply aD;rfl;rfl;rfl)|(apply aU;rfl;rfl;rfl;rfl)|(apply aC;rfl;rfl)|(apply aF;kernel_rfl)|(apply bA;rfl;rfl;rfl;rfl)|(apply bD;rfl;rfl)|(apply aW;rfl;rfl;rfl;rfl;rfl;(case hl => (simp;done));(exact (rfl:_=[_, _, _]))))|(apply aM;first|apply aH|apply aB|(apply aQ;rfl;all_goals intro hc;have hq:=hc;(try simp only [cC] at hq);try exfalso;omega)|apply aN|apply aV|apply aO)|with_reducible apply aA|with_reducible apply aX)
 exact aK (l := [e9 s, iv 0]) rfl ⟨rfl, by (exact Pur.pf)⟩
theorem E8 (ts : List Int) (s : Mc) (x : Pnt) (h11 : x.op ≠ 11) (hop : 1 ≤ x.op ∧ x.op ≤ 11) (hm : OkM s.cells) (hsl : s.slots.length = ts.length) (hx : x.op ≤ 8 → 0 ≤ x.x ∧ x.x < ts.length) (hy : 3 ≤ x.op → x.op ≤ 7 → 0 ≤ x.y ∧ x.y < ts.length) (hn : x.op = 2 → 0 ≤ x.n ∧ x.n ≤ 9) (hl : ts.length ≤ 1000000) (hrl : s.read.length ≤ 1000000) : PC Tryz.prog 91 [sl cI ts, e9 s, eX x] (fun r => r = .tup [e9 (dM ts s x).1, iv (gk (dM ts s x).2)]) := by
 by_cases h1 : x.op = 1
 ·exact FB ts s x h1 hm hsl (hx (by omega)) hl
 by_cases h2 : x.op = 2
 ·exact Fo ts s x h2 hm hsl (hx (by omega)) (hn h2) hl
 by_cases h3 : x.op = 3
 ·exact EI ts s x h3 hm hsl (hx (by omega)) (hy (by omega) (by omega)) hl
 by_cases h4 : x.op = 4 ∨ x.op = 5
 ·exact Dj ts s x h4 hm hsl (hx (by omega)) (hy (by omega) (by omega)) hl
 by_cases h6 : x.op = 6
 ·exact EA ts s x h6 hm hsl (hx (by omega)) (hy (by omega) (by omega)) hl hrl
 by_cases h7 : x.op = 7
 ·exact EO ts s x h7 hm hsl (hx (by omega)) (hy (by omega) (by omega)) hl
 by_cases h8 : x.op = 8
 ·exact Ew ts s x h8 hm hsl (hx (by omega)) hl
 ·exact Fu ts s x (by omega)
theorem jF {ts : List Int} {s : Mc} {v : Nat} {y : Sl} : (cR ts s v y).1.read = s.read := by unfold cR; split <;> rfl
theorem uZ {ts : List Int} {s : Mc} {x : Pnt} (h : x.op ≠ 11) : (dM ts s x).1.read.length ≤ s.read.length + 1 := by
 unfold dM
 split
 ·rw [jF]; omega
 split
 ·split
  ·dsimp only;omega
  ·rw [jF]; dsimp only;omega
 split
 ·rw [jF]; split <;> (first|omega|(dsimp only;omega))
 split
 ·split
  ·rw [jF]; dsimp only;omega
  ·dsimp only;omega
 split
 ·split
  ·rw [jF]; dsimp only;rw [List.length_append]; simp only [List.length_singleton]; omega
  ·dsimp only;omega
 split
 ·dsimp only;omega
 split
 ·dsimp only;omega
 dsimp only;omega
theorem y1 (pts : List Pnt) : ∀ n a cs, (fP pts n a cs).2 = true → ∃ l b, (fP pts n a cs).1 = l ++ [b] ∧ pts[b]!.op = 11
 | 0, a, cs, h => by
  unfold fP at h ⊢
  by_cases e : pts[a]!.op = 11
  ·rw [if_pos e]; exact ⟨[], a, rfl, e⟩
  ·rw [if_neg e] at h;exact absurd h (by decide)
 | n + 1, a, cs, h => by
  rw [fP] at h ⊢
  by_cases e : pts[a]!.op = 11
  ·rw [if_pos e]; exact ⟨[], a, rfl, e⟩
  ·rw [if_neg e] at h ⊢
   obtain ⟨l, b, h1, h2⟩ := y1 pts n _ _ h
   exact ⟨a :: l, b, by dsimp only;rw [h1]; rfl, h2⟩
theorem EE {s : Mc} {x : Pnt} (h : x.op = 11) : Fs s x = false := by
 unfold Fs;rw [if_neg (by omega), if_neg (by omega), if_neg (by omega)]
theorem DR (p : Prg) (cs : List Int) (n : Nat) (hv : c8 p = true) (hl : p.types.length ≤ 1000000) (hs : bO p.body ≤ 1000000) (hn : n ≤ 150) (hcl : cs.length ≤ 1000000) (hL : ∀ a ∈ (fP (cX p) n 0 cs).1, a < (cX p).length) (hLl : (fP (cX p) n 0 cs).1.length ≤ 151) : PC Tryz.prog 43 [cW p, sl cI cs, iv (n : Int)] (fun r => r = .tup [e9 (iC p.types (cX p) cs n).1, iv (iC p.types (cX p) cs n).2.1, iv (iC p.types (cX p) cs n).2.2]) := by
 have hpo := oA p hs
 have hru := xS p cs n hv hl hs (by omega) hcl
 have w := WG.of_valid hv
 have wa := WA.of_valid hv
 obtain ⟨q, hq⟩ : ∃ q, q = iC p.types (cX p) cs n := ⟨_, rfl⟩
 rw [← hq]
 unfold iC at hq
 unfold wm at hru
 obtain ⟨L, hLe⟩ : ∃ L, L = (fP (cX p) n 0 cs).1 := ⟨_, rfl⟩
 obtain ⟨dn, hdn⟩ : ∃ dn, dn = (fP (cX p) n 0 cs).2 := ⟨_, rfl⟩
 rw [← hLe, ← hdn] at hru
 rw [← hLe] at hq hL hLl
 have hgx : ∀ i, i < L.length → (L.map (fun a : Nat => (a : Int)))[i]! = (L[i]! : Int) := fun i h => by rw [cV _ _ (by rw [List.length_map]; exact h), List.getElem_map, cV _ _ h]
 have hml : (L.map (fun a : Nat => (a : Int))).length = L.length := List.length_map _
 generalize (L.map (fun a : Nat => (a : Int))) = LI at *
 generalize hP : cX p = pts at *
 have e1 : AV.imm p.types.length ((List.replicate p.types.length ([Value.bool false, Value.int .i64 0, Value.int .i64 0, Value.int .i64 0].map AV.v)).flatten) = sl dK (List.replicate p.types.length kG) := by
  rw [BX (f := dK) (x := kG) (l := [Value.bool false, Value.int .i64 0, Value.int .i64 0, Value.int .i64 0].map AV.v) rfl]; exact eH (by simp)
 (refine aS Tryz.func43 rfl (by simp [Tryz.ntmps43]) ?_; rw [Tryz.ntmps43])
 repeat' (first|(apply aL;first|((with_reducible apply aJ (k := 60));(case ha => rfl);(case h => exact hpo);(case hp => (exact Pur.pf));(case hN => rfl))|(with_reducible apply cF (d := 27))|(first|(apply aP;rfl;rfl;rfl;rfl)|(apply aR;rfl;rfl;(exact (rfl:_=[_, _]));rfl;rfl;rfl))|(apply aD;rfl;rfl;rfl)|(apply aC;rfl;rfl)|(apply bM;rfl;rfl;rfl)|(apply aF;kernel_rfl)|(apply bA;rfl;rfl;rfl;rfl)|(apply bD;rfl;rfl)|((apply bF (t := _));(case hze|hsm|hl => rfl);(case hfl => (rfl));(case hM|hN => rfl))|(apply kV;rfl;rfl;rfl;omega;omega;(rfl);rfl;rfl))|(apply aM;first|apply aH|apply aB)|with_reducible apply aA)
 refine dB (gI ?_ (Le.frzD (d := 24) (i := 2) rfl rfl))
 rw [e1]
 repeat' (first|(apply aL;first|((with_reducible apply aJ (k := 88));(case ha => rfl);(case h => exact hru);(case hp => (exact Pur.pf));(case hN => rfl))|(apply aE;rfl;rfl)|(apply aR;rfl;rfl;(exact (rfl:_=[_, _]));rfl;rfl;rfl)|(apply aC;rfl;rfl)|(apply aF;kernel_rfl)|(apply bY;rfl;(exact (rfl:_=some [_, _, _]));(exact (rfl:_=[_, _, _]));rfl)|(apply bD;rfl;rfl)|(apply aZ;rfl;rfl;rfl)|(apply aW;rfl;rfl;rfl;rfl;rfl;(case hl => (simp;done));(exact (rfl:_=[_, _, _]))))|(apply aM;first|apply aH|apply aB|apply aN)|with_reducible apply aA)
 refine bL (σ := Nat × Mc) [3, 6, 9, 10, 11, 12] [(3, _), (6, _), (9, _), (10, _), (11, _), (12, _)] [0, 1] [(0, some _), (1, some _)] (fun k => [(13, iv (k.1 : Int))]) (fun k => [(5, some [sl dK k.2.slots, sl cK k.2.cells, sl cI k.2.read])]) (fun k => k.1 ≤ L.length ∧ kS p.types pts (L.drop k.1) k.2 (if k.1 = 0 then 0 else L[k.1 - 1]!) = q ∧ OkS p.types.length k.2 ∧ k.2.read.length ≤ k.1 ∧ (∀ j, j < k.1 → pts[L[j]!]!.op ≠ 11)) (fun k => L.length - k.1) (0, mc0 p.types.length) ⟨Nat.zero_le _, by rw [hq]; rfl, OkS.mc0 _, Nat.le_refl _, fun j h => absurd h (by omega)⟩ rfl rfl (by repeat' (first|exact trivial|refine And.intro rfl ?_)) (by repeat' (first|exact trivial|refine And.intro (.inr rfl) ?_)) ?_
 rintro ⟨i, s⟩ ⟨hi, hf, hok, hrd, h11⟩
 dsimp only at hi hf hok hrd h11 ⊢
 have hil : i < L.length → L[i]! < pts.length := fun h => hL _ (cN _ _ h)
 have hex := fun h => D9 p.types s hok.m hok.l h
 by_cases hiL : i < L.length
 ·have hap := hil hiL
  have hop := w.op L[i]! hap
  have hwx := w.x L[i]! hap
  have hwy := w.y L[i]! hap
  have hA := wa.a L[i]! hap
  have hg := hgx i hiL
  have hen := hex hl
  have hun := zL s pts[L[i]!]! (fun h => by have := hok.l;omega) (fun h => by have := hok.l;omega)
  have hun2 := Fy (ts := p.types) (s := s) (x := pts[L[i]!]!) (fun h => by omega) (fun h => by omega)
  rw [hun2] at hun
  have hdo := fun h => E8 p.types s pts[L[i]!]! h hop hok.m hok.l (fun h => by omega) (fun h h2 => by omega) (fun h => hA.n (.inr h)) hl (by omega)
  repeat' (first|(apply aL;first|(with_reducible apply cF (d := 46))|(apply aE;rfl;rfl)|(apply aP;rfl;rfl;rfl;rfl)|(apply aU;rfl;rfl;rfl;rfl)|(apply bI;(case hx|hi => rfl);(case hm => (omega));(case hml => (rfl));(case hα | hf|hg => infer_instance);(case hN => rfl))|(apply bM;rfl;rfl;rfl)|(apply aF;kernel_rfl))|(apply aM;first|apply aH|apply aB|(apply aQ;rfl;all_goals intro hc;have hq:=hc;(try simp only [cC] at hq);try exfalso;omega)|apply aN|apply aV)|with_reducible apply aA)
  refine dB ?_
  rw [hg]
  repeat' (first|(apply aL;first|((with_reducible apply aJ (k := 89));(case ha => rfl);(case h => exact hen);(case hp => (exact Pur.pf));(case hN => rfl))|((with_reducible apply aJ (k := 90));(case ha => rfl);(case h => exact hun);(case hp => (exact Pur.pf));(case hN => rfl))|((with_reducible apply aJ (k := 91));(case ha => rfl);(case h => exact hdo (by assumption));(case hp => (exact Pur.pf));(case hN => rfl))|(apply aE;rfl;rfl)|(first|(apply aP;rfl;rfl;rfl;rfl)|(apply aR;rfl;rfl;(first|exact (rfl:_=[_, _, _])|exact (rfl:_=[_, _, _, _, _]));rfl;rfl;rfl))|(apply aD;rfl;rfl;rfl)|(first|(apply bN;rfl;rfl;omega;rfl)|(apply aU;rfl;rfl;rfl;rfl))|(apply aC;rfl;rfl)|(apply bI;(case hx|hi => rfl);(case hm => (first|assumption|omega));(case hml => (rfl));(case hα | hf|hg => infer_instance);(case hN => rfl))|(apply aF;kernel_rfl)|(apply bD;rfl;rfl)|(apply aZ;rfl;rfl;rfl)|(apply aW;rfl;rfl;rfl;rfl;rfl;(case hl => (simp;done));(first|exact (rfl:_=[_, _, _])|exact (rfl:_=[_, _, _, _, _]))))|(apply aM;first|apply aH|apply aB|(apply bZ;kernel_rfl)|(apply aQ;rfl;all_goals intro hc;have hq:=hc;(try simp only [cC] at hq);try exfalso;omega)|apply aV|apply aO)|with_reducible apply aA|with_reducible apply a8|with_reducible apply aX|with_reducible apply cA)
  all_goals have hdr : L.drop i = L[i]! :: L.drop (i + 1) := by rw [List.drop_eq_getElem_cons hiL, cV _ _ hiL]
  all_goals rw [hdr] at hf
  ·have ho : pts[L[i]!]!.op = 11 := by assumption
   have hqq : q = ((dE p.types p.types.length 0 s).1, (dE p.types p.types.length 0 s).2, L[i]!) := by
    rw [← hf, kS, if_neg (by rw [← hun2, EE ho]; decide), A4 ho, if_neg (by have := rP p.types p.types.length 0 s;omega)]
   rw [hqq]
   refine aK (l := [e9 (dE p.types p.types.length 0 s).1, iv (dE p.types p.types.length 0 s).2, iv LI[i]!]) rfl ?_
   rw [hg]
   exact ⟨rfl, by (exact Pur.pf)⟩
  ·have hu : dD p.types s pts[L[i]!]! = true := by assumption
   have hqq : q = (s, 2, L[i]!) := by rw [← hf, kS, if_pos hu]
   rw [hqq]
   refine aK (l := [e9 s, iv 2, iv LI[i]!]) rfl ?_
   rw [hg]
   exact ⟨rfl, by (exact Pur.pf)⟩
  ·have ho : ¬ pts[L[i]!]!.op = 11 := by assumption
   have hu : dD p.types s pts[L[i]!]! = false := by assumption
   have hk : ¬ gk (dM p.types s pts[L[i]!]!).2 = 0 := by assumption
   have hk2 : ¬ (dM p.types s pts[L[i]!]!).2 = -1 := fun e => hk ((FK ho).2 e)
   have hqq : q = ((dM p.types s pts[L[i]!]!).1, (dM p.types s pts[L[i]!]!).2, L[i]!) := by rw [← hf, kS, if_neg (by rw [hu]; decide), if_neg hk2]
   rw [hqq]
   refine aK (l := [e9 (dM p.types s pts[L[i]!]!).1, iv (gk (dM p.types s pts[L[i]!]!).2), iv LI[i]!]) rfl ?_
   rw [hg, show gk (dM p.types s pts[L[i]!]!).2 = (dM p.types s pts[L[i]!]!).2 by unfold gk;rw [if_neg hk2]]
   exact ⟨rfl, by (exact Pur.pf)⟩
  ·have ho : ¬ pts[L[i]!]!.op = 11 := by assumption
   have hu : dD p.types s pts[L[i]!]! = false := by assumption
   have hk2 : (dM p.types s pts[L[i]!]!).2 = -1 := (FK ho).1 (by assumption)
   (apply dG (i + 1, (dM p.types s pts[L[i]!]!).1);focus (refine Le.ren [(0, 0), (1, 1), (5, 5)] rfl (by decide) ?_ ?_ <;> repeat' (first|exact trivial|refine And.intro ⟨_, rfl, ?_⟩ ?_|refine And.intro ⟨_, _, rfl, rfl, ?_⟩ ?_|exact Or.inr rfl|refine Or.inl ⟨?_, (by first|rfl|exact bH _ _|exact Pur.pf)⟩|rfl)))
   ·refine ⟨by dsimp only; omega, ?_, hok.do ⟨fun h => hA.n (.inr h)⟩, ?_, ?_⟩
    ·dsimp only
     rw [← hf, if_neg (by omega), show i + 1 - 1 = i by omega, kS, if_neg (by rw [hu]; decide), if_pos hk2]
    ·dsimp only;have := uZ (ts := p.types) (s := s) ho;omega
    ·intro j hj
     rcases Nat.lt_or_ge j i with h|h
     ·exact h11 j h
     ·rw [show j = i by omega]; exact ho
   ·dsimp only;omega
 ·repeat' (first | (apply aL; first | (apply aE;rfl;rfl) | (first | (apply aP;rfl;rfl;rfl;rfl) | (apply aR;rfl;rfl;(exact (rfl:_=[_, _, _]));rfl;rfl;rfl)) | (first | (apply aY;rfl;rfl;rfl;(assumption)) | (apply a7;rfl;rfl;rfl;(assumption)) | (apply bE; (case hj | hb | hN => rfl); all_goals (intro hg; have hq := hg; (try simp only [cC] at hq); (try (exfalso; omega))))) | (first | (apply iB;rfl;rfl;omega;rfl) | (apply aU;rfl;rfl;rfl;rfl)) | (apply aC;rfl;rfl) | (first | (apply bJ;rfl;(assumption);rfl;rfl) | (apply bC;rfl;(assumption);rfl;rfl)) | (apply cM; (case hx | hi => rfl); (case hm => (omega)); (case hml => (rfl)); (case hα | hf | hg => infer_instance); (case hN => rfl)) | (apply bM;rfl;rfl;rfl) | (apply aF;kernel_rfl) | (apply bW;rfl;rfl) | (apply aW;rfl;rfl;rfl;rfl;rfl;(case hl => (simp;done));(exact (rfl:_=[_, _, _])))) | (apply aM; first | apply aH | apply aB | (apply bZ;kernel_rfl) | (apply b9;rfl;(rfl)) | (apply aQ;rfl;all_goals intro hc;have hq:=hc;(try simp only [cC] at hq);try exfalso;omega) | apply aV | apply bS | apply aO) | with_reducible apply aA | with_reducible apply a8 | with_reducible apply bU | with_reducible apply bT)
  all_goals have hie : i = L.length := by omega
  all_goals have hqq : q = (s, 1, if i = 0 then 0 else L[i - 1]!) := by rw [← hf, hie, List.drop_length]; rfl
  ·rw [hqq, if_neg (by omega)]
   refine aK (l := [e9 s, iv 1, iv LI[((LI.length : Int) - 1).toNat]!]) rfl ?_
   rw [show ((LI.length : Int) - 1).toNat = i - 1 by omega, hgx (i - 1) (by omega)]
   exact ⟨rfl, by (exact Pur.pf)⟩
  ·rw [hqq, if_pos (by omega)]
   exact aK (l := [e9 s, iv 1, iv 0]) rfl ⟨rfl, by (exact Pur.pf)⟩
  ·exfalso
   have hd1 : dn = true := by assumption
   obtain ⟨l, b, e1, e2⟩ := y1 pts n 0 cs (by rw [← hdn]; exact hd1)
   rw [← hLe] at e1
   have hlen : L.length = l.length + 1 := by rw [e1, List.length_append]; rfl
   have hb : L[l.length]! = b := by rw [cV _ _ (by omega)]; simp [e1]
   have := h11 l.length (by omega)
   rw [hb] at this
   exact this e2
theorem wK {ts : List Int} {pts : List Pnt} (w : WG ts pts) (A : WA ts pts) : ∀ n a cs, a < pts.length → ∀ x ∈ (fP pts n a cs).1, x < pts.length
 | 0, a, cs, ha, x, hx => by
  unfold fP at hx
  by_cases e : pts[a]!.op = 11
  ·rw [if_pos e] at hx;rw [List.mem_singleton.1 hx]; exact ha
  ·rw [if_neg e] at hx;exact absurd hx (by simp)
 | n + 1, a, cs, ha, x, hx => by
  rw [fP] at hx
  by_cases e : pts[a]!.op = 11
  ·rw [if_pos e] at hx;rw [List.mem_singleton.1 hx]; exact ha
  ·rw [if_neg e] at hx
   rcases List.mem_cons.1 hx with h|h
   ·rw [h]; exact ha
   ·have he := Cd w A ha e cs
    have := w.nx a ha _ he.2
    exact wK w A n _ _ (by omega) x h
theorem nM {pts : List Pnt} : ∀ n a cs, (fP pts n a cs).1.length ≤ n + 1
 | 0, a, cs => by unfold fP;split <;> simp
 | n + 1, a, cs => by
  rw [fP]; split
  ·simp
  ·have := nM (pts := pts) n (gN pts a cs).1 (gN pts a cs).2
   dsimp only;rw [List.length_cons]; omega
theorem Bh (p : Prg) (cs : List Int) (n : Nat) (hv : c8 p = true) (hl : p.types.length ≤ 1000000) (hs : bO p.body ≤ 1000000) (hn : n ≤ 150) (hcl : cs.length ≤ 1000000) : PC Go.Proofs.Tryz.prog 43 [cW p, sl cI cs, iv (n : Int)] (fun r => r = .tup [e9 (iC p.types (cX p) cs n).1, iv (iC p.types (cX p) cs n).2.1, iv (iC p.types (cX p) cs n).2.2]) :=
 DR p cs n hv hl hs hn hcl (wK (WG.of_valid hv) (WA.of_valid hv) n 0 cs (WG.of_valid hv).p0) (by have := nM (pts := cX p) n 0 cs;omega)
def x9 (p : Prg) (most : Int) : Bool := c8 p && (decide (0 ≤ most) && decide (most ≤ 150))
theorem Ao (p : Prg) (most : Int) (hl : p.types.length ≤ 1000000) (hs : bO p.body ≤ 1000000) : PC Tryz.prog 42 [cW p, iv most] (fun r => r = bv (x9 p most)) := by
 have hval := lS p hl (by omega)
 (refine aS Tryz.func42 rfl (by simp [Tryz.ntmps42]) ?_; rw [Tryz.ntmps42])
 repeat' (first|(apply aL;first|((with_reducible apply aJ (k := 87));(case ha => rfl);(case h => exact hval);(case hp => (exact Pur.pf));(case hN => rfl))|(apply aE;rfl;rfl)|(apply aR;rfl;rfl;(exact (rfl:_=[_, _]));rfl;rfl;rfl)|(first|(apply aY;rfl;rfl;rfl;(assumption))|(apply a7;rfl;rfl;rfl;(first|rfl|assumption))|(apply bE;(case hj|hb|hN => rfl);all_goals (intro hg;have hq := hg;(try simp only [cC] at hq);(try (exfalso;omega)))))|(apply aU;rfl;rfl;rfl;rfl)|(apply aC;rfl;rfl)|(first|(apply bJ;rfl;(assumption);rfl;rfl)|(apply bC;rfl;(first|rfl|assumption);rfl;rfl))|(apply aF;kernel_rfl)|(apply bA;rfl;rfl;rfl;rfl))|(apply aM;first|apply aH|apply aB|apply aO)|with_reducible apply aA)
 all_goals (refine aK rfl ⟨?_, rfl⟩; simp only [bX, AV.v.injEq, Value.bool.injEq]; unfold x9;grind)
theorem pO (p : Prg) (cs : List Int) (most : Int) (hl : p.types.length ≤ 1000000) (hs : bO p.body ≤ 1000000) (hcl : cs.length ≤ 1000000) : PC Tryz.prog 14 [cW p, sl cI cs, iv most] (fun r => r = .tup (if x9 p most = true then [iv (iC p.types (cX p) cs most.toNat).2.1, iv (iC p.types (cX p) cs most.toNat).2.2] else [iv 5, iv 0])) := by
 have hrt := Ao p most hl hs
 by_cases h : x9 p most = true
 ·have h' := h
  unfold x9 at h'
  simp only [Bool.and_eq_true, decide_eq_true_eq] at h'
  obtain ⟨hv, h0, h1⟩ := h'
  have hru := Bh p cs most.toNat hv hl hs (by omega) hcl
  rw [Int.toNat_of_nonneg h0] at hru
  rw [h] at hrt
  rw [if_pos h]
  (refine aS Tryz.func14 rfl (by simp [Tryz.ntmps14]) ?_; rw [Tryz.ntmps14])
  repeat' (first|(apply aL;first|((with_reducible apply aJ (k := 42));(case ha => rfl);(case h => exact hrt);(case hp => (exact Pur.pf));(case hN => rfl))|((with_reducible apply aJ (k := 43));(case ha => rfl);(case h => exact hru);(case hp => (exact Pur.pf));(case hN => rfl))|(apply aE;rfl;rfl)|(apply aR;rfl;rfl;(exact (rfl:_=[_, _]));rfl;rfl;rfl)|(apply aC;rfl;rfl)|(apply aF;kernel_rfl)|(apply bW;rfl;rfl)|(apply bA;rfl;rfl;rfl;rfl)|(apply bD;rfl;rfl)|(apply aZ;rfl;rfl;rfl)|(apply aW;rfl;rfl;rfl;rfl;rfl;(case hl => (simp;done));(exact (rfl:_=[_, _, _]))))|(apply aM;first|apply aH|apply aB|(apply b9;rfl;(rfl))|apply aV|apply aO)|with_reducible apply aA)
  exact aK (l := [iv (iC p.types (cX p) cs most.toNat).2.1, iv (iC p.types (cX p) cs most.toNat).2.2]) rfl ⟨rfl, rfl⟩
 ·rw [if_neg h]
  have h2 : x9 p most = false := by simpa using h
  rw [h2] at hrt
  (refine aS Tryz.func14 rfl (by simp [Tryz.ntmps14]) ?_; rw [Tryz.ntmps14])
  repeat' (first|(apply aL;first|((with_reducible apply aJ (k := 42));(case ha => rfl);(case h => exact hrt);(case hp => (exact Pur.pf));(case hN => rfl))|(apply aE;rfl;rfl)|(apply aR;rfl;rfl;(exact (rfl:_=[_, _]));rfl;rfl;rfl)|(apply aC;rfl;rfl)|(apply aF;kernel_rfl)|(apply bW;rfl;rfl)|(apply bA;rfl;rfl;rfl;rfl))|(apply aM;first|apply aH|apply aB|(apply bR;rfl;(rfl))|apply aO)|with_reducible apply aA|with_reducible apply a8)
  exact aK (l := [iv 5, iv 0]) rfl ⟨rfl, rfl⟩
theorem Fv {p : Prg} {cs : List Int} {n : Nat} (hv : c8 p = true) : OkS p.types.length (iC p.types (cX p) cs n).1 := by
 have wa := WA.of_valid hv
 have hp : ∀ a : Nat, PtN (cX p)[a]! := fun a => by
  by_cases h : a < (cX p).length
  ·exact ⟨fun e => (wa.a a h).n (.inr e)⟩
  ·refine ⟨fun e => ?_⟩
   rw [BH, dif_neg h] at e
   exact absurd e (by decide)
 exact OkS.run hp _ _ _ (OkS.mc0 _)
theorem vC {ts : List Int} {s : Mc} {x : Pnt} : (dM ts s x).1.read.length ≤ s.read.length + 1 := by
 by_cases h : x.op = 11
 ·rw [A4 h, o7]; omega
 ·exact uZ h
theorem qD (ts : List Int) (pts : List Pnt) : ∀ (l : List Nat) (s : Mc) (last : Nat), (kS ts pts l s last).1.read.length ≤ s.read.length + l.length
 | [], s, last => by unfold kS;simp
 | a :: l, s, last => by
  have h := vC (ts := ts) (s := s) (x := pts[a]!)
  unfold kS;split
  ·dsimp only;omega
  ·split
   ·have := qD ts pts l (dM ts s pts[a]!).1 a
    rw [List.length_cons]; omega
   ·rw [List.length_cons]; dsimp only;omega
theorem xD {ts : List Int} {pts : List Pnt} {cs : List Int} {n : Nat} (hn : n ≤ 150) : (iC ts pts cs n).1.read.length ≤ 151 := by
 have h := qD ts pts (fP pts n 0 cs).1 (mc0 ts.length) 0
 have h2 := nM (pts := pts) n 0 cs
 have h3 : (mc0 ts.length).read.length = 0 := rfl
 unfold iC;omega
theorem FR : Go.Proofs.Tryz.prog.underlying 246 = some (.map 3 4) := by kernel_rfl
theorem Ga : Go.Proofs.Tryz.prog.underlying 3 = some (.int .i64) := by kernel_rfl
theorem FN : (Go.Proofs.Tryz.prog.info? 4).bind (·.zero) = some (.bool false) := by kernel_rfl
theorem F9 {a b c : Int} (h : a ≤ b ∧ b ≤ c) : (!(decide (a ≤ b) && decide (b ≤ c))) = false := by simp [h.1, h.2]
theorem fU (m : List Cl) (hm : OkM m) : PC Tryz.prog 184 [sl cK m] (fun r => r = bv true) := by
 have hml := hm.l
 (refine aS Tryz.func184 rfl (by simp [Tryz.ntmps184]) ?_; rw [Tryz.ntmps184])
 repeat' (first|(apply aL;first|(apply aE;rfl;rfl)|(apply aU;rfl;rfl;rfl;rfl)|(apply aC;rfl;rfl)|(apply bM;rfl;rfl;rfl)|(apply aF;kernel_rfl))|(apply aM;first|apply aH|apply aB|(apply aQ;rfl;all_goals intro hc;have hq:=hc;(try simp only [cC] at hq);try exfalso;omega)|apply aN|apply aV)|with_reducible apply aA)
 all_goals (try (exfalso;omega))
 refine bL (σ := Nat) [11, 12] [(11, _), (12, _)] [] [] (fun i => [(13, iv (i : Int))]) (fun i => []) (fun i => i ≤ m.length) (fun i => m.length - i) (0) (Nat.zero_le _) rfl rfl (by repeat' (first|exact trivial|refine And.intro rfl ?_)) (by repeat' (exact trivial)) ?_
 rintro i hi
 by_cases hin : i < m.length
 ·have hc := (dF m).1 hm |>.2 i hin
  obtain ⟨h1, h2, h3, h4, h5⟩ := (lF _).1 hc
  repeat' (first|(apply aL;first|(apply aE;rfl;rfl)|(first|(apply aP;rfl;rfl;rfl;rfl)|(apply aR;rfl;rfl;(exact (rfl:_=[_, _, _, _]));rfl;rfl;rfl))|(apply aD;rfl;rfl;rfl)|(first|(apply aY;rfl;rfl;rfl;(assumption))|(apply bE;(case hj|hb|hN => rfl);all_goals (intro hg;have hq := hg;(try simp only [cC] at hq);(try (exfalso;omega)))))|(apply aU;rfl;rfl;rfl;rfl)|(apply aC;rfl;rfl)|(apply bC;rfl;(assumption);rfl;rfl)|(first|(apply bI;(case hx|hi => rfl);(case hm => (assumption));(case hml => (rfl));(case hα | hf|hg => infer_instance);(case hN => rfl))|(apply cM;(case hx|hi => rfl);(case hm => (omega));(case hml => (rfl));(case hα | hf|hg => infer_instance);(case hN => rfl)))|((with_reducible apply aJ (k := 84));(case ha => rfl);(case h => (apply dL <;> (fail)));(case hp => (rfl));(case hN => rfl))|(apply bM;rfl;rfl;rfl)|(apply aF;kernel_rfl)|(apply bW;rfl;rfl)|(apply bD;rfl;rfl)|(apply aW;rfl;rfl;rfl;rfl;rfl;(case hl => (simp;done));(exact (rfl:_=[_, _, _, _]))))|(apply aM;first|with_reducible apply Be|apply aH|apply aB|(apply aQ;rfl;all_goals intro hc;have hq:=hc;(try simp only [cC] at hq);try exfalso;omega)|apply aN|apply aV|apply aO)|with_reducible apply aA|with_reducible apply a8|with_reducible apply cA)
  ·exfalso
   have hu : m[i]!.stk[Int.toNat 0]!.uq = false := by assumption
   rw [show Int.toNat 0 = 0 from rfl, h4] at hu;exact absurd hu (by decide)
  ·refine Ev (BU rfl (fun r => ?_))
   refine uD ?_
   repeat' (apply aL;first|(apply aC;rfl;rfl)|(apply aF;kernel_rfl))
   refine ⟨rfl, rfl, ?_⟩
   refine jU (lT ?_)
   repeat' (first|(apply aL;first|(apply aE;rfl;rfl)|(apply aP;rfl;rfl;rfl;rfl)|(apply aD;rfl;rfl;rfl)|(apply bM;rfl;rfl;rfl)|(apply aF;kernel_rfl))|(apply aM;(apply aB)))
   show nK _ _ _ _ _ _ _
   refine qF ?_
   refine zT (σ := Nat) [4, 5, 11, 12, 13, 44, 45] [(4, _), (5, _), (11, _), (12, _), (13, _), (44, _), (45, _)] [0] [(0, some _)] (fun k => [(46, iv (k : Int))]) (fun k => []) (fun k => (m[i]!.stk.take k).map (·.id)) (fun k => k ≤ m[i]!.stk.length) (fun k => m[i]!.stk.length - k) (0) (Nat.zero_le _) (rfl) rfl rfl (by repeat' (first|exact trivial|refine And.intro rfl ?_)) (by repeat' (exact trivial)) ?_
   rintro k hk
   refine jU (lT ?_)
   repeat' (first|(apply aL;first|(apply aU;rfl;rfl;rfl;rfl)|(apply aF;kernel_rfl))|(apply aM;(apply aB)))
   show nK _ _ _ _ _ _ _
   refine jU (vX rfl (fun hb => vG ?_) (fun hb => CE ?_))
   ·show nK _ _ _ _ _ _ _
    have hkl : k < m[i]!.stk.length := by have := of_decide_eq_true hb;omega
    obtain ⟨g1, g2, g3⟩ := h5 k hkl
    have hw := F9 (a := 0) (b := m[i]!.stk[k]!.id) (c := m[i]!.next - 1) ⟨g1, by omega⟩
    have hni : m[i]!.stk[k]!.id ∉ (m[i]!.stk.take k).map (·.id) := fun q => by
     obtain ⟨t, ht, e⟩ := List.mem_map.1 q
     obtain ⟨j, hj, rfl⟩ := List.getElem_of_mem ht
     rw [List.length_take] at hj
     have f := nW (stk := m[i]!.stk) (id := m[i]!.stk[k]!.id) (by omega) j (by omega)
     rw [cV _ _ (by omega)] at f
     rw [List.getElem_take] at e
     exact f e
    refine jU (qF (jU (lT ?_)))
    repeat' (first|(apply aL;first|(apply aR;rfl;rfl;(exact (rfl:_=[_, _]));rfl;rfl;rfl)|(apply bI;(case hx|hi => rfl);(case hm => (assumption));(case hml => (rfl));(case hα | hf|hg => infer_instance);(case hN => rfl))|(apply aF;kernel_rfl)|(apply bD;rfl;rfl)|(apply aW;rfl;rfl;rfl;rfl;rfl;(case hl => (simp;done));(exact (rfl:_=[_, _]))))|(apply aM;(apply aB)))
    show nK _ _ _ _ _ _ _
    refine jU (jU (oH ?_))
    refine vA (l1 := [_, _, _, _, _, _, _, _, _, _, _]) (l2 := [_, _]) ?_
    repeat' (apply aL;first|(apply aE;rfl;rfl)|(apply aP;rfl;rfl;rfl;rfl)|(apply aD;rfl;rfl;rfl)|(apply aY;rfl;rfl;rfl;(assumption))|(apply iB;rfl;rfl;omega;rfl)|((with_reducible apply aJ (k := 84));(case ha => rfl);(case h => (apply dL <;> (fail)));(case hp => (rfl));(case hN => rfl))|(apply aF;kernel_rfl)|(apply bW;rfl;rfl))
    refine ⟨rfl, ?_⟩
    refine AB rfl rfl hw ?_
    refine wQ FR Ga FN rfl rfl hni rfl ?_
    refine uD ?_
    repeat' (apply aL;first|(apply bC;rfl;(assumption);rfl;rfl)|(apply aF;kernel_rfl))
    refine ⟨rfl, ?_⟩
    show nK _ _ _ _ _ _ _
    refine vX rfl (fun h => by cases h) (fun _ => vG ?_)
    show nK _ _ _ _ _ _ _
    refine oH ?_
    refine vA (l1 := [_, _, _]) (l2 := [_]) ?_
    repeat' (apply aL;first|(apply aE;rfl;rfl)|(apply aP;rfl;rfl;rfl;rfl)|(apply aD;rfl;rfl;rfl)|(apply aF;kernel_rfl))
    refine ⟨rfl, ?_⟩
    refine w6 FR Ga FN rfl rfl hni ?_
    refine DB ?_
    show nK _ _ _ _ _ _ _
    refine lT ?_
    repeat' (first|(apply aL;first|(apply aE;rfl;rfl)|(apply bN;rfl;rfl;omega;rfl)|(apply aF;kernel_rfl))|(apply aM;(apply aB)))
    refine ⟨k + 1, by omega, by omega, ?_, ?_⟩
    ·refine Le.ren [(0, 0)] rfl (by decide) ?_ ?_ <;> repeat' (first|exact trivial|refine And.intro ⟨_, rfl, ?_⟩ ?_|refine And.intro ⟨_, _, rfl, rfl, ?_⟩ ?_|exact Or.inr rfl|refine Or.inl ⟨?_, (by first|rfl|exact bH _ _|exact Pur.pf)⟩|rfl)
    ·rw [cQ _ k hkl, List.map_append]; rfl
   ·have hkl : k = m[i]!.stk.length := by have := of_decide_eq_false hb; omega
    refine AX ?_
    show xC 1 _ _ _
    repeat' (first|(apply aL;first|(apply aE;rfl;rfl)|(apply bN;rfl;rfl;omega;rfl)|(apply aF;kernel_rfl))|(apply aM;(apply aB))|with_reducible apply aA|with_reducible apply aX)
    (apply dG (i + 1);focus (refine Le.ren [] rfl (by decide) ?_ ?_ <;> repeat' (first|exact trivial|refine And.intro ⟨_, rfl, ?_⟩ ?_|refine Or.inl ⟨?_, (by first|rfl|exact bH _ _)⟩|rfl)))
    ·omega
    ·omega
 ·repeat' (first | (apply aL; first | (apply aU;rfl;rfl;rfl;rfl) | (apply aC;rfl;rfl) | (apply aF;kernel_rfl)) | (apply aM; first | apply aH | apply aB | (apply aQ;rfl;all_goals intro hc;have hq:=hc;(try simp only [cC] at hq);try exfalso;omega) | apply bS | apply aO) | with_reducible apply aA | with_reducible apply bU | with_reducible apply bT)
  refine aK rfl ⟨rfl, rfl⟩
theorem Le.bump {ts : List (Nat × AV)} {hs : List (Nat × Option (List AV))} {n : Nat} {z0 : Lo} (k : Nat) : Le ⟨ts, hs, n, z0⟩ ⟨ts, hs, n + k, z0⟩ := Le.of (fun _ _ h => h) (fun _ _ h => h) (Nat.le_add_right _ _) rfl
theorem qV {m : List Cl} {N : Nat} {Q : Exit → AS → Prop} {all : Array Oper} {rest : List Oper} {tsl : List (Nat × AV)} {hsl : List (Nat × Option (List AV))} {nidl : Nat} {z0 : Lo} {md : Md} {d : Nat} {ty : TypeId} {pos : String} {af : Array Edge} {tys : Array TypeId} {x0 : Operand} (ha0 : ev (lk tsl) x0 = some (sl cK m)) (hmc : MC Tryz.prog 228 [sl cK m] [] 0 (fun _ : Unit => True) (fun _ => .own 1 0 m.length 4) (fun _ => [(1, some (aI cK m))])) (hM : Nat.ble (nidl + 2) dR = true) (hN : Nat.blt d N = true) {md' : Md} [hmd : MdA md (e7 [x0] ++ []) (List.map Sum.inr (List.map Prod.fst ([((nidl + 1), some (aI cK m))] : List (Nat × Option (List AV)))) ++ [.inl d]) md'] (kk : RW Tryz.prog N all Q md' rest ⟨(d, .own (nidl + 1) 0 m.length 4) :: tsl, fS hsl [((nidl + 1), some (aI cK m))], nidl + 2, z0⟩) : RW Tryz.prog N all Q md (⟨some d, .call ⟨.value (.func 228), #[x0], tys⟩, ty, pos, af, none⟩ :: rest) ⟨tsl, hsl, nidl, z0⟩ := by
 refine bP [] 2 [((nidl + 1), some (aI cK m))] hmc (avs := [sl cK m]) ?_ rfl ?_ rfl ?_ (by simpa using hM) ?_ ?_ ?_ hN (md' := md') (hmd := hmd) kk
 ·show evL (lk tsl) [x0] = _
  simp only [evL, ha0]
 ·exact trivial
 ·(repeat' (exact RnL.purI inferInstance))
 ·(repeat' (exact RnV.own rfl))
 ·simp [cZ]
 ·(repeat' (first|exact trivial|(refine And.intro ⟨1, _, rfl, rfl, ?_⟩ ?_)|exact RnL.purI inferInstance))
theorem uA (m : List Cl) (hl : m.length ≤ 1000000) : MC Tryz.prog 228 [sl cK m] [] 0 (fun _ : Unit => True) (fun _ => .own 1 0 m.length 4) (fun _ => [(1, some (aI cK m))]) := by
 (refine bK Tryz.func228 rfl (by simp [Tryz.ntmps228]) ?_; rw [Tryz.ntmps228])
 repeat' (first|(apply aL;first|(apply tJ;rfl;rfl;(intro b hb))|(apply aE;rfl;rfl)|(apply aC;rfl;rfl)|(apply bV;rfl;rfl;rfl;rfl;rfl;(case hl => (simp [aT]; done));(exact gF (by (rfl)));omega;omega;(exact dW (by (omega)));rfl;rfl)|(apply aF;kernel_rfl)|(apply bQ;rfl;rfl;rfl;(rfl);rfl;rfl))|(apply aM;first|apply aH|apply aB|(apply aQ;rfl;all_goals intro hc;have hq:=hc;(try simp only [cC] at hq);try exfalso;omega)|apply aV|apply aO)|with_reducible apply aA|with_reducible apply a8)
 ·have h0 : m = [] := List.eq_nil_of_length_eq_zero (hb (by assumption))
  subst h0
  refine b0 (Le.bump 1) ?_
  refine b0 (Le.nilOwn (d := 2) 4 rfl (by decide)) ?_
  (refine aK rfl ?_; refine bG () trivial ?_ ⟨.inr (Eq.trans (b := some _) rfl ?_), trivial⟩)
  ·rfl
  ·rfl
 ·(refine aK rfl ?_; refine bG () trivial ?_ ⟨.inr (Eq.trans (b := some _) rfl ?_), trivial⟩)
  ·show AV.own 1 0 (0 + m.length) 4 = _; rw [Nat.zero_add]
  ·rfl
theorem mP {m : List Tg} {N : Nat} {Q : Exit → AS → Prop} {all : Array Oper} {rest : List Oper} {tsl : List (Nat × AV)} {hsl : List (Nat × Option (List AV))} {nidl : Nat} {z0 : Lo} {md : Md} {d : Nat} {ty : TypeId} {pos : String} {af : Array Edge} {tys : Array TypeId} {x0 : Operand} (ha0 : ev (lk tsl) x0 = some (sl c6 m)) (hmc : MC Tryz.prog 229 [sl c6 m] [] 0 (fun _ : Unit => True) (fun _ => .own 1 0 m.length 2) (fun _ => [(1, some (aI c6 m))])) (hM : Nat.ble (nidl + 2) dR = true) (hN : Nat.blt d N = true) {md' : Md} [hmd : MdA md (e7 [x0] ++ []) (List.map Sum.inr (List.map Prod.fst ([((nidl + 1), some (aI c6 m))] : List (Nat × Option (List AV)))) ++ [.inl d]) md'] (kk : RW Tryz.prog N all Q md' rest ⟨(d, .own (nidl + 1) 0 m.length 2) :: tsl, fS hsl [((nidl + 1), some (aI c6 m))], nidl + 2, z0⟩) : RW Tryz.prog N all Q md (⟨some d, .call ⟨.value (.func 229), #[x0], tys⟩, ty, pos, af, none⟩ :: rest) ⟨tsl, hsl, nidl, z0⟩ := by
 refine bP [] 2 [((nidl + 1), some (aI c6 m))] hmc (avs := [sl c6 m]) ?_ rfl ?_ rfl ?_ (by simpa using hM) ?_ ?_ ?_ hN (md' := md') (hmd := hmd) kk
 ·show evL (lk tsl) [x0] = _
  simp only [evL, ha0]
 ·exact trivial
 ·(repeat' (exact RnL.purI inferInstance))
 ·(repeat' (exact RnV.own rfl))
 ·simp [cZ]
 ·(repeat' (first|exact trivial|(refine And.intro ⟨1, _, rfl, rfl, ?_⟩ ?_)|exact RnL.purI inferInstance))
theorem vK (m : List Tg) (hl : m.length ≤ 1000000) : MC Tryz.prog 229 [sl c6 m] [] 0 (fun _ : Unit => True) (fun _ => .own 1 0 m.length 2) (fun _ => [(1, some (aI c6 m))]) := by
 (refine bK Tryz.func229 rfl (by simp [Tryz.ntmps229]) ?_; rw [Tryz.ntmps229])
 repeat' (first|(apply aL;first|(apply tJ;rfl;rfl;(intro b hb))|(apply aE;rfl;rfl)|(apply aC;rfl;rfl)|(apply bV;rfl;rfl;rfl;rfl;rfl;(case hl => (simp [aT]; done));(exact gF (by (rfl)));omega;omega;(exact dW (by (omega)));rfl;rfl)|(apply aF;kernel_rfl)|(apply bQ;rfl;rfl;rfl;(rfl);rfl;rfl))|(apply aM;first|apply aH|apply aB|(apply aQ;rfl;all_goals intro hc;have hq:=hc;(try simp only [cC] at hq);try exfalso;omega)|apply aV|apply aO)|with_reducible apply aA|with_reducible apply a8)
 ·have h0 : m = [] := List.eq_nil_of_length_eq_zero (hb (by assumption))
  subst h0
  refine b0 (Le.bump 1) ?_
  refine b0 (Le.nilOwn (d := 2) 2 rfl (by decide)) ?_
  (refine aK rfl ?_; refine bG () trivial ?_ ⟨.inr (Eq.trans (b := some _) rfl ?_), trivial⟩)
  ·rfl
  ·rfl
 ·(refine aK rfl ?_; refine bG () trivial ?_ ⟨.inr (Eq.trans (b := some _) rfl ?_), trivial⟩)
  ·show AV.own 1 0 (0 + m.length) 2 = _; rw [Nat.zero_add]
  ·rfl
theorem A7 (t : Tg) (c g : Int) : PC Tryz.prog 231 [Gn t, .iptr [iv c, iv g]] (fun r => r = bv (decide (t.id = g))) := by
 (refine aS Tryz.func231 rfl (by simp [Tryz.ntmps231]) ?_; rw [Tryz.ntmps231])
 repeat' (first|(apply aL;first|(apply aP;rfl;rfl;rfl;rfl)|(apply aD;rfl;rfl;rfl)|(apply aU;rfl;rfl;rfl;rfl)|(apply aC;rfl;rfl)|(apply aF;kernel_rfl)|(apply bA;rfl;rfl;rfl;rfl))|(apply aM;first|apply aH|apply aB|apply aO)|with_reducible apply aA)
 exact aK rfl ⟨rfl, rfl⟩
theorem vS (t : Tg) : PC Tryz.prog 233 [Gn t] (fun r => r = bv t.uq) := by
 (refine aS Tryz.func233 rfl (by simp [Tryz.ntmps233]) ?_; rw [Tryz.ntmps233])
 repeat' (first|(apply aL;first|(apply aP;rfl;rfl;rfl;rfl)|(apply aD;rfl;rfl;rfl)|(apply aC;rfl;rfl)|(apply aF;kernel_rfl)|(apply bA;rfl;rfl;rfl;rfl))|(apply aM;first|apply aH|apply aB|apply aO)|with_reducible apply aA)
 exact aK rfl ⟨rfl, rfl⟩
theorem rT (stk : List Tg) (c g : Int) (hl : stk.length ≤ 1000000) : PC Tryz.prog 230 [sl c6 stk, .clos (.func 231) [] [.iptr [iv c, iv g]]] (fun r => r = iv (c5 stk g)) := by
 (refine aS Tryz.func230 rfl (by simp [Tryz.ntmps230]) ?_; rw [Tryz.ntmps230])
 repeat' (first|(apply aL;first|(apply aE;rfl;rfl)|(apply aC;rfl;rfl)|(apply bM;rfl;rfl;rfl)|(apply aF;kernel_rfl))|(apply aM;first|apply aH|apply aB|apply aN)|with_reducible apply aA)
 refine bL (σ := Nat) [0, 1, 7] [(0, _), (1, _), (7, _)] [] [] (fun k => [(8, iv (k : Int))]) (fun k => []) (fun k => k ≤ stk.length ∧ ∀ j, j < k → stk[j]!.id ≠ g) (fun k => stk.length - k) (0) ⟨by omega, by omega⟩ rfl rfl (by repeat' (first|exact trivial|refine And.intro rfl ?_)) (by repeat' (exact trivial)) ?_
 rintro k ⟨hk, hall⟩
 by_cases hkn : k < stk.length
 ·have hcl := A7 stk[k]! c g
  repeat' (first|(apply aL;first|(apply aE;rfl;rfl)|(apply aR;rfl;rfl;(exact (rfl:_=[_, _]));rfl;rfl;rfl)|(first|(apply bN;rfl;rfl;omega;rfl)|(apply aU;rfl;rfl;rfl;rfl))|(apply aC;rfl;rfl)|(apply bI;(case hx|hi => rfl);(case hm => (assumption));(case hml => (rfl));(case hα | hf|hg => infer_instance);(case hN => rfl))|((with_reducible apply lO);(case hx|hcl => rfl);(case hc => infer_instance);(case ha => rfl);(case h => (apply hcl <;> (fail)));(case hp => (rfl));(case hN => rfl))|(apply aF;kernel_rfl))|(apply aM;first|apply aH|apply aB|(apply aQ;rfl;all_goals intro hc;have hq:=hc;(try simp only [cC] at hq);try exfalso;omega)|apply aN|apply aV|apply aO)|with_reducible apply aA|with_reducible apply a8|with_reducible apply aX|with_reducible apply cA)
  ·refine aK rfl ⟨?_, rfl⟩
   simp only [bX]; rw [sH hkn (by assumption) hall]
  ·(apply dG (k + 1); focus (refine Le.ren [] rfl (by decide) ?_ ?_ <;> repeat' (first | exact trivial | refine And.intro ⟨_, rfl, ?_⟩ ?_ | refine Or.inl ⟨?_, (by first | rfl | exact bH _ _)⟩ | rfl)))
   ·refine ⟨by omega, fun j hj => ?_⟩
    by_cases e : j = k
    ·subst e;assumption
    ·exact hall j (by omega)
   ·omega
 ·repeat' (first | (apply aL; first | (apply aU;rfl;rfl;rfl;rfl) | (apply aC;rfl;rfl) | (apply aF;kernel_rfl)) | (apply aM; first | apply aH | apply aB | (apply aQ;rfl;all_goals intro hc;have hq:=hc;(try simp only [cC] at hq);try exfalso;omega) | apply bS | apply aO) | with_reducible apply aA | with_reducible apply bU | with_reducible apply bT)
  refine aK rfl ⟨?_, rfl⟩
  have h2 : c5 stk g < 0 := mH.2 (fun t ht => by obtain ⟨j, hj, rfl⟩ := List.getElem_of_mem ht;have := hall j (by omega);rwa [cV _ _ hj] at this)
  have hb := eI stk g
  simp only [bX]; rw [show c5 stk g = -1 by omega]
def nC (xs : List Tg) : Int := match xs.findIdx? (fun t => t.uq) with | some i => i | none => -1
theorem C0 (stk : List Tg) (hl : stk.length ≤ 1000000) : PC Tryz.prog 230 [sl c6 stk, .v (.func (.func 233) #[] #[])] (fun r => r = iv (nC stk)) := by
 (refine aS Tryz.func230 rfl (by simp [Tryz.ntmps230]) ?_; rw [Tryz.ntmps230])
 repeat' (first|(apply aL;first|(apply aE;rfl;rfl)|(apply aC;rfl;rfl)|(apply bM;rfl;rfl;rfl)|(apply aF;kernel_rfl))|(apply aM;first|apply aH|apply aB|apply aN)|with_reducible apply aA)
 refine bL (σ := Nat) [0, 1, 7] [(0, _), (1, _), (7, _)] [] [] (fun k => [(8, iv (k : Int))]) (fun k => []) (fun k => k ≤ stk.length ∧ ∀ j, j < k → stk[j]!.uq = false) (fun k => stk.length - k) (0) ⟨by omega, by omega⟩ rfl rfl (by repeat' (first|exact trivial|refine And.intro rfl ?_)) (by repeat' (exact trivial)) ?_
 rintro k ⟨hk, hall⟩
 by_cases hkn : k < stk.length
 ·have hcl := vS stk[k]!
  repeat' (first|(apply aL;first|(apply aE;rfl;rfl)|(apply aR;rfl;rfl;(exact (rfl:_=[_, _]));rfl;rfl;rfl)|(first|(apply bN;rfl;rfl;omega;rfl)|(apply aU;rfl;rfl;rfl;rfl))|(apply aC;rfl;rfl)|(apply bI;(case hx|hi => rfl);(case hm => (assumption));(case hml => (rfl));(case hα | hf|hg => infer_instance);(case hN => rfl))|((with_reducible apply lO);(case hx|hcl => rfl);(case hc => infer_instance);(case ha => rfl);(case h => (apply hcl <;> (fail)));(case hp => (rfl));(case hN => rfl))|(apply aF;kernel_rfl))|(apply aM;first|apply aH|apply aB|(apply aQ;rfl;all_goals intro hc;have hq:=hc;(try simp only [cC] at hq);try exfalso;omega)|apply aN|apply aV|apply aO)|with_reducible apply aA|with_reducible apply a8|with_reducible apply aX|with_reducible apply cA)
  ·refine aK rfl ⟨?_, rfl⟩
   have hu : stk[k]!.uq = true := by assumption
   have : stk.findIdx? (fun t => t.uq) = some k := by
    rw [List.findIdx?_eq_some_iff_getElem]
    refine ⟨hkn, by rw [← cV stk k hkn]; exact hu, fun j hj => ?_⟩
    have := hall j hj;rw [cV stk j (by omega)] at this;rw [this]; decide
   simp only [bX, nC, this]
  ·have hu : stk[k]!.uq = false := by assumption
   (apply dG (k + 1);focus (refine Le.ren [] rfl (by decide) ?_ ?_ <;> repeat' (first|exact trivial|refine And.intro ⟨_, rfl, ?_⟩ ?_|refine Or.inl ⟨?_, (by first|rfl|exact bH _ _)⟩|rfl)))
   ·refine ⟨by omega, fun j hj => ?_⟩
    by_cases e : j = k
    ·subst e;exact hu
    ·exact hall j (by omega)
   ·omega
 ·repeat' (first | (apply aL; first | (apply aU;rfl;rfl;rfl;rfl) | (apply aC;rfl;rfl) | (apply aF;kernel_rfl)) | (apply aM; first | apply aH | apply aB | (apply aQ;rfl;all_goals intro hc;have hq:=hc;(try simp only [cC] at hq);try exfalso;omega) | apply bS | apply aO) | with_reducible apply aA | with_reducible apply bU | with_reducible apply bT)
  refine aK rfl ⟨?_, rfl⟩
  have : stk.findIdx? (fun t => t.uq) = none := by
   rw [List.findIdx?_eq_none_iff]
   intro x hx
   obtain ⟨j, hj, rfl⟩ := List.getElem_of_mem hx
   have := hall j (by omega);rw [cV stk j hj] at this;exact this
  simp only [bX, nC, this]
theorem FO {xs : List Tg} {k : Nat} {a : Int} {b : Bool} (hk : k < xs.length) : gO (aI c6 xs) (0 + k * 2) [iv a, bv b] = aI c6 (xs.set k ⟨a, b⟩) := uR hk rfl
theorem B8 {cs new : List AV} {k : Nat} (h : k ≤ cs.length) : (gO cs (0 + k) new).take k = cs.take k := by
 unfold gO
 rw [Nat.zero_add, List.append_assoc, List.take_left' (by rw [List.length_take]; omega)]
def shr (xs : List Tg) : List Tg := xs.filter (fun t => !t.uq)
theorem zV {xs : List Tg} (h : nC xs = -1) : shr xs = xs := by
 unfold nC at h
 split at h
 ·omega
 ·rename_i hn
  rw [List.findIdx?_eq_none_iff] at hn
  unfold shr
  rw [List.filter_eq_self]
  intro t ht
  have := hn t ht
  simp [this]
theorem z6 {xs : List Tg} {i : Nat} (h : nC xs = (i : Int)) : i < xs.length ∧ xs[i]!.uq = true ∧ shr (xs.take (i + 1)) = xs.take i := by
 unfold nC at h
 split at h
 ·rename_i k hk
  obtain ⟨h1, h2, h3⟩ := List.findIdx?_eq_some_iff_getElem.1 hk
  have e : k = i := by omega
  subst e
  have hs : shr (xs.take k) = xs.take k := by
   unfold shr
   rw [List.filter_eq_self]
   intro t ht
   obtain ⟨j, hj, rfl⟩ := List.getElem_of_mem ht
   rw [List.length_take] at hj
   have := h3 j (by omega)
   rw [List.getElem_take]; simpa using this
  refine ⟨h1, by rw [cV _ _ h1]; exact h2, ?_⟩
  rw [cQ xs k h1]
  unfold shr at hs ⊢
  rw [List.filter_append, hs, kI (by rw [cV _ _ h1, h2]; rfl), List.append_nil]
 ·omega
theorem Ee (xs : List Tg) : -1 ≤ nC xs ∧ nC xs < xs.length := by
 unfold nC
 split
 ·rename_i k hk
  obtain ⟨h1, _⟩ := List.findIdx?_eq_some_iff_getElem.1 hk
  omega
 ·omega
theorem Dr {xs : List Tg} {j : Nat} (hj : j < xs.length) (h : xs[j]!.uq = false) : shr (xs.take (j + 1)) = shr (xs.take j) ++ [xs[j]!] := by
 rw [cQ xs j hj]; unfold shr
 rw [List.filter_append, l6 (by rw [h]; rfl)]
theorem B3 {xs : List Tg} {j : Nat} (hj : j < xs.length) (h : xs[j]!.uq = true) : shr (xs.take (j + 1)) = shr (xs.take j) := by
 rw [cQ xs j hj]; unfold shr
 rw [List.filter_append, kI (by rw [h]; rfl), List.append_nil]
theorem Bi {α : Type} [Inhabited α] {L : List α} {i : Nat} {x : α} (h : i < L.length) : (L.set i x).take (i + 1) = L.take i ++ [x] := by
 rw [List.set_eq_take_append_cons_drop, if_pos h]
 have h1 : (L.take i).length = i := by rw [List.length_take]; omega
 rw [List.take_append, h1, show i + 1 - i = 1 by omega, List.take_of_length_le (by omega)]
 rfl
theorem AR {α : Type} [Inhabited α] {L M : List α} {j : Nat} (h : L.drop j = M.drop j) (hl : L.length = M.length) (hj : j < M.length) : L[j]! = M[j]! := by
 rw [cV _ _ (by omega), cV _ _ hj]
 rw [List.drop_eq_getElem_cons (by omega : j < L.length), List.drop_eq_getElem_cons hj] at h
 exact (List.cons.inj h).1
theorem oY {α : Type} {L M : List α} {j : Nat} (h : L.drop j = M.drop j) : L.drop (j + 1) = M.drop (j + 1) := by
 rw [← List.drop_drop, h, List.drop_drop]
theorem Da {xs : List Tg} {m : Nat} {N : Nat} {Q : Exit → AS → Prop} {all : Array Oper} {rest : List Oper} {tsl : List (Nat × AV)} {hsl : List (Nat × Option (List AV))} {nidl : Nat} {z0 : Lo} {md : Md} {d : Nat} {ty : TypeId} {pos : String} {af : Array Edge} {tys : Array TypeId} {x0 x1 : Operand} {i0 : Nat} (ha0 : ev (lk tsl) x0 = some (.own i0 0 m 2)) (ha1 : ev (lk tsl) x1 = some (.v (.func (.func 233) #[] #[]))) (hH0 : b8 hsl i0 = some (aI c6 xs)) (hmc : MC Tryz.prog 232 [.own 0 0 m 2, .v (.func (.func 233) #[] #[])] [(0, some (aI c6 xs))] 1 (fun _ : Unit => True) (fun _ => .own 0 0 (shr xs).length 2) (fun _ => [(0, some (aI c6 (shr xs)))])) (hM : Nat.ble (nidl + 0) dR = true) (hN : Nat.blt d N = true) {md' : Md} [hmd : MdA md (e7 [x0, x1] ++ [.inr i0]) (List.map Sum.inr (List.map Prod.fst ([(i0, some (aI c6 (shr xs)))] : List (Nat × Option (List AV)))) ++ [.inl d]) md'] (kk : RW Tryz.prog N all Q md' rest ⟨(d, .own i0 0 (shr xs).length 2) :: tsl, fS hsl [(i0, some (aI c6 (shr xs)))], nidl + 0, z0⟩) : RW Tryz.prog N all Q md (⟨some d, .call ⟨.value (.func 232), #[x0, x1], tys⟩, ty, pos, af, none⟩ :: rest) ⟨tsl, hsl, nidl, z0⟩ := by
 refine bP [i0] 1 [(i0, some (aI c6 (shr xs)))] hmc (avs := [.own i0 0 m 2, .v (.func (.func 233) #[] #[])]) ?_ rfl ?_ rfl ?_ (by simpa using hM) ?_ ?_ ?_ hN (md' := md') (hmd := hmd) kk
 ·show evL (lk tsl) [x0, x1] = _
  simp only [evL, ha0, ha1]
 ·exact ⟨⟨_, _, rfl, hH0, by (repeat' (exact RnL.purI inferInstance))⟩, trivial⟩
 ·(repeat' (first|exact RnL.purI inferInstance|exact RnV.own rfl|refine RnL.cons ?_ ?_))
 ·(repeat' (exact RnV.own rfl))
 ·simp [cZ]
 ·(repeat' (first|exact trivial|(refine And.intro ⟨0, _, rfl, rfl, ?_⟩ ?_)|exact RnL.purI inferInstance))
theorem Fq (xs : List Tg) (m : Nat) (hm : m = xs.length) (hl : m ≤ 1000000) : MC Tryz.prog 232 [.own 0 0 m 2, .v (.func (.func 233) #[] #[])] [(0, some (aI c6 xs))] 1 (fun _ : Unit => True) (fun _ => .own 0 0 (shr xs).length 2) (fun _ => [(0, some (aI c6 (shr xs)))]) := by
 subst hm
 have hix := C0 xs hl
 have hbd := Ee xs
 by_cases hn : nC xs = -1
 ·rw [hn] at hix
  have hs := zV hn
  (refine bK Tryz.func232 rfl (by simp [Tryz.ntmps232]) ?_; rw [Tryz.ntmps232])
  repeat' (first|(apply aL;first|((with_reducible apply nP (k := 230));(case ha => rfl);(case hl => (repeat' (first|exact mS|apply k6|exact y9|exact l8 rfl inferInstance)));(case h => exact hix);(case hfr|hN => rfl);(case hmd => infer_instance))|(apply aE;rfl;rfl)|(apply aU;rfl;rfl;rfl;rfl)|(apply aC;rfl;rfl)|(apply aF;kernel_rfl))|(apply aM;first|apply aH|apply aB|(apply bR;rfl;(rfl))|apply aO)|with_reducible apply aA|with_reducible apply a8)
  all_goals (
   (refine aK rfl ?_; refine bG () trivial ?_ ⟨.inr (Eq.trans (b := some _) rfl ?_), trivial⟩)
   ·rw [hs]; rfl
   ·rw [hs])
 ·obtain ⟨i0, hi0⟩ := Int.eq_ofNat_of_zero_le (show 0 ≤ nC xs by omega)
  obtain ⟨g1, g2, g3⟩ := z6 hi0
  rw [hi0] at hix
  (refine bK Tryz.func232 rfl (by simp [Tryz.ntmps232]) ?_; rw [Tryz.ntmps232])
  repeat' (first|(apply aL;first|((with_reducible apply nP (k := 230));(case ha => rfl);(case hl => (repeat' (first|exact mS|apply k6|exact y9|exact l8 rfl inferInstance)));(case h => exact hix);(case hfr|hN => rfl);(case hmd => infer_instance))|(apply aE;rfl;rfl)|(first|(apply bN;rfl;rfl;omega;rfl)|(apply aU;rfl;rfl;rfl;rfl))|(apply aC;rfl;rfl)|(apply aF;kernel_rfl))|(apply aM;first|apply aH|apply aB|(apply b9;rfl;(rfl))|apply aN|apply aV)|with_reducible apply aA)
  all_goals (try (exfalso;omega))
  refine bL (σ := List Tg × Nat × Nat) [0, 1] [(0, _), (1, _)] [] [] (fun s => [(5, iv (s.2.1 : Int)), (6, iv (s.2.2 : Int))]) (fun s => [(0, some (aI c6 s.1))]) (fun s => s.1.length = xs.length ∧ s.1.take s.2.1 = shr (xs.take s.2.2) ∧ s.1.drop s.2.2 = xs.drop s.2.2 ∧ s.2.1 < s.2.2 ∧ s.2.2 ≤ xs.length) (fun s => xs.length - s.2.2) (xs, i0, i0 + 1) ⟨rfl, g3.symm, rfl, by dsimp only;omega, by dsimp only;omega⟩ rfl rfl (by repeat' (first|exact trivial|refine And.intro rfl ?_)) (by repeat' (first|exact trivial|refine And.intro (.inr rfl) ?_)) ?_
  rintro ⟨L, i, j⟩ ⟨hL, ht, hd, hij, hj⟩
  dsimp only at hL ht hd hij hj ⊢
  by_cases hjn : j < xs.length
  ·have hcl := vS L[j]!
   have hg := AR hd hL hjn
   repeat' (first|(apply aL;first|(apply aE;rfl;rfl)|(first|(apply fC;(case hx|hH => rfl);(case hf|hg|hα => infer_instance);(case hk => omega);(case h0|hN => rfl))|(apply aR;rfl;rfl;(exact (rfl:_=[_, _]));rfl;rfl;rfl))|(first|(apply bN;rfl;rfl;omega;rfl)|(apply aU;rfl;rfl;rfl;rfl))|(apply aC;rfl;rfl)|(apply cE;rfl;rfl;(first|assumption|omega);rfl)|(apply bM;rfl;rfl;rfl)|((with_reducible apply lO);(case hx|hcl => rfl);(case hc => infer_instance);(case ha => rfl);(case h => (apply hcl <;> (fail)));(case hp => (rfl));(case hN => rfl))|(apply aF;kernel_rfl)|(apply bW;rfl;rfl)|(apply bD;rfl;rfl)|(apply aW;rfl;rfl;rfl;rfl;rfl;(case hl => (first|(rw [aT]; simp only [gY] <;> omega)|(simp;done)));(first|exact FO (by (first|assumption|omega))|exact (rfl:_=[_, _]))))|(apply aM;first|apply aH|apply aB|(apply aQ;rfl;all_goals intro hc;have hq:=hc;(try simp only [cC] at hq);try exfalso;omega)|apply aN|apply aV)|with_reducible apply aA|with_reducible apply aX)
   ·have hu : L[j]!.uq = false := by assumption
    (apply dG (_, i + 1, j + 1);focus (refine Le.ren [] rfl (by decide) ?_ ?_ <;> repeat' (first|exact trivial|refine And.intro ⟨_, rfl, ?_⟩ ?_|refine And.intro ⟨_, _, rfl, rfl, ?_⟩ ?_|exact Or.inr rfl|refine Or.inl ⟨?_, (by first|rfl|exact bH _ _)⟩|rfl)))
    ·refine ⟨by dsimp only; rw [List.length_set]; exact hL, ?_, ?_, by dsimp only; omega, by dsimp only; omega⟩
     ·dsimp only
      rw [Bi (by omega), ht, Dr hjn (by rw [← hg]; exact hu), hg]
     ·dsimp only
      rw [List.drop_set_of_lt (by omega)]
      exact oY hd
    ·dsimp only;omega
   ·have hu : L[j]!.uq = true := by assumption
    (apply dG (L, i, j + 1);focus (refine Le.ren [] rfl (by decide) ?_ ?_ <;> repeat' (first|exact trivial|refine And.intro ⟨_, rfl, ?_⟩ ?_|refine And.intro ⟨_, _, rfl, rfl, ?_⟩ ?_|exact Or.inr rfl|refine Or.inl ⟨?_, (by first|rfl|exact bH _ _)⟩|rfl)))
    ·refine ⟨hL, ?_, oY hd, by dsimp only; omega, by dsimp only; omega⟩
     dsimp only
     rw [ht, B3 hjn (by rw [← hg]; exact hu)]
    ·dsimp only;omega
  ·have hfl : (aI c6 L).length = L.length * 2 := aT c6 L
   repeat' (first|(apply aL;first|((apply gB (d := 38) (l := i) (h := xs.length));(case hx|hn => rfl);(case hl => exact mC rfl (by omega));(case hh => rfl);(case hp => exact if_pos (by omega));(case hN => rfl))|((apply gB (d := 41) (l := 0) (h := i));(case hx|hn|hl => rfl);(case hh => exact mC rfl (by omega));(case hp => exact if_pos (by omega));(case hN => rfl))|(apply A2;rfl;rfl;omega;rfl;(rw [hfl]; omega);rfl)|(apply aE;rfl;rfl)|(apply aU;rfl;rfl;rfl;rfl)|(apply aC;rfl;rfl)|(apply bM;rfl;rfl;rfl)|(apply aF;kernel_rfl))|(apply aM;first|apply aH|apply aB|(apply aQ;rfl;all_goals intro hc;have hq:=hc;(try simp only [cC] at hq);try exfalso;omega)|apply bS|apply aO)|with_reducible apply aA|with_reducible apply bU|with_reducible apply bT)
   refine b0 (Le.cut (i := 0) (i * 2) rfl) ?_
   have hje : j = xs.length := by omega
   have hLt : L.take i = shr xs := by rw [ht, hje, List.take_length]
   have hil : (shr xs).length = i := by rw [← hLt, List.length_take]; omega
   (refine aK rfl ?_; refine bG () trivial ?_ ⟨.inr (Eq.trans (b := some _) rfl ?_), trivial⟩)
   ·show AV.own 0 (0 + 0 * 2) (i - 0) 2 = _
    rw [hil]; rfl
   ·rw [B8 (by omega), eV c6 (e := 2), hLt]
end Go.Proofs.YtckihjkcgfphmaaGreat
