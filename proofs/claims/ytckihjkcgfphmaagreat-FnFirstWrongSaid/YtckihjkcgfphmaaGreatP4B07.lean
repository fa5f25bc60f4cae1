/-
 A part of the proofs over this program: rules and contracts of its functions (the contracts).
-/
import Derived.Test.YtckihjkcgfphmaaGreatP4B06
set_option linter.unusedVariables false
set_option linter.unusedSimpArgs false
set_option maxHeartbeats 8000000
set_option maxRecDepth 4000
attribute [local irreducible] Go.AL.RW Go.AL.AW Go.AL.Stop
namespace Go.Proofs.YtckihjkcgfphmaaGreat
open Go.AL Go.RowKit
theorem LA (ts : List Int) (bd : List AL.Stmt) (pts : List Pnt) (s : Mc) (x : Pnt) (htl : ts.length ≤ 6) (hm : OkM s.cells) (hsl : s.slots.length = ts.length) (ho : x.op = 1) (hx : 0 ≤ x.x ∧ x.x < ts.length) : MC Tryz.prog 86 [.optr 0 0, fK x] [(0, some (mO ts bd pts 1 2 s)), (1, some (aI eD s.slots)), (2, some (aI cI s.read))] 3 (fun _ : Unit => True) (fun _ => iv (eV ts s x).2) (fun _ => [(0, some (mO ts bd pts 1 2 (eV ts s x).1)), (1, some (aI eD (eV ts s x).1.slots)), (2, some (aI cI (eV ts s x).1.read))]) := by
 have hus := jB ts bd pts x htl
 have hsm : Sm (wS ts x [1, 2, 3]) := dF (by omega)
 obtain ⟨L, hL⟩ : ∃ L, L = cR (wS ts x [1, 2, 3]) := ⟨_, rfl⟩
 have hLl : L.length ≤ 62 := by rw [hL]; exact dS _
 have hmem : ∀ k, k < L.length → 0 ≤ L[k]! ∧ L[k]! < s.slots.length := fun k hk => by
  rw [hsl]; exact iM (by rw [← hL]; exact cJ _ _ hk)
 (refine bX Tryz.func86 rfl (by simp [Tryz.ntmps86]) ?_; rw [Tryz.ntmps86])
 repeat' (first|(apply aK;first|((with_reducible apply aJ (k := 120));(case ha => rfl);(case h => exact hus);(case hp => (exact Pur.pf));(case hN => rfl))|(apply aE;rfl;rfl)|(first|(apply aN;rfl;rfl;rfl;rfl)|(apply aV;rfl;rfl;(exact (rfl:_=[_, _, _, _, _]));rfl;rfl;rfl))|(apply aD;rfl;rfl;rfl)|(apply aC;rfl;rfl)|((with_reducible apply aJ (k := 119));(case ha => rfl);(case h => (apply iG <;> (assumption)));(case hp => (rfl));(case hN => rfl))|(apply bQ;rfl;rfl;rfl)|(apply aF;kernel_rfl)|(apply b8;rfl;rfl;rfl)|(apply bH;rfl;rfl;rfl;rfl))|(apply aL;first|apply aH|apply aB|(apply b9;kernel_rfl)|apply aM)|with_reducible apply aA)
 rw [← hL]
 refine a8 (σ := Nat) [0, 3, 26, 27] [(0, _), (3, _), (26, _), (27, _)] [0, 1, 2, 3] [(0, some _), (1, some _), (2, some _), (3, some _)] (fun k => [(28, iv (k : Int))]) (fun k => []) (fun k => k ≤ L.length ∧ ∀ j, j < k → s.slots[(L[j]!).toNat]!.set = true) (fun k => L.length - k) (0) ⟨Nat.zero_le _, fun j h => absurd h (by omega)⟩ rfl rfl (by repeat' (first|exact trivial|refine And.intro rfl ?_)) (by repeat' (exact trivial)) ?_
 rintro k ⟨hk, hall⟩
 by_cases hkn : k < L.length
 ·have hmk := hmem k hkn
  repeat' (first|(apply aK;first|(apply aE;rfl;rfl)|(first|(apply cV;(case hx|hH => rfl);(case hf|hg|hα => infer_instance);(case hk => omega);(case hc|hN => rfl))|(apply aN;rfl;rfl;rfl;rfl))|(apply aD;rfl;rfl;rfl)|(first|(apply bS;rfl;rfl;omega;rfl)|(apply aU;rfl;rfl;rfl;rfl))|(apply aC;rfl;rfl)|(first|(apply aZ;(case hx|hi => rfl);(case hm => (assumption));(case hml => (rfl));(case hα | hf|hg => infer_instance);(case hN => rfl))|(apply cQ;rfl;rfl;(omega);rfl))|(apply aF;kernel_rfl)|(apply cF;rfl;rfl)|(apply b8;rfl;rfl;rfl))|(apply aL;first|apply aH|apply aB|(apply aP;rfl;all_goals intro hc;have hq:=hc;(try simp only [cH] at hq);try exfalso;omega)|apply aM|apply aT|apply aQ)|with_reducible apply aA|with_reducible apply bE|with_reducible apply aX|with_reducible apply cO)
  ·have hu : dG ts s x = true := (dL htl).2 ⟨L[k]!, by rw [← hL]; exact cJ _ _ hkn, by assumption⟩
   rw [vA hu]
   (refine aO rfl ?_; refine bV () trivial ?_ ⟨.inr (Eq.trans (b := some _) rfl ?_), ⟨.inr (Eq.trans (b := some _) rfl ?_), ⟨.inr (Eq.trans (b := some _) rfl ?_), trivial⟩⟩⟩)
   ·rfl
   ·rfl
   ·rfl
   ·rfl
  ·(apply dJ (k + 1); focus (refine Le.ren [(3, 3)] rfl (by decide) ?_ ?_ <;> repeat' (first | exact trivial | refine And.intro ⟨_, rfl, ?_⟩ ?_ | refine And.intro ⟨_, _, rfl, rfl, ?_⟩ ?_ | exact Or.inr rfl | refine Or.inl ⟨?_, (by first | rfl | exact aY _ _ | exact Pur.pf)⟩ | refine Or.inr (All2.cons ?_ ?_) | refine All2.cons ?_ ?_ | exact All2.nil | rfl)))
   ·refine ⟨by omega, fun j hj => ?_⟩
    rcases Nat.lt_or_ge j k with h|h
    ·exact hall j h
    ·rw [show j = k by omega]; assumption
   ·omega
 ·have hu : dG ts s x = false := by
   cases q : dG ts s x with
   | false => rfl
   | true =>
    obtain ⟨v, hv, hs⟩ := (dL htl).1 q
    rw [← hL] at hv
    obtain ⟨j, hj, e⟩ := List.getElem_of_mem hv
    have h1 := hall j (by omega)
    rw [cT _ _ hj, e, hs] at h1;cases h1
  rw [qR hu]
  have hd : c7 ts s x = cY ts s x.x.toNat ⟨true, x.n, ⟨0, 0⟩⟩ := by unfold c7;rw [if_pos ho]
  rw [hd]
  have hp := m8 ts bd pts s x.x ⟨true, x.n, ⟨0, 0⟩⟩ hm hsl hx
  repeat' (first|(apply aK;first|((apply k9 (ts := ts) (bd := bd) (pts := pts) (s := s) (v := x.x) (y := ⟨true, x.n, ⟨0, 0⟩⟩));(case ha0|ha1|ha2|hH0|hH1|hH2|hdd => rfl);(case hmc => exact hp);(case hM|hN => rfl))|(apply aE;rfl;rfl)|(apply aN;rfl;rfl;rfl;rfl)|(apply aD;rfl;rfl;rfl)|(apply aU;rfl;rfl;rfl;rfl)|(apply aC;rfl;rfl)|(apply aF;kernel_rfl)|(apply cC;rfl;(exact (rfl:_=some [_, _, _, _]));(exact (rfl:_=[_, _, _, _]));rfl))|(apply aL;first|apply aH|apply aB|(apply aP;rfl;all_goals intro hc;have hq:=hc;(try simp only [cH] at hq);try exfalso;omega)|apply aM|apply bK|apply aQ)|with_reducible apply aA|with_reducible apply bE|with_reducible apply bI|with_reducible apply cO|with_reducible apply bJ)
  (refine aO rfl ?_; refine bV () trivial ?_ ⟨.inr (Eq.trans (b := some _) rfl ?_), ⟨.inr (Eq.trans (b := some _) rfl ?_), ⟨.inr (Eq.trans (b := some _) rfl ?_), trivial⟩⟩⟩)
  ·rfl
  ·rfl
  ·rfl
  ·rfl
theorem LY (ts : List Int) (bd : List AL.Stmt) (pts : List Pnt) (s : Mc) (x : Pnt) (htl : ts.length ≤ 6) (hm : OkM s.cells) (hsl : s.slots.length = ts.length) (ho : x.op = 2) (hn : 0 ≤ x.n ∧ x.n ≤ 9) (hx : 0 ≤ x.x ∧ x.x < ts.length) : MC Tryz.prog 86 [.optr 0 0, fK x] [(0, some (mO ts bd pts 1 2 s)), (1, some (aI eD s.slots)), (2, some (aI cI s.read))] 3 (fun _ : Unit => True) (fun _ => iv (eV ts s x).2) (fun _ => [(0, some (mO ts bd pts 1 2 (eV ts s x).1)), (1, some (aI eD (eV ts s x).1.slots)), (2, some (aI cI (eV ts s x).1.read))]) := by
 have hus := jB ts bd pts x htl
 have hsm : Sm (wS ts x [1, 2, 3]) := dF (by omega)
 obtain ⟨L, hL⟩ : ∃ L, L = cR (wS ts x [1, 2, 3]) := ⟨_, rfl⟩
 have hLl : L.length ≤ 62 := by rw [hL]; exact dS _
 have hmem : ∀ k, k < L.length → 0 ≤ L[k]! ∧ L[k]! < s.slots.length := fun k hk => by
  rw [hsl]; exact iM (by rw [← hL]; exact cJ _ _ hk)
 (refine bX Tryz.func86 rfl (by simp [Tryz.ntmps86]) ?_; rw [Tryz.ntmps86])
 repeat' (first|(apply aK;first|((with_reducible apply aJ (k := 120));(case ha => rfl);(case h => exact hus);(case hp => (exact Pur.pf));(case hN => rfl))|(apply aE;rfl;rfl)|(first|(apply aN;rfl;rfl;rfl;rfl)|(apply aV;rfl;rfl;(exact (rfl:_=[_, _, _, _, _]));rfl;rfl;rfl))|(apply aD;rfl;rfl;rfl)|(apply aC;rfl;rfl)|((with_reducible apply aJ (k := 119));(case ha => rfl);(case h => (apply iG <;> (assumption)));(case hp => (rfl));(case hN => rfl))|(apply bQ;rfl;rfl;rfl)|(apply aF;kernel_rfl)|(apply b8;rfl;rfl;rfl)|(apply bH;rfl;rfl;rfl;rfl))|(apply aL;first|apply aH|apply aB|(apply b9;kernel_rfl)|apply aM)|with_reducible apply aA)
 rw [← hL]
 refine a8 (σ := Nat) [0, 3, 26, 27] [(0, _), (3, _), (26, _), (27, _)] [0, 1, 2, 3] [(0, some _), (1, some _), (2, some _), (3, some _)] (fun k => [(28, iv (k : Int))]) (fun k => []) (fun k => k ≤ L.length ∧ ∀ j, j < k → s.slots[(L[j]!).toNat]!.set = true) (fun k => L.length - k) (0) ⟨Nat.zero_le _, fun j h => absurd h (by omega)⟩ rfl rfl (by repeat' (first|exact trivial|refine And.intro rfl ?_)) (by repeat' (exact trivial)) ?_
 rintro k ⟨hk, hall⟩
 by_cases hkn : k < L.length
 ·have hmk := hmem k hkn
  repeat' (first|(apply aK;first|(apply aE;rfl;rfl)|(first|(apply cV;(case hx|hH => rfl);(case hf|hg|hα => infer_instance);(case hk => omega);(case hc|hN => rfl))|(apply aN;rfl;rfl;rfl;rfl))|(apply aD;rfl;rfl;rfl)|(first|(apply bS;rfl;rfl;omega;rfl)|(apply aU;rfl;rfl;rfl;rfl))|(apply aC;rfl;rfl)|(first|(apply aZ;(case hx|hi => rfl);(case hm => (assumption));(case hml => (rfl));(case hα | hf|hg => infer_instance);(case hN => rfl))|(apply cQ;rfl;rfl;(omega);rfl))|(apply aF;kernel_rfl)|(apply cF;rfl;rfl)|(apply b8;rfl;rfl;rfl))|(apply aL;first|apply aH|apply aB|(apply aP;rfl;all_goals intro hc;have hq:=hc;(try simp only [cH] at hq);try exfalso;omega)|apply aM|apply aT|apply aQ)|with_reducible apply aA|with_reducible apply bE|with_reducible apply aX|with_reducible apply cO)
  ·have hu : dG ts s x = true := (dL htl).2 ⟨L[k]!, by rw [← hL]; exact cJ _ _ hkn, by assumption⟩
   rw [vA hu]
   (refine aO rfl ?_; refine bV () trivial ?_ ⟨.inr (Eq.trans (b := some _) rfl ?_), ⟨.inr (Eq.trans (b := some _) rfl ?_), ⟨.inr (Eq.trans (b := some _) rfl ?_), trivial⟩⟩⟩)
   ·rfl
   ·rfl
   ·rfl
   ·rfl
  ·(apply dJ (k + 1); focus (refine Le.ren [(3, 3)] rfl (by decide) ?_ ?_ <;> repeat' (first | exact trivial | refine And.intro ⟨_, rfl, ?_⟩ ?_ | refine And.intro ⟨_, _, rfl, rfl, ?_⟩ ?_ | exact Or.inr rfl | refine Or.inl ⟨?_, (by first | rfl | exact aY _ _ | exact Pur.pf)⟩ | refine Or.inr (All2.cons ?_ ?_) | refine All2.cons ?_ ?_ | exact All2.nil | rfl)))
   ·refine ⟨by omega, fun j hj => ?_⟩
    rcases Nat.lt_or_ge j k with h|h
    ·exact hall j h
    ·rw [show j = k by omega]; assumption
   ·omega
 ·have hu : dG ts s x = false := by
   cases q : dG ts s x with
   | false => rfl
   | true =>
    obtain ⟨v, hv, hs⟩ := (dL htl).1 q
    rw [← hL] at hv
    obtain ⟨j, hj, e⟩ := List.getElem_of_mem hv
    have h1 := hall j (by omega)
    rw [cT _ _ hj, e, hs] at h1;cases h1
  rw [qR hu]
  have hml := hm.l
  have hnc := B9 s.cells hm x.n
  by_cases h2 : s.cells.length = 200
  ·rw [if_neg (by omega)] at hnc
   have hd : c7 ts s x = (s, 1) := by unfold c7;rw [if_neg (show ¬ x.op = 1 by omega), if_pos ho, if_pos h2]
   rw [hd]
   repeat' (first|(apply aK;first|((with_reducible apply aJ (k := 130));(case ha => rfl);(case h => exact hnc);(case hp => (exact Pur.pf));(case hN => rfl))|(apply aE;rfl;rfl)|(apply aN;rfl;rfl;rfl;rfl)|(apply aD;rfl;rfl;rfl)|(apply aU;rfl;rfl;rfl;rfl)|(apply aC;rfl;rfl)|(apply aF;kernel_rfl)|(apply cF;rfl;rfl)|(apply b8;rfl;rfl;rfl)|(apply bD;rfl;rfl)|(apply bC;rfl;rfl;rfl)|(apply aW;rfl;rfl;rfl;rfl;rfl;(decide);(exact (rfl:_=[_, _]))))|(apply aL;first|apply aH|apply aB|(apply b9;kernel_rfl)|(apply bZ;rfl;(rfl))|(apply aP;rfl;all_goals intro hc;have hq:=hc;(try simp only [cH] at hq);try exfalso;omega)|apply aM|apply bK|apply aQ)|with_reducible apply aA|with_reducible apply bE|with_reducible apply bI|with_reducible apply cO|with_reducible apply bJ)
   (refine aO rfl ?_; refine bV () trivial ?_ ⟨.inr (Eq.trans (b := some _) rfl ?_), ⟨.inr (Eq.trans (b := some _) rfl ?_), ⟨.inr (Eq.trans (b := some _) rfl ?_), trivial⟩⟩⟩)
   ·rfl
   ·rfl
   ·rfl
   ·rfl
  ·rw [if_pos (by omega)] at hnc
   have hp := m8 ts bd pts ⟨s.slots, s.cells ++ [nN x.n], s.read⟩ x.x ⟨true, 0, ⟨s.cells.length, 0⟩⟩ (hm.nw hn (by omega)) hsl hx
   have hd : c7 ts s x = cY ts ⟨s.slots, s.cells ++ [nN x.n], s.read⟩ x.x.toNat ⟨true, 0, ⟨s.cells.length, 0⟩⟩ := by unfold c7;rw [if_neg (show ¬ x.op = 1 by omega), if_pos ho, if_neg h2]
   rw [hd]
   repeat' (first|(apply aK;first|((with_reducible apply aJ (k := 130));(case ha => rfl);(case h => exact hnc);(case hp => (exact Pur.pf));(case hN => rfl))|((apply k9 (ts := ts) (bd := bd) (pts := pts) (s := ⟨s.slots, s.cells ++ [nN x.n], s.read⟩) (v := x.x) (y := ⟨true, 0, ⟨s.cells.length, 0⟩⟩));(case ha0|ha1|ha2|hH0|hH1|hH2|hdd => rfl);(case hmc => exact hp);(case hM|hN => rfl))|(apply aE;rfl;rfl)|(first|(apply aN;rfl;rfl;rfl;rfl)|(apply aV;rfl;rfl;(exact (rfl:_=[_, _]));rfl;rfl;rfl))|(apply aD;rfl;rfl;rfl)|(apply aU;rfl;rfl;rfl;rfl)|(apply aC;rfl;rfl)|(apply aF;kernel_rfl)|(apply cC;rfl;(exact (rfl:_=some [_, _, _, _]));(exact (rfl:_=[_, _, _, _]));rfl)|(apply cF;rfl;rfl)|(apply b8;rfl;rfl;rfl)|(apply bD;rfl;rfl)|(apply bC;rfl;rfl;rfl)|(apply aW;rfl;rfl;rfl;rfl;rfl;(case hl => (simp;done));(first|exact (rfl:_=[_, _])|exact (rfl:_=[_, _, _, _]))))|(apply aL;first|apply aH|apply aB|(apply b9;kernel_rfl)|(apply cG;rfl;(rfl))|(apply aP;rfl;all_goals intro hc;have hq:=hc;(try simp only [cH] at hq);try exfalso;omega)|apply aM|apply aT|apply bK|apply aQ)|with_reducible apply aA|with_reducible apply bE|with_reducible apply bI|with_reducible apply cO|with_reducible apply bJ)
   (refine aO rfl ?_; refine bV () trivial ?_ ⟨.inr (Eq.trans (b := some _) rfl ?_), ⟨.inr (Eq.trans (b := some _) rfl ?_), ⟨.inr (Eq.trans (b := some _) rfl ?_), trivial⟩⟩⟩)
   ·rfl
   ·rfl
   ·rfl
   ·rfl
theorem Lj (ts : List Int) (bd : List AL.Stmt) (pts : List Pnt) (s : Mc) (x : Pnt) (htl : ts.length ≤ 6) (hm : OkM s.cells) (hsl : s.slots.length = ts.length) (ho : x.op = 3) (hx : 0 ≤ x.x ∧ x.x < ts.length) (hy : 0 ≤ x.y ∧ x.y < ts.length) : MC Tryz.prog 86 [.optr 0 0, fK x] [(0, some (mO ts bd pts 1 2 s)), (1, some (aI eD s.slots)), (2, some (aI cI s.read))] 3 (fun _ : Unit => True) (fun _ => iv (eV ts s x).2) (fun _ => [(0, some (mO ts bd pts 1 2 (eV ts s x).1)), (1, some (aI eD (eV ts s x).1.slots)), (2, some (aI cI (eV ts s x).1.read))]) := by
 have hus := jB ts bd pts x htl
 have hsm : Sm (wS ts x [1, 2, 3]) := dF (by omega)
 obtain ⟨L, hL⟩ : ∃ L, L = cR (wS ts x [1, 2, 3]) := ⟨_, rfl⟩
 have hLl : L.length ≤ 62 := by rw [hL]; exact dS _
 have hmem : ∀ k, k < L.length → 0 ≤ L[k]! ∧ L[k]! < s.slots.length := fun k hk => by
  rw [hsl]; exact iM (by rw [← hL]; exact cJ _ _ hk)
 (refine bX Tryz.func86 rfl (by simp [Tryz.ntmps86]) ?_; rw [Tryz.ntmps86])
 repeat' (first|(apply aK;first|((with_reducible apply aJ (k := 120));(case ha => rfl);(case h => exact hus);(case hp => (exact Pur.pf));(case hN => rfl))|(apply aE;rfl;rfl)|(first|(apply aN;rfl;rfl;rfl;rfl)|(apply aV;rfl;rfl;(exact (rfl:_=[_, _, _, _, _]));rfl;rfl;rfl))|(apply aD;rfl;rfl;rfl)|(apply aC;rfl;rfl)|((with_reducible apply aJ (k := 119));(case ha => rfl);(case h => (apply iG <;> (assumption)));(case hp => (rfl));(case hN => rfl))|(apply bQ;rfl;rfl;rfl)|(apply aF;kernel_rfl)|(apply b8;rfl;rfl;rfl)|(apply bH;rfl;rfl;rfl;rfl))|(apply aL;first|apply aH|apply aB|(apply b9;kernel_rfl)|apply aM)|with_reducible apply aA)
 rw [← hL]
 refine a8 (σ := Nat) [0, 3, 26, 27] [(0, _), (3, _), (26, _), (27, _)] [0, 1, 2, 3] [(0, some _), (1, some _), (2, some _), (3, some _)] (fun k => [(28, iv (k : Int))]) (fun k => []) (fun k => k ≤ L.length ∧ ∀ j, j < k → s.slots[(L[j]!).toNat]!.set = true) (fun k => L.length - k) (0) ⟨Nat.zero_le _, fun j h => absurd h (by omega)⟩ rfl rfl (by repeat' (first|exact trivial|refine And.intro rfl ?_)) (by repeat' (exact trivial)) ?_
 rintro k ⟨hk, hall⟩
 by_cases hkn : k < L.length
 ·have hmk := hmem k hkn
  repeat' (first|(apply aK;first|(apply aE;rfl;rfl)|(first|(apply cV;(case hx|hH => rfl);(case hf|hg|hα => infer_instance);(case hk => omega);(case hc|hN => rfl))|(apply aN;rfl;rfl;rfl;rfl))|(apply aD;rfl;rfl;rfl)|(first|(apply bS;rfl;rfl;omega;rfl)|(apply aU;rfl;rfl;rfl;rfl))|(apply aC;rfl;rfl)|(first|(apply aZ;(case hx|hi => rfl);(case hm => (assumption));(case hml => (rfl));(case hα | hf|hg => infer_instance);(case hN => rfl))|(apply cQ;rfl;rfl;(omega);rfl))|(apply aF;kernel_rfl)|(apply cF;rfl;rfl)|(apply b8;rfl;rfl;rfl))|(apply aL;first|apply aH|apply aB|(apply aP;rfl;all_goals intro hc;have hq:=hc;(try simp only [cH] at hq);try exfalso;omega)|apply aM|apply aT|apply aQ)|with_reducible apply aA|with_reducible apply bE|with_reducible apply aX|with_reducible apply cO)
  ·have hu : dG ts s x = true := (dL htl).2 ⟨L[k]!, by rw [← hL]; exact cJ _ _ hkn, by assumption⟩
   rw [vA hu]
   (refine aO rfl ?_; refine bV () trivial ?_ ⟨.inr (Eq.trans (b := some _) rfl ?_), ⟨.inr (Eq.trans (b := some _) rfl ?_), ⟨.inr (Eq.trans (b := some _) rfl ?_), trivial⟩⟩⟩)
   ·rfl
   ·rfl
   ·rfl
   ·rfl
  ·(apply dJ (k + 1); focus (refine Le.ren [(3, 3)] rfl (by decide) ?_ ?_ <;> repeat' (first | exact trivial | refine And.intro ⟨_, rfl, ?_⟩ ?_ | refine And.intro ⟨_, _, rfl, rfl, ?_⟩ ?_ | exact Or.inr rfl | refine Or.inl ⟨?_, (by first | rfl | exact aY _ _ | exact Pur.pf)⟩ | refine Or.inr (All2.cons ?_ ?_) | refine All2.cons ?_ ?_ | exact All2.nil | rfl)))
   ·refine ⟨by omega, fun j hj => ?_⟩
    rcases Nat.lt_or_ge j k with h|h
    ·exact hall j h
    ·rw [show j = k by omega]; assumption
   ·omega
 ·have hu : dG ts s x = false := by
   cases q : dG ts s x with
   | false => rfl
   | true =>
    obtain ⟨v, hv, hs⟩ := (dL htl).1 q
    rw [← hL] at hv
    obtain ⟨j, hj, e⟩ := List.getElem_of_mem hv
    have h1 := hall j (by omega)
    rw [cT _ _ hj, e, hs] at h1;cases h1
  rw [qR hu]
  have hd : c7 ts s x = cY ts (if vW ts[x.y.toNat]! = true then ⟨s.slots.set x.y.toNat gT, s.cells, s.read⟩ else s) x.x.toNat s.slots[x.y.toNat]! := by unfold c7;rw [if_neg (show ¬ x.op = 1 by omega), if_neg (show ¬ x.op = 2 by omega), if_pos ho]
  rw [hd]
  have htk := w8 ts bd pts x.y hy
  by_cases hk : vW ts[x.y.toNat]! = true
  ·rw [hk] at htk
   rw [if_pos hk]
   have hp := m8 ts bd pts ⟨s.slots.set x.y.toNat gT, s.cells, s.read⟩ x.x s.slots[x.y.toNat]! hm (by show (s.slots.set _ _).length = _; rw [List.length_set]; exact hsl) hx
   repeat' (first|(apply aK;first|((with_reducible apply aJ (k := 131));(case ha => rfl);(case h => exact htk);(case hp => (exact Pur.pf));(case hN => rfl))|((apply k9 (ts := ts) (bd := bd) (pts := pts) (s := ⟨s.slots.set x.y.toNat gT, s.cells, s.read⟩) (v := x.x) (y := s.slots[x.y.toNat]!));(case ha0|ha1|ha2|hH0|hH1|hH2|hdd => rfl);(case hmc => exact hp);(case hM|hN => rfl))|(apply aE;rfl;rfl)|(first|(apply gS;(case hx|hH => rfl);(case hf|hg|hα => infer_instance);(case hk => omega);(case h0|hN => rfl))|(apply aN;rfl;rfl;rfl;rfl)|(apply aV;rfl;rfl;(exact (rfl:_=[_, _, _, _]));rfl;rfl;rfl))|(apply aD;rfl;rfl;rfl)|(apply aU;rfl;rfl;rfl;rfl)|(apply aC;rfl;rfl)|(apply cQ;rfl;rfl;(assumption);rfl)|(apply aF;kernel_rfl)|(apply cC;rfl;(exact (rfl:_=some [_, _, _, _]));(exact (rfl:_=[_, _, _, _]));rfl)|(apply b8;rfl;rfl;rfl)|(apply bD;rfl;rfl)|(apply aW;rfl;rfl;rfl;rfl;rfl;(case hl => (first|(rw [aR]; simp only [gA] <;> omega)|(simp;done)));(first|exact vT (by (omega))|exact (rfl:_=[_, _, _, _]))))|(apply aL;first|apply aH|apply aB|(apply b9;kernel_rfl)|(apply bZ;rfl;(rfl))|(apply aP;rfl;all_goals intro hc;have hq:=hc;(try simp only [cH] at hq);try exfalso;omega)|apply aM|apply bK|apply aQ)|with_reducible apply aA|with_reducible apply bE|with_reducible apply bI|with_reducible apply cO|with_reducible apply bJ)
   (refine aO rfl ?_; refine bV () trivial ?_ ⟨.inr (Eq.trans (b := some _) rfl ?_), ⟨.inr (Eq.trans (b := some _) rfl ?_), ⟨.inr (Eq.trans (b := some _) rfl ?_), trivial⟩⟩⟩)
   ·rfl
   ·rfl
   ·rfl
   ·rfl
  ·have hk2 : vW ts[x.y.toNat]! = false := by simpa using hk
   rw [hk2] at htk
   rw [if_neg hk]
   have hp := m8 ts bd pts s x.x s.slots[x.y.toNat]! hm hsl hx
   repeat' (first|(apply aK;first|((with_reducible apply aJ (k := 131));(case ha => rfl);(case h => exact htk);(case hp => (exact Pur.pf));(case hN => rfl))|((apply k9 (ts := ts) (bd := bd) (pts := pts) (s := s) (v := x.x) (y := s.slots[x.y.toNat]!));(case ha0|ha1|ha2|hH0|hH1|hH2|hdd => rfl);(case hmc => exact hp);(case hM|hN => rfl))|(apply aE;rfl;rfl)|(first|(apply gS;(case hx|hH => rfl);(case hf|hg|hα => infer_instance);(case hk => omega);(case h0|hN => rfl))|(apply aN;rfl;rfl;rfl;rfl)|(apply aV;rfl;rfl;(exact (rfl:_=[_, _, _, _]));rfl;rfl;rfl))|(apply aD;rfl;rfl;rfl)|(apply aU;rfl;rfl;rfl;rfl)|(apply aC;rfl;rfl)|(apply cQ;rfl;rfl;(assumption);rfl)|(apply aF;kernel_rfl)|(apply b8;rfl;rfl;rfl)|(apply bD;rfl;rfl)|(apply aW;rfl;rfl;rfl;rfl;rfl;(case hl => (simp;done));(exact (rfl:_=[_, _, _, _]))))|(apply aL;first|apply aH|apply aB|(apply b9;kernel_rfl)|(apply cG;rfl;(rfl))|(apply aP;rfl;all_goals intro hc;have hq:=hc;(try simp only [cH] at hq);try exfalso;omega)|apply aM|apply aT|apply bK|apply aQ)|with_reducible apply aA|with_reducible apply bE|with_reducible apply bI|with_reducible apply cO|with_reducible apply bJ)
   (refine aO rfl ?_; refine bV () trivial ?_ ⟨.inr (Eq.trans (b := some _) rfl ?_), ⟨.inr (Eq.trans (b := some _) rfl ?_), ⟨.inr (Eq.trans (b := some _) rfl ?_), trivial⟩⟩⟩)
   ·rfl
   ·rfl
   ·rfl
   ·rfl
theorem KV (ts : List Int) (bd : List AL.Stmt) (pts : List Pnt) (s : Mc) (x : Pnt) (htl : ts.length ≤ 6) (hm : OkM s.cells) (hsl : s.slots.length = ts.length) (ho : x.op = 4 ∨ x.op = 5) (hx : 0 ≤ x.x ∧ x.x < ts.length) (hy : 0 ≤ x.y ∧ x.y < ts.length) : MC Tryz.prog 86 [.optr 0 0, fK x] [(0, some (mO ts bd pts 1 2 s)), (1, some (aI eD s.slots)), (2, some (aI cI s.read))] 3 (fun _ : Unit => True) (fun _ => iv (eV ts s x).2) (fun _ => [(0, some (mO ts bd pts 1 2 (eV ts s x).1)), (1, some (aI eD (eV ts s x).1.slots)), (2, some (aI cI (eV ts s x).1.read))]) := by
 have hus := jB ts bd pts x htl
 have hsm : Sm (wS ts x [1, 2, 3]) := dF (by omega)
 obtain ⟨L, hL⟩ : ∃ L, L = cR (wS ts x [1, 2, 3]) := ⟨_, rfl⟩
 have hLl : L.length ≤ 62 := by rw [hL]; exact dS _
 have hmem : ∀ k, k < L.length → 0 ≤ L[k]! ∧ L[k]! < s.slots.length := fun k hk => by
  rw [hsl]; exact iM (by rw [← hL]; exact cJ _ _ hk)
 (refine bX Tryz.func86 rfl (by simp [Tryz.ntmps86]) ?_; rw [Tryz.ntmps86])
 repeat' (first|(apply aK;first|((with_reducible apply aJ (k := 120));(case ha => rfl);(case h => exact hus);(case hp => (exact Pur.pf));(case hN => rfl))|(apply aE;rfl;rfl)|(first|(apply aN;rfl;rfl;rfl;rfl)|(apply aV;rfl;rfl;(exact (rfl:_=[_, _, _, _, _]));rfl;rfl;rfl))|(apply aD;rfl;rfl;rfl)|(apply aC;rfl;rfl)|((with_reducible apply aJ (k := 119));(case ha => rfl);(case h => (apply iG <;> (assumption)));(case hp => (rfl));(case hN => rfl))|(apply bQ;rfl;rfl;rfl)|(apply aF;kernel_rfl)|(apply b8;rfl;rfl;rfl)|(apply bH;rfl;rfl;rfl;rfl))|(apply aL;first|apply aH|apply aB|(apply b9;kernel_rfl)|apply aM)|with_reducible apply aA)
 rw [← hL]
 refine a8 (σ := Nat) [0, 3, 26, 27] [(0, _), (3, _), (26, _), (27, _)] [0, 1, 2, 3] [(0, some _), (1, some _), (2, some _), (3, some _)] (fun k => [(28, iv (k : Int))]) (fun k => []) (fun k => k ≤ L.length ∧ ∀ j, j < k → s.slots[(L[j]!).toNat]!.set = true) (fun k => L.length - k) (0) ⟨Nat.zero_le _, fun j h => absurd h (by omega)⟩ rfl rfl (by repeat' (first|exact trivial|refine And.intro rfl ?_)) (by repeat' (exact trivial)) ?_
 rintro k ⟨hk, hall⟩
 by_cases hkn : k < L.length
 ·have hmk := hmem k hkn
  repeat' (first|(apply aK;first|(apply aE;rfl;rfl)|(first|(apply cV;(case hx|hH => rfl);(case hf|hg|hα => infer_instance);(case hk => omega);(case hc|hN => rfl))|(apply aN;rfl;rfl;rfl;rfl))|(apply aD;rfl;rfl;rfl)|(first|(apply bS;rfl;rfl;omega;rfl)|(apply aU;rfl;rfl;rfl;rfl))|(apply aC;rfl;rfl)|(first|(apply aZ;(case hx|hi => rfl);(case hm => (assumption));(case hml => (rfl));(case hα | hf|hg => infer_instance);(case hN => rfl))|(apply cQ;rfl;rfl;(omega);rfl))|(apply aF;kernel_rfl)|(apply cF;rfl;rfl)|(apply b8;rfl;rfl;rfl))|(apply aL;first|apply aH|apply aB|(apply aP;rfl;all_goals intro hc;have hq:=hc;(try simp only [cH] at hq);try exfalso;omega)|apply aM|apply aT|apply aQ)|with_reducible apply aA|with_reducible apply bE|with_reducible apply aX|with_reducible apply cO)
  ·have hu : dG ts s x = true := (dL htl).2 ⟨L[k]!, by rw [← hL]; exact cJ _ _ hkn, by assumption⟩
   rw [vA hu]
   (refine aO rfl ?_; refine bV () trivial ?_ ⟨.inr (Eq.trans (b := some _) rfl ?_), ⟨.inr (Eq.trans (b := some _) rfl ?_), ⟨.inr (Eq.trans (b := some _) rfl ?_), trivial⟩⟩⟩)
   ·rfl
   ·rfl
   ·rfl
   ·rfl
  ·(apply dJ (k + 1); focus (refine Le.ren [(3, 3)] rfl (by decide) ?_ ?_ <;> repeat' (first | exact trivial | refine And.intro ⟨_, rfl, ?_⟩ ?_ | refine And.intro ⟨_, _, rfl, rfl, ?_⟩ ?_ | exact Or.inr rfl | refine Or.inl ⟨?_, (by first | rfl | exact aY _ _ | exact Pur.pf)⟩ | refine Or.inr (All2.cons ?_ ?_) | refine All2.cons ?_ ?_ | exact All2.nil | rfl)))
   ·refine ⟨by omega, fun j hj => ?_⟩
    rcases Nat.lt_or_ge j k with h|h
    ·exact hall j h
    ·rw [show j = k by omega]; assumption
   ·omega
 ·have hu : dG ts s x = false := by
   cases q : dG ts s x with
   | false => rfl
   | true =>
    obtain ⟨v, hv, hs⟩ := (dL htl).1 q
    rw [← hL] at hv
    obtain ⟨j, hj, e⟩ := List.getElem_of_mem hv
    have h1 := hall j (by omega)
    rw [cT _ _ hj, e, hs] at h1;cases h1
  rw [qR hu]
  have hle := HS s.cells hm s.slots[x.y.toNat]!.ptr (decide (x.op = 5))
  by_cases hk : kU s.cells s.slots[x.y.toNat]!.ptr (decide (x.op = 5)) = 0
  ·have hp := m8 ts bd pts ⟨s.slots, j1 s.cells s.slots[x.y.toNat]!.ptr (decide (x.op = 5)), s.read⟩ x.x ⟨true, 0, oS s.cells s.slots[x.y.toNat]!.ptr (decide (x.op = 5))⟩ (hm.ln _ _) hsl hx
   have hd : c7 ts s x = cY ts ⟨s.slots, j1 s.cells s.slots[x.y.toNat]!.ptr (decide (x.op = 5)), s.read⟩ x.x.toNat ⟨true, 0, oS s.cells s.slots[x.y.toNat]!.ptr (decide (x.op = 5))⟩ := by unfold c7;rw [if_neg (show ¬ x.op = 1 by omega), if_neg (show ¬ x.op = 2 by omega), if_neg (show ¬ x.op = 3 by omega), if_pos ho, if_pos hk]
   rw [hd]
   rw [hk] at hle
   repeat' (first|(apply aK;first|(apply jQ;(case hx|hH => rfl);(case hf|hg|hα => infer_instance);(case hk => omega);(case hj => decide);(case hc => exact (rfl:_=[_, _]));(case h0|hN => rfl))|((with_reducible apply aJ (k := 132));(case ha => rfl);(case h => exact hle);(case hp => (exact Pur.pf));(case hN => rfl))|((apply k9 (ts := ts) (bd := bd) (pts := pts) (s := ⟨s.slots, j1 s.cells s.slots[x.y.toNat]!.ptr (decide (x.op = 5)), s.read⟩) (v := x.x) (y := ⟨true, 0, oS s.cells s.slots[x.y.toNat]!.ptr (decide (x.op = 5))⟩));(case ha0|ha1|ha2|hH0|hH1|hH2|hdd => rfl);(case hmc => exact hp);(case hM|hN => rfl))|(apply aE;rfl;rfl)|(first|(apply aN;rfl;rfl;rfl;rfl)|(apply aV;rfl;rfl;(exact (rfl:_=[_, _]));rfl;rfl;rfl))|(apply aD;rfl;rfl;rfl)|(apply aU;rfl;rfl;rfl;rfl)|(apply aC;rfl;rfl)|(apply cQ;rfl;rfl;(assumption);rfl)|(apply aF;kernel_rfl)|(apply cC;rfl;(exact (rfl:_=some [_, _, _, _]));(exact (rfl:_=[_, _, _, _]));rfl)|(apply b8;rfl;rfl;rfl)|(apply bD;rfl;rfl)|(apply bC;rfl;rfl;rfl)|(apply aW;rfl;rfl;rfl;rfl;rfl;(case hl => (simp;done));(first|exact (rfl:_=[_, _])|exact (rfl:_=[_, _, _, _]))))|(apply aL;first|apply aH|apply aB|(apply b9;kernel_rfl)|(apply bZ;rfl;(assumption))|(apply cG;rfl;(rfl))|(apply aP;rfl;all_goals intro hc;have hq:=hc;(try simp only [cH] at hq);try exfalso;omega)|apply aM|apply aT|apply bK|apply aQ)|with_reducible apply aA|with_reducible apply bE|with_reducible apply bI|with_reducible apply cO|with_reducible apply bJ)
   all_goals (
    (refine aO rfl ?_; refine bV () trivial ?_ ⟨.inr (Eq.trans (b := some _) rfl ?_), ⟨.inr (Eq.trans (b := some _) rfl ?_), ⟨.inr (Eq.trans (b := some _) rfl ?_), trivial⟩⟩⟩)
    ·rfl
    ·rfl
    ·rfl
    ·rfl)
  ·have hd : c7 ts s x = (s, e5 (kU s.cells s.slots[x.y.toNat]!.ptr (decide (x.op = 5)))) := by unfold c7; rw [if_neg (show ¬ x.op = 1 by omega), if_neg (show ¬ x.op = 2 by omega), if_neg (show ¬ x.op = 3 by omega), if_pos ho, if_neg hk]
   rw [hd]
   repeat' (first|(apply aK;first|(apply jQ;(case hx|hH => rfl);(case hf|hg|hα => infer_instance);(case hk => omega);(case hj => decide);(case hc => exact (rfl:_=[_, _]));(case h0|hN => rfl))|((with_reducible apply aJ (k := 132));(case ha => rfl);(case h => exact hle);(case hp => (exact Pur.pf));(case hN => rfl))|(apply aE;rfl;rfl)|(apply aN;rfl;rfl;rfl;rfl)|(apply aD;rfl;rfl;rfl)|(apply aU;rfl;rfl;rfl;rfl)|(apply aC;rfl;rfl)|(apply cQ;rfl;rfl;(assumption);rfl)|((with_reducible apply aJ (k := 133));(case ha => rfl);(case h => (apply qU <;> (fail)));(case hp => (rfl));(case hN => rfl))|(apply aF;kernel_rfl)|(apply b8;rfl;rfl;rfl)|(apply bD;rfl;rfl)|(apply bC;rfl;rfl;rfl)|(apply aW;rfl;rfl;rfl;rfl;rfl;(case hl => (simp;done));(exact (rfl:_=[_, _]))))|(apply aL;first|apply aH|apply aB|(apply b9;kernel_rfl)|(apply bZ;rfl;(assumption))|(apply aP;rfl;all_goals intro hc;have hq:=hc;(try simp only [cH] at hq);try exfalso;omega)|apply aM|apply aT|apply bK|apply aQ)|with_reducible apply aA|with_reducible apply bE|with_reducible apply bI|with_reducible apply cO|with_reducible apply bJ)
   all_goals (
    (refine aO rfl ?_; refine bV () trivial ?_ ⟨.inr (Eq.trans (b := some _) rfl ?_), ⟨.inr (Eq.trans (b := some _) rfl ?_), ⟨.inr (Eq.trans (b := some _) rfl ?_), trivial⟩⟩⟩)
    ·rfl
    ·rfl
    ·rfl
    ·rfl)
theorem Lc (ts : List Int) (bd : List AL.Stmt) (pts : List Pnt) (s : Mc) (x : Pnt) (htl : ts.length ≤ 6) (hm : OkM s.cells) (hsl : s.slots.length = ts.length) (ho : x.op = 6) (hrl : s.read.length ≤ 1000) (hx : 0 ≤ x.x ∧ x.x < ts.length) (hy : 0 ≤ x.y ∧ x.y < ts.length) (hz : ¬ cL s.cells s.slots[x.y.toNat]!.ptr false = 0) : MC Tryz.prog 86 [.optr 0 0, fK x] [(0, some (mO ts bd pts 1 2 s)), (1, some (aI eD s.slots)), (2, some (aI cI s.read))] 3 (fun _ : Unit => True) (fun _ => iv (eV ts s x).2) (fun _ => [(0, some (mO ts bd pts 1 2 (eV ts s x).1)), (1, some (aI eD (eV ts s x).1.slots)), (2, some (aI cI (eV ts s x).1.read))]) := by
 have hus := jB ts bd pts x htl
 have hsm : Sm (wS ts x [1, 2, 3]) := dF (by omega)
 obtain ⟨L, hL⟩ : ∃ L, L = cR (wS ts x [1, 2, 3]) := ⟨_, rfl⟩
 have hLl : L.length ≤ 62 := by rw [hL]; exact dS _
 have hmem : ∀ k, k < L.length → 0 ≤ L[k]! ∧ L[k]! < s.slots.length := fun k hk => by
  rw [hsl]; exact iM (by rw [← hL]; exact cJ _ _ hk)
 (refine bX Tryz.func86 rfl (by simp [Tryz.ntmps86]) ?_; rw [Tryz.ntmps86])
 repeat' (first|(apply aK;first|((with_reducible apply aJ (k := 120));(case ha => rfl);(case h => exact hus);(case hp => (exact Pur.pf));(case hN => rfl))|(apply aE;rfl;rfl)|(first|(apply aN;rfl;rfl;rfl;rfl)|(apply aV;rfl;rfl;(exact (rfl:_=[_, _, _, _, _]));rfl;rfl;rfl))|(apply aD;rfl;rfl;rfl)|(apply aC;rfl;rfl)|((with_reducible apply aJ (k := 119));(case ha => rfl);(case h => (apply iG <;> (assumption)));(case hp => (rfl));(case hN => rfl))|(apply bQ;rfl;rfl;rfl)|(apply aF;kernel_rfl)|(apply b8;rfl;rfl;rfl)|(apply bH;rfl;rfl;rfl;rfl))|(apply aL;first|apply aH|apply aB|(apply b9;kernel_rfl)|apply aM)|with_reducible apply aA)
 rw [← hL]
 refine a8 (σ := Nat) [0, 3, 26, 27] [(0, _), (3, _), (26, _), (27, _)] [0, 1, 2, 3] [(0, some _), (1, some _), (2, some _), (3, some _)] (fun k => [(28, iv (k : Int))]) (fun k => []) (fun k => k ≤ L.length ∧ ∀ j, j < k → s.slots[(L[j]!).toNat]!.set = true) (fun k => L.length - k) (0) ⟨Nat.zero_le _, fun j h => absurd h (by omega)⟩ rfl rfl (by repeat' (first|exact trivial|refine And.intro rfl ?_)) (by repeat' (exact trivial)) ?_
 rintro k ⟨hk, hall⟩
 by_cases hkn : k < L.length
 ·have hmk := hmem k hkn
  repeat' (first|(apply aK;first|(apply aE;rfl;rfl)|(first|(apply cV;(case hx|hH => rfl);(case hf|hg|hα => infer_instance);(case hk => omega);(case hc|hN => rfl))|(apply aN;rfl;rfl;rfl;rfl))|(apply aD;rfl;rfl;rfl)|(first|(apply bS;rfl;rfl;omega;rfl)|(apply aU;rfl;rfl;rfl;rfl))|(apply aC;rfl;rfl)|(first|(apply aZ;(case hx|hi => rfl);(case hm => (assumption));(case hml => (rfl));(case hα | hf|hg => infer_instance);(case hN => rfl))|(apply cQ;rfl;rfl;(omega);rfl))|(apply aF;kernel_rfl)|(apply cF;rfl;rfl)|(apply b8;rfl;rfl;rfl))|(apply aL;first|apply aH|apply aB|(apply aP;rfl;all_goals intro hc;have hq:=hc;(try simp only [cH] at hq);try exfalso;omega)|apply aM|apply aT|apply aQ)|with_reducible apply aA|with_reducible apply bE|with_reducible apply aX|with_reducible apply cO)
  ·have hu : dG ts s x = true := (dL htl).2 ⟨L[k]!, by rw [← hL]; exact cJ _ _ hkn, by assumption⟩
   rw [vA hu]
   (refine aO rfl ?_; refine bV () trivial ?_ ⟨.inr (Eq.trans (b := some _) rfl ?_), ⟨.inr (Eq.trans (b := some _) rfl ?_), ⟨.inr (Eq.trans (b := some _) rfl ?_), trivial⟩⟩⟩)
   ·rfl
   ·rfl
   ·rfl
   ·rfl
  ·(apply dJ (k + 1); focus (refine Le.ren [(3, 3)] rfl (by decide) ?_ ?_ <;> repeat' (first | exact trivial | refine And.intro ⟨_, rfl, ?_⟩ ?_ | refine And.intro ⟨_, _, rfl, rfl, ?_⟩ ?_ | exact Or.inr rfl | refine Or.inl ⟨?_, (by first | rfl | exact aY _ _ | exact Pur.pf)⟩ | refine Or.inr (All2.cons ?_ ?_) | refine All2.cons ?_ ?_ | exact All2.nil | rfl)))
   ·refine ⟨by omega, fun j hj => ?_⟩
    rcases Nat.lt_or_ge j k with h|h
    ·exact hall j h
    ·rw [show j = k by omega]; assumption
   ·omega
 ·have hu : dG ts s x = false := by
   cases q : dG ts s x with
   | false => rfl
   | true =>
    obtain ⟨v, hv, hs⟩ := (dL htl).1 q
    rw [← hL] at hv
    obtain ⟨j, hj, e⟩ := List.getElem_of_mem hv
    have h1 := hall j (by omega)
    rw [cT _ _ hj, e, hs] at h1;cases h1
  rw [qR hu]
  have hrc := qG s.cells hm s.slots[x.y.toNat]!.ptr
  have hd : c7 ts s x = (s, e5 (cL s.cells s.slots[x.y.toNat]!.ptr false)) := by unfold c7;rw [if_neg (show ¬ x.op = 1 by omega), if_neg (show ¬ x.op = 2 by omega), if_neg (show ¬ x.op = 3 by omega), if_neg (show ¬ (x.op = 4 ∨ x.op = 5) by omega), if_pos ho, if_neg hz]
  rw [hd]
  repeat' (first|(apply aK;first|(apply jQ;(case hx|hH => rfl);(case hf|hg|hα => infer_instance);(case hk => omega);(case hj => decide);(case hc => exact (rfl:_=[_, _]));(case h0|hN => rfl))|((with_reducible apply aJ (k := 134));(case ha => rfl);(case h => exact hrc);(case hp => (exact Pur.pf));(case hN => rfl))|(apply aE;rfl;rfl)|(apply aN;rfl;rfl;rfl;rfl)|(apply aD;rfl;rfl;rfl)|(apply aU;rfl;rfl;rfl;rfl)|(apply aC;rfl;rfl)|(apply cQ;rfl;rfl;(assumption);rfl)|((with_reducible apply aJ (k := 133));(case ha => rfl);(case h => (apply qU <;> (fail)));(case hp => (rfl));(case hN => rfl))|(apply aF;kernel_rfl)|(apply b8;rfl;rfl;rfl)|(apply bC;rfl;rfl;rfl))|(apply aL;first|apply aH|apply aB|(apply b9;kernel_rfl)|(apply aP;rfl;all_goals intro hc;have hq:=hc;(try simp only [cH] at hq);try exfalso;omega)|apply aM|apply bK|apply aQ)|with_reducible apply aA|with_reducible apply bE|with_reducible apply bI|with_reducible apply cO|with_reducible apply bJ)
  (refine aO rfl ?_; refine bV () trivial ?_ ⟨.inr (Eq.trans (b := some _) rfl ?_), ⟨.inr (Eq.trans (b := some _) rfl ?_), ⟨.inr (Eq.trans (b := some _) rfl ?_), trivial⟩⟩⟩)
  ·rfl
  ·rfl
  ·rfl
  ·rfl
theorem Lb (ts : List Int) (bd : List AL.Stmt) (pts : List Pnt) (s : Mc) (x : Pnt) (htl : ts.length ≤ 6) (hm : OkM s.cells) (hsl : s.slots.length = ts.length) (ho : x.op = 7) (hx : 0 ≤ x.x ∧ x.x < ts.length) (hy : 0 ≤ x.y ∧ x.y < ts.length) : MC Tryz.prog 86 [.optr 0 0, fK x] [(0, some (mO ts bd pts 1 2 s)), (1, some (aI eD s.slots)), (2, some (aI cI s.read))] 3 (fun _ : Unit => True) (fun _ => iv (eV ts s x).2) (fun _ => [(0, some (mO ts bd pts 1 2 (eV ts s x).1)), (1, some (aI eD (eV ts s x).1.slots)), (2, some (aI cI (eV ts s x).1.read))]) := by
 have hus := jB ts bd pts x htl
 have hsm : Sm (wS ts x [1, 2, 3]) := dF (by omega)
 obtain ⟨L, hL⟩ : ∃ L, L = cR (wS ts x [1, 2, 3]) := ⟨_, rfl⟩
 have hLl : L.length ≤ 62 := by rw [hL]; exact dS _
 have hmem : ∀ k, k < L.length → 0 ≤ L[k]! ∧ L[k]! < s.slots.length := fun k hk => by
  rw [hsl]; exact iM (by rw [← hL]; exact cJ _ _ hk)
 (refine bX Tryz.func86 rfl (by simp [Tryz.ntmps86]) ?_; rw [Tryz.ntmps86])
 repeat' (first|(apply aK;first|((with_reducible apply aJ (k := 120));(case ha => rfl);(case h => exact hus);(case hp => (exact Pur.pf));(case hN => rfl))|(apply aE;rfl;rfl)|(first|(apply aN;rfl;rfl;rfl;rfl)|(apply aV;rfl;rfl;(exact (rfl:_=[_, _, _, _, _]));rfl;rfl;rfl))|(apply aD;rfl;rfl;rfl)|(apply aC;rfl;rfl)|((with_reducible apply aJ (k := 119));(case ha => rfl);(case h => (apply iG <;> (assumption)));(case hp => (rfl));(case hN => rfl))|(apply bQ;rfl;rfl;rfl)|(apply aF;kernel_rfl)|(apply b8;rfl;rfl;rfl)|(apply bH;rfl;rfl;rfl;rfl))|(apply aL;first|apply aH|apply aB|(apply b9;kernel_rfl)|apply aM)|with_reducible apply aA)
 rw [← hL]
 refine a8 (σ := Nat) [0, 3, 26, 27] [(0, _), (3, _), (26, _), (27, _)] [0, 1, 2, 3] [(0, some _), (1, some _), (2, some _), (3, some _)] (fun k => [(28, iv (k : Int))]) (fun k => []) (fun k => k ≤ L.length ∧ ∀ j, j < k → s.slots[(L[j]!).toNat]!.set = true) (fun k => L.length - k) (0) ⟨Nat.zero_le _, fun j h => absurd h (by omega)⟩ rfl rfl (by repeat' (first|exact trivial|refine And.intro rfl ?_)) (by repeat' (exact trivial)) ?_
 rintro k ⟨hk, hall⟩
 by_cases hkn : k < L.length
 ·have hmk := hmem k hkn
  repeat' (first|(apply aK;first|(apply aE;rfl;rfl)|(first|(apply cV;(case hx|hH => rfl);(case hf|hg|hα => infer_instance);(case hk => omega);(case hc|hN => rfl))|(apply aN;rfl;rfl;rfl;rfl))|(apply aD;rfl;rfl;rfl)|(first|(apply bS;rfl;rfl;omega;rfl)|(apply aU;rfl;rfl;rfl;rfl))|(apply aC;rfl;rfl)|(first|(apply aZ;(case hx|hi => rfl);(case hm => (assumption));(case hml => (rfl));(case hα | hf|hg => infer_instance);(case hN => rfl))|(apply cQ;rfl;rfl;(omega);rfl))|(apply aF;kernel_rfl)|(apply cF;rfl;rfl)|(apply b8;rfl;rfl;rfl))|(apply aL;first|apply aH|apply aB|(apply aP;rfl;all_goals intro hc;have hq:=hc;(try simp only [cH] at hq);try exfalso;omega)|apply aM|apply aT|apply aQ)|with_reducible apply aA|with_reducible apply bE|with_reducible apply aX|with_reducible apply cO)
  ·have hu : dG ts s x = true := (dL htl).2 ⟨L[k]!, by rw [← hL]; exact cJ _ _ hkn, by assumption⟩
   rw [vA hu]
   (refine aO rfl ?_; refine bV () trivial ?_ ⟨.inr (Eq.trans (b := some _) rfl ?_), ⟨.inr (Eq.trans (b := some _) rfl ?_), ⟨.inr (Eq.trans (b := some _) rfl ?_), trivial⟩⟩⟩)
   ·rfl
   ·rfl
   ·rfl
   ·rfl
  ·(apply dJ (k + 1); focus (refine Le.ren [(3, 3)] rfl (by decide) ?_ ?_ <;> repeat' (first | exact trivial | refine And.intro ⟨_, rfl, ?_⟩ ?_ | refine And.intro ⟨_, _, rfl, rfl, ?_⟩ ?_ | exact Or.inr rfl | refine Or.inl ⟨?_, (by first | rfl | exact aY _ _ | exact Pur.pf)⟩ | refine Or.inr (All2.cons ?_ ?_) | refine All2.cons ?_ ?_ | exact All2.nil | rfl)))
   ·refine ⟨by omega, fun j hj => ?_⟩
    rcases Nat.lt_or_ge j k with h|h
    ·exact hall j h
    ·rw [show j = k by omega]; assumption
   ·omega
 ·have hu : dG ts s x = false := by
   cases q : dG ts s x with
   | false => rfl
   | true =>
    obtain ⟨v, hv, hs⟩ := (dL htl).1 q
    rw [← hL] at hv
    obtain ⟨j, hj, e⟩ := List.getElem_of_mem hv
    have h1 := hall j (by omega)
    rw [cT _ _ hj, e, hs] at h1;cases h1
  rw [qR hu]
  have hwr := xW s.cells hm s.slots[x.x.toNat]!.ptr s.slots[x.y.toNat]!.num
  have hd : c7 ts s x = (⟨s.slots, nQ s.cells s.slots[x.x.toNat]!.ptr s.slots[x.y.toNat]!.num, s.read⟩, kK (o5 s.cells s.slots[x.x.toNat]!.ptr s.slots[x.y.toNat]!.num)) := by unfold c7;rw [if_neg (show ¬ x.op = 1 by omega), if_neg (show ¬ x.op = 2 by omega), if_neg (show ¬ x.op = 3 by omega), if_neg (show ¬ (x.op = 4 ∨ x.op = 5) by omega), if_neg (show ¬ x.op = 6 by omega), if_pos ho]
  rw [hd]
  repeat' (first|(apply aK;first|(apply jQ;(case hx|hH => rfl);(case hf|hg|hα => infer_instance);(case hk => omega);(case hj => decide);(case hc => exact (rfl:_=[_, _]));(case h0|hN => rfl))|((with_reducible apply aJ (k := 135));(case ha => rfl);(case h => exact hwr);(case hp => (exact Pur.pf));(case hN => rfl))|(apply aE;rfl;rfl)|(first|(apply cV;(case hx|hH => rfl);(case hf|hg|hα => infer_instance);(case hk => omega);(case hc|hN => rfl))|(apply aN;rfl;rfl;rfl;rfl))|(apply aD;rfl;rfl;rfl)|(apply aU;rfl;rfl;rfl;rfl)|(apply aC;rfl;rfl)|(apply cQ;rfl;rfl;(assumption);rfl)|((with_reducible apply aJ (k := 133));(case ha => rfl);(case h => (apply qU <;> (fail)));(case hp => (rfl));(case hN => rfl))|(apply aF;kernel_rfl)|(apply b8;rfl;rfl;rfl)|(apply bC;rfl;rfl;rfl)|(apply aW;rfl;rfl;rfl;rfl;rfl;(case hl => (simp;done));(exact (rfl:_=[_, _, _, _]))))|(apply aL;first|apply aH|apply aB|(apply b9;kernel_rfl)|(apply aP;rfl;all_goals intro hc;have hq:=hc;(try simp only [cH] at hq);try exfalso;omega)|apply aM|apply aT|apply bK|apply aQ)|with_reducible apply aA|with_reducible apply bE|with_reducible apply bI|with_reducible apply aX|with_reducible apply cO|with_reducible apply bJ)
  ·have hk : ¬ o5 s.cells s.slots[x.x.toNat]!.ptr s.slots[x.y.toNat]!.num = 0 := by assumption
   (refine aO rfl ?_; refine bV () trivial ?_ ⟨.inr (Eq.trans (b := some _) rfl ?_), ⟨.inr (Eq.trans (b := some _) rfl ?_), ⟨.inr (Eq.trans (b := some _) rfl ?_), trivial⟩⟩⟩)
   ·show iv (e5 _) = iv (kK _)
    unfold kK;rw [if_neg hk]
   ·rfl
   ·rfl
   ·rfl
  ·have hk : o5 s.cells s.slots[x.x.toNat]!.ptr s.slots[x.y.toNat]!.num = 0 := by assumption
   (refine aO rfl ?_; refine bV () trivial ?_ ⟨.inr (Eq.trans (b := some _) rfl ?_), ⟨.inr (Eq.trans (b := some _) rfl ?_), ⟨.inr (Eq.trans (b := some _) rfl ?_), trivial⟩⟩⟩)
   ·rw [hk]; rfl
   ·rfl
   ·rfl
   ·rfl
theorem LO (ts : List Int) (bd : List AL.Stmt) (pts : List Pnt) (s : Mc) (x : Pnt) (htl : ts.length ≤ 6) (hm : OkM s.cells) (hsl : s.slots.length = ts.length) (ho : x.op = 8) (hx : 0 ≤ x.x ∧ x.x < ts.length) : MC Tryz.prog 86 [.optr 0 0, fK x] [(0, some (mO ts bd pts 1 2 s)), (1, some (aI eD s.slots)), (2, some (aI cI s.read))] 3 (fun _ : Unit => True) (fun _ => iv (eV ts s x).2) (fun _ => [(0, some (mO ts bd pts 1 2 (eV ts s x).1)), (1, some (aI eD (eV ts s x).1.slots)), (2, some (aI cI (eV ts s x).1.read))]) := by
 have hus := jB ts bd pts x htl
 have hsm : Sm (wS ts x [1, 2, 3]) := dF (by omega)
 obtain ⟨L, hL⟩ : ∃ L, L = cR (wS ts x [1, 2, 3]) := ⟨_, rfl⟩
 have hLl : L.length ≤ 62 := by rw [hL]; exact dS _
 have hmem : ∀ k, k < L.length → 0 ≤ L[k]! ∧ L[k]! < s.slots.length := fun k hk => by
  rw [hsl]; exact iM (by rw [← hL]; exact cJ _ _ hk)
 (refine bX Tryz.func86 rfl (by simp [Tryz.ntmps86]) ?_; rw [Tryz.ntmps86])
 repeat' (first|(apply aK;first|((with_reducible apply aJ (k := 120));(case ha => rfl);(case h => exact hus);(case hp => (exact Pur.pf));(case hN => rfl))|(apply aE;rfl;rfl)|(first|(apply aN;rfl;rfl;rfl;rfl)|(apply aV;rfl;rfl;(exact (rfl:_=[_, _, _, _, _]));rfl;rfl;rfl))|(apply aD;rfl;rfl;rfl)|(apply aC;rfl;rfl)|((with_reducible apply aJ (k := 119));(case ha => rfl);(case h => (apply iG <;> (assumption)));(case hp => (rfl));(case hN => rfl))|(apply bQ;rfl;rfl;rfl)|(apply aF;kernel_rfl)|(apply b8;rfl;rfl;rfl)|(apply bH;rfl;rfl;rfl;rfl))|(apply aL;first|apply aH|apply aB|(apply b9;kernel_rfl)|apply aM)|with_reducible apply aA)
 rw [← hL]
 refine a8 (σ := Nat) [0, 3, 26, 27] [(0, _), (3, _), (26, _), (27, _)] [0, 1, 2, 3] [(0, some _), (1, some _), (2, some _), (3, some _)] (fun k => [(28, iv (k : Int))]) (fun k => []) (fun k => k ≤ L.length ∧ ∀ j, j < k → s.slots[(L[j]!).toNat]!.set = true) (fun k => L.length - k) (0) ⟨Nat.zero_le _, fun j h => absurd h (by omega)⟩ rfl rfl (by repeat' (first|exact trivial|refine And.intro rfl ?_)) (by repeat' (exact trivial)) ?_
 rintro k ⟨hk, hall⟩
 by_cases hkn : k < L.length
 ·have hmk := hmem k hkn
  repeat' (first|(apply aK;first|(apply aE;rfl;rfl)|(first|(apply cV;(case hx|hH => rfl);(case hf|hg|hα => infer_instance);(case hk => omega);(case hc|hN => rfl))|(apply aN;rfl;rfl;rfl;rfl))|(apply aD;rfl;rfl;rfl)|(first|(apply bS;rfl;rfl;omega;rfl)|(apply aU;rfl;rfl;rfl;rfl))|(apply aC;rfl;rfl)|(first|(apply aZ;(case hx|hi => rfl);(case hm => (assumption));(case hml => (rfl));(case hα | hf|hg => infer_instance);(case hN => rfl))|(apply cQ;rfl;rfl;(omega);rfl))|(apply aF;kernel_rfl)|(apply cF;rfl;rfl)|(apply b8;rfl;rfl;rfl))|(apply aL;first|apply aH|apply aB|(apply aP;rfl;all_goals intro hc;have hq:=hc;(try simp only [cH] at hq);try exfalso;omega)|apply aM|apply aT|apply aQ)|with_reducible apply aA|with_reducible apply bE|with_reducible apply aX|with_reducible apply cO)
  ·have hu : dG ts s x = true := (dL htl).2 ⟨L[k]!, by rw [← hL]; exact cJ _ _ hkn, by assumption⟩
   rw [vA hu]
   (refine aO rfl ?_; refine bV () trivial ?_ ⟨.inr (Eq.trans (b := some _) rfl ?_), ⟨.inr (Eq.trans (b := some _) rfl ?_), ⟨.inr (Eq.trans (b := some _) rfl ?_), trivial⟩⟩⟩)
   ·rfl
   ·rfl
   ·rfl
   ·rfl
  ·(apply dJ (k + 1); focus (refine Le.ren [(3, 3)] rfl (by decide) ?_ ?_ <;> repeat' (first | exact trivial | refine And.intro ⟨_, rfl, ?_⟩ ?_ | refine And.intro ⟨_, _, rfl, rfl, ?_⟩ ?_ | exact Or.inr rfl | refine Or.inl ⟨?_, (by first | rfl | exact aY _ _ | exact Pur.pf)⟩ | refine Or.inr (All2.cons ?_ ?_) | refine All2.cons ?_ ?_ | exact All2.nil | rfl)))
   ·refine ⟨by omega, fun j hj => ?_⟩
    rcases Nat.lt_or_ge j k with h|h
    ·exact hall j h
    ·rw [show j = k by omega]; assumption
   ·omega
 ·have hu : dG ts s x = false := by
   cases q : dG ts s x with
   | false => rfl
   | true =>
    obtain ⟨v, hv, hs⟩ := (dL htl).1 q
    rw [← hL] at hv
    obtain ⟨j, hj, e⟩ := List.getElem_of_mem hv
    have h1 := hall j (by omega)
    rw [cT _ _ hj, e, hs] at h1;cases h1
  rw [qR hu]
  have hfr := GY ts bd pts s x.x hm hsl hx
  have hd : c7 ts s x = (⟨s.slots.set x.x.toNat gT, hZ s.cells s.slots[x.x.toNat]!.ptr, s.read⟩, kK (cL s.cells s.slots[x.x.toNat]!.ptr true)) := by unfold c7;rw [if_neg (show ¬ x.op = 1 by omega), if_neg (show ¬ x.op = 2 by omega), if_neg (show ¬ x.op = 3 by omega), if_neg (show ¬ (x.op = 4 ∨ x.op = 5) by omega), if_neg (show ¬ x.op = 6 by omega), if_neg (show ¬ x.op = 7 by omega), if_pos ho]
  rw [hd]
  repeat' (first|(apply aK;first|((apply DM (ts := ts) (bd := bd) (pts := pts) (s := s) (v := x.x));(case ha0|ha1|hH0|hH1|hH2|hdd => rfl);(case hmc => exact hfr);(case hM|hN => rfl))|(apply aE;rfl;rfl)|(apply aN;rfl;rfl;rfl;rfl)|(apply aD;rfl;rfl;rfl)|(apply aU;rfl;rfl;rfl;rfl)|(apply aC;rfl;rfl)|(apply cQ;rfl;rfl;(assumption);rfl)|(apply aF;kernel_rfl)|(apply cC;rfl;(exact (rfl:_=some [_, _, _, _]));(exact (rfl:_=[_, _, _, _]));rfl)|(apply b8;rfl;rfl;rfl)|(apply aW;rfl;rfl;rfl;rfl;rfl;(rw [aR]; simp only [gA] <;> omega);(exact vT (by (omega)))))|(apply aL;first|apply aH|apply aB|(apply b9;kernel_rfl)|(apply aP;rfl;all_goals intro hc;have hq:=hc;(try simp only [cH] at hq);try exfalso;omega)|apply aM|apply bK|apply aQ)|with_reducible apply aA|with_reducible apply bE|with_reducible apply bI|with_reducible apply cO|with_reducible apply bJ)
  (refine aO rfl ?_; refine bV () trivial ?_ ⟨.inr (Eq.trans (b := some _) rfl ?_), ⟨.inr (Eq.trans (b := some _) rfl ?_), ⟨.inr (Eq.trans (b := some _) rfl ?_), trivial⟩⟩⟩)
  ·rfl
  ·rfl
  ·rfl
  ·rfl
theorem LS (ts : List Int) (bd : List AL.Stmt) (pts : List Pnt) (s : Mc) (x : Pnt) (htl : ts.length ≤ 6) (hm : OkM s.cells) (hsl : s.slots.length = ts.length) (ho : x.op = 9 ∨ x.op = 10 ∨ x.op = 11) : MC Tryz.prog 86 [.optr 0 0, fK x] [(0, some (mO ts bd pts 1 2 s)), (1, some (aI eD s.slots)), (2, some (aI cI s.read))] 3 (fun _ : Unit => True) (fun _ => iv (eV ts s x).2) (fun _ => [(0, some (mO ts bd pts 1 2 (eV ts s x).1)), (1, some (aI eD (eV ts s x).1.slots)), (2, some (aI cI (eV ts s x).1.read))]) := by
 have hus := jB ts bd pts x htl
 have hsm : Sm (wS ts x [1, 2, 3]) := dF (by omega)
 obtain ⟨L, hL⟩ : ∃ L, L = cR (wS ts x [1, 2, 3]) := ⟨_, rfl⟩
 have hLl : L.length ≤ 62 := by rw [hL]; exact dS _
 have hmem : ∀ k, k < L.length → 0 ≤ L[k]! ∧ L[k]! < s.slots.length := fun k hk => by
  rw [hsl]; exact iM (by rw [← hL]; exact cJ _ _ hk)
 (refine bX Tryz.func86 rfl (by simp [Tryz.ntmps86]) ?_; rw [Tryz.ntmps86])
 repeat' (first|(apply aK;first|((with_reducible apply aJ (k := 120));(case ha => rfl);(case h => exact hus);(case hp => (exact Pur.pf));(case hN => rfl))|(apply aE;rfl;rfl)|(first|(apply aN;rfl;rfl;rfl;rfl)|(apply aV;rfl;rfl;(exact (rfl:_=[_, _, _, _, _]));rfl;rfl;rfl))|(apply aD;rfl;rfl;rfl)|(apply aC;rfl;rfl)|((with_reducible apply aJ (k := 119));(case ha => rfl);(case h => (apply iG <;> (assumption)));(case hp => (rfl));(case hN => rfl))|(apply bQ;rfl;rfl;rfl)|(apply aF;kernel_rfl)|(apply b8;rfl;rfl;rfl)|(apply bH;rfl;rfl;rfl;rfl))|(apply aL;first|apply aH|apply aB|(apply b9;kernel_rfl)|apply aM)|with_reducible apply aA)
 rw [← hL]
 refine a8 (σ := Nat) [0, 3, 26, 27] [(0, _), (3, _), (26, _), (27, _)] [0, 1, 2, 3] [(0, some _), (1, some _), (2, some _), (3, some _)] (fun k => [(28, iv (k : Int))]) (fun k => []) (fun k => k ≤ L.length ∧ ∀ j, j < k → s.slots[(L[j]!).toNat]!.set = true) (fun k => L.length - k) (0) ⟨Nat.zero_le _, fun j h => absurd h (by omega)⟩ rfl rfl (by repeat' (first|exact trivial|refine And.intro rfl ?_)) (by repeat' (exact trivial)) ?_
 rintro k ⟨hk, hall⟩
 by_cases hkn : k < L.length
 ·have hmk := hmem k hkn
  repeat' (first|(apply aK;first|(apply aE;rfl;rfl)|(first|(apply cV;(case hx|hH => rfl);(case hf|hg|hα => infer_instance);(case hk => omega);(case hc|hN => rfl))|(apply aN;rfl;rfl;rfl;rfl))|(apply aD;rfl;rfl;rfl)|(first|(apply bS;rfl;rfl;omega;rfl)|(apply aU;rfl;rfl;rfl;rfl))|(apply aC;rfl;rfl)|(first|(apply aZ;(case hx|hi => rfl);(case hm => (assumption));(case hml => (rfl));(case hα | hf|hg => infer_instance);(case hN => rfl))|(apply cQ;rfl;rfl;(omega);rfl))|(apply aF;kernel_rfl)|(apply cF;rfl;rfl)|(apply b8;rfl;rfl;rfl))|(apply aL;first|apply aH|apply aB|(apply aP;rfl;all_goals intro hc;have hq:=hc;(try simp only [cH] at hq);try exfalso;omega)|apply aM|apply aT|apply aQ)|with_reducible apply aA|with_reducible apply bE|with_reducible apply aX|with_reducible apply cO)
  ·have hu : dG ts s x = true := (dL htl).2 ⟨L[k]!, by rw [← hL]; exact cJ _ _ hkn, by assumption⟩
   rw [vA hu]
   (refine aO rfl ?_; refine bV () trivial ?_ ⟨.inr (Eq.trans (b := some _) rfl ?_), ⟨.inr (Eq.trans (b := some _) rfl ?_), ⟨.inr (Eq.trans (b := some _) rfl ?_), trivial⟩⟩⟩)
   ·rfl
   ·rfl
   ·rfl
   ·rfl
  ·(apply dJ (k + 1); focus (refine Le.ren [(3, 3)] rfl (by decide) ?_ ?_ <;> repeat' (first | exact trivial | refine And.intro ⟨_, rfl, ?_⟩ ?_ | refine And.intro ⟨_, _, rfl, rfl, ?_⟩ ?_ | exact Or.inr rfl | refine Or.inl ⟨?_, (by first | rfl | exact aY _ _ | exact Pur.pf)⟩ | refine Or.inr (All2.cons ?_ ?_) | refine All2.cons ?_ ?_ | exact All2.nil | rfl)))
   ·refine ⟨by omega, fun j hj => ?_⟩
    rcases Nat.lt_or_ge j k with h|h
    ·exact hall j h
    ·rw [show j = k by omega]; assumption
   ·omega
 ·have hu : dG ts s x = false := by
   cases q : dG ts s x with
   | false => rfl
   | true =>
    obtain ⟨v, hv, hs⟩ := (dL htl).1 q
    rw [← hL] at hv
    obtain ⟨j, hj, e⟩ := List.getElem_of_mem hv
    have h1 := hall j (by omega)
    rw [cT _ _ hj, e, hs] at h1;cases h1
  rw [qR hu]
  by_cases h11 : x.op = 11
  ·have hd : c7 ts s x = dO ts ts.length 0 s := tS h11
   rw [hd]
   have hfi := KM ts bd pts s hm hsl (by omega)
   repeat' (first|(apply aK;first|((apply H7 (ts := ts) (bd := bd) (pts := pts) (s := s));(case ha0|hH0|hH1|hH2|hdd => rfl);(case hmc => exact hfi);(case hM|hN => rfl))|(apply aE;rfl;rfl)|(apply aN;rfl;rfl;rfl;rfl)|(apply aD;rfl;rfl;rfl)|(apply aU;rfl;rfl;rfl;rfl)|(apply aC;rfl;rfl)|(apply aF;kernel_rfl))|(apply aL;first|apply aH|apply aB|(apply aP;rfl;all_goals intro hc;have hq:=hc;(try simp only [cH] at hq);try exfalso;omega)|apply aM|apply bK|apply aQ)|with_reducible apply aA|with_reducible apply bE|with_reducible apply bI|with_reducible apply cO|with_reducible apply bJ)
   (refine aO rfl ?_; refine bV () trivial ?_ ⟨.inr (Eq.trans (b := some _) rfl ?_), ⟨.inr (Eq.trans (b := some _) rfl ?_), ⟨.inr (Eq.trans (b := some _) rfl ?_), trivial⟩⟩⟩)
   ·rfl
   ·rfl
   ·rfl
   ·rfl
  ·have hd : c7 ts s x = (s, -1) := by unfold c7; rw [if_neg (show ¬ x.op = 1 by omega), if_neg (show ¬ x.op = 2 by omega), if_neg (show ¬ x.op = 3 by omega), if_neg (show ¬ (x.op = 4 ∨ x.op = 5) by omega), if_neg (show ¬ x.op = 6 by omega), if_neg (show ¬ x.op = 7 by omega), if_neg (show ¬ x.op = 8 by omega), if_neg (show ¬ x.op = 11 by omega)]
   rw [hd]
   repeat' (first|(apply aK;first|(apply aN;rfl;rfl;rfl;rfl)|(apply aD;rfl;rfl;rfl)|(apply aU;rfl;rfl;rfl;rfl)|(apply aC;rfl;rfl)|(apply aF;kernel_rfl))|(apply aL;first|apply aH|apply aB|(apply aP;rfl;all_goals intro hc;have hq:=hc;(try simp only [cH] at hq);try exfalso;omega)|apply aM|apply aT|apply bK|apply aQ)|with_reducible apply aA|with_reducible apply bI|with_reducible apply aX|with_reducible apply bJ)
   (refine aO rfl ?_; refine bV () trivial ?_ ⟨.inr (Eq.trans (b := some _) rfl ?_), ⟨.inr (Eq.trans (b := some _) rfl ?_), ⟨.inr (Eq.trans (b := some _) rfl ?_), trivial⟩⟩⟩)
   ·rfl
   ·rfl
   ·rfl
   ·rfl
theorem Kg (ts : List Int) (bd : List AL.Stmt) (pts : List Pnt) (s : Mc) (x : Pnt) (htl : ts.length ≤ 6) (hm : OkM s.cells) (hsl : s.slots.length = ts.length) (ho : x.op = 6) (hrl : s.read.length ≤ 1000) (hx : 0 ≤ x.x ∧ x.x < ts.length) (hy : 0 ≤ x.y ∧ x.y < ts.length) (hz : cL s.cells s.slots[x.y.toNat]!.ptr false = 0) (hun : dG ts s x = false) : MC Tryz.prog 86 [.optr 0 0, fK x] [(0, some (mO ts bd pts 1 2 s)), (1, some (aI eD s.slots)), (2, some (aI cI s.read))] 3 (fun _ : Unit => True) (fun _ => iv (eV ts s x).2) (fun _ => [(0, some (mO ts bd pts 1 5 (eV ts s x).1)), (1, some (aI eD (eV ts s x).1.slots)), (5, some (aI cI (eV ts s x).1.read))]) := by
 have hus := jB ts bd pts x htl
 have hsm : Sm (wS ts x [1, 2, 3]) := dF (by omega)
 obtain ⟨L, hL⟩ : ∃ L, L = cR (wS ts x [1, 2, 3]) := ⟨_, rfl⟩
 have hLl : L.length ≤ 62 := by rw [hL]; exact dS _
 have hmem : ∀ k, k < L.length → 0 ≤ L[k]! ∧ L[k]! < s.slots.length := fun k hk => by
  rw [hsl]; exact iM (by rw [← hL]; exact cJ _ _ hk)
 (refine bX Tryz.func86 rfl (by simp [Tryz.ntmps86]) ?_; rw [Tryz.ntmps86])
 repeat' (first|(apply aK;first|((with_reducible apply aJ (k := 120));(case ha => rfl);(case h => exact hus);(case hp => (exact Pur.pf));(case hN => rfl))|(apply aE;rfl;rfl)|(first|(apply aN;rfl;rfl;rfl;rfl)|(apply aV;rfl;rfl;(exact (rfl:_=[_, _, _, _, _]));rfl;rfl;rfl))|(apply aD;rfl;rfl;rfl)|(apply aC;rfl;rfl)|((with_reducible apply aJ (k := 119));(case ha => rfl);(case h => (apply iG <;> (assumption)));(case hp => (rfl));(case hN => rfl))|(apply bQ;rfl;rfl;rfl)|(apply aF;kernel_rfl)|(apply b8;rfl;rfl;rfl)|(apply bH;rfl;rfl;rfl;rfl))|(apply aL;first|apply aH|apply aB|(apply b9;kernel_rfl)|apply aM)|with_reducible apply aA)
 rw [← hL]
 refine a8 (σ := Nat) [0, 3, 26, 27] [(0, _), (3, _), (26, _), (27, _)] [0, 1, 2, 3] [(0, some _), (1, some _), (2, some _), (3, some _)] (fun k => [(28, iv (k : Int))]) (fun k => []) (fun k => k ≤ L.length ∧ ∀ j, j < k → s.slots[(L[j]!).toNat]!.set = true) (fun k => L.length - k) (0) ⟨Nat.zero_le _, fun j h => absurd h (by omega)⟩ rfl rfl (by repeat' (first|exact trivial|refine And.intro rfl ?_)) (by repeat' (exact trivial)) ?_
 rintro k ⟨hk, hall⟩
 by_cases hkn : k < L.length
 ·have hmk := hmem k hkn
  repeat' (first|(apply aK;first|(apply aE;rfl;rfl)|(first|(apply cV;(case hx|hH => rfl);(case hf|hg|hα => infer_instance);(case hk => omega);(case hc|hN => rfl))|(apply aN;rfl;rfl;rfl;rfl))|(apply aD;rfl;rfl;rfl)|(first|(apply bS;rfl;rfl;omega;rfl)|(apply aU;rfl;rfl;rfl;rfl))|(apply aC;rfl;rfl)|(first|(apply aZ;(case hx|hi => rfl);(case hm => (assumption));(case hml => (rfl));(case hα | hf|hg => infer_instance);(case hN => rfl))|(apply cQ;rfl;rfl;(omega);rfl))|(apply aF;kernel_rfl)|(apply cF;rfl;rfl)|(apply b8;rfl;rfl;rfl))|(apply aL;first|apply aH|apply aB|(apply aP;rfl;all_goals intro hc;have hq:=hc;(try simp only [cH] at hq);try exfalso;omega)|apply aM|apply aT|apply aQ)|with_reducible apply aA|with_reducible apply bE|with_reducible apply aX|with_reducible apply cO)
  ·exfalso
   have hu : dG ts s x = true := (dL htl).2 ⟨L[k]!, by rw [← hL]; exact cJ _ _ hkn, by assumption⟩
   rw [hun] at hu;cases hu
  ·(apply dJ (k + 1); focus (refine Le.ren [(3, 3)] rfl (by decide) ?_ ?_ <;> repeat' (first | exact trivial | refine And.intro ⟨_, rfl, ?_⟩ ?_ | refine And.intro ⟨_, _, rfl, rfl, ?_⟩ ?_ | exact Or.inr rfl | refine Or.inl ⟨?_, (by first | rfl | exact aY _ _ | exact Pur.pf)⟩ | refine Or.inr (All2.cons ?_ ?_) | refine All2.cons ?_ ?_ | exact All2.nil | rfl)))
   ·refine ⟨by omega, fun j hj => ?_⟩
    rcases Nat.lt_or_ge j k with h|h
    ·exact hall j h
    ·rw [show j = k by omega]; assumption
   ·omega
 ·have hu : dG ts s x = false := by
   cases q : dG ts s x with
   | false => rfl
   | true =>
    obtain ⟨v, hv, hs⟩ := (dL htl).1 q
    rw [← hL] at hv
    obtain ⟨j, hj, e⟩ := List.getElem_of_mem hv
    have h1 := hall j (by omega)
    rw [cT _ _ hj, e, hs] at h1;cases h1
  rw [qR hu]
  have hrc := qG s.cells hm s.slots[x.y.toNat]!.ptr
  have hp := m8 ts bd pts ⟨s.slots, dR s.cells s.slots[x.y.toNat]!.ptr false, s.read ++ [nK s.cells s.slots[x.y.toNat]!.ptr]⟩ x.x ⟨true, nK s.cells s.slots[x.y.toNat]!.ptr, ⟨0, 0⟩⟩ (hm.tch _ _) hsl hx
  have hd : c7 ts s x = cY ts ⟨s.slots, dR s.cells s.slots[x.y.toNat]!.ptr false, s.read ++ [nK s.cells s.slots[x.y.toNat]!.ptr]⟩ x.x.toNat ⟨true, nK s.cells s.slots[x.y.toNat]!.ptr, ⟨0, 0⟩⟩ := by unfold c7;rw [if_neg (show ¬ x.op = 1 by omega), if_neg (show ¬ x.op = 2 by omega), if_neg (show ¬ x.op = 3 by omega), if_neg (show ¬ (x.op = 4 ∨ x.op = 5) by omega), if_pos ho, if_pos hz]
  rw [hd]
  rw [hz] at hrc
  repeat' (first|(apply aK;first|(apply jQ;(case hx|hH => rfl);(case hf|hg|hα => infer_instance);(case hk => omega);(case hj => decide);(case hc => exact (rfl:_=[_, _]));(case h0|hN => rfl))|((with_reducible apply aJ (k := 134));(case ha => rfl);(case h => exact hrc);(case hp => (exact Pur.pf));(case hN => rfl))|(with_reducible apply cS (d := 184))|(apply aE;rfl;rfl)|(apply aN;rfl;rfl;rfl;rfl)|(apply aD;rfl;rfl;rfl)|(apply aU;rfl;rfl;rfl;rfl)|(apply aC;rfl;rfl)|(apply cQ;rfl;rfl;(assumption);rfl)|(apply bY;rfl;rfl;rfl;rfl;rfl;(rw [aR]; omega);(rfl);omega;omega;(exact gW (by (omega)));rfl;rfl)|(apply aF;kernel_rfl)|(apply b8;rfl;rfl;rfl)|(apply bC;rfl;rfl;rfl)|((apply bF (t := _));(case hze|hsm|hl => rfl);(case hfl => exact (rfl:_=some [_]));(case hM|hN => rfl))|(apply aW;rfl;rfl;rfl;rfl;rfl;(case hl => (simp;done));(exact (rfl:_=[_, _, _, _]))))|(apply aL;first|apply aH|apply aB|(apply b9;kernel_rfl)|(apply cG;rfl;(rfl))|(apply aP;rfl;all_goals intro hc;have hq:=hc;(try simp only [cH] at hq);try exfalso;omega)|apply aM|apply aT|apply bK)|with_reducible apply aA|with_reducible apply bI|with_reducible apply bJ)
  refine dV ?_
  rw [show s.read.length + 1 = (s.read ++ [nK s.cells s.slots[x.y.toNat]!.ptr]).length from by rw [List.length_append]; rfl]
  repeat' (first|(apply aK;first|((apply k9 (ts := ts) (bd := bd) (pts := pts) (s := ⟨s.slots, dR s.cells s.slots[x.y.toNat]!.ptr false, s.read ++ [nK s.cells s.slots[x.y.toNat]!.ptr]⟩) (v := x.x) (y := ⟨true, nK s.cells s.slots[x.y.toNat]!.ptr, ⟨0, 0⟩⟩));(case ha0|ha1|ha2|hH0|hH1|hH2|hdd => rfl);(case hmc => exact hp);(case hM|hN => rfl))|(apply aE;rfl;rfl)|(apply aN;rfl;rfl;rfl;rfl)|(apply aD;rfl;rfl;rfl)|(apply aC;rfl;rfl)|(apply aF;kernel_rfl)|(apply cC;rfl;(exact (rfl:_=some [_, _, _, _]));(exact (rfl:_=[_, _, _, _]));rfl))|(apply aL;(apply aQ))|with_reducible apply aA|with_reducible apply bE|with_reducible apply cO)
  (refine aO rfl ?_; refine bV () trivial ?_ ⟨.inr (Eq.trans (b := some _) rfl ?_), ⟨.inr (Eq.trans (b := some _) rfl ?_), ⟨.inr (Eq.trans (b := some _) rfl ?_), trivial⟩⟩⟩)
  ·rfl
  ·rfl
  ·rfl
  ·rfl
theorem LV (ts : List Int) (bd : List AL.Stmt) (pts : List Pnt) (s : Mc) (x : Pnt) (htl : ts.length ≤ 6) (hm : OkM s.cells) (hsl : s.slots.length = ts.length) (hun : dG ts s x = true) : MC Tryz.prog 86 [.optr 0 0, fK x] [(0, some (mO ts bd pts 1 2 s)), (1, some (aI eD s.slots)), (2, some (aI cI s.read))] 3 (fun _ : Unit => True) (fun _ => iv (eV ts s x).2) (fun _ => [(0, some (mO ts bd pts 1 2 (eV ts s x).1)), (1, some (aI eD (eV ts s x).1.slots)), (2, some (aI cI (eV ts s x).1.read))]) := by
 have hus := jB ts bd pts x htl
 have hsm : Sm (wS ts x [1, 2, 3]) := dF (by omega)
 obtain ⟨L, hL⟩ : ∃ L, L = cR (wS ts x [1, 2, 3]) := ⟨_, rfl⟩
 have hLl : L.length ≤ 62 := by rw [hL]; exact dS _
 have hmem : ∀ k, k < L.length → 0 ≤ L[k]! ∧ L[k]! < s.slots.length := fun k hk => by
  rw [hsl]; exact iM (by rw [← hL]; exact cJ _ _ hk)
 (refine bX Tryz.func86 rfl (by simp [Tryz.ntmps86]) ?_; rw [Tryz.ntmps86])
 repeat' (first|(apply aK;first|((with_reducible apply aJ (k := 120));(case ha => rfl);(case h => exact hus);(case hp => (exact Pur.pf));(case hN => rfl))|(apply aE;rfl;rfl)|(first|(apply aN;rfl;rfl;rfl;rfl)|(apply aV;rfl;rfl;(exact (rfl:_=[_, _, _, _, _]));rfl;rfl;rfl))|(apply aD;rfl;rfl;rfl)|(apply aC;rfl;rfl)|((with_reducible apply aJ (k := 119));(case ha => rfl);(case h => (apply iG <;> (assumption)));(case hp => (rfl));(case hN => rfl))|(apply bQ;rfl;rfl;rfl)|(apply aF;kernel_rfl)|(apply b8;rfl;rfl;rfl)|(apply bH;rfl;rfl;rfl;rfl))|(apply aL;first|apply aH|apply aB|(apply b9;kernel_rfl)|apply aM)|with_reducible apply aA)
 rw [← hL]
 refine a8 (σ := Nat) [0, 3, 26, 27] [(0, _), (3, _), (26, _), (27, _)] [0, 1, 2, 3] [(0, some _), (1, some _), (2, some _), (3, some _)] (fun k => [(28, iv (k : Int))]) (fun k => []) (fun k => k ≤ L.length ∧ ∀ j, j < k → s.slots[(L[j]!).toNat]!.set = true) (fun k => L.length - k) (0) ⟨Nat.zero_le _, fun j h => absurd h (by omega)⟩ rfl rfl (by repeat' (first|exact trivial|refine And.intro rfl ?_)) (by repeat' (exact trivial)) ?_
 rintro k ⟨hk, hall⟩
 by_cases hkn : k < L.length
 ·have hmk := hmem k hkn
  repeat' (first|(apply aK;first|(apply aE;rfl;rfl)|(first|(apply cV;(case hx|hH => rfl);(case hf|hg|hα => infer_instance);(case hk => omega);(case hc|hN => rfl))|(apply aN;rfl;rfl;rfl;rfl))|(apply aD;rfl;rfl;rfl)|(first|(apply bS;rfl;rfl;omega;rfl)|(apply aU;rfl;rfl;rfl;rfl))|(apply aC;rfl;rfl)|(first|(apply aZ;(case hx|hi => rfl);(case hm => (assumption));(case hml => (rfl));(case hα | hf|hg => infer_instance);(case hN => rfl))|(apply cQ;rfl;rfl;(omega);rfl))|(apply aF;kernel_rfl)|(apply cF;rfl;rfl)|(apply b8;rfl;rfl;rfl))|(apply aL;first|apply aH|apply aB|(apply aP;rfl;all_goals intro hc;have hq:=hc;(try simp only [cH] at hq);try exfalso;omega)|apply aM|apply aT|apply aQ)|with_reducible apply aA|with_reducible apply bE|with_reducible apply aX|with_reducible apply cO)
  ·have hu : dG ts s x = true := (dL htl).2 ⟨L[k]!, by rw [← hL]; exact cJ _ _ hkn, by assumption⟩
   rw [vA hu]
   (refine aO rfl ?_; refine bV () trivial ?_ ⟨.inr (Eq.trans (b := some _) rfl ?_), ⟨.inr (Eq.trans (b := some _) rfl ?_), ⟨.inr (Eq.trans (b := some _) rfl ?_), trivial⟩⟩⟩)
   ·rfl
   ·rfl
   ·rfl
   ·rfl
  ·(apply dJ (k + 1); focus (refine Le.ren [(3, 3)] rfl (by decide) ?_ ?_ <;> repeat' (first | exact trivial | refine And.intro ⟨_, rfl, ?_⟩ ?_ | refine And.intro ⟨_, _, rfl, rfl, ?_⟩ ?_ | exact Or.inr rfl | refine Or.inl ⟨?_, (by first | rfl | exact aY _ _ | exact Pur.pf)⟩ | refine Or.inr (All2.cons ?_ ?_) | refine All2.cons ?_ ?_ | exact All2.nil | rfl)))
   ·refine ⟨by omega, fun j hj => ?_⟩
    rcases Nat.lt_or_ge j k with h|h
    ·exact hall j h
    ·rw [show j = k by omega]; assumption
   ·omega
 ·have hu : dG ts s x = false := by
   cases q : dG ts s x with
   | false => rfl
   | true =>
    obtain ⟨v, hv, hs⟩ := (dL htl).1 q
    rw [← hL] at hv
    obtain ⟨j, hj, e⟩ := List.getElem_of_mem hv
    have h1 := hall j (by omega)
    rw [cT _ _ hj, e, hs] at h1;cases h1
  rw [qR hu]
  rw [hun] at hu;cases hu
theorem I3 {ts : List Int} {bd : List AL.Stmt} {pts : List Pnt} {s : Mc} {x : Pnt} {N : Nat} {Q : Exit → AS → Prop} {all : Array Oper} {rest : List Oper} {tsl : List (Nat × AV)} {hsl : List (Nat × Option (List AV))} {nidl : Nat} {z0 : Lo} {md : Md} {d : Nat} {ty : TypeId} {pos : String} {af : Array Edge} {tys : Array TypeId} {x0 x1 : Operand} {i0 i1 i2 : Nat} (ha0 : ev (lk tsl) x0 = some (.optr i0 0)) (ha1 : ev (lk tsl) x1 = some (fK x)) (hH0 : cK hsl i0 = some (mO ts bd pts i1 i2 s)) (hH1 : cK hsl i1 = some (aI eD s.slots)) (hH2 : cK hsl i2 = some (aI cI s.read)) (hdd : Go.AL.distinct [i0, i1, i2] = true) (hmc : MC Tryz.prog 86 [.optr 0 0, fK x] [(0, some (mO ts bd pts 1 2 s)), (1, some (aI eD s.slots)), (2, some (aI cI s.read))] 3 (fun _ : Unit => True) (fun _ => iv (eV ts s x).2) (fun _ => [(0, some (mO ts bd pts 1 5 (eV ts s x).1)), (1, some (aI eD (eV ts s x).1.slots)), (5, some (aI cI (eV ts s x).1.read))])) (hM : Nat.ble (nidl + 3) eR = true) (hN : Nat.blt d N = true) {md' : Md} [hmd : MdA md (gL [x0, x1] ++ [.inr i0, .inr i1, .inr i2]) (List.map Sum.inr (List.map Prod.fst ([(i0, some (mO ts bd pts i1 (nidl + 2) (eV ts s x).1)), (i1, some (aI eD (eV ts s x).1.slots)), ((nidl + 2), some (aI cI (eV ts s x).1.read)), (i2, none)] : List (Nat × Option (List AV)))) ++ [.inl d]) md'] (kk : RW Tryz.prog N all Q md' rest ⟨(d, iv (eV ts s x).2) :: tsl, iF hsl [(i0, some (mO ts bd pts i1 (nidl + 2) (eV ts s x).1)), (i1, some (aI eD (eV ts s x).1.slots)), ((nidl + 2), some (aI cI (eV ts s x).1.read)), (i2, none)], nidl + 3, z0⟩) : RW Tryz.prog N all Q md (⟨some d, .call ⟨.value (.func 86), #[x0, x1], tys⟩, ty, pos, af, none⟩ :: rest) ⟨tsl, hsl, nidl, z0⟩ := by
 refine cB [i0, i1, i2] 6 [(i0, some (mO ts bd pts i1 (nidl + 2) (eV ts s x).1)), (i1, some (aI eD (eV ts s x).1.slots)), ((nidl + 2), some (aI cI (eV ts s x).1.read)), (i2, none)] hmc (avs := [.optr i0 0, fK x]) ?_ hdd ?_ rfl ?_ (by simpa using hM) ?_ ?_ ?_ hN (md' := md') (hmd := hmd) kk
 ·show evL (lk tsl) [x0, x1] = _
  simp only [evL, ha0, ha1]
 ·exact ⟨⟨_, _, rfl, hH0, by (repeat' (first|exact RnL.purI inferInstance|exact RnV.purI inferInstance|exact RnV.own rfl|refine RnL.cons ?_ ?_))⟩, ⟨⟨_, _, rfl, hH1, by (repeat' (exact RnL.purI inferInstance))⟩, ⟨⟨_, _, rfl, hH2, by (repeat' (exact RnL.purI inferInstance))⟩, trivial⟩⟩⟩
 ·(repeat' (first|exact RnL.purI inferInstance|exact RnV.optr rfl|refine RnL.cons ?_ ?_))
 ·(repeat' (exact RnV.purI inferInstance))
 ·simp [dI]
 ·(repeat' (first|exact trivial|(refine And.intro ⟨0, _, rfl, rfl, ?_⟩ ?_)|(refine And.intro ⟨1, _, rfl, rfl, ?_⟩ ?_)|(refine And.intro ⟨5, _, rfl, rfl, ?_⟩ ?_)|exact RnL.purI inferInstance|exact RnV.purI inferInstance|exact RnV.own rfl|refine RnL.cons ?_ ?_))
theorem LW (ts : List Int) (bd : List AL.Stmt) (pts : List Pnt) (s : Mc) (x : Pnt) (htl : ts.length ≤ 6) (hm : OkM s.cells) (hsl : s.slots.length = ts.length) (hop : 1 ≤ x.op ∧ x.op ≤ 11) (hrl : s.read.length ≤ 1000)
  (hx : x.op ≤ 8 → 0 ≤ x.x ∧ x.x < ts.length) (hy : 3 ≤ x.op → x.op ≤ 7 → 0 ≤ x.y ∧ x.y < ts.length) (hn : x.op = 2 → 0 ≤ x.n ∧ x.n ≤ 9) (h6 : ¬ (x.op = 6 ∧ cL s.cells s.slots[x.y.toNat]!.ptr false = 0 ∧ dG ts s x = false)) : MC Tryz.prog 86 [.optr 0 0, fK x] [(0, some (mO ts bd pts 1 2 s)), (1, some (aI eD s.slots)), (2, some (aI cI s.read))] 3 (fun _ : Unit => True) (fun _ => iv (eV ts s x).2) (fun _ => [(0, some (mO ts bd pts 1 2 (eV ts s x).1)), (1, some (aI eD (eV ts s x).1.slots)), (2, some (aI cI (eV ts s x).1.read))]) := by
 by_cases h1 : x.op = 1
 ·exact LA ts bd pts s x htl hm hsl h1 (hx (by omega))
 by_cases h2 : x.op = 2
 ·exact LY ts bd pts s x htl hm hsl h2 (hn h2) (hx (by omega))
 by_cases h3 : x.op = 3
 ·exact Lj ts bd pts s x htl hm hsl h3 (hx (by omega)) (hy (by omega) (by omega))
 by_cases h4 : x.op = 4 ∨ x.op = 5
 ·exact KV ts bd pts s x htl hm hsl h4 (hx (by omega)) (hy (by omega) (by omega))
 by_cases h6' : x.op = 6
 ·by_cases hu : dG ts s x = true
  ·exact LV ts bd pts s x htl hm hsl hu
  ·exact Lc ts bd pts s x htl hm hsl h6' hrl (hx (by omega)) (hy (by omega) (by omega)) (fun q => h6 ⟨h6', q, by simpa using hu⟩)
 by_cases h7 : x.op = 7
 ·exact Lb ts bd pts s x htl hm hsl h7 (hx (by omega)) (hy (by omega) (by omega))
 by_cases h8 : x.op = 8
 ·exact LO ts bd pts s x htl hm hsl h8 (hx (by omega))
 ·exact LS ts bd pts s x htl hm hsl (by omega)
theorem Cb (x : Pnt) (h : x.next.length ≤ 1000000) : PC Tryz.prog 57 [fK x] (fun r => r = bv (decide (x.next.length = 2))) := by
 (refine aS Tryz.func57 rfl (by simp [Tryz.ntmps57]) ?_; rw [Tryz.ntmps57])
 repeat' (first|(apply aK;first|(apply aN;rfl;rfl;rfl;rfl)|(apply aD;rfl;rfl;rfl)|(apply aU;rfl;rfl;rfl;rfl)|(apply aC;rfl;rfl)|(apply bQ;rfl;rfl;rfl)|(apply aF;kernel_rfl)|(apply bH;rfl;rfl;rfl;rfl))|(apply aL;first|apply aH|apply aB|apply aQ)|with_reducible apply aA)
 refine aO rfl ⟨?_, rfl⟩
 simp only [bW, AV.v.injEq, Value.bool.injEq, decide_eq_decide]; omega
theorem Lt {pts : List Pnt} {a : Nat} {C : List Int} (h : pts[a]!.next.length = 2) (hC : 0 < C.length) : iB pts a C = ((pts[a]!.next[(C[0]! % 2).toNat]!).toNat, C.drop 1) := by
 cases C with
 | nil => simp at hC
 | cons c C => unfold iB;rw [if_pos h]; rfl
theorem K7 {pts : List Pnt} {a : Nat} (h : pts[a]!.next.length = 2) : iB pts a [] = ((pts[a]!.next[1]!).toNat, []) := by unfold iB; rw [if_pos h]
theorem F8 {pts : List Pnt} {n a b : Nat} {out C C2 : List Int} {q : List Int × Bool} (h : ¬ pts[a]!.op = 11) (ho : out.length ≤ n) (hs : iB pts a C = (b, C2)) (hq : q = (out ++ (wm pts (n - out.length) a C).1, (wm pts (n - out.length) a C).2)) :
  ((out ++ [(a : Int)]).length ≤ n ∧ q = ((out ++ [(a : Int)]) ++ (wm pts (n - (out ++ [(a : Int)]).length) b C2).1, (wm pts (n - (out ++ [(a : Int)]).length) b C2).2)) ∨ ((out ++ [(a : Int)]).length = n + 1 ∧ q = ((out ++ [(a : Int)]).take n, false)) := by
 have hl : (out ++ [(a : Int)]).length = out.length + 1 := by rw [List.length_append]; rfl
 rcases Nat.lt_or_ge out.length n with h1|h1
 ·exact .inl ⟨by omega, oH h h1 hs hq⟩
 ·refine .inr ⟨by omega, ?_⟩
  have e : out.length = n := by omega
  rw [hq, e, Nat.sub_self, Hq h, ← e, List.take_left' rfl, List.append_nil]
theorem Ku (ts : List Int) (bd : List AL.Stmt) (pts : List Pnt) (cs : List Int) (n : Nat) (w : WG ts pts) (wa : WA ts pts) (hn : n ≤ 1000) (hcl : cs.length ≤ 1000000) : PC Tryz.prog 85 [aG ts bd pts, sl cI cs, iv (n : Int)] (fun r => r = .tup [sl cI (wm pts n 0 cs).1, bv (wm pts n 0 cs).2]) := by
 have hpl := w.pl
 have hp0 := w.p0
 (refine aS Tryz.func85 rfl (by simp [Tryz.ntmps85]) ?_; rw [Tryz.ntmps85])
 repeat' (first|(apply aK;first|((apply lJ (d := 8) (e := 1));(case hM|hN => rfl))|(apply aC;rfl;rfl)|(apply aF;kernel_rfl))|(apply aL;first|apply aH|apply aB|apply aM)|with_reducible apply aA)
 refine a8 (σ := Int × List Int × Nat × List Int) [0, 2] [(0, _), (2, _)] [] [] (fun k => [(9, iv k.1), (1, sl cI k.2.2.2), (8, .own 0 0 k.2.2.1 1)]) (fun k => [(0, some (aI cI k.2.1))]) (fun k => (0 ≤ k.1 ∧ k.1 < pts.length) ∧ k.2.2.1 = k.2.1.length ∧ k.2.2.2.length ≤ 1000000 ∧ ((k.2.1.length ≤ n ∧ wm pts n 0 cs = (k.2.1 ++ (wm pts (n - k.2.1.length) k.1.toNat k.2.2.2).1, (wm pts (n - k.2.1.length) k.1.toNat k.2.2.2).2)) ∨ (k.2.1.length = n + 1 ∧ wm pts n 0 cs = (k.2.1.take n, false)))) (fun k => n + 1 - k.2.1.length) (0, [], 0, cs) ⟨⟨Int.le_refl _, by show (0 : Int) < _; omega⟩, rfl, hcl, .inl ⟨Nat.zero_le _, rfl⟩⟩ rfl rfl (by repeat' (first|exact trivial|refine And.intro rfl ?_)) (by repeat' (first|exact trivial|refine And.intro (.inr rfl) ?_)) ?_
 rintro ⟨a, out, m, C⟩ ⟨⟨ha0, ha⟩, hm, hC, hw⟩
 dsimp only at ha0 ha hm hC hw ⊢
 by_cases hout : out.length ≤ n
 ·have hw2 : wm pts n 0 cs = (out ++ (wm pts (n - out.length) a.toNat C).1, (wm pts (n - out.length) a.toNat C).2) := by
   rcases hw with h|h
   ·exact h.2
   ·omega
  have hat : (a.toNat : Int) = a := Int.toNat_of_nonneg ha0
  have hnx := w.nx a.toNat (by omega)
  have hnl := w.nl a.toNat (by omega)
  have hn1 := wa.n a.toNat (by omega)
  have hk : ∀ k, k < pts[a.toNat]!.next.length → 0 ≤ pts[a.toNat]!.next[k]! ∧ pts[a.toNat]!.next[k]! < pts.length := fun k h => hnx _ (cJ _ _ h)
  have hch := Cb pts[a.toNat]! (by omega)
  repeat' (first|(apply aK;first|((with_reducible apply aJ (k := 57));(case ha => rfl);(case h => exact hch);(case hp => (exact Pur.pf));(case hN => rfl))|(apply IS;rfl;rfl;rfl)|(apply aE;rfl;rfl)|(first|(apply aN;rfl;rfl;rfl;rfl)|(apply aV;rfl;rfl;(exact (rfl:_=[_, _, _, _, _]));rfl;rfl;rfl))|(apply aD;rfl;rfl;rfl)|(apply aU;rfl;rfl;rfl;rfl)|(apply aC;rfl;rfl)|(apply cP;(case hx|hi => rfl);(case hm => (omega));(case hml => (rfl));(case hα | hf|hg => infer_instance);(case hN => rfl))|(first|(apply bQ;rfl;rfl;rfl)|(apply bY;rfl;rfl;rfl;rfl;rfl;(rw [aR]; omega);(rfl);omega;omega;(exact gW (by (assumption)));rfl;rfl))|(apply aF;kernel_rfl)|(apply jP;rfl;infer_instance;rfl;rfl;(omega);rfl)|(apply cF;rfl;rfl)|(apply b8;rfl;rfl;rfl)|(apply bD;rfl;rfl)|((apply bF (t := _));(case hze|hsm|hl => rfl);(case hfl => exact (rfl:_=some [_]));(case hM|hN => rfl))|(apply aW;rfl;rfl;rfl;rfl;rfl;(case hl => (simp;done));(exact (rfl:_=[_, _, _, _, _]))))|(apply aL;first|apply aH|apply aB|(apply b9;kernel_rfl)|(apply aP;rfl;all_goals intro hc;have hq:=hc;(try simp only [cH] at hq);try exfalso;omega)|apply aM|apply aT|apply aQ)|with_reducible apply aA|with_reducible apply bE|with_reducible apply aX|with_reducible apply cO)
  ·have hop : pts[a.toNat]!.op = 11 := by assumption
   have e : wm pts n 0 cs = (out ++ [a], true) := by rw [hw2, Hf hop, hat]
   rw [e]
   (refine cE (Le.frzD (d := 6) (i := 2) rfl rfl) ?_; refine aO rfl ?_)
   refine ⟨?_, (by (exact Pur.pf))⟩
   simp only [bW, sl]
   rw [hm, List.length_append]; rfl
  ·have hop : ¬ pts[a.toNat]!.op = 11 := by assumption
   have hst := F8 hop hout (Jr (by omega)) hw2
   rw [hat] at hst
   have hk := hk 0 (by omega)
   (apply dJ (pts[a.toNat]!.next[0]!, _, _, C);focus (refine Le.ren [(0, 2)] rfl (by decide) ?_ ?_ <;> repeat' (first|exact trivial|refine And.intro ⟨_, rfl, ?_⟩ ?_|refine And.intro ⟨_, _, rfl, rfl, ?_⟩ ?_|exact Or.inr rfl|refine Or.inl ⟨?_, (by first|rfl|exact aY _ _|exact Pur.pf)⟩|rfl)))
   ·exact ⟨hk, by dsimp only;rw [List.length_append, hm]; rfl, hC, hst⟩
   ·dsimp only;rw [List.length_append]; simp only [List.length_singleton]; omega
  ·have hop : ¬ pts[a.toNat]!.op = 11 := by assumption
   have hC0 : 0 < C.length := by omega
   have hst := F8 hop hout (Lt (by omega) hC0) hw2
   rw [hat] at hst
   have hk := hk (C[0]! % 2).toNat (by omega)
   have hCe : List.take (C.length - Int.toNat 1) (List.drop (Int.toNat 1) C) = C.drop 1 := List.take_of_length_le (by rw [List.length_drop]; exact Nat.le_refl _)
   rw [hCe]
   (apply dJ (pts[a.toNat]!.next[(C[0]! % 2).toNat]!, _, _, C.drop 1);focus (refine Le.ren [(0, 2)] rfl (by decide) ?_ ?_ <;> repeat' (first|exact trivial|refine And.intro ⟨_, rfl, ?_⟩ ?_|refine And.intro ⟨_, _, rfl, rfl, ?_⟩ ?_|exact Or.inr rfl|refine Or.inl ⟨?_, (by first|rfl|exact aY _ _|exact Pur.pf)⟩|rfl)))
   ·exact ⟨hk, by dsimp only;rw [List.length_append, hm]; rfl, by dsimp only;rw [List.length_drop]; omega, hst⟩
   ·dsimp only;rw [List.length_append]; simp only [List.length_singleton]; omega
  ·have hop : ¬ pts[a.toNat]!.op = 11 := by assumption
   have hC0 : C = [] := List.eq_nil_of_length_eq_zero (by omega)
   subst hC0
   have hst := F8 hop hout (K7 (by omega)) hw2
   rw [hat] at hst
   have hk := hk 1 (by omega)
   (apply dJ (pts[a.toNat]!.next[1]!, _, _, []);focus (refine Le.ren [(0, 2)] rfl (by decide) ?_ ?_ <;> repeat' (first|exact trivial|refine And.intro ⟨_, rfl, ?_⟩ ?_|refine And.intro ⟨_, _, rfl, rfl, ?_⟩ ?_|exact Or.inr rfl|refine Or.inl ⟨?_, (by first|rfl|exact aY _ _|exact Pur.pf)⟩|rfl)))
   ·exact ⟨hk, by dsimp only;rw [List.length_append, hm]; rfl, hC, hst⟩
   ·dsimp only;rw [List.length_append]; simp only [List.length_singleton]; omega
 ·have hw2 : out.length = n + 1 ∧ wm pts n 0 cs = (out.take n, false) := by
   rcases hw with h|h
   ·omega
   ·exact h
  repeat' (first|(apply aK;first|((apply iS (d := 59) (l := 0) (h := n));(case hx|hn|hl => rfl);(case hh => exact pX rfl (by omega));(case hp => exact if_pos (by omega));(case hN => rfl))|(apply aE;rfl;rfl)|(apply aU;rfl;rfl;rfl;rfl)|(apply aC;rfl;rfl)|(apply bQ;rfl;rfl;rfl)|(apply aF;kernel_rfl))|(apply aL;first|apply aH|apply aB|(apply aP;rfl;all_goals intro hc;have hq:=hc;(try simp only [cH] at hq);try exfalso;omega)|apply bK|apply aQ)|with_reducible apply aA|with_reducible apply bI|with_reducible apply bJ)
  refine cE (Le.cut (i := 0) (n * 1) rfl) ?_
  refine cE (Le.frzD (d := 6) (i := 0) rfl rfl) ?_
  rw [hw2.2, fA cI (e := 1)]
  refine aO (l := [.imm (n - 0) (aI cI (out.take n)), bv false]) rfl ⟨?_, (by (exact Pur.pf))⟩
  rw [fO (by rw [List.length_take]; omega)]
  rfl
theorem HT {p : Prg} {cs : List Int} {n : Int} {N : Nat} {Q : Exit → AS → Prop} {all : Array Oper} {rest : List Oper} {tsl : List (Nat × AV)} {hsl : List (Nat × Option (List AV))} {nidl : Nat} {z0 : Lo} {md : Md} {d : Nat} {ty : TypeId} {pos : String} {af : Array Edge} {tys : Array TypeId} {x0 x1 x2 : Operand} (ha0 : ev (lk tsl) x0 = some (dM p)) (ha1 : ev (lk tsl) x1 = some (sl cI cs)) (ha2 : ev (lk tsl) x2 = some (iv n)) (hmc : MC Tryz.prog 41 [dM p, sl cI cs, iv n] [] 0 (fun _ : Unit => True) (fun _ => .tup [.optr 1 0, iv 5, iv 0]) (fun _ => [(1, some ([.v (.pointer none), .imm 0 [], .imm 0 [], .imm 0 []]))])) (hM : Nat.ble (nidl + 2) eR = true) (hN : Nat.blt d N = true) {md' : Md} [hmd : MdA md (gL [x0, x1, x2] ++ []) (List.map Sum.inr (List.map Prod.fst ([((nidl + 1), some ([.v (.pointer none), .imm 0 [], .imm 0 [], .imm 0 []]))] : List (Nat × Option (List AV)))) ++ [.inl d]) md'] (kk : RW Tryz.prog N all Q md' rest ⟨(d, .tup [.optr (nidl + 1) 0, iv 5, iv 0]) :: tsl, iF hsl [((nidl + 1), some ([.v (.pointer none), .imm 0 [], .imm 0 [], .imm 0 []]))], nidl + 2, z0⟩) : RW Tryz.prog N all Q md (⟨some d, .call ⟨.value (.func 41), #[x0, x1, x2], tys⟩, ty, pos, af, none⟩ :: rest) ⟨tsl, hsl, nidl, z0⟩ := by
 refine cB [] 2 [((nidl + 1), some ([.v (.pointer none), .imm 0 [], .imm 0 [], .imm 0 []]))] hmc (avs := [dM p, sl cI cs, iv n]) ?_ rfl ?_ rfl ?_ (by simpa using hM) ?_ ?_ ?_ hN (md' := md') (hmd := hmd) kk
 ·show evL (lk tsl) [x0, x1, x2] = _
  simp only [evL, ha0, ha1, ha2]
 ·exact trivial
 ·(repeat' (exact RnL.purI inferInstance))
 ·(repeat' (first|exact RnL.purI inferInstance|exact RnV.optr rfl|refine RnL.cons ?_ ?_|refine RnV.tup ?_))
 ·simp [dI]
 ·(repeat' (first|exact trivial|(refine And.intro ⟨1, _, rfl, rfl, ?_⟩ ?_)|exact RnL.purI inferInstance))
theorem Le.nilMid {ts : List (Nat × AV)} {hs : List (Nat × Option (List AV))} {n : Nat} {z0 : Lo} {i : Nat} (c1 : List AV) {c2 : List AV} (hi : cK hs i = some (c1 ++ .v (.slice none 0 0) :: c2)) :
  Le ⟨ts, hs, n, z0⟩ ⟨ts, (i, some (c1 ++ .imm 0 [] :: c2)) :: hs, n, z0⟩ :=
 Le.cells hi (by simp) fun w bad ι b β h => qW (fun y hy => by have := nY (av := .v (.slice none 0 0)) hy;exact this) c1 c2 b β h
theorem KR {ts : List Int} {pts : List Pnt} {a last : Nat} {l : List Nat} {s : Mc} : iC ts pts (a :: l) s last = if (eV ts s pts[a]!).2 = -1 then iC ts pts l (eV ts s pts[a]!).1 a else ((eV ts s pts[a]!).1, (eV ts s pts[a]!).2, a) := by
 rw [iC]
 by_cases h : dG ts s pts[a]! = true
 ·rw [if_pos h, vA h, if_neg (show ¬ (2 : Int) = -1 by decide)]
 ·have h2 : dG ts s pts[a]! = false := by simpa using h
  rw [if_neg h, qR h2]
theorem LG {ts : List Int} {nt : Nat} {s : Mc} (h : OkS nt s) {x : Pnt} (hx : PtN x) : OkS nt (eV ts s x).1 := by
 unfold eV;split
 ·exact h
 ·exact h.do hx
theorem HU {ts : List Int} {s : Mc} {x : Pnt} : (eV ts s x).1.read.length ≤ s.read.length + 1 := by
 unfold eV;split
 ·dsimp only;omega
 ·exact zM
theorem Me {ts : List Int} {s : Mc} {x : Pnt} (ho : x.op = 6) (hz : cL s.cells s.slots[x.y.toNat]!.ptr false = 0) (hu : dG ts s x = false) (ht : ts[x.x.toNat]! = 1) : (eV ts s x).2 = -1 := by
 rw [qR hu]
 unfold c7
 rw [if_neg (show ¬ x.op = 1 by omega), if_neg (show ¬ x.op = 2 by omega), if_neg (show ¬ x.op = 3 by omega), if_neg (show ¬ (x.op = 4 ∨ x.op = 5) by omega), if_pos ho, if_pos hz]
 unfold cY
 rw [if_neg (fun h => by have := h.1;omega)]
theorem JO (p : Prg) (cs : List Int) (n : Int) (hl : p.types.length ≤ 1000000) (hs : cA p.body ≤ 1000000) (hr : Bd p n = false) : MC Tryz.prog 41 [dM p, sl cI cs, iv n] [] 0 (fun _ : Unit => True) (fun _ => .tup [.optr 1 0, iv 5, iv 0]) (fun _ => [(1, some ([.v (.pointer none), .imm 0 [], .imm 0 [], .imm 0 []]))]) := by
 have hg := kW p hl hs
 unfold Bd at hr
 by_cases hv : c8 p = true
 ·rw [if_pos hv] at hg
  rw [hv] at hr
  have hnn : ¬ (0 ≤ n ∧ n ≤ 150) := fun h => by rw [decide_eq_true h.1, decide_eq_true h.2] at hr;cases hr
  (refine bX Tryz.func41 rfl (by simp [Tryz.ntmps41]) ?_; rw [Tryz.ntmps41])
  repeat' (first|(apply aK;first|((with_reducible apply aJ (k := 62));(case ha => rfl);(case h => exact hg);(case hp => (exact Pur.pf));(case hN => rfl))|(apply aE;rfl;rfl)|(apply aV;rfl;rfl;(exact (rfl:_=[_, _]));rfl;rfl;rfl)|(apply a6;rfl;rfl;rfl;(rfl))|(apply aC;rfl;rfl)|(apply bG;rfl;(rfl);rfl;rfl)|((with_reducible apply aJ (k := 84));(case ha => rfl);(case h => (apply eF <;> (fail)));(case hp => (rfl));(case hN => rfl))|(apply aF;kernel_rfl)|(apply cC;rfl;(exact (rfl:_=some [_, _, _, _]));(exact (rfl:_=[_, _, _, _]));rfl)|(apply cF;rfl;rfl)|(apply bH;rfl;rfl;rfl;rfl)|(apply bC;rfl;rfl;rfl))|(apply aL;first|apply aH|apply aB|(apply aP;rfl;all_goals intro hc;have hq:=hc;(try simp only [cH] at hq);try exfalso;omega)|apply aQ)|with_reducible apply aA|with_reducible apply bE)
  ·(refine aO rfl ?_; refine bV () trivial ?_ ⟨.inr (Eq.trans (b := some _) rfl ?_), trivial⟩)
   ·rfl
   ·rfl
 ·rw [if_neg hv] at hg
  (refine bX Tryz.func41 rfl (by simp [Tryz.ntmps41]) ?_; rw [Tryz.ntmps41])
  repeat' (first|(apply aK;first|((with_reducible apply aJ (k := 62));(case ha => rfl);(case h => exact hg);(case hp => (exact Pur.pf));(case hN => rfl))|(apply aE;rfl;rfl)|(apply aV;rfl;rfl;(exact (rfl:_=[_, _]));rfl;rfl;rfl)|(apply bB;rfl;rfl;rfl;(rfl))|(apply aC;rfl;rfl)|(apply bU;rfl;(rfl);rfl;rfl)|(apply aF;kernel_rfl)|(apply cC;rfl;(exact (rfl:_=some [_, _, _, _]));(exact (rfl:_=[_, _, _, _]));rfl)|(apply cF;rfl;rfl)|(apply bH;rfl;rfl;rfl;rfl)|(apply bC;rfl;rfl;rfl))|(apply aL;first|apply aH|apply aB|(apply bZ;rfl;(rfl))|apply aQ)|with_reducible apply aA|with_reducible apply bE)
  (refine aO rfl ?_; refine bV () trivial ?_ ⟨.inr (Eq.trans (b := some _) rfl ?_), trivial⟩)
  ·rfl
  ·rfl
theorem Ko (p : Prg) (cs : List Int) (n : Nat) (q : Mc × Int × Nat) (hqq : q = eH p.types (dE p) cs n) (hv : c8 p = true) (hl : p.types.length ≤ 1000000) (hs : cA p.body ≤ 1000000) (hn : n ≤ 150) (hcl : cs.length ≤ 1000000) : MC Tryz.prog 41 [dM p, sl cI cs, iv (n : Int)] [] 0 (fun _ : Unit => True) (fun _ => .tup [.optr 2 0, iv q.2.1, iv (q.2.2 : Int)]) (fun _ => [(2, some (mO p.types p.body (dE p) 1 3 q.1)), (1, some (aI eD q.1.slots)), (3, some (aI cI q.1.read))]) := by
 have hg := kW p hl hs
 rw [if_pos hv] at hg
 have w := WG.of_valid hv
 have wa := WA.of_valid hv
 have hru := Ku p.types p.body (dE p) cs n w wa (by omega) hcl
 have htl := w.tl
 have hpl := w.pl
 have hL := Cj w wa n 0 cs w.p0
 have hLl := qX (pts := dE p) n 0 cs
 unfold eH at hqq
 unfold wm at hru
 obtain ⟨L, hLe⟩ : ∃ L, L = (eE (dE p) n 0 cs).1 := ⟨_, rfl⟩
 obtain ⟨dn, hdn⟩ : ∃ dn, dn = (eE (dE p) n 0 cs).2 := ⟨_, rfl⟩
 rw [← hLe, ← hdn] at hru
 rw [← hLe] at hqq hL hLl
 have hgx : ∀ i, i < L.length → (L.map (fun a : Nat => (a : Int)))[i]! = (L[i]! : Int) := fun i h => by rw [cT _ _ (by rw [List.length_map]; exact h), List.getElem_map, cT _ _ h]
 have hml : (L.map (fun a : Nat => (a : Int))).length = L.length := List.length_map _
 generalize (L.map (fun a : Nat => (a : Int))) = LI at *
 generalize hP : dE p = pts at *
 (refine bX Tryz.func41 rfl (by simp [Tryz.ntmps41]) ?_; rw [Tryz.ntmps41])
 repeat' (first|(apply aK;first|((with_reducible apply aJ (k := 62));(case ha => rfl);(case h => exact hg);(case hp => (exact Pur.pf));(case hN => rfl))|(with_reducible apply cS (d := 40))|(apply aE;rfl;rfl)|(first|(apply aN;rfl;rfl;rfl;rfl)|(apply aV;rfl;rfl;(exact (rfl:_=[_, _]));rfl;rfl;rfl))|(apply aD;rfl;rfl;rfl)|(apply a6;rfl;rfl;rfl;(rfl))|(apply aC;rfl;rfl)|(apply bG;rfl;(rfl);rfl;rfl)|((with_reducible apply aJ (k := 84));(case ha => rfl);(case h => (apply eF <;> (fail)));(case hp => (rfl));(case hN => rfl))|(apply bQ;rfl;rfl;rfl)|(apply aF;kernel_rfl)|(apply cF;rfl;rfl)|(apply b8;rfl;rfl;rfl)|(apply bH;rfl;rfl;rfl;rfl)|(apply bC;rfl;rfl;rfl)|(apply eU;rfl;rfl;rfl;omega;omega;(rfl);rfl;rfl))|(apply aL;first|apply aH|apply aB|(apply aP;rfl;all_goals intro hc;have hq:=hc;(try simp only [cH] at hq);try exfalso;omega)|apply aT)|with_reducible apply aA)
 refine dV ?_
 rw [show (List.replicate p.types.length ([Value.bool false, Value.int .i64 0, Value.int .i64 0, Value.int .i64 0].map AV.v)).flatten = aI eD (List.replicate p.types.length gT) from xX rfl]
 apply z7
 case hl => rfl
 case hf => exact (rfl:_=some [_, _, AV.v (.slice none 0 0), AV.v (.slice none 0 0)])
 case hN => rfl
 repeat' (first|(apply aK;first|(with_reducible apply cS (d := 43))|(apply aC;rfl;rfl)|(apply aF;kernel_rfl)|(apply bH;rfl;rfl;rfl;rfl))|(apply aL;first|apply aH|apply aB)|with_reducible apply aA)
 refine dV (iO ?_ (Le.nilMid (i := 2) [_, _] rfl))
 refine iO ?_ (Le.nilCell (i := 2) 1 [_, _, _] rfl (by decide) (by decide))
 repeat' (first|(apply aK;first|((with_reducible apply aJ (k := 85));(case ha => rfl);(case h => exact hru);(case hp => (exact Pur.pf));(case hN => rfl))|(apply aE;rfl;rfl)|(apply aC;rfl;rfl)|(apply bQ;rfl;rfl;rfl)|(apply aF;kernel_rfl)|(apply bC;rfl;rfl;rfl))|(apply aL;first|apply aH|apply aB|apply aM)|with_reducible apply aA)
 refine a8 (σ := Nat × Mc × Nat) [9, 11, 49, 50] [(9, _), (11, _), (49, _), (50, _)] [] [] (fun k => [(51, iv (k.1 : Int)), (14, iv (k.2.2 : Int))]) (fun k => [(2, some (mO p.types p.body pts 1 3 k.2.1)), (1, some (aI eD k.2.1.slots)), (3, some (aI cI k.2.1.read))]) (fun k => k.1 ≤ L.length ∧ iC p.types pts (L.drop k.1) k.2.1 k.2.2 = q ∧ OkS p.types.length k.2.1 ∧ k.2.1.read.length ≤ k.1) (fun k => L.length - k.1) (0, mc0 p.types.length, 0) ⟨Nat.zero_le _, hqq.symm, OkS.mc0 _, Nat.le_refl _⟩ rfl rfl (by repeat' (first|exact trivial|refine And.intro rfl ?_)) (by repeat' (first|exact trivial|refine And.intro (.inr rfl) ?_)) ?_
 rintro ⟨i, s, last⟩ ⟨hi, hf, hok, hrd⟩
 dsimp only at hi hf hok hrd ⊢
 by_cases hiL : i < L.length
 ·have hap := hL L[i]! (cJ _ _ hiL)
  have hop := w.op L[i]! hap
  have hwx := w.x L[i]! hap
  have hwy := w.y L[i]! hap
  have hA := wa.a L[i]! hap
  have hg2 := hgx i hiL
  have hdr : L.drop i = L[i]! :: L.drop (i + 1) := by rw [List.drop_eq_getElem_cons hiL, cT _ _ hiL]
  rw [hdr, KR] at hf
  have hpt : PtN pts[L[i]!]! := ⟨fun h => hA.n (.inr h)⟩
  have hdo := LG (ts := p.types) hok hpt
  have hdr2 := HU (ts := p.types) (s := s) (x := pts[L[i]!]!)
  by_cases h6 : pts[L[i]!]!.op = 6 ∧ cL s.cells s.slots[(pts[L[i]!]!).y.toNat]!.ptr false = 0 ∧ dG p.types s pts[L[i]!]! = false
  ·have hm6 := Kg p.types p.body pts s pts[L[i]!]! htl hok.m hok.l h6.1 (by omega) (by omega) (by omega) h6.2.1 h6.2.2
   repeat' (first|(apply aK;first|(with_reducible apply cS (d := 16))|(apply aN;rfl;rfl;rfl;rfl)|(apply aU;rfl;rfl;rfl;rfl)|(apply aZ;(case hx|hi => rfl);(case hm => (omega));(case hml => (rfl));(case hα | hf|hg => infer_instance);(case hN => rfl))|(apply aF;kernel_rfl))|(apply aL;first|apply aH|apply aB|(apply aP;rfl;all_goals intro hc;have hq:=hc;(try simp only [cH] at hq);try exfalso;omega)|apply aM|apply aT)|with_reducible apply aA)
   refine dV ?_
   rw [hg2]
   repeat' (first|(apply aK;first|((apply I3 (ts := p.types) (bd := p.body) (pts := pts) (s := s) (x := pts[L[i]!]!));(case ha0|ha1|hH0|hH1|hH2|hdd => rfl);(case hmc => exact hm6);(case hM|hN => rfl))|(apply aE;rfl;rfl)|(first|(apply aN;rfl;rfl;rfl;rfl)|(apply aV;rfl;rfl;(exact (rfl:_=[_, _, _, _, _]));rfl;rfl;rfl))|(apply aD;rfl;rfl;rfl)|(first|(apply bS;rfl;rfl;omega;rfl)|(apply aU;rfl;rfl;rfl;rfl))|(apply aC;rfl;rfl)|(apply aZ;(case hx|hi => rfl);(case hm => (assumption));(case hml => (rfl));(case hα | hf|hg => infer_instance);(case hN => rfl))|(apply aF;kernel_rfl)|(apply b8;rfl;rfl;rfl))|(apply aL;first|apply aH|apply aB|(apply aP;rfl;all_goals intro hc;have hq:=hc;(try simp only [cH] at hq);try exfalso;omega)|apply aT|apply aQ)|with_reducible apply aA|with_reducible apply bE|with_reducible apply aX|with_reducible apply cO)
   ·exfalso
    have h9 : ¬ (eV p.types s pts[L[i]!]!).2 = -1 := by assumption
    exact h9 (Me h6.1 h6.2.1 h6.2.2 (hA.t6 h6.1).1)
   ·(apply dJ (i + 1, (eV p.types s pts[L[i]!]!).1, L[i]!); focus (refine Le.ren [(1, 1), (2, 2), (3, 6)] rfl (by decide) ?_ ?_ <;> repeat' (first | exact trivial | refine And.intro ⟨_, rfl, ?_⟩ ?_ | refine And.intro ⟨_, _, rfl, rfl, ?_⟩ ?_ | exact Or.inr rfl | refine Or.inl ⟨?_, (by first | rfl | exact aY _ _ | exact Pur.pf)⟩ | refine Or.inr (All2.cons ?_ ?_) | refine All2.cons ?_ ?_ | exact All2.nil | rfl)))
    ·refine ⟨by dsimp only; omega, ?_, hdo, by dsimp only; omega⟩
     dsimp only
     rw [if_pos (by assumption)] at hf
     exact hf
    ·dsimp only;omega
  ·have hmd := LW p.types p.body pts s pts[L[i]!]! htl hok.m hok.l hop (by omega) (fun h => by omega) (fun h h2 => by omega) (fun h => hA.n (.inr h)) h6
   repeat' (first|(apply aK;first|(with_reducible apply cS (d := 16))|(apply aN;rfl;rfl;rfl;rfl)|(apply aU;rfl;rfl;rfl;rfl)|(apply aZ;(case hx|hi => rfl);(case hm => (omega));(case hml => (rfl));(case hα | hf|hg => infer_instance);(case hN => rfl))|(apply aF;kernel_rfl))|(apply aL;first|apply aH|apply aB|(apply aP;rfl;all_goals intro hc;have hq:=hc;(try simp only [cH] at hq);try exfalso;omega)|apply aM|apply aT)|with_reducible apply aA)
   refine dV ?_
   rw [hg2]
   repeat' (first|(apply aK;first|((apply J9 (ts := p.types) (bd := p.body) (pts := pts) (s := s) (x := pts[L[i]!]!));(case ha0|ha1|hH0|hH1|hH2|hdd => rfl);(case hmc => exact hmd);(case hM|hN => rfl))|(apply aE;rfl;rfl)|(first|(apply aN;rfl;rfl;rfl;rfl)|(apply aV;rfl;rfl;(exact (rfl:_=[_, _, _, _, _]));rfl;rfl;rfl))|(apply aD;rfl;rfl;rfl)|(first|(apply bS;rfl;rfl;omega;rfl)|(apply aU;rfl;rfl;rfl;rfl))|(apply aC;rfl;rfl)|(apply aZ;(case hx|hi => rfl);(case hm => (assumption));(case hml => (rfl));(case hα | hf|hg => infer_instance);(case hN => rfl))|(apply aF;kernel_rfl)|(apply b8;rfl;rfl;rfl))|(apply aL;first|apply aH|apply aB|(apply aP;rfl;all_goals intro hc;have hq:=hc;(try simp only [cH] at hq);try exfalso;omega)|apply aT|apply aQ)|with_reducible apply aA|with_reducible apply bE|with_reducible apply aX|with_reducible apply cO)
   ·have h9 : ¬ (eV p.types s pts[L[i]!]!).2 = -1 := by assumption
    rw [if_neg h9] at hf
    rw [← hf]
    (refine aO rfl ?_; refine bV () trivial ?_ ⟨.inr (Eq.trans (b := some _) rfl ?_), ⟨.inr (Eq.trans (b := some _) rfl ?_), ⟨.inr (Eq.trans (b := some _) rfl ?_), trivial⟩⟩⟩)
    ·rfl
    ·rfl
    ·rfl
    ·rfl
   ·(apply dJ (i + 1, (eV p.types s pts[L[i]!]!).1, L[i]!); focus (refine Le.ren [(1, 1), (2, 2), (3, 3)] rfl (by decide) ?_ ?_ <;> repeat' (first | exact trivial | refine And.intro ⟨_, rfl, ?_⟩ ?_ | refine And.intro ⟨_, _, rfl, rfl, ?_⟩ ?_ | exact Or.inr rfl | refine Or.inl ⟨?_, (by first | rfl | exact aY _ _ | exact Pur.pf)⟩ | refine Or.inr (All2.cons ?_ ?_) | refine All2.cons ?_ ?_ | exact All2.nil | rfl)))
    ·refine ⟨by dsimp only; omega, ?_, hdo, by dsimp only; omega⟩
     dsimp only
     rw [if_pos (by assumption)] at hf
     exact hf
    ·dsimp only;omega
 ·repeat' (first | (apply aK; first | (apply aE;rfl;rfl) | (apply aU;rfl;rfl;rfl;rfl) | (apply aC;rfl;rfl) | (apply aF;kernel_rfl)) | (apply aL; first | apply aH | apply aB | (apply aP;rfl;all_goals intro hc;have hq:=hc;(try simp only [cH] at hq);try exfalso;omega) | apply bK | apply aQ) | with_reducible apply aA | with_reducible apply bI | with_reducible apply bJ)
  have hie : i = L.length := by omega
  have hq2 : q = (s, 1, last) := by rw [← hf, hie, List.drop_length]; rfl
  rw [hq2]
  (refine aO rfl ?_; refine bV () trivial ?_ ⟨.inr (Eq.trans (b := some _) rfl ?_), ⟨.inr (Eq.trans (b := some _) rfl ?_), ⟨.inr (Eq.trans (b := some _) rfl ?_), trivial⟩⟩⟩)
  ·rfl
  ·rfl
  ·rfl
  ·rfl
theorem EV {p : Prg} {cs : List Int} {n : Int} {q : Mc × Int × Nat} {N : Nat} {Q : Exit → AS → Prop} {all : Array Oper} {rest : List Oper} {tsl : List (Nat × AV)} {hsl : List (Nat × Option (List AV))} {nidl : Nat} {z0 : Lo} {md : Md} {d : Nat} {ty : TypeId} {pos : String} {af : Array Edge} {tys : Array TypeId} {x0 x1 x2 : Operand} (ha0 : ev (lk tsl) x0 = some (dM p)) (ha1 : ev (lk tsl) x1 = some (sl cI cs)) (ha2 : ev (lk tsl) x2 = some (iv n)) (hmc : MC Tryz.prog 41 [dM p, sl cI cs, iv n] [] 0 (fun _ : Unit => True) (fun _ => .tup [.optr 2 0, iv q.2.1, iv (q.2.2 : Int)]) (fun _ => [(2, some (mO p.types p.body (dE p) 1 3 q.1)), (1, some (aI eD q.1.slots)), (3, some (aI cI q.1.read))])) (hM : Nat.ble (nidl + 4) eR = true) (hN : Nat.blt d N = true) {md' : Md} [hmd : MdA md (gL [x0, x1, x2] ++ []) (List.map Sum.inr (List.map Prod.fst ([((nidl + 2), some (mO p.types p.body (dE p) (nidl + 1) (nidl + 3) q.1)), ((nidl + 1), some (aI eD q.1.slots)), ((nidl + 3), some (aI cI q.1.read))] : List (Nat × Option (List AV)))) ++ [.inl d]) md'] (kk : RW Tryz.prog N all Q md' rest ⟨(d, .tup [.optr (nidl + 2) 0, iv q.2.1, iv (q.2.2 : Int)]) :: tsl, iF hsl [((nidl + 2), some (mO p.types p.body (dE p) (nidl + 1) (nidl + 3) q.1)), ((nidl + 1), some (aI eD q.1.slots)), ((nidl + 3), some (aI cI q.1.read))], nidl + 4, z0⟩) : RW Tryz.prog N all Q md (⟨some d, .call ⟨.value (.func 41), #[x0, x1, x2], tys⟩, ty, pos, af, none⟩ :: rest) ⟨tsl, hsl, nidl, z0⟩ := by
 refine cB [] 4 [((nidl + 2), some (mO p.types p.body (dE p) (nidl + 1) (nidl + 3) q.1)), ((nidl + 1), some (aI eD q.1.slots)), ((nidl + 3), some (aI cI q.1.read))] hmc (avs := [dM p, sl cI cs, iv n]) ?_ rfl ?_ rfl ?_ (by simpa using hM) ?_ ?_ ?_ hN (md' := md') (hmd := hmd) kk
 ·show evL (lk tsl) [x0, x1, x2] = _
  simp only [evL, ha0, ha1, ha2]
 ·exact trivial
 ·(repeat' (exact RnL.purI inferInstance))
 ·(repeat' (first|exact RnL.purI inferInstance|exact RnV.optr rfl|refine RnL.cons ?_ ?_|refine RnV.tup ?_))
 ·simp [dI]
 ·(repeat' (first|exact trivial|(refine And.intro ⟨1, _, rfl, rfl, ?_⟩ ?_)|(refine And.intro ⟨2, _, rfl, rfl, ?_⟩ ?_)|(refine And.intro ⟨3, _, rfl, rfl, ?_⟩ ?_)|exact RnL.purI inferInstance|exact RnV.purI inferInstance|exact RnV.own rfl|refine RnL.cons ?_ ?_))
theorem uS (p : Prg) (cs : List Int) (most : Int) (hl : p.types.length ≤ 1000000) (hs : cA p.body ≤ 1000000) (hcl : cs.length ≤ 1000000) : PC Tryz.prog 13 [dM p, sl cI cs, iv most] (fun r => r = .tup (if Bd p most = true then [iv (eH p.types (dE p) cs most.toNat).2.1, iv (eH p.types (dE p) cs most.toNat).2.2] else [iv 5, iv 0])) := by
 by_cases h : Bd p most = true
 ·have h' := h
  unfold Bd at h'
  simp only [Bool.and_eq_true, decide_eq_true_eq] at h'
  obtain ⟨hv, h0, h1⟩ := h'
  have hru := Ko p cs most.toNat _ rfl hv hl hs (by omega) hcl
  have hok := KK (cs := cs) (n := most.toNat) hv
  have hrl := BY (ts := p.types) (pts := dE p) (cs := cs) (n := most.toNat) (by omega)
  have htl := (WG.of_valid hv).tl
  rw [Int.toNat_of_nonneg h0] at hru
  rw [if_pos h]
  have hon := Int.toNat_of_nonneg h0
  have hm := hok.m
  have hml := hm.l
  have hsl := hok.l
  generalize eH p.types (dE p) cs most.toNat = q at *
  (refine aS Tryz.func13 rfl (by simp [Tryz.ntmps13]) ?_; rw [Tryz.ntmps13])
  repeat' (first|(apply aK;first|((apply EV (p := p) (cs := cs) (n := most) (q := q));(case ha0|ha1|ha2 => rfl);(case hmc => exact hru);(case hM|hN => rfl))|(apply aE;rfl;rfl)|(apply aV;rfl;rfl;(exact (rfl:_=[_, _]));rfl;rfl;rfl)|(apply aC;rfl;rfl)|(apply aF;kernel_rfl)|(apply bH;rfl;rfl;rfl;rfl)|(apply bC;rfl;rfl;rfl))|(apply aL;first|apply aH|apply aB|apply aQ)|with_reducible apply aA)
  exact aO (l := [iv q.2.1, iv q.2.2]) rfl ⟨rfl, rfl⟩
 ·rw [if_neg h]
  have h2 : Bd p most = false := by simpa using h
  (refine aS Tryz.func13 rfl (by simp [Tryz.ntmps13]) ?_; rw [Tryz.ntmps13])
  repeat' (first|(apply aK;first|((apply HT (p := p) (cs := cs) (n := most));(case ha0|ha1|ha2 => rfl);(case hmc => exact JO p cs most hl hs h2);(case hM|hN => rfl))|(apply aE;rfl;rfl)|(apply aV;rfl;rfl;(exact (rfl:_=[_, _]));rfl;rfl;rfl)|(apply aC;rfl;rfl)|(apply aF;kernel_rfl)|(apply bH;rfl;rfl;rfl;rfl)|(apply bC;rfl;rfl;rfl))|(apply aL;first|apply aH|apply aB|apply aQ)|with_reducible apply aA)
  exact aO (l := [iv 5, iv 0]) rfl ⟨rfl, rfl⟩
def uP (p : Prg) (cs : List Int) (n : Int) : Int := if Bd p n = true then (eH p.types (dE p) cs n.toNat).2.1 else 5
def tT (p : Prg) (cs : List Int) (n : Int) : Int := if Bd p n = true then ((eH p.types (dE p) cs n.toNat).2.2 : Int) else 0
theorem BK (p : Prg) (cs : List Int) (n : Int) (hl : p.types.length ≤ 1000000) (hs : cA p.body ≤ 1000000) (hcl : cs.length ≤ 1000000) : PC Tryz.prog 13 [dM p, sl cI cs, iv n] (fun r => r = .tup [iv (uP p cs n), iv (tT p cs n)]) := by
 have h := uS p cs n hl hs hcl
 unfold uP tT
 split
 ·rename_i h2;rw [if_pos h2] at h;exact h
 ·rename_i h2;rw [if_neg h2] at h;exact h
theorem JM (p : Prg) (cs : List Int) (n : Int) (hl : p.types.length ≤ 1000000) (hs : cA p.body ≤ 1000000) (hcl : cs.length ≤ 1000000) : PC Tryz.prog 14 [dM p, sl cI cs, iv n] (fun r => r = .tup [iv (uP p cs n), iv (tT p cs n)]) := by
 have h := vC p cs n hl hs hcl
 unfold uP tT
 split
 ·rename_i h2;rw [if_pos h2] at h;exact h
 ·rename_i h2;rw [if_neg h2] at h;exact h
theorem zN {p : Prg} {n : Int} : Bd p n = true ↔ c8 p = true ∧ 0 ≤ n ∧ n ≤ 150 := by
 unfold Bd;simp only [Bool.and_eq_true, decide_eq_true_eq]
end Go.Proofs.YtckihjkcgfphmaaGreat
