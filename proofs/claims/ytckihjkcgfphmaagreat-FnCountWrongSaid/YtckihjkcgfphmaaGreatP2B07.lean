/-
 A part of the proofs over this program: rules and contracts of its functions (the contracts).
-/
import Derived.Test.YtckihjkcgfphmaaGreatP2B06
import Derived.Test.YtckihjkcgfphmaaGreatRows
import Derived.WalkKit
import Derived.ProofKit
import Derived.OpenShut
import Derived.Carry
import Derived.ChangeSlices
set_option linter.unusedVariables false
set_option linter.unusedSimpArgs false
set_option maxHeartbeats 8000000
set_option maxRecDepth 4000
attribute [local irreducible] Go.AL.RW Go.AL.AW Go.AL.Stop
namespace Go.Proofs.YtckihjkcgfphmaaGreat
open Go.AL Go.RowKit
def iN (n l : Nat) : List Int := (List.range l).map fun i => ((n / 2 ^ i % 2 : Nat) : Int)
theorem jR (n l : Nat) : (iN n l).length = l := by unfold iN; rw [List.length_map, List.length_range]
theorem tN (n l : Nat) : iN n (l + 1) = iN n l ++ [((n / 2 ^ l % 2 : Nat) : Int)] := by
 unfold iN;rw [List.range_succ, List.map_append]; rfl
def dV (p : Prg) (l n : Nat) : Bool := decide (tE p (iN n l) 80 ≠ 0) && decide (tE p (iN n l) 80 ≠ 1)
def sA (p : Prg) (l k : Nat) : Nat := ((List.range k).filter (dV p l)).length
theorem zI {p : Prg} {l k : Nat} (h : dV p l k = true) : sA p l (k + 1) = sA p l k + 1 := by
 unfold sA;rw [List.range_succ, List.filter_append, List.length_append]; simp [h]
theorem uS {p : Prg} {l k : Nat} (h : dV p l k = false) : sA p l (k + 1) = sA p l k := by
 unfold sA;rw [List.range_succ, List.filter_append, List.length_append]; simp [h]
theorem xM {p : Prg} {l k : Nat} : sA p l k ≤ k := by
 unfold sA;exact Nat.le_trans (List.length_filter_le _ _) (by rw [List.length_range]; exact Nat.le_refl _)
theorem m7 (n l : Nat) (hl : l ≤ 100) (hn : n ≤ 1000000) : PC Tryz.prog 50 [iv (n : Int), iv (l : Int)] (fun r => r = sl cI (iN n l)) := by
 (refine aS Tryz.func50 rfl (by simp [Tryz.ntmps50]) ?_; rw [Tryz.ntmps50])
 repeat' (first|(apply aL;first|(apply aC;rfl;rfl)|(apply aF;kernel_rfl)|(apply bQ;rfl;rfl;rfl;(rfl);rfl;rfl))|(apply aM;first|apply aH|apply aB|apply aN)|with_reducible apply aA)
 refine bL (σ := Nat × Nat × List Int × Nat) [1] [(1, _)] [] [] (fun k => [(6, iv (k.1 : Int)), (0, iv (k.2.1 : Int)), (5, .own 0 0 k.2.2.2 1)]) (fun k => [(0, some (aI cI k.2.2.1))]) (fun k => k.1 ≤ l ∧ k.2.1 = n / 2 ^ k.1 ∧ k.2.2.1 = iN n k.1 ∧ k.2.2.2 = k.1) (fun k => l - k.1) (0, n, [], 0) ⟨Nat.zero_le _, by simp, rfl, rfl⟩ rfl rfl (by repeat' (first|exact trivial|refine And.intro rfl ?_)) (by repeat' (first|exact trivial|refine And.intro (.inr rfl) ?_)) ?_
 rintro ⟨i, n', xs, m⟩ ⟨hi, hn', hxs, hm⟩
 dsimp only at hi hn' hxs hm ⊢
 have hnl : n' ≤ 1000000 := by rw [hn']; exact Nat.le_trans (Nat.div_le_self _ _) hn
 have hxl : xs.length = m := by rw [hxs, jR, hm]
 repeat' (first|(apply aL;first|(apply aE;rfl;rfl)|(first|(apply bN;rfl;rfl;omega;rfl)|(apply Bo;rfl;rfl;omega;rfl)|(apply CR;rfl;rfl;omega;rfl)|(apply aU;rfl;rfl;rfl;rfl))|(apply aC;rfl;rfl)|(apply bV;rfl;rfl;rfl;rfl;rfl;(rw [aT]; omega);(rfl);omega;omega;(exact fW (by (omega)));rfl;rfl)|(apply aF;kernel_rfl)|((apply bF (t := _));(case hze|hsm|hl => rfl);(case hfl => exact (rfl:_=some [_]));(case hM|hN => rfl)))|(apply aM;first|apply aH|apply aB|(apply aQ;rfl;all_goals intro hc;have hq:=hc;(try simp only [cC] at hq);try exfalso;omega)|apply aN|apply aV|apply bS|apply aO)|with_reducible apply aA|with_reducible apply bU|with_reducible apply aX|with_reducible apply bT)
 ·(apply dG (i + 1, n' / 2, _, m + 1); focus (refine Le.ren [(0, 2)] rfl (by decide) ?_ ?_ <;> repeat' (first | exact trivial | refine And.intro ⟨_, rfl, ?_⟩ ?_ | refine And.intro ⟨_, _, rfl, rfl, ?_⟩ ?_ | exact Or.inr rfl | refine Or.inl ⟨?_, (by first | rfl | exact bH _ _)⟩ | rfl)))
  ·refine ⟨by dsimp only; omega, ?_, ?_, by dsimp only; omega⟩
   ·dsimp only;rw [hn', Nat.pow_succ, Nat.div_div_eq_div_mul]
   ·dsimp only;rw [tN, ← hxs, ← hn']; rfl
  ·dsimp only;omega
 ·(refine b0 (Le.frzD (d := 4) (i := 0) rfl rfl) ?_; refine aK rfl ?_)
  refine ⟨?_, (by (exact bH _ _))⟩
  have hie : i = l := by omega
  simp only [bX, sl]
  rw [← hxl, hxs, hie]
theorem uH (l : Nat) (hl : l ≤ 10) : PC Tryz.prog 48 [iv (l : Int)] (fun r => r = iv ((2 ^ l : Nat) : Int)) := by
 (refine aS Tryz.func48 rfl (by simp [Tryz.ntmps48]) ?_; rw [Tryz.ntmps48])
 repeat' (first|(apply aL;first|(apply aC;rfl;rfl)|(apply aF;kernel_rfl))|(apply aM;first|apply aH|apply aB|apply aN)|with_reducible apply aA)
 refine bL (σ := Nat) [0] [(0, _)] [] [] (fun k => [(4, iv (k : Int)), (3, iv ((2 ^ k : Nat) : Int))]) (fun k => []) (fun k => k ≤ l) (fun k => l - k) (0) (Nat.zero_le _) rfl rfl (by repeat' (first|exact trivial|refine And.intro rfl ?_)) (by repeat' (exact trivial)) ?_
 rintro k hk
 have hp : 2 ^ k ≤ 2 ^ 10 := Nat.pow_le_pow_right (by decide) (by omega)
 repeat' (first|(apply aL;first|(apply aE;rfl;rfl)|(first|(apply bN;rfl;rfl;omega;rfl)|(apply aU;rfl;rfl;rfl;rfl))|(apply aC;rfl;rfl)|(apply aF;kernel_rfl))|(apply aM;first|apply aH|apply aB|(apply aQ;rfl;all_goals intro hc;have hq:=hc;(try simp only [cC] at hq);try exfalso;omega)|apply aN|apply aV|apply bS|apply aO)|with_reducible apply aA|with_reducible apply bU|with_reducible apply aX|with_reducible apply bT)
 ·have hw : IntKind.i64.wrap (((2 ^ k : Nat) : Int) * 2) = ((2 ^ (k + 1) : Nat) : Int) := by
   rw [show (((2 ^ k : Nat) : Int) * 2) = ((2 ^ (k + 1) : Nat) : Int) by rw [Nat.pow_succ, Int.natCast_mul]; rfl]
   exact nJ (Sm.pow (by omega)).pf
  rw [hw]
  (apply dG (k + 1);focus (refine Le.ren [] rfl (by decide) ?_ ?_ <;> repeat' (first|exact trivial|refine And.intro ⟨_, rfl, ?_⟩ ?_|refine Or.inl ⟨?_, (by (rfl))⟩|rfl)))
  ·omega
  ·omega
 ·refine aK rfl ⟨?_, rfl⟩
  rw [show l = k by omega]; rfl
def iE (p : Prg) (l : Int) : Bool := c8 p && (decide (0 ≤ l) && decide (l ≤ 6))
theorem gR {p : Prg} {l : Int} : iE p l = true ↔ c8 p = true ∧ 0 ≤ l ∧ l ≤ 6 := by unfold iE; simp only [Bool.and_eq_true, decide_eq_true_eq]
theorem mD (p : Prg) (l : Int) (hl : p.types.length ≤ 1000000) (hs : bO p.body ≤ 1000000) : PC Tryz.prog 47 [cW p, iv l] (fun r => r = bv (iE p l)) := by
 have hval := lS p hl (by omega)
 (refine aS Tryz.func47 rfl (by simp [Tryz.ntmps47]) ?_; rw [Tryz.ntmps47])
 repeat' (first|(apply aL;first|((with_reducible apply aJ (k := 87));(case ha => rfl);(case h => exact hval);(case hp => (exact Pur.pf));(case hN => rfl))|(apply aE;rfl;rfl)|(apply aR;rfl;rfl;(exact (rfl:_=[_, _]));rfl;rfl;rfl)|(first|(apply aY;rfl;rfl;rfl;(assumption))|(apply a7;rfl;rfl;rfl;(first|rfl|assumption))|(apply bE;(case hj|hb|hN => rfl);all_goals (intro hg;have hq := hg;(try simp only [cC] at hq);(try (exfalso;omega)))))|(apply aU;rfl;rfl;rfl;rfl)|(apply aC;rfl;rfl)|(first|(apply bJ;rfl;(assumption);rfl;rfl)|(apply bC;rfl;(first|rfl|assumption);rfl;rfl))|(apply aF;kernel_rfl)|(apply bA;rfl;rfl;rfl;rfl))|(apply aM;first|apply aH|apply aB|apply aO)|with_reducible apply aA)
 all_goals (refine aK rfl ⟨?_, rfl⟩; simp only [bX, AV.v.injEq, Value.bool.injEq]; unfold iE;grind)
theorem Bl : PC Tryz.prog 93 [] (fun r => r = iv 80) := by
 (refine aS Tryz.func93 rfl (by simp [Tryz.ntmps93]) ?_; rw [Tryz.ntmps93])
 repeat' (first|(apply aL;first|(apply aC;rfl;rfl)|(apply aF;kernel_rfl))|(apply aM;first|apply aH|apply aB|apply aO)|with_reducible apply aA)
 exact aK rfl ⟨rfl, rfl⟩
theorem qG (p : Prg) (cs : List Int) (hl : p.types.length ≤ 1000000) (hs : bO p.body ≤ 1000000) (hcl : cs.length ≤ 1000000) : PC Tryz.prog 49 [cW p, sl cI cs] (fun r => r = .tup [bv (decide (tE p cs 80 ≠ 0) && decide (tE p cs 80 ≠ 1)), iv (pP p cs 80)]) := by
 have h := Fm p cs 80 hl hs hcl
 have hm := Bl
 generalize tE p cs 80 = e at *
 generalize pP p cs 80 = a at *
 (refine aS Tryz.func49 rfl (by simp [Tryz.ntmps49]) ?_; rw [Tryz.ntmps49])
 repeat' (first|(apply aL;first|((with_reducible apply aJ (k := 14));(case ha => rfl);(case h => exact h);(case hp => (exact Pur.pf));(case hN => rfl))|((with_reducible apply aJ (k := 93));(case ha => rfl);(case h => exact hm);(case hp => (rfl));(case hN => rfl))|(apply aE;rfl;rfl)|(apply aR;rfl;rfl;(exact (rfl:_=[_, _]));rfl;rfl;rfl)|(first|(apply aY;rfl;rfl;rfl;(assumption))|(apply a7;rfl;rfl;rfl;(assumption))|(apply bE;(case hj|hb|hN => rfl);all_goals (intro hg;have hq := hg;(try simp only [cC] at hq);(try (exfalso;omega)))))|(apply aU;rfl;rfl;rfl;rfl)|(apply aC;rfl;rfl)|(first|(apply bJ;rfl;(assumption);rfl;rfl)|(apply bC;rfl;(assumption);rfl;rfl))|(apply aF;kernel_rfl)|(apply bA;rfl;rfl;rfl;rfl)|(apply aZ;rfl;rfl;rfl))|(apply aM;first|apply aH|apply aB|(apply bZ;kernel_rfl)|apply aO)|with_reducible apply aA)
 ·refine aK (l := [bv _, iv a]) ?_ ⟨rfl, rfl⟩
  have hd : (decide (e ≠ 0) && decide (e ≠ 1)) = !decide (e = 1) := by simp_all
  rw [hd]; rfl
 ·refine aK (l := [bv _, iv a]) ?_ ⟨rfl, rfl⟩
  have hd : (decide (e ≠ 0) && decide (e ≠ 1)) = false := by simp_all
  rw [hd]; rfl
theorem pZ (p : Prg) (l : Int) (hl : p.types.length ≤ 1000000) (hs : bO p.body ≤ 1000000) : PC Tryz.prog 18 [cW p, iv l] (fun r => r = .tup (if iE p l = true then [iv (sA p l.toNat (2 ^ l.toNat)), iv ((2 ^ l.toNat : Nat) : Int)] else [iv 0, iv 0])) := by
 have hr := mD p l hl hs
 by_cases h : iE p l = true
 ·obtain ⟨hv, h0, h1⟩ := gR.1 h
  rw [h] at hr
  rw [if_pos h]
  obtain ⟨L, rfl⟩ := Int.eq_ofNat_of_zero_le h0
  rw [Int.toNat_natCast]
  have hru := uH L (by omega)
  have hp : 2 ^ L ≤ 2 ^ 6 := Nat.pow_le_pow_right (by decide) (by omega)
  generalize hT : 2 ^ L = T at *
  (refine aS Tryz.func18 rfl (by simp [Tryz.ntmps18]) ?_; rw [Tryz.ntmps18])
  repeat' (first|(apply aL;first|((with_reducible apply aJ (k := 47));(case ha => rfl);(case h => exact hr);(case hp => (exact Pur.pf));(case hN => rfl))|((with_reducible apply aJ (k := 48));(case ha => rfl);(case h => exact hru);(case hp => (rfl));(case hN => rfl))|(apply aE;rfl;rfl)|(apply aR;rfl;rfl;(exact (rfl:_=[_, _]));rfl;rfl;rfl)|(apply aC;rfl;rfl)|(apply aF;kernel_rfl)|(apply bW;rfl;rfl)|(apply bA;rfl;rfl;rfl;rfl))|(apply aM;first|apply aH|apply aB|(apply b9;rfl;(rfl))|apply aN|apply aV)|with_reducible apply aA)
  refine bL (σ := Nat × Nat) [1, 2, 7] [(1, _), (2, _), (7, _)] [0] [(0, some _)] (fun s => [(8, iv (s.1 : Int)), (6, iv (s.2 : Int))]) (fun s => []) (fun s => s.1 ≤ T ∧ s.2 = sA p L s.1) (fun s => T - s.1) (0, 0) ⟨Nat.zero_le _, rfl⟩ rfl rfl (by repeat' (first|exact trivial|refine And.intro rfl ?_)) (by repeat' (exact trivial)) ?_
  rintro ⟨k, c⟩ ⟨hk, hc⟩
  dsimp only at hk hc ⊢
  have hcb := xM (p := p) (l := L) (k := k)
  have hch1 := zI (p := p) (l := L) (k := k)
  have hcs1 := uS (p := p) (l := L) (k := k)
  rw [← hc] at hcb hch1 hcs1
  have hch := m7 k L (by omega) (by omega)
  have hwr := qG p (iN k L) hl hs (by rw [jR]; omega)
  change PC _ _ _ (fun r => r = .tup [bv (dV p L k), _]) at hwr
  repeat' (first|(apply aL;first|((with_reducible apply aJ (k := 50));(case ha => rfl);(case h => exact hch);(case hp => (rfl));(case hN => rfl))|((with_reducible apply aJ (k := 49));(case ha => rfl);(case h => exact hwr);(case hp => (exact Pur.pf));(case hN => rfl))|(apply aE;rfl;rfl)|(apply aR;rfl;rfl;(exact (rfl:_=[_, _]));rfl;rfl;rfl)|(first|(apply bN;rfl;rfl;omega;rfl)|(apply aU;rfl;rfl;rfl;rfl))|(apply aC;rfl;rfl)|(apply aF;kernel_rfl)|(apply aZ;rfl;rfl;rfl))|(apply aM;first|apply aH|apply aB|(apply bZ;kernel_rfl)|(apply aQ;rfl;all_goals intro hc;have hq:=hc;(try simp only [cC] at hq);try exfalso;omega)|apply aN|apply aV|apply bS|apply aO)|with_reducible apply aA|with_reducible apply bU|with_reducible apply aX|with_reducible apply bT)
  ·(apply dG (k + 1, c + 1); focus (refine Le.ren [(0, 0)] rfl (by decide) ?_ ?_ <;> repeat' (first | exact trivial | refine And.intro ⟨_, rfl, ?_⟩ ?_ | refine And.intro ⟨_, _, rfl, rfl, ?_⟩ ?_ | exact Or.inr rfl | refine Or.inl ⟨?_, (by first | rfl | exact Pur.pf)⟩ | rfl)))
   ·exact ⟨by dsimp only;omega, (hch1 (by assumption)).symm⟩
   ·dsimp only;omega
  ·(apply dG (k + 1, c); focus (refine Le.ren [(0, 0)] rfl (by decide) ?_ ?_ <;> repeat' (first | exact trivial | refine And.intro ⟨_, rfl, ?_⟩ ?_ | refine And.intro ⟨_, _, rfl, rfl, ?_⟩ ?_ | exact Or.inr rfl | refine Or.inl ⟨?_, (by first | rfl | exact Pur.pf)⟩ | rfl)))
   ·refine ⟨by dsimp only; omega, (hcs1 ?_).symm⟩
    assumption
   ·dsimp only;omega
  ·obtain rfl : k = T := by omega
   obtain rfl : c = sA p L k := by assumption
   exact aK (l := [iv _, iv _]) rfl ⟨rfl, rfl⟩
 ·have h2 : iE p l = false := by simpa using h
  rw [h2] at hr
  rw [if_neg h]
  (refine aS Tryz.func18 rfl (by simp [Tryz.ntmps18]) ?_; rw [Tryz.ntmps18])
  repeat' (first|(apply aL;first|((with_reducible apply aJ (k := 47));(case ha => rfl);(case h => exact hr);(case hp => (exact Pur.pf));(case hN => rfl))|(apply aE;rfl;rfl)|(apply aR;rfl;rfl;(exact (rfl:_=[_, _]));rfl;rfl;rfl)|(apply aC;rfl;rfl)|(apply aF;kernel_rfl)|(apply bW;rfl;rfl)|(apply bA;rfl;rfl;rfl;rfl))|(apply aM;first|apply aH|apply aB|(apply bR;rfl;(rfl))|apply aO)|with_reducible apply aA|with_reducible apply a8)
  exact aK (l := [iv 0, iv 0]) rfl ⟨rfl, rfl⟩
theorem jM (l : Int) : PC Tryz.prog 92 [iv l] (fun r => r = bv (decide (0 ≤ l) && decide (l ≤ 6))) := by
 have hw := dL l 0 6
 (refine aS Tryz.func92 rfl (by simp [Tryz.ntmps92]) ?_; rw [Tryz.ntmps92])
 repeat' (first|(apply aL;first|((with_reducible apply aJ (k := 84));(case ha => rfl);(case h => exact hw);(case hp => (rfl));(case hN => rfl))|(apply aE;rfl;rfl)|(apply aC;rfl;rfl)|(apply aF;kernel_rfl))|(apply aM;first|apply aH|apply aB|apply aO)|with_reducible apply aA)
 exact aK rfl ⟨rfl, rfl⟩
theorem iM (n l : Nat) (hl : l ≤ 60) (hn : n ≤ 1000000) : PC Tryz.prog 52 [iv (n : Int), iv (l : Int)] (fun r => r = sl cI (iN n l)) := by
 have : Sm n := ⟨by omega⟩
 (refine aS Tryz.func52 rfl (by simp [Tryz.ntmps52]) ?_; rw [Tryz.ntmps52])
 repeat' (first|(apply aL;first|(apply aE;rfl;rfl)|(apply aC;rfl;rfl)|(apply aF;kernel_rfl))|(apply aM;first|apply aH|apply aB|apply aN)|with_reducible apply aA)
 refine AW.le ?_ (Le.nilOwn (d := 5) 1 rfl (by decide))
 refine bL (σ := Nat × List Int × Nat) [0, 7] [(0, _), (7, _)] [] [] (fun k => [(8, iv (k.1 : Int)), (5, .own 0 0 k.2.2 1)]) (fun k => [(0, some (aI cI k.2.1))]) (fun k => k.1 ≤ l ∧ k.2.1 = iN n k.1 ∧ k.2.2 = k.1) (fun k => l - k.1) (0, [], 0) ⟨Nat.zero_le _, rfl, rfl⟩ rfl rfl (by repeat' (first|exact trivial|refine And.intro rfl ?_)) (by repeat' (first|exact trivial|refine And.intro (.inr rfl) ?_)) ?_
 rintro ⟨i, xs, m⟩ ⟨hi, hxs, hm⟩
 dsimp only at hi hxs hm ⊢
 have hxl : xs.length = m := by rw [hxs, jR, hm]
 repeat' (first|(apply aL;first|(apply aE;rfl;rfl)|(first|(apply yJ;rfl;rfl;infer_instance;infer_instance;rfl)|(apply x8;rfl;rfl;infer_instance;infer_instance;omega;rfl)|(apply bN;rfl;rfl;omega;rfl)|(apply aU;rfl;rfl;rfl;rfl))|(apply aC;rfl;rfl)|(apply bV;rfl;rfl;rfl;rfl;rfl;(rw [aT]; omega);(rfl);omega;omega;(exact fW (by (omega)));rfl;rfl)|(apply aF;kernel_rfl)|((apply bF (t := _));(case hze|hsm|hl => rfl);(case hfl => exact (rfl:_=some [_]));(case hM|hN => rfl)))|(apply aM;first|apply aH|apply aB|(apply aQ;rfl;all_goals intro hc;have hq:=hc;(try simp only [cC] at hq);try exfalso;omega)|apply aN|apply aV|apply bS|apply aO)|with_reducible apply aA|with_reducible apply bU|with_reducible apply aX|with_reducible apply bT)
 ·(apply dG (i + 1, _, m + 1); focus (refine Le.ren [(0, 2)] rfl (by decide) ?_ ?_ <;> repeat' (first | exact trivial | refine And.intro ⟨_, rfl, ?_⟩ ?_ | refine And.intro ⟨_, _, rfl, rfl, ?_⟩ ?_ | exact Or.inr rfl | refine Or.inl ⟨?_, (by first | rfl | exact bH _ _)⟩ | rfl)))
  ·refine ⟨by dsimp only; omega, ?_, by dsimp only; omega⟩
   have hz : n >>> (i : Int).toNat &&& 1 = n / 2 ^ i % 2 := by rw [Int.toNat_natCast, Nat.shiftRight_eq_div_pow]; exact Nat.and_one_is_mod _
   dsimp only;rw [tN, ← hxs, ← hz]
  ·dsimp only;omega
 ·refine b0 (Le.frzD (d := 4) (i := 0) rfl rfl) ?_
  refine aK rfl ⟨?_, (by (exact bH _ _))⟩
  have hie : i = l := by omega
  simp only [bX, sl]
  rw [← hxl, hxs, hie]
theorem xZ (bs : List UInt8) (hb : bs.length ≤ 1048576) : PC Tryz.prog 44 [sl cU bs] (fun r => ∃ (q : Prg) (n : Int), r = .tup [cW q, iv n] ∧ bO q.body ≤ 20000 ∧ q.types.length ≤ 1000 ∧ -1 ≤ n ∧ n ≤ 7) := by
 have hb2 : (bs.take 2000).length ≤ 2000 := by rw [List.length_take]; omega
 (refine aS Tryz.func44 rfl (by simp [Tryz.ntmps44]) ?_; rw [Tryz.ntmps44])
 repeat' (first|(apply aL;first|((with_reducible apply oG (k := 81));(case h => exact Fz (bs.take 2000) 0 hb2 (by decide));(case ha|hpv|hH|hM|hN => rfl);(rintro ⟨q, p1⟩ ⟨hq1, hq2, hq3⟩);(dsimp only at hq1 hq2 hq3))|((with_reducible apply oG (k := 80));(case h => exact BE (bs.take 2000) p1 q hb2 (by omega) (by omega) (by omega));(case ha => rfl);(case hpv => exact Pur.pf);(case hH|hM|hN => rfl);(rintro ⟨q2, p2⟩ ⟨hr1, hr2, hr3⟩);(dsimp only at hr1 hr2 hr3);(have hn9 := Bw (bs.take 2000) p2 [3, 2, 1, 4, 0, 7, -1] (-1) 7 (by decide) (by decide)))|(apply aE;rfl;rfl)|(apply aR;rfl;rfl;(exact (rfl:_=[_, _]));rfl;rfl;rfl)|(apply aC;rfl;rfl)|(first|(apply wO;rfl;(apply AK <;> (assumption));rfl;rfl)|(apply sI;rfl;rfl;rfl;rfl;infer_instance;rfl;(rfl);assumption;omega;(decide);(decide);rfl;rfl))|(apply aF;kernel_rfl)|(apply bD;rfl;rfl)|(apply bQ;rfl;rfl;rfl;(exact (rfl:_=some [_, _, _, _, _, _, _]));rfl;rfl)|(apply aW;rfl;rfl;rfl;rfl;rfl;(case hl => (simp;done));(exact (rfl:_=[_, _]))))|(apply aM;first|apply aH|apply aB|(apply bZ;kernel_rfl)|apply aO)|with_reducible apply aA)
 exact aK (l := [cW q2, iv (gG (bs.take 2000) p2 [3, 2, 1, 4, 0, 7, -1])]) rfl ⟨⟨q2, _, rfl, by omega, by omega, hn9.1, hn9.2⟩, Pur.pf⟩
theorem Ck (bs : List UInt8) (hb : bs.length ≤ 1048576) : PC Tryz.prog 16 [sl cU bs] (fun r => ∃ (q : Prg) (n : Int), r = .tup [cW q, iv n] ∧ bO q.body ≤ 20000 ∧ q.types.length ≤ 1000 ∧ -1 ≤ n ∧ n ≤ 7) := by
 (refine aS Tryz.func16 rfl (by simp [Tryz.ntmps16]) ?_; rw [Tryz.ntmps16])
 repeat' (first|(apply aL;first|((with_reducible apply fE (k := 44));(case ha => rfl);(case h => exact xZ bs hb);(case hp => (exact Pur.pf));(case hN => rfl);(rintro _ ⟨q, n, rfl, h1, h2, h3, h4⟩ _))|(apply aE;rfl;rfl)|(apply aC;rfl;rfl)|(apply aF;kernel_rfl)|(apply bD;rfl;rfl)|(apply aZ;rfl;rfl;rfl)|(apply aW;rfl;rfl;rfl;rfl;rfl;(case hl => (simp;done));(exact (rfl:_=[_, _]))))|(apply aM;first|apply aH|apply aB|apply aO)|with_reducible apply aA)
 exact aK (l := [cW q, iv n]) rfl ⟨⟨q, n, rfl, h1, h2, h3, h4⟩, Pur.pf⟩
theorem Fp (a b c : Int) (h0 : 0 ≤ c) (h1 : c ≤ 100) : MC Tryz.prog 46 [iv a, iv b, .optr 0 0] [(0, some [iv c])] 1 (fun _ : Unit => True) (fun _ => .tup []) (fun _ => [(0, some [iv (c + 1)])]) := by
 (refine bK Tryz.func46 rfl (by simp [Tryz.ntmps46]) ?_; rw [Tryz.ntmps46])
 repeat' (first|(apply aL;first|(apply aP;rfl;rfl;rfl;rfl)|(apply bN;rfl;rfl;omega;rfl)|(apply aF;kernel_rfl)|(apply aW;rfl;rfl;rfl;rfl;rfl;(case hl => (simp;done));(exact (rfl:_=[_]))))|(apply aM;(apply aB)))
 refine sP (l := []) rfl ?_
 exact bG () trivial rfl ⟨.inr rfl, trivial⟩
theorem BK (p : Prg) (l : Int) (hl : p.types.length ≤ 1000000) (hs : bO p.body ≤ 1000000) : MC Tryz.prog 45 [cW p, iv l, .clos (.func 46) [] [.optr 0 0]] [(0, some [iv 0])] 1 (fun _ : Unit => True) (fun _ => bv (iE p l)) (fun _ => [(0, some [iv (if iE p l = true then (sA p l.toNat (2 ^ l.toNat) : Int) else 0)])]) := by
 have hv0 := iY p hl (by omega)
 have hil := jM l
 by_cases h : iE p l = true
 ·obtain ⟨hv, h0, h1⟩ := gR.1 h
  rw [hv] at hv0
  rw [h, if_pos rfl]
  obtain ⟨L, rfl⟩ := Int.eq_ofNat_of_zero_le h0
  rw [show (decide (0 ≤ (L : Int)) && decide ((L : Int) ≤ 6)) = true by rw [decide_eq_true h0, decide_eq_true h1]; rfl] at hil
  have hp : 2 ^ L ≤ 2 ^ 6 := Nat.pow_le_pow_right (by decide) (by omega)
  rw [Int.toNat_natCast]
  (refine bK Tryz.func45 rfl (by simp [Tryz.ntmps45]) ?_; rw [Tryz.ntmps45])
  repeat' (first|(apply aL;first|((with_reducible apply aJ (k := 25));(case ha => rfl);(case h => exact hv0);(case hp => (exact Pur.pf));(case hN => rfl))|((with_reducible apply aJ (k := 92));(case ha => rfl);(case h => exact hil);(case hp => (rfl));(case hN => rfl))|(apply aE;rfl;rfl)|(apply aR;rfl;rfl;(exact (rfl:_=[_, _]));rfl;rfl;rfl)|(apply aY;rfl;rfl;rfl;(rfl))|(apply lW;rfl;rfl;infer_instance;omega;rfl;(case' kk => intro hsm))|(apply aC;rfl;rfl)|(apply bC;rfl;(rfl);rfl;rfl)|(apply aF;kernel_rfl)|(apply bW;rfl;rfl)|(apply bA;rfl;rfl;rfl;rfl))|(apply aM;first|apply aH|apply aB|(apply b9;rfl;(rfl))|apply aN|apply aV)|with_reducible apply aA)
  rw [Int.toNat_natCast]
  generalize hT : 2 ^ L = T at *
  refine bL (σ := Nat × Nat) [1, 2, 3, 19] [(1, _), (2, _), (3, _), (19, _)] [] [] (fun s => [(20, iv (s.1 : Int))]) (fun s => [(0, some [iv (s.2 : Int)]), (1, some [sl cI p.types, sl bB p.body])]) (fun s => s.1 ≤ T ∧ s.2 = sA p L s.1) (fun s => T - s.1) (0, 0) ⟨Nat.zero_le _, rfl⟩ rfl rfl (by repeat' (first|exact trivial|refine And.intro rfl ?_)) (by repeat' (first|exact trivial|refine And.intro (.inr rfl) ?_)) ?_
  rintro ⟨k, c⟩ ⟨hk, hc⟩
  dsimp only at hk hc ⊢
  have hcb := xM (p := p) (l := L) (k := k)
  have hch1 := zI (p := p) (l := L) (k := k)
  have hcs1 := uS (p := p) (l := L) (k := k)
  rw [← hc] at hcb hch1 hcs1
  have hch := iM k L (by omega) (by omega)
  have hru := wR p (iN k L) 80 hl hs (by rw [jR]; omega)
  have hbd : dV p L k = (decide (tE p (iN k L) 80 ≠ 0) && decide (tE p (iN k L) 80 ≠ 1)) := rfl
  generalize tE p (iN k L) 80 = e at hru hbd
  generalize pP p (iN k L) 80 = a at hru
  repeat' (first|(apply aL;first|((with_reducible apply aJ (k := 52));(case ha => rfl);(case h => exact hch);(case hp => (rfl));(case hN => rfl))|((with_reducible apply aJ (k := 13));(case ha => rfl);(case h => exact hru);(case hp => (exact Pur.pf));(case hN => rfl))|(apply aE;rfl;rfl)|(apply aR;rfl;rfl;(exact (rfl:_=[_, _]));rfl;rfl;rfl)|(first|(apply aY;rfl;rfl;rfl;(assumption))|(apply a7;rfl;rfl;rfl;(assumption))|(apply bE;(case hj|hb|hN => rfl);all_goals (intro hg;have hq := hg;(try simp only [cC] at hq);(try (exfalso;omega)))))|(first|(apply bN;rfl;rfl;omega;rfl)|(apply aU;rfl;rfl;rfl;rfl))|(apply aC;rfl;rfl)|(first|(apply bJ;rfl;(assumption);rfl;rfl)|(apply bC;rfl;(assumption);rfl;rfl))|(apply aF;kernel_rfl)|(apply aZ;rfl;rfl;rfl))|(apply aM;first|apply aH|apply aB|(apply bZ;kernel_rfl)|(apply b9;rfl;(rfl))|(apply aQ;rfl;all_goals intro hc;have hq:=hc;(try simp only [cC] at hq);try exfalso;omega)|apply aN|apply aV|apply bS|apply aO)|with_reducible apply aA|with_reducible apply bU|with_reducible apply aX|with_reducible apply bT)
  ·have hbt : dV p L k = true := by rw [hbd]; simp_all
   refine mT (k := 46) (avs := [iv (k : Int), iv a]) (avs0 := [iv (k : Int), iv a, .optr 0 0]) (rr' := .tup []) [0] 1 [(0, some [iv ((c : Int) + 1)])] (Fp (k : Int) a (c : Int) (by omega) (by omega)) rfl rfl rfl rfl ⟨⟨_, _, rfl, rfl, RnL.purI inferInstance⟩, trivial⟩ rfl (RnL.cons (RnV.purI inferInstance) (RnL.cons (RnV.purI inferInstance) (RnL.cons (RnV.optr rfl) .nil))) rfl (RnV.purI inferInstance) rfl ⟨⟨0, _, rfl, rfl, RnL.purI inferInstance⟩, trivial⟩ rfl ?_
   repeat' (first|(apply aL;first|(apply aE;rfl;rfl)|(apply bN;rfl;rfl;omega;rfl)|(apply aF;kernel_rfl))|(apply aM;(apply aB))|with_reducible apply aA|with_reducible apply aX)
   (apply dG (k + 1, c + 1);focus (refine Le.of (iQ ?_) (gJ ?_) (Nat.le_refl 2) rfl <;> repeat' (first|exact trivial|refine And.intro rfl ?_|refine And.intro (.inr rfl) ?_)))
   ·exact ⟨by dsimp only;omega, (hch1 hbt).symm⟩
   ·dsimp only;omega
  ·have hbf : dV p L k = false := by rw [hbd]; simp_all
   (apply dG (k + 1, c);focus (refine Le.of (iQ ?_) (gJ ?_) (Nat.le_refl 2) rfl <;> repeat' (first|exact trivial|refine And.intro rfl ?_|refine And.intro (.inr rfl) ?_)))
   ·exact ⟨by dsimp only;omega, (hcs1 hbf).symm⟩
   ·dsimp only;omega
  ·have hbf : dV p L k = false := by rw [hbd]; simp_all
   (apply dG (k + 1, c);focus (refine Le.of (iQ ?_) (gJ ?_) (Nat.le_refl 2) rfl <;> repeat' (first|exact trivial|refine And.intro rfl ?_|refine And.intro (.inr rfl) ?_)))
   ·exact ⟨by dsimp only;omega, (hcs1 hbf).symm⟩
   ·dsimp only;omega
  all_goals
   obtain rfl : k = T := by omega
   obtain rfl : c = sA p L k := by assumption
   refine aK rfl ?_
   exact bG () trivial rfl ⟨.inr rfl, trivial⟩
 ·have h2 : iE p l = false := by simpa using h
  rw [h2, if_neg (by decide)]
  by_cases hv : c8 p = true
  ·have hil2 : (decide (0 ≤ l) && decide (l ≤ 6)) = false := by unfold iE at h2; rw [hv] at h2; simpa using h2
   rw [hv] at hv0
   rw [hil2] at hil
   (refine bK Tryz.func45 rfl (by simp [Tryz.ntmps45]) ?_; rw [Tryz.ntmps45])
   repeat' (first|(apply aL;first|((with_reducible apply aJ (k := 25));(case ha => rfl);(case h => exact hv0);(case hp => (exact Pur.pf));(case hN => rfl))|((with_reducible apply aJ (k := 92));(case ha => rfl);(case h => exact hil);(case hp => (rfl));(case hN => rfl))|(apply aE;rfl;rfl)|(apply aR;rfl;rfl;(exact (rfl:_=[_, _]));rfl;rfl;rfl)|(apply aY;rfl;rfl;rfl;(rfl))|(apply aC;rfl;rfl)|(apply bC;rfl;(rfl);rfl;rfl)|(apply aF;kernel_rfl)|(apply bW;rfl;rfl)|(apply bA;rfl;rfl;rfl;rfl))|(apply aM;first|apply aH|apply aB|(apply bR;rfl;(rfl))|apply aO)|with_reducible apply aA|with_reducible apply a8)
   refine aK rfl ?_
   exact bG () trivial rfl ⟨.inr rfl, trivial⟩
  ·have hv2 : c8 p = false := by simpa using hv
   rw [hv2] at hv0
   (refine bK Tryz.func45 rfl (by simp [Tryz.ntmps45]) ?_; rw [Tryz.ntmps45])
   repeat' (first|(apply aL;first|((with_reducible apply aJ (k := 25));(case ha => rfl);(case h => exact hv0);(case hp => (exact Pur.pf));(case hN => rfl))|(apply aE;rfl;rfl)|(apply aR;rfl;rfl;(exact (rfl:_=[_, _]));rfl;rfl;rfl)|(apply a7;rfl;rfl;rfl;(rfl))|(apply aC;rfl;rfl)|(apply bJ;rfl;(rfl);rfl;rfl)|(apply aF;kernel_rfl)|(apply bW;rfl;rfl)|(apply bA;rfl;rfl;rfl;rfl))|(apply aM;first|apply aH|apply aB|(apply bR;rfl;(rfl))|apply aO)|with_reducible apply aA|with_reducible apply a8)
   refine aK rfl ?_
   exact bG () trivial rfl ⟨.inr rfl, trivial⟩
theorem p9 (p : Prg) (l : Int) (hl : p.types.length ≤ 1000000) (hs : bO p.body ≤ 1000000) : PC Tryz.prog 17 [cW p, iv l] (fun r => r = .tup (if iE p l = true then [iv (sA p l.toNat (2 ^ l.toNat)), iv ((2 ^ l.toNat : Nat) : Int)] else [iv 0, iv 0])) := by
 have hw := BK p l hl hs
 have harg : RnL (([1] : List Nat)[·]?) [cW p, iv l, .clos (.func 46) [] [.optr 0 0]] [cW p, iv l, .clos (.func 46) [] [.optr 1 0]] := RnL.cons (RnV.purI inferInstance) (RnL.cons (RnV.purI inferInstance) (RnL.cons (RnV.clos .nil (RnL.cons (RnV.optr rfl) .nil)) .nil))
 by_cases h : iE p l = true
 ·obtain ⟨hv, h0, h1⟩ := gR.1 h
  rw [h, if_pos rfl] at hw
  rw [h, if_pos rfl]
  obtain ⟨L, rfl⟩ := Int.eq_ofNat_of_zero_le h0
  have hp : 2 ^ L ≤ 2 ^ 6 := Nat.pow_le_pow_right (by decide) (by omega)
  rw [Int.toNat_natCast] at *
  (refine aS Tryz.func17 rfl (by simp [Tryz.ntmps17]) ?_; rw [Tryz.ntmps17])
  repeat' (first|(apply aL;first|(apply aE;rfl;rfl)|(apply aR;rfl;rfl;(exact (rfl:_=[_, _]));rfl;rfl;rfl)|(apply aC;rfl;rfl)|(apply aF;kernel_rfl)|(apply eR;rfl;rfl;rfl)|(apply bA;rfl;rfl;rfl;rfl)|(apply bD;rfl;rfl)|(apply aW;rfl;rfl;rfl;rfl;rfl;(decide);(exact (rfl:_=[_]))))|(apply aM;first|apply aH|apply aB)|with_reducible apply aA)
  refine bP (k := 45) (avs := [cW p, iv (L : Int), .clos (.func 46) [] [.optr 1 0]]) (rr' := bv true) [1] 1 [(1, some [iv (sA p L (2 ^ L) : Int)])] hw rfl rfl ⟨⟨_, _, rfl, rfl, RnL.purI inferInstance⟩, trivial⟩ rfl harg rfl (RnV.purI inferInstance) rfl ⟨⟨0, _, rfl, rfl, RnL.purI inferInstance⟩, trivial⟩ rfl ?_
  repeat' (first|(apply aL;first|(apply aE;rfl;rfl)|(apply aP;rfl;rfl;rfl;rfl)|(apply lW;rfl;rfl;infer_instance;omega;rfl;(case' kk => intro hsm))|(apply aC;rfl;rfl)|(apply aF;kernel_rfl)|(apply bW;rfl;rfl))|(apply aM;first|apply aH|(apply bZ;kernel_rfl)|(apply b9;rfl;(rfl))|apply aV|apply aO)|with_reducible apply aA)
  exact aK (l := [iv _, iv _]) rfl ⟨rfl, rfl⟩
 ·have h2 : iE p l = false := by simpa using h
  rw [h2, if_neg (by decide)] at hw
  rw [if_neg h]
  (refine aS Tryz.func17 rfl (by simp [Tryz.ntmps17]) ?_; rw [Tryz.ntmps17])
  repeat' (first|(apply aL;first|(apply aE;rfl;rfl)|(apply aR;rfl;rfl;(exact (rfl:_=[_, _]));rfl;rfl;rfl)|(apply aC;rfl;rfl)|(apply aF;kernel_rfl)|(apply eR;rfl;rfl;rfl)|(apply bA;rfl;rfl;rfl;rfl)|(apply bD;rfl;rfl)|(apply aW;rfl;rfl;rfl;rfl;rfl;(decide);(exact (rfl:_=[_]))))|(apply aM;first|apply aH|apply aB)|with_reducible apply aA)
  refine bP (k := 45) (avs := [cW p, iv l, .clos (.func 46) [] [.optr 1 0]]) (rr' := bv false) [1] 1 [(1, some [iv 0])] hw rfl rfl ⟨⟨_, _, rfl, rfl, RnL.purI inferInstance⟩, trivial⟩ rfl harg rfl (RnV.purI inferInstance) rfl ⟨⟨0, _, rfl, rfl, RnL.purI inferInstance⟩, trivial⟩ rfl ?_
  repeat' (first|(apply aL;first|(apply aC;rfl;rfl)|(apply aF;kernel_rfl)|(apply bW;rfl;rfl))|(apply aM;first|apply aH|apply aB|(apply bR;rfl;(rfl))|apply aO)|with_reducible apply aA|with_reducible apply a8)
  exact aK (l := [iv 0, iv 0]) rfl ⟨rfl, rfl⟩
def qE (p : Prg) (l : Int) : Int := if iE p l = true then (sA p l.toNat (2 ^ l.toNat) : Int) else 0
def tD (p : Prg) (l : Int) : Int := if iE p l = true then ((2 ^ l.toNat : Nat) : Int) else 0
theorem CJ (p : Prg) (l : Int) (hl : p.types.length ≤ 1000000) (hs : bO p.body ≤ 1000000) : PC Tryz.prog 17 [cW p, iv l] (fun r => r = .tup [iv (qE p l), iv (tD p l)]) := by
 have h := p9 p l hl hs
 unfold qE tD
 split
 ·rename_i h2;rw [if_pos h2] at h;exact h
 ·rename_i h2;rw [if_neg h2] at h;exact h
theorem F5 (p : Prg) (l : Int) (hl : p.types.length ≤ 1000000) (hs : bO p.body ≤ 1000000) : PC Tryz.prog 18 [cW p, iv l] (fun r => r = .tup [iv (qE p l), iv (tD p l)]) := by
 have h := pZ p l hl hs
 unfold qE tD
 split
 ·rename_i h2;rw [if_pos h2] at h;exact h
 ·rename_i h2;rw [if_neg h2] at h;exact h
theorem sZ (p : Prg) (l : Int) : 0 ≤ tD p l ∧ tD p l ≤ 64 := by
 unfold tD
 split
 ·rename_i h
  obtain ⟨_, h0, h1⟩ := gR.1 h
  have hp : 2 ^ l.toNat ≤ 2 ^ 6 := Nat.pow_le_pow_right (by decide) (by omega)
  have h64 : (2 ^ 6 : Nat) = 64 := rfl
  rw [h64] at hp
  exact ⟨Int.natCast_nonneg _, by exact_mod_cast hp⟩
 ·omega
theorem A9 (bs : List UInt8) (hb : bs.length ≤ 1048576) : PC Tryz.prog 22 [sl cU bs] (fun r => ∃ (q : Prg) (n : Int), r = .tup [cW q, iv n] ∧ bO q.body ≤ 20000 ∧ q.types.length ≤ 1000 ∧ -1 ≤ n ∧ n ≤ 7) := by
 (refine aS Tryz.func22 rfl (by simp [Tryz.ntmps22]) ?_; rw [Tryz.ntmps22])
 repeat' (first|(apply aL;first|((with_reducible apply fE (k := 44));(case ha => rfl);(case h => exact xZ bs hb);(case hp => (exact Pur.pf));(case hN => rfl);(rintro _ ⟨q, n, rfl, h1, h2, h3, h4⟩ _))|(apply aE;rfl;rfl)|(apply aC;rfl;rfl)|(apply aF;kernel_rfl)|(apply bD;rfl;rfl)|(apply aZ;rfl;rfl;rfl)|(apply aW;rfl;rfl;rfl;rfl;rfl;(case hl => (simp;done));(exact (rfl:_=[_, _]))))|(apply aM;first|apply aH|apply aB|apply aO)|with_reducible apply aA)
 exact aK (l := [cW q, iv n]) rfl ⟨⟨q, n, rfl, h1, h2, h3, h4⟩, Pur.pf⟩
def mE (p : Prg) (l : Int) : Option Nat := if iE p l = true then (List.range (2 ^ l.toNat)).find? (dV p l.toNat) else none
def EM (p : Prg) (l : Int) : List Int := match mE p l with | some n => iN n l.toNat | none => []
theorem Ea {P : Nat → Bool} {k T : Nat} (hk : k < T) (h : P k = true) (hb : ∀ j, j < k → P j = false) : (List.range T).find? P = some k := by
 rw [List.find?_range_eq_some]
 exact ⟨h, List.mem_range.2 hk, fun j hj => by rw [hb j hj]; rfl⟩
theorem DX {P : Nat → Bool} {T : Nat} (hb : ∀ j, j < T → P j = false) : (List.range T).find? P = none := by
 rw [List.find?_eq_none]; intro x hx;rw [hb x (List.mem_range.1 hx)]; decide
theorem pV (p : Prg) (l : Int) (hl : p.types.length ≤ 1000000) (hs : bO p.body ≤ 1000000) : PC Tryz.prog 27 [cW p, iv l] (fun r => r = .tup [sl cI (EM p l), bv (mE p l).isSome]) := by
 have hr := mD p l hl hs
 by_cases h : iE p l = true
 ·obtain ⟨hv, h0, h1⟩ := gR.1 h
  rw [h] at hr
  obtain ⟨L, rfl⟩ := Int.eq_ofNat_of_zero_le h0
  have e : mE p (L : Int) = (List.range (2 ^ L)).find? (dV p L) := by unfold mE;rw [if_pos h, Int.toNat_natCast]
  have e2 : EM p (L : Int) = match (List.range (2 ^ L)).find? (dV p L) with|some n => iN n L|none => [] := by unfold EM;rw [e, Int.toNat_natCast]
  rw [e, e2]
  have hru := uH L (by omega)
  have hp : 2 ^ L ≤ 2 ^ 6 := Nat.pow_le_pow_right (by decide) (by omega)
  generalize hT : 2 ^ L = T at *
  (refine aS Tryz.func27 rfl (by simp [Tryz.ntmps27]) ?_; rw [Tryz.ntmps27])
  repeat' (first|(apply aL;first|((with_reducible apply aJ (k := 47));(case ha => rfl);(case h => exact hr);(case hp => (exact Pur.pf));(case hN => rfl))|(apply aE;rfl;rfl)|(apply aR;rfl;rfl;(exact (rfl:_=[_, _]));rfl;rfl;rfl)|(apply aC;rfl;rfl)|(apply aF;kernel_rfl)|(apply bW;rfl;rfl)|(apply bA;rfl;rfl;rfl;rfl))|(apply aM;first|apply aH|apply aB|(apply b9;rfl;(rfl))|apply aN|apply aV)|with_reducible apply aA)
  refine bL (σ := Nat) [1, 2] [(1, _), (2, _)] [0] [(0, some _)] (fun k => [(6, iv (k : Int))]) (fun k => []) (fun k => k ≤ T ∧ ∀ j, j < k → dV p L j = false) (fun k => T - k) (0) ⟨Nat.zero_le _, fun j hj => by omega⟩ rfl rfl (by repeat' (first|exact trivial|refine And.intro rfl ?_)) (by repeat' (exact trivial)) ?_
  rintro k ⟨hk, hb⟩
  have hch := m7 k L (by omega) (by omega)
  have hwr := qG p (iN k L) hl hs (by rw [jR]; omega)
  change PC _ _ _ (fun r => r = .tup [bv (dV p L k), _]) at hwr
  repeat' (first|(apply aL;first|((with_reducible apply aJ (k := 50));(case ha => rfl);(case h => exact hch);(case hp => (rfl));(case hN => rfl))|((with_reducible apply aJ (k := 49));(case ha => rfl);(case h => exact hwr);(case hp => (exact Pur.pf));(case hN => rfl))|((with_reducible apply aJ (k := 48));(case ha => rfl);(case h => exact hru);(case hp => (rfl));(case hN => rfl))|(apply aE;rfl;rfl)|(apply aR;rfl;rfl;(exact (rfl:_=[_, _]));rfl;rfl;rfl)|(first|(apply bN;rfl;rfl;omega;rfl)|(apply aU;rfl;rfl;rfl;rfl))|(apply aC;rfl;rfl)|(apply aF;kernel_rfl)|(apply aZ;rfl;rfl;rfl)|((apply bF (t := _));(case hze|hsm|hl => rfl);(case hfl => (rfl));(case hM|hN => rfl)))|(apply aM;first|apply aH|apply aB|(apply bZ;kernel_rfl)|(apply aQ;rfl;all_goals intro hc;have hq:=hc;(try simp only [cC] at hq);try exfalso;omega)|apply aN|apply aV|apply bS|apply aO)|with_reducible apply aA|with_reducible apply a8|with_reducible apply bU|with_reducible apply aX|with_reducible apply cA|with_reducible apply bT)
  ·rw [Ea (by omega) (by assumption) hb]
   exact aK (l := [sl cI (iN k L), bv true]) rfl ⟨rfl, Pur.pf⟩
  ·(apply dG (k + 1); focus (refine Le.ren [(0, 0)] rfl (by decide) ?_ ?_ <;> repeat' (first | exact trivial | refine And.intro ⟨_, rfl, ?_⟩ ?_ | refine And.intro ⟨_, _, rfl, rfl, ?_⟩ ?_ | exact Or.inr rfl | refine Or.inl ⟨?_, (by first | rfl | exact Pur.pf)⟩ | rfl)))
   ·refine ⟨by omega, fun j hj => ?_⟩
    by_cases q : j = k
    ·subst q;assumption
    ·exact hb j (by omega)
   ·omega
  ·obtain rfl : k = T := by omega
   rw [DX hb]
   exact aK (l := [.imm 0 [], bv false]) rfl ⟨rfl, rfl⟩
 ·have h2 : iE p l = false := by simpa using h
  rw [h2] at hr
  have e : mE p l = none := by unfold mE;rw [if_neg h]
  have e2 : EM p l = [] := by unfold EM;rw [e]
  rw [e, e2]
  (refine aS Tryz.func27 rfl (by simp [Tryz.ntmps27]) ?_; rw [Tryz.ntmps27])
  repeat' (first|(apply aL;first|((with_reducible apply aJ (k := 47));(case ha => rfl);(case h => exact hr);(case hp => (exact Pur.pf));(case hN => rfl))|(apply aE;rfl;rfl)|(apply aR;rfl;rfl;(exact (rfl:_=[_, _]));rfl;rfl;rfl)|(apply aC;rfl;rfl)|(apply aF;kernel_rfl)|(apply bW;rfl;rfl)|(apply bA;rfl;rfl;rfl;rfl)|((apply bF (t := _));(case hze|hsm|hl => rfl);(case hfl => (rfl));(case hM|hN => rfl)))|(apply aM;first|apply aH|apply aB|(apply bR;rfl;(rfl))|apply aO)|with_reducible apply aA|with_reducible apply a8)
  exact aK (l := [.imm 0 [], bv false]) rfl ⟨rfl, rfl⟩
theorem DD (p : Prg) (l : Int) (hl : p.types.length ≤ 1000000) (hs : bO p.body ≤ 1000000) : PC Tryz.prog 23 [cW p, iv l] (fun r => r = bv (iE p l && (mE p l).isNone)) := by
 have h1 := pV p l hl hs
 have h2 := mD p l hl hs
 have e : (mE p l).isNone = !(mE p l).isSome := by cases mE p l <;> rfl
 rw [e]
 generalize (mE p l).isSome = b at *
 (refine aS Tryz.func23 rfl (by simp [Tryz.ntmps23]) ?_; rw [Tryz.ntmps23])
 repeat' (first|(apply aL;first|((with_reducible apply aJ (k := 27));(case ha => rfl);(case h => exact h1);(case hp => (exact Pur.pf));(case hN => rfl))|((with_reducible apply aJ (k := 47));(case ha => rfl);(case h => exact h2);(case hp => (exact Pur.pf));(case hN => rfl))|(apply aE;rfl;rfl)|(apply aR;rfl;rfl;(exact (rfl:_=[_, _]));rfl;rfl;rfl)|(first|(apply aY;rfl;rfl;rfl;(assumption))|(apply a7;rfl;rfl;rfl;(assumption))|(apply bE;(case hj|hb|hN => rfl);all_goals (intro hg;have hq := hg;(try simp only [cC] at hq);(try (exfalso;omega)))))|(apply aC;rfl;rfl)|(first|(apply bJ;rfl;(assumption);rfl;rfl)|(apply bC;rfl;(assumption);rfl;rfl))|(apply aF;kernel_rfl)|(apply bW;rfl;rfl)|(apply bA;rfl;rfl;rfl;rfl)|(apply aZ;rfl;rfl;rfl))|(apply aM;first|apply aH|apply aB|apply aO)|with_reducible apply aA)
 all_goals (refine aK rfl ⟨?_, rfl⟩; simp only [bX]; simp_all)
theorem sM (p : Prg) (l : Int) : (decide (0 < tD p l) && decide (qE p l = 0)) = (iE p l && (mE p l).isNone) := by
 unfold tD qE mE
 by_cases h : iE p l = true
 ·rw [if_pos h, if_pos h, if_pos h, h]
  have hp : 0 < 2 ^ l.toNat := Nat.pow_pos (by decide)
  rw [decide_eq_true (by omega : (0 : Int) < ((2 ^ l.toNat : Nat) : Int)), Bool.true_and, Bool.true_and, Bool.eq_iff_iff, decide_eq_true_eq, Option.isNone_iff_eq_none, List.find?_eq_none]
  unfold sA
  constructor
  ·intro q x hx hb
   have : (List.range (2 ^ l.toNat)).filter (dV p l.toNat) = [] := List.length_eq_zero_iff.1 (by omega)
   have hm : x ∈ (List.range (2 ^ l.toNat)).filter (dV p l.toNat) := List.mem_filter.2 ⟨hx, hb⟩
   rw [this] at hm;cases hm
  ·intro q
   have : (List.range (2 ^ l.toNat)).filter (dV p l.toNat) = [] := List.filter_eq_nil_iff.2 q
   rw [this]; rfl
 ·rw [if_neg h, if_neg h, if_neg h]
  have h2 : iE p l = false := by simpa using h
  rw [h2]; rfl
theorem yC (p : Prg) (l : Int) (hl : p.types.length ≤ 1000000) (hs : bO p.body ≤ 1000000) : PC Tryz.prog 20 [cW p, iv l] (fun r => r = bv (iE p l && (mE p l).isNone)) := by
 have h1 := CJ p l hl hs
 rw [← sM]
 have hb := sZ p l
 generalize tD p l = a at *
 generalize qE p l = c at *
 (refine aS Tryz.func20 rfl (by simp [Tryz.ntmps20]) ?_; rw [Tryz.ntmps20])
 repeat' (first|(apply aL;first|((with_reducible apply aJ (k := 17));(case ha => rfl);(case h => exact h1);(case hp => (exact Pur.pf));(case hN => rfl))|(apply aE;rfl;rfl)|(apply aR;rfl;rfl;(exact (rfl:_=[_, _]));rfl;rfl;rfl)|(first|(apply aY;rfl;rfl;rfl;(assumption))|(apply a7;rfl;rfl;rfl;(assumption))|(apply bE;(case hj|hb|hN => rfl);all_goals (intro hg;have hq := hg;(try simp only [cC] at hq);(try (exfalso;omega)))))|(apply aU;rfl;rfl;rfl;rfl)|(apply aC;rfl;rfl)|(first|(apply bJ;rfl;(assumption);rfl;rfl)|(apply bC;rfl;(assumption);rfl;rfl))|(apply aF;kernel_rfl)|(apply bA;rfl;rfl;rfl;rfl)|(apply aZ;rfl;rfl;rfl))|(apply aM;first|apply aH|apply aB|apply aO)|with_reducible apply aA)
 all_goals (refine aK rfl ⟨?_, rfl⟩; simp only [bX]; first|(simp_all;done)|(simp_all;omega))
def D0 (p : Prg) : List Pnt := if c8 p = true then cX p else []
theorem EJ {p : Prg} : (D0 p).length ≤ 61 := by
 unfold D0;split
 ·rename_i h;exact (WG.of_valid h).pl
 ·simp
def Gl (p : Prg) : Nat := (D0 p).countP fun x => decide (x.next.length = 2)
theorem FI (p : Prg) (k : Nat) (h : k < (D0 p).length) : (D0 p)[k]!.next.length ≤ 1000000 := by
 unfold D0 at h ⊢
 split at h
 ·rename_i hv
  rw [if_pos hv]
  have := (WG.of_valid hv).nl k h
  omega
 ·simp at h
theorem o9 (p : Prg) (hl : p.types.length ≤ 1000000) (hs : bO p.body ≤ 1000000) : PC Tryz.prog 24 [cW p] (fun r => r = iv (Gl p : Int)) := by
 have h4 := vM p hl hs
 change PC _ _ _ (fun r => r = sl dA (D0 p)) at h4
 have hP := EJ (p := p)
 have hd : Gl p = (D0 p).countP fun x => decide (x.next.length = 2) := rfl
 have hnx := FI p
 generalize D0 p = ps at *
 (refine aS Tryz.func24 rfl (by simp [Tryz.ntmps24]) ?_; rw [Tryz.ntmps24])
 repeat' (first|(apply aL;first|((with_reducible apply aJ (k := 56));(case ha => rfl);(case h => exact h4);(case hp => (exact Pur.pf));(case hN => rfl))|(apply aE;rfl;rfl)|(apply aR;rfl;rfl;(exact (rfl:_=[_, _]));rfl;rfl;rfl)|(apply aC;rfl;rfl)|(apply bM;rfl;rfl;rfl)|(apply aF;kernel_rfl)|(apply bA;rfl;rfl;rfl;rfl))|(apply aM;first|apply aH|apply aB|apply aN)|with_reducible apply aA)
 refine bL (σ := Nat × Nat) [7, 8] [(7, _), (8, _)] [0] [(0, some _)] (fun s => [(9, iv (s.1 : Int)), (3, iv (s.2 : Int))]) (fun s => []) (fun s => s.1 ≤ ps.length ∧ s.2 = (ps.take s.1).countP (fun x => decide (x.next.length = 2)) ∧ s.2 ≤ s.1) (fun s => ps.length - s.1) (0, 0) ⟨Nat.zero_le _, rfl, Nat.le_refl _⟩ rfl rfl (by repeat' (first|exact trivial|refine And.intro rfl ?_)) (by repeat' (exact trivial)) ?_
 rintro ⟨k, c⟩ ⟨hk, hc, hck⟩
 dsimp only at hk hc hck ⊢
 by_cases hkn : k < ps.length
 ·have hch := n0 ps[k]! (hnx k hkn)
  have hst : (ps.take (k + 1)).countP (fun x => decide (x.next.length = 2)) = c + (if ps[k]!.next.length = 2 then 1 else 0) := by
   rw [cQ ps k hkn, List.countP_append, ← hc, List.countP_singleton]
   simp only [decide_eq_true_eq]
  repeat' (first|(apply aL;first|((with_reducible apply aJ (k := 57));(case ha => rfl);(case h => exact hch);(case hp => (exact Pur.pf));(case hN => rfl))|(apply aE;rfl;rfl)|(apply aR;rfl;rfl;(exact (rfl:_=[_, _, _, _, _]));rfl;rfl;rfl)|(first|(apply bN;rfl;rfl;omega;rfl)|(apply aU;rfl;rfl;rfl;rfl))|(apply aC;rfl;rfl)|(apply bI;(case hx|hi => rfl);(case hm => (assumption));(case hml => (rfl));(case hα | hf|hg => infer_instance);(case hN => rfl))|(apply aF;kernel_rfl)|(apply bD;rfl;rfl)|(apply aW;rfl;rfl;rfl;rfl;rfl;(case hl => (simp;done));(exact (rfl:_=[_, _, _, _, _]))))|(apply aM;first|apply aH|apply aB|(apply aQ;rfl;all_goals intro hc;have hq:=hc;(try simp only [cC] at hq);try exfalso;omega)|apply aN|apply aV)|with_reducible apply aA|with_reducible apply aX)
  ·(apply dG (k + 1, c + 1); focus (refine Le.ren [(0, 0)] rfl (by decide) ?_ ?_ <;> repeat' (first | exact trivial | refine And.intro ⟨_, rfl, ?_⟩ ?_ | refine And.intro ⟨_, _, rfl, rfl, ?_⟩ ?_ | refine Or.inl ⟨?_, (by first | rfl | exact bH _ _ | exact Pur.pf)⟩ | rfl)))
   ·refine ⟨by dsimp only; omega, ?_, by dsimp only; omega⟩
    dsimp only;rw [hst, if_pos (by assumption)]
   ·dsimp only;omega
  ·(apply dG (k + 1, c); focus (refine Le.ren [(0, 0)] rfl (by decide) ?_ ?_ <;> repeat' (first | exact trivial | refine And.intro ⟨_, rfl, ?_⟩ ?_ | refine And.intro ⟨_, _, rfl, rfl, ?_⟩ ?_ | refine Or.inl ⟨?_, (by first | rfl | exact bH _ _ | exact Pur.pf)⟩ | rfl)))
   ·refine ⟨by dsimp only; omega, ?_, by dsimp only; omega⟩
    dsimp only;rw [hst, if_neg (by assumption)]; rfl
   ·dsimp only;omega
 ·have hce : c = Gl p := by rw [hd, hc, List.take_of_length_le (by omega)]
  repeat' (first|(apply aL;first|(apply aE;rfl;rfl)|(apply aU;rfl;rfl;rfl;rfl)|(apply aC;rfl;rfl)|(apply aF;kernel_rfl))|(apply aM;first|apply aH|apply aB|(apply aQ;rfl;all_goals intro hc;have hq:=hc;(try simp only [cC] at hq);try exfalso;omega)|apply bS|apply aO)|with_reducible apply aA|with_reducible apply bU|with_reducible apply bT)
  refine aK rfl ⟨?_, rfl⟩
  simp only [bX, hce]
def vZ (g : Int → Nat → Int → Int) (p : Prg) (L : Nat) (c0 : Int) : Nat → Int
 | 0 => c0
 | k + 1 => if dV p L k = true then g (vZ g p L c0 k) k (pP p (iN k L) 80) else vZ g p L c0 k
theorem sC {g : Int → Nat → Int → Int} {p : Prg} {L : Nat} {c0 : Int} {k : Nat} (h : dV p L k = true) : vZ g p L c0 (k + 1) = g (vZ g p L c0 k) k (pP p (iN k L) 80) := by rw [vZ, if_pos h]
theorem oQ {g : Int → Nat → Int → Int} {p : Prg} {L : Nat} {c0 : Int} {k : Nat} (h : dV p L k = false) : vZ g p L c0 (k + 1) = vZ g p L c0 k := by rw [vZ, if_neg (by rw [h]; decide)]
theorem A8 (fid : FuncId) [CaT Tryz.prog fid] (g : Int → Nat → Int → Int) (c0 : Int) (p : Prg) (l : Int) (hl : p.types.length ≤ 1000000) (hs : bO p.body ≤ 1000000)
  (htold : ∀ (L k : Nat) (a : Int), k < 2 ^ L → MC Tryz.prog fid [iv (k : Int), iv a, .optr 0 0] [(0, some [iv (vZ g p L c0 k)])] 1 (fun _ : Unit => True) (fun _ => .tup []) (fun _ => [(0, some [iv (g (vZ g p L c0 k) k a)])])) :
  MC Tryz.prog 45 [cW p, iv l, .clos (.func fid) [] [.optr 0 0]] [(0, some [iv c0])] 1 (fun _ : Unit => True) (fun _ => bv (iE p l)) (fun _ => [(0, some [iv (if iE p l = true then vZ g p l.toNat c0 (2 ^ l.toNat) else c0)])]) := by
 have hv0 := iY p hl (by omega)
 have hil := jM l
 by_cases h : iE p l = true
 ·obtain ⟨hv, h0, h1⟩ := gR.1 h
  rw [hv] at hv0
  rw [h, if_pos rfl]
  obtain ⟨L, rfl⟩ := Int.eq_ofNat_of_zero_le h0
  rw [show (decide (0 ≤ (L : Int)) && decide ((L : Int) ≤ 6)) = true by rw [decide_eq_true h0, decide_eq_true h1]; rfl] at hil
  have hp : 2 ^ L ≤ 2 ^ 6 := Nat.pow_le_pow_right (by decide) (by omega)
  rw [Int.toNat_natCast]
  (refine bK Tryz.func45 rfl (by simp [Tryz.ntmps45]) ?_; rw [Tryz.ntmps45])
  repeat' (first|(apply aL;first|((with_reducible apply aJ (k := 25));(case ha => rfl);(case h => exact hv0);(case hp => (exact Pur.pf));(case hN => rfl))|((with_reducible apply aJ (k := 92));(case ha => rfl);(case h => exact hil);(case hp => (rfl));(case hN => rfl))|(apply aE;rfl;rfl)|(apply aR;rfl;rfl;(exact (rfl:_=[_, _]));rfl;rfl;rfl)|(apply aY;rfl;rfl;rfl;(rfl))|(apply lW;rfl;rfl;infer_instance;omega;rfl;(case' kk => intro hsm))|(apply aC;rfl;rfl)|(apply bC;rfl;(rfl);rfl;rfl)|(apply aF;kernel_rfl)|(apply bW;rfl;rfl)|(apply bA;rfl;rfl;rfl;rfl))|(apply aM;first|apply aH|apply aB|(apply b9;rfl;(rfl))|apply aN|apply aV)|with_reducible apply aA)
  rw [Int.toNat_natCast]
  have htold' := htold L
  clear htold
  generalize hT : 2 ^ L = T at *
  refine bL (σ := Nat × Int) [1, 2, 3, 19] [(1, _), (2, _), (3, _), (19, _)] [] [] (fun s => [(20, iv (s.1 : Int))]) (fun s => [(0, some [iv s.2]), (1, some [sl cI p.types, sl bB p.body])]) (fun s => s.1 ≤ T ∧ s.2 = vZ g p L c0 s.1) (fun s => T - s.1) (0, c0) ⟨Nat.zero_le _, rfl⟩ rfl rfl (by repeat' (first|exact trivial|refine And.intro rfl ?_)) (by repeat' (first|exact trivial|refine And.intro (.inr rfl) ?_)) ?_
  rintro ⟨k, c⟩ ⟨hk, hc⟩
  dsimp only at hk hc ⊢
  have hch1 := sC (g := g) (p := p) (L := L) (c0 := c0) (k := k)
  have hcs1 := oQ (g := g) (p := p) (L := L) (c0 := c0) (k := k)
  have hto := htold' k (pP p (iN k L) 80)
  rw [← hc] at hch1 hcs1 hto
  have hch := iM k L (by omega) (by omega)
  have hru := wR p (iN k L) 80 hl hs (by rw [jR]; omega)
  have hbd : dV p L k = (decide (tE p (iN k L) 80 ≠ 0) && decide (tE p (iN k L) 80 ≠ 1)) := rfl
  generalize tE p (iN k L) 80 = e at hru hbd
  generalize pP p (iN k L) 80 = a at hru hch1 hto
  repeat' (first|(apply aL;first|((with_reducible apply aJ (k := 52));(case ha => rfl);(case h => exact hch);(case hp => (rfl));(case hN => rfl))|((with_reducible apply aJ (k := 13));(case ha => rfl);(case h => exact hru);(case hp => (exact Pur.pf));(case hN => rfl))|(apply aE;rfl;rfl)|(apply aR;rfl;rfl;(exact (rfl:_=[_, _]));rfl;rfl;rfl)|(first|(apply aY;rfl;rfl;rfl;(assumption))|(apply a7;rfl;rfl;rfl;(assumption))|(apply bE;(case hj|hb|hN => rfl);all_goals (intro hg;have hq := hg;(try simp only [cC] at hq);(try (exfalso;omega)))))|(first|(apply bN;rfl;rfl;omega;rfl)|(apply aU;rfl;rfl;rfl;rfl))|(apply aC;rfl;rfl)|(first|(apply bJ;rfl;(assumption);rfl;rfl)|(apply bC;rfl;(assumption);rfl;rfl))|(apply aF;kernel_rfl)|(apply aZ;rfl;rfl;rfl))|(apply aM;first|apply aH|apply aB|(apply bZ;kernel_rfl)|(apply b9;rfl;(rfl))|(apply aQ;rfl;all_goals intro hc;have hq:=hc;(try simp only [cC] at hq);try exfalso;omega)|apply aN|apply aV|apply bS|apply aO)|with_reducible apply aA|with_reducible apply bU|with_reducible apply aX|with_reducible apply bT)
  ·have hbt : dV p L k = true := by rw [hbd]; simp_all
   refine mT (k := fid) (avs := [iv (k : Int), iv a]) (avs0 := [iv (k : Int), iv a, .optr 0 0]) (rr' := .tup []) [0] 1 [(0, some [iv (g c k a)])] (hto (by omega)) rfl rfl rfl rfl ⟨⟨_, _, rfl, rfl, RnL.purI inferInstance⟩, trivial⟩ rfl (RnL.cons (RnV.purI inferInstance) (RnL.cons (RnV.purI inferInstance) (RnL.cons (RnV.optr rfl) .nil))) rfl (RnV.purI inferInstance) rfl ⟨⟨0, _, rfl, rfl, RnL.purI inferInstance⟩, trivial⟩ rfl ?_
   repeat' (first|(apply aL;first|(apply aE;rfl;rfl)|(apply bN;rfl;rfl;omega;rfl)|(apply aF;kernel_rfl))|(apply aM;(apply aB))|with_reducible apply aA|with_reducible apply aX)
   (apply dG (k + 1, g c k a);focus (refine Le.of (iQ ?_) (gJ ?_) (Nat.le_refl 2) rfl <;> repeat' (first|exact trivial|refine And.intro rfl ?_|refine And.intro (.inr rfl) ?_)))
   ·exact ⟨by dsimp only;omega, (hch1 hbt).symm⟩
   ·dsimp only;omega
  ·have hbf : dV p L k = false := by rw [hbd]; simp_all
   (apply dG (k + 1, c);focus (refine Le.of (iQ ?_) (gJ ?_) (Nat.le_refl 2) rfl <;> repeat' (first|exact trivial|refine And.intro rfl ?_|refine And.intro (.inr rfl) ?_)))
   ·exact ⟨by dsimp only;omega, (hcs1 hbf).symm⟩
   ·dsimp only;omega
  ·have hbf : dV p L k = false := by rw [hbd]; simp_all
   (apply dG (k + 1, c);focus (refine Le.of (iQ ?_) (gJ ?_) (Nat.le_refl 2) rfl <;> repeat' (first|exact trivial|refine And.intro rfl ?_|refine And.intro (.inr rfl) ?_)))
   ·exact ⟨by dsimp only;omega, (hcs1 hbf).symm⟩
   ·dsimp only;omega
  all_goals
   obtain rfl : k = T := by omega
   obtain rfl : c = vZ g p L c0 k := by assumption
   refine aK rfl ?_
   exact bG () trivial rfl ⟨.inr rfl, trivial⟩
 ·have h2 : iE p l = false := by simpa using h
  rw [h2, if_neg (by decide)]
  by_cases hv : c8 p = true
  ·have hil2 : (decide (0 ≤ l) && decide (l ≤ 6)) = false := by unfold iE at h2; rw [hv] at h2; simpa using h2
   rw [hv] at hv0
   rw [hil2] at hil
   (refine bK Tryz.func45 rfl (by simp [Tryz.ntmps45]) ?_; rw [Tryz.ntmps45])
   repeat' (first|(apply aL;first|((with_reducible apply aJ (k := 25));(case ha => rfl);(case h => exact hv0);(case hp => (exact Pur.pf));(case hN => rfl))|((with_reducible apply aJ (k := 92));(case ha => rfl);(case h => exact hil);(case hp => (rfl));(case hN => rfl))|(apply aE;rfl;rfl)|(apply aR;rfl;rfl;(exact (rfl:_=[_, _]));rfl;rfl;rfl)|(apply aY;rfl;rfl;rfl;(rfl))|(apply aC;rfl;rfl)|(apply bC;rfl;(rfl);rfl;rfl)|(apply aF;kernel_rfl)|(apply bW;rfl;rfl)|(apply bA;rfl;rfl;rfl;rfl))|(apply aM;first|apply aH|apply aB|(apply bR;rfl;(rfl))|apply aO)|with_reducible apply aA|with_reducible apply a8)
   refine aK rfl ?_
   exact bG () trivial rfl ⟨.inr rfl, trivial⟩
  ·have hv2 : c8 p = false := by simpa using hv
   rw [hv2] at hv0
   (refine bK Tryz.func45 rfl (by simp [Tryz.ntmps45]) ?_; rw [Tryz.ntmps45])
   repeat' (first|(apply aL;first|((with_reducible apply aJ (k := 25));(case ha => rfl);(case h => exact hv0);(case hp => (exact Pur.pf));(case hN => rfl))|(apply aE;rfl;rfl)|(apply aR;rfl;rfl;(exact (rfl:_=[_, _]));rfl;rfl;rfl)|(apply a7;rfl;rfl;rfl;(rfl))|(apply aC;rfl;rfl)|(apply bJ;rfl;(rfl);rfl;rfl)|(apply aF;kernel_rfl)|(apply bW;rfl;rfl)|(apply bA;rfl;rfl;rfl;rfl))|(apply aM;first|apply aH|apply aB|(apply bR;rfl;(rfl))|apply aO)|with_reducible apply aA|with_reducible apply a8)
   refine aK rfl ?_
   exact bG () trivial rfl ⟨.inr rfl, trivial⟩
def pT (c : Int) (k : Nat) (_ : Int) : Int := if c < 0 then (k : Int) else c
theorem DY (k : Nat) (b c : Int) : MC Tryz.prog 51 [iv (k : Int), iv b, .optr 0 0] [(0, some [iv c])] 1 (fun _ : Unit => True) (fun _ => .tup []) (fun _ => [(0, some [iv (pT c k b)])]) := by
 by_cases h : c < 0
 ·have e : pT c k b = (k : Int) := by unfold pT; rw [if_pos h]
  rw [e]
  (refine bK Tryz.func51 rfl (by simp [Tryz.ntmps51]) ?_; rw [Tryz.ntmps51])
  repeat' (first|(apply aL;first|(apply aE;rfl;rfl)|(apply aP;rfl;rfl;rfl;rfl)|(apply aU;rfl;rfl;rfl;rfl)|(apply aF;kernel_rfl)|(apply aW;rfl;rfl;rfl;rfl;rfl;(case hl => (simp;done));(exact (rfl:_=[_]))))|(apply aM;first|apply aH|apply aB|(apply aQ;rfl;all_goals intro hc;have hq:=hc;(try simp only [cC] at hq);try exfalso;omega))|with_reducible apply aA)
  all_goals try (exfalso;omega)
  refine sP (l := []) rfl ?_
  exact bG () trivial rfl ⟨.inr rfl, trivial⟩
 ·have e : pT c k b = c := by unfold pT; rw [if_neg h]
  rw [e]
  (refine bK Tryz.func51 rfl (by simp [Tryz.ntmps51]) ?_; rw [Tryz.ntmps51])
  repeat' (first|(apply aL;first|(apply aP;rfl;rfl;rfl;rfl)|(apply aU;rfl;rfl;rfl;rfl)|(apply aF;kernel_rfl))|(apply aM;first|apply aH|apply aB|(apply aQ;rfl;all_goals intro hc;have hq:=hc;(try simp only [cC] at hq);try exfalso;omega)|apply aV)|with_reducible apply aA)
  all_goals try (exfalso;omega)
  refine sP (l := []) rfl ?_
  exact bG () trivial rfl ⟨.inr rfl, trivial⟩
theorem zE (p : Prg) (L : Nat) : ∀ k, vZ pT p L (-1) k = match (List.range k).find? (dV p L) with | some n => (n : Int) | none => -1
 | 0 => rfl
 | k + 1 => by
  have ih := zE p L k
  rw [List.range_succ, List.find?_append]
  cases h : (List.range k).find? (dV p L) with
  | some n =>
   rw [h] at ih
   dsimp only at ih
   have : vZ pT p L (-1) (k + 1) = (n : Int) := by
    cases hb : dV p L k with
    | true => rw [sC hb, ih]; unfold pT;rw [if_neg (show ¬ ((n : Int) < 0) from Int.not_lt.2 (Int.natCast_nonneg n))]
    | false => rw [oQ hb, ih]
   rw [this]; rfl
  | none =>
   rw [h] at ih
   dsimp only at ih
   cases hb : dV p L k with
   | true =>
    rw [sC hb, ih]
    have : [k].find? (dV p L) = some k := by rw [List.find?_cons_of_pos hb]
    rw [this]; rfl
   | false =>
    rw [oQ hb, ih]
    have : [k].find? (dV p L) = none := by rw [List.find?_cons_of_neg (by rw [hb]; decide)]; rfl
    rw [this]; rfl
theorem qA (p : Prg) (l : Int) (hl : p.types.length ≤ 1000000) (hs : bO p.body ≤ 1000000) : PC Tryz.prog 19 [cW p, iv l] (fun r => r = .tup [sl cI (EM p l), bv (mE p l).isSome]) := by
 have hw := A8 51 pT (-1) p l hl hs (fun L k a _ => DY k a _)
 have harg : RnL (([1] : List Nat)[·]?) [cW p, iv l, .clos (.func 51) [] [.optr 0 0]] [cW p, iv l, .clos (.func 51) [] [.optr 1 0]] := RnL.cons (RnV.purI inferInstance) (RnL.cons (RnV.purI inferInstance) (RnL.cons (RnV.clos .nil (RnL.cons (RnV.optr rfl) .nil)) .nil))
 have hst : (if iE p l = true then vZ pT p l.toNat (-1) (2 ^ l.toNat) else -1) = match mE p l with | some n => (n : Int) | none => -1 := by
  unfold mE
  by_cases h : iE p l = true
  ·rw [if_pos h, if_pos h, zE]
  ·rw [if_neg h, if_neg h]
 rw [hst] at hw
 unfold EM
 cases hf : mE p l with
 | none =>
  rw [hf] at hw
  dsimp only at hw ⊢
  generalize iE p l = b at *
  (refine aS Tryz.func19 rfl (by simp [Tryz.ntmps19]) ?_; rw [Tryz.ntmps19])
  repeat' (first|(apply aL;first|(apply aE;rfl;rfl)|(apply aR;rfl;rfl;(exact (rfl:_=[_, _]));rfl;rfl;rfl)|(apply aC;rfl;rfl)|(apply aF;kernel_rfl)|(apply eR;rfl;rfl;rfl)|(apply bA;rfl;rfl;rfl;rfl)|(apply bD;rfl;rfl)|(apply aW;rfl;rfl;rfl;rfl;rfl;(decide);(exact (rfl:_=[_]))))|(apply aM;first|apply aH|apply aB)|with_reducible apply aA)
  refine bP (k := 45) (avs := [cW p, iv l, .clos (.func 51) [] [.optr 1 0]]) (rr' := bv b) [1] 1 [(1, some [iv (-1)])] hw rfl rfl ⟨⟨_, _, rfl, rfl, RnL.purI inferInstance⟩, trivial⟩ rfl harg rfl (RnV.purI inferInstance) rfl ⟨⟨0, _, rfl, rfl, RnL.purI inferInstance⟩, trivial⟩ rfl ?_
  repeat' (first|(apply aL;first|(apply aP;rfl;rfl;rfl;rfl)|(apply aU;rfl;rfl;rfl;rfl)|(apply aC;rfl;rfl)|(apply aF;kernel_rfl))|(apply aM;first|apply aH|apply aB|(apply bR;rfl;(rfl))|apply aO)|with_reducible apply aA|with_reducible apply a8)
  refine b0 (Le.nilImm (d := 4) rfl) ?_
  exact aK (l := [.imm 0 [], bv false]) rfl ⟨rfl, rfl⟩
 | some n =>
  rw [hf] at hw
  dsimp only at hw ⊢
  have hb : n ≤ 64 ∧ 0 ≤ l ∧ l ≤ 6 := by
   unfold mE at hf
   split at hf
   ·rename_i h
    obtain ⟨_, h0, h1⟩ := gR.1 h
    have := List.mem_of_find?_eq_some hf
    have hp : 2 ^ l.toNat ≤ 2 ^ 6 := Nat.pow_le_pow_right (by decide) (by omega)
    have := List.mem_range.1 this
    omega
   ·cases hf
  obtain ⟨hn, h0, h1⟩ := hb
  obtain ⟨L, rfl⟩ := Int.eq_ofNat_of_zero_le h0
  have hch := iM n L (by omega) (by omega)
  rw [Int.toNat_natCast]
  generalize iE p (L : Int) = b at *
  (refine aS Tryz.func19 rfl (by simp [Tryz.ntmps19]) ?_; rw [Tryz.ntmps19])
  repeat' (first|(apply aL;first|(apply aE;rfl;rfl)|(apply aR;rfl;rfl;(exact (rfl:_=[_, _]));rfl;rfl;rfl)|(apply aC;rfl;rfl)|(apply aF;kernel_rfl)|(apply eR;rfl;rfl;rfl)|(apply bA;rfl;rfl;rfl;rfl)|(apply bD;rfl;rfl)|(apply aW;rfl;rfl;rfl;rfl;rfl;(decide);(exact (rfl:_=[_]))))|(apply aM;first|apply aH|apply aB)|with_reducible apply aA)
  refine bP (k := 45) (avs := [cW p, iv (L : Int), .clos (.func 51) [] [.optr 1 0]]) (rr' := bv b) [1] 1 [(1, some [iv (n : Int)])] hw rfl rfl ⟨⟨_, _, rfl, rfl, RnL.purI inferInstance⟩, trivial⟩ rfl harg rfl (RnV.purI inferInstance) rfl ⟨⟨0, _, rfl, rfl, RnL.purI inferInstance⟩, trivial⟩ rfl ?_
  repeat' (first|(apply aL;first|((with_reducible apply aJ (k := 52));(case ha => rfl);(case h => exact hch);(case hp => (rfl));(case hN => rfl))|(apply aE;rfl;rfl)|(apply aP;rfl;rfl;rfl;rfl)|(apply aU;rfl;rfl;rfl;rfl)|(apply aC;rfl;rfl)|(apply aF;kernel_rfl))|(apply aM;first|apply aH|apply aB|(apply b9;rfl;(rfl))|apply aV|apply aO)|with_reducible apply aA)
  exact aK (l := [sl cI (iN n L), bv true]) rfl ⟨rfl, Pur.pf⟩
theorem yY {w : World} {bad : Nat → Prop} {ι : Pl} {b : Nat} : ∀ (cs cs' : List AV) (o : Nat), RdC w bad ι (cs ++ cs') b o → RdC w bad ι cs b o
 | [], _, _, _ => by simp only [RdC]
 | c :: cs, cs', o, h => by
  rw [List.cons_append] at h
  simp only [RdC] at h ⊢
  exact ⟨h.1, yY cs cs' (o + 1) h.2⟩
theorem Le.immPre {ts : List (Nat × AV)} {hs : List (Nat × Option (List AV))} {n : Nat} {z0 : Lo} {d k : Nat} {cs cs' : List AV} (h : lk ts d = some (.imm k (cs ++ cs'))) : Le ⟨ts, hs, n, z0⟩ ⟨(d, .imm k cs) :: ts, hs, n, z0⟩ :=
 Le.slot h fun w bad ι y hy => by
  simp only [Rd] at hy ⊢
  obtain ⟨a, c, rfl, hy⟩ := hy
  refine ⟨a, c, rfl, ?_⟩
  rcases hy with hy | ⟨b, o, h1, h2, h3⟩
  ·exact .inl hy
  ·refine .inr ⟨b, o, h1, h2, ?_⟩
   rcases h3 with h3 | ⟨h3, h4⟩
   ·exact .inl (List.append_eq_nil_iff.1 h3).1
   ·exact .inr ⟨h3, yY cs cs' o h4⟩
theorem Bm (zs : List Int) (h : zs.length ≤ 1000000) : MC Tryz.prog 54 [.own 0 0 zs.length 1] [(0, some (aI cI zs))] 1 (fun _ : Unit => True) (fun _ => .tup []) (fun _ => [(0, some (aI cI (l5 zs)))]) := by
 have hr : ∀ (w : World) (bad : Nat → Prop) (ι : Pl), Rd w bad ι (.tup []) (.tuple #[]) := fun w bad ι => by
  simp only [Rd]; exact ⟨[], rfl, by simp only [RdV]⟩
 refine BC (iI zs) (fun _ a cap w => (Tryz.slices_Sort_int_none a cap w).mono ?_) (fun blk off cap w hH hb _ => (Tryz.slices_Sort_int blk off cap zs w hH hb (by omega)).mono ?_)
 ·rintro e w' ⟨rfl, rfl⟩
  exact ⟨_, rfl, rfl, fun ι bad _ => hr _ _ _⟩
 ·rintro e w' ⟨rfl, n, os, rfl⟩
  exact ⟨_, n, os, rfl, rfl, fun ι bad _ _ => hr _ _ _⟩
theorem qR (zs : List Int) (h : zs.length ≤ 1000000) : MC Tryz.prog 55 [.own 0 0 zs.length 1] [(0, some (aI cI zs))] 1 (fun _ : Unit => True) (fun _ => .own 0 0 (Lib.compact zs).length 1) (fun _ => [(0, some (aI cI (Lib.compact zs ++ List.replicate (zs.length - (Lib.compact zs).length) 0)))]) := by
 have hc := fB zs
 refine BC (by rw [List.length_append, List.length_replicate]; omega) (fun hz a cap w => (Tryz.slices_Compact_int_empty a cap w).mono ?_) (fun blk off cap w hH hb hcap => (Tryz.slices_Compact_int blk off cap zs w hH (by omega) hcap).mono ?_)
 ·rintro e w' ⟨rfl, rfl⟩
  refine ⟨_, rfl, rfl, fun ι bad h => ?_⟩
  have h0 : (Lib.compact zs).length = 0 := by omega
  rw [h0]
  simp only [Rd]
  rcases h with ⟨h1, rfl | ⟨b, β, h2, rfl, h3⟩⟩
  ·exact .inl ⟨h1, trivial, a, rfl⟩
  ·exact .inr ⟨b, β, cap, h2, rfl, Nat.zero_le _, by omega⟩
 ·rintro e w' ⟨rfl, n, rfl⟩
  refine ⟨_, n, #[], rfl, by rw [Sort.grow_empty], fun ι bad h1 h2 => ?_⟩
  simp only [Rd]
  exact .inr ⟨blk, off, cap, h1, rfl, by omega, by omega⟩
theorem Dn (a b : Int) (xs : List Int) (m : Nat) (hm : m = xs.length) (hx : m ≤ 1000) : MC Tryz.prog 53 [iv a, iv b, .optr 0 0] [(0, some [.own 1 0 m 1]), (1, some (aI cI xs))] 2 (fun _ : Unit => True) (fun _ => .tup []) (fun _ => [(0, some [.own 3 0 (m + 1) 1]), (3, some (aI cI (xs ++ [b])))]) := by
 (refine bK Tryz.func53 rfl (by simp [Tryz.ntmps53]) ?_; rw [Tryz.ntmps53])
 repeat' (first|(apply aL;first|(apply aE;rfl;rfl)|(apply aP;rfl;rfl;rfl;rfl)|(apply bV;rfl;rfl;rfl;rfl;rfl;(rw [aT]; omega);(rfl);omega;omega;(exact fW (by (assumption)));rfl;rfl)|(apply aF;kernel_rfl)|((apply bF (t := _));(case hze|hsm|hl => rfl);(case hfl => exact (rfl:_=some [_]));(case hM|hN => rfl))|(apply aW;rfl;rfl;rfl;rfl;rfl;(case hl => (simp;done));(exact (rfl:_=[_]))))|(apply aM;(apply aB)))
 refine sP (l := []) rfl ?_
 exact bG () trivial rfl ⟨.inr rfl, .inr rfl, trivial⟩
theorem B9 (p : Prg) (l : Int) (h : iE p l = true) (hl : p.types.length ≤ 1000000) (hs : bO p.body ≤ 1000000) : MC Tryz.prog 45 [cW p, iv l, .clos (.func 53) [] [.optr 0 0]] [(0, some [.v (.slice none 0 0)])] 1 (fun _ : Unit => True) (fun _ => bv true)
  (fun _ => [(0, some [.own 2 0 (zF (dV p l.toNat) (fun j => pP p (iN j l.toNat) 80) (2 ^ l.toNat)).length 1]), (2, some (aI cI (zF (dV p l.toNat) (fun j => pP p (iN j l.toNat) 80) (2 ^ l.toNat))))]) := by
 have hv0 := iY p hl (by omega)
 have hil := jM l
 obtain ⟨hv, h0, h1⟩ := gR.1 h
 rw [hv] at hv0
 obtain ⟨L, rfl⟩ := Int.eq_ofNat_of_zero_le h0
 rw [show (decide (0 ≤ (L : Int)) && decide ((L : Int) ≤ 6)) = true by rw [decide_eq_true h0, decide_eq_true h1]; rfl] at hil
 have hp : 2 ^ L ≤ 2 ^ 6 := Nat.pow_le_pow_right (by decide) (by omega)
 rw [Int.toNat_natCast]
 (refine bK Tryz.func45 rfl (by simp [Tryz.ntmps45]) ?_; rw [Tryz.ntmps45])
 repeat' (first|(apply aL;first|((with_reducible apply aJ (k := 25));(case ha => rfl);(case h => exact hv0);(case hp => (exact Pur.pf));(case hN => rfl))|((with_reducible apply aJ (k := 92));(case ha => rfl);(case h => exact hil);(case hp => (rfl));(case hN => rfl))|(apply aE;rfl;rfl)|(apply aR;rfl;rfl;(exact (rfl:_=[_, _]));rfl;rfl;rfl)|(apply aY;rfl;rfl;rfl;(rfl))|(apply lW;rfl;rfl;infer_instance;omega;rfl;(case' kk => intro hsm))|(apply aC;rfl;rfl)|(apply bC;rfl;(rfl);rfl;rfl)|(apply aF;kernel_rfl)|(apply bW;rfl;rfl)|(apply bA;rfl;rfl;rfl;rfl))|(apply aM;first|apply aH|apply aB|(apply b9;rfl;(rfl))|apply aN|apply aV)|with_reducible apply aA)
 rw [Int.toNat_natCast]
 generalize hT : 2 ^ L = T at *
 refine AW.le ?_ (Le.nilCell (i := 0) 1 [] rfl (by decide) (by decide))
 refine bL (σ := Nat × List Int × Nat) [1, 2, 3, 19] [(1, _), (2, _), (3, _), (19, _)] [] [] (fun s => [(20, iv (s.1 : Int))]) (fun s => [(0, some [.own 2 0 s.2.2 1]), (1, some [sl cI p.types, sl bB p.body]), (2, some (aI cI s.2.1))]) (fun s => s.1 ≤ T ∧ s.2.1 = zF (dV p L) (fun j => pP p (iN j L) 80) s.1 ∧ s.2.2 = s.2.1.length) (fun s => T - s.1) (0, [], 0) ⟨Nat.zero_le _, rfl, rfl⟩ rfl rfl (by repeat' (first|exact trivial|refine And.intro rfl ?_)) (by repeat' (first|exact trivial|refine And.intro (.inr rfl) ?_)) ?_
 rintro ⟨k, xs, m⟩ ⟨hk, hxs, hm⟩
 dsimp only at hk hxs hm
 try dsimp only
 have hxl := yL (B := dV p L) (A := fun j => pP p (iN j L) 80) (k := k)
 have hch1 := DF (B := dV p L) (A := fun j => pP p (iN j L) 80) (k := k)
 have hcs1 := AU (B := dV p L) (A := fun j => pP p (iN j L) 80) (k := k)
 rw [← hxs] at hxl hch1 hcs1
 try dsimp only at hch1
 have hch := iM k L (by omega) (by omega)
 have hru := wR p (iN k L) 80 hl hs (by rw [jR]; omega)
 have hto := Dn (k : Int) (pP p (iN k L) 80) xs m hm (by omega)
 have hbd : dV p L k = (decide (tE p (iN k L) 80 ≠ 0) && decide (tE p (iN k L) 80 ≠ 1)) := rfl
 generalize tE p (iN k L) 80 = e at hru hbd
 generalize pP p (iN k L) 80 = a at hru hch1 hto
 repeat' (first|(apply aL;first|((with_reducible apply aJ (k := 52));(case ha => rfl);(case h => exact hch);(case hp => (rfl));(case hN => rfl))|((with_reducible apply aJ (k := 13));(case ha => rfl);(case h => exact hru);(case hp => (exact Pur.pf));(case hN => rfl))|(apply aE;rfl;rfl)|(apply aR;rfl;rfl;(exact (rfl:_=[_, _]));rfl;rfl;rfl)|(first|(apply aY;rfl;rfl;rfl;(assumption))|(apply a7;rfl;rfl;rfl;(assumption))|(apply bE;(case hj|hb|hN => rfl);all_goals (intro hg;have hq := hg;(try simp only [cC] at hq);(try (exfalso;omega)))))|(first|(apply bN;rfl;rfl;omega;rfl)|(apply aU;rfl;rfl;rfl;rfl))|(apply aC;rfl;rfl)|(first|(apply bJ;rfl;(assumption);rfl;rfl)|(apply bC;rfl;(assumption);rfl;rfl))|(apply aF;kernel_rfl)|(apply aZ;rfl;rfl;rfl))|(apply aM;first|apply aH|apply aB|(apply bZ;kernel_rfl)|(apply b9;rfl;(rfl))|(apply aQ;rfl;all_goals intro hc;have hq:=hc;(try simp only [cC] at hq);try exfalso;omega)|apply aN|apply aV|apply bS|apply aO)|with_reducible apply aA|with_reducible apply bU|with_reducible apply aX|with_reducible apply bT)
 ·have hbt : dV p L k = true := by rw [hbd]; simp_all
  refine mT (k := 53) (avs := [iv (k : Int), iv a]) (avs0 := [iv (k : Int), iv a, .optr 0 0]) (rr' := .tup []) [0, 2] 4 [(0, some [.own 4 0 (m + 1) 1]), (4, some (aI cI (xs ++ [a]))), (2, none)] hto rfl rfl rfl rfl ⟨⟨_, _, rfl, rfl, RnL.cons (RnV.own rfl) .nil⟩, ⟨_, _, rfl, rfl, RnL.purI inferInstance⟩, trivial⟩ rfl (RnL.cons (RnV.purI inferInstance) (RnL.cons (RnV.purI inferInstance) (RnL.cons (RnV.optr rfl) .nil))) rfl (RnV.purI inferInstance) rfl ⟨⟨0, _, rfl, rfl, RnL.cons (RnV.own rfl) .nil⟩, ⟨3, _, rfl, rfl, RnL.purI inferInstance⟩, trivial⟩ rfl ?_
  repeat' (first|(apply aL;first|(apply aE;rfl;rfl)|(apply bN;rfl;rfl;omega;rfl)|(apply aF;kernel_rfl))|(apply aM;(apply aB))|with_reducible apply aA|with_reducible apply aX)
  (apply dG (k + 1, xs ++ [a], m + 1);focus (refine Le.renK [(1, 1), (2, 4)] rfl (by decide) ?_ ?_ <;> repeat' (first|exact trivial|refine And.intro ⟨_, rfl, .inr ⟨rfl, _, _, _, rfl, by decide⟩⟩ ?_|refine And.intro ⟨_, rfl, .inl ?_⟩ ?_|refine And.intro ⟨_, _, rfl, rfl, ?_⟩ ?_|exact Or.inr rfl|exact Or.inl ⟨rfl, rfl⟩|exact Or.inl ⟨rfl, Pur.pf⟩|refine Or.inr (All2.cons ?_ ?_)|exact All2.nil)))
  ·exact ⟨by dsimp only;omega, (hch1 hbt).symm, by simp [hm]⟩
  ·dsimp only;omega
 ·have hbf : dV p L k = false := by rw [hbd]; simp_all
  (apply dG (k + 1, xs, m);focus (refine Le.renK [(1, 1), (2, 2)] rfl (by decide) ?_ ?_ <;> repeat' (first|exact trivial|refine And.intro ⟨_, rfl, .inr ⟨rfl, _, _, _, rfl, by decide⟩⟩ ?_|refine And.intro ⟨_, rfl, .inl ?_⟩ ?_|refine And.intro ⟨_, _, rfl, rfl, ?_⟩ ?_|exact Or.inr rfl|exact Or.inl ⟨rfl, rfl⟩|exact Or.inl ⟨rfl, Pur.pf⟩|refine Or.inr (All2.cons ?_ ?_)|exact All2.nil)))
  ·exact ⟨by dsimp only;omega, (hcs1 hbf).symm, hm⟩
  ·dsimp only;omega
 ·have hbf : dV p L k = false := by rw [hbd]; simp_all
  (apply dG (k + 1, xs, m);focus (refine Le.renK [(1, 1), (2, 2)] rfl (by decide) ?_ ?_ <;> repeat' (first|exact trivial|refine And.intro ⟨_, rfl, .inr ⟨rfl, _, _, _, rfl, by decide⟩⟩ ?_|refine And.intro ⟨_, rfl, .inl ?_⟩ ?_|refine And.intro ⟨_, _, rfl, rfl, ?_⟩ ?_|exact Or.inr rfl|exact Or.inl ⟨rfl, rfl⟩|exact Or.inl ⟨rfl, Pur.pf⟩|refine Or.inr (All2.cons ?_ ?_)|exact All2.nil)))
  ·exact ⟨by dsimp only;omega, (hcs1 hbf).symm, hm⟩
  ·dsimp only;omega
 ·obtain rfl : k = T := by omega
  refine aK rfl ?_
  rw [← hxs, ← hm]
  exact bG () trivial rfl ⟨.inr rfl, .inr rfl, trivial⟩
theorem Az (p : Prg) (l : Int) (h : iE p l = false) (hl : p.types.length ≤ 1000000) (hs : bO p.body ≤ 1000000) : MC Tryz.prog 45 [cW p, iv l, .clos (.func 53) [] [.optr 0 0]] [(0, some [.v (.slice none 0 0)])] 1 (fun _ : Unit => True) (fun _ => bv false) (fun _ => [(0, some [.v (.slice none 0 0)])]) := by
 have hv0 := iY p hl (by omega)
 have hil := jM l
 by_cases hv : c8 p = true
 ·have hil2 : (decide (0 ≤ l) && decide (l ≤ 6)) = false := by unfold iE at h; rw [hv] at h; simpa using h
  rw [hv] at hv0
  rw [hil2] at hil
  (refine bK Tryz.func45 rfl (by simp [Tryz.ntmps45]) ?_; rw [Tryz.ntmps45])
  repeat' (first|(apply aL;first|((with_reducible apply aJ (k := 25));(case ha => rfl);(case h => exact hv0);(case hp => (exact Pur.pf));(case hN => rfl))|((with_reducible apply aJ (k := 92));(case ha => rfl);(case h => exact hil);(case hp => (rfl));(case hN => rfl))|(apply aE;rfl;rfl)|(apply aR;rfl;rfl;(exact (rfl:_=[_, _]));rfl;rfl;rfl)|(apply aY;rfl;rfl;rfl;(rfl))|(apply aC;rfl;rfl)|(apply bC;rfl;(rfl);rfl;rfl)|(apply aF;kernel_rfl)|(apply bW;rfl;rfl)|(apply bA;rfl;rfl;rfl;rfl))|(apply aM;first|apply aH|apply aB|(apply bR;rfl;(rfl))|apply aO)|with_reducible apply aA|with_reducible apply a8)
  refine aK rfl ?_
  exact bG () trivial rfl ⟨.inr rfl, trivial⟩
 ·have hv2 : c8 p = false := by simpa using hv
  rw [hv2] at hv0
  (refine bK Tryz.func45 rfl (by simp [Tryz.ntmps45]) ?_; rw [Tryz.ntmps45])
  repeat' (first|(apply aL;first|((with_reducible apply aJ (k := 25));(case ha => rfl);(case h => exact hv0);(case hp => (exact Pur.pf));(case hN => rfl))|(apply aE;rfl;rfl)|(apply aR;rfl;rfl;(exact (rfl:_=[_, _]));rfl;rfl;rfl)|(apply a7;rfl;rfl;rfl;(rfl))|(apply aC;rfl;rfl)|(apply bJ;rfl;(rfl);rfl;rfl)|(apply aF;kernel_rfl)|(apply bW;rfl;rfl)|(apply bA;rfl;rfl;rfl;rfl))|(apply aM;first|apply aH|apply aB|(apply bR;rfl;(rfl))|apply aO)|with_reducible apply aA|with_reducible apply a8)
  refine aK rfl ?_
  exact bG () trivial rfl ⟨.inr rfl, trivial⟩
def uQ (p : Prg) (l : Int) : List Int := if iE p l = true then zF (dV p l.toNat) (fun j => pP p (iN j l.toNat) 80) (2 ^ l.toNat) else []
theorem sU (p : Prg) (l : Int) : (uQ p l).length ≤ 64 := by
 unfold uQ
 split
 ·rename_i h
  obtain ⟨_, h0, h1⟩ := gR.1 h
  have hp : 2 ^ l.toNat ≤ 2 ^ 6 := Nat.pow_le_pow_right (by decide) (by omega)
  exact Nat.le_trans yL hp
 ·simp
theorem j3 (p : Prg) (l : Int) (hl : p.types.length ≤ 1000000) (hs : bO p.body ≤ 1000000) : PC Tryz.prog 21 [cW p, iv l] (fun r => r = sl cI (Lib.compact (l5 (uQ p l)))) := by
 have harg : RnL (([1] : List Nat)[·]?) [cW p, iv l, .clos (.func 53) [] [.optr 0 0]] [cW p, iv l, .clos (.func 53) [] [.optr 1 0]] := RnL.cons (RnV.purI inferInstance) (RnL.cons (RnV.purI inferInstance) (RnL.cons (RnV.clos .nil (RnL.cons (RnV.optr rfl) .nil)) .nil))
 have hlen := sU p l
 by_cases h : iE p l = true
 ·have hw := B9 p l h hl hs
  have e : uQ p l = zF (dV p l.toNat) (fun j => pP p (iN j l.toNat) 80) (2 ^ l.toNat) := if_pos h
  rw [← e] at hw
  generalize uQ p l = U at *
  have h1 := Bm U (by omega)
  have h2 := qR (l5 U) (by rw [iI]; omega)
  have hcl := fB (l5 U)
  rw [iI] at hcl h2
  (refine aS Tryz.func21 rfl (by simp [Tryz.ntmps21]) ?_; rw [Tryz.ntmps21])
  repeat' (first|(apply aL;first|(apply aE;rfl;rfl)|(apply aR;rfl;rfl;(exact (rfl:_=[_, _]));rfl;rfl;rfl)|(apply aC;rfl;rfl)|(apply aF;kernel_rfl)|(apply eR;rfl;rfl;rfl)|(apply bA;rfl;rfl;rfl;rfl)|(apply bD;rfl;rfl))|(apply aM;first|apply aH|apply aB)|with_reducible apply aA)
  refine bP (k := 45) (avs := [cW p, iv l, .clos (.func 53) [] [.optr 1 0]]) (rr' := bv true) [1] 3 [(1, some [.own 3 0 U.length 1]), (3, some (aI cI U))] hw rfl rfl ⟨⟨_, _, rfl, rfl, RnL.purI inferInstance⟩, trivial⟩ rfl harg rfl (RnV.purI inferInstance) rfl ⟨⟨0, _, rfl, rfl, RnL.cons (RnV.own rfl) .nil⟩, ⟨2, _, rfl, rfl, RnL.purI inferInstance⟩, trivial⟩ rfl ?_
  repeat' (first|(apply aL;first|(apply aP;rfl;rfl;rfl;rfl)|(apply aF;kernel_rfl))|(apply aM;first|apply aH|apply aB)|with_reducible apply aA)
  refine bP (k := 54) (avs := [.own 3 0 U.length 1]) (rr' := .tup []) [3] 1 [(3, some (aI cI (l5 U)))] h1 rfl rfl ⟨⟨_, _, rfl, rfl, RnL.purI inferInstance⟩, trivial⟩ rfl (RnL.cons (RnV.own rfl) .nil) rfl (RnV.purI inferInstance) rfl ⟨⟨0, _, rfl, rfl, RnL.purI inferInstance⟩, trivial⟩ rfl ?_
  repeat' (first|(apply aL;first|(apply aP;rfl;rfl;rfl;rfl)|(apply aF;kernel_rfl))|(apply aM;first|apply aH|apply aB)|with_reducible apply aA)
  refine bP (k := 55) (avs := [.own 3 0 U.length 1]) (rr' := .own 3 0 (Lib.compact (l5 U)).length 1) [3] 1 [(3, some (aI cI (Lib.compact (l5 U) ++ List.replicate (U.length - (Lib.compact (l5 U)).length) 0)))] h2 rfl rfl ⟨⟨_, _, rfl, rfl, RnL.purI inferInstance⟩, trivial⟩ rfl (RnL.cons (RnV.own rfl) .nil) rfl (RnV.own rfl) rfl ⟨⟨0, _, rfl, rfl, RnL.purI inferInstance⟩, trivial⟩ rfl ?_
  repeat' (first|(apply aL;first|(apply aC;rfl;rfl)|(apply aF;kernel_rfl))|(apply aM;(apply aO))|with_reducible apply aA)
  refine b0 (Le.frzD (d := 4) (i := 3) rfl rfl) ?_
  refine b0 (Le.immPre (d := 4) (cs := aI cI (Lib.compact (l5 U))) (by rw [← dC]; rfl)) ?_
  exact aK rfl ⟨rfl, (show (sl cI (Lib.compact (l5 U))).pur = true from PurV.pf)⟩
 ·have h' : iE p l = false := by simpa using h
  have hw := Az p l h' hl hs
  have e : uQ p l = [] := if_neg h
  rw [e]
  have h1 := Bm [] (by simp)
  have h2 := qR (l5 []) (by rw [iI]; simp)
  have hcl := fB (l5 [])
  rw [iI] at hcl h2
  (refine aS Tryz.func21 rfl (by simp [Tryz.ntmps21]) ?_; rw [Tryz.ntmps21])
  repeat' (first|(apply aL;first|(apply aE;rfl;rfl)|(apply aR;rfl;rfl;(exact (rfl:_=[_, _]));rfl;rfl;rfl)|(apply aC;rfl;rfl)|(apply aF;kernel_rfl)|(apply eR;rfl;rfl;rfl)|(apply bA;rfl;rfl;rfl;rfl)|(apply bD;rfl;rfl))|(apply aM;first|apply aH|apply aB)|with_reducible apply aA)
  refine bP (k := 45) (avs := [cW p, iv l, .clos (.func 53) [] [.optr 1 0]]) (rr' := bv false) [1] 1 [(1, some [.v (.slice none 0 0)])] hw rfl rfl ⟨⟨_, _, rfl, rfl, RnL.purI inferInstance⟩, trivial⟩ rfl harg rfl (RnV.purI inferInstance) rfl ⟨⟨0, _, rfl, rfl, RnL.purI inferInstance⟩, trivial⟩ rfl ?_
  repeat' (first|(apply aL;first|(with_reducible apply cF (d := 10))|(apply aF;kernel_rfl))|(apply aM;first|apply aH|apply aB)|with_reducible apply aA)
  refine dB (gI ?_ (Le.nilCell (i := 1) 1 [] rfl (by decide) (by decide)))
  repeat' (apply aL;(apply aP;rfl;rfl;rfl;rfl))
  refine bP (k := 54) (avs := [.own 2 0 0 1]) (rr' := .tup []) [2] 1 [(2, some (aI cI (l5 [])))] h1 rfl rfl ⟨⟨_, _, rfl, rfl, RnL.purI inferInstance⟩, trivial⟩ rfl (RnL.cons (RnV.own rfl) .nil) rfl (RnV.purI inferInstance) rfl ⟨⟨0, _, rfl, rfl, RnL.purI inferInstance⟩, trivial⟩ rfl ?_
  repeat' (first|(apply aL;first|(apply aP;rfl;rfl;rfl;rfl)|(apply aF;kernel_rfl))|(apply aM;first|apply aH|apply aB)|with_reducible apply aA)
  refine bP (k := 55) (avs := [.own 2 0 0 1]) (rr' := .own 2 0 (Lib.compact (l5 [])).length 1) [2] 1 [(2, some (aI cI (Lib.compact (l5 []) ++ List.replicate (([] : List Int).length - (Lib.compact (l5 [])).length) 0)))] h2 rfl rfl ⟨⟨_, _, rfl, rfl, RnL.purI inferInstance⟩, trivial⟩ rfl (RnL.cons (RnV.own rfl) .nil) rfl (RnV.own rfl) rfl ⟨⟨0, _, rfl, rfl, RnL.purI inferInstance⟩, trivial⟩ rfl ?_
  repeat' (first|(apply aL;first|(apply aC;rfl;rfl)|(apply aF;kernel_rfl))|(apply aM;(apply aO))|with_reducible apply aA)
  refine b0 (Le.frzD (d := 4) (i := 2) rfl rfl) ?_
  refine b0 (Le.immPre (d := 4) (cs := aI cI (Lib.compact (l5 []))) (by rw [← dC]; rfl)) ?_
  exact aK rfl ⟨rfl, (show (sl cI (Lib.compact (l5 []))).pur = true from PurV.pf)⟩
theorem x4 {p : Prg} {l : Int} : (Lib.compact (l5 (uQ p l))).length = 0 ↔ qE p l = 0 := by
 have h1 : (Lib.compact (l5 (uQ p l))).length = 0 ↔ (uQ p l).length = 0 := by
  constructor
  ·intro h
   have e := List.eq_nil_of_length_eq_zero h
   cases q : uQ p l with
   | nil => rfl
   | cons x L =>
    have hx : x ∈ Lib.compact (l5 (uQ p l)) := (vI _ _).2 ((Dv _ _).2 (by rw [q]; simp))
    rw [e] at hx;cases hx
  ·intro h
   have h2 := fB (l5 (uQ p l))
   rw [iI] at h2;omega
 rw [h1]
 unfold uQ qE zF sA
 by_cases h : iE p l = true
 ·rw [if_pos h, if_pos h, List.length_map]; omega
 ·rw [if_neg h, if_neg h]; simp
theorem Aa {p : Prg} {l : Int} (h : tD p l ≠ 0) : (mE p l).isSome = decide (0 < qE p l) ∧ qE p l ≤ tD p l ∧ (iE p l && (mE p l).isNone) = decide (qE p l = 0) ∧ 0 ≤ qE p l := by
 have h8 : iE p l = true := by
  apply Classical.byContradiction;intro q
  unfold tD at h;rw [if_neg q] at h;exact h rfl
 have hs := sM p l
 have hb := sZ p l
 have hn : 0 ≤ qE p l ∧ qE p l ≤ tD p l := by
  unfold qE tD
  rw [if_pos h8, if_pos h8]
  have := xM (p := p) (l := l.toNat) (k := 2 ^ l.toNat)
  omega
 rw [decide_eq_true (by omega : (0 : Int) < tD p l), Bool.true_and, h8, Bool.true_and] at hs
 rw [h8, Bool.true_and, ← hs]
 refine ⟨?_, hn.2, rfl, hn.1⟩
 have e : (mE p l).isSome = !(mE p l).isNone := by cases mE p l <;> rfl
 rw [e, ← hs]
 by_cases q : qE p l = 0
 ·rw [q]; rfl
 ·rw [decide_eq_false q, decide_eq_true (by omega : 0 < qE p l)]; rfl
theorem o5 (bs : List UInt8) : PC Tryz.prog 4 [sl cU bs] (fun r => r = bv true) := by
 rcases Nat.lt_or_ge 1048576 bs.length with hb|hb
 ·(refine aS Tryz.func4 rfl (by simp [Tryz.ntmps4]) ?_; rw [Tryz.ntmps4])
  repeat' (first|(apply aL;first|(apply aE;rfl;rfl)|(apply aU;rfl;rfl;rfl;rfl)|(apply aC;rfl;rfl)|(apply bM;rfl;rfl;rfl)|(apply aF;kernel_rfl))|(apply aM;first|apply aH|apply aB|(apply aQ;rfl;all_goals intro hc;have hq:=hc;(try simp only [cC] at hq);try exfalso;omega)|apply aO)|with_reducible apply aA|with_reducible apply a8)
  exact aK rfl ⟨rfl, rfl⟩
 (refine aS Tryz.func4 rfl (by simp [Tryz.ntmps4]) ?_; rw [Tryz.ntmps4])
 repeat' (first|(apply aL;first|((with_reducible apply fE (k := 16));(case ha => rfl);(case h => exact Ck bs hb);(case hp => (exact Pur.pf));(case hN => rfl);(rintro _ ⟨q, n, rfl, hq1, hq2, hq3, hq4⟩ _))|(with_reducible apply cF (d := 18))|(apply aE;rfl;rfl)|(apply aU;rfl;rfl;rfl;rfl)|(apply aC;rfl;rfl)|(apply bM;rfl;rfl;rfl)|(apply aF;kernel_rfl)|(apply aZ;rfl;rfl;rfl))|(apply aM;first|apply aH|apply aB|(apply aQ;rfl;all_goals intro hc;have hq:=hc;(try simp only [cC] at hq);try exfalso;omega)|apply aV)|with_reducible apply aA)
 refine dB ?_
 have h1 := CJ q n (by omega) (by omega)
 have h2 := F5 q n (by omega) (by omega)
 have h3 := qA q n (by omega) (by omega)
 have h4 := yC q n (by omega) (by omega)
 have h5 := j3 q n (by omega) (by omega)
 have hcl := Aa (p := q) (l := n)
 have hwl := x4 (p := q) (l := n)
 have hb2 := sZ q n
 have hUl := fB (l5 (uQ q n))
 have hUl2 := sU q n
 rw [iI] at hUl
 generalize Lib.compact (l5 (uQ q n)) = U at *
 generalize (mE q n).isSome = b at *
 generalize (iE q n && (mE q n).isNone) = sf at *
 generalize qE q n = c at *
 generalize tD q n = a at *
 repeat' (first|(apply aL;first|((with_reducible apply aJ (k := 17));(case ha => rfl);(case h => exact h1);(case hp => (exact Pur.pf));(case hN => rfl))|((with_reducible apply aJ (k := 18));(case ha => rfl);(case h => exact h2);(case hp => (exact Pur.pf));(case hN => rfl))|((with_reducible apply aJ (k := 19));(case ha => rfl);(case h => exact h3);(case hp => (exact Pur.pf));(case hN => rfl))|((with_reducible apply aJ (k := 20));(case ha => rfl);(case h => exact h4);(case hp => (exact Pur.pf));(case hN => rfl))|((with_reducible apply aJ (k := 21));(case ha => rfl);(case h => exact h5);(case hp => (exact Pur.pf));(case hN => rfl))|(apply aE;rfl;rfl)|(apply aR;rfl;rfl;(exact (rfl:_=[_, _]));rfl;rfl;rfl)|(first|(apply aY;rfl;rfl;rfl;(assumption))|(apply a7;rfl;rfl;rfl;(first|rfl|assumption))|(apply bE;(case hj|hb|hN => rfl);all_goals (intro hg;have hq := hg;(try simp only [cC] at hq);(try (exfalso;omega)))))|(first|(apply yF;rfl;rfl;rfl;rfl)|(apply aU;rfl;rfl;rfl;rfl))|(apply aC;rfl;rfl)|(first|(apply bJ;rfl;(first|rfl|assumption);rfl;rfl)|(apply bC;rfl;(first|rfl|assumption);rfl;rfl))|(apply bM;rfl;rfl;rfl)|(apply aF;kernel_rfl)|(apply bD;rfl;rfl)|(apply aZ;rfl;rfl;rfl)|(apply aW;rfl;rfl;rfl;rfl;rfl;(case hl => (simp;done));(exact (rfl:_=[_, _]))))|(apply aM;first|apply aH|apply aB|(apply bR;rfl;(rfl))|(apply aQ;rfl;all_goals intro hc;have hq:=hc;(try simp only [cC] at hq);try exfalso;omega)|apply aV|apply aO)|with_reducible apply aA|with_reducible apply a8)
 all_goals first
  | (exfalso;exact (by assumption : ¬ True) trivial)
  | (refine aK rfl ⟨?_, rfl⟩; simp only [bX, decide_true]; done)
  | (refine aK rfl ⟨?_, rfl⟩; simp only [bX]; obtain ⟨g1, g2, g3, g4⟩ := hcl (by assumption);subst g1 g3;by_cases hc0 : c = 0 <;> simp_all <;> omega)
theorem nZ (bs : List UInt8) : PC Tryz.prog 5 [sl cU bs] (fun r => r = bv true) := by
 rcases Nat.lt_or_ge 1048576 bs.length with hb|hb
 ·(refine aS Tryz.func5 rfl (by simp [Tryz.ntmps5]) ?_; rw [Tryz.ntmps5])
  repeat' (first|(apply aL;first|(apply aE;rfl;rfl)|(apply aU;rfl;rfl;rfl;rfl)|(apply aC;rfl;rfl)|(apply bM;rfl;rfl;rfl)|(apply aF;kernel_rfl))|(apply aM;first|apply aH|apply aB|(apply aQ;rfl;all_goals intro hc;have hq:=hc;(try simp only [cC] at hq);try exfalso;omega)|apply aO)|with_reducible apply aA|with_reducible apply a8)
  exact aK rfl ⟨rfl, rfl⟩
 (refine aS Tryz.func5 rfl (by simp [Tryz.ntmps5]) ?_; rw [Tryz.ntmps5])
 repeat' (first|(apply aL;first|((with_reducible apply fE (k := 22));(case ha => rfl);(case h => exact A9 bs hb);(case hp => (exact Pur.pf));(case hN => rfl);(rintro _ ⟨q, n, rfl, hq1, hq2, hq3, hq4⟩ _))|(with_reducible apply cF (d := 15))|(apply aE;rfl;rfl)|(apply aU;rfl;rfl;rfl;rfl)|(apply aC;rfl;rfl)|(apply bM;rfl;rfl;rfl)|(apply aF;kernel_rfl)|(apply aZ;rfl;rfl;rfl))|(apply aM;first|apply aH|apply aB|(apply aQ;rfl;all_goals intro hc;have hq:=hc;(try simp only [cC] at hq);try exfalso;omega)|apply aV)|with_reducible apply aA)
 refine dB ?_
 have h1 := CJ q n (by omega) (by omega)
 have h3 := DD q n (by omega) (by omega)
 have h4 := yC q n (by omega) (by omega)
 have h5 := j3 q n (by omega) (by omega)
 have hse := sM q n
 have hwl := x4 (p := q) (l := n)
 have hb2 := sZ q n
 have hUl := fB (l5 (uQ q n))
 have hUl2 := sU q n
 rw [iI] at hUl
 generalize Lib.compact (l5 (uQ q n)) = U at *
 generalize (iE q n && (mE q n).isNone) = sf at *
 generalize qE q n = c at *
 generalize tD q n = a at *
 have h6 := o9 q (by omega) (by omega)
 repeat' (first|(apply aL;first|((with_reducible apply aJ (k := 17));(case ha => rfl);(case h => exact h1);(case hp => (exact Pur.pf));(case hN => rfl))|((with_reducible apply aJ (k := 23));(case ha => rfl);(case h => exact h3);(case hp => (exact Pur.pf));(case hN => rfl))|((with_reducible apply aJ (k := 20));(case ha => rfl);(case h => exact h4);(case hp => (exact Pur.pf));(case hN => rfl))|((with_reducible apply aJ (k := 21));(case ha => rfl);(case h => exact h5);(case hp => (exact Pur.pf));(case hN => rfl))|((with_reducible apply aJ (k := 24));(case ha => rfl);(case h => exact h6);(case hp => (exact Pur.pf));(case hN => rfl))|(apply aE;rfl;rfl)|(apply aR;rfl;rfl;(exact (rfl:_=[_, _]));rfl;rfl;rfl)|(first|(apply aY;rfl;rfl;rfl;(assumption))|(apply a7;rfl;rfl;rfl;(first|rfl|assumption))|(apply bE;(case hj|hb|hN => rfl);all_goals (intro hg;have hq := hg;(try simp only [cC] at hq);(try (exfalso;omega)))))|(first|(apply yF;rfl;rfl;rfl;rfl)|(apply aU;rfl;rfl;rfl;rfl))|(apply aC;rfl;rfl)|(first|(apply bJ;rfl;(first|rfl|assumption);rfl;rfl)|(apply bC;rfl;(assumption);rfl;rfl))|(apply bM;rfl;rfl;rfl)|(apply aF;kernel_rfl)|(apply bW;rfl;rfl)|(apply bD;rfl;rfl)|(apply aZ;rfl;rfl;rfl)|(apply aW;rfl;rfl;rfl;rfl;rfl;(case hl => (simp;done));(exact (rfl:_=[_, _]))))|(apply aM;first|apply aH|apply aB|(apply bR;rfl;(rfl))|(apply aQ;rfl;all_goals intro hc;have hq:=hc;(try simp only [cC] at hq);try exfalso;omega)|apply aV|apply aO)|with_reducible apply aA|with_reducible apply a8)
 all_goals first
  | (exfalso;exact (by assumption : ¬ True) trivial)
  | (refine aK rfl ⟨?_, rfl⟩; simp only [bX, decide_true]; done)
  | (refine aK rfl ⟨?_, rfl⟩; simp only [bX]; grind)
end Go.Proofs.YtckihjkcgfphmaaGreat
namespace Go.Proofs.YtckihjkcgfphmaaGreat
open Go.AL Go.ChangeShapes Go.WideShapes Go.ChangeAt Go.RowKit
theorem rF {w : World} {bad : Nat → Prop} {ι : Pl} {b : Nat} : ∀ (bs : List UInt8) (o : Nat), ¬ bad b → (∀ j, j < bs.length → w.cell? ⟨b, o + j, none⟩ = some (.int .u8 ((bs[j]!).toNat : Int))) → RdC w bad ι (aI cU bs) b o
 | [], _, _, _ => by simp only [aI, List.flatMap_nil, RdC]
 | x :: bs, o, hb, h => by
  have h0 := h 0 (by simp)
  have e : aI cU (x :: bs) = .v (.int .u8 (x.toNat : Int)) :: aI cU bs := rfl
  rw [e]
  simp only [RdC]
  refine ⟨⟨.int .u8 (x.toNat : Int), by simpa using h0, rfl, by simp only [Rd]⟩, rF bs (o + 1) hb fun j hj => ?_⟩
  have := h (j + 1) (by simpa using hj)
  rw [show o + 1 + j = o + (j + 1) from by omega]
  simpa using this
theorem m3 {P : Program} {k : FuncId} {bs : List UInt8} (h : PC P k [sl cU bs] (fun r => r = bv true)) {W : World} {v : Value} (hv : Rd W (fun _ => False) (fun _ => none) (sl cU bs) v) :
  Calls P k #[v] W fun e W' => e = .returned (.bool true) ∧ Below W.heap.size W W' := by
 let C : Ctx := { N := 0, w0 := W, W0 := fun _ => False, X := fun _ => False, ι0 := fun _ => none, xlt := fun _ h => h.elim }
 have hbad : ∀ b, ¬ a6 C.X (fun _ => none) (b8 []) b := by
  rintro b (h | ⟨id, cs, β, h1, h2⟩)
  ·exact h
  ·cases h2
 have g : HG C (fun _ => none) (fun j => 0 ≤ j) (b8 []) W :=
  ⟨fun id cs h => by simp [b8] at h, fun id id' cs cs' b β β' h => by simp [b8] at h, Fr.refl _ _, fun _ _ h => h, fun _ _ => rfl⟩
 have hcar : Carry W (fun _ => False) (fun _ => none) W (a6 C.X (fun _ => none) (b8 [])) (fun _ => none) := ⟨fun b o x _ h2 => ⟨hbad b, h2⟩, fun _ _ h => h, fun _ => Nat.le_refl _⟩
 have ha : RdV W (a6 C.X (fun _ => none) (b8 [])) (fun _ => none) [sl cU bs] [v] := by
  simp only [RdV]
  exact ⟨v, [], rfl, Rd.carry hcar _ _ hv, rfl⟩
 refine (h C _ W [v] rfl rfl g ha).mono ?_
 rintro e W' ⟨v', r, H', ι', rfl, ⟨rfl, _⟩, h4, h5⟩
 simp only [Rd] at h4
 subst h4
 have f := h5.fr
 exact ⟨rfl, f.os, f.tape, f.output, f.size, fun b hb => f.block b hb (fun h => h)⟩
theorem FG : laidOutB Tryz.prog = true := by kernel_rfl
theorem EN : Tryz.prog.cellsOf 5 = 1 := by kernel_rfl
theorem vB {H : Type} {enc : TypeId × Value → H} {W : World} {base : Nat} {v0 : Value} {d0 : DataW H} {p : List MemPlace} (hval : Value.okWide Tryz.prog W .any base 22 v0) (h0 : DataW.Trod enc Tryz.prog W 0 (fun _ => true) true 22 v0 d0 p) :
  ∃ bs : List UInt8, Rd W (fun _ => False) (fun _ => none) (sl cU bs) v0 := by
 obtain ⟨a0, len, cap, rfl⟩ := okWide_slice Tryz.underlying22 hval
 obtain ⟨fuel, hf⟩ := h0
 rcases open_ints Tryz.underlying22 Tryz.underlying5 EN hf with ⟨hcs, hx⟩ | ⟨a, len', cap', zs, hcs, _, hl, hm, hz, hx, hcell, hwz⟩
 ·simp [Value.cells] at hcs
  obtain ⟨rfl, rfl, rfl⟩ := hcs
  refine ⟨[], ?_⟩
  simp only [Rd]
  exact ⟨none, 0, rfl, .inl rfl⟩
 ·simp [Value.cells] at hcs
  obtain ⟨rfl, rfl, rfl⟩ := hcs
  simp only [if_true] at hz
  refine ⟨(zs.take len).map fun n => UInt8.ofNat n.toNat, ?_⟩
  have hlen : ((zs.take len).map fun n => UInt8.ofNat n.toNat).length = len := by simp;omega
  simp only [Rd]
  refine ⟨some a, cap, by rw [hlen], ?_⟩
  by_cases h00 : len = 0
  ·exact .inl (by rw [hlen]; exact h00)
  ·obtain ⟨b, off, spot⟩ := a
   have hspot : spot = none := by simpa [Addr.add] using World.cell?_spot (hcell 0 (by omega))
   subst hspot
   refine .inr ⟨b, off, by rw [hlen]; exact hl, rfl, .inr ⟨fun h => h, rF _ _ (fun h => h) fun j hj => ?_⟩⟩
   rw [hlen] at hj
   have hcj := hcell j (by omega)
   rw [Addr.add_lit] at hcj
   rw [hcj]
   have e : zs.getD j 0 = zs[j]'(by omega) := by simp [List.getD, List.getElem?_eq_getElem (show j < zs.length by omega)]
   have hw := hwz (zs[j]'(by omega)) (List.getElem_mem _)
   have hr : 0 ≤ zs[j]'(by omega) ∧ zs[j]'(by omega) ≤ 255 := by simpa [Lit.wf, IntKind.min, IntKind.max, IntKind.signed, IntKind.bits] using hw
   rw [e, cV _ _ (by rw [hlen]; exact hj)]
   simp only [List.getElem_map, List.getElem_take]
   congr 2
   simp only [UInt8.toNat_ofNat']
   omega
end Go.Proofs.YtckihjkcgfphmaaGreat
