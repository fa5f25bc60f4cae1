/-
 A part of the proofs over this program: rules and contracts of its functions (the contracts).
-/
import Derived.Test.YtckihjkcgfphmaaGreatP4B07
import Derived.Test.YtckihjkcgfphmaaGreatRows
import Derived.WalkKit
import Derived.ProofKit
import Derived.OpenShut
import Derived.Carry
import Derived.ChangeSlices
set_option linter.unusedVariables false
set_option linter.unusedSimpArgs false
set_option maxHeartbeats 8000000
set_option maxRecDepth 4000
attribute [local irreducible] Go.AL.RW Go.AL.AW Go.AL.Stop
namespace Go.Proofs.YtckihjkcgfphmaaGreat
open Go.AL Go.RowKit
def jY (n l : Nat) : List Int := (List.range l).map fun i => ((n / 2 ^ i % 2 : Nat) : Int)
theorem mZ (n l : Nat) : (jY n l).length = l := by unfold jY; rw [List.length_map, List.length_range]
theorem Ax (n l : Nat) : jY n (l + 1) = jY n l ++ [((n / 2 ^ l % 2 : Nat) : Int)] := by
 unfold jY;rw [List.range_succ, List.map_append]; rfl
def gG (p : Prg) (l n : Nat) : Bool := decide (uP p (jY n l) 80 ≠ 0) && decide (uP p (jY n l) 80 ≠ 1)
theorem zF (n l : Nat) (hl : l ≤ 100) (hn : n ≤ 1000000) : PC Tryz.prog 50 [iv (n : Int), iv (l : Int)] (fun r => r = sl cI (jY n l)) := by
 (refine aS Tryz.func50 rfl (by simp [Tryz.ntmps50]) ?_; rw [Tryz.ntmps50])
 repeat' (first|(apply aK;first|(apply aC;rfl;rfl)|(apply aF;kernel_rfl)|(apply b0;rfl;rfl;rfl;(rfl);rfl;rfl))|(apply aL;first|apply aH|apply aB|apply aM)|with_reducible apply aA)
 refine a8 (σ := Nat × Nat × List Int × Nat) [1] [(1, _)] [] [] (fun k => [(6, iv (k.1 : Int)), (0, iv (k.2.1 : Int)), (5, .own 0 0 k.2.2.2 1)]) (fun k => [(0, some (aI cI k.2.2.1))]) (fun k => k.1 ≤ l ∧ k.2.1 = n / 2 ^ k.1 ∧ k.2.2.1 = jY n k.1 ∧ k.2.2.2 = k.1) (fun k => l - k.1) (0, n, [], 0) ⟨Nat.zero_le _, by simp, rfl, rfl⟩ rfl rfl (by repeat' (first|exact trivial|refine And.intro rfl ?_)) (by repeat' (first|exact trivial|refine And.intro (.inr rfl) ?_)) ?_
 rintro ⟨i, n', xs, m⟩ ⟨hi, hn', hxs, hm⟩
 dsimp only at hi hn' hxs hm ⊢
 have hnl : n' ≤ 1000000 := by rw [hn']; exact Nat.le_trans (Nat.div_le_self _ _) hn
 have hxl : xs.length = m := by rw [hxs, mZ, hm]
 repeat' (first|(apply aK;first|(apply aE;rfl;rfl)|(first|(apply bS;rfl;rfl;omega;rfl)|(apply Gh;rfl;rfl;omega;rfl)|(apply Fz;rfl;rfl;omega;rfl)|(apply aU;rfl;rfl;rfl;rfl))|(apply aC;rfl;rfl)|(apply bY;rfl;rfl;rfl;rfl;rfl;(rw [aR]; omega);(rfl);omega;omega;(exact gW (by (omega)));rfl;rfl)|(apply aF;kernel_rfl)|((apply bF (t := _));(case hze|hsm|hl => rfl);(case hfl => exact (rfl:_=some [_]));(case hM|hN => rfl)))|(apply aL;first|apply aH|apply aB|(apply aP;rfl;all_goals intro hc;have hq:=hc;(try simp only [cH] at hq);try exfalso;omega)|apply aM|apply aT|apply bK|apply aQ)|with_reducible apply aA|with_reducible apply bI|with_reducible apply aX|with_reducible apply bJ)
 ·(apply dJ (i + 1, n' / 2, _, m + 1); focus (refine Le.ren [(0, 2)] rfl (by decide) ?_ ?_ <;> repeat' (first | exact trivial | refine And.intro ⟨_, rfl, ?_⟩ ?_ | refine And.intro ⟨_, _, rfl, rfl, ?_⟩ ?_ | exact Or.inr rfl | refine Or.inl ⟨?_, (by first | rfl | exact aY _ _)⟩ | rfl)))
  ·refine ⟨by dsimp only; omega, ?_, ?_, by dsimp only; omega⟩
   ·dsimp only;rw [hn', Nat.pow_succ, Nat.div_div_eq_div_mul]
   ·dsimp only;rw [Ax, ← hxs, ← hn']; rfl
  ·dsimp only;omega
 ·(refine cE (Le.frzD (d := 4) (i := 0) rfl rfl) ?_; refine aO rfl ?_)
  refine ⟨?_, (by (exact aY _ _))⟩
  have hie : i = l := by omega
  simp only [bW, sl]
  rw [← hxl, hxs, hie]
theorem E0 (l : Nat) (hl : l ≤ 10) : PC Tryz.prog 48 [iv (l : Int)] (fun r => r = iv ((2 ^ l : Nat) : Int)) := by
 (refine aS Tryz.func48 rfl (by simp [Tryz.ntmps48]) ?_; rw [Tryz.ntmps48])
 repeat' (first|(apply aK;first|(apply aC;rfl;rfl)|(apply aF;kernel_rfl))|(apply aL;first|apply aH|apply aB|apply aM)|with_reducible apply aA)
 refine a8 (σ := Nat) [0] [(0, _)] [] [] (fun k => [(4, iv (k : Int)), (3, iv ((2 ^ k : Nat) : Int))]) (fun k => []) (fun k => k ≤ l) (fun k => l - k) (0) (Nat.zero_le _) rfl rfl (by repeat' (first|exact trivial|refine And.intro rfl ?_)) (by repeat' (exact trivial)) ?_
 rintro k hk
 have hp : 2 ^ k ≤ 2 ^ 10 := Nat.pow_le_pow_right (by decide) (by omega)
 repeat' (first|(apply aK;first|(apply aE;rfl;rfl)|(first|(apply bS;rfl;rfl;omega;rfl)|(apply aU;rfl;rfl;rfl;rfl))|(apply aC;rfl;rfl)|(apply aF;kernel_rfl))|(apply aL;first|apply aH|apply aB|(apply aP;rfl;all_goals intro hc;have hq:=hc;(try simp only [cH] at hq);try exfalso;omega)|apply aM|apply aT|apply bK|apply aQ)|with_reducible apply aA|with_reducible apply bI|with_reducible apply aX|with_reducible apply bJ)
 ·have hw : IntKind.i64.wrap (((2 ^ k : Nat) : Int) * 2) = ((2 ^ (k + 1) : Nat) : Int) := by
   rw [show (((2 ^ k : Nat) : Int) * 2) = ((2 ^ (k + 1) : Nat) : Int) by rw [Nat.pow_succ, Int.natCast_mul]; rfl]
   exact n7 (Sm.pow (by omega)).pf
  rw [hw]
  (apply dJ (k + 1);focus (refine Le.ren [] rfl (by decide) ?_ ?_ <;> repeat' (first|exact trivial|refine And.intro ⟨_, rfl, ?_⟩ ?_|refine Or.inl ⟨?_, (by (rfl))⟩|rfl)))
  ·omega
  ·omega
 ·refine aO rfl ⟨?_, rfl⟩
  rw [show l = k by omega]; rfl
def qD (p : Prg) (l : Int) : Bool := c8 p && (decide (0 ≤ l) && decide (l ≤ 6))
theorem kH {p : Prg} {l : Int} : qD p l = true ↔ c8 p = true ∧ 0 ≤ l ∧ l ≤ 6 := by unfold qD; simp only [Bool.and_eq_true, decide_eq_true_eq]
theorem DQ (p : Prg) (l : Int) (hl : p.types.length ≤ 1000000) (hs : cA p.body ≤ 1000000) : PC Tryz.prog 47 [dM p, iv l] (fun r => r = bv (qD p l)) := by
 have hval := oL p hl (by omega)
 (refine aS Tryz.func47 rfl (by simp [Tryz.ntmps47]) ?_; rw [Tryz.ntmps47])
 repeat' (first|(apply aK;first|((with_reducible apply aJ (k := 87));(case ha => rfl);(case h => exact hval);(case hp => (exact Pur.pf));(case hN => rfl))|(apply aE;rfl;rfl)|(apply aV;rfl;rfl;(exact (rfl:_=[_, _]));rfl;rfl;rfl)|(first|(apply a6;rfl;rfl;rfl;(assumption))|(apply bB;rfl;rfl;rfl;(first|rfl|assumption))|(apply bR;(case hj|hb|hN => rfl);all_goals (intro hg;have hq := hg;(try simp only [cH] at hq);(try (exfalso;omega)))))|(apply aU;rfl;rfl;rfl;rfl)|(apply aC;rfl;rfl)|(first|(apply bU;rfl;(assumption);rfl;rfl)|(apply bG;rfl;(first|rfl|assumption);rfl;rfl))|(apply aF;kernel_rfl)|(apply bH;rfl;rfl;rfl;rfl))|(apply aL;first|apply aH|apply aB|apply aQ)|with_reducible apply aA)
 all_goals (refine aO rfl ⟨?_, rfl⟩; simp only [bW, AV.v.injEq, Value.bool.injEq]; unfold qD;grind)
theorem E2 : PC Tryz.prog 93 [] (fun r => r = iv 80) := by
 (refine aS Tryz.func93 rfl (by simp [Tryz.ntmps93]) ?_; rw [Tryz.ntmps93])
 repeat' (first|(apply aK;first|(apply aC;rfl;rfl)|(apply aF;kernel_rfl))|(apply aL;first|apply aH|apply aB|apply aQ)|with_reducible apply aA)
 exact aO rfl ⟨rfl, rfl⟩
theorem DV (p : Prg) (cs : List Int) (hl : p.types.length ≤ 1000000) (hs : cA p.body ≤ 1000000) (hcl : cs.length ≤ 1000000) : PC Tryz.prog 49 [dM p, sl cI cs] (fun r => r = .tup [bv (decide (uP p cs 80 ≠ 0) && decide (uP p cs 80 ≠ 1)), iv (tT p cs 80)]) := by
 have h := JM p cs 80 hl hs hcl
 have hm := E2
 generalize uP p cs 80 = e at *
 generalize tT p cs 80 = a at *
 (refine aS Tryz.func49 rfl (by simp [Tryz.ntmps49]) ?_; rw [Tryz.ntmps49])
 repeat' (first|(apply aK;first|((with_reducible apply aJ (k := 14));(case ha => rfl);(case h => exact h);(case hp => (exact Pur.pf));(case hN => rfl))|((with_reducible apply aJ (k := 93));(case ha => rfl);(case h => exact hm);(case hp => (rfl));(case hN => rfl))|(apply aE;rfl;rfl)|(apply aV;rfl;rfl;(exact (rfl:_=[_, _]));rfl;rfl;rfl)|(first|(apply a6;rfl;rfl;rfl;(assumption))|(apply bB;rfl;rfl;rfl;(assumption))|(apply bR;(case hj|hb|hN => rfl);all_goals (intro hg;have hq := hg;(try simp only [cH] at hq);(try (exfalso;omega)))))|(apply aU;rfl;rfl;rfl;rfl)|(apply aC;rfl;rfl)|(first|(apply bU;rfl;(assumption);rfl;rfl)|(apply bG;rfl;(assumption);rfl;rfl))|(apply aF;kernel_rfl)|(apply bH;rfl;rfl;rfl;rfl)|(apply bC;rfl;rfl;rfl))|(apply aL;first|apply aH|apply aB|(apply b9;kernel_rfl)|apply aQ)|with_reducible apply aA)
 ·refine aO (l := [bv _, iv a]) ?_ ⟨rfl, rfl⟩
  have hd : (decide (e ≠ 0) && decide (e ≠ 1)) = !decide (e = 1) := by simp_all
  rw [hd]; rfl
 ·refine aO (l := [bv _, iv a]) ?_ ⟨rfl, rfl⟩
  have hd : (decide (e ≠ 0) && decide (e ≠ 1)) = false := by simp_all
  rw [hd]; rfl
theorem nO (l : Int) : PC Tryz.prog 92 [iv l] (fun r => r = bv (decide (0 ≤ l) && decide (l ≤ 6))) := by
 have hw := eF l 0 6
 (refine aS Tryz.func92 rfl (by simp [Tryz.ntmps92]) ?_; rw [Tryz.ntmps92])
 repeat' (first|(apply aK;first|((with_reducible apply aJ (k := 84));(case ha => rfl);(case h => exact hw);(case hp => (rfl));(case hN => rfl))|(apply aE;rfl;rfl)|(apply aC;rfl;rfl)|(apply aF;kernel_rfl))|(apply aL;first|apply aH|apply aB|apply aQ)|with_reducible apply aA)
 exact aO rfl ⟨rfl, rfl⟩
theorem mM (n l : Nat) (hl : l ≤ 60) (hn : n ≤ 1000000) : PC Tryz.prog 52 [iv (n : Int), iv (l : Int)] (fun r => r = sl cI (jY n l)) := by
 have : Sm n := ⟨by omega⟩
 (refine aS Tryz.func52 rfl (by simp [Tryz.ntmps52]) ?_; rw [Tryz.ntmps52])
 repeat' (first|(apply aK;first|(apply aE;rfl;rfl)|(apply aC;rfl;rfl)|(apply aF;kernel_rfl))|(apply aL;first|apply aH|apply aB|apply aM)|with_reducible apply aA)
 refine AW.le ?_ (Le.nilOwn (d := 5) 1 rfl (by decide))
 refine a8 (σ := Nat × List Int × Nat) [0, 7] [(0, _), (7, _)] [] [] (fun k => [(8, iv (k.1 : Int)), (5, .own 0 0 k.2.2 1)]) (fun k => [(0, some (aI cI k.2.1))]) (fun k => k.1 ≤ l ∧ k.2.1 = jY n k.1 ∧ k.2.2 = k.1) (fun k => l - k.1) (0, [], 0) ⟨Nat.zero_le _, rfl, rfl⟩ rfl rfl (by repeat' (first|exact trivial|refine And.intro rfl ?_)) (by repeat' (first|exact trivial|refine And.intro (.inr rfl) ?_)) ?_
 rintro ⟨i, xs, m⟩ ⟨hi, hxs, hm⟩
 dsimp only at hi hxs hm ⊢
 have hxl : xs.length = m := by rw [hxs, mZ, hm]
 repeat' (first|(apply aK;first|(apply aE;rfl;rfl)|(first|(apply o8;rfl;rfl;infer_instance;infer_instance;rfl)|(apply oR;rfl;rfl;infer_instance;infer_instance;omega;rfl)|(apply bS;rfl;rfl;omega;rfl)|(apply aU;rfl;rfl;rfl;rfl))|(apply aC;rfl;rfl)|(apply bY;rfl;rfl;rfl;rfl;rfl;(rw [aR]; omega);(rfl);omega;omega;(exact gW (by (omega)));rfl;rfl)|(apply aF;kernel_rfl)|((apply bF (t := _));(case hze|hsm|hl => rfl);(case hfl => exact (rfl:_=some [_]));(case hM|hN => rfl)))|(apply aL;first|apply aH|apply aB|(apply aP;rfl;all_goals intro hc;have hq:=hc;(try simp only [cH] at hq);try exfalso;omega)|apply aM|apply aT|apply bK|apply aQ)|with_reducible apply aA|with_reducible apply bI|with_reducible apply aX|with_reducible apply bJ)
 ·(apply dJ (i + 1, _, m + 1); focus (refine Le.ren [(0, 2)] rfl (by decide) ?_ ?_ <;> repeat' (first | exact trivial | refine And.intro ⟨_, rfl, ?_⟩ ?_ | refine And.intro ⟨_, _, rfl, rfl, ?_⟩ ?_ | exact Or.inr rfl | refine Or.inl ⟨?_, (by first | rfl | exact aY _ _)⟩ | rfl)))
  ·refine ⟨by dsimp only; omega, ?_, by dsimp only; omega⟩
   have hz : n >>> (i : Int).toNat &&& 1 = n / 2 ^ i % 2 := by rw [Int.toNat_natCast, Nat.shiftRight_eq_div_pow]; exact Nat.and_one_is_mod _
   dsimp only;rw [Ax, ← hxs, ← hz]
  ·dsimp only;omega
 ·refine cE (Le.frzD (d := 4) (i := 0) rfl rfl) ?_
  refine aO rfl ⟨?_, (by (exact aY _ _))⟩
  have hie : i = l := by omega
  simp only [bW, sl]
  rw [← hxl, hxs, hie]
theorem IF (bs : List UInt8) (hb : bs.length ≤ 1048576) : PC Tryz.prog 44 [sl cU bs] (fun r => ∃ (q : Prg) (n : Int), r = .tup [dM q, iv n] ∧ cA q.body ≤ 20000 ∧ q.types.length ≤ 1000 ∧ -1 ≤ n ∧ n ≤ 7) := by
 have hb2 : (bs.take 2000).length ≤ 2000 := by rw [List.length_take]; omega
 (refine aS Tryz.func44 rfl (by simp [Tryz.ntmps44]) ?_; rw [Tryz.ntmps44])
 repeat' (first|(apply aK;first|((with_reducible apply sJ (k := 81));(case h => exact KO (bs.take 2000) 0 hb2 (by decide));(case ha|hpv|hH|hM|hN => rfl);(rintro ⟨q, p1⟩ ⟨hq1, hq2, hq3⟩);(dsimp only at hq1 hq2 hq3))|((with_reducible apply sJ (k := 80));(case h => exact GI (bs.take 2000) p1 q hb2 (by omega) (by omega) (by omega));(case ha => rfl);(case hpv => exact Pur.pf);(case hH|hM|hN => rfl);(rintro ⟨q2, p2⟩ ⟨hr1, hr2, hr3⟩);(dsimp only at hr1 hr2 hr3);(have hn9 := EN (bs.take 2000) p2 [3, 2, 1, 4, 0, 7, -1] (-1) 7 (by decide) (by decide)))|(apply aE;rfl;rfl)|(apply aV;rfl;rfl;(exact (rfl:_=[_, _]));rfl;rfl;rfl)|(apply aC;rfl;rfl)|(first|(apply Ca;rfl;(apply EA <;> (assumption));rfl;rfl)|(apply xU;rfl;rfl;rfl;rfl;infer_instance;rfl;(rfl);assumption;omega;(decide);(decide);rfl;rfl))|(apply aF;kernel_rfl)|(apply bD;rfl;rfl)|(apply b0;rfl;rfl;rfl;(exact (rfl:_=some [_, _, _, _, _, _, _]));rfl;rfl)|(apply aW;rfl;rfl;rfl;rfl;rfl;(case hl => (simp;done));(exact (rfl:_=[_, _]))))|(apply aL;first|apply aH|apply aB|(apply b9;kernel_rfl)|apply aQ)|with_reducible apply aA)
 exact aO (l := [dM q2, iv (jE (bs.take 2000) p2 [3, 2, 1, 4, 0, 7, -1])]) rfl ⟨⟨q2, _, rfl, by omega, by omega, hn9.1, hn9.2⟩, Pur.pf⟩
theorem G0 (bs : List UInt8) (hb : bs.length ≤ 1048576) : PC Tryz.prog 26 [sl cU bs] (fun r => ∃ (q : Prg) (n : Int), r = .tup [dM q, iv n] ∧ cA q.body ≤ 20000 ∧ q.types.length ≤ 1000 ∧ -1 ≤ n ∧ n ≤ 7) := by
 (refine aS Tryz.func26 rfl (by simp [Tryz.ntmps26]) ?_; rw [Tryz.ntmps26])
 repeat' (first|(apply aK;first|((with_reducible apply jL (k := 44));(case ha => rfl);(case h => exact IF bs hb);(case hp => (exact Pur.pf));(case hN => rfl);(rintro _ ⟨q, n, rfl, h1, h2, h3, h4⟩ _))|(apply aE;rfl;rfl)|(apply aC;rfl;rfl)|(apply aF;kernel_rfl)|(apply bD;rfl;rfl)|(apply bC;rfl;rfl;rfl)|(apply aW;rfl;rfl;rfl;rfl;rfl;(case hl => (simp;done));(exact (rfl:_=[_, _]))))|(apply aL;first|apply aH|apply aB|apply aQ)|with_reducible apply aA)
 exact aO (l := [dM q, iv n]) rfl ⟨⟨q, n, rfl, h1, h2, h3, h4⟩, Pur.pf⟩
theorem IK (p : Prg) (hl : p.types.length ≤ 1000000) (hs : cA p.body ≤ 1000000) : ∃ L : List Iss, PC Tryz.prog 32 [dM p] (fun r => r = sl pG L) ∧ PC Tryz.prog 15 [dM p] (fun r => r = bv (c8 p && L.isEmpty)) ∧
  L.length ≤ 1000000 ∧ (c8 p = true → ∃ f : Flows p.types (dE p), L = f.iss) := by
 cases hv : c8 p
 ·have h := Ex p hv hl hs
  have h2 := qF p [] hl hs h
  rw [hv] at h2
  exact ⟨[], h, h2, by simp, fun q => Bool.noConfusion q⟩
 ·have w := WG.of_valid hv
  obtain ⟨f⟩ := Flows.ex w
  have e : J0 p f = f.iss := if_pos hv
  have h := Gp p f hl hs
  rw [e] at h
  have h2 := qF p f.iss hl hs h
  rw [hv] at h2
  exact ⟨f.iss, h, h2, Nat.le_trans (Gw w f) (by decide), fun _ => ⟨f, rfl⟩⟩
theorem EG {p : Prg} {cs : List Int} {n : Int} {L : List Iss} (hL : c8 p = true → ∃ f : Flows p.types (dE p), L = f.iss) (ha : (c8 p && L.isEmpty) = true) : uP p cs n = 0 ∨ uP p cs n = 1 ∨ (uP p cs n = 5 ∧ (n < 0 ∨ 150 < n)) := by
 rw [Bool.and_eq_true] at ha
 obtain ⟨f, e⟩ := hL ha.1
 have h0 : f.iss = [] := by rw [← e]; exact List.isEmpty_iff.1 ha.2
 unfold uP
 by_cases h : Bd p n = true
 ·obtain ⟨hv, h1, h2⟩ := zN.1 h
  rw [if_pos h]
  rcases D1 (WG.of_valid hv) (WA.of_valid hv) f cs n.toNat (by omega) h0 with q|q
  ·exact .inl q
  ·exact .inr (.inl q)
 ·rw [if_neg h]
  refine .inr (.inr ⟨rfl, ?_⟩)
  apply Classical.byContradiction;intro q
  exact h (zN.2 ⟨ha.1, by omega, by omega⟩)
def y9 (p : Prg) (l : Int) : Option Nat := if qD p l = true then (List.range (2 ^ l.toNat)).find? (gG p l.toNat) else none
def Ff (p : Prg) (l : Int) : List Int := match y9 p l with | some n => jY n l.toNat | none => []
theorem Io {P : Nat → Bool} {k T : Nat} (hk : k < T) (h : P k = true) (hb : ∀ j, j < k → P j = false) : (List.range T).find? P = some k := by
 rw [List.find?_range_eq_some]
 exact ⟨h, List.mem_range.2 hk, fun j hj => by rw [hb j hj]; rfl⟩
theorem Dd {P : Nat → Bool} {T : Nat} (hb : ∀ j, j < T → P j = false) : (List.range T).find? P = none := by
 rw [List.find?_eq_none]; intro x hx;rw [hb x (List.mem_range.1 hx)]; decide
theorem u9 (p : Prg) (l : Int) (hl : p.types.length ≤ 1000000) (hs : cA p.body ≤ 1000000) : PC Tryz.prog 27 [dM p, iv l] (fun r => r = .tup [sl cI (Ff p l), bv (y9 p l).isSome]) := by
 have hr := DQ p l hl hs
 by_cases h : qD p l = true
 ·obtain ⟨hv, h0, h1⟩ := kH.1 h
  rw [h] at hr
  obtain ⟨L, rfl⟩ := Int.eq_ofNat_of_zero_le h0
  have e : y9 p (L : Int) = (List.range (2 ^ L)).find? (gG p L) := by unfold y9;rw [if_pos h, Int.toNat_natCast]
  have e2 : Ff p (L : Int) = match (List.range (2 ^ L)).find? (gG p L) with|some n => jY n L|none => [] := by unfold Ff;rw [e, Int.toNat_natCast]
  rw [e, e2]
  have hru := E0 L (by omega)
  have hp : 2 ^ L ≤ 2 ^ 6 := Nat.pow_le_pow_right (by decide) (by omega)
  generalize hT : 2 ^ L = T at *
  (refine aS Tryz.func27 rfl (by simp [Tryz.ntmps27]) ?_; rw [Tryz.ntmps27])
  repeat' (first|(apply aK;first|((with_reducible apply aJ (k := 47));(case ha => rfl);(case h => exact hr);(case hp => (exact Pur.pf));(case hN => rfl))|(apply aE;rfl;rfl)|(apply aV;rfl;rfl;(exact (rfl:_=[_, _]));rfl;rfl;rfl)|(apply aC;rfl;rfl)|(apply aF;kernel_rfl)|(apply cF;rfl;rfl)|(apply bH;rfl;rfl;rfl;rfl))|(apply aL;first|apply aH|apply aB|(apply cG;rfl;(rfl))|apply aM|apply aT)|with_reducible apply aA)
  refine a8 (σ := Nat) [1, 2] [(1, _), (2, _)] [0] [(0, some _)] (fun k => [(6, iv (k : Int))]) (fun k => []) (fun k => k ≤ T ∧ ∀ j, j < k → gG p L j = false) (fun k => T - k) (0) ⟨Nat.zero_le _, fun j hj => by omega⟩ rfl rfl (by repeat' (first|exact trivial|refine And.intro rfl ?_)) (by repeat' (exact trivial)) ?_
  rintro k ⟨hk, hb⟩
  have hch := zF k L (by omega) (by omega)
  have hwr := DV p (jY k L) hl hs (by rw [mZ]; omega)
  change PC _ _ _ (fun r => r = .tup [bv (gG p L k), _]) at hwr
  repeat' (first|(apply aK;first|((with_reducible apply aJ (k := 50));(case ha => rfl);(case h => exact hch);(case hp => (rfl));(case hN => rfl))|((with_reducible apply aJ (k := 49));(case ha => rfl);(case h => exact hwr);(case hp => (exact Pur.pf));(case hN => rfl))|((with_reducible apply aJ (k := 48));(case ha => rfl);(case h => exact hru);(case hp => (rfl));(case hN => rfl))|(apply aE;rfl;rfl)|(apply aV;rfl;rfl;(exact (rfl:_=[_, _]));rfl;rfl;rfl)|(first|(apply bS;rfl;rfl;omega;rfl)|(apply aU;rfl;rfl;rfl;rfl))|(apply aC;rfl;rfl)|(apply aF;kernel_rfl)|(apply bC;rfl;rfl;rfl)|((apply bF (t := _));(case hze|hsm|hl => rfl);(case hfl => (rfl));(case hM|hN => rfl)))|(apply aL;first|apply aH|apply aB|(apply b9;kernel_rfl)|(apply aP;rfl;all_goals intro hc;have hq:=hc;(try simp only [cH] at hq);try exfalso;omega)|apply aM|apply aT|apply bK|apply aQ)|with_reducible apply aA|with_reducible apply bE|with_reducible apply bI|with_reducible apply aX|with_reducible apply cO|with_reducible apply bJ)
  ·rw [Io (by omega) (by assumption) hb]
   exact aO (l := [sl cI (jY k L), bv true]) rfl ⟨rfl, Pur.pf⟩
  ·(apply dJ (k + 1); focus (refine Le.ren [(0, 0)] rfl (by decide) ?_ ?_ <;> repeat' (first | exact trivial | refine And.intro ⟨_, rfl, ?_⟩ ?_ | refine And.intro ⟨_, _, rfl, rfl, ?_⟩ ?_ | exact Or.inr rfl | refine Or.inl ⟨?_, (by first | rfl | exact Pur.pf)⟩ | rfl)))
   ·refine ⟨by omega, fun j hj => ?_⟩
    by_cases q : j = k
    ·subst q;assumption
    ·exact hb j (by omega)
   ·omega
  ·obtain rfl : k = T := by omega
   rw [Dd hb]
   exact aO (l := [.imm 0 [], bv false]) rfl ⟨rfl, rfl⟩
 ·have h2 : qD p l = false := by simpa using h
  rw [h2] at hr
  have e : y9 p l = none := by unfold y9;rw [if_neg h]
  have e2 : Ff p l = [] := by unfold Ff;rw [e]
  rw [e, e2]
  (refine aS Tryz.func27 rfl (by simp [Tryz.ntmps27]) ?_; rw [Tryz.ntmps27])
  repeat' (first|(apply aK;first|((with_reducible apply aJ (k := 47));(case ha => rfl);(case h => exact hr);(case hp => (exact Pur.pf));(case hN => rfl))|(apply aE;rfl;rfl)|(apply aV;rfl;rfl;(exact (rfl:_=[_, _]));rfl;rfl;rfl)|(apply aC;rfl;rfl)|(apply aF;kernel_rfl)|(apply cF;rfl;rfl)|(apply bH;rfl;rfl;rfl;rfl)|((apply bF (t := _));(case hze|hsm|hl => rfl);(case hfl => (rfl));(case hM|hN => rfl)))|(apply aL;first|apply aH|apply aB|(apply bZ;rfl;(rfl))|apply aQ)|with_reducible apply aA|with_reducible apply bE)
  exact aO (l := [.imm 0 [], bv false]) rfl ⟨rfl, rfl⟩
theorem FJ {p : Prg} {l : Int} {L : List Iss} (hL : c8 p = true → ∃ f : Flows p.types (dE p), L = f.iss) (ha : (c8 p && L.isEmpty) = true) (h0 : 0 ≤ l) (h6 : l ≤ 6) : (qD p l && (y9 p l).isNone) = true := by
 have hv := (Bool.and_eq_true _ _ ▸ ha).1
 have h8 : qD p l = true := kH.2 ⟨hv, h0, h6⟩
 rw [h8, Bool.true_and, Option.isNone_iff_eq_none]
 unfold y9
 rw [if_pos h8]
 refine Dd fun j _ => ?_
 unfold gG
 rcases EG (cs := jY j l.toNat) (n := 80) hL ha with q|q | ⟨_, q⟩
 ·rw [q]; rfl
 ·rw [q]; rfl
 ·omega
def Bf (g : Int → Nat → Int → Int) (p : Prg) (L : Nat) (c0 : Int) : Nat → Int
 | 0 => c0
 | k + 1 => if gG p L k = true then g (Bf g p L c0 k) k (tT p (jY k L) 80) else Bf g p L c0 k
theorem yM {g : Int → Nat → Int → Int} {p : Prg} {L : Nat} {c0 : Int} {k : Nat} (h : gG p L k = true) : Bf g p L c0 (k + 1) = g (Bf g p L c0 k) k (tT p (jY k L) 80) := by rw [Bf, if_pos h]
theorem tN {g : Int → Nat → Int → Int} {p : Prg} {L : Nat} {c0 : Int} {k : Nat} (h : gG p L k = false) : Bf g p L c0 (k + 1) = Bf g p L c0 k := by rw [Bf, if_neg (by rw [h]; decide)]
theorem G8 (fid : FuncId) [CaT Tryz.prog fid] (g : Int → Nat → Int → Int) (c0 : Int) (p : Prg) (l : Int) (hl : p.types.length ≤ 1000000) (hs : cA p.body ≤ 1000000)
  (htold : ∀ (L k : Nat) (a : Int), k < 2 ^ L → MC Tryz.prog fid [iv (k : Int), iv a, .optr 0 0] [(0, some [iv (Bf g p L c0 k)])] 1 (fun _ : Unit => True) (fun _ => .tup []) (fun _ => [(0, some [iv (g (Bf g p L c0 k) k a)])])) :
  MC Tryz.prog 45 [dM p, iv l, .clos (.func fid) [] [.optr 0 0]] [(0, some [iv c0])] 1 (fun _ : Unit => True) (fun _ => bv (qD p l)) (fun _ => [(0, some [iv (if qD p l = true then Bf g p l.toNat c0 (2 ^ l.toNat) else c0)])]) := by
 have hv0 := l5 p hl (by omega)
 have hil := nO l
 by_cases h : qD p l = true
 ·obtain ⟨hv, h0, h1⟩ := kH.1 h
  rw [hv] at hv0
  rw [h, if_pos rfl]
  obtain ⟨L, rfl⟩ := Int.eq_ofNat_of_zero_le h0
  rw [show (decide (0 ≤ (L : Int)) && decide ((L : Int) ≤ 6)) = true by rw [decide_eq_true h0, decide_eq_true h1]; rfl] at hil
  have hp : 2 ^ L ≤ 2 ^ 6 := Nat.pow_le_pow_right (by decide) (by omega)
  rw [Int.toNat_natCast]
  (refine bX Tryz.func45 rfl (by simp [Tryz.ntmps45]) ?_; rw [Tryz.ntmps45])
  repeat' (first|(apply aK;first|((with_reducible apply aJ (k := 25));(case ha => rfl);(case h => exact hv0);(case hp => (exact Pur.pf));(case hN => rfl))|((with_reducible apply aJ (k := 92));(case ha => rfl);(case h => exact hil);(case hp => (rfl));(case hN => rfl))|(apply aE;rfl;rfl)|(apply aV;rfl;rfl;(exact (rfl:_=[_, _]));rfl;rfl;rfl)|(apply a6;rfl;rfl;rfl;(rfl))|(apply iK;rfl;rfl;infer_instance;omega;rfl;(case' kk => intro hsm))|(apply aC;rfl;rfl)|(apply bG;rfl;(rfl);rfl;rfl)|(apply aF;kernel_rfl)|(apply cF;rfl;rfl)|(apply bH;rfl;rfl;rfl;rfl))|(apply aL;first|apply aH|apply aB|(apply cG;rfl;(rfl))|apply aM|apply aT)|with_reducible apply aA)
  rw [Int.toNat_natCast]
  have htold' := htold L
  clear htold
  generalize hT : 2 ^ L = T at *
  refine a8 (σ := Nat × Int) [1, 2, 3, 19] [(1, _), (2, _), (3, _), (19, _)] [] [] (fun s => [(20, iv (s.1 : Int))]) (fun s => [(0, some [iv s.2]), (1, some [sl cI p.types, sl bO p.body])]) (fun s => s.1 ≤ T ∧ s.2 = Bf g p L c0 s.1) (fun s => T - s.1) (0, c0) ⟨Nat.zero_le _, rfl⟩ rfl rfl (by repeat' (first|exact trivial|refine And.intro rfl ?_)) (by repeat' (first|exact trivial|refine And.intro (.inr rfl) ?_)) ?_
  rintro ⟨k, c⟩ ⟨hk, hc⟩
  dsimp only at hk hc ⊢
  have hch1 := yM (g := g) (p := p) (L := L) (c0 := c0) (k := k)
  have hcs1 := tN (g := g) (p := p) (L := L) (c0 := c0) (k := k)
  have hto := htold' k (tT p (jY k L) 80)
  rw [← hc] at hch1 hcs1 hto
  have hch := mM k L (by omega) (by omega)
  have hru := BK p (jY k L) 80 hl hs (by rw [mZ]; omega)
  have hbd : gG p L k = (decide (uP p (jY k L) 80 ≠ 0) && decide (uP p (jY k L) 80 ≠ 1)) := rfl
  generalize uP p (jY k L) 80 = e at hru hbd
  generalize tT p (jY k L) 80 = a at hru hch1 hto
  repeat' (first|(apply aK;first|((with_reducible apply aJ (k := 52));(case ha => rfl);(case h => exact hch);(case hp => (rfl));(case hN => rfl))|((with_reducible apply aJ (k := 13));(case ha => rfl);(case h => exact hru);(case hp => (exact Pur.pf));(case hN => rfl))|(apply aE;rfl;rfl)|(apply aV;rfl;rfl;(exact (rfl:_=[_, _]));rfl;rfl;rfl)|(first|(apply a6;rfl;rfl;rfl;(assumption))|(apply bB;rfl;rfl;rfl;(assumption))|(apply bR;(case hj|hb|hN => rfl);all_goals (intro hg;have hq := hg;(try simp only [cH] at hq);(try (exfalso;omega)))))|(first|(apply bS;rfl;rfl;omega;rfl)|(apply aU;rfl;rfl;rfl;rfl))|(apply aC;rfl;rfl)|(first|(apply bU;rfl;(assumption);rfl;rfl)|(apply bG;rfl;(assumption);rfl;rfl))|(apply aF;kernel_rfl)|(apply bC;rfl;rfl;rfl))|(apply aL;first|apply aH|apply aB|(apply b9;kernel_rfl)|(apply cG;rfl;(rfl))|(apply aP;rfl;all_goals intro hc;have hq:=hc;(try simp only [cH] at hq);try exfalso;omega)|apply aM|apply aT|apply bK|apply aQ)|with_reducible apply aA|with_reducible apply bI|with_reducible apply aX|with_reducible apply bJ)
  ·have hbt : gG p L k = true := by rw [hbd]; simp_all
   refine vQ (k := fid) (avs := [iv (k : Int), iv a]) (avs0 := [iv (k : Int), iv a, .optr 0 0]) (rr' := .tup []) [0] 1 [(0, some [iv (g c k a)])] (hto (by omega)) rfl rfl rfl rfl ⟨⟨_, _, rfl, rfl, RnL.purI inferInstance⟩, trivial⟩ rfl (RnL.cons (RnV.purI inferInstance) (RnL.cons (RnV.purI inferInstance) (RnL.cons (RnV.optr rfl) .nil))) rfl (RnV.purI inferInstance) rfl ⟨⟨0, _, rfl, rfl, RnL.purI inferInstance⟩, trivial⟩ rfl ?_
   repeat' (first|(apply aK;first|(apply aE;rfl;rfl)|(apply bS;rfl;rfl;omega;rfl)|(apply aF;kernel_rfl))|(apply aL;(apply aB))|with_reducible apply aA|with_reducible apply aX)
   (apply dJ (k + 1, g c k a);focus (refine Le.of (oY ?_) (mV ?_) (Nat.le_refl 2) rfl <;> repeat' (first|exact trivial|refine And.intro rfl ?_|refine And.intro (.inr rfl) ?_)))
   ·exact ⟨by dsimp only;omega, (hch1 hbt).symm⟩
   ·dsimp only;omega
  ·have hbf : gG p L k = false := by rw [hbd]; simp_all
   (apply dJ (k + 1, c);focus (refine Le.of (oY ?_) (mV ?_) (Nat.le_refl 2) rfl <;> repeat' (first|exact trivial|refine And.intro rfl ?_|refine And.intro (.inr rfl) ?_)))
   ·exact ⟨by dsimp only;omega, (hcs1 hbf).symm⟩
   ·dsimp only;omega
  ·have hbf : gG p L k = false := by rw [hbd]; simp_all
   (apply dJ (k + 1, c);focus (refine Le.of (oY ?_) (mV ?_) (Nat.le_refl 2) rfl <;> repeat' (first|exact trivial|refine And.intro rfl ?_|refine And.intro (.inr rfl) ?_)))
   ·exact ⟨by dsimp only;omega, (hcs1 hbf).symm⟩
   ·dsimp only;omega
  all_goals
   obtain rfl : k = T := by omega
   obtain rfl : c = Bf g p L c0 k := by assumption
   refine aO rfl ?_
   exact bV () trivial rfl ⟨.inr rfl, trivial⟩
 ·have h2 : qD p l = false := by simpa using h
  rw [h2, if_neg (by decide)]
  by_cases hv : c8 p = true
  ·have hil2 : (decide (0 ≤ l) && decide (l ≤ 6)) = false := by unfold qD at h2; rw [hv] at h2; simpa using h2
   rw [hv] at hv0
   rw [hil2] at hil
   (refine bX Tryz.func45 rfl (by simp [Tryz.ntmps45]) ?_; rw [Tryz.ntmps45])
   repeat' (first|(apply aK;first|((with_reducible apply aJ (k := 25));(case ha => rfl);(case h => exact hv0);(case hp => (exact Pur.pf));(case hN => rfl))|((with_reducible apply aJ (k := 92));(case ha => rfl);(case h => exact hil);(case hp => (rfl));(case hN => rfl))|(apply aE;rfl;rfl)|(apply aV;rfl;rfl;(exact (rfl:_=[_, _]));rfl;rfl;rfl)|(apply a6;rfl;rfl;rfl;(rfl))|(apply aC;rfl;rfl)|(apply bG;rfl;(rfl);rfl;rfl)|(apply aF;kernel_rfl)|(apply cF;rfl;rfl)|(apply bH;rfl;rfl;rfl;rfl))|(apply aL;first|apply aH|apply aB|(apply bZ;rfl;(rfl))|apply aQ)|with_reducible apply aA|with_reducible apply bE)
   refine aO rfl ?_
   exact bV () trivial rfl ⟨.inr rfl, trivial⟩
  ·have hv2 : c8 p = false := by simpa using hv
   rw [hv2] at hv0
   (refine bX Tryz.func45 rfl (by simp [Tryz.ntmps45]) ?_; rw [Tryz.ntmps45])
   repeat' (first|(apply aK;first|((with_reducible apply aJ (k := 25));(case ha => rfl);(case h => exact hv0);(case hp => (exact Pur.pf));(case hN => rfl))|(apply aE;rfl;rfl)|(apply aV;rfl;rfl;(exact (rfl:_=[_, _]));rfl;rfl;rfl)|(apply bB;rfl;rfl;rfl;(rfl))|(apply aC;rfl;rfl)|(apply bU;rfl;(rfl);rfl;rfl)|(apply aF;kernel_rfl)|(apply cF;rfl;rfl)|(apply bH;rfl;rfl;rfl;rfl))|(apply aL;first|apply aH|apply aB|(apply bZ;rfl;(rfl))|apply aQ)|with_reducible apply aA|with_reducible apply bE)
   refine aO rfl ?_
   exact bV () trivial rfl ⟨.inr rfl, trivial⟩
def vB (c : Int) (k : Nat) (_ : Int) : Int := if c < 0 then (k : Int) else c
theorem H8 (k : Nat) (b c : Int) : MC Tryz.prog 51 [iv (k : Int), iv b, .optr 0 0] [(0, some [iv c])] 1 (fun _ : Unit => True) (fun _ => .tup []) (fun _ => [(0, some [iv (vB c k b)])]) := by
 by_cases h : c < 0
 ·have e : vB c k b = (k : Int) := by unfold vB; rw [if_pos h]
  rw [e]
  (refine bX Tryz.func51 rfl (by simp [Tryz.ntmps51]) ?_; rw [Tryz.ntmps51])
  repeat' (first|(apply aK;first|(apply aE;rfl;rfl)|(apply aN;rfl;rfl;rfl;rfl)|(apply aU;rfl;rfl;rfl;rfl)|(apply aF;kernel_rfl)|(apply aW;rfl;rfl;rfl;rfl;rfl;(case hl => (simp;done));(exact (rfl:_=[_]))))|(apply aL;first|apply aH|apply aB|(apply aP;rfl;all_goals intro hc;have hq:=hc;(try simp only [cH] at hq);try exfalso;omega))|with_reducible apply aA)
  all_goals try (exfalso;omega)
  refine BT (l := []) rfl ?_
  exact bV () trivial rfl ⟨.inr rfl, trivial⟩
 ·have e : vB c k b = c := by unfold vB; rw [if_neg h]
  rw [e]
  (refine bX Tryz.func51 rfl (by simp [Tryz.ntmps51]) ?_; rw [Tryz.ntmps51])
  repeat' (first|(apply aK;first|(apply aN;rfl;rfl;rfl;rfl)|(apply aU;rfl;rfl;rfl;rfl)|(apply aF;kernel_rfl))|(apply aL;first|apply aH|apply aB|(apply aP;rfl;all_goals intro hc;have hq:=hc;(try simp only [cH] at hq);try exfalso;omega)|apply aT)|with_reducible apply aA)
  all_goals try (exfalso;omega)
  refine BT (l := []) rfl ?_
  exact bV () trivial rfl ⟨.inr rfl, trivial⟩
theorem C9 (p : Prg) (L : Nat) : ∀ k, Bf vB p L (-1) k = match (List.range k).find? (gG p L) with | some n => (n : Int) | none => -1
 | 0 => rfl
 | k + 1 => by
  have ih := C9 p L k
  rw [List.range_succ, List.find?_append]
  cases h : (List.range k).find? (gG p L) with
  | some n =>
   rw [h] at ih
   dsimp only at ih
   have : Bf vB p L (-1) (k + 1) = (n : Int) := by
    cases hb : gG p L k with
    | true => rw [yM hb, ih]; unfold vB;rw [if_neg (show ¬ ((n : Int) < 0) from Int.not_lt.2 (Int.natCast_nonneg n))]
    | false => rw [tN hb, ih]
   rw [this]; rfl
  | none =>
   rw [h] at ih
   dsimp only at ih
   cases hb : gG p L k with
   | true =>
    rw [yM hb, ih]
    have : [k].find? (gG p L) = some k := by rw [List.find?_cons_of_pos hb]
    rw [this]; rfl
   | false =>
    rw [tN hb, ih]
    have : [k].find? (gG p L) = none := by rw [List.find?_cons_of_neg (by rw [hb]; decide)]; rfl
    rw [this]; rfl
theorem u7 (p : Prg) (l : Int) (hl : p.types.length ≤ 1000000) (hs : cA p.body ≤ 1000000) : PC Tryz.prog 19 [dM p, iv l] (fun r => r = .tup [sl cI (Ff p l), bv (y9 p l).isSome]) := by
 have hw := G8 51 vB (-1) p l hl hs (fun L k a _ => H8 k a _)
 have harg : RnL (([1] : List Nat)[·]?) [dM p, iv l, .clos (.func 51) [] [.optr 0 0]] [dM p, iv l, .clos (.func 51) [] [.optr 1 0]] := RnL.cons (RnV.purI inferInstance) (RnL.cons (RnV.purI inferInstance) (RnL.cons (RnV.clos .nil (RnL.cons (RnV.optr rfl) .nil)) .nil))
 have hst : (if qD p l = true then Bf vB p l.toNat (-1) (2 ^ l.toNat) else -1) = match y9 p l with | some n => (n : Int) | none => -1 := by
  unfold y9
  by_cases h : qD p l = true
  ·rw [if_pos h, if_pos h, C9]
  ·rw [if_neg h, if_neg h]
 rw [hst] at hw
 unfold Ff
 cases hf : y9 p l with
 | none =>
  rw [hf] at hw
  dsimp only at hw ⊢
  generalize qD p l = b at *
  (refine aS Tryz.func19 rfl (by simp [Tryz.ntmps19]) ?_; rw [Tryz.ntmps19])
  repeat' (first|(apply aK;first|(apply aE;rfl;rfl)|(apply aV;rfl;rfl;(exact (rfl:_=[_, _]));rfl;rfl;rfl)|(apply aC;rfl;rfl)|(apply aF;kernel_rfl)|(apply fD;rfl;rfl;rfl)|(apply bH;rfl;rfl;rfl;rfl)|(apply bD;rfl;rfl)|(apply aW;rfl;rfl;rfl;rfl;rfl;(decide);(exact (rfl:_=[_]))))|(apply aL;first|apply aH|apply aB)|with_reducible apply aA)
  refine cB (k := 45) (avs := [dM p, iv l, .clos (.func 51) [] [.optr 1 0]]) (rr' := bv b) [1] 1 [(1, some [iv (-1)])] hw rfl rfl ⟨⟨_, _, rfl, rfl, RnL.purI inferInstance⟩, trivial⟩ rfl harg rfl (RnV.purI inferInstance) rfl ⟨⟨0, _, rfl, rfl, RnL.purI inferInstance⟩, trivial⟩ rfl ?_
  repeat' (first|(apply aK;first|(apply aN;rfl;rfl;rfl;rfl)|(apply aU;rfl;rfl;rfl;rfl)|(apply aC;rfl;rfl)|(apply aF;kernel_rfl))|(apply aL;first|apply aH|apply aB|(apply bZ;rfl;(rfl))|apply aQ)|with_reducible apply aA|with_reducible apply bE)
  refine cE (Le.nilImm (d := 4) rfl) ?_
  exact aO (l := [.imm 0 [], bv false]) rfl ⟨rfl, rfl⟩
 | some n =>
  rw [hf] at hw
  dsimp only at hw ⊢
  have hb : n ≤ 64 ∧ 0 ≤ l ∧ l ≤ 6 := by
   unfold y9 at hf
   split at hf
   ·rename_i h
    obtain ⟨_, h0, h1⟩ := kH.1 h
    have := List.mem_of_find?_eq_some hf
    have hp : 2 ^ l.toNat ≤ 2 ^ 6 := Nat.pow_le_pow_right (by decide) (by omega)
    have := List.mem_range.1 this
    omega
   ·cases hf
  obtain ⟨hn, h0, h1⟩ := hb
  obtain ⟨L, rfl⟩ := Int.eq_ofNat_of_zero_le h0
  have hch := mM n L (by omega) (by omega)
  rw [Int.toNat_natCast]
  generalize qD p (L : Int) = b at *
  (refine aS Tryz.func19 rfl (by simp [Tryz.ntmps19]) ?_; rw [Tryz.ntmps19])
  repeat' (first|(apply aK;first|(apply aE;rfl;rfl)|(apply aV;rfl;rfl;(exact (rfl:_=[_, _]));rfl;rfl;rfl)|(apply aC;rfl;rfl)|(apply aF;kernel_rfl)|(apply fD;rfl;rfl;rfl)|(apply bH;rfl;rfl;rfl;rfl)|(apply bD;rfl;rfl)|(apply aW;rfl;rfl;rfl;rfl;rfl;(decide);(exact (rfl:_=[_]))))|(apply aL;first|apply aH|apply aB)|with_reducible apply aA)
  refine cB (k := 45) (avs := [dM p, iv (L : Int), .clos (.func 51) [] [.optr 1 0]]) (rr' := bv b) [1] 1 [(1, some [iv (n : Int)])] hw rfl rfl ⟨⟨_, _, rfl, rfl, RnL.purI inferInstance⟩, trivial⟩ rfl harg rfl (RnV.purI inferInstance) rfl ⟨⟨0, _, rfl, rfl, RnL.purI inferInstance⟩, trivial⟩ rfl ?_
  repeat' (first|(apply aK;first|((with_reducible apply aJ (k := 52));(case ha => rfl);(case h => exact hch);(case hp => (rfl));(case hN => rfl))|(apply aE;rfl;rfl)|(apply aN;rfl;rfl;rfl;rfl)|(apply aU;rfl;rfl;rfl;rfl)|(apply aC;rfl;rfl)|(apply aF;kernel_rfl))|(apply aL;first|apply aH|apply aB|(apply cG;rfl;(rfl))|apply aT|apply aQ)|with_reducible apply aA)
  exact aO (l := [sl cI (jY n L), bv true]) rfl ⟨rfl, Pur.pf⟩
theorem CT {w : World} {bad : Nat → Prop} {ι : Pl} {b : Nat} : ∀ (cs cs' : List AV) (o : Nat), RdC w bad ι (cs ++ cs') b o → RdC w bad ι cs b o
 | [], _, _, _ => by simp only [RdC]
 | c :: cs, cs', o, h => by
  rw [List.cons_append] at h
  simp only [RdC] at h ⊢
  exact ⟨h.1, CT cs cs' (o + 1) h.2⟩
theorem Le.immPre {ts : List (Nat × AV)} {hs : List (Nat × Option (List AV))} {n : Nat} {z0 : Lo} {d k : Nat} {cs cs' : List AV} (h : lk ts d = some (.imm k (cs ++ cs'))) : Le ⟨ts, hs, n, z0⟩ ⟨(d, .imm k cs) :: ts, hs, n, z0⟩ :=
 Le.slot h fun w bad ι y hy => by
  simp only [Rd] at hy ⊢
  obtain ⟨a, c, rfl, hy⟩ := hy
  refine ⟨a, c, rfl, ?_⟩
  rcases hy with hy | ⟨b, o, h1, h2, h3⟩
  ·exact .inl hy
  ·refine .inr ⟨b, o, h1, h2, ?_⟩
   rcases h3 with h3 | ⟨h3, h4⟩
   ·exact .inl (List.append_eq_nil_iff.1 h3).1
   ·exact .inr ⟨h3, CT cs cs' o h4⟩
theorem FI (zs : List Int) (h : zs.length ≤ 1000000) : MC Tryz.prog 54 [.own 0 0 zs.length 1] [(0, some (aI cI zs))] 1 (fun _ : Unit => True) (fun _ => .tup []) (fun _ => [(0, some (aI cI (rG zs)))]) := by
 have hr : ∀ (w : World) (bad : Nat → Prop) (ι : Pl), Rd w bad ι (.tup []) (.tuple #[]) := fun w bad ι => by
  simp only [Rd]; exact ⟨[], rfl, by simp only [RdV]⟩
 refine Fq (mR zs) (fun _ a cap w => (Tryz.slices_Sort_int_none a cap w).mono ?_) (fun blk off cap w hH hb _ => (Tryz.slices_Sort_int blk off cap zs w hH hb (by omega)).mono ?_)
 ·rintro e w' ⟨rfl, rfl⟩
  exact ⟨_, rfl, rfl, fun ι bad _ => hr _ _ _⟩
 ·rintro e w' ⟨rfl, n, os, rfl⟩
  exact ⟨_, n, os, rfl, rfl, fun ι bad _ _ => hr _ _ _⟩
theorem wT (zs : List Int) (h : zs.length ≤ 1000000) : MC Tryz.prog 55 [.own 0 0 zs.length 1] [(0, some (aI cI zs))] 1 (fun _ : Unit => True) (fun _ => .own 0 0 (Lib.compact zs).length 1) (fun _ => [(0, some (aI cI (Lib.compact zs ++ List.replicate (zs.length - (Lib.compact zs).length) 0)))]) := by
 have hc := kD zs
 refine Fq (by rw [List.length_append, List.length_replicate]; omega) (fun hz a cap w => (Tryz.slices_Compact_int_empty a cap w).mono ?_) (fun blk off cap w hH hb hcap => (Tryz.slices_Compact_int blk off cap zs w hH (by omega) hcap).mono ?_)
 ·rintro e w' ⟨rfl, rfl⟩
  refine ⟨_, rfl, rfl, fun ι bad h => ?_⟩
  have h0 : (Lib.compact zs).length = 0 := by omega
  rw [h0]
  simp only [Rd]
  rcases h with ⟨h1, rfl | ⟨b, β, h2, rfl, h3⟩⟩
  ·exact .inl ⟨h1, trivial, a, rfl⟩
  ·exact .inr ⟨b, β, cap, h2, rfl, Nat.zero_le _, by omega⟩
 ·rintro e w' ⟨rfl, n, rfl⟩
  refine ⟨_, n, #[], rfl, by rw [Sort.grow_empty], fun ι bad h1 h2 => ?_⟩
  simp only [Rd]
  exact .inr ⟨blk, off, cap, h1, rfl, by omega, by omega⟩
theorem IE (a b : Int) (xs : List Int) (m : Nat) (hm : m = xs.length) (hx : m ≤ 1000) : MC Tryz.prog 53 [iv a, iv b, .optr 0 0] [(0, some [.own 1 0 m 1]), (1, some (aI cI xs))] 2 (fun _ : Unit => True) (fun _ => .tup []) (fun _ => [(0, some [.own 3 0 (m + 1) 1]), (3, some (aI cI (xs ++ [b])))]) := by
 (refine bX Tryz.func53 rfl (by simp [Tryz.ntmps53]) ?_; rw [Tryz.ntmps53])
 repeat' (first|(apply aK;first|(apply aE;rfl;rfl)|(apply aN;rfl;rfl;rfl;rfl)|(apply bY;rfl;rfl;rfl;rfl;rfl;(rw [aR]; omega);(rfl);omega;omega;(exact gW (by (assumption)));rfl;rfl)|(apply aF;kernel_rfl)|((apply bF (t := _));(case hze|hsm|hl => rfl);(case hfl => exact (rfl:_=some [_]));(case hM|hN => rfl))|(apply aW;rfl;rfl;rfl;rfl;rfl;(case hl => (simp;done));(exact (rfl:_=[_]))))|(apply aL;(apply aB)))
 refine BT (l := []) rfl ?_
 exact bV () trivial rfl ⟨.inr rfl, .inr rfl, trivial⟩
theorem GJ (p : Prg) (l : Int) (h : qD p l = true) (hl : p.types.length ≤ 1000000) (hs : cA p.body ≤ 1000000) : MC Tryz.prog 45 [dM p, iv l, .clos (.func 53) [] [.optr 0 0]] [(0, some [.v (.slice none 0 0)])] 1 (fun _ : Unit => True) (fun _ => bv true)
  (fun _ => [(0, some [.own 2 0 (Ch (gG p l.toNat) (fun j => tT p (jY j l.toNat) 80) (2 ^ l.toNat)).length 1]), (2, some (aI cI (Ch (gG p l.toNat) (fun j => tT p (jY j l.toNat) 80) (2 ^ l.toNat))))]) := by
 have hv0 := l5 p hl (by omega)
 have hil := nO l
 obtain ⟨hv, h0, h1⟩ := kH.1 h
 rw [hv] at hv0
 obtain ⟨L, rfl⟩ := Int.eq_ofNat_of_zero_le h0
 rw [show (decide (0 ≤ (L : Int)) && decide ((L : Int) ≤ 6)) = true by rw [decide_eq_true h0, decide_eq_true h1]; rfl] at hil
 have hp : 2 ^ L ≤ 2 ^ 6 := Nat.pow_le_pow_right (by decide) (by omega)
 rw [Int.toNat_natCast]
 (refine bX Tryz.func45 rfl (by simp [Tryz.ntmps45]) ?_; rw [Tryz.ntmps45])
 repeat' (first|(apply aK;first|((with_reducible apply aJ (k := 25));(case ha => rfl);(case h => exact hv0);(case hp => (exact Pur.pf));(case hN => rfl))|((with_reducible apply aJ (k := 92));(case ha => rfl);(case h => exact hil);(case hp => (rfl));(case hN => rfl))|(apply aE;rfl;rfl)|(apply aV;rfl;rfl;(exact (rfl:_=[_, _]));rfl;rfl;rfl)|(apply a6;rfl;rfl;rfl;(rfl))|(apply iK;rfl;rfl;infer_instance;omega;rfl;(case' kk => intro hsm))|(apply aC;rfl;rfl)|(apply bG;rfl;(rfl);rfl;rfl)|(apply aF;kernel_rfl)|(apply cF;rfl;rfl)|(apply bH;rfl;rfl;rfl;rfl))|(apply aL;first|apply aH|apply aB|(apply cG;rfl;(rfl))|apply aM|apply aT)|with_reducible apply aA)
 rw [Int.toNat_natCast]
 generalize hT : 2 ^ L = T at *
 refine AW.le ?_ (Le.nilCell (i := 0) 1 [] rfl (by decide) (by decide))
 refine a8 (σ := Nat × List Int × Nat) [1, 2, 3, 19] [(1, _), (2, _), (3, _), (19, _)] [] [] (fun s => [(20, iv (s.1 : Int))]) (fun s => [(0, some [.own 2 0 s.2.2 1]), (1, some [sl cI p.types, sl bO p.body]), (2, some (aI cI s.2.1))]) (fun s => s.1 ≤ T ∧ s.2.1 = Ch (gG p L) (fun j => tT p (jY j L) 80) s.1 ∧ s.2.2 = s.2.1.length) (fun s => T - s.1) (0, [], 0) ⟨Nat.zero_le _, rfl, rfl⟩ rfl rfl (by repeat' (first|exact trivial|refine And.intro rfl ?_)) (by repeat' (first|exact trivial|refine And.intro (.inr rfl) ?_)) ?_
 rintro ⟨k, xs, m⟩ ⟨hk, hxs, hm⟩
 dsimp only at hk hxs hm
 try dsimp only
 have hxl := Da (B := gG p L) (A := fun j => tT p (jY j L) 80) (k := k)
 have hch1 := HB (B := gG p L) (A := fun j => tT p (jY j L) 80) (k := k)
 have hcs1 := GN (B := gG p L) (A := fun j => tT p (jY j L) 80) (k := k)
 rw [← hxs] at hxl hch1 hcs1
 try dsimp only at hch1
 have hch := mM k L (by omega) (by omega)
 have hru := BK p (jY k L) 80 hl hs (by rw [mZ]; omega)
 have hto := IE (k : Int) (tT p (jY k L) 80) xs m hm (by omega)
 have hbd : gG p L k = (decide (uP p (jY k L) 80 ≠ 0) && decide (uP p (jY k L) 80 ≠ 1)) := rfl
 generalize uP p (jY k L) 80 = e at hru hbd
 generalize tT p (jY k L) 80 = a at hru hch1 hto
 repeat' (first|(apply aK;first|((with_reducible apply aJ (k := 52));(case ha => rfl);(case h => exact hch);(case hp => (rfl));(case hN => rfl))|((with_reducible apply aJ (k := 13));(case ha => rfl);(case h => exact hru);(case hp => (exact Pur.pf));(case hN => rfl))|(apply aE;rfl;rfl)|(apply aV;rfl;rfl;(exact (rfl:_=[_, _]));rfl;rfl;rfl)|(first|(apply a6;rfl;rfl;rfl;(assumption))|(apply bB;rfl;rfl;rfl;(assumption))|(apply bR;(case hj|hb|hN => rfl);all_goals (intro hg;have hq := hg;(try simp only [cH] at hq);(try (exfalso;omega)))))|(first|(apply bS;rfl;rfl;omega;rfl)|(apply aU;rfl;rfl;rfl;rfl))|(apply aC;rfl;rfl)|(first|(apply bU;rfl;(assumption);rfl;rfl)|(apply bG;rfl;(assumption);rfl;rfl))|(apply aF;kernel_rfl)|(apply bC;rfl;rfl;rfl))|(apply aL;first|apply aH|apply aB|(apply b9;kernel_rfl)|(apply cG;rfl;(rfl))|(apply aP;rfl;all_goals intro hc;have hq:=hc;(try simp only [cH] at hq);try exfalso;omega)|apply aM|apply aT|apply bK|apply aQ)|with_reducible apply aA|with_reducible apply bI|with_reducible apply aX|with_reducible apply bJ)
 ·have hbt : gG p L k = true := by rw [hbd]; simp_all
  refine vQ (k := 53) (avs := [iv (k : Int), iv a]) (avs0 := [iv (k : Int), iv a, .optr 0 0]) (rr' := .tup []) [0, 2] 4 [(0, some [.own 4 0 (m + 1) 1]), (4, some (aI cI (xs ++ [a]))), (2, none)] hto rfl rfl rfl rfl ⟨⟨_, _, rfl, rfl, RnL.cons (RnV.own rfl) .nil⟩, ⟨_, _, rfl, rfl, RnL.purI inferInstance⟩, trivial⟩ rfl (RnL.cons (RnV.purI inferInstance) (RnL.cons (RnV.purI inferInstance) (RnL.cons (RnV.optr rfl) .nil))) rfl (RnV.purI inferInstance) rfl ⟨⟨0, _, rfl, rfl, RnL.cons (RnV.own rfl) .nil⟩, ⟨3, _, rfl, rfl, RnL.purI inferInstance⟩, trivial⟩ rfl ?_
  repeat' (first|(apply aK;first|(apply aE;rfl;rfl)|(apply bS;rfl;rfl;omega;rfl)|(apply aF;kernel_rfl))|(apply aL;(apply aB))|with_reducible apply aA|with_reducible apply aX)
  (apply dJ (k + 1, xs ++ [a], m + 1);focus (refine Le.renK [(1, 1), (2, 4)] rfl (by decide) ?_ ?_ <;> repeat' (first|exact trivial|refine And.intro ⟨_, rfl, .inr ⟨rfl, _, _, _, rfl, by decide⟩⟩ ?_|refine And.intro ⟨_, rfl, .inl ?_⟩ ?_|refine And.intro ⟨_, _, rfl, rfl, ?_⟩ ?_|exact Or.inr rfl|exact Or.inl ⟨rfl, rfl⟩|exact Or.inl ⟨rfl, Pur.pf⟩|refine Or.inr (All2.cons ?_ ?_)|exact All2.nil)))
  ·exact ⟨by dsimp only;omega, (hch1 hbt).symm, by simp [hm]⟩
  ·dsimp only;omega
 ·have hbf : gG p L k = false := by rw [hbd]; simp_all
  (apply dJ (k + 1, xs, m);focus (refine Le.renK [(1, 1), (2, 2)] rfl (by decide) ?_ ?_ <;> repeat' (first|exact trivial|refine And.intro ⟨_, rfl, .inr ⟨rfl, _, _, _, rfl, by decide⟩⟩ ?_|refine And.intro ⟨_, rfl, .inl ?_⟩ ?_|refine And.intro ⟨_, _, rfl, rfl, ?_⟩ ?_|exact Or.inr rfl|exact Or.inl ⟨rfl, rfl⟩|exact Or.inl ⟨rfl, Pur.pf⟩|refine Or.inr (All2.cons ?_ ?_)|exact All2.nil)))
  ·exact ⟨by dsimp only;omega, (hcs1 hbf).symm, hm⟩
  ·dsimp only;omega
 ·have hbf : gG p L k = false := by rw [hbd]; simp_all
  (apply dJ (k + 1, xs, m);focus (refine Le.renK [(1, 1), (2, 2)] rfl (by decide) ?_ ?_ <;> repeat' (first|exact trivial|refine And.intro ⟨_, rfl, .inr ⟨rfl, _, _, _, rfl, by decide⟩⟩ ?_|refine And.intro ⟨_, rfl, .inl ?_⟩ ?_|refine And.intro ⟨_, _, rfl, rfl, ?_⟩ ?_|exact Or.inr rfl|exact Or.inl ⟨rfl, rfl⟩|exact Or.inl ⟨rfl, Pur.pf⟩|refine Or.inr (All2.cons ?_ ?_)|exact All2.nil)))
  ·exact ⟨by dsimp only;omega, (hcs1 hbf).symm, hm⟩
  ·dsimp only;omega
 ·obtain rfl : k = T := by omega
  refine aO rfl ?_
  rw [← hxs, ← hm]
  exact bV () trivial rfl ⟨.inr rfl, .inr rfl, trivial⟩
theorem Ej (p : Prg) (l : Int) (h : qD p l = false) (hl : p.types.length ≤ 1000000) (hs : cA p.body ≤ 1000000) : MC Tryz.prog 45 [dM p, iv l, .clos (.func 53) [] [.optr 0 0]] [(0, some [.v (.slice none 0 0)])] 1 (fun _ : Unit => True) (fun _ => bv false) (fun _ => [(0, some [.v (.slice none 0 0)])]) := by
 have hv0 := l5 p hl (by omega)
 have hil := nO l
 by_cases hv : c8 p = true
 ·have hil2 : (decide (0 ≤ l) && decide (l ≤ 6)) = false := by unfold qD at h; rw [hv] at h; simpa using h
  rw [hv] at hv0
  rw [hil2] at hil
  (refine bX Tryz.func45 rfl (by simp [Tryz.ntmps45]) ?_; rw [Tryz.ntmps45])
  repeat' (first|(apply aK;first|((with_reducible apply aJ (k := 25));(case ha => rfl);(case h => exact hv0);(case hp => (exact Pur.pf));(case hN => rfl))|((with_reducible apply aJ (k := 92));(case ha => rfl);(case h => exact hil);(case hp => (rfl));(case hN => rfl))|(apply aE;rfl;rfl)|(apply aV;rfl;rfl;(exact (rfl:_=[_, _]));rfl;rfl;rfl)|(apply a6;rfl;rfl;rfl;(rfl))|(apply aC;rfl;rfl)|(apply bG;rfl;(rfl);rfl;rfl)|(apply aF;kernel_rfl)|(apply cF;rfl;rfl)|(apply bH;rfl;rfl;rfl;rfl))|(apply aL;first|apply aH|apply aB|(apply bZ;rfl;(rfl))|apply aQ)|with_reducible apply aA|with_reducible apply bE)
  refine aO rfl ?_
  exact bV () trivial rfl ⟨.inr rfl, trivial⟩
 ·have hv2 : c8 p = false := by simpa using hv
  rw [hv2] at hv0
  (refine bX Tryz.func45 rfl (by simp [Tryz.ntmps45]) ?_; rw [Tryz.ntmps45])
  repeat' (first|(apply aK;first|((with_reducible apply aJ (k := 25));(case ha => rfl);(case h => exact hv0);(case hp => (exact Pur.pf));(case hN => rfl))|(apply aE;rfl;rfl)|(apply aV;rfl;rfl;(exact (rfl:_=[_, _]));rfl;rfl;rfl)|(apply bB;rfl;rfl;rfl;(rfl))|(apply aC;rfl;rfl)|(apply bU;rfl;(rfl);rfl;rfl)|(apply aF;kernel_rfl)|(apply cF;rfl;rfl)|(apply bH;rfl;rfl;rfl;rfl))|(apply aL;first|apply aH|apply aB|(apply bZ;rfl;(rfl))|apply aQ)|with_reducible apply aA|with_reducible apply bE)
  refine aO rfl ?_
  exact bV () trivial rfl ⟨.inr rfl, trivial⟩
def FQ (p : Prg) (l : Int) : List Int := if qD p l = true then Ch (gG p l.toNat) (fun j => tT p (jY j l.toNat) 80) (2 ^ l.toNat) else []
theorem CM (p : Prg) (l : Int) : (FQ p l).length ≤ 64 := by
 unfold FQ
 split
 ·rename_i h
  obtain ⟨_, h0, h1⟩ := kH.1 h
  have hp : 2 ^ l.toNat ≤ 2 ^ 6 := Nat.pow_le_pow_right (by decide) (by omega)
  exact Nat.le_trans Da hp
 ·simp
theorem r9 (p : Prg) (l : Int) (hl : p.types.length ≤ 1000000) (hs : cA p.body ≤ 1000000) : PC Tryz.prog 21 [dM p, iv l] (fun r => r = sl cI (Lib.compact (rG (FQ p l)))) := by
 have harg : RnL (([1] : List Nat)[·]?) [dM p, iv l, .clos (.func 53) [] [.optr 0 0]] [dM p, iv l, .clos (.func 53) [] [.optr 1 0]] := RnL.cons (RnV.purI inferInstance) (RnL.cons (RnV.purI inferInstance) (RnL.cons (RnV.clos .nil (RnL.cons (RnV.optr rfl) .nil)) .nil))
 have hlen := CM p l
 by_cases h : qD p l = true
 ·have hw := GJ p l h hl hs
  have e : FQ p l = Ch (gG p l.toNat) (fun j => tT p (jY j l.toNat) 80) (2 ^ l.toNat) := if_pos h
  rw [← e] at hw
  generalize FQ p l = U at *
  have h1 := FI U (by omega)
  have h2 := wT (rG U) (by rw [mR]; omega)
  have hcl := kD (rG U)
  rw [mR] at hcl h2
  (refine aS Tryz.func21 rfl (by simp [Tryz.ntmps21]) ?_; rw [Tryz.ntmps21])
  repeat' (first|(apply aK;first|(apply aE;rfl;rfl)|(apply aV;rfl;rfl;(exact (rfl:_=[_, _]));rfl;rfl;rfl)|(apply aC;rfl;rfl)|(apply aF;kernel_rfl)|(apply fD;rfl;rfl;rfl)|(apply bH;rfl;rfl;rfl;rfl)|(apply bD;rfl;rfl))|(apply aL;first|apply aH|apply aB)|with_reducible apply aA)
  refine cB (k := 45) (avs := [dM p, iv l, .clos (.func 53) [] [.optr 1 0]]) (rr' := bv true) [1] 3 [(1, some [.own 3 0 U.length 1]), (3, some (aI cI U))] hw rfl rfl ⟨⟨_, _, rfl, rfl, RnL.purI inferInstance⟩, trivial⟩ rfl harg rfl (RnV.purI inferInstance) rfl ⟨⟨0, _, rfl, rfl, RnL.cons (RnV.own rfl) .nil⟩, ⟨2, _, rfl, rfl, RnL.purI inferInstance⟩, trivial⟩ rfl ?_
  repeat' (first|(apply aK;first|(apply aN;rfl;rfl;rfl;rfl)|(apply aF;kernel_rfl))|(apply aL;first|apply aH|apply aB)|with_reducible apply aA)
  refine cB (k := 54) (avs := [.own 3 0 U.length 1]) (rr' := .tup []) [3] 1 [(3, some (aI cI (rG U)))] h1 rfl rfl ⟨⟨_, _, rfl, rfl, RnL.purI inferInstance⟩, trivial⟩ rfl (RnL.cons (RnV.own rfl) .nil) rfl (RnV.purI inferInstance) rfl ⟨⟨0, _, rfl, rfl, RnL.purI inferInstance⟩, trivial⟩ rfl ?_
  repeat' (first|(apply aK;first|(apply aN;rfl;rfl;rfl;rfl)|(apply aF;kernel_rfl))|(apply aL;first|apply aH|apply aB)|with_reducible apply aA)
  refine cB (k := 55) (avs := [.own 3 0 U.length 1]) (rr' := .own 3 0 (Lib.compact (rG U)).length 1) [3] 1 [(3, some (aI cI (Lib.compact (rG U) ++ List.replicate (U.length - (Lib.compact (rG U)).length) 0)))] h2 rfl rfl ⟨⟨_, _, rfl, rfl, RnL.purI inferInstance⟩, trivial⟩ rfl (RnL.cons (RnV.own rfl) .nil) rfl (RnV.own rfl) rfl ⟨⟨0, _, rfl, rfl, RnL.purI inferInstance⟩, trivial⟩ rfl ?_
  repeat' (first|(apply aK;first|(apply aC;rfl;rfl)|(apply aF;kernel_rfl))|(apply aL;(apply aQ))|with_reducible apply aA)
  refine cE (Le.frzD (d := 4) (i := 3) rfl rfl) ?_
  refine cE (Le.immPre (d := 4) (cs := aI cI (Lib.compact (rG U))) (by rw [← dQ]; rfl)) ?_
  exact aO rfl ⟨rfl, (show (sl cI (Lib.compact (rG U))).pur = true from PurV.pf)⟩
 ·have h' : qD p l = false := by simpa using h
  have hw := Ej p l h' hl hs
  have e : FQ p l = [] := if_neg h
  rw [e]
  have h1 := FI [] (by simp)
  have h2 := wT (rG []) (by rw [mR]; simp)
  have hcl := kD (rG [])
  rw [mR] at hcl h2
  (refine aS Tryz.func21 rfl (by simp [Tryz.ntmps21]) ?_; rw [Tryz.ntmps21])
  repeat' (first|(apply aK;first|(apply aE;rfl;rfl)|(apply aV;rfl;rfl;(exact (rfl:_=[_, _]));rfl;rfl;rfl)|(apply aC;rfl;rfl)|(apply aF;kernel_rfl)|(apply fD;rfl;rfl;rfl)|(apply bH;rfl;rfl;rfl;rfl)|(apply bD;rfl;rfl))|(apply aL;first|apply aH|apply aB)|with_reducible apply aA)
  refine cB (k := 45) (avs := [dM p, iv l, .clos (.func 53) [] [.optr 1 0]]) (rr' := bv false) [1] 1 [(1, some [.v (.slice none 0 0)])] hw rfl rfl ⟨⟨_, _, rfl, rfl, RnL.purI inferInstance⟩, trivial⟩ rfl harg rfl (RnV.purI inferInstance) rfl ⟨⟨0, _, rfl, rfl, RnL.purI inferInstance⟩, trivial⟩ rfl ?_
  repeat' (first|(apply aK;first|(with_reducible apply cS (d := 10))|(apply aF;kernel_rfl))|(apply aL;first|apply aH|apply aB)|with_reducible apply aA)
  refine dV (iO ?_ (Le.nilCell (i := 1) 1 [] rfl (by decide) (by decide)))
  repeat' (apply aK;(apply aN;rfl;rfl;rfl;rfl))
  refine cB (k := 54) (avs := [.own 2 0 0 1]) (rr' := .tup []) [2] 1 [(2, some (aI cI (rG [])))] h1 rfl rfl ⟨⟨_, _, rfl, rfl, RnL.purI inferInstance⟩, trivial⟩ rfl (RnL.cons (RnV.own rfl) .nil) rfl (RnV.purI inferInstance) rfl ⟨⟨0, _, rfl, rfl, RnL.purI inferInstance⟩, trivial⟩ rfl ?_
  repeat' (first|(apply aK;first|(apply aN;rfl;rfl;rfl;rfl)|(apply aF;kernel_rfl))|(apply aL;first|apply aH|apply aB)|with_reducible apply aA)
  refine cB (k := 55) (avs := [.own 2 0 0 1]) (rr' := .own 2 0 (Lib.compact (rG [])).length 1) [2] 1 [(2, some (aI cI (Lib.compact (rG []) ++ List.replicate (([] : List Int).length - (Lib.compact (rG [])).length) 0)))] h2 rfl rfl ⟨⟨_, _, rfl, rfl, RnL.purI inferInstance⟩, trivial⟩ rfl (RnL.cons (RnV.own rfl) .nil) rfl (RnV.own rfl) rfl ⟨⟨0, _, rfl, rfl, RnL.purI inferInstance⟩, trivial⟩ rfl ?_
  repeat' (first|(apply aK;first|(apply aC;rfl;rfl)|(apply aF;kernel_rfl))|(apply aL;(apply aQ))|with_reducible apply aA)
  refine cE (Le.frzD (d := 4) (i := 2) rfl rfl) ?_
  refine cE (Le.immPre (d := 4) (cs := aI cI (Lib.compact (rG []))) (by rw [← dQ]; rfl)) ?_
  exact aO rfl ⟨rfl, (show (sl cI (Lib.compact (rG []))).pur = true from PurV.pf)⟩
theorem En {p : Prg} {l : Int} {L : List Iss} (hL : c8 p = true → ∃ f : Flows p.types (dE p), L = f.iss) {k : Nat} (h : y9 p l = some k) : qD p l = true ∧ Ff p l = jY k l.toNat ∧ uP p (jY k l.toNat) 80 ≠ 0 ∧ uP p (jY k l.toNat) 80 ≠ 1 ∧
  tT p (jY k l.toNat) 80 ∈ Lib.compact (rG (FQ p l)) ∧ (c8 p && L.isEmpty) = false := by
 have h8 : qD p l = true := by
  apply Classical.byContradiction;intro q
  unfold y9 at h;rw [if_neg q] at h;cases h
 have hf := h
 unfold y9 at hf
 rw [if_pos h8] at hf
 have hb := List.find?_some hf
 have hm := List.mem_range.1 (List.mem_of_find?_eq_some hf)
 have hb2 := hb
 unfold gG at hb2
 simp only [Bool.and_eq_true, decide_eq_true_eq] at hb2
 refine ⟨h8, by unfold Ff;rw [h], hb2.1, hb2.2, ?_, ?_⟩
 ·rw [y7, Ii]
  unfold FQ
  rw [if_pos h8]
  exact Iz.2 ⟨k, hm, hb, rfl⟩
 ·cases q : (c8 p && L.isEmpty) with
  | false => rfl
  | true =>
   obtain ⟨_, h0, h6⟩ := kH.1 h8
   have := FJ (l := l) hL q h0 h6
   rw [h] at this
   simp at this
theorem tE (bs : List UInt8) : PC Tryz.prog 7 [sl cU bs] (fun r => r = bv true) := by
 rcases Nat.lt_or_ge 1048576 bs.length with hb|hb
 ·(refine aS Tryz.func7 rfl (by simp [Tryz.ntmps7]) ?_; rw [Tryz.ntmps7])
  repeat' (first|(apply aK;first|(apply aE;rfl;rfl)|(apply aU;rfl;rfl;rfl;rfl)|(apply aC;rfl;rfl)|(apply bQ;rfl;rfl;rfl)|(apply aF;kernel_rfl))|(apply aL;first|apply aH|apply aB|(apply aP;rfl;all_goals intro hc;have hq:=hc;(try simp only [cH] at hq);try exfalso;omega)|apply aQ)|with_reducible apply aA|with_reducible apply bE)
  exact aO rfl ⟨rfl, rfl⟩
 (refine aS Tryz.func7 rfl (by simp [Tryz.ntmps7]) ?_; rw [Tryz.ntmps7])
 repeat' (first|(apply aK;first|((with_reducible apply jL (k := 26));(case ha => rfl);(case h => exact G0 bs hb);(case hp => (exact Pur.pf));(case hN => rfl);(rintro _ ⟨q, n, rfl, hq1, hq2, hq3, hq4⟩ _))|(with_reducible apply cS (d := 20))|(apply aE;rfl;rfl)|(apply aU;rfl;rfl;rfl;rfl)|(apply aC;rfl;rfl)|(apply bQ;rfl;rfl;rfl)|(apply aF;kernel_rfl)|(apply bD;rfl;rfl)|(apply bC;rfl;rfl;rfl)|(apply aW;rfl;rfl;rfl;rfl;rfl;(case hl => (simp;done));(exact (rfl:_=[_, _]))))|(apply aL;first|apply aH|apply aB|(apply aP;rfl;all_goals intro hc;have hq:=hc;(try simp only [cH] at hq);try exfalso;omega)|apply aT)|with_reducible apply aA)
 refine dV ?_
 have h1 := u7 q n (by omega) (by omega)
 have h2 := u9 q n (by omega) (by omega)
 obtain ⟨L, _, hA, _, hL⟩ := IK q (by omega) (by omega)
 cases hf : y9 q n with
 | none =>
  have e : Ff q n = [] := by unfold Ff;rw [hf]
  rw [hf, e] at h1 h2
  have h3 := AK [] (by simp)
  repeat' (first|(apply aK;first|((with_reducible apply aJ (k := 19));(case ha => rfl);(case h => exact h1);(case hp => (exact Pur.pf));(case hN => rfl))|((with_reducible apply aJ (k := 27));(case ha => rfl);(case h => exact h2);(case hp => (exact Pur.pf));(case hN => rfl))|((with_reducible apply aJ (k := 28));(case ha => rfl);(case h => exact h3);(case hp => (rfl));(case hN => rfl))|(apply aE;rfl;rfl)|(apply aV;rfl;rfl;(exact (rfl:_=[_, _]));rfl;rfl;rfl)|(apply a6;rfl;rfl;rfl;(rfl))|(apply Cz;rfl;rfl;rfl;rfl)|(apply aC;rfl;rfl)|(first|(apply bU;rfl;(rfl);rfl;rfl)|(apply bG;rfl;(rfl);rfl;rfl))|(apply aF;kernel_rfl)|(apply cF;rfl;rfl)|(apply bC;rfl;rfl;rfl))|(apply aL;first|apply aH|apply aB|(apply bZ;rfl;(rfl))|apply aQ)|with_reducible apply aA|with_reducible apply bE)
  all_goals first
   | (exfalso;exact (by assumption : ¬ True) trivial)
   | (refine aO rfl ⟨?_, rfl⟩; simp only [bW, decide_true]; done)
   | (exfalso;simp_all;done)
 | some k =>
  obtain ⟨h8, e, e0, e1, hin, hac⟩ := En hL hf
  obtain ⟨_, h0, h6⟩ := kH.1 h8
  have hkl := mZ k n.toNat
  rw [hf, e] at h1 h2
  have h3 := AK (jY k n.toNat) (by omega)
  have h4 := BK q (jY k n.toNat) 80 (by omega) (by omega) (by omega)
  have h5 := r9 q n (by omega) (by omega)
  have hUl := kD (rG (FQ q n))
  have hUl2 := CM q n
  rw [mR] at hUl
  have h7 := Kw (Lib.compact (rG (FQ q n))) (tT q (jY k n.toNat) 80) (by omega)
  rw [decide_eq_true hin] at h7
  rw [hac] at hA
  clear hin
  generalize Lib.compact (rG (FQ q n)) = U at *
  generalize jY k n.toNat = C at *
  generalize uP q C 80 = x at *
  generalize tT q C 80 = a at *
  repeat' (first|(apply aK;first|((with_reducible apply aJ (k := 19));(case ha => rfl);(case h => exact h1);(case hp => (exact Pur.pf));(case hN => rfl))|((with_reducible apply aJ (k := 27));(case ha => rfl);(case h => exact h2);(case hp => (exact Pur.pf));(case hN => rfl))|((with_reducible apply aJ (k := 28));(case ha => rfl);(case h => exact h3);(case hp => (exact Pur.pf));(case hN => rfl))|((with_reducible apply aJ (k := 13));(case ha => rfl);(case h => exact h4);(case hp => (exact Pur.pf));(case hN => rfl))|((with_reducible apply aJ (k := 21));(case ha => rfl);(case h => exact h5);(case hp => (exact Pur.pf));(case hN => rfl))|((with_reducible apply aJ (k := 29));(case ha => rfl);(case h => exact h7);(case hp => (exact Pur.pf));(case hN => rfl))|((with_reducible apply aJ (k := 15));(case ha => rfl);(case h => exact hA);(case hp => (exact Pur.pf));(case hN => rfl))|(apply aE;rfl;rfl)|(apply aV;rfl;rfl;(exact (rfl:_=[_, _]));rfl;rfl;rfl)|(first|(apply a6;rfl;rfl;rfl;(first|rfl|assumption))|(apply bR;(case hj|hb|hN => rfl);all_goals (intro hg;have hq := hg;(try simp only [cH] at hq);(try (exfalso;omega)))))|(first|(apply Cz;rfl;rfl;rfl;rfl)|(apply aU;rfl;rfl;rfl;rfl))|(apply aC;rfl;rfl)|(first|(apply bU;rfl;(first|rfl|assumption);rfl;rfl)|(apply bG;rfl;(rfl);rfl;rfl))|(apply bQ;rfl;rfl;rfl)|(apply aF;kernel_rfl)|(apply cF;rfl;rfl)|(apply bC;rfl;rfl;rfl))|(apply aL;first|apply aH|apply aB|(apply cG;rfl;(rfl))|apply aT|apply aQ)|with_reducible apply aA)
  all_goals first
   | (exfalso;exact (by assumption : ¬ True) trivial)
   | (refine aO rfl ⟨?_, rfl⟩; simp only [bW, decide_true]; done)
   | (refine aO rfl ⟨?_, rfl⟩; simp only [bW]; grind)
   | (exfalso;grind)
end Go.Proofs.YtckihjkcgfphmaaGreat
namespace Go.Proofs.YtckihjkcgfphmaaGreat
open Go.AL Go.ChangeShapes Go.WideShapes Go.ChangeAt Go.RowKit
theorem wL {w : World} {bad : Nat → Prop} {ι : Pl} {b : Nat} : ∀ (bs : List UInt8) (o : Nat), ¬ bad b → (∀ j, j < bs.length → w.cell? ⟨b, o + j, none⟩ = some (.int .u8 ((bs[j]!).toNat : Int))) → RdC w bad ι (aI cU bs) b o
 | [], _, _, _ => by simp only [aI, List.flatMap_nil, RdC]
 | x :: bs, o, hb, h => by
  have h0 := h 0 (by simp)
  have e : aI cU (x :: bs) = .v (.int .u8 (x.toNat : Int)) :: aI cU bs := rfl
  rw [e]
  simp only [RdC]
  refine ⟨⟨.int .u8 (x.toNat : Int), by simpa using h0, rfl, by simp only [Rd]⟩, wL bs (o + 1) hb fun j hj => ?_⟩
  have := h (j + 1) (by simpa using hj)
  rw [show o + 1 + j = o + (j + 1) from by omega]
  simpa using this
theorem Ba {P : Program} {k : FuncId} {bs : List UInt8} (h : PC P k [sl cU bs] (fun r => r = bv true)) {W : World} {v : Value} (hv : Rd W (fun _ => False) (fun _ => none) (sl cU bs) v) :
  Calls P k #[v] W fun e W' => e = .returned (.bool true) ∧ Below W.heap.size W W' := by
 let C : Ctx := { N := 0, w0 := W, W0 := fun _ => False, X := fun _ => False, ι0 := fun _ => none, xlt := fun _ h => h.elim }
 have hbad : ∀ b, ¬ a7 C.X (fun _ => none) (cK []) b := by
  rintro b (h | ⟨id, cs, β, h1, h2⟩)
  ·exact h
  ·cases h2
 have g : HG C (fun _ => none) (fun j => 0 ≤ j) (cK []) W :=
  ⟨fun id cs h => by simp [cK] at h, fun id id' cs cs' b β β' h => by simp [cK] at h, Fr.refl _ _, fun _ _ h => h, fun _ _ => rfl⟩
 have hcar : Carry W (fun _ => False) (fun _ => none) W (a7 C.X (fun _ => none) (cK [])) (fun _ => none) := ⟨fun b o x _ h2 => ⟨hbad b, h2⟩, fun _ _ h => h, fun _ => Nat.le_refl _⟩
 have ha : RdV W (a7 C.X (fun _ => none) (cK [])) (fun _ => none) [sl cU bs] [v] := by
  simp only [RdV]
  exact ⟨v, [], rfl, Rd.carry hcar _ _ hv, rfl⟩
 refine (h C _ W [v] rfl rfl g ha).mono ?_
 rintro e W' ⟨v', r, H', ι', rfl, ⟨rfl, _⟩, h4, h5⟩
 simp only [Rd] at h4
 subst h4
 have f := h5.fr
 exact ⟨rfl, f.os, f.tape, f.output, f.size, fun b hb => f.block b hb (fun h => h)⟩
theorem L9 : laidOutB Tryz.prog = true := by kernel_rfl
theorem K0 : Tryz.prog.cellsOf 5 = 1 := by kernel_rfl
theorem F0 {H : Type} {enc : TypeId × Value → H} {W : World} {base : Nat} {v0 : Value} {d0 : DataW H} {p : List MemPlace} (hval : Value.okWide Tryz.prog W .any base 22 v0) (h0 : DataW.Trod enc Tryz.prog W 0 (fun _ => true) true 22 v0 d0 p) :
  ∃ bs : List UInt8, Rd W (fun _ => False) (fun _ => none) (sl cU bs) v0 := by
 obtain ⟨a0, len, cap, rfl⟩ := okWide_slice Tryz.underlying22 hval
 obtain ⟨fuel, hf⟩ := h0
 rcases open_ints Tryz.underlying22 Tryz.underlying5 K0 hf with ⟨hcs, hx⟩ | ⟨a, len', cap', zs, hcs, _, hl, hm, hz, hx, hcell, hwz⟩
 ·simp [Value.cells] at hcs
  obtain ⟨rfl, rfl, rfl⟩ := hcs
  refine ⟨[], ?_⟩
  simp only [Rd]
  exact ⟨none, 0, rfl, .inl rfl⟩
 ·simp [Value.cells] at hcs
  obtain ⟨rfl, rfl, rfl⟩ := hcs
  simp only [if_true] at hz
  refine ⟨(zs.take len).map fun n => UInt8.ofNat n.toNat, ?_⟩
  have hlen : ((zs.take len).map fun n => UInt8.ofNat n.toNat).length = len := by simp;omega
  simp only [Rd]
  refine ⟨some a, cap, by rw [hlen], ?_⟩
  by_cases h00 : len = 0
  ·exact .inl (by rw [hlen]; exact h00)
  ·obtain ⟨b, off, spot⟩ := a
   have hspot : spot = none := by simpa [Addr.add] using World.cell?_spot (hcell 0 (by omega))
   subst hspot
   refine .inr ⟨b, off, by rw [hlen]; exact hl, rfl, .inr ⟨fun h => h, wL _ _ (fun h => h) fun j hj => ?_⟩⟩
   rw [hlen] at hj
   have hcj := hcell j (by omega)
   rw [Addr.add_lit] at hcj
   rw [hcj]
   have e : zs.getD j 0 = zs[j]'(by omega) := by simp [List.getD, List.getElem?_eq_getElem (show j < zs.length by omega)]
   have hw := hwz (zs[j]'(by omega)) (List.getElem_mem _)
   have hr : 0 ≤ zs[j]'(by omega) ∧ zs[j]'(by omega) ≤ 255 := by simpa [Lit.wf, IntKind.min, IntKind.max, IntKind.signed, IntKind.bits] using hw
   rw [e, cT _ _ (by rw [hlen]; exact hj)]
   simp only [List.getElem_map, List.getElem_take]
   congr 2
   simp only [UInt8.toNat_ofNat']
   omega
end Go.Proofs.YtckihjkcgfphmaaGreat
