/-
 A part of the proofs over this program: rules and contracts of its functions (the contracts).
-/
import Derived.Test.YtjcpngimjdckmaaGreatQ4B02
set_option linter.unusedVariables false
set_option linter.unusedSimpArgs false
set_option maxHeartbeats 8000000
set_option maxRecDepth 4000
attribute [local irreducible] Go.AL.RW Go.AL.AW Go.AL.Stop
namespace Go.Proofs.YtjcpngimjdckmaaGreat
open Go.AL Go.RowKit
instance : BoT Tryz.prog 4 := ⟨by kernel_rfl⟩
theorem nV (x : Pnt) : PC Tryz.prog 137 [oH x] (fun r => r = iv (bR x)) := by
 (refine aQ Tryz.func137 rfl (by simp [Tryz.ntmps137]) ?_; rw [Tryz.ntmps137])
 repeat' (first|(apply aM;first|(apply aD;rfl;rfl)|(apply aL;rfl;rfl;rfl;rfl)|(apply aE;rfl;rfl;rfl)|(first|(apply a9;rfl;rfl;rfl;(assumption))|(apply aZ;rfl;rfl;rfl;(assumption))|(apply bC;(case hj|hb|hN => rfl);all_goals (intro hg;have hq := hg;(try simp only [cD] at hq);(try (exfalso;omega)))))|(apply aV;rfl;rfl;rfl;rfl)|(apply aC;rfl;rfl)|(first|(apply bI;rfl;(assumption);rfl;rfl)|(apply bH;rfl;(assumption);rfl;rfl))|(apply aF;kernel_rfl)|(apply bW;rfl;rfl;rfl;rfl))|(apply aO;first|apply aH|apply aB|(apply cF;rfl;(rfl))|(apply aP;rfl;all_goals intro hc;have hq:=hc;(try simp only [cD] at hq);try exfalso;omega)|apply aS|apply aW)|with_reducible apply aA|with_reducible apply b0|((with_reducible apply aU);case hr => rfl))
 all_goals (refine ⟨?_, rfl⟩; simp only [bQ, AV.v.injEq, Value.bool.injEq, Value.int.injEq, true_and])
 all_goals grind [bR]
theorem mL (ts : List Int) (x : Pnt) (v : Int) (h : 0 ≤ v ∧ v < ts.length) : PC Tryz.prog 136 [sl cI ts, oH x, iv v] (fun r => r = iv (cE ts x v)) := by
 (refine aQ Tryz.func136 rfl (by simp [Tryz.ntmps136]) ?_; rw [Tryz.ntmps136])
 repeat' (first|(apply aM;first|(apply aD;rfl;rfl)|(apply aL;rfl;rfl;rfl;rfl)|(apply aE;rfl;rfl;rfl)|(first|(apply a9;rfl;rfl;rfl;(assumption))|(apply aZ;rfl;rfl;rfl;(assumption))|(apply bC;(case hj|hb|hN => rfl);all_goals (intro hg;have hq := hg;(try simp only [cD] at hq);(try (exfalso;omega)))))|(apply aV;rfl;rfl;rfl;rfl)|(apply aC;rfl;rfl)|(first|(apply bI;rfl;(assumption);rfl;rfl)|(apply bH;rfl;(assumption);rfl;rfl))|(apply cC;(case hx|hi => rfl);(case hm => (assumption));(case hml => (rfl));(case hα | hf|hg => infer_instance);(case hN => rfl))|(apply aF;kernel_rfl)|(apply bW;rfl;rfl;rfl;rfl))|(apply aO;first|apply aH|apply aB|(apply bX;rfl;(first|rfl|assumption))|(apply aP;rfl;all_goals intro hc;have hq:=hc;(try simp only [cD] at hq);try exfalso;omega)|apply aJ|apply aS|apply aW)|with_reducible apply aA|with_reducible apply b0|with_reducible apply aT|with_reducible apply eQ|((with_reducible apply aU);case hr => rfl))
 all_goals (refine ⟨?_, rfl⟩; simp only [bQ, AV.v.injEq, Value.bool.injEq, Value.int.injEq, true_and])
 all_goals grind [cE]
theorem uE (a b : List Bool) (hab : a.length = b.length) (hl : a.length ≤ 1000000) : PC Tryz.prog 113 [sl cB a, sl cB b] (fun r => r = bv (decide (a = b))) := by
 (refine aQ Tryz.func113 rfl (by simp [Tryz.ntmps113]) ?_; rw [Tryz.ntmps113])
 repeat' (first|(apply aM;first|(apply aC;rfl;rfl)|(apply aF;kernel_rfl))|(apply aO;first|apply aH|apply aB|apply aJ)|with_reducible apply aA)
 refine bG (σ := Nat) [0, 1] [(0, _), (1, _)] [] [] (fun k => [(5, iv (k : Int))]) (fun k => []) (fun k => k ≤ a.length ∧ ∀ i, i < k → a[i]! = b[i]!) (fun k => a.length - k) (0) ⟨by omega, by omega⟩ rfl rfl (by repeat' (first|exact trivial|refine And.intro rfl ?_)) (by repeat' (exact trivial)) ?_
 intro k ⟨hk, hall⟩
 repeat' (first|(apply aM;first|(apply aD;rfl;rfl)|(apply aL;rfl;rfl;rfl;rfl)|(first|(apply qA;rfl;rfl;rfl;rfl)|(apply bO;rfl;rfl;omega;rfl)|(apply aV;rfl;rfl;rfl;rfl))|(apply aC;rfl;rfl)|(apply bB;(case hx|hi => rfl);(case hm => (omega));(case hml => (rfl));(case hα | hf|hg => infer_instance);(case hN => rfl))|(apply a8;rfl;rfl;rfl)|(apply aF;kernel_rfl))|(apply aO;first|apply aH|apply aB|(apply b9;kernel_rfl)|(apply aP;rfl;all_goals intro hc;have hq:=hc;(try simp only [cD] at hq);try exfalso;omega)|apply aJ|apply aS|apply bF|apply aW)|with_reducible apply aA|with_reducible apply b0|with_reducible apply bE|with_reducible apply aT|with_reducible apply eQ|with_reducible apply bD|((with_reducible apply aU);case hr => rfl))
 ·refine ⟨?_, (by (rfl))⟩
  simp only [bQ]
  have : a ≠ b := fun e => by subst e;exact absurd rfl ‹¬_›
  rw [decide_eq_false this]
 ·(apply c6 (k + 1); focus (refine Le.ren [] rfl (by decide) ?_ ?_ <;> repeat' (first | exact trivial | refine And.intro ⟨_, rfl, ?_⟩ ?_ | refine Or.inl ⟨?_, (by first | rfl | exact aX _ _)⟩ | rfl)))
  ·refine ⟨by omega, fun i hi => ?_⟩
   by_cases h : i = k
   ·subst h;assumption
   ·exact hall i (by omega)
  ·try dsimp only
   omega
 ·refine ⟨?_, (by (rfl))⟩
  simp only [bQ]
  have : a = b := cZ hab fun i hi => hall i (by omega)
  rw [decide_eq_true this, decide_eq_true (by omega)]
theorem CA (ts : List Int) (x : Pnt) (b : List Bool) (hb : b.length = ts.length) (hl : ts.length ≤ 6) (hs : bR x < ts.length) : PC Tryz.prog 111 [sl cI ts, oH x, sl cB b] (fun r => r = sl cB (j3 ts x b)) := by
 (refine aQ Tryz.func111 rfl (by simp [Tryz.ntmps111]) ?_; rw [Tryz.ntmps111])
 repeat' (first|(apply aM;first|(apply aD;rfl;rfl)|(apply aC;rfl;rfl)|(apply bV;rfl;rfl;rfl;rfl;rfl;(case hl => (simp [aK]; done));(exact qG (by (rfl)));omega;omega;(exact iV (by (omega)));rfl;rfl)|(apply aF;kernel_rfl)|(apply bW;rfl;rfl;rfl;rfl)|(apply bK;rfl;rfl;rfl;(rfl);rfl;rfl))|(apply aO;first|apply aH|apply aB|apply aJ)|with_reducible apply aA)
 refine bG (σ := Nat × List Bool) [0, 4, 7] [(0, _), (4, _), (7, _)] [0] [(0, some _)] (fun k => [(8, iv (k.1 : Int))]) (fun k => [(2, some (flat cB k.2))]) (fun k => k.1 ≤ b.length ∧ k.2.length = b.length ∧ (∀ i, i < b.length → k.2[i]! = if i < k.1 ∧ cE ts x i = 2 then false else b[i]!)) (fun k => b.length - k.1) (0, b) ⟨by omega, rfl, by intro i hi;rw [if_neg (by omega)]⟩ rfl rfl (by repeat' (first|exact trivial|refine And.intro rfl ?_)) (by repeat' (first|exact trivial|refine And.intro (.inr rfl) ?_)) ?_
 rintro ⟨k, u⟩ ⟨hk, hul, hu⟩
 dsimp only at hk hul hu
 try dsimp only
 repeat' (first|(apply aM;first|(apply aD;rfl;rfl)|(apply a6;rfl;rfl;(exact (rfl:_=[_, _, _, _, _]));rfl;rfl;rfl)|(first|(apply bO;rfl;rfl;omega;rfl)|(apply aV;rfl;rfl;rfl;rfl))|(apply aC;rfl;rfl)|(first|(apply cL;rfl;rfl;(omega);rfl)|(apply dO;rfl;rfl;(omega);rfl))|(first|((with_reducible apply aI (k := 136));(case ha => rfl);(case h => (apply mL <;> (omega)));(case hp => (exact Pur.pf));(case hN => rfl))|((with_reducible apply aI (k := 137));(case ha => rfl);(case h => (apply nV <;> (fail)));(case hp => (exact Pur.pf));(case hN => rfl)))|(apply a8;rfl;rfl;rfl)|(apply aF;kernel_rfl)|(apply a7;rfl;rfl;rfl;rfl;rfl;(rw [aK]; simp only [fD] <;> omega);(exact fT (by (omega)))))|(apply aO;first|apply aH|apply aB|(apply aP;rfl;all_goals intro hc;have hq:=hc;(try simp only [cD] at hq);try exfalso;omega)|apply aJ|apply aS|apply bF|apply aW)|with_reducible apply aA|with_reducible apply bE|with_reducible apply aT|with_reducible apply bD)
 ·(apply c6 (k + 1, _); focus (refine Le.ren [(2, 2), (0, 0)] rfl (by decide) ?_ ?_ <;> repeat' (first | exact trivial | refine And.intro ⟨_, rfl, ?_⟩ ?_ | refine And.intro ⟨_, _, rfl, rfl, ?_⟩ ?_ | exact Or.inr rfl | refine Or.inl ⟨?_, (by first | rfl | exact aX _ _ | exact Pur.pf)⟩ | rfl)))
  ·refine ⟨(by show k + 1 ≤ b.length; omega), (by show (u.set k false).length = b.length; simp; omega), fun i hi => ?_⟩
   show (u.set k false)[i]! = if i < k + 1 ∧ _ then _ else _
   rw [bY, hu i hi]; grind
  ·show b.length - (k + 1) < b.length - k;omega
 ·(apply c6 (k + 1, _); focus (refine Le.ren [(2, 2), (0, 0)] rfl (by decide) ?_ ?_ <;> repeat' (first | exact trivial | refine And.intro ⟨_, rfl, ?_⟩ ?_ | refine And.intro ⟨_, _, rfl, rfl, ?_⟩ ?_ | exact Or.inr rfl | refine Or.inl ⟨?_, (by first | rfl | exact aX _ _ | exact Pur.pf)⟩ | rfl)))
  ·refine ⟨(by show k + 1 ≤ b.length; omega), hul, fun i hi => ?_⟩
   show u[i]! = if i < k + 1 ∧ _ then _ else _
   rw [hu i hi]; grind
  ·show b.length - (k + 1) < b.length - k;omega
 ·refine cA (Le.frzD (d := 6) (i := 2) rfl rfl) ?_
  refine aU rfl ⟨?_, (by (exact aX _ _))⟩
  have e : u.set (bR x).toNat true = j3 ts x b := cZ (by rw [lU]; simp; omega) fun i hi => by
   rw [iY _ _ _ _ (by simp at hi;omega), bY, hu i (by simp at hi;omega)]
   grind
  simp only [bQ, e, Nat.zero_add, sl, lU]
 ·refine cA (Le.frzD (d := 6) (i := 2) rfl rfl) ?_
  refine aU rfl ⟨?_, (by (exact aX _ _))⟩
  have e : u = j3 ts x b := cZ (by rw [lU]; omega) fun i hi => by
   rw [iY _ _ _ _ (by omega), hu i (by omega)]
   grind
  rw [e]
  simp only [bQ, Nat.zero_add, sl, lU]
theorem yC (o a : List Bool) (all : Bool) (ho : o.length = 0 ∨ o.length = a.length) (hl : a.length ≤ 1000000) : PC Tryz.prog 112 [sl cB o, sl cB a, bv all] (fun r => r = sl cB (tU o a all)) := by
 (refine aQ Tryz.func112 rfl (by simp [Tryz.ntmps112]) ?_; rw [Tryz.ntmps112])
 cases all
 ·repeat' (first | (apply aM; first | (apply aD;rfl;rfl) | (apply aC;rfl;rfl) | (apply bV;rfl;rfl;rfl;rfl;rfl;(case hl => (simp [aK]; done));(exact qG (by (rfl)));omega;omega;(exact iV (by (omega)));rfl;rfl) | (apply aF;kernel_rfl) | (apply bK;rfl;rfl;rfl;(rfl);rfl;rfl)) | (apply aO; first | apply aH | apply aB | apply aJ) | with_reducible apply aA)
  refine bG (σ := Nat × List Bool) [0, 1, 2, 7] [(0, _), (1, _), (2, _), (7, _)] [] [] (fun k => [(8, iv (k.1 : Int))]) (fun k => [(1, some (flat cB k.2))]) (fun k => k.1 ≤ o.length ∧ k.2.length = a.length ∧ (∀ i, i < a.length → k.2[i]! = if i < k.1 then o[i]! || a[i]! else a[i]!)) (fun k => o.length - k.1) (0, a) ⟨by omega, rfl, by intro i hi;rw [if_neg (by omega)]⟩ rfl rfl (by repeat' (first|exact trivial|refine And.intro rfl ?_)) (by repeat' (first|exact trivial|refine And.intro (.inr rfl) ?_)) ?_
  rintro ⟨k, u⟩ ⟨hk, hul, hu⟩
  dsimp only at hk hul hu
  try dsimp only
  repeat' (first|(apply aM;first|(apply aD;rfl;rfl)|(apply aL;rfl;rfl;rfl;rfl)|(first|(apply a9;rfl;rfl;rfl;(assumption))|(apply aZ;rfl;rfl;rfl;(assumption))|(apply bC;(case hj|hb|hN => rfl);all_goals (intro hg;have hq := hg;(try simp only [cD] at hq);(try (exfalso;omega)))))|(first|(apply bO;rfl;rfl;omega;rfl)|(apply aV;rfl;rfl;rfl;rfl))|(apply aC;rfl;rfl)|(first|(apply bI;rfl;(assumption);rfl;rfl)|(apply bH;rfl;(assumption);rfl;rfl))|(first|(apply bB;(case hx|hi => rfl);(case hm => (omega));(case hml => (rfl));(case hα | hf|hg => infer_instance);(case hN => rfl))|(apply cL;rfl;rfl;(omega);rfl))|(apply a8;rfl;rfl;rfl)|(apply aF;kernel_rfl)|(apply a7;rfl;rfl;rfl;rfl;rfl;(rw [aK]; simp only [fD] <;> omega);(exact fT (by (omega)))))|(apply aO;first|apply aH|apply aB|(apply cF;rfl;(rfl))|(apply aP;rfl;all_goals intro hc;have hq:=hc;(try simp only [cD] at hq);try exfalso;omega)|apply aJ|apply aS|apply bF|apply aW)|with_reducible apply aA|with_reducible apply bE|with_reducible apply aT|with_reducible apply bD)
  ·(apply c6 (k + 1, _); focus (refine Le.ren [(1, 1)] rfl (by decide) ?_ ?_ <;> repeat' (first | exact trivial | refine And.intro ⟨_, rfl, ?_⟩ ?_ | refine And.intro ⟨_, _, rfl, rfl, ?_⟩ ?_ | exact Or.inr rfl | refine Or.inl ⟨?_, (by first | rfl | exact aX _ _)⟩ | rfl)))
   ·refine ⟨(by show k + 1 ≤ o.length; omega), (by show (u.set k a[k]!).length = a.length; simp; omega), fun i hi => ?_⟩
    show (u.set k a[k]!)[i]! = if i < k + 1 then _ else _
    rw [bY, hu i hi]; grind
   ·show o.length - (k + 1) < o.length - k;omega
  ·(apply c6 (k + 1, _); focus (refine Le.ren [(1, 1)] rfl (by decide) ?_ ?_ <;> repeat' (first | exact trivial | refine And.intro ⟨_, rfl, ?_⟩ ?_ | refine And.intro ⟨_, _, rfl, rfl, ?_⟩ ?_ | exact Or.inr rfl | refine Or.inl ⟨?_, (by first | rfl | exact aX _ _)⟩ | rfl)))
   ·refine ⟨(by show k + 1 ≤ o.length; omega), (by show (u.set k true).length = a.length; simp; omega), fun i hi => ?_⟩
    show (u.set k true)[i]! = if i < k + 1 then _ else _
    rw [bY, hu i hi]; grind
   ·show o.length - (k + 1) < o.length - k;omega
  ·refine cA (Le.frzD (d := 6) (i := 1) rfl rfl) ?_
   refine aU rfl ⟨?_, (by (exact aX _ _))⟩
   have e : u = tU o a false := cZ (by rw [mK]; omega) fun i hi => by
    rw [wF _ _ _ _ (by omega), hu i (by omega)]
    grind
   rw [e]
   simp only [bQ, Nat.zero_add, sl, mK]
 ·repeat' (first | (apply aM; first | (apply aD;rfl;rfl) | (apply aC;rfl;rfl) | (apply bV;rfl;rfl;rfl;rfl;rfl;(case hl => (simp [aK]; done));(exact qG (by (rfl)));omega;omega;(exact iV (by (omega)));rfl;rfl) | (apply aF;kernel_rfl) | (apply bK;rfl;rfl;rfl;(rfl);rfl;rfl)) | (apply aO; first | apply aH | apply aB | apply aJ) | with_reducible apply aA)
  refine bG (σ := Nat × List Bool) [0, 1, 2, 7] [(0, _), (1, _), (2, _), (7, _)] [] [] (fun k => [(8, iv (k.1 : Int))]) (fun k => [(1, some (flat cB k.2))]) (fun k => k.1 ≤ o.length ∧ k.2.length = a.length ∧ (∀ i, i < a.length → k.2[i]! = if i < k.1 then o[i]! && a[i]! else a[i]!)) (fun k => o.length - k.1) (0, a) ⟨by omega, rfl, by intro i hi;rw [if_neg (by omega)]⟩ rfl rfl (by repeat' (first|exact trivial|refine And.intro rfl ?_)) (by repeat' (first|exact trivial|refine And.intro (.inr rfl) ?_)) ?_
  rintro ⟨k, u⟩ ⟨hk, hul, hu⟩
  dsimp only at hk hul hu
  try dsimp only
  repeat' (first|(apply aM;first|(apply aD;rfl;rfl)|(apply aL;rfl;rfl;rfl;rfl)|(first|(apply a9;rfl;rfl;rfl;(assumption))|(apply aZ;rfl;rfl;rfl;(assumption))|(apply bC;(case hj|hb|hN => rfl);all_goals (intro hg;have hq := hg;(try simp only [cD] at hq);(try (exfalso;omega)))))|(first|(apply bO;rfl;rfl;omega;rfl)|(apply aV;rfl;rfl;rfl;rfl))|(apply aC;rfl;rfl)|(first|(apply bI;rfl;(assumption);rfl;rfl)|(apply bH;rfl;(assumption);rfl;rfl))|(first|(apply bB;(case hx|hi => rfl);(case hm => (omega));(case hml => (rfl));(case hα | hf|hg => infer_instance);(case hN => rfl))|(apply cL;rfl;rfl;(omega);rfl))|(apply a8;rfl;rfl;rfl)|(apply aF;kernel_rfl)|(apply a7;rfl;rfl;rfl;rfl;rfl;(rw [aK]; simp only [fD] <;> omega);(exact fT (by (omega)))))|(apply aO;first|apply aH|apply aB|(apply bX;rfl;(rfl))|(apply aP;rfl;all_goals intro hc;have hq:=hc;(try simp only [cD] at hq);try exfalso;omega)|apply aJ|apply aS|apply bF|apply aW)|with_reducible apply aA|with_reducible apply bE|with_reducible apply aT|with_reducible apply bD)
  ·(apply c6 (k + 1, _); focus (refine Le.ren [(1, 1)] rfl (by decide) ?_ ?_ <;> repeat' (first | exact trivial | refine And.intro ⟨_, rfl, ?_⟩ ?_ | refine And.intro ⟨_, _, rfl, rfl, ?_⟩ ?_ | exact Or.inr rfl | refine Or.inl ⟨?_, (by first | rfl | exact aX _ _)⟩ | rfl)))
   ·refine ⟨(by show k + 1 ≤ o.length; omega), (by show (u.set k a[k]!).length = a.length; simp; omega), fun i hi => ?_⟩
    show (u.set k a[k]!)[i]! = if i < k + 1 then _ else _
    rw [bY, hu i hi]; grind
   ·show o.length - (k + 1) < o.length - k;omega
  ·(apply c6 (k + 1, _); focus (refine Le.ren [(1, 1)] rfl (by decide) ?_ ?_ <;> repeat' (first | exact trivial | refine And.intro ⟨_, rfl, ?_⟩ ?_ | refine And.intro ⟨_, _, rfl, rfl, ?_⟩ ?_ | exact Or.inr rfl | refine Or.inl ⟨?_, (by first | rfl | exact aX _ _)⟩ | rfl)))
   ·refine ⟨(by show k + 1 ≤ o.length; omega), (by show (u.set k false).length = a.length; simp; omega), fun i hi => ?_⟩
    show (u.set k false)[i]! = if i < k + 1 then _ else _
    rw [bY, hu i hi]; grind
   ·show o.length - (k + 1) < o.length - k;omega
  ·refine cA (Le.frzD (d := 6) (i := 1) rfl rfl) ?_
   refine aU rfl ⟨?_, (by (exact aX _ _))⟩
   have e : u = tU o a true := cZ (by rw [mK]; omega) fun i hi => by
    rw [wF _ _ _ _ (by omega), hu i (by omega)]
    grind
   rw [e]
   simp only [bQ, Nat.zero_add, sl, mK]
theorem lJ (p : Prg) (all : Bool) (A : List Nat) (hs : bJ p.body ≤ 1000000) (w : WG p.types (aR p)) (hr : Rch (aR p)) (hA : oM p.types (aR p) all A) : PC Tryz.prog 60 [c8 p, bv all] (fun r => r = sl hJ (eG p.types.length (aR p).length A)) := by
 have hpl := w.pl
 have hp0 := w.p0
 have htl := w.tl
 have hini := F6 w all
 (refine aQ Tryz.func60 rfl (by simp [Tryz.ntmps60]) ?_; rw [Tryz.ntmps60])
 repeat' (first|(apply aM;first|((with_reducible apply aI (k := 110));(case ha => rfl);(case h => exact kX p hs);(case hp => (exact Pur.pf));(case hN => rfl))|(with_reducible apply dR (d := 22))|(apply aD;rfl;rfl)|(apply a6;rfl;rfl;(exact (rfl:_=[_, _]));rfl;rfl;rfl)|(apply aC;rfl;rfl)|(apply a8;rfl;rfl;rfl)|(apply aF;kernel_rfl)|(apply bW;rfl;rfl;rfl;rfl)|(apply cR;rfl;rfl;rfl;omega;omega;(first|exact iP|rfl);rfl;rfl))|(apply aO;first|apply aH|apply aB)|with_reducible apply aA)
 refine gK (fN ?_ (Le.nilRows (i := 0 + 1) rfl))
 repeat' (first|(apply aM;first|((apply Hr (d := 26));(case hx|hy => rfl);(case hsm => omega);(case hmx => omega);(case hM|hN => rfl))|(apply aD;rfl;rfl)|(apply aL;rfl;rfl;rfl;rfl)|(apply aE;rfl;rfl;rfl)|(apply aC;rfl;rfl)|(apply cL;rfl;rfl;(assumption);rfl)|(apply a8;rfl;rfl;rfl)|(apply aF;kernel_rfl)|(apply bK;rfl;rfl;rfl;exact (rfl:_=some [_]);rfl;rfl)|(apply a7;rfl;rfl;rfl;rfl;rfl;(rw [aK]; simp only [fD] <;> omega);(first|exact qB (by (simp only [fD] <;> omega))|exact fT (by (simp only [fD] <;> omega)))))|(apply aO;first|apply aH|apply aB|apply aJ)|with_reducible apply aA)
 refine bG (σ := Fw × Nat) [1, 2, 5, 6, 7] [(1, _), (2, _), (5, _), (6, _), (7, _)] [0] [(0, some _)] (fun s => [(8, .own 4 0 s.2 1)]) (fun s => [(1, some (flat hJ s.1.out)), (2, some (flat cB s.1.seen)), (4, some (flat cI s.1.work))]) (fun s => FI p.types (aR p) all s.1 ∧ FC p.types (aR p) all (fun _ => False) s.1 ∧ s.2 = s.1.work.length ∧ l6 all p.types.length (aR p).length s.1 ≤ 10000) (fun s => l6 all p.types.length (aR p).length s.1) (⟨(List.replicate (aR p).length []).set 0 (List.replicate p.types.length false), (List.replicate (aR p).length false).set 0 true, [0]⟩, 1) ⟨hini.1, hini.2, rfl, by have := G4 all p.types.length (aR p).length ⟨(List.replicate (aR p).length []).set 0 (List.replicate p.types.length false), (List.replicate (aR p).length false).set 0 true, [0]⟩ htl hpl;simp only [List.length_singleton] at this;show l6 all p.types.length (aR p).length ⟨(List.replicate (aR p).length []).set 0 (List.replicate p.types.length false), (List.replicate (aR p).length false).set 0 true, [0]⟩ ≤ 10000;omega⟩ rfl rfl (by repeat' (first|exact trivial|refine And.intro rfl ?_)) (by repeat' (first|exact trivial|refine And.intro (.inr rfl) ?_)) ?_
 rintro ⟨⟨out, seen, work⟩, m⟩ ⟨hI, hC, hm, hmb⟩
 dsimp only at hI hC hm hmb
 have hlo := hI.lo
 have hls := hI.ls
 dsimp only at hlo hls
 cases work with
 | nil =>
  simp only [List.length_nil] at hm
  subst hm
  try dsimp only
  repeat' (first|(apply aM;first|(apply aD;rfl;rfl)|(apply aV;rfl;rfl;rfl;rfl)|(apply aC;rfl;rfl)|(apply a8;rfl;rfl;rfl)|(apply aF;kernel_rfl))|(apply aO;first|apply aH|apply aB|(apply cF;rfl;(rfl))|apply bF|apply aW)|with_reducible apply aA|with_reducible apply bE|with_reducible apply bD)
  refine cA (Le.frzD (d := 4) (i := 1) rfl rfl) ?_
  refine aU rfl ⟨?_, (by (exact aX _ _))⟩
  have e : out = eG p.types.length (aR p).length A := EP w hr hA hI hC rfl
  rw [e]
  simp only [bQ, Nat.zero_add, sl, gB]
 | cons a q =>
  simp only [List.length_cons] at hm
  try dsimp only
  have hwa := hI.w a (List.mem_cons_self)
  have hon := hI.a a.toNat (by omega) hwa.2.2
  dsimp only at hwa hon
  have hset := (w.set a.toNat (by omega)).1
  repeat' (first|(apply aM;first|(with_reducible apply dR (d := 8))|(apply rD;rfl;rfl;omega;rfl)|(apply aD;rfl;rfl)|(apply aL;rfl;rfl;rfl;rfl)|(apply aV;rfl;rfl;rfl;rfl)|(apply aC;rfl;rfl)|(apply dO;rfl;rfl;(omega);rfl)|(apply a8;rfl;rfl;rfl)|(apply aF;kernel_rfl))|(apply aO;first|apply aH|apply aB|(apply aP;rfl;all_goals intro hc;have hq:=hc;(try simp only [cD] at hq);try exfalso;omega)|apply aJ|apply aS)|with_reducible apply aA)
  refine gK (fN ?_ (Le.mvO (d := 38) (i := 4) rfl rfl (by simp [aK]) (by decide)))
  have hmw := Bx all p.types.length (aR p).length ⟨out, seen, a :: q⟩
  simp only [List.length_cons] at hmw
  have hpop := Ip hI hC
  have hT := IC hI hwa.2.2
  dsimp only at hT
  have hal : (j3 p.types (aR p)[a.toNat]! out[a.toNat]!).length = p.types.length := by rw [lU]; exact hon
  repeat' (first|(apply aM;first|(apply aD;rfl;rfl)|(first|(apply dE;(case hx|hH => rfl);(case hf|hg|hα => infer_instance);(case hk => omega);(case hc|hN => rfl))|(apply aL;rfl;rfl;rfl;rfl)|(apply a6;rfl;rfl;(exact (rfl:_=[_, _, _, _, _]));rfl;rfl;rfl))|(apply aE;rfl;rfl;rfl)|(apply aC;rfl;rfl)|(first|(apply cC;(case hx|hi => rfl);(case hm => (omega));(case hml => (rfl));(case hα | hf|hg => infer_instance);(case hN => rfl))|(apply dO;rfl;rfl;(omega);rfl))|((with_reducible apply aI (k := 111));(case ha => rfl);(case h => (apply CA <;> (assumption)));(case hp => (exact Pur.pf));(case hN => rfl))|(apply aF;kernel_rfl))|(apply aO;first|apply aH|apply aB|(apply b9;kernel_rfl)|apply aJ)|with_reducible apply aA)
  refine bG (σ := Nat × Fw × Nat) [1, 2, 5, 6, 7, 9, 10] [(1, _), (2, _), (5, _), (6, _), (7, _), (9, _), (10, _)] [0] [(0, some _)] (fun k => [(11, iv (k.1 : Int)), (8, .own 5 0 k.2.2 1)]) (fun k => [(1, some (flat hJ k.2.1.out)), (2, some (flat cB k.2.1.seen)), (5, some (flat cI k.2.1.work))]) (fun k => k.1 ≤ (aR p)[a.toNat]!.next.length ∧ FIn p.types (aR p) all a.toNat (j3 p.types (aR p)[a.toNat]! out[a.toNat]!) (l6 all p.types.length (aR p).length ⟨out, seen, a :: q⟩ - 1) k.1 k.2.1 ∧ k.2.2 = k.2.1.work.length) (fun k => (aR p)[a.toNat]!.next.length - k.1) (0, ⟨out, seen, q⟩, m - 1) ⟨by omega, hpop, by show m - 1 = q.length;omega⟩ rfl rfl (by repeat' (first|exact trivial|refine And.intro rfl ?_)) (by repeat' (first|exact trivial|refine And.intro (.inr rfl) ?_)) ?_
  rintro ⟨k, ⟨o2, s2, w2⟩, m2⟩ ⟨hk, hF, hm2⟩
  dsimp only at hk hF hm2
  try dsimp only
  have hnl := w.nl a.toNat (by omega)
  have hlo2 := hF.I.lo
  have hls2 := hF.I.ls
  have hmu2 := hF.mu
  have hmw2 := Bx all p.types.length (aR p).length ⟨o2, s2, w2⟩
  dsimp only at hlo2 hls2 hmw2
  by_cases hkn : k < (aR p)[a.toNat]!.next.length
  ·have hz := w.nx a.toNat (by omega) _ (dD _ _ hkn)
   have hst := hF.step w (by omega) hkn hal hT
   by_cases hsn : s2[((aR p)[a.toNat]!.next[k]!).toNat]! = true
   ·have hol := hF.I.a _ (by omega) hsn
    dsimp only at hol
    have hab : (o2[((aR p)[a.toNat]!.next[k]!).toNat]!).length = (tU o2[((aR p)[a.toNat]!.next[k]!).toNat]! (j3 p.types (aR p)[a.toNat]! out[a.toNat]!) all).length := by rw [mK]; omega
    have ho : (o2[((aR p)[a.toNat]!.next[k]!).toNat]!).length = 0 ∨ (o2[((aR p)[a.toNat]!.next[k]!).toNat]!).length = (j3 p.types (aR p)[a.toNat]! out[a.toNat]!).length := .inr (by omega)
    repeat' (first|(apply aM;first|(apply aD;rfl;rfl)|(first|(apply dE;(case hx|hH => rfl);(case hf|hg|hα => infer_instance);(case hk => omega);(case hc|hN => rfl))|(apply aL;rfl;rfl;rfl;rfl))|(apply aE;rfl;rfl;rfl)|(first|(apply a9;rfl;rfl;rfl;(assumption))|(apply aZ;rfl;rfl;rfl;(assumption))|(apply bC;(case hj|hb|hN => rfl);all_goals (intro hg;have hq := hg;(try simp only [cD] at hq);(try (exfalso;omega)))))|(first|(apply bO;rfl;rfl;omega;rfl)|(apply aV;rfl;rfl;rfl;rfl))|(apply aC;rfl;rfl)|(first|(apply bI;rfl;(assumption);rfl;rfl)|(apply bH;rfl;(assumption);rfl;rfl))|(first|(apply bB;(case hx|hi => rfl);(case hm => (assumption));(case hml => (rfl));(case hα | hf|hg => infer_instance);(case hN => rfl))|(apply cC;(case hx|hi => rfl);(case hm => (omega));(case hml => (rfl));(case hα | hf|hg => infer_instance);(case hN => rfl))|(apply dO;rfl;rfl;(assumption);rfl))|(first|((with_reducible apply aI (k := 112));(case ha => rfl);(case h => (apply yC <;> (first|assumption|omega)));(case hp => (exact Pur.pf));(case hN => rfl))|((with_reducible apply aI (k := 113));(case ha => rfl);(case h => (apply uE <;> (first|assumption|omega)));(case hp => (exact Pur.pf));(case hN => rfl)))|(first|(apply a8;rfl;rfl;rfl)|(apply bV;rfl;rfl;rfl;rfl;rfl;(rw [aK]; omega);(rfl);omega;omega;(exact mF (by (assumption)));rfl;rfl))|(apply aF;kernel_rfl)|(apply cK;rfl;rfl)|((apply bS (t := _));(case hze|hsm|hl => rfl);(case hfl => exact (rfl:_=some [_]));(case hM|hN => rfl))|(apply a7;rfl;rfl;rfl;rfl;rfl;(rw [aK]; simp only [fD] <;> omega);(first|exact qB (by (first|omega|grind))|exact fT (by (omega)))))|(apply aO;first|apply aH|apply aB|(apply bX;rfl;(rfl))|(apply aP;rfl;all_goals intro hc;have hq:=hc;(try simp only [cD] at hq);try exfalso;omega)|apply aJ|apply aS)|with_reducible apply aA|with_reducible apply aT)
    all_goals try exact absurd (hsn.symm.trans (by assumption : s2[((aR p)[a.toNat]!.next[k]!).toNat]! = false)) (by decide)
    ·have e9 : Fv all (j3 p.types (aR p)[a.toNat]! out[a.toNat]!) ⟨o2, s2, w2⟩ ((aR p)[a.toNat]!.next[k]!).toNat = ⟨o2.set ((aR p)[a.toNat]!.next[k]!).toNat (tU o2[((aR p)[a.toNat]!.next[k]!).toNat]! (j3 p.types (aR p)[a.toNat]! out[a.toNat]!) all), s2.set ((aR p)[a.toNat]!.next[k]!).toNat true, w2 ++ [((aR p)[a.toNat]!.next[k]!)]⟩ := by
      unfold Fv
      rw [if_neg (fun h => absurd h.2 ‹_›), Int.toNat_of_nonneg hz.1]
     rw [e9] at hst
     (apply c6 (k + 1, ⟨_, _, _⟩, _);focus (refine Le.ren [(0, 0), (1, 1), (2, 2), (5, 7)] rfl (by decide) ?_ ?_ <;> repeat' (first|exact trivial|refine And.intro ⟨_, rfl, ?_⟩ ?_|refine And.intro ⟨_, _, rfl, rfl, ?_⟩ ?_|exact Or.inr rfl|refine Or.inl ⟨?_, (by first|rfl|exact aX _ _|exact Pur.pf)⟩|rfl)))
     ·exact ⟨(by show k + 1 ≤ (aR p)[a.toNat]!.next.length;omega), hst, (by show m2 + 1 = (w2 ++ [((aR p)[a.toNat]!.next[k]!)]).length;rw [List.length_append, List.length_singleton]; omega)⟩
     ·show (aR p)[a.toNat]!.next.length - (k + 1) < (aR p)[a.toNat]!.next.length - k;omega
    ·have e9 : Fv all (j3 p.types (aR p)[a.toNat]! out[a.toNat]!) ⟨o2, s2, w2⟩ ((aR p)[a.toNat]!.next[k]!).toNat = ⟨o2, s2, w2⟩ := by
      unfold Fv
      rw [if_pos ⟨hsn, ‹_›⟩]
     rw [e9] at hst
     (apply c6 (k + 1, ⟨o2, s2, w2⟩, m2);focus (refine Le.ren [(0, 0), (1, 1), (2, 2), (5, 5)] rfl (by decide) ?_ ?_ <;> repeat' (first|exact trivial|refine And.intro ⟨_, rfl, ?_⟩ ?_|refine And.intro ⟨_, _, rfl, rfl, ?_⟩ ?_|exact Or.inr rfl|refine Or.inl ⟨?_, (by first|rfl|exact aX _ _|exact Pur.pf)⟩|rfl)))
     ·exact ⟨(by show k + 1 ≤ (aR p)[a.toNat]!.next.length;omega), hst, hm2⟩
     ·show (aR p)[a.toNat]!.next.length - (k + 1) < (aR p)[a.toNat]!.next.length - k;omega
   ·rw [Bool.not_eq_true] at hsn
    have hol := hF.I.b _ (by omega) hsn
    dsimp only at hol
    have ho : (o2[((aR p)[a.toNat]!.next[k]!).toNat]!).length = 0 ∨ (o2[((aR p)[a.toNat]!.next[k]!).toNat]!).length = (j3 p.types (aR p)[a.toNat]! out[a.toNat]!).length := .inl (by rw [hol]; rfl)
    repeat' (first|(apply aM;first|(apply aD;rfl;rfl)|(first|(apply dE;(case hx|hH => rfl);(case hf|hg|hα => infer_instance);(case hk => omega);(case hc|hN => rfl))|(apply aL;rfl;rfl;rfl;rfl))|(apply aE;rfl;rfl;rfl)|(first|(apply a9;rfl;rfl;rfl;(assumption))|(apply aZ;rfl;rfl;rfl;(assumption))|(apply bC;(case hj|hb|hN => rfl);all_goals (intro hg;have hq := hg;(try simp only [cD] at hq);(try (exfalso;omega)))))|(first|(apply bO;rfl;rfl;omega;rfl)|(apply aV;rfl;rfl;rfl;rfl))|(apply aC;rfl;rfl)|(first|(apply bI;rfl;(assumption);rfl;rfl)|(apply bH;rfl;(assumption);rfl;rfl))|(first|(apply bB;(case hx|hi => rfl);(case hm => (assumption));(case hml => (rfl));(case hα | hf|hg => infer_instance);(case hN => rfl))|(apply cC;(case hx|hi => rfl);(case hm => (omega));(case hml => (rfl));(case hα | hf|hg => infer_instance);(case hN => rfl))|(apply dO;rfl;rfl;(assumption);rfl))|(first|((with_reducible apply aI (k := 112));(case ha => rfl);(case h => (apply yC <;> (first|assumption|omega)));(case hp => (exact Pur.pf));(case hN => rfl))|((with_reducible apply aI (k := 113));(case ha => rfl);(case h => (apply uE <;> (first|omega|grind)));(case hp => (exact Pur.pf));(case hN => rfl)))|(first|(apply a8;rfl;rfl;rfl)|(apply bV;rfl;rfl;rfl;rfl;rfl;(rw [aK]; omega);(rfl);omega;omega;(exact mF (by (assumption)));rfl;rfl))|(apply aF;kernel_rfl)|(apply cK;rfl;rfl)|((apply bS (t := _));(case hze|hsm|hl => rfl);(case hfl => exact (rfl:_=some [_]));(case hM|hN => rfl))|(apply a7;rfl;rfl;rfl;rfl;rfl;(rw [aK]; simp only [fD] <;> omega);(first|exact qB (by (first|omega|grind))|exact fT (by (omega)))))|(apply aO;first|apply aH|apply aB|(apply bX;rfl;(rfl))|(apply aP;rfl;all_goals intro hc;have hq:=hc;(try simp only [cD] at hq);try exfalso;omega)|apply aJ|apply aS)|with_reducible apply aA|with_reducible apply aT)
    all_goals try exact absurd (hsn.symm.trans (by assumption : s2[((aR p)[a.toNat]!.next[k]!).toNat]! = true)) (by decide)
    ·have e9 : Fv all (j3 p.types (aR p)[a.toNat]! out[a.toNat]!) ⟨o2, s2, w2⟩ ((aR p)[a.toNat]!.next[k]!).toNat = ⟨o2.set ((aR p)[a.toNat]!.next[k]!).toNat (tU o2[((aR p)[a.toNat]!.next[k]!).toNat]! (j3 p.types (aR p)[a.toNat]! out[a.toNat]!) all), s2.set ((aR p)[a.toNat]!.next[k]!).toNat true, w2 ++ [((aR p)[a.toNat]!.next[k]!)]⟩ := by
      unfold Fv
      rw [if_neg (fun h => by rw [hsn] at h;cases h.1), Int.toNat_of_nonneg hz.1]
     rw [e9] at hst
     (apply c6 (k + 1, ⟨_, _, _⟩, _);focus (refine Le.ren [(0, 0), (1, 1), (2, 2), (5, 7)] rfl (by decide) ?_ ?_ <;> repeat' (first|exact trivial|refine And.intro ⟨_, rfl, ?_⟩ ?_|refine And.intro ⟨_, _, rfl, rfl, ?_⟩ ?_|exact Or.inr rfl|refine Or.inl ⟨?_, (by first|rfl|exact aX _ _|exact Pur.pf)⟩|rfl)))
     ·exact ⟨(by show k + 1 ≤ (aR p)[a.toNat]!.next.length;omega), hst, (by show m2 + 1 = (w2 ++ [((aR p)[a.toNat]!.next[k]!)]).length;rw [List.length_append, List.length_singleton]; omega)⟩
     ·show (aR p)[a.toNat]!.next.length - (k + 1) < (aR p)[a.toNat]!.next.length - k;omega
  ·repeat' (first | (apply aM; first | (apply aD;rfl;rfl) | (apply aL;rfl;rfl;rfl;rfl) | (apply aE;rfl;rfl;rfl) | (apply aV;rfl;rfl;rfl;rfl) | (apply cC; (case hx | hi => rfl); (case hm => (omega)); (case hml => (rfl)); (case hα | hf | hg => infer_instance); (case hN => rfl)) | (apply a8;rfl;rfl;rfl) | (apply aF;kernel_rfl)) | (apply aO; first | apply aH | apply aB | (apply aP;rfl;all_goals intro hc;have hq:=hc;(try simp only [cD] at hq);try exfalso;omega) | apply bF) | with_reducible apply aA | with_reducible apply bE | with_reducible apply aT | with_reducible apply bD)
   (apply c6 (⟨o2, s2, w2⟩, m2);focus (refine Le.ren [(0, 0), (1, 1), (2, 2), (4, 5)] rfl (by decide) ?_ ?_ <;> repeat' (first|exact trivial|refine And.intro ⟨_, rfl, ?_⟩ ?_|refine And.intro ⟨_, _, rfl, rfl, ?_⟩ ?_|exact Or.inr rfl|refine Or.inl ⟨?_, (by first|rfl|exact aX _ _|exact Pur.pf)⟩|rfl)))
   ·exact ⟨hF.I, hF.out (by omega), hm2, (by show l6 all p.types.length (aR p).length ⟨o2, s2, w2⟩ ≤ 10000;omega)⟩
   ·show l6 all p.types.length (aR p).length ⟨o2, s2, w2⟩ < l6 all p.types.length (aR p).length ⟨out, seen, a :: q⟩; omega
theorem uV (ts : List Int) (x : Pnt) (mb : List Bool) (htl : ts.length ≤ 6) (hmb : mb.length = ts.length) (hst : bR x < ts.length) (hy : 0 ≤ x.y ∧ (3 ≤ x.op → x.op ≤ 7 → x.y < ts.length)) : PC Tryz.prog 184 [sl cI ts, oH x, sl cB mb] (fun r => r = sl Cs (iH ts x mb[(bR x).toNat]!)) := by
 have hu : x.op = 3 → (cE ts x x.y = 2 ↔ Hf ts[x.y.toNat]! = true) := by
  intro h
  unfold cE Hf;rw [if_pos h, if_pos rfl]; grind
 (refine aQ Tryz.func184 rfl (by simp [Tryz.ntmps184]) ?_; rw [Tryz.ntmps184])
 repeat' (first|(apply aM;first|(apply aD;rfl;rfl)|(first|(apply aL;rfl;rfl;rfl;rfl)|(apply a6;rfl;rfl;(exact (rfl:_=[_, _, _, _, _]));rfl;rfl;rfl))|(apply aE;rfl;rfl;rfl)|(first|(apply a9;rfl;rfl;rfl;(assumption))|(apply aZ;rfl;rfl;rfl;(first|rfl|assumption))|(apply bC;(case hj|hb|hN => rfl);all_goals (intro hg;have hq := hg;(try simp only [cD] at hq);(try (exfalso;omega)))))|(apply aV;rfl;rfl;rfl;rfl)|(apply aC;rfl;rfl)|(first|(apply bI;rfl;(assumption);rfl;rfl)|(apply bH;rfl;(first|rfl|assumption);rfl;rfl))|(apply cC;(case hx|hi => rfl);(case hm => (omega));(case hml => (rfl));(case hα | hf|hg => infer_instance);(case hN => rfl))|(first|((with_reducible apply aI (k := 136));(case ha => rfl);(case h => (apply mL <;> (omega)));(case hp => (exact Pur.pf));(case hN => rfl))|((with_reducible apply aI (k := 137));(case ha => rfl);(case h => (apply nV <;> (fail)));(case hp => (exact Pur.pf));(case hN => rfl)))|(apply bV;rfl;rfl;rfl;rfl;rfl;(case hl => (simp [aK]; done));(rfl);omega;omega;(first|exact (rfl:_=[_, _])|exact (rfl:_=[_, _, _, _]));rfl;rfl)|(apply aF;kernel_rfl)|(apply b8;rfl;(exact (rfl:_=some [_, _]));(exact (rfl:_=[_, _]));rfl)|(apply bW;rfl;rfl;rfl;rfl)|(apply bK;rfl;rfl;rfl;(first|exact (rfl:_=some [_, _])|rfl);rfl;rfl))|(apply aO;first|apply aH|apply aB|(apply bX;rfl;(assumption))|(apply cF;rfl;(rfl))|(apply aP;rfl;all_goals intro hc;have hq:=hc;(try simp only [cD] at hq);try exfalso;omega)|apply aJ|apply aS|apply aW)|with_reducible apply aA|with_reducible apply aT)
 all_goals first|refine cA (Le.frzD (d := 6) (i := 1) rfl rfl) ?_|refine cA (Le.frzD (d := 6) (i := 3) rfl rfl) ?_|refine cA (Le.frzD (d := 6) (i := 5) rfl rfl) ?_
 all_goals refine aU rfl ⟨?_, (by (rfl))⟩
 all_goals simp only [bQ, iH]
 all_goals (repeat' split)
 all_goals first|rfl|(exfalso;grind)
theorem tH (pts : List Pnt) (acs : List Acc) (fr : List (List Bool)) (pl lv : List Bool) (hpl : pts.length ≤ 61) (hac : acs.length ≤ 6) (h1 : pl.length = pts.length) (h2 : lv.length = pts.length) : PC Tryz.prog 185 [sl dF pts, sl Cs acs, .agg [sl hJ fr, sl cB pl], sl cB lv] (fun r => r = sl cB (HC pts acs pl lv)) := by
 (refine aQ Tryz.func185 rfl (by simp [Tryz.ntmps185]) ?_; rw [Tryz.ntmps185])
 repeat' (first|(apply aM;first|(apply aD;rfl;rfl)|(apply aC;rfl;rfl)|(apply a8;rfl;rfl;rfl)|(apply aF;kernel_rfl)|(apply bW;rfl;rfl;rfl;rfl)|(apply cR;rfl;rfl;rfl;omega;omega;(exact iP);rfl;rfl))|(apply aO;first|apply aH|apply aB|apply aJ)|with_reducible apply aA)
 refine bG (σ := Nat × List Bool) [0, 1, 3, 6, 9] [(0, _), (1, _), (3, _), (6, _), (9, _)] [0] [(0, some _)] (fun k => [(10, iv (k.1 : Int))]) (fun k => [(1, some (flat cB k.2))]) (fun k => k.1 ≤ pts.length ∧ k.2.length = pts.length ∧ (∀ l, l < pts.length → k.2[l]! = if l < k.1 then acs.any (Fq pts pl lv l) else false)) (fun k => pts.length - k.1) (0, List.replicate pts.length false) ⟨by omega, by simp, fun l hl => by rw [if_neg (by omega), eH _ _ _ hl]⟩ rfl rfl (by repeat' (first|exact trivial|refine And.intro rfl ?_)) (by repeat' (first|exact trivial|refine And.intro (.inr rfl) ?_)) ?_
 rintro ⟨i, u⟩ ⟨hi, hul, hu⟩
 dsimp only at hi hul hu
 try dsimp only
 repeat' (first|(apply aM;first|(apply aD;rfl;rfl)|(apply aV;rfl;rfl;rfl;rfl)|(apply aC;rfl;rfl)|(apply a8;rfl;rfl;rfl)|(apply aF;kernel_rfl))|(apply aO;first|apply aH|apply aB|(apply aP;rfl;all_goals intro hc;have hq:=hc;(try simp only [cD] at hq);try exfalso;omega)|apply aJ|apply aS|apply bF|apply aW)|with_reducible apply aA|with_reducible apply bE|with_reducible apply bD)
 ·have hin : i < pts.length := by omega
  refine bG (σ := Nat × List Bool) [0, 1, 3, 6, 9, 10] [(0, _), (1, _), (3, _), (6, _), (9, _), (10, _)] [0] [(0, some _)] (fun k => [(11, iv (k.1 : Int))]) (fun k => [(1, some (flat cB k.2))]) (fun k => k.1 ≤ acs.length ∧ k.2.length = pts.length ∧ (∀ l, l < pts.length → k.2[l]! = if l < i then acs.any (Fq pts pl lv l) else if l = i then (acs.take k.1).any (Fq pts pl lv l) else false)) (fun k => acs.length - k.1) (0, u) ⟨by omega, hul, fun l hl => by rw [hu l hl]; simp⟩ rfl rfl (by repeat' (first|exact trivial|refine And.intro rfl ?_)) (by repeat' (first|exact trivial|refine And.intro (.inr rfl) ?_)) ?_
  rintro ⟨j, s⟩ ⟨hj, hsl, hs⟩
  dsimp only at hj hsl hs
  try dsimp only
  have hsi : s[i]! = (acs.take j).any (Fq pts pl lv i) := by rw [hs i hin]; simp
  have hst := fun h : j < acs.length => Er (Fq pts pl lv i) acs j h
  have hcg : Fq pts pl lv i acs[j]! = (lv[i]! && pl[i]! && decide (pts[i]!.y = acs[j]!.var) && (acs[j]!.write || decide (pts[i]!.op = 5))) := rfl
  repeat' (first|(apply aM;first|(apply aD;rfl;rfl)|(first|(apply dE;(case hx|hH => rfl);(case hf|hg|hα => infer_instance);(case hk => omega);(case hc|hN => rfl))|(apply aL;rfl;rfl;rfl;rfl))|(apply aE;rfl;rfl;rfl)|(first|(apply iS;rfl;rfl;rfl)|(apply a9;rfl;rfl;rfl;(assumption))|(apply aZ;rfl;rfl;rfl;(first|rfl|assumption))|(apply bC;(case hj|hb|hN => rfl);all_goals (intro hg;have hq := hg;(try simp only [cD] at hq);(try (exfalso;omega)))))|(first|(apply bO;rfl;rfl;omega;rfl)|(apply aV;rfl;rfl;rfl;rfl))|(apply aC;rfl;rfl)|(first|(apply bI;rfl;(assumption);rfl;rfl)|(apply bH;rfl;(first|rfl|assumption);rfl;rfl))|(first|(apply bB;(case hx|hi => rfl);(case hm => (first|assumption|omega));(case hml => (rfl));(case hα | hf|hg => infer_instance);(case hN => rfl))|(apply cL;rfl;rfl;(assumption);rfl))|(apply a8;rfl;rfl;rfl)|(apply aF;kernel_rfl)|(apply a7;rfl;rfl;rfl;rfl;rfl;(rw [aK]; simp only [fD] <;> omega);(exact fT (by (omega)))))|(apply aO;first|apply aH|apply aB|(apply b9;kernel_rfl)|(apply aP;rfl;all_goals intro hc;have hq:=hc;(try simp only [cD] at hq);try exfalso;omega)|apply aJ|apply aS|apply bF)|with_reducible apply aA|with_reducible apply bE|with_reducible apply aT|with_reducible apply bD)
  ·(apply c6 (j + 1, _); focus (refine Le.ren [(0, 0), (1, 1)] rfl (by decide) ?_ ?_ <;> repeat' (first | exact trivial | refine And.intro ⟨_, rfl, ?_⟩ ?_ | refine And.intro ⟨_, _, rfl, rfl, ?_⟩ ?_ | exact Or.inr rfl | refine Or.inl ⟨?_, (by first | rfl | exact aX _ _ | exact Pur.pf)⟩ | rfl)))
   ·refine ⟨(by show j + 1 ≤ acs.length; omega), (by show (s.set i _).length = pts.length; rw [List.length_set]; exact hsl), fun l hl => ?_⟩
    show (s.set i _)[l]! = if l < i then _ else if l = i then (acs.take (j + 1)).any _ else false
    by_cases e : l = i
    ·rw [e, hst (by omega), hcg, bY, if_pos ⟨rfl, by omega⟩, if_neg (Nat.lt_irrefl _), if_pos rfl, ← hsi]
     clear hs hu hst hsi hcg
     grind
    ·rw [bY, if_neg (fun h => e h.1.symm), hs l hl, if_neg e, if_neg e]
   ·show acs.length - (j + 1) < acs.length - j;omega
  ·(apply c6 (j + 1, _); focus (refine Le.ren [(0, 0), (1, 1)] rfl (by decide) ?_ ?_ <;> repeat' (first | exact trivial | refine And.intro ⟨_, rfl, ?_⟩ ?_ | refine And.intro ⟨_, _, rfl, rfl, ?_⟩ ?_ | exact Or.inr rfl | refine Or.inl ⟨?_, (by first | rfl | exact aX _ _ | exact Pur.pf)⟩ | rfl)))
   ·refine ⟨(by show j + 1 ≤ acs.length; omega), (by show (s.set i _).length = pts.length; rw [List.length_set]; exact hsl), fun l hl => ?_⟩
    show (s.set i _)[l]! = if l < i then _ else if l = i then (acs.take (j + 1)).any _ else false
    by_cases e : l = i
    ·rw [e, hst (by omega), hcg, bY, if_pos ⟨rfl, by omega⟩, if_neg (Nat.lt_irrefl _), if_pos rfl, ← hsi]
     clear hs hu hst hsi hcg
     grind
    ·rw [bY, if_neg (fun h => e h.1.symm), hs l hl, if_neg e, if_neg e]
   ·show acs.length - (j + 1) < acs.length - j;omega
  ·(apply c6 (j + 1, _); focus (refine Le.ren [(0, 0), (1, 1)] rfl (by decide) ?_ ?_ <;> repeat' (first | exact trivial | refine And.intro ⟨_, rfl, ?_⟩ ?_ | refine And.intro ⟨_, _, rfl, rfl, ?_⟩ ?_ | exact Or.inr rfl | refine Or.inl ⟨?_, (by first | rfl | exact aX _ _ | exact Pur.pf)⟩ | rfl)))
   ·refine ⟨(by show j + 1 ≤ acs.length; omega), (by show (s.set i _).length = pts.length; rw [List.length_set]; exact hsl), fun l hl => ?_⟩
    show (s.set i _)[l]! = if l < i then _ else if l = i then (acs.take (j + 1)).any _ else false
    by_cases e : l = i
    ·rw [e, hst (by omega), hcg, bY, if_pos ⟨rfl, by omega⟩, if_neg (Nat.lt_irrefl _), if_pos rfl, ← hsi]
     clear hs hu hst hsi hcg
     grind
    ·rw [bY, if_neg (fun h => e h.1.symm), hs l hl, if_neg e, if_neg e]
   ·show acs.length - (j + 1) < acs.length - j;omega
  ·(apply c6 (j + 1, _); focus (refine Le.ren [(0, 0), (1, 1)] rfl (by decide) ?_ ?_ <;> repeat' (first | exact trivial | refine And.intro ⟨_, rfl, ?_⟩ ?_ | refine And.intro ⟨_, _, rfl, rfl, ?_⟩ ?_ | exact Or.inr rfl | refine Or.inl ⟨?_, (by first | rfl | exact aX _ _ | exact Pur.pf)⟩ | rfl)))
   ·refine ⟨(by show j + 1 ≤ acs.length; omega), (by show (s.set i _).length = pts.length; rw [List.length_set]; exact hsl), fun l hl => ?_⟩
    show (s.set i _)[l]! = if l < i then _ else if l = i then (acs.take (j + 1)).any _ else false
    by_cases e : l = i
    ·rw [e, hst (by omega), hcg, bY, if_pos ⟨rfl, by omega⟩, if_neg (Nat.lt_irrefl _), if_pos rfl, ← hsi]
     clear hs hu hst hsi hcg
     grind
    ·rw [bY, if_neg (fun h => e h.1.symm), hs l hl, if_neg e, if_neg e]
   ·show acs.length - (j + 1) < acs.length - j;omega
  ·(apply c6 (j + 1, _); focus (refine Le.ren [(0, 0), (1, 1)] rfl (by decide) ?_ ?_ <;> repeat' (first | exact trivial | refine And.intro ⟨_, rfl, ?_⟩ ?_ | refine And.intro ⟨_, _, rfl, rfl, ?_⟩ ?_ | exact Or.inr rfl | refine Or.inl ⟨?_, (by first | rfl | exact aX _ _ | exact Pur.pf)⟩ | rfl)))
   ·refine ⟨(by show j + 1 ≤ acs.length; omega), (by show (s.set i _).length = pts.length; rw [List.length_set]; exact hsl), fun l hl => ?_⟩
    show (s.set i _)[l]! = if l < i then _ else if l = i then (acs.take (j + 1)).any _ else false
    by_cases e : l = i
    ·rw [e, hst (by omega), hcg, bY, if_pos ⟨rfl, by omega⟩, if_neg (Nat.lt_irrefl _), if_pos rfl, ← hsi]
     clear hs hu hst hsi hcg
     grind
    ·rw [bY, if_neg (fun h => e h.1.symm), hs l hl, if_neg e, if_neg e]
   ·show acs.length - (j + 1) < acs.length - j;omega
  ·(apply c6 (j + 1, _); focus (refine Le.ren [(0, 0), (1, 1)] rfl (by decide) ?_ ?_ <;> repeat' (first | exact trivial | refine And.intro ⟨_, rfl, ?_⟩ ?_ | refine And.intro ⟨_, _, rfl, rfl, ?_⟩ ?_ | exact Or.inr rfl | refine Or.inl ⟨?_, (by first | rfl | exact aX _ _ | exact Pur.pf)⟩ | rfl)))
   ·refine ⟨(by show j + 1 ≤ acs.length; omega), (by show (s.set i _).length = pts.length; rw [List.length_set]; exact hsl), fun l hl => ?_⟩
    show (s.set i _)[l]! = if l < i then _ else if l = i then (acs.take (j + 1)).any _ else false
    by_cases e : l = i
    ·rw [e, hst (by omega), hcg, bY, if_pos ⟨rfl, by omega⟩, if_neg (Nat.lt_irrefl _), if_pos rfl, ← hsi]
     clear hs hu hst hsi hcg
     grind
    ·rw [bY, if_neg (fun h => e h.1.symm), hs l hl, if_neg e, if_neg e]
   ·show acs.length - (j + 1) < acs.length - j;omega
  ·(apply c6 (j + 1, _); focus (refine Le.ren [(0, 0), (1, 1)] rfl (by decide) ?_ ?_ <;> repeat' (first | exact trivial | refine And.intro ⟨_, rfl, ?_⟩ ?_ | refine And.intro ⟨_, _, rfl, rfl, ?_⟩ ?_ | exact Or.inr rfl | refine Or.inl ⟨?_, (by first | rfl | exact aX _ _ | exact Pur.pf)⟩ | rfl)))
   ·refine ⟨(by show j + 1 ≤ acs.length; omega), (by show (s.set i _).length = pts.length; rw [List.length_set]; exact hsl), fun l hl => ?_⟩
    show (s.set i _)[l]! = if l < i then _ else if l = i then (acs.take (j + 1)).any _ else false
    by_cases e : l = i
    ·rw [e, hst (by omega), hcg, bY, if_pos ⟨rfl, by omega⟩, if_neg (Nat.lt_irrefl _), if_pos rfl, ← hsi]
     clear hs hu hst hsi hcg
     grind
    ·rw [bY, if_neg (fun h => e h.1.symm), hs l hl, if_neg e, if_neg e]
   ·show acs.length - (j + 1) < acs.length - j;omega
  ·(apply c6 (j + 1, _); focus (refine Le.ren [(0, 0), (1, 1)] rfl (by decide) ?_ ?_ <;> repeat' (first | exact trivial | refine And.intro ⟨_, rfl, ?_⟩ ?_ | refine And.intro ⟨_, _, rfl, rfl, ?_⟩ ?_ | exact Or.inr rfl | refine Or.inl ⟨?_, (by first | rfl | exact aX _ _ | exact Pur.pf)⟩ | rfl)))
   ·refine ⟨(by show j + 1 ≤ acs.length; omega), (by show (s.set i _).length = pts.length; rw [List.length_set]; exact hsl), fun l hl => ?_⟩
    show (s.set i _)[l]! = if l < i then _ else if l = i then (acs.take (j + 1)).any _ else false
    by_cases e : l = i
    ·rw [e, hst (by omega), hcg, bY, if_pos ⟨rfl, by omega⟩, if_neg (Nat.lt_irrefl _), if_pos rfl, ← hsi]
     clear hs hu hst hsi hcg
     grind
    ·rw [bY, if_neg (fun h => e h.1.symm), hs l hl, if_neg e, if_neg e]
   ·show acs.length - (j + 1) < acs.length - j;omega
  ·(apply c6 (i + 1, s); focus (refine Le.ren [(0, 0), (1, 1)] rfl (by decide) ?_ ?_ <;> repeat' (first | exact trivial | refine And.intro ⟨_, rfl, ?_⟩ ?_ | refine And.intro ⟨_, _, rfl, rfl, ?_⟩ ?_ | exact Or.inr rfl | refine Or.inl ⟨?_, (by first | rfl | exact aX _ _ | exact Pur.pf)⟩ | rfl)))
   ·refine ⟨(by show i + 1 ≤ pts.length; omega), hsl, fun l hl => ?_⟩
    show s[l]! = if l < i + 1 then _ else _
    rw [hs l hl, List.take_of_length_le (by omega)]
    clear hs hu
    grind
   ·show pts.length - (i + 1) < pts.length - i;omega
 ·refine cA (Le.frzD (d := 8) (i := 1) rfl rfl) ?_
  refine aU rfl ⟨?_, (by (exact aX _ _))⟩
  have e : u = HC pts acs pl lv := cZ (by rw [v3, hul]) fun l hl => by
   rw [Bi _ _ _ _ _ (by omega), hu l (by omega), if_pos (by omega)]
  rw [e]
  simp only [bQ, Nat.zero_add, sl, v3]
theorem x9 {a b : List Bool} {m : Nat} {N : Nat} {Q : Exit → AS → Prop} {all : Array Oper} {rest : List Oper} {tsl : List (Nat × AV)} {hsl : List (Nat × Option (List AV))} {nidl : Nat} {z0 : Lo} {md : Md} {d : Nat} {ty : TypeId} {pos : String} {af : Array Edge} {tys : Array TypeId} {x0 x1 : Operand} {i0 : Nat} (ha0 : ev (lk tsl) x0 = some (.own i0 0 m 1)) (ha1 : ev (lk tsl) x1 = some (sl cB b)) (hH0 : bU hsl i0 = some (flat cB a)) (hmc : MC Tryz.prog 202 [.own 0 0 m 1, sl cB b] [(0, some (flat cB a))] 1 (fun _ : Unit => True) (fun _ => .tup []) (fun _ => [(0, some (flat cB (gW a b)))])) (hM : Nat.ble (nidl + 0) bZ = true) (hN : Nat.blt d N = true) {md' : Md} [hmd : MdA md (jH [x0, x1] ++ [.inr i0]) (List.map Sum.inr (List.map Prod.fst ([(i0, some (flat cB (gW a b)))] : List (Nat × Option (List AV)))) ++ [.inl d]) md'] (kk : RW Tryz.prog N all Q md' rest ⟨(d, .tup []) :: tsl, lE hsl [(i0, some (flat cB (gW a b)))], nidl + 0, z0⟩) : RW Tryz.prog N all Q md (⟨some d, .call ⟨.value (.func 202), #[x0, x1], tys⟩, ty, pos, af, none⟩ :: rest) ⟨tsl, hsl, nidl, z0⟩ := by
 refine c5 [i0] 1 [(i0, some (flat cB (gW a b)))] hmc (avs := [.own i0 0 m 1, sl cB b]) ?_ rfl ?_ rfl ?_ (by simpa using hM) ?_ ?_ ?_ hN (md' := md') (hmd := hmd) kk
 ·show evL (lk tsl) [x0, x1] = _
  simp only [evL, ha0, ha1]
 ·exact ⟨⟨_, _, rfl, hH0, by (repeat' (exact RnL.purI inferInstance))⟩, trivial⟩
 ·(repeat' (first|exact RnL.purI inferInstance|exact RnV.own rfl|refine RnL.cons ?_ ?_))
 ·(repeat' (exact RnV.purI inferInstance))
 ·simp [e7]
 ·(repeat' (first|exact trivial|(refine And.intro ⟨0, _, rfl, rfl, ?_⟩ ?_)|exact RnL.purI inferInstance))
theorem A1 (a b : List Bool) (m : Nat) (hm : m = a.length) (hab : b.length ≤ a.length) (hl : a.length ≤ 1000000) : MC Tryz.prog 202 [.own 0 0 m 1, sl cB b] [(0, some (flat cB a))] 1 (fun _ : Unit => True) (fun _ => .tup []) (fun _ => [(0, some (flat cB (gW a b)))]) := by
 subst hm
 (refine dB Tryz.func202 rfl (by simp [Tryz.ntmps202]) ?_; rw [Tryz.ntmps202])
 repeat' (first|(apply aM;first|(apply aC;rfl;rfl)|(apply aF;kernel_rfl))|(apply aO;first|apply aH|apply aB|apply aJ)|with_reducible apply aA)
 refine bG (σ := Nat × List Bool) [0, 1] [(0, _), (1, _)] [] [] (fun k => [(4, iv (k.1 : Int))]) (fun k => [(0, some (flat cB k.2))]) (fun k => k.1 ≤ b.length ∧ k.2.length = a.length ∧ (∀ l, l < a.length → k.2[l]! = (a[l]! || (decide (l < k.1) && b[l]!)))) (fun k => b.length - k.1) (0, a) ⟨by omega, rfl, fun l hl => by simp⟩ rfl rfl (by repeat' (first|exact trivial|refine And.intro rfl ?_)) (by repeat' (first|exact trivial|refine And.intro (.inr rfl) ?_)) ?_
 rintro ⟨k, u⟩ ⟨hk, hul, hu⟩
 dsimp only at hk hul hu
 try dsimp only
 repeat' (first|(apply aM;first|(apply aD;rfl;rfl)|(first|(apply dE;(case hx|hH => rfl);(case hf|hg|hα => infer_instance);(case hk => omega);(case hc|hN => rfl))|(apply aL;rfl;rfl;rfl;rfl))|(first|(apply a9;rfl;rfl;rfl;(assumption))|(apply aZ;rfl;rfl;rfl;(assumption))|(apply bC;(case hj|hb|hN => rfl);all_goals (intro hg;have hq := hg;(try simp only [cD] at hq);(try (exfalso;omega)))))|(first|(apply bO;rfl;rfl;omega;rfl)|(apply aV;rfl;rfl;rfl;rfl))|(apply aC;rfl;rfl)|(first|(apply bI;rfl;(assumption);rfl;rfl)|(apply bH;rfl;(assumption);rfl;rfl))|(first|(apply bB;(case hx|hi => rfl);(case hm => (omega));(case hml => (rfl));(case hα | hf|hg => infer_instance);(case hN => rfl))|(apply cL;rfl;rfl;(omega);rfl))|(apply a8;rfl;rfl;rfl)|(apply aF;kernel_rfl)|(apply a7;rfl;rfl;rfl;rfl;rfl;(rw [aK]; simp only [fD] <;> omega);(exact fT (by (omega)))))|(apply aO;first|apply aH|apply aB|(apply aP;rfl;all_goals intro hc;have hq:=hc;(try simp only [cD] at hq);try exfalso;omega)|apply aJ|apply aS|apply bF)|with_reducible apply aA|with_reducible apply bE|with_reducible apply aT|with_reducible apply bD)
 ·(apply c6 (k + 1, _); focus (refine Le.ren [] rfl (by decide) ?_ ?_ <;> repeat' (first | exact trivial | refine And.intro ⟨_, rfl, ?_⟩ ?_ | refine And.intro ⟨_, _, rfl, rfl, ?_⟩ ?_ | exact Or.inr rfl | refine Or.inl ⟨?_, (by first | rfl | exact aX _ _)⟩ | rfl)))
  ·refine ⟨(by show k + 1 ≤ b.length; omega), (by show (u.set k _).length = a.length; rw [List.length_set]; exact hul), fun l hl => ?_⟩
   show (u.set k _)[l]! = (a[l]! || (decide (l < k + 1) && b[l]!))
   have h1 := hu l hl
   have h2 := hu k (by omega)
   rw [bY]
   clear hu
   grind
  ·show b.length - (k + 1) < b.length - k;omega
 ·(apply c6 (k + 1, _); focus (refine Le.ren [] rfl (by decide) ?_ ?_ <;> repeat' (first | exact trivial | refine And.intro ⟨_, rfl, ?_⟩ ?_ | refine And.intro ⟨_, _, rfl, rfl, ?_⟩ ?_ | exact Or.inr rfl | refine Or.inl ⟨?_, (by first | rfl | exact aX _ _)⟩ | rfl)))
  ·refine ⟨(by show k + 1 ≤ b.length; omega), (by show (u.set k _).length = a.length; rw [List.length_set]; exact hul), fun l hl => ?_⟩
   show (u.set k _)[l]! = (a[l]! || (decide (l < k + 1) && b[l]!))
   have h1 := hu l hl
   have h2 := hu k (by omega)
   rw [bY]
   clear hu
   grind
  ·show b.length - (k + 1) < b.length - k;omega
 ·refine z8 (l := []) rfl ?_
  refine dA () trivial rfl ⟨.inr (Eq.trans (b := some _) rfl ?_), trivial⟩
  have e : u = gW a b := cZ (by rw [gL, hul]) fun l hl => by
   rw [fH _ _ _ (by omega), hu l (by omega)]
   clear hu
   grind
  rw [e]
theorem Ff (ts : List Int) (x : Pnt) (fr : List (List Bool)) (pl lv : List Bool) (htl : ts.length ≤ 6) (hpl : pl.length ≤ 61) (h1 : lv.length = ts.length) (h2 : fr.length = ts.length) (h3 : ∀ v, v < ts.length → fr[v]!.length = pl.length) : PC Tryz.prog 186 [sl cI ts, oH x, .agg [sl hJ fr, sl cB pl], sl cB lv] (fun r => r = sl cB (CR ts x fr lv pl.length)) := by
 (refine aQ Tryz.func186 rfl (by simp [Tryz.ntmps186]) ?_; rw [Tryz.ntmps186])
 repeat' (first|(apply aM;first|(apply aL;rfl;rfl;rfl;rfl)|(apply aE;rfl;rfl;rfl)|(apply aC;rfl;rfl)|(apply a8;rfl;rfl;rfl)|(apply aF;kernel_rfl)|(apply bW;rfl;rfl;rfl;rfl)|(apply cR;rfl;rfl;rfl;omega;omega;(exact iP);rfl;rfl))|(apply aO;first|apply aH|apply aB|apply aJ)|with_reducible apply aA)
 refine bG (σ := Nat × List Bool) [0, 3, 5, 6, 9] [(0, _), (3, _), (5, _), (6, _), (9, _)] [0, 1] [(0, some _), (1, some _)] (fun k => [(10, iv (k.1 : Int))]) (fun k => [(2, some (flat cB k.2))]) (fun k => k.1 ≤ lv.length ∧ k.2.length = pl.length ∧ (∀ l, l < pl.length → k.2[l]! = (List.range k.1).any (A6 ts x fr lv l))) (fun k => lv.length - k.1) (0, List.replicate pl.length false) ⟨by omega, by simp, fun l hl => by rw [eH _ _ _ hl]; rfl⟩ rfl rfl (by repeat' (first|exact trivial|refine And.intro rfl ?_)) (by repeat' (first|exact trivial|refine And.intro (.inr rfl) ?_)) ?_
 rintro ⟨k, u⟩ ⟨hk, hul, hu⟩
 dsimp only at hk hul hu
 try dsimp only
 by_cases hkn : k < lv.length
 ·have hrow := h3 k (by omega)
  have hst : ∀ l, (List.range (k + 1)).any (A6 ts x fr lv l) = ((List.range k).any (A6 ts x fr lv l) || A6 ts x fr lv l k) := fun l => by rw [List.range_succ, List.any_append]; simp
  repeat' (first|(apply aM;first|(apply aD;rfl;rfl)|(first|(apply aL;rfl;rfl;rfl;rfl)|(apply a6;rfl;rfl;(exact (rfl:_=[_, _, _, _, _]));rfl;rfl;rfl))|(apply aE;rfl;rfl;rfl)|(first|(apply a9;rfl;rfl;rfl;(assumption))|(apply aZ;rfl;rfl;rfl;(first|rfl|assumption))|(apply bC;(case hj|hb|hN => rfl);all_goals (intro hg;have hq := hg;(try simp only [cD] at hq);(try (exfalso;omega)))))|(first|(apply bO;rfl;rfl;omega;rfl)|(apply aV;rfl;rfl;rfl;rfl))|(apply aC;rfl;rfl)|(first|(apply bI;rfl;(assumption);rfl;rfl)|(apply bH;rfl;(first|rfl|assumption);rfl;rfl))|(apply bB;(case hx|hi => rfl);(case hm => (first|assumption|omega));(case hml => (rfl));(case hα | hf|hg => infer_instance);(case hN => rfl))|(first|((with_reducible apply aI (k := 136));(case ha => rfl);(case h => (apply mL <;> (omega)));(case hp => (exact Pur.pf));(case hN => rfl))|((with_reducible apply aI (k := 137));(case ha => rfl);(case h => (apply nV <;> (fail)));(case hp => (exact Pur.pf));(case hN => rfl))|(apply x9;rfl;rfl;(rfl);(apply A1 <;> (omega));rfl;rfl))|(apply a8;rfl;rfl;rfl)|(apply aF;kernel_rfl))|(apply aO;first|apply aH|apply aB|(apply cF;rfl;(rfl))|(apply aP;rfl;all_goals intro hc;have hq:=hc;(try simp only [cD] at hq);try exfalso;omega)|apply aJ|apply aS)|with_reducible apply aA|with_reducible apply aT)
  ·(apply c6 (k + 1, _); focus (refine Le.ren [(0, 0), (1, 1), (2, 2)] rfl (by decide) ?_ ?_ <;> repeat' (first | exact trivial | refine And.intro ⟨_, rfl, ?_⟩ ?_ | refine And.intro ⟨_, _, rfl, rfl, ?_⟩ ?_ | exact Or.inr rfl | refine Or.inl ⟨?_, (by first | rfl | exact aX _ _ | exact Pur.pf)⟩ | rfl)))
   ·refine ⟨(by show k + 1 ≤ lv.length; omega), (by show (gW u fr[k]!).length = pl.length; rw [gL]; exact hul), fun l hl => ?_⟩
    show (gW u fr[k]!)[l]! = (List.range (k + 1)).any _
    rw [hst l, fH _ _ _ (by omega), hu l hl, decide_eq_true (by omega : l < fr[k]!.length)]
    clear hu hst h3
    unfold A6
    grind
   ·show lv.length - (k + 1) < lv.length - k;omega
  ·(apply c6 (k + 1, u); focus (refine Le.ren [(0, 0), (1, 1), (2, 2)] rfl (by decide) ?_ ?_ <;> repeat' (first | exact trivial | refine And.intro ⟨_, rfl, ?_⟩ ?_ | refine And.intro ⟨_, _, rfl, rfl, ?_⟩ ?_ | exact Or.inr rfl | refine Or.inl ⟨?_, (by first | rfl | exact aX _ _ | exact Pur.pf)⟩ | rfl)))
   ·refine ⟨(by show k + 1 ≤ lv.length; omega), hul, fun l hl => ?_⟩
    show u[l]! = (List.range (k + 1)).any _
    rw [hst l, hu l hl]
    clear hu hst h3
    have e : A6 ts x fr lv l k = false := by unfold A6;grind
    rw [e, Bool.or_false]
   ·show lv.length - (k + 1) < lv.length - k;omega
  ·(apply c6 (k + 1, u); focus (refine Le.ren [(0, 0), (1, 1), (2, 2)] rfl (by decide) ?_ ?_ <;> repeat' (first | exact trivial | refine And.intro ⟨_, rfl, ?_⟩ ?_ | refine And.intro ⟨_, _, rfl, rfl, ?_⟩ ?_ | exact Or.inr rfl | refine Or.inl ⟨?_, (by first | rfl | exact aX _ _ | exact Pur.pf)⟩ | rfl)))
   ·refine ⟨(by show k + 1 ≤ lv.length; omega), hul, fun l hl => ?_⟩
    show u[l]! = (List.range (k + 1)).any _
    rw [hst l, hu l hl]
    clear hu hst h3
    have e : A6 ts x fr lv l k = false := by unfold A6;grind
    rw [e, Bool.or_false]
   ·show lv.length - (k + 1) < lv.length - k;omega
  ·(apply c6 (k + 1, u); focus (refine Le.ren [(0, 0), (1, 1), (2, 2)] rfl (by decide) ?_ ?_ <;> repeat' (first | exact trivial | refine And.intro ⟨_, rfl, ?_⟩ ?_ | refine And.intro ⟨_, _, rfl, rfl, ?_⟩ ?_ | exact Or.inr rfl | refine Or.inl ⟨?_, (by first | rfl | exact aX _ _ | exact Pur.pf)⟩ | rfl)))
   ·refine ⟨(by show k + 1 ≤ lv.length; omega), hul, fun l hl => ?_⟩
    show u[l]! = (List.range (k + 1)).any _
    rw [hst l, hu l hl]
    clear hu hst h3
    have e : A6 ts x fr lv l k = false := by unfold A6;grind
    rw [e, Bool.or_false]
   ·show lv.length - (k + 1) < lv.length - k;omega
 ·repeat' (first | (apply aM; first | (apply aD;rfl;rfl) | (apply aV;rfl;rfl;rfl;rfl) | (apply aC;rfl;rfl) | (apply a8;rfl;rfl;rfl) | (apply aF;kernel_rfl)) | (apply aO; first | apply aH | apply aB | (apply aP;rfl;all_goals intro hc;have hq:=hc;(try simp only [cD] at hq);try exfalso;omega) | apply bF | apply aW) | with_reducible apply aA | with_reducible apply bE | with_reducible apply bD)
  refine cA (Le.frzD (d := 8) (i := 2) rfl rfl) ?_
  refine aU rfl ⟨?_, (by (exact aX _ _))⟩
  have hkl : k = lv.length := by omega
  have e : u = CR ts x fr lv pl.length := cZ (by unfold CR; simp; omega) fun l hl => by
   unfold CR
   rw [cV _ _ _ (by omega), hu l (by omega), hkl]
  have el : (CR ts x fr lv pl.length).length = pl.length := by unfold CR;simp
  rw [e]
  simp only [bQ, Nat.zero_add, sl, el]
theorem jE {f : Nat → Bool} {n k : Nat} (h : k < n) (hf : f k = false) : (List.range n).all f = false := by
 rw [Bool.eq_false_iff]; intro hc
 rw [List.all_eq_true] at hc
 have := hc k (List.mem_range.2 h)
 rw [hf] at this;cases this
theorem iR {f : Nat → Bool} {k : Nat} : (List.range (k + 1)).all f = ((List.range k).all f && f k) := by
 rw [List.range_succ, List.all_append]; simp
theorem z9 (fa fb : List (List Bool)) (pa pb : List Bool) (hpl : pa.length ≤ 61) (hfl : fa.length ≤ 6) (h1 : pb.length = pa.length) (h2 : fb.length = fa.length) (h3 : ∀ v, v < fa.length → fa[v]!.length = pa.length) (h4 : ∀ v, v < fa.length → fb[v]!.length = pa.length) : PC Tryz.prog 207 [.agg [sl hJ fa, sl cB pa], .agg [sl hJ fb, sl cB pb]] (fun r => r = bv (BV fa fb pa pb)) := by
 (refine aQ Tryz.func207 rfl (by simp [Tryz.ntmps207]) ?_; rw [Tryz.ntmps207])
 repeat' (first|(apply aM;first|(apply aC;rfl;rfl)|(apply aF;kernel_rfl)|(apply bW;rfl;rfl;rfl;rfl))|(apply aO;first|apply aH|apply aB|apply aJ)|with_reducible apply aA)
 refine bG (σ := Nat) [2, 3] [(2, _), (3, _)] [0, 1] [(0, some _), (1, some _)] (fun k => [(5, iv (k : Int))]) (fun k => []) (fun k => k ≤ pa.length ∧ (List.range k).all (C8 fa fb pa pb) = true) (fun k => pa.length - k) (0) ⟨by omega, rfl⟩ rfl rfl (by repeat' (first|exact trivial|refine And.intro rfl ?_)) (by repeat' (exact trivial)) ?_
 rintro i ⟨hi, hall⟩
 try dsimp only
 repeat' (first|(apply aM;first|(apply aD;rfl;rfl)|(apply aL;rfl;rfl;rfl;rfl)|(apply aE;rfl;rfl;rfl)|(first|(apply a9;rfl;rfl;rfl;(assumption))|(apply aZ;rfl;rfl;rfl;(assumption))|(apply bC;(case hj|hb|hN => rfl);all_goals (intro hg;have hq := hg;(try simp only [cD] at hq);(try (exfalso;omega)))))|(apply aV;rfl;rfl;rfl;rfl)|(apply aC;rfl;rfl)|(first|(apply bI;rfl;(assumption);rfl;rfl)|(apply bH;rfl;(assumption);rfl;rfl))|(apply bB;(case hx|hi => rfl);(case hm => (omega));(case hml => (rfl));(case hα | hf|hg => infer_instance);(case hN => rfl))|(apply a8;rfl;rfl;rfl)|(apply aF;kernel_rfl)|(apply cK;rfl;rfl))|(apply aO;first|apply aH|apply aB|(apply cF;rfl;(rfl))|(apply aP;rfl;all_goals intro hc;have hq:=hc;(try simp only [cD] at hq);try exfalso;omega)|apply aJ|apply aS|apply bF|apply aW)|with_reducible apply aA|with_reducible apply b0|with_reducible apply bE|with_reducible apply eQ|with_reducible apply bD)
 ·refine aU rfl ⟨?_, (by (rfl))⟩
  have e2 : C8 fa fb pa pb i = false := by unfold C8;grind
  have e3 : BV fa fb pa pb = false := jE (by omega : i < pa.length) e2
  simp only [bQ]
  rw [e3]
 ·have hin : i < pa.length := by omega
  have hpp : (!pa[i]! || pb[i]!) = true := by grind
  refine bG (σ := Nat) [2, 3, 5] [(2, _), (3, _), (5, _)] [0, 1] [(0, some _), (1, some _)] (fun j => [(6, iv (j : Int))]) (fun j => []) (fun j => j ≤ fa.length ∧ (List.range j).all (Dg fa fb i) = true) (fun j => fa.length - j) (0) ⟨by omega, rfl⟩ rfl rfl (by repeat' (first|exact trivial|refine And.intro rfl ?_)) (by repeat' (exact trivial)) ?_
  rintro j ⟨hj, hj2⟩
  try dsimp only
  by_cases hjn : j < fa.length
  ·have r1 := h3 j hjn
   have r2 := h4 j hjn
   repeat' (first|(apply aM;first|(apply aD;rfl;rfl)|(apply aL;rfl;rfl;rfl;rfl)|(apply aE;rfl;rfl;rfl)|(first|(apply a9;rfl;rfl;rfl;(assumption))|(apply aZ;rfl;rfl;rfl;(assumption))|(apply bC;(case hj|hb|hN => rfl);all_goals (intro hg;have hq := hg;(try simp only [cD] at hq);(try (exfalso;omega)))))|(first|(apply bO;rfl;rfl;omega;rfl)|(apply aV;rfl;rfl;rfl;rfl))|(apply aC;rfl;rfl)|(first|(apply bI;rfl;(assumption);rfl;rfl)|(apply bH;rfl;(assumption);rfl;rfl))|(apply bB;(case hx|hi => rfl);(case hm => (first|assumption|omega));(case hml => (rfl));(case hα | hf|hg => infer_instance);(case hN => rfl))|(apply a8;rfl;rfl;rfl)|(apply aF;kernel_rfl)|(apply cK;rfl;rfl))|(apply aO;first|apply aH|apply aB|(apply cF;rfl;(rfl))|(apply aP;rfl;all_goals intro hc;have hq:=hc;(try simp only [cD] at hq);try exfalso;omega)|apply aJ|apply aS|apply aW)|with_reducible apply aA|with_reducible apply b0|with_reducible apply aT|with_reducible apply eQ)
   ·refine aU rfl ⟨?_, (by (rfl))⟩
    have e1 : Dg fa fb i j = false := by unfold Dg;grind
    have e2 : C8 fa fb pa pb i = false := by unfold C8;rw [jE hjn e1, Bool.and_false]
    have e3 : BV fa fb pa pb = false := jE hin e2
    simp only [bQ]
    rw [e3]
   ·(apply c6 (j + 1); focus (refine Le.ren [(0, 0), (1, 1)] rfl (by decide) ?_ ?_ <;> repeat' (first | exact trivial | refine And.intro ⟨_, rfl, ?_⟩ ?_ | refine And.intro ⟨_, _, rfl, rfl, ?_⟩ ?_ | exact Or.inr rfl | refine Or.inl ⟨?_, (by first | rfl | exact Pur.pf)⟩ | rfl)))
    ·refine ⟨by omega, ?_⟩
     rw [iR, hj2]; unfold Dg;grind
    ·omega
   ·(apply c6 (j + 1); focus (refine Le.ren [(0, 0), (1, 1)] rfl (by decide) ?_ ?_ <;> repeat' (first | exact trivial | refine And.intro ⟨_, rfl, ?_⟩ ?_ | refine And.intro ⟨_, _, rfl, rfl, ?_⟩ ?_ | exact Or.inr rfl | refine Or.inl ⟨?_, (by first | rfl | exact Pur.pf)⟩ | rfl)))
    ·refine ⟨by omega, ?_⟩
     rw [iR, hj2]; unfold Dg;grind
    ·omega
  ·have hje : j = fa.length := by omega
   have e2 : C8 fa fb pa pb i = true := by unfold C8;rw [hpp, ← hje, hj2]; rfl
   repeat' (first|(apply aM;first|(apply aD;rfl;rfl)|(apply aL;rfl;rfl;rfl;rfl)|(apply aE;rfl;rfl;rfl)|(first|(apply bO;rfl;rfl;omega;rfl)|(apply aV;rfl;rfl;rfl;rfl))|(apply aC;rfl;rfl)|(apply a8;rfl;rfl;rfl)|(apply aF;kernel_rfl))|(apply aO;first|apply aH|apply aB|(apply aP;rfl;all_goals intro hc;have hq:=hc;(try simp only [cD] at hq);try exfalso;omega)|apply bF)|with_reducible apply aA|with_reducible apply bE|with_reducible apply aT|with_reducible apply bD)
   (apply c6 (i + 1);focus (refine Le.ren [(0, 0), (1, 1)] rfl (by decide) ?_ ?_ <;> repeat' (first|exact trivial|refine And.intro ⟨_, rfl, ?_⟩ ?_|refine And.intro ⟨_, _, rfl, rfl, ?_⟩ ?_|exact Or.inr rfl|refine Or.inl ⟨?_, (by first|rfl|exact Pur.pf)⟩|rfl)))
   ·refine ⟨by omega, ?_⟩
    rw [iR, hall, e2]; rfl
   ·omega
 ·have hin : i < pa.length := by omega
  have hpp : (!pa[i]! || pb[i]!) = true := by grind
  refine bG (σ := Nat) [2, 3, 5] [(2, _), (3, _), (5, _)] [0, 1] [(0, some _), (1, some _)] (fun j => [(6, iv (j : Int))]) (fun j => []) (fun j => j ≤ fa.length ∧ (List.range j).all (Dg fa fb i) = true) (fun j => fa.length - j) (0) ⟨by omega, rfl⟩ rfl rfl (by repeat' (first|exact trivial|refine And.intro rfl ?_)) (by repeat' (exact trivial)) ?_
  rintro j ⟨hj, hj2⟩
  try dsimp only
  by_cases hjn : j < fa.length
  ·have r1 := h3 j hjn
   have r2 := h4 j hjn
   repeat' (first|(apply aM;first|(apply aD;rfl;rfl)|(apply aL;rfl;rfl;rfl;rfl)|(apply aE;rfl;rfl;rfl)|(first|(apply a9;rfl;rfl;rfl;(assumption))|(apply aZ;rfl;rfl;rfl;(assumption))|(apply bC;(case hj|hb|hN => rfl);all_goals (intro hg;have hq := hg;(try simp only [cD] at hq);(try (exfalso;omega)))))|(first|(apply bO;rfl;rfl;omega;rfl)|(apply aV;rfl;rfl;rfl;rfl))|(apply aC;rfl;rfl)|(first|(apply bI;rfl;(assumption);rfl;rfl)|(apply bH;rfl;(assumption);rfl;rfl))|(apply bB;(case hx|hi => rfl);(case hm => (first|assumption|omega));(case hml => (rfl));(case hα | hf|hg => infer_instance);(case hN => rfl))|(apply a8;rfl;rfl;rfl)|(apply aF;kernel_rfl)|(apply cK;rfl;rfl))|(apply aO;first|apply aH|apply aB|(apply cF;rfl;(rfl))|(apply aP;rfl;all_goals intro hc;have hq:=hc;(try simp only [cD] at hq);try exfalso;omega)|apply aJ|apply aS|apply aW)|with_reducible apply aA|with_reducible apply b0|with_reducible apply aT|with_reducible apply eQ)
   ·refine aU rfl ⟨?_, (by (rfl))⟩
    have e1 : Dg fa fb i j = false := by unfold Dg;grind
    have e2 : C8 fa fb pa pb i = false := by unfold C8;rw [jE hjn e1, Bool.and_false]
    have e3 : BV fa fb pa pb = false := jE hin e2
    simp only [bQ]
    rw [e3]
   ·(apply c6 (j + 1); focus (refine Le.ren [(0, 0), (1, 1)] rfl (by decide) ?_ ?_ <;> repeat' (first | exact trivial | refine And.intro ⟨_, rfl, ?_⟩ ?_ | refine And.intro ⟨_, _, rfl, rfl, ?_⟩ ?_ | exact Or.inr rfl | refine Or.inl ⟨?_, (by first | rfl | exact Pur.pf)⟩ | rfl)))
    ·refine ⟨by omega, ?_⟩
     rw [iR, hj2]; unfold Dg;grind
    ·omega
   ·(apply c6 (j + 1); focus (refine Le.ren [(0, 0), (1, 1)] rfl (by decide) ?_ ?_ <;> repeat' (first | exact trivial | refine And.intro ⟨_, rfl, ?_⟩ ?_ | refine And.intro ⟨_, _, rfl, rfl, ?_⟩ ?_ | exact Or.inr rfl | refine Or.inl ⟨?_, (by first | rfl | exact Pur.pf)⟩ | rfl)))
    ·refine ⟨by omega, ?_⟩
     rw [iR, hj2]; unfold Dg;grind
    ·omega
  ·have hje : j = fa.length := by omega
   have e2 : C8 fa fb pa pb i = true := by unfold C8;rw [hpp, ← hje, hj2]; rfl
   repeat' (first|(apply aM;first|(apply aD;rfl;rfl)|(apply aL;rfl;rfl;rfl;rfl)|(apply aE;rfl;rfl;rfl)|(first|(apply bO;rfl;rfl;omega;rfl)|(apply aV;rfl;rfl;rfl;rfl))|(apply aC;rfl;rfl)|(apply a8;rfl;rfl;rfl)|(apply aF;kernel_rfl))|(apply aO;first|apply aH|apply aB|(apply aP;rfl;all_goals intro hc;have hq:=hc;(try simp only [cD] at hq);try exfalso;omega)|apply bF)|with_reducible apply aA|with_reducible apply bE|with_reducible apply aT|with_reducible apply bD)
   (apply c6 (i + 1);focus (refine Le.ren [(0, 0), (1, 1)] rfl (by decide) ?_ ?_ <;> repeat' (first|exact trivial|refine And.intro ⟨_, rfl, ?_⟩ ?_|refine And.intro ⟨_, _, rfl, rfl, ?_⟩ ?_|exact Or.inr rfl|refine Or.inl ⟨?_, (by first|rfl|exact Pur.pf)⟩|rfl)))
   ·refine ⟨by omega, ?_⟩
    rw [iR, hall, e2]; rfl
   ·omega
 ·refine aU rfl ⟨?_, (by (rfl))⟩
  have hie : i = pa.length := by omega
  have e3 : BV fa fb pa pb = true := by unfold BV;rw [← hie]; exact hall
  simp only [bQ]
  rw [e3]
theorem Bl {m : List (Nat × Nat)} {l0 k K b w : Nat} (h0 : l0 ≤ bZ) (hK : K = k) : RnL (jI m ⟨l0, bZ + K⟩ (some b)) (flat (wP 0 w) (List.range (k + 1))) (((flat (wP 0 w) (List.range k)).drop 0).take (k * 1) ++ [.own b 0 w 1]) := by
 rw [hK]
 have e : ((flat (wP 0 w) (List.range k)).drop 0).take (k * 1) = flat (wP 0 w) (List.range k) := List.take_of_length_le (by rw [List.drop_zero, aK (wP 0 w) (e := 1)]; simp)
 rw [e, List.range_succ, ← cT, lP]
 refine (dV (by show bZ + (0 + k) ≤ bZ + k;omega)).app (.cons (.own ?_) .nil)
 unfold jI
 rw [if_neg (by show ¬ 0 + k + bZ < l0;omega), if_pos (by omega), if_neg (by show ¬ 0 + k + bZ < bZ + k;omega), if_pos (by show 0 + k + bZ = bZ + k;omega)]
theorem DX (p : Prg) (A : List Nat) (hs : bJ p.body ≤ 1000000) (w : WG p.types (aR p)) (hA : o8 p.types (aR p) A) : PC Tryz.prog 86 [c8 p] (fun r => r = sl hJ (eG p.types.length (aR p).length A)) := by
 have hpl := w.pl
 have hp0 := w.p0
 have htl := w.tl
 (refine aQ Tryz.func86 rfl (by simp [Tryz.ntmps86]) ?_; rw [Tryz.ntmps86])
 repeat' (first|(apply aM;first|((with_reducible apply aI (k := 110));(case ha => rfl);(case h => exact kX p hs);(case hp => (exact Pur.pf));(case hN => rfl))|(apply a6;rfl;rfl;(exact (rfl:_=[_, _]));rfl;rfl;rfl)|(apply aC;rfl;rfl)|(apply aF;kernel_rfl)|(apply bW;rfl;rfl;rfl;rfl)|(apply bK;rfl;rfl;rfl;(rfl);rfl;rfl))|(apply aO;first|apply aH|apply aB|apply aJ)|with_reducible apply aA)
 refine eR (σ := Nat) 0 (fun k => List.replicate k (List.replicate p.types.length false)) [1, 3] [(1, _), (3, _)] [0] [(0, some _)] (fun k => [(5, iv (k : Int)), (4, .own 1 0 k 1)]) (fun k => [(1, some (flat (wP 0 p.types.length) (List.range k)))]) (fun k => k ≤ (aR p).length) (fun k => (aR p).length - k) (0) (Nat.zero_le _) rfl rfl (by repeat' (first|exact trivial|refine And.intro rfl ?_)) (by repeat' (first|exact trivial|refine And.intro (.inr rfl) ?_)) (by (repeat' (first|exact FamR.here|(apply FamR.cons;focus rfl)))) (by (rfl)) ?_
 intro k hk
 try dsimp only
 repeat' (first|(apply aM;first|(with_reducible apply dR (d := 6))|(apply aD;rfl;rfl)|(apply aL;rfl;rfl;rfl;rfl)|(apply aE;rfl;rfl;rfl)|(first|(apply bO;rfl;rfl;omega;rfl)|(apply aV;rfl;rfl;rfl;rfl))|(apply aC;rfl;rfl)|(first|(apply a8;rfl;rfl;rfl)|(apply bV;rfl;rfl;rfl;rfl;rfl;(case hl => (simp [aK]; done));(rfl);omega;omega;(rfl);rfl;rfl))|(apply aF;kernel_rfl)|(apply bK;rfl;rfl;rfl;exact (rfl:_=some [_]);rfl;rfl)|(apply cR;rfl;rfl;rfl;omega;omega;(exact iP);rfl;rfl))|(apply aO;first|apply aH|apply aB|(apply aP;rfl;all_goals intro hc;have hq:=hc;(try simp only [cD] at hq);try exfalso;omega)|apply aJ|apply aS|apply bF)|with_reducible apply aA|with_reducible apply bE|with_reducible apply aT|with_reducible apply bD)
 ·(apply c6 (k + 1); focus (refine Le.renF1 [(0, 0), (1, 4)] 2 (R := ?qA1) (r := ?qB1) (hF := ?qF1) (hz := ?qz1) (hm := ?qm1) (hn := ?qn1) (hlb := ?qlb1) (hb := ?qb1) (hr := ?qr1) (hR := ?qR1) (h1 := ?q11) (h2 := ?q21); (case qF1 => (repeat' (first | exact FamR.here | (apply FamR.cons; focus rfl)))); (case qz1 => (rfl)); (case qm1 => rfl); (case qn1 => decide); (case qlb1 => decide); (case qb1 => decide); (case qr1 => rfl); (case qR1 => (exact List.replicate_succ')); all_goals (repeat' (first | exact trivial | refine And.intro ⟨_, rfl, ?_⟩ ?_ | refine And.intro ⟨_, _, rfl, rfl, ?_⟩ ?_ | exact RnL.purI inferInstance | exact RnV.purI inferInstance | exact RnV.own rfl | exact RnV.optr rfl | exact Bl (by decide) (by simp)))))
  ·show k + 1 ≤ (aR p).length;omega
  ·show (aR p).length - (k + 1) < (aR p).length - k;omega
 ·have hkN : k = (aR p).length := by omega
  subst hkN
  refine gK (fN ?_ (Le.frzD (d := 4) (i := 1) rfl rfl))
  repeat' (first|(apply aM;first|(apply aC;rfl;rfl)|(apply aF;kernel_rfl))|(apply aO;first|apply aH|apply aJ)|with_reducible apply aA)
  refine eR (σ := List (List Bool) × Bool) 0 (fun s => s.1) [1, 3, 4] [(1, _), (3, _), (4, _)] [0] [(0, some _)] (fun s => [(6, bv s.2)]) (fun s => []) (fun s => LH p.types (aR p) s.1 s.2) (fun s => I8 p.types.length (aR p).length s.1 s.2) (List.replicate (aR p).length (List.replicate p.types.length false), true) (LH.init _ _) rfl rfl (by repeat' (first|exact trivial|refine And.intro rfl ?_)) (by repeat' (exact trivial)) (by (repeat' (first|exact FamR.here|(apply FamR.cons;focus rfl)))) (by (rfl)) ?_
  rintro ⟨R, c⟩ hLH
  try dsimp only at hLH
  try dsimp only
  have hRl := hLH.lo
  have hRr := hLH.ro
  cases c with
  | false =>
   repeat' (first|(apply aM;first|(apply aD;rfl;rfl)|(apply aC;rfl;rfl)|(apply aF;kernel_rfl))|(apply aO;first|apply aH|apply aB|(apply cF;rfl;(rfl))|apply bF|apply aW)|with_reducible apply aA|with_reducible apply bE|with_reducible apply bD)
   have hfin := hLH.final w hA
   refine cA (Le.frzAll (d := 2) (D := (List.range R.length).map fun k => 0 + k + bZ) rfl (.imm (LdL.rows (b := 0) (R := R) (by (repeat' (first|exact FamR.here|(apply FamR.cons;focus rfl)))) (fun k hk => List.mem_map.2 ⟨k, by rw [List.mem_range]; omega, rfl⟩) (by omega) (fun k hk => by rw [Nat.zero_add]; exact hRr k hk)))) ?_
   refine aU rfl ⟨?_, (by (exact aX _ _))⟩
   simp only [bQ]
   rw [List.drop_zero, List.take_of_length_le (by omega), hfin]
   simp only [sl, gB]
  | true =>
   have hst := hLH.start
   repeat' (first|(apply aM;first|(apply aD;rfl;rfl)|(apply gT;rfl;rfl;omega;rfl)|(apply aC;rfl;rfl)|(apply a8;rfl;rfl;rfl)|(apply aF;kernel_rfl))|(apply aO;first|apply aH|apply aB|(apply bX;rfl;(rfl))|apply aJ|apply aS)|with_reducible apply aA)
   refine eR (σ := Int × List (List Bool) × Bool) 0 (fun s => s.2.1) [1, 3, 4] [(1, _), (3, _), (4, _)] [0] [(0, some _)] (fun s => [(6, bv s.2.2), (7, iv s.1)]) (fun s => []) (fun s => -1 ≤ s.1 ∧ s.1 < (aR p).length ∧ LS p.types (aR p) R s.2.1 s.2.2 (DL s.1 0 0)) (fun s => (s.1 + 1).toNat) (((aR p).length : Int) - 1, R, false) ⟨(by show -1 ≤ ((aR p).length : Int) - 1;omega), (by show ((aR p).length : Int) - 1 < _; omega), hst⟩ rfl rfl (by repeat' (first|exact trivial|refine And.intro rfl ?_)) (by repeat' (exact trivial)) (by (repeat' (first|exact FamR.here|(apply FamR.cons;focus rfl)))) (by (rfl)) ?_
   rintro ⟨z, R1, c1⟩ ⟨hz1, hz2, hL1⟩
   dsimp only at hz1 hz2 hL1
   have hl1 := hL1.lo
   try dsimp only
   repeat' (first|(apply aM;first|(apply aD;rfl;rfl)|(apply aV;rfl;rfl;rfl;rfl)|(apply aC;rfl;rfl)|(apply aF;kernel_rfl))|(apply aO;first|apply aH|apply aB|(apply aP;rfl;all_goals intro hc;have hq:=hc;(try simp only [cD] at hq);try exfalso;omega)|apply aJ|apply aS|apply bF)|with_reducible apply aA|with_reducible apply bE|with_reducible apply aT|with_reducible apply bD)
   ·have hnl := w.nl z.toNat (by omega)
    refine eR (σ := Nat × List (List Bool) × Bool) 0 (fun s => s.2.1) [1, 3, 4, 7] [(1, _), (3, _), (4, _), (7, _)] [0] [(0, some _)] (fun s => [(6, bv s.2.2), (8, iv (s.1 : Int))]) (fun s => []) (fun s => s.1 ≤ (aR p)[z.toNat]!.next.length ∧ LS p.types (aR p) R s.2.1 s.2.2 (DL z s.1 0)) (fun s => (aR p)[z.toNat]!.next.length - s.1) (0, R1, c1) ⟨Nat.zero_le _, hL1⟩ rfl rfl (by repeat' (first|exact trivial|refine And.intro rfl ?_)) (by repeat' (exact trivial)) (by (repeat' (first|exact FamR.here|(apply FamR.cons;focus rfl)))) (by (rfl)) ?_
    rintro ⟨kk, R2, c2⟩ ⟨hk, hL2⟩
    dsimp only at hk hL2
    have hl2 := hL2.lo
    try dsimp only
    by_cases hkn : kk < (aR p)[z.toNat]!.next.length
    ·have hnx := w.nx z.toNat (by omega) _ (dD _ _ hkn)
     repeat' (first|(apply aM;first|(apply aD;rfl;rfl)|(apply aL;rfl;rfl;rfl;rfl)|(apply aE;rfl;rfl;rfl)|(apply aV;rfl;rfl;rfl;rfl)|(apply aC;rfl;rfl)|(first|(apply bB;(case hx|hi => rfl);(case hm => (assumption));(case hml => (rfl));(case hα | hf|hg => infer_instance);(case hN => rfl))|(apply cC;(case hx|hi => rfl);(case hm => (omega));(case hml => (rfl));(case hα | hf|hg => infer_instance);(case hN => rfl)))|(apply a8;rfl;rfl;rfl)|(apply aF;kernel_rfl))|(apply aO;first|apply aH|apply aB|(apply aP;rfl;all_goals intro hc;have hq:=hc;(try simp only [cD] at hq);try exfalso;omega)|apply aJ|apply aS)|with_reducible apply aA)
     refine eR (σ := Nat × List (List Bool) × Bool) 0 (fun s => s.2.1) [1, 3, 4, 7, 8, 9] [(1, _), (3, _), (4, _), (7, _), (8, _), (9, _)] [0] [(0, some _)] (fun s => [(6, bv s.2.2), (10, iv (s.1 : Int))]) (fun s => []) (fun s => s.1 ≤ p.types.length ∧ LS p.types (aR p) R s.2.1 s.2.2 (DL z kk s.1)) (fun s => p.types.length - s.1) (0, R2, c2) ⟨Nat.zero_le _, hL2⟩ rfl rfl (by repeat' (first|exact trivial|refine And.intro rfl ?_)) (by repeat' (exact trivial)) (by (repeat' (first|exact FamR.here|(apply FamR.cons;focus rfl)))) (by (rfl)) ?_
     rintro ⟨v, R3, c3⟩ ⟨hv, hL3⟩
     dsimp only at hv hL3
     try dsimp only
     have hl3 := hL3.lo
     have hr3 := hL3.ro z.toNat (by omega)
     have hr3n := hL3.ro ((aR p)[z.toNat]!.next[kk]!).toNat (by omega)
     by_cases hvn : v < p.types.length
     ·repeat' (first | (apply aM; first | (apply aD;rfl;rfl) | (first | (apply Fk;rfl;(case hF => (repeat' (first | exact FamR.here | (apply FamR.cons; focus rfl))));(omega);(simp only [fD] <;> omega);rfl) | (apply aL;rfl;rfl;rfl;rfl) | (apply a6;rfl;rfl;(exact (rfl:_=[_, _, _, _, _]));rfl;rfl;rfl)) | (apply aE;rfl;rfl;rfl) | (first | (apply iS;rfl;rfl;rfl) | (apply a9;rfl;rfl;rfl;(first | rfl | assumption)) | (apply aZ;rfl;rfl;rfl;(first | rfl | assumption)) | (apply bC; (case hj | hb | hN => rfl); all_goals (intro hg; have hq := hg; (try simp only [cD] at hq); (try (exfalso; omega))))) | (first | (apply bO;rfl;rfl;omega;rfl) | (apply aV;rfl;rfl;rfl;rfl)) | (apply aC;rfl;rfl) | (first | (apply bI;rfl;(first | rfl | assumption);rfl;rfl) | (apply bH;rfl;(first | rfl | assumption);rfl;rfl)) | (first | (apply jY;rfl;rfl;(first | assumption | omega);rfl;infer_instance;infer_instance;rfl) | (apply cL;rfl;rfl;(assumption);rfl) | (apply cC; (case hx | hi => rfl); (case hm => (assumption)); (case hml => (rfl)); (case hα | hf | hg => infer_instance); (case hN => rfl))) | (first | ((with_reducible apply aI (k := 136)); (case ha => rfl); (case h => (apply mL <;> (omega))); (case hp => (exact Pur.pf)); (case hN => rfl)) | ((with_reducible apply aI (k := 137)); (case ha => rfl); (case h => (apply nV <;> (fail))); (case hp => (exact Pur.pf)); (case hN => rfl))) | (apply a8;rfl;rfl;rfl) | (apply aF;kernel_rfl) | (apply cK;rfl;rfl) | (apply Da;rfl;rfl;(case hF => (repeat' (first | exact FamR.here | (apply FamR.cons; focus rfl))));(omega);(simp only [fD] <;> omega))) | (apply aO; first | apply aH | apply aB | (apply b9;kernel_rfl) | (apply cF;rfl;(rfl)) | (apply aP;rfl;all_goals intro hc;have hq:=hc;(try simp only [cD] at hq);try exfalso;omega) | apply aJ | apply aS) | with_reducible apply aA | with_reducible apply aT)
      ·(apply c6 (v + 1, _, _); focus (refine Le.renF0 [(0, 0)] (R := ?qA2) (hF := ?qF2) (hz := ?qz2) (hm := ?qm2) (hn := ?qn2) (h1 := ?q12) (h2 := ?q22); (case qF2 => (repeat' (first | exact FamR.here | (apply FamR.cons; focus rfl)))); (case qz2 => (simp only [List.length_set])); (case qm2 => rfl); (case qn2 => decide); all_goals (repeat' (first | exact trivial | refine And.intro ⟨_, rfl, ?_⟩ ?_ | refine And.intro ⟨_, _, rfl, rfl, ?_⟩ ?_ | exact RnL.purI inferInstance | exact RnV.purI inferInstance | exact RnV.optr rfl | exact RnV.imm (dV (by (simp only [List.length_replicate, List.length_set, List.length_append, List.length_singleton] at * <;> omega)))))))
       ·refine ⟨(by show v + 1 ≤ p.types.length; omega), ?_⟩
        have hf : R3[z.toNat]![v]! = false := by simp only [Nat.zero_add] at *; assumption
        have hn : iI p.types (aR p) R3 ((aR p)[z.toNat]!.next[kk]!).toNat v = true := by simp only [Nat.zero_add] at *; clear hL1 hL2 hL3 hLH hst;grind [iI]
        have hh := hL3.hit w (DL z kk (v + 1)) (by omega) hkn hvn hn hf
        simpa only [Nat.zero_add] using hh
       ·show p.types.length - (v + 1) < p.types.length - v;omega
      ·(apply c6 (v + 1, R3, c3); focus (refine Le.renF0 [(0, 0)] (R := ?qA3) (hF := ?qF3) (hz := ?qz3) (hm := ?qm3) (hn := ?qn3) (h1 := ?q13) (h2 := ?q23); (case qF3 => (repeat' (first | exact FamR.here | (apply FamR.cons; focus rfl)))); (case qz3 => (rfl)); (case qm3 => rfl); (case qn3 => decide); all_goals (repeat' (first | exact trivial | refine And.intro ⟨_, rfl, ?_⟩ ?_ | refine And.intro ⟨_, _, rfl, rfl, ?_⟩ ?_ | exact RnL.purI inferInstance | exact RnV.purI inferInstance | exact RnV.optr rfl | exact RnV.imm (dV (by (simp only [List.length_replicate, List.length_set, List.length_append, List.length_singleton] at * <;> omega)))))))
       ·refine ⟨(by show v + 1 ≤ p.types.length; omega), ?_⟩
        refine hL3.skip (i := z.toNat) (k := kk) (v := v) (fun hn => ?_) (fun i' k' v' _ _ _ hd => by unfold DL at hd ⊢; omega)
        simp only [Nat.zero_add] at *
        first
        | assumption
        | (exfalso;clear hL1 hL2 hL3 hLH hst;grind [iI])
       ·show p.types.length - (v + 1) < p.types.length - v;omega
      ·(apply c6 (v + 1, R3, c3); focus (refine Le.renF0 [(0, 0)] (R := ?qA4) (hF := ?qF4) (hz := ?qz4) (hm := ?qm4) (hn := ?qn4) (h1 := ?q14) (h2 := ?q24); (case qF4 => (repeat' (first | exact FamR.here | (apply FamR.cons; focus rfl)))); (case qz4 => (rfl)); (case qm4 => rfl); (case qn4 => decide); all_goals (repeat' (first | exact trivial | refine And.intro ⟨_, rfl, ?_⟩ ?_ | refine And.intro ⟨_, _, rfl, rfl, ?_⟩ ?_ | exact RnL.purI inferInstance | exact RnV.purI inferInstance | exact RnV.optr rfl | exact RnV.imm (dV (by (simp only [List.length_replicate, List.length_set, List.length_append, List.length_singleton] at * <;> omega)))))))
       ·refine ⟨(by show v + 1 ≤ p.types.length; omega), ?_⟩
        refine hL3.skip (i := z.toNat) (k := kk) (v := v) (fun hn => ?_) (fun i' k' v' _ _ _ hd => by unfold DL at hd ⊢; omega)
        simp only [Nat.zero_add] at *
        first
        | assumption
        | (exfalso;clear hL1 hL2 hL3 hLH hst;grind [iI])
       ·show p.types.length - (v + 1) < p.types.length - v;omega
      ·(apply c6 (v + 1, R3, c3); focus (refine Le.renF0 [(0, 0)] (R := ?qA5) (hF := ?qF5) (hz := ?qz5) (hm := ?qm5) (hn := ?qn5) (h1 := ?q15) (h2 := ?q25); (case qF5 => (repeat' (first | exact FamR.here | (apply FamR.cons; focus rfl)))); (case qz5 => (rfl)); (case qm5 => rfl); (case qn5 => decide); all_goals (repeat' (first | exact trivial | refine And.intro ⟨_, rfl, ?_⟩ ?_ | refine And.intro ⟨_, _, rfl, rfl, ?_⟩ ?_ | exact RnL.purI inferInstance | exact RnV.purI inferInstance | exact RnV.optr rfl | exact RnV.imm (dV (by (simp only [List.length_replicate, List.length_set, List.length_append, List.length_singleton] at * <;> omega)))))))
       ·refine ⟨(by show v + 1 ≤ p.types.length; omega), ?_⟩
        refine hL3.skip (i := z.toNat) (k := kk) (v := v) (fun hn => ?_) (fun i' k' v' _ _ _ hd => by unfold DL at hd ⊢; omega)
        simp only [Nat.zero_add] at *
        first
        | assumption
        | (exfalso;clear hL1 hL2 hL3 hLH hst;grind [iI])
       ·show p.types.length - (v + 1) < p.types.length - v;omega
      ·(apply c6 (v + 1, _, _); focus (refine Le.renF0 [(0, 0)] (R := ?qA6) (hF := ?qF6) (hz := ?qz6) (hm := ?qm6) (hn := ?qn6) (h1 := ?q16) (h2 := ?q26); (case qF6 => (repeat' (first | exact FamR.here | (apply FamR.cons; focus rfl)))); (case qz6 => (simp only [List.length_set])); (case qm6 => rfl); (case qn6 => decide); all_goals (repeat' (first | exact trivial | refine And.intro ⟨_, rfl, ?_⟩ ?_ | refine And.intro ⟨_, _, rfl, rfl, ?_⟩ ?_ | exact RnL.purI inferInstance | exact RnV.purI inferInstance | exact RnV.optr rfl | exact RnV.imm (dV (by (simp only [List.length_replicate, List.length_set, List.length_append, List.length_singleton] at * <;> omega)))))))
       ·refine ⟨(by show v + 1 ≤ p.types.length; omega), ?_⟩
        have hf : R3[z.toNat]![v]! = false := by simp only [Nat.zero_add] at *; assumption
        have hn : iI p.types (aR p) R3 ((aR p)[z.toNat]!.next[kk]!).toNat v = true := by simp only [Nat.zero_add] at *; clear hL1 hL2 hL3 hLH hst;grind [iI]
        have hh := hL3.hit w (DL z kk (v + 1)) (by omega) hkn hvn hn hf
        simpa only [Nat.zero_add] using hh
       ·show p.types.length - (v + 1) < p.types.length - v;omega
      ·(apply c6 (v + 1, R3, c3); focus (refine Le.renF0 [(0, 0)] (R := ?qA7) (hF := ?qF7) (hz := ?qz7) (hm := ?qm7) (hn := ?qn7) (h1 := ?q17) (h2 := ?q27); (case qF7 => (repeat' (first | exact FamR.here | (apply FamR.cons; focus rfl)))); (case qz7 => (rfl)); (case qm7 => rfl); (case qn7 => decide); all_goals (repeat' (first | exact trivial | refine And.intro ⟨_, rfl, ?_⟩ ?_ | refine And.intro ⟨_, _, rfl, rfl, ?_⟩ ?_ | exact RnL.purI inferInstance | exact RnV.purI inferInstance | exact RnV.optr rfl | exact RnV.imm (dV (by (simp only [List.length_replicate, List.length_set, List.length_append, List.length_singleton] at * <;> omega)))))))
       ·refine ⟨(by show v + 1 ≤ p.types.length; omega), ?_⟩
        refine hL3.skip (i := z.toNat) (k := kk) (v := v) (fun hn => ?_) (fun i' k' v' _ _ _ hd => by unfold DL at hd ⊢; omega)
        simp only [Nat.zero_add] at *
        first
        | assumption
        | (exfalso;clear hL1 hL2 hL3 hLH hst;grind [iI])
       ·show p.types.length - (v + 1) < p.types.length - v;omega
     ·repeat' (first | (apply aM; first | (apply aD;rfl;rfl) | (apply aL;rfl;rfl;rfl;rfl) | (apply aE;rfl;rfl;rfl) | (first | (apply bO;rfl;rfl;omega;rfl) | (apply aV;rfl;rfl;rfl;rfl)) | (apply aC;rfl;rfl) | (apply a8;rfl;rfl;rfl) | (apply aF;kernel_rfl)) | (apply aO; first | apply aH | apply aB | (apply aP;rfl;all_goals intro hc;have hq:=hc;(try simp only [cD] at hq);try exfalso;omega) | apply bF) | with_reducible apply aA | with_reducible apply bE | with_reducible apply aT | with_reducible apply bD)
      ·(apply c6 (kk + 1, R3, c3); focus (refine Le.renF0 [(0, 0)] (R := ?qA8) (hF := ?qF8) (hz := ?qz8) (hm := ?qm8) (hn := ?qn8) (h1 := ?q18) (h2 := ?q28); (case qF8 => (repeat' (first | exact FamR.here | (apply FamR.cons; focus rfl)))); (case qz8 => (rfl)); (case qm8 => rfl); (case qn8 => decide); all_goals (repeat' (first | exact trivial | refine And.intro ⟨_, rfl, ?_⟩ ?_ | refine And.intro ⟨_, _, rfl, rfl, ?_⟩ ?_ | exact RnL.purI inferInstance | exact RnV.purI inferInstance | exact RnV.optr rfl | exact RnV.imm (dV (by (simp only [List.length_replicate, List.length_set, List.length_append, List.length_singleton] at * <;> omega)))))))
       ·refine ⟨(by show kk + 1 ≤ (aR p)[z.toNat]!.next.length; omega), ?_⟩
        exact hL3.mono fun i' k' v' _ _ _ hd => by unfold DL at hd ⊢; omega
       ·show (aR p)[z.toNat]!.next.length - (kk + 1) < (aR p)[z.toNat]!.next.length - kk;omega
    ·repeat' (first | (apply aM; first | (apply aD;rfl;rfl) | (apply aL;rfl;rfl;rfl;rfl) | (apply aE;rfl;rfl;rfl) | (first | (apply gT;rfl;rfl;omega;rfl) | (apply aV;rfl;rfl;rfl;rfl)) | (apply aC;rfl;rfl) | (apply cC; (case hx | hi => rfl); (case hm => (omega)); (case hml => (rfl)); (case hα | hf | hg => infer_instance); (case hN => rfl)) | (apply a8;rfl;rfl;rfl) | (apply aF;kernel_rfl)) | (apply aO; first | apply aH | apply aB | (apply aP;rfl;all_goals intro hc;have hq:=hc;(try simp only [cD] at hq);try exfalso;omega) | apply bF) | with_reducible apply aA | with_reducible apply bE | with_reducible apply aT | with_reducible apply bD)
     ·(apply c6 (z - 1, R2, c2); focus (refine Le.renF0 [(0, 0)] (R := ?qA9) (hF := ?qF9) (hz := ?qz9) (hm := ?qm9) (hn := ?qn9) (h1 := ?q19) (h2 := ?q29); (case qF9 => (repeat' (first | exact FamR.here | (apply FamR.cons; focus rfl)))); (case qz9 => (rfl)); (case qm9 => rfl); (case qn9 => decide); all_goals (repeat' (first | exact trivial | refine And.intro ⟨_, rfl, ?_⟩ ?_ | refine And.intro ⟨_, _, rfl, rfl, ?_⟩ ?_ | exact RnL.purI inferInstance | exact RnV.purI inferInstance | exact RnV.optr rfl | exact RnV.imm (dV (by (simp only [List.length_replicate, List.length_set, List.length_append, List.length_singleton] at * <;> omega)))))))
      ·refine ⟨(by show -1 ≤ z - 1; omega), (by show z - 1 < ((aR p).length : Int); omega), ?_⟩
       refine hL2.mono fun i' k' v' _ hk' _ hd => ?_
       unfold DL at hd ⊢
       by_cases e : (i' : Int) = z
       ·have e2 : i' = z.toNat := by omega
        rw [e2] at hk'; omega
       ·omega
      ·show (z - 1 + 1).toNat < (z + 1).toNat;omega
   ·(apply c6 (R1, c1); focus (refine Le.renF0 [(0, 0)] (R := ?qA10) (hF := ?qF10) (hz := ?qz10) (hm := ?qm10) (hn := ?qn10) (h1 := ?q110) (h2 := ?q210); (case qF10 => (repeat' (first | exact FamR.here | (apply FamR.cons; focus rfl)))); (case qz10 => (rfl)); (case qm10 => rfl); (case qn10 => decide); all_goals (repeat' (first | exact trivial | refine And.intro ⟨_, rfl, ?_⟩ ?_ | refine And.intro ⟨_, _, rfl, rfl, ?_⟩ ?_ | exact RnL.purI inferInstance | exact RnV.purI inferInstance | exact RnV.optr rfl | exact RnV.imm (dV (by (simp only [List.length_replicate, List.length_set, List.length_append, List.length_singleton] at * <;> omega)))))))
    ·exact (hL1.fin (by omega)).1
    ·exact (hL1.fin (by omega)).2
abbrev HA (b nv N : Nat) : AV := .agg [.imm nv (flat (wP b N) (List.range nv)), .own (b + nv + bZ) 0 N 1]
theorem EM {m : List (Nat × Nat)} {l0 K b j : Nat} (h0 : l0 ≤ bZ) (hj : j = K) : jI m ⟨l0, bZ + K⟩ (some b) (j + bZ) = some b := by
 subst hj
 unfold jI
 rw [if_neg (by show ¬ j + bZ < l0;omega), if_pos (by omega), if_neg (by show ¬ j + bZ < bZ + j;omega), if_pos (by show j + bZ = bZ + j;omega)]
theorem Ck (nv N : Nat) (hnv : nv ≤ 6) (hN : N ≤ 61) : Jd Tryz.prog 205 [iv (nv : Int), iv (N : Int)] (HA 0 nv N) (List.replicate (nv + 1) (List.replicate N false)) := by
 (refine En Tryz.func205 rfl (by simp [Tryz.ntmps205]) ?_; rw [Tryz.ntmps205])
 repeat' (first|(apply aM;first|((apply sW (d := 9));(case hl => rfl);(case hf => exact (rfl:_=some [_, _]));(case hN => rfl))|(with_reducible apply dR (d := 6))|(apply aD;rfl;rfl)|(apply aF;kernel_rfl)|(apply bT;rfl;rfl)|(apply a7;rfl;rfl;rfl;rfl;rfl;(case hl => (simp;done));(exact (rfl:_=[_, _])))|(apply cR;rfl;rfl;rfl;omega;omega;(exact iP);rfl;rfl))|(apply aO;first|apply aH|apply aB)|with_reducible apply aA)
 refine gK (fN ?_ (Le.nilCell (i := 2) 1 [] rfl (by decide) (by decide)))
 repeat' (first|(apply aM;first|(apply aC;rfl;rfl)|(apply aF;kernel_rfl))|(apply aO;(apply aJ))|with_reducible apply aA)
 refine eR (σ := Nat) 0 (fun k => List.replicate k (List.replicate N false)) [0, 1, 4, 5] [(0, _), (1, _), (4, _), (5, _)] [1, 0] [(1, some _), (0, some _)] (fun k => [(6, iv (k : Int))]) (fun k => [(2, some [.own 3 0 k 1, .own 1 0 N 1]), (3, some (flat (wP 0 N) (List.range k)))]) (fun k => k ≤ nv) (fun k => nv - k) (0) (Nat.zero_le _) rfl rfl (by repeat' (first|exact trivial|refine And.intro rfl ?_)) (by repeat' (first|exact trivial|refine And.intro (.inr rfl) ?_)) (by (repeat' (first|exact FamR.here|(apply FamR.cons;focus rfl)))) (by (rfl)) ?_
 intro k hk
 try dsimp only
 repeat' (first|(apply aM;first|(apply aD;rfl;rfl)|(first|(apply aL;rfl;rfl;rfl;rfl)|(apply a6;rfl;rfl;(exact (rfl:_=[_, _]));rfl;rfl;rfl))|(apply aE;rfl;rfl;rfl)|(first|(apply bO;rfl;rfl;omega;rfl)|(apply aV;rfl;rfl;rfl;rfl))|(apply aC;rfl;rfl)|(apply bV;rfl;rfl;rfl;rfl;rfl;(case hl => (simp [aK]; done));(rfl);omega;omega;(rfl);rfl;rfl)|(apply aF;kernel_rfl)|(apply bK;rfl;rfl;rfl;exact (rfl:_=some [_]);rfl;rfl)|(apply a7;rfl;rfl;rfl;rfl;rfl;(case hl => (simp;done));(exact (rfl:_=[_, _])))|(apply cR;rfl;rfl;rfl;omega;omega;(exact iP);rfl;rfl))|(apply aO;first|apply aH|apply aB|(apply b9;kernel_rfl)|(apply aP;rfl;all_goals intro hc;have hq:=hc;(try simp only [cD] at hq);try exfalso;omega)|apply aJ|apply aS|apply bF|apply aW)|with_reducible apply aA|with_reducible apply bE|with_reducible apply aT|with_reducible apply bD)
 ·(apply c6 (k + 1); focus (refine Le.renF1 [(0, 0), (1, 1), (2, 2), (3, 6)] 4 (R := ?qA1) (r := ?qB1) (hF := ?qF1) (hz := ?qz1) (hm := ?qm1) (hn := ?qn1) (hlb := ?qlb1) (hb := ?qb1) (hr := ?qr1) (hR := ?qR1) (h1 := ?q11) (h2 := ?q21); (case qF1 => (repeat' (first | exact FamR.here | (apply FamR.cons; focus rfl)))); (case qz1 => (rfl)); (case qm1 => rfl); (case qn1 => decide); (case qlb1 => decide); (case qb1 => decide); (case qr1 => rfl); (case qR1 => (exact List.replicate_succ')); all_goals (repeat' (first | exact trivial | refine And.intro ⟨_, rfl, ?_⟩ ?_ | refine And.intro ⟨_, _, rfl, rfl, ?_⟩ ?_ | exact RnL.purI inferInstance | exact RnV.purI inferInstance | exact RnV.own rfl | exact RnV.optr rfl | exact RnL.nil | refine RnL.cons ?_ ?_ | exact Bl (by decide) (by simp)))))
  ·show k + 1 ≤ nv;omega
  ·show nv - (k + 1) < nv - k;omega
 ·have e : k = nv := by omega
  subst e
  refine cA (Le.renF1 [(0, 0), (3, 3)] 1 (ts' := [(4, .optr 0 0)]) (lits := [(0, some [.own 3 0 k 1, .own (0 + k + bZ) 0 N 1]), (3, some (flat (wP 0 N) (List.range k)))]) (n' := 4) (R := List.replicate k (List.replicate N false)) (r := List.replicate N false) (R' := List.replicate (k + 1) (List.replicate N false)) (by (repeat' (first | exact FamR.here | (apply FamR.cons; focus rfl)))) rfl rfl (by decide) (by decide) (by decide) rfl List.replicate_succ' ⟨⟨_, rfl, .optr rfl⟩, trivial⟩
   ⟨⟨0, _, rfl, rfl, .cons (.own rfl) (.cons (.own (EM (by decide) (by simp))) .nil)⟩, ⟨3, _, rfl, rfl, dV (by simp)⟩, trivial⟩) ?_
  refine cA (Le.frzC (j := 0) (i := 3) [] rfl rfl (by decide)) ?_
  refine aU (l := [.agg [_, _]]) rfl ?_
  exact HS rfl (by (repeat' (first|exact FamR.here|(apply FamR.cons;focus rfl))))
theorem HQ {R0 : List (List Bool)} {k N : Nat} (hk : k < R0.length) (hN : R0[k]!.length = N) : flat hJ (R0.take (k + 1)) = ((flat hJ (R0.take k)).drop 0).take (k * 1) ++ [.imm (0 + N) (flat cB R0[0 + k]!)] := by
 have e : ((flat hJ (R0.take k)).drop 0).take (k * 1) = flat hJ (R0.take k) := List.take_of_length_le (by rw [List.drop_zero, aK hJ (e := 1)]; simp;omega)
 rw [e, c7 _ _ hk, ← cT, lP, Nat.zero_add, Nat.zero_add, ← hN]; rfl
theorem IA {ρ : Nat → Option Nat} {a b : List AV} [h : Pur a] (e : a = b) : RnL ρ a b := by subst e; exact .pur h.pf
theorem DC (nv N : Nat) (R0 : List (List Bool)) (hnv : nv ≤ 6) (hN : N ≤ 61) (hl : R0.length = nv + 1) (hr : ∀ k, k < nv + 1 → R0[k]!.length = N) : IZ Tryz.prog 216 [HA 0 nv N] R0 (.agg [.own 0 0 nv 1, .own 1 0 N 1]) [(0, some (flat hJ (R0.take nv))), (1, some (flat cB R0[nv]!))] := by
 have hrn := hr nv (by omega)
 (refine y7 Tryz.func216 rfl (by simp [Tryz.ntmps216]) ?_; rw [Tryz.ntmps216])
 repeat' (first|(apply aM;first|((apply sW (d := 9));(case hl => rfl);(case hf => exact (rfl:_=some [_, _]));(case hN => rfl))|(with_reducible apply dR (d := 4))|(apply aL;rfl;rfl;rfl;rfl)|(apply aE;rfl;rfl;rfl)|(apply bV;rfl;rfl;rfl;rfl;rfl;(case hl => (simp [aK]; done));(case hs' => (apply Du;(focus (repeat' (first|exact FamR.here|(apply FamR.cons;focus rfl))));(focus (omega));(simp only [fD] <;> omega)));omega;omega;(exact iV (by (omega)));rfl;rfl)|(apply aF;kernel_rfl)|(apply bW;rfl;rfl;rfl;rfl)|(apply bT;rfl;rfl)|(apply bK;rfl;rfl;rfl;(rfl);rfl;rfl)|(apply a7;rfl;rfl;rfl;rfl;rfl;(case hl => (simp;done));(exact (rfl:_=[_, _]))))|(apply aO;first|apply aH|apply aB)|with_reducible apply aA)
 refine gK (fN ?_ (Le.nilCell (i := 4) 1 [] rfl (by decide) (by decide)))
 repeat' (first|(apply aM;first|(apply aC;rfl;rfl)|(apply aF;kernel_rfl))|(apply aO;(apply aJ))|with_reducible apply aA)
 refine eR (σ := Nat) 0 (fun k => R0) [1, 2, 3] [(1, _), (2, _), (3, _)] [3, 1, 0] [(3, some _), (1, some _), (0, some _)] (fun k => [(4, iv (k : Int))]) (fun k => [(4, some [.own 5 0 k 1, .own 3 0 (0 + N) 1]), (5, some (flat hJ (R0.take k)))]) (fun k => k ≤ nv) (fun k => nv - k) (0) (Nat.zero_le _) rfl rfl (by repeat' (first|exact trivial|refine And.intro rfl ?_)) (by repeat' (first|exact trivial|refine And.intro (.inr rfl) ?_)) (by (repeat' (first|exact FamR.here|(apply FamR.cons;focus rfl)))) (by (rfl)) ?_
 intro k hk
 try dsimp only
 have hrk : k < nv → R0[k]!.length = N := fun h => hr k (by omega)
 repeat' (first|(apply aM;first|(apply aD;rfl;rfl)|(first|(apply aL;rfl;rfl;rfl;rfl)|(apply a6;rfl;rfl;(exact (rfl:_=[_, _]));rfl;rfl;rfl))|(apply aE;rfl;rfl;rfl)|(first|(apply bO;rfl;rfl;omega;rfl)|(apply aV;rfl;rfl;rfl;rfl))|(apply aC;rfl;rfl)|(apply nC;rfl;rfl;(omega);rfl;infer_instance;infer_instance;rfl)|(first|(apply a8;rfl;rfl;rfl)|(apply bV;rfl;rfl;rfl;rfl;rfl;(case hl => first|(rw [aK]; simp only [fD] <;> omega)|(simp [aK]; done));(case hs' => first|(apply Du;(focus (repeat' (first|exact FamR.here|(apply FamR.cons;focus rfl))));(focus (omega));(simp only [fD] <;> omega))|rfl);omega;omega;(first|exact iV (by (omega))|rfl);rfl;rfl))|(apply aF;kernel_rfl)|(apply bK;rfl;rfl;rfl;(first|exact (rfl:_=some [_])|rfl);rfl;rfl)|(apply a7;rfl;rfl;rfl;rfl;rfl;(case hl => (simp;done));(exact (rfl:_=[_, _]))))|(apply aO;first|apply aH|apply aB|(apply b9;kernel_rfl)|(apply aP;rfl;all_goals intro hc;have hq:=hc;(try simp only [cD] at hq);try exfalso;omega)|apply aJ|apply aS|apply bF|apply aW)|with_reducible apply aA|with_reducible apply bE|with_reducible apply aT|with_reducible apply bD)
 ·(apply c6 (k + 1); focus (refine Le.trans (Le.frzC (j := 9) (i := 7) (((flat hJ (R0.take k)).drop 0).take (k * 1)) rfl rfl (by decide)) ?_; refine Le.renF0 [(0, 0), (1, 1), (3, 3), (4, 4), (5, 9)] (R := ?qA1) (hF := ?qF1) (hz := ?qz1) (hm := ?qm1) (hn := ?qn1) (h1 := ?q11) (h2 := ?q21); (case qF1 => (repeat' (first | exact FamR.here | (apply FamR.cons; focus rfl)))); (case qz1 => (rfl)); (case qm1 => rfl); (case qn1 => decide); all_goals (repeat' (first | exact trivial | refine And.intro ⟨_, rfl, ?_⟩ ?_ | refine And.intro ⟨_, _, rfl, rfl, ?_⟩ ?_ | exact RnL.purI inferInstance | exact RnV.purI inferInstance | exact RnV.own rfl | exact RnV.optr rfl | exact RnL.nil | refine RnL.cons ?_ ?_ | exact RnV.imm (dV (by (simp only [List.length_replicate, List.length_set, List.length_append, List.length_singleton] at * <;> omega))) | exact RnV.own (hU (by omega) (by show _ < bZ + _; (omega))) | exact IA (HQ (by omega) (hrk (by omega)))))))
  ·show k + 1 ≤ nv;omega
  ·show nv - (k + 1) < nv - k;omega
 ·have e : k = nv := by omega
  subst e
  refine cA (Le.renF0 [(0, 5), (1, 3), (2, 1)] (ts' := [(2, .optr 2 0)]) (lits := [(2, some [.own 0 0 k 1, .own 1 0 (0 + N) 1]), (0, some (flat hJ (R0.take k))), (1, some (flat cB R0[0 + k]!))]) (n' := 3) (R := R0) (by (repeat' (first | exact FamR.here | (apply FamR.cons; focus rfl)))) rfl rfl (by decide) ⟨⟨_, rfl, .optr rfl⟩, trivial⟩
   ⟨⟨1, _, rfl, rfl, .cons (.own rfl) (.cons (.own rfl) .nil)⟩, ⟨5, _, rfl, rfl, RnL.purI inferInstance⟩, ⟨3, _, rfl, rfl, RnL.purI inferInstance⟩, trivial⟩) ?_
  refine aU (l := [.agg [_, _]]) rfl ?_
  simp only [Nat.zero_add]
  exact oS rfl ⟨.inr rfl, .inr rfl, trivial⟩ (by (repeat' (first|exact FamR.here|(apply FamR.cons;focus rfl))))
theorem uJ {fr : List (List Bool)} {pl : List Bool} {pts : List Pnt} {v : Int} {nv M : Nat} {N : Nat} {Q : Exit → AS → Prop} {all : Array Oper} {rest : List Oper} {tsl : List (Nat × AV)} {hsl : List (Nat × Option (List AV))} {nidl : Nat} {z0 : Lo} {md : Md} {d : Nat} {ty : TypeId} {pos : String} {af : Array Edge} {tys : Array TypeId} {x0 x1 x2 : Operand} {i0 i1 : Nat} (ha0 : ev (lk tsl) x0 = some (.agg [.own i0 0 nv 1, .own i1 0 M 1])) (ha1 : ev (lk tsl) x1 = some (sl dF pts)) (ha2 : ev (lk tsl) x2 = some (iv v)) (hH0 : bU hsl i0 = some (flat hJ fr)) (hH1 : bU hsl i1 = some (flat cB pl)) (hdd : Go.AL.distinct [i0, i1] = true) (hmc : MC Tryz.prog 218 [.agg [.own 0 0 nv 1, .own 1 0 M 1], sl dF pts, iv v] [(0, some (flat hJ fr)), (1, some (flat cB pl))] 2 (fun _ : Unit => True) (fun _ => .tup []) (fun _ => [(0, some (flat hJ fr)), (1, some (flat cB (rI pts v pl)))])) (hM : Nat.ble (nidl + 0) bZ = true) (hN : Nat.blt d N = true) {md' : Md} [hmd : MdA md (jH [x0, x1, x2] ++ [.inr i0, .inr i1]) (List.map Sum.inr (List.map Prod.fst ([(i0, some (flat hJ fr)), (i1, some (flat cB (rI pts v pl)))] : List (Nat × Option (List AV)))) ++ [.inl d]) md'] (kk : RW Tryz.prog N all Q md' rest ⟨(d, .tup []) :: tsl, lE hsl [(i0, some (flat hJ fr)), (i1, some (flat cB (rI pts v pl)))], nidl + 0, z0⟩) : RW Tryz.prog N all Q md (⟨some d, .call ⟨.value (.func 218), #[x0, x1, x2], tys⟩, ty, pos, af, none⟩ :: rest) ⟨tsl, hsl, nidl, z0⟩ := by
 refine c5 [i0, i1] 2 [(i0, some (flat hJ fr)), (i1, some (flat cB (rI pts v pl)))] hmc (avs := [.agg [.own i0 0 nv 1, .own i1 0 M 1], sl dF pts, iv v]) ?_ hdd ?_ rfl ?_ (by simpa using hM) ?_ ?_ ?_ hN (md' := md') (hmd := hmd) kk
 ·show evL (lk tsl) [x0, x1, x2] = _
  simp only [evL, ha0, ha1, ha2]
 ·exact ⟨⟨_, _, rfl, hH0, by (repeat' (exact RnL.purI inferInstance))⟩, ⟨⟨_, _, rfl, hH1, by (repeat' (exact RnL.purI inferInstance))⟩, trivial⟩⟩
 ·(repeat' (first|exact RnL.purI inferInstance|exact RnV.own rfl|refine RnL.cons ?_ ?_|refine RnV.agg ?_))
 ·(repeat' (exact RnV.purI inferInstance))
 ·simp [e7]
 ·(repeat' (first|exact trivial|(refine And.intro ⟨0, _, rfl, rfl, ?_⟩ ?_)|(refine And.intro ⟨1, _, rfl, rfl, ?_⟩ ?_)|exact RnL.purI inferInstance))
theorem xL (fr : List (List Bool)) (pl : List Bool) (pts : List Pnt) (v : Int) (nv M : Nat) (hN : M = pl.length) (hl : pts.length = pl.length) (hpl : pts.length ≤ 61) : MC Tryz.prog 218 [.agg [.own 0 0 nv 1, .own 1 0 M 1], sl dF pts, iv v] [(0, some (flat hJ fr)), (1, some (flat cB pl))] 2 (fun _ : Unit => True) (fun _ => .tup []) (fun _ => [(0, some (flat hJ fr)), (1, some (flat cB (rI pts v pl)))]) := by
 (refine dB Tryz.func218 rfl (by simp [Tryz.ntmps218]) ?_; rw [Tryz.ntmps218])
 repeat' (first|(apply aM;first|(apply aC;rfl;rfl)|(apply aF;kernel_rfl)|(apply bW;rfl;rfl;rfl;rfl))|(apply aO;first|apply aH|apply aB|apply aJ)|with_reducible apply aA)
 refine bG (σ := Nat × List Bool) [1, 2, 3] [(1, _), (2, _), (3, _)] [0, 2] [(0, some _), (2, some _)] (fun k => [(6, iv (k.1 : Int))]) (fun k => [(1, some (flat cB k.2))]) (fun k => k.1 ≤ pts.length ∧ k.2.length = pl.length ∧ (∀ l, l < pl.length → k.2[l]! = if l < k.1 then (rI pts v pl)[l]! else pl[l]!)) (fun k => pts.length - k.1) (0, pl) ⟨by omega, rfl, fun l hl => by rw [if_neg (by omega)]⟩ rfl rfl (by repeat' (first|exact trivial|refine And.intro rfl ?_)) (by repeat' (first|exact trivial|refine And.intro (.inr rfl) ?_)) ?_
 rintro ⟨k, u⟩ ⟨hk, hul, hu⟩
 dsimp only at hk hul hu
 try dsimp only
 have hstep : ∀ l, l < pl.length → (rI pts v pl)[l]! = (pl[l]! && !((decide (pts[l]!.op = 4) || decide (pts[l]!.op = 5)) && decide (pts[l]!.y = v))) := fun l hl => uW pts v pl l hl
 repeat' (first|(apply aM;first|(apply aD;rfl;rfl)|(apply aL;rfl;rfl;rfl;rfl)|(apply aE;rfl;rfl;rfl)|(first|(apply a9;rfl;rfl;rfl;(first|rfl|assumption))|(apply aZ;rfl;rfl;rfl;(assumption))|(apply bC;(case hj|hb|hN => rfl);all_goals (intro hg;have hq := hg;(try simp only [cD] at hq);(try (exfalso;omega)))))|(first|(apply bO;rfl;rfl;omega;rfl)|(apply aV;rfl;rfl;rfl;rfl))|(apply aC;rfl;rfl)|(first|(apply bI;rfl;(first|rfl|assumption);rfl;rfl)|(apply bH;rfl;(assumption);rfl;rfl))|(first|(apply bB;(case hx|hi => rfl);(case hm => (omega));(case hml => (rfl));(case hα | hf|hg => infer_instance);(case hN => rfl))|(apply cL;rfl;rfl;(omega);rfl))|(apply a8;rfl;rfl;rfl)|(apply aF;kernel_rfl)|(apply a7;rfl;rfl;rfl;rfl;rfl;(rw [aK]; simp only [fD] <;> omega);(exact fT (by (omega)))))|(apply aO;first|apply aH|apply aB|(apply cF;rfl;(rfl))|(apply aP;rfl;all_goals intro hc;have hq:=hc;(try simp only [cD] at hq);try exfalso;omega)|apply aJ|apply aS|apply bF)|with_reducible apply aA|with_reducible apply bE|with_reducible apply aT|with_reducible apply bD)
 ·(apply c6 (k + 1, _); focus (refine Le.ren [(2, 2)] rfl (by decide) ?_ ?_ <;> repeat' (first | exact trivial | refine And.intro ⟨_, rfl, ?_⟩ ?_ | refine And.intro ⟨_, _, rfl, rfl, ?_⟩ ?_ | exact Or.inr rfl | refine Or.inl ⟨?_, (by first | rfl | exact aX _ _)⟩ | refine Or.inr (All2.cons ?_ ?_) | refine All2.cons ?_ ?_ | exact All2.nil | rfl)))
  ·refine ⟨(by show k + 1 ≤ pts.length; omega), (by show (u.set k false).length = pl.length; rw [List.length_set]; exact hul), fun l hl => ?_⟩
   show (u.set k false)[l]! = if l < k + 1 then (rI pts v pl)[l]! else pl[l]!
   have hs := hstep l hl
   rw [bY, hu l hl]
   clear hu hstep
   grind
  ·show pts.length - (k + 1) < pts.length - k;omega
 ·(apply c6 (k + 1, u); focus (refine Le.ren [(2, 2)] rfl (by decide) ?_ ?_ <;> repeat' (first | exact trivial | refine And.intro ⟨_, rfl, ?_⟩ ?_ | refine And.intro ⟨_, _, rfl, rfl, ?_⟩ ?_ | exact Or.inr rfl | refine Or.inl ⟨?_, (by first | rfl | exact aX _ _)⟩ | refine Or.inr (All2.cons ?_ ?_) | refine All2.cons ?_ ?_ | exact All2.nil | rfl)))
  ·refine ⟨(by show k + 1 ≤ pts.length; omega), hul, fun l hl => ?_⟩
   show u[l]! = if l < k + 1 then (rI pts v pl)[l]! else pl[l]!
   have hs := hstep l hl
   rw [hu l hl]
   clear hu hstep
   grind
  ·show pts.length - (k + 1) < pts.length - k;omega
 ·(apply c6 (k + 1, u); focus (refine Le.ren [(2, 2)] rfl (by decide) ?_ ?_ <;> repeat' (first | exact trivial | refine And.intro ⟨_, rfl, ?_⟩ ?_ | refine And.intro ⟨_, _, rfl, rfl, ?_⟩ ?_ | exact Or.inr rfl | refine Or.inl ⟨?_, (by first | rfl | exact aX _ _)⟩ | refine Or.inr (All2.cons ?_ ?_) | refine All2.cons ?_ ?_ | exact All2.nil | rfl)))
  ·refine ⟨(by show k + 1 ≤ pts.length; omega), hul, fun l hl => ?_⟩
   show u[l]! = if l < k + 1 then (rI pts v pl)[l]! else pl[l]!
   have hs := hstep l hl
   rw [hu l hl]
   clear hu hstep
   grind
  ·show pts.length - (k + 1) < pts.length - k;omega
 ·(apply c6 (k + 1, _); focus (refine Le.ren [(2, 2)] rfl (by decide) ?_ ?_ <;> repeat' (first | exact trivial | refine And.intro ⟨_, rfl, ?_⟩ ?_ | refine And.intro ⟨_, _, rfl, rfl, ?_⟩ ?_ | exact Or.inr rfl | refine Or.inl ⟨?_, (by first | rfl | exact aX _ _)⟩ | refine Or.inr (All2.cons ?_ ?_) | refine All2.cons ?_ ?_ | exact All2.nil | rfl)))
  ·refine ⟨(by show k + 1 ≤ pts.length; omega), (by show (u.set k false).length = pl.length; rw [List.length_set]; exact hul), fun l hl => ?_⟩
   show (u.set k false)[l]! = if l < k + 1 then (rI pts v pl)[l]! else pl[l]!
   have hs := hstep l hl
   rw [bY, hu l hl]
   clear hu hstep
   grind
  ·show pts.length - (k + 1) < pts.length - k;omega
 ·(apply c6 (k + 1, u); focus (refine Le.ren [(2, 2)] rfl (by decide) ?_ ?_ <;> repeat' (first | exact trivial | refine And.intro ⟨_, rfl, ?_⟩ ?_ | refine And.intro ⟨_, _, rfl, rfl, ?_⟩ ?_ | exact Or.inr rfl | refine Or.inl ⟨?_, (by first | rfl | exact aX _ _)⟩ | refine Or.inr (All2.cons ?_ ?_) | refine All2.cons ?_ ?_ | exact All2.nil | rfl)))
  ·refine ⟨(by show k + 1 ≤ pts.length; omega), hul, fun l hl => ?_⟩
   show u[l]! = if l < k + 1 then (rI pts v pl)[l]! else pl[l]!
   have hs := hstep l hl
   rw [hu l hl]
   clear hu hstep
   grind
  ·show pts.length - (k + 1) < pts.length - k;omega
 ·refine z8 (l := []) rfl ?_
  refine dA () trivial rfl ⟨.inr rfl, .inr (Eq.trans (b := some _) rfl ?_), trivial⟩
  have e : u = rI pts v pl := cZ (by rw [wC, hul]) fun l hl => by
   rw [hu l (by omega), if_pos (by omega)]
  rw [e]
end Go.Proofs.YtjcpngimjdckmaaGreat
