/-
 A part of the proofs over this program: rules and contracts of its functions (the contracts).
-/
import Derived.Test.YtckihjkcgfphmaaGreatP3B01
set_option linter.unusedVariables false
set_option linter.unusedSimpArgs false
set_option maxHeartbeats 8000000
set_option maxRecDepth 4000
attribute [local irreducible] Go.AL.RW Go.AL.AW Go.AL.Stop
namespace Go.Proofs.YtckihjkcgfphmaaGreat
open Go.AL Go.RowKit
theorem EU (ts : List Int) (bd : List AL.Stmt) (pts : List Pnt) (A : List Nat) (w : WG ts pts) (hA : tE ts pts A) : PC Tryz.prog 165 [aG ts bd pts, iv 0] (fun r => r = .imm pts.length (aI cN A)) := by
 (refine aS Tryz.func165 rfl (by simp [Tryz.ntmps165]) ?_; rw [Tryz.ntmps165])
 repeat' (first|(apply aL;first|((with_reducible apply aJ (k := 209));(case ha => rfl);(case h => exact Ca ts bd pts A w hA);(case hp => exact Pur.pf);(case hN => rfl))|(apply aE;rfl;rfl)|(apply aC;rfl;rfl)|(apply aF;kernel_rfl)|(apply gZ;rfl;rfl;rfl))|(apply aM;first|apply aH|apply aB|apply aR)|with_reducible apply aA|((with_reducible apply aO);case hr => rfl))
 exact ⟨rfl, (by (exact aY _ _))⟩
theorem Jh (ts : List Int) (bd : List AL.Stmt) (pts : List Pnt) (A : List Nat) (w : WG ts pts) (hA : sF ts pts A) : PC Tryz.prog 166 [aG ts bd pts] (fun r => r = .imm pts.length (aI cN A)) := by
 (refine aS Tryz.func166 rfl (by simp [Tryz.ntmps166]) ?_; rw [Tryz.ntmps166])
 repeat' (first|(apply aL;first|((with_reducible apply aJ (k := 209));(case ha => rfl);(case h => exact Bi ts bd pts A w hA);(case hp => exact Pur.pf);(case hN => rfl))|(apply aE;rfl;rfl)|(apply aC;rfl;rfl)|(apply aF;kernel_rfl)|(apply gZ;rfl;rfl;rfl))|(apply aM;first|apply aH|apply aB|apply aR)|with_reducible apply aA|((with_reducible apply aO);case hr => rfl))
 exact ⟨rfl, (by (exact aY _ _))⟩
theorem CQ (ts : List Int) (bd : List AL.Stmt) (pts : List Pnt) (n : Nat) (B : List Nat) (i : Int) (w : WG ts pts) (hn : n = B.length) (hB : B.length = pts.length) (hs : ∀ z : Nat, Sm B[z]!) (hi : 0 ≤ i ∧ i < pts.length) : PC Tryz.prog 172 [aG ts bd pts, .imm n (aI cN B), iv i] (fun r => r = iv (Iy pts B i.toNat : Nat)) := by
 subst hn
 have hin : i.toNat < pts.length := by omega
 have hnl := w.nl _ hin
 have hpl := w.pl
 (refine aS Tryz.func172 rfl (by simp [Tryz.ntmps172]) ?_; rw [Tryz.ntmps172])
 repeat' (first|(apply aL;first|(apply aE;rfl;rfl)|(apply aN;rfl;rfl;rfl;rfl)|(apply aD;rfl;rfl;rfl)|(apply aC;rfl;rfl)|(apply cL;(case hx|hi => rfl);(case hm => (assumption));(case hml => (rfl));(case hα | hf|hg => infer_instance);(case hN => rfl))|(apply bI;rfl;rfl;rfl)|(apply aF;kernel_rfl)|(apply cA;rfl;rfl;rfl))|(apply aM;first|apply aH|apply aB|apply aK)|with_reducible apply aA)
 refine bB (σ := Nat × Nat) [1, 17, 18] [(1, _), (17, _), (18, _)] [] [] (fun k => [(19, iv (k.1 : Int)), (7, iv (k.2 : Int))]) (fun k => []) (fun k => k.1 ≤ pts[i.toNat]!.next.length ∧ k.2 = ((u9 pts i.toNat).take k.1).foldl (fun a k => nZ a B[k]!) 0 ∧ Sm k.2) (fun k => pts[i.toNat]!.next.length - k.1) (0, 0) ⟨by omega, rfl, inferInstance⟩ rfl rfl (by repeat' (first|exact trivial|refine And.intro rfl ?_)) (by repeat' (exact trivial)) ?_
 rintro ⟨k, a⟩ ⟨hk, ha, hsa⟩
 dsimp only at hk ha hsa ⊢
 have hz : k < pts[i.toNat]!.next.length → 0 ≤ pts[i.toNat]!.next[k]! ∧ pts[i.toNat]!.next[k]! < pts.length := fun h => w.nx _ hin _ (cM _ _ h)
 repeat' (first|(apply aL;first|(apply aE;rfl;rfl)|(apply aN;rfl;rfl;rfl;rfl)|(first|(apply gR;rfl;rfl;infer_instance;infer_instance;infer_instance;rfl)|(apply bS;rfl;rfl;omega;rfl)|(apply aU;rfl;rfl;rfl;rfl))|(apply aC;rfl;rfl)|(first|(apply a7;(case hx|hi => rfl);(case hm => (omega));(case hml => (rfl));(case hα | hf|hg => infer_instance);(case hN => rfl))|(apply cL;(case hx|hi => rfl);(case hm => (omega));(case hml => (rfl));(case hα | hf|hg => infer_instance);(case hN => rfl)))|(apply aF;kernel_rfl))|(apply aM;first|apply aH|apply aB|(apply aQ;rfl;all_goals intro hc;have hq:=hc;(try simp only [cJ] at hq);try exfalso;omega)|apply aK|apply aT|apply bK|apply aR)|with_reducible apply aA|with_reducible apply bJ|with_reducible apply aX|with_reducible apply bO|((with_reducible apply aO);case hr => rfl))
 ·(apply dK (k + 1, _); focus (refine Le.ren [] rfl (by decide) ?_ ?_ <;> repeat' (first | exact trivial | refine And.intro ⟨_, rfl, ?_⟩ ?_ | refine Or.inl ⟨?_, (by first | rfl | exact aY _ _)⟩ | rfl)))
  ·dsimp only
   refine ⟨by omega, ?_, inferInstance⟩
   rw [fI _ _ _ _ (by rw [lH]; omega), yQ (by omega), ← ha]
  ·dsimp only;omega
 ·(refine ⟨?_, rfl⟩; simp only [b0, AV.v.injEq, Value.bool.injEq, Value.int.injEq, true_and])
  rw [ha, List.take_of_length_le (by rw [lH]; omega)]; rfl
theorem Gn (ts : List Int) (bd : List AL.Stmt) (pts : List Pnt) (A : List Nat) (w : WG ts pts) (hA : r7 ts pts A) : PC Tryz.prog 171 [aG ts bd pts] (fun r => r = .imm pts.length (aI cN A)) := by
 have hpl := w.pl
 have hp0 := w.p0
 have htl := w.tl
 (refine aS Tryz.func171 rfl (by simp [Tryz.ntmps171]) ?_; rw [Tryz.ntmps171])
 repeat' (first|(apply aL;first|(apply aE;rfl;rfl)|(apply aN;rfl;rfl;rfl;rfl)|(apply aD;rfl;rfl;rfl)|(apply aC;rfl;rfl)|(apply bI;rfl;rfl;rfl)|(apply aF;kernel_rfl)|(apply cA;rfl;rfl;rfl)|(apply e7;rfl;rfl;rfl;omega;omega;(exact BD);rfl;rfl))|(apply aM;first|apply aH|apply aB|apply aK)|with_reducible apply aA)
 refine bB (σ := List Nat × Bool) [0, 3] [(0, _), (3, _)] [] [] (fun s => [(4, bv s.2)]) (fun s => [(0, some (aI cN s.1))]) (fun s => SN ts pts s.1 ∧ (s.2 = false → ∀ i, i < pts.length → qA ts pts s.1 i = s.1[i]!)) (fun s => 2 * gJ (s.1.map (fun a => 2 ^ ts.length - a)) + s.2.toNat) (List.replicate pts.length 0, true) ⟨JV, fun h => by cases h⟩ rfl rfl (by repeat' (first|exact trivial|refine And.intro rfl ?_)) (by repeat' (first|exact trivial|refine And.intro (.inr rfl) ?_)) ?_
 rintro ⟨s, b⟩ ⟨hS, hC⟩
 dsimp only at hS hC ⊢
 repeat' (first|(apply aL;first|(apply aE;rfl;rfl)|(apply aN;rfl;rfl;rfl;rfl)|(apply aD;rfl;rfl;rfl)|(apply iB;rfl;rfl;omega;rfl)|(apply aC;rfl;rfl)|(apply bI;rfl;rfl;rfl)|(apply aF;kernel_rfl)|(apply cA;rfl;rfl;rfl))|(apply aM;first|apply aH|apply aB|(apply aQ;rfl;all_goals intro hc;have hq:=hc;(try simp only [cJ] at hq);try exfalso;omega)|apply aK|apply aT|apply bK|apply aR)|with_reducible apply aA|with_reducible apply bJ|with_reducible apply bO)
 ·refine bB (σ := Nat × Int × (List Nat × Bool)) [0, 3] [(0, _), (3, _)] [] [] (fun k => [(5, iv k.2.1), (4, bv k.2.2.2)]) (fun k => [(0, some (aI cN k.2.2.1))]) (fun k => k.1 ≤ pts.length ∧ k.2.1 = (pts.length : Int) - 1 - k.1 ∧ k.2.2 = ((List.range pts.length).reverse.take k.1).foldl (lW ts pts) (s, false) ∧ SN ts pts k.2.2.1) (fun k => pts.length - k.1) (0, (pts.length : Int) - 1, (s, false)) ⟨by omega, by simp, rfl, hS⟩ rfl rfl (by repeat' (first | exact trivial | refine And.intro rfl ?_)) (by repeat' (first | exact trivial | refine And.intro (.inr rfl) ?_)) ?_
  rintro ⟨k, z, u, c⟩ ⟨hk, hz, hf, hS2⟩
  dsimp only at hk hz hf hS2 ⊢
  have hsm : ∀ z : Nat, Sm u[z]! := tF hS2.1 (fun i A h => h.1) htl
  have hul := hS2.1.1
  have hst := fun h : z.toNat < pts.length => (w.set z.toNat h).1
  have hst2 : bT pts[z.toNat]! < 62 := by
   by_cases h : z.toNat < pts.length
   ·have := hst h;omega
   ·rw [getElem!_neg pts z.toNat h]; decide
  have hs1 : Sm (wS ts pts[z.toNat]! [1, 2, 3]) := dH (by omega)
  have hs2 : Sm (iY pts[z.toNat]!) := rX (by omega)
  have hs3 : Sm (Iy pts u z.toNat) := by
   unfold Iy
   have : ∀ (L : List Nat) (a : Nat), Sm a → Sm (L.foldl (fun a k => a ||| u[k]!) a) := by
    intro L;induction L with
    | nil => exact fun a h => h
    | cons x L ih => exact fun a h => ih _ (inferInstance : Sm (a ||| u[x]!))
   exact this _ _ inferInstance
  have hlaw := fun h : z.toNat < pts.length => wI w u c z.toNat h hS2
  repeat' (first|(apply aL;first|(apply aE;rfl;rfl)|(first|(apply eF;(case hx|hH => rfl);(case hf|hg|hα => infer_instance);(case hk => omega);(case hc|hN => rfl))|(apply aN;rfl;rfl;rfl;rfl)|(apply aV;rfl;rfl;(exact (rfl:_=[_, _, _, _, _]));rfl;rfl;rfl))|(apply aD;rfl;rfl;rfl)|(first|(apply gR;rfl;rfl;infer_instance;infer_instance;infer_instance;rfl)|(apply oJ;rfl;rfl;infer_instance;infer_instance;infer_instance;rfl)|(apply iB;rfl;rfl;omega;rfl)|(apply aU;rfl;rfl;rfl;rfl))|(apply aC;rfl;rfl)|(first|(apply cL;(case hx|hi => rfl);(case hm => (omega));(case hml => (rfl));(case hα | hf|hg => infer_instance);(case hN => rfl))|(apply cQ;rfl;rfl;(omega);rfl))|(first|((with_reducible apply aJ (k := 120));(case ha => rfl);(case h => (apply jK <;> (assumption)));(case hp => (exact Pur.pf));(case hN => rfl))|((with_reducible apply pD (k := 172));(case ha => rfl);(case hl => (repeat' (first|exact m8|apply lP|exact yA|exact m3 rfl inferInstance|exact BR inferInstance)));(case h => (apply CQ <;> (first|assumption|omega)));(case hfr|hN => rfl);(case hmd => infer_instance))|((with_reducible apply aJ (k := 212));(case ha => rfl);(case h => (apply o9 <;> (assumption)));(case hp => (exact Pur.pf));(case hN => rfl)))|(apply aF;kernel_rfl)|(apply cA;rfl;rfl;rfl)|(apply a6;rfl;rfl)|(apply aW;rfl;rfl;rfl;rfl;rfl;(case hl => (first|(rw [aP]; simp only [gH] <;> omega)|(simp;done)));(first|exact uH (by (omega))|exact (rfl:_=[_, _, _, _, _]))))|(apply aM;first|apply aH|apply aB|(apply bV;kernel_rfl)|(apply aQ;rfl;all_goals intro hc;have hq:=hc;(try simp only [cJ] at hq);try exfalso;omega)|apply aK|apply aT|apply bK)|with_reducible apply aA|with_reducible apply bJ|with_reducible apply aX|with_reducible apply bO)
  ·have hzn : z.toNat < pts.length := by omega
   have hne : qA ts pts u z.toNat ≠ u[z.toNat]! := fun h => hq (congrArg Int.ofNat h)
   have hl := hlaw hzn
   rw [CA hne] at hl
   have hrg : (List.range pts.length).reverse[k]! = z.toNat := by rw [Bd (by omega)]; omega
   (apply dK (k + 1, _, (_, true));focus (refine Le.ren [(0, 0)] rfl (by decide) ?_ ?_ <;> repeat' (first|exact trivial|refine And.intro ⟨_, rfl, ?_⟩ ?_|refine And.intro ⟨_, _, rfl, rfl, ?_⟩ ?_|exact Or.inr rfl|refine Or.inl ⟨?_, (by first|rfl|exact aY _ _|exact Pur.pf)⟩|rfl)))
   ·dsimp only
    refine ⟨by omega, by omega, ?_, hl.1⟩
    rw [fI _ _ _ _ (by simp;omega), ← hf, hrg, CA hne]; rfl
   ·dsimp only;omega
  ·have hzn : z.toNat < pts.length := by omega
   have hne : qA ts pts u z.toNat = u[z.toNat]! := Int.ofNat.inj hq
   have hrg : (List.range pts.length).reverse[k]! = z.toNat := by rw [Bd (by omega)]; omega
   (apply dK (k + 1, _, (u, c));focus (refine Le.ren [(0, 0)] rfl (by decide) ?_ ?_ <;> repeat' (first|exact trivial|refine And.intro ⟨_, rfl, ?_⟩ ?_|refine And.intro ⟨_, _, rfl, rfl, ?_⟩ ?_|exact Or.inr rfl|refine Or.inl ⟨?_, (by first|rfl|exact aY _ _|exact Pur.pf)⟩|rfl)))
   ·dsimp only
    refine ⟨by omega, by omega, ?_, hS2⟩
    rw [fI _ _ _ _ (by simp;omega), ← hf, hrg, Ia hne]
   ·dsimp only;omega
  ·have law := D1 w s false hS
   have hfull : (u, c) = AT ts pts (s, false) := by
    rw [hf, List.take_of_length_le (by simp;omega)]; rfl
   rw [← hfull] at law
   (apply dK (u, c);focus (refine Le.ren [(0, 0)] rfl (by decide) ?_ ?_ <;> repeat' (first|exact trivial|refine And.intro ⟨_, rfl, ?_⟩ ?_|refine And.intro ⟨_, _, rfl, rfl, ?_⟩ ?_|exact Or.inr rfl|refine Or.inl ⟨?_, (by first|rfl|exact aY _ _|exact Pur.pf)⟩|rfl)))
   ·dsimp only
    refine ⟨hS2, fun h => ?_⟩
    rcases law.2 with ⟨e1, e2⟩ | ⟨e1, _⟩
    ·cases e1;exact e2
    ·dsimp only at e1;rw [h] at e1;cases e1
   ·dsimp only
    have hb : b = true := by assumption
    subst hb
    rcases law.2 with ⟨e1, e2⟩ | ⟨e1, e2⟩
    ·cases e1;simp
    ·dsimp only at e1 e2;subst e1;omega
 ·have hb : b = false := by assumption
  refine cD (Le.frzD (d := 2) (i := 0) rfl rfl) ?_
  refine aO rfl ⟨?_, (by (exact aY _ _))⟩
  simp only [b0]
  rw [EF hA (GS w hS (hC hb))]
theorem zT (ts : List Int) (bd : List AL.Stmt) (pts : List Pnt) (B A : List Nat) (w : WG ts pts) (hB : r7 ts pts B) (hA : wG ts pts A) : PC Tryz.prog 103 [aG ts bd pts] (fun r => r = .imm pts.length (aI cN A)) := by
 have hpl := w.pl
 have htl := w.tl
 have hBl := hB.1
 have hsm : ∀ z : Nat, Sm B[z]! := by
  intro z
  by_cases hz : z < pts.length
  ·refine ⟨Nat.lt_of_lt_of_le (Nat.lt_pow_two_of_testBit _ (n := 6) fun v hv => ?_) (by decide)⟩
   cases hq : B[z]!.testBit v with
   | false => rfl
   | true => have := sS w ((hB.2 z hz v).1 hq);dsimp only at this;omega
  ·rw [getElem!_neg B z (by rw [hBl]; exact hz)]; exact ⟨by decide⟩
 (refine aS Tryz.func103 rfl (by simp [Tryz.ntmps103]) ?_; rw [Tryz.ntmps103])
 repeat' (first|(apply aL;first|(apply aE;rfl;rfl)|(apply aN;rfl;rfl;rfl;rfl)|(apply aD;rfl;rfl;rfl)|(apply aC;rfl;rfl)|((with_reducible apply aJ (k := 171));(case ha => rfl);(case h => (apply Gn <;> (assumption)));(case hp => (exact Pur.pf));(case hN => rfl))|(apply bI;rfl;rfl;rfl)|(apply aF;kernel_rfl)|(apply cA;rfl;rfl;rfl))|(apply aM;first|apply aH|apply aB|apply aK)|with_reducible apply aA)
 refine AW.le ?_ (Le.nilOwn (d := 4) 1 rfl (by decide))
 refine bB (σ := Nat × List Nat) [0, 3, 12] [(0, _), (3, _), (12, _)] [] [] (fun k => [(13, iv (k.1 : Int)), (4, .own 0 0 k.1 1)]) (fun k => [(0, some (aI cN k.2))]) (fun k => k.1 ≤ pts.length ∧ k.2 = (List.range k.1).map (Iy pts B)) (fun k => pts.length - k.1) (0, []) ⟨by omega, rfl⟩ rfl rfl (by repeat' (first|exact trivial|refine And.intro rfl ?_)) (by repeat' (first|exact trivial|refine And.intro (.inr rfl) ?_)) ?_
 rintro ⟨k, u⟩ ⟨hk, hu⟩
 dsimp only at hk hu ⊢
 have hul : u.length = k := by rw [hu]; simp
 repeat' (first|(apply aL;first|(apply aE;rfl;rfl)|(first|(apply bS;rfl;rfl;omega;rfl)|(apply aU;rfl;rfl;rfl;rfl))|(apply aC;rfl;rfl)|((with_reducible apply aJ (k := 172));(case ha => rfl);(case h => (apply CQ <;> (first|assumption|omega)));(case hp => (exact Pur.pf));(case hN => rfl))|(apply bW;rfl;rfl;rfl;rfl;rfl;(rw [aP]; omega);(rfl);omega;omega;(exact HC (by (omega)));rfl;rfl)|(apply aF;kernel_rfl)|((apply bE (t := _));(case hze|hsm|hl => rfl);(case hfl => exact (rfl:_=some [_]));(case hM|hN => rfl)))|(apply aM;first|apply aH|apply aB|(apply aQ;rfl;all_goals intro hc;have hq:=hc;(try simp only [cJ] at hq);try exfalso;omega)|apply aK|apply aT|apply bK|apply aR)|with_reducible apply aA|with_reducible apply bJ|with_reducible apply aX|with_reducible apply bO)
 ·(apply dK (k + 1, _); focus (refine Le.ren [(0, 2)] rfl (by decide) ?_ ?_ <;> repeat' (first | exact trivial | refine And.intro ⟨_, rfl, ?_⟩ ?_ | refine And.intro ⟨_, _, rfl, rfl, ?_⟩ ?_ | exact Or.inr rfl | refine Or.inl ⟨?_, (by first | rfl | exact aY _ _ | exact Pur.pf)⟩ | rfl)))
  ·dsimp only
   refine ⟨by omega, ?_⟩
   rw [hu, List.range_succ, List.map_append]; rfl
  ·dsimp only;omega
 ·refine cD (Le.frzD (d := 2) (i := 0) rfl rfl) ?_
  refine aO rfl ⟨?_, (by (exact aY _ _))⟩
  simp only [b0]
  have hkn : k = pts.length := by omega
  subst hkn
  rw [w7 hA (AX w hB), hu]
theorem iP (A : Nat) (hA : Sm A) : PC Tryz.prog 119 [iv (A : Int)] (fun r => r = sl cI (cR A)) := by
 (refine aS Tryz.func119 rfl (by simp [Tryz.ntmps119]) ?_; rw [Tryz.ntmps119])
 repeat' (first|(apply aL;first|(apply aC;rfl;rfl)|(apply aF;kernel_rfl))|(apply aM;first|apply aH|apply aB|apply aK)|with_reducible apply aA)
 refine AW.le ?_ (Le.nilOwn (d := 3) 1 rfl (by decide))
 refine bB (σ := Nat × List Int × Nat) [0] [(0, _)] [] [] (fun k => [(4, iv (k.1 : Int)), (3, .own 0 0 k.2.2 1)]) (fun k => [(0, some (aI cI k.2.1))]) (fun k => k.1 ≤ 62 ∧ k.2.1 = ((List.range k.1).filter (A.testBit ·)).map (fun v : Nat => (v : Int)) ∧ k.2.2 = k.2.1.length ∧ k.2.2 ≤ k.1) (fun k => 62 - k.1) (0, [], 0) ⟨by omega, rfl, rfl, Nat.le_refl _⟩ rfl rfl (by repeat' (first|exact trivial|refine And.intro rfl ?_)) (by repeat' (first|exact trivial|refine And.intro (.inr rfl) ?_)) ?_
 rintro ⟨k, u, m⟩ ⟨hk, hu, hm, hmk⟩
 dsimp only at hk hu hm hmk ⊢
 repeat' (first|(apply aL;first|(apply aE;rfl;rfl)|(first|(apply o6;rfl;rfl;infer_instance;infer_instance;rfl)|(apply oW;rfl;rfl;infer_instance;infer_instance;omega;rfl)|(apply bS;rfl;rfl;omega;rfl)|(apply aU;rfl;rfl;rfl;rfl))|(apply aC;rfl;rfl)|(apply bW;rfl;rfl;rfl;rfl;rfl;(rw [aP]; omega);(rfl);omega;omega;(exact gD (by (assumption)));rfl;rfl)|(apply aF;kernel_rfl)|((apply bE (t := _));(case hze|hsm|hl => rfl);(case hfl => exact (rfl:_=some [_]));(case hM|hN => rfl)))|(apply aM;first|apply aH|apply aB|(apply aQ;rfl;all_goals intro hc;have hq:=hc;(try simp only [cJ] at hq);try exfalso;omega)|apply aK|apply aT|apply bK|apply aR)|with_reducible apply aA|with_reducible apply bJ|with_reducible apply aX|with_reducible apply bO)
 ·have hlt := CU hA (show 0 < ((A >>> k : Nat) : Int) by assumption)
  (apply dK (k + 1, _, _);focus (refine Le.ren [(0, 2)] rfl (by decide) ?_ ?_ <;> repeat' (first|exact trivial|refine And.intro ⟨_, rfl, ?_⟩ ?_|refine And.intro ⟨_, _, rfl, rfl, ?_⟩ ?_|exact Or.inr rfl|refine Or.inl ⟨?_, (by first|rfl|exact aY _ _)⟩|rfl)))
  ·dsimp only
   exact ⟨by omega, v7 hq hu, by simp;omega, by omega⟩
  ·dsimp only;omega
 ·have hlt := CU hA (show 0 < ((A >>> k : Nat) : Int) by assumption)
  (apply dK (k + 1, u, m);focus (refine Le.ren [(0, 0)] rfl (by decide) ?_ ?_ <;> repeat' (first|exact trivial|refine And.intro ⟨_, rfl, ?_⟩ ?_|refine And.intro ⟨_, _, rfl, rfl, ?_⟩ ?_|exact Or.inr rfl|refine Or.inl ⟨?_, (by first|rfl|exact aY _ _)⟩|rfl)))
  ·dsimp only
   exact ⟨by omega, v8 hq hu, hm, by omega⟩
  ·dsimp only;omega
 ·(refine cD (Le.frzD (d := 2) (i := 0) rfl rfl) ?_; refine aO rfl ?_)
  refine ⟨?_, (by (exact aY _ _))⟩
  simp only [b0, sl]
  rw [qB (k := k) (fun v hv => Hq hq v hv) (by omega) hA, ← hu, ← hm]
theorem tW (A : Nat) (hA : Sm A) : PC Tryz.prog 168 [.v (.int .u64 (A : Int))] (fun r => r = sl cI (cR A)) := by
 (refine aS Tryz.func168 rfl (by simp [Tryz.ntmps168]) ?_; rw [Tryz.ntmps168])
 repeat' (first|(apply aL;first|(apply aE;rfl;rfl)|(apply aC;rfl;rfl)|(apply aF;kernel_rfl))|(apply aM;first|apply aH|apply aB|apply aK)|with_reducible apply aA)
 refine AW.le ?_ (Le.nilOwn (d := 3) 1 rfl (by decide))
 refine bB (σ := Nat × List Int × Nat) [0] [(0, _)] [] [] (fun k => [(5, iv (k.1 : Int)), (3, .own 0 0 k.2.2 1)]) (fun k => [(0, some (aI cI k.2.1))]) (fun k => k.1 ≤ 64 ∧ k.2.1 = ((List.range k.1).filter (A.testBit ·)).map (fun v : Nat => (v : Int)) ∧ k.2.2 = k.2.1.length ∧ k.2.2 ≤ k.1) (fun k => 64 - k.1) (0, [], 0) ⟨by omega, rfl, rfl, Nat.le_refl _⟩ rfl rfl (by repeat' (first|exact trivial|refine And.intro rfl ?_)) (by repeat' (first|exact trivial|refine And.intro (.inr rfl) ?_)) ?_
 rintro ⟨k, u, m⟩ ⟨hk, hu, hm, hmk⟩
 dsimp only at hk hu hm hmk ⊢
 repeat' (first|(apply aL;first|(apply aE;rfl;rfl)|(first|(apply o6;rfl;rfl;infer_instance;infer_instance;rfl)|(apply oW;rfl;rfl;infer_instance;infer_instance;omega;rfl)|(apply bS;rfl;rfl;omega;rfl)|(apply aU;rfl;rfl;rfl;rfl))|(apply aC;rfl;rfl)|(apply bW;rfl;rfl;rfl;rfl;rfl;(rw [aP]; omega);(rfl);omega;omega;(exact gD (by (assumption)));rfl;rfl)|(apply aF;kernel_rfl)|((apply bE (t := _));(case hze|hsm|hl => rfl);(case hfl => exact (rfl:_=some [_]));(case hM|hN => rfl)))|(apply aM;first|apply aH|apply aB|(apply aQ;rfl;all_goals intro hc;have hq:=hc;(try simp only [cJ] at hq);try exfalso;omega)|apply aK|apply aT|apply bK|apply aR)|with_reducible apply aA|with_reducible apply bJ|with_reducible apply aX|with_reducible apply bO)
 ·(apply dK (k + 1, _, _); focus (refine Le.ren [(0, 2)] rfl (by decide) ?_ ?_ <;> repeat' (first | exact trivial | refine And.intro ⟨_, rfl, ?_⟩ ?_ | refine And.intro ⟨_, _, rfl, rfl, ?_⟩ ?_ | exact Or.inr rfl | refine Or.inl ⟨?_, (by first | rfl | exact aY _ _)⟩ | rfl)))
  ·dsimp only
   exact ⟨by omega, v7 hq hu, by simp;omega, by omega⟩
  ·dsimp only;omega
 ·(apply dK (k + 1, u, m); focus (refine Le.ren [(0, 0)] rfl (by decide) ?_ ?_ <;> repeat' (first | exact trivial | refine And.intro ⟨_, rfl, ?_⟩ ?_ | refine And.intro ⟨_, _, rfl, rfl, ?_⟩ ?_ | exact Or.inr rfl | refine Or.inl ⟨?_, (by first | rfl | exact aY _ _)⟩ | rfl)))
  ·dsimp only
   exact ⟨by omega, v8 hq hu, hm, by omega⟩
  ·dsimp only;omega
 ·(refine cD (Le.frzD (d := 2) (i := 0) rfl rfl) ?_; refine aO rfl ?_)
  refine ⟨?_, (by (exact aY _ _))⟩
  simp only [b0, sl]
  rw [qB (k := k) (fun v hv => Nat.testBit_lt_two_pow (Nat.lt_of_lt_of_le hA.pf (Nat.pow_le_pow_right (by decide) (by omega)))) (by omega) hA, ← hu, ← hm]
theorem zD (ts : List Int) (bd : List AL.Stmt) (pts : List Pnt) (V : Nat) (w : WG ts pts) (hV : Sm V) : PC Tryz.prog 211 [aG ts bd pts, iv (V : Int)] (fun r => r = .v (.int .u64 (qV pts V : Nat))) := by
 have hpl := w.pl
 have htl := w.tl
 (refine aS Tryz.func211 rfl (by simp [Tryz.ntmps211]) ?_; rw [Tryz.ntmps211])
 repeat' (first|(apply aL;first|(apply aE;rfl;rfl)|(apply aN;rfl;rfl;rfl;rfl)|(apply aD;rfl;rfl;rfl)|(apply aC;rfl;rfl)|(apply bI;rfl;rfl;rfl)|(apply aF;kernel_rfl)|(apply cA;rfl;rfl;rfl))|(apply aM;first|apply aH|apply aB|apply aK)|with_reducible apply aA)
 refine bB (σ := Nat × Nat) [1, 11, 12] [(1, _), (11, _), (12, _)] [] [] (fun k => [(13, iv (k.1 : Int)), (5, .v (.int .u64 (k.2 : Int)))]) (fun k => []) (fun k => k.1 ≤ pts.length ∧ k.2 = fZ (fun l => fG pts[l]! && V.testBit (pts[l]!.y.toNat)) k.1) (fun k => pts.length - k.1) (0, 0) ⟨by omega, rfl⟩ rfl rfl (by repeat' (first|exact trivial|refine And.intro rfl ?_)) (by repeat' (exact trivial)) ?_
 rintro ⟨k, A⟩ ⟨hk, hA⟩
 dsimp only at hk hA ⊢
 have hsm : Sm A := hA ▸ dH (by omega)
 cases hln : fG pts[k]!
 ·repeat' (first | (apply aL; first | (apply aE;rfl;rfl) | (apply aV;rfl;rfl;(exact (rfl:_=[_, _, _, _, _]));rfl;rfl;rfl) | (apply bC;rfl;rfl;rfl;(assumption)) | (first | (apply bS;rfl;rfl;omega;rfl) | (apply aU;rfl;rfl;rfl;rfl)) | (apply aC;rfl;rfl) | (apply bQ;rfl;(assumption);rfl;rfl) | (apply a7; (case hx | hi => rfl); (case hm => (omega)); (case hml => (rfl)); (case hα | hf | hg => infer_instance); (case hN => rfl)) | ((with_reducible apply aJ (k := 207)); (case ha => rfl); (case h => (apply mM <;> (fail))); (case hp => (exact Pur.pf)); (case hN => rfl)) | (apply aF;kernel_rfl) | (apply a6;rfl;rfl) | (apply aW;rfl;rfl;rfl;rfl;rfl;(case hl => (simp;done));(exact (rfl:_=[_, _, _, _, _])))) | (apply aM; first | apply aH | apply aB | (apply cG;rfl;(rfl)) | (apply aQ;rfl;all_goals intro hc;have hq:=hc;(try simp only [cJ] at hq);try exfalso;omega) | apply aK | apply aT | apply bK | apply aR) | with_reducible apply aA | with_reducible apply bJ | with_reducible apply aX | with_reducible apply bO | ((with_reducible apply aO); case hr => rfl))
  ·(apply dK (k + 1, A); focus (refine Le.ren [] rfl (by decide) ?_ ?_ <;> repeat' (first | exact trivial | refine And.intro ⟨_, rfl, ?_⟩ ?_ | refine Or.inl ⟨?_, (by first | rfl | exact aY _ _)⟩ | rfl)))
   ·dsimp only
    exact ⟨by omega, by rw [hA]; exact mE _ _ (by rw [hln]; rfl)⟩
   ·dsimp only;omega
  ·(refine ⟨?_, rfl⟩; simp only [b0, AV.v.injEq, Value.bool.injEq, Value.int.injEq, true_and])
   rw [hA, show k = pts.length by omega]; rfl
 ·have hy := fun (h : k < pts.length) => yW w h hln
  repeat' (first|(apply aL;first|(apply aE;rfl;rfl)|(first|(apply aN;rfl;rfl;rfl;rfl)|(apply aV;rfl;rfl;(exact (rfl:_=[_, _, _, _, _]));rfl;rfl;rfl))|(apply aD;rfl;rfl;rfl)|(apply a8;rfl;rfl;rfl;(assumption))|(first|(apply gR;rfl;rfl;infer_instance;infer_instance;infer_instance;rfl)|(apply o6;rfl;rfl;infer_instance;infer_instance;rfl)|(apply iU;rfl;rfl;infer_instance;omega;rfl;(case' kk => intro hsm))|(apply oW;rfl;rfl;infer_instance;infer_instance;omega;rfl)|(apply bS;rfl;rfl;omega;rfl)|(apply aU;rfl;rfl;rfl;rfl))|(apply aC;rfl;rfl)|(apply bY;rfl;(assumption);rfl;rfl)|(apply a7;(case hx|hi => rfl);(case hm => (omega));(case hml => (rfl));(case hα | hf|hg => infer_instance);(case hN => rfl))|((with_reducible apply aJ (k := 207));(case ha => rfl);(case h => (apply mM <;> (fail)));(case hp => (exact Pur.pf));(case hN => rfl))|(apply aF;kernel_rfl)|(apply a6;rfl;rfl)|(apply aW;rfl;rfl;rfl;rfl;rfl;(case hl => (simp;done));(exact (rfl:_=[_, _, _, _, _]))))|(apply aM;first|apply aH|apply aB|(apply aQ;rfl;all_goals intro hc;have hq:=hc;(try simp only [cJ] at hq);try exfalso;omega)|apply aK|apply aT|apply bK|apply aR)|with_reducible apply aA|with_reducible apply bJ|with_reducible apply aX|with_reducible apply bO|((with_reducible apply aO);case hr => rfl))
  ·(apply dK (k + 1, _); focus (refine Le.ren [] rfl (by decide) ?_ ?_ <;> repeat' (first | exact trivial | refine And.intro ⟨_, rfl, ?_⟩ ?_ | refine Or.inl ⟨?_, (by first | rfl | exact aY _ _)⟩ | rfl)))
   ·dsimp only
    exact ⟨by omega, by rw [hA]; exact qF _ _ (by rw [hln, Bool.true_and]; exact (l6 _ _).1 hq)⟩
   ·dsimp only;omega
  ·(apply dK (k + 1, A); focus (refine Le.ren [] rfl (by decide) ?_ ?_ <;> repeat' (first | exact trivial | refine And.intro ⟨_, rfl, ?_⟩ ?_ | refine Or.inl ⟨?_, (by first | rfl | exact aY _ _)⟩ | rfl)))
   ·dsimp only
    exact ⟨by omega, by rw [hA]; exact mE _ _ (by rw [hln, Bool.true_and]; cases hb : V.testBit (pts[k]!.y.toNat) with|false => rfl|true => exact absurd ((l6 _ _).2 hb) hq)⟩
   ·dsimp only;omega
  ·(refine ⟨?_, rfl⟩; simp only [b0, AV.v.injEq, Value.bool.injEq, Value.int.injEq, true_and])
   rw [hA, show k = pts.length by omega]; rfl
theorem GH (ts : List Int) (bd : List AL.Stmt) (pts : List Pnt) (A : List Nat) (w : WG ts pts) (hA : wA ts pts A) : PC Tryz.prog 167 [aG ts bd pts] (fun r => r = .imm pts.length (aI cW A)) := by
 have hpl := w.pl
 have hp0 := w.p0
 have htl := w.tl
 have fl := Mi w
 (refine aS Tryz.func167 rfl (by simp [Tryz.ntmps167]) ?_; rw [Tryz.ntmps167])
 repeat' (first|(apply aL;first|(apply aE;rfl;rfl)|(apply aN;rfl;rfl;rfl;rfl)|(apply aD;rfl;rfl;rfl)|(apply aC;rfl;rfl)|(apply bI;rfl;rfl;rfl)|(apply aF;kernel_rfl)|(apply cA;rfl;rfl;rfl)|(apply e7;rfl;rfl;rfl;omega;omega;(exact Jq);rfl;rfl))|(apply aM;first|apply aH|apply aB|apply aK)|with_reducible apply aA)
 refine bB (σ := List Nat × Bool) [0, 3] [(0, _), (3, _)] [] [] (fun s => [(4, bv s.2)]) (fun s => [(0, some (aI cW s.1))]) (fun s => SG pts (LD ts pts) s.1 ∧ (s.2 = false → lL nZ (xO ts pts) pts s.1)) (fun s => 2 * gJ (s.1.map (fun a => 2 ^ pts.length - a)) + s.2.toNat) (List.replicate pts.length 0, true) ⟨Ce fun i hi => ⟨Nat.pow_pos (by decide), fun v h => by simp at h⟩, fun h => by cases h⟩ rfl rfl (by repeat' (first|exact trivial|refine And.intro rfl ?_)) (by repeat' (first|exact trivial|refine And.intro (.inr rfl) ?_)) ?_
 rintro ⟨s, b⟩ ⟨hS, hC⟩
 dsimp only at hS hC ⊢
 repeat' (first|(apply aL;first|(apply aE;rfl;rfl)|(apply aN;rfl;rfl;rfl;rfl)|(apply aD;rfl;rfl;rfl)|(apply aC;rfl;rfl)|(apply bI;rfl;rfl;rfl)|(apply aF;kernel_rfl)|(apply cA;rfl;rfl;rfl))|(apply aM;first|apply aH|apply aB|(apply aQ;rfl;all_goals intro hc;have hq:=hc;(try simp only [cJ] at hq);try exfalso;omega)|apply aK|apply aT|apply bK|apply aR)|with_reducible apply aA|with_reducible apply bJ|with_reducible apply bO)
 ·refine bB (σ := Nat × (List Nat × Bool)) [0, 3, 20, 21] [(0, _), (3, _), (20, _), (21, _)] [] [] (fun k => [(22, iv (k.1 : Int)), (4, bv k.2.2)]) (fun k => [(0, some (aI cW k.2.1))]) (fun k => k.1 ≤ pts.length ∧ k.2 = (List.range k.1).foldl (yO nZ (xO ts pts) pts) (s, false) ∧ SG pts (LD ts pts) k.2.1) (fun k => pts.length - k.1) (0, (s, false)) ⟨by omega, rfl, hS⟩ rfl rfl (by repeat' (first | exact trivial | refine And.intro rfl ?_)) (by repeat' (first | exact trivial | refine And.intro (.inr rfl) ?_)) ?_
  rintro ⟨k, u, c⟩ ⟨hk, hf, hS2⟩
  dsimp only at hk hf hS2 ⊢
  have hul := hS2.1
  by_cases hkn : k < pts.length
  ·have hst := (w.set k hkn).1
   have hsm : ∀ z : Nat, Sm u[z]! := by
    intro z
    by_cases hz : z < pts.length
    ·exact ⟨Nat.lt_of_lt_of_le (hS2.2 z hz).1 (Nat.pow_le_pow_right (by decide) (by omega))⟩
    ·rw [getElem!_neg u z (by rw [hul]; exact hz)]; exact ⟨by decide⟩
   have hs1 : Sm (wS ts pts[k]! [2]) := dH (by omega)
   have hs2 : Sm (iY pts[k]!) := rX (by omega)
   have hs3 : ∀ V, Sm (qV pts V) := fun V => Hg w V
   have hnl := w.nl k hkn
   have e1 : fG pts[k]! = true → nI u[k]! (qV pts (wS ts pts[k]! [2] ||| iY pts[k]!)) ||| 2 ^ (k : Int).toNat = xO ts pts k u[k]! := fun h => by unfold xO K7;rw [if_pos h]; rfl
   have e0 : fG pts[k]! = false → nI u[k]! (qV pts (wS ts pts[k]! [2] ||| iY pts[k]!)) = xO ts pts k u[k]! := fun h => by unfold xO K7;rw [if_neg (by rw [h]; simp), Nat.or_zero]
   have hps : Sm (xO ts pts k u[k]!) := ⟨Nat.lt_of_lt_of_le (Ck w hkn (hS2.2 k hkn).1) (Nat.pow_le_pow_right (by decide) (by omega))⟩
   repeat' (first|(apply aL;first|(apply aE;rfl;rfl)|(first|(apply eF;(case hx|hH => rfl);(case hf|hg|hα => infer_instance);(case hk => omega);(case hc|hN => rfl))|(apply aN;rfl;rfl;rfl;rfl)|(apply aV;rfl;rfl;(exact (rfl:_=[_, _, _, _, _]));rfl;rfl;rfl))|(apply aD;rfl;rfl;rfl)|(first|(apply gR;rfl;rfl;infer_instance;infer_instance;infer_instance;rfl)|(apply oJ;rfl;rfl;infer_instance;infer_instance;infer_instance;rfl)|(apply iU;rfl;rfl;infer_instance;omega;rfl;(case' kk => intro hsm))|(apply aU;rfl;rfl;rfl;rfl))|(apply aC;rfl;rfl)|(first|(apply a7;(case hx|hi => rfl);(case hm => (assumption));(case hml => (rfl));(case hα | hf|hg => infer_instance);(case hN => rfl))|(apply cH;rfl;rfl;(assumption);rfl))|(first|((with_reducible apply aJ (k := 205));(case ha => rfl);(case h => (apply rF <;> (assumption)));(case hp => (exact Pur.pf));(case hN => rfl))|((with_reducible apply aJ (k := 207));(case ha => rfl);(case h => (apply mM <;> (fail)));(case hp => (exact Pur.pf));(case hN => rfl))|((with_reducible apply aJ (k := 211));(case ha => rfl);(case h => (apply zD <;> (first|assumption|infer_instance)));(case hp => (exact Pur.pf));(case hN => rfl))|((with_reducible apply aJ (k := 212));(case ha => rfl);(case h => (apply o9 <;> (omega)));(case hp => (exact Pur.pf));(case hN => rfl)))|(apply bI;rfl;rfl;rfl)|(apply aF;kernel_rfl)|(apply a6;rfl;rfl)|(apply aW;rfl;rfl;rfl;rfl;rfl;(case hl => (simp;done));(exact (rfl:_=[_, _, _, _, _]))))|(apply aM;first|apply aH|apply aB|(apply bV;kernel_rfl)|(apply aQ;rfl;all_goals intro hc;have hq:=hc;(try simp only [cJ] at hq);try exfalso;omega)|apply aK|apply aT)|with_reducible apply aA)
   all_goals first|rw [e1 (by assumption)]|rw [e0 (by assumption)]
   all_goals
    refine bB (σ := Nat × (List Nat × Bool)) [0, 3, 7, 20, 21, 22, 47, 48] [(0, _), (3, _), (7, _), (20, _), (21, _), (22, _), (47, _), (48, _)] [] [] (fun j => [(49, iv (j.1 : Int)), (4, bv j.2.2)]) (fun j => [(0, some (aI cW j.2.1))]) (fun j => j.1 ≤ pts[k]!.next.length ∧ j.2 = ((u9 pts k).take j.1).foldl (lT nZ (xO ts pts k u[k]!)) (u, c) ∧ SG pts (LD ts pts) j.2.1) (fun j => pts[k]!.next.length - j.1) (0, (u, c)) ⟨by omega, rfl, hS2⟩ rfl rfl (by repeat' (first|exact trivial|refine And.intro rfl ?_)) (by repeat' (first|exact trivial|refine And.intro (.inr rfl) ?_)) ?_
    rintro ⟨j, u2, c2⟩ ⟨hj, hf2, hS3⟩
    dsimp only at hj hf2 hS3 ⊢
    have hul2 := hS3.1
    have hsm2 : ∀ z : Nat, Sm u2[z]! := by
     intro z
     by_cases hz : z < pts.length
     ·exact ⟨Nat.lt_of_lt_of_le (hS3.2 z hz).1 (Nat.pow_le_pow_right (by decide) (by omega))⟩
     ·rw [getElem!_neg u2 z (by rw [hul2]; exact hz)]; exact ⟨by decide⟩
    have hz : j < pts[k]!.next.length → 0 ≤ pts[k]!.next[j]! ∧ pts[k]!.next[j]! < pts.length := fun h => w.nx k hkn _ (cM _ _ h)
    repeat' (first|(apply aL;first|(apply aE;rfl;rfl)|(first|(apply eF;(case hx|hH => rfl);(case hf|hg|hα => infer_instance);(case hk => omega);(case hc|hN => rfl))|(apply aN;rfl;rfl;rfl;rfl))|(first|(apply gR;rfl;rfl;infer_instance;infer_instance;infer_instance;rfl)|(apply bS;rfl;rfl;omega;rfl)|(apply aU;rfl;rfl;rfl;rfl))|(apply aC;rfl;rfl)|(first|(apply a7;(case hx|hi => rfl);(case hm => (omega));(case hml => (rfl));(case hα | hf|hg => infer_instance);(case hN => rfl))|(apply cQ;rfl;rfl;(omega);rfl))|(apply aF;kernel_rfl)|(apply aW;rfl;rfl;rfl;rfl;rfl;(rw [aP]; simp only [gH] <;> omega);(exact oX (by (omega)))))|(apply aM;first|apply aH|apply aB|(apply bV;kernel_rfl)|(apply aQ;rfl;all_goals intro hc;have hq:=hc;(try simp only [cJ] at hq);try exfalso;omega)|apply aK|apply aT|apply bK)|with_reducible apply aA|with_reducible apply bJ|with_reducible apply aX|with_reducible apply bO)
    ·have hzz := hz (by omega)
     have hed : e8 pts k (pts[k]!.next[j]!).toNat := ⟨hkn, by rw [Int.toNat_of_nonneg hzz.1]; exact cM _ _ (by omega)⟩
     have hne : nZ u2[(pts[k]!.next[j]!).toNat]! (xO ts pts k u[k]!) ≠ u2[(pts[k]!.next[j]!).toNat]! := fun h => hq (congrArg Int.ofNat h)
     (apply dK (j + 1, (_, true));focus (refine Le.ren [(0, 0)] rfl (by decide) ?_ ?_ <;> repeat' (first|exact trivial|refine And.intro ⟨_, rfl, ?_⟩ ?_|refine And.intro ⟨_, _, rfl, rfl, ?_⟩ ?_|exact Or.inr rfl|refine Or.inl ⟨?_, (by first|rfl|exact aY _ _|exact Pur.pf)⟩|rfl)))
     ·dsimp only
      refine ⟨by omega, ?_, xH fl w (hS2.2 k hkn) hed hS3⟩
      rw [jT (by omega), ← hf2, y1 hne]
     ·dsimp only;omega
    ·have hzz := hz (by omega)
     have hne : nZ u2[(pts[k]!.next[j]!).toNat]! (xO ts pts k u[k]!) = u2[(pts[k]!.next[j]!).toNat]! := Int.ofNat.inj hq
     (apply dK (j + 1, (u2, c2));focus (refine Le.ren [(0, 0)] rfl (by decide) ?_ ?_ <;> repeat' (first|exact trivial|refine And.intro ⟨_, rfl, ?_⟩ ?_|refine And.intro ⟨_, _, rfl, rfl, ?_⟩ ?_|exact Or.inr rfl|refine Or.inl ⟨?_, (by first|rfl|exact aY _ _|exact Pur.pf)⟩|rfl)))
     ·dsimp only
      refine ⟨by omega, ?_, hS3⟩
      rw [jT (by omega), ← hf2, yS hne]
     ·dsimp only;omega
    ·(apply dK (k + 1, (u2, c2)); focus (refine Le.ren [(0, 0)] rfl (by decide) ?_ ?_ <;> repeat' (first | exact trivial | refine And.intro ⟨_, rfl, ?_⟩ ?_ | refine And.intro ⟨_, _, rfl, rfl, ?_⟩ ?_ | exact Or.inr rfl | refine Or.inl ⟨?_, (by first | rfl | exact aY _ _ | exact Pur.pf)⟩ | rfl)))
     ·dsimp only
      refine ⟨by omega, ?_, hS3⟩
      rw [fD, ← hf, hf2, List.take_of_length_le (by rw [lH]; omega)]; rfl
     ·dsimp only;omega
  ·repeat' (first | (apply aL; first | (apply aU;rfl;rfl;rfl;rfl) | (apply aF;kernel_rfl)) | (apply aM; first | apply aH | apply aB | (apply aQ;rfl;all_goals intro hc;have hq:=hc;(try simp only [cJ] at hq);try exfalso;omega) | apply bK) | with_reducible apply aA | with_reducible apply bJ | with_reducible apply aX | with_reducible apply bO)
   have law := uW w fl s false hS
   have hfull : (u, c) = y0 nZ (xO ts pts) pts (s, false) := by
    rw [hf, show k = pts.length by omega]; rfl
   rw [← hfull] at law
   (apply dK (u, c);focus (refine Le.ren [(0, 0)] rfl (by decide) ?_ ?_ <;> repeat' (first|exact trivial|refine And.intro ⟨_, rfl, ?_⟩ ?_|refine And.intro ⟨_, _, rfl, rfl, ?_⟩ ?_|exact Or.inr rfl|refine Or.inl ⟨?_, (by first|rfl|exact aY _ _|exact Pur.pf)⟩|rfl)))
   ·dsimp only
    refine ⟨hS2, fun h => ?_⟩
    rcases law.2 with ⟨e1, e2⟩ | ⟨e1, _⟩
    ·cases e1;exact e2
    ·dsimp only at e1;rw [h] at e1;cases e1
   ·dsimp only
    have hb : b = true := by assumption
    subst hb
    rcases law.2 with ⟨e1, e2⟩ | ⟨e1, e2⟩
    ·cases e1;simp
    ·dsimp only at e1 e2;subst e1;omega
 ·have hb : b = false := by assumption
  refine cD (Le.frzD (d := 2) (i := 0) rfl rfl) ?_
  refine aO rfl ⟨?_, (by (exact aY _ _))⟩
  simp only [b0]
  rw [D4 hA (Fk w hS (hC hb))]
theorem Bv (ts : List Int) (bd : List AL.Stmt) (pts : List Pnt) (i : Int) (f : List Nat) (w : WG ts pts) (hi : 0 ≤ i ∧ i < pts.length) (hf : f.length = 6) (hs : ∀ z : Nat, Sm f[z]!) : PC Tryz.prog 164 [aG ts bd pts, iv i, .agg (aI cW f)] (fun r => r = .agg (aI cW (yI ts pts i.toNat f))) := by
 have hpl := w.pl
 have htl := w.tl
 have hin : i.toNat < pts.length := by omega
 have hst := (w.set i.toNat hin)
 have hy := w.y i.toNat hin
 have hbl := dW (wS ts pts[i.toNat]! [2])
 have hT : Sm (wS ts pts[i.toNat]! [2]) := dH (by omega)
 (refine aS Tryz.func164 rfl (by simp [Tryz.ntmps164]) ?_; rw [Tryz.ntmps164])
 repeat' (first|(apply aL;first|(apply aE;rfl;rfl)|(first|(apply aN;rfl;rfl;rfl;rfl)|(apply aV;rfl;rfl;(first|exact (rfl:_=[_, _, _, _, _])|rfl);rfl;rfl;rfl)|(apply kK;rfl;rfl;(assumption);rfl;rfl))|(apply aD;rfl;rfl;rfl)|(apply cL;(case hx|hi => rfl);(case hm => (assumption));(case hml => (rfl));(case hα | hf|hg => infer_instance);(case hN => rfl))|(first|((with_reducible apply aJ (k := 119));(case ha => rfl);(case h => (apply iP <;> (assumption)));(case hp => (rfl));(case hN => rfl))|((with_reducible apply aJ (k := 205));(case ha => rfl);(case h => (apply rF <;> (assumption)));(case hp => (exact Pur.pf));(case hN => rfl)))|(apply bI;rfl;rfl;rfl)|(apply aF;kernel_rfl)|(apply cA;rfl;rfl;rfl)|(apply bH;rfl;rfl;rfl;rfl)|(apply a6;rfl;rfl)|(apply aW;rfl;rfl;rfl;rfl;rfl;(case hl => (simp;done));(exact (rfl:_=[_, _, _, _, _])))|(apply iZ;rfl;rfl;rfl;(assumption);(rfl)))|(apply aM;first|apply aH|apply aB|apply aK)|with_reducible apply aA)
 refine bB (σ := Nat × List Nat) [0, 1, 5, 6, 7, 8, 23, 24] [(0, _), (1, _), (5, _), (6, _), (7, _), (8, _), (23, _), (24, _)] [0, 1, 2] [(0, some _), (1, some _), (2, some _)] (fun k => [(25, iv (k.1 : Int))]) (fun k => [(3, some (aI cW k.2))]) (fun k => k.1 ≤ (cR (wS ts pts[i.toNat]! [2])).length ∧ k.2 = nX ((cR (wS ts pts[i.toNat]! [2])).take k.1) f ∧ k.2.length = 6) (fun k => (cR (wS ts pts[i.toNat]! [2])).length - k.1) (0, f) ⟨by omega, rfl, hf⟩ rfl rfl (by repeat' (first|exact trivial|refine And.intro rfl ?_)) (by repeat' (first|exact trivial|refine And.intro (.inr rfl) ?_)) ?_
 rintro ⟨k, u⟩ ⟨hk, hu, hul⟩
 dsimp only at hk hu hul ⊢
 have hbb : k < (cR (wS ts pts[i.toNat]! [2])).length → 0 ≤ (cR (wS ts pts[i.toNat]! [2]))[k]! ∧ (cR (wS ts pts[i.toNat]! [2]))[k]! < ts.length := fun h => mJ (w5 (fun v => decide (cC ts pts[i.toNat]! v ∈ [2])) ts.length) h
 have husm : ∀ z : Nat, Sm u[z]! := by intro z;rw [hu]; exact Kq hs z
 have hset : ∀ (k a : Nat) [Sm a] (z : Nat), Sm (u.set k a)[z]! := fun k a h z => Bo husm h z
 have hset2 : ∀ (k a k2 a2 : Nat) [Sm a] [Sm a2] (z : Nat), Sm ((u.set k a).set k2 a2)[z]! := fun k a k2 a2 h h2 z => Bo (Bo husm h) h2 z
 by_cases hkn : k < (cR (wS ts pts[i.toNat]! [2])).length
 ·have hbk := hbb hkn
  repeat' (first|(apply aL;first|(apply aE;rfl;rfl)|(apply aN;rfl;rfl;rfl;rfl)|(first|(apply bS;rfl;rfl;omega;rfl)|(apply aU;rfl;rfl;rfl;rfl))|(apply aC;rfl;rfl)|(first|(apply a7;(case hx|hi => rfl);(case hm => (assumption));(case hml => (rfl));(case hα | hf|hg => infer_instance);(case hN => rfl))|(apply jC;rfl;rfl;(omega);rfl;rfl))|(apply aF;kernel_rfl)|(apply aW;rfl;rfl;rfl;rfl;rfl;(rw [aP]; simp only [gH] <;> omega);(exact oX (by (omega)))))|(apply aM;first|apply aH|apply aB|(apply aQ;rfl;all_goals intro hc;have hq:=hc;(try simp only [cJ] at hq);try exfalso;omega)|apply aK|apply aT)|with_reducible apply aA|with_reducible apply aX)
  (apply Exists.intro (k + 1, u.set ((cR (wS ts pts[i.toNat]! [2]))[k]!).toNat 0);refine And.intro ?_ (And.intro ?_ ?_);rotate_left 2;focus (refine Le.ren [(0, 0), (1, 1), (2, 2), (3, 3)] rfl (by decide) ?_ ?_ <;> repeat' (first|exact trivial|refine And.intro ⟨_, rfl, ?_⟩ ?_|refine And.intro ⟨_, _, rfl, rfl, ?_⟩ ?_|exact Or.inr rfl|refine Or.inl ⟨?_, (by first|rfl|exact aY _ _|exact Pur.pf)⟩|rfl)))
  ·dsimp only
   exact ⟨by omega, by rw [DL hkn, ← hu], by simpa using hul⟩
  ·dsimp only;omega
 ·have hu' : u = nX (cR (wS ts pts[i.toNat]! [2])) f := by rw [hu, List.take_of_length_le (by omega)]
  cases hln : fG pts[i.toNat]!
  ·repeat' (first | (apply aL; first | (apply aE;rfl;rfl) | (first | (apply eF; (case hx | hH => rfl); (case hf | hg | hα => infer_instance); (case hk => omega); (case hc | hN => rfl)) | (apply aN;rfl;rfl;rfl;rfl) | (apply aV;rfl;rfl;(first | exact (rfl:_=[_, _, _, _, _]) | rfl);rfl;rfl;rfl) | (apply kK;rfl;rfl;(first | assumption | (simp only [gH] <;> omega));rfl;rfl) | (apply pO;rfl;rfl;(exact Mq);(simp only [gH] <;> omega);rfl)) | (apply aD;rfl;rfl;rfl) | (first | (apply a8;rfl;rfl;rfl;(rfl)) | (apply bC;rfl;rfl;rfl;(assumption))) | (first | (apply gR;rfl;rfl;infer_instance;infer_instance;infer_instance;rfl) | (apply aU;rfl;rfl;rfl;rfl)) | (apply aC;rfl;rfl) | (apply bQ;rfl;(first | rfl | assumption);rfl;rfl) | (apply jC;rfl;rfl;(omega);rfl;rfl) | (first | ((with_reducible apply aJ (k := 206)); (case ha => rfl); (case h => (apply xS <;> (fail))); (case hp => (exact Pur.pf)); (case hN => rfl)) | ((with_reducible apply aJ (k := 207)); (case ha => rfl); (case h => (apply mM <;> (fail))); (case hp => (exact Pur.pf)); (case hN => rfl))) | (apply aF;kernel_rfl) | (apply aW;rfl;rfl;rfl;rfl;rfl;(rw [aP]; simp only [gH] <;> omega);(exact oX (by (first | omega | (simp only [gH] <;> omega))))) | (apply iZ;rfl;rfl;rfl;(first | assumption | (simp only [gH] <;> omega));(rfl))) | (apply aM; first | apply aH | apply aB | (apply bV;kernel_rfl) | (apply cG;rfl;(assumption)) | (apply aQ;rfl;all_goals intro hc;have hq:=hc;(try simp only [cJ] at hq);try exfalso;omega) | apply aT | apply bK | apply aR) | with_reducible apply aA | with_reducible apply bG | with_reducible apply bJ | with_reducible apply bO)
   all_goals (refine aO (nW (z := 6) rfl rfl (by first|exact hul|(simp only [List.length_set]; exact hul)) (by decide)) ⟨?_, (by (exact aY _ _))⟩)
   all_goals simp only [b0, yI, ← hu', hln, Bool.false_eq_true, false_and, false_or, if_false]
   all_goals congr 2
   all_goals grind
  ·have hop := Dp hln
   repeat' (first|(apply aL;first|(apply aE;rfl;rfl)|(first|(apply eF;(case hx|hH => rfl);(case hf|hg|hα => infer_instance);(case hk => omega);(case hc|hN => rfl))|(apply aN;rfl;rfl;rfl;rfl)|(apply aV;rfl;rfl;(first|exact (rfl:_=[_, _, _, _, _])|rfl);rfl;rfl;rfl)|(apply kK;rfl;rfl;(first|assumption|(simp only [gH] <;> omega));rfl;rfl)|(apply pO;rfl;rfl;(exact Mq);(simp only [gH] <;> omega);rfl))|(apply aD;rfl;rfl;rfl)|(first|(apply a8;rfl;rfl;rfl;(assumption))|(apply bC;rfl;rfl;rfl;(assumption))|(apply bR;(case hj|hb|hN => rfl);all_goals (intro hg;have hq := hg;(try simp only [cJ] at hq);(try (exfalso;omega)))))|(first|(apply gR;rfl;rfl;infer_instance;infer_instance;infer_instance;rfl)|(apply iU;rfl;rfl;infer_instance;omega;rfl;(case' kk => intro hsm))|(apply aU;rfl;rfl;rfl;rfl))|(apply aC;rfl;rfl)|(first|(apply bY;rfl;(assumption);rfl;rfl)|(apply bQ;rfl;(assumption);rfl;rfl))|(first|(apply cL;(case hx|hi => rfl);(case hm => (omega));(case hml => (rfl));(case hα | hf|hg => infer_instance);(case hN => rfl))|(apply jC;rfl;rfl;(omega);rfl;rfl))|(first|((with_reducible apply aJ (k := 206));(case ha => rfl);(case h => (apply xS <;> (fail)));(case hp => (exact Pur.pf));(case hN => rfl))|((with_reducible apply aJ (k := 207));(case ha => rfl);(case h => (apply mM <;> (fail)));(case hp => (exact Pur.pf));(case hN => rfl))|((with_reducible apply aJ (k := 208));(case ha => rfl);(case h => (apply AK <;> (fail)));(case hp => (rfl));(case hN => rfl)))|(apply aF;kernel_rfl)|(apply cA;rfl;rfl;rfl)|(apply aW;rfl;rfl;rfl;rfl;rfl;(rw [aP]; simp only [gH] <;> omega);(exact oX (by (first|omega|(simp only [gH] <;> omega)))))|(apply iZ;rfl;rfl;rfl;(first|assumption|(simp only [gH] <;> omega));(rfl)))|(apply aM;first|apply aH|apply aB|(apply bV;kernel_rfl)|(apply cB;rfl;(first|rfl|assumption))|(apply aQ;rfl;all_goals intro hc;have hq:=hc;(try simp only [cJ] at hq);try exfalso;omega)|apply aT|apply bK|apply aR)|with_reducible apply aA|with_reducible apply bG|with_reducible apply bJ|with_reducible apply bO)
   all_goals (refine aO (nW (z := 6) rfl rfl (by first|exact hul|(simp only [List.length_set]; exact hul)) (by decide)) ⟨?_, (by (exact aY _ _))⟩)
   all_goals simp only [b0, yI, ← hu', hln, true_and, if_true]
   all_goals congr 2
   all_goals grind
theorem D3 (ts : List Int) (bd : List AL.Stmt) (pts : List Pnt) (A : List Nat) (w : WG ts pts) (hA : wR ts pts A) : PC Tryz.prog 101 [aG ts bd pts] (fun r => r = .imm pts.length (aI cW A)) := by
 have hpl := w.pl
 have hp0 := w.p0
 have htl := w.tl
 (refine aS Tryz.func101 rfl (by simp [Tryz.ntmps101]) ?_; rw [Tryz.ntmps101])
 repeat' (first|(apply aL;first|(apply aE;rfl;rfl)|(apply aN;rfl;rfl;rfl;rfl)|(apply aD;rfl;rfl;rfl)|(apply aC;rfl;rfl)|(apply bI;rfl;rfl;rfl)|(apply aF;kernel_rfl)|(apply cA;rfl;rfl;rfl)|(apply e7;rfl;rfl;rfl;omega;omega;(exact Hm);rfl;rfl))|(apply aM;first|apply aH|apply aB|apply aK)|with_reducible apply aA)
 refine bB (σ := List Nat × Bool) [0, 3] [(0, _), (3, _)] [] [] (fun s => [(4, bv s.2)]) (fun s => [(0, some (aI cW s.1))]) (fun s => SF ts pts s.1 ∧ (s.2 = false → xX ts pts s.1)) (fun s => 2 * gJ (s.1.map (fun x => 2 ^ pts.length - x)) + s.2.toNat) (List.replicate (pts.length * 6) 0, true) ⟨Ll, fun h => by cases h⟩ rfl rfl (by repeat' (first|exact trivial|refine And.intro rfl ?_)) (by repeat' (first|exact trivial|refine And.intro (.inr rfl) ?_)) ?_
 rintro ⟨s, b⟩ ⟨hS, hC⟩
 dsimp only at hS hC ⊢
 repeat' (first|(apply aL;first|(apply aE;rfl;rfl)|(apply aN;rfl;rfl;rfl;rfl)|(apply aD;rfl;rfl;rfl)|(apply aC;rfl;rfl)|(apply bI;rfl;rfl;rfl)|(apply aF;kernel_rfl)|(apply cA;rfl;rfl;rfl))|(apply aM;first|apply aH|apply aB|(apply aQ;rfl;all_goals intro hc;have hq:=hc;(try simp only [cJ] at hq);try exfalso;omega)|apply aK|apply aT|apply bK|apply aR)|with_reducible apply aA|with_reducible apply bJ|with_reducible apply bO)
 ·refine bB (σ := Nat × (List Nat × Bool)) [0, 3, 22, 23] [(0, _), (3, _), (22, _), (23, _)] [] [] (fun k => [(24, iv (k.1 : Int)), (4, bv k.2.2)]) (fun k => [(0, some (aI cW k.2.1))]) (fun k => k.1 ≤ pts.length ∧ k.2 = (List.range k.1).foldl (Bq ts pts) (s, false) ∧ SF ts pts k.2.1) (fun k => pts.length - k.1) (0, (s, false)) ⟨by omega, rfl, hS⟩ rfl rfl (by repeat' (first | exact trivial | refine And.intro rfl ?_)) (by repeat' (first | exact trivial | refine And.intro (.inr rfl) ?_)) ?_
  rintro ⟨i, u, c⟩ ⟨hk, hf, hS2⟩
  dsimp only at hk hf hS2 ⊢
  have hul := hS2.1
  have hsm : ∀ z : Nat, Sm u[z]! := JJ w hS2
  by_cases hin : i < pts.length
  ·have hnl := w.nl i hin
   have hrl : ((u.drop (i * 6)).take 6).length = 6 := iF hul hin
   have hrs : ∀ z : Nat, Sm ((u.drop (i * 6)).take 6)[z]! := by
    intro z
    by_cases hz : z < 6
    ·have := iG hul hin hz;unfold fP at this;rw [this]; exact hsm _
    ·rw [getElem!_neg _ z (by rw [hrl]; exact hz)]; exact ⟨by decide⟩
   have hcl : (yI ts pts (i : Int).toNat ((u.drop (i * 6)).take 6)).length = 6 := (H8 ts pts i ((u.drop (i * 6)).take 6)).trans hrl
   repeat' (first|(apply aL;first|(apply aE;rfl;rfl)|(first|(apply aN;rfl;rfl;rfl;rfl)|(apply aV;rfl;rfl;(first|exact (rfl:_=[_, _, _, _, _])|rfl);rfl;rfl;rfl)|(apply AH;rfl;rfl;(omega);rfl;rfl))|(apply aD;rfl;rfl;rfl)|(apply aU;rfl;rfl;rfl;rfl)|(apply aC;rfl;rfl)|(first|(apply a7;(case hx|hi => rfl);(case hm => (assumption));(case hml => (rfl));(case hα | hf|hg => infer_instance);(case hN => rfl))|(apply cH;rfl;rfl;(assumption);rfl))|((with_reducible apply aJ (k := 164));(case ha => rfl);(case h => (apply Bv <;> (first|assumption|omega)));(case hp => (exact Pur.pf));(case hN => rfl))|(apply bI;rfl;rfl;rfl)|(apply aF;kernel_rfl)|(apply a6;rfl;rfl)|(apply aW;rfl;rfl;rfl;rfl;rfl;(case hl => (simp;done));(exact (rfl:_=[_, _, _, _, _])))|(apply iZ;rfl;rfl;rfl;(assumption);(rfl)))|(apply aM;first|apply aH|apply aB|(apply aQ;rfl;all_goals intro hc;have hq:=hc;(try simp only [cJ] at hq);try exfalso;omega)|apply aK|apply aT)|with_reducible apply aA)
   generalize hcf : yI ts pts (i : Int).toNat ((u.drop (i * 6)).take 6) = a at hcl
   have hcf' : yI ts pts i (fP u i) = a := hcf
   have hasnd : ∀ k, e8 pts i k → ∀ v, v < 6 → LO ts pts k v a[v]! := fun k e v hv => by rw [← hcf']; exact CC w hS2 e hv
   refine bB (σ := Nat × (List Nat × Bool)) [0, 3, 7, 22, 23, 24, 37, 38] [(0, _), (3, _), (7, _), (22, _), (23, _), (24, _), (37, _), (38, _)] [2] [(2, some _)] (fun j => [(39, iv (j.1 : Int)), (4, bv j.2.2)]) (fun j => [(0, some (aI cW j.2.1))]) (fun j => j.1 ≤ pts[i]!.next.length ∧ j.2 = ((u9 pts i).take j.1).foldl (vG a) (u, c) ∧ SF ts pts j.2.1) (fun j => pts[i]!.next.length - j.1) (0, (u, c)) ⟨by omega, rfl, hS2⟩ rfl rfl (by repeat' (first|exact trivial|refine And.intro rfl ?_)) (by repeat' (first|exact trivial|refine And.intro (.inr rfl) ?_)) ?_
   rintro ⟨j, u2, c2⟩ ⟨hj, hf2, hS3⟩
   dsimp only at hj hf2 hS3 ⊢
   have hul2 := hS3.1
   by_cases hjn : j < pts[i]!.next.length
   ·have hzz : 0 ≤ pts[i]!.next[j]! ∧ pts[i]!.next[j]! < pts.length := w.nx i hin _ (cM _ _ hjn)
    have hed : e8 pts i (pts[i]!.next[j]!).toNat := ⟨hin, by rw [Int.toNat_of_nonneg hzz.1]; exact cM _ _ hjn⟩
    have hap := hasnd _ hed
    have hasm : ∀ z : Nat, Sm a[z]! := by
     intro z
     by_cases hz : z < 6
     ·exact ⟨Nat.lt_of_lt_of_le (hap z hz).1 (Nat.pow_le_pow_right (by decide) (by omega))⟩
     ·rw [getElem!_neg a z (by rw [hcl]; exact hz)]; exact ⟨by decide⟩
    repeat' (first|(apply aL;first|(apply aE;rfl;rfl)|(first|(apply aN;rfl;rfl;rfl;rfl)|(apply kK;rfl;rfl;(assumption);rfl;rfl))|(apply aU;rfl;rfl;rfl;rfl)|(apply aC;rfl;rfl)|(apply a7;(case hx|hi => rfl);(case hm => (assumption));(case hml => (rfl));(case hα | hf|hg => infer_instance);(case hN => rfl))|(apply aF;kernel_rfl))|(apply aM;first|apply aH|apply aB|(apply aQ;rfl;all_goals intro hc;have hq:=hc;(try simp only [cJ] at hq);try exfalso;omega)|apply aK|apply aT)|with_reducible apply aA)
    refine bB (σ := Nat × (List Nat × Bool)) [0, 3, 7, 9, 22, 23, 24, 37, 38, 39, 43] [(0, _), (3, _), (7, _), (9, _), (22, _), (23, _), (24, _), (37, _), (38, _), (39, _), (43, _)] [2] [(2, some _)] (fun v => [(44, iv (v.1 : Int)), (4, bv v.2.2)]) (fun v => [(0, some (aI cW v.2.1))]) (fun v => v.1 ≤ 6 ∧ v.2 = (List.range v.1).foldl (pP a (pts[i]!.next[j]!).toNat) (u2, c2) ∧ SF ts pts v.2.1) (fun v => 6 - v.1) (0, (u2, c2)) ⟨by omega, rfl, hS3⟩ rfl rfl (by repeat' (first|exact trivial|refine And.intro rfl ?_)) (by repeat' (first|exact trivial|refine And.intro (.inr rfl) ?_)) ?_
    rintro ⟨v, u3, c3⟩ ⟨hv, hf3, hS4⟩
    dsimp only at hv hf3 hS4 ⊢
    have hul3 := hS4.1
    have hsm3 : ∀ z : Nat, Sm u3[z]! := JJ w hS4
    by_cases hvn : v < 6
    ·have hlaw := A4 (gG w hed) hap u3 c3 v hvn hS4
     repeat' (first|(apply aL;first|(apply aE;rfl;rfl)|(apply pO;rfl;rfl;(exact MH);(omega);rfl)|(first|(apply gR;rfl;rfl;infer_instance;infer_instance;infer_instance;rfl)|(apply bS;rfl;rfl;omega;rfl)|(apply aU;rfl;rfl;rfl;rfl))|(apply aC;rfl;rfl)|(first|(apply cQ;rfl;rfl;(assumption);rfl)|(apply jC;rfl;rfl;(omega);rfl;rfl))|(apply aF;kernel_rfl)|(apply Cu;rfl;rfl;(assumption);omega;rfl)|(apply aW;rfl;rfl;rfl;rfl;rfl;(rw [aP]; simp only [gH] <;> omega);(exact FV (by (omega)))))|(apply aM;first|apply aH|apply aB|(apply bV;kernel_rfl)|(apply aQ;rfl;all_goals intro hc;have hq:=hc;(try simp only [cJ] at hq);try exfalso;omega)|apply aK|apply aT)|with_reducible apply aA|with_reducible apply aX)
     ·have hne : nZ u3[(pts[i]!.next[j]!).toNat * 6 + v]! a[v]! ≠ u3[(pts[i]!.next[j]!).toNat * 6 + v]! := fun h => hq (congrArg Int.ofNat h)
      have e1 : pP a (pts[i]!.next[j]!).toNat (u3, c3) v = (u3.set ((pts[i]!.next[j]!).toNat * 6 + v) (nZ u3[(pts[i]!.next[j]!).toNat * 6 + v]! a[v]!), true) := y1 hne
      rw [e1] at hlaw
      (apply dK (v + 1, (_, true));focus (refine Le.ren [(0, 0), (2, 2)] rfl (by decide) ?_ ?_ <;> repeat' (first|exact trivial|refine And.intro ⟨_, rfl, ?_⟩ ?_|refine And.intro ⟨_, _, rfl, rfl, ?_⟩ ?_|exact Or.inr rfl|refine Or.inl ⟨?_, (by first|rfl|exact aY _ _|exact Pur.pf)⟩|rfl)))
      ·dsimp only
       refine ⟨by omega, ?_, hlaw.1⟩
       rw [wE, ← hf3, e1]; rfl
      ·dsimp only;omega
     ·have hne : nZ u3[(pts[i]!.next[j]!).toNat * 6 + v]! a[v]! = u3[(pts[i]!.next[j]!).toNat * 6 + v]! := Int.ofNat.inj hq
      have e1 : pP a (pts[i]!.next[j]!).toNat (u3, c3) v = (u3, c3) := yS hne
      (apply dK (v + 1, (u3, c3));focus (refine Le.ren [(0, 0), (2, 2)] rfl (by decide) ?_ ?_ <;> repeat' (first|exact trivial|refine And.intro ⟨_, rfl, ?_⟩ ?_|refine And.intro ⟨_, _, rfl, rfl, ?_⟩ ?_|exact Or.inr rfl|refine Or.inl ⟨?_, (by first|rfl|exact aY _ _|exact Pur.pf)⟩|rfl)))
      ·dsimp only
       refine ⟨by omega, ?_, hS4⟩
       rw [wE, ← hf3, e1]
      ·dsimp only;omega
    ·have hv6 : v = 6 := by omega
     subst hv6
     repeat' (first|(apply aL;first|(apply aE;rfl;rfl)|(first|(apply bS;rfl;rfl;omega;rfl)|(apply aU;rfl;rfl;rfl;rfl))|(apply aF;kernel_rfl))|(apply aM;first|apply aH|apply aB|(apply cG;rfl;(rfl))|apply bK)|with_reducible apply aA|with_reducible apply bJ|with_reducible apply aX|with_reducible apply bO)
     (apply dK (j + 1, (u3, c3));focus (refine Le.ren [(0, 0), (2, 2)] rfl (by decide) ?_ ?_ <;> repeat' (first|exact trivial|refine And.intro ⟨_, rfl, ?_⟩ ?_|refine And.intro ⟨_, _, rfl, rfl, ?_⟩ ?_|exact Or.inr rfl|refine Or.inl ⟨?_, (by first|rfl|exact aY _ _|exact Pur.pf)⟩|rfl)))
     ·dsimp only
      refine ⟨by omega, ?_, hS4⟩
      rw [Dy hjn, ← hf2, hf3]; rfl
     ·dsimp only;omega
   ·repeat' (first | (apply aL; first | (apply aE;rfl;rfl) | (first | (apply bS;rfl;rfl;omega;rfl) | (apply aU;rfl;rfl;rfl;rfl)) | (apply aF;kernel_rfl)) | (apply aM; first | apply aH | apply aB | (apply aQ;rfl;all_goals intro hc;have hq:=hc;(try simp only [cJ] at hq);try exfalso;omega) | apply bK) | with_reducible apply aA | with_reducible apply bJ | with_reducible apply aX | with_reducible apply bO)
    (apply dK (i + 1, (u2, c2));focus (refine Le.ren [(0, 0)] rfl (by decide) ?_ ?_ <;> repeat' (first|exact trivial|refine And.intro ⟨_, rfl, ?_⟩ ?_|refine And.intro ⟨_, _, rfl, rfl, ?_⟩ ?_|exact Or.inr rfl|refine Or.inl ⟨?_, (by first|rfl|exact aY _ _|exact Pur.pf)⟩|rfl)))
    ·dsimp only
     refine ⟨by omega, ?_, hS3⟩
     rw [fD, ← hf, hf2, List.take_of_length_le (by rw [lH]; omega), ← hcf']; rfl
    ·dsimp only;omega
  ·repeat' (first | (apply aL; first | (apply aU;rfl;rfl;rfl;rfl) | (apply aF;kernel_rfl)) | (apply aM; first | apply aH | apply aB | (apply aQ;rfl;all_goals intro hc;have hq:=hc;(try simp only [cJ] at hq);try exfalso;omega) | apply bK) | with_reducible apply aA | with_reducible apply bJ | with_reducible apply aX | with_reducible apply bO)
   have law := F8 w s false hS
   have hfull : (u, c) = GW ts pts (s, false) := by
    rw [hf, show i = pts.length by omega]; rfl
   rw [← hfull] at law
   (apply dK (u, c);focus (refine Le.ren [(0, 0)] rfl (by decide) ?_ ?_ <;> repeat' (first|exact trivial|refine And.intro ⟨_, rfl, ?_⟩ ?_|refine And.intro ⟨_, _, rfl, rfl, ?_⟩ ?_|exact Or.inr rfl|refine Or.inl ⟨?_, (by first|rfl|exact aY _ _|exact Pur.pf)⟩|rfl)))
   ·dsimp only
    refine ⟨hS2, fun h => ?_⟩
    rcases law.2 with ⟨e1, e2⟩ | ⟨e1, _⟩
    ·cases e1;exact e2
    ·dsimp only at e1;rw [h] at e1;cases e1
   ·dsimp only
    have hb : b = true := by assumption
    subst hb
    rcases law.2 with ⟨e1, e2⟩ | ⟨e1, e2⟩
    ·cases e1;simp
    ·dsimp only at e1 e2;subst e1;omega
 ·have hb : b = false := by assumption
  refine cD (Le.frzD (d := 2) (i := 0) rfl rfl) ?_
  refine aO rfl ⟨?_, (by (exact aY _ _))⟩
  simp only [b0]
  rw [DE hA (Gd w hS (hC hb))]
theorem KI (ts : List Int) (bd : List AL.Stmt) (pts : List Pnt) (i : Int) (lv : Nat) (f : List Nat) (w : WG ts pts) (hi : 0 ≤ i ∧ i < pts.length) (hlv : lv < 2 ^ ts.length) (hf : f.length = 6) (hs : ∀ z : Nat, Sm f[z]!) : PC Tryz.prog 170 [aG ts bd pts, iv i, iv (lv : Int), .agg (aI cW f)] (fun r => r = .v (.int .u64 (vR ts pts[i.toNat]! lv f : Nat))) := by
 have hpl := w.pl
 have htl := w.tl
 have hin : i.toNat < pts.length := by omega
 have hst := (w.set i.toNat hin)
 have hsl : Sm lv := ⟨Nat.lt_of_lt_of_le hlv (Nat.pow_le_pow_right (by decide) (by omega))⟩
 have hT : Sm (wS ts pts[i.toNat]! [2]) := dH (by omega)
 have hB : Sm (iY pts[i.toNat]!) := rX (by omega)
 have hbl := dW (nI lv (wS ts pts[i.toNat]! [2] ||| iY pts[i.toNat]!))
 have hlt : nI lv (wS ts pts[i.toNat]! [2] ||| iY pts[i.toNat]!) < 2 ^ ts.length := Nat.xor_lt_two_pow hlv (Nat.lt_of_le_of_lt Nat.and_le_left hlv)
 (refine aS Tryz.func170 rfl (by simp [Tryz.ntmps170]) ?_; rw [Tryz.ntmps170])
 repeat' (first|(apply aL;first|(apply aE;rfl;rfl)|(first|(apply aN;rfl;rfl;rfl;rfl)|(apply aV;rfl;rfl;(exact (rfl:_=[_, _, _, _, _]));rfl;rfl;rfl))|(apply aD;rfl;rfl;rfl)|(first|(apply gR;rfl;rfl;infer_instance;infer_instance;infer_instance;rfl)|(apply oJ;rfl;rfl;infer_instance;infer_instance;infer_instance;rfl))|(apply aC;rfl;rfl)|(apply cL;(case hx|hi => rfl);(case hm => (assumption));(case hml => (rfl));(case hα | hf|hg => infer_instance);(case hN => rfl))|(first|((with_reducible apply aJ (k := 119));(case ha => rfl);(case h => (apply iP <;> (infer_instance)));(case hp => (rfl));(case hN => rfl))|((with_reducible apply aJ (k := 205));(case ha => rfl);(case h => (apply rF <;> (assumption)));(case hp => (exact Pur.pf));(case hN => rfl))|((with_reducible apply aJ (k := 212));(case ha => rfl);(case h => (apply o9 <;> (omega)));(case hp => (exact Pur.pf));(case hN => rfl)))|(apply bI;rfl;rfl;rfl)|(apply aF;kernel_rfl)|(apply cA;rfl;rfl;rfl)|(apply bH;rfl;rfl;rfl;rfl)|(apply a6;rfl;rfl)|(apply aW;rfl;rfl;rfl;rfl;rfl;(case hl => (simp;done));(exact (rfl:_=[_, _, _, _, _]))))|(apply aM;first|apply aH|apply aB|(apply bV;kernel_rfl)|apply aK)|with_reducible apply aA)
 refine bB (σ := Nat × Nat) [7, 28, 29] [(7, _), (28, _), (29, _)] [0] [(0, some _)] (fun k => [(30, iv (k.1 : Int)), (10, .v (.int .u64 (k.2 : Int)))]) (fun k => []) (fun k => k.1 ≤ (cR (nI lv (wS ts pts[i.toNat]! [2] ||| iY pts[i.toNat]!))).length ∧ k.2 = Lw f ((cR (nI lv (wS ts pts[i.toNat]! [2] ||| iY pts[i.toNat]!))).take k.1) 0 ∧ Sm k.2) (fun k => (cR (nI lv (wS ts pts[i.toNat]! [2] ||| iY pts[i.toNat]!))).length - k.1) (0, 0) ⟨by omega, rfl, inferInstance⟩ rfl rfl (by repeat' (first|exact trivial|refine And.intro rfl ?_)) (by repeat' (exact trivial)) ?_
 rintro ⟨k, a⟩ ⟨hk, ha, hsa⟩
 dsimp only at hk ha hsa ⊢
 have hbb : k < (cR (nI lv (wS ts pts[i.toNat]! [2] ||| iY pts[i.toNat]!))).length → 0 ≤ (cR (nI lv (wS ts pts[i.toNat]! [2] ||| iY pts[i.toNat]!)))[k]! ∧ (cR (nI lv (wS ts pts[i.toNat]! [2] ||| iY pts[i.toNat]!)))[k]! < ts.length := fun h => mJ hlt h
 repeat' (first|(apply aL;first|(apply aE;rfl;rfl)|(first|(apply eF;(case hx|hH => rfl);(case hf|hg|hα => infer_instance);(case hk => omega);(case hc|hN => rfl))|(apply aN;rfl;rfl;rfl;rfl))|(first|(apply gR;rfl;rfl;infer_instance;infer_instance;infer_instance;rfl)|(apply bS;rfl;rfl;omega;rfl)|(apply aU;rfl;rfl;rfl;rfl))|(apply aC;rfl;rfl)|(first|(apply a7;(case hx|hi => rfl);(case hm => (omega));(case hml => (rfl));(case hα | hf|hg => infer_instance);(case hN => rfl))|(apply jC;rfl;rfl;(omega);rfl;rfl))|(apply aF;kernel_rfl))|(apply aM;first|apply aH|apply aB|(apply aQ;rfl;all_goals intro hc;have hq:=hc;(try simp only [cJ] at hq);try exfalso;omega)|apply aK|apply aT|apply bK|apply aR)|with_reducible apply aA|with_reducible apply bJ|with_reducible apply aX|with_reducible apply bO)
 ·(apply dK (k + 1, _); focus (refine Le.ren [(0, 0)] rfl (by decide) ?_ ?_ <;> repeat' (first | exact trivial | refine And.intro ⟨_, rfl, ?_⟩ ?_ | refine And.intro ⟨_, _, rfl, rfl, ?_⟩ ?_ | exact Or.inr rfl | refine Or.inl ⟨?_, (by first | rfl | exact aY _ _)⟩ | rfl)))
  ·dsimp only
   refine ⟨by omega, ?_, inferInstance⟩
   rw [ha]; unfold Lw;rw [fI _ _ _ _ (by omega)]
  ·dsimp only;omega
 ·refine aO rfl ⟨?_, rfl⟩
  simp only [b0]
  rw [ha, List.take_of_length_le (by omega)]; rfl
theorem Bu (ts : List Int) (bd : List AL.Stmt) (pts : List Pnt) (x : Pnt) (mb : Nat) (htl : ts.length ≤ 6) (hmb : Sm mb) (hst : bT x < ts.length) (hy : 0 ≤ x.y ∧ (3 ≤ x.op → x.op ≤ 7 → x.y < ts.length)) : PC Tryz.prog 213 [aG ts bd pts, fQ x, iv (mb : Int)] (fun r => r = sl Je (kE ts x (mb.testBit (bT x).toNat))) := by
 (refine aS Tryz.func213 rfl (by simp [Tryz.ntmps213]) ?_; rw [Tryz.ntmps213])
 repeat' (first|(apply aL;first|((apply fM (d := 7) (e := 2));(case hM|hN => rfl))|(apply aE;rfl;rfl)|(first|(apply aN;rfl;rfl;rfl;rfl)|(apply aV;rfl;rfl;(exact (rfl:_=[_, _, _, _, _]));rfl;rfl;rfl))|(apply aD;rfl;rfl;rfl)|(first|(apply a8;rfl;rfl;rfl;(assumption))|(apply bC;rfl;rfl;rfl;(first|rfl|assumption))|(apply bR;(case hj|hb|hN => rfl);all_goals (intro hg;have hq := hg;(try simp only [cJ] at hq);(try (exfalso;omega)))))|(first|(apply o6;rfl;rfl;infer_instance;infer_instance;rfl)|(apply oW;rfl;rfl;infer_instance;infer_instance;omega;rfl)|(apply aU;rfl;rfl;rfl;rfl))|(apply aC;rfl;rfl)|(first|(apply bY;rfl;(assumption);rfl;rfl)|(apply bQ;rfl;(first|rfl|assumption);rfl;rfl))|(apply cL;(case hx|hi => rfl);(case hm => (omega));(case hml => (rfl));(case hα | hf|hg => infer_instance);(case hN => rfl))|(first|((with_reducible apply aJ (k := 131));(case ha => rfl);(case h => (apply yU <;> (omega)));(case hp => (exact Pur.pf));(case hN => rfl))|((with_reducible apply aJ (k := 206));(case ha => rfl);(case h => (apply xS <;> (fail)));(case hp => (exact Pur.pf));(case hN => rfl)))|(apply bW;rfl;rfl;rfl;rfl;rfl;(case hl => (simp [aP]; done));(rfl);omega;omega;(first|exact (rfl:_=[_, _])|exact (rfl:_=[_, _, _, _]));rfl;rfl)|(apply aF;kernel_rfl)|(apply b8;rfl;(exact (rfl:_=some [_, _]));(exact (rfl:_=[_, _]));rfl)|(apply cA;rfl;rfl;rfl)|(apply bH;rfl;rfl;rfl;rfl)|(apply bZ;rfl;rfl;rfl;(exact (rfl:_=some [_, _]));rfl;rfl))|(apply aM;first|apply aH|apply aB|(apply cB;rfl;(assumption))|(apply cG;rfl;(rfl))|(apply aQ;rfl;all_goals intro hc;have hq:=hc;(try simp only [cJ] at hq);try exfalso;omega)|apply aK|apply aT|apply aR)|with_reducible apply aA|with_reducible apply aX)
 all_goals first|refine cD (Le.frzD (d := 6) (i := 1) rfl rfl) ?_|refine cD (Le.frzD (d := 6) (i := 3) rfl rfl) ?_|refine cD (Le.frzD (d := 6) (i := 5) rfl rfl) ?_
 all_goals refine aO rfl ⟨?_, (by (rfl))⟩
 all_goals simp only [b0, kE]
 all_goals have h1 := l6 mb (bT x).toNat
 all_goals (try (rw [if_neg (show ¬ (0 ≤ bT x ∧ ts[(bT x).toNat]! = 2 ∧ mb.testBit (bT x).toNat = true) from fun h => by omega)]))
 all_goals (simp_all <;> rfl)
theorem DY (ts : List Int) (bd : List AL.Stmt) (pts : List Pnt) (i : Int) (mb loans : Nat) (w : WG ts pts) (hi : 0 ≤ i ∧ i < pts.length) (hmb : Sm mb) (hlo : loans < 2 ^ pts.length) : PC Tryz.prog 169 [aG ts bd pts, iv i, iv (mb : Int), .v (.int .u64 (loans : Int))] (fun r => r = .v (.int .u64 (Hy pts loans (kE ts pts[i.toNat]! (mb.testBit (bT pts[i.toNat]!).toNat)) 0 : Nat))) := by
 have hpl := w.pl
 have htl := w.tl
 have hin : i.toNat < pts.length := by omega
 have hst := (w.set i.toNat hin).1
 have hy := w.y i.toNat hin
 have hx := w.x i.toNat hin
 have hop := w.op i.toNat hin
 have hlsm : Sm loans := ⟨Nat.lt_of_lt_of_le hlo (Nat.pow_le_pow_right (by decide) (by omega))⟩
 have hacc := xU (mb.testBit (bT pts[i.toNat]!).toNat) w hin
 have hal := G4 ts pts[i.toNat]! (mb.testBit (bT pts[i.toNat]!).toNat)
 (refine aS Tryz.func169 rfl (by simp [Tryz.ntmps169]) ?_; rw [Tryz.ntmps169])
 repeat' (first|(apply aL;first|(apply aE;rfl;rfl)|(first|(apply aN;rfl;rfl;rfl;rfl)|(apply aV;rfl;rfl;(exact (rfl:_=[_, _, _, _, _]));rfl;rfl;rfl))|(apply aD;rfl;rfl;rfl)|(apply aC;rfl;rfl)|(apply cL;(case hx|hi => rfl);(case hm => (assumption));(case hml => (rfl));(case hα | hf|hg => infer_instance);(case hN => rfl))|((with_reducible apply aJ (k := 213));(case ha => rfl);(case h => (apply Bu <;> (assumption)));(case hp => (exact Pur.pf));(case hN => rfl))|(apply bI;rfl;rfl;rfl)|(apply aF;kernel_rfl)|(apply cA;rfl;rfl;rfl))|(apply aM;first|apply aH|apply aB|apply aK)|with_reducible apply aA)
 generalize kE ts pts[i.toNat]! (mb.testBit (bT pts[i.toNat]!).toNat) = acs at hacc hal
 refine bB (σ := Nat × Nat) [0, 3, 23, 24] [(0, _), (3, _), (23, _), (24, _)] [] [] (fun k => [(25, iv (k.1 : Int)), (9, .v (.int .u64 (k.2 : Int)))]) (fun k => []) (fun k => k.1 ≤ acs.length ∧ k.2 = Hy pts loans (acs.take k.1) 0 ∧ k.2 < 2 ^ pts.length) (fun k => acs.length - k.1) (0, 0) ⟨by omega, rfl, Nat.pow_pos (by decide)⟩ rfl rfl (by repeat' (first|exact trivial|refine And.intro rfl ?_)) (by repeat' (exact trivial)) ?_
 rintro ⟨k, a⟩ ⟨hk, ha, hab⟩
 dsimp only at hk ha hab ⊢
 by_cases hkn : k < acs.length
 ·have hcv := hacc _ (cM acs k hkn)
  have hof : ∀ V, Sm (qV pts V) := fun V => Hg w V
  have hll := dW (loans &&& qV pts (2 ^ (acs[k]!.var).toNat))
  have hlb : loans &&& qV pts (2 ^ (acs[k]!.var).toNat) < 2 ^ pts.length := Nat.lt_of_le_of_lt Nat.and_le_left hlo
  have htk := fI (fun a c => HW pts c.write (cR (loans &&& qV pts (2 ^ c.var.toNat))) a) acs 0 k hkn
  repeat' (first|(apply aL;first|(apply aE;rfl;rfl)|(first|(apply aN;rfl;rfl;rfl;rfl)|(apply aV;rfl;rfl;(exact (rfl:_=[_, _]));rfl;rfl;rfl))|(apply aD;rfl;rfl;rfl)|(first|(apply yE;rfl;rfl;infer_instance;infer_instance;infer_instance;rfl)|(apply iU;rfl;rfl;infer_instance;omega;rfl;(case' kk => intro hsm))|(apply aU;rfl;rfl;rfl;rfl))|(apply a7;(case hx|hi => rfl);(case hm => (assumption));(case hml => (rfl));(case hα | hf|hg => infer_instance);(case hN => rfl))|(first|((with_reducible apply aJ (k := 168));(case ha => rfl);(case h => (apply tW <;> (infer_instance)));(case hp => (rfl));(case hN => rfl))|((with_reducible apply aJ (k := 211));(case ha => rfl);(case h => (apply zD <;> (assumption)));(case hp => (exact Pur.pf));(case hN => rfl)))|(apply bI;rfl;rfl;rfl)|(apply aF;kernel_rfl)|(apply a6;rfl;rfl)|(apply aW;rfl;rfl;rfl;rfl;rfl;(case hl => (simp;done));(exact (rfl:_=[_, _]))))|(apply aM;first|apply aH|apply aB|(apply aQ;rfl;all_goals intro hc;have hq:=hc;(try simp only [cJ] at hq);try exfalso;omega)|apply aK|apply aT)|with_reducible apply aA)
  refine bB (σ := Nat × Nat) [0, 3, 11, 23, 24, 25, 36, 37] [(0, _), (3, _), (11, _), (23, _), (24, _), (25, _), (36, _), (37, _)] [0] [(0, some _)] (fun j => [(38, iv (j.1 : Int)), (9, .v (.int .u64 (j.2 : Int)))]) (fun j => []) (fun j => j.1 ≤ (cR (loans &&& qV pts (2 ^ (acs[k]!.var).toNat))).length ∧ j.2 = HW pts acs[k]!.write ((cR (loans &&& qV pts (2 ^ (acs[k]!.var).toNat))).take j.1) a ∧ j.2 < 2 ^ pts.length) (fun j => (cR (loans &&& qV pts (2 ^ (acs[k]!.var).toNat))).length - j.1) (0, a) ⟨by omega, rfl, hab⟩ rfl rfl (by repeat' (first|exact trivial|refine And.intro rfl ?_)) (by repeat' (exact trivial)) ?_
  rintro ⟨j, b⟩ ⟨hj, hb, hbb⟩
  dsimp only at hj hb hbb ⊢
  have hbsm : Sm b := ⟨Nat.lt_of_lt_of_le hbb (Nat.pow_le_pow_right (by decide) (by omega))⟩
  by_cases hjn : j < (cR (loans &&& qV pts (2 ^ (acs[k]!.var).toNat))).length
  ·have hlz := mJ hlb hjn
   have hstep : HW pts acs[k]!.write ((cR (loans &&& qV pts (2 ^ (acs[k]!.var).toNat))).take (j + 1)) a = if acs[k]!.write = true ∨ pts[((cR (loans &&& qV pts (2 ^ (acs[k]!.var).toNat)))[j]!).toNat]!.op = 5 then b ||| 2 ^ ((cR (loans &&& qV pts (2 ^ (acs[k]!.var).toNat)))[j]!).toNat else b := by
    rw [hb]; unfold HW;rw [fI _ _ _ _ hjn]
   have hb2 : b ||| 2 ^ ((cR (loans &&& qV pts (2 ^ (acs[k]!.var).toNat)))[j]!).toNat < 2 ^ pts.length := Nat.or_lt_two_pow hbb (Nat.pow_lt_pow_right (by decide) (by omega))
   repeat' (first|(apply aL;first|(apply aE;rfl;rfl)|(apply aN;rfl;rfl;rfl;rfl)|(apply aD;rfl;rfl;rfl)|(first|(apply a8;rfl;rfl;rfl;(assumption))|(apply bC;rfl;rfl;rfl;(assumption))|(apply bR;(case hj|hb|hN => rfl);all_goals (intro hg;have hq := hg;(try simp only [cJ] at hq);(try (exfalso;omega)))))|(first|(apply gR;rfl;rfl;infer_instance;infer_instance;infer_instance;rfl)|(apply iU;rfl;rfl;infer_instance;omega;rfl;(case' kk => intro hsm))|(apply bS;rfl;rfl;omega;rfl)|(apply aU;rfl;rfl;rfl;rfl))|(apply aC;rfl;rfl)|(first|(apply bY;rfl;(assumption);rfl;rfl)|(apply bQ;rfl;(assumption);rfl;rfl))|(first|(apply a7;(case hx|hi => rfl);(case hm => (assumption));(case hml => (rfl));(case hα | hf|hg => infer_instance);(case hN => rfl))|(apply cL;(case hx|hi => rfl);(case hm => (assumption));(case hml => (rfl));(case hα | hf|hg => infer_instance);(case hN => rfl)))|(apply aF;kernel_rfl)|(apply cA;rfl;rfl;rfl))|(apply aM;first|apply aH|apply aB|(apply cB;rfl;(rfl))|(apply aQ;rfl;all_goals intro hc;have hq:=hc;(try simp only [cJ] at hq);try exfalso;omega)|apply aK|apply aT)|with_reducible apply aA|with_reducible apply aX)
   all_goals first
    | ((apply Exists.intro (j + 1, b ||| 2 ^ ((cR (loans &&& qV pts (2 ^ (acs[k]!.var).toNat)))[j]!).toNat); refine And.intro ?_ (And.intro ?_ ?_); rotate_left 2; focus (refine Le.ren [(0, 0)] rfl (by decide) ?_ ?_ <;> repeat' (first | exact trivial | refine And.intro ⟨_, rfl, ?_⟩ ?_ | refine And.intro ⟨_, _, rfl, rfl, ?_⟩ ?_ | exact Or.inr rfl | refine Or.inl ⟨?_, (by first | rfl | exact aY _ _ | exact Pur.pf)⟩ | rfl)))
       ·dsimp only
        refine ⟨by omega, ?_, hb2⟩
        rw [hstep, if_pos (by first|exact .inl (by assumption)|exact .inr (by assumption))]
       ·dsimp only;omega)
    | ((apply dK (j + 1, b); focus (refine Le.ren [(0, 0)] rfl (by decide) ?_ ?_ <;> repeat' (first | exact trivial | refine And.intro ⟨_, rfl, ?_⟩ ?_ | refine And.intro ⟨_, _, rfl, rfl, ?_⟩ ?_ | exact Or.inr rfl | refine Or.inl ⟨?_, (by first | rfl | exact aY _ _ | exact Pur.pf)⟩ | rfl)))
       ·dsimp only
        refine ⟨by omega, ?_, hbb⟩
        rw [hstep, if_neg (fun h => h.elim (fun h1 => Bool.noConfusion (h1.symm.trans (by assumption : acs[k]!.write = false))) (fun h2 => absurd h2 (by assumption)))]
       ·dsimp only;omega)
  ·repeat' (first | (apply aL; first | (apply aE;rfl;rfl) | (first | (apply bS;rfl;rfl;omega;rfl) | (apply aU;rfl;rfl;rfl;rfl)) | (apply aF;kernel_rfl)) | (apply aM; first | apply aH | apply aB | (apply aQ;rfl;all_goals intro hc;have hq:=hc;(try simp only [cJ] at hq);try exfalso;omega) | apply bK) | with_reducible apply aA | with_reducible apply bJ | with_reducible apply aX | with_reducible apply bO)
   (apply dK (k + 1, b);focus (refine Le.ren [] rfl (by decide) ?_ ?_ <;> repeat' (first|exact trivial|refine And.intro ⟨_, rfl, ?_⟩ ?_|refine Or.inl ⟨?_, (by first|rfl|exact aY _ _|exact Pur.pf)⟩|rfl)))
   ·dsimp only
    refine ⟨by omega, ?_, hbb⟩
    rw [hb, List.take_of_length_le (by omega), ha]; unfold Hy;rw [htk]
   ·dsimp only;omega
 ·repeat' (first | (apply aL; first | (apply aE;rfl;rfl) | (apply aU;rfl;rfl;rfl;rfl) | (apply aC;rfl;rfl) | (apply aF;kernel_rfl)) | (apply aM; first | apply aH | apply aB | (apply aQ;rfl;all_goals intro hc;have hq:=hc;(try simp only [cJ] at hq);try exfalso;omega) | apply bK | apply aR) | with_reducible apply aA | with_reducible apply bJ | with_reducible apply bO)
  refine aO rfl ⟨?_, rfl⟩
  simp only [b0]
  rw [ha, List.take_of_length_le (by omega)]
theorem D6 (n : Nat) (A : List Nat) (i : Int) (hA : A.length = n * 6) (hi : 0 ≤ i ∧ i < n) : PC Tryz.prog 104 [iv i, .iptr [.imm n (aI cW A)]] (fun r => r = .agg (aI cW (fP A i.toNat))) := by
 have h6 : ((A.drop (i.toNat * 6)).take 6).length = 6 := iF hA (by omega)
 (refine aS Tryz.func104 rfl (by simp [Tryz.ntmps104]) ?_; rw [Tryz.ntmps104])
 repeat' (first|(apply aL;first|(apply aE;rfl;rfl)|(first|(apply aN;rfl;rfl;rfl;rfl)|(apply Ar;rfl;(simp only [gH, List.length_drop] <;> omega);rfl;rfl))|(apply BK;rfl;rfl;(omega);rfl)|(apply aF;kernel_rfl)|(apply a6;rfl;rfl)|(apply iZ;rfl;rfl;rfl;(assumption);(rfl)))|(apply aM;first|apply aH|apply aB|apply aR)|with_reducible apply aA)
 refine aO (nW (z := 6) rfl rfl h6 (by decide)) ⟨rfl, (by (exact aY _ _))⟩
theorem I8 (ts : List Int) (bd : List AL.Stmt) (pts : List Pnt) (Aa Am Al Af Ap : List Nat) (n : Nat) (w : WG ts pts) (ga : tE ts pts Aa) (gm : sF ts pts Am) (gl : wG ts pts Al) (gf : wR ts pts Af) (gp : wA ts pts Ap) (hn : n = pts.length) :
  PC Tryz.prog 102 [aG ts bd pts, .imm n (aI cN Al), .clos (.func 104) [] [.iptr [.imm n (aI cW Af)]]] (fun r => r = sl pK (qZ ts pts Aa Am Al Af Ap pts.length)) := by
 subst hn
 have hpl := w.pl
 have htl := w.tl
 have hla := ga.1
 have hlm := gm.1
 have hll := gl.1
 have hlf := gf.1
 have hlp := gp.1
 (refine aS Tryz.func102 rfl (by simp [Tryz.ntmps102]) ?_; rw [Tryz.ntmps102])
 repeat' (first|(apply aL;first|((apply fM (d := 10) (e := 3));(case hM|hN => rfl))|(apply aE;rfl;rfl)|(apply aN;rfl;rfl;rfl;rfl)|(apply aD;rfl;rfl;rfl)|(apply aC;rfl;rfl)|(first|((with_reducible apply aJ (k := 165));(case ha => rfl);(case h => (apply EU <;> (assumption)));(case hp => (exact Pur.pf));(case hN => rfl))|((with_reducible apply aJ (k := 166));(case ha => rfl);(case h => (apply Jh <;> (assumption)));(case hp => (exact Pur.pf));(case hN => rfl))|((with_reducible apply aJ (k := 167));(case ha => rfl);(case h => (apply GH <;> (assumption)));(case hp => (exact Pur.pf));(case hN => rfl)))|(apply bI;rfl;rfl;rfl)|(apply aF;kernel_rfl)|(apply cA;rfl;rfl;rfl))|(apply aM;first|apply aH|apply aB|apply aK)|with_reducible apply aA)
 refine bB (σ := Nat × List Iss × Nat) [0, 1, 2, 7, 8, 9, 27, 28] [(0, _), (1, _), (2, _), (7, _), (8, _), (9, _), (27, _), (28, _)] [] [] (fun k => [(29, iv (k.1 : Int)), (10, .own 0 0 k.2.2 3)]) (fun k => [(0, some (aI pK k.2.1))]) (fun k => k.1 ≤ pts.length ∧ k.2.1 = qZ ts pts Aa Am Al Af Ap k.1 ∧ k.2.2 = k.2.1.length ∧ k.2.2 ≤ k.1 * 124) (fun k => pts.length - k.1) (0, [], 0) ⟨by omega, rfl, rfl, Nat.le_refl _⟩ rfl rfl (by repeat' (first|exact trivial|refine And.intro rfl ?_)) (by repeat' (first|exact trivial|refine And.intro (.inr rfl) ?_)) ?_
 rintro ⟨i, u, m⟩ ⟨hk, hu, hm, hmk⟩
 dsimp only at hk hu hm hmk ⊢
 by_cases hin : i < pts.length
 ·have hst := w.set i hin
  have hsU : Sm (wS ts pts[i]! [1, 2, 3]) := dH (by omega)
  have bl : ∀ {A : Nat} {n : Nat}, n ≤ 62 → (∀ v, A.testBit v = true → v < n) → A < 2 ^ n := fun _ hv => Nat.lt_pow_two_of_testBit _ fun v h => by
   cases hq : Nat.testBit _ v with
   | false => rfl
   | true => have := hv v hq;omega
  have hAa : Sm Aa[i]! := ⟨bl (n := 62) (by omega) fun v hv => by have := ((ga.2 i hin v).1 hv).1;omega⟩
  have hAm : Sm Am[i]! := ⟨bl (n := 62) (by omega) fun v hv => by have := FQ w ((gm.2 i hin v).1 hv);dsimp only at this;omega⟩
  have hAl : Al[i]! < 2 ^ ts.length := bl (by omega) fun v hv => by obtain ⟨k, _, h⟩ := (gl.2 i hin v).1 hv;exact sS w h
  have hAl2 : Sm Al[i]! := ⟨Nat.lt_of_lt_of_le hAl (Nat.pow_le_pow_right (by decide) (by omega))⟩
  have hAp : Ap[i]! < 2 ^ pts.length := bl (by omega) fun v hv => (uT ((gp.2 i hin v).1 hv)).1
  have hAp2 : Sm Ap[i]! := ⟨Nat.lt_of_lt_of_le hAp (Nat.pow_le_pow_right (by decide) (by omega))⟩
  have hrl := iF hlf hin
  have hrs : ∀ z : Nat, Sm (fP Af i)[z]! := by
   intro z
   by_cases hz : z < 6
   ·rw [iG hlf hin hz]
    exact ⟨bl (n := 62) (by omega) fun v hv => by have := (Ab w ((gf.2 i z hin hz v).1 hv)).2.2;dsimp only at this;omega⟩
   ·rw [getElem!_neg _ z (by rw [hrl]; exact hz)]; exact ⟨by decide⟩
  have hkp : vR ts pts[(i : Int).toNat]! Al[i]! (fP Af (i : Int).toNat) < 2 ^ pts.length := by
   refine bl (by omega) fun v hv => ?_
   unfold vR at hv
   rw [jG] at hv
   rcases hv with hv | ⟨z, hz, hv⟩
   ·simp at hv
   ·obtain ⟨q, h1, h2, rfl⟩ := dZ.1 hz
    rw [dS, Bool.and_eq_true] at h2
    have h3 := eA hAl h2.1
    have h4 : q < 6 := by omega
    have h5 : (fP Af i)[q]!.testBit v = true := hv
    rw [iG hlf hin h4] at h5
    exact (Ab w ((gf.2 i q hin h4 v).1 h5)).2.2
  have hkp2 : Sm (vR ts pts[(i : Int).toNat]! Al[i]! (fP Af (i : Int).toNat)) := ⟨Nat.lt_of_lt_of_le hkp (Nat.pow_le_pow_right (by decide) (by omega))⟩
  have hlo : vR ts pts[(i : Int).toNat]! Al[i]! (fP Af (i : Int).toNat) &&& Ap[i]! < 2 ^ pts.length := Nat.and_lt_two_pow _ hAp
  have hcf := BV w (Am := Am) (Al := Al) (Af := Af) (i := i) hAp
  have hcf2 : Sm (Eg ts pts Am Al Af Ap i) := ⟨Nat.lt_of_lt_of_le hcf (Nat.pow_le_pow_right (by decide) (by omega))⟩
  have hcf3 : Sm (Hy pts (vR ts pts[(i : Int).toNat]! Al[i]! (fP Af (i : Int).toNat) &&& Ap[i]!) (kE ts pts[(i : Int).toNat]! (Am[i]!.testBit (bT pts[(i : Int).toNat]!).toNat)) 0) := hcf2
  have hb1 := dW (nI (wS ts pts[i]! [1, 2, 3]) Aa[i]!)
  have hb2 := dW (Eg ts pts Am Al Af Ap i)
  repeat' (first|(apply aL;first|(apply aE;rfl;rfl)|(first|(apply aN;rfl;rfl;rfl;rfl)|(apply aV;rfl;rfl;(exact (rfl:_=[_, _, _, _, _]));rfl;rfl;rfl))|(first|(apply oJ;rfl;rfl;infer_instance;infer_instance;infer_instance;rfl)|(apply aU;rfl;rfl;rfl;rfl))|(apply aC;rfl;rfl)|(apply a7;(case hx|hi => rfl);(case hm => (assumption));(case hml => (first|rfl|omega));(case hα | hf|hg => infer_instance);(case hN => rfl))|(first|((with_reducible apply aJ (k := 119));(case ha => rfl);(case h => (apply iP <;> (infer_instance)));(case hp => (rfl));(case hN => rfl))|((with_reducible apply aJ (k := 120));(case ha => rfl);(case h => (apply jK <;> (assumption)));(case hp => (exact Pur.pf));(case hN => rfl)))|(apply bI;rfl;rfl;rfl)|(apply aF;kernel_rfl)|(apply a6;rfl;rfl)|(apply aW;rfl;rfl;rfl;rfl;rfl;(case hl => (simp;done));(exact (rfl:_=[_, _, _, _, _]))))|(apply aM;first|apply aH|apply aB|(apply bV;kernel_rfl)|(apply aQ;rfl;all_goals intro hc;have hq:=hc;(try simp only [cJ] at hq);try exfalso;omega)|apply aK|apply aT)|with_reducible apply aA)
  have hb1b : ∀ j, j < (cR (nI (wS ts pts[i]! [1, 2, 3]) Aa[i]!)).length → 0 ≤ (cR (nI (wS ts pts[i]! [1, 2, 3]) Aa[i]!))[j]! := fun j h => (mJ (inferInstance : Sm (nI (wS ts pts[i]! [1, 2, 3]) Aa[i]!)).pf h).1
  refine bB (σ := Nat × List Iss × Nat) [0, 1, 2, 7, 8, 9, 11, 27, 28, 29, 42, 43] [(0, _), (1, _), (2, _), (7, _), (8, _), (9, _), (11, _), (27, _), (28, _), (29, _), (42, _), (43, _)] [] [] (fun j => [(44, iv (j.1 : Int)), (10, .own 0 0 j.2.2 3)]) (fun j => [(0, some (aI pK j.2.1))]) (fun j => j.1 ≤ (cR (nI (wS ts pts[i]! [1, 2, 3]) Aa[i]!)).length ∧ j.2.1 = u ++ EH i ((cR (nI (wS ts pts[i]! [1, 2, 3]) Aa[i]!)).take j.1) ∧ j.2.2 = j.2.1.length ∧ j.2.2 ≤ i * 124 + j.1) (fun j => (cR (nI (wS ts pts[i]! [1, 2, 3]) Aa[i]!)).length - j.1) (0, u, m) ⟨by omega, by simp [EH], hm, by omega⟩ rfl rfl (by repeat' (first|exact trivial|refine And.intro rfl ?_)) (by repeat' (first|exact trivial|refine And.intro (.inr rfl) ?_)) ?_
  rintro ⟨j, u2, m2⟩ ⟨hj, hu2, hm2, hmk2⟩
  dsimp only at hj hu2 hm2 hmk2 ⊢
  by_cases hjn : j < (cR (nI (wS ts pts[i]! [1, 2, 3]) Aa[i]!)).length
  ·repeat' (first | (apply aL; first | (apply aE;rfl;rfl) | (apply aN;rfl;rfl;rfl;rfl) | (first | (apply bS;rfl;rfl;omega;rfl) | (apply aU;rfl;rfl;rfl;rfl)) | (apply aC;rfl;rfl) | (apply a7; (case hx | hi => rfl); (case hm => (assumption)); (case hml => (rfl)); (case hα | hf | hg => infer_instance); (case hN => rfl)) | (apply bW;rfl;rfl;rfl;rfl;rfl;(rw [aP]; omega);(rfl);omega;omega;(exact Dl (by (assumption)));rfl;rfl) | (apply aF;kernel_rfl) | (apply b8;rfl;(exact (rfl:_=some [_, _, _]));(exact (rfl:_=[_, _, _]));rfl) | ((apply bE (t := _)); (case hze | hsm | hl => rfl); (case hfl => (exact (rfl:_=some [_, _, _]))); (case hM | hN => rfl))) | (apply aM; first | apply aH | apply aB | (apply aQ;rfl;all_goals intro hc;have hq:=hc;(try simp only [cJ] at hq);try exfalso;omega) | apply aK | apply aT) | with_reducible apply aA | with_reducible apply aX)
   (apply dK (j + 1, _, _);focus (refine Le.ren [(0, 3)] rfl (by decide) ?_ ?_ <;> repeat' (first|exact trivial|refine And.intro ⟨_, rfl, ?_⟩ ?_|refine And.intro ⟨_, _, rfl, rfl, ?_⟩ ?_|exact Or.inr rfl|refine Or.inl ⟨?_, (by first|rfl|exact aY _ _|exact Pur.pf)⟩|rfl)))
   ·dsimp only
    refine ⟨by omega, ?_, by simp;omega, by omega⟩
    rw [hu2]; unfold EH;rw [kW _ _ _ hjn, List.append_assoc]
   ·dsimp only;omega
  ·have hu3 : u2 = u ++ EH i (cR (nI (wS ts pts[i]! [1, 2, 3]) Aa[i]!)) := by rw [hu2, List.take_of_length_le (by omega)]
   repeat' (first|(apply aL;first|(apply aE;rfl;rfl)|(apply aN;rfl;rfl;rfl;rfl)|(first|(apply yE;rfl;rfl;infer_instance;infer_instance;infer_instance;rfl)|(apply aU;rfl;rfl;rfl;rfl))|(apply a7;(case hx|hi => rfl);(case hm => (assumption));(case hml => (omega));(case hα | hf|hg => infer_instance);(case hN => rfl))|(first|((with_reducible apply aJ (k := 168));(case ha => rfl);(case h => (apply tW <;> (assumption)));(case hp => (rfl));(case hN => rfl))|((with_reducible apply aJ (k := 169));(case ha => rfl);(case h => (apply DY <;> (first|assumption|omega)));(case hp => (exact Pur.pf));(case hN => rfl))|((with_reducible apply aJ (k := 170));(case ha => rfl);(case h => (apply KI <;> (first|assumption|omega)));(case hp => (exact Pur.pf));(case hN => rfl)))|(apply bI;rfl;rfl;rfl)|((with_reducible apply jZ);(case hx|hcl => rfl);(case hc => infer_instance);(case ha => rfl);(case h => (apply D6 <;> (first|assumption|omega)));(case hp => (exact Pur.pf));(case hN => rfl))|(apply aF;kernel_rfl))|(apply aM;first|apply aH|apply aB|(apply bV;kernel_rfl)|(apply aQ;rfl;all_goals intro hc;have hq:=hc;(try simp only [cJ] at hq);try exfalso;omega)|apply aK|apply bK)|with_reducible apply aA|with_reducible apply bJ|with_reducible apply bO)
   generalize hL : cR (Hy pts (vR ts pts[(i : Int).toNat]! Al[i]! (fP Af (i : Int).toNat) &&& Ap[i]!) (kE ts pts[(i : Int).toNat]! (Am[i]!.testBit (bT pts[(i : Int).toNat]!).toNat)) 0) = L2
   have hL2 : cR (Eg ts pts Am Al Af Ap i) = L2 := hL
   have hbd : ∀ j, j < L2.length → 0 ≤ L2[j]! ∧ L2[j]! < pts.length := fun j h => by rw [← hL2] at h ⊢; exact mJ hcf h
   rw [hL2] at hb2
   refine bB (σ := Nat × List Iss × Nat) [0, 1, 2, 7, 8, 9, 11, 27, 28, 29, 77, 78] [(0, _), (1, _), (2, _), (7, _), (8, _), (9, _), (11, _), (27, _), (28, _), (29, _), (77, _), (78, _)] [] [] (fun l => [(79, iv (l.1 : Int)), (10, .own 0 0 l.2.2 3)]) (fun l => [(0, some (aI pK l.2.1))]) (fun l => l.1 ≤ L2.length ∧ l.2.1 = u2 ++ Ex pts i (L2.take l.1) ∧ l.2.2 = l.2.1.length ∧ l.2.2 ≤ i * 124 + 62 + l.1) (fun l => L2.length - l.1) (0, u2, m2) ⟨by omega, by simp [Ex], hm2, Nat.le_trans hmk2 (by omega)⟩ rfl rfl (by repeat' (first|exact trivial|refine And.intro rfl ?_)) (by repeat' (first|exact trivial|refine And.intro (.inr rfl) ?_)) ?_
   rintro ⟨l, u4, m4⟩ ⟨hl, hu4, hm4, hmk4⟩
   dsimp only at hl hu4 hm4 hmk4 ⊢
   by_cases hln : l < L2.length
   ·have hbl := hbd l hln
    repeat' (first|(apply aL;first|(apply aE;rfl;rfl)|(apply aN;rfl;rfl;rfl;rfl)|(apply aD;rfl;rfl;rfl)|(first|(apply bS;rfl;rfl;omega;rfl)|(apply aU;rfl;rfl;rfl;rfl))|(apply aC;rfl;rfl)|(first|(apply a7;(case hx|hi => rfl);(case hm => (assumption));(case hml => (rfl));(case hα | hf|hg => infer_instance);(case hN => rfl))|(apply cL;(case hx|hi => rfl);(case hm => (assumption));(case hml => (rfl));(case hα | hf|hg => infer_instance);(case hN => rfl)))|(apply bW;rfl;rfl;rfl;rfl;rfl;(rw [aP]; omega);(rfl);omega;omega;(exact Dl (by (assumption)));rfl;rfl)|(apply aF;kernel_rfl)|(apply b8;rfl;(exact (rfl:_=some [_, _, _]));(exact (rfl:_=[_, _, _]));rfl)|(apply cA;rfl;rfl;rfl)|((apply bE (t := _));(case hze|hsm|hl => rfl);(case hfl => (exact (rfl:_=some [_, _, _])));(case hM|hN => rfl)))|(apply aM;first|apply aH|apply aB|(apply aQ;rfl;all_goals intro hc;have hq:=hc;(try simp only [cJ] at hq);try exfalso;omega)|apply aK|apply aT)|with_reducible apply aA|with_reducible apply aX)
    ·(apply dK (l + 1, _, _); focus (refine Le.ren [(0, 3)] rfl (by decide) ?_ ?_ <;> repeat' (first | exact trivial | refine And.intro ⟨_, rfl, ?_⟩ ?_ | refine And.intro ⟨_, _, rfl, rfl, ?_⟩ ?_ | exact Or.inr rfl | refine Or.inl ⟨?_, (by first | rfl | exact aY _ _ | exact Pur.pf)⟩ | rfl)))
     ·dsimp only
      refine ⟨by omega, ?_, by simp;omega, by omega⟩
      rw [hu4]; unfold Ex;rw [kW _ _ _ hln, List.append_assoc, if_pos hq]
     ·dsimp only;omega
    ·(apply dK (l + 1, _, _); focus (refine Le.ren [(0, 3)] rfl (by decide) ?_ ?_ <;> repeat' (first | exact trivial | refine And.intro ⟨_, rfl, ?_⟩ ?_ | refine And.intro ⟨_, _, rfl, rfl, ?_⟩ ?_ | exact Or.inr rfl | refine Or.inl ⟨?_, (by first | rfl | exact aY _ _ | exact Pur.pf)⟩ | rfl)))
     ·dsimp only
      refine ⟨by omega, ?_, by simp;omega, by omega⟩
      rw [hu4]; unfold Ex;rw [kW _ _ _ hln, List.append_assoc, if_neg hq]
     ·dsimp only;omega
   ·repeat' (first | (apply aL; first | (apply aE;rfl;rfl) | (first | (apply bS;rfl;rfl;omega;rfl) | (apply aU;rfl;rfl;rfl;rfl)) | (apply aF;kernel_rfl)) | (apply aM; first | apply aH | apply aB | (apply aQ;rfl;all_goals intro hc;have hq:=hc;(try simp only [cJ] at hq);try exfalso;omega) | apply bK) | with_reducible apply aA | with_reducible apply bJ | with_reducible apply aX | with_reducible apply bO)
    (apply dK (i + 1, u4, m4);focus (refine Le.ren [(0, 0)] rfl (by decide) ?_ ?_ <;> repeat' (first|exact trivial|refine And.intro ⟨_, rfl, ?_⟩ ?_|refine And.intro ⟨_, _, rfl, rfl, ?_⟩ ?_|exact Or.inr rfl|refine Or.inl ⟨?_, (by first|rfl|exact aY _ _|exact Pur.pf)⟩|rfl)))
    ·dsimp only
     refine ⟨by omega, ?_, hm4, by omega⟩
     rw [pM, hu4, List.take_of_length_le (by omega), hu3, ← hL2, hu, List.append_assoc]; rfl
    ·dsimp only;omega
 ·repeat' (first | (apply aL; first | (apply aE;rfl;rfl) | (apply aU;rfl;rfl;rfl;rfl) | (apply aC;rfl;rfl) | (apply aF;kernel_rfl)) | (apply aM; first | apply aH | apply aB | (apply aQ;rfl;all_goals intro hc;have hq:=hc;(try simp only [cJ] at hq);try exfalso;omega) | apply bK | apply aR) | with_reducible apply aA | with_reducible apply bJ | with_reducible apply bO)
  (refine cD (Le.frzD (d := 6) (i := 0) rfl rfl) ?_; refine aO rfl ?_)
  refine ⟨?_, (by (exact aY _ _))⟩
  simp only [b0, sl]
  rw [hm, hu, show i = pts.length by omega]
theorem DC (ts : List Int) (bd : List AL.Stmt) (pts : List Pnt) (w : WG ts pts) (f : Flows ts pts) : PC Tryz.prog 63 [aG ts bd pts] (fun r => r = sl pK f.iss) := by
 have hpl := w.pl
 (refine aS Tryz.func63 rfl (by simp [Tryz.ntmps63]) ?_; rw [Tryz.ntmps63])
 repeat' (first|(apply aL;first|(apply tA;rfl;rfl;rfl)|((with_reducible apply aJ (k := 101));(case ha => rfl);(case h => exact D3 ts bd pts f.Af w f.gf);(case hp => exact Pur.pf);(case hN => rfl))|((with_reducible apply aJ (k := 103));(case ha => rfl);(case h => exact zT ts bd pts f.An f.Al w f.gn f.gl);(case hp => exact Pur.pf);(case hN => rfl))|((with_reducible apply aJ (k := 102));(case ha => rfl);(case h => exact I8 ts bd pts f.Aa f.Am f.Al f.Af f.Ap _ w f.ga f.gm f.gl f.gf f.gp rfl);(case hp => exact Pur.pf);(case hN => rfl))|(apply aE;rfl;rfl)|(apply aC;rfl;rfl)|(apply aF;kernel_rfl)|(apply a6;rfl;rfl)|(apply aW;rfl;rfl;rfl;rfl;rfl;(case hl => (simp;done));(exact (rfl:_=[_]))))|(apply aM;first|apply aH|apply aB|apply aR)|with_reducible apply aA)
 refine aO rfl ⟨rfl, (by (exact aY _ _))⟩
theorem mR (p : Prg) (hl : p.types.length ≤ 1000000) (hs : bX p.body ≤ 1000000) : PC Tryz.prog 62 [dF p, .v (.slice none 0 0)] (fun r => r = if cS p = true then .tup [aG p.types p.body (dC p), bv true] else .tup [.v (.pointer none), bv false]) := by
 have hpl := u6 p
 have hnl := lO p.body
 (refine aS Tryz.func62 rfl (by simp [Tryz.ntmps62]) ?_; rw [Tryz.ntmps62])
 repeat' (first|(apply aL;first|(apply aE;rfl;rfl)|(apply aV;rfl;rfl;(exact (rfl:_=[_, _]));rfl;rfl;rfl)|(apply aC;rfl;rfl)|(first|((with_reducible apply aJ (k := 25));(case ha => rfl);(case h => (apply mL <;> (first|assumption|omega)));(case hp => (exact Pur.pf));(case hN => rfl))|((with_reducible apply aJ (k := 96));(case ha => rfl);(case h => (apply G5 <;> (assumption)));(case hp => (exact Pur.pf));(case hN => rfl)))|(apply bI;rfl;rfl;rfl)|(apply aF;kernel_rfl)|(apply b8;rfl;(exact (rfl:_=some [_, _, _]));(exact (rfl:_=[_, _, _]));rfl)|(apply cF;rfl;rfl)|(apply bH;rfl;rfl;rfl;rfl))|(apply aM;first|apply aH|apply aB|(apply bV;kernel_rfl)|(apply aQ;rfl;all_goals intro hc;have hq:=hc;(try simp only [cJ] at hq);try exfalso;omega)|apply aK|apply aT|apply aR)|with_reducible apply aA|with_reducible apply bG)
 ·refine aO rfl ⟨?_, (by (rfl))⟩
  rw [if_neg (by simp [hq])]; rfl
 ·refine bB (σ := Unit) [6, 17, 18] [(6, _), (17, _), (18, _)] [1] [(1, some _)] (fun _u => [(19, iv 0)]) (fun _u => []) (fun _u => True) (fun _u => 0) () trivial rfl rfl (by repeat' (first | exact trivial | refine And.intro rfl ?_)) (by repeat' (exact trivial)) ?_
  intro _ _
  repeat' (first|(apply aL;first|(apply aE;rfl;rfl)|(apply aU;rfl;rfl;rfl;rfl)|(apply aC;rfl;rfl)|(apply aF;kernel_rfl))|(apply aM;first|apply aH|apply aB|(apply cG;rfl;(rfl))|apply bK|apply aR)|with_reducible apply aA|with_reducible apply bJ|with_reducible apply bO)
  refine cD (Le.frzP (d := 4) (i := 1) rfl rfl) ?_
  refine aO rfl ⟨?_, (by show (AV.tup [aG p.types p.body (dC p), bv true]).pur = true;exact PurV.pf)⟩
  rw [if_pos hq]; rfl
def KK (p : Prg) (f : Flows p.types (dC p)) : List Iss := if cS p = true then f.iss else []
theorem Fx (p : Prg) (f : Flows p.types (dC p)) (hl : p.types.length ≤ 1000000) (hs : bX p.body ≤ 1000000) : PC Tryz.prog 32 [dF p] (fun r => r = sl pK (KK p f)) := by
 unfold KK
 cases hv : cS p
 ·(refine aS Tryz.func32 rfl (by simp [Tryz.ntmps32]) ?_; rw [Tryz.ntmps32])
  repeat' (first|(apply aL;first|((with_reducible apply aJ (k := 62));(case ha => rfl);(case h => exact (by have := mR p hl hs;rw [if_neg (by simp [hv])] at this;exact this));(case hp => (exact Pur.pf));(case hN => rfl))|(apply aE;rfl;rfl)|(apply aV;rfl;rfl;(exact (rfl:_=[_, _]));rfl;rfl;rfl)|(apply aC;rfl;rfl)|(apply aF;kernel_rfl)|(apply cF;rfl;rfl)|(apply bH;rfl;rfl;rfl;rfl)|(apply bD;rfl;rfl;rfl))|(apply aM;first|apply aH|apply aB|(apply cB;rfl;(rfl))|apply aR)|with_reducible apply aA|with_reducible apply bG)
  (refine cD (Le.nilImm (d := 2) rfl) ?_; refine aO rfl ?_)
  exact ⟨rfl, rfl⟩
 ·have w := WG.of_valid hv
  (refine aS Tryz.func32 rfl (by simp [Tryz.ntmps32]) ?_; rw [Tryz.ntmps32])
  repeat' (first|(apply aL;first|((with_reducible apply aJ (k := 62));(case ha => rfl);(case h => exact (by have := mR p hl hs;rw [if_pos hv] at this;exact this));(case hp => (exact Pur.pf));(case hN => rfl))|((with_reducible apply aJ (k := 63));(case ha => rfl);(case h => exact DC p.types p.body (dC p) w f);(case hp => (exact Pur.pf));(case hN => rfl))|(apply aE;rfl;rfl)|(apply aV;rfl;rfl;(exact (rfl:_=[_, _]));rfl;rfl;rfl)|(apply aC;rfl;rfl)|(apply aF;kernel_rfl)|(apply cF;rfl;rfl)|(apply bH;rfl;rfl;rfl;rfl)|(apply bD;rfl;rfl;rfl))|(apply aM;first|apply aH|apply aB|(apply cG;rfl;(rfl))|apply aT|apply aR)|with_reducible apply aA)
  exact aO rfl ⟨rfl, (by (exact aY _ _))⟩
def Mt (l : List Iss) : Iss × Bool := match l with | [] => (⟨0, 0, 0⟩, false) | x :: _ => (x, true)
instance : BoT Tryz.prog 4 := ⟨by kernel_rfl⟩
end Go.Proofs.YtckihjkcgfphmaaGreat
