/-
 A part of the proofs over this program: rules and contracts of its functions (the contracts).
-/
import Derived.Test.YtjcpngimjdckmaaGreatQ1B01
set_option linter.unusedVariables false
set_option linter.unusedSimpArgs false
set_option maxHeartbeats 8000000
set_option maxRecDepth 4000
attribute [local irreducible] Go.AL.RW Go.AL.AW Go.AL.Stop
namespace Go.Proofs.YtjcpngimjdckmaaGreat
open Go.AL Go.RowKit
theorem FI (ts : List Int) (bd : List AL.Stmt) (pts : List Pnt) (A : List Nat) (w : WG ts pts) (hA : sE ts pts A) : PC Tryz.prog 101 [aG ts bd pts, iv 0] (fun r => r = .imm pts.length (aH cN A)) := by
 (refine aU Tryz.func101 rfl (by simp [Tryz.ntmps101]) ?_; rw [Tryz.ntmps101])
 repeat' (first|(apply aM;first|((with_reducible apply aJ (k := 145));(case ha => rfl);(case h => exact BN ts bd pts A w hA);(case hp => exact Pur.pf);(case hN => rfl))|(apply aE;rfl;rfl)|(apply aC;rfl;rfl)|(apply aF;kernel_rfl)|(apply j4;rfl;rfl;rfl))|(apply aN;first|apply aI|apply aB|apply aQ)|with_reducible apply aA|((with_reducible apply aP);case hr => rfl))
 exact ⟨rfl, (by (exact aZ _ _))⟩
theorem Is (ts : List Int) (bd : List AL.Stmt) (pts : List Pnt) (A : List Nat) (w : WG ts pts) (hA : tT ts pts A) : PC Tryz.prog 166 [aG ts bd pts] (fun r => r = .imm pts.length (aH cN A)) := by
 (refine aU Tryz.func166 rfl (by simp [Tryz.ntmps166]) ?_; rw [Tryz.ntmps166])
 repeat' (first|(apply aM;first|((with_reducible apply aJ (k := 145));(case ha => rfl);(case h => exact BU ts bd pts A w hA);(case hp => exact Pur.pf);(case hN => rfl))|(apply aE;rfl;rfl)|(apply aC;rfl;rfl)|(apply aF;kernel_rfl)|(apply j4;rfl;rfl;rfl))|(apply aN;first|apply aI|apply aB|apply aQ)|with_reducible apply aA|((with_reducible apply aP);case hr => rfl))
 exact ⟨rfl, (by (exact aZ _ _))⟩
theorem Dm (ts : List Int) (bd : List AL.Stmt) (pts : List Pnt) (n : Nat) (B : List Nat) (i : Int) (w : WG ts pts) (hn : n = B.length) (hB : B.length = pts.length) (hs : ∀ z : Nat, Sm B[z]!) (hi : 0 ≤ i ∧ i < pts.length) : PC Tryz.prog 134 [aG ts bd pts, .imm n (aH cN B), iv i] (fun r => r = iv (HD pts B i.toNat : Nat)) := by
 subst hn
 have hin : i.toNat < pts.length := by omega
 have hnl := w.nl _ hin
 have hpl := w.pl
 (refine aU Tryz.func134 rfl (by simp [Tryz.ntmps134]) ?_; rw [Tryz.ntmps134])
 repeat' (first|(apply aM;first|(apply aE;rfl;rfl)|(apply aL;rfl;rfl;rfl;rfl)|(apply aD;rfl;rfl;rfl)|(apply aC;rfl;rfl)|(apply dA;(case hx|hi => rfl);(case hm => (assumption));(case hml => (rfl));(case hα | hf|hg => infer_instance);(case hN => rfl))|(apply a8;rfl;rfl;rfl)|(apply aF;kernel_rfl)|(apply bW;rfl;rfl;rfl))|(apply aN;first|apply aI|apply aB|apply aK)|with_reducible apply aA)
 refine bC (σ := Nat × Nat) [1, 17, 18] [(1, _), (17, _), (18, _)] [] [] (fun k => [(19, iv (k.1 : Int)), (7, iv (k.2 : Int))]) (fun k => []) (fun k => k.1 ≤ pts[i.toNat]!.next.length ∧ k.2 = ((uR pts i.toNat).take k.1).foldl (fun a k => nG a B[k]!) 0 ∧ Sm k.2) (fun k => pts[i.toNat]!.next.length - k.1) (0, 0) ⟨by omega, rfl, inferInstance⟩ rfl rfl (by repeat' (first|exact trivial|refine And.intro rfl ?_)) (by repeat' (exact trivial)) ?_
 rintro ⟨k, a⟩ ⟨hk, ha, hsa⟩
 dsimp only at hk ha hsa ⊢
 have hz : k < pts[i.toNat]!.next.length → 0 ≤ pts[i.toNat]!.next[k]! ∧ pts[i.toNat]!.next[k]! < pts.length := fun h => w.nx _ hin _ (cA _ _ h)
 repeat' (first|(apply aM;first|(apply aE;rfl;rfl)|(apply aL;rfl;rfl;rfl;rfl)|(first|(apply gJ;rfl;rfl;infer_instance;infer_instance;infer_instance;rfl)|(apply bU;rfl;rfl;omega;rfl)|(apply aR;rfl;rfl;rfl;rfl))|(apply aC;rfl;rfl)|(first|(apply a7;(case hx|hi => rfl);(case hm => (omega));(case hml => (rfl));(case hα | hf|hg => infer_instance);(case hN => rfl))|(apply dA;(case hx|hi => rfl);(case hm => (omega));(case hml => (rfl));(case hα | hf|hg => infer_instance);(case hN => rfl)))|(apply aF;kernel_rfl))|(apply aN;first|apply aI|apply aB|(apply aO;rfl;all_goals intro hc;have hq:=hc;(try simp only [cF] at hq);try exfalso;omega)|apply aK|apply aS|apply bI|apply aQ)|with_reducible apply aA|with_reducible apply bJ|with_reducible apply aX|with_reducible apply bH|((with_reducible apply aP);case hr => rfl))
 ·(apply dW (k + 1, _); focus (refine Le.ren [] rfl (by decide) ?_ ?_ <;> repeat' (first | exact trivial | refine And.intro ⟨_, rfl, ?_⟩ ?_ | refine Or.inl ⟨?_, (by first | rfl | exact aZ _ _)⟩ | rfl)))
  ·dsimp only
   refine ⟨by omega, ?_, inferInstance⟩
   rw [fK _ _ _ _ (by rw [lN]; omega), yD (by omega), ← ha]
  ·dsimp only;omega
 ·(refine ⟨?_, rfl⟩; simp only [b9, AV.v.injEq, Value.bool.injEq, Value.int.injEq, true_and])
  rw [ha, List.take_of_length_le (by rw [lN]; omega)]; rfl
theorem GZ (ts : List Int) (bd : List AL.Stmt) (pts : List Pnt) (A : List Nat) (w : WG ts pts) (hA : uE ts pts A) : PC Tryz.prog 135 [aG ts bd pts] (fun r => r = .imm pts.length (aH cN A)) := by
 have hpl := w.pl
 have hp0 := w.p0
 have htl := w.tl
 (refine aU Tryz.func135 rfl (by simp [Tryz.ntmps135]) ?_; rw [Tryz.ntmps135])
 repeat' (first|(apply aM;first|(apply aE;rfl;rfl)|(apply aL;rfl;rfl;rfl;rfl)|(apply aD;rfl;rfl;rfl)|(apply aC;rfl;rfl)|(apply a8;rfl;rfl;rfl)|(apply aF;kernel_rfl)|(apply bW;rfl;rfl;rfl)|(apply dV;rfl;rfl;rfl;omega;omega;(exact r8);rfl;rfl))|(apply aN;first|apply aI|apply aB|apply aK)|with_reducible apply aA)
 refine bC (σ := List Nat × Bool) [0, 3] [(0, _), (3, _)] [] [] (fun s => [(4, bv s.2)]) (fun s => [(0, some (aH cN s.1))]) (fun s => SN ts pts s.1 ∧ (s.2 = false → ∀ i, i < pts.length → pL ts pts s.1 i = s.1[i]!)) (fun s => 2 * gD (s.1.map (fun a => 2 ^ ts.length - a)) + s.2.toNat) (List.replicate pts.length 0, true) ⟨Kx, fun h => by cases h⟩ rfl rfl (by repeat' (first|exact trivial|refine And.intro rfl ?_)) (by repeat' (first|exact trivial|refine And.intro (.inr rfl) ?_)) ?_
 rintro ⟨s, b⟩ ⟨hS, hC⟩
 dsimp only at hS hC ⊢
 repeat' (first|(apply aM;first|(apply aE;rfl;rfl)|(apply aL;rfl;rfl;rfl;rfl)|(apply aD;rfl;rfl;rfl)|(apply fU;rfl;rfl;omega;rfl)|(apply aC;rfl;rfl)|(apply a8;rfl;rfl;rfl)|(apply aF;kernel_rfl)|(apply bW;rfl;rfl;rfl))|(apply aN;first|apply aI|apply aB|(apply aO;rfl;all_goals intro hc;have hq:=hc;(try simp only [cF] at hq);try exfalso;omega)|apply aK|apply aS|apply bI|apply aQ)|with_reducible apply aA|with_reducible apply bJ|with_reducible apply bH)
 ·refine bC (σ := Nat × Int × (List Nat × Bool)) [0, 3] [(0, _), (3, _)] [] [] (fun k => [(5, iv k.2.1), (4, bv k.2.2.2)]) (fun k => [(0, some (aH cN k.2.2.1))]) (fun k => k.1 ≤ pts.length ∧ k.2.1 = (pts.length : Int) - 1 - k.1 ∧ k.2.2 = ((List.range pts.length).reverse.take k.1).foldl (lP ts pts) (s, false) ∧ SN ts pts k.2.2.1) (fun k => pts.length - k.1) (0, (pts.length : Int) - 1, (s, false)) ⟨by omega, by simp, rfl, hS⟩ rfl rfl (by repeat' (first | exact trivial | refine And.intro rfl ?_)) (by repeat' (first | exact trivial | refine And.intro (.inr rfl) ?_)) ?_
  rintro ⟨k, z, u, c⟩ ⟨hk, hz, hf, hS2⟩
  dsimp only at hk hz hf hS2 ⊢
  have hsm : ∀ z : Nat, Sm u[z]! := tQ hS2.1 (fun i A h => h.1) htl
  have hul := hS2.1.1
  have hst := fun h : z.toNat < pts.length => (w.set z.toNat h).1
  have hst2 : bG pts[z.toNat]! < 62 := by
   by_cases h : z.toNat < pts.length
   ·have := hst h;omega
   ·rw [getElem!_neg pts z.toNat h]; decide
  have hs1 : Sm (wS ts pts[z.toNat]! [1, 2, 3]) := dK (by omega)
  have hs2 : Sm (iF pts[z.toNat]!) := rC (by omega)
  have hs3 : Sm (HD pts u z.toNat) := by
   unfold HD
   have : ∀ (L : List Nat) (a : Nat), Sm a → Sm (L.foldl (fun a k => a ||| u[k]!) a) := by
    intro L;induction L with
    | nil => exact fun a h => h
    | cons x L ih => exact fun a h => ih _ (inferInstance : Sm (a ||| u[x]!))
   exact this _ _ inferInstance
  have hlaw := fun h : z.toNat < pts.length => v5 w u c z.toNat h hS2
  repeat' (first|(apply aM;first|(apply aE;rfl;rfl)|(first|(apply eQ;(case hx|hH => rfl);(case hf|hg|hα => infer_instance);(case hk => omega);(case hc|hN => rfl))|(apply aL;rfl;rfl;rfl;rfl)|(apply aY;rfl;rfl;(exact (rfl:_=[_, _, _, _, _]));rfl;rfl;rfl))|(apply aD;rfl;rfl;rfl)|(first|(apply gJ;rfl;rfl;infer_instance;infer_instance;infer_instance;rfl)|(apply oF;rfl;rfl;infer_instance;infer_instance;infer_instance;rfl)|(apply fU;rfl;rfl;omega;rfl)|(apply aR;rfl;rfl;rfl;rfl))|(apply aC;rfl;rfl)|(first|(apply dA;(case hx|hi => rfl);(case hm => (omega));(case hml => (rfl));(case hα | hf|hg => infer_instance);(case hN => rfl))|(apply cP;rfl;rfl;(omega);rfl))|(first|((with_reducible apply o6 (k := 134));(case ha => rfl);(case hl => (repeat' (first|exact mK|apply k8|exact xD|exact m3 rfl inferInstance|exact Ce inferInstance)));(case h => (apply Dm <;> (first|assumption|omega)));(case hfr|hN => rfl);(case hmd => infer_instance))|((with_reducible apply aJ (k := 151));(case ha => rfl);(case h => (apply iR <;> (assumption)));(case hp => (exact Pur.pf));(case hN => rfl))|((with_reducible apply aJ (k := 174));(case ha => rfl);(case h => (apply oQ <;> (assumption)));(case hp => (exact Pur.pf));(case hN => rfl)))|(apply aF;kernel_rfl)|(apply bW;rfl;rfl;rfl)|(apply bE;rfl;rfl)|(apply aW;rfl;rfl;rfl;rfl;rfl;(case hl => (first|(rw [aT]; simp only [gX] <;> omega)|(simp;done)));(first|exact tN (by (omega))|exact (rfl:_=[_, _, _, _, _]))))|(apply aN;first|apply aI|apply aB|(apply b8;kernel_rfl)|(apply aO;rfl;all_goals intro hc;have hq:=hc;(try simp only [cF] at hq);try exfalso;omega)|apply aK|apply aS|apply bI)|with_reducible apply aA|with_reducible apply bJ|with_reducible apply aX|with_reducible apply bH)
  ·have hzn : z.toNat < pts.length := by omega
   have hne : pL ts pts u z.toNat ≠ u[z.toNat]! := fun h => hq (congrArg Int.ofNat h)
   have hl := hlaw hzn
   rw [CE hne] at hl
   have hrg : (List.range pts.length).reverse[k]! = z.toNat := by rw [zW (by omega)]; omega
   (apply dW (k + 1, _, (_, true));focus (refine Le.ren [(0, 0)] rfl (by decide) ?_ ?_ <;> repeat' (first|exact trivial|refine And.intro ⟨_, rfl, ?_⟩ ?_|refine And.intro ⟨_, _, rfl, rfl, ?_⟩ ?_|exact Or.inr rfl|refine Or.inl ⟨?_, (by first|rfl|exact aZ _ _|exact Pur.pf)⟩|rfl)))
   ·dsimp only
    refine ⟨by omega, by omega, ?_, hl.1⟩
    rw [fK _ _ _ _ (by simp;omega), ← hf, hrg, CE hne]; rfl
   ·dsimp only;omega
  ·have hzn : z.toNat < pts.length := by omega
   have hne : pL ts pts u z.toNat = u[z.toNat]! := Int.ofNat.inj hq
   have hrg : (List.range pts.length).reverse[k]! = z.toNat := by rw [zW (by omega)]; omega
   (apply dW (k + 1, _, (u, c));focus (refine Le.ren [(0, 0)] rfl (by decide) ?_ ?_ <;> repeat' (first|exact trivial|refine And.intro ⟨_, rfl, ?_⟩ ?_|refine And.intro ⟨_, _, rfl, rfl, ?_⟩ ?_|exact Or.inr rfl|refine Or.inl ⟨?_, (by first|rfl|exact aZ _ _|exact Pur.pf)⟩|rfl)))
   ·dsimp only
    refine ⟨by omega, by omega, ?_, hS2⟩
    rw [fK _ _ _ _ (by simp;omega), ← hf, hrg, Hr hne]
   ·dsimp only;omega
  ·have law := D7 w s false hS
   have hfull : (u, c) = AF ts pts (s, false) := by
    rw [hf, List.take_of_length_le (by simp;omega)]; rfl
   rw [← hfull] at law
   (apply dW (u, c);focus (refine Le.ren [(0, 0)] rfl (by decide) ?_ ?_ <;> repeat' (first|exact trivial|refine And.intro ⟨_, rfl, ?_⟩ ?_|refine And.intro ⟨_, _, rfl, rfl, ?_⟩ ?_|exact Or.inr rfl|refine Or.inl ⟨?_, (by first|rfl|exact aZ _ _|exact Pur.pf)⟩|rfl)))
   ·dsimp only
    refine ⟨hS2, fun h => ?_⟩
    rcases law.2 with ⟨e1, e2⟩ | ⟨e1, _⟩
    ·cases e1;exact e2
    ·dsimp only at e1;rw [h] at e1;cases e1
   ·dsimp only
    have hb : b = true := by assumption
    subst hb
    rcases law.2 with ⟨e1, e2⟩ | ⟨e1, e2⟩
    ·cases e1;simp
    ·dsimp only at e1 e2;subst e1;omega
 ·have hb : b = false := by assumption
  refine cE (Le.frzD (d := 2) (i := 0) rfl rfl) ?_
  refine aP rfl ⟨?_, (by (exact aZ _ _))⟩
  simp only [b9]
  rw [DO hA (GN w hS (hC hb))]
theorem yV (ts : List Int) (bd : List AL.Stmt) (pts : List Pnt) (B A : List Nat) (w : WG ts pts) (hB : uE ts pts B) (hA : vN ts pts A) : PC Tryz.prog 127 [aG ts bd pts] (fun r => r = .imm pts.length (aH cN A)) := by
 have hpl := w.pl
 have htl := w.tl
 have hBl := hB.1
 have hsm : ∀ z : Nat, Sm B[z]! := by
  intro z
  by_cases hz : z < pts.length
  ·refine ⟨Nat.lt_of_lt_of_le (Nat.lt_pow_two_of_testBit _ (n := 6) fun v hv => ?_) (by decide)⟩
   cases hq : B[z]!.testBit v with
   | false => rfl
   | true => have := qH w ((hB.2 z hz v).1 hq);dsimp only at this;omega
  ·rw [getElem!_neg B z (by rw [hBl]; exact hz)]; exact ⟨by decide⟩
 (refine aU Tryz.func127 rfl (by simp [Tryz.ntmps127]) ?_; rw [Tryz.ntmps127])
 repeat' (first|(apply aM;first|(apply aE;rfl;rfl)|(apply aL;rfl;rfl;rfl;rfl)|(apply aD;rfl;rfl;rfl)|(apply aC;rfl;rfl)|((with_reducible apply aJ (k := 135));(case ha => rfl);(case h => (apply GZ <;> (assumption)));(case hp => (exact Pur.pf));(case hN => rfl))|(apply a8;rfl;rfl;rfl)|(apply aF;kernel_rfl)|(apply bW;rfl;rfl;rfl))|(apply aN;first|apply aI|apply aB|apply aK)|with_reducible apply aA)
 refine AW.le ?_ (Le.nilOwn (d := 4) 1 rfl (by decide))
 refine bC (σ := Nat × List Nat) [0, 3, 12] [(0, _), (3, _), (12, _)] [] [] (fun k => [(13, iv (k.1 : Int)), (4, .own 0 0 k.1 1)]) (fun k => [(0, some (aH cN k.2))]) (fun k => k.1 ≤ pts.length ∧ k.2 = (List.range k.1).map (HD pts B)) (fun k => pts.length - k.1) (0, []) ⟨by omega, rfl⟩ rfl rfl (by repeat' (first|exact trivial|refine And.intro rfl ?_)) (by repeat' (first|exact trivial|refine And.intro (.inr rfl) ?_)) ?_
 rintro ⟨k, u⟩ ⟨hk, hu⟩
 dsimp only at hk hu ⊢
 have hul : u.length = k := by rw [hu]; simp
 repeat' (first|(apply aM;first|(apply aE;rfl;rfl)|(first|(apply bU;rfl;rfl;omega;rfl)|(apply aR;rfl;rfl;rfl;rfl))|(apply aC;rfl;rfl)|((with_reducible apply aJ (k := 134));(case ha => rfl);(case h => (apply Dm <;> (first|assumption|omega)));(case hp => (exact Pur.pf));(case hN => rfl))|(apply cH;rfl;rfl;rfl;rfl;rfl;(rw [aT]; omega);(rfl);omega;omega;(exact IV (by (omega)));rfl;rfl)|(apply aF;kernel_rfl)|((apply bS (t := _));(case hze|hsm|hl => rfl);(case hfl => exact (rfl:_=some [_]));(case hM|hN => rfl)))|(apply aN;first|apply aI|apply aB|(apply aO;rfl;all_goals intro hc;have hq:=hc;(try simp only [cF] at hq);try exfalso;omega)|apply aK|apply aS|apply bI|apply aQ)|with_reducible apply aA|with_reducible apply bJ|with_reducible apply aX|with_reducible apply bH)
 ·(apply dW (k + 1, _); focus (refine Le.ren [(0, 2)] rfl (by decide) ?_ ?_ <;> repeat' (first | exact trivial | refine And.intro ⟨_, rfl, ?_⟩ ?_ | refine And.intro ⟨_, _, rfl, rfl, ?_⟩ ?_ | exact Or.inr rfl | refine Or.inl ⟨?_, (by first | rfl | exact aZ _ _ | exact Pur.pf)⟩ | rfl)))
  ·dsimp only
   refine ⟨by omega, ?_⟩
   rw [hu, List.range_succ, List.map_append]; rfl
  ·dsimp only;omega
 ·refine cE (Le.frzD (d := 2) (i := 0) rfl rfl) ?_
  refine aP rfl ⟨?_, (by (exact aZ _ _))⟩
  simp only [b9]
  have hkn : k = pts.length := by omega
  subst hkn
  rw [wF hA (AQ w hB), hu]
theorem hO (A : Nat) (hA : Sm A) : PC Tryz.prog 100 [iv (A : Int)] (fun r => r = sl cI (cO A)) := by
 (refine aU Tryz.func100 rfl (by simp [Tryz.ntmps100]) ?_; rw [Tryz.ntmps100])
 repeat' (first|(apply aM;first|(apply aC;rfl;rfl)|(apply aF;kernel_rfl))|(apply aN;first|apply aI|apply aB|apply aK)|with_reducible apply aA)
 refine AW.le ?_ (Le.nilOwn (d := 3) 1 rfl (by decide))
 refine bC (σ := Nat × List Int × Nat) [0] [(0, _)] [] [] (fun k => [(4, iv (k.1 : Int)), (3, .own 0 0 k.2.2 1)]) (fun k => [(0, some (aH cI k.2.1))]) (fun k => k.1 ≤ 62 ∧ k.2.1 = ((List.range k.1).filter (A.testBit ·)).map (fun v : Nat => (v : Int)) ∧ k.2.2 = k.2.1.length ∧ k.2.2 ≤ k.1) (fun k => 62 - k.1) (0, [], 0) ⟨by omega, rfl, rfl, Nat.le_refl _⟩ rfl rfl (by repeat' (first|exact trivial|refine And.intro rfl ?_)) (by repeat' (first|exact trivial|refine And.intro (.inr rfl) ?_)) ?_
 rintro ⟨k, u, m⟩ ⟨hk, hu, hm, hmk⟩
 dsimp only at hk hu hm hmk ⊢
 repeat' (first|(apply aM;first|(apply aE;rfl;rfl)|(first|(apply rF;rfl;rfl;infer_instance;infer_instance;rfl)|(apply rE;rfl;rfl;infer_instance;infer_instance;omega;rfl)|(apply bU;rfl;rfl;omega;rfl)|(apply aR;rfl;rfl;rfl;rfl))|(apply aC;rfl;rfl)|(apply cH;rfl;rfl;rfl;rfl;rfl;(rw [aT]; omega);(rfl);omega;omega;(exact j1 (by (assumption)));rfl;rfl)|(apply aF;kernel_rfl)|((apply bS (t := _));(case hze|hsm|hl => rfl);(case hfl => exact (rfl:_=some [_]));(case hM|hN => rfl)))|(apply aN;first|apply aI|apply aB|(apply aO;rfl;all_goals intro hc;have hq:=hc;(try simp only [cF] at hq);try exfalso;omega)|apply aK|apply aS|apply bI|apply aQ)|with_reducible apply aA|with_reducible apply bJ|with_reducible apply aX|with_reducible apply bH)
 ·have hlt := Cn hA (show 0 < ((A >>> k : Nat) : Int) by assumption)
  (apply dW (k + 1, _, _);focus (refine Le.ren [(0, 2)] rfl (by decide) ?_ ?_ <;> repeat' (first|exact trivial|refine And.intro ⟨_, rfl, ?_⟩ ?_|refine And.intro ⟨_, _, rfl, rfl, ?_⟩ ?_|exact Or.inr rfl|refine Or.inl ⟨?_, (by first|rfl|exact aZ _ _)⟩|rfl)))
  ·dsimp only
   exact ⟨by omega, vW hq hu, by simp;omega, by omega⟩
  ·dsimp only;omega
 ·have hlt := Cn hA (show 0 < ((A >>> k : Nat) : Int) by assumption)
  (apply dW (k + 1, u, m);focus (refine Le.ren [(0, 0)] rfl (by decide) ?_ ?_ <;> repeat' (first|exact trivial|refine And.intro ⟨_, rfl, ?_⟩ ?_|refine And.intro ⟨_, _, rfl, rfl, ?_⟩ ?_|exact Or.inr rfl|refine Or.inl ⟨?_, (by first|rfl|exact aZ _ _)⟩|rfl)))
  ·dsimp only
   exact ⟨by omega, vP hq hu, hm, by omega⟩
  ·dsimp only;omega
 ·(refine cE (Le.frzD (d := 2) (i := 0) rfl rfl) ?_; refine aP rfl ?_)
  refine ⟨?_, (by (exact aZ _ _))⟩
  simp only [b9, sl]
  rw [pS (k := k) (fun v hv => G1 hq v hv) (by omega) hA, ← hu, ← hm]
theorem rV (A : Nat) (hA : Sm A) : PC Tryz.prog 92 [.v (.int .u64 (A : Int))] (fun r => r = sl cI (cO A)) := by
 (refine aU Tryz.func92 rfl (by simp [Tryz.ntmps92]) ?_; rw [Tryz.ntmps92])
 repeat' (first|(apply aM;first|(apply aE;rfl;rfl)|(apply aC;rfl;rfl)|(apply aF;kernel_rfl))|(apply aN;first|apply aI|apply aB|apply aK)|with_reducible apply aA)
 refine AW.le ?_ (Le.nilOwn (d := 3) 1 rfl (by decide))
 refine bC (σ := Nat × List Int × Nat) [0] [(0, _)] [] [] (fun k => [(5, iv (k.1 : Int)), (3, .own 0 0 k.2.2 1)]) (fun k => [(0, some (aH cI k.2.1))]) (fun k => k.1 ≤ 64 ∧ k.2.1 = ((List.range k.1).filter (A.testBit ·)).map (fun v : Nat => (v : Int)) ∧ k.2.2 = k.2.1.length ∧ k.2.2 ≤ k.1) (fun k => 64 - k.1) (0, [], 0) ⟨by omega, rfl, rfl, Nat.le_refl _⟩ rfl rfl (by repeat' (first|exact trivial|refine And.intro rfl ?_)) (by repeat' (first|exact trivial|refine And.intro (.inr rfl) ?_)) ?_
 rintro ⟨k, u, m⟩ ⟨hk, hu, hm, hmk⟩
 dsimp only at hk hu hm hmk ⊢
 repeat' (first|(apply aM;first|(apply aE;rfl;rfl)|(first|(apply rF;rfl;rfl;infer_instance;infer_instance;rfl)|(apply rE;rfl;rfl;infer_instance;infer_instance;omega;rfl)|(apply bU;rfl;rfl;omega;rfl)|(apply aR;rfl;rfl;rfl;rfl))|(apply aC;rfl;rfl)|(apply cH;rfl;rfl;rfl;rfl;rfl;(rw [aT]; omega);(rfl);omega;omega;(exact j1 (by (assumption)));rfl;rfl)|(apply aF;kernel_rfl)|((apply bS (t := _));(case hze|hsm|hl => rfl);(case hfl => exact (rfl:_=some [_]));(case hM|hN => rfl)))|(apply aN;first|apply aI|apply aB|(apply aO;rfl;all_goals intro hc;have hq:=hc;(try simp only [cF] at hq);try exfalso;omega)|apply aK|apply aS|apply bI|apply aQ)|with_reducible apply aA|with_reducible apply bJ|with_reducible apply aX|with_reducible apply bH)
 ·(apply dW (k + 1, _, _); focus (refine Le.ren [(0, 2)] rfl (by decide) ?_ ?_ <;> repeat' (first | exact trivial | refine And.intro ⟨_, rfl, ?_⟩ ?_ | refine And.intro ⟨_, _, rfl, rfl, ?_⟩ ?_ | exact Or.inr rfl | refine Or.inl ⟨?_, (by first | rfl | exact aZ _ _)⟩ | rfl)))
  ·dsimp only
   exact ⟨by omega, vW hq hu, by simp;omega, by omega⟩
  ·dsimp only;omega
 ·(apply dW (k + 1, u, m); focus (refine Le.ren [(0, 0)] rfl (by decide) ?_ ?_ <;> repeat' (first | exact trivial | refine And.intro ⟨_, rfl, ?_⟩ ?_ | refine And.intro ⟨_, _, rfl, rfl, ?_⟩ ?_ | exact Or.inr rfl | refine Or.inl ⟨?_, (by first | rfl | exact aZ _ _)⟩ | rfl)))
  ·dsimp only
   exact ⟨by omega, vP hq hu, hm, by omega⟩
  ·dsimp only;omega
 ·(refine cE (Le.frzD (d := 2) (i := 0) rfl rfl) ?_; refine aP rfl ?_)
  refine ⟨?_, (by (exact aZ _ _))⟩
  simp only [b9, sl]
  rw [pS (k := k) (fun v hv => Nat.testBit_lt_two_pow (Nat.lt_of_lt_of_le hA.pf (Nat.pow_le_pow_right (by decide) (by omega)))) (by omega) hA, ← hu, ← hm]
theorem y5 (ts : List Int) (bd : List AL.Stmt) (pts : List Pnt) (V : Nat) (w : WG ts pts) (hV : Sm V) : PC Tryz.prog 198 [aG ts bd pts, iv (V : Int)] (fun r => r = .v (.int .u64 (qO pts V : Nat))) := by
 have hpl := w.pl
 have htl := w.tl
 (refine aU Tryz.func198 rfl (by simp [Tryz.ntmps198]) ?_; rw [Tryz.ntmps198])
 repeat' (first|(apply aM;first|(apply aE;rfl;rfl)|(apply aL;rfl;rfl;rfl;rfl)|(apply aD;rfl;rfl;rfl)|(apply aC;rfl;rfl)|(apply a8;rfl;rfl;rfl)|(apply aF;kernel_rfl)|(apply bW;rfl;rfl;rfl))|(apply aN;first|apply aI|apply aB|apply aK)|with_reducible apply aA)
 refine bC (σ := Nat × Nat) [1, 11, 12] [(1, _), (11, _), (12, _)] [] [] (fun k => [(13, iv (k.1 : Int)), (5, .v (.int .u64 (k.2 : Int)))]) (fun k => []) (fun k => k.1 ≤ pts.length ∧ k.2 = fV (fun l => eE pts[l]! && V.testBit (pts[l]!.y.toNat)) k.1) (fun k => pts.length - k.1) (0, 0) ⟨by omega, rfl⟩ rfl rfl (by repeat' (first|exact trivial|refine And.intro rfl ?_)) (by repeat' (exact trivial)) ?_
 rintro ⟨k, A⟩ ⟨hk, hA⟩
 dsimp only at hk hA ⊢
 have hsm : Sm A := hA ▸ dK (by omega)
 cases hln : eE pts[k]!
 ·repeat' (first | (apply aM; first | (apply aE;rfl;rfl) | (apply aY;rfl;rfl;(exact (rfl:_=[_, _, _, _, _]));rfl;rfl;rfl) | (apply bD;rfl;rfl;rfl;(assumption)) | (first | (apply bU;rfl;rfl;omega;rfl) | (apply aR;rfl;rfl;rfl;rfl)) | (apply aC;rfl;rfl) | (apply bF;rfl;(assumption);rfl;rfl) | (apply a7; (case hx | hi => rfl); (case hm => (omega)); (case hml => (rfl)); (case hα | hf | hg => infer_instance); (case hN => rfl)) | ((with_reducible apply aJ (k := 196)); (case ha => rfl); (case h => (apply l7 <;> (fail))); (case hp => (exact Pur.pf)); (case hN => rfl)) | (apply aF;kernel_rfl) | (apply bE;rfl;rfl) | (apply aW;rfl;rfl;rfl;rfl;rfl;(case hl => (simp;done));(exact (rfl:_=[_, _, _, _, _])))) | (apply aN; first | apply aI | apply aB | (apply cS;rfl;(rfl)) | (apply aO;rfl;all_goals intro hc;have hq:=hc;(try simp only [cF] at hq);try exfalso;omega) | apply aK | apply aS | apply bI | apply aQ) | with_reducible apply aA | with_reducible apply bJ | with_reducible apply aX | with_reducible apply bH | ((with_reducible apply aP); case hr => rfl))
  ·(apply dW (k + 1, A); focus (refine Le.ren [] rfl (by decide) ?_ ?_ <;> repeat' (first | exact trivial | refine And.intro ⟨_, rfl, ?_⟩ ?_ | refine Or.inl ⟨?_, (by first | rfl | exact aZ _ _)⟩ | rfl)))
   ·dsimp only
    exact ⟨by omega, by rw [hA]; exact mE _ _ (by rw [hln]; rfl)⟩
   ·dsimp only;omega
  ·(refine ⟨?_, rfl⟩; simp only [b9, AV.v.injEq, Value.bool.injEq, Value.int.injEq, true_and])
   rw [hA, show k = pts.length by omega]; rfl
 ·have hy := fun (h : k < pts.length) => xQ w h hln
  repeat' (first|(apply aM;first|(apply aE;rfl;rfl)|(first|(apply aL;rfl;rfl;rfl;rfl)|(apply aY;rfl;rfl;(exact (rfl:_=[_, _, _, _, _]));rfl;rfl;rfl))|(apply aD;rfl;rfl;rfl)|(apply a6;rfl;rfl;rfl;(assumption))|(first|(apply gJ;rfl;rfl;infer_instance;infer_instance;infer_instance;rfl)|(apply rF;rfl;rfl;infer_instance;infer_instance;rfl)|(apply j6;rfl;rfl;infer_instance;omega;rfl;(case' kk => intro hsm))|(apply rE;rfl;rfl;infer_instance;infer_instance;omega;rfl)|(apply bU;rfl;rfl;omega;rfl)|(apply aR;rfl;rfl;rfl;rfl))|(apply aC;rfl;rfl)|(apply bR;rfl;(assumption);rfl;rfl)|(apply a7;(case hx|hi => rfl);(case hm => (omega));(case hml => (rfl));(case hα | hf|hg => infer_instance);(case hN => rfl))|((with_reducible apply aJ (k := 196));(case ha => rfl);(case h => (apply l7 <;> (fail)));(case hp => (exact Pur.pf));(case hN => rfl))|(apply aF;kernel_rfl)|(apply bE;rfl;rfl)|(apply aW;rfl;rfl;rfl;rfl;rfl;(case hl => (simp;done));(exact (rfl:_=[_, _, _, _, _]))))|(apply aN;first|apply aI|apply aB|(apply aO;rfl;all_goals intro hc;have hq:=hc;(try simp only [cF] at hq);try exfalso;omega)|apply aK|apply aS|apply bI|apply aQ)|with_reducible apply aA|with_reducible apply bJ|with_reducible apply aX|with_reducible apply bH|((with_reducible apply aP);case hr => rfl))
  ·(apply dW (k + 1, _); focus (refine Le.ren [] rfl (by decide) ?_ ?_ <;> repeat' (first | exact trivial | refine And.intro ⟨_, rfl, ?_⟩ ?_ | refine Or.inl ⟨?_, (by first | rfl | exact aZ _ _)⟩ | rfl)))
   ·dsimp only
    exact ⟨by omega, by rw [hA]; exact p7 _ _ (by rw [hln, Bool.true_and]; exact (l5 _ _).1 hq)⟩
   ·dsimp only;omega
  ·(apply dW (k + 1, A); focus (refine Le.ren [] rfl (by decide) ?_ ?_ <;> repeat' (first | exact trivial | refine And.intro ⟨_, rfl, ?_⟩ ?_ | refine Or.inl ⟨?_, (by first | rfl | exact aZ _ _)⟩ | rfl)))
   ·dsimp only
    exact ⟨by omega, by rw [hA]; exact mE _ _ (by rw [hln, Bool.true_and]; cases hb : V.testBit (pts[k]!.y.toNat) with|false => rfl|true => exact absurd ((l5 _ _).2 hb) hq)⟩
   ·dsimp only;omega
  ·(refine ⟨?_, rfl⟩; simp only [b9, AV.v.injEq, Value.bool.injEq, Value.int.injEq, true_and])
   rw [hA, show k = pts.length by omega]; rfl
theorem Fx (ts : List Int) (bd : List AL.Stmt) (pts : List Pnt) (A : List Nat) (w : WG ts pts) (hA : wT ts pts A) : PC Tryz.prog 167 [aG ts bd pts] (fun r => r = .imm pts.length (aH cW A)) := by
 have hpl := w.pl
 have hp0 := w.p0
 have htl := w.tl
 have fl := LC w
 (refine aU Tryz.func167 rfl (by simp [Tryz.ntmps167]) ?_; rw [Tryz.ntmps167])
 repeat' (first|(apply aM;first|(apply aE;rfl;rfl)|(apply aL;rfl;rfl;rfl;rfl)|(apply aD;rfl;rfl;rfl)|(apply aC;rfl;rfl)|(apply a8;rfl;rfl;rfl)|(apply aF;kernel_rfl)|(apply bW;rfl;rfl;rfl)|(apply dV;rfl;rfl;rfl;omega;omega;(exact Ie);rfl;rfl))|(apply aN;first|apply aI|apply aB|apply aK)|with_reducible apply aA)
 refine bC (σ := List Nat × Bool) [0, 3] [(0, _), (3, _)] [] [] (fun s => [(4, bv s.2)]) (fun s => [(0, some (aH cW s.1))]) (fun s => SG pts (LA ts pts) s.1 ∧ (s.2 = false → lD nG (w6 ts pts) pts s.1)) (fun s => 2 * gD (s.1.map (fun a => 2 ^ pts.length - a)) + s.2.toNat) (List.replicate pts.length 0, true) ⟨Ch fun i hi => ⟨Nat.pow_pos (by decide), fun v h => by simp at h⟩, fun h => by cases h⟩ rfl rfl (by repeat' (first|exact trivial|refine And.intro rfl ?_)) (by repeat' (first|exact trivial|refine And.intro (.inr rfl) ?_)) ?_
 rintro ⟨s, b⟩ ⟨hS, hC⟩
 dsimp only at hS hC ⊢
 repeat' (first|(apply aM;first|(apply aE;rfl;rfl)|(apply aL;rfl;rfl;rfl;rfl)|(apply aD;rfl;rfl;rfl)|(apply aC;rfl;rfl)|(apply a8;rfl;rfl;rfl)|(apply aF;kernel_rfl)|(apply bW;rfl;rfl;rfl))|(apply aN;first|apply aI|apply aB|(apply aO;rfl;all_goals intro hc;have hq:=hc;(try simp only [cF] at hq);try exfalso;omega)|apply aK|apply aS|apply bI|apply aQ)|with_reducible apply aA|with_reducible apply bJ|with_reducible apply bH)
 ·refine bC (σ := Nat × (List Nat × Bool)) [0, 3, 20, 21] [(0, _), (3, _), (20, _), (21, _)] [] [] (fun k => [(22, iv (k.1 : Int)), (4, bv k.2.2)]) (fun k => [(0, some (aH cW k.2.1))]) (fun k => k.1 ≤ pts.length ∧ k.2 = (List.range k.1).foldl (yA nG (w6 ts pts) pts) (s, false) ∧ SG pts (LA ts pts) k.2.1) (fun k => pts.length - k.1) (0, (s, false)) ⟨by omega, rfl, hS⟩ rfl rfl (by repeat' (first | exact trivial | refine And.intro rfl ?_)) (by repeat' (first | exact trivial | refine And.intro (.inr rfl) ?_)) ?_
  rintro ⟨k, u, c⟩ ⟨hk, hf, hS2⟩
  dsimp only at hk hf hS2 ⊢
  have hul := hS2.1
  by_cases hkn : k < pts.length
  ·have hst := (w.set k hkn).1
   have hsm : ∀ z : Nat, Sm u[z]! := by
    intro z
    by_cases hz : z < pts.length
    ·exact ⟨Nat.lt_of_lt_of_le (hS2.2 z hz).1 (Nat.pow_le_pow_right (by decide) (by omega))⟩
    ·rw [getElem!_neg u z (by rw [hul]; exact hz)]; exact ⟨by decide⟩
   have hs1 : Sm (wS ts pts[k]! [2]) := dK (by omega)
   have hs2 : Sm (iF pts[k]!) := rC (by omega)
   have hs3 : ∀ V, Sm (qO pts V) := fun V => Fa w V
   have hnl := w.nl k hkn
   have e1 : eE pts[k]! = true → lU u[k]! (qO pts (wS ts pts[k]! [2] ||| iF pts[k]!)) ||| 2 ^ (k : Int).toNat = w6 ts pts k u[k]! := fun h => by unfold w6 KX;rw [if_pos h]; rfl
   have e0 : eE pts[k]! = false → lU u[k]! (qO pts (wS ts pts[k]! [2] ||| iF pts[k]!)) = w6 ts pts k u[k]! := fun h => by unfold w6 KX;rw [if_neg (by rw [h]; simp), Nat.or_zero]
   have hps : Sm (w6 ts pts k u[k]!) := ⟨Nat.lt_of_lt_of_le (Ck w hkn (hS2.2 k hkn).1) (Nat.pow_le_pow_right (by decide) (by omega))⟩
   repeat' (first|(apply aM;first|(apply aE;rfl;rfl)|(first|(apply eQ;(case hx|hH => rfl);(case hf|hg|hα => infer_instance);(case hk => omega);(case hc|hN => rfl))|(apply aL;rfl;rfl;rfl;rfl)|(apply aY;rfl;rfl;(exact (rfl:_=[_, _, _, _, _]));rfl;rfl;rfl))|(apply aD;rfl;rfl;rfl)|(first|(apply gJ;rfl;rfl;infer_instance;infer_instance;infer_instance;rfl)|(apply oF;rfl;rfl;infer_instance;infer_instance;infer_instance;rfl)|(apply j6;rfl;rfl;infer_instance;omega;rfl;(case' kk => intro hsm))|(apply aR;rfl;rfl;rfl;rfl))|(apply aC;rfl;rfl)|(first|(apply a7;(case hx|hi => rfl);(case hm => (assumption));(case hml => (rfl));(case hα | hf|hg => infer_instance);(case hN => rfl))|(apply cL;rfl;rfl;(assumption);rfl))|(first|((with_reducible apply aJ (k := 139));(case ha => rfl);(case h => (apply rN <;> (assumption)));(case hp => (exact Pur.pf));(case hN => rfl))|((with_reducible apply aJ (k := 174));(case ha => rfl);(case h => (apply oQ <;> (omega)));(case hp => (exact Pur.pf));(case hN => rfl))|((with_reducible apply aJ (k := 196));(case ha => rfl);(case h => (apply l7 <;> (fail)));(case hp => (exact Pur.pf));(case hN => rfl))|((with_reducible apply aJ (k := 198));(case ha => rfl);(case h => (apply y5 <;> (first|assumption|infer_instance)));(case hp => (exact Pur.pf));(case hN => rfl)))|(apply a8;rfl;rfl;rfl)|(apply aF;kernel_rfl)|(apply bE;rfl;rfl)|(apply aW;rfl;rfl;rfl;rfl;rfl;(case hl => (simp;done));(exact (rfl:_=[_, _, _, _, _]))))|(apply aN;first|apply aI|apply aB|(apply b8;kernel_rfl)|(apply aO;rfl;all_goals intro hc;have hq:=hc;(try simp only [cF] at hq);try exfalso;omega)|apply aK|apply aS)|with_reducible apply aA)
   all_goals first|rw [e1 (by assumption)]|rw [e0 (by assumption)]
   all_goals
    refine bC (σ := Nat × (List Nat × Bool)) [0, 3, 7, 20, 21, 22, 47, 48] [(0, _), (3, _), (7, _), (20, _), (21, _), (22, _), (47, _), (48, _)] [] [] (fun j => [(49, iv (j.1 : Int)), (4, bv j.2.2)]) (fun j => [(0, some (aH cW j.2.1))]) (fun j => j.1 ≤ pts[k]!.next.length ∧ j.2 = ((uR pts k).take j.1).foldl (k7 nG (w6 ts pts k u[k]!)) (u, c) ∧ SG pts (LA ts pts) j.2.1) (fun j => pts[k]!.next.length - j.1) (0, (u, c)) ⟨by omega, rfl, hS2⟩ rfl rfl (by repeat' (first|exact trivial|refine And.intro rfl ?_)) (by repeat' (first|exact trivial|refine And.intro (.inr rfl) ?_)) ?_
    rintro ⟨j, u2, c2⟩ ⟨hj, hf2, hS3⟩
    dsimp only at hj hf2 hS3 ⊢
    have hul2 := hS3.1
    have hsm2 : ∀ z : Nat, Sm u2[z]! := by
     intro z
     by_cases hz : z < pts.length
     ·exact ⟨Nat.lt_of_lt_of_le (hS3.2 z hz).1 (Nat.pow_le_pow_right (by decide) (by omega))⟩
     ·rw [getElem!_neg u2 z (by rw [hul2]; exact hz)]; exact ⟨by decide⟩
    have hz : j < pts[k]!.next.length → 0 ≤ pts[k]!.next[j]! ∧ pts[k]!.next[j]! < pts.length := fun h => w.nx k hkn _ (cA _ _ h)
    repeat' (first|(apply aM;first|(apply aE;rfl;rfl)|(first|(apply eQ;(case hx|hH => rfl);(case hf|hg|hα => infer_instance);(case hk => omega);(case hc|hN => rfl))|(apply aL;rfl;rfl;rfl;rfl))|(first|(apply gJ;rfl;rfl;infer_instance;infer_instance;infer_instance;rfl)|(apply bU;rfl;rfl;omega;rfl)|(apply aR;rfl;rfl;rfl;rfl))|(apply aC;rfl;rfl)|(first|(apply a7;(case hx|hi => rfl);(case hm => (omega));(case hml => (rfl));(case hα | hf|hg => infer_instance);(case hN => rfl))|(apply cP;rfl;rfl;(omega);rfl))|(apply aF;kernel_rfl)|(apply aW;rfl;rfl;rfl;rfl;rfl;(rw [aT]; simp only [gX] <;> omega);(exact oX (by (omega)))))|(apply aN;first|apply aI|apply aB|(apply b8;kernel_rfl)|(apply aO;rfl;all_goals intro hc;have hq:=hc;(try simp only [cF] at hq);try exfalso;omega)|apply aK|apply aS|apply bI)|with_reducible apply aA|with_reducible apply bJ|with_reducible apply aX|with_reducible apply bH)
    ·have hzz := hz (by omega)
     have hed : eB pts k (pts[k]!.next[j]!).toNat := ⟨hkn, by rw [Int.toNat_of_nonneg hzz.1]; exact cA _ _ (by omega)⟩
     have hne : nG u2[(pts[k]!.next[j]!).toNat]! (w6 ts pts k u[k]!) ≠ u2[(pts[k]!.next[j]!).toNat]! := fun h => hq (congrArg Int.ofNat h)
     (apply dW (j + 1, (_, true));focus (refine Le.ren [(0, 0)] rfl (by decide) ?_ ?_ <;> repeat' (first|exact trivial|refine And.intro ⟨_, rfl, ?_⟩ ?_|refine And.intro ⟨_, _, rfl, rfl, ?_⟩ ?_|exact Or.inr rfl|refine Or.inl ⟨?_, (by first|rfl|exact aZ _ _|exact Pur.pf)⟩|rfl)))
     ·dsimp only
      refine ⟨by omega, ?_, xG fl w (hS2.2 k hkn) hed hS3⟩
      rw [jJ (by omega), ← hf2, xB hne]
     ·dsimp only;omega
    ·have hzz := hz (by omega)
     have hne : nG u2[(pts[k]!.next[j]!).toNat]! (w6 ts pts k u[k]!) = u2[(pts[k]!.next[j]!).toNat]! := Int.ofNat.inj hq
     (apply dW (j + 1, (u2, c2));focus (refine Le.ren [(0, 0)] rfl (by decide) ?_ ?_ <;> repeat' (first|exact trivial|refine And.intro ⟨_, rfl, ?_⟩ ?_|refine And.intro ⟨_, _, rfl, rfl, ?_⟩ ?_|exact Or.inr rfl|refine Or.inl ⟨?_, (by first|rfl|exact aZ _ _|exact Pur.pf)⟩|rfl)))
     ·dsimp only
      refine ⟨by omega, ?_, hS3⟩
      rw [jJ (by omega), ← hf2, x6 hne]
     ·dsimp only;omega
    ·(apply dW (k + 1, (u2, c2)); focus (refine Le.ren [(0, 0)] rfl (by decide) ?_ ?_ <;> repeat' (first | exact trivial | refine And.intro ⟨_, rfl, ?_⟩ ?_ | refine And.intro ⟨_, _, rfl, rfl, ?_⟩ ?_ | exact Or.inr rfl | refine Or.inl ⟨?_, (by first | rfl | exact aZ _ _ | exact Pur.pf)⟩ | rfl)))
     ·dsimp only
      refine ⟨by omega, ?_, hS3⟩
      rw [e9, ← hf, hf2, List.take_of_length_le (by rw [lN]; omega)]; rfl
     ·dsimp only;omega
  ·repeat' (first | (apply aM; first | (apply aR;rfl;rfl;rfl;rfl) | (apply aF;kernel_rfl)) | (apply aN; first | apply aI | apply aB | (apply aO;rfl;all_goals intro hc;have hq:=hc;(try simp only [cF] at hq);try exfalso;omega) | apply bI) | with_reducible apply aA | with_reducible apply bJ | with_reducible apply aX | with_reducible apply bH)
   have law := tD w fl s false hS
   have hfull : (u, c) = yI nG (w6 ts pts) pts (s, false) := by
    rw [hf, show k = pts.length by omega]; rfl
   rw [← hfull] at law
   (apply dW (u, c);focus (refine Le.ren [(0, 0)] rfl (by decide) ?_ ?_ <;> repeat' (first|exact trivial|refine And.intro ⟨_, rfl, ?_⟩ ?_|refine And.intro ⟨_, _, rfl, rfl, ?_⟩ ?_|exact Or.inr rfl|refine Or.inl ⟨?_, (by first|rfl|exact aZ _ _|exact Pur.pf)⟩|rfl)))
   ·dsimp only
    refine ⟨hS2, fun h => ?_⟩
    rcases law.2 with ⟨e1, e2⟩ | ⟨e1, _⟩
    ·cases e1;exact e2
    ·dsimp only at e1;rw [h] at e1;cases e1
   ·dsimp only
    have hb : b = true := by assumption
    subst hb
    rcases law.2 with ⟨e1, e2⟩ | ⟨e1, e2⟩
    ·cases e1;simp
    ·dsimp only at e1 e2;subst e1;omega
 ·have hb : b = false := by assumption
  refine cE (Le.frzD (d := 2) (i := 0) rfl rfl) ?_
  refine aP rfl ⟨?_, (by (exact aZ _ _))⟩
  simp only [b9]
  rw [D8 hA (F8 w hS (hC hb))]
theorem BY (ts : List Int) (bd : List AL.Stmt) (pts : List Pnt) (i : Int) (f : List Nat) (w : WG ts pts) (hi : 0 ≤ i ∧ i < pts.length) (hf : f.length = 6) (hs : ∀ z : Nat, Sm f[z]!) : PC Tryz.prog 165 [aG ts bd pts, iv i, .agg (aH cW f)] (fun r => r = .agg (aH cW (w8 ts pts i.toNat f))) := by
 have hpl := w.pl
 have htl := w.tl
 have hin : i.toNat < pts.length := by omega
 have hst := (w.set i.toNat hin)
 have hy := w.y i.toNat hin
 have hbl := eC (wS ts pts[i.toNat]! [2])
 have hT : Sm (wS ts pts[i.toNat]! [2]) := dK (by omega)
 (refine aU Tryz.func165 rfl (by simp [Tryz.ntmps165]) ?_; rw [Tryz.ntmps165])
 repeat' (first|(apply aM;first|(apply aE;rfl;rfl)|(first|(apply aL;rfl;rfl;rfl;rfl)|(apply aY;rfl;rfl;(first|exact (rfl:_=[_, _, _, _, _])|rfl);rfl;rfl;rfl)|(apply jZ;rfl;rfl;(assumption);rfl;rfl))|(apply aD;rfl;rfl;rfl)|(apply dA;(case hx|hi => rfl);(case hm => (assumption));(case hml => (rfl));(case hα | hf|hg => infer_instance);(case hN => rfl))|(first|((with_reducible apply aJ (k := 100));(case ha => rfl);(case h => (apply hO <;> (assumption)));(case hp => (rfl));(case hN => rfl))|((with_reducible apply aJ (k := 139));(case ha => rfl);(case h => (apply rN <;> (assumption)));(case hp => (exact Pur.pf));(case hN => rfl)))|(apply a8;rfl;rfl;rfl)|(apply aF;kernel_rfl)|(apply bW;rfl;rfl;rfl)|(apply b0;rfl;rfl;rfl;rfl)|(apply bE;rfl;rfl)|(apply aW;rfl;rfl;rfl;rfl;rfl;(case hl => (simp;done));(exact (rfl:_=[_, _, _, _, _])))|(apply iI;rfl;rfl;rfl;(assumption);(rfl)))|(apply aN;first|apply aI|apply aB|apply aK)|with_reducible apply aA)
 refine bC (σ := Nat × List Nat) [0, 1, 5, 6, 7, 8, 23, 24] [(0, _), (1, _), (5, _), (6, _), (7, _), (8, _), (23, _), (24, _)] [0, 1, 2] [(0, some _), (1, some _), (2, some _)] (fun k => [(25, iv (k.1 : Int))]) (fun k => [(3, some (aH cW k.2))]) (fun k => k.1 ≤ (cO (wS ts pts[i.toNat]! [2])).length ∧ k.2 = nD ((cO (wS ts pts[i.toNat]! [2])).take k.1) f ∧ k.2.length = 6) (fun k => (cO (wS ts pts[i.toNat]! [2])).length - k.1) (0, f) ⟨by omega, rfl, hf⟩ rfl rfl (by repeat' (first|exact trivial|refine And.intro rfl ?_)) (by repeat' (first|exact trivial|refine And.intro (.inr rfl) ?_)) ?_
 rintro ⟨k, u⟩ ⟨hk, hu, hul⟩
 dsimp only at hk hu hul ⊢
 have hbb : k < (cO (wS ts pts[i.toNat]! [2])).length → 0 ≤ (cO (wS ts pts[i.toNat]! [2]))[k]! ∧ (cO (wS ts pts[i.toNat]! [2]))[k]! < ts.length := fun h => mC (wK (fun v => decide (bX ts pts[i.toNat]! v ∈ [2])) ts.length) h
 have husm : ∀ z : Nat, Sm u[z]! := by intro z;rw [hu]; exact Jk hs z
 have hset : ∀ (k a : Nat) [Sm a] (z : Nat), Sm (u.set k a)[z]! := fun k a h z => BM husm h z
 have hset2 : ∀ (k a k2 a2 : Nat) [Sm a] [Sm a2] (z : Nat), Sm ((u.set k a).set k2 a2)[z]! := fun k a k2 a2 h h2 z => BM (BM husm h) h2 z
 by_cases hkn : k < (cO (wS ts pts[i.toNat]! [2])).length
 ·have hbk := hbb hkn
  repeat' (first|(apply aM;first|(apply aE;rfl;rfl)|(apply aL;rfl;rfl;rfl;rfl)|(first|(apply bU;rfl;rfl;omega;rfl)|(apply aR;rfl;rfl;rfl;rfl))|(apply aC;rfl;rfl)|(first|(apply a7;(case hx|hi => rfl);(case hm => (assumption));(case hml => (rfl));(case hα | hf|hg => infer_instance);(case hN => rfl))|(apply iK;rfl;rfl;(omega);rfl;rfl))|(apply aF;kernel_rfl)|(apply aW;rfl;rfl;rfl;rfl;rfl;(rw [aT]; simp only [gX] <;> omega);(exact oX (by (omega)))))|(apply aN;first|apply aI|apply aB|(apply aO;rfl;all_goals intro hc;have hq:=hc;(try simp only [cF] at hq);try exfalso;omega)|apply aK|apply aS)|with_reducible apply aA|with_reducible apply aX)
  (apply Exists.intro (k + 1, u.set ((cO (wS ts pts[i.toNat]! [2]))[k]!).toNat 0);refine And.intro ?_ (And.intro ?_ ?_);rotate_left 2;focus (refine Le.ren [(0, 0), (1, 1), (2, 2), (3, 3)] rfl (by decide) ?_ ?_ <;> repeat' (first|exact trivial|refine And.intro ⟨_, rfl, ?_⟩ ?_|refine And.intro ⟨_, _, rfl, rfl, ?_⟩ ?_|exact Or.inr rfl|refine Or.inl ⟨?_, (by first|rfl|exact aZ _ _|exact Pur.pf)⟩|rfl)))
  ·dsimp only
   exact ⟨by omega, by rw [DS hkn, ← hu], by simpa using hul⟩
  ·dsimp only;omega
 ·have hu' : u = nD (cO (wS ts pts[i.toNat]! [2])) f := by rw [hu, List.take_of_length_le (by omega)]
  cases hln : eE pts[i.toNat]!
  ·repeat' (first | (apply aM; first | (apply aE;rfl;rfl) | (first | (apply eQ; (case hx | hH => rfl); (case hf | hg | hα => infer_instance); (case hk => omega); (case hc | hN => rfl)) | (apply aL;rfl;rfl;rfl;rfl) | (apply aY;rfl;rfl;(first | exact (rfl:_=[_, _, _, _, _]) | rfl);rfl;rfl;rfl) | (apply jZ;rfl;rfl;(first | assumption | (simp only [gX] <;> omega));rfl;rfl) | (apply pC;rfl;rfl;(exact LS);(simp only [gX] <;> omega);rfl)) | (apply aD;rfl;rfl;rfl) | (first | (apply a6;rfl;rfl;rfl;(rfl)) | (apply bD;rfl;rfl;rfl;(assumption))) | (first | (apply gJ;rfl;rfl;infer_instance;infer_instance;infer_instance;rfl) | (apply aR;rfl;rfl;rfl;rfl)) | (apply aC;rfl;rfl) | (apply bF;rfl;(first | rfl | assumption);rfl;rfl) | (apply iK;rfl;rfl;(omega);rfl;rfl) | (first | ((with_reducible apply aJ (k := 140)); (case ha => rfl); (case h => (apply xN <;> (fail))); (case hp => (exact Pur.pf)); (case hN => rfl)) | ((with_reducible apply aJ (k := 196)); (case ha => rfl); (case h => (apply l7 <;> (fail))); (case hp => (exact Pur.pf)); (case hN => rfl))) | (apply aF;kernel_rfl) | (apply aW;rfl;rfl;rfl;rfl;rfl;(rw [aT]; simp only [gX] <;> omega);(exact oX (by (first | omega | (simp only [gX] <;> omega))))) | (apply iI;rfl;rfl;rfl;(first | assumption | (simp only [gX] <;> omega));(rfl))) | (apply aN; first | apply aI | apply aB | (apply b8;kernel_rfl) | (apply cS;rfl;(assumption)) | (apply aO;rfl;all_goals intro hc;have hq:=hc;(try simp only [cF] at hq);try exfalso;omega) | apply aS | apply bI | apply aQ) | with_reducible apply aA | with_reducible apply bK | with_reducible apply bJ | with_reducible apply bH)
   all_goals (refine aP (nJ (z := 6) rfl rfl (by first|exact hul|(simp only [List.length_set]; exact hul)) (by decide)) ⟨?_, (by (exact aZ _ _))⟩)
   all_goals simp only [b9, w8, ← hu', hln, Bool.false_eq_true, false_and, false_or, if_false]
   all_goals congr 2
   all_goals grind
  ·have hop := Dc hln
   repeat' (first|(apply aM;first|(apply aE;rfl;rfl)|(first|(apply eQ;(case hx|hH => rfl);(case hf|hg|hα => infer_instance);(case hk => omega);(case hc|hN => rfl))|(apply aL;rfl;rfl;rfl;rfl)|(apply aY;rfl;rfl;(first|exact (rfl:_=[_, _, _, _, _])|rfl);rfl;rfl;rfl)|(apply jZ;rfl;rfl;(first|assumption|(simp only [gX] <;> omega));rfl;rfl)|(apply pC;rfl;rfl;(exact LS);(simp only [gX] <;> omega);rfl))|(apply aD;rfl;rfl;rfl)|(first|(apply a6;rfl;rfl;rfl;(assumption))|(apply bD;rfl;rfl;rfl;(assumption))|(apply bO;(case hj|hb|hN => rfl);all_goals (intro hg;have hq := hg;(try simp only [cF] at hq);(try (exfalso;omega)))))|(first|(apply gJ;rfl;rfl;infer_instance;infer_instance;infer_instance;rfl)|(apply j6;rfl;rfl;infer_instance;omega;rfl;(case' kk => intro hsm))|(apply aR;rfl;rfl;rfl;rfl))|(apply aC;rfl;rfl)|(first|(apply bR;rfl;(assumption);rfl;rfl)|(apply bF;rfl;(assumption);rfl;rfl))|(first|(apply dA;(case hx|hi => rfl);(case hm => (omega));(case hml => (rfl));(case hα | hf|hg => infer_instance);(case hN => rfl))|(apply iK;rfl;rfl;(omega);rfl;rfl))|(first|((with_reducible apply aJ (k := 140));(case ha => rfl);(case h => (apply xN <;> (fail)));(case hp => (exact Pur.pf));(case hN => rfl))|((with_reducible apply aJ (k := 196));(case ha => rfl);(case h => (apply l7 <;> (fail)));(case hp => (exact Pur.pf));(case hN => rfl))|((with_reducible apply aJ (k := 197));(case ha => rfl);(case h => (apply zU <;> (fail)));(case hp => (rfl));(case hN => rfl)))|(apply aF;kernel_rfl)|(apply bW;rfl;rfl;rfl)|(apply aW;rfl;rfl;rfl;rfl;rfl;(rw [aT]; simp only [gX] <;> omega);(exact oX (by (first|omega|(simp only [gX] <;> omega)))))|(apply iI;rfl;rfl;rfl;(first|assumption|(simp only [gX] <;> omega));(rfl)))|(apply aN;first|apply aI|apply aB|(apply b8;kernel_rfl)|(apply bZ;rfl;(first|rfl|assumption))|(apply aO;rfl;all_goals intro hc;have hq:=hc;(try simp only [cF] at hq);try exfalso;omega)|apply aS|apply bI|apply aQ)|with_reducible apply aA|with_reducible apply bK|with_reducible apply bJ|with_reducible apply bH)
   all_goals (refine aP (nJ (z := 6) rfl rfl (by first|exact hul|(simp only [List.length_set]; exact hul)) (by decide)) ⟨?_, (by (exact aZ _ _))⟩)
   all_goals simp only [b9, w8, ← hu', hln, true_and, if_true]
   all_goals congr 2
   all_goals grind
theorem Ec (ts : List Int) (bd : List AL.Stmt) (pts : List Pnt) (A : List Nat) (w : WG ts pts) (hA : vR ts pts A) : PC Tryz.prog 125 [aG ts bd pts] (fun r => r = .imm pts.length (aH cW A)) := by
 have hpl := w.pl
 have hp0 := w.p0
 have htl := w.tl
 (refine aU Tryz.func125 rfl (by simp [Tryz.ntmps125]) ?_; rw [Tryz.ntmps125])
 repeat' (first|(apply aM;first|(apply aE;rfl;rfl)|(apply aL;rfl;rfl;rfl;rfl)|(apply aD;rfl;rfl;rfl)|(apply aC;rfl;rfl)|(apply a8;rfl;rfl;rfl)|(apply aF;kernel_rfl)|(apply bW;rfl;rfl;rfl)|(apply dV;rfl;rfl;rfl;omega;omega;(exact Fs);rfl;rfl))|(apply aN;first|apply aI|apply aB|apply aK)|with_reducible apply aA)
 refine bC (σ := List Nat × Bool) [0, 3] [(0, _), (3, _)] [] [] (fun s => [(4, bv s.2)]) (fun s => [(0, some (aH cW s.1))]) (fun s => SF ts pts s.1 ∧ (s.2 = false → xM ts pts s.1)) (fun s => 2 * gD (s.1.map (fun x => 2 ^ pts.length - x)) + s.2.toNat) (List.replicate (pts.length * 6) 0, true) ⟨J3, fun h => by cases h⟩ rfl rfl (by repeat' (first|exact trivial|refine And.intro rfl ?_)) (by repeat' (first|exact trivial|refine And.intro (.inr rfl) ?_)) ?_
 rintro ⟨s, b⟩ ⟨hS, hC⟩
 dsimp only at hS hC ⊢
 repeat' (first|(apply aM;first|(apply aE;rfl;rfl)|(apply aL;rfl;rfl;rfl;rfl)|(apply aD;rfl;rfl;rfl)|(apply aC;rfl;rfl)|(apply a8;rfl;rfl;rfl)|(apply aF;kernel_rfl)|(apply bW;rfl;rfl;rfl))|(apply aN;first|apply aI|apply aB|(apply aO;rfl;all_goals intro hc;have hq:=hc;(try simp only [cF] at hq);try exfalso;omega)|apply aK|apply aS|apply bI|apply aQ)|with_reducible apply aA|with_reducible apply bJ|with_reducible apply bH)
 ·refine bC (σ := Nat × (List Nat × Bool)) [0, 3, 22, 23] [(0, _), (3, _), (22, _), (23, _)] [] [] (fun k => [(24, iv (k.1 : Int)), (4, bv k.2.2)]) (fun k => [(0, some (aH cW k.2.1))]) (fun k => k.1 ≤ pts.length ∧ k.2 = (List.range k.1).foldl (BX ts pts) (s, false) ∧ SF ts pts k.2.1) (fun k => pts.length - k.1) (0, (s, false)) ⟨by omega, rfl, hS⟩ rfl rfl (by repeat' (first | exact trivial | refine And.intro rfl ?_)) (by repeat' (first | exact trivial | refine And.intro (.inr rfl) ?_)) ?_
  rintro ⟨i, u, c⟩ ⟨hk, hf, hS2⟩
  dsimp only at hk hf hS2 ⊢
  have hul := hS2.1
  have hsm : ∀ z : Nat, Sm u[z]! := I3 w hS2
  by_cases hin : i < pts.length
  ·have hnl := w.nl i hin
   have hrl : ((u.drop (i * 6)).take 6).length = 6 := gT hul hin
   have hrs : ∀ z : Nat, Sm ((u.drop (i * 6)).take 6)[z]! := by
    intro z
    by_cases hz : z < 6
    ·have := gF hul hin hz;unfold fN at this;rw [this]; exact hsm _
    ·rw [getElem!_neg _ z (by rw [hrl]; exact hz)]; exact ⟨by decide⟩
   have hcl : (w8 ts pts (i : Int).toNat ((u.drop (i * 6)).take 6)).length = 6 := (Im ts pts i ((u.drop (i * 6)).take 6)).trans hrl
   repeat' (first|(apply aM;first|(apply aE;rfl;rfl)|(first|(apply aL;rfl;rfl;rfl;rfl)|(apply aY;rfl;rfl;(first|exact (rfl:_=[_, _, _, _, _])|rfl);rfl;rfl;rfl)|(apply AY;rfl;rfl;(omega);rfl;rfl))|(apply aD;rfl;rfl;rfl)|(apply aR;rfl;rfl;rfl;rfl)|(apply aC;rfl;rfl)|(first|(apply a7;(case hx|hi => rfl);(case hm => (assumption));(case hml => (rfl));(case hα | hf|hg => infer_instance);(case hN => rfl))|(apply cL;rfl;rfl;(assumption);rfl))|((with_reducible apply aJ (k := 165));(case ha => rfl);(case h => (apply BY <;> (first|assumption|omega)));(case hp => (exact Pur.pf));(case hN => rfl))|(apply a8;rfl;rfl;rfl)|(apply aF;kernel_rfl)|(apply bE;rfl;rfl)|(apply aW;rfl;rfl;rfl;rfl;rfl;(case hl => (simp;done));(exact (rfl:_=[_, _, _, _, _])))|(apply iI;rfl;rfl;rfl;(assumption);(rfl)))|(apply aN;first|apply aI|apply aB|(apply aO;rfl;all_goals intro hc;have hq:=hc;(try simp only [cF] at hq);try exfalso;omega)|apply aK|apply aS)|with_reducible apply aA)
   generalize hcf : w8 ts pts (i : Int).toNat ((u.drop (i * 6)).take 6) = a at hcl
   have hcf' : w8 ts pts i (fN u i) = a := hcf
   have hasnd : ∀ k, eB pts i k → ∀ v, v < 6 → Lp ts pts k v a[v]! := fun k e v hv => by rw [← hcf']; exact Db w hS2 e hv
   refine bC (σ := Nat × (List Nat × Bool)) [0, 3, 7, 22, 23, 24, 37, 38] [(0, _), (3, _), (7, _), (22, _), (23, _), (24, _), (37, _), (38, _)] [2] [(2, some _)] (fun j => [(39, iv (j.1 : Int)), (4, bv j.2.2)]) (fun j => [(0, some (aH cW j.2.1))]) (fun j => j.1 ≤ pts[i]!.next.length ∧ j.2 = ((uR pts i).take j.1).foldl (uW a) (u, c) ∧ SF ts pts j.2.1) (fun j => pts[i]!.next.length - j.1) (0, (u, c)) ⟨by omega, rfl, hS2⟩ rfl rfl (by repeat' (first|exact trivial|refine And.intro rfl ?_)) (by repeat' (first|exact trivial|refine And.intro (.inr rfl) ?_)) ?_
   rintro ⟨j, u2, c2⟩ ⟨hj, hf2, hS3⟩
   dsimp only at hj hf2 hS3 ⊢
   have hul2 := hS3.1
   by_cases hjn : j < pts[i]!.next.length
   ·have hzz : 0 ≤ pts[i]!.next[j]! ∧ pts[i]!.next[j]! < pts.length := w.nx i hin _ (cA _ _ hjn)
    have hed : eB pts i (pts[i]!.next[j]!).toNat := ⟨hin, by rw [Int.toNat_of_nonneg hzz.1]; exact cA _ _ hjn⟩
    have hap := hasnd _ hed
    have hasm : ∀ z : Nat, Sm a[z]! := by
     intro z
     by_cases hz : z < 6
     ·exact ⟨Nat.lt_of_lt_of_le (hap z hz).1 (Nat.pow_le_pow_right (by decide) (by omega))⟩
     ·rw [getElem!_neg a z (by rw [hcl]; exact hz)]; exact ⟨by decide⟩
    repeat' (first|(apply aM;first|(apply aE;rfl;rfl)|(first|(apply aL;rfl;rfl;rfl;rfl)|(apply jZ;rfl;rfl;(assumption);rfl;rfl))|(apply aR;rfl;rfl;rfl;rfl)|(apply aC;rfl;rfl)|(apply a7;(case hx|hi => rfl);(case hm => (assumption));(case hml => (rfl));(case hα | hf|hg => infer_instance);(case hN => rfl))|(apply aF;kernel_rfl))|(apply aN;first|apply aI|apply aB|(apply aO;rfl;all_goals intro hc;have hq:=hc;(try simp only [cF] at hq);try exfalso;omega)|apply aK|apply aS)|with_reducible apply aA)
    refine bC (σ := Nat × (List Nat × Bool)) [0, 3, 7, 9, 22, 23, 24, 37, 38, 39, 43] [(0, _), (3, _), (7, _), (9, _), (22, _), (23, _), (24, _), (37, _), (38, _), (39, _), (43, _)] [2] [(2, some _)] (fun v => [(44, iv (v.1 : Int)), (4, bv v.2.2)]) (fun v => [(0, some (aH cW v.2.1))]) (fun v => v.1 ≤ 6 ∧ v.2 = (List.range v.1).foldl (pM a (pts[i]!.next[j]!).toNat) (u2, c2) ∧ SF ts pts v.2.1) (fun v => 6 - v.1) (0, (u2, c2)) ⟨by omega, rfl, hS3⟩ rfl rfl (by repeat' (first|exact trivial|refine And.intro rfl ?_)) (by repeat' (first|exact trivial|refine And.intro (.inr rfl) ?_)) ?_
    rintro ⟨v, u3, c3⟩ ⟨hv, hf3, hS4⟩
    dsimp only at hv hf3 hS4 ⊢
    have hul3 := hS4.1
    have hsm3 : ∀ z : Nat, Sm u3[z]! := I3 w hS4
    by_cases hvn : v < 6
    ·have hlaw := zI (gG w hed) hap u3 c3 v hvn hS4
     repeat' (first|(apply aM;first|(apply aE;rfl;rfl)|(apply pC;rfl;rfl;(exact My);(omega);rfl)|(first|(apply gJ;rfl;rfl;infer_instance;infer_instance;infer_instance;rfl)|(apply bU;rfl;rfl;omega;rfl)|(apply aR;rfl;rfl;rfl;rfl))|(apply aC;rfl;rfl)|(first|(apply cP;rfl;rfl;(assumption);rfl)|(apply iK;rfl;rfl;(omega);rfl;rfl))|(apply aF;kernel_rfl)|(apply BF;rfl;rfl;(assumption);omega;rfl)|(apply aW;rfl;rfl;rfl;rfl;rfl;(rw [aT]; simp only [gX] <;> omega);(exact Gu (by (omega)))))|(apply aN;first|apply aI|apply aB|(apply b8;kernel_rfl)|(apply aO;rfl;all_goals intro hc;have hq:=hc;(try simp only [cF] at hq);try exfalso;omega)|apply aK|apply aS)|with_reducible apply aA|with_reducible apply aX)
     ·have hne : nG u3[(pts[i]!.next[j]!).toNat * 6 + v]! a[v]! ≠ u3[(pts[i]!.next[j]!).toNat * 6 + v]! := fun h => hq (congrArg Int.ofNat h)
      have e1 : pM a (pts[i]!.next[j]!).toNat (u3, c3) v = (u3.set ((pts[i]!.next[j]!).toNat * 6 + v) (nG u3[(pts[i]!.next[j]!).toNat * 6 + v]! a[v]!), true) := xB hne
      rw [e1] at hlaw
      (apply dW (v + 1, (_, true));focus (refine Le.ren [(0, 0), (2, 2)] rfl (by decide) ?_ ?_ <;> repeat' (first|exact trivial|refine And.intro ⟨_, rfl, ?_⟩ ?_|refine And.intro ⟨_, _, rfl, rfl, ?_⟩ ?_|exact Or.inr rfl|refine Or.inl ⟨?_, (by first|rfl|exact aZ _ _|exact Pur.pf)⟩|rfl)))
      ·dsimp only
       refine ⟨by omega, ?_, hlaw.1⟩
       rw [vD, ← hf3, e1]; rfl
      ·dsimp only;omega
     ·have hne : nG u3[(pts[i]!.next[j]!).toNat * 6 + v]! a[v]! = u3[(pts[i]!.next[j]!).toNat * 6 + v]! := Int.ofNat.inj hq
      have e1 : pM a (pts[i]!.next[j]!).toNat (u3, c3) v = (u3, c3) := x6 hne
      (apply dW (v + 1, (u3, c3));focus (refine Le.ren [(0, 0), (2, 2)] rfl (by decide) ?_ ?_ <;> repeat' (first|exact trivial|refine And.intro ⟨_, rfl, ?_⟩ ?_|refine And.intro ⟨_, _, rfl, rfl, ?_⟩ ?_|exact Or.inr rfl|refine Or.inl ⟨?_, (by first|rfl|exact aZ _ _|exact Pur.pf)⟩|rfl)))
      ·dsimp only
       refine ⟨by omega, ?_, hS4⟩
       rw [vD, ← hf3, e1]
      ·dsimp only;omega
    ·have hv6 : v = 6 := by omega
     subst hv6
     repeat' (first|(apply aM;first|(apply aE;rfl;rfl)|(first|(apply bU;rfl;rfl;omega;rfl)|(apply aR;rfl;rfl;rfl;rfl))|(apply aF;kernel_rfl))|(apply aN;first|apply aI|apply aB|(apply cS;rfl;(rfl))|apply bI)|with_reducible apply aA|with_reducible apply bJ|with_reducible apply aX|with_reducible apply bH)
     (apply dW (j + 1, (u3, c3));focus (refine Le.ren [(0, 0), (2, 2)] rfl (by decide) ?_ ?_ <;> repeat' (first|exact trivial|refine And.intro ⟨_, rfl, ?_⟩ ?_|refine And.intro ⟨_, _, rfl, rfl, ?_⟩ ?_|exact Or.inr rfl|refine Or.inl ⟨?_, (by first|rfl|exact aZ _ _|exact Pur.pf)⟩|rfl)))
     ·dsimp only
      refine ⟨by omega, ?_, hS4⟩
      rw [EB hjn, ← hf2, hf3]; rfl
     ·dsimp only;omega
   ·repeat' (first | (apply aM; first | (apply aE;rfl;rfl) | (first | (apply bU;rfl;rfl;omega;rfl) | (apply aR;rfl;rfl;rfl;rfl)) | (apply aF;kernel_rfl)) | (apply aN; first | apply aI | apply aB | (apply aO;rfl;all_goals intro hc;have hq:=hc;(try simp only [cF] at hq);try exfalso;omega) | apply bI) | with_reducible apply aA | with_reducible apply bJ | with_reducible apply aX | with_reducible apply bH)
    (apply dW (i + 1, (u2, c2));focus (refine Le.ren [(0, 0)] rfl (by decide) ?_ ?_ <;> repeat' (first|exact trivial|refine And.intro ⟨_, rfl, ?_⟩ ?_|refine And.intro ⟨_, _, rfl, rfl, ?_⟩ ?_|exact Or.inr rfl|refine Or.inl ⟨?_, (by first|rfl|exact aZ _ _|exact Pur.pf)⟩|rfl)))
    ·dsimp only
     refine ⟨by omega, ?_, hS3⟩
     rw [e9, ← hf, hf2, List.take_of_length_le (by rw [lN]; omega), ← hcf']; rfl
    ·dsimp only;omega
  ·repeat' (first | (apply aM; first | (apply aR;rfl;rfl;rfl;rfl) | (apply aF;kernel_rfl)) | (apply aN; first | apply aI | apply aB | (apply aO;rfl;all_goals intro hc;have hq:=hc;(try simp only [cF] at hq);try exfalso;omega) | apply bI) | with_reducible apply aA | with_reducible apply bJ | with_reducible apply aX | with_reducible apply bH)
   have law := GR w s false hS
   have hfull : (u, c) = Gr ts pts (s, false) := by
    rw [hf, show i = pts.length by omega]; rfl
   rw [← hfull] at law
   (apply dW (u, c);focus (refine Le.ren [(0, 0)] rfl (by decide) ?_ ?_ <;> repeat' (first|exact trivial|refine And.intro ⟨_, rfl, ?_⟩ ?_|refine And.intro ⟨_, _, rfl, rfl, ?_⟩ ?_|exact Or.inr rfl|refine Or.inl ⟨?_, (by first|rfl|exact aZ _ _|exact Pur.pf)⟩|rfl)))
   ·dsimp only
    refine ⟨hS2, fun h => ?_⟩
    rcases law.2 with ⟨e1, e2⟩ | ⟨e1, _⟩
    ·cases e1;exact e2
    ·dsimp only at e1;rw [h] at e1;cases e1
   ·dsimp only
    have hb : b = true := by assumption
    subst hb
    rcases law.2 with ⟨e1, e2⟩ | ⟨e1, e2⟩
    ·cases e1;simp
    ·dsimp only at e1 e2;subst e1;omega
 ·have hb : b = false := by assumption
  refine cE (Le.frzD (d := 2) (i := 0) rfl rfl) ?_
  refine aP rfl ⟨?_, (by (exact aZ _ _))⟩
  simp only [b9]
  rw [DH hA (Gz w hS (hC hb))]
theorem J7 (ts : List Int) (bd : List AL.Stmt) (pts : List Pnt) (i : Int) (lv : Nat) (f : List Nat) (w : WG ts pts) (hi : 0 ≤ i ∧ i < pts.length) (hlv : lv < 2 ^ ts.length) (hf : f.length = 6) (hs : ∀ z : Nat, Sm f[z]!) : PC Tryz.prog 169 [aG ts bd pts, iv i, iv (lv : Int), .agg (aH cW f)] (fun r => r = .v (.int .u64 (vB ts pts[i.toNat]! lv f : Nat))) := by
 have hpl := w.pl
 have htl := w.tl
 have hin : i.toNat < pts.length := by omega
 have hst := (w.set i.toNat hin)
 have hsl : Sm lv := ⟨Nat.lt_of_lt_of_le hlv (Nat.pow_le_pow_right (by decide) (by omega))⟩
 have hT : Sm (wS ts pts[i.toNat]! [2]) := dK (by omega)
 have hB : Sm (iF pts[i.toNat]!) := rC (by omega)
 have hbl := eC (lU lv (wS ts pts[i.toNat]! [2] ||| iF pts[i.toNat]!))
 have hlt : lU lv (wS ts pts[i.toNat]! [2] ||| iF pts[i.toNat]!) < 2 ^ ts.length := Nat.xor_lt_two_pow hlv (Nat.lt_of_le_of_lt Nat.and_le_left hlv)
 (refine aU Tryz.func169 rfl (by simp [Tryz.ntmps169]) ?_; rw [Tryz.ntmps169])
 repeat' (first|(apply aM;first|(apply aE;rfl;rfl)|(first|(apply aL;rfl;rfl;rfl;rfl)|(apply aY;rfl;rfl;(exact (rfl:_=[_, _, _, _, _]));rfl;rfl;rfl))|(apply aD;rfl;rfl;rfl)|(first|(apply gJ;rfl;rfl;infer_instance;infer_instance;infer_instance;rfl)|(apply oF;rfl;rfl;infer_instance;infer_instance;infer_instance;rfl))|(apply aC;rfl;rfl)|(apply dA;(case hx|hi => rfl);(case hm => (assumption));(case hml => (rfl));(case hα | hf|hg => infer_instance);(case hN => rfl))|(first|((with_reducible apply aJ (k := 100));(case ha => rfl);(case h => (apply hO <;> (infer_instance)));(case hp => (rfl));(case hN => rfl))|((with_reducible apply aJ (k := 139));(case ha => rfl);(case h => (apply rN <;> (assumption)));(case hp => (exact Pur.pf));(case hN => rfl))|((with_reducible apply aJ (k := 174));(case ha => rfl);(case h => (apply oQ <;> (omega)));(case hp => (exact Pur.pf));(case hN => rfl)))|(apply a8;rfl;rfl;rfl)|(apply aF;kernel_rfl)|(apply bW;rfl;rfl;rfl)|(apply b0;rfl;rfl;rfl;rfl)|(apply bE;rfl;rfl)|(apply aW;rfl;rfl;rfl;rfl;rfl;(case hl => (simp;done));(exact (rfl:_=[_, _, _, _, _]))))|(apply aN;first|apply aI|apply aB|(apply b8;kernel_rfl)|apply aK)|with_reducible apply aA)
 refine bC (σ := Nat × Nat) [7, 28, 29] [(7, _), (28, _), (29, _)] [0] [(0, some _)] (fun k => [(30, iv (k.1 : Int)), (10, .v (.int .u64 (k.2 : Int)))]) (fun k => []) (fun k => k.1 ≤ (cO (lU lv (wS ts pts[i.toNat]! [2] ||| iF pts[i.toNat]!))).length ∧ k.2 = Lf f ((cO (lU lv (wS ts pts[i.toNat]! [2] ||| iF pts[i.toNat]!))).take k.1) 0 ∧ Sm k.2) (fun k => (cO (lU lv (wS ts pts[i.toNat]! [2] ||| iF pts[i.toNat]!))).length - k.1) (0, 0) ⟨by omega, rfl, inferInstance⟩ rfl rfl (by repeat' (first|exact trivial|refine And.intro rfl ?_)) (by repeat' (exact trivial)) ?_
 rintro ⟨k, a⟩ ⟨hk, ha, hsa⟩
 dsimp only at hk ha hsa ⊢
 have hbb : k < (cO (lU lv (wS ts pts[i.toNat]! [2] ||| iF pts[i.toNat]!))).length → 0 ≤ (cO (lU lv (wS ts pts[i.toNat]! [2] ||| iF pts[i.toNat]!)))[k]! ∧ (cO (lU lv (wS ts pts[i.toNat]! [2] ||| iF pts[i.toNat]!)))[k]! < ts.length := fun h => mC hlt h
 repeat' (first|(apply aM;first|(apply aE;rfl;rfl)|(first|(apply eQ;(case hx|hH => rfl);(case hf|hg|hα => infer_instance);(case hk => omega);(case hc|hN => rfl))|(apply aL;rfl;rfl;rfl;rfl))|(first|(apply gJ;rfl;rfl;infer_instance;infer_instance;infer_instance;rfl)|(apply bU;rfl;rfl;omega;rfl)|(apply aR;rfl;rfl;rfl;rfl))|(apply aC;rfl;rfl)|(first|(apply a7;(case hx|hi => rfl);(case hm => (omega));(case hml => (rfl));(case hα | hf|hg => infer_instance);(case hN => rfl))|(apply iK;rfl;rfl;(omega);rfl;rfl))|(apply aF;kernel_rfl))|(apply aN;first|apply aI|apply aB|(apply aO;rfl;all_goals intro hc;have hq:=hc;(try simp only [cF] at hq);try exfalso;omega)|apply aK|apply aS|apply bI|apply aQ)|with_reducible apply aA|with_reducible apply bJ|with_reducible apply aX|with_reducible apply bH)
 ·(apply dW (k + 1, _); focus (refine Le.ren [(0, 0)] rfl (by decide) ?_ ?_ <;> repeat' (first | exact trivial | refine And.intro ⟨_, rfl, ?_⟩ ?_ | refine And.intro ⟨_, _, rfl, rfl, ?_⟩ ?_ | exact Or.inr rfl | refine Or.inl ⟨?_, (by first | rfl | exact aZ _ _)⟩ | rfl)))
  ·dsimp only
   refine ⟨by omega, ?_, inferInstance⟩
   rw [ha]; unfold Lf;rw [fK _ _ _ _ (by omega)]
  ·dsimp only;omega
 ·refine aP rfl ⟨?_, rfl⟩
  simp only [b9]
  rw [ha, List.take_of_length_le (by omega)]; rfl
theorem By (ts : List Int) (bd : List AL.Stmt) (pts : List Pnt) (x : Pnt) (mb : Nat) (htl : ts.length ≤ 6) (hmb : Sm mb) (hst : bG x < ts.length) (hy : 0 ≤ x.y ∧ (3 ≤ x.op → x.op ≤ 7 → x.y < ts.length)) : PC Tryz.prog 199 [aG ts bd pts, iG x, iv (mb : Int)] (fun r => r = sl Iy (kF ts x (mb.testBit (bG x).toNat))) := by
 (refine aU Tryz.func199 rfl (by simp [Tryz.ntmps199]) ?_; rw [Tryz.ntmps199])
 repeat' (first|(apply aM;first|((apply fX (d := 7) (e := 2));(case hM|hN => rfl))|(apply aE;rfl;rfl)|(first|(apply aL;rfl;rfl;rfl;rfl)|(apply aY;rfl;rfl;(exact (rfl:_=[_, _, _, _, _]));rfl;rfl;rfl))|(apply aD;rfl;rfl;rfl)|(first|(apply a6;rfl;rfl;rfl;(assumption))|(apply bD;rfl;rfl;rfl;(first|rfl|assumption))|(apply bO;(case hj|hb|hN => rfl);all_goals (intro hg;have hq := hg;(try simp only [cF] at hq);(try (exfalso;omega)))))|(first|(apply rF;rfl;rfl;infer_instance;infer_instance;rfl)|(apply rE;rfl;rfl;infer_instance;infer_instance;omega;rfl)|(apply aR;rfl;rfl;rfl;rfl))|(apply aC;rfl;rfl)|(first|(apply bR;rfl;(assumption);rfl;rfl)|(apply bF;rfl;(first|rfl|assumption);rfl;rfl))|(apply dA;(case hx|hi => rfl);(case hm => (omega));(case hml => (rfl));(case hα | hf|hg => infer_instance);(case hN => rfl))|(first|((with_reducible apply aJ (k := 140));(case ha => rfl);(case h => (apply xN <;> (fail)));(case hp => (exact Pur.pf));(case hN => rfl))|((with_reducible apply aJ (k := 154));(case ha => rfl);(case h => (apply x7 <;> (omega)));(case hp => (exact Pur.pf));(case hN => rfl)))|(apply cH;rfl;rfl;rfl;rfl;rfl;(case hl => (simp [aT]; done));(rfl);omega;omega;(first|exact (rfl:_=[_, _])|exact (rfl:_=[_, _, _, _]));rfl;rfl)|(apply aF;kernel_rfl)|(apply bV;rfl;(exact (rfl:_=some [_, _]));(exact (rfl:_=[_, _]));rfl)|(apply bW;rfl;rfl;rfl)|(apply b0;rfl;rfl;rfl;rfl)|(apply cG;rfl;rfl;rfl;(exact (rfl:_=some [_, _]));rfl;rfl))|(apply aN;first|apply aI|apply aB|(apply bZ;rfl;(assumption))|(apply cS;rfl;(rfl))|(apply aO;rfl;all_goals intro hc;have hq:=hc;(try simp only [cF] at hq);try exfalso;omega)|apply aK|apply aS|apply aQ)|with_reducible apply aA|with_reducible apply aX)
 all_goals first|refine cE (Le.frzD (d := 6) (i := 1) rfl rfl) ?_|refine cE (Le.frzD (d := 6) (i := 3) rfl rfl) ?_|refine cE (Le.frzD (d := 6) (i := 5) rfl rfl) ?_
 all_goals refine aP rfl ⟨?_, (by (rfl))⟩
 all_goals simp only [b9, kF]
 all_goals have h1 := l5 mb (bG x).toNat
 all_goals (try (rw [if_neg (show ¬ (0 ≤ bG x ∧ ts[(bG x).toNat]! = 2 ∧ mb.testBit (bG x).toNat = true) from fun h => by omega)]))
 all_goals (simp_all <;> rfl)
theorem Ea (ts : List Int) (bd : List AL.Stmt) (pts : List Pnt) (i : Int) (mb loans : Nat) (w : WG ts pts) (hi : 0 ≤ i ∧ i < pts.length) (hmb : Sm mb) (hlo : loans < 2 ^ pts.length) : PC Tryz.prog 168 [aG ts bd pts, iv i, iv (mb : Int), .v (.int .u64 (loans : Int))] (fun r => r = .v (.int .u64 (G4 pts loans (kF ts pts[i.toNat]! (mb.testBit (bG pts[i.toNat]!).toNat)) 0 : Nat))) := by
 have hpl := w.pl
 have htl := w.tl
 have hin : i.toNat < pts.length := by omega
 have hst := (w.set i.toNat hin).1
 have hy := w.y i.toNat hin
 have hx := w.x i.toNat hin
 have hop := w.op i.toNat hin
 have hlsm : Sm loans := ⟨Nat.lt_of_lt_of_le hlo (Nat.pow_le_pow_right (by decide) (by omega))⟩
 have hacc := xA (mb.testBit (bG pts[i.toNat]!).toNat) w hin
 have hal := ES ts pts[i.toNat]! (mb.testBit (bG pts[i.toNat]!).toNat)
 (refine aU Tryz.func168 rfl (by simp [Tryz.ntmps168]) ?_; rw [Tryz.ntmps168])
 repeat' (first|(apply aM;first|(apply aE;rfl;rfl)|(first|(apply aL;rfl;rfl;rfl;rfl)|(apply aY;rfl;rfl;(exact (rfl:_=[_, _, _, _, _]));rfl;rfl;rfl))|(apply aD;rfl;rfl;rfl)|(apply aC;rfl;rfl)|(apply dA;(case hx|hi => rfl);(case hm => (assumption));(case hml => (rfl));(case hα | hf|hg => infer_instance);(case hN => rfl))|((with_reducible apply aJ (k := 199));(case ha => rfl);(case h => (apply By <;> (assumption)));(case hp => (exact Pur.pf));(case hN => rfl))|(apply a8;rfl;rfl;rfl)|(apply aF;kernel_rfl)|(apply bW;rfl;rfl;rfl))|(apply aN;first|apply aI|apply aB|apply aK)|with_reducible apply aA)
 generalize kF ts pts[i.toNat]! (mb.testBit (bG pts[i.toNat]!).toNat) = acs at hacc hal
 refine bC (σ := Nat × Nat) [0, 3, 23, 24] [(0, _), (3, _), (23, _), (24, _)] [] [] (fun k => [(25, iv (k.1 : Int)), (9, .v (.int .u64 (k.2 : Int)))]) (fun k => []) (fun k => k.1 ≤ acs.length ∧ k.2 = G4 pts loans (acs.take k.1) 0 ∧ k.2 < 2 ^ pts.length) (fun k => acs.length - k.1) (0, 0) ⟨by omega, rfl, Nat.pow_pos (by decide)⟩ rfl rfl (by repeat' (first|exact trivial|refine And.intro rfl ?_)) (by repeat' (exact trivial)) ?_
 rintro ⟨k, a⟩ ⟨hk, ha, hab⟩
 dsimp only at hk ha hab ⊢
 by_cases hkn : k < acs.length
 ·have hcv := hacc _ (cA acs k hkn)
  have hof : ∀ V, Sm (qO pts V) := fun V => Fa w V
  have hll := eC (loans &&& qO pts (2 ^ (acs[k]!.var).toNat))
  have hlb : loans &&& qO pts (2 ^ (acs[k]!.var).toNat) < 2 ^ pts.length := Nat.lt_of_le_of_lt Nat.and_le_left hlo
  have htk := fK (fun a c => It pts c.write (cO (loans &&& qO pts (2 ^ c.var.toNat))) a) acs 0 k hkn
  repeat' (first|(apply aM;first|(apply aE;rfl;rfl)|(first|(apply aL;rfl;rfl;rfl;rfl)|(apply aY;rfl;rfl;(exact (rfl:_=[_, _]));rfl;rfl;rfl))|(apply aD;rfl;rfl;rfl)|(first|(apply yE;rfl;rfl;infer_instance;infer_instance;infer_instance;rfl)|(apply j6;rfl;rfl;infer_instance;omega;rfl;(case' kk => intro hsm))|(apply aR;rfl;rfl;rfl;rfl))|(apply a7;(case hx|hi => rfl);(case hm => (assumption));(case hml => (rfl));(case hα | hf|hg => infer_instance);(case hN => rfl))|(first|((with_reducible apply aJ (k := 92));(case ha => rfl);(case h => (apply rV <;> (infer_instance)));(case hp => (rfl));(case hN => rfl))|((with_reducible apply aJ (k := 198));(case ha => rfl);(case h => (apply y5 <;> (assumption)));(case hp => (exact Pur.pf));(case hN => rfl)))|(apply a8;rfl;rfl;rfl)|(apply aF;kernel_rfl)|(apply bE;rfl;rfl)|(apply aW;rfl;rfl;rfl;rfl;rfl;(case hl => (simp;done));(exact (rfl:_=[_, _]))))|(apply aN;first|apply aI|apply aB|(apply aO;rfl;all_goals intro hc;have hq:=hc;(try simp only [cF] at hq);try exfalso;omega)|apply aK|apply aS)|with_reducible apply aA)
  refine bC (σ := Nat × Nat) [0, 3, 11, 23, 24, 25, 36, 37] [(0, _), (3, _), (11, _), (23, _), (24, _), (25, _), (36, _), (37, _)] [0] [(0, some _)] (fun j => [(38, iv (j.1 : Int)), (9, .v (.int .u64 (j.2 : Int)))]) (fun j => []) (fun j => j.1 ≤ (cO (loans &&& qO pts (2 ^ (acs[k]!.var).toNat))).length ∧ j.2 = It pts acs[k]!.write ((cO (loans &&& qO pts (2 ^ (acs[k]!.var).toNat))).take j.1) a ∧ j.2 < 2 ^ pts.length) (fun j => (cO (loans &&& qO pts (2 ^ (acs[k]!.var).toNat))).length - j.1) (0, a) ⟨by omega, rfl, hab⟩ rfl rfl (by repeat' (first|exact trivial|refine And.intro rfl ?_)) (by repeat' (exact trivial)) ?_
  rintro ⟨j, b⟩ ⟨hj, hb, hbb⟩
  dsimp only at hj hb hbb ⊢
  have hbsm : Sm b := ⟨Nat.lt_of_lt_of_le hbb (Nat.pow_le_pow_right (by decide) (by omega))⟩
  by_cases hjn : j < (cO (loans &&& qO pts (2 ^ (acs[k]!.var).toNat))).length
  ·have hlz := mC hlb hjn
   have hstep : It pts acs[k]!.write ((cO (loans &&& qO pts (2 ^ (acs[k]!.var).toNat))).take (j + 1)) a = if acs[k]!.write = true ∨ pts[((cO (loans &&& qO pts (2 ^ (acs[k]!.var).toNat)))[j]!).toNat]!.op = 5 then b ||| 2 ^ ((cO (loans &&& qO pts (2 ^ (acs[k]!.var).toNat)))[j]!).toNat else b := by
    rw [hb]; unfold It;rw [fK _ _ _ _ hjn]
   have hb2 : b ||| 2 ^ ((cO (loans &&& qO pts (2 ^ (acs[k]!.var).toNat)))[j]!).toNat < 2 ^ pts.length := Nat.or_lt_two_pow hbb (Nat.pow_lt_pow_right (by decide) (by omega))
   repeat' (first|(apply aM;first|(apply aE;rfl;rfl)|(apply aL;rfl;rfl;rfl;rfl)|(apply aD;rfl;rfl;rfl)|(first|(apply a6;rfl;rfl;rfl;(assumption))|(apply bD;rfl;rfl;rfl;(assumption))|(apply bO;(case hj|hb|hN => rfl);all_goals (intro hg;have hq := hg;(try simp only [cF] at hq);(try (exfalso;omega)))))|(first|(apply gJ;rfl;rfl;infer_instance;infer_instance;infer_instance;rfl)|(apply j6;rfl;rfl;infer_instance;omega;rfl;(case' kk => intro hsm))|(apply bU;rfl;rfl;omega;rfl)|(apply aR;rfl;rfl;rfl;rfl))|(apply aC;rfl;rfl)|(first|(apply bR;rfl;(assumption);rfl;rfl)|(apply bF;rfl;(assumption);rfl;rfl))|(first|(apply a7;(case hx|hi => rfl);(case hm => (assumption));(case hml => (rfl));(case hα | hf|hg => infer_instance);(case hN => rfl))|(apply dA;(case hx|hi => rfl);(case hm => (assumption));(case hml => (rfl));(case hα | hf|hg => infer_instance);(case hN => rfl)))|(apply aF;kernel_rfl)|(apply bW;rfl;rfl;rfl))|(apply aN;first|apply aI|apply aB|(apply bZ;rfl;(rfl))|(apply aO;rfl;all_goals intro hc;have hq:=hc;(try simp only [cF] at hq);try exfalso;omega)|apply aK|apply aS)|with_reducible apply aA|with_reducible apply aX)
   all_goals first
    | ((apply Exists.intro (j + 1, b ||| 2 ^ ((cO (loans &&& qO pts (2 ^ (acs[k]!.var).toNat)))[j]!).toNat); refine And.intro ?_ (And.intro ?_ ?_); rotate_left 2; focus (refine Le.ren [(0, 0)] rfl (by decide) ?_ ?_ <;> repeat' (first | exact trivial | refine And.intro ⟨_, rfl, ?_⟩ ?_ | refine And.intro ⟨_, _, rfl, rfl, ?_⟩ ?_ | exact Or.inr rfl | refine Or.inl ⟨?_, (by first | rfl | exact aZ _ _ | exact Pur.pf)⟩ | rfl)))
       ·dsimp only
        refine ⟨by omega, ?_, hb2⟩
        rw [hstep, if_pos (by first|exact .inl (by assumption)|exact .inr (by assumption))]
       ·dsimp only;omega)
    | ((apply dW (j + 1, b); focus (refine Le.ren [(0, 0)] rfl (by decide) ?_ ?_ <;> repeat' (first | exact trivial | refine And.intro ⟨_, rfl, ?_⟩ ?_ | refine And.intro ⟨_, _, rfl, rfl, ?_⟩ ?_ | exact Or.inr rfl | refine Or.inl ⟨?_, (by first | rfl | exact aZ _ _ | exact Pur.pf)⟩ | rfl)))
       ·dsimp only
        refine ⟨by omega, ?_, hbb⟩
        rw [hstep, if_neg (fun h => h.elim (fun h1 => Bool.noConfusion (h1.symm.trans (by assumption : acs[k]!.write = false))) (fun h2 => absurd h2 (by assumption)))]
       ·dsimp only;omega)
  ·repeat' (first | (apply aM; first | (apply aE;rfl;rfl) | (first | (apply bU;rfl;rfl;omega;rfl) | (apply aR;rfl;rfl;rfl;rfl)) | (apply aF;kernel_rfl)) | (apply aN; first | apply aI | apply aB | (apply aO;rfl;all_goals intro hc;have hq:=hc;(try simp only [cF] at hq);try exfalso;omega) | apply bI) | with_reducible apply aA | with_reducible apply bJ | with_reducible apply aX | with_reducible apply bH)
   (apply dW (k + 1, b);focus (refine Le.ren [] rfl (by decide) ?_ ?_ <;> repeat' (first|exact trivial|refine And.intro ⟨_, rfl, ?_⟩ ?_|refine Or.inl ⟨?_, (by first|rfl|exact aZ _ _|exact Pur.pf)⟩|rfl)))
   ·dsimp only
    refine ⟨by omega, ?_, hbb⟩
    rw [hb, List.take_of_length_le (by omega), ha]; unfold G4;rw [htk]
   ·dsimp only;omega
 ·repeat' (first | (apply aM; first | (apply aE;rfl;rfl) | (apply aR;rfl;rfl;rfl;rfl) | (apply aC;rfl;rfl) | (apply aF;kernel_rfl)) | (apply aN; first | apply aI | apply aB | (apply aO;rfl;all_goals intro hc;have hq:=hc;(try simp only [cF] at hq);try exfalso;omega) | apply bI | apply aQ) | with_reducible apply aA | with_reducible apply bJ | with_reducible apply bH)
  refine aP rfl ⟨?_, rfl⟩
  simp only [b9]
  rw [ha, List.take_of_length_le (by omega)]
theorem DV (n : Nat) (A : List Nat) (i : Int) (hA : A.length = n * 6) (hi : 0 ≤ i ∧ i < n) : PC Tryz.prog 128 [iv i, .iptr [.imm n (aH cW A)]] (fun r => r = .agg (aH cW (fN A i.toNat))) := by
 have h6 : ((A.drop (i.toNat * 6)).take 6).length = 6 := gT hA (by omega)
 (refine aU Tryz.func128 rfl (by simp [Tryz.ntmps128]) ?_; rw [Tryz.ntmps128])
 repeat' (first|(apply aM;first|(apply aE;rfl;rfl)|(first|(apply aL;rfl;rfl;rfl;rfl)|(apply Av;rfl;(simp only [gX, List.length_drop] <;> omega);rfl;rfl))|(apply Bb;rfl;rfl;(omega);rfl)|(apply aF;kernel_rfl)|(apply bE;rfl;rfl)|(apply iI;rfl;rfl;rfl;(assumption);(rfl)))|(apply aN;first|apply aI|apply aB|apply aQ)|with_reducible apply aA)
 refine aP (nJ (z := 6) rfl rfl h6 (by decide)) ⟨rfl, (by (exact aZ _ _))⟩
theorem Hk (ts : List Int) (bd : List AL.Stmt) (pts : List Pnt) (Aa Am Al Af Ap : List Nat) (n : Nat) (w : WG ts pts) (ga : sE ts pts Aa) (gm : tT ts pts Am) (gl : vN ts pts Al) (gf : vR ts pts Af) (gp : wT ts pts Ap) (hn : n = pts.length) :
  PC Tryz.prog 126 [aG ts bd pts, .imm n (aH cN Al), .clos (.func 128) [] [.iptr [.imm n (aH cW Af)]]] (fun r => r = sl qK (qJ ts pts Aa Am Al Af Ap pts.length)) := by
 subst hn
 have hpl := w.pl
 have htl := w.tl
 have hla := ga.1
 have hlm := gm.1
 have hll := gl.1
 have hlf := gf.1
 have hlp := gp.1
 (refine aU Tryz.func126 rfl (by simp [Tryz.ntmps126]) ?_; rw [Tryz.ntmps126])
 repeat' (first|(apply aM;first|((apply fX (d := 10) (e := 3));(case hM|hN => rfl))|(apply aE;rfl;rfl)|(apply aL;rfl;rfl;rfl;rfl)|(apply aD;rfl;rfl;rfl)|(apply aC;rfl;rfl)|(first|((with_reducible apply aJ (k := 101));(case ha => rfl);(case h => (apply FI <;> (assumption)));(case hp => (exact Pur.pf));(case hN => rfl))|((with_reducible apply aJ (k := 166));(case ha => rfl);(case h => (apply Is <;> (assumption)));(case hp => (exact Pur.pf));(case hN => rfl))|((with_reducible apply aJ (k := 167));(case ha => rfl);(case h => (apply Fx <;> (assumption)));(case hp => (exact Pur.pf));(case hN => rfl)))|(apply a8;rfl;rfl;rfl)|(apply aF;kernel_rfl)|(apply bW;rfl;rfl;rfl))|(apply aN;first|apply aI|apply aB|apply aK)|with_reducible apply aA)
 refine bC (σ := Nat × List Iss × Nat) [0, 1, 2, 7, 8, 9, 27, 28] [(0, _), (1, _), (2, _), (7, _), (8, _), (9, _), (27, _), (28, _)] [] [] (fun k => [(29, iv (k.1 : Int)), (10, .own 0 0 k.2.2 3)]) (fun k => [(0, some (aH qK k.2.1))]) (fun k => k.1 ≤ pts.length ∧ k.2.1 = qJ ts pts Aa Am Al Af Ap k.1 ∧ k.2.2 = k.2.1.length ∧ k.2.2 ≤ k.1 * 124) (fun k => pts.length - k.1) (0, [], 0) ⟨by omega, rfl, rfl, Nat.le_refl _⟩ rfl rfl (by repeat' (first|exact trivial|refine And.intro rfl ?_)) (by repeat' (first|exact trivial|refine And.intro (.inr rfl) ?_)) ?_
 rintro ⟨i, u, m⟩ ⟨hk, hu, hm, hmk⟩
 dsimp only at hk hu hm hmk ⊢
 by_cases hin : i < pts.length
 ·have hst := w.set i hin
  have hsU : Sm (wS ts pts[i]! [1, 2, 3]) := dK (by omega)
  have bl : ∀ {A : Nat} {n : Nat}, n ≤ 62 → (∀ v, A.testBit v = true → v < n) → A < 2 ^ n := fun _ hv => Nat.lt_pow_two_of_testBit _ fun v h => by
   cases hq : Nat.testBit _ v with
   | false => rfl
   | true => have := hv v hq;omega
  have hAa : Sm Aa[i]! := ⟨bl (n := 62) (by omega) fun v hv => by have := ((ga.2 i hin v).1 hv).1;omega⟩
  have hAm : Sm Am[i]! := ⟨bl (n := 62) (by omega) fun v hv => by have := E1 w ((gm.2 i hin v).1 hv);dsimp only at this;omega⟩
  have hAl : Al[i]! < 2 ^ ts.length := bl (by omega) fun v hv => by obtain ⟨k, _, h⟩ := (gl.2 i hin v).1 hv;exact qH w h
  have hAl2 : Sm Al[i]! := ⟨Nat.lt_of_lt_of_le hAl (Nat.pow_le_pow_right (by decide) (by omega))⟩
  have hAp : Ap[i]! < 2 ^ pts.length := bl (by omega) fun v hv => (lQ ((gp.2 i hin v).1 hv)).1
  have hAp2 : Sm Ap[i]! := ⟨Nat.lt_of_lt_of_le hAp (Nat.pow_le_pow_right (by decide) (by omega))⟩
  have hrl := gT hlf hin
  have hrs : ∀ z : Nat, Sm (fN Af i)[z]! := by
   intro z
   by_cases hz : z < 6
   ·rw [gF hlf hin hz]
    exact ⟨bl (n := 62) (by omega) fun v hv => by have := (qF w ((gf.2 i z hin hz v).1 hv)).2.2;dsimp only at this;omega⟩
   ·rw [getElem!_neg _ z (by rw [hrl]; exact hz)]; exact ⟨by decide⟩
  have hkp : vB ts pts[(i : Int).toNat]! Al[i]! (fN Af (i : Int).toNat) < 2 ^ pts.length := by
   refine bl (by omega) fun v hv => ?_
   unfold vB at hv
   rw [gM] at hv
   rcases hv with hv | ⟨z, hz, hv⟩
   ·simp at hv
   ·obtain ⟨q, h1, h2, rfl⟩ := dQ.1 hz
    rw [dO, Bool.and_eq_true] at h2
    have h3 := eH hAl h2.1
    have h4 : q < 6 := by omega
    have h5 : (fN Af i)[q]!.testBit v = true := hv
    rw [gF hlf hin h4] at h5
    exact (qF w ((gf.2 i q hin h4 v).1 h5)).2.2
  have hkp2 : Sm (vB ts pts[(i : Int).toNat]! Al[i]! (fN Af (i : Int).toNat)) := ⟨Nat.lt_of_lt_of_le hkp (Nat.pow_le_pow_right (by decide) (by omega))⟩
  have hlo : vB ts pts[(i : Int).toNat]! Al[i]! (fN Af (i : Int).toNat) &&& Ap[i]! < 2 ^ pts.length := Nat.and_lt_two_pow _ hAp
  have hcf := Bq w (Am := Am) (Al := Al) (Af := Af) (i := i) hAp
  have hcf2 : Sm (BV ts pts Am Al Af Ap i) := ⟨Nat.lt_of_lt_of_le hcf (Nat.pow_le_pow_right (by decide) (by omega))⟩
  have hcf3 : Sm (G4 pts (vB ts pts[(i : Int).toNat]! Al[i]! (fN Af (i : Int).toNat) &&& Ap[i]!) (kF ts pts[(i : Int).toNat]! (Am[i]!.testBit (bG pts[(i : Int).toNat]!).toNat)) 0) := hcf2
  have hb1 := eC (lU (wS ts pts[i]! [1, 2, 3]) Aa[i]!)
  have hb2 := eC (BV ts pts Am Al Af Ap i)
  repeat' (first|(apply aM;first|(apply aE;rfl;rfl)|(first|(apply aL;rfl;rfl;rfl;rfl)|(apply aY;rfl;rfl;(exact (rfl:_=[_, _, _, _, _]));rfl;rfl;rfl))|(first|(apply oF;rfl;rfl;infer_instance;infer_instance;infer_instance;rfl)|(apply aR;rfl;rfl;rfl;rfl))|(apply aC;rfl;rfl)|(apply a7;(case hx|hi => rfl);(case hm => (assumption));(case hml => (first|rfl|omega));(case hα | hf|hg => infer_instance);(case hN => rfl))|(first|((with_reducible apply aJ (k := 100));(case ha => rfl);(case h => (apply hO <;> (infer_instance)));(case hp => (rfl));(case hN => rfl))|((with_reducible apply aJ (k := 151));(case ha => rfl);(case h => (apply iR <;> (assumption)));(case hp => (exact Pur.pf));(case hN => rfl)))|(apply a8;rfl;rfl;rfl)|(apply aF;kernel_rfl)|(apply bE;rfl;rfl)|(apply aW;rfl;rfl;rfl;rfl;rfl;(case hl => (simp;done));(exact (rfl:_=[_, _, _, _, _]))))|(apply aN;first|apply aI|apply aB|(apply b8;kernel_rfl)|(apply aO;rfl;all_goals intro hc;have hq:=hc;(try simp only [cF] at hq);try exfalso;omega)|apply aK|apply aS)|with_reducible apply aA)
  have hb1b : ∀ j, j < (cO (lU (wS ts pts[i]! [1, 2, 3]) Aa[i]!)).length → 0 ≤ (cO (lU (wS ts pts[i]! [1, 2, 3]) Aa[i]!))[j]! := fun j h => (mC (inferInstance : Sm (lU (wS ts pts[i]! [1, 2, 3]) Aa[i]!)).pf h).1
  refine bC (σ := Nat × List Iss × Nat) [0, 1, 2, 7, 8, 9, 11, 27, 28, 29, 42, 43] [(0, _), (1, _), (2, _), (7, _), (8, _), (9, _), (11, _), (27, _), (28, _), (29, _), (42, _), (43, _)] [] [] (fun j => [(44, iv (j.1 : Int)), (10, .own 0 0 j.2.2 3)]) (fun j => [(0, some (aH qK j.2.1))]) (fun j => j.1 ≤ (cO (lU (wS ts pts[i]! [1, 2, 3]) Aa[i]!)).length ∧ j.2.1 = u ++ Bu i ((cO (lU (wS ts pts[i]! [1, 2, 3]) Aa[i]!)).take j.1) ∧ j.2.2 = j.2.1.length ∧ j.2.2 ≤ i * 124 + j.1) (fun j => (cO (lU (wS ts pts[i]! [1, 2, 3]) Aa[i]!)).length - j.1) (0, u, m) ⟨by omega, by simp [Bu], hm, by omega⟩ rfl rfl (by repeat' (first|exact trivial|refine And.intro rfl ?_)) (by repeat' (first|exact trivial|refine And.intro (.inr rfl) ?_)) ?_
  rintro ⟨j, u2, m2⟩ ⟨hj, hu2, hm2, hmk2⟩
  dsimp only at hj hu2 hm2 hmk2 ⊢
  by_cases hjn : j < (cO (lU (wS ts pts[i]! [1, 2, 3]) Aa[i]!)).length
  ·repeat' (first | (apply aM; first | (apply aE;rfl;rfl) | (apply aL;rfl;rfl;rfl;rfl) | (first | (apply bU;rfl;rfl;omega;rfl) | (apply aR;rfl;rfl;rfl;rfl)) | (apply aC;rfl;rfl) | (apply a7; (case hx | hi => rfl); (case hm => (assumption)); (case hml => (rfl)); (case hα | hf | hg => infer_instance); (case hN => rfl)) | (apply cH;rfl;rfl;rfl;rfl;rfl;(rw [aT]; omega);(rfl);omega;omega;(exact Dj (by (assumption)));rfl;rfl) | (apply aF;kernel_rfl) | (apply bV;rfl;(exact (rfl:_=some [_, _, _]));(exact (rfl:_=[_, _, _]));rfl) | ((apply bS (t := _)); (case hze | hsm | hl => rfl); (case hfl => (exact (rfl:_=some [_, _, _]))); (case hM | hN => rfl))) | (apply aN; first | apply aI | apply aB | (apply aO;rfl;all_goals intro hc;have hq:=hc;(try simp only [cF] at hq);try exfalso;omega) | apply aK | apply aS) | with_reducible apply aA | with_reducible apply aX)
   (apply dW (j + 1, _, _);focus (refine Le.ren [(0, 3)] rfl (by decide) ?_ ?_ <;> repeat' (first|exact trivial|refine And.intro ⟨_, rfl, ?_⟩ ?_|refine And.intro ⟨_, _, rfl, rfl, ?_⟩ ?_|exact Or.inr rfl|refine Or.inl ⟨?_, (by first|rfl|exact aZ _ _|exact Pur.pf)⟩|rfl)))
   ·dsimp only
    refine ⟨by omega, ?_, by simp;omega, by omega⟩
    rw [hu2]; unfold Bu;rw [kI _ _ _ hjn, List.append_assoc]
   ·dsimp only;omega
  ·have hu3 : u2 = u ++ Bu i (cO (lU (wS ts pts[i]! [1, 2, 3]) Aa[i]!)) := by rw [hu2, List.take_of_length_le (by omega)]
   repeat' (first|(apply aM;first|(apply aE;rfl;rfl)|(apply aL;rfl;rfl;rfl;rfl)|(first|(apply yE;rfl;rfl;infer_instance;infer_instance;infer_instance;rfl)|(apply aR;rfl;rfl;rfl;rfl))|(apply a7;(case hx|hi => rfl);(case hm => (assumption));(case hml => (omega));(case hα | hf|hg => infer_instance);(case hN => rfl))|(first|((with_reducible apply aJ (k := 92));(case ha => rfl);(case h => (apply rV <;> (assumption)));(case hp => (rfl));(case hN => rfl))|((with_reducible apply aJ (k := 168));(case ha => rfl);(case h => (apply Ea <;> (first|assumption|omega)));(case hp => (exact Pur.pf));(case hN => rfl))|((with_reducible apply aJ (k := 169));(case ha => rfl);(case h => (apply J7 <;> (first|assumption|omega)));(case hp => (exact Pur.pf));(case hN => rfl)))|(apply a8;rfl;rfl;rfl)|((with_reducible apply iH);(case hx|hcl => rfl);(case hc => infer_instance);(case ha => rfl);(case h => (apply DV <;> (first|assumption|omega)));(case hp => (exact Pur.pf));(case hN => rfl))|(apply aF;kernel_rfl))|(apply aN;first|apply aI|apply aB|(apply b8;kernel_rfl)|(apply aO;rfl;all_goals intro hc;have hq:=hc;(try simp only [cF] at hq);try exfalso;omega)|apply aK|apply bI)|with_reducible apply aA|with_reducible apply bJ|with_reducible apply bH)
   generalize hL : cO (G4 pts (vB ts pts[(i : Int).toNat]! Al[i]! (fN Af (i : Int).toNat) &&& Ap[i]!) (kF ts pts[(i : Int).toNat]! (Am[i]!.testBit (bG pts[(i : Int).toNat]!).toNat)) 0) = L2
   have hL2 : cO (BV ts pts Am Al Af Ap i) = L2 := hL
   have hbd : ∀ j, j < L2.length → 0 ≤ L2[j]! ∧ L2[j]! < pts.length := fun j h => by rw [← hL2] at h ⊢; exact mC hcf h
   rw [hL2] at hb2
   refine bC (σ := Nat × List Iss × Nat) [0, 1, 2, 7, 8, 9, 11, 27, 28, 29, 77, 78] [(0, _), (1, _), (2, _), (7, _), (8, _), (9, _), (11, _), (27, _), (28, _), (29, _), (77, _), (78, _)] [] [] (fun l => [(79, iv (l.1 : Int)), (10, .own 0 0 l.2.2 3)]) (fun l => [(0, some (aH qK l.2.1))]) (fun l => l.1 ≤ L2.length ∧ l.2.1 = u2 ++ Cd pts i (L2.take l.1) ∧ l.2.2 = l.2.1.length ∧ l.2.2 ≤ i * 124 + 62 + l.1) (fun l => L2.length - l.1) (0, u2, m2) ⟨by omega, by simp [Cd], hm2, Nat.le_trans hmk2 (by omega)⟩ rfl rfl (by repeat' (first|exact trivial|refine And.intro rfl ?_)) (by repeat' (first|exact trivial|refine And.intro (.inr rfl) ?_)) ?_
   rintro ⟨l, u4, m4⟩ ⟨hl, hu4, hm4, hmk4⟩
   dsimp only at hl hu4 hm4 hmk4 ⊢
   by_cases hln : l < L2.length
   ·have hbl := hbd l hln
    repeat' (first|(apply aM;first|(apply aE;rfl;rfl)|(apply aL;rfl;rfl;rfl;rfl)|(apply aD;rfl;rfl;rfl)|(first|(apply bU;rfl;rfl;omega;rfl)|(apply aR;rfl;rfl;rfl;rfl))|(apply aC;rfl;rfl)|(first|(apply a7;(case hx|hi => rfl);(case hm => (assumption));(case hml => (rfl));(case hα | hf|hg => infer_instance);(case hN => rfl))|(apply dA;(case hx|hi => rfl);(case hm => (assumption));(case hml => (rfl));(case hα | hf|hg => infer_instance);(case hN => rfl)))|(apply cH;rfl;rfl;rfl;rfl;rfl;(rw [aT]; omega);(rfl);omega;omega;(exact Dj (by (assumption)));rfl;rfl)|(apply aF;kernel_rfl)|(apply bV;rfl;(exact (rfl:_=some [_, _, _]));(exact (rfl:_=[_, _, _]));rfl)|(apply bW;rfl;rfl;rfl)|((apply bS (t := _));(case hze|hsm|hl => rfl);(case hfl => (exact (rfl:_=some [_, _, _])));(case hM|hN => rfl)))|(apply aN;first|apply aI|apply aB|(apply aO;rfl;all_goals intro hc;have hq:=hc;(try simp only [cF] at hq);try exfalso;omega)|apply aK|apply aS)|with_reducible apply aA|with_reducible apply aX)
    ·(apply dW (l + 1, _, _); focus (refine Le.ren [(0, 3)] rfl (by decide) ?_ ?_ <;> repeat' (first | exact trivial | refine And.intro ⟨_, rfl, ?_⟩ ?_ | refine And.intro ⟨_, _, rfl, rfl, ?_⟩ ?_ | exact Or.inr rfl | refine Or.inl ⟨?_, (by first | rfl | exact aZ _ _ | exact Pur.pf)⟩ | rfl)))
     ·dsimp only
      refine ⟨by omega, ?_, by simp;omega, by omega⟩
      rw [hu4]; unfold Cd;rw [kI _ _ _ hln, List.append_assoc, if_pos hq]
     ·dsimp only;omega
    ·(apply dW (l + 1, _, _); focus (refine Le.ren [(0, 3)] rfl (by decide) ?_ ?_ <;> repeat' (first | exact trivial | refine And.intro ⟨_, rfl, ?_⟩ ?_ | refine And.intro ⟨_, _, rfl, rfl, ?_⟩ ?_ | exact Or.inr rfl | refine Or.inl ⟨?_, (by first | rfl | exact aZ _ _ | exact Pur.pf)⟩ | rfl)))
     ·dsimp only
      refine ⟨by omega, ?_, by simp;omega, by omega⟩
      rw [hu4]; unfold Cd;rw [kI _ _ _ hln, List.append_assoc, if_neg hq]
     ·dsimp only;omega
   ·repeat' (first | (apply aM; first | (apply aE;rfl;rfl) | (first | (apply bU;rfl;rfl;omega;rfl) | (apply aR;rfl;rfl;rfl;rfl)) | (apply aF;kernel_rfl)) | (apply aN; first | apply aI | apply aB | (apply aO;rfl;all_goals intro hc;have hq:=hc;(try simp only [cF] at hq);try exfalso;omega) | apply bI) | with_reducible apply aA | with_reducible apply bJ | with_reducible apply aX | with_reducible apply bH)
    (apply dW (i + 1, u4, m4);focus (refine Le.ren [(0, 0)] rfl (by decide) ?_ ?_ <;> repeat' (first|exact trivial|refine And.intro ⟨_, rfl, ?_⟩ ?_|refine And.intro ⟨_, _, rfl, rfl, ?_⟩ ?_|exact Or.inr rfl|refine Or.inl ⟨?_, (by first|rfl|exact aZ _ _|exact Pur.pf)⟩|rfl)))
    ·dsimp only
     refine ⟨by omega, ?_, hm4, by omega⟩
     rw [mZ, hu4, List.take_of_length_le (by omega), hu3, ← hL2, hu, List.append_assoc]; rfl
    ·dsimp only;omega
 ·repeat' (first | (apply aM; first | (apply aE;rfl;rfl) | (apply aR;rfl;rfl;rfl;rfl) | (apply aC;rfl;rfl) | (apply aF;kernel_rfl)) | (apply aN; first | apply aI | apply aB | (apply aO;rfl;all_goals intro hc;have hq:=hc;(try simp only [cF] at hq);try exfalso;omega) | apply bI | apply aQ) | with_reducible apply aA | with_reducible apply bJ | with_reducible apply bH)
  (refine cE (Le.frzD (d := 6) (i := 0) rfl rfl) ?_; refine aP rfl ?_)
  refine ⟨?_, (by (exact aZ _ _))⟩
  simp only [b9, sl]
  rw [hm, hu, show i = pts.length by omega]
theorem Ev (ts : List Int) (bd : List AL.Stmt) (pts : List Pnt) (w : WG ts pts) (f : Flows ts pts) : PC Tryz.prog 79 [aG ts bd pts] (fun r => r = sl qK f.iss) := by
 have hpl := w.pl
 (refine aU Tryz.func79 rfl (by simp [Tryz.ntmps79]) ?_; rw [Tryz.ntmps79])
 repeat' (first|(apply aM;first|(apply uK;rfl;rfl;rfl)|((with_reducible apply aJ (k := 125));(case ha => rfl);(case h => exact Ec ts bd pts f.Af w f.gf);(case hp => exact Pur.pf);(case hN => rfl))|((with_reducible apply aJ (k := 127));(case ha => rfl);(case h => exact yV ts bd pts f.An f.Al w f.gn f.gl);(case hp => exact Pur.pf);(case hN => rfl))|((with_reducible apply aJ (k := 126));(case ha => rfl);(case h => exact Hk ts bd pts f.Aa f.Am f.Al f.Af f.Ap _ w f.ga f.gm f.gl f.gf f.gp rfl);(case hp => exact Pur.pf);(case hN => rfl))|(apply aE;rfl;rfl)|(apply aC;rfl;rfl)|(apply aF;kernel_rfl)|(apply bE;rfl;rfl)|(apply aW;rfl;rfl;rfl;rfl;rfl;(case hl => (simp;done));(exact (rfl:_=[_]))))|(apply aN;first|apply aI|apply aB|apply aQ)|with_reducible apply aA)
 refine aP rfl ⟨rfl, (by (exact aZ _ _))⟩
theorem mY (p : Prg) (hl : p.types.length ≤ 1000000) (hs : bQ p.body ≤ 1000000) : PC Tryz.prog 78 [dD p, .v (.slice none 0 0)] (fun r => r = if cQ p = true then .tup [aG p.types p.body (c9 p), bv true] else .tup [.v (.pointer none), bv false]) := by
 have hpl := uF p
 have hnl := nK p.body
 (refine aU Tryz.func78 rfl (by simp [Tryz.ntmps78]) ?_; rw [Tryz.ntmps78])
 repeat' (first|(apply aM;first|(apply aE;rfl;rfl)|(apply aY;rfl;rfl;(exact (rfl:_=[_, _]));rfl;rfl;rfl)|(apply aC;rfl;rfl)|(first|((with_reducible apply aJ (k := 49));(case ha => rfl);(case h => (apply kO <;> (first|assumption|omega)));(case hp => (exact Pur.pf));(case hN => rfl))|((with_reducible apply aJ (k := 96));(case ha => rfl);(case h => (apply GA <;> (assumption)));(case hp => (exact Pur.pf));(case hN => rfl)))|(apply a8;rfl;rfl;rfl)|(apply aF;kernel_rfl)|(apply bV;rfl;(exact (rfl:_=some [_, _, _]));(exact (rfl:_=[_, _, _]));rfl)|(apply cC;rfl;rfl)|(apply b0;rfl;rfl;rfl;rfl))|(apply aN;first|apply aI|apply aB|(apply b8;kernel_rfl)|(apply aO;rfl;all_goals intro hc;have hq:=hc;(try simp only [cF] at hq);try exfalso;omega)|apply aK|apply aS|apply aQ)|with_reducible apply aA|with_reducible apply bK)
 ·refine aP rfl ⟨?_, (by (rfl))⟩
  rw [if_neg (by simp [hq])]; rfl
 ·refine bC (σ := Unit) [6, 17, 18] [(6, _), (17, _), (18, _)] [1] [(1, some _)] (fun _u => [(19, iv 0)]) (fun _u => []) (fun _u => True) (fun _u => 0) () trivial rfl rfl (by repeat' (first | exact trivial | refine And.intro rfl ?_)) (by repeat' (exact trivial)) ?_
  intro _ _
  repeat' (first|(apply aM;first|(apply aE;rfl;rfl)|(apply aR;rfl;rfl;rfl;rfl)|(apply aC;rfl;rfl)|(apply aF;kernel_rfl))|(apply aN;first|apply aI|apply aB|(apply cS;rfl;(rfl))|apply bI|apply aQ)|with_reducible apply aA|with_reducible apply bJ|with_reducible apply bH)
  refine cE (Le.frzP (d := 4) (i := 1) rfl rfl) ?_
  refine aP rfl ⟨?_, (by show (AV.tup [aG p.types p.body (c9 p), bv true]).pur = true;exact PurV.pf)⟩
  rw [if_pos hq]; rfl
def Kh (p : Prg) (f : Flows p.types (c9 p)) : List Iss := if cQ p = true then f.iss else []
theorem FQ (p : Prg) (f : Flows p.types (c9 p)) (hl : p.types.length ≤ 1000000) (hs : bQ p.body ≤ 1000000) : PC Tryz.prog 31 [dD p] (fun r => r = sl qK (Kh p f)) := by
 unfold Kh
 cases hv : cQ p
 ·(refine aU Tryz.func31 rfl (by simp [Tryz.ntmps31]) ?_; rw [Tryz.ntmps31])
  repeat' (first|(apply aM;first|((with_reducible apply aJ (k := 78));(case ha => rfl);(case h => exact (by have := mY p hl hs;rw [if_neg (by simp [hv])] at this;exact this));(case hp => (exact Pur.pf));(case hN => rfl))|(apply aE;rfl;rfl)|(apply aY;rfl;rfl;(exact (rfl:_=[_, _]));rfl;rfl;rfl)|(apply aC;rfl;rfl)|(apply aF;kernel_rfl)|(apply cC;rfl;rfl)|(apply b0;rfl;rfl;rfl;rfl)|(apply cB;rfl;rfl;rfl))|(apply aN;first|apply aI|apply aB|(apply bZ;rfl;(rfl))|apply aQ)|with_reducible apply aA|with_reducible apply bK)
  (refine cE (Le.nilImm (d := 2) rfl) ?_; refine aP rfl ?_)
  exact ⟨rfl, rfl⟩
 ·have w := WG.of_valid hv
  (refine aU Tryz.func31 rfl (by simp [Tryz.ntmps31]) ?_; rw [Tryz.ntmps31])
  repeat' (first|(apply aM;first|((with_reducible apply aJ (k := 78));(case ha => rfl);(case h => exact (by have := mY p hl hs;rw [if_pos hv] at this;exact this));(case hp => (exact Pur.pf));(case hN => rfl))|((with_reducible apply aJ (k := 79));(case ha => rfl);(case h => exact Ev p.types p.body (c9 p) w f);(case hp => (exact Pur.pf));(case hN => rfl))|(apply aE;rfl;rfl)|(apply aY;rfl;rfl;(exact (rfl:_=[_, _]));rfl;rfl;rfl)|(apply aC;rfl;rfl)|(apply aF;kernel_rfl)|(apply cC;rfl;rfl)|(apply b0;rfl;rfl;rfl;rfl)|(apply cB;rfl;rfl;rfl))|(apply aN;first|apply aI|apply aB|(apply cS;rfl;(rfl))|apply aS|apply aQ)|with_reducible apply aA)
  exact aP rfl ⟨rfl, (by (exact aZ _ _))⟩
instance : BoT Tryz.prog 4 := ⟨by kernel_rfl⟩
end Go.Proofs.YtjcpngimjdckmaaGreat
