/-
 A part of the proofs over this program: rules and contracts of its functions (the contracts).
-/
import Derived.Test.YtjcpngimjdckmaaGreatQ3B01
set_option linter.unusedVariables false
set_option linter.unusedSimpArgs false
set_option maxHeartbeats 8000000
set_option maxRecDepth 4000
attribute [local irreducible] Go.AL.RW Go.AL.AW Go.AL.Stop
namespace Go.Proofs.YtjcpngimjdckmaaGreat
open Go.AL Go.RowKit
theorem Gd (ts : List Int) (bd : List AL.Stmt) (pts : List Pnt) (A : List Nat) (w : WG ts pts) (hA : sD ts pts A) : PC Tryz.prog 101 [aG ts bd pts, iv 0] (fun r => r = .imm pts.length (aI cN A)) := by
 (refine aT Tryz.func101 rfl (by simp [Tryz.ntmps101]) ?_; rw [Tryz.ntmps101])
 repeat' (first|(apply aM;first|((with_reducible apply aJ (k := 145));(case ha => rfl);(case h => exact BT ts bd pts A w hA);(case hp => exact Pur.pf);(case hN => rfl))|(apply aE;rfl;rfl)|(apply aC;rfl;rfl)|(apply aF;kernel_rfl)|(apply gN;rfl;rfl;rfl))|(apply aN;first|apply aH|apply aB|apply aQ)|with_reducible apply aA|((with_reducible apply aP);case hr => rfl))
 exact ⟨rfl, (by (exact aZ _ _))⟩
theorem HS (ts : List Int) (bd : List AL.Stmt) (pts : List Pnt) (A : List Nat) (w : WG ts pts) (hA : sU ts pts A) : PC Tryz.prog 166 [aG ts bd pts] (fun r => r = .imm pts.length (aI cN A)) := by
 (refine aT Tryz.func166 rfl (by simp [Tryz.ntmps166]) ?_; rw [Tryz.ntmps166])
 repeat' (first|(apply aM;first|((with_reducible apply aJ (k := 145));(case ha => rfl);(case h => exact BF ts bd pts A w hA);(case hp => exact Pur.pf);(case hN => rfl))|(apply aE;rfl;rfl)|(apply aC;rfl;rfl)|(apply aF;kernel_rfl)|(apply gN;rfl;rfl;rfl))|(apply aN;first|apply aH|apply aB|apply aQ)|with_reducible apply aA|((with_reducible apply aP);case hr => rfl))
 exact ⟨rfl, (by (exact aZ _ _))⟩
theorem Dc (ts : List Int) (bd : List AL.Stmt) (pts : List Pnt) (n : Nat) (B : List Nat) (i : Int) (w : WG ts pts) (hn : n = B.length) (hB : B.length = pts.length) (hs : ∀ z : Nat, Sm B[z]!) (hi : 0 ≤ i ∧ i < pts.length) : PC Tryz.prog 134 [aG ts bd pts, .imm n (aI cN B), iv i] (fun r => r = iv (H9 pts B i.toNat : Nat)) := by
 subst hn
 have hin : i.toNat < pts.length := by omega
 have hnl := w.nl _ hin
 have hpl := w.pl
 (refine aT Tryz.func134 rfl (by simp [Tryz.ntmps134]) ?_; rw [Tryz.ntmps134])
 repeat' (first|(apply aM;first|(apply aE;rfl;rfl)|(apply aK;rfl;rfl;rfl;rfl)|(apply aD;rfl;rfl;rfl)|(apply aC;rfl;rfl)|(apply dA;(case hx|hi => rfl);(case hm => (assumption));(case hml => (rfl));(case hα | hf|hg => infer_instance);(case hN => rfl))|(apply a9;rfl;rfl;rfl)|(apply aF;kernel_rfl)|(apply bU;rfl;rfl;rfl))|(apply aN;first|apply aH|apply aB|apply aL)|with_reducible apply aA)
 refine a7 (σ := Nat × Nat) [1, 17, 18] [(1, _), (17, _), (18, _)] [] [] (fun k => [(19, iv (k.1 : Int)), (7, iv (k.2 : Int))]) (fun k => []) (fun k => k.1 ≤ pts[i.toNat]!.next.length ∧ k.2 = ((uG pts i.toNat).take k.1).foldl (fun a k => nP a B[k]!) 0 ∧ Sm k.2) (fun k => pts[i.toNat]!.next.length - k.1) (0, 0) ⟨by omega, rfl, inferInstance⟩ rfl rfl (by repeat' (first|exact trivial|refine And.intro rfl ?_)) (by repeat' (exact trivial)) ?_
 rintro ⟨k, a⟩ ⟨hk, ha, hsa⟩
 dsimp only at hk ha hsa ⊢
 have hz : k < pts[i.toNat]!.next.length → 0 ≤ pts[i.toNat]!.next[k]! ∧ pts[i.toNat]!.next[k]! < pts.length := fun h => w.nx _ hin _ (bY _ _ h)
 repeat' (first|(apply aM;first|(apply aE;rfl;rfl)|(apply aK;rfl;rfl;rfl;rfl)|(first|(apply gJ;rfl;rfl;infer_instance;infer_instance;infer_instance;rfl)|(apply bR;rfl;rfl;omega;rfl)|(apply aR;rfl;rfl;rfl;rfl))|(apply aC;rfl;rfl)|(first|(apply a6;(case hx|hi => rfl);(case hm => (omega));(case hml => (rfl));(case hα | hf|hg => infer_instance);(case hN => rfl))|(apply dA;(case hx|hi => rfl);(case hm => (omega));(case hml => (rfl));(case hα | hf|hg => infer_instance);(case hN => rfl)))|(apply aF;kernel_rfl))|(apply aN;first|apply aH|apply aB|(apply aO;rfl;all_goals intro hc;have hq:=hc;(try simp only [cK] at hq);try exfalso;omega)|apply aL|apply aS|apply bF|apply aQ)|with_reducible apply aA|with_reducible apply bE|with_reducible apply aV|with_reducible apply bG|((with_reducible apply aP);case hr => rfl))
 ·(apply dV (k + 1, _); focus (refine Le.ren [] rfl (by decide) ?_ ?_ <;> repeat' (first | exact trivial | refine And.intro ⟨_, rfl, ?_⟩ ?_ | refine Or.inl ⟨?_, (by first | rfl | exact aZ _ _)⟩ | rfl)))
  ·dsimp only
   refine ⟨by omega, ?_, inferInstance⟩
   rw [fF _ _ _ _ (by rw [kT]; omega), xG (by omega), ← ha]
  ·dsimp only;omega
 ·(refine ⟨?_, rfl⟩; simp only [bX, AV.v.injEq, Value.bool.injEq, Value.int.injEq, true_and])
  rw [ha, List.take_of_length_le (by rw [kT]; omega)]; rfl
theorem ES (ts : List Int) (bd : List AL.Stmt) (pts : List Pnt) (A : List Nat) (w : WG ts pts) (hA : sF ts pts A) : PC Tryz.prog 135 [aG ts bd pts] (fun r => r = .imm pts.length (aI cN A)) := by
 have hpl := w.pl
 have hp0 := w.p0
 have htl := w.tl
 (refine aT Tryz.func135 rfl (by simp [Tryz.ntmps135]) ?_; rw [Tryz.ntmps135])
 repeat' (first|(apply aM;first|(apply aE;rfl;rfl)|(apply aK;rfl;rfl;rfl;rfl)|(apply aD;rfl;rfl;rfl)|(apply aC;rfl;rfl)|(apply a9;rfl;rfl;rfl)|(apply aF;kernel_rfl)|(apply bU;rfl;rfl;rfl)|(apply eW;rfl;rfl;rfl;omega;omega;(exact BG);rfl;rfl))|(apply aN;first|apply aH|apply aB|apply aL)|with_reducible apply aA)
 refine a7 (σ := List Nat × Bool) [0, 3] [(0, _), (3, _)] [] [] (fun s => [(4, bv s.2)]) (fun s => [(0, some (aI cN s.1))]) (fun s => SN ts pts s.1 ∧ (s.2 = false → ∀ i, i < pts.length → o6 ts pts s.1 i = s.1[i]!)) (fun s => 2 * gB (s.1.map (fun a => 2 ^ ts.length - a)) + s.2.toNat) (List.replicate pts.length 0, true) ⟨Jz, fun h => by cases h⟩ rfl rfl (by repeat' (first|exact trivial|refine And.intro rfl ?_)) (by repeat' (first|exact trivial|refine And.intro (.inr rfl) ?_)) ?_
 rintro ⟨s, b⟩ ⟨hS, hC⟩
 dsimp only at hS hC ⊢
 repeat' (first|(apply aM;first|(apply aE;rfl;rfl)|(apply aK;rfl;rfl;rfl;rfl)|(apply aD;rfl;rfl;rfl)|(apply fO;rfl;rfl;omega;rfl)|(apply aC;rfl;rfl)|(apply a9;rfl;rfl;rfl)|(apply aF;kernel_rfl)|(apply bU;rfl;rfl;rfl))|(apply aN;first|apply aH|apply aB|(apply aO;rfl;all_goals intro hc;have hq:=hc;(try simp only [cK] at hq);try exfalso;omega)|apply aL|apply aS|apply bF|apply aQ)|with_reducible apply aA|with_reducible apply bE|with_reducible apply bG)
 ·refine a7 (σ := Nat × Int × (List Nat × Bool)) [0, 3] [(0, _), (3, _)] [] [] (fun k => [(5, iv k.2.1), (4, bv k.2.2.2)]) (fun k => [(0, some (aI cN k.2.2.1))]) (fun k => k.1 ≤ pts.length ∧ k.2.1 = (pts.length : Int) - 1 - k.1 ∧ k.2.2 = ((List.range pts.length).reverse.take k.1).foldl (lI ts pts) (s, false) ∧ SN ts pts k.2.2.1) (fun k => pts.length - k.1) (0, (pts.length : Int) - 1, (s, false)) ⟨by omega, by simp, rfl, hS⟩ rfl rfl (by repeat' (first | exact trivial | refine And.intro rfl ?_)) (by repeat' (first | exact trivial | refine And.intro (.inr rfl) ?_)) ?_
  rintro ⟨k, z, u, c⟩ ⟨hk, hz, hf, hS2⟩
  dsimp only at hk hz hf hS2 ⊢
  have hsm : ∀ z : Nat, Sm u[z]! := sR hS2.1 (fun i A h => h.1) htl
  have hul := hS2.1.1
  have hst := fun h : z.toNat < pts.length => (w.set z.toNat h).1
  have hst2 : bD pts[z.toNat]! < 62 := by
   by_cases h : z.toNat < pts.length
   ·have := hst h;omega
   ·rw [getElem!_neg pts z.toNat h]; decide
  have hs1 : Sm (wS ts pts[z.toNat]! [1, 2, 3]) := dJ (by omega)
  have hs2 : Sm (iF pts[z.toNat]!) := qZ (by omega)
  have hs3 : Sm (H9 pts u z.toNat) := by
   unfold H9
   have : ∀ (L : List Nat) (a : Nat), Sm a → Sm (L.foldl (fun a k => a ||| u[k]!) a) := by
    intro L;induction L with
    | nil => exact fun a h => h
    | cons x L ih => exact fun a h => ih _ (inferInstance : Sm (a ||| u[x]!))
   exact this _ _ inferInstance
  have hlaw := fun h : z.toNat < pts.length => uS w u c z.toNat h hS2
  repeat' (first|(apply aM;first|(apply aE;rfl;rfl)|(first|(apply eR;(case hx|hH => rfl);(case hf|hg|hα => infer_instance);(case hk => omega);(case hc|hN => rfl))|(apply aK;rfl;rfl;rfl;rfl)|(apply aX;rfl;rfl;(exact (rfl:_=[_, _, _, _, _]));rfl;rfl;rfl))|(apply aD;rfl;rfl;rfl)|(first|(apply gJ;rfl;rfl;infer_instance;infer_instance;infer_instance;rfl)|(apply oV;rfl;rfl;infer_instance;infer_instance;infer_instance;rfl)|(apply fO;rfl;rfl;omega;rfl)|(apply aR;rfl;rfl;rfl;rfl))|(apply aC;rfl;rfl)|(first|(apply dA;(case hx|hi => rfl);(case hm => (omega));(case hml => (rfl));(case hα | hf|hg => infer_instance);(case hN => rfl))|(apply cM;rfl;rfl;(omega);rfl))|(first|((with_reducible apply n7 (k := 134));(case ha => rfl);(case hl => (repeat' (first|exact mR|apply kR|exact xP|exact mP rfl inferInstance|exact Bu inferInstance)));(case h => (apply Dc <;> (first|assumption|omega)));(case hfr|hN => rfl);(case hmd => infer_instance))|((with_reducible apply aJ (k := 151));(case ha => rfl);(case h => (apply iP <;> (assumption)));(case hp => (exact Pur.pf));(case hN => rfl))|((with_reducible apply aJ (k := 174));(case ha => rfl);(case h => (apply oG <;> (assumption)));(case hp => (exact Pur.pf));(case hN => rfl)))|(apply aF;kernel_rfl)|(apply bU;rfl;rfl;rfl)|(apply bH;rfl;rfl)|(apply aW;rfl;rfl;rfl;rfl;rfl;(case hl => (first|(rw [aU]; simp only [hZ] <;> omega)|(simp;done)));(first|exact s7 (by (omega))|exact (rfl:_=[_, _, _, _, _]))))|(apply aN;first|apply aH|apply aB|(apply bZ;kernel_rfl)|(apply aO;rfl;all_goals intro hc;have hq:=hc;(try simp only [cK] at hq);try exfalso;omega)|apply aL|apply aS|apply bF)|with_reducible apply aA|with_reducible apply bE|with_reducible apply aV|with_reducible apply bG)
  ·have hzn : z.toNat < pts.length := by omega
   have hne : o6 ts pts u z.toNat ≠ u[z.toNat]! := fun h => hq (congrArg Int.ofNat h)
   have hl := hlaw hzn
   rw [CH hne] at hl
   have hrg : (List.range pts.length).reverse[k]! = z.toNat := by rw [AU (by omega)]; omega
   (apply dV (k + 1, _, (_, true));focus (refine Le.ren [(0, 0)] rfl (by decide) ?_ ?_ <;> repeat' (first|exact trivial|refine And.intro ⟨_, rfl, ?_⟩ ?_|refine And.intro ⟨_, _, rfl, rfl, ?_⟩ ?_|exact Or.inr rfl|refine Or.inl ⟨?_, (by first|rfl|exact aZ _ _|exact Pur.pf)⟩|rfl)))
   ·dsimp only
    refine ⟨by omega, by omega, ?_, hl.1⟩
    rw [fF _ _ _ _ (by simp;omega), ← hf, hrg, CH hne]; rfl
   ·dsimp only;omega
  ·have hzn : z.toNat < pts.length := by omega
   have hne : o6 ts pts u z.toNat = u[z.toNat]! := Int.ofNat.inj hq
   have hrg : (List.range pts.length).reverse[k]! = z.toNat := by rw [AU (by omega)]; omega
   (apply dV (k + 1, _, (u, c));focus (refine Le.ren [(0, 0)] rfl (by decide) ?_ ?_ <;> repeat' (first|exact trivial|refine And.intro ⟨_, rfl, ?_⟩ ?_|refine And.intro ⟨_, _, rfl, rfl, ?_⟩ ?_|exact Or.inr rfl|refine Or.inl ⟨?_, (by first|rfl|exact aZ _ _|exact Pur.pf)⟩|rfl)))
   ·dsimp only
    refine ⟨by omega, by omega, ?_, hS2⟩
    rw [fF _ _ _ _ (by simp;omega), ← hf, hrg, Ht hne]
   ·dsimp only;omega
  ·have law := Ep w s false hS
   have hfull : (u, c) = yU ts pts (s, false) := by
    rw [hf, List.take_of_length_le (by simp;omega)]; rfl
   rw [← hfull] at law
   (apply dV (u, c);focus (refine Le.ren [(0, 0)] rfl (by decide) ?_ ?_ <;> repeat' (first|exact trivial|refine And.intro ⟨_, rfl, ?_⟩ ?_|refine And.intro ⟨_, _, rfl, rfl, ?_⟩ ?_|exact Or.inr rfl|refine Or.inl ⟨?_, (by first|rfl|exact aZ _ _|exact Pur.pf)⟩|rfl)))
   ·dsimp only
    refine ⟨hS2, fun h => ?_⟩
    rcases law.2 with ⟨e1, e2⟩ | ⟨e1, _⟩
    ·cases e1;exact e2
    ·dsimp only at e1;rw [h] at e1;cases e1
   ·dsimp only
    have hb : b = true := by assumption
    subst hb
    rcases law.2 with ⟨e1, e2⟩ | ⟨e1, e2⟩
    ·cases e1;simp
    ·dsimp only at e1 e2;subst e1;omega
 ·have hb : b = false := by assumption
  refine cC (Le.frzD (d := 2) (i := 0) rfl rfl) ?_
  refine aP rfl ⟨?_, (by (exact aZ _ _))⟩
  simp only [bX]
  rw [En hA (Fp w hS (hC hb))]
theorem Ab (ts : List Int) (bd : List AL.Stmt) (pts : List Pnt) (B A : List Nat) (w : WG ts pts) (hB : sF ts pts B) (hA : wE ts pts A) : PC Tryz.prog 127 [aG ts bd pts] (fun r => r = .imm pts.length (aI cN A)) := by
 have hpl := w.pl
 have htl := w.tl
 have hBl := hB.1
 have hsm : ∀ z : Nat, Sm B[z]! := by
  intro z
  by_cases hz : z < pts.length
  ·refine ⟨Nat.lt_of_lt_of_le (Nat.lt_pow_two_of_testBit _ (n := 6) fun v hv => ?_) (by decide)⟩
   cases hq : B[z]!.testBit v with
   | false => rfl
   | true => have := rS w ((hB.2 z hz v).1 hq);dsimp only at this;omega
  ·rw [getElem!_neg B z (by rw [hBl]; exact hz)]; exact ⟨by decide⟩
 (refine aT Tryz.func127 rfl (by simp [Tryz.ntmps127]) ?_; rw [Tryz.ntmps127])
 repeat' (first|(apply aM;first|(apply aE;rfl;rfl)|(apply aK;rfl;rfl;rfl;rfl)|(apply aD;rfl;rfl;rfl)|(apply aC;rfl;rfl)|((with_reducible apply aJ (k := 135));(case ha => rfl);(case h => (apply ES <;> (assumption)));(case hp => (exact Pur.pf));(case hN => rfl))|(apply a9;rfl;rfl;rfl)|(apply aF;kernel_rfl)|(apply bU;rfl;rfl;rfl))|(apply aN;first|apply aH|apply aB|apply aL)|with_reducible apply aA)
 refine AW.le ?_ (Le.nilOwn (d := 4) 1 rfl (by decide))
 refine a7 (σ := Nat × List Nat) [0, 3, 12] [(0, _), (3, _), (12, _)] [] [] (fun k => [(13, iv (k.1 : Int)), (4, .own 0 0 k.1 1)]) (fun k => [(0, some (aI cN k.2))]) (fun k => k.1 ≤ pts.length ∧ k.2 = (List.range k.1).map (H9 pts B)) (fun k => pts.length - k.1) (0, []) ⟨by omega, rfl⟩ rfl rfl (by repeat' (first|exact trivial|refine And.intro rfl ?_)) (by repeat' (first|exact trivial|refine And.intro (.inr rfl) ?_)) ?_
 rintro ⟨k, u⟩ ⟨hk, hu⟩
 dsimp only at hk hu ⊢
 have hul : u.length = k := by rw [hu]; simp
 repeat' (first|(apply aM;first|(apply aE;rfl;rfl)|(first|(apply bR;rfl;rfl;omega;rfl)|(apply aR;rfl;rfl;rfl;rfl))|(apply aC;rfl;rfl)|((with_reducible apply aJ (k := 134));(case ha => rfl);(case h => (apply Dc <;> (first|assumption|omega)));(case hp => (exact Pur.pf));(case hN => rfl))|(apply cF;rfl;rfl;rfl;rfl;rfl;(rw [aU]; omega);(rfl);omega;omega;(exact Hw (by (omega)));rfl;rfl)|(apply aF;kernel_rfl)|((apply bQ (t := _));(case hze|hsm|hl => rfl);(case hfl => exact (rfl:_=some [_]));(case hM|hN => rfl)))|(apply aN;first|apply aH|apply aB|(apply aO;rfl;all_goals intro hc;have hq:=hc;(try simp only [cK] at hq);try exfalso;omega)|apply aL|apply aS|apply bF|apply aQ)|with_reducible apply aA|with_reducible apply bE|with_reducible apply aV|with_reducible apply bG)
 ·(apply dV (k + 1, _); focus (refine Le.ren [(0, 2)] rfl (by decide) ?_ ?_ <;> repeat' (first | exact trivial | refine And.intro ⟨_, rfl, ?_⟩ ?_ | refine And.intro ⟨_, _, rfl, rfl, ?_⟩ ?_ | exact Or.inr rfl | refine Or.inl ⟨?_, (by first | rfl | exact aZ _ _ | exact Pur.pf)⟩ | rfl)))
  ·dsimp only
   refine ⟨by omega, ?_⟩
   rw [hu, List.range_succ, List.map_append]; rfl
  ·dsimp only;omega
 ·refine cC (Le.frzD (d := 2) (i := 0) rfl rfl) ?_
  refine aP rfl ⟨?_, (by (exact aZ _ _))⟩
  simp only [bX]
  have hkn : k = pts.length := by omega
  subst hkn
  rw [u9 hA (Av w hB), hu]
theorem g8 (A : Nat) (hA : Sm A) : PC Tryz.prog 100 [iv (A : Int)] (fun r => r = sl cI (cS A)) := by
 (refine aT Tryz.func100 rfl (by simp [Tryz.ntmps100]) ?_; rw [Tryz.ntmps100])
 repeat' (first|(apply aM;first|(apply aC;rfl;rfl)|(apply aF;kernel_rfl))|(apply aN;first|apply aH|apply aB|apply aL)|with_reducible apply aA)
 refine AW.le ?_ (Le.nilOwn (d := 3) 1 rfl (by decide))
 refine a7 (σ := Nat × List Int × Nat) [0] [(0, _)] [] [] (fun k => [(4, iv (k.1 : Int)), (3, .own 0 0 k.2.2 1)]) (fun k => [(0, some (aI cI k.2.1))]) (fun k => k.1 ≤ 62 ∧ k.2.1 = ((List.range k.1).filter (A.testBit ·)).map (fun v : Nat => (v : Int)) ∧ k.2.2 = k.2.1.length ∧ k.2.2 ≤ k.1) (fun k => 62 - k.1) (0, [], 0) ⟨by omega, rfl, rfl, Nat.le_refl _⟩ rfl rfl (by repeat' (first|exact trivial|refine And.intro rfl ?_)) (by repeat' (first|exact trivial|refine And.intro (.inr rfl) ?_)) ?_
 rintro ⟨k, u, m⟩ ⟨hk, hu, hm, hmk⟩
 dsimp only at hk hu hm hmk ⊢
 repeat' (first|(apply aM;first|(apply aE;rfl;rfl)|(first|(apply rC;rfl;rfl;infer_instance;infer_instance;rfl)|(apply qX;rfl;rfl;infer_instance;infer_instance;omega;rfl)|(apply bR;rfl;rfl;omega;rfl)|(apply aR;rfl;rfl;rfl;rfl))|(apply aC;rfl;rfl)|(apply cF;rfl;rfl;rfl;rfl;rfl;(rw [aU]; omega);(rfl);omega;omega;(exact jD (by (assumption)));rfl;rfl)|(apply aF;kernel_rfl)|((apply bQ (t := _));(case hze|hsm|hl => rfl);(case hfl => exact (rfl:_=some [_]));(case hM|hN => rfl)))|(apply aN;first|apply aH|apply aB|(apply aO;rfl;all_goals intro hc;have hq:=hc;(try simp only [cK] at hq);try exfalso;omega)|apply aL|apply aS|apply bF|apply aQ)|with_reducible apply aA|with_reducible apply bE|with_reducible apply aV|with_reducible apply bG)
 ·have hlt := CK hA (show 0 < ((A >>> k : Nat) : Int) by assumption)
  (apply dV (k + 1, _, _);focus (refine Le.ren [(0, 2)] rfl (by decide) ?_ ?_ <;> repeat' (first|exact trivial|refine And.intro ⟨_, rfl, ?_⟩ ?_|refine And.intro ⟨_, _, rfl, rfl, ?_⟩ ?_|exact Or.inr rfl|refine Or.inl ⟨?_, (by first|rfl|exact aZ _ _)⟩|rfl)))
  ·dsimp only
   exact ⟨by omega, vU hq hu, by simp;omega, by omega⟩
  ·dsimp only;omega
 ·have hlt := CK hA (show 0 < ((A >>> k : Nat) : Int) by assumption)
  (apply dV (k + 1, u, m);focus (refine Le.ren [(0, 0)] rfl (by decide) ?_ ?_ <;> repeat' (first|exact trivial|refine And.intro ⟨_, rfl, ?_⟩ ?_|refine And.intro ⟨_, _, rfl, rfl, ?_⟩ ?_|exact Or.inr rfl|refine Or.inl ⟨?_, (by first|rfl|exact aZ _ _)⟩|rfl)))
  ·dsimp only
   exact ⟨by omega, wM hq hu, hm, by omega⟩
  ·dsimp only;omega
 ·(refine cC (Le.frzD (d := 2) (i := 0) rfl rfl) ?_; refine aP rfl ?_)
  refine ⟨?_, (by (exact aZ _ _))⟩
  simp only [bX, sl]
  rw [vN (k := k) (fun v hv => FI hq v hv) (by omega) hA, ← hu, ← hm]
theorem tB (A : Nat) (hA : Sm A) : PC Tryz.prog 92 [.v (.int .u64 (A : Int))] (fun r => r = sl cI (cS A)) := by
 (refine aT Tryz.func92 rfl (by simp [Tryz.ntmps92]) ?_; rw [Tryz.ntmps92])
 repeat' (first|(apply aM;first|(apply aE;rfl;rfl)|(apply aC;rfl;rfl)|(apply aF;kernel_rfl))|(apply aN;first|apply aH|apply aB|apply aL)|with_reducible apply aA)
 refine AW.le ?_ (Le.nilOwn (d := 3) 1 rfl (by decide))
 refine a7 (σ := Nat × List Int × Nat) [0] [(0, _)] [] [] (fun k => [(5, iv (k.1 : Int)), (3, .own 0 0 k.2.2 1)]) (fun k => [(0, some (aI cI k.2.1))]) (fun k => k.1 ≤ 64 ∧ k.2.1 = ((List.range k.1).filter (A.testBit ·)).map (fun v : Nat => (v : Int)) ∧ k.2.2 = k.2.1.length ∧ k.2.2 ≤ k.1) (fun k => 64 - k.1) (0, [], 0) ⟨by omega, rfl, rfl, Nat.le_refl _⟩ rfl rfl (by repeat' (first|exact trivial|refine And.intro rfl ?_)) (by repeat' (first|exact trivial|refine And.intro (.inr rfl) ?_)) ?_
 rintro ⟨k, u, m⟩ ⟨hk, hu, hm, hmk⟩
 dsimp only at hk hu hm hmk ⊢
 repeat' (first|(apply aM;first|(apply aE;rfl;rfl)|(first|(apply rC;rfl;rfl;infer_instance;infer_instance;rfl)|(apply qX;rfl;rfl;infer_instance;infer_instance;omega;rfl)|(apply bR;rfl;rfl;omega;rfl)|(apply aR;rfl;rfl;rfl;rfl))|(apply aC;rfl;rfl)|(apply cF;rfl;rfl;rfl;rfl;rfl;(rw [aU]; omega);(rfl);omega;omega;(exact jD (by (assumption)));rfl;rfl)|(apply aF;kernel_rfl)|((apply bQ (t := _));(case hze|hsm|hl => rfl);(case hfl => exact (rfl:_=some [_]));(case hM|hN => rfl)))|(apply aN;first|apply aH|apply aB|(apply aO;rfl;all_goals intro hc;have hq:=hc;(try simp only [cK] at hq);try exfalso;omega)|apply aL|apply aS|apply bF|apply aQ)|with_reducible apply aA|with_reducible apply bE|with_reducible apply aV|with_reducible apply bG)
 ·(apply dV (k + 1, _, _); focus (refine Le.ren [(0, 2)] rfl (by decide) ?_ ?_ <;> repeat' (first | exact trivial | refine And.intro ⟨_, rfl, ?_⟩ ?_ | refine And.intro ⟨_, _, rfl, rfl, ?_⟩ ?_ | exact Or.inr rfl | refine Or.inl ⟨?_, (by first | rfl | exact aZ _ _)⟩ | rfl)))
  ·dsimp only
   exact ⟨by omega, vU hq hu, by simp;omega, by omega⟩
  ·dsimp only;omega
 ·(apply dV (k + 1, u, m); focus (refine Le.ren [(0, 0)] rfl (by decide) ?_ ?_ <;> repeat' (first | exact trivial | refine And.intro ⟨_, rfl, ?_⟩ ?_ | refine And.intro ⟨_, _, rfl, rfl, ?_⟩ ?_ | exact Or.inr rfl | refine Or.inl ⟨?_, (by first | rfl | exact aZ _ _)⟩ | rfl)))
  ·dsimp only
   exact ⟨by omega, wM hq hu, hm, by omega⟩
  ·dsimp only;omega
 ·(refine cC (Le.frzD (d := 2) (i := 0) rfl rfl) ?_; refine aP rfl ?_)
  refine ⟨?_, (by (exact aZ _ _))⟩
  simp only [bX, sl]
  rw [vN (k := k) (fun v hv => Nat.testBit_lt_two_pow (Nat.lt_of_lt_of_le hA.pf (Nat.pow_le_pow_right (by decide) (by omega)))) (by omega) hA, ← hu, ← hm]
theorem Au (ts : List Int) (bd : List AL.Stmt) (pts : List Pnt) (V : Nat) (w : WG ts pts) (hV : Sm V) : PC Tryz.prog 198 [aG ts bd pts, iv (V : Int)] (fun r => r = .v (.int .u64 (qH pts V : Nat))) := by
 have hpl := w.pl
 have htl := w.tl
 (refine aT Tryz.func198 rfl (by simp [Tryz.ntmps198]) ?_; rw [Tryz.ntmps198])
 repeat' (first|(apply aM;first|(apply aE;rfl;rfl)|(apply aK;rfl;rfl;rfl;rfl)|(apply aD;rfl;rfl;rfl)|(apply aC;rfl;rfl)|(apply a9;rfl;rfl;rfl)|(apply aF;kernel_rfl)|(apply bU;rfl;rfl;rfl))|(apply aN;first|apply aH|apply aB|apply aL)|with_reducible apply aA)
 refine a7 (σ := Nat × Nat) [1, 11, 12] [(1, _), (11, _), (12, _)] [] [] (fun k => [(13, iv (k.1 : Int)), (5, .v (.int .u64 (k.2 : Int)))]) (fun k => []) (fun k => k.1 ≤ pts.length ∧ k.2 = fN (fun l => eD pts[l]! && V.testBit (pts[l]!.y.toNat)) k.1) (fun k => pts.length - k.1) (0, 0) ⟨by omega, rfl⟩ rfl rfl (by repeat' (first|exact trivial|refine And.intro rfl ?_)) (by repeat' (exact trivial)) ?_
 rintro ⟨k, A⟩ ⟨hk, hA⟩
 dsimp only at hk hA ⊢
 have hsm : Sm A := hA ▸ dJ (by omega)
 cases hln : eD pts[k]!
 ·repeat' (first | (apply aM; first | (apply aE;rfl;rfl) | (apply aX;rfl;rfl;(exact (rfl:_=[_, _, _, _, _]));rfl;rfl;rfl) | (apply bC;rfl;rfl;rfl;(assumption)) | (first | (apply bR;rfl;rfl;omega;rfl) | (apply aR;rfl;rfl;rfl;rfl)) | (apply aC;rfl;rfl) | (apply bI;rfl;(assumption);rfl;rfl) | (apply a6; (case hx | hi => rfl); (case hm => (omega)); (case hml => (rfl)); (case hα | hf | hg => infer_instance); (case hN => rfl)) | ((with_reducible apply aJ (k := 196)); (case ha => rfl); (case h => (apply lT <;> (fail))); (case hp => (exact Pur.pf)); (case hN => rfl)) | (apply aF;kernel_rfl) | (apply bH;rfl;rfl) | (apply aW;rfl;rfl;rfl;rfl;rfl;(case hl => (simp;done));(exact (rfl:_=[_, _, _, _, _])))) | (apply aN; first | apply aH | apply aB | (apply cH;rfl;(rfl)) | (apply aO;rfl;all_goals intro hc;have hq:=hc;(try simp only [cK] at hq);try exfalso;omega) | apply aL | apply aS | apply bF | apply aQ) | with_reducible apply aA | with_reducible apply bE | with_reducible apply aV | with_reducible apply bG | ((with_reducible apply aP); case hr => rfl))
  ·(apply dV (k + 1, A); focus (refine Le.ren [] rfl (by decide) ?_ ?_ <;> repeat' (first | exact trivial | refine And.intro ⟨_, rfl, ?_⟩ ?_ | refine Or.inl ⟨?_, (by first | rfl | exact aZ _ _)⟩ | rfl)))
   ·dsimp only
    exact ⟨by omega, by rw [hA]; exact mA _ _ (by rw [hln]; rfl)⟩
   ·dsimp only;omega
  ·(refine ⟨?_, rfl⟩; simp only [bX, AV.v.injEq, Value.bool.injEq, Value.int.injEq, true_and])
   rw [hA, show k = pts.length by omega]; rfl
 ·have hy := fun (h : k < pts.length) => Bt w h hln
  repeat' (first|(apply aM;first|(apply aE;rfl;rfl)|(first|(apply aK;rfl;rfl;rfl;rfl)|(apply aX;rfl;rfl;(exact (rfl:_=[_, _, _, _, _]));rfl;rfl;rfl))|(apply aD;rfl;rfl;rfl)|(apply bB;rfl;rfl;rfl;(assumption))|(first|(apply gJ;rfl;rfl;infer_instance;infer_instance;infer_instance;rfl)|(apply rC;rfl;rfl;infer_instance;infer_instance;rfl)|(apply j3;rfl;rfl;infer_instance;omega;rfl;(case' kk => intro hsm))|(apply qX;rfl;rfl;infer_instance;infer_instance;omega;rfl)|(apply bR;rfl;rfl;omega;rfl)|(apply aR;rfl;rfl;rfl;rfl))|(apply aC;rfl;rfl)|(apply bS;rfl;(assumption);rfl;rfl)|(apply a6;(case hx|hi => rfl);(case hm => (omega));(case hml => (rfl));(case hα | hf|hg => infer_instance);(case hN => rfl))|((with_reducible apply aJ (k := 196));(case ha => rfl);(case h => (apply lT <;> (fail)));(case hp => (exact Pur.pf));(case hN => rfl))|(apply aF;kernel_rfl)|(apply bH;rfl;rfl)|(apply aW;rfl;rfl;rfl;rfl;rfl;(case hl => (simp;done));(exact (rfl:_=[_, _, _, _, _]))))|(apply aN;first|apply aH|apply aB|(apply aO;rfl;all_goals intro hc;have hq:=hc;(try simp only [cK] at hq);try exfalso;omega)|apply aL|apply aS|apply bF|apply aQ)|with_reducible apply aA|with_reducible apply bE|with_reducible apply aV|with_reducible apply bG|((with_reducible apply aP);case hr => rfl))
  ·(apply dV (k + 1, _); focus (refine Le.ren [] rfl (by decide) ?_ ?_ <;> repeat' (first | exact trivial | refine And.intro ⟨_, rfl, ?_⟩ ?_ | refine Or.inl ⟨?_, (by first | rfl | exact aZ _ _)⟩ | rfl)))
   ·dsimp only
    exact ⟨by omega, by rw [hA]; exact p7 _ _ (by rw [hln, Bool.true_and]; exact (lV _ _).1 hq)⟩
   ·dsimp only;omega
  ·(apply dV (k + 1, A); focus (refine Le.ren [] rfl (by decide) ?_ ?_ <;> repeat' (first | exact trivial | refine And.intro ⟨_, rfl, ?_⟩ ?_ | refine Or.inl ⟨?_, (by first | rfl | exact aZ _ _)⟩ | rfl)))
   ·dsimp only
    exact ⟨by omega, by rw [hA]; exact mA _ _ (by rw [hln, Bool.true_and]; cases hb : V.testBit (pts[k]!.y.toNat) with|false => rfl|true => exact absurd ((lV _ _).2 hb) hq)⟩
   ·dsimp only;omega
  ·(refine ⟨?_, rfl⟩; simp only [bX, AV.v.injEq, Value.bool.injEq, Value.int.injEq, true_and])
   rw [hA, show k = pts.length by omega]; rfl
theorem F4 (ts : List Int) (bd : List AL.Stmt) (pts : List Pnt) (A : List Nat) (w : WG ts pts) (hA : vD ts pts A) : PC Tryz.prog 167 [aG ts bd pts] (fun r => r = .imm pts.length (aI cW A)) := by
 have hpl := w.pl
 have hp0 := w.p0
 have htl := w.tl
 have fl := K0 w
 (refine aT Tryz.func167 rfl (by simp [Tryz.ntmps167]) ?_; rw [Tryz.ntmps167])
 repeat' (first|(apply aM;first|(apply aE;rfl;rfl)|(apply aK;rfl;rfl;rfl;rfl)|(apply aD;rfl;rfl;rfl)|(apply aC;rfl;rfl)|(apply a9;rfl;rfl;rfl)|(apply aF;kernel_rfl)|(apply bU;rfl;rfl;rfl)|(apply eW;rfl;rfl;rfl;omega;omega;(exact HA);rfl;rfl))|(apply aN;first|apply aH|apply aB|apply aL)|with_reducible apply aA)
 refine a7 (σ := List Nat × Bool) [0, 3] [(0, _), (3, _)] [] [] (fun s => [(4, bv s.2)]) (fun s => [(0, some (aI cW s.1))]) (fun s => SG pts (LG ts pts) s.1 ∧ (s.2 = false → k7 nP (xY ts pts) pts s.1)) (fun s => 2 * gB (s.1.map (fun a => 2 ^ pts.length - a)) + s.2.toNat) (List.replicate pts.length 0, true) ⟨Bo fun i hi => ⟨Nat.pow_pos (by decide), fun v h => by simp at h⟩, fun h => by cases h⟩ rfl rfl (by repeat' (first|exact trivial|refine And.intro rfl ?_)) (by repeat' (first|exact trivial|refine And.intro (.inr rfl) ?_)) ?_
 rintro ⟨s, b⟩ ⟨hS, hC⟩
 dsimp only at hS hC ⊢
 repeat' (first|(apply aM;first|(apply aE;rfl;rfl)|(apply aK;rfl;rfl;rfl;rfl)|(apply aD;rfl;rfl;rfl)|(apply aC;rfl;rfl)|(apply a9;rfl;rfl;rfl)|(apply aF;kernel_rfl)|(apply bU;rfl;rfl;rfl))|(apply aN;first|apply aH|apply aB|(apply aO;rfl;all_goals intro hc;have hq:=hc;(try simp only [cK] at hq);try exfalso;omega)|apply aL|apply aS|apply bF|apply aQ)|with_reducible apply aA|with_reducible apply bE|with_reducible apply bG)
 ·refine a7 (σ := Nat × (List Nat × Bool)) [0, 3, 20, 21] [(0, _), (3, _), (20, _), (21, _)] [] [] (fun k => [(22, iv (k.1 : Int)), (4, bv k.2.2)]) (fun k => [(0, some (aI cW k.2.1))]) (fun k => k.1 ≤ pts.length ∧ k.2 = (List.range k.1).foldl (w8 nP (xY ts pts) pts) (s, false) ∧ SG pts (LG ts pts) k.2.1) (fun k => pts.length - k.1) (0, (s, false)) ⟨by omega, rfl, hS⟩ rfl rfl (by repeat' (first | exact trivial | refine And.intro rfl ?_)) (by repeat' (first | exact trivial | refine And.intro (.inr rfl) ?_)) ?_
  rintro ⟨k, u, c⟩ ⟨hk, hf, hS2⟩
  dsimp only at hk hf hS2 ⊢
  have hul := hS2.1
  by_cases hkn : k < pts.length
  ·have hst := (w.set k hkn).1
   have hsm : ∀ z : Nat, Sm u[z]! := by
    intro z
    by_cases hz : z < pts.length
    ·exact ⟨Nat.lt_of_lt_of_le (hS2.2 z hz).1 (Nat.pow_le_pow_right (by decide) (by omega))⟩
    ·rw [getElem!_neg u z (by rw [hul]; exact hz)]; exact ⟨by decide⟩
   have hs1 : Sm (wS ts pts[k]! [2]) := dJ (by omega)
   have hs2 : Sm (iF pts[k]!) := qZ (by omega)
   have hs3 : ∀ V, Sm (qH pts V) := fun V => Gw w V
   have hnl := w.nl k hkn
   have e1 : eD pts[k]! = true → nO u[k]! (qH pts (wS ts pts[k]! [2] ||| iF pts[k]!)) ||| 2 ^ (k : Int).toNat = xY ts pts k u[k]! := fun h => by unfold xY JO;rw [if_pos h]; rfl
   have e0 : eD pts[k]! = false → nO u[k]! (qH pts (wS ts pts[k]! [2] ||| iF pts[k]!)) = xY ts pts k u[k]! := fun h => by unfold xY JO;rw [if_neg (by rw [h]; simp), Nat.or_zero]
   have hps : Sm (xY ts pts k u[k]!) := ⟨Nat.lt_of_lt_of_le (Ce w hkn (hS2.2 k hkn).1) (Nat.pow_le_pow_right (by decide) (by omega))⟩
   repeat' (first|(apply aM;first|(apply aE;rfl;rfl)|(first|(apply eR;(case hx|hH => rfl);(case hf|hg|hα => infer_instance);(case hk => omega);(case hc|hN => rfl))|(apply aK;rfl;rfl;rfl;rfl)|(apply aX;rfl;rfl;(exact (rfl:_=[_, _, _, _, _]));rfl;rfl;rfl))|(apply aD;rfl;rfl;rfl)|(first|(apply gJ;rfl;rfl;infer_instance;infer_instance;infer_instance;rfl)|(apply oV;rfl;rfl;infer_instance;infer_instance;infer_instance;rfl)|(apply j3;rfl;rfl;infer_instance;omega;rfl;(case' kk => intro hsm))|(apply aR;rfl;rfl;rfl;rfl))|(apply aC;rfl;rfl)|(first|(apply a6;(case hx|hi => rfl);(case hm => (assumption));(case hml => (rfl));(case hα | hf|hg => infer_instance);(case hN => rfl))|(apply cG;rfl;rfl;(assumption);rfl))|(first|((with_reducible apply aJ (k := 139));(case ha => rfl);(case h => (apply qT <;> (assumption)));(case hp => (exact Pur.pf));(case hN => rfl))|((with_reducible apply aJ (k := 174));(case ha => rfl);(case h => (apply oG <;> (omega)));(case hp => (exact Pur.pf));(case hN => rfl))|((with_reducible apply aJ (k := 196));(case ha => rfl);(case h => (apply lT <;> (fail)));(case hp => (exact Pur.pf));(case hN => rfl))|((with_reducible apply aJ (k := 198));(case ha => rfl);(case h => (apply Au <;> (first|assumption|infer_instance)));(case hp => (exact Pur.pf));(case hN => rfl)))|(apply a9;rfl;rfl;rfl)|(apply aF;kernel_rfl)|(apply bH;rfl;rfl)|(apply aW;rfl;rfl;rfl;rfl;rfl;(case hl => (simp;done));(exact (rfl:_=[_, _, _, _, _]))))|(apply aN;first|apply aH|apply aB|(apply bZ;kernel_rfl)|(apply aO;rfl;all_goals intro hc;have hq:=hc;(try simp only [cK] at hq);try exfalso;omega)|apply aL|apply aS)|with_reducible apply aA)
   all_goals first|rw [e1 (by assumption)]|rw [e0 (by assumption)]
   all_goals
    refine a7 (σ := Nat × (List Nat × Bool)) [0, 3, 7, 20, 21, 22, 47, 48] [(0, _), (3, _), (7, _), (20, _), (21, _), (22, _), (47, _), (48, _)] [] [] (fun j => [(49, iv (j.1 : Int)), (4, bv j.2.2)]) (fun j => [(0, some (aI cW j.2.1))]) (fun j => j.1 ≤ pts[k]!.next.length ∧ j.2 = ((uG pts k).take j.1).foldl (lD nP (xY ts pts k u[k]!)) (u, c) ∧ SG pts (LG ts pts) j.2.1) (fun j => pts[k]!.next.length - j.1) (0, (u, c)) ⟨by omega, rfl, hS2⟩ rfl rfl (by repeat' (first|exact trivial|refine And.intro rfl ?_)) (by repeat' (first|exact trivial|refine And.intro (.inr rfl) ?_)) ?_
    rintro ⟨j, u2, c2⟩ ⟨hj, hf2, hS3⟩
    dsimp only at hj hf2 hS3 ⊢
    have hul2 := hS3.1
    have hsm2 : ∀ z : Nat, Sm u2[z]! := by
     intro z
     by_cases hz : z < pts.length
     ·exact ⟨Nat.lt_of_lt_of_le (hS3.2 z hz).1 (Nat.pow_le_pow_right (by decide) (by omega))⟩
     ·rw [getElem!_neg u2 z (by rw [hul2]; exact hz)]; exact ⟨by decide⟩
    have hz : j < pts[k]!.next.length → 0 ≤ pts[k]!.next[j]! ∧ pts[k]!.next[j]! < pts.length := fun h => w.nx k hkn _ (bY _ _ h)
    repeat' (first|(apply aM;first|(apply aE;rfl;rfl)|(first|(apply eR;(case hx|hH => rfl);(case hf|hg|hα => infer_instance);(case hk => omega);(case hc|hN => rfl))|(apply aK;rfl;rfl;rfl;rfl))|(first|(apply gJ;rfl;rfl;infer_instance;infer_instance;infer_instance;rfl)|(apply bR;rfl;rfl;omega;rfl)|(apply aR;rfl;rfl;rfl;rfl))|(apply aC;rfl;rfl)|(first|(apply a6;(case hx|hi => rfl);(case hm => (omega));(case hml => (rfl));(case hα | hf|hg => infer_instance);(case hN => rfl))|(apply cM;rfl;rfl;(omega);rfl))|(apply aF;kernel_rfl)|(apply aW;rfl;rfl;rfl;rfl;rfl;(rw [aU]; simp only [hZ] <;> omega);(exact oE (by (omega)))))|(apply aN;first|apply aH|apply aB|(apply bZ;kernel_rfl)|(apply aO;rfl;all_goals intro hc;have hq:=hc;(try simp only [cK] at hq);try exfalso;omega)|apply aL|apply aS|apply bF)|with_reducible apply aA|with_reducible apply bE|with_reducible apply aV|with_reducible apply bG)
    ·have hzz := hz (by omega)
     have hed : edge pts k (pts[k]!.next[j]!).toNat := ⟨hkn, by rw [Int.toNat_of_nonneg hzz.1]; exact bY _ _ (by omega)⟩
     have hne : nP u2[(pts[k]!.next[j]!).toNat]! (xY ts pts k u[k]!) ≠ u2[(pts[k]!.next[j]!).toNat]! := fun h => hq (congrArg Int.ofNat h)
     (apply dV (j + 1, (_, true));focus (refine Le.ren [(0, 0)] rfl (by decide) ?_ ?_ <;> repeat' (first|exact trivial|refine And.intro ⟨_, rfl, ?_⟩ ?_|refine And.intro ⟨_, _, rfl, rfl, ?_⟩ ?_|exact Or.inr rfl|refine Or.inl ⟨?_, (by first|rfl|exact aZ _ _|exact Pur.pf)⟩|rfl)))
     ·dsimp only
      refine ⟨by omega, ?_, x9 fl w (hS2.2 k hkn) hed hS3⟩
      rw [jH (by omega), ← hf2, yG hne]
     ·dsimp only;omega
    ·have hzz := hz (by omega)
     have hne : nP u2[(pts[k]!.next[j]!).toNat]! (xY ts pts k u[k]!) = u2[(pts[k]!.next[j]!).toNat]! := Int.ofNat.inj hq
     (apply dV (j + 1, (u2, c2));focus (refine Le.ren [(0, 0)] rfl (by decide) ?_ ?_ <;> repeat' (first|exact trivial|refine And.intro ⟨_, rfl, ?_⟩ ?_|refine And.intro ⟨_, _, rfl, rfl, ?_⟩ ?_|exact Or.inr rfl|refine Or.inl ⟨?_, (by first|rfl|exact aZ _ _|exact Pur.pf)⟩|rfl)))
     ·dsimp only
      refine ⟨by omega, ?_, hS3⟩
      rw [jH (by omega), ← hf2, yQ hne]
     ·dsimp only;omega
    ·(apply dV (k + 1, (u2, c2)); focus (refine Le.ren [(0, 0)] rfl (by decide) ?_ ?_ <;> repeat' (first | exact trivial | refine And.intro ⟨_, rfl, ?_⟩ ?_ | refine And.intro ⟨_, _, rfl, rfl, ?_⟩ ?_ | exact Or.inr rfl | refine Or.inl ⟨?_, (by first | rfl | exact aZ _ _ | exact Pur.pf)⟩ | rfl)))
     ·dsimp only
      refine ⟨by omega, ?_, hS3⟩
      rw [fC, ← hf, hf2, List.take_of_length_le (by rw [kT]; omega)]; rfl
     ·dsimp only;omega
  ·repeat' (first | (apply aM; first | (apply aR;rfl;rfl;rfl;rfl) | (apply aF;kernel_rfl)) | (apply aN; first | apply aH | apply aB | (apply aO;rfl;all_goals intro hc;have hq:=hc;(try simp only [cK] at hq);try exfalso;omega) | apply bF) | with_reducible apply aA | with_reducible apply bE | with_reducible apply aV | with_reducible apply bG)
   have law := tR w fl s false hS
   have hfull : (u, c) = w7 nP (xY ts pts) pts (s, false) := by
    rw [hf, show k = pts.length by omega]; rfl
   rw [← hfull] at law
   (apply dV (u, c);focus (refine Le.ren [(0, 0)] rfl (by decide) ?_ ?_ <;> repeat' (first|exact trivial|refine And.intro ⟨_, rfl, ?_⟩ ?_|refine And.intro ⟨_, _, rfl, rfl, ?_⟩ ?_|exact Or.inr rfl|refine Or.inl ⟨?_, (by first|rfl|exact aZ _ _|exact Pur.pf)⟩|rfl)))
   ·dsimp only
    refine ⟨hS2, fun h => ?_⟩
    rcases law.2 with ⟨e1, e2⟩ | ⟨e1, _⟩
    ·cases e1;exact e2
    ·dsimp only at e1;rw [h] at e1;cases e1
   ·dsimp only
    have hb : b = true := by assumption
    subst hb
    rcases law.2 with ⟨e1, e2⟩ | ⟨e1, e2⟩
    ·cases e1;simp
    ·dsimp only at e1 e2;subst e1;omega
 ·have hb : b = false := by assumption
  refine cC (Le.frzD (d := 2) (i := 0) rfl rfl) ?_
  refine aP rfl ⟨?_, (by (exact aZ _ _))⟩
  simp only [bX]
  rw [D9 hA (Fg w hS (hC hb))]
theorem B9 (ts : List Int) (bd : List AL.Stmt) (pts : List Pnt) (i : Int) (f : List Nat) (w : WG ts pts) (hi : 0 ≤ i ∧ i < pts.length) (hf : f.length = 6) (hs : ∀ z : Nat, Sm f[z]!) : PC Tryz.prog 165 [aG ts bd pts, iv i, .agg (aI cW f)] (fun r => r = .agg (aI cW (xT ts pts i.toNat f))) := by
 have hpl := w.pl
 have htl := w.tl
 have hin : i.toNat < pts.length := by omega
 have hst := (w.set i.toNat hin)
 have hy := w.y i.toNat hin
 have hbl := dY (wS ts pts[i.toNat]! [2])
 have hT : Sm (wS ts pts[i.toNat]! [2]) := dJ (by omega)
 (refine aT Tryz.func165 rfl (by simp [Tryz.ntmps165]) ?_; rw [Tryz.ntmps165])
 repeat' (first|(apply aM;first|(apply aE;rfl;rfl)|(first|(apply aK;rfl;rfl;rfl;rfl)|(apply aX;rfl;rfl;(first|exact (rfl:_=[_, _, _, _, _])|rfl);rfl;rfl;rfl)|(apply j9;rfl;rfl;(assumption);rfl;rfl))|(apply aD;rfl;rfl;rfl)|(apply dA;(case hx|hi => rfl);(case hm => (assumption));(case hml => (rfl));(case hα | hf|hg => infer_instance);(case hN => rfl))|(first|((with_reducible apply aJ (k := 100));(case ha => rfl);(case h => (apply g8 <;> (assumption)));(case hp => (rfl));(case hN => rfl))|((with_reducible apply aJ (k := 139));(case ha => rfl);(case h => (apply qT <;> (assumption)));(case hp => (exact Pur.pf));(case hN => rfl)))|(apply a9;rfl;rfl;rfl)|(apply aF;kernel_rfl)|(apply bU;rfl;rfl;rfl)|(apply bW;rfl;rfl;rfl;rfl)|(apply bH;rfl;rfl)|(apply aW;rfl;rfl;rfl;rfl;rfl;(case hl => (simp;done));(exact (rfl:_=[_, _, _, _, _])))|(apply iB;rfl;rfl;rfl;(assumption);(rfl)))|(apply aN;first|apply aH|apply aB|apply aL)|with_reducible apply aA)
 refine a7 (σ := Nat × List Nat) [0, 1, 5, 6, 7, 8, 23, 24] [(0, _), (1, _), (5, _), (6, _), (7, _), (8, _), (23, _), (24, _)] [0, 1, 2] [(0, some _), (1, some _), (2, some _)] (fun k => [(25, iv (k.1 : Int))]) (fun k => [(3, some (aI cW k.2))]) (fun k => k.1 ≤ (cS (wS ts pts[i.toNat]! [2])).length ∧ k.2 = nI ((cS (wS ts pts[i.toNat]! [2])).take k.1) f ∧ k.2.length = 6) (fun k => (cS (wS ts pts[i.toNat]! [2])).length - k.1) (0, f) ⟨by omega, rfl, hf⟩ rfl rfl (by repeat' (first|exact trivial|refine And.intro rfl ?_)) (by repeat' (first|exact trivial|refine And.intro (.inr rfl) ?_)) ?_
 rintro ⟨k, u⟩ ⟨hk, hu, hul⟩
 dsimp only at hk hu hul ⊢
 have hbb : k < (cS (wS ts pts[i.toNat]! [2])).length → 0 ≤ (cS (wS ts pts[i.toNat]! [2]))[k]! ∧ (cS (wS ts pts[i.toNat]! [2]))[k]! < ts.length := fun h => lQ (uT (fun v => decide (bO ts pts[i.toNat]! v ∈ [2])) ts.length) h
 have husm : ∀ z : Nat, Sm u[z]! := by intro z;rw [hu]; exact KK hs z
 have hset : ∀ (k a : Nat) [Sm a] (z : Nat), Sm (u.set k a)[z]! := fun k a h z => B8 husm h z
 have hset2 : ∀ (k a k2 a2 : Nat) [Sm a] [Sm a2] (z : Nat), Sm ((u.set k a).set k2 a2)[z]! := fun k a k2 a2 h h2 z => B8 (B8 husm h) h2 z
 by_cases hkn : k < (cS (wS ts pts[i.toNat]! [2])).length
 ·have hbk := hbb hkn
  repeat' (first|(apply aM;first|(apply aE;rfl;rfl)|(apply aK;rfl;rfl;rfl;rfl)|(first|(apply bR;rfl;rfl;omega;rfl)|(apply aR;rfl;rfl;rfl;rfl))|(apply aC;rfl;rfl)|(first|(apply a6;(case hx|hi => rfl);(case hm => (assumption));(case hml => (rfl));(case hα | hf|hg => infer_instance);(case hN => rfl))|(apply gO;rfl;rfl;(omega);rfl;rfl))|(apply aF;kernel_rfl)|(apply aW;rfl;rfl;rfl;rfl;rfl;(rw [aU]; simp only [hZ] <;> omega);(exact oE (by (omega)))))|(apply aN;first|apply aH|apply aB|(apply aO;rfl;all_goals intro hc;have hq:=hc;(try simp only [cK] at hq);try exfalso;omega)|apply aL|apply aS)|with_reducible apply aA|with_reducible apply aV)
  (apply Exists.intro (k + 1, u.set ((cS (wS ts pts[i.toNat]! [2]))[k]!).toNat 0);refine And.intro ?_ (And.intro ?_ ?_);rotate_left 2;focus (refine Le.ren [(0, 0), (1, 1), (2, 2), (3, 3)] rfl (by decide) ?_ ?_ <;> repeat' (first|exact trivial|refine And.intro ⟨_, rfl, ?_⟩ ?_|refine And.intro ⟨_, _, rfl, rfl, ?_⟩ ?_|exact Or.inr rfl|refine Or.inl ⟨?_, (by first|rfl|exact aZ _ _|exact Pur.pf)⟩|rfl)))
  ·dsimp only
   exact ⟨by omega, by rw [Ew hkn, ← hu], by simpa using hul⟩
  ·dsimp only;omega
 ·have hu' : u = nI (cS (wS ts pts[i.toNat]! [2])) f := by rw [hu, List.take_of_length_le (by omega)]
  cases hln : eD pts[i.toNat]!
  ·repeat' (first | (apply aM; first | (apply aE;rfl;rfl) | (first | (apply eR; (case hx | hH => rfl); (case hf | hg | hα => infer_instance); (case hk => omega); (case hc | hN => rfl)) | (apply aK;rfl;rfl;rfl;rfl) | (apply aX;rfl;rfl;(first | exact (rfl:_=[_, _, _, _, _]) | rfl);rfl;rfl;rfl) | (apply j9;rfl;rfl;(first | assumption | (simp only [hZ] <;> omega));rfl;rfl) | (apply pH;rfl;rfl;(exact LS);(simp only [hZ] <;> omega);rfl)) | (apply aD;rfl;rfl;rfl) | (first | (apply bB;rfl;rfl;rfl;(rfl)) | (apply bC;rfl;rfl;rfl;(assumption))) | (first | (apply gJ;rfl;rfl;infer_instance;infer_instance;infer_instance;rfl) | (apply aR;rfl;rfl;rfl;rfl)) | (apply aC;rfl;rfl) | (apply bI;rfl;(first | rfl | assumption);rfl;rfl) | (apply gO;rfl;rfl;(omega);rfl;rfl) | (first | ((with_reducible apply aJ (k := 140)); (case ha => rfl); (case h => (apply xZ <;> (fail))); (case hp => (exact Pur.pf)); (case hN => rfl)) | ((with_reducible apply aJ (k := 196)); (case ha => rfl); (case h => (apply lT <;> (fail))); (case hp => (exact Pur.pf)); (case hN => rfl))) | (apply aF;kernel_rfl) | (apply aW;rfl;rfl;rfl;rfl;rfl;(rw [aU]; simp only [hZ] <;> omega);(exact oE (by (first | omega | (simp only [hZ] <;> omega))))) | (apply iB;rfl;rfl;rfl;(first | assumption | (simp only [hZ] <;> omega));(rfl))) | (apply aN; first | apply aH | apply aB | (apply bZ;kernel_rfl) | (apply cH;rfl;(assumption)) | (apply aO;rfl;all_goals intro hc;have hq:=hc;(try simp only [cK] at hq);try exfalso;omega) | apply aS | apply bF | apply aQ) | with_reducible apply aA | with_reducible apply bJ | with_reducible apply bE | with_reducible apply bG)
   all_goals (refine aP (nC (z := 6) rfl rfl (by first|exact hul|(simp only [List.length_set]; exact hul)) (by decide)) ⟨?_, (by (exact aZ _ _))⟩)
   all_goals simp only [bX, xT, ← hu', hln, Bool.false_eq_true, false_and, false_or, if_false]
   all_goals congr 2
   all_goals grind
  ·have hop := Cy hln
   repeat' (first|(apply aM;first|(apply aE;rfl;rfl)|(first|(apply eR;(case hx|hH => rfl);(case hf|hg|hα => infer_instance);(case hk => omega);(case hc|hN => rfl))|(apply aK;rfl;rfl;rfl;rfl)|(apply aX;rfl;rfl;(first|exact (rfl:_=[_, _, _, _, _])|rfl);rfl;rfl;rfl)|(apply j9;rfl;rfl;(first|assumption|(simp only [hZ] <;> omega));rfl;rfl)|(apply pH;rfl;rfl;(exact LS);(simp only [hZ] <;> omega);rfl))|(apply aD;rfl;rfl;rfl)|(first|(apply bB;rfl;rfl;rfl;(assumption))|(apply bC;rfl;rfl;rfl;(assumption))|(apply bK;(case hj|hb|hN => rfl);all_goals (intro hg;have hq := hg;(try simp only [cK] at hq);(try (exfalso;omega)))))|(first|(apply gJ;rfl;rfl;infer_instance;infer_instance;infer_instance;rfl)|(apply j3;rfl;rfl;infer_instance;omega;rfl;(case' kk => intro hsm))|(apply aR;rfl;rfl;rfl;rfl))|(apply aC;rfl;rfl)|(first|(apply bS;rfl;(assumption);rfl;rfl)|(apply bI;rfl;(assumption);rfl;rfl))|(first|(apply dA;(case hx|hi => rfl);(case hm => (omega));(case hml => (rfl));(case hα | hf|hg => infer_instance);(case hN => rfl))|(apply gO;rfl;rfl;(omega);rfl;rfl))|(first|((with_reducible apply aJ (k := 140));(case ha => rfl);(case h => (apply xZ <;> (fail)));(case hp => (exact Pur.pf));(case hN => rfl))|((with_reducible apply aJ (k := 196));(case ha => rfl);(case h => (apply lT <;> (fail)));(case hp => (exact Pur.pf));(case hN => rfl))|((with_reducible apply aJ (k := 197));(case ha => rfl);(case h => (apply zP <;> (fail)));(case hp => (rfl));(case hN => rfl)))|(apply aF;kernel_rfl)|(apply bU;rfl;rfl;rfl)|(apply aW;rfl;rfl;rfl;rfl;rfl;(rw [aU]; simp only [hZ] <;> omega);(exact oE (by (first|omega|(simp only [hZ] <;> omega)))))|(apply iB;rfl;rfl;rfl;(first|assumption|(simp only [hZ] <;> omega));(rfl)))|(apply aN;first|apply aH|apply aB|(apply bZ;kernel_rfl)|(apply b8;rfl;(first|rfl|assumption))|(apply aO;rfl;all_goals intro hc;have hq:=hc;(try simp only [cK] at hq);try exfalso;omega)|apply aS|apply bF|apply aQ)|with_reducible apply aA|with_reducible apply bJ|with_reducible apply bE|with_reducible apply bG)
   all_goals (refine aP (nC (z := 6) rfl rfl (by first|exact hul|(simp only [List.length_set]; exact hul)) (by decide)) ⟨?_, (by (exact aZ _ _))⟩)
   all_goals simp only [bX, xT, ← hu', hln, true_and, if_true]
   all_goals congr 2
   all_goals grind
theorem DR (ts : List Int) (bd : List AL.Stmt) (pts : List Pnt) (A : List Nat) (w : WG ts pts) (hA : vM ts pts A) : PC Tryz.prog 125 [aG ts bd pts] (fun r => r = .imm pts.length (aI cW A)) := by
 have hpl := w.pl
 have hp0 := w.p0
 have htl := w.tl
 (refine aT Tryz.func125 rfl (by simp [Tryz.ntmps125]) ?_; rw [Tryz.ntmps125])
 repeat' (first|(apply aM;first|(apply aE;rfl;rfl)|(apply aK;rfl;rfl;rfl;rfl)|(apply aD;rfl;rfl;rfl)|(apply aC;rfl;rfl)|(apply a9;rfl;rfl;rfl)|(apply aF;kernel_rfl)|(apply bU;rfl;rfl;rfl)|(apply eW;rfl;rfl;rfl;omega;omega;(exact FQ);rfl;rfl))|(apply aN;first|apply aH|apply aB|apply aL)|with_reducible apply aA)
 refine a7 (σ := List Nat × Bool) [0, 3] [(0, _), (3, _)] [] [] (fun s => [(4, bv s.2)]) (fun s => [(0, some (aI cW s.1))]) (fun s => SF ts pts s.1 ∧ (s.2 = false → yM ts pts s.1)) (fun s => 2 * gB (s.1.map (fun x => 2 ^ pts.length - x)) + s.2.toNat) (List.replicate (pts.length * 6) 0, true) ⟨JJ, fun h => by cases h⟩ rfl rfl (by repeat' (first|exact trivial|refine And.intro rfl ?_)) (by repeat' (first|exact trivial|refine And.intro (.inr rfl) ?_)) ?_
 rintro ⟨s, b⟩ ⟨hS, hC⟩
 dsimp only at hS hC ⊢
 repeat' (first|(apply aM;first|(apply aE;rfl;rfl)|(apply aK;rfl;rfl;rfl;rfl)|(apply aD;rfl;rfl;rfl)|(apply aC;rfl;rfl)|(apply a9;rfl;rfl;rfl)|(apply aF;kernel_rfl)|(apply bU;rfl;rfl;rfl))|(apply aN;first|apply aH|apply aB|(apply aO;rfl;all_goals intro hc;have hq:=hc;(try simp only [cK] at hq);try exfalso;omega)|apply aL|apply aS|apply bF|apply aQ)|with_reducible apply aA|with_reducible apply bE|with_reducible apply bG)
 ·refine a7 (σ := Nat × (List Nat × Bool)) [0, 3, 22, 23] [(0, _), (3, _), (22, _), (23, _)] [] [] (fun k => [(24, iv (k.1 : Int)), (4, bv k.2.2)]) (fun k => [(0, some (aI cW k.2.1))]) (fun k => k.1 ≤ pts.length ∧ k.2 = (List.range k.1).foldl (BS ts pts) (s, false) ∧ SF ts pts k.2.1) (fun k => pts.length - k.1) (0, (s, false)) ⟨by omega, rfl, hS⟩ rfl rfl (by repeat' (first | exact trivial | refine And.intro rfl ?_)) (by repeat' (first | exact trivial | refine And.intro (.inr rfl) ?_)) ?_
  rintro ⟨i, u, c⟩ ⟨hk, hf, hS2⟩
  dsimp only at hk hf hS2 ⊢
  have hul := hS2.1
  have hsm : ∀ z : Nat, Sm u[z]! := Jd w hS2
  by_cases hin : i < pts.length
  ·have hnl := w.nl i hin
   have hrl : ((u.drop (i * 6)).take 6).length = 6 := gW hul hin
   have hrs : ∀ z : Nat, Sm ((u.drop (i * 6)).take 6)[z]! := by
    intro z
    by_cases hz : z < 6
    ·have := hG hul hin hz;unfold fS at this;rw [this]; exact hsm _
    ·rw [getElem!_neg _ z (by rw [hrl]; exact hz)]; exact ⟨by decide⟩
   have hcl : (xT ts pts (i : Int).toNat ((u.drop (i * 6)).take 6)).length = 6 := (HE ts pts i ((u.drop (i * 6)).take 6)).trans hrl
   repeat' (first|(apply aM;first|(apply aE;rfl;rfl)|(first|(apply aK;rfl;rfl;rfl;rfl)|(apply aX;rfl;rfl;(first|exact (rfl:_=[_, _, _, _, _])|rfl);rfl;rfl;rfl)|(apply AG;rfl;rfl;(omega);rfl;rfl))|(apply aD;rfl;rfl;rfl)|(apply aR;rfl;rfl;rfl;rfl)|(apply aC;rfl;rfl)|(first|(apply a6;(case hx|hi => rfl);(case hm => (assumption));(case hml => (rfl));(case hα | hf|hg => infer_instance);(case hN => rfl))|(apply cG;rfl;rfl;(assumption);rfl))|((with_reducible apply aJ (k := 165));(case ha => rfl);(case h => (apply B9 <;> (first|assumption|omega)));(case hp => (exact Pur.pf));(case hN => rfl))|(apply a9;rfl;rfl;rfl)|(apply aF;kernel_rfl)|(apply bH;rfl;rfl)|(apply aW;rfl;rfl;rfl;rfl;rfl;(case hl => (simp;done));(exact (rfl:_=[_, _, _, _, _])))|(apply iB;rfl;rfl;rfl;(assumption);(rfl)))|(apply aN;first|apply aH|apply aB|(apply aO;rfl;all_goals intro hc;have hq:=hc;(try simp only [cK] at hq);try exfalso;omega)|apply aL|apply aS)|with_reducible apply aA)
   generalize hcf : xT ts pts (i : Int).toNat ((u.drop (i * 6)).take 6) = a at hcl
   have hcf' : xT ts pts i (fS u i) = a := hcf
   have hasnd : ∀ k, edge pts i k → ∀ v, v < 6 → LR ts pts k v a[v]! := fun k e v hv => by rw [← hcf']; exact Ds w hS2 e hv
   refine a7 (σ := Nat × (List Nat × Bool)) [0, 3, 7, 22, 23, 24, 37, 38] [(0, _), (3, _), (7, _), (22, _), (23, _), (24, _), (37, _), (38, _)] [2] [(2, some _)] (fun j => [(39, iv (j.1 : Int)), (4, bv j.2.2)]) (fun j => [(0, some (aI cW j.2.1))]) (fun j => j.1 ≤ pts[i]!.next.length ∧ j.2 = ((uG pts i).take j.1).foldl (uR a) (u, c) ∧ SF ts pts j.2.1) (fun j => pts[i]!.next.length - j.1) (0, (u, c)) ⟨by omega, rfl, hS2⟩ rfl rfl (by repeat' (first|exact trivial|refine And.intro rfl ?_)) (by repeat' (first|exact trivial|refine And.intro (.inr rfl) ?_)) ?_
   rintro ⟨j, u2, c2⟩ ⟨hj, hf2, hS3⟩
   dsimp only at hj hf2 hS3 ⊢
   have hul2 := hS3.1
   by_cases hjn : j < pts[i]!.next.length
   ·have hzz : 0 ≤ pts[i]!.next[j]! ∧ pts[i]!.next[j]! < pts.length := w.nx i hin _ (bY _ _ hjn)
    have hed : edge pts i (pts[i]!.next[j]!).toNat := ⟨hin, by rw [Int.toNat_of_nonneg hzz.1]; exact bY _ _ hjn⟩
    have hap := hasnd _ hed
    have hasm : ∀ z : Nat, Sm a[z]! := by
     intro z
     by_cases hz : z < 6
     ·exact ⟨Nat.lt_of_lt_of_le (hap z hz).1 (Nat.pow_le_pow_right (by decide) (by omega))⟩
     ·rw [getElem!_neg a z (by rw [hcl]; exact hz)]; exact ⟨by decide⟩
    repeat' (first|(apply aM;first|(apply aE;rfl;rfl)|(first|(apply aK;rfl;rfl;rfl;rfl)|(apply j9;rfl;rfl;(assumption);rfl;rfl))|(apply aR;rfl;rfl;rfl;rfl)|(apply aC;rfl;rfl)|(apply a6;(case hx|hi => rfl);(case hm => (assumption));(case hml => (rfl));(case hα | hf|hg => infer_instance);(case hN => rfl))|(apply aF;kernel_rfl))|(apply aN;first|apply aH|apply aB|(apply aO;rfl;all_goals intro hc;have hq:=hc;(try simp only [cK] at hq);try exfalso;omega)|apply aL|apply aS)|with_reducible apply aA)
    refine a7 (σ := Nat × (List Nat × Bool)) [0, 3, 7, 9, 22, 23, 24, 37, 38, 39, 43] [(0, _), (3, _), (7, _), (9, _), (22, _), (23, _), (24, _), (37, _), (38, _), (39, _), (43, _)] [2] [(2, some _)] (fun v => [(44, iv (v.1 : Int)), (4, bv v.2.2)]) (fun v => [(0, some (aI cW v.2.1))]) (fun v => v.1 ≤ 6 ∧ v.2 = (List.range v.1).foldl (pD a (pts[i]!.next[j]!).toNat) (u2, c2) ∧ SF ts pts v.2.1) (fun v => 6 - v.1) (0, (u2, c2)) ⟨by omega, rfl, hS3⟩ rfl rfl (by repeat' (first|exact trivial|refine And.intro rfl ?_)) (by repeat' (first|exact trivial|refine And.intro (.inr rfl) ?_)) ?_
    rintro ⟨v, u3, c3⟩ ⟨hv, hf3, hS4⟩
    dsimp only at hv hf3 hS4 ⊢
    have hul3 := hS4.1
    have hsm3 : ∀ z : Nat, Sm u3[z]! := Jd w hS4
    by_cases hvn : v < 6
    ·have hlaw := A3 (fK w hed) hap u3 c3 v hvn hS4
     repeat' (first|(apply aM;first|(apply aE;rfl;rfl)|(apply pH;rfl;rfl;(exact Mf);(omega);rfl)|(first|(apply gJ;rfl;rfl;infer_instance;infer_instance;infer_instance;rfl)|(apply bR;rfl;rfl;omega;rfl)|(apply aR;rfl;rfl;rfl;rfl))|(apply aC;rfl;rfl)|(first|(apply cM;rfl;rfl;(assumption);rfl)|(apply gO;rfl;rfl;(omega);rfl;rfl))|(apply aF;kernel_rfl)|(apply Bh;rfl;rfl;(assumption);omega;rfl)|(apply aW;rfl;rfl;rfl;rfl;rfl;(rw [aU]; simp only [hZ] <;> omega);(exact E9 (by (omega)))))|(apply aN;first|apply aH|apply aB|(apply bZ;kernel_rfl)|(apply aO;rfl;all_goals intro hc;have hq:=hc;(try simp only [cK] at hq);try exfalso;omega)|apply aL|apply aS)|with_reducible apply aA|with_reducible apply aV)
     ·have hne : nP u3[(pts[i]!.next[j]!).toNat * 6 + v]! a[v]! ≠ u3[(pts[i]!.next[j]!).toNat * 6 + v]! := fun h => hq (congrArg Int.ofNat h)
      have e1 : pD a (pts[i]!.next[j]!).toNat (u3, c3) v = (u3.set ((pts[i]!.next[j]!).toNat * 6 + v) (nP u3[(pts[i]!.next[j]!).toNat * 6 + v]! a[v]!), true) := yG hne
      rw [e1] at hlaw
      (apply dV (v + 1, (_, true));focus (refine Le.ren [(0, 0), (2, 2)] rfl (by decide) ?_ ?_ <;> repeat' (first|exact trivial|refine And.intro ⟨_, rfl, ?_⟩ ?_|refine And.intro ⟨_, _, rfl, rfl, ?_⟩ ?_|exact Or.inr rfl|refine Or.inl ⟨?_, (by first|rfl|exact aZ _ _|exact Pur.pf)⟩|rfl)))
      ·dsimp only
       refine ⟨by omega, ?_, hlaw.1⟩
       rw [vF, ← hf3, e1]; rfl
      ·dsimp only;omega
     ·have hne : nP u3[(pts[i]!.next[j]!).toNat * 6 + v]! a[v]! = u3[(pts[i]!.next[j]!).toNat * 6 + v]! := Int.ofNat.inj hq
      have e1 : pD a (pts[i]!.next[j]!).toNat (u3, c3) v = (u3, c3) := yQ hne
      (apply dV (v + 1, (u3, c3));focus (refine Le.ren [(0, 0), (2, 2)] rfl (by decide) ?_ ?_ <;> repeat' (first|exact trivial|refine And.intro ⟨_, rfl, ?_⟩ ?_|refine And.intro ⟨_, _, rfl, rfl, ?_⟩ ?_|exact Or.inr rfl|refine Or.inl ⟨?_, (by first|rfl|exact aZ _ _|exact Pur.pf)⟩|rfl)))
      ·dsimp only
       refine ⟨by omega, ?_, hS4⟩
       rw [vF, ← hf3, e1]
      ·dsimp only;omega
    ·have hv6 : v = 6 := by omega
     subst hv6
     repeat' (first|(apply aM;first|(apply aE;rfl;rfl)|(first|(apply bR;rfl;rfl;omega;rfl)|(apply aR;rfl;rfl;rfl;rfl))|(apply aF;kernel_rfl))|(apply aN;first|apply aH|apply aB|(apply cH;rfl;(rfl))|apply bF)|with_reducible apply aA|with_reducible apply bE|with_reducible apply aV|with_reducible apply bG)
     (apply dV (j + 1, (u3, c3));focus (refine Le.ren [(0, 0), (2, 2)] rfl (by decide) ?_ ?_ <;> repeat' (first|exact trivial|refine And.intro ⟨_, rfl, ?_⟩ ?_|refine And.intro ⟨_, _, rfl, rfl, ?_⟩ ?_|exact Or.inr rfl|refine Or.inl ⟨?_, (by first|rfl|exact aZ _ _|exact Pur.pf)⟩|rfl)))
     ·dsimp only
      refine ⟨by omega, ?_, hS4⟩
      rw [Eo hjn, ← hf2, hf3]; rfl
     ·dsimp only;omega
   ·repeat' (first | (apply aM; first | (apply aE;rfl;rfl) | (first | (apply bR;rfl;rfl;omega;rfl) | (apply aR;rfl;rfl;rfl;rfl)) | (apply aF;kernel_rfl)) | (apply aN; first | apply aH | apply aB | (apply aO;rfl;all_goals intro hc;have hq:=hc;(try simp only [cK] at hq);try exfalso;omega) | apply bF) | with_reducible apply aA | with_reducible apply bE | with_reducible apply aV | with_reducible apply bG)
    (apply dV (i + 1, (u2, c2));focus (refine Le.ren [(0, 0)] rfl (by decide) ?_ ?_ <;> repeat' (first|exact trivial|refine And.intro ⟨_, rfl, ?_⟩ ?_|refine And.intro ⟨_, _, rfl, rfl, ?_⟩ ?_|exact Or.inr rfl|refine Or.inl ⟨?_, (by first|rfl|exact aZ _ _|exact Pur.pf)⟩|rfl)))
    ·dsimp only
     refine ⟨by omega, ?_, hS3⟩
     rw [fC, ← hf, hf2, List.take_of_length_le (by rw [kT]; omega), ← hcf']; rfl
    ·dsimp only;omega
  ·repeat' (first | (apply aM; first | (apply aR;rfl;rfl;rfl;rfl) | (apply aF;kernel_rfl)) | (apply aN; first | apply aH | apply aB | (apply aO;rfl;all_goals intro hc;have hq:=hc;(try simp only [cK] at hq);try exfalso;omega) | apply bF) | with_reducible apply aA | with_reducible apply bE | with_reducible apply aV | with_reducible apply bG)
   have law := EL w s false hS
   have hfull : (u, c) = FK ts pts (s, false) := by
    rw [hf, show i = pts.length by omega]; rfl
   rw [← hfull] at law
   (apply dV (u, c);focus (refine Le.ren [(0, 0)] rfl (by decide) ?_ ?_ <;> repeat' (first|exact trivial|refine And.intro ⟨_, rfl, ?_⟩ ?_|refine And.intro ⟨_, _, rfl, rfl, ?_⟩ ?_|exact Or.inr rfl|refine Or.inl ⟨?_, (by first|rfl|exact aZ _ _|exact Pur.pf)⟩|rfl)))
   ·dsimp only
    refine ⟨hS2, fun h => ?_⟩
    rcases law.2 with ⟨e1, e2⟩ | ⟨e1, _⟩
    ·cases e1;exact e2
    ·dsimp only at e1;rw [h] at e1;cases e1
   ·dsimp only
    have hb : b = true := by assumption
    subst hb
    rcases law.2 with ⟨e1, e2⟩ | ⟨e1, e2⟩
    ·cases e1;simp
    ·dsimp only at e1 e2;subst e1;omega
 ·have hb : b = false := by assumption
  refine cC (Le.frzD (d := 2) (i := 0) rfl rfl) ?_
  refine aP rfl ⟨?_, (by (exact aZ _ _))⟩
  simp only [bX]
  rw [D3 hA (E6 w hS (hC hb))]
theorem Kn (ts : List Int) (bd : List AL.Stmt) (pts : List Pnt) (i : Int) (lv : Nat) (f : List Nat) (w : WG ts pts) (hi : 0 ≤ i ∧ i < pts.length) (hlv : lv < 2 ^ ts.length) (hf : f.length = 6) (hs : ∀ z : Nat, Sm f[z]!) : PC Tryz.prog 169 [aG ts bd pts, iv i, iv (lv : Int), .agg (aI cW f)] (fun r => r = .v (.int .u64 (yR ts pts[i.toNat]! lv f : Nat))) := by
 have hpl := w.pl
 have htl := w.tl
 have hin : i.toNat < pts.length := by omega
 have hst := (w.set i.toNat hin)
 have hsl : Sm lv := ⟨Nat.lt_of_lt_of_le hlv (Nat.pow_le_pow_right (by decide) (by omega))⟩
 have hT : Sm (wS ts pts[i.toNat]! [2]) := dJ (by omega)
 have hB : Sm (iF pts[i.toNat]!) := qZ (by omega)
 have hbl := dY (nO lv (wS ts pts[i.toNat]! [2] ||| iF pts[i.toNat]!))
 have hlt : nO lv (wS ts pts[i.toNat]! [2] ||| iF pts[i.toNat]!) < 2 ^ ts.length := Nat.xor_lt_two_pow hlv (Nat.lt_of_le_of_lt Nat.and_le_left hlv)
 (refine aT Tryz.func169 rfl (by simp [Tryz.ntmps169]) ?_; rw [Tryz.ntmps169])
 repeat' (first|(apply aM;first|(apply aE;rfl;rfl)|(first|(apply aK;rfl;rfl;rfl;rfl)|(apply aX;rfl;rfl;(exact (rfl:_=[_, _, _, _, _]));rfl;rfl;rfl))|(apply aD;rfl;rfl;rfl)|(first|(apply gJ;rfl;rfl;infer_instance;infer_instance;infer_instance;rfl)|(apply oV;rfl;rfl;infer_instance;infer_instance;infer_instance;rfl))|(apply aC;rfl;rfl)|(apply dA;(case hx|hi => rfl);(case hm => (assumption));(case hml => (rfl));(case hα | hf|hg => infer_instance);(case hN => rfl))|(first|((with_reducible apply aJ (k := 100));(case ha => rfl);(case h => (apply g8 <;> (infer_instance)));(case hp => (rfl));(case hN => rfl))|((with_reducible apply aJ (k := 139));(case ha => rfl);(case h => (apply qT <;> (assumption)));(case hp => (exact Pur.pf));(case hN => rfl))|((with_reducible apply aJ (k := 174));(case ha => rfl);(case h => (apply oG <;> (omega)));(case hp => (exact Pur.pf));(case hN => rfl)))|(apply a9;rfl;rfl;rfl)|(apply aF;kernel_rfl)|(apply bU;rfl;rfl;rfl)|(apply bW;rfl;rfl;rfl;rfl)|(apply bH;rfl;rfl)|(apply aW;rfl;rfl;rfl;rfl;rfl;(case hl => (simp;done));(exact (rfl:_=[_, _, _, _, _]))))|(apply aN;first|apply aH|apply aB|(apply bZ;kernel_rfl)|apply aL)|with_reducible apply aA)
 refine a7 (σ := Nat × Nat) [7, 28, 29] [(7, _), (28, _), (29, _)] [0] [(0, some _)] (fun k => [(30, iv (k.1 : Int)), (10, .v (.int .u64 (k.2 : Int)))]) (fun k => []) (fun k => k.1 ≤ (cS (nO lv (wS ts pts[i.toNat]! [2] ||| iF pts[i.toNat]!))).length ∧ k.2 = KW f ((cS (nO lv (wS ts pts[i.toNat]! [2] ||| iF pts[i.toNat]!))).take k.1) 0 ∧ Sm k.2) (fun k => (cS (nO lv (wS ts pts[i.toNat]! [2] ||| iF pts[i.toNat]!))).length - k.1) (0, 0) ⟨by omega, rfl, inferInstance⟩ rfl rfl (by repeat' (first|exact trivial|refine And.intro rfl ?_)) (by repeat' (exact trivial)) ?_
 rintro ⟨k, a⟩ ⟨hk, ha, hsa⟩
 dsimp only at hk ha hsa ⊢
 have hbb : k < (cS (nO lv (wS ts pts[i.toNat]! [2] ||| iF pts[i.toNat]!))).length → 0 ≤ (cS (nO lv (wS ts pts[i.toNat]! [2] ||| iF pts[i.toNat]!)))[k]! ∧ (cS (nO lv (wS ts pts[i.toNat]! [2] ||| iF pts[i.toNat]!)))[k]! < ts.length := fun h => lQ hlt h
 repeat' (first|(apply aM;first|(apply aE;rfl;rfl)|(first|(apply eR;(case hx|hH => rfl);(case hf|hg|hα => infer_instance);(case hk => omega);(case hc|hN => rfl))|(apply aK;rfl;rfl;rfl;rfl))|(first|(apply gJ;rfl;rfl;infer_instance;infer_instance;infer_instance;rfl)|(apply bR;rfl;rfl;omega;rfl)|(apply aR;rfl;rfl;rfl;rfl))|(apply aC;rfl;rfl)|(first|(apply a6;(case hx|hi => rfl);(case hm => (omega));(case hml => (rfl));(case hα | hf|hg => infer_instance);(case hN => rfl))|(apply gO;rfl;rfl;(omega);rfl;rfl))|(apply aF;kernel_rfl))|(apply aN;first|apply aH|apply aB|(apply aO;rfl;all_goals intro hc;have hq:=hc;(try simp only [cK] at hq);try exfalso;omega)|apply aL|apply aS|apply bF|apply aQ)|with_reducible apply aA|with_reducible apply bE|with_reducible apply aV|with_reducible apply bG)
 ·(apply dV (k + 1, _); focus (refine Le.ren [(0, 0)] rfl (by decide) ?_ ?_ <;> repeat' (first | exact trivial | refine And.intro ⟨_, rfl, ?_⟩ ?_ | refine And.intro ⟨_, _, rfl, rfl, ?_⟩ ?_ | exact Or.inr rfl | refine Or.inl ⟨?_, (by first | rfl | exact aZ _ _)⟩ | rfl)))
  ·dsimp only
   refine ⟨by omega, ?_, inferInstance⟩
   rw [ha]; unfold KW;rw [fF _ _ _ _ (by omega)]
  ·dsimp only;omega
 ·refine aP rfl ⟨?_, rfl⟩
  simp only [bX]
  rw [ha, List.take_of_length_le (by omega)]; rfl
theorem B2 (ts : List Int) (bd : List AL.Stmt) (pts : List Pnt) (x : Pnt) (mb : Nat) (htl : ts.length ≤ 6) (hmb : Sm mb) (hst : bD x < ts.length) (hy : 0 ≤ x.y ∧ (3 ≤ x.op → x.op ≤ 7 → x.y < ts.length)) : PC Tryz.prog 199 [aG ts bd pts, iD x, iv (mb : Int)] (fun r => r = sl IT (nL ts x (mb.testBit (bD x).toNat))) := by
 (refine aT Tryz.func199 rfl (by simp [Tryz.ntmps199]) ?_; rw [Tryz.ntmps199])
 repeat' (first|(apply aM;first|((apply fU (d := 7) (e := 2));(case hM|hN => rfl))|(apply aE;rfl;rfl)|(first|(apply aK;rfl;rfl;rfl;rfl)|(apply aX;rfl;rfl;(exact (rfl:_=[_, _, _, _, _]));rfl;rfl;rfl))|(apply aD;rfl;rfl;rfl)|(first|(apply bB;rfl;rfl;rfl;(assumption))|(apply bC;rfl;rfl;rfl;(first|rfl|assumption))|(apply bK;(case hj|hb|hN => rfl);all_goals (intro hg;have hq := hg;(try simp only [cK] at hq);(try (exfalso;omega)))))|(first|(apply rC;rfl;rfl;infer_instance;infer_instance;rfl)|(apply qX;rfl;rfl;infer_instance;infer_instance;omega;rfl)|(apply aR;rfl;rfl;rfl;rfl))|(apply aC;rfl;rfl)|(first|(apply bS;rfl;(assumption);rfl;rfl)|(apply bI;rfl;(first|rfl|assumption);rfl;rfl))|(apply dA;(case hx|hi => rfl);(case hm => (omega));(case hml => (rfl));(case hα | hf|hg => infer_instance);(case hN => rfl))|(first|((with_reducible apply aJ (k := 140));(case ha => rfl);(case h => (apply xZ <;> (fail)));(case hp => (exact Pur.pf));(case hN => rfl))|((with_reducible apply aJ (k := 154));(case ha => rfl);(case h => (apply xQ <;> (omega)));(case hp => (exact Pur.pf));(case hN => rfl)))|(apply cF;rfl;rfl;rfl;rfl;rfl;(case hl => (simp [aU]; done));(rfl);omega;omega;(first|exact (rfl:_=[_, _])|exact (rfl:_=[_, _, _, _]));rfl;rfl)|(apply aF;kernel_rfl)|(apply b9;rfl;(exact (rfl:_=some [_, _]));(exact (rfl:_=[_, _]));rfl)|(apply bU;rfl;rfl;rfl)|(apply bW;rfl;rfl;rfl;rfl)|(apply cA;rfl;rfl;rfl;(exact (rfl:_=some [_, _]));rfl;rfl))|(apply aN;first|apply aH|apply aB|(apply b8;rfl;(assumption))|(apply cH;rfl;(rfl))|(apply aO;rfl;all_goals intro hc;have hq:=hc;(try simp only [cK] at hq);try exfalso;omega)|apply aL|apply aS|apply aQ)|with_reducible apply aA|with_reducible apply aV)
 all_goals first|refine cC (Le.frzD (d := 6) (i := 1) rfl rfl) ?_|refine cC (Le.frzD (d := 6) (i := 3) rfl rfl) ?_|refine cC (Le.frzD (d := 6) (i := 5) rfl rfl) ?_
 all_goals refine aP rfl ⟨?_, (by (rfl))⟩
 all_goals simp only [bX, nL]
 all_goals have h1 := lV mb (bD x).toNat
 all_goals (try (rw [if_neg (show ¬ (0 ≤ bD x ∧ ts[(bD x).toNat]! = 2 ∧ mb.testBit (bD x).toNat = true) from fun h => by omega)]))
 all_goals (simp_all <;> rfl)
theorem Ed (ts : List Int) (bd : List AL.Stmt) (pts : List Pnt) (i : Int) (mb loans : Nat) (w : WG ts pts) (hi : 0 ≤ i ∧ i < pts.length) (hmb : Sm mb) (hlo : loans < 2 ^ pts.length) : PC Tryz.prog 168 [aG ts bd pts, iv i, iv (mb : Int), .v (.int .u64 (loans : Int))] (fun r => r = .v (.int .u64 (Hi pts loans (nL ts pts[i.toNat]! (mb.testBit (bD pts[i.toNat]!).toNat)) 0 : Nat))) := by
 have hpl := w.pl
 have htl := w.tl
 have hin : i.toNat < pts.length := by omega
 have hst := (w.set i.toNat hin).1
 have hy := w.y i.toNat hin
 have hx := w.x i.toNat hin
 have hop := w.op i.toNat hin
 have hlsm : Sm loans := ⟨Nat.lt_of_lt_of_le hlo (Nat.pow_le_pow_right (by decide) (by omega))⟩
 have hacc := CW (mb.testBit (bD pts[i.toNat]!).toNat) w hin
 have hal := FC ts pts[i.toNat]! (mb.testBit (bD pts[i.toNat]!).toNat)
 (refine aT Tryz.func168 rfl (by simp [Tryz.ntmps168]) ?_; rw [Tryz.ntmps168])
 repeat' (first|(apply aM;first|(apply aE;rfl;rfl)|(first|(apply aK;rfl;rfl;rfl;rfl)|(apply aX;rfl;rfl;(exact (rfl:_=[_, _, _, _, _]));rfl;rfl;rfl))|(apply aD;rfl;rfl;rfl)|(apply aC;rfl;rfl)|(apply dA;(case hx|hi => rfl);(case hm => (assumption));(case hml => (rfl));(case hα | hf|hg => infer_instance);(case hN => rfl))|((with_reducible apply aJ (k := 199));(case ha => rfl);(case h => (apply B2 <;> (assumption)));(case hp => (exact Pur.pf));(case hN => rfl))|(apply a9;rfl;rfl;rfl)|(apply aF;kernel_rfl)|(apply bU;rfl;rfl;rfl))|(apply aN;first|apply aH|apply aB|apply aL)|with_reducible apply aA)
 generalize nL ts pts[i.toNat]! (mb.testBit (bD pts[i.toNat]!).toNat) = acs at hacc hal
 refine a7 (σ := Nat × Nat) [0, 3, 23, 24] [(0, _), (3, _), (23, _), (24, _)] [] [] (fun k => [(25, iv (k.1 : Int)), (9, .v (.int .u64 (k.2 : Int)))]) (fun k => []) (fun k => k.1 ≤ acs.length ∧ k.2 = Hi pts loans (acs.take k.1) 0 ∧ k.2 < 2 ^ pts.length) (fun k => acs.length - k.1) (0, 0) ⟨by omega, rfl, Nat.pow_pos (by decide)⟩ rfl rfl (by repeat' (first|exact trivial|refine And.intro rfl ?_)) (by repeat' (exact trivial)) ?_
 rintro ⟨k, a⟩ ⟨hk, ha, hab⟩
 dsimp only at hk ha hab ⊢
 by_cases hkn : k < acs.length
 ·have hcv := hacc _ (bY acs k hkn)
  have hof : ∀ V, Sm (qH pts V) := fun V => Gw w V
  have hll := dY (loans &&& qH pts (2 ^ (acs[k]!.var).toNat))
  have hlb : loans &&& qH pts (2 ^ (acs[k]!.var).toNat) < 2 ^ pts.length := Nat.lt_of_le_of_lt Nat.and_le_left hlo
  have htk := fF (fun a c => H4 pts c.write (cS (loans &&& qH pts (2 ^ c.var.toNat))) a) acs 0 k hkn
  repeat' (first|(apply aM;first|(apply aE;rfl;rfl)|(first|(apply aK;rfl;rfl;rfl;rfl)|(apply aX;rfl;rfl;(exact (rfl:_=[_, _]));rfl;rfl;rfl))|(apply aD;rfl;rfl;rfl)|(first|(apply xK;rfl;rfl;infer_instance;infer_instance;infer_instance;rfl)|(apply j3;rfl;rfl;infer_instance;omega;rfl;(case' kk => intro hsm))|(apply aR;rfl;rfl;rfl;rfl))|(apply a6;(case hx|hi => rfl);(case hm => (assumption));(case hml => (rfl));(case hα | hf|hg => infer_instance);(case hN => rfl))|(first|((with_reducible apply aJ (k := 92));(case ha => rfl);(case h => (apply tB <;> (infer_instance)));(case hp => (rfl));(case hN => rfl))|((with_reducible apply aJ (k := 198));(case ha => rfl);(case h => (apply Au <;> (assumption)));(case hp => (exact Pur.pf));(case hN => rfl)))|(apply a9;rfl;rfl;rfl)|(apply aF;kernel_rfl)|(apply bH;rfl;rfl)|(apply aW;rfl;rfl;rfl;rfl;rfl;(case hl => (simp;done));(exact (rfl:_=[_, _]))))|(apply aN;first|apply aH|apply aB|(apply aO;rfl;all_goals intro hc;have hq:=hc;(try simp only [cK] at hq);try exfalso;omega)|apply aL|apply aS)|with_reducible apply aA)
  refine a7 (σ := Nat × Nat) [0, 3, 11, 23, 24, 25, 36, 37] [(0, _), (3, _), (11, _), (23, _), (24, _), (25, _), (36, _), (37, _)] [0] [(0, some _)] (fun j => [(38, iv (j.1 : Int)), (9, .v (.int .u64 (j.2 : Int)))]) (fun j => []) (fun j => j.1 ≤ (cS (loans &&& qH pts (2 ^ (acs[k]!.var).toNat))).length ∧ j.2 = H4 pts acs[k]!.write ((cS (loans &&& qH pts (2 ^ (acs[k]!.var).toNat))).take j.1) a ∧ j.2 < 2 ^ pts.length) (fun j => (cS (loans &&& qH pts (2 ^ (acs[k]!.var).toNat))).length - j.1) (0, a) ⟨by omega, rfl, hab⟩ rfl rfl (by repeat' (first|exact trivial|refine And.intro rfl ?_)) (by repeat' (exact trivial)) ?_
  rintro ⟨j, b⟩ ⟨hj, hb, hbb⟩
  dsimp only at hj hb hbb ⊢
  have hbsm : Sm b := ⟨Nat.lt_of_lt_of_le hbb (Nat.pow_le_pow_right (by decide) (by omega))⟩
  by_cases hjn : j < (cS (loans &&& qH pts (2 ^ (acs[k]!.var).toNat))).length
  ·have hlz := lQ hlb hjn
   have hstep : H4 pts acs[k]!.write ((cS (loans &&& qH pts (2 ^ (acs[k]!.var).toNat))).take (j + 1)) a = if acs[k]!.write = true ∨ pts[((cS (loans &&& qH pts (2 ^ (acs[k]!.var).toNat)))[j]!).toNat]!.op = 5 then b ||| 2 ^ ((cS (loans &&& qH pts (2 ^ (acs[k]!.var).toNat)))[j]!).toNat else b := by
    rw [hb]; unfold H4;rw [fF _ _ _ _ hjn]
   have hb2 : b ||| 2 ^ ((cS (loans &&& qH pts (2 ^ (acs[k]!.var).toNat)))[j]!).toNat < 2 ^ pts.length := Nat.or_lt_two_pow hbb (Nat.pow_lt_pow_right (by decide) (by omega))
   repeat' (first|(apply aM;first|(apply aE;rfl;rfl)|(apply aK;rfl;rfl;rfl;rfl)|(apply aD;rfl;rfl;rfl)|(first|(apply bB;rfl;rfl;rfl;(assumption))|(apply bC;rfl;rfl;rfl;(assumption))|(apply bK;(case hj|hb|hN => rfl);all_goals (intro hg;have hq := hg;(try simp only [cK] at hq);(try (exfalso;omega)))))|(first|(apply gJ;rfl;rfl;infer_instance;infer_instance;infer_instance;rfl)|(apply j3;rfl;rfl;infer_instance;omega;rfl;(case' kk => intro hsm))|(apply bR;rfl;rfl;omega;rfl)|(apply aR;rfl;rfl;rfl;rfl))|(apply aC;rfl;rfl)|(first|(apply bS;rfl;(assumption);rfl;rfl)|(apply bI;rfl;(assumption);rfl;rfl))|(first|(apply a6;(case hx|hi => rfl);(case hm => (assumption));(case hml => (rfl));(case hα | hf|hg => infer_instance);(case hN => rfl))|(apply dA;(case hx|hi => rfl);(case hm => (assumption));(case hml => (rfl));(case hα | hf|hg => infer_instance);(case hN => rfl)))|(apply aF;kernel_rfl)|(apply bU;rfl;rfl;rfl))|(apply aN;first|apply aH|apply aB|(apply b8;rfl;(rfl))|(apply aO;rfl;all_goals intro hc;have hq:=hc;(try simp only [cK] at hq);try exfalso;omega)|apply aL|apply aS)|with_reducible apply aA|with_reducible apply aV)
   all_goals first
    | ((apply Exists.intro (j + 1, b ||| 2 ^ ((cS (loans &&& qH pts (2 ^ (acs[k]!.var).toNat)))[j]!).toNat); refine And.intro ?_ (And.intro ?_ ?_); rotate_left 2; focus (refine Le.ren [(0, 0)] rfl (by decide) ?_ ?_ <;> repeat' (first | exact trivial | refine And.intro ⟨_, rfl, ?_⟩ ?_ | refine And.intro ⟨_, _, rfl, rfl, ?_⟩ ?_ | exact Or.inr rfl | refine Or.inl ⟨?_, (by first | rfl | exact aZ _ _ | exact Pur.pf)⟩ | rfl)))
       ·dsimp only
        refine ⟨by omega, ?_, hb2⟩
        rw [hstep, if_pos (by first|exact .inl (by assumption)|exact .inr (by assumption))]
       ·dsimp only;omega)
    | ((apply dV (j + 1, b); focus (refine Le.ren [(0, 0)] rfl (by decide) ?_ ?_ <;> repeat' (first | exact trivial | refine And.intro ⟨_, rfl, ?_⟩ ?_ | refine And.intro ⟨_, _, rfl, rfl, ?_⟩ ?_ | exact Or.inr rfl | refine Or.inl ⟨?_, (by first | rfl | exact aZ _ _ | exact Pur.pf)⟩ | rfl)))
       ·dsimp only
        refine ⟨by omega, ?_, hbb⟩
        rw [hstep, if_neg (fun h => h.elim (fun h1 => Bool.noConfusion (h1.symm.trans (by assumption : acs[k]!.write = false))) (fun h2 => absurd h2 (by assumption)))]
       ·dsimp only;omega)
  ·repeat' (first | (apply aM; first | (apply aE;rfl;rfl) | (first | (apply bR;rfl;rfl;omega;rfl) | (apply aR;rfl;rfl;rfl;rfl)) | (apply aF;kernel_rfl)) | (apply aN; first | apply aH | apply aB | (apply aO;rfl;all_goals intro hc;have hq:=hc;(try simp only [cK] at hq);try exfalso;omega) | apply bF) | with_reducible apply aA | with_reducible apply bE | with_reducible apply aV | with_reducible apply bG)
   (apply dV (k + 1, b);focus (refine Le.ren [] rfl (by decide) ?_ ?_ <;> repeat' (first|exact trivial|refine And.intro ⟨_, rfl, ?_⟩ ?_|refine Or.inl ⟨?_, (by first|rfl|exact aZ _ _|exact Pur.pf)⟩|rfl)))
   ·dsimp only
    refine ⟨by omega, ?_, hbb⟩
    rw [hb, List.take_of_length_le (by omega), ha]; unfold Hi;rw [htk]
   ·dsimp only;omega
 ·repeat' (first | (apply aM; first | (apply aE;rfl;rfl) | (apply aR;rfl;rfl;rfl;rfl) | (apply aC;rfl;rfl) | (apply aF;kernel_rfl)) | (apply aN; first | apply aH | apply aB | (apply aO;rfl;all_goals intro hc;have hq:=hc;(try simp only [cK] at hq);try exfalso;omega) | apply bF | apply aQ) | with_reducible apply aA | with_reducible apply bE | with_reducible apply bG)
  refine aP rfl ⟨?_, rfl⟩
  simp only [bX]
  rw [ha, List.take_of_length_le (by omega)]
theorem DG (n : Nat) (A : List Nat) (i : Int) (hA : A.length = n * 6) (hi : 0 ≤ i ∧ i < n) : PC Tryz.prog 128 [iv i, .iptr [.imm n (aI cW A)]] (fun r => r = .agg (aI cW (fS A i.toNat))) := by
 have h6 : ((A.drop (i.toNat * 6)).take 6).length = 6 := gW hA (by omega)
 (refine aT Tryz.func128 rfl (by simp [Tryz.ntmps128]) ?_; rw [Tryz.ntmps128])
 repeat' (first|(apply aM;first|(apply aE;rfl;rfl)|(first|(apply aK;rfl;rfl;rfl;rfl)|(apply AI;rfl;(simp only [hZ, List.length_drop] <;> omega);rfl;rfl))|(apply BP;rfl;rfl;(omega);rfl)|(apply aF;kernel_rfl)|(apply bH;rfl;rfl)|(apply iB;rfl;rfl;rfl;(assumption);(rfl)))|(apply aN;first|apply aH|apply aB|apply aQ)|with_reducible apply aA)
 refine aP (nC (z := 6) rfl rfl h6 (by decide)) ⟨rfl, (by (exact aZ _ _))⟩
theorem I4 (ts : List Int) (bd : List AL.Stmt) (pts : List Pnt) (Aa Am Al Af Ap : List Nat) (n : Nat) (w : WG ts pts) (ga : sD ts pts Aa) (gm : sU ts pts Am) (gl : wE ts pts Al) (gf : vM ts pts Af) (gp : vD ts pts Ap) (hn : n = pts.length) :
  PC Tryz.prog 126 [aG ts bd pts, .imm n (aI cN Al), .clos (.func 128) [] [.iptr [.imm n (aI cW Af)]]] (fun r => r = sl qJ (DY ts pts Aa Am Al Af Ap pts.length)) := by
 subst hn
 have hpl := w.pl
 have htl := w.tl
 have hla := ga.1
 have hlm := gm.1
 have hll := gl.1
 have hlf := gf.1
 have hlp := gp.1
 (refine aT Tryz.func126 rfl (by simp [Tryz.ntmps126]) ?_; rw [Tryz.ntmps126])
 repeat' (first|(apply aM;first|((apply fU (d := 10) (e := 3));(case hM|hN => rfl))|(apply aE;rfl;rfl)|(apply aK;rfl;rfl;rfl;rfl)|(apply aD;rfl;rfl;rfl)|(apply aC;rfl;rfl)|(first|((with_reducible apply aJ (k := 101));(case ha => rfl);(case h => (apply Gd <;> (assumption)));(case hp => (exact Pur.pf));(case hN => rfl))|((with_reducible apply aJ (k := 166));(case ha => rfl);(case h => (apply HS <;> (assumption)));(case hp => (exact Pur.pf));(case hN => rfl))|((with_reducible apply aJ (k := 167));(case ha => rfl);(case h => (apply F4 <;> (assumption)));(case hp => (exact Pur.pf));(case hN => rfl)))|(apply a9;rfl;rfl;rfl)|(apply aF;kernel_rfl)|(apply bU;rfl;rfl;rfl))|(apply aN;first|apply aH|apply aB|apply aL)|with_reducible apply aA)
 refine a7 (σ := Nat × List Iss × Nat) [0, 1, 2, 7, 8, 9, 27, 28] [(0, _), (1, _), (2, _), (7, _), (8, _), (9, _), (27, _), (28, _)] [] [] (fun k => [(29, iv (k.1 : Int)), (10, .own 0 0 k.2.2 3)]) (fun k => [(0, some (aI qJ k.2.1))]) (fun k => k.1 ≤ pts.length ∧ k.2.1 = DY ts pts Aa Am Al Af Ap k.1 ∧ k.2.2 = k.2.1.length ∧ k.2.2 ≤ k.1 * 124) (fun k => pts.length - k.1) (0, [], 0) ⟨by omega, rfl, rfl, Nat.le_refl _⟩ rfl rfl (by repeat' (first|exact trivial|refine And.intro rfl ?_)) (by repeat' (first|exact trivial|refine And.intro (.inr rfl) ?_)) ?_
 rintro ⟨i, u, m⟩ ⟨hk, hu, hm, hmk⟩
 dsimp only at hk hu hm hmk ⊢
 by_cases hin : i < pts.length
 ·have hst := w.set i hin
  have hsU : Sm (wS ts pts[i]! [1, 2, 3]) := dJ (by omega)
  have bl : ∀ {A : Nat} {n : Nat}, n ≤ 62 → (∀ v, A.testBit v = true → v < n) → A < 2 ^ n := fun _ hv => Nat.lt_pow_two_of_testBit _ fun v h => by
   cases hq : Nat.testBit _ v with
   | false => rfl
   | true => have := hv v hq;omega
  have hAa : Sm Aa[i]! := ⟨bl (n := 62) (by omega) fun v hv => by have := ((ga.2 i hin v).1 hv).1;omega⟩
  have hAm : Sm Am[i]! := ⟨bl (n := 62) (by omega) fun v hv => by have := Fo w ((gm.2 i hin v).1 hv);dsimp only at this;omega⟩
  have hAl : Al[i]! < 2 ^ ts.length := bl (by omega) fun v hv => by obtain ⟨k, _, h⟩ := (gl.2 i hin v).1 hv;exact rS w h
  have hAl2 : Sm Al[i]! := ⟨Nat.lt_of_lt_of_le hAl (Nat.pow_le_pow_right (by decide) (by omega))⟩
  have hAp : Ap[i]! < 2 ^ pts.length := bl (by omega) fun v hv => (vJ ((gp.2 i hin v).1 hv)).1
  have hAp2 : Sm Ap[i]! := ⟨Nat.lt_of_lt_of_le hAp (Nat.pow_le_pow_right (by decide) (by omega))⟩
  have hrl := gW hlf hin
  have hrs : ∀ z : Nat, Sm (fS Af i)[z]! := by
   intro z
   by_cases hz : z < 6
   ·rw [hG hlf hin hz]
    exact ⟨bl (n := 62) (by omega) fun v hv => by have := (AX w ((gf.2 i z hin hz v).1 hv)).2.2;dsimp only at this;omega⟩
   ·rw [getElem!_neg _ z (by rw [hrl]; exact hz)]; exact ⟨by decide⟩
  have hkp : yR ts pts[(i : Int).toNat]! Al[i]! (fS Af (i : Int).toNat) < 2 ^ pts.length := by
   refine bl (by omega) fun v hv => ?_
   unfold yR at hv
   rw [iG] at hv
   rcases hv with hv | ⟨z, hz, hv⟩
   ·simp at hv
   ·obtain ⟨q, h1, h2, rfl⟩ := dU.1 hz
    rw [eB, Bool.and_eq_true] at h2
    have h3 := eJ hAl h2.1
    have h4 : q < 6 := by omega
    have h5 : (fS Af i)[q]!.testBit v = true := hv
    rw [hG hlf hin h4] at h5
    exact (AX w ((gf.2 i q hin h4 v).1 h5)).2.2
  have hkp2 : Sm (yR ts pts[(i : Int).toNat]! Al[i]! (fS Af (i : Int).toNat)) := ⟨Nat.lt_of_lt_of_le hkp (Nat.pow_le_pow_right (by decide) (by omega))⟩
  have hlo : yR ts pts[(i : Int).toNat]! Al[i]! (fS Af (i : Int).toNat) &&& Ap[i]! < 2 ^ pts.length := Nat.and_lt_two_pow _ hAp
  have hcf := E3 w (Am := Am) (Al := Al) (Af := Af) (i := i) hAp
  have hcf2 : Sm (EJ ts pts Am Al Af Ap i) := ⟨Nat.lt_of_lt_of_le hcf (Nat.pow_le_pow_right (by decide) (by omega))⟩
  have hcf3 : Sm (Hi pts (yR ts pts[(i : Int).toNat]! Al[i]! (fS Af (i : Int).toNat) &&& Ap[i]!) (nL ts pts[(i : Int).toNat]! (Am[i]!.testBit (bD pts[(i : Int).toNat]!).toNat)) 0) := hcf2
  have hb1 := dY (nO (wS ts pts[i]! [1, 2, 3]) Aa[i]!)
  have hb2 := dY (EJ ts pts Am Al Af Ap i)
  repeat' (first|(apply aM;first|(apply aE;rfl;rfl)|(first|(apply aK;rfl;rfl;rfl;rfl)|(apply aX;rfl;rfl;(exact (rfl:_=[_, _, _, _, _]));rfl;rfl;rfl))|(first|(apply oV;rfl;rfl;infer_instance;infer_instance;infer_instance;rfl)|(apply aR;rfl;rfl;rfl;rfl))|(apply aC;rfl;rfl)|(apply a6;(case hx|hi => rfl);(case hm => (assumption));(case hml => (first|rfl|omega));(case hα | hf|hg => infer_instance);(case hN => rfl))|(first|((with_reducible apply aJ (k := 100));(case ha => rfl);(case h => (apply g8 <;> (infer_instance)));(case hp => (rfl));(case hN => rfl))|((with_reducible apply aJ (k := 151));(case ha => rfl);(case h => (apply iP <;> (assumption)));(case hp => (exact Pur.pf));(case hN => rfl)))|(apply a9;rfl;rfl;rfl)|(apply aF;kernel_rfl)|(apply bH;rfl;rfl)|(apply aW;rfl;rfl;rfl;rfl;rfl;(case hl => (simp;done));(exact (rfl:_=[_, _, _, _, _]))))|(apply aN;first|apply aH|apply aB|(apply bZ;kernel_rfl)|(apply aO;rfl;all_goals intro hc;have hq:=hc;(try simp only [cK] at hq);try exfalso;omega)|apply aL|apply aS)|with_reducible apply aA)
  have hb1b : ∀ j, j < (cS (nO (wS ts pts[i]! [1, 2, 3]) Aa[i]!)).length → 0 ≤ (cS (nO (wS ts pts[i]! [1, 2, 3]) Aa[i]!))[j]! := fun j h => (lQ (inferInstance : Sm (nO (wS ts pts[i]! [1, 2, 3]) Aa[i]!)).pf h).1
  refine a7 (σ := Nat × List Iss × Nat) [0, 1, 2, 7, 8, 9, 11, 27, 28, 29, 42, 43] [(0, _), (1, _), (2, _), (7, _), (8, _), (9, _), (11, _), (27, _), (28, _), (29, _), (42, _), (43, _)] [] [] (fun j => [(44, iv (j.1 : Int)), (10, .own 0 0 j.2.2 3)]) (fun j => [(0, some (aI qJ j.2.1))]) (fun j => j.1 ≤ (cS (nO (wS ts pts[i]! [1, 2, 3]) Aa[i]!)).length ∧ j.2.1 = u ++ Fb i ((cS (nO (wS ts pts[i]! [1, 2, 3]) Aa[i]!)).take j.1) ∧ j.2.2 = j.2.1.length ∧ j.2.2 ≤ i * 124 + j.1) (fun j => (cS (nO (wS ts pts[i]! [1, 2, 3]) Aa[i]!)).length - j.1) (0, u, m) ⟨by omega, by simp [Fb], hm, by omega⟩ rfl rfl (by repeat' (first|exact trivial|refine And.intro rfl ?_)) (by repeat' (first|exact trivial|refine And.intro (.inr rfl) ?_)) ?_
  rintro ⟨j, u2, m2⟩ ⟨hj, hu2, hm2, hmk2⟩
  dsimp only at hj hu2 hm2 hmk2 ⊢
  by_cases hjn : j < (cS (nO (wS ts pts[i]! [1, 2, 3]) Aa[i]!)).length
  ·repeat' (first | (apply aM; first | (apply aE;rfl;rfl) | (apply aK;rfl;rfl;rfl;rfl) | (first | (apply bR;rfl;rfl;omega;rfl) | (apply aR;rfl;rfl;rfl;rfl)) | (apply aC;rfl;rfl) | (apply a6; (case hx | hi => rfl); (case hm => (assumption)); (case hml => (rfl)); (case hα | hf | hg => infer_instance); (case hN => rfl)) | (apply cF;rfl;rfl;rfl;rfl;rfl;(rw [aU]; omega);(rfl);omega;omega;(exact CA (by (assumption)));rfl;rfl) | (apply aF;kernel_rfl) | (apply b9;rfl;(exact (rfl:_=some [_, _, _]));(exact (rfl:_=[_, _, _]));rfl) | ((apply bQ (t := _)); (case hze | hsm | hl => rfl); (case hfl => (exact (rfl:_=some [_, _, _]))); (case hM | hN => rfl))) | (apply aN; first | apply aH | apply aB | (apply aO;rfl;all_goals intro hc;have hq:=hc;(try simp only [cK] at hq);try exfalso;omega) | apply aL | apply aS) | with_reducible apply aA | with_reducible apply aV)
   (apply dV (j + 1, _, _);focus (refine Le.ren [(0, 3)] rfl (by decide) ?_ ?_ <;> repeat' (first|exact trivial|refine And.intro ⟨_, rfl, ?_⟩ ?_|refine And.intro ⟨_, _, rfl, rfl, ?_⟩ ?_|exact Or.inr rfl|refine Or.inl ⟨?_, (by first|rfl|exact aZ _ _|exact Pur.pf)⟩|rfl)))
   ·dsimp only
    refine ⟨by omega, ?_, by simp;omega, by omega⟩
    rw [hu2]; unfold Fb;rw [kG _ _ _ hjn, List.append_assoc]
   ·dsimp only;omega
  ·have hu3 : u2 = u ++ Fb i (cS (nO (wS ts pts[i]! [1, 2, 3]) Aa[i]!)) := by rw [hu2, List.take_of_length_le (by omega)]
   repeat' (first|(apply aM;first|(apply aE;rfl;rfl)|(apply aK;rfl;rfl;rfl;rfl)|(first|(apply xK;rfl;rfl;infer_instance;infer_instance;infer_instance;rfl)|(apply aR;rfl;rfl;rfl;rfl))|(apply a6;(case hx|hi => rfl);(case hm => (assumption));(case hml => (omega));(case hα | hf|hg => infer_instance);(case hN => rfl))|(first|((with_reducible apply aJ (k := 92));(case ha => rfl);(case h => (apply tB <;> (assumption)));(case hp => (rfl));(case hN => rfl))|((with_reducible apply aJ (k := 168));(case ha => rfl);(case h => (apply Ed <;> (first|assumption|omega)));(case hp => (exact Pur.pf));(case hN => rfl))|((with_reducible apply aJ (k := 169));(case ha => rfl);(case h => (apply Kn <;> (first|assumption|omega)));(case hp => (exact Pur.pf));(case hN => rfl)))|(apply a9;rfl;rfl;rfl)|((with_reducible apply gF);(case hx|hcl => rfl);(case hc => infer_instance);(case ha => rfl);(case h => (apply DG <;> (first|assumption|omega)));(case hp => (exact Pur.pf));(case hN => rfl))|(apply aF;kernel_rfl))|(apply aN;first|apply aH|apply aB|(apply bZ;kernel_rfl)|(apply aO;rfl;all_goals intro hc;have hq:=hc;(try simp only [cK] at hq);try exfalso;omega)|apply aL|apply bF)|with_reducible apply aA|with_reducible apply bE|with_reducible apply bG)
   generalize hL : cS (Hi pts (yR ts pts[(i : Int).toNat]! Al[i]! (fS Af (i : Int).toNat) &&& Ap[i]!) (nL ts pts[(i : Int).toNat]! (Am[i]!.testBit (bD pts[(i : Int).toNat]!).toNat)) 0) = L2
   have hL2 : cS (EJ ts pts Am Al Af Ap i) = L2 := hL
   have hbd : ∀ j, j < L2.length → 0 ≤ L2[j]! ∧ L2[j]! < pts.length := fun j h => by rw [← hL2] at h ⊢; exact lQ hcf h
   rw [hL2] at hb2
   refine a7 (σ := Nat × List Iss × Nat) [0, 1, 2, 7, 8, 9, 11, 27, 28, 29, 77, 78] [(0, _), (1, _), (2, _), (7, _), (8, _), (9, _), (11, _), (27, _), (28, _), (29, _), (77, _), (78, _)] [] [] (fun l => [(79, iv (l.1 : Int)), (10, .own 0 0 l.2.2 3)]) (fun l => [(0, some (aI qJ l.2.1))]) (fun l => l.1 ≤ L2.length ∧ l.2.1 = u2 ++ FZ pts i (L2.take l.1) ∧ l.2.2 = l.2.1.length ∧ l.2.2 ≤ i * 124 + 62 + l.1) (fun l => L2.length - l.1) (0, u2, m2) ⟨by omega, by simp [FZ], hm2, Nat.le_trans hmk2 (by omega)⟩ rfl rfl (by repeat' (first|exact trivial|refine And.intro rfl ?_)) (by repeat' (first|exact trivial|refine And.intro (.inr rfl) ?_)) ?_
   rintro ⟨l, u4, m4⟩ ⟨hl, hu4, hm4, hmk4⟩
   dsimp only at hl hu4 hm4 hmk4 ⊢
   by_cases hln : l < L2.length
   ·have hbl := hbd l hln
    repeat' (first|(apply aM;first|(apply aE;rfl;rfl)|(apply aK;rfl;rfl;rfl;rfl)|(apply aD;rfl;rfl;rfl)|(first|(apply bR;rfl;rfl;omega;rfl)|(apply aR;rfl;rfl;rfl;rfl))|(apply aC;rfl;rfl)|(first|(apply a6;(case hx|hi => rfl);(case hm => (assumption));(case hml => (rfl));(case hα | hf|hg => infer_instance);(case hN => rfl))|(apply dA;(case hx|hi => rfl);(case hm => (assumption));(case hml => (rfl));(case hα | hf|hg => infer_instance);(case hN => rfl)))|(apply cF;rfl;rfl;rfl;rfl;rfl;(rw [aU]; omega);(rfl);omega;omega;(exact CA (by (assumption)));rfl;rfl)|(apply aF;kernel_rfl)|(apply b9;rfl;(exact (rfl:_=some [_, _, _]));(exact (rfl:_=[_, _, _]));rfl)|(apply bU;rfl;rfl;rfl)|((apply bQ (t := _));(case hze|hsm|hl => rfl);(case hfl => (exact (rfl:_=some [_, _, _])));(case hM|hN => rfl)))|(apply aN;first|apply aH|apply aB|(apply aO;rfl;all_goals intro hc;have hq:=hc;(try simp only [cK] at hq);try exfalso;omega)|apply aL|apply aS)|with_reducible apply aA|with_reducible apply aV)
    ·(apply dV (l + 1, _, _); focus (refine Le.ren [(0, 3)] rfl (by decide) ?_ ?_ <;> repeat' (first | exact trivial | refine And.intro ⟨_, rfl, ?_⟩ ?_ | refine And.intro ⟨_, _, rfl, rfl, ?_⟩ ?_ | exact Or.inr rfl | refine Or.inl ⟨?_, (by first | rfl | exact aZ _ _ | exact Pur.pf)⟩ | rfl)))
     ·dsimp only
      refine ⟨by omega, ?_, by simp;omega, by omega⟩
      rw [hu4]; unfold FZ;rw [kG _ _ _ hln, List.append_assoc, if_pos hq]
     ·dsimp only;omega
    ·(apply dV (l + 1, _, _); focus (refine Le.ren [(0, 3)] rfl (by decide) ?_ ?_ <;> repeat' (first | exact trivial | refine And.intro ⟨_, rfl, ?_⟩ ?_ | refine And.intro ⟨_, _, rfl, rfl, ?_⟩ ?_ | exact Or.inr rfl | refine Or.inl ⟨?_, (by first | rfl | exact aZ _ _ | exact Pur.pf)⟩ | rfl)))
     ·dsimp only
      refine ⟨by omega, ?_, by simp;omega, by omega⟩
      rw [hu4]; unfold FZ;rw [kG _ _ _ hln, List.append_assoc, if_neg hq]
     ·dsimp only;omega
   ·repeat' (first | (apply aM; first | (apply aE;rfl;rfl) | (first | (apply bR;rfl;rfl;omega;rfl) | (apply aR;rfl;rfl;rfl;rfl)) | (apply aF;kernel_rfl)) | (apply aN; first | apply aH | apply aB | (apply aO;rfl;all_goals intro hc;have hq:=hc;(try simp only [cK] at hq);try exfalso;omega) | apply bF) | with_reducible apply aA | with_reducible apply bE | with_reducible apply aV | with_reducible apply bG)
    (apply dV (i + 1, u4, m4);focus (refine Le.ren [(0, 0)] rfl (by decide) ?_ ?_ <;> repeat' (first|exact trivial|refine And.intro ⟨_, rfl, ?_⟩ ?_|refine And.intro ⟨_, _, rfl, rfl, ?_⟩ ?_|exact Or.inr rfl|refine Or.inl ⟨?_, (by first|rfl|exact aZ _ _|exact Pur.pf)⟩|rfl)))
    ·dsimp only
     refine ⟨by omega, ?_, hm4, by omega⟩
     rw [Ek, hu4, List.take_of_length_le (by omega), hu3, ← hL2, hu, List.append_assoc]; rfl
    ·dsimp only;omega
 ·repeat' (first | (apply aM; first | (apply aE;rfl;rfl) | (apply aR;rfl;rfl;rfl;rfl) | (apply aC;rfl;rfl) | (apply aF;kernel_rfl)) | (apply aN; first | apply aH | apply aB | (apply aO;rfl;all_goals intro hc;have hq:=hc;(try simp only [cK] at hq);try exfalso;omega) | apply bF | apply aQ) | with_reducible apply aA | with_reducible apply bE | with_reducible apply bG)
  (refine cC (Le.frzD (d := 6) (i := 0) rfl rfl) ?_; refine aP rfl ?_)
  refine ⟨?_, (by (exact aZ _ _))⟩
  simp only [bX, sl]
  rw [hm, hu, show i = pts.length by omega]
theorem Ei (ts : List Int) (bd : List AL.Stmt) (pts : List Pnt) (w : WG ts pts) (f : Flows ts pts) : PC Tryz.prog 79 [aG ts bd pts] (fun r => r = sl qJ f.iss) := by
 have hpl := w.pl
 (refine aT Tryz.func79 rfl (by simp [Tryz.ntmps79]) ?_; rw [Tryz.ntmps79])
 repeat' (first|(apply aM;first|(apply lO;rfl;rfl;rfl)|((with_reducible apply aJ (k := 125));(case ha => rfl);(case h => exact DR ts bd pts f.Af w f.gf);(case hp => exact Pur.pf);(case hN => rfl))|((with_reducible apply aJ (k := 127));(case ha => rfl);(case h => exact Ab ts bd pts f.An f.Al w f.gn f.gl);(case hp => exact Pur.pf);(case hN => rfl))|((with_reducible apply aJ (k := 126));(case ha => rfl);(case h => exact I4 ts bd pts f.Aa f.Am f.Al f.Af f.Ap _ w f.ga f.gm f.gl f.gf f.gp rfl);(case hp => exact Pur.pf);(case hN => rfl))|(apply aE;rfl;rfl)|(apply aC;rfl;rfl)|(apply aF;kernel_rfl)|(apply bH;rfl;rfl)|(apply aW;rfl;rfl;rfl;rfl;rfl;(case hl => (simp;done));(exact (rfl:_=[_]))))|(apply aN;first|apply aH|apply aB|apply aQ)|with_reducible apply aA)
 refine aP rfl ⟨rfl, (by (exact aZ _ _))⟩
theorem mN (p : Prg) (hl : p.types.length ≤ 1000000) (hs : bT p.body ≤ 1000000) : PC Tryz.prog 78 [dS p, .v (.slice none 0 0)] (fun r => r = if dC p = true then .tup [aG p.types p.body (dF p), bv true] else .tup [.v (.pointer none), bv false]) := by
 have hpl := sJ p
 have hnl := nJ p.body
 (refine aT Tryz.func78 rfl (by simp [Tryz.ntmps78]) ?_; rw [Tryz.ntmps78])
 repeat' (first|(apply aM;first|(apply aE;rfl;rfl)|(apply aX;rfl;rfl;(exact (rfl:_=[_, _]));rfl;rfl;rfl)|(apply aC;rfl;rfl)|(first|((with_reducible apply aJ (k := 49));(case ha => rfl);(case h => (apply sS <;> (first|assumption|omega)));(case hp => (exact Pur.pf));(case hN => rfl))|((with_reducible apply aJ (k := 96));(case ha => rfl);(case h => (apply ET <;> (assumption)));(case hp => (exact Pur.pf));(case hN => rfl)))|(apply a9;rfl;rfl;rfl)|(apply aF;kernel_rfl)|(apply b9;rfl;(exact (rfl:_=some [_, _, _]));(exact (rfl:_=[_, _, _]));rfl)|(apply cQ;rfl;rfl)|(apply bW;rfl;rfl;rfl;rfl))|(apply aN;first|apply aH|apply aB|(apply bZ;kernel_rfl)|(apply aO;rfl;all_goals intro hc;have hq:=hc;(try simp only [cK] at hq);try exfalso;omega)|apply aL|apply aS|apply aQ)|with_reducible apply aA|with_reducible apply bJ)
 ·refine aP rfl ⟨?_, (by (rfl))⟩
  rw [if_neg (by simp [hq])]; rfl
 ·refine a7 (σ := Unit) [6, 17, 18] [(6, _), (17, _), (18, _)] [1] [(1, some _)] (fun _u => [(19, iv 0)]) (fun _u => []) (fun _u => True) (fun _u => 0) () trivial rfl rfl (by repeat' (first | exact trivial | refine And.intro rfl ?_)) (by repeat' (exact trivial)) ?_
  intro _ _
  repeat' (first|(apply aM;first|(apply aE;rfl;rfl)|(apply aR;rfl;rfl;rfl;rfl)|(apply aC;rfl;rfl)|(apply aF;kernel_rfl))|(apply aN;first|apply aH|apply aB|(apply cH;rfl;(rfl))|apply bF|apply aQ)|with_reducible apply aA|with_reducible apply bE|with_reducible apply bG)
  refine cC (Le.frzP (d := 4) (i := 1) rfl rfl) ?_
  refine aP rfl ⟨?_, (by show (AV.tup [aG p.types p.body (dF p), bv true]).pur = true;exact PurV.pf)⟩
  rw [if_pos hq]; rfl
def JP (p : Prg) (f : Flows p.types (dF p)) : List Iss := if dC p = true then f.iss else []
theorem FY (p : Prg) (f : Flows p.types (dF p)) (hl : p.types.length ≤ 1000000) (hs : bT p.body ≤ 1000000) : PC Tryz.prog 31 [dS p] (fun r => r = sl qJ (JP p f)) := by
 unfold JP
 cases hv : dC p
 ·(refine aT Tryz.func31 rfl (by simp [Tryz.ntmps31]) ?_; rw [Tryz.ntmps31])
  repeat' (first|(apply aM;first|((with_reducible apply aJ (k := 78));(case ha => rfl);(case h => exact (by have := mN p hl hs;rw [if_neg (by simp [hv])] at this;exact this));(case hp => (exact Pur.pf));(case hN => rfl))|(apply aE;rfl;rfl)|(apply aX;rfl;rfl;(exact (rfl:_=[_, _]));rfl;rfl;rfl)|(apply aC;rfl;rfl)|(apply aF;kernel_rfl)|(apply cQ;rfl;rfl)|(apply bW;rfl;rfl;rfl;rfl)|(apply cD;rfl;rfl;rfl))|(apply aN;first|apply aH|apply aB|(apply b8;rfl;(rfl))|apply aQ)|with_reducible apply aA|with_reducible apply bJ)
  (refine cC (Le.nilImm (d := 2) rfl) ?_; refine aP rfl ?_)
  exact ⟨rfl, rfl⟩
 ·have w := WG.of_valid hv
  (refine aT Tryz.func31 rfl (by simp [Tryz.ntmps31]) ?_; rw [Tryz.ntmps31])
  repeat' (first|(apply aM;first|((with_reducible apply aJ (k := 78));(case ha => rfl);(case h => exact (by have := mN p hl hs;rw [if_pos hv] at this;exact this));(case hp => (exact Pur.pf));(case hN => rfl))|((with_reducible apply aJ (k := 79));(case ha => rfl);(case h => exact Ei p.types p.body (dF p) w f);(case hp => (exact Pur.pf));(case hN => rfl))|(apply aE;rfl;rfl)|(apply aX;rfl;rfl;(exact (rfl:_=[_, _]));rfl;rfl;rfl)|(apply aC;rfl;rfl)|(apply aF;kernel_rfl)|(apply cQ;rfl;rfl)|(apply bW;rfl;rfl;rfl;rfl)|(apply cD;rfl;rfl;rfl))|(apply aN;first|apply aH|apply aB|(apply cH;rfl;(rfl))|apply aS|apply aQ)|with_reducible apply aA)
  exact aP rfl ⟨rfl, (by (exact aZ _ _))⟩
instance : BoT Tryz.prog 4 := ⟨by kernel_rfl⟩
end Go.Proofs.YtjcpngimjdckmaaGreat
