/-
 A part of the proofs over this program: rules and contracts of its functions (the contracts).
-/
import Derived.Test.YtckihjkcgfphmaaGreatP5B01
set_option linter.unusedVariables false
set_option linter.unusedSimpArgs false
set_option maxHeartbeats 8000000
set_option maxRecDepth 4000
attribute [local irreducible] Go.AL.RW Go.AL.AW Go.AL.Stop
namespace Go.Proofs.YtckihjkcgfphmaaGreat
open Go.AL Go.RowKit
theorem Ga (ts : List Int) (bd : List AL.Stmt) (pts : List Pnt) (A : List Nat) (w : WG ts pts) (hA : sJ ts pts A) : PC Tryz.prog 165 [aG ts bd pts, iv 0] (fun r => r = .imm pts.length (aI cN A)) := by
 (refine aU Tryz.func165 rfl (by simp [Tryz.ntmps165]) ?_; rw [Tryz.ntmps165])
 repeat' (first|(apply aL;first|((with_reducible apply aJ (k := 209));(case ha => rfl);(case h => exact BN ts bd pts A w hA);(case hp => exact Pur.pf);(case hN => rfl))|(apply aE;rfl;rfl)|(apply aC;rfl;rfl)|(apply aF;kernel_rfl)|(apply gU;rfl;rfl;rfl))|(apply aM;first|apply aH|apply aB|apply aR)|with_reducible apply aA|((with_reducible apply aP);case hr => rfl))
 exact ⟨rfl, (by (exact aY _ _))⟩
theorem Jb (ts : List Int) (bd : List AL.Stmt) (pts : List Pnt) (A : List Nat) (w : WG ts pts) (hA : uP ts pts A) : PC Tryz.prog 166 [aG ts bd pts] (fun r => r = .imm pts.length (aI cN A)) := by
 (refine aU Tryz.func166 rfl (by simp [Tryz.ntmps166]) ?_; rw [Tryz.ntmps166])
 repeat' (first|(apply aL;first|((with_reducible apply aJ (k := 209));(case ha => rfl);(case h => exact Cr ts bd pts A w hA);(case hp => exact Pur.pf);(case hN => rfl))|(apply aE;rfl;rfl)|(apply aC;rfl;rfl)|(apply aF;kernel_rfl)|(apply gU;rfl;rfl;rfl))|(apply aM;first|apply aH|apply aB|apply aR)|with_reducible apply aA|((with_reducible apply aP);case hr => rfl))
 exact ⟨rfl, (by (exact aY _ _))⟩
theorem CE (ts : List Int) (bd : List AL.Stmt) (pts : List Pnt) (n : Nat) (B : List Nat) (i : Int) (w : WG ts pts) (hn : n = B.length) (hB : B.length = pts.length) (hs : ∀ z : Nat, Sm B[z]!) (hi : 0 ≤ i ∧ i < pts.length) : PC Tryz.prog 172 [aG ts bd pts, .imm n (aI cN B), iv i] (fun r => r = iv (I5 pts B i.toNat : Nat)) := by
 subst hn
 have hin : i.toNat < pts.length := by omega
 have hnl := w.nl _ hin
 have hpl := w.pl
 (refine aU Tryz.func172 rfl (by simp [Tryz.ntmps172]) ?_; rw [Tryz.ntmps172])
 repeat' (first|(apply aL;first|(apply aE;rfl;rfl)|(apply aN;rfl;rfl;rfl;rfl)|(apply aD;rfl;rfl;rfl)|(apply aC;rfl;rfl)|(apply cL;(case hx|hi => rfl);(case hm => (assumption));(case hml => (rfl));(case hα | hf|hg => infer_instance);(case hN => rfl))|(apply bC;rfl;rfl;rfl)|(apply aF;kernel_rfl)|(apply bY;rfl;rfl;rfl))|(apply aM;first|apply aH|apply aB|apply aK)|with_reducible apply aA)
 refine a6 (σ := Nat × Nat) [1, 17, 18] [(1, _), (17, _), (18, _)] [] [] (fun k => [(19, iv (k.1 : Int)), (7, iv (k.2 : Int))]) (fun k => []) (fun k => k.1 ≤ pts[i.toNat]!.next.length ∧ k.2 = ((uZ pts i.toNat).take k.1).foldl (fun a k => nO a B[k]!) 0 ∧ Sm k.2) (fun k => pts[i.toNat]!.next.length - k.1) (0, 0) ⟨by omega, rfl, inferInstance⟩ rfl rfl (by repeat' (first|exact trivial|refine And.intro rfl ?_)) (by repeat' (exact trivial)) ?_
 rintro ⟨k, a⟩ ⟨hk, ha, hsa⟩
 dsimp only at hk ha hsa ⊢
 have hz : k < pts[i.toNat]!.next.length → 0 ≤ pts[i.toNat]!.next[k]! ∧ pts[i.toNat]!.next[k]! < pts.length := fun h => w.nx _ hin _ (cK _ _ h)
 repeat' (first|(apply aL;first|(apply aE;rfl;rfl)|(apply aN;rfl;rfl;rfl;rfl)|(first|(apply gM;rfl;rfl;infer_instance;infer_instance;infer_instance;rfl)|(apply bR;rfl;rfl;omega;rfl)|(apply aT;rfl;rfl;rfl;rfl))|(apply aC;rfl;rfl)|(first|(apply aZ;(case hx|hi => rfl);(case hm => (omega));(case hml => (rfl));(case hα | hf|hg => infer_instance);(case hN => rfl))|(apply cL;(case hx|hi => rfl);(case hm => (omega));(case hml => (rfl));(case hα | hf|hg => infer_instance);(case hN => rfl)))|(apply aF;kernel_rfl))|(apply aM;first|apply aH|apply aB|(apply aO;rfl;all_goals intro hc;have hq:=hc;(try simp only [cJ] at hq);try exfalso;omega)|apply aK|apply aS|apply bG|apply aR)|with_reducible apply aA|with_reducible apply bH|with_reducible apply aW|with_reducible apply bF|((with_reducible apply aP);case hr => rfl))
 ·(apply dJ (k + 1, _); focus (refine Le.ren [] rfl (by decide) ?_ ?_ <;> repeat' (first | exact trivial | refine And.intro ⟨_, rfl, ?_⟩ ?_ | refine Or.inl ⟨?_, (by first | rfl | exact aY _ _)⟩ | rfl)))
  ·dsimp only
   refine ⟨by omega, ?_, inferInstance⟩
   rw [fJ _ _ _ _ (by rw [lG]; omega), xY (by omega), ← ha]
  ·dsimp only;omega
 ·(refine ⟨?_, rfl⟩; simp only [bX, AV.v.injEq, Value.bool.injEq, Value.int.injEq, true_and])
  rw [ha, List.take_of_length_le (by rw [lG]; omega)]; rfl
theorem FF (ts : List Int) (bd : List AL.Stmt) (pts : List Pnt) (A : List Nat) (w : WG ts pts) (hA : sG ts pts A) : PC Tryz.prog 171 [aG ts bd pts] (fun r => r = .imm pts.length (aI cN A)) := by
 have hpl := w.pl
 have hp0 := w.p0
 have htl := w.tl
 (refine aU Tryz.func171 rfl (by simp [Tryz.ntmps171]) ?_; rw [Tryz.ntmps171])
 repeat' (first|(apply aL;first|(apply aE;rfl;rfl)|(apply aN;rfl;rfl;rfl;rfl)|(apply aD;rfl;rfl;rfl)|(apply aC;rfl;rfl)|(apply bC;rfl;rfl;rfl)|(apply aF;kernel_rfl)|(apply bY;rfl;rfl;rfl)|(apply dX;rfl;rfl;rfl;omega;omega;(exact BC);rfl;rfl))|(apply aM;first|apply aH|apply aB|apply aK)|with_reducible apply aA)
 refine a6 (σ := List Nat × Bool) [0, 3] [(0, _), (3, _)] [] [] (fun s => [(4, bv s.2)]) (fun s => [(0, some (aI cN s.1))]) (fun s => SN ts pts s.1 ∧ (s.2 = false → ∀ i, i < pts.length → qC ts pts s.1 i = s.1[i]!)) (fun s => 2 * gD (s.1.map (fun a => 2 ^ ts.length - a)) + s.2.toNat) (List.replicate pts.length 0, true) ⟨Ko, fun h => by cases h⟩ rfl rfl (by repeat' (first|exact trivial|refine And.intro rfl ?_)) (by repeat' (first|exact trivial|refine And.intro (.inr rfl) ?_)) ?_
 rintro ⟨s, b⟩ ⟨hS, hC⟩
 dsimp only at hS hC ⊢
 repeat' (first|(apply aL;first|(apply aE;rfl;rfl)|(apply aN;rfl;rfl;rfl;rfl)|(apply aD;rfl;rfl;rfl)|(apply gF;rfl;rfl;omega;rfl)|(apply aC;rfl;rfl)|(apply bC;rfl;rfl;rfl)|(apply aF;kernel_rfl)|(apply bY;rfl;rfl;rfl))|(apply aM;first|apply aH|apply aB|(apply aO;rfl;all_goals intro hc;have hq:=hc;(try simp only [cJ] at hq);try exfalso;omega)|apply aK|apply aS|apply bG|apply aR)|with_reducible apply aA|with_reducible apply bH|with_reducible apply bF)
 ·refine a6 (σ := Nat × Int × (List Nat × Bool)) [0, 3] [(0, _), (3, _)] [] [] (fun k => [(5, iv k.2.1), (4, bv k.2.2.2)]) (fun k => [(0, some (aI cN k.2.2.1))]) (fun k => k.1 ≤ pts.length ∧ k.2.1 = (pts.length : Int) - 1 - k.1 ∧ k.2.2 = ((List.range pts.length).reverse.take k.1).foldl (lY ts pts) (s, false) ∧ SN ts pts k.2.2.1) (fun k => pts.length - k.1) (0, (pts.length : Int) - 1, (s, false)) ⟨by omega, by simp, rfl, hS⟩ rfl rfl (by repeat' (first | exact trivial | refine And.intro rfl ?_)) (by repeat' (first | exact trivial | refine And.intro (.inr rfl) ?_)) ?_
  rintro ⟨k, z, u, c⟩ ⟨hk, hz, hf, hS2⟩
  dsimp only at hk hz hf hS2 ⊢
  have hsm : ∀ z : Nat, Sm u[z]! := s7 hS2.1 (fun i A h => h.1) htl
  have hul := hS2.1.1
  have hst := fun h : z.toNat < pts.length => (w.set z.toNat h).1
  have hst2 : bT pts[z.toNat]! < 62 := by
   by_cases h : z.toNat < pts.length
   ·have := hst h;omega
   ·rw [getElem!_neg pts z.toNat h]; decide
  have hs1 : Sm (wS ts pts[z.toNat]! [1, 2, 3]) := dH (by omega)
  have hs2 : Sm (iW pts[z.toNat]!) := rI (by omega)
  have hs3 : Sm (I5 pts u z.toNat) := by
   unfold I5
   have : ∀ (L : List Nat) (a : Nat), Sm a → Sm (L.foldl (fun a k => a ||| u[k]!) a) := by
    intro L;induction L with
    | nil => exact fun a h => h
    | cons x L ih => exact fun a h => ih _ (inferInstance : Sm (a ||| u[x]!))
   exact this _ _ inferInstance
  have hlaw := fun h : z.toNat < pts.length => wB w u c z.toNat h hS2
  repeat' (first|(apply aL;first|(apply aE;rfl;rfl)|(first|(apply eG;(case hx|hH => rfl);(case hf|hg|hα => infer_instance);(case hk => omega);(case hc|hN => rfl))|(apply aN;rfl;rfl;rfl;rfl)|(apply aV;rfl;rfl;(exact (rfl:_=[_, _, _, _, _]));rfl;rfl;rfl))|(apply aD;rfl;rfl;rfl)|(first|(apply gM;rfl;rfl;infer_instance;infer_instance;infer_instance;rfl)|(apply oK;rfl;rfl;infer_instance;infer_instance;infer_instance;rfl)|(apply gF;rfl;rfl;omega;rfl)|(apply aT;rfl;rfl;rfl;rfl))|(apply aC;rfl;rfl)|(first|(apply cL;(case hx|hi => rfl);(case hm => (omega));(case hml => (rfl));(case hα | hf|hg => infer_instance);(case hN => rfl))|(apply cR;rfl;rfl;(omega);rfl))|(first|((with_reducible apply aJ (k := 120));(case ha => rfl);(case h => (apply jH <;> (assumption)));(case hp => (exact Pur.pf));(case hN => rfl))|((with_reducible apply o5 (k := 172));(case ha => rfl);(case hl => (repeat' (first|exact mW|apply lQ|exact xQ|exact nA rfl inferInstance|exact Bz inferInstance)));(case h => (apply CE <;> (first|assumption|omega)));(case hfr|hN => rfl);(case hmd => infer_instance))|((with_reducible apply aJ (k := 212));(case ha => rfl);(case h => (apply o3 <;> (assumption)));(case hp => (exact Pur.pf));(case hN => rfl)))|(apply aF;kernel_rfl)|(apply bY;rfl;rfl;rfl)|(apply bI;rfl;rfl)|(apply aX;rfl;rfl;rfl;rfl;rfl;(case hl => (first|(rw [aQ]; simp only [fY] <;> omega)|(simp;done)));(first|exact uL (by (omega))|exact (rfl:_=[_, _, _, _, _]))))|(apply aM;first|apply aH|apply aB|(apply b0;kernel_rfl)|(apply aO;rfl;all_goals intro hc;have hq:=hc;(try simp only [cJ] at hq);try exfalso;omega)|apply aK|apply aS|apply bG)|with_reducible apply aA|with_reducible apply bH|with_reducible apply aW|with_reducible apply bF)
  ·have hzn : z.toNat < pts.length := by omega
   have hne : qC ts pts u z.toNat ≠ u[z.toNat]! := fun h => hq (congrArg Int.ofNat h)
   have hl := hlaw hzn
   rw [Dg hne] at hl
   have hrg : (List.range pts.length).reverse[k]! = z.toNat := by rw [z7 (by omega)]; omega
   (apply dJ (k + 1, _, (_, true));focus (refine Le.ren [(0, 0)] rfl (by decide) ?_ ?_ <;> repeat' (first|exact trivial|refine And.intro ⟨_, rfl, ?_⟩ ?_|refine And.intro ⟨_, _, rfl, rfl, ?_⟩ ?_|exact Or.inr rfl|refine Or.inl ⟨?_, (by first|rfl|exact aY _ _|exact Pur.pf)⟩|rfl)))
   ·dsimp only
    refine ⟨by omega, by omega, ?_, hl.1⟩
    rw [fJ _ _ _ _ (by simp;omega), ← hf, hrg, Dg hne]; rfl
   ·dsimp only;omega
  ·have hzn : z.toNat < pts.length := by omega
   have hne : qC ts pts u z.toNat = u[z.toNat]! := Int.ofNat.inj hq
   have hrg : (List.range pts.length).reverse[k]! = z.toNat := by rw [z7 (by omega)]; omega
   (apply dJ (k + 1, _, (u, c));focus (refine Le.ren [(0, 0)] rfl (by decide) ?_ ?_ <;> repeat' (first|exact trivial|refine And.intro ⟨_, rfl, ?_⟩ ?_|refine And.intro ⟨_, _, rfl, rfl, ?_⟩ ?_|exact Or.inr rfl|refine Or.inl ⟨?_, (by first|rfl|exact aY _ _|exact Pur.pf)⟩|rfl)))
   ·dsimp only
    refine ⟨by omega, by omega, ?_, hS2⟩
    rw [fJ _ _ _ _ (by simp;omega), ← hf, hrg, It hne]
   ·dsimp only;omega
  ·have law := DL w s false hS
   have hfull : (u, c) = Ae ts pts (s, false) := by
    rw [hf, List.take_of_length_le (by simp;omega)]; rfl
   rw [← hfull] at law
   (apply dJ (u, c);focus (refine Le.ren [(0, 0)] rfl (by decide) ?_ ?_ <;> repeat' (first|exact trivial|refine And.intro ⟨_, rfl, ?_⟩ ?_|refine And.intro ⟨_, _, rfl, rfl, ?_⟩ ?_|exact Or.inr rfl|refine Or.inl ⟨?_, (by first|rfl|exact aY _ _|exact Pur.pf)⟩|rfl)))
   ·dsimp only
    refine ⟨hS2, fun h => ?_⟩
    rcases law.2 with ⟨e1, e2⟩ | ⟨e1, _⟩
    ·cases e1;exact e2
    ·dsimp only at e1;rw [h] at e1;cases e1
   ·dsimp only
    have hb : b = true := by assumption
    subst hb
    rcases law.2 with ⟨e1, e2⟩ | ⟨e1, e2⟩
    ·cases e1;simp
    ·dsimp only at e1 e2;subst e1;omega
 ·have hb : b = false := by assumption
  refine cD (Le.frzD (d := 2) (i := 0) rfl rfl) ?_
  refine aP rfl ⟨?_, (by (exact aY _ _))⟩
  simp only [bX]
  rw [Er hA (Fl w hS (hC hb))]
theorem Bf (ts : List Int) (bd : List AL.Stmt) (pts : List Pnt) (B A : List Nat) (w : WG ts pts) (hB : sG ts pts B) (hA : vO ts pts A) : PC Tryz.prog 103 [aG ts bd pts] (fun r => r = .imm pts.length (aI cN A)) := by
 have hpl := w.pl
 have htl := w.tl
 have hBl := hB.1
 have hsm : ∀ z : Nat, Sm B[z]! := by
  intro z
  by_cases hz : z < pts.length
  ·refine ⟨Nat.lt_of_lt_of_le (Nat.lt_pow_two_of_testBit _ (n := 6) fun v hv => ?_) (by decide)⟩
   cases hq : B[z]!.testBit v with
   | false => rfl
   | true => have := tT w ((hB.2 z hz v).1 hq);dsimp only at this;omega
  ·rw [getElem!_neg B z (by rw [hBl]; exact hz)]; exact ⟨by decide⟩
 (refine aU Tryz.func103 rfl (by simp [Tryz.ntmps103]) ?_; rw [Tryz.ntmps103])
 repeat' (first|(apply aL;first|(apply aE;rfl;rfl)|(apply aN;rfl;rfl;rfl;rfl)|(apply aD;rfl;rfl;rfl)|(apply aC;rfl;rfl)|((with_reducible apply aJ (k := 171));(case ha => rfl);(case h => (apply FF <;> (assumption)));(case hp => (exact Pur.pf));(case hN => rfl))|(apply bC;rfl;rfl;rfl)|(apply aF;kernel_rfl)|(apply bY;rfl;rfl;rfl))|(apply aM;first|apply aH|apply aB|apply aK)|with_reducible apply aA)
 refine AW.le ?_ (Le.nilOwn (d := 4) 1 rfl (by decide))
 refine a6 (σ := Nat × List Nat) [0, 3, 12] [(0, _), (3, _), (12, _)] [] [] (fun k => [(13, iv (k.1 : Int)), (4, .own 0 0 k.1 1)]) (fun k => [(0, some (aI cN k.2))]) (fun k => k.1 ≤ pts.length ∧ k.2 = (List.range k.1).map (I5 pts B)) (fun k => pts.length - k.1) (0, []) ⟨by omega, rfl⟩ rfl rfl (by repeat' (first|exact trivial|refine And.intro rfl ?_)) (by repeat' (first|exact trivial|refine And.intro (.inr rfl) ?_)) ?_
 rintro ⟨k, u⟩ ⟨hk, hu⟩
 dsimp only at hk hu ⊢
 have hul : u.length = k := by rw [hu]; simp
 repeat' (first|(apply aL;first|(apply aE;rfl;rfl)|(first|(apply bR;rfl;rfl;omega;rfl)|(apply aT;rfl;rfl;rfl;rfl))|(apply aC;rfl;rfl)|((with_reducible apply aJ (k := 172));(case ha => rfl);(case h => (apply CE <;> (first|assumption|omega)));(case hp => (exact Pur.pf));(case hN => rfl))|(apply bW;rfl;rfl;rfl;rfl;rfl;(rw [aQ]; omega);(rfl);omega;omega;(exact IQ (by (omega)));rfl;rfl)|(apply aF;kernel_rfl)|((apply a7 (t := _));(case hze|hsm|hl => rfl);(case hfl => exact (rfl:_=some [_]));(case hM|hN => rfl)))|(apply aM;first|apply aH|apply aB|(apply aO;rfl;all_goals intro hc;have hq:=hc;(try simp only [cJ] at hq);try exfalso;omega)|apply aK|apply aS|apply bG|apply aR)|with_reducible apply aA|with_reducible apply bH|with_reducible apply aW|with_reducible apply bF)
 ·(apply dJ (k + 1, _); focus (refine Le.ren [(0, 2)] rfl (by decide) ?_ ?_ <;> repeat' (first | exact trivial | refine And.intro ⟨_, rfl, ?_⟩ ?_ | refine And.intro ⟨_, _, rfl, rfl, ?_⟩ ?_ | exact Or.inr rfl | refine Or.inl ⟨?_, (by first | rfl | exact aY _ _ | exact Pur.pf)⟩ | rfl)))
  ·dsimp only
   refine ⟨by omega, ?_⟩
   rw [hu, List.range_succ, List.map_append]; rfl
  ·dsimp only;omega
 ·refine cD (Le.frzD (d := 2) (i := 0) rfl rfl) ?_
  refine aP rfl ⟨?_, (by (exact aY _ _))⟩
  simp only [bX]
  have hkn : k = pts.length := by omega
  subst hkn
  rw [w4 hA (AP w hB), hu]
theorem iK (A : Nat) (hA : Sm A) : PC Tryz.prog 119 [iv (A : Int)] (fun r => r = sl cI (cX A)) := by
 (refine aU Tryz.func119 rfl (by simp [Tryz.ntmps119]) ?_; rw [Tryz.ntmps119])
 repeat' (first|(apply aL;first|(apply aC;rfl;rfl)|(apply aF;kernel_rfl))|(apply aM;first|apply aH|apply aB|apply aK)|with_reducible apply aA)
 refine AW.le ?_ (Le.nilOwn (d := 3) 1 rfl (by decide))
 refine a6 (σ := Nat × List Int × Nat) [0] [(0, _)] [] [] (fun k => [(4, iv (k.1 : Int)), (3, .own 0 0 k.2.2 1)]) (fun k => [(0, some (aI cI k.2.1))]) (fun k => k.1 ≤ 62 ∧ k.2.1 = ((List.range k.1).filter (A.testBit ·)).map (fun v : Nat => (v : Int)) ∧ k.2.2 = k.2.1.length ∧ k.2.2 ≤ k.1) (fun k => 62 - k.1) (0, [], 0) ⟨by omega, rfl, rfl, Nat.le_refl _⟩ rfl rfl (by repeat' (first|exact trivial|refine And.intro rfl ?_)) (by repeat' (first|exact trivial|refine And.intro (.inr rfl) ?_)) ?_
 rintro ⟨k, u, m⟩ ⟨hk, hu, hm, hmk⟩
 dsimp only at hk hu hm hmk ⊢
 repeat' (first|(apply aL;first|(apply aE;rfl;rfl)|(first|(apply oM;rfl;rfl;infer_instance;infer_instance;rfl)|(apply oZ;rfl;rfl;infer_instance;infer_instance;omega;rfl)|(apply bR;rfl;rfl;omega;rfl)|(apply aT;rfl;rfl;rfl;rfl))|(apply aC;rfl;rfl)|(apply bW;rfl;rfl;rfl;rfl;rfl;(rw [aQ]; omega);(rfl);omega;omega;(exact gA (by (assumption)));rfl;rfl)|(apply aF;kernel_rfl)|((apply a7 (t := _));(case hze|hsm|hl => rfl);(case hfl => exact (rfl:_=some [_]));(case hM|hN => rfl)))|(apply aM;first|apply aH|apply aB|(apply aO;rfl;all_goals intro hc;have hq:=hc;(try simp only [cJ] at hq);try exfalso;omega)|apply aK|apply aS|apply bG|apply aR)|with_reducible apply aA|with_reducible apply bH|with_reducible apply aW|with_reducible apply bF)
 ·have hlt := C9 hA (show 0 < ((A >>> k : Nat) : Int) by assumption)
  (apply dJ (k + 1, _, _);focus (refine Le.ren [(0, 2)] rfl (by decide) ?_ ?_ <;> repeat' (first|exact trivial|refine And.intro ⟨_, rfl, ?_⟩ ?_|refine And.intro ⟨_, _, rfl, rfl, ?_⟩ ?_|exact Or.inr rfl|refine Or.inl ⟨?_, (by first|rfl|exact aY _ _)⟩|rfl)))
  ·dsimp only
   exact ⟨by omega, wE hq hu, by simp;omega, by omega⟩
  ·dsimp only;omega
 ·have hlt := C9 hA (show 0 < ((A >>> k : Nat) : Int) by assumption)
  (apply dJ (k + 1, u, m);focus (refine Le.ren [(0, 0)] rfl (by decide) ?_ ?_ <;> repeat' (first|exact trivial|refine And.intro ⟨_, rfl, ?_⟩ ?_|refine And.intro ⟨_, _, rfl, rfl, ?_⟩ ?_|exact Or.inr rfl|refine Or.inl ⟨?_, (by first|rfl|exact aY _ _)⟩|rfl)))
  ·dsimp only
   exact ⟨by omega, wJ hq hu, hm, by omega⟩
  ·dsimp only;omega
 ·(refine cD (Le.frzD (d := 2) (i := 0) rfl rfl) ?_; refine aP rfl ?_)
  refine ⟨?_, (by (exact aY _ _))⟩
  simp only [bX, sl]
  rw [p8 (k := k) (fun v hv => F8 hq v hv) (by omega) hA, ← hu, ← hm]
theorem sW (A : Nat) (hA : Sm A) : PC Tryz.prog 168 [.v (.int .u64 (A : Int))] (fun r => r = sl cI (cX A)) := by
 (refine aU Tryz.func168 rfl (by simp [Tryz.ntmps168]) ?_; rw [Tryz.ntmps168])
 repeat' (first|(apply aL;first|(apply aE;rfl;rfl)|(apply aC;rfl;rfl)|(apply aF;kernel_rfl))|(apply aM;first|apply aH|apply aB|apply aK)|with_reducible apply aA)
 refine AW.le ?_ (Le.nilOwn (d := 3) 1 rfl (by decide))
 refine a6 (σ := Nat × List Int × Nat) [0] [(0, _)] [] [] (fun k => [(5, iv (k.1 : Int)), (3, .own 0 0 k.2.2 1)]) (fun k => [(0, some (aI cI k.2.1))]) (fun k => k.1 ≤ 64 ∧ k.2.1 = ((List.range k.1).filter (A.testBit ·)).map (fun v : Nat => (v : Int)) ∧ k.2.2 = k.2.1.length ∧ k.2.2 ≤ k.1) (fun k => 64 - k.1) (0, [], 0) ⟨by omega, rfl, rfl, Nat.le_refl _⟩ rfl rfl (by repeat' (first|exact trivial|refine And.intro rfl ?_)) (by repeat' (first|exact trivial|refine And.intro (.inr rfl) ?_)) ?_
 rintro ⟨k, u, m⟩ ⟨hk, hu, hm, hmk⟩
 dsimp only at hk hu hm hmk ⊢
 repeat' (first|(apply aL;first|(apply aE;rfl;rfl)|(first|(apply oM;rfl;rfl;infer_instance;infer_instance;rfl)|(apply oZ;rfl;rfl;infer_instance;infer_instance;omega;rfl)|(apply bR;rfl;rfl;omega;rfl)|(apply aT;rfl;rfl;rfl;rfl))|(apply aC;rfl;rfl)|(apply bW;rfl;rfl;rfl;rfl;rfl;(rw [aQ]; omega);(rfl);omega;omega;(exact gA (by (assumption)));rfl;rfl)|(apply aF;kernel_rfl)|((apply a7 (t := _));(case hze|hsm|hl => rfl);(case hfl => exact (rfl:_=some [_]));(case hM|hN => rfl)))|(apply aM;first|apply aH|apply aB|(apply aO;rfl;all_goals intro hc;have hq:=hc;(try simp only [cJ] at hq);try exfalso;omega)|apply aK|apply aS|apply bG|apply aR)|with_reducible apply aA|with_reducible apply bH|with_reducible apply aW|with_reducible apply bF)
 ·(apply dJ (k + 1, _, _); focus (refine Le.ren [(0, 2)] rfl (by decide) ?_ ?_ <;> repeat' (first | exact trivial | refine And.intro ⟨_, rfl, ?_⟩ ?_ | refine And.intro ⟨_, _, rfl, rfl, ?_⟩ ?_ | exact Or.inr rfl | refine Or.inl ⟨?_, (by first | rfl | exact aY _ _)⟩ | rfl)))
  ·dsimp only
   exact ⟨by omega, wE hq hu, by simp;omega, by omega⟩
  ·dsimp only;omega
 ·(apply dJ (k + 1, u, m); focus (refine Le.ren [(0, 0)] rfl (by decide) ?_ ?_ <;> repeat' (first | exact trivial | refine And.intro ⟨_, rfl, ?_⟩ ?_ | refine And.intro ⟨_, _, rfl, rfl, ?_⟩ ?_ | exact Or.inr rfl | refine Or.inl ⟨?_, (by first | rfl | exact aY _ _)⟩ | rfl)))
  ·dsimp only
   exact ⟨by omega, wJ hq hu, hm, by omega⟩
  ·dsimp only;omega
 ·(refine cD (Le.frzD (d := 2) (i := 0) rfl rfl) ?_; refine aP rfl ?_)
  refine ⟨?_, (by (exact aY _ _))⟩
  simp only [bX, sl]
  rw [p8 (k := k) (fun v hv => Nat.testBit_lt_two_pow (Nat.lt_of_lt_of_le hA.pf (Nat.pow_le_pow_right (by decide) (by omega)))) (by omega) hA, ← hu, ← hm]
theorem AT (ts : List Int) (bd : List AL.Stmt) (pts : List Pnt) (V : Nat) (w : WG ts pts) (hV : Sm V) : PC Tryz.prog 211 [aG ts bd pts, iv (V : Int)] (fun r => r = .v (.int .u64 (rF pts V : Nat))) := by
 have hpl := w.pl
 have htl := w.tl
 (refine aU Tryz.func211 rfl (by simp [Tryz.ntmps211]) ?_; rw [Tryz.ntmps211])
 repeat' (first|(apply aL;first|(apply aE;rfl;rfl)|(apply aN;rfl;rfl;rfl;rfl)|(apply aD;rfl;rfl;rfl)|(apply aC;rfl;rfl)|(apply bC;rfl;rfl;rfl)|(apply aF;kernel_rfl)|(apply bY;rfl;rfl;rfl))|(apply aM;first|apply aH|apply aB|apply aK)|with_reducible apply aA)
 refine a6 (σ := Nat × Nat) [1, 11, 12] [(1, _), (11, _), (12, _)] [] [] (fun k => [(13, iv (k.1 : Int)), (5, .v (.int .u64 (k.2 : Int)))]) (fun k => []) (fun k => k.1 ≤ pts.length ∧ k.2 = fT (fun l => fC pts[l]! && V.testBit (pts[l]!.y.toNat)) k.1) (fun k => pts.length - k.1) (0, 0) ⟨by omega, rfl⟩ rfl rfl (by repeat' (first|exact trivial|refine And.intro rfl ?_)) (by repeat' (exact trivial)) ?_
 rintro ⟨k, A⟩ ⟨hk, hA⟩
 dsimp only at hk hA ⊢
 have hsm : Sm A := hA ▸ dH (by omega)
 cases hln : fC pts[k]!
 ·repeat' (first | (apply aL; first | (apply aE;rfl;rfl) | (apply aV;rfl;rfl;(exact (rfl:_=[_, _, _, _, _]));rfl;rfl;rfl) | (apply bD;rfl;rfl;rfl;(assumption)) | (first | (apply bR;rfl;rfl;omega;rfl) | (apply aT;rfl;rfl;rfl;rfl)) | (apply aC;rfl;rfl) | (apply bQ;rfl;(assumption);rfl;rfl) | (apply aZ; (case hx | hi => rfl); (case hm => (omega)); (case hml => (rfl)); (case hα | hf | hg => infer_instance); (case hN => rfl)) | ((with_reducible apply aJ (k := 207)); (case ha => rfl); (case h => (apply mP <;> (fail))); (case hp => (exact Pur.pf)); (case hN => rfl)) | (apply aF;kernel_rfl) | (apply bI;rfl;rfl) | (apply aX;rfl;rfl;rfl;rfl;rfl;(case hl => (simp;done));(exact (rfl:_=[_, _, _, _, _])))) | (apply aM; first | apply aH | apply aB | (apply cH;rfl;(rfl)) | (apply aO;rfl;all_goals intro hc;have hq:=hc;(try simp only [cJ] at hq);try exfalso;omega) | apply aK | apply aS | apply bG | apply aR) | with_reducible apply aA | with_reducible apply bH | with_reducible apply aW | with_reducible apply bF | ((with_reducible apply aP); case hr => rfl))
  ·(apply dJ (k + 1, A); focus (refine Le.ren [] rfl (by decide) ?_ ?_ <;> repeat' (first | exact trivial | refine And.intro ⟨_, rfl, ?_⟩ ?_ | refine Or.inl ⟨?_, (by first | rfl | exact aY _ _)⟩ | rfl)))
   ·dsimp only
    exact ⟨by omega, by rw [hA]; exact mH _ _ (by rw [hln]; rfl)⟩
   ·dsimp only;omega
  ·(refine ⟨?_, rfl⟩; simp only [bX, AV.v.injEq, Value.bool.injEq, Value.int.injEq, true_and])
   rw [hA, show k = pts.length by omega]; rfl
 ·have hy := fun (h : k < pts.length) => x4 w h hln
  repeat' (first|(apply aL;first|(apply aE;rfl;rfl)|(first|(apply aN;rfl;rfl;rfl;rfl)|(apply aV;rfl;rfl;(exact (rfl:_=[_, _, _, _, _]));rfl;rfl;rfl))|(apply aD;rfl;rfl;rfl)|(apply bB;rfl;rfl;rfl;(assumption))|(first|(apply gM;rfl;rfl;infer_instance;infer_instance;infer_instance;rfl)|(apply oM;rfl;rfl;infer_instance;infer_instance;rfl)|(apply jK;rfl;rfl;infer_instance;omega;rfl;(case' kk => intro hsm))|(apply oZ;rfl;rfl;infer_instance;infer_instance;omega;rfl)|(apply bR;rfl;rfl;omega;rfl)|(apply aT;rfl;rfl;rfl;rfl))|(apply aC;rfl;rfl)|(apply bV;rfl;(assumption);rfl;rfl)|(apply aZ;(case hx|hi => rfl);(case hm => (omega));(case hml => (rfl));(case hα | hf|hg => infer_instance);(case hN => rfl))|((with_reducible apply aJ (k := 207));(case ha => rfl);(case h => (apply mP <;> (fail)));(case hp => (exact Pur.pf));(case hN => rfl))|(apply aF;kernel_rfl)|(apply bI;rfl;rfl)|(apply aX;rfl;rfl;rfl;rfl;rfl;(case hl => (simp;done));(exact (rfl:_=[_, _, _, _, _]))))|(apply aM;first|apply aH|apply aB|(apply aO;rfl;all_goals intro hc;have hq:=hc;(try simp only [cJ] at hq);try exfalso;omega)|apply aK|apply aS|apply bG|apply aR)|with_reducible apply aA|with_reducible apply bH|with_reducible apply aW|with_reducible apply bF|((with_reducible apply aP);case hr => rfl))
  ·(apply dJ (k + 1, _); focus (refine Le.ren [] rfl (by decide) ?_ ?_ <;> repeat' (first | exact trivial | refine And.intro ⟨_, rfl, ?_⟩ ?_ | refine Or.inl ⟨?_, (by first | rfl | exact aY _ _)⟩ | rfl)))
   ·dsimp only
    exact ⟨by omega, by rw [hA]; exact qH _ _ (by rw [hln, Bool.true_and]; exact (l9 _ _).1 hq)⟩
   ·dsimp only;omega
  ·(apply dJ (k + 1, A); focus (refine Le.ren [] rfl (by decide) ?_ ?_ <;> repeat' (first | exact trivial | refine And.intro ⟨_, rfl, ?_⟩ ?_ | refine Or.inl ⟨?_, (by first | rfl | exact aY _ _)⟩ | rfl)))
   ·dsimp only
    exact ⟨by omega, by rw [hA]; exact mH _ _ (by rw [hln, Bool.true_and]; cases hb : V.testBit (pts[k]!.y.toNat) with|false => rfl|true => exact absurd ((l9 _ _).2 hb) hq)⟩
   ·dsimp only;omega
  ·(refine ⟨?_, rfl⟩; simp only [bX, AV.v.injEq, Value.bool.injEq, Value.int.injEq, true_and])
   rw [hA, show k = pts.length by omega]; rfl
theorem FU (ts : List Int) (bd : List AL.Stmt) (pts : List Pnt) (A : List Nat) (w : WG ts pts) (hA : wY ts pts A) : PC Tryz.prog 167 [aG ts bd pts] (fun r => r = .imm pts.length (aI cW A)) := by
 have hpl := w.pl
 have hp0 := w.p0
 have htl := w.tl
 have fl := Mt w
 (refine aU Tryz.func167 rfl (by simp [Tryz.ntmps167]) ?_; rw [Tryz.ntmps167])
 repeat' (first|(apply aL;first|(apply aE;rfl;rfl)|(apply aN;rfl;rfl;rfl;rfl)|(apply aD;rfl;rfl;rfl)|(apply aC;rfl;rfl)|(apply bC;rfl;rfl;rfl)|(apply aF;kernel_rfl)|(apply bY;rfl;rfl;rfl)|(apply dX;rfl;rfl;rfl;omega;omega;(exact Jw);rfl;rfl))|(apply aM;first|apply aH|apply aB|apply aK)|with_reducible apply aA)
 refine a6 (σ := List Nat × Bool) [0, 3] [(0, _), (3, _)] [] [] (fun s => [(4, bv s.2)]) (fun s => [(0, some (aI cW s.1))]) (fun s => SG pts (LK ts pts) s.1 ∧ (s.2 = false → lM nO (yX ts pts) pts s.1)) (fun s => 2 * gD (s.1.map (fun a => 2 ^ pts.length - a)) + s.2.toNat) (List.replicate pts.length 0, true) ⟨Bq fun i hi => ⟨Nat.pow_pos (by decide), fun v h => by simp at h⟩, fun h => by cases h⟩ rfl rfl (by repeat' (first|exact trivial|refine And.intro rfl ?_)) (by repeat' (first|exact trivial|refine And.intro (.inr rfl) ?_)) ?_
 rintro ⟨s, b⟩ ⟨hS, hC⟩
 dsimp only at hS hC ⊢
 repeat' (first|(apply aL;first|(apply aE;rfl;rfl)|(apply aN;rfl;rfl;rfl;rfl)|(apply aD;rfl;rfl;rfl)|(apply aC;rfl;rfl)|(apply bC;rfl;rfl;rfl)|(apply aF;kernel_rfl)|(apply bY;rfl;rfl;rfl))|(apply aM;first|apply aH|apply aB|(apply aO;rfl;all_goals intro hc;have hq:=hc;(try simp only [cJ] at hq);try exfalso;omega)|apply aK|apply aS|apply bG|apply aR)|with_reducible apply aA|with_reducible apply bH|with_reducible apply bF)
 ·refine a6 (σ := Nat × (List Nat × Bool)) [0, 3, 20, 21] [(0, _), (3, _), (20, _), (21, _)] [] [] (fun k => [(22, iv (k.1 : Int)), (4, bv k.2.2)]) (fun k => [(0, some (aI cW k.2.1))]) (fun k => k.1 ≤ pts.length ∧ k.2 = (List.range k.1).foldl (xJ nO (yX ts pts) pts) (s, false) ∧ SG pts (LK ts pts) k.2.1) (fun k => pts.length - k.1) (0, (s, false)) ⟨by omega, rfl, hS⟩ rfl rfl (by repeat' (first | exact trivial | refine And.intro rfl ?_)) (by repeat' (first | exact trivial | refine And.intro (.inr rfl) ?_)) ?_
  rintro ⟨k, u, c⟩ ⟨hk, hf, hS2⟩
  dsimp only at hk hf hS2 ⊢
  have hul := hS2.1
  by_cases hkn : k < pts.length
  ·have hst := (w.set k hkn).1
   have hsm : ∀ z : Nat, Sm u[z]! := by
    intro z
    by_cases hz : z < pts.length
    ·exact ⟨Nat.lt_of_lt_of_le (hS2.2 z hz).1 (Nat.pow_le_pow_right (by decide) (by omega))⟩
    ·rw [getElem!_neg u z (by rw [hul]; exact hz)]; exact ⟨by decide⟩
   have hs1 : Sm (wS ts pts[k]! [2]) := dH (by omega)
   have hs2 : Sm (iW pts[k]!) := rI (by omega)
   have hs3 : ∀ V, Sm (rF pts V) := fun V => FX w V
   have hnl := w.nl k hkn
   have e1 : fC pts[k]! = true → nL u[k]! (rF pts (wS ts pts[k]! [2] ||| iW pts[k]!)) ||| 2 ^ (k : Int).toNat = yX ts pts k u[k]! := fun h => by unfold yX Kl;rw [if_pos h]; rfl
   have e0 : fC pts[k]! = false → nL u[k]! (rF pts (wS ts pts[k]! [2] ||| iW pts[k]!)) = yX ts pts k u[k]! := fun h => by unfold yX Kl;rw [if_neg (by rw [h]; simp), Nat.or_zero]
   have hps : Sm (yX ts pts k u[k]!) := ⟨Nat.lt_of_lt_of_le (Cn w hkn (hS2.2 k hkn).1) (Nat.pow_le_pow_right (by decide) (by omega))⟩
   repeat' (first|(apply aL;first|(apply aE;rfl;rfl)|(first|(apply eG;(case hx|hH => rfl);(case hf|hg|hα => infer_instance);(case hk => omega);(case hc|hN => rfl))|(apply aN;rfl;rfl;rfl;rfl)|(apply aV;rfl;rfl;(exact (rfl:_=[_, _, _, _, _]));rfl;rfl;rfl))|(apply aD;rfl;rfl;rfl)|(first|(apply gM;rfl;rfl;infer_instance;infer_instance;infer_instance;rfl)|(apply oK;rfl;rfl;infer_instance;infer_instance;infer_instance;rfl)|(apply jK;rfl;rfl;infer_instance;omega;rfl;(case' kk => intro hsm))|(apply aT;rfl;rfl;rfl;rfl))|(apply aC;rfl;rfl)|(first|(apply aZ;(case hx|hi => rfl);(case hm => (assumption));(case hml => (rfl));(case hα | hf|hg => infer_instance);(case hN => rfl))|(apply cM;rfl;rfl;(assumption);rfl))|(first|((with_reducible apply aJ (k := 205));(case ha => rfl);(case h => (apply rZ <;> (assumption)));(case hp => (exact Pur.pf));(case hN => rfl))|((with_reducible apply aJ (k := 207));(case ha => rfl);(case h => (apply mP <;> (fail)));(case hp => (exact Pur.pf));(case hN => rfl))|((with_reducible apply aJ (k := 211));(case ha => rfl);(case h => (apply AT <;> (first|assumption|infer_instance)));(case hp => (exact Pur.pf));(case hN => rfl))|((with_reducible apply aJ (k := 212));(case ha => rfl);(case h => (apply o3 <;> (omega)));(case hp => (exact Pur.pf));(case hN => rfl)))|(apply bC;rfl;rfl;rfl)|(apply aF;kernel_rfl)|(apply bI;rfl;rfl)|(apply aX;rfl;rfl;rfl;rfl;rfl;(case hl => (simp;done));(exact (rfl:_=[_, _, _, _, _]))))|(apply aM;first|apply aH|apply aB|(apply b0;kernel_rfl)|(apply aO;rfl;all_goals intro hc;have hq:=hc;(try simp only [cJ] at hq);try exfalso;omega)|apply aK|apply aS)|with_reducible apply aA)
   all_goals first|rw [e1 (by assumption)]|rw [e0 (by assumption)]
   all_goals
    refine a6 (σ := Nat × (List Nat × Bool)) [0, 3, 7, 20, 21, 22, 47, 48] [(0, _), (3, _), (7, _), (20, _), (21, _), (22, _), (47, _), (48, _)] [] [] (fun j => [(49, iv (j.1 : Int)), (4, bv j.2.2)]) (fun j => [(0, some (aI cW j.2.1))]) (fun j => j.1 ≤ pts[k]!.next.length ∧ j.2 = ((uZ pts k).take j.1).foldl (lT nO (yX ts pts k u[k]!)) (u, c) ∧ SG pts (LK ts pts) j.2.1) (fun j => pts[k]!.next.length - j.1) (0, (u, c)) ⟨by omega, rfl, hS2⟩ rfl rfl (by repeat' (first|exact trivial|refine And.intro rfl ?_)) (by repeat' (first|exact trivial|refine And.intro (.inr rfl) ?_)) ?_
    rintro ⟨j, u2, c2⟩ ⟨hj, hf2, hS3⟩
    dsimp only at hj hf2 hS3 ⊢
    have hul2 := hS3.1
    have hsm2 : ∀ z : Nat, Sm u2[z]! := by
     intro z
     by_cases hz : z < pts.length
     ·exact ⟨Nat.lt_of_lt_of_le (hS3.2 z hz).1 (Nat.pow_le_pow_right (by decide) (by omega))⟩
     ·rw [getElem!_neg u2 z (by rw [hul2]; exact hz)]; exact ⟨by decide⟩
    have hz : j < pts[k]!.next.length → 0 ≤ pts[k]!.next[j]! ∧ pts[k]!.next[j]! < pts.length := fun h => w.nx k hkn _ (cK _ _ h)
    repeat' (first|(apply aL;first|(apply aE;rfl;rfl)|(first|(apply eG;(case hx|hH => rfl);(case hf|hg|hα => infer_instance);(case hk => omega);(case hc|hN => rfl))|(apply aN;rfl;rfl;rfl;rfl))|(first|(apply gM;rfl;rfl;infer_instance;infer_instance;infer_instance;rfl)|(apply bR;rfl;rfl;omega;rfl)|(apply aT;rfl;rfl;rfl;rfl))|(apply aC;rfl;rfl)|(first|(apply aZ;(case hx|hi => rfl);(case hm => (omega));(case hml => (rfl));(case hα | hf|hg => infer_instance);(case hN => rfl))|(apply cR;rfl;rfl;(omega);rfl))|(apply aF;kernel_rfl)|(apply aX;rfl;rfl;rfl;rfl;rfl;(rw [aQ]; simp only [fY] <;> omega);(exact o6 (by (omega)))))|(apply aM;first|apply aH|apply aB|(apply b0;kernel_rfl)|(apply aO;rfl;all_goals intro hc;have hq:=hc;(try simp only [cJ] at hq);try exfalso;omega)|apply aK|apply aS|apply bG)|with_reducible apply aA|with_reducible apply bH|with_reducible apply aW|with_reducible apply bF)
    ·have hzz := hz (by omega)
     have hed : eQ pts k (pts[k]!.next[j]!).toNat := ⟨hkn, by rw [Int.toNat_of_nonneg hzz.1]; exact cK _ _ (by omega)⟩
     have hne : nO u2[(pts[k]!.next[j]!).toNat]! (yX ts pts k u[k]!) ≠ u2[(pts[k]!.next[j]!).toNat]! := fun h => hq (congrArg Int.ofNat h)
     (apply dJ (j + 1, (_, true));focus (refine Le.ren [(0, 0)] rfl (by decide) ?_ ?_ <;> repeat' (first|exact trivial|refine And.intro ⟨_, rfl, ?_⟩ ?_|refine And.intro ⟨_, _, rfl, rfl, ?_⟩ ?_|exact Or.inr rfl|refine Or.inl ⟨?_, (by first|rfl|exact aY _ _|exact Pur.pf)⟩|rfl)))
     ·dsimp only
      refine ⟨by omega, ?_, yI fl w (hS2.2 k hkn) hed hS3⟩
      rw [jR (by omega), ← hf2, xK hne]
     ·dsimp only;omega
    ·have hzz := hz (by omega)
     have hne : nO u2[(pts[k]!.next[j]!).toNat]! (yX ts pts k u[k]!) = u2[(pts[k]!.next[j]!).toNat]! := Int.ofNat.inj hq
     (apply dJ (j + 1, (u2, c2));focus (refine Le.ren [(0, 0)] rfl (by decide) ?_ ?_ <;> repeat' (first|exact trivial|refine And.intro ⟨_, rfl, ?_⟩ ?_|refine And.intro ⟨_, _, rfl, rfl, ?_⟩ ?_|exact Or.inr rfl|refine Or.inl ⟨?_, (by first|rfl|exact aY _ _|exact Pur.pf)⟩|rfl)))
     ·dsimp only
      refine ⟨by omega, ?_, hS3⟩
      rw [jR (by omega), ← hf2, x5 hne]
     ·dsimp only;omega
    ·(apply dJ (k + 1, (u2, c2)); focus (refine Le.ren [(0, 0)] rfl (by decide) ?_ ?_ <;> repeat' (first | exact trivial | refine And.intro ⟨_, rfl, ?_⟩ ?_ | refine And.intro ⟨_, _, rfl, rfl, ?_⟩ ?_ | exact Or.inr rfl | refine Or.inl ⟨?_, (by first | rfl | exact aY _ _ | exact Pur.pf)⟩ | rfl)))
     ·dsimp only
      refine ⟨by omega, ?_, hS3⟩
      rw [e6, ← hf, hf2, List.take_of_length_le (by rw [lG]; omega)]; rfl
     ·dsimp only;omega
  ·repeat' (first | (apply aL; first | (apply aT;rfl;rfl;rfl;rfl) | (apply aF;kernel_rfl)) | (apply aM; first | apply aH | apply aB | (apply aO;rfl;all_goals intro hc;have hq:=hc;(try simp only [cJ] at hq);try exfalso;omega) | apply bG) | with_reducible apply aA | with_reducible apply bH | with_reducible apply aW | with_reducible apply bF)
   have law := tM w fl s false hS
   have hfull : (u, c) = yA nO (yX ts pts) pts (s, false) := by
    rw [hf, show k = pts.length by omega]; rfl
   rw [← hfull] at law
   (apply dJ (u, c);focus (refine Le.ren [(0, 0)] rfl (by decide) ?_ ?_ <;> repeat' (first|exact trivial|refine And.intro ⟨_, rfl, ?_⟩ ?_|refine And.intro ⟨_, _, rfl, rfl, ?_⟩ ?_|exact Or.inr rfl|refine Or.inl ⟨?_, (by first|rfl|exact aY _ _|exact Pur.pf)⟩|rfl)))
   ·dsimp only
    refine ⟨hS2, fun h => ?_⟩
    rcases law.2 with ⟨e1, e2⟩ | ⟨e1, _⟩
    ·cases e1;exact e2
    ·dsimp only at e1;rw [h] at e1;cases e1
   ·dsimp only
    have hb : b = true := by assumption
    subst hb
    rcases law.2 with ⟨e1, e2⟩ | ⟨e1, e2⟩
    ·cases e1;simp
    ·dsimp only at e1 e2;subst e1;omega
 ·have hb : b = false := by assumption
  refine cD (Le.frzD (d := 2) (i := 0) rfl rfl) ?_
  refine aP rfl ⟨?_, (by (exact aY _ _))⟩
  simp only [bX]
  rw [DR hA (GZ w hS (hC hb))]
theorem B5 (ts : List Int) (bd : List AL.Stmt) (pts : List Pnt) (i : Int) (f : List Nat) (w : WG ts pts) (hi : 0 ≤ i ∧ i < pts.length) (hf : f.length = 6) (hs : ∀ z : Nat, Sm f[z]!) : PC Tryz.prog 164 [aG ts bd pts, iv i, .agg (aI cW f)] (fun r => r = .agg (aI cW (x8 ts pts i.toNat f))) := by
 have hpl := w.pl
 have htl := w.tl
 have hin : i.toNat < pts.length := by omega
 have hst := (w.set i.toNat hin)
 have hy := w.y i.toNat hin
 have hbl := dV (wS ts pts[i.toNat]! [2])
 have hT : Sm (wS ts pts[i.toNat]! [2]) := dH (by omega)
 (refine aU Tryz.func164 rfl (by simp [Tryz.ntmps164]) ?_; rw [Tryz.ntmps164])
 repeat' (first|(apply aL;first|(apply aE;rfl;rfl)|(first|(apply aN;rfl;rfl;rfl;rfl)|(apply aV;rfl;rfl;(first|exact (rfl:_=[_, _, _, _, _])|rfl);rfl;rfl;rfl)|(apply kG;rfl;rfl;(assumption);rfl;rfl))|(apply aD;rfl;rfl;rfl)|(apply cL;(case hx|hi => rfl);(case hm => (assumption));(case hml => (rfl));(case hα | hf|hg => infer_instance);(case hN => rfl))|(first|((with_reducible apply aJ (k := 119));(case ha => rfl);(case h => (apply iK <;> (assumption)));(case hp => (rfl));(case hN => rfl))|((with_reducible apply aJ (k := 205));(case ha => rfl);(case h => (apply rZ <;> (assumption)));(case hp => (exact Pur.pf));(case hN => rfl)))|(apply bC;rfl;rfl;rfl)|(apply aF;kernel_rfl)|(apply bY;rfl;rfl;rfl)|(apply bK;rfl;rfl;rfl;rfl)|(apply bI;rfl;rfl)|(apply aX;rfl;rfl;rfl;rfl;rfl;(case hl => (simp;done));(exact (rfl:_=[_, _, _, _, _])))|(apply jC;rfl;rfl;rfl;(assumption);(rfl)))|(apply aM;first|apply aH|apply aB|apply aK)|with_reducible apply aA)
 refine a6 (σ := Nat × List Nat) [0, 1, 5, 6, 7, 8, 23, 24] [(0, _), (1, _), (5, _), (6, _), (7, _), (8, _), (23, _), (24, _)] [0, 1, 2] [(0, some _), (1, some _), (2, some _)] (fun k => [(25, iv (k.1 : Int))]) (fun k => [(3, some (aI cW k.2))]) (fun k => k.1 ≤ (cX (wS ts pts[i.toNat]! [2])).length ∧ k.2 = nW ((cX (wS ts pts[i.toNat]! [2])).take k.1) f ∧ k.2.length = 6) (fun k => (cX (wS ts pts[i.toNat]! [2])).length - k.1) (0, f) ⟨by omega, rfl, hf⟩ rfl rfl (by repeat' (first|exact trivial|refine And.intro rfl ?_)) (by repeat' (first|exact trivial|refine And.intro (.inr rfl) ?_)) ?_
 rintro ⟨k, u⟩ ⟨hk, hu, hul⟩
 dsimp only at hk hu hul ⊢
 have hbb : k < (cX (wS ts pts[i.toNat]! [2])).length → 0 ≤ (cX (wS ts pts[i.toNat]! [2]))[k]! ∧ (cX (wS ts pts[i.toNat]! [2]))[k]! < ts.length := fun h => mN (wZ (fun v => decide (cF ts pts[i.toNat]! v ∈ [2])) ts.length) h
 have husm : ∀ z : Nat, Sm u[z]! := by intro z;rw [hu]; exact KV hs z
 have hset : ∀ (k a : Nat) [Sm a] (z : Nat), Sm (u.set k a)[z]! := fun k a h z => BQ husm h z
 have hset2 : ∀ (k a k2 a2 : Nat) [Sm a] [Sm a2] (z : Nat), Sm ((u.set k a).set k2 a2)[z]! := fun k a k2 a2 h h2 z => BQ (BQ husm h) h2 z
 by_cases hkn : k < (cX (wS ts pts[i.toNat]! [2])).length
 ·have hbk := hbb hkn
  repeat' (first|(apply aL;first|(apply aE;rfl;rfl)|(apply aN;rfl;rfl;rfl;rfl)|(first|(apply bR;rfl;rfl;omega;rfl)|(apply aT;rfl;rfl;rfl;rfl))|(apply aC;rfl;rfl)|(first|(apply aZ;(case hx|hi => rfl);(case hm => (assumption));(case hml => (rfl));(case hα | hf|hg => infer_instance);(case hN => rfl))|(apply jB;rfl;rfl;(omega);rfl;rfl))|(apply aF;kernel_rfl)|(apply aX;rfl;rfl;rfl;rfl;rfl;(rw [aQ]; simp only [fY] <;> omega);(exact o6 (by (omega)))))|(apply aM;first|apply aH|apply aB|(apply aO;rfl;all_goals intro hc;have hq:=hc;(try simp only [cJ] at hq);try exfalso;omega)|apply aK|apply aS)|with_reducible apply aA|with_reducible apply aW)
  (apply Exists.intro (k + 1, u.set ((cX (wS ts pts[i.toNat]! [2]))[k]!).toNat 0);refine And.intro ?_ (And.intro ?_ ?_);rotate_left 2;focus (refine Le.ren [(0, 0), (1, 1), (2, 2), (3, 3)] rfl (by decide) ?_ ?_ <;> repeat' (first|exact trivial|refine And.intro ⟨_, rfl, ?_⟩ ?_|refine And.intro ⟨_, _, rfl, rfl, ?_⟩ ?_|exact Or.inr rfl|refine Or.inl ⟨?_, (by first|rfl|exact aY _ _|exact Pur.pf)⟩|rfl)))
  ·dsimp only
   exact ⟨by omega, by rw [DW hkn, ← hu], by simpa using hul⟩
  ·dsimp only;omega
 ·have hu' : u = nW (cX (wS ts pts[i.toNat]! [2])) f := by rw [hu, List.take_of_length_le (by omega)]
  cases hln : fC pts[i.toNat]!
  ·repeat' (first | (apply aL; first | (apply aE;rfl;rfl) | (first | (apply eG; (case hx | hH => rfl); (case hf | hg | hα => infer_instance); (case hk => omega); (case hc | hN => rfl)) | (apply aN;rfl;rfl;rfl;rfl) | (apply aV;rfl;rfl;(first | exact (rfl:_=[_, _, _, _, _]) | rfl);rfl;rfl;rfl) | (apply kG;rfl;rfl;(first | assumption | (simp only [fY] <;> omega));rfl;rfl) | (apply p9;rfl;rfl;(exact LQ);(simp only [fY] <;> omega);rfl)) | (apply aD;rfl;rfl;rfl) | (first | (apply bB;rfl;rfl;rfl;(rfl)) | (apply bD;rfl;rfl;rfl;(assumption))) | (first | (apply gM;rfl;rfl;infer_instance;infer_instance;infer_instance;rfl) | (apply aT;rfl;rfl;rfl;rfl)) | (apply aC;rfl;rfl) | (apply bQ;rfl;(first | rfl | assumption);rfl;rfl) | (apply jB;rfl;rfl;(omega);rfl;rfl) | (first | ((with_reducible apply aJ (k := 206)); (case ha => rfl); (case h => (apply xB <;> (fail))); (case hp => (exact Pur.pf)); (case hN => rfl)) | ((with_reducible apply aJ (k := 207)); (case ha => rfl); (case h => (apply mP <;> (fail))); (case hp => (exact Pur.pf)); (case hN => rfl))) | (apply aF;kernel_rfl) | (apply aX;rfl;rfl;rfl;rfl;rfl;(rw [aQ]; simp only [fY] <;> omega);(exact o6 (by (first | omega | (simp only [fY] <;> omega))))) | (apply jC;rfl;rfl;rfl;(first | assumption | (simp only [fY] <;> omega));(rfl))) | (apply aM; first | apply aH | apply aB | (apply b0;kernel_rfl) | (apply cH;rfl;(assumption)) | (apply aO;rfl;all_goals intro hc;have hq:=hc;(try simp only [cJ] at hq);try exfalso;omega) | apply aS | apply bG | apply aR) | with_reducible apply aA | with_reducible apply bJ | with_reducible apply bH | with_reducible apply bF)
   all_goals (refine aP (oA (z := 6) rfl rfl (by first|exact hul|(simp only [List.length_set]; exact hul)) (by decide)) ⟨?_, (by (exact aY _ _))⟩)
   all_goals simp only [bX, x8, ← hu', hln, Bool.false_eq_true, false_and, false_or, if_false]
   all_goals congr 2
   all_goals grind
  ·have hop := Da hln
   repeat' (first|(apply aL;first|(apply aE;rfl;rfl)|(first|(apply eG;(case hx|hH => rfl);(case hf|hg|hα => infer_instance);(case hk => omega);(case hc|hN => rfl))|(apply aN;rfl;rfl;rfl;rfl)|(apply aV;rfl;rfl;(first|exact (rfl:_=[_, _, _, _, _])|rfl);rfl;rfl;rfl)|(apply kG;rfl;rfl;(first|assumption|(simp only [fY] <;> omega));rfl;rfl)|(apply p9;rfl;rfl;(exact LQ);(simp only [fY] <;> omega);rfl))|(apply aD;rfl;rfl;rfl)|(first|(apply bB;rfl;rfl;rfl;(assumption))|(apply bD;rfl;rfl;rfl;(assumption))|(apply bS;(case hj|hb|hN => rfl);all_goals (intro hg;have hq := hg;(try simp only [cJ] at hq);(try (exfalso;omega)))))|(first|(apply gM;rfl;rfl;infer_instance;infer_instance;infer_instance;rfl)|(apply jK;rfl;rfl;infer_instance;omega;rfl;(case' kk => intro hsm))|(apply aT;rfl;rfl;rfl;rfl))|(apply aC;rfl;rfl)|(first|(apply bV;rfl;(assumption);rfl;rfl)|(apply bQ;rfl;(assumption);rfl;rfl))|(first|(apply cL;(case hx|hi => rfl);(case hm => (omega));(case hml => (rfl));(case hα | hf|hg => infer_instance);(case hN => rfl))|(apply jB;rfl;rfl;(omega);rfl;rfl))|(first|((with_reducible apply aJ (k := 206));(case ha => rfl);(case h => (apply xB <;> (fail)));(case hp => (exact Pur.pf));(case hN => rfl))|((with_reducible apply aJ (k := 207));(case ha => rfl);(case h => (apply mP <;> (fail)));(case hp => (exact Pur.pf));(case hN => rfl))|((with_reducible apply aJ (k := 208));(case ha => rfl);(case h => (apply Bc <;> (fail)));(case hp => (rfl));(case hN => rfl)))|(apply aF;kernel_rfl)|(apply bY;rfl;rfl;rfl)|(apply aX;rfl;rfl;rfl;rfl;rfl;(rw [aQ]; simp only [fY] <;> omega);(exact o6 (by (first|omega|(simp only [fY] <;> omega)))))|(apply jC;rfl;rfl;rfl;(first|assumption|(simp only [fY] <;> omega));(rfl)))|(apply aM;first|apply aH|apply aB|(apply b0;kernel_rfl)|(apply cA;rfl;(first|rfl|assumption))|(apply aO;rfl;all_goals intro hc;have hq:=hc;(try simp only [cJ] at hq);try exfalso;omega)|apply aS|apply bG|apply aR)|with_reducible apply aA|with_reducible apply bJ|with_reducible apply bH|with_reducible apply bF)
   all_goals (refine aP (oA (z := 6) rfl rfl (by first|exact hul|(simp only [List.length_set]; exact hul)) (by decide)) ⟨?_, (by (exact aY _ _))⟩)
   all_goals simp only [bX, x8, ← hu', hln, true_and, if_true]
   all_goals congr 2
   all_goals grind
theorem DX (ts : List Int) (bd : List AL.Stmt) (pts : List Pnt) (A : List Nat) (w : WG ts pts) (hA : wL ts pts A) : PC Tryz.prog 101 [aG ts bd pts] (fun r => r = .imm pts.length (aI cW A)) := by
 have hpl := w.pl
 have hp0 := w.p0
 have htl := w.tl
 (refine aU Tryz.func101 rfl (by simp [Tryz.ntmps101]) ?_; rw [Tryz.ntmps101])
 repeat' (first|(apply aL;first|(apply aE;rfl;rfl)|(apply aN;rfl;rfl;rfl;rfl)|(apply aD;rfl;rfl;rfl)|(apply aC;rfl;rfl)|(apply bC;rfl;rfl;rfl)|(apply aF;kernel_rfl)|(apply bY;rfl;rfl;rfl)|(apply dX;rfl;rfl;rfl;omega;omega;(exact Hp);rfl;rfl))|(apply aM;first|apply aH|apply aB|apply aK)|with_reducible apply aA)
 refine a6 (σ := List Nat × Bool) [0, 3] [(0, _), (3, _)] [] [] (fun s => [(4, bv s.2)]) (fun s => [(0, some (aI cW s.1))]) (fun s => SF ts pts s.1 ∧ (s.2 = false → yP ts pts s.1)) (fun s => 2 * gD (s.1.map (fun x => 2 ^ pts.length - x)) + s.2.toNat) (List.replicate (pts.length * 6) 0, true) ⟨Kk, fun h => by cases h⟩ rfl rfl (by repeat' (first|exact trivial|refine And.intro rfl ?_)) (by repeat' (first|exact trivial|refine And.intro (.inr rfl) ?_)) ?_
 rintro ⟨s, b⟩ ⟨hS, hC⟩
 dsimp only at hS hC ⊢
 repeat' (first|(apply aL;first|(apply aE;rfl;rfl)|(apply aN;rfl;rfl;rfl;rfl)|(apply aD;rfl;rfl;rfl)|(apply aC;rfl;rfl)|(apply bC;rfl;rfl;rfl)|(apply aF;kernel_rfl)|(apply bY;rfl;rfl;rfl))|(apply aM;first|apply aH|apply aB|(apply aO;rfl;all_goals intro hc;have hq:=hc;(try simp only [cJ] at hq);try exfalso;omega)|apply aK|apply aS|apply bG|apply aR)|with_reducible apply aA|with_reducible apply bH|with_reducible apply bF)
 ·refine a6 (σ := Nat × (List Nat × Bool)) [0, 3, 22, 23] [(0, _), (3, _), (22, _), (23, _)] [] [] (fun k => [(24, iv (k.1 : Int)), (4, bv k.2.2)]) (fun k => [(0, some (aI cW k.2.1))]) (fun k => k.1 ≤ pts.length ∧ k.2 = (List.range k.1).foldl (BW ts pts) (s, false) ∧ SF ts pts k.2.1) (fun k => pts.length - k.1) (0, (s, false)) ⟨by omega, rfl, hS⟩ rfl rfl (by repeat' (first | exact trivial | refine And.intro rfl ?_)) (by repeat' (first | exact trivial | refine And.intro (.inr rfl) ?_)) ?_
  rintro ⟨i, u, c⟩ ⟨hk, hf, hS2⟩
  dsimp only at hk hf hS2 ⊢
  have hul := hS2.1
  have hsm : ∀ z : Nat, Sm u[z]! := JL w hS2
  by_cases hin : i < pts.length
  ·have hnl := w.nl i hin
   have hrl : ((u.drop (i * 6)).take 6).length = 6 := iC hul hin
   have hrs : ∀ z : Nat, Sm ((u.drop (i * 6)).take 6)[z]! := by
    intro z
    by_cases hz : z < 6
    ·have := gZ hul hin hz;unfold fE at this;rw [this]; exact hsm _
    ·rw [getElem!_neg _ z (by rw [hrl]; exact hz)]; exact ⟨by decide⟩
   have hcl : (x8 ts pts (i : Int).toNat ((u.drop (i * 6)).take 6)).length = 6 := (H4 ts pts i ((u.drop (i * 6)).take 6)).trans hrl
   repeat' (first|(apply aL;first|(apply aE;rfl;rfl)|(first|(apply aN;rfl;rfl;rfl;rfl)|(apply aV;rfl;rfl;(first|exact (rfl:_=[_, _, _, _, _])|rfl);rfl;rfl;rfl)|(apply zJ;rfl;rfl;(omega);rfl;rfl))|(apply aD;rfl;rfl;rfl)|(apply aT;rfl;rfl;rfl;rfl)|(apply aC;rfl;rfl)|(first|(apply aZ;(case hx|hi => rfl);(case hm => (assumption));(case hml => (rfl));(case hα | hf|hg => infer_instance);(case hN => rfl))|(apply cM;rfl;rfl;(assumption);rfl))|((with_reducible apply aJ (k := 164));(case ha => rfl);(case h => (apply B5 <;> (first|assumption|omega)));(case hp => (exact Pur.pf));(case hN => rfl))|(apply bC;rfl;rfl;rfl)|(apply aF;kernel_rfl)|(apply bI;rfl;rfl)|(apply aX;rfl;rfl;rfl;rfl;rfl;(case hl => (simp;done));(exact (rfl:_=[_, _, _, _, _])))|(apply jC;rfl;rfl;rfl;(assumption);(rfl)))|(apply aM;first|apply aH|apply aB|(apply aO;rfl;all_goals intro hc;have hq:=hc;(try simp only [cJ] at hq);try exfalso;omega)|apply aK|apply aS)|with_reducible apply aA)
   generalize hcf : x8 ts pts (i : Int).toNat ((u.drop (i * 6)).take 6) = a at hcl
   have hcf' : x8 ts pts i (fE u i) = a := hcf
   have hasnd : ∀ k, eQ pts i k → ∀ v, v < 6 → L9 ts pts k v a[v]! := fun k e v hv => by rw [← hcf']; exact CQ w hS2 e hv
   refine a6 (σ := Nat × (List Nat × Bool)) [0, 3, 7, 22, 23, 24, 37, 38] [(0, _), (3, _), (7, _), (22, _), (23, _), (24, _), (37, _), (38, _)] [2] [(2, some _)] (fun j => [(39, iv (j.1 : Int)), (4, bv j.2.2)]) (fun j => [(0, some (aI cW j.2.1))]) (fun j => j.1 ≤ pts[i]!.next.length ∧ j.2 = ((uZ pts i).take j.1).foldl (vC a) (u, c) ∧ SF ts pts j.2.1) (fun j => pts[i]!.next.length - j.1) (0, (u, c)) ⟨by omega, rfl, hS2⟩ rfl rfl (by repeat' (first|exact trivial|refine And.intro rfl ?_)) (by repeat' (first|exact trivial|refine And.intro (.inr rfl) ?_)) ?_
   rintro ⟨j, u2, c2⟩ ⟨hj, hf2, hS3⟩
   dsimp only at hj hf2 hS3 ⊢
   have hul2 := hS3.1
   by_cases hjn : j < pts[i]!.next.length
   ·have hzz : 0 ≤ pts[i]!.next[j]! ∧ pts[i]!.next[j]! < pts.length := w.nx i hin _ (cK _ _ hjn)
    have hed : eQ pts i (pts[i]!.next[j]!).toNat := ⟨hin, by rw [Int.toNat_of_nonneg hzz.1]; exact cK _ _ hjn⟩
    have hap := hasnd _ hed
    have hasm : ∀ z : Nat, Sm a[z]! := by
     intro z
     by_cases hz : z < 6
     ·exact ⟨Nat.lt_of_lt_of_le (hap z hz).1 (Nat.pow_le_pow_right (by decide) (by omega))⟩
     ·rw [getElem!_neg a z (by rw [hcl]; exact hz)]; exact ⟨by decide⟩
    repeat' (first|(apply aL;first|(apply aE;rfl;rfl)|(first|(apply aN;rfl;rfl;rfl;rfl)|(apply kG;rfl;rfl;(assumption);rfl;rfl))|(apply aT;rfl;rfl;rfl;rfl)|(apply aC;rfl;rfl)|(apply aZ;(case hx|hi => rfl);(case hm => (assumption));(case hml => (rfl));(case hα | hf|hg => infer_instance);(case hN => rfl))|(apply aF;kernel_rfl))|(apply aM;first|apply aH|apply aB|(apply aO;rfl;all_goals intro hc;have hq:=hc;(try simp only [cJ] at hq);try exfalso;omega)|apply aK|apply aS)|with_reducible apply aA)
    refine a6 (σ := Nat × (List Nat × Bool)) [0, 3, 7, 9, 22, 23, 24, 37, 38, 39, 43] [(0, _), (3, _), (7, _), (9, _), (22, _), (23, _), (24, _), (37, _), (38, _), (39, _), (43, _)] [2] [(2, some _)] (fun v => [(44, iv (v.1 : Int)), (4, bv v.2.2)]) (fun v => [(0, some (aI cW v.2.1))]) (fun v => v.1 ≤ 6 ∧ v.2 = (List.range v.1).foldl (qB a (pts[i]!.next[j]!).toNat) (u2, c2) ∧ SF ts pts v.2.1) (fun v => 6 - v.1) (0, (u2, c2)) ⟨by omega, rfl, hS3⟩ rfl rfl (by repeat' (first|exact trivial|refine And.intro rfl ?_)) (by repeat' (first|exact trivial|refine And.intro (.inr rfl) ?_)) ?_
    rintro ⟨v, u3, c3⟩ ⟨hv, hf3, hS4⟩
    dsimp only at hv hf3 hS4 ⊢
    have hul3 := hS4.1
    have hsm3 : ∀ z : Nat, Sm u3[z]! := JL w hS4
    by_cases hvn : v < 6
    ·have hlaw := AY (fZ w hed) hap u3 c3 v hvn hS4
     repeat' (first|(apply aL;first|(apply aE;rfl;rfl)|(apply p9;rfl;rfl;(exact MB);(omega);rfl)|(first|(apply gM;rfl;rfl;infer_instance;infer_instance;infer_instance;rfl)|(apply bR;rfl;rfl;omega;rfl)|(apply aT;rfl;rfl;rfl;rfl))|(apply aC;rfl;rfl)|(first|(apply cR;rfl;rfl;(assumption);rfl)|(apply jB;rfl;rfl;(omega);rfl;rfl))|(apply aF;kernel_rfl)|(apply B2;rfl;rfl;(assumption);omega;rfl)|(apply aX;rfl;rfl;rfl;rfl;rfl;(rw [aQ]; simp only [fY] <;> omega);(exact GH (by (omega)))))|(apply aM;first|apply aH|apply aB|(apply b0;kernel_rfl)|(apply aO;rfl;all_goals intro hc;have hq:=hc;(try simp only [cJ] at hq);try exfalso;omega)|apply aK|apply aS)|with_reducible apply aA|with_reducible apply aW)
     ·have hne : nO u3[(pts[i]!.next[j]!).toNat * 6 + v]! a[v]! ≠ u3[(pts[i]!.next[j]!).toNat * 6 + v]! := fun h => hq (congrArg Int.ofNat h)
      have e1 : qB a (pts[i]!.next[j]!).toNat (u3, c3) v = (u3.set ((pts[i]!.next[j]!).toNat * 6 + v) (nO u3[(pts[i]!.next[j]!).toNat * 6 + v]! a[v]!), true) := xK hne
      rw [e1] at hlaw
      (apply dJ (v + 1, (_, true));focus (refine Le.ren [(0, 0), (2, 2)] rfl (by decide) ?_ ?_ <;> repeat' (first|exact trivial|refine And.intro ⟨_, rfl, ?_⟩ ?_|refine And.intro ⟨_, _, rfl, rfl, ?_⟩ ?_|exact Or.inr rfl|refine Or.inl ⟨?_, (by first|rfl|exact aY _ _|exact Pur.pf)⟩|rfl)))
      ·dsimp only
       refine ⟨by omega, ?_, hlaw.1⟩
       rw [wT, ← hf3, e1]; rfl
      ·dsimp only;omega
     ·have hne : nO u3[(pts[i]!.next[j]!).toNat * 6 + v]! a[v]! = u3[(pts[i]!.next[j]!).toNat * 6 + v]! := Int.ofNat.inj hq
      have e1 : qB a (pts[i]!.next[j]!).toNat (u3, c3) v = (u3, c3) := x5 hne
      (apply dJ (v + 1, (u3, c3));focus (refine Le.ren [(0, 0), (2, 2)] rfl (by decide) ?_ ?_ <;> repeat' (first|exact trivial|refine And.intro ⟨_, rfl, ?_⟩ ?_|refine And.intro ⟨_, _, rfl, rfl, ?_⟩ ?_|exact Or.inr rfl|refine Or.inl ⟨?_, (by first|rfl|exact aY _ _|exact Pur.pf)⟩|rfl)))
      ·dsimp only
       refine ⟨by omega, ?_, hS4⟩
       rw [wT, ← hf3, e1]
      ·dsimp only;omega
    ·have hv6 : v = 6 := by omega
     subst hv6
     repeat' (first|(apply aL;first|(apply aE;rfl;rfl)|(first|(apply bR;rfl;rfl;omega;rfl)|(apply aT;rfl;rfl;rfl;rfl))|(apply aF;kernel_rfl))|(apply aM;first|apply aH|apply aB|(apply cH;rfl;(rfl))|apply bG)|with_reducible apply aA|with_reducible apply bH|with_reducible apply aW|with_reducible apply bF)
     (apply dJ (j + 1, (u3, c3));focus (refine Le.ren [(0, 0), (2, 2)] rfl (by decide) ?_ ?_ <;> repeat' (first|exact trivial|refine And.intro ⟨_, rfl, ?_⟩ ?_|refine And.intro ⟨_, _, rfl, rfl, ?_⟩ ?_|exact Or.inr rfl|refine Or.inl ⟨?_, (by first|rfl|exact aY _ _|exact Pur.pf)⟩|rfl)))
     ·dsimp only
      refine ⟨by omega, ?_, hS4⟩
      rw [Ea hjn, ← hf2, hf3]; rfl
     ·dsimp only;omega
   ·repeat' (first | (apply aL; first | (apply aE;rfl;rfl) | (first | (apply bR;rfl;rfl;omega;rfl) | (apply aT;rfl;rfl;rfl;rfl)) | (apply aF;kernel_rfl)) | (apply aM; first | apply aH | apply aB | (apply aO;rfl;all_goals intro hc;have hq:=hc;(try simp only [cJ] at hq);try exfalso;omega) | apply bG) | with_reducible apply aA | with_reducible apply bH | with_reducible apply aW | with_reducible apply bF)
    (apply dJ (i + 1, (u2, c2));focus (refine Le.ren [(0, 0)] rfl (by decide) ?_ ?_ <;> repeat' (first|exact trivial|refine And.intro ⟨_, rfl, ?_⟩ ?_|refine And.intro ⟨_, _, rfl, rfl, ?_⟩ ?_|exact Or.inr rfl|refine Or.inl ⟨?_, (by first|rfl|exact aY _ _|exact Pur.pf)⟩|rfl)))
    ·dsimp only
     refine ⟨by omega, ?_, hS3⟩
     rw [e6, ← hf, hf2, List.take_of_length_le (by rw [lG]; omega), ← hcf']; rfl
    ·dsimp only;omega
  ·repeat' (first | (apply aL; first | (apply aT;rfl;rfl;rfl;rfl) | (apply aF;kernel_rfl)) | (apply aM; first | apply aH | apply aB | (apply aO;rfl;all_goals intro hc;have hq:=hc;(try simp only [cJ] at hq);try exfalso;omega) | apply bG) | with_reducible apply aA | with_reducible apply bH | with_reducible apply aW | with_reducible apply bF)
   have law := Fc w s false hS
   have hfull : (u, c) = He ts pts (s, false) := by
    rw [hf, show i = pts.length by omega]; rfl
   rw [← hfull] at law
   (apply dJ (u, c);focus (refine Le.ren [(0, 0)] rfl (by decide) ?_ ?_ <;> repeat' (first|exact trivial|refine And.intro ⟨_, rfl, ?_⟩ ?_|refine And.intro ⟨_, _, rfl, rfl, ?_⟩ ?_|exact Or.inr rfl|refine Or.inl ⟨?_, (by first|rfl|exact aY _ _|exact Pur.pf)⟩|rfl)))
   ·dsimp only
    refine ⟨hS2, fun h => ?_⟩
    rcases law.2 with ⟨e1, e2⟩ | ⟨e1, _⟩
    ·cases e1;exact e2
    ·dsimp only at e1;rw [h] at e1;cases e1
   ·dsimp only
    have hb : b = true := by assumption
    subst hb
    rcases law.2 with ⟨e1, e2⟩ | ⟨e1, e2⟩
    ·cases e1;simp
    ·dsimp only at e1 e2;subst e1;omega
 ·have hb : b = false := by assumption
  refine cD (Le.frzD (d := 2) (i := 0) rfl rfl) ?_
  refine aP rfl ⟨?_, (by (exact aY _ _))⟩
  simp only [bX]
  rw [Ew hA (F5 w hS (hC hb))]
theorem Kn (ts : List Int) (bd : List AL.Stmt) (pts : List Pnt) (i : Int) (lv : Nat) (f : List Nat) (w : WG ts pts) (hi : 0 ≤ i ∧ i < pts.length) (hlv : lv < 2 ^ ts.length) (hf : f.length = 6) (hs : ∀ z : Nat, Sm f[z]!) : PC Tryz.prog 170 [aG ts bd pts, iv i, iv (lv : Int), .agg (aI cW f)] (fun r => r = .v (.int .u64 (wN ts pts[i.toNat]! lv f : Nat))) := by
 have hpl := w.pl
 have htl := w.tl
 have hin : i.toNat < pts.length := by omega
 have hst := (w.set i.toNat hin)
 have hsl : Sm lv := ⟨Nat.lt_of_lt_of_le hlv (Nat.pow_le_pow_right (by decide) (by omega))⟩
 have hT : Sm (wS ts pts[i.toNat]! [2]) := dH (by omega)
 have hB : Sm (iW pts[i.toNat]!) := rI (by omega)
 have hbl := dV (nL lv (wS ts pts[i.toNat]! [2] ||| iW pts[i.toNat]!))
 have hlt : nL lv (wS ts pts[i.toNat]! [2] ||| iW pts[i.toNat]!) < 2 ^ ts.length := Nat.xor_lt_two_pow hlv (Nat.lt_of_le_of_lt Nat.and_le_left hlv)
 (refine aU Tryz.func170 rfl (by simp [Tryz.ntmps170]) ?_; rw [Tryz.ntmps170])
 repeat' (first|(apply aL;first|(apply aE;rfl;rfl)|(first|(apply aN;rfl;rfl;rfl;rfl)|(apply aV;rfl;rfl;(exact (rfl:_=[_, _, _, _, _]));rfl;rfl;rfl))|(apply aD;rfl;rfl;rfl)|(first|(apply gM;rfl;rfl;infer_instance;infer_instance;infer_instance;rfl)|(apply oK;rfl;rfl;infer_instance;infer_instance;infer_instance;rfl))|(apply aC;rfl;rfl)|(apply cL;(case hx|hi => rfl);(case hm => (assumption));(case hml => (rfl));(case hα | hf|hg => infer_instance);(case hN => rfl))|(first|((with_reducible apply aJ (k := 119));(case ha => rfl);(case h => (apply iK <;> (infer_instance)));(case hp => (rfl));(case hN => rfl))|((with_reducible apply aJ (k := 205));(case ha => rfl);(case h => (apply rZ <;> (assumption)));(case hp => (exact Pur.pf));(case hN => rfl))|((with_reducible apply aJ (k := 212));(case ha => rfl);(case h => (apply o3 <;> (omega)));(case hp => (exact Pur.pf));(case hN => rfl)))|(apply bC;rfl;rfl;rfl)|(apply aF;kernel_rfl)|(apply bY;rfl;rfl;rfl)|(apply bK;rfl;rfl;rfl;rfl)|(apply bI;rfl;rfl)|(apply aX;rfl;rfl;rfl;rfl;rfl;(case hl => (simp;done));(exact (rfl:_=[_, _, _, _, _]))))|(apply aM;first|apply aH|apply aB|(apply b0;kernel_rfl)|apply aK)|with_reducible apply aA)
 refine a6 (σ := Nat × Nat) [7, 28, 29] [(7, _), (28, _), (29, _)] [0] [(0, some _)] (fun k => [(30, iv (k.1 : Int)), (10, .v (.int .u64 (k.2 : Int)))]) (fun k => []) (fun k => k.1 ≤ (cX (nL lv (wS ts pts[i.toNat]! [2] ||| iW pts[i.toNat]!))).length ∧ k.2 = LB f ((cX (nL lv (wS ts pts[i.toNat]! [2] ||| iW pts[i.toNat]!))).take k.1) 0 ∧ Sm k.2) (fun k => (cX (nL lv (wS ts pts[i.toNat]! [2] ||| iW pts[i.toNat]!))).length - k.1) (0, 0) ⟨by omega, rfl, inferInstance⟩ rfl rfl (by repeat' (first|exact trivial|refine And.intro rfl ?_)) (by repeat' (exact trivial)) ?_
 rintro ⟨k, a⟩ ⟨hk, ha, hsa⟩
 dsimp only at hk ha hsa ⊢
 have hbb : k < (cX (nL lv (wS ts pts[i.toNat]! [2] ||| iW pts[i.toNat]!))).length → 0 ≤ (cX (nL lv (wS ts pts[i.toNat]! [2] ||| iW pts[i.toNat]!)))[k]! ∧ (cX (nL lv (wS ts pts[i.toNat]! [2] ||| iW pts[i.toNat]!)))[k]! < ts.length := fun h => mN hlt h
 repeat' (first|(apply aL;first|(apply aE;rfl;rfl)|(first|(apply eG;(case hx|hH => rfl);(case hf|hg|hα => infer_instance);(case hk => omega);(case hc|hN => rfl))|(apply aN;rfl;rfl;rfl;rfl))|(first|(apply gM;rfl;rfl;infer_instance;infer_instance;infer_instance;rfl)|(apply bR;rfl;rfl;omega;rfl)|(apply aT;rfl;rfl;rfl;rfl))|(apply aC;rfl;rfl)|(first|(apply aZ;(case hx|hi => rfl);(case hm => (omega));(case hml => (rfl));(case hα | hf|hg => infer_instance);(case hN => rfl))|(apply jB;rfl;rfl;(omega);rfl;rfl))|(apply aF;kernel_rfl))|(apply aM;first|apply aH|apply aB|(apply aO;rfl;all_goals intro hc;have hq:=hc;(try simp only [cJ] at hq);try exfalso;omega)|apply aK|apply aS|apply bG|apply aR)|with_reducible apply aA|with_reducible apply bH|with_reducible apply aW|with_reducible apply bF)
 ·(apply dJ (k + 1, _); focus (refine Le.ren [(0, 0)] rfl (by decide) ?_ ?_ <;> repeat' (first | exact trivial | refine And.intro ⟨_, rfl, ?_⟩ ?_ | refine And.intro ⟨_, _, rfl, rfl, ?_⟩ ?_ | exact Or.inr rfl | refine Or.inl ⟨?_, (by first | rfl | exact aY _ _)⟩ | rfl)))
  ·dsimp only
   refine ⟨by omega, ?_, inferInstance⟩
   rw [ha]; unfold LB;rw [fJ _ _ _ _ (by omega)]
  ·dsimp only;omega
 ·refine aP rfl ⟨?_, rfl⟩
  simp only [bX]
  rw [ha, List.take_of_length_le (by omega)]; rfl
theorem Ch (ts : List Int) (bd : List AL.Stmt) (pts : List Pnt) (x : Pnt) (mb : Nat) (htl : ts.length ≤ 6) (hmb : Sm mb) (hst : bT x < ts.length) (hy : 0 ≤ x.y ∧ (3 ≤ x.op → x.op ≤ 7 → x.y < ts.length)) : PC Tryz.prog 213 [aG ts bd pts, fL x, iv (mb : Int)] (fun r => r = sl IV (k6 ts x (mb.testBit (bT x).toNat))) := by
 (refine aU Tryz.func213 rfl (by simp [Tryz.ntmps213]) ?_; rw [Tryz.ntmps213])
 repeat' (first|(apply aL;first|((apply lJ (d := 7) (e := 2));(case hM|hN => rfl))|(apply aE;rfl;rfl)|(first|(apply aN;rfl;rfl;rfl;rfl)|(apply aV;rfl;rfl;(exact (rfl:_=[_, _, _, _, _]));rfl;rfl;rfl))|(apply aD;rfl;rfl;rfl)|(first|(apply bB;rfl;rfl;rfl;(assumption))|(apply bD;rfl;rfl;rfl;(first|rfl|assumption))|(apply bS;(case hj|hb|hN => rfl);all_goals (intro hg;have hq := hg;(try simp only [cJ] at hq);(try (exfalso;omega)))))|(first|(apply oM;rfl;rfl;infer_instance;infer_instance;rfl)|(apply oZ;rfl;rfl;infer_instance;infer_instance;omega;rfl)|(apply aT;rfl;rfl;rfl;rfl))|(apply aC;rfl;rfl)|(first|(apply bV;rfl;(assumption);rfl;rfl)|(apply bQ;rfl;(first|rfl|assumption);rfl;rfl))|(apply cL;(case hx|hi => rfl);(case hm => (omega));(case hml => (rfl));(case hα | hf|hg => infer_instance);(case hN => rfl))|(first|((with_reducible apply aJ (k := 131));(case ha => rfl);(case h => (apply x6 <;> (omega)));(case hp => (exact Pur.pf));(case hN => rfl))|((with_reducible apply aJ (k := 206));(case ha => rfl);(case h => (apply xB <;> (fail)));(case hp => (exact Pur.pf));(case hN => rfl)))|(apply bW;rfl;rfl;rfl;rfl;rfl;(case hl => (simp [aQ]; done));(rfl);omega;omega;(first|exact (rfl:_=[_, _])|exact (rfl:_=[_, _, _, _]));rfl;rfl)|(apply aF;kernel_rfl)|(apply b8;rfl;(exact (rfl:_=some [_, _]));(exact (rfl:_=[_, _]));rfl)|(apply bY;rfl;rfl;rfl)|(apply bK;rfl;rfl;rfl;rfl)|(apply bZ;rfl;rfl;rfl;(exact (rfl:_=some [_, _]));rfl;rfl))|(apply aM;first|apply aH|apply aB|(apply cA;rfl;(assumption))|(apply cH;rfl;(rfl))|(apply aO;rfl;all_goals intro hc;have hq:=hc;(try simp only [cJ] at hq);try exfalso;omega)|apply aK|apply aS|apply aR)|with_reducible apply aA|with_reducible apply aW)
 all_goals first|refine cD (Le.frzD (d := 6) (i := 1) rfl rfl) ?_|refine cD (Le.frzD (d := 6) (i := 3) rfl rfl) ?_|refine cD (Le.frzD (d := 6) (i := 5) rfl rfl) ?_
 all_goals refine aP rfl ⟨?_, (by (rfl))⟩
 all_goals simp only [bX, k6]
 all_goals have h1 := l9 mb (bT x).toNat
 all_goals (try (rw [if_neg (show ¬ (0 ≤ bT x ∧ ts[(bT x).toNat]! = 2 ∧ mb.testBit (bT x).toNat = true) from fun h => by omega)]))
 all_goals (simp_all <;> rfl)
theorem D0 (ts : List Int) (bd : List AL.Stmt) (pts : List Pnt) (i : Int) (mb loans : Nat) (w : WG ts pts) (hi : 0 ≤ i ∧ i < pts.length) (hmb : Sm mb) (hlo : loans < 2 ^ pts.length) : PC Tryz.prog 169 [aG ts bd pts, iv i, iv (mb : Int), .v (.int .u64 (loans : Int))] (fun r => r = .v (.int .u64 (HP pts loans (k6 ts pts[i.toNat]! (mb.testBit (bT pts[i.toNat]!).toNat)) 0 : Nat))) := by
 have hpl := w.pl
 have htl := w.tl
 have hin : i.toNat < pts.length := by omega
 have hst := (w.set i.toNat hin).1
 have hy := w.y i.toNat hin
 have hx := w.x i.toNat hin
 have hop := w.op i.toNat hin
 have hlsm : Sm loans := ⟨Nat.lt_of_lt_of_le hlo (Nat.pow_le_pow_right (by decide) (by omega))⟩
 have hacc := xE (mb.testBit (bT pts[i.toNat]!).toNat) w hin
 have hal := HO ts pts[i.toNat]! (mb.testBit (bT pts[i.toNat]!).toNat)
 (refine aU Tryz.func169 rfl (by simp [Tryz.ntmps169]) ?_; rw [Tryz.ntmps169])
 repeat' (first|(apply aL;first|(apply aE;rfl;rfl)|(first|(apply aN;rfl;rfl;rfl;rfl)|(apply aV;rfl;rfl;(exact (rfl:_=[_, _, _, _, _]));rfl;rfl;rfl))|(apply aD;rfl;rfl;rfl)|(apply aC;rfl;rfl)|(apply cL;(case hx|hi => rfl);(case hm => (assumption));(case hml => (rfl));(case hα | hf|hg => infer_instance);(case hN => rfl))|((with_reducible apply aJ (k := 213));(case ha => rfl);(case h => (apply Ch <;> (assumption)));(case hp => (exact Pur.pf));(case hN => rfl))|(apply bC;rfl;rfl;rfl)|(apply aF;kernel_rfl)|(apply bY;rfl;rfl;rfl))|(apply aM;first|apply aH|apply aB|apply aK)|with_reducible apply aA)
 generalize k6 ts pts[i.toNat]! (mb.testBit (bT pts[i.toNat]!).toNat) = acs at hacc hal
 refine a6 (σ := Nat × Nat) [0, 3, 23, 24] [(0, _), (3, _), (23, _), (24, _)] [] [] (fun k => [(25, iv (k.1 : Int)), (9, .v (.int .u64 (k.2 : Int)))]) (fun k => []) (fun k => k.1 ≤ acs.length ∧ k.2 = HP pts loans (acs.take k.1) 0 ∧ k.2 < 2 ^ pts.length) (fun k => acs.length - k.1) (0, 0) ⟨by omega, rfl, Nat.pow_pos (by decide)⟩ rfl rfl (by repeat' (first|exact trivial|refine And.intro rfl ?_)) (by repeat' (exact trivial)) ?_
 rintro ⟨k, a⟩ ⟨hk, ha, hab⟩
 dsimp only at hk ha hab ⊢
 by_cases hkn : k < acs.length
 ·have hcv := hacc _ (cK acs k hkn)
  have hof : ∀ V, Sm (rF pts V) := fun V => FX w V
  have hll := dV (loans &&& rF pts (2 ^ (acs[k]!.var).toNat))
  have hlb : loans &&& rF pts (2 ^ (acs[k]!.var).toNat) < 2 ^ pts.length := Nat.lt_of_le_of_lt Nat.and_le_left hlo
  have htk := fJ (fun a c => Jk pts c.write (cX (loans &&& rF pts (2 ^ c.var.toNat))) a) acs 0 k hkn
  repeat' (first|(apply aL;first|(apply aE;rfl;rfl)|(first|(apply aN;rfl;rfl;rfl;rfl)|(apply aV;rfl;rfl;(exact (rfl:_=[_, _]));rfl;rfl;rfl))|(apply aD;rfl;rfl;rfl)|(first|(apply xM;rfl;rfl;infer_instance;infer_instance;infer_instance;rfl)|(apply jK;rfl;rfl;infer_instance;omega;rfl;(case' kk => intro hsm))|(apply aT;rfl;rfl;rfl;rfl))|(apply aZ;(case hx|hi => rfl);(case hm => (assumption));(case hml => (rfl));(case hα | hf|hg => infer_instance);(case hN => rfl))|(first|((with_reducible apply aJ (k := 168));(case ha => rfl);(case h => (apply sW <;> (infer_instance)));(case hp => (rfl));(case hN => rfl))|((with_reducible apply aJ (k := 211));(case ha => rfl);(case h => (apply AT <;> (assumption)));(case hp => (exact Pur.pf));(case hN => rfl)))|(apply bC;rfl;rfl;rfl)|(apply aF;kernel_rfl)|(apply bI;rfl;rfl)|(apply aX;rfl;rfl;rfl;rfl;rfl;(case hl => (simp;done));(exact (rfl:_=[_, _]))))|(apply aM;first|apply aH|apply aB|(apply aO;rfl;all_goals intro hc;have hq:=hc;(try simp only [cJ] at hq);try exfalso;omega)|apply aK|apply aS)|with_reducible apply aA)
  refine a6 (σ := Nat × Nat) [0, 3, 11, 23, 24, 25, 36, 37] [(0, _), (3, _), (11, _), (23, _), (24, _), (25, _), (36, _), (37, _)] [0] [(0, some _)] (fun j => [(38, iv (j.1 : Int)), (9, .v (.int .u64 (j.2 : Int)))]) (fun j => []) (fun j => j.1 ≤ (cX (loans &&& rF pts (2 ^ (acs[k]!.var).toNat))).length ∧ j.2 = Jk pts acs[k]!.write ((cX (loans &&& rF pts (2 ^ (acs[k]!.var).toNat))).take j.1) a ∧ j.2 < 2 ^ pts.length) (fun j => (cX (loans &&& rF pts (2 ^ (acs[k]!.var).toNat))).length - j.1) (0, a) ⟨by omega, rfl, hab⟩ rfl rfl (by repeat' (first|exact trivial|refine And.intro rfl ?_)) (by repeat' (exact trivial)) ?_
  rintro ⟨j, b⟩ ⟨hj, hb, hbb⟩
  dsimp only at hj hb hbb ⊢
  have hbsm : Sm b := ⟨Nat.lt_of_lt_of_le hbb (Nat.pow_le_pow_right (by decide) (by omega))⟩
  by_cases hjn : j < (cX (loans &&& rF pts (2 ^ (acs[k]!.var).toNat))).length
  ·have hlz := mN hlb hjn
   have hstep : Jk pts acs[k]!.write ((cX (loans &&& rF pts (2 ^ (acs[k]!.var).toNat))).take (j + 1)) a = if acs[k]!.write = true ∨ pts[((cX (loans &&& rF pts (2 ^ (acs[k]!.var).toNat)))[j]!).toNat]!.op = 5 then b ||| 2 ^ ((cX (loans &&& rF pts (2 ^ (acs[k]!.var).toNat)))[j]!).toNat else b := by
    rw [hb]; unfold Jk;rw [fJ _ _ _ _ hjn]
   have hb2 : b ||| 2 ^ ((cX (loans &&& rF pts (2 ^ (acs[k]!.var).toNat)))[j]!).toNat < 2 ^ pts.length := Nat.or_lt_two_pow hbb (Nat.pow_lt_pow_right (by decide) (by omega))
   repeat' (first|(apply aL;first|(apply aE;rfl;rfl)|(apply aN;rfl;rfl;rfl;rfl)|(apply aD;rfl;rfl;rfl)|(first|(apply bB;rfl;rfl;rfl;(assumption))|(apply bD;rfl;rfl;rfl;(assumption))|(apply bS;(case hj|hb|hN => rfl);all_goals (intro hg;have hq := hg;(try simp only [cJ] at hq);(try (exfalso;omega)))))|(first|(apply gM;rfl;rfl;infer_instance;infer_instance;infer_instance;rfl)|(apply jK;rfl;rfl;infer_instance;omega;rfl;(case' kk => intro hsm))|(apply bR;rfl;rfl;omega;rfl)|(apply aT;rfl;rfl;rfl;rfl))|(apply aC;rfl;rfl)|(first|(apply bV;rfl;(assumption);rfl;rfl)|(apply bQ;rfl;(assumption);rfl;rfl))|(first|(apply aZ;(case hx|hi => rfl);(case hm => (assumption));(case hml => (rfl));(case hα | hf|hg => infer_instance);(case hN => rfl))|(apply cL;(case hx|hi => rfl);(case hm => (assumption));(case hml => (rfl));(case hα | hf|hg => infer_instance);(case hN => rfl)))|(apply aF;kernel_rfl)|(apply bY;rfl;rfl;rfl))|(apply aM;first|apply aH|apply aB|(apply cA;rfl;(rfl))|(apply aO;rfl;all_goals intro hc;have hq:=hc;(try simp only [cJ] at hq);try exfalso;omega)|apply aK|apply aS)|with_reducible apply aA|with_reducible apply aW)
   all_goals first
    | ((apply Exists.intro (j + 1, b ||| 2 ^ ((cX (loans &&& rF pts (2 ^ (acs[k]!.var).toNat)))[j]!).toNat); refine And.intro ?_ (And.intro ?_ ?_); rotate_left 2; focus (refine Le.ren [(0, 0)] rfl (by decide) ?_ ?_ <;> repeat' (first | exact trivial | refine And.intro ⟨_, rfl, ?_⟩ ?_ | refine And.intro ⟨_, _, rfl, rfl, ?_⟩ ?_ | exact Or.inr rfl | refine Or.inl ⟨?_, (by first | rfl | exact aY _ _ | exact Pur.pf)⟩ | rfl)))
       ·dsimp only
        refine ⟨by omega, ?_, hb2⟩
        rw [hstep, if_pos (by first|exact .inl (by assumption)|exact .inr (by assumption))]
       ·dsimp only;omega)
    | ((apply dJ (j + 1, b); focus (refine Le.ren [(0, 0)] rfl (by decide) ?_ ?_ <;> repeat' (first | exact trivial | refine And.intro ⟨_, rfl, ?_⟩ ?_ | refine And.intro ⟨_, _, rfl, rfl, ?_⟩ ?_ | exact Or.inr rfl | refine Or.inl ⟨?_, (by first | rfl | exact aY _ _ | exact Pur.pf)⟩ | rfl)))
       ·dsimp only
        refine ⟨by omega, ?_, hbb⟩
        rw [hstep, if_neg (fun h => h.elim (fun h1 => Bool.noConfusion (h1.symm.trans (by assumption : acs[k]!.write = false))) (fun h2 => absurd h2 (by assumption)))]
       ·dsimp only;omega)
  ·repeat' (first | (apply aL; first | (apply aE;rfl;rfl) | (first | (apply bR;rfl;rfl;omega;rfl) | (apply aT;rfl;rfl;rfl;rfl)) | (apply aF;kernel_rfl)) | (apply aM; first | apply aH | apply aB | (apply aO;rfl;all_goals intro hc;have hq:=hc;(try simp only [cJ] at hq);try exfalso;omega) | apply bG) | with_reducible apply aA | with_reducible apply bH | with_reducible apply aW | with_reducible apply bF)
   (apply dJ (k + 1, b);focus (refine Le.ren [] rfl (by decide) ?_ ?_ <;> repeat' (first|exact trivial|refine And.intro ⟨_, rfl, ?_⟩ ?_|refine Or.inl ⟨?_, (by first|rfl|exact aY _ _|exact Pur.pf)⟩|rfl)))
   ·dsimp only
    refine ⟨by omega, ?_, hbb⟩
    rw [hb, List.take_of_length_le (by omega), ha]; unfold HP;rw [htk]
   ·dsimp only;omega
 ·repeat' (first | (apply aL; first | (apply aE;rfl;rfl) | (apply aT;rfl;rfl;rfl;rfl) | (apply aC;rfl;rfl) | (apply aF;kernel_rfl)) | (apply aM; first | apply aH | apply aB | (apply aO;rfl;all_goals intro hc;have hq:=hc;(try simp only [cJ] at hq);try exfalso;omega) | apply bG | apply aR) | with_reducible apply aA | with_reducible apply bH | with_reducible apply bF)
  refine aP rfl ⟨?_, rfl⟩
  simp only [bX]
  rw [ha, List.take_of_length_le (by omega)]
theorem EI (n : Nat) (A : List Nat) (i : Int) (hA : A.length = n * 6) (hi : 0 ≤ i ∧ i < n) : PC Tryz.prog 104 [iv i, .iptr [.imm n (aI cW A)]] (fun r => r = .agg (aI cW (fE A i.toNat))) := by
 have h6 : ((A.drop (i.toNat * 6)).take 6).length = 6 := iC hA (by omega)
 (refine aU Tryz.func104 rfl (by simp [Tryz.ntmps104]) ?_; rw [Tryz.ntmps104])
 repeat' (first|(apply aL;first|(apply aE;rfl;rfl)|(first|(apply aN;rfl;rfl;rfl;rfl)|(apply AQ;rfl;(simp only [fY, List.length_drop] <;> omega);rfl;rfl))|(apply Cd;rfl;rfl;(omega);rfl)|(apply aF;kernel_rfl)|(apply bI;rfl;rfl)|(apply jC;rfl;rfl;rfl;(assumption);(rfl)))|(apply aM;first|apply aH|apply aB|apply aR)|with_reducible apply aA)
 refine aP (oA (z := 6) rfl rfl h6 (by decide)) ⟨rfl, (by (exact aY _ _))⟩
theorem Ii (ts : List Int) (bd : List AL.Stmt) (pts : List Pnt) (Aa Am Al Af Ap : List Nat) (n : Nat) (w : WG ts pts) (ga : sJ ts pts Aa) (gm : uP ts pts Am) (gl : vO ts pts Al) (gf : wL ts pts Af) (gp : wY ts pts Ap) (hn : n = pts.length) :
  PC Tryz.prog 102 [aG ts bd pts, .imm n (aI cN Al), .clos (.func 104) [] [.iptr [.imm n (aI cW Af)]]] (fun r => r = sl pB (Ag ts pts Aa Am Al Af Ap pts.length)) := by
 subst hn
 have hpl := w.pl
 have htl := w.tl
 have hla := ga.1
 have hlm := gm.1
 have hll := gl.1
 have hlf := gf.1
 have hlp := gp.1
 (refine aU Tryz.func102 rfl (by simp [Tryz.ntmps102]) ?_; rw [Tryz.ntmps102])
 repeat' (first|(apply aL;first|((apply lJ (d := 10) (e := 3));(case hM|hN => rfl))|(apply aE;rfl;rfl)|(apply aN;rfl;rfl;rfl;rfl)|(apply aD;rfl;rfl;rfl)|(apply aC;rfl;rfl)|(first|((with_reducible apply aJ (k := 165));(case ha => rfl);(case h => (apply Ga <;> (assumption)));(case hp => (exact Pur.pf));(case hN => rfl))|((with_reducible apply aJ (k := 166));(case ha => rfl);(case h => (apply Jb <;> (assumption)));(case hp => (exact Pur.pf));(case hN => rfl))|((with_reducible apply aJ (k := 167));(case ha => rfl);(case h => (apply FU <;> (assumption)));(case hp => (exact Pur.pf));(case hN => rfl)))|(apply bC;rfl;rfl;rfl)|(apply aF;kernel_rfl)|(apply bY;rfl;rfl;rfl))|(apply aM;first|apply aH|apply aB|apply aK)|with_reducible apply aA)
 refine a6 (σ := Nat × List Iss × Nat) [0, 1, 2, 7, 8, 9, 27, 28] [(0, _), (1, _), (2, _), (7, _), (8, _), (9, _), (27, _), (28, _)] [] [] (fun k => [(29, iv (k.1 : Int)), (10, .own 0 0 k.2.2 3)]) (fun k => [(0, some (aI pB k.2.1))]) (fun k => k.1 ≤ pts.length ∧ k.2.1 = Ag ts pts Aa Am Al Af Ap k.1 ∧ k.2.2 = k.2.1.length ∧ k.2.2 ≤ k.1 * 124) (fun k => pts.length - k.1) (0, [], 0) ⟨by omega, rfl, rfl, Nat.le_refl _⟩ rfl rfl (by repeat' (first|exact trivial|refine And.intro rfl ?_)) (by repeat' (first|exact trivial|refine And.intro (.inr rfl) ?_)) ?_
 rintro ⟨i, u, m⟩ ⟨hk, hu, hm, hmk⟩
 dsimp only at hk hu hm hmk ⊢
 by_cases hin : i < pts.length
 ·have hst := w.set i hin
  have hsU : Sm (wS ts pts[i]! [1, 2, 3]) := dH (by omega)
  have bl : ∀ {A : Nat} {n : Nat}, n ≤ 62 → (∀ v, A.testBit v = true → v < n) → A < 2 ^ n := fun _ hv => Nat.lt_pow_two_of_testBit _ fun v h => by
   cases hq : Nat.testBit _ v with
   | false => rfl
   | true => have := hv v hq;omega
  have hAa : Sm Aa[i]! := ⟨bl (n := 62) (by omega) fun v hv => by have := ((ga.2 i hin v).1 hv).1;omega⟩
  have hAm : Sm Am[i]! := ⟨bl (n := 62) (by omega) fun v hv => by have := FP w ((gm.2 i hin v).1 hv);dsimp only at this;omega⟩
  have hAl : Al[i]! < 2 ^ ts.length := bl (by omega) fun v hv => by obtain ⟨k, _, h⟩ := (gl.2 i hin v).1 hv;exact tT w h
  have hAl2 : Sm Al[i]! := ⟨Nat.lt_of_lt_of_le hAl (Nat.pow_le_pow_right (by decide) (by omega))⟩
  have hAp : Ap[i]! < 2 ^ pts.length := bl (by omega) fun v hv => (uJ ((gp.2 i hin v).1 hv)).1
  have hAp2 : Sm Ap[i]! := ⟨Nat.lt_of_lt_of_le hAp (Nat.pow_le_pow_right (by decide) (by omega))⟩
  have hrl := iC hlf hin
  have hrs : ∀ z : Nat, Sm (fE Af i)[z]! := by
   intro z
   by_cases hz : z < 6
   ·rw [gZ hlf hin hz]
    exact ⟨bl (n := 62) (by omega) fun v hv => by have := (A9 w ((gf.2 i z hin hz v).1 hv)).2.2;dsimp only at this;omega⟩
   ·rw [getElem!_neg _ z (by rw [hrl]; exact hz)]; exact ⟨by decide⟩
  have hkp : wN ts pts[(i : Int).toNat]! Al[i]! (fE Af (i : Int).toNat) < 2 ^ pts.length := by
   refine bl (by omega) fun v hv => ?_
   unfold wN at hv
   rw [jD] at hv
   rcases hv with hv | ⟨z, hz, hv⟩
   ·simp at hv
   ·obtain ⟨q, h1, h2, rfl⟩ := dZ.1 hz
    rw [dY, Bool.and_eq_true] at h2
    have h3 := eB hAl h2.1
    have h4 : q < 6 := by omega
    have h5 : (fE Af i)[q]!.testBit v = true := hv
    rw [gZ hlf hin h4] at h5
    exact (A9 w ((gf.2 i q hin h4 v).1 h5)).2.2
  have hkp2 : Sm (wN ts pts[(i : Int).toNat]! Al[i]! (fE Af (i : Int).toNat)) := ⟨Nat.lt_of_lt_of_le hkp (Nat.pow_le_pow_right (by decide) (by omega))⟩
  have hlo : wN ts pts[(i : Int).toNat]! Al[i]! (fE Af (i : Int).toNat) &&& Ap[i]! < 2 ^ pts.length := Nat.and_lt_two_pow _ hAp
  have hcf := BY w (Am := Am) (Al := Al) (Af := Af) (i := i) hAp
  have hcf2 : Sm (G9 ts pts Am Al Af Ap i) := ⟨Nat.lt_of_lt_of_le hcf (Nat.pow_le_pow_right (by decide) (by omega))⟩
  have hcf3 : Sm (HP pts (wN ts pts[(i : Int).toNat]! Al[i]! (fE Af (i : Int).toNat) &&& Ap[i]!) (k6 ts pts[(i : Int).toNat]! (Am[i]!.testBit (bT pts[(i : Int).toNat]!).toNat)) 0) := hcf2
  have hb1 := dV (nL (wS ts pts[i]! [1, 2, 3]) Aa[i]!)
  have hb2 := dV (G9 ts pts Am Al Af Ap i)
  repeat' (first|(apply aL;first|(apply aE;rfl;rfl)|(first|(apply aN;rfl;rfl;rfl;rfl)|(apply aV;rfl;rfl;(exact (rfl:_=[_, _, _, _, _]));rfl;rfl;rfl))|(first|(apply oK;rfl;rfl;infer_instance;infer_instance;infer_instance;rfl)|(apply aT;rfl;rfl;rfl;rfl))|(apply aC;rfl;rfl)|(apply aZ;(case hx|hi => rfl);(case hm => (assumption));(case hml => (first|rfl|omega));(case hα | hf|hg => infer_instance);(case hN => rfl))|(first|((with_reducible apply aJ (k := 119));(case ha => rfl);(case h => (apply iK <;> (infer_instance)));(case hp => (rfl));(case hN => rfl))|((with_reducible apply aJ (k := 120));(case ha => rfl);(case h => (apply jH <;> (assumption)));(case hp => (exact Pur.pf));(case hN => rfl)))|(apply bC;rfl;rfl;rfl)|(apply aF;kernel_rfl)|(apply bI;rfl;rfl)|(apply aX;rfl;rfl;rfl;rfl;rfl;(case hl => (simp;done));(exact (rfl:_=[_, _, _, _, _]))))|(apply aM;first|apply aH|apply aB|(apply b0;kernel_rfl)|(apply aO;rfl;all_goals intro hc;have hq:=hc;(try simp only [cJ] at hq);try exfalso;omega)|apply aK|apply aS)|with_reducible apply aA)
  have hb1b : ∀ j, j < (cX (nL (wS ts pts[i]! [1, 2, 3]) Aa[i]!)).length → 0 ≤ (cX (nL (wS ts pts[i]! [1, 2, 3]) Aa[i]!))[j]! := fun j h => (mN (inferInstance : Sm (nL (wS ts pts[i]! [1, 2, 3]) Aa[i]!)).pf h).1
  refine a6 (σ := Nat × List Iss × Nat) [0, 1, 2, 7, 8, 9, 11, 27, 28, 29, 42, 43] [(0, _), (1, _), (2, _), (7, _), (8, _), (9, _), (11, _), (27, _), (28, _), (29, _), (42, _), (43, _)] [] [] (fun j => [(44, iv (j.1 : Int)), (10, .own 0 0 j.2.2 3)]) (fun j => [(0, some (aI pB j.2.1))]) (fun j => j.1 ≤ (cX (nL (wS ts pts[i]! [1, 2, 3]) Aa[i]!)).length ∧ j.2.1 = u ++ D3 i ((cX (nL (wS ts pts[i]! [1, 2, 3]) Aa[i]!)).take j.1) ∧ j.2.2 = j.2.1.length ∧ j.2.2 ≤ i * 124 + j.1) (fun j => (cX (nL (wS ts pts[i]! [1, 2, 3]) Aa[i]!)).length - j.1) (0, u, m) ⟨by omega, by simp [D3], hm, by omega⟩ rfl rfl (by repeat' (first|exact trivial|refine And.intro rfl ?_)) (by repeat' (first|exact trivial|refine And.intro (.inr rfl) ?_)) ?_
  rintro ⟨j, u2, m2⟩ ⟨hj, hu2, hm2, hmk2⟩
  dsimp only at hj hu2 hm2 hmk2 ⊢
  by_cases hjn : j < (cX (nL (wS ts pts[i]! [1, 2, 3]) Aa[i]!)).length
  ·repeat' (first | (apply aL; first | (apply aE;rfl;rfl) | (apply aN;rfl;rfl;rfl;rfl) | (first | (apply bR;rfl;rfl;omega;rfl) | (apply aT;rfl;rfl;rfl;rfl)) | (apply aC;rfl;rfl) | (apply aZ; (case hx | hi => rfl); (case hm => (assumption)); (case hml => (rfl)); (case hα | hf | hg => infer_instance); (case hN => rfl)) | (apply bW;rfl;rfl;rfl;rfl;rfl;(rw [aQ]; omega);(rfl);omega;omega;(exact Dn (by (assumption)));rfl;rfl) | (apply aF;kernel_rfl) | (apply b8;rfl;(exact (rfl:_=some [_, _, _]));(exact (rfl:_=[_, _, _]));rfl) | ((apply a7 (t := _)); (case hze | hsm | hl => rfl); (case hfl => (exact (rfl:_=some [_, _, _]))); (case hM | hN => rfl))) | (apply aM; first | apply aH | apply aB | (apply aO;rfl;all_goals intro hc;have hq:=hc;(try simp only [cJ] at hq);try exfalso;omega) | apply aK | apply aS) | with_reducible apply aA | with_reducible apply aW)
   (apply dJ (j + 1, _, _);focus (refine Le.ren [(0, 3)] rfl (by decide) ?_ ?_ <;> repeat' (first|exact trivial|refine And.intro ⟨_, rfl, ?_⟩ ?_|refine And.intro ⟨_, _, rfl, rfl, ?_⟩ ?_|exact Or.inr rfl|refine Or.inl ⟨?_, (by first|rfl|exact aY _ _|exact Pur.pf)⟩|rfl)))
   ·dsimp only
    refine ⟨by omega, ?_, by simp;omega, by omega⟩
    rw [hu2]; unfold D3;rw [kQ _ _ _ hjn, List.append_assoc]
   ·dsimp only;omega
  ·have hu3 : u2 = u ++ D3 i (cX (nL (wS ts pts[i]! [1, 2, 3]) Aa[i]!)) := by rw [hu2, List.take_of_length_le (by omega)]
   repeat' (first|(apply aL;first|(apply aE;rfl;rfl)|(apply aN;rfl;rfl;rfl;rfl)|(first|(apply xM;rfl;rfl;infer_instance;infer_instance;infer_instance;rfl)|(apply aT;rfl;rfl;rfl;rfl))|(apply aZ;(case hx|hi => rfl);(case hm => (assumption));(case hml => (omega));(case hα | hf|hg => infer_instance);(case hN => rfl))|(first|((with_reducible apply aJ (k := 168));(case ha => rfl);(case h => (apply sW <;> (assumption)));(case hp => (rfl));(case hN => rfl))|((with_reducible apply aJ (k := 169));(case ha => rfl);(case h => (apply D0 <;> (first|assumption|omega)));(case hp => (exact Pur.pf));(case hN => rfl))|((with_reducible apply aJ (k := 170));(case ha => rfl);(case h => (apply Kn <;> (first|assumption|omega)));(case hp => (exact Pur.pf));(case hN => rfl)))|(apply bC;rfl;rfl;rfl)|((with_reducible apply jW);(case hx|hcl => rfl);(case hc => infer_instance);(case ha => rfl);(case h => (apply EI <;> (first|assumption|omega)));(case hp => (exact Pur.pf));(case hN => rfl))|(apply aF;kernel_rfl))|(apply aM;first|apply aH|apply aB|(apply b0;kernel_rfl)|(apply aO;rfl;all_goals intro hc;have hq:=hc;(try simp only [cJ] at hq);try exfalso;omega)|apply aK|apply bG)|with_reducible apply aA|with_reducible apply bH|with_reducible apply bF)
   generalize hL : cX (HP pts (wN ts pts[(i : Int).toNat]! Al[i]! (fE Af (i : Int).toNat) &&& Ap[i]!) (k6 ts pts[(i : Int).toNat]! (Am[i]!.testBit (bT pts[(i : Int).toNat]!).toNat)) 0) = L2
   have hL2 : cX (G9 ts pts Am Al Af Ap i) = L2 := hL
   have hbd : ∀ j, j < L2.length → 0 ≤ L2[j]! ∧ L2[j]! < pts.length := fun j h => by rw [← hL2] at h ⊢; exact mN hcf h
   rw [hL2] at hb2
   refine a6 (σ := Nat × List Iss × Nat) [0, 1, 2, 7, 8, 9, 11, 27, 28, 29, 77, 78] [(0, _), (1, _), (2, _), (7, _), (8, _), (9, _), (11, _), (27, _), (28, _), (29, _), (77, _), (78, _)] [] [] (fun l => [(79, iv (l.1 : Int)), (10, .own 0 0 l.2.2 3)]) (fun l => [(0, some (aI pB l.2.1))]) (fun l => l.1 ≤ L2.length ∧ l.2.1 = u2 ++ EU pts i (L2.take l.1) ∧ l.2.2 = l.2.1.length ∧ l.2.2 ≤ i * 124 + 62 + l.1) (fun l => L2.length - l.1) (0, u2, m2) ⟨by omega, by simp [EU], hm2, Nat.le_trans hmk2 (by omega)⟩ rfl rfl (by repeat' (first|exact trivial|refine And.intro rfl ?_)) (by repeat' (first|exact trivial|refine And.intro (.inr rfl) ?_)) ?_
   rintro ⟨l, u4, m4⟩ ⟨hl, hu4, hm4, hmk4⟩
   dsimp only at hl hu4 hm4 hmk4 ⊢
   by_cases hln : l < L2.length
   ·have hbl := hbd l hln
    repeat' (first|(apply aL;first|(apply aE;rfl;rfl)|(apply aN;rfl;rfl;rfl;rfl)|(apply aD;rfl;rfl;rfl)|(first|(apply bR;rfl;rfl;omega;rfl)|(apply aT;rfl;rfl;rfl;rfl))|(apply aC;rfl;rfl)|(first|(apply aZ;(case hx|hi => rfl);(case hm => (assumption));(case hml => (rfl));(case hα | hf|hg => infer_instance);(case hN => rfl))|(apply cL;(case hx|hi => rfl);(case hm => (assumption));(case hml => (rfl));(case hα | hf|hg => infer_instance);(case hN => rfl)))|(apply bW;rfl;rfl;rfl;rfl;rfl;(rw [aQ]; omega);(rfl);omega;omega;(exact Dn (by (assumption)));rfl;rfl)|(apply aF;kernel_rfl)|(apply b8;rfl;(exact (rfl:_=some [_, _, _]));(exact (rfl:_=[_, _, _]));rfl)|(apply bY;rfl;rfl;rfl)|((apply a7 (t := _));(case hze|hsm|hl => rfl);(case hfl => (exact (rfl:_=some [_, _, _])));(case hM|hN => rfl)))|(apply aM;first|apply aH|apply aB|(apply aO;rfl;all_goals intro hc;have hq:=hc;(try simp only [cJ] at hq);try exfalso;omega)|apply aK|apply aS)|with_reducible apply aA|with_reducible apply aW)
    ·(apply dJ (l + 1, _, _); focus (refine Le.ren [(0, 3)] rfl (by decide) ?_ ?_ <;> repeat' (first | exact trivial | refine And.intro ⟨_, rfl, ?_⟩ ?_ | refine And.intro ⟨_, _, rfl, rfl, ?_⟩ ?_ | exact Or.inr rfl | refine Or.inl ⟨?_, (by first | rfl | exact aY _ _ | exact Pur.pf)⟩ | rfl)))
     ·dsimp only
      refine ⟨by omega, ?_, by simp;omega, by omega⟩
      rw [hu4]; unfold EU;rw [kQ _ _ _ hln, List.append_assoc, if_pos hq]
     ·dsimp only;omega
    ·(apply dJ (l + 1, _, _); focus (refine Le.ren [(0, 3)] rfl (by decide) ?_ ?_ <;> repeat' (first | exact trivial | refine And.intro ⟨_, rfl, ?_⟩ ?_ | refine And.intro ⟨_, _, rfl, rfl, ?_⟩ ?_ | exact Or.inr rfl | refine Or.inl ⟨?_, (by first | rfl | exact aY _ _ | exact Pur.pf)⟩ | rfl)))
     ·dsimp only
      refine ⟨by omega, ?_, by simp;omega, by omega⟩
      rw [hu4]; unfold EU;rw [kQ _ _ _ hln, List.append_assoc, if_neg hq]
     ·dsimp only;omega
   ·repeat' (first | (apply aL; first | (apply aE;rfl;rfl) | (first | (apply bR;rfl;rfl;omega;rfl) | (apply aT;rfl;rfl;rfl;rfl)) | (apply aF;kernel_rfl)) | (apply aM; first | apply aH | apply aB | (apply aO;rfl;all_goals intro hc;have hq:=hc;(try simp only [cJ] at hq);try exfalso;omega) | apply bG) | with_reducible apply aA | with_reducible apply bH | with_reducible apply aW | with_reducible apply bF)
    (apply dJ (i + 1, u4, m4);focus (refine Le.ren [(0, 0)] rfl (by decide) ?_ ?_ <;> repeat' (first|exact trivial|refine And.intro ⟨_, rfl, ?_⟩ ?_|refine And.intro ⟨_, _, rfl, rfl, ?_⟩ ?_|exact Or.inr rfl|refine Or.inl ⟨?_, (by first|rfl|exact aY _ _|exact Pur.pf)⟩|rfl)))
    ·dsimp only
     refine ⟨by omega, ?_, hm4, by omega⟩
     rw [vT, hu4, List.take_of_length_le (by omega), hu3, ← hL2, hu, List.append_assoc]; rfl
    ·dsimp only;omega
 ·repeat' (first | (apply aL; first | (apply aE;rfl;rfl) | (apply aT;rfl;rfl;rfl;rfl) | (apply aC;rfl;rfl) | (apply aF;kernel_rfl)) | (apply aM; first | apply aH | apply aB | (apply aO;rfl;all_goals intro hc;have hq:=hc;(try simp only [cJ] at hq);try exfalso;omega) | apply bG | apply aR) | with_reducible apply aA | with_reducible apply bH | with_reducible apply bF)
  (refine cD (Le.frzD (d := 6) (i := 0) rfl rfl) ?_; refine aP rfl ?_)
  refine ⟨?_, (by (exact aY _ _))⟩
  simp only [bX, sl]
  rw [hm, hu, show i = pts.length by omega]
theorem DM (ts : List Int) (bd : List AL.Stmt) (pts : List Pnt) (w : WG ts pts) (f : Flows ts pts) : PC Tryz.prog 63 [aG ts bd pts] (fun r => r = sl pB f.iss) := by
 have hpl := w.pl
 (refine aU Tryz.func63 rfl (by simp [Tryz.ntmps63]) ?_; rw [Tryz.ntmps63])
 repeat' (first|(apply aL;first|(apply uD;rfl;rfl;rfl)|((with_reducible apply aJ (k := 101));(case ha => rfl);(case h => exact DX ts bd pts f.Af w f.gf);(case hp => exact Pur.pf);(case hN => rfl))|((with_reducible apply aJ (k := 103));(case ha => rfl);(case h => exact Bf ts bd pts f.An f.Al w f.gn f.gl);(case hp => exact Pur.pf);(case hN => rfl))|((with_reducible apply aJ (k := 102));(case ha => rfl);(case h => exact Ii ts bd pts f.Aa f.Am f.Al f.Af f.Ap _ w f.ga f.gm f.gl f.gf f.gp rfl);(case hp => exact Pur.pf);(case hN => rfl))|(apply aE;rfl;rfl)|(apply aC;rfl;rfl)|(apply aF;kernel_rfl)|(apply bI;rfl;rfl)|(apply aX;rfl;rfl;rfl;rfl;rfl;(case hl => (simp;done));(exact (rfl:_=[_]))))|(apply aM;first|apply aH|apply aB|apply aR)|with_reducible apply aA)
 refine aP rfl ⟨rfl, (by (exact aY _ _))⟩
theorem kW (p : Prg) (hl : p.types.length ≤ 1000000) (hs : b9 p.body ≤ 1000000) : PC Tryz.prog 62 [dT p, .v (.slice none 0 0)] (fun r => r = if dF p = true then .tup [aG p.types p.body (cT p), bv true] else .tup [.v (.pointer none), bv false]) := by
 have hpl := pF p
 have hnl := lN p.body
 (refine aU Tryz.func62 rfl (by simp [Tryz.ntmps62]) ?_; rw [Tryz.ntmps62])
 repeat' (first|(apply aL;first|(apply aE;rfl;rfl)|(apply aV;rfl;rfl;(exact (rfl:_=[_, _]));rfl;rfl;rfl)|(apply aC;rfl;rfl)|(first|((with_reducible apply aJ (k := 25));(case ha => rfl);(case h => (apply mC <;> (first|assumption|omega)));(case hp => (exact Pur.pf));(case hN => rfl))|((with_reducible apply aJ (k := 96));(case ha => rfl);(case h => (apply Ai <;> (assumption)));(case hp => (exact Pur.pf));(case hN => rfl)))|(apply bC;rfl;rfl;rfl)|(apply aF;kernel_rfl)|(apply b8;rfl;(exact (rfl:_=some [_, _, _]));(exact (rfl:_=[_, _, _]));rfl)|(apply cG;rfl;rfl)|(apply bK;rfl;rfl;rfl;rfl))|(apply aM;first|apply aH|apply aB|(apply b0;kernel_rfl)|(apply aO;rfl;all_goals intro hc;have hq:=hc;(try simp only [cJ] at hq);try exfalso;omega)|apply aK|apply aS|apply aR)|with_reducible apply aA|with_reducible apply bJ)
 ·refine aP rfl ⟨?_, (by (rfl))⟩
  rw [if_neg (by simp [hq])]; rfl
 ·refine a6 (σ := Unit) [6, 17, 18] [(6, _), (17, _), (18, _)] [1] [(1, some _)] (fun _u => [(19, iv 0)]) (fun _u => []) (fun _u => True) (fun _u => 0) () trivial rfl rfl (by repeat' (first | exact trivial | refine And.intro rfl ?_)) (by repeat' (exact trivial)) ?_
  intro _ _
  repeat' (first|(apply aL;first|(apply aE;rfl;rfl)|(apply aT;rfl;rfl;rfl;rfl)|(apply aC;rfl;rfl)|(apply aF;kernel_rfl))|(apply aM;first|apply aH|apply aB|(apply cH;rfl;(rfl))|apply bG|apply aR)|with_reducible apply aA|with_reducible apply bH|with_reducible apply bF)
  refine cD (Le.frzP (d := 4) (i := 1) rfl rfl) ?_
  refine aP rfl ⟨?_, (by show (AV.tup [aG p.types p.body (cT p), bv true]).pur = true;exact PurV.pf)⟩
  rw [if_pos hq]; rfl
def KS (p : Prg) (f : Flows p.types (cT p)) : List Iss := if dF p = true then f.iss else []
theorem FO (p : Prg) (f : Flows p.types (cT p)) (hl : p.types.length ≤ 1000000) (hs : b9 p.body ≤ 1000000) : PC Tryz.prog 32 [dT p] (fun r => r = sl pB (KS p f)) := by
 unfold KS
 cases hv : dF p
 ·(refine aU Tryz.func32 rfl (by simp [Tryz.ntmps32]) ?_; rw [Tryz.ntmps32])
  repeat' (first|(apply aL;first|((with_reducible apply aJ (k := 62));(case ha => rfl);(case h => exact (by have := kW p hl hs;rw [if_neg (by simp [hv])] at this;exact this));(case hp => (exact Pur.pf));(case hN => rfl))|(apply aE;rfl;rfl)|(apply aV;rfl;rfl;(exact (rfl:_=[_, _]));rfl;rfl;rfl)|(apply aC;rfl;rfl)|(apply aF;kernel_rfl)|(apply cG;rfl;rfl)|(apply bK;rfl;rfl;rfl;rfl)|(apply bE;rfl;rfl;rfl))|(apply aM;first|apply aH|apply aB|(apply cA;rfl;(rfl))|apply aR)|with_reducible apply aA|with_reducible apply bJ)
  (refine cD (Le.nilImm (d := 2) rfl) ?_; refine aP rfl ?_)
  exact ⟨rfl, rfl⟩
 ·have w := WG.of_valid hv
  (refine aU Tryz.func32 rfl (by simp [Tryz.ntmps32]) ?_; rw [Tryz.ntmps32])
  repeat' (first|(apply aL;first|((with_reducible apply aJ (k := 62));(case ha => rfl);(case h => exact (by have := kW p hl hs;rw [if_pos hv] at this;exact this));(case hp => (exact Pur.pf));(case hN => rfl))|((with_reducible apply aJ (k := 63));(case ha => rfl);(case h => exact DM p.types p.body (cT p) w f);(case hp => (exact Pur.pf));(case hN => rfl))|(apply aE;rfl;rfl)|(apply aV;rfl;rfl;(exact (rfl:_=[_, _]));rfl;rfl;rfl)|(apply aC;rfl;rfl)|(apply aF;kernel_rfl)|(apply cG;rfl;rfl)|(apply bK;rfl;rfl;rfl;rfl)|(apply bE;rfl;rfl;rfl))|(apply aM;first|apply aH|apply aB|(apply cH;rfl;(rfl))|apply aS|apply aR)|with_reducible apply aA)
  exact aP rfl ⟨rfl, (by (exact aY _ _))⟩
instance : BoT Tryz.prog 4 := ⟨by kernel_rfl⟩
end Go.Proofs.YtckihjkcgfphmaaGreat
