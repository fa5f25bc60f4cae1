/-
 A part of the proofs over this program: rules and contracts of its functions (the contracts).
-/
import Derived.Test.YtjcpngimjdckmaaGreatQ4B01
set_option linter.unusedVariables false
set_option linter.unusedSimpArgs false
set_option maxHeartbeats 8000000
set_option maxRecDepth 4000
attribute [local irreducible] Go.AL.RW Go.AL.AW Go.AL.Stop
namespace Go.Proofs.YtjcpngimjdckmaaGreat
open Go.AL Go.RowKit
theorem Ao (ts : List Int) (bd : List AL.Stmt) (pts : List Pnt) (A : List Nat) (w : WG ts pts) (hA : o6 ts pts A) : PC Tryz.prog 145 [aG ts bd pts, iv 0, bv true, .clos (.func 146) [aG ts bd pts] []] (fun r => r = .imm pts.length (flat cN A)) := by
 have hpl := w.pl
 have hp0 := w.p0
 have htl := w.tl
 have fl := IQ w
 (refine aQ Tryz.func145 rfl (by simp [Tryz.ntmps145]) ?_; rw [Tryz.ntmps145])
 repeat' (first|(apply aM;first|(apply aD;rfl;rfl)|(apply aL;rfl;rfl;rfl;rfl)|(apply aE;rfl;rfl;rfl)|(apply aC;rfl;rfl)|(apply a8;rfl;rfl;rfl)|(apply aF;kernel_rfl)|(apply dJ;rfl;rfl;rfl)|(apply cR;rfl;rfl;rfl;omega;omega;(exact AB);rfl;rfl))|(apply aO;first|apply aH|apply aB|(apply bX;rfl;(rfl))|apply aJ)|with_reducible apply aA)
 refine bG (σ := Nat × List Nat) [0, 1, 2, 3, 9, 26] [(0, _), (1, _), (2, _), (3, _), (9, _), (26, _)] [] [] (fun k => [(27, iv (k.1 : Int))]) (fun k => [(0, some (flat cN k.2))]) (fun k => k.1 ≤ pts.length ∧ k.2 = List.replicate k.1 (2 ^ ts.length - 1) ++ List.replicate (pts.length - k.1) 0) (fun k => pts.length - k.1) (0, List.replicate pts.length 0) ⟨by omega, by simp⟩ rfl rfl (by repeat' (first|exact trivial|refine And.intro rfl ?_)) (by repeat' (first|exact trivial|refine And.intro (.inr rfl) ?_)) ?_
 rintro ⟨k0, u0⟩ ⟨hk0, hu0⟩
 dsimp only at hk0 hu0 ⊢
 have hul0 : u0.length = pts.length := by rw [hu0]; simp;omega
 repeat' (first|(apply aM;first|(apply aD;rfl;rfl)|(first|(apply bO;rfl;rfl;omega;rfl)|(apply aV;rfl;rfl;rfl;rfl))|(apply aC;rfl;rfl)|(apply cL;rfl;rfl;(first|assumption|omega);rfl)|((with_reducible apply aI (k := 180));(case ha => rfl);(case h => (apply IK <;> (assumption)));(case hp => (exact Pur.pf));(case hN => rfl))|(apply aF;kernel_rfl)|(apply a7;rfl;rfl;rfl;rfl;rfl;(rw [aK]; simp only [fD] <;> omega);(exact rJ (by (first|omega|(simp only [fD] <;> omega))))))|(apply aO;first|apply aH|apply aB|(apply aP;rfl;all_goals intro hc;have hq:=hc;(try simp only [cD] at hq);try exfalso;omega)|apply aJ|apply aS|apply bF)|with_reducible apply aA|with_reducible apply bE|with_reducible apply aT|with_reducible apply bD)
 ·(apply c6 (k0 + 1, _); focus (refine Le.ren [(0, 0)] rfl (by decide) ?_ ?_ <;> repeat' (first | exact trivial | refine And.intro ⟨_, rfl, ?_⟩ ?_ | refine And.intro ⟨_, _, rfl, rfl, ?_⟩ ?_ | exact Or.inr rfl | refine Or.inl ⟨?_, (by first | rfl | exact aX _ _ | exact Pur.pf | exact PurV.pf)⟩ | rfl)))
  ·dsimp only
   exact ⟨by omega, by rw [hu0]; exact FT (by omega)⟩
  ·dsimp only;omega
 have hk1 : k0 = pts.length := by omega
 subst hk1
 rw [Nat.sub_self, List.replicate_zero, List.append_nil] at hu0
 refine bG (σ := List Nat × Bool) [0, 2, 3, 9] [(0, _), (2, _), (3, _), (9, _)] [] [] (fun s => [(11, bv s.2)]) (fun s => [(0, some (flat cN s.1))]) (fun s => SG pts (Ix ts pts) s.1 ∧ s.1[0]! = 0 ∧ (s.2 = false → kV HH (fun i A => iA ts pts[i]! A) pts s.1)) (fun s => 2 * fM (s.1.map (fun a => a)) + s.2.toNat) ((u0.set 0 0), true) ⟨(DB w hu0).1, (DB w hu0).2, fun h => by cases h⟩ rfl rfl (by repeat' (first|exact trivial|refine And.intro rfl ?_)) (by repeat' (first|exact trivial|refine And.intro (.inr rfl) ?_)) ?_
 rintro ⟨s, b⟩ ⟨hS, hE, hC⟩
 dsimp only at hS hE hC ⊢
 repeat' (first|(apply aM;first|(apply aD;rfl;rfl)|(apply aL;rfl;rfl;rfl;rfl)|(apply aE;rfl;rfl;rfl)|(apply aC;rfl;rfl)|(apply a8;rfl;rfl;rfl)|(apply aF;kernel_rfl)|(apply dJ;rfl;rfl;rfl))|(apply aO;first|apply aH|apply aB|(apply aP;rfl;all_goals intro hc;have hq:=hc;(try simp only [cD] at hq);try exfalso;omega)|apply aJ|apply aS|apply bF|apply aW)|with_reducible apply aA|with_reducible apply bE|with_reducible apply bD)
 ·refine bG (σ := Nat × (List Nat × Bool)) [0, 2, 3, 9, 43, 44] [(0, _), (2, _), (3, _), (9, _), (43, _), (44, _)] [] [] (fun k => [(45, iv (k.1 : Int)), (11, bv k.2.2)]) (fun k => [(0, some (flat cN k.2.1))]) (fun k => k.1 ≤ pts.length ∧ k.2 = (List.range k.1).foldl (v8 HH (fun i A => iA ts pts[i]! A) pts) (s, false) ∧ SG pts (Ix ts pts) k.2.1 ∧ k.2.1[0]! = 0) (fun k => pts.length - k.1) (0, (s, false)) ⟨by omega, rfl, hS, hE⟩ rfl rfl (by repeat' (first | exact trivial | refine And.intro rfl ?_)) (by repeat' (first | exact trivial | refine And.intro (.inr rfl) ?_)) ?_
  rintro ⟨k, u, c⟩ ⟨hk, hf, hS2, hE2⟩
  dsimp only at hk hf hS2 hE2 ⊢
  have hsm : ∀ z, Sm u[z]! := sI hS2 (fun i A h => h.1) htl
  have hul := hS2.1
  repeat' (first|(apply aM;first|(apply aD;rfl;rfl)|(first|(apply dE;(case hx|hH => rfl);(case hf|hg|hα => infer_instance);(case hk => omega);(case hc|hN => rfl))|(apply aL;rfl;rfl;rfl;rfl)|(apply a6;rfl;rfl;(exact (rfl:_=[_, _, _, _, _]));rfl;rfl;rfl))|(apply aE;rfl;rfl;rfl)|(apply aV;rfl;rfl;rfl;rfl)|(apply aC;rfl;rfl)|(first|(apply bB;(case hx|hi => rfl);(case hm => (omega));(case hml => (rfl));(case hα | hf|hg => infer_instance);(case hN => rfl))|(apply cL;rfl;rfl;(omega);rfl))|(apply a8;rfl;rfl;rfl)|((with_reducible apply lL);(case hx|hcl => rfl);(case hc => infer_instance);(case ha => rfl);(case h => (apply wV <;> (first|assumption|omega|infer_instance)));(case hp => (exact Pur.pf));(case hN => rfl))|(apply aF;kernel_rfl)|(apply bT;rfl;rfl)|(apply a7;rfl;rfl;rfl;rfl;rfl;(case hl => (simp;done));(exact (rfl:_=[_, _, _, _, _]))))|(apply aO;first|apply aH|apply aB|(apply aP;rfl;all_goals intro hc;have hq:=hc;(try simp only [cD] at hq);try exfalso;omega)|apply aJ|apply aS|apply bF)|with_reducible apply aA|with_reducible apply bE|with_reducible apply aT|with_reducible apply bD)
  ·have hkn : k < pts.length := by omega
   have hv := pU w hkn (hS2.2 k hkn).1
   have hvs : Sm (iA ts pts[k]! u[k]!) := ⟨Nat.lt_of_lt_of_le hv (Nat.pow_le_pow_right (by decide) (by omega))⟩
   have hvs' : Sm (iA ts pts[(k : Int).toNat]! u[k]!) := hvs
   have hnl := w.nl k hkn
   refine bG (σ := Nat × (List Nat × Bool)) [0, 2, 3, 9, 14, 43, 44, 45, 58, 59] [(0, _), (2, _), (3, _), (9, _), (14, _), (43, _), (44, _), (45, _), (58, _), (59, _)] [] [] (fun j => [(60, iv (j.1 : Int)), (11, bv j.2.2)]) (fun j => [(0, some (flat cN j.2.1))]) (fun j => j.1 ≤ pts[k]!.next.length ∧ j.2 = ((s9 pts k).take j.1).foldl (kQ HH (iA ts pts[k]! u[k]!)) (u, c) ∧ SG pts (Ix ts pts) j.2.1 ∧ j.2.1[0]! = 0) (fun j => pts[k]!.next.length - j.1) (0, (u, c)) ⟨by omega, rfl, hS2, hE2⟩ rfl rfl (by repeat' (first|exact trivial|refine And.intro rfl ?_)) (by repeat' (first|exact trivial|refine And.intro (.inr rfl) ?_)) ?_
   rintro ⟨j, u2, c2⟩ ⟨hj, hf2, hS3, hE3⟩
   dsimp only at hj hf2 hS3 hE3 ⊢
   have hsm2 : ∀ z, Sm u2[z]! := sI hS3 (fun i A h => h.1) htl
   have hul2 := hS3.1
   have hz : j < pts[k]!.next.length → 0 ≤ pts[k]!.next[j]! ∧ pts[k]!.next[j]! < pts.length := fun h => w.nx k hkn _ (dD _ _ h)
   repeat' (first|(apply aM;first|(apply aD;rfl;rfl)|(first|(apply dE;(case hx|hH => rfl);(case hf|hg|hα => infer_instance);(case hk => omega);(case hc|hN => rfl))|(apply aL;rfl;rfl;rfl;rfl))|(first|(apply fU;rfl;rfl;infer_instance;infer_instance;infer_instance;rfl)|(apply u6;rfl;rfl;infer_instance;infer_instance;infer_instance;rfl)|(apply bO;rfl;rfl;omega;rfl)|(apply aV;rfl;rfl;rfl;rfl))|(apply aC;rfl;rfl)|(first|(apply bB;(case hx|hi => rfl);(case hm => (omega));(case hml => (rfl));(case hα | hf|hg => infer_instance);(case hN => rfl))|(apply dO;rfl;rfl;(omega);rfl))|(apply aF;kernel_rfl)|(apply a7;rfl;rfl;rfl;rfl;rfl;(rw [aK]; simp only [fD] <;> omega);(exact rJ (by (omega)))))|(apply aO;first|apply aH|apply aB|(apply bX;rfl;(rfl))|(apply aP;rfl;all_goals intro hc;have hq:=hc;(try simp only [cD] at hq);try exfalso;omega)|apply aJ|apply aS|apply bF)|with_reducible apply aA|with_reducible apply bE|with_reducible apply aT|with_reducible apply bD)
   ·have hzz := hz (by omega)
    have hed : eM pts k (pts[k]!.next[j]!).toNat := ⟨hkn, by rw [Int.toNat_of_nonneg hzz.1]; exact dD _ _ (by omega)⟩
    have hne : HH u2[(pts[k]!.next[j]!).toNat]! (iA ts pts[k]! u[k]!) ≠ u2[(pts[k]!.next[j]!).toNat]! := fun h => hq (congrArg Int.ofNat h)
    (apply c6 (j + 1, (_, true));focus (refine Le.ren [(0, 0)] rfl (by decide) ?_ ?_ <;> repeat' (first|exact trivial|refine And.intro ⟨_, rfl, ?_⟩ ?_|refine And.intro ⟨_, _, rfl, rfl, ?_⟩ ?_|exact Or.inr rfl|refine Or.inl ⟨?_, (by first|rfl|exact aX _ _|exact Pur.pf|exact PurV.pf)⟩|rfl)))
    ·dsimp only
     refine ⟨by omega, ?_, vU fl w (hS2.2 k hkn) hed hS3, (by rw [dY _ _ _ _ (by rw [hS3.1]; exact dZ w hed)]; split <;> first|exact hE3|(rename_i q;rw [← q, hE3]; exact Nat.zero_and _))⟩
     rw [iT (by omega), ← hf2, v7 hne]; rfl
    ·dsimp only;omega
   ·have hzz := hz (by omega)
    have hne : HH u2[(pts[k]!.next[j]!).toNat]! (iA ts pts[k]! u[k]!) = u2[(pts[k]!.next[j]!).toNat]! := Int.ofNat.inj hq
    (apply c6 (j + 1, (u2, c2));focus (refine Le.ren [(0, 0)] rfl (by decide) ?_ ?_ <;> repeat' (first|exact trivial|refine And.intro ⟨_, rfl, ?_⟩ ?_|refine And.intro ⟨_, _, rfl, rfl, ?_⟩ ?_|exact Or.inr rfl|refine Or.inl ⟨?_, (by first|rfl|exact aX _ _|exact Pur.pf|exact PurV.pf)⟩|rfl)))
    ·dsimp only
     refine ⟨by omega, ?_, hS3, hE3⟩
     rw [iT (by omega), ← hf2, vJ hne]
    ·dsimp only;omega
   ·(apply c6 (k + 1, (u2, c2)); focus (refine Le.ren [(0, 0)] rfl (by decide) ?_ ?_ <;> repeat' (first | exact trivial | refine And.intro ⟨_, rfl, ?_⟩ ?_ | refine And.intro ⟨_, _, rfl, rfl, ?_⟩ ?_ | exact Or.inr rfl | refine Or.inl ⟨?_, (by first | rfl | exact aX _ _ | exact Pur.pf | exact PurV.pf)⟩ | rfl)))
    ·dsimp only
     refine ⟨by omega, ?_, hS3, hE3⟩
     rw [eS, ← hf, hf2, List.take_of_length_le (by rw [k5]; omega)]; rfl
    ·dsimp only;omega
  ·have law := qW w fl s false hS
   have hfull : (u, c) = u9 HH (fun i A => iA ts pts[i]! A) pts (s, false) := by
    rw [hf, show k = pts.length by omega]; rfl
   rw [show u9 (fun a s => HH a s) (fun i A => iA ts pts[i]! A) pts (s, false) = (u, c) from hfull.symm] at law
   (apply c6 (u, c);focus (refine Le.ren [(0, 0)] rfl (by decide) ?_ ?_ <;> repeat' (first|exact trivial|refine And.intro ⟨_, rfl, ?_⟩ ?_|refine And.intro ⟨_, _, rfl, rfl, ?_⟩ ?_|exact Or.inr rfl|refine Or.inl ⟨?_, (by first|rfl|exact aX _ _|exact Pur.pf|exact PurV.pf)⟩|rfl)))
   ·dsimp only
    refine ⟨hS2, hE2, fun h => ?_⟩
    rcases law.2 with ⟨e1, e2⟩ | ⟨e1, _⟩
    ·cases e1;exact e2
    ·dsimp only at e1;rw [h] at e1;cases e1
   ·dsimp only
    have hb : b = true := by assumption
    subst hb
    rcases law.2 with ⟨e1, e2⟩ | ⟨e1, e2⟩
    ·cases e1;simp
    ·dsimp only at e1 e2;subst e1;omega
 ·have hb : b = false := by assumption
  refine cA (Le.frzD (d := 8) (i := 0) rfl rfl) ?_
  refine aU rfl ⟨?_, (by (exact aX _ _))⟩
  simp only [bQ]
  rw [Co hA (EX w hS hE (hC hb))]
theorem yF (ts : List Int) (bd : List AL.Stmt) (pts : List Pnt) (A : List Nat) (w : WG ts pts) (hA : o6 ts pts A) : PC Tryz.prog 101 [aG ts bd pts, iv 0] (fun r => r = .imm pts.length (flat cN A)) := by
 (refine aQ Tryz.func101 rfl (by simp [Tryz.ntmps101]) ?_; rw [Tryz.ntmps101])
 repeat' (first|(apply aM;first|((with_reducible apply aI (k := 145));(case ha => rfl);(case h => exact Ao ts bd pts A w hA);(case hp => exact Pur.pf);(case hN => rfl))|(apply aD;rfl;rfl)|(apply aC;rfl;rfl)|(apply aF;kernel_rfl)|(apply l3;rfl;rfl;rfl))|(apply aO;first|apply aH|apply aB|apply aW)|with_reducible apply aA|((with_reducible apply aU);case hr => rfl))
 exact ⟨rfl, (by (exact aX _ _))⟩
theorem GJ (ts : List Int) (bd : List AL.Stmt) (pts : List Pnt) (A : List Nat) (w : WG ts pts) (hA : pF ts pts A) : PC Tryz.prog 166 [aG ts bd pts] (fun r => r = .imm pts.length (flat cN A)) := by
 (refine aQ Tryz.func166 rfl (by simp [Tryz.ntmps166]) ?_; rw [Tryz.ntmps166])
 repeat' (first|(apply aM;first|((with_reducible apply aI (k := 145));(case ha => rfl);(case h => exact AE ts bd pts A w hA);(case hp => exact Pur.pf);(case hN => rfl))|(apply aD;rfl;rfl)|(apply aC;rfl;rfl)|(apply aF;kernel_rfl)|(apply l3;rfl;rfl;rfl))|(apply aO;first|apply aH|apply aB|apply aW)|with_reducible apply aA|((with_reducible apply aU);case hr => rfl))
 exact ⟨rfl, (by (exact aX _ _))⟩
theorem AU (ts : List Int) (bd : List AL.Stmt) (pts : List Pnt) (n : Nat) (B : List Nat) (i : Int) (w : WG ts pts) (hn : n = B.length) (hB : B.length = pts.length) (hs : ∀ z : Nat, Sm B[z]!) (hi : 0 ≤ i ∧ i < pts.length) : PC Tryz.prog 134 [aG ts bd pts, .imm n (flat cN B), iv i] (fun r => r = iv (GC pts B i.toNat : Nat)) := by
 subst hn
 have hin : i.toNat < pts.length := by omega
 have hnl := w.nl _ hin
 have hpl := w.pl
 (refine aQ Tryz.func134 rfl (by simp [Tryz.ntmps134]) ?_; rw [Tryz.ntmps134])
 repeat' (first|(apply aM;first|(apply aD;rfl;rfl)|(apply aL;rfl;rfl;rfl;rfl)|(apply aE;rfl;rfl;rfl)|(apply aC;rfl;rfl)|(apply cC;(case hx|hi => rfl);(case hm => (assumption));(case hml => (rfl));(case hα | hf|hg => infer_instance);(case hN => rfl))|(apply a8;rfl;rfl;rfl)|(apply aF;kernel_rfl)|(apply dJ;rfl;rfl;rfl))|(apply aO;first|apply aH|apply aB|apply aJ)|with_reducible apply aA)
 refine bG (σ := Nat × Nat) [1, 17, 18] [(1, _), (17, _), (18, _)] [] [] (fun k => [(19, iv (k.1 : Int)), (7, iv (k.2 : Int))]) (fun k => []) (fun k => k.1 ≤ pts[i.toNat]!.next.length ∧ k.2 = ((s9 pts i.toNat).take k.1).foldl (fun a k => mR a B[k]!) 0 ∧ Sm k.2) (fun k => pts[i.toNat]!.next.length - k.1) (0, 0) ⟨by omega, rfl, inferInstance⟩ rfl rfl (by repeat' (first|exact trivial|refine And.intro rfl ?_)) (by repeat' (exact trivial)) ?_
 rintro ⟨k, a⟩ ⟨hk, ha, hsa⟩
 dsimp only at hk ha hsa ⊢
 have hz : k < pts[i.toNat]!.next.length → 0 ≤ pts[i.toNat]!.next[k]! ∧ pts[i.toNat]!.next[k]! < pts.length := fun h => w.nx _ hin _ (dD _ _ h)
 repeat' (first|(apply aM;first|(apply aD;rfl;rfl)|(apply aL;rfl;rfl;rfl;rfl)|(first|(apply fU;rfl;rfl;infer_instance;infer_instance;infer_instance;rfl)|(apply bO;rfl;rfl;omega;rfl)|(apply aV;rfl;rfl;rfl;rfl))|(apply aC;rfl;rfl)|(first|(apply bB;(case hx|hi => rfl);(case hm => (omega));(case hml => (rfl));(case hα | hf|hg => infer_instance);(case hN => rfl))|(apply cC;(case hx|hi => rfl);(case hm => (omega));(case hml => (rfl));(case hα | hf|hg => infer_instance);(case hN => rfl)))|(apply aF;kernel_rfl))|(apply aO;first|apply aH|apply aB|(apply aP;rfl;all_goals intro hc;have hq:=hc;(try simp only [cD] at hq);try exfalso;omega)|apply aJ|apply aS|apply bF|apply aW)|with_reducible apply aA|with_reducible apply bE|with_reducible apply aT|with_reducible apply bD|((with_reducible apply aU);case hr => rfl))
 ·(apply c6 (k + 1, _); focus (refine Le.ren [] rfl (by decide) ?_ ?_ <;> repeat' (first | exact trivial | refine And.intro ⟨_, rfl, ?_⟩ ?_ | refine Or.inl ⟨?_, (by first | rfl | exact aX _ _)⟩ | rfl)))
  ·dsimp only
   refine ⟨by omega, ?_, inferInstance⟩
   rw [eV _ _ _ _ (by rw [k5]; omega), wE (by omega), ← ha]
  ·dsimp only;omega
 ·(refine ⟨?_, rfl⟩; simp only [bQ, AV.v.injEq, Value.bool.injEq, Value.int.injEq, true_and])
  rw [ha, List.take_of_length_le (by rw [k5]; omega)]; rfl
theorem Dv (ts : List Int) (bd : List AL.Stmt) (pts : List Pnt) (A : List Nat) (w : WG ts pts) (hA : sS ts pts A) : PC Tryz.prog 135 [aG ts bd pts] (fun r => r = .imm pts.length (flat cN A)) := by
 have hpl := w.pl
 have hp0 := w.p0
 have htl := w.tl
 (refine aQ Tryz.func135 rfl (by simp [Tryz.ntmps135]) ?_; rw [Tryz.ntmps135])
 repeat' (first|(apply aM;first|(apply aD;rfl;rfl)|(apply aL;rfl;rfl;rfl;rfl)|(apply aE;rfl;rfl;rfl)|(apply aC;rfl;rfl)|(apply a8;rfl;rfl;rfl)|(apply aF;kernel_rfl)|(apply dJ;rfl;rfl;rfl)|(apply cR;rfl;rfl;rfl;omega;omega;(exact AB);rfl;rfl))|(apply aO;first|apply aH|apply aB|apply aJ)|with_reducible apply aA)
 refine bG (σ := List Nat × Bool) [0, 3] [(0, _), (3, _)] [] [] (fun s => [(4, bv s.2)]) (fun s => [(0, some (flat cN s.1))]) (fun s => SN ts pts s.1 ∧ (s.2 = false → ∀ i, i < pts.length → oD ts pts s.1 i = s.1[i]!)) (fun s => 2 * fM (s.1.map (fun a => 2 ^ ts.length - a)) + s.2.toNat) (List.replicate pts.length 0, true) ⟨Hs, fun h => by cases h⟩ rfl rfl (by repeat' (first|exact trivial|refine And.intro rfl ?_)) (by repeat' (first|exact trivial|refine And.intro (.inr rfl) ?_)) ?_
 rintro ⟨s, b⟩ ⟨hS, hC⟩
 dsimp only at hS hC ⊢
 repeat' (first|(apply aM;first|(apply aD;rfl;rfl)|(apply aL;rfl;rfl;rfl;rfl)|(apply aE;rfl;rfl;rfl)|(apply gT;rfl;rfl;omega;rfl)|(apply aC;rfl;rfl)|(apply a8;rfl;rfl;rfl)|(apply aF;kernel_rfl)|(apply dJ;rfl;rfl;rfl))|(apply aO;first|apply aH|apply aB|(apply aP;rfl;all_goals intro hc;have hq:=hc;(try simp only [cD] at hq);try exfalso;omega)|apply aJ|apply aS|apply bF|apply aW)|with_reducible apply aA|with_reducible apply bE|with_reducible apply bD)
 ·refine bG (σ := Nat × Int × (List Nat × Bool)) [0, 3] [(0, _), (3, _)] [] [] (fun k => [(5, iv k.2.1), (4, bv k.2.2.2)]) (fun k => [(0, some (flat cN k.2.2.1))]) (fun k => k.1 ≤ pts.length ∧ k.2.1 = (pts.length : Int) - 1 - k.1 ∧ k.2.2 = ((List.range pts.length).reverse.take k.1).foldl (k9 ts pts) (s, false) ∧ SN ts pts k.2.2.1) (fun k => pts.length - k.1) (0, (pts.length : Int) - 1, (s, false)) ⟨by omega, by simp, rfl, hS⟩ rfl rfl (by repeat' (first | exact trivial | refine And.intro rfl ?_)) (by repeat' (first | exact trivial | refine And.intro (.inr rfl) ?_)) ?_
  rintro ⟨k, z, u, c⟩ ⟨hk, hz, hf, hS2⟩
  dsimp only at hk hz hf hS2 ⊢
  have hsm : ∀ z : Nat, Sm u[z]! := sI hS2.1 (fun i A h => h.1) htl
  have hul := hS2.1.1
  have hst := fun h : z.toNat < pts.length => (w.set z.toNat h).1
  have hst2 : bR pts[z.toNat]! < 62 := by
   by_cases h : z.toNat < pts.length
   ·have := hst h;omega
   ·rw [getElem!_neg pts z.toNat h]; decide
  have hs1 : Sm (wS ts pts[z.toNat]! [1, 2, 3]) := fB (by omega)
  have hs2 : Sm (hO pts[z.toNat]!) := pM (by omega)
  have hs3 : Sm (GC pts u z.toNat) := by
   unfold GC
   have : ∀ (L : List Nat) (a : Nat), Sm a → Sm (L.foldl (fun a k => a ||| u[k]!) a) := by
    intro L;induction L with
    | nil => exact fun a h => h
    | cons x L ih => exact fun a h => ih _ (inferInstance : Sm (a ||| u[x]!))
   exact this _ _ inferInstance
  have hlaw := fun h : z.toNat < pts.length => tZ w u c z.toNat h hS2
  repeat' (first|(apply aM;first|(apply aD;rfl;rfl)|(first|(apply dE;(case hx|hH => rfl);(case hf|hg|hα => infer_instance);(case hk => omega);(case hc|hN => rfl))|(apply aL;rfl;rfl;rfl;rfl)|(apply a6;rfl;rfl;(exact (rfl:_=[_, _, _, _, _]));rfl;rfl;rfl))|(apply aE;rfl;rfl;rfl)|(first|(apply fU;rfl;rfl;infer_instance;infer_instance;infer_instance;rfl)|(apply nX;rfl;rfl;infer_instance;infer_instance;infer_instance;rfl)|(apply gT;rfl;rfl;omega;rfl)|(apply aV;rfl;rfl;rfl;rfl))|(apply aC;rfl;rfl)|(first|(apply cC;(case hx|hi => rfl);(case hm => (omega));(case hml => (rfl));(case hα | hf|hg => infer_instance);(case hN => rfl))|(apply dO;rfl;rfl;(omega);rfl))|(first|((with_reducible apply E4 (k := 134));(case ha => rfl);(case hl => (repeat' (first|exact C7|apply AJ|exact FP|exact Cg rfl inferInstance|exact zZ inferInstance)));(case h => (apply AU <;> (first|assumption|omega)));(case hfr|hN => rfl);(case hmd => infer_instance))|((with_reducible apply aI (k := 151));(case ha => rfl);(case h => (apply Ey <;> (assumption)));(case hp => (exact Pur.pf));(case hN => rfl))|((with_reducible apply aI (k := 174));(case ha => rfl);(case h => (apply n0 <;> (assumption)));(case hp => (exact Pur.pf));(case hN => rfl)))|(apply aF;kernel_rfl)|(apply dJ;rfl;rfl;rfl)|(apply bT;rfl;rfl)|(apply a7;rfl;rfl;rfl;rfl;rfl;(case hl => (first|(rw [aK]; simp only [fD] <;> omega)|(simp;done)));(first|exact rJ (by (omega))|exact (rfl:_=[_, _, _, _, _]))))|(apply aO;first|apply aH|apply aB|(apply b9;kernel_rfl)|(apply aP;rfl;all_goals intro hc;have hq:=hc;(try simp only [cD] at hq);try exfalso;omega)|apply aJ|apply aS|apply bF)|with_reducible apply aA|with_reducible apply bE|with_reducible apply aT|with_reducible apply bD)
  ·have hzn : z.toNat < pts.length := by omega
   have hne : oD ts pts u z.toNat ≠ u[z.toNat]! := fun h => hq (congrArg Int.ofNat h)
   have hl := hlaw hzn
   rw [Bw hne] at hl
   have hrg : (List.range pts.length).reverse[k]! = z.toNat := by rw [xT (by omega)]; omega
   (apply c6 (k + 1, _, (_, true));focus (refine Le.ren [(0, 0)] rfl (by decide) ?_ ?_ <;> repeat' (first|exact trivial|refine And.intro ⟨_, rfl, ?_⟩ ?_|refine And.intro ⟨_, _, rfl, rfl, ?_⟩ ?_|exact Or.inr rfl|refine Or.inl ⟨?_, (by first|rfl|exact aX _ _|exact Pur.pf)⟩|rfl)))
   ·dsimp only
    refine ⟨by omega, by omega, ?_, hl.1⟩
    rw [eV _ _ _ _ (by simp;omega), ← hf, hrg, Bw hne]; rfl
   ·dsimp only;omega
  ·have hzn : z.toNat < pts.length := by omega
   have hne : oD ts pts u z.toNat = u[z.toNat]! := Int.ofNat.inj hq
   have hrg : (List.range pts.length).reverse[k]! = z.toNat := by rw [xT (by omega)]; omega
   (apply c6 (k + 1, _, (u, c));focus (refine Le.ren [(0, 0)] rfl (by decide) ?_ ?_ <;> repeat' (first|exact trivial|refine And.intro ⟨_, rfl, ?_⟩ ?_|refine And.intro ⟨_, _, rfl, rfl, ?_⟩ ?_|exact Or.inr rfl|refine Or.inl ⟨?_, (by first|rfl|exact aX _ _|exact Pur.pf)⟩|rfl)))
   ·dsimp only
    refine ⟨by omega, by omega, ?_, hS2⟩
    rw [eV _ _ _ _ (by simp;omega), ← hf, hrg, FM hne]
   ·dsimp only;omega
  ·have law := CK w s false hS
   have hfull : (u, c) = wU ts pts (s, false) := by
    rw [hf, List.take_of_length_le (by simp;omega)]; rfl
   rw [← hfull] at law
   (apply c6 (u, c);focus (refine Le.ren [(0, 0)] rfl (by decide) ?_ ?_ <;> repeat' (first|exact trivial|refine And.intro ⟨_, rfl, ?_⟩ ?_|refine And.intro ⟨_, _, rfl, rfl, ?_⟩ ?_|exact Or.inr rfl|refine Or.inl ⟨?_, (by first|rfl|exact aX _ _|exact Pur.pf)⟩|rfl)))
   ·dsimp only
    refine ⟨hS2, fun h => ?_⟩
    rcases law.2 with ⟨e1, e2⟩ | ⟨e1, _⟩
    ·cases e1;exact e2
    ·dsimp only at e1;rw [h] at e1;cases e1
   ·dsimp only
    have hb : b = true := by assumption
    subst hb
    rcases law.2 with ⟨e1, e2⟩ | ⟨e1, e2⟩
    ·cases e1;simp
    ·dsimp only at e1 e2;subst e1;omega
 ·have hb : b = false := by assumption
  refine cA (Le.frzD (d := 2) (i := 0) rfl rfl) ?_
  refine aU rfl ⟨?_, (by (exact aX _ _))⟩
  simp only [bQ]
  rw [CM hA (EK w hS (hC hb))]
theorem xS (ts : List Int) (bd : List AL.Stmt) (pts : List Pnt) (B A : List Nat) (w : WG ts pts) (hB : sS ts pts B) (hA : o8 ts pts A) : PC Tryz.prog 127 [aG ts bd pts] (fun r => r = .imm pts.length (flat cN A)) := by
 have hpl := w.pl
 have htl := w.tl
 have hBl := hB.1
 have hsm : ∀ z : Nat, Sm B[z]! := by
  intro z
  by_cases hz : z < pts.length
  ·refine ⟨Nat.lt_of_lt_of_le (Nat.lt_pow_two_of_testBit _ (n := 6) fun v hv => ?_) (by decide)⟩
   cases hq : B[z]!.testBit v with
   | false => rfl
   | true => have := pG w ((hB.2 z hz v).1 hq);dsimp only at this;omega
  ·rw [getElem!_neg B z (by rw [hBl]; exact hz)]; exact ⟨by decide⟩
 (refine aQ Tryz.func127 rfl (by simp [Tryz.ntmps127]) ?_; rw [Tryz.ntmps127])
 repeat' (first|(apply aM;first|(apply aD;rfl;rfl)|(apply aL;rfl;rfl;rfl;rfl)|(apply aE;rfl;rfl;rfl)|(apply aC;rfl;rfl)|((with_reducible apply aI (k := 135));(case ha => rfl);(case h => (apply Dv <;> (assumption)));(case hp => (exact Pur.pf));(case hN => rfl))|(apply a8;rfl;rfl;rfl)|(apply aF;kernel_rfl)|(apply dJ;rfl;rfl;rfl))|(apply aO;first|apply aH|apply aB|apply aJ)|with_reducible apply aA)
 refine AW.le ?_ (Le.nilOwn (d := 4) 1 rfl (by decide))
 refine bG (σ := Nat × List Nat) [0, 3, 12] [(0, _), (3, _), (12, _)] [] [] (fun k => [(13, iv (k.1 : Int)), (4, .own 0 0 k.1 1)]) (fun k => [(0, some (flat cN k.2))]) (fun k => k.1 ≤ pts.length ∧ k.2 = (List.range k.1).map (GC pts B)) (fun k => pts.length - k.1) (0, []) ⟨by omega, rfl⟩ rfl rfl (by repeat' (first|exact trivial|refine And.intro rfl ?_)) (by repeat' (first|exact trivial|refine And.intro (.inr rfl) ?_)) ?_
 rintro ⟨k, u⟩ ⟨hk, hu⟩
 dsimp only at hk hu ⊢
 have hul : u.length = k := by rw [hu]; simp
 repeat' (first|(apply aM;first|(apply aD;rfl;rfl)|(first|(apply bO;rfl;rfl;omega;rfl)|(apply aV;rfl;rfl;rfl;rfl))|(apply aC;rfl;rfl)|((with_reducible apply aI (k := 134));(case ha => rfl);(case h => (apply AU <;> (first|assumption|omega)));(case hp => (exact Pur.pf));(case hN => rfl))|(apply bV;rfl;rfl;rfl;rfl;rfl;(rw [aK]; omega);(rfl);omega;omega;(exact FA (by (omega)));rfl;rfl)|(apply aF;kernel_rfl)|((apply bS (t := _));(case hze|hsm|hl => rfl);(case hfl => exact (rfl:_=some [_]));(case hM|hN => rfl)))|(apply aO;first|apply aH|apply aB|(apply aP;rfl;all_goals intro hc;have hq:=hc;(try simp only [cD] at hq);try exfalso;omega)|apply aJ|apply aS|apply bF|apply aW)|with_reducible apply aA|with_reducible apply bE|with_reducible apply aT|with_reducible apply bD)
 ·(apply c6 (k + 1, _); focus (refine Le.ren [(0, 2)] rfl (by decide) ?_ ?_ <;> repeat' (first | exact trivial | refine And.intro ⟨_, rfl, ?_⟩ ?_ | refine And.intro ⟨_, _, rfl, rfl, ?_⟩ ?_ | exact Or.inr rfl | refine Or.inl ⟨?_, (by first | rfl | exact aX _ _ | exact Pur.pf)⟩ | rfl)))
  ·dsimp only
   refine ⟨by omega, ?_⟩
   rw [hu, List.range_succ, List.map_append]; rfl
  ·dsimp only;omega
 ·refine cA (Le.frzD (d := 2) (i := 0) rfl rfl) ?_
  refine aU rfl ⟨?_, (by (exact aX _ _))⟩
  simp only [bQ]
  have hkn : k = pts.length := by omega
  subst hkn
  rw [uL hA (xM w hB), hu]
theorem vQ (A : Nat) (hA : Sm A) : PC Tryz.prog 100 [iv (A : Int)] (fun r => r = sl cI (cJ A)) := by
 (refine aQ Tryz.func100 rfl (by simp [Tryz.ntmps100]) ?_; rw [Tryz.ntmps100])
 repeat' (first|(apply aM;first|(apply aC;rfl;rfl)|(apply aF;kernel_rfl))|(apply aO;first|apply aH|apply aB|apply aJ)|with_reducible apply aA)
 refine AW.le ?_ (Le.nilOwn (d := 3) 1 rfl (by decide))
 refine bG (σ := Nat × List Int × Nat) [0] [(0, _)] [] [] (fun k => [(4, iv (k.1 : Int)), (3, .own 0 0 k.2.2 1)]) (fun k => [(0, some (flat cI k.2.1))]) (fun k => k.1 ≤ 62 ∧ k.2.1 = ((List.range k.1).filter (A.testBit ·)).map (fun v : Nat => (v : Int)) ∧ k.2.2 = k.2.1.length ∧ k.2.2 ≤ k.1) (fun k => 62 - k.1) (0, [], 0) ⟨by omega, rfl, rfl, Nat.le_refl _⟩ rfl rfl (by repeat' (first|exact trivial|refine And.intro rfl ?_)) (by repeat' (first|exact trivial|refine And.intro (.inr rfl) ?_)) ?_
 rintro ⟨k, u, m⟩ ⟨hk, hu, hm, hmk⟩
 dsimp only at hk hu hm hmk ⊢
 repeat' (first|(apply aM;first|(apply aD;rfl;rfl)|(first|(apply pO;rfl;rfl;infer_instance;infer_instance;rfl)|(apply pR;rfl;rfl;infer_instance;infer_instance;omega;rfl)|(apply bO;rfl;rfl;omega;rfl)|(apply aV;rfl;rfl;rfl;rfl))|(apply aC;rfl;rfl)|(apply bV;rfl;rfl;rfl;rfl;rfl;(rw [aK]; omega);(rfl);omega;omega;(exact mF (by (assumption)));rfl;rfl)|(apply aF;kernel_rfl)|((apply bS (t := _));(case hze|hsm|hl => rfl);(case hfl => exact (rfl:_=some [_]));(case hM|hN => rfl)))|(apply aO;first|apply aH|apply aB|(apply aP;rfl;all_goals intro hc;have hq:=hc;(try simp only [cD] at hq);try exfalso;omega)|apply aJ|apply aS|apply bF|apply aW)|with_reducible apply aA|with_reducible apply bE|with_reducible apply aT|with_reducible apply bD)
 ·have hlt := Bd hA (show 0 < ((A >>> k : Nat) : Int) by assumption)
  (apply c6 (k + 1, _, _);focus (refine Le.ren [(0, 2)] rfl (by decide) ?_ ?_ <;> repeat' (first|exact trivial|refine And.intro ⟨_, rfl, ?_⟩ ?_|refine And.intro ⟨_, _, rfl, rfl, ?_⟩ ?_|exact Or.inr rfl|refine Or.inl ⟨?_, (by first|rfl|exact aX _ _)⟩|rfl)))
  ·dsimp only
   exact ⟨by omega, tT hq hu, by simp;omega, by omega⟩
  ·dsimp only;omega
 ·have hlt := Bd hA (show 0 < ((A >>> k : Nat) : Int) by assumption)
  (apply c6 (k + 1, u, m);focus (refine Le.ren [(0, 0)] rfl (by decide) ?_ ?_ <;> repeat' (first|exact trivial|refine And.intro ⟨_, rfl, ?_⟩ ?_|refine And.intro ⟨_, _, rfl, rfl, ?_⟩ ?_|exact Or.inr rfl|refine Or.inl ⟨?_, (by first|rfl|exact aX _ _)⟩|rfl)))
  ·dsimp only
   exact ⟨by omega, uG hq hu, hm, by omega⟩
  ·dsimp only;omega
 ·(refine cA (Le.frzD (d := 2) (i := 0) rfl rfl) ?_; refine aU rfl ?_)
  refine ⟨?_, (by (exact aX _ _))⟩
  simp only [bQ, sl]
  rw [oV (k := k) (fun v hv => E8 hq v hv) (by omega) hA, ← hu, ← hm]
theorem sF (A : Nat) (hA : Sm A) : PC Tryz.prog 92 [.v (.int .u64 (A : Int))] (fun r => r = sl cI (cJ A)) := by
 (refine aQ Tryz.func92 rfl (by simp [Tryz.ntmps92]) ?_; rw [Tryz.ntmps92])
 repeat' (first|(apply aM;first|(apply aD;rfl;rfl)|(apply aC;rfl;rfl)|(apply aF;kernel_rfl))|(apply aO;first|apply aH|apply aB|apply aJ)|with_reducible apply aA)
 refine AW.le ?_ (Le.nilOwn (d := 3) 1 rfl (by decide))
 refine bG (σ := Nat × List Int × Nat) [0] [(0, _)] [] [] (fun k => [(5, iv (k.1 : Int)), (3, .own 0 0 k.2.2 1)]) (fun k => [(0, some (flat cI k.2.1))]) (fun k => k.1 ≤ 64 ∧ k.2.1 = ((List.range k.1).filter (A.testBit ·)).map (fun v : Nat => (v : Int)) ∧ k.2.2 = k.2.1.length ∧ k.2.2 ≤ k.1) (fun k => 64 - k.1) (0, [], 0) ⟨by omega, rfl, rfl, Nat.le_refl _⟩ rfl rfl (by repeat' (first|exact trivial|refine And.intro rfl ?_)) (by repeat' (first|exact trivial|refine And.intro (.inr rfl) ?_)) ?_
 rintro ⟨k, u, m⟩ ⟨hk, hu, hm, hmk⟩
 dsimp only at hk hu hm hmk ⊢
 repeat' (first|(apply aM;first|(apply aD;rfl;rfl)|(first|(apply pO;rfl;rfl;infer_instance;infer_instance;rfl)|(apply pR;rfl;rfl;infer_instance;infer_instance;omega;rfl)|(apply bO;rfl;rfl;omega;rfl)|(apply aV;rfl;rfl;rfl;rfl))|(apply aC;rfl;rfl)|(apply bV;rfl;rfl;rfl;rfl;rfl;(rw [aK]; omega);(rfl);omega;omega;(exact mF (by (assumption)));rfl;rfl)|(apply aF;kernel_rfl)|((apply bS (t := _));(case hze|hsm|hl => rfl);(case hfl => exact (rfl:_=some [_]));(case hM|hN => rfl)))|(apply aO;first|apply aH|apply aB|(apply aP;rfl;all_goals intro hc;have hq:=hc;(try simp only [cD] at hq);try exfalso;omega)|apply aJ|apply aS|apply bF|apply aW)|with_reducible apply aA|with_reducible apply bE|with_reducible apply aT|with_reducible apply bD)
 ·(apply c6 (k + 1, _, _); focus (refine Le.ren [(0, 2)] rfl (by decide) ?_ ?_ <;> repeat' (first | exact trivial | refine And.intro ⟨_, rfl, ?_⟩ ?_ | refine And.intro ⟨_, _, rfl, rfl, ?_⟩ ?_ | exact Or.inr rfl | refine Or.inl ⟨?_, (by first | rfl | exact aX _ _)⟩ | rfl)))
  ·dsimp only
   exact ⟨by omega, tT hq hu, by simp;omega, by omega⟩
  ·dsimp only;omega
 ·(apply c6 (k + 1, u, m); focus (refine Le.ren [(0, 0)] rfl (by decide) ?_ ?_ <;> repeat' (first | exact trivial | refine And.intro ⟨_, rfl, ?_⟩ ?_ | refine And.intro ⟨_, _, rfl, rfl, ?_⟩ ?_ | exact Or.inr rfl | refine Or.inl ⟨?_, (by first | rfl | exact aX _ _)⟩ | rfl)))
  ·dsimp only
   exact ⟨by omega, uG hq hu, hm, by omega⟩
  ·dsimp only;omega
 ·(refine cA (Le.frzD (d := 2) (i := 0) rfl rfl) ?_; refine aU rfl ?_)
  refine ⟨?_, (by (exact aX _ _))⟩
  simp only [bQ, sl]
  rw [oV (k := k) (fun v hv => Nat.testBit_lt_two_pow (Nat.lt_of_lt_of_le hA.pf (Nat.pow_le_pow_right (by decide) (by omega)))) (by omega) hA, ← hu, ← hm]
theorem yB (ts : List Int) (bd : List AL.Stmt) (pts : List Pnt) (V : Nat) (w : WG ts pts) (hV : Sm V) : PC Tryz.prog 198 [aG ts bd pts, iv (V : Int)] (fun r => r = .v (.int .u64 (pK pts V : Nat))) := by
 have hpl := w.pl
 have htl := w.tl
 (refine aQ Tryz.func198 rfl (by simp [Tryz.ntmps198]) ?_; rw [Tryz.ntmps198])
 repeat' (first|(apply aM;first|(apply aD;rfl;rfl)|(apply aL;rfl;rfl;rfl;rfl)|(apply aE;rfl;rfl;rfl)|(apply aC;rfl;rfl)|(apply a8;rfl;rfl;rfl)|(apply aF;kernel_rfl)|(apply dJ;rfl;rfl;rfl))|(apply aO;first|apply aH|apply aB|apply aJ)|with_reducible apply aA)
 refine bG (σ := Nat × Nat) [1, 11, 12] [(1, _), (11, _), (12, _)] [] [] (fun k => [(13, iv (k.1 : Int)), (5, .v (.int .u64 (k.2 : Int)))]) (fun k => []) (fun k => k.1 ≤ pts.length ∧ k.2 = fF (fun l => c9 pts[l]! && V.testBit (pts[l]!.y.toNat)) k.1) (fun k => pts.length - k.1) (0, 0) ⟨by omega, rfl⟩ rfl rfl (by repeat' (first|exact trivial|refine And.intro rfl ?_)) (by repeat' (exact trivial)) ?_
 rintro ⟨k, A⟩ ⟨hk, hA⟩
 dsimp only at hk hA ⊢
 have hsm : Sm A := hA ▸ fB (by omega)
 cases hln : c9 pts[k]!
 ·repeat' (first | (apply aM; first | (apply aD;rfl;rfl) | (apply a6;rfl;rfl;(exact (rfl:_=[_, _, _, _, _]));rfl;rfl;rfl) | (apply aZ;rfl;rfl;rfl;(assumption)) | (first | (apply bO;rfl;rfl;omega;rfl) | (apply aV;rfl;rfl;rfl;rfl)) | (apply aC;rfl;rfl) | (apply bH;rfl;(assumption);rfl;rfl) | (apply bB; (case hx | hi => rfl); (case hm => (omega)); (case hml => (rfl)); (case hα | hf | hg => infer_instance); (case hN => rfl)) | ((with_reducible apply aI (k := 196)); (case ha => rfl); (case h => (apply lR <;> (fail))); (case hp => (exact Pur.pf)); (case hN => rfl)) | (apply aF;kernel_rfl) | (apply bT;rfl;rfl) | (apply a7;rfl;rfl;rfl;rfl;rfl;(case hl => (simp;done));(exact (rfl:_=[_, _, _, _, _])))) | (apply aO; first | apply aH | apply aB | (apply cF;rfl;(rfl)) | (apply aP;rfl;all_goals intro hc;have hq:=hc;(try simp only [cD] at hq);try exfalso;omega) | apply aJ | apply aS | apply bF | apply aW) | with_reducible apply aA | with_reducible apply bE | with_reducible apply aT | with_reducible apply bD | ((with_reducible apply aU); case hr => rfl))
  ·(apply c6 (k + 1, A); focus (refine Le.ren [] rfl (by decide) ?_ ?_ <;> repeat' (first | exact trivial | refine And.intro ⟨_, rfl, ?_⟩ ?_ | refine Or.inl ⟨?_, (by first | rfl | exact aX _ _)⟩ | rfl)))
   ·dsimp only
    exact ⟨by omega, by rw [hA]; exact lT _ _ (by rw [hln]; rfl)⟩
   ·dsimp only;omega
  ·(refine ⟨?_, rfl⟩; simp only [bQ, AV.v.injEq, Value.bool.injEq, Value.int.injEq, true_and])
   rw [hA, show k = pts.length by omega]; rfl
 ·have hy := fun (h : k < pts.length) => m7 w h hln
  repeat' (first|(apply aM;first|(apply aD;rfl;rfl)|(first|(apply aL;rfl;rfl;rfl;rfl)|(apply a6;rfl;rfl;(exact (rfl:_=[_, _, _, _, _]));rfl;rfl;rfl))|(apply aE;rfl;rfl;rfl)|(apply a9;rfl;rfl;rfl;(assumption))|(first|(apply fU;rfl;rfl;infer_instance;infer_instance;infer_instance;rfl)|(apply pO;rfl;rfl;infer_instance;infer_instance;rfl)|(apply jR;rfl;rfl;infer_instance;omega;rfl;(case' kk => intro hsm))|(apply pR;rfl;rfl;infer_instance;infer_instance;omega;rfl)|(apply bO;rfl;rfl;omega;rfl)|(apply aV;rfl;rfl;rfl;rfl))|(apply aC;rfl;rfl)|(apply bI;rfl;(assumption);rfl;rfl)|(apply bB;(case hx|hi => rfl);(case hm => (omega));(case hml => (rfl));(case hα | hf|hg => infer_instance);(case hN => rfl))|((with_reducible apply aI (k := 196));(case ha => rfl);(case h => (apply lR <;> (fail)));(case hp => (exact Pur.pf));(case hN => rfl))|(apply aF;kernel_rfl)|(apply bT;rfl;rfl)|(apply a7;rfl;rfl;rfl;rfl;rfl;(case hl => (simp;done));(exact (rfl:_=[_, _, _, _, _]))))|(apply aO;first|apply aH|apply aB|(apply aP;rfl;all_goals intro hc;have hq:=hc;(try simp only [cD] at hq);try exfalso;omega)|apply aJ|apply aS|apply bF|apply aW)|with_reducible apply aA|with_reducible apply bE|with_reducible apply aT|with_reducible apply bD|((with_reducible apply aU);case hr => rfl))
  ·(apply c6 (k + 1, _); focus (refine Le.ren [] rfl (by decide) ?_ ?_ <;> repeat' (first | exact trivial | refine And.intro ⟨_, rfl, ?_⟩ ?_ | refine Or.inl ⟨?_, (by first | rfl | exact aX _ _)⟩ | rfl)))
   ·dsimp only
    exact ⟨by omega, by rw [hA]; exact o3 _ _ (by rw [hln, Bool.true_and]; exact (l4 _ _).1 hq)⟩
   ·dsimp only;omega
  ·(apply c6 (k + 1, A); focus (refine Le.ren [] rfl (by decide) ?_ ?_ <;> repeat' (first | exact trivial | refine And.intro ⟨_, rfl, ?_⟩ ?_ | refine Or.inl ⟨?_, (by first | rfl | exact aX _ _)⟩ | rfl)))
   ·dsimp only
    exact ⟨by omega, by rw [hA]; exact lT _ _ (by rw [hln, Bool.true_and]; cases hb : V.testBit (pts[k]!.y.toNat) with|false => rfl|true => exact absurd ((l4 _ _).2 hb) hq)⟩
   ·dsimp only;omega
  ·(refine ⟨?_, rfl⟩; simp only [bQ, AV.v.injEq, Value.bool.injEq, Value.int.injEq, true_and])
   rw [hA, show k = pts.length by omega]; rfl
theorem EC (ts : List Int) (bd : List AL.Stmt) (pts : List Pnt) (A : List Nat) (w : WG ts pts) (hA : pC ts pts A) : PC Tryz.prog 167 [aG ts bd pts] (fun r => r = .imm pts.length (flat cW A)) := by
 have hpl := w.pl
 have hp0 := w.p0
 have htl := w.tl
 have fl := IU w
 (refine aQ Tryz.func167 rfl (by simp [Tryz.ntmps167]) ?_; rw [Tryz.ntmps167])
 repeat' (first|(apply aM;first|(apply aD;rfl;rfl)|(apply aL;rfl;rfl;rfl;rfl)|(apply aE;rfl;rfl;rfl)|(apply aC;rfl;rfl)|(apply a8;rfl;rfl;rfl)|(apply aF;kernel_rfl)|(apply dJ;rfl;rfl;rfl)|(apply cR;rfl;rfl;rfl;omega;omega;(exact GB);rfl;rfl))|(apply aO;first|apply aH|apply aB|apply aJ)|with_reducible apply aA)
 refine bG (σ := List Nat × Bool) [0, 3] [(0, _), (3, _)] [] [] (fun s => [(4, bv s.2)]) (fun s => [(0, some (flat cW s.1))]) (fun s => SG pts (IJ ts pts) s.1 ∧ (s.2 = false → kV mR (vL ts pts) pts s.1)) (fun s => 2 * fM (s.1.map (fun a => 2 ^ pts.length - a)) + s.2.toNat) (List.replicate pts.length 0, true) ⟨zQ fun i hi => ⟨Nat.pow_pos (by decide), fun v h => by simp at h⟩, fun h => by cases h⟩ rfl rfl (by repeat' (first|exact trivial|refine And.intro rfl ?_)) (by repeat' (first|exact trivial|refine And.intro (.inr rfl) ?_)) ?_
 rintro ⟨s, b⟩ ⟨hS, hC⟩
 dsimp only at hS hC ⊢
 repeat' (first|(apply aM;first|(apply aD;rfl;rfl)|(apply aL;rfl;rfl;rfl;rfl)|(apply aE;rfl;rfl;rfl)|(apply aC;rfl;rfl)|(apply a8;rfl;rfl;rfl)|(apply aF;kernel_rfl)|(apply dJ;rfl;rfl;rfl))|(apply aO;first|apply aH|apply aB|(apply aP;rfl;all_goals intro hc;have hq:=hc;(try simp only [cD] at hq);try exfalso;omega)|apply aJ|apply aS|apply bF|apply aW)|with_reducible apply aA|with_reducible apply bE|with_reducible apply bD)
 ·refine bG (σ := Nat × (List Nat × Bool)) [0, 3, 20, 21] [(0, _), (3, _), (20, _), (21, _)] [] [] (fun k => [(22, iv (k.1 : Int)), (4, bv k.2.2)]) (fun k => [(0, some (flat cW k.2.1))]) (fun k => k.1 ≤ pts.length ∧ k.2 = (List.range k.1).foldl (v8 mR (vL ts pts) pts) (s, false) ∧ SG pts (IJ ts pts) k.2.1) (fun k => pts.length - k.1) (0, (s, false)) ⟨by omega, rfl, hS⟩ rfl rfl (by repeat' (first | exact trivial | refine And.intro rfl ?_)) (by repeat' (first | exact trivial | refine And.intro (.inr rfl) ?_)) ?_
  rintro ⟨k, u, c⟩ ⟨hk, hf, hS2⟩
  dsimp only at hk hf hS2 ⊢
  have hul := hS2.1
  by_cases hkn : k < pts.length
  ·have hst := (w.set k hkn).1
   have hsm : ∀ z : Nat, Sm u[z]! := by
    intro z
    by_cases hz : z < pts.length
    ·exact ⟨Nat.lt_of_lt_of_le (hS2.2 z hz).1 (Nat.pow_le_pow_right (by decide) (by omega))⟩
    ·rw [getElem!_neg u z (by rw [hul]; exact hz)]; exact ⟨by decide⟩
   have hs1 : Sm (wS ts pts[k]! [2]) := fB (by omega)
   have hs2 : Sm (hO pts[k]!) := pM (by omega)
   have hs3 : ∀ V, Sm (pK pts V) := fun V => EB w V
   have hnl := w.nl k hkn
   have e1 : c9 pts[k]! = true → mP u[k]! (pK pts (wS ts pts[k]! [2] ||| hO pts[k]!)) ||| 2 ^ (k : Int).toNat = vL ts pts k u[k]! := fun h => by unfold vL HV;rw [if_pos h]; rfl
   have e0 : c9 pts[k]! = false → mP u[k]! (pK pts (wS ts pts[k]! [2] ||| hO pts[k]!)) = vL ts pts k u[k]! := fun h => by unfold vL HV;rw [if_neg (by rw [h]; simp), Nat.or_zero]
   have hps : Sm (vL ts pts k u[k]!) := ⟨Nat.lt_of_lt_of_le (z3 w hkn (hS2.2 k hkn).1) (Nat.pow_le_pow_right (by decide) (by omega))⟩
   repeat' (first|(apply aM;first|(apply aD;rfl;rfl)|(first|(apply dE;(case hx|hH => rfl);(case hf|hg|hα => infer_instance);(case hk => omega);(case hc|hN => rfl))|(apply aL;rfl;rfl;rfl;rfl)|(apply a6;rfl;rfl;(exact (rfl:_=[_, _, _, _, _]));rfl;rfl;rfl))|(apply aE;rfl;rfl;rfl)|(first|(apply fU;rfl;rfl;infer_instance;infer_instance;infer_instance;rfl)|(apply nX;rfl;rfl;infer_instance;infer_instance;infer_instance;rfl)|(apply jR;rfl;rfl;infer_instance;omega;rfl;(case' kk => intro hsm))|(apply aV;rfl;rfl;rfl;rfl))|(apply aC;rfl;rfl)|(first|(apply bB;(case hx|hi => rfl);(case hm => (assumption));(case hml => (rfl));(case hα | hf|hg => infer_instance);(case hN => rfl))|(apply cL;rfl;rfl;(assumption);rfl))|(first|((with_reducible apply aI (k := 139));(case ha => rfl);(case h => (apply p8 <;> (assumption)));(case hp => (exact Pur.pf));(case hN => rfl))|((with_reducible apply aI (k := 174));(case ha => rfl);(case h => (apply n0 <;> (omega)));(case hp => (exact Pur.pf));(case hN => rfl))|((with_reducible apply aI (k := 196));(case ha => rfl);(case h => (apply lR <;> (fail)));(case hp => (exact Pur.pf));(case hN => rfl))|((with_reducible apply aI (k := 198));(case ha => rfl);(case h => (apply yB <;> (first|assumption|infer_instance)));(case hp => (exact Pur.pf));(case hN => rfl)))|(apply a8;rfl;rfl;rfl)|(apply aF;kernel_rfl)|(apply bT;rfl;rfl)|(apply a7;rfl;rfl;rfl;rfl;rfl;(case hl => (simp;done));(exact (rfl:_=[_, _, _, _, _]))))|(apply aO;first|apply aH|apply aB|(apply b9;kernel_rfl)|(apply aP;rfl;all_goals intro hc;have hq:=hc;(try simp only [cD] at hq);try exfalso;omega)|apply aJ|apply aS)|with_reducible apply aA)
   all_goals first|rw [e1 (by assumption)]|rw [e0 (by assumption)]
   all_goals
    refine bG (σ := Nat × (List Nat × Bool)) [0, 3, 7, 20, 21, 22, 47, 48] [(0, _), (3, _), (7, _), (20, _), (21, _), (22, _), (47, _), (48, _)] [] [] (fun j => [(49, iv (j.1 : Int)), (4, bv j.2.2)]) (fun j => [(0, some (flat cW j.2.1))]) (fun j => j.1 ≤ pts[k]!.next.length ∧ j.2 = ((s9 pts k).take j.1).foldl (kQ mR (vL ts pts k u[k]!)) (u, c) ∧ SG pts (IJ ts pts) j.2.1) (fun j => pts[k]!.next.length - j.1) (0, (u, c)) ⟨by omega, rfl, hS2⟩ rfl rfl (by repeat' (first|exact trivial|refine And.intro rfl ?_)) (by repeat' (first|exact trivial|refine And.intro (.inr rfl) ?_)) ?_
    rintro ⟨j, u2, c2⟩ ⟨hj, hf2, hS3⟩
    dsimp only at hj hf2 hS3 ⊢
    have hul2 := hS3.1
    have hsm2 : ∀ z : Nat, Sm u2[z]! := by
     intro z
     by_cases hz : z < pts.length
     ·exact ⟨Nat.lt_of_lt_of_le (hS3.2 z hz).1 (Nat.pow_le_pow_right (by decide) (by omega))⟩
     ·rw [getElem!_neg u2 z (by rw [hul2]; exact hz)]; exact ⟨by decide⟩
    have hz : j < pts[k]!.next.length → 0 ≤ pts[k]!.next[j]! ∧ pts[k]!.next[j]! < pts.length := fun h => w.nx k hkn _ (dD _ _ h)
    repeat' (first|(apply aM;first|(apply aD;rfl;rfl)|(first|(apply dE;(case hx|hH => rfl);(case hf|hg|hα => infer_instance);(case hk => omega);(case hc|hN => rfl))|(apply aL;rfl;rfl;rfl;rfl))|(first|(apply fU;rfl;rfl;infer_instance;infer_instance;infer_instance;rfl)|(apply bO;rfl;rfl;omega;rfl)|(apply aV;rfl;rfl;rfl;rfl))|(apply aC;rfl;rfl)|(first|(apply bB;(case hx|hi => rfl);(case hm => (omega));(case hml => (rfl));(case hα | hf|hg => infer_instance);(case hN => rfl))|(apply dO;rfl;rfl;(omega);rfl))|(apply aF;kernel_rfl)|(apply a7;rfl;rfl;rfl;rfl;rfl;(rw [aK]; simp only [fD] <;> omega);(exact n6 (by (omega)))))|(apply aO;first|apply aH|apply aB|(apply b9;kernel_rfl)|(apply aP;rfl;all_goals intro hc;have hq:=hc;(try simp only [cD] at hq);try exfalso;omega)|apply aJ|apply aS|apply bF)|with_reducible apply aA|with_reducible apply bE|with_reducible apply aT|with_reducible apply bD)
    ·have hzz := hz (by omega)
     have hed : eM pts k (pts[k]!.next[j]!).toNat := ⟨hkn, by rw [Int.toNat_of_nonneg hzz.1]; exact dD _ _ (by omega)⟩
     have hne : mR u2[(pts[k]!.next[j]!).toNat]! (vL ts pts k u[k]!) ≠ u2[(pts[k]!.next[j]!).toNat]! := fun h => hq (congrArg Int.ofNat h)
     (apply c6 (j + 1, (_, true));focus (refine Le.ren [(0, 0)] rfl (by decide) ?_ ?_ <;> repeat' (first|exact trivial|refine And.intro ⟨_, rfl, ?_⟩ ?_|refine And.intro ⟨_, _, rfl, rfl, ?_⟩ ?_|exact Or.inr rfl|refine Or.inl ⟨?_, (by first|rfl|exact aX _ _|exact Pur.pf)⟩|rfl)))
     ·dsimp only
      refine ⟨by omega, ?_, vU fl w (hS2.2 k hkn) hed hS3⟩
      rw [iT (by omega), ← hf2, v7 hne]
     ·dsimp only;omega
    ·have hzz := hz (by omega)
     have hne : mR u2[(pts[k]!.next[j]!).toNat]! (vL ts pts k u[k]!) = u2[(pts[k]!.next[j]!).toNat]! := Int.ofNat.inj hq
     (apply c6 (j + 1, (u2, c2));focus (refine Le.ren [(0, 0)] rfl (by decide) ?_ ?_ <;> repeat' (first|exact trivial|refine And.intro ⟨_, rfl, ?_⟩ ?_|refine And.intro ⟨_, _, rfl, rfl, ?_⟩ ?_|exact Or.inr rfl|refine Or.inl ⟨?_, (by first|rfl|exact aX _ _|exact Pur.pf)⟩|rfl)))
     ·dsimp only
      refine ⟨by omega, ?_, hS3⟩
      rw [iT (by omega), ← hf2, vJ hne]
     ·dsimp only;omega
    ·(apply c6 (k + 1, (u2, c2)); focus (refine Le.ren [(0, 0)] rfl (by decide) ?_ ?_ <;> repeat' (first | exact trivial | refine And.intro ⟨_, rfl, ?_⟩ ?_ | refine And.intro ⟨_, _, rfl, rfl, ?_⟩ ?_ | exact Or.inr rfl | refine Or.inl ⟨?_, (by first | rfl | exact aX _ _ | exact Pur.pf)⟩ | rfl)))
     ·dsimp only
      refine ⟨by omega, ?_, hS3⟩
      rw [eS, ← hf, hf2, List.take_of_length_le (by rw [k5]; omega)]; rfl
     ·dsimp only;omega
  ·repeat' (first | (apply aM; first | (apply aV;rfl;rfl;rfl;rfl) | (apply aF;kernel_rfl)) | (apply aO; first | apply aH | apply aB | (apply aP;rfl;all_goals intro hc;have hq:=hc;(try simp only [cD] at hq);try exfalso;omega) | apply bF) | with_reducible apply aA | with_reducible apply bE | with_reducible apply aT | with_reducible apply bD)
   have law := qW w fl s false hS
   have hfull : (u, c) = u9 mR (vL ts pts) pts (s, false) := by
    rw [hf, show k = pts.length by omega]; rfl
   rw [← hfull] at law
   (apply c6 (u, c);focus (refine Le.ren [(0, 0)] rfl (by decide) ?_ ?_ <;> repeat' (first|exact trivial|refine And.intro ⟨_, rfl, ?_⟩ ?_|refine And.intro ⟨_, _, rfl, rfl, ?_⟩ ?_|exact Or.inr rfl|refine Or.inl ⟨?_, (by first|rfl|exact aX _ _|exact Pur.pf)⟩|rfl)))
   ·dsimp only
    refine ⟨hS2, fun h => ?_⟩
    rcases law.2 with ⟨e1, e2⟩ | ⟨e1, _⟩
    ·cases e1;exact e2
    ·dsimp only at e1;rw [h] at e1;cases e1
   ·dsimp only
    have hb : b = true := by assumption
    subst hb
    rcases law.2 with ⟨e1, e2⟩ | ⟨e1, e2⟩
    ·cases e1;simp
    ·dsimp only at e1 e2;subst e1;omega
 ·have hb : b = false := by assumption
  refine cA (Le.frzD (d := 2) (i := 0) rfl rfl) ?_
  refine aU rfl ⟨?_, (by (exact aX _ _))⟩
  simp only [bQ]
  rw [B6 hA (Es w hS (hC hb))]
theorem Aw (ts : List Int) (bd : List AL.Stmt) (pts : List Pnt) (i : Int) (f : List Nat) (w : WG ts pts) (hi : 0 ≤ i ∧ i < pts.length) (hf : f.length = 6) (hs : ∀ z : Nat, Sm f[z]!) : PC Tryz.prog 165 [aG ts bd pts, iv i, .agg (flat cW f)] (fun r => r = .agg (flat cW (wO ts pts i.toNat f))) := by
 have hpl := w.pl
 have htl := w.tl
 have hin : i.toNat < pts.length := by omega
 have hst := (w.set i.toNat hin)
 have hy := w.y i.toNat hin
 have hbl := kF (wS ts pts[i.toNat]! [2])
 have hT : Sm (wS ts pts[i.toNat]! [2]) := fB (by omega)
 (refine aQ Tryz.func165 rfl (by simp [Tryz.ntmps165]) ?_; rw [Tryz.ntmps165])
 repeat' (first|(apply aM;first|(apply aD;rfl;rfl)|(first|(apply aL;rfl;rfl;rfl;rfl)|(apply a6;rfl;rfl;(first|exact (rfl:_=[_, _, _, _, _])|rfl);rfl;rfl;rfl)|(apply jU;rfl;rfl;(assumption);rfl;rfl))|(apply aE;rfl;rfl;rfl)|(apply cC;(case hx|hi => rfl);(case hm => (assumption));(case hml => (rfl));(case hα | hf|hg => infer_instance);(case hN => rfl))|(first|((with_reducible apply aI (k := 100));(case ha => rfl);(case h => (apply vQ <;> (assumption)));(case hp => (rfl));(case hN => rfl))|((with_reducible apply aI (k := 139));(case ha => rfl);(case h => (apply p8 <;> (assumption)));(case hp => (exact Pur.pf));(case hN => rfl)))|(apply a8;rfl;rfl;rfl)|(apply aF;kernel_rfl)|(apply dJ;rfl;rfl;rfl)|(apply bW;rfl;rfl;rfl;rfl)|(apply bT;rfl;rfl)|(apply a7;rfl;rfl;rfl;rfl;rfl;(case hl => (simp;done));(exact (rfl:_=[_, _, _, _, _])))|(apply g6;rfl;rfl;rfl;(assumption);(rfl)))|(apply aO;first|apply aH|apply aB|apply aJ)|with_reducible apply aA)
 refine bG (σ := Nat × List Nat) [0, 1, 5, 6, 7, 8, 23, 24] [(0, _), (1, _), (5, _), (6, _), (7, _), (8, _), (23, _), (24, _)] [0, 1, 2] [(0, some _), (1, some _), (2, some _)] (fun k => [(25, iv (k.1 : Int))]) (fun k => [(3, some (flat cW k.2))]) (fun k => k.1 ≤ (cJ (wS ts pts[i.toNat]! [2])).length ∧ k.2 = mV ((cJ (wS ts pts[i.toNat]! [2])).take k.1) f ∧ k.2.length = 6) (fun k => (cJ (wS ts pts[i.toNat]! [2])).length - k.1) (0, f) ⟨by omega, rfl, hf⟩ rfl rfl (by repeat' (first|exact trivial|refine And.intro rfl ?_)) (by repeat' (first|exact trivial|refine And.intro (.inr rfl) ?_)) ?_
 rintro ⟨k, u⟩ ⟨hk, hu, hul⟩
 dsimp only at hk hu hul ⊢
 have hbb : k < (cJ (wS ts pts[i.toNat]! [2])).length → 0 ≤ (cJ (wS ts pts[i.toNat]! [2]))[k]! ∧ (cJ (wS ts pts[i.toNat]! [2]))[k]! < ts.length := fun h => lQ (tP (fun v => decide (cE ts pts[i.toNat]! v ∈ [2])) ts.length) h
 have husm : ∀ z : Nat, Sm u[z]! := by intro z;rw [hu]; exact Ht hs z
 have hset : ∀ (k a : Nat) [Sm a] (z : Nat), Sm (u.set k a)[z]! := fun k a h z => At husm h z
 have hset2 : ∀ (k a k2 a2 : Nat) [Sm a] [Sm a2] (z : Nat), Sm ((u.set k a).set k2 a2)[z]! := fun k a k2 a2 h h2 z => At (At husm h) h2 z
 by_cases hkn : k < (cJ (wS ts pts[i.toNat]! [2])).length
 ·have hbk := hbb hkn
  repeat' (first|(apply aM;first|(apply aD;rfl;rfl)|(apply aL;rfl;rfl;rfl;rfl)|(first|(apply bO;rfl;rfl;omega;rfl)|(apply aV;rfl;rfl;rfl;rfl))|(apply aC;rfl;rfl)|(first|(apply bB;(case hx|hi => rfl);(case hm => (assumption));(case hml => (rfl));(case hα | hf|hg => infer_instance);(case hN => rfl))|(apply iE;rfl;rfl;(omega);rfl;rfl))|(apply aF;kernel_rfl)|(apply a7;rfl;rfl;rfl;rfl;rfl;(rw [aK]; simp only [fD] <;> omega);(exact n6 (by (omega)))))|(apply aO;first|apply aH|apply aB|(apply aP;rfl;all_goals intro hc;have hq:=hc;(try simp only [cD] at hq);try exfalso;omega)|apply aJ|apply aS)|with_reducible apply aA|with_reducible apply aT)
  (apply Exists.intro (k + 1, u.set ((cJ (wS ts pts[i.toNat]! [2]))[k]!).toNat 0);refine And.intro ?_ (And.intro ?_ ?_);rotate_left 2;focus (refine Le.ren [(0, 0), (1, 1), (2, 2), (3, 3)] rfl (by decide) ?_ ?_ <;> repeat' (first|exact trivial|refine And.intro ⟨_, rfl, ?_⟩ ?_|refine And.intro ⟨_, _, rfl, rfl, ?_⟩ ?_|exact Or.inr rfl|refine Or.inl ⟨?_, (by first|rfl|exact aX _ _|exact Pur.pf)⟩|rfl)))
  ·dsimp only
   exact ⟨by omega, by rw [BY hkn, ← hu], by simpa using hul⟩
  ·dsimp only;omega
 ·have hu' : u = mV (cJ (wS ts pts[i.toNat]! [2])) f := by rw [hu, List.take_of_length_le (by omega)]
  cases hln : c9 pts[i.toNat]!
  ·repeat' (first | (apply aM; first | (apply aD;rfl;rfl) | (first | (apply dE; (case hx | hH => rfl); (case hf | hg | hα => infer_instance); (case hk => omega); (case hc | hN => rfl)) | (apply aL;rfl;rfl;rfl;rfl) | (apply a6;rfl;rfl;(first | exact (rfl:_=[_, _, _, _, _]) | rfl);rfl;rfl;rfl) | (apply jU;rfl;rfl;(first | assumption | (simp only [fD] <;> omega));rfl;rfl) | (apply oF;rfl;rfl;(exact IE);(simp only [fD] <;> omega);rfl)) | (apply aE;rfl;rfl;rfl) | (first | (apply a9;rfl;rfl;rfl;(rfl)) | (apply aZ;rfl;rfl;rfl;(assumption))) | (first | (apply fU;rfl;rfl;infer_instance;infer_instance;infer_instance;rfl) | (apply aV;rfl;rfl;rfl;rfl)) | (apply aC;rfl;rfl) | (apply bH;rfl;(first | rfl | assumption);rfl;rfl) | (apply iE;rfl;rfl;(omega);rfl;rfl) | (first | ((with_reducible apply aI (k := 140)); (case ha => rfl); (case h => (apply wN <;> (fail))); (case hp => (exact Pur.pf)); (case hN => rfl)) | ((with_reducible apply aI (k := 196)); (case ha => rfl); (case h => (apply lR <;> (fail))); (case hp => (exact Pur.pf)); (case hN => rfl))) | (apply aF;kernel_rfl) | (apply a7;rfl;rfl;rfl;rfl;rfl;(rw [aK]; simp only [fD] <;> omega);(exact n6 (by (first | omega | (simp only [fD] <;> omega))))) | (apply g6;rfl;rfl;rfl;(first | assumption | (simp only [fD] <;> omega));(rfl))) | (apply aO; first | apply aH | apply aB | (apply b9;kernel_rfl) | (apply cF;rfl;(assumption)) | (apply aP;rfl;all_goals intro hc;have hq:=hc;(try simp only [cD] at hq);try exfalso;omega) | apply aS | apply bF | apply aW) | with_reducible apply aA | with_reducible apply b0 | with_reducible apply bE | with_reducible apply bD)
   all_goals (refine aU (m9 (z := 6) rfl rfl (by first|exact hul|(simp only [List.length_set]; exact hul)) (by decide)) ⟨?_, (by (exact aX _ _))⟩)
   all_goals simp only [bQ, wO, ← hu', hln, Bool.false_eq_true, false_and, false_or, if_false]
   all_goals congr 2
   all_goals grind
  ·have hop := nL hln
   repeat' (first|(apply aM;first|(apply aD;rfl;rfl)|(first|(apply dE;(case hx|hH => rfl);(case hf|hg|hα => infer_instance);(case hk => omega);(case hc|hN => rfl))|(apply aL;rfl;rfl;rfl;rfl)|(apply a6;rfl;rfl;(first|exact (rfl:_=[_, _, _, _, _])|rfl);rfl;rfl;rfl)|(apply jU;rfl;rfl;(first|assumption|(simp only [fD] <;> omega));rfl;rfl)|(apply oF;rfl;rfl;(exact IE);(simp only [fD] <;> omega);rfl))|(apply aE;rfl;rfl;rfl)|(first|(apply a9;rfl;rfl;rfl;(assumption))|(apply aZ;rfl;rfl;rfl;(assumption))|(apply bC;(case hj|hb|hN => rfl);all_goals (intro hg;have hq := hg;(try simp only [cD] at hq);(try (exfalso;omega)))))|(first|(apply fU;rfl;rfl;infer_instance;infer_instance;infer_instance;rfl)|(apply jR;rfl;rfl;infer_instance;omega;rfl;(case' kk => intro hsm))|(apply aV;rfl;rfl;rfl;rfl))|(apply aC;rfl;rfl)|(first|(apply bI;rfl;(assumption);rfl;rfl)|(apply bH;rfl;(assumption);rfl;rfl))|(first|(apply cC;(case hx|hi => rfl);(case hm => (omega));(case hml => (rfl));(case hα | hf|hg => infer_instance);(case hN => rfl))|(apply iE;rfl;rfl;(omega);rfl;rfl))|(first|((with_reducible apply aI (k := 140));(case ha => rfl);(case h => (apply wN <;> (fail)));(case hp => (exact Pur.pf));(case hN => rfl))|((with_reducible apply aI (k := 196));(case ha => rfl);(case h => (apply lR <;> (fail)));(case hp => (exact Pur.pf));(case hN => rfl))|((with_reducible apply aI (k := 197));(case ha => rfl);(case h => (apply yO <;> (fail)));(case hp => (rfl));(case hN => rfl)))|(apply aF;kernel_rfl)|(apply dJ;rfl;rfl;rfl)|(apply a7;rfl;rfl;rfl;rfl;rfl;(rw [aK]; simp only [fD] <;> omega);(exact n6 (by (first|omega|(simp only [fD] <;> omega)))))|(apply g6;rfl;rfl;rfl;(first|assumption|(simp only [fD] <;> omega));(rfl)))|(apply aO;first|apply aH|apply aB|(apply b9;kernel_rfl)|(apply bX;rfl;(first|rfl|assumption))|(apply aP;rfl;all_goals intro hc;have hq:=hc;(try simp only [cD] at hq);try exfalso;omega)|apply aS|apply bF|apply aW)|with_reducible apply aA|with_reducible apply b0|with_reducible apply bE|with_reducible apply bD)
   all_goals (refine aU (m9 (z := 6) rfl rfl (by first|exact hul|(simp only [List.length_set]; exact hul)) (by decide)) ⟨?_, (by (exact aX _ _))⟩)
   all_goals simp only [bQ, wO, ← hu', hln, true_and, if_true]
   all_goals congr 2
   all_goals grind
theorem Cy (ts : List Int) (bd : List AL.Stmt) (pts : List Pnt) (A : List Nat) (w : WG ts pts) (hA : pE ts pts A) : PC Tryz.prog 125 [aG ts bd pts] (fun r => r = .imm pts.length (flat cW A)) := by
 have hpl := w.pl
 have hp0 := w.p0
 have htl := w.tl
 (refine aQ Tryz.func125 rfl (by simp [Tryz.ntmps125]) ?_; rw [Tryz.ntmps125])
 repeat' (first|(apply aM;first|(apply aD;rfl;rfl)|(apply aL;rfl;rfl;rfl;rfl)|(apply aE;rfl;rfl;rfl)|(apply aC;rfl;rfl)|(apply a8;rfl;rfl;rfl)|(apply aF;kernel_rfl)|(apply dJ;rfl;rfl;rfl)|(apply cR;rfl;rfl;rfl;omega;omega;(exact DY);rfl;rfl))|(apply aO;first|apply aH|apply aB|apply aJ)|with_reducible apply aA)
 refine bG (σ := List Nat × Bool) [0, 3] [(0, _), (3, _)] [] [] (fun s => [(4, bv s.2)]) (fun s => [(0, some (flat cW s.1))]) (fun s => SF ts pts s.1 ∧ (s.2 = false → vB ts pts s.1)) (fun s => 2 * fM (s.1.map (fun x => 2 ^ pts.length - x)) + s.2.toNat) (List.replicate (pts.length * 6) 0, true) ⟨Hx, fun h => by cases h⟩ rfl rfl (by repeat' (first|exact trivial|refine And.intro rfl ?_)) (by repeat' (first|exact trivial|refine And.intro (.inr rfl) ?_)) ?_
 rintro ⟨s, b⟩ ⟨hS, hC⟩
 dsimp only at hS hC ⊢
 repeat' (first|(apply aM;first|(apply aD;rfl;rfl)|(apply aL;rfl;rfl;rfl;rfl)|(apply aE;rfl;rfl;rfl)|(apply aC;rfl;rfl)|(apply a8;rfl;rfl;rfl)|(apply aF;kernel_rfl)|(apply dJ;rfl;rfl;rfl))|(apply aO;first|apply aH|apply aB|(apply aP;rfl;all_goals intro hc;have hq:=hc;(try simp only [cD] at hq);try exfalso;omega)|apply aJ|apply aS|apply bF|apply aW)|with_reducible apply aA|with_reducible apply bE|with_reducible apply bD)
 ·refine bG (σ := Nat × (List Nat × Bool)) [0, 3, 22, 23] [(0, _), (3, _), (22, _), (23, _)] [] [] (fun k => [(24, iv (k.1 : Int)), (4, bv k.2.2)]) (fun k => [(0, some (flat cW k.2.1))]) (fun k => k.1 ≤ pts.length ∧ k.2 = (List.range k.1).foldl (AH ts pts) (s, false) ∧ SF ts pts k.2.1) (fun k => pts.length - k.1) (0, (s, false)) ⟨by omega, rfl, hS⟩ rfl rfl (by repeat' (first | exact trivial | refine And.intro rfl ?_)) (by repeat' (first | exact trivial | refine And.intro (.inr rfl) ?_)) ?_
  rintro ⟨i, u, c⟩ ⟨hk, hf, hS2⟩
  dsimp only at hk hf hS2 ⊢
  have hul := hS2.1
  have hsm : ∀ z : Nat, Sm u[z]! := Hg w hS2
  by_cases hin : i < pts.length
  ·have hnl := w.nl i hin
   have hrl : ((u.drop (i * 6)).take 6).length = 6 := gH hul hin
   have hrs : ∀ z : Nat, Sm ((u.drop (i * 6)).take 6)[z]! := by
    intro z
    by_cases hz : z < 6
    ·have := fQ hul hin hz;unfold e5 at this;rw [this]; exact hsm _
    ·rw [getElem!_neg _ z (by rw [hrl]; exact hz)]; exact ⟨by decide⟩
   have hcl : (wO ts pts (i : Int).toNat ((u.drop (i * 6)).take 6)).length = 6 := (GK ts pts i ((u.drop (i * 6)).take 6)).trans hrl
   repeat' (first|(apply aM;first|(apply aD;rfl;rfl)|(first|(apply aL;rfl;rfl;rfl;rfl)|(apply a6;rfl;rfl;(first|exact (rfl:_=[_, _, _, _, _])|rfl);rfl;rfl;rfl)|(apply w8;rfl;rfl;(omega);rfl;rfl))|(apply aE;rfl;rfl;rfl)|(apply aV;rfl;rfl;rfl;rfl)|(apply aC;rfl;rfl)|(first|(apply bB;(case hx|hi => rfl);(case hm => (assumption));(case hml => (rfl));(case hα | hf|hg => infer_instance);(case hN => rfl))|(apply cL;rfl;rfl;(assumption);rfl))|((with_reducible apply aI (k := 165));(case ha => rfl);(case h => (apply Aw <;> (first|assumption|omega)));(case hp => (exact Pur.pf));(case hN => rfl))|(apply a8;rfl;rfl;rfl)|(apply aF;kernel_rfl)|(apply bT;rfl;rfl)|(apply a7;rfl;rfl;rfl;rfl;rfl;(case hl => (simp;done));(exact (rfl:_=[_, _, _, _, _])))|(apply g6;rfl;rfl;rfl;(assumption);(rfl)))|(apply aO;first|apply aH|apply aB|(apply aP;rfl;all_goals intro hc;have hq:=hc;(try simp only [cD] at hq);try exfalso;omega)|apply aJ|apply aS)|with_reducible apply aA)
   generalize hcf : wO ts pts (i : Int).toNat ((u.drop (i * 6)).take 6) = a at hcl
   have hcf' : wO ts pts i (e5 u i) = a := hcf
   have hasnd : ∀ k, eM pts i k → ∀ v, v < 6 → II ts pts k v a[v]! := fun k e v hv => by rw [← hcf']; exact Bh w hS2 e hv
   refine bG (σ := Nat × (List Nat × Bool)) [0, 3, 7, 22, 23, 24, 37, 38] [(0, _), (3, _), (7, _), (22, _), (23, _), (24, _), (37, _), (38, _)] [2] [(2, some _)] (fun j => [(39, iv (j.1 : Int)), (4, bv j.2.2)]) (fun j => [(0, some (flat cW j.2.1))]) (fun j => j.1 ≤ pts[i]!.next.length ∧ j.2 = ((s9 pts i).take j.1).foldl (tE a) (u, c) ∧ SF ts pts j.2.1) (fun j => pts[i]!.next.length - j.1) (0, (u, c)) ⟨by omega, rfl, hS2⟩ rfl rfl (by repeat' (first|exact trivial|refine And.intro rfl ?_)) (by repeat' (first|exact trivial|refine And.intro (.inr rfl) ?_)) ?_
   rintro ⟨j, u2, c2⟩ ⟨hj, hf2, hS3⟩
   dsimp only at hj hf2 hS3 ⊢
   have hul2 := hS3.1
   by_cases hjn : j < pts[i]!.next.length
   ·have hzz : 0 ≤ pts[i]!.next[j]! ∧ pts[i]!.next[j]! < pts.length := w.nx i hin _ (dD _ _ hjn)
    have hed : eM pts i (pts[i]!.next[j]!).toNat := ⟨hin, by rw [Int.toNat_of_nonneg hzz.1]; exact dD _ _ hjn⟩
    have hap := hasnd _ hed
    have hasm : ∀ z : Nat, Sm a[z]! := by
     intro z
     by_cases hz : z < 6
     ·exact ⟨Nat.lt_of_lt_of_le (hap z hz).1 (Nat.pow_le_pow_right (by decide) (by omega))⟩
     ·rw [getElem!_neg a z (by rw [hcl]; exact hz)]; exact ⟨by decide⟩
    repeat' (first|(apply aM;first|(apply aD;rfl;rfl)|(first|(apply aL;rfl;rfl;rfl;rfl)|(apply jU;rfl;rfl;(assumption);rfl;rfl))|(apply aV;rfl;rfl;rfl;rfl)|(apply aC;rfl;rfl)|(apply bB;(case hx|hi => rfl);(case hm => (assumption));(case hml => (rfl));(case hα | hf|hg => infer_instance);(case hN => rfl))|(apply aF;kernel_rfl))|(apply aO;first|apply aH|apply aB|(apply aP;rfl;all_goals intro hc;have hq:=hc;(try simp only [cD] at hq);try exfalso;omega)|apply aJ|apply aS)|with_reducible apply aA)
    refine bG (σ := Nat × (List Nat × Bool)) [0, 3, 7, 9, 22, 23, 24, 37, 38, 39, 43] [(0, _), (3, _), (7, _), (9, _), (22, _), (23, _), (24, _), (37, _), (38, _), (39, _), (43, _)] [2] [(2, some _)] (fun v => [(44, iv (v.1 : Int)), (4, bv v.2.2)]) (fun v => [(0, some (flat cW v.2.1))]) (fun v => v.1 ≤ 6 ∧ v.2 = (List.range v.1).foldl (oU a (pts[i]!.next[j]!).toNat) (u2, c2) ∧ SF ts pts v.2.1) (fun v => 6 - v.1) (0, (u2, c2)) ⟨by omega, rfl, hS3⟩ rfl rfl (by repeat' (first|exact trivial|refine And.intro rfl ?_)) (by repeat' (first|exact trivial|refine And.intro (.inr rfl) ?_)) ?_
    rintro ⟨v, u3, c3⟩ ⟨hv, hf3, hS4⟩
    dsimp only at hv hf3 hS4 ⊢
    have hul3 := hS4.1
    have hsm3 : ∀ z : Nat, Sm u3[z]! := Hg w hS4
    by_cases hvn : v < 6
    ·have hlaw := xX (dZ w hed) hap u3 c3 v hvn hS4
     repeat' (first|(apply aM;first|(apply aD;rfl;rfl)|(apply oF;rfl;rfl;(exact Jb);(omega);rfl)|(first|(apply fU;rfl;rfl;infer_instance;infer_instance;infer_instance;rfl)|(apply bO;rfl;rfl;omega;rfl)|(apply aV;rfl;rfl;rfl;rfl))|(apply aC;rfl;rfl)|(first|(apply dO;rfl;rfl;(assumption);rfl)|(apply iE;rfl;rfl;(omega);rfl;rfl))|(apply aF;kernel_rfl)|(apply Ad;rfl;rfl;(assumption);omega;rfl)|(apply a7;rfl;rfl;rfl;rfl;rfl;(rw [aK]; simp only [fD] <;> omega);(exact D2 (by (omega)))))|(apply aO;first|apply aH|apply aB|(apply b9;kernel_rfl)|(apply aP;rfl;all_goals intro hc;have hq:=hc;(try simp only [cD] at hq);try exfalso;omega)|apply aJ|apply aS)|with_reducible apply aA|with_reducible apply aT)
     ·have hne : mR u3[(pts[i]!.next[j]!).toNat * 6 + v]! a[v]! ≠ u3[(pts[i]!.next[j]!).toNat * 6 + v]! := fun h => hq (congrArg Int.ofNat h)
      have e1 : oU a (pts[i]!.next[j]!).toNat (u3, c3) v = (u3.set ((pts[i]!.next[j]!).toNat * 6 + v) (mR u3[(pts[i]!.next[j]!).toNat * 6 + v]! a[v]!), true) := v7 hne
      rw [e1] at hlaw
      (apply c6 (v + 1, (_, true));focus (refine Le.ren [(0, 0), (2, 2)] rfl (by decide) ?_ ?_ <;> repeat' (first|exact trivial|refine And.intro ⟨_, rfl, ?_⟩ ?_|refine And.intro ⟨_, _, rfl, rfl, ?_⟩ ?_|exact Or.inr rfl|refine Or.inl ⟨?_, (by first|rfl|exact aX _ _|exact Pur.pf)⟩|rfl)))
      ·dsimp only
       refine ⟨by omega, ?_, hlaw.1⟩
       rw [tV, ← hf3, e1]; rfl
      ·dsimp only;omega
     ·have hne : mR u3[(pts[i]!.next[j]!).toNat * 6 + v]! a[v]! = u3[(pts[i]!.next[j]!).toNat * 6 + v]! := Int.ofNat.inj hq
      have e1 : oU a (pts[i]!.next[j]!).toNat (u3, c3) v = (u3, c3) := vJ hne
      (apply c6 (v + 1, (u3, c3));focus (refine Le.ren [(0, 0), (2, 2)] rfl (by decide) ?_ ?_ <;> repeat' (first|exact trivial|refine And.intro ⟨_, rfl, ?_⟩ ?_|refine And.intro ⟨_, _, rfl, rfl, ?_⟩ ?_|exact Or.inr rfl|refine Or.inl ⟨?_, (by first|rfl|exact aX _ _|exact Pur.pf)⟩|rfl)))
      ·dsimp only
       refine ⟨by omega, ?_, hS4⟩
       rw [tV, ← hf3, e1]
      ·dsimp only;omega
    ·have hv6 : v = 6 := by omega
     subst hv6
     repeat' (first|(apply aM;first|(apply aD;rfl;rfl)|(first|(apply bO;rfl;rfl;omega;rfl)|(apply aV;rfl;rfl;rfl;rfl))|(apply aF;kernel_rfl))|(apply aO;first|apply aH|apply aB|(apply cF;rfl;(rfl))|apply bF)|with_reducible apply aA|with_reducible apply bE|with_reducible apply aT|with_reducible apply bD)
     (apply c6 (j + 1, (u3, c3));focus (refine Le.ren [(0, 0), (2, 2)] rfl (by decide) ?_ ?_ <;> repeat' (first|exact trivial|refine And.intro ⟨_, rfl, ?_⟩ ?_|refine And.intro ⟨_, _, rfl, rfl, ?_⟩ ?_|exact Or.inr rfl|refine Or.inl ⟨?_, (by first|rfl|exact aX _ _|exact Pur.pf)⟩|rfl)))
     ·dsimp only
      refine ⟨by omega, ?_, hS4⟩
      rw [BW hjn, ← hf2, hf3]; rfl
     ·dsimp only;omega
   ·repeat' (first | (apply aM; first | (apply aD;rfl;rfl) | (first | (apply bO;rfl;rfl;omega;rfl) | (apply aV;rfl;rfl;rfl;rfl)) | (apply aF;kernel_rfl)) | (apply aO; first | apply aH | apply aB | (apply aP;rfl;all_goals intro hc;have hq:=hc;(try simp only [cD] at hq);try exfalso;omega) | apply bF) | with_reducible apply aA | with_reducible apply bE | with_reducible apply aT | with_reducible apply bD)
    (apply c6 (i + 1, (u2, c2));focus (refine Le.ren [(0, 0)] rfl (by decide) ?_ ?_ <;> repeat' (first|exact trivial|refine And.intro ⟨_, rfl, ?_⟩ ?_|refine And.intro ⟨_, _, rfl, rfl, ?_⟩ ?_|exact Or.inr rfl|refine Or.inl ⟨?_, (by first|rfl|exact aX _ _|exact Pur.pf)⟩|rfl)))
    ·dsimp only
     refine ⟨by omega, ?_, hS3⟩
     rw [eS, ← hf, hf2, List.take_of_length_le (by rw [k5]; omega), ← hcf']; rfl
    ·dsimp only;omega
  ·repeat' (first | (apply aM; first | (apply aV;rfl;rfl;rfl;rfl) | (apply aF;kernel_rfl)) | (apply aO; first | apply aH | apply aB | (apply aP;rfl;all_goals intro hc;have hq:=hc;(try simp only [cD] at hq);try exfalso;omega) | apply bF) | with_reducible apply aA | with_reducible apply bE | with_reducible apply aT | with_reducible apply bD)
   have law := DM w s false hS
   have hfull : (u, c) = Ds ts pts (s, false) := by
    rw [hf, show i = pts.length by omega]; rfl
   rw [← hfull] at law
   (apply c6 (u, c);focus (refine Le.ren [(0, 0)] rfl (by decide) ?_ ?_ <;> repeat' (first|exact trivial|refine And.intro ⟨_, rfl, ?_⟩ ?_|refine And.intro ⟨_, _, rfl, rfl, ?_⟩ ?_|exact Or.inr rfl|refine Or.inl ⟨?_, (by first|rfl|exact aX _ _|exact Pur.pf)⟩|rfl)))
   ·dsimp only
    refine ⟨hS2, fun h => ?_⟩
    rcases law.2 with ⟨e1, e2⟩ | ⟨e1, _⟩
    ·cases e1;exact e2
    ·dsimp only at e1;rw [h] at e1;cases e1
   ·dsimp only
    have hb : b = true := by assumption
    subst hb
    rcases law.2 with ⟨e1, e2⟩ | ⟨e1, e2⟩
    ·cases e1;simp
    ·dsimp only at e1 e2;subst e1;omega
 ·have hb : b = false := by assumption
  refine cA (Le.frzD (d := 2) (i := 0) rfl rfl) ?_
  refine aU rfl ⟨?_, (by (exact aX _ _))⟩
  simp only [bQ]
  rw [CF hA (DN w hS (hC hb))]
theorem Io (ts : List Int) (bd : List AL.Stmt) (pts : List Pnt) (i : Int) (lv : Nat) (f : List Nat) (w : WG ts pts) (hi : 0 ≤ i ∧ i < pts.length) (hlv : lv < 2 ^ ts.length) (hf : f.length = 6) (hs : ∀ z : Nat, Sm f[z]!) : PC Tryz.prog 169 [aG ts bd pts, iv i, iv (lv : Int), .agg (flat cW f)] (fun r => r = .v (.int .u64 (tF ts pts[i.toNat]! lv f : Nat))) := by
 have hpl := w.pl
 have htl := w.tl
 have hin : i.toNat < pts.length := by omega
 have hst := (w.set i.toNat hin)
 have hsl : Sm lv := ⟨Nat.lt_of_lt_of_le hlv (Nat.pow_le_pow_right (by decide) (by omega))⟩
 have hT : Sm (wS ts pts[i.toNat]! [2]) := fB (by omega)
 have hB : Sm (hO pts[i.toNat]!) := pM (by omega)
 have hbl := kF (mP lv (wS ts pts[i.toNat]! [2] ||| hO pts[i.toNat]!))
 have hlt : mP lv (wS ts pts[i.toNat]! [2] ||| hO pts[i.toNat]!) < 2 ^ ts.length := Nat.xor_lt_two_pow hlv (Nat.lt_of_le_of_lt Nat.and_le_left hlv)
 (refine aQ Tryz.func169 rfl (by simp [Tryz.ntmps169]) ?_; rw [Tryz.ntmps169])
 repeat' (first|(apply aM;first|(apply aD;rfl;rfl)|(first|(apply aL;rfl;rfl;rfl;rfl)|(apply a6;rfl;rfl;(exact (rfl:_=[_, _, _, _, _]));rfl;rfl;rfl))|(apply aE;rfl;rfl;rfl)|(first|(apply fU;rfl;rfl;infer_instance;infer_instance;infer_instance;rfl)|(apply nX;rfl;rfl;infer_instance;infer_instance;infer_instance;rfl))|(apply aC;rfl;rfl)|(apply cC;(case hx|hi => rfl);(case hm => (assumption));(case hml => (rfl));(case hα | hf|hg => infer_instance);(case hN => rfl))|(first|((with_reducible apply aI (k := 100));(case ha => rfl);(case h => (apply vQ <;> (infer_instance)));(case hp => (rfl));(case hN => rfl))|((with_reducible apply aI (k := 139));(case ha => rfl);(case h => (apply p8 <;> (assumption)));(case hp => (exact Pur.pf));(case hN => rfl))|((with_reducible apply aI (k := 174));(case ha => rfl);(case h => (apply n0 <;> (omega)));(case hp => (exact Pur.pf));(case hN => rfl)))|(apply a8;rfl;rfl;rfl)|(apply aF;kernel_rfl)|(apply dJ;rfl;rfl;rfl)|(apply bW;rfl;rfl;rfl;rfl)|(apply bT;rfl;rfl)|(apply a7;rfl;rfl;rfl;rfl;rfl;(case hl => (simp;done));(exact (rfl:_=[_, _, _, _, _]))))|(apply aO;first|apply aH|apply aB|(apply b9;kernel_rfl)|apply aJ)|with_reducible apply aA)
 refine bG (σ := Nat × Nat) [7, 28, 29] [(7, _), (28, _), (29, _)] [0] [(0, some _)] (fun k => [(30, iv (k.1 : Int)), (10, .v (.int .u64 (k.2 : Int)))]) (fun k => []) (fun k => k.1 ≤ (cJ (mP lv (wS ts pts[i.toNat]! [2] ||| hO pts[i.toNat]!))).length ∧ k.2 = Iu f ((cJ (mP lv (wS ts pts[i.toNat]! [2] ||| hO pts[i.toNat]!))).take k.1) 0 ∧ Sm k.2) (fun k => (cJ (mP lv (wS ts pts[i.toNat]! [2] ||| hO pts[i.toNat]!))).length - k.1) (0, 0) ⟨by omega, rfl, inferInstance⟩ rfl rfl (by repeat' (first|exact trivial|refine And.intro rfl ?_)) (by repeat' (exact trivial)) ?_
 rintro ⟨k, a⟩ ⟨hk, ha, hsa⟩
 dsimp only at hk ha hsa ⊢
 have hbb : k < (cJ (mP lv (wS ts pts[i.toNat]! [2] ||| hO pts[i.toNat]!))).length → 0 ≤ (cJ (mP lv (wS ts pts[i.toNat]! [2] ||| hO pts[i.toNat]!)))[k]! ∧ (cJ (mP lv (wS ts pts[i.toNat]! [2] ||| hO pts[i.toNat]!)))[k]! < ts.length := fun h => lQ hlt h
 repeat' (first|(apply aM;first|(apply aD;rfl;rfl)|(first|(apply dE;(case hx|hH => rfl);(case hf|hg|hα => infer_instance);(case hk => omega);(case hc|hN => rfl))|(apply aL;rfl;rfl;rfl;rfl))|(first|(apply fU;rfl;rfl;infer_instance;infer_instance;infer_instance;rfl)|(apply bO;rfl;rfl;omega;rfl)|(apply aV;rfl;rfl;rfl;rfl))|(apply aC;rfl;rfl)|(first|(apply bB;(case hx|hi => rfl);(case hm => (omega));(case hml => (rfl));(case hα | hf|hg => infer_instance);(case hN => rfl))|(apply iE;rfl;rfl;(omega);rfl;rfl))|(apply aF;kernel_rfl))|(apply aO;first|apply aH|apply aB|(apply aP;rfl;all_goals intro hc;have hq:=hc;(try simp only [cD] at hq);try exfalso;omega)|apply aJ|apply aS|apply bF|apply aW)|with_reducible apply aA|with_reducible apply bE|with_reducible apply aT|with_reducible apply bD)
 ·(apply c6 (k + 1, _); focus (refine Le.ren [(0, 0)] rfl (by decide) ?_ ?_ <;> repeat' (first | exact trivial | refine And.intro ⟨_, rfl, ?_⟩ ?_ | refine And.intro ⟨_, _, rfl, rfl, ?_⟩ ?_ | exact Or.inr rfl | refine Or.inl ⟨?_, (by first | rfl | exact aX _ _)⟩ | rfl)))
  ·dsimp only
   refine ⟨by omega, ?_, inferInstance⟩
   rw [ha]; unfold Iu;rw [eV _ _ _ _ (by omega)]
  ·dsimp only;omega
 ·refine aU rfl ⟨?_, rfl⟩
  simp only [bQ]
  rw [ha, List.take_of_length_le (by omega)]; rfl
theorem zR (ts : List Int) (bd : List AL.Stmt) (pts : List Pnt) (x : Pnt) (mb : Nat) (htl : ts.length ≤ 6) (hmb : Sm mb) (hst : bR x < ts.length) (hy : 0 ≤ x.y ∧ (3 ≤ x.op → x.op ≤ 7 → x.y < ts.length)) : PC Tryz.prog 199 [aG ts bd pts, oH x, iv (mb : Int)] (fun r => r = sl Cs (iH ts x (mb.testBit (bR x).toNat))) := by
 (refine aQ Tryz.func199 rfl (by simp [Tryz.ntmps199]) ?_; rw [Tryz.ntmps199])
 repeat' (first|(apply aM;first|((apply iJ (d := 7) (e := 2));(case hM|hN => rfl))|(apply aD;rfl;rfl)|(first|(apply aL;rfl;rfl;rfl;rfl)|(apply a6;rfl;rfl;(exact (rfl:_=[_, _, _, _, _]));rfl;rfl;rfl))|(apply aE;rfl;rfl;rfl)|(first|(apply a9;rfl;rfl;rfl;(assumption))|(apply aZ;rfl;rfl;rfl;(first|rfl|assumption))|(apply bC;(case hj|hb|hN => rfl);all_goals (intro hg;have hq := hg;(try simp only [cD] at hq);(try (exfalso;omega)))))|(first|(apply pO;rfl;rfl;infer_instance;infer_instance;rfl)|(apply pR;rfl;rfl;infer_instance;infer_instance;omega;rfl)|(apply aV;rfl;rfl;rfl;rfl))|(apply aC;rfl;rfl)|(first|(apply bI;rfl;(assumption);rfl;rfl)|(apply bH;rfl;(first|rfl|assumption);rfl;rfl))|(apply cC;(case hx|hi => rfl);(case hm => (omega));(case hml => (rfl));(case hα | hf|hg => infer_instance);(case hN => rfl))|(first|((with_reducible apply aI (k := 140));(case ha => rfl);(case h => (apply wN <;> (fail)));(case hp => (exact Pur.pf));(case hN => rfl))|((with_reducible apply aI (k := 154));(case ha => rfl);(case h => (apply BI <;> (omega)));(case hp => (exact Pur.pf));(case hN => rfl)))|(apply bV;rfl;rfl;rfl;rfl;rfl;(case hl => (simp [aK]; done));(rfl);omega;omega;(first|exact (rfl:_=[_, _])|exact (rfl:_=[_, _, _, _]));rfl;rfl)|(apply aF;kernel_rfl)|(apply b8;rfl;(exact (rfl:_=some [_, _]));(exact (rfl:_=[_, _]));rfl)|(apply dJ;rfl;rfl;rfl)|(apply bW;rfl;rfl;rfl;rfl)|(apply bK;rfl;rfl;rfl;(exact (rfl:_=some [_, _]));rfl;rfl))|(apply aO;first|apply aH|apply aB|(apply bX;rfl;(assumption))|(apply cF;rfl;(rfl))|(apply aP;rfl;all_goals intro hc;have hq:=hc;(try simp only [cD] at hq);try exfalso;omega)|apply aJ|apply aS|apply aW)|with_reducible apply aA|with_reducible apply aT)
 all_goals first|refine cA (Le.frzD (d := 6) (i := 1) rfl rfl) ?_|refine cA (Le.frzD (d := 6) (i := 3) rfl rfl) ?_|refine cA (Le.frzD (d := 6) (i := 5) rfl rfl) ?_
 all_goals refine aU rfl ⟨?_, (by (rfl))⟩
 all_goals simp only [bQ, iH]
 all_goals have h1 := l4 mb (bR x).toNat
 all_goals (try (rw [if_neg (show ¬ (0 ≤ bR x ∧ ts[(bR x).toNat]! = 2 ∧ mb.testBit (bR x).toNat = true) from fun h => by omega)]))
 all_goals (simp_all <;> rfl)
theorem C4 (ts : List Int) (bd : List AL.Stmt) (pts : List Pnt) (i : Int) (mb loans : Nat) (w : WG ts pts) (hi : 0 ≤ i ∧ i < pts.length) (hmb : Sm mb) (hlo : loans < 2 ^ pts.length) : PC Tryz.prog 168 [aG ts bd pts, iv i, iv (mb : Int), .v (.int .u64 (loans : Int))] (fun r => r = .v (.int .u64 (Ft pts loans (iH ts pts[i.toNat]! (mb.testBit (bR pts[i.toNat]!).toNat)) 0 : Nat))) := by
 have hpl := w.pl
 have htl := w.tl
 have hin : i.toNat < pts.length := by omega
 have hst := (w.set i.toNat hin).1
 have hy := w.y i.toNat hin
 have hx := w.x i.toNat hin
 have hop := w.op i.toNat hin
 have hlsm : Sm loans := ⟨Nat.lt_of_lt_of_le hlo (Nat.pow_le_pow_right (by decide) (by omega))⟩
 have hacc := uZ (mb.testBit (bR pts[i.toNat]!).toNat) w hin
 have hal := yP ts pts[i.toNat]! (mb.testBit (bR pts[i.toNat]!).toNat)
 (refine aQ Tryz.func168 rfl (by simp [Tryz.ntmps168]) ?_; rw [Tryz.ntmps168])
 repeat' (first|(apply aM;first|(apply aD;rfl;rfl)|(first|(apply aL;rfl;rfl;rfl;rfl)|(apply a6;rfl;rfl;(exact (rfl:_=[_, _, _, _, _]));rfl;rfl;rfl))|(apply aE;rfl;rfl;rfl)|(apply aC;rfl;rfl)|(apply cC;(case hx|hi => rfl);(case hm => (assumption));(case hml => (rfl));(case hα | hf|hg => infer_instance);(case hN => rfl))|((with_reducible apply aI (k := 199));(case ha => rfl);(case h => (apply zR <;> (assumption)));(case hp => (exact Pur.pf));(case hN => rfl))|(apply a8;rfl;rfl;rfl)|(apply aF;kernel_rfl)|(apply dJ;rfl;rfl;rfl))|(apply aO;first|apply aH|apply aB|apply aJ)|with_reducible apply aA)
 generalize iH ts pts[i.toNat]! (mb.testBit (bR pts[i.toNat]!).toNat) = acs at hacc hal
 refine bG (σ := Nat × Nat) [0, 3, 23, 24] [(0, _), (3, _), (23, _), (24, _)] [] [] (fun k => [(25, iv (k.1 : Int)), (9, .v (.int .u64 (k.2 : Int)))]) (fun k => []) (fun k => k.1 ≤ acs.length ∧ k.2 = Ft pts loans (acs.take k.1) 0 ∧ k.2 < 2 ^ pts.length) (fun k => acs.length - k.1) (0, 0) ⟨by omega, rfl, Nat.pow_pos (by decide)⟩ rfl rfl (by repeat' (first|exact trivial|refine And.intro rfl ?_)) (by repeat' (exact trivial)) ?_
 rintro ⟨k, a⟩ ⟨hk, ha, hab⟩
 dsimp only at hk ha hab ⊢
 by_cases hkn : k < acs.length
 ·have hcv := hacc _ (dD acs k hkn)
  have hof : ∀ V, Sm (pK pts V) := fun V => EB w V
  have hll := kF (loans &&& pK pts (2 ^ (acs[k]!.var).toNat))
  have hlb : loans &&& pK pts (2 ^ (acs[k]!.var).toNat) < 2 ^ pts.length := Nat.lt_of_le_of_lt Nat.and_le_left hlo
  have htk := eV (fun a c => Gv pts c.write (cJ (loans &&& pK pts (2 ^ c.var.toNat))) a) acs 0 k hkn
  repeat' (first|(apply aM;first|(apply aD;rfl;rfl)|(first|(apply aL;rfl;rfl;rfl;rfl)|(apply a6;rfl;rfl;(exact (rfl:_=[_, _]));rfl;rfl;rfl))|(apply aE;rfl;rfl;rfl)|(first|(apply u6;rfl;rfl;infer_instance;infer_instance;infer_instance;rfl)|(apply jR;rfl;rfl;infer_instance;omega;rfl;(case' kk => intro hsm))|(apply aV;rfl;rfl;rfl;rfl))|(apply bB;(case hx|hi => rfl);(case hm => (assumption));(case hml => (rfl));(case hα | hf|hg => infer_instance);(case hN => rfl))|(first|((with_reducible apply aI (k := 92));(case ha => rfl);(case h => (apply sF <;> (infer_instance)));(case hp => (rfl));(case hN => rfl))|((with_reducible apply aI (k := 198));(case ha => rfl);(case h => (apply yB <;> (assumption)));(case hp => (exact Pur.pf));(case hN => rfl)))|(apply a8;rfl;rfl;rfl)|(apply aF;kernel_rfl)|(apply bT;rfl;rfl)|(apply a7;rfl;rfl;rfl;rfl;rfl;(case hl => (simp;done));(exact (rfl:_=[_, _]))))|(apply aO;first|apply aH|apply aB|(apply aP;rfl;all_goals intro hc;have hq:=hc;(try simp only [cD] at hq);try exfalso;omega)|apply aJ|apply aS)|with_reducible apply aA)
  refine bG (σ := Nat × Nat) [0, 3, 11, 23, 24, 25, 36, 37] [(0, _), (3, _), (11, _), (23, _), (24, _), (25, _), (36, _), (37, _)] [0] [(0, some _)] (fun j => [(38, iv (j.1 : Int)), (9, .v (.int .u64 (j.2 : Int)))]) (fun j => []) (fun j => j.1 ≤ (cJ (loans &&& pK pts (2 ^ (acs[k]!.var).toNat))).length ∧ j.2 = Gv pts acs[k]!.write ((cJ (loans &&& pK pts (2 ^ (acs[k]!.var).toNat))).take j.1) a ∧ j.2 < 2 ^ pts.length) (fun j => (cJ (loans &&& pK pts (2 ^ (acs[k]!.var).toNat))).length - j.1) (0, a) ⟨by omega, rfl, hab⟩ rfl rfl (by repeat' (first|exact trivial|refine And.intro rfl ?_)) (by repeat' (exact trivial)) ?_
  rintro ⟨j, b⟩ ⟨hj, hb, hbb⟩
  dsimp only at hj hb hbb ⊢
  have hbsm : Sm b := ⟨Nat.lt_of_lt_of_le hbb (Nat.pow_le_pow_right (by decide) (by omega))⟩
  by_cases hjn : j < (cJ (loans &&& pK pts (2 ^ (acs[k]!.var).toNat))).length
  ·have hlz := lQ hlb hjn
   have hstep : Gv pts acs[k]!.write ((cJ (loans &&& pK pts (2 ^ (acs[k]!.var).toNat))).take (j + 1)) a = if acs[k]!.write = true ∨ pts[((cJ (loans &&& pK pts (2 ^ (acs[k]!.var).toNat)))[j]!).toNat]!.op = 5 then b ||| 2 ^ ((cJ (loans &&& pK pts (2 ^ (acs[k]!.var).toNat)))[j]!).toNat else b := by
    rw [hb]; unfold Gv;rw [eV _ _ _ _ hjn]
   have hb2 : b ||| 2 ^ ((cJ (loans &&& pK pts (2 ^ (acs[k]!.var).toNat)))[j]!).toNat < 2 ^ pts.length := Nat.or_lt_two_pow hbb (Nat.pow_lt_pow_right (by decide) (by omega))
   repeat' (first|(apply aM;first|(apply aD;rfl;rfl)|(apply aL;rfl;rfl;rfl;rfl)|(apply aE;rfl;rfl;rfl)|(first|(apply a9;rfl;rfl;rfl;(assumption))|(apply aZ;rfl;rfl;rfl;(assumption))|(apply bC;(case hj|hb|hN => rfl);all_goals (intro hg;have hq := hg;(try simp only [cD] at hq);(try (exfalso;omega)))))|(first|(apply fU;rfl;rfl;infer_instance;infer_instance;infer_instance;rfl)|(apply jR;rfl;rfl;infer_instance;omega;rfl;(case' kk => intro hsm))|(apply bO;rfl;rfl;omega;rfl)|(apply aV;rfl;rfl;rfl;rfl))|(apply aC;rfl;rfl)|(first|(apply bI;rfl;(assumption);rfl;rfl)|(apply bH;rfl;(assumption);rfl;rfl))|(first|(apply bB;(case hx|hi => rfl);(case hm => (assumption));(case hml => (rfl));(case hα | hf|hg => infer_instance);(case hN => rfl))|(apply cC;(case hx|hi => rfl);(case hm => (assumption));(case hml => (rfl));(case hα | hf|hg => infer_instance);(case hN => rfl)))|(apply aF;kernel_rfl)|(apply dJ;rfl;rfl;rfl))|(apply aO;first|apply aH|apply aB|(apply bX;rfl;(rfl))|(apply aP;rfl;all_goals intro hc;have hq:=hc;(try simp only [cD] at hq);try exfalso;omega)|apply aJ|apply aS)|with_reducible apply aA|with_reducible apply aT)
   all_goals first
    | ((apply Exists.intro (j + 1, b ||| 2 ^ ((cJ (loans &&& pK pts (2 ^ (acs[k]!.var).toNat)))[j]!).toNat); refine And.intro ?_ (And.intro ?_ ?_); rotate_left 2; focus (refine Le.ren [(0, 0)] rfl (by decide) ?_ ?_ <;> repeat' (first | exact trivial | refine And.intro ⟨_, rfl, ?_⟩ ?_ | refine And.intro ⟨_, _, rfl, rfl, ?_⟩ ?_ | exact Or.inr rfl | refine Or.inl ⟨?_, (by first | rfl | exact aX _ _ | exact Pur.pf)⟩ | rfl)))
       ·dsimp only
        refine ⟨by omega, ?_, hb2⟩
        rw [hstep, if_pos (by first|exact .inl (by assumption)|exact .inr (by assumption))]
       ·dsimp only;omega)
    | ((apply c6 (j + 1, b); focus (refine Le.ren [(0, 0)] rfl (by decide) ?_ ?_ <;> repeat' (first | exact trivial | refine And.intro ⟨_, rfl, ?_⟩ ?_ | refine And.intro ⟨_, _, rfl, rfl, ?_⟩ ?_ | exact Or.inr rfl | refine Or.inl ⟨?_, (by first | rfl | exact aX _ _ | exact Pur.pf)⟩ | rfl)))
       ·dsimp only
        refine ⟨by omega, ?_, hbb⟩
        rw [hstep, if_neg (fun h => h.elim (fun h1 => Bool.noConfusion (h1.symm.trans (by assumption : acs[k]!.write = false))) (fun h2 => absurd h2 (by assumption)))]
       ·dsimp only;omega)
  ·repeat' (first | (apply aM; first | (apply aD;rfl;rfl) | (first | (apply bO;rfl;rfl;omega;rfl) | (apply aV;rfl;rfl;rfl;rfl)) | (apply aF;kernel_rfl)) | (apply aO; first | apply aH | apply aB | (apply aP;rfl;all_goals intro hc;have hq:=hc;(try simp only [cD] at hq);try exfalso;omega) | apply bF) | with_reducible apply aA | with_reducible apply bE | with_reducible apply aT | with_reducible apply bD)
   (apply c6 (k + 1, b);focus (refine Le.ren [] rfl (by decide) ?_ ?_ <;> repeat' (first|exact trivial|refine And.intro ⟨_, rfl, ?_⟩ ?_|refine Or.inl ⟨?_, (by first|rfl|exact aX _ _|exact Pur.pf)⟩|rfl)))
   ·dsimp only
    refine ⟨by omega, ?_, hbb⟩
    rw [hb, List.take_of_length_le (by omega), ha]; unfold Ft;rw [htk]
   ·dsimp only;omega
 ·repeat' (first | (apply aM; first | (apply aD;rfl;rfl) | (apply aV;rfl;rfl;rfl;rfl) | (apply aC;rfl;rfl) | (apply aF;kernel_rfl)) | (apply aO; first | apply aH | apply aB | (apply aP;rfl;all_goals intro hc;have hq:=hc;(try simp only [cD] at hq);try exfalso;omega) | apply bF | apply aW) | with_reducible apply aA | with_reducible apply bE | with_reducible apply bD)
  refine aU rfl ⟨?_, rfl⟩
  simp only [bQ]
  rw [ha, List.take_of_length_le (by omega)]
theorem Cb (n : Nat) (A : List Nat) (i : Int) (hA : A.length = n * 6) (hi : 0 ≤ i ∧ i < n) : PC Tryz.prog 128 [iv i, .iptr [.imm n (flat cW A)]] (fun r => r = .agg (flat cW (e5 A i.toNat))) := by
 have h6 : ((A.drop (i.toNat * 6)).take 6).length = 6 := gH hA (by omega)
 (refine aQ Tryz.func128 rfl (by simp [Tryz.ntmps128]) ?_; rw [Tryz.ntmps128])
 repeat' (first|(apply aM;first|(apply aD;rfl;rfl)|(first|(apply aL;rfl;rfl;rfl;rfl)|(apply yM;rfl;(simp only [fD, List.length_drop] <;> omega);rfl;rfl))|(apply z4;rfl;rfl;(omega);rfl)|(apply aF;kernel_rfl)|(apply bT;rfl;rfl)|(apply g6;rfl;rfl;rfl;(assumption);(rfl)))|(apply aO;first|apply aH|apply aB|apply aW)|with_reducible apply aA)
 refine aU (m9 (z := 6) rfl rfl h6 (by decide)) ⟨rfl, (by (exact aX _ _))⟩
theorem GM (ts : List Int) (bd : List AL.Stmt) (pts : List Pnt) (Aa Am Al Af Ap : List Nat) (n : Nat) (w : WG ts pts) (ga : o6 ts pts Aa) (gm : pF ts pts Am) (gl : o8 ts pts Al) (gf : pE ts pts Af) (gp : pC ts pts Ap) (hn : n = pts.length) :
  PC Tryz.prog 126 [aG ts bd pts, .imm n (flat cN Al), .clos (.func 128) [] [.iptr [.imm n (flat cW Af)]]] (fun r => r = sl kW (yJ ts pts Aa Am Al Af Ap pts.length)) := by
 subst hn
 have hpl := w.pl
 have htl := w.tl
 have hla := ga.1
 have hlm := gm.1
 have hll := gl.1
 have hlf := gf.1
 have hlp := gp.1
 (refine aQ Tryz.func126 rfl (by simp [Tryz.ntmps126]) ?_; rw [Tryz.ntmps126])
 repeat' (first|(apply aM;first|((apply iJ (d := 10) (e := 3));(case hM|hN => rfl))|(apply aD;rfl;rfl)|(apply aL;rfl;rfl;rfl;rfl)|(apply aE;rfl;rfl;rfl)|(apply aC;rfl;rfl)|(first|((with_reducible apply aI (k := 101));(case ha => rfl);(case h => (apply yF <;> (assumption)));(case hp => (exact Pur.pf));(case hN => rfl))|((with_reducible apply aI (k := 166));(case ha => rfl);(case h => (apply GJ <;> (assumption)));(case hp => (exact Pur.pf));(case hN => rfl))|((with_reducible apply aI (k := 167));(case ha => rfl);(case h => (apply EC <;> (assumption)));(case hp => (exact Pur.pf));(case hN => rfl)))|(apply a8;rfl;rfl;rfl)|(apply aF;kernel_rfl)|(apply dJ;rfl;rfl;rfl))|(apply aO;first|apply aH|apply aB|apply aJ)|with_reducible apply aA)
 refine bG (σ := Nat × List Iss × Nat) [0, 1, 2, 7, 8, 9, 27, 28] [(0, _), (1, _), (2, _), (7, _), (8, _), (9, _), (27, _), (28, _)] [] [] (fun k => [(29, iv (k.1 : Int)), (10, .own 0 0 k.2.2 3)]) (fun k => [(0, some (flat kW k.2.1))]) (fun k => k.1 ≤ pts.length ∧ k.2.1 = yJ ts pts Aa Am Al Af Ap k.1 ∧ k.2.2 = k.2.1.length ∧ k.2.2 ≤ k.1 * 124) (fun k => pts.length - k.1) (0, [], 0) ⟨by omega, rfl, rfl, Nat.le_refl _⟩ rfl rfl (by repeat' (first|exact trivial|refine And.intro rfl ?_)) (by repeat' (first|exact trivial|refine And.intro (.inr rfl) ?_)) ?_
 rintro ⟨i, u, m⟩ ⟨hk, hu, hm, hmk⟩
 dsimp only at hk hu hm hmk ⊢
 by_cases hin : i < pts.length
 ·have hst := w.set i hin
  have hsU : Sm (wS ts pts[i]! [1, 2, 3]) := fB (by omega)
  have bl : ∀ {A : Nat} {n : Nat}, n ≤ 62 → (∀ v, A.testBit v = true → v < n) → A < 2 ^ n := fun _ hv => Nat.lt_pow_two_of_testBit _ fun v h => by
   cases hq : Nat.testBit _ v with
   | false => rfl
   | true => have := hv v hq;omega
  have hAa : Sm Aa[i]! := ⟨bl (n := 62) (by omega) fun v hv => by have := ((ga.2 i hin v).1 hv).1;omega⟩
  have hAm : Sm Am[i]! := ⟨bl (n := 62) (by omega) fun v hv => by have := D9 w ((gm.2 i hin v).1 hv);dsimp only at this;omega⟩
  have hAl : Al[i]! < 2 ^ ts.length := bl (by omega) fun v hv => by obtain ⟨k, _, h⟩ := (gl.2 i hin v).1 hv;exact pG w h
  have hAl2 : Sm Al[i]! := ⟨Nat.lt_of_lt_of_le hAl (Nat.pow_le_pow_right (by decide) (by omega))⟩
  have hAp : Ap[i]! < 2 ^ pts.length := bl (by omega) fun v hv => (nM ((gp.2 i hin v).1 hv)).1
  have hAp2 : Sm Ap[i]! := ⟨Nat.lt_of_lt_of_le hAp (Nat.pow_le_pow_right (by decide) (by omega))⟩
  have hrl := gH hlf hin
  have hrs : ∀ z : Nat, Sm (e5 Af i)[z]! := by
   intro z
   by_cases hz : z < 6
   ·rw [fQ hlf hin hz]
    exact ⟨bl (n := 62) (by omega) fun v hv => by have := (y5 w ((gf.2 i z hin hz v).1 hv)).2.2;dsimp only at this;omega⟩
   ·rw [getElem!_neg _ z (by rw [hrl]; exact hz)]; exact ⟨by decide⟩
  have hkp : tF ts pts[(i : Int).toNat]! Al[i]! (e5 Af (i : Int).toNat) < 2 ^ pts.length := by
   refine bl (by omega) fun v hv => ?_
   unfold tF at hv
   rw [gC] at hv
   rcases hv with hv | ⟨z, hz, hv⟩
   ·simp at hv
   ·obtain ⟨q, h1, h2, rfl⟩ := dK.1 hz
    rw [dC, Bool.and_eq_true] at h2
    have h3 := dQ hAl h2.1
    have h4 : q < 6 := by omega
    have h5 : (e5 Af i)[q]!.testBit v = true := hv
    rw [fQ hlf hin h4] at h5
    exact (y5 w ((gf.2 i q hin h4 v).1 h5)).2.2
  have hkp2 : Sm (tF ts pts[(i : Int).toNat]! Al[i]! (e5 Af (i : Int).toNat)) := ⟨Nat.lt_of_lt_of_le hkp (Nat.pow_le_pow_right (by decide) (by omega))⟩
  have hlo : tF ts pts[(i : Int).toNat]! Al[i]! (e5 Af (i : Int).toNat) &&& Ap[i]! < 2 ^ pts.length := Nat.and_lt_two_pow _ hAp
  have hcf := Ag w (Am := Am) (Al := Al) (Af := Af) (i := i) hAp
  have hcf2 : Sm (Bj ts pts Am Al Af Ap i) := ⟨Nat.lt_of_lt_of_le hcf (Nat.pow_le_pow_right (by decide) (by omega))⟩
  have hcf3 : Sm (Ft pts (tF ts pts[(i : Int).toNat]! Al[i]! (e5 Af (i : Int).toNat) &&& Ap[i]!) (iH ts pts[(i : Int).toNat]! (Am[i]!.testBit (bR pts[(i : Int).toNat]!).toNat)) 0) := hcf2
  have hb1 := kF (mP (wS ts pts[i]! [1, 2, 3]) Aa[i]!)
  have hb2 := kF (Bj ts pts Am Al Af Ap i)
  repeat' (first|(apply aM;first|(apply aD;rfl;rfl)|(first|(apply aL;rfl;rfl;rfl;rfl)|(apply a6;rfl;rfl;(exact (rfl:_=[_, _, _, _, _]));rfl;rfl;rfl))|(first|(apply nX;rfl;rfl;infer_instance;infer_instance;infer_instance;rfl)|(apply aV;rfl;rfl;rfl;rfl))|(apply aC;rfl;rfl)|(apply bB;(case hx|hi => rfl);(case hm => (assumption));(case hml => (first|rfl|omega));(case hα | hf|hg => infer_instance);(case hN => rfl))|(first|((with_reducible apply aI (k := 100));(case ha => rfl);(case h => (apply vQ <;> (infer_instance)));(case hp => (rfl));(case hN => rfl))|((with_reducible apply aI (k := 151));(case ha => rfl);(case h => (apply Ey <;> (assumption)));(case hp => (exact Pur.pf));(case hN => rfl)))|(apply a8;rfl;rfl;rfl)|(apply aF;kernel_rfl)|(apply bT;rfl;rfl)|(apply a7;rfl;rfl;rfl;rfl;rfl;(case hl => (simp;done));(exact (rfl:_=[_, _, _, _, _]))))|(apply aO;first|apply aH|apply aB|(apply b9;kernel_rfl)|(apply aP;rfl;all_goals intro hc;have hq:=hc;(try simp only [cD] at hq);try exfalso;omega)|apply aJ|apply aS)|with_reducible apply aA)
  have hb1b : ∀ j, j < (cJ (mP (wS ts pts[i]! [1, 2, 3]) Aa[i]!)).length → 0 ≤ (cJ (mP (wS ts pts[i]! [1, 2, 3]) Aa[i]!))[j]! := fun j h => (lQ (inferInstance : Sm (mP (wS ts pts[i]! [1, 2, 3]) Aa[i]!)).pf h).1
  refine bG (σ := Nat × List Iss × Nat) [0, 1, 2, 7, 8, 9, 11, 27, 28, 29, 42, 43] [(0, _), (1, _), (2, _), (7, _), (8, _), (9, _), (11, _), (27, _), (28, _), (29, _), (42, _), (43, _)] [] [] (fun j => [(44, iv (j.1 : Int)), (10, .own 0 0 j.2.2 3)]) (fun j => [(0, some (flat kW j.2.1))]) (fun j => j.1 ≤ (cJ (mP (wS ts pts[i]! [1, 2, 3]) Aa[i]!)).length ∧ j.2.1 = u ++ C9 i ((cJ (mP (wS ts pts[i]! [1, 2, 3]) Aa[i]!)).take j.1) ∧ j.2.2 = j.2.1.length ∧ j.2.2 ≤ i * 124 + j.1) (fun j => (cJ (mP (wS ts pts[i]! [1, 2, 3]) Aa[i]!)).length - j.1) (0, u, m) ⟨by omega, by simp [C9], hm, by omega⟩ rfl rfl (by repeat' (first|exact trivial|refine And.intro rfl ?_)) (by repeat' (first|exact trivial|refine And.intro (.inr rfl) ?_)) ?_
  rintro ⟨j, u2, m2⟩ ⟨hj, hu2, hm2, hmk2⟩
  dsimp only at hj hu2 hm2 hmk2 ⊢
  by_cases hjn : j < (cJ (mP (wS ts pts[i]! [1, 2, 3]) Aa[i]!)).length
  ·repeat' (first | (apply aM; first | (apply aD;rfl;rfl) | (apply aL;rfl;rfl;rfl;rfl) | (first | (apply bO;rfl;rfl;omega;rfl) | (apply aV;rfl;rfl;rfl;rfl)) | (apply aC;rfl;rfl) | (apply bB; (case hx | hi => rfl); (case hm => (assumption)); (case hml => (rfl)); (case hα | hf | hg => infer_instance); (case hN => rfl)) | (apply bV;rfl;rfl;rfl;rfl;rfl;(rw [aK]; omega);(rfl);omega;omega;(exact pQ (by (assumption)));rfl;rfl) | (apply aF;kernel_rfl) | (apply b8;rfl;(exact (rfl:_=some [_, _, _]));(exact (rfl:_=[_, _, _]));rfl) | ((apply bS (t := _)); (case hze | hsm | hl => rfl); (case hfl => (exact (rfl:_=some [_, _, _]))); (case hM | hN => rfl))) | (apply aO; first | apply aH | apply aB | (apply aP;rfl;all_goals intro hc;have hq:=hc;(try simp only [cD] at hq);try exfalso;omega) | apply aJ | apply aS) | with_reducible apply aA | with_reducible apply aT)
   (apply c6 (j + 1, _, _);focus (refine Le.ren [(0, 3)] rfl (by decide) ?_ ?_ <;> repeat' (first|exact trivial|refine And.intro ⟨_, rfl, ?_⟩ ?_|refine And.intro ⟨_, _, rfl, rfl, ?_⟩ ?_|exact Or.inr rfl|refine Or.inl ⟨?_, (by first|rfl|exact aX _ _|exact Pur.pf)⟩|rfl)))
   ·dsimp only
    refine ⟨by omega, ?_, by simp;omega, by omega⟩
    rw [hu2]; unfold C9;rw [j1 _ _ _ hjn, List.append_assoc]
   ·dsimp only;omega
  ·have hu3 : u2 = u ++ C9 i (cJ (mP (wS ts pts[i]! [1, 2, 3]) Aa[i]!)) := by rw [hu2, List.take_of_length_le (by omega)]
   repeat' (first|(apply aM;first|(apply aD;rfl;rfl)|(apply aL;rfl;rfl;rfl;rfl)|(first|(apply u6;rfl;rfl;infer_instance;infer_instance;infer_instance;rfl)|(apply aV;rfl;rfl;rfl;rfl))|(apply bB;(case hx|hi => rfl);(case hm => (assumption));(case hml => (omega));(case hα | hf|hg => infer_instance);(case hN => rfl))|(first|((with_reducible apply aI (k := 92));(case ha => rfl);(case h => (apply sF <;> (assumption)));(case hp => (rfl));(case hN => rfl))|((with_reducible apply aI (k := 168));(case ha => rfl);(case h => (apply C4 <;> (first|assumption|omega)));(case hp => (exact Pur.pf));(case hN => rfl))|((with_reducible apply aI (k := 169));(case ha => rfl);(case h => (apply Io <;> (first|assumption|omega)));(case hp => (exact Pur.pf));(case hN => rfl)))|(apply a8;rfl;rfl;rfl)|((with_reducible apply lL);(case hx|hcl => rfl);(case hc => infer_instance);(case ha => rfl);(case h => (apply Cb <;> (first|assumption|omega)));(case hp => (exact Pur.pf));(case hN => rfl))|(apply aF;kernel_rfl))|(apply aO;first|apply aH|apply aB|(apply b9;kernel_rfl)|(apply aP;rfl;all_goals intro hc;have hq:=hc;(try simp only [cD] at hq);try exfalso;omega)|apply aJ|apply bF)|with_reducible apply aA|with_reducible apply bE|with_reducible apply bD)
   generalize hL : cJ (Ft pts (tF ts pts[(i : Int).toNat]! Al[i]! (e5 Af (i : Int).toNat) &&& Ap[i]!) (iH ts pts[(i : Int).toNat]! (Am[i]!.testBit (bR pts[(i : Int).toNat]!).toNat)) 0) = L2
   have hL2 : cJ (Bj ts pts Am Al Af Ap i) = L2 := hL
   have hbd : ∀ j, j < L2.length → 0 ≤ L2[j]! ∧ L2[j]! < pts.length := fun j h => by rw [← hL2] at h ⊢; exact lQ hcf h
   rw [hL2] at hb2
   refine bG (σ := Nat × List Iss × Nat) [0, 1, 2, 7, 8, 9, 11, 27, 28, 29, 77, 78] [(0, _), (1, _), (2, _), (7, _), (8, _), (9, _), (11, _), (27, _), (28, _), (29, _), (77, _), (78, _)] [] [] (fun l => [(79, iv (l.1 : Int)), (10, .own 0 0 l.2.2 3)]) (fun l => [(0, some (flat kW l.2.1))]) (fun l => l.1 ≤ L2.length ∧ l.2.1 = u2 ++ BQ pts i (L2.take l.1) ∧ l.2.2 = l.2.1.length ∧ l.2.2 ≤ i * 124 + 62 + l.1) (fun l => L2.length - l.1) (0, u2, m2) ⟨by omega, by simp [BQ], hm2, Nat.le_trans hmk2 (by omega)⟩ rfl rfl (by repeat' (first|exact trivial|refine And.intro rfl ?_)) (by repeat' (first|exact trivial|refine And.intro (.inr rfl) ?_)) ?_
   rintro ⟨l, u4, m4⟩ ⟨hl, hu4, hm4, hmk4⟩
   dsimp only at hl hu4 hm4 hmk4 ⊢
   by_cases hln : l < L2.length
   ·have hbl := hbd l hln
    repeat' (first|(apply aM;first|(apply aD;rfl;rfl)|(apply aL;rfl;rfl;rfl;rfl)|(apply aE;rfl;rfl;rfl)|(first|(apply bO;rfl;rfl;omega;rfl)|(apply aV;rfl;rfl;rfl;rfl))|(apply aC;rfl;rfl)|(first|(apply bB;(case hx|hi => rfl);(case hm => (assumption));(case hml => (rfl));(case hα | hf|hg => infer_instance);(case hN => rfl))|(apply cC;(case hx|hi => rfl);(case hm => (assumption));(case hml => (rfl));(case hα | hf|hg => infer_instance);(case hN => rfl)))|(apply bV;rfl;rfl;rfl;rfl;rfl;(rw [aK]; omega);(rfl);omega;omega;(exact pQ (by (assumption)));rfl;rfl)|(apply aF;kernel_rfl)|(apply b8;rfl;(exact (rfl:_=some [_, _, _]));(exact (rfl:_=[_, _, _]));rfl)|(apply dJ;rfl;rfl;rfl)|((apply bS (t := _));(case hze|hsm|hl => rfl);(case hfl => (exact (rfl:_=some [_, _, _])));(case hM|hN => rfl)))|(apply aO;first|apply aH|apply aB|(apply aP;rfl;all_goals intro hc;have hq:=hc;(try simp only [cD] at hq);try exfalso;omega)|apply aJ|apply aS)|with_reducible apply aA|with_reducible apply aT)
    ·(apply c6 (l + 1, _, _); focus (refine Le.ren [(0, 3)] rfl (by decide) ?_ ?_ <;> repeat' (first | exact trivial | refine And.intro ⟨_, rfl, ?_⟩ ?_ | refine And.intro ⟨_, _, rfl, rfl, ?_⟩ ?_ | exact Or.inr rfl | refine Or.inl ⟨?_, (by first | rfl | exact aX _ _ | exact Pur.pf)⟩ | rfl)))
     ·dsimp only
      refine ⟨by omega, ?_, by simp;omega, by omega⟩
      rw [hu4]; unfold BQ;rw [j1 _ _ _ hln, List.append_assoc, if_pos hq]
     ·dsimp only;omega
    ·(apply c6 (l + 1, _, _); focus (refine Le.ren [(0, 3)] rfl (by decide) ?_ ?_ <;> repeat' (first | exact trivial | refine And.intro ⟨_, rfl, ?_⟩ ?_ | refine And.intro ⟨_, _, rfl, rfl, ?_⟩ ?_ | exact Or.inr rfl | refine Or.inl ⟨?_, (by first | rfl | exact aX _ _ | exact Pur.pf)⟩ | rfl)))
     ·dsimp only
      refine ⟨by omega, ?_, by simp;omega, by omega⟩
      rw [hu4]; unfold BQ;rw [j1 _ _ _ hln, List.append_assoc, if_neg hq]
     ·dsimp only;omega
   ·repeat' (first | (apply aM; first | (apply aD;rfl;rfl) | (first | (apply bO;rfl;rfl;omega;rfl) | (apply aV;rfl;rfl;rfl;rfl)) | (apply aF;kernel_rfl)) | (apply aO; first | apply aH | apply aB | (apply aP;rfl;all_goals intro hc;have hq:=hc;(try simp only [cD] at hq);try exfalso;omega) | apply bF) | with_reducible apply aA | with_reducible apply bE | with_reducible apply aT | with_reducible apply bD)
    (apply c6 (i + 1, u4, m4);focus (refine Le.ren [(0, 0)] rfl (by decide) ?_ ?_ <;> repeat' (first|exact trivial|refine And.intro ⟨_, rfl, ?_⟩ ?_|refine And.intro ⟨_, _, rfl, rfl, ?_⟩ ?_|exact Or.inr rfl|refine Or.inl ⟨?_, (by first|rfl|exact aX _ _|exact Pur.pf)⟩|rfl)))
    ·dsimp only
     refine ⟨by omega, ?_, hm4, by omega⟩
     rw [tW, hu4, List.take_of_length_le (by omega), hu3, ← hL2, hu, List.append_assoc]; rfl
    ·dsimp only;omega
 ·repeat' (first | (apply aM; first | (apply aD;rfl;rfl) | (apply aV;rfl;rfl;rfl;rfl) | (apply aC;rfl;rfl) | (apply aF;kernel_rfl)) | (apply aO; first | apply aH | apply aB | (apply aP;rfl;all_goals intro hc;have hq:=hc;(try simp only [cD] at hq);try exfalso;omega) | apply bF | apply aW) | with_reducible apply aA | with_reducible apply bE | with_reducible apply bD)
  (refine cA (Le.frzD (d := 6) (i := 0) rfl rfl) ?_; refine aU rfl ?_)
  refine ⟨?_, (by (exact aX _ _))⟩
  simp only [bQ, sl]
  rw [hm, hu, show i = pts.length by omega]
theorem Dc (ts : List Int) (bd : List AL.Stmt) (pts : List Pnt) (w : WG ts pts) (f : Flows ts pts) : PC Tryz.prog 79 [aG ts bd pts] (fun r => r = sl kW f.iss) := by
 have hpl := w.pl
 (refine aQ Tryz.func79 rfl (by simp [Tryz.ntmps79]) ?_; rw [Tryz.ntmps79])
 repeat' (first|(apply aM;first|(apply rP;rfl;rfl;rfl)|((with_reducible apply aI (k := 125));(case ha => rfl);(case h => exact Cy ts bd pts f.Af w f.gf);(case hp => exact Pur.pf);(case hN => rfl))|((with_reducible apply aI (k := 127));(case ha => rfl);(case h => exact xS ts bd pts f.An f.Al w f.gn f.gl);(case hp => exact Pur.pf);(case hN => rfl))|((with_reducible apply aI (k := 126));(case ha => rfl);(case h => exact GM ts bd pts f.Aa f.Am f.Al f.Af f.Ap _ w f.ga f.gm f.gl f.gf f.gp rfl);(case hp => exact Pur.pf);(case hN => rfl))|(apply aD;rfl;rfl)|(apply aC;rfl;rfl)|(apply aF;kernel_rfl)|(apply bT;rfl;rfl)|(apply a7;rfl;rfl;rfl;rfl;rfl;(case hl => (simp;done));(exact (rfl:_=[_]))))|(apply aO;first|apply aH|apply aB|apply aW)|with_reducible apply aA)
 refine aU rfl ⟨rfl, (by (exact aX _ _))⟩
theorem oJ (p : Prg) (hl : p.types.length ≤ 1000000) (hs : bJ p.body ≤ 1000000) : PC Tryz.prog 78 [c8 p, .v (.slice none 0 0)] (fun r => r = if cM p = true then .tup [aG p.types p.body (aR p), bv true] else .tup [.v (.pointer none), bv false]) := by
 have hpl := iW p
 have hnl := jG p.body
 (refine aQ Tryz.func78 rfl (by simp [Tryz.ntmps78]) ?_; rw [Tryz.ntmps78])
 repeat' (first|(apply aM;first|(apply aD;rfl;rfl)|(apply a6;rfl;rfl;(exact (rfl:_=[_, _]));rfl;rfl;rfl)|(apply aC;rfl;rfl)|(first|((with_reducible apply aI (k := 49));(case ha => rfl);(case h => (apply jF <;> (first|assumption|omega)));(case hp => (exact Pur.pf));(case hN => rfl))|((with_reducible apply aI (k := 96));(case ha => rfl);(case h => (apply xY <;> (assumption)));(case hp => (exact Pur.pf));(case hN => rfl)))|(apply a8;rfl;rfl;rfl)|(apply aF;kernel_rfl)|(apply b8;rfl;(exact (rfl:_=some [_, _, _]));(exact (rfl:_=[_, _, _]));rfl)|(apply cK;rfl;rfl)|(apply bW;rfl;rfl;rfl;rfl))|(apply aO;first|apply aH|apply aB|(apply b9;kernel_rfl)|(apply aP;rfl;all_goals intro hc;have hq:=hc;(try simp only [cD] at hq);try exfalso;omega)|apply aJ|apply aS|apply aW)|with_reducible apply aA|with_reducible apply b0)
 ·refine aU rfl ⟨?_, (by (rfl))⟩
  rw [if_neg (by simp [hq])]; rfl
 ·refine bG (σ := Unit) [6, 17, 18] [(6, _), (17, _), (18, _)] [1] [(1, some _)] (fun _u => [(19, iv 0)]) (fun _u => []) (fun _u => True) (fun _u => 0) () trivial rfl rfl (by repeat' (first | exact trivial | refine And.intro rfl ?_)) (by repeat' (exact trivial)) ?_
  intro _ _
  repeat' (first|(apply aM;first|(apply aD;rfl;rfl)|(apply aV;rfl;rfl;rfl;rfl)|(apply aC;rfl;rfl)|(apply aF;kernel_rfl))|(apply aO;first|apply aH|apply aB|(apply cF;rfl;(rfl))|apply bF|apply aW)|with_reducible apply aA|with_reducible apply bE|with_reducible apply bD)
  refine cA (Le.frzP (d := 4) (i := 1) rfl rfl) ?_
  refine aU rfl ⟨?_, (by show (AV.tup [aG p.types p.body (aR p), bv true]).pur = true;exact PurV.pf)⟩
  rw [if_pos hq]; rfl
def tN (p : Prg) (f : Flows p.types (aR p)) : List Iss := if cM p = true then f.iss else []
theorem EH (p : Prg) (f : Flows p.types (aR p)) (hl : p.types.length ≤ 1000000) (hs : bJ p.body ≤ 1000000) : PC Tryz.prog 31 [c8 p] (fun r => r = sl kW (tN p f)) := by
 unfold tN
 cases hv : cM p
 ·(refine aQ Tryz.func31 rfl (by simp [Tryz.ntmps31]) ?_; rw [Tryz.ntmps31])
  repeat' (first|(apply aM;first|((with_reducible apply aI (k := 78));(case ha => rfl);(case h => exact (by have := oJ p hl hs;rw [if_neg (by simp [hv])] at this;exact this));(case hp => (exact Pur.pf));(case hN => rfl))|(apply aD;rfl;rfl)|(apply a6;rfl;rfl;(exact (rfl:_=[_, _]));rfl;rfl;rfl)|(apply aC;rfl;rfl)|(apply aF;kernel_rfl)|(apply cK;rfl;rfl)|(apply bW;rfl;rfl;rfl;rfl)|(apply dI;rfl;rfl;rfl))|(apply aO;first|apply aH|apply aB|(apply bX;rfl;(rfl))|apply aW)|with_reducible apply aA|with_reducible apply b0)
  (refine cA (Le.nilImm (d := 2) rfl) ?_; refine aU rfl ?_)
  exact ⟨rfl, rfl⟩
 ·have w := WG.of_valid hv
  (refine aQ Tryz.func31 rfl (by simp [Tryz.ntmps31]) ?_; rw [Tryz.ntmps31])
  repeat' (first|(apply aM;first|((with_reducible apply aI (k := 78));(case ha => rfl);(case h => exact (by have := oJ p hl hs;rw [if_pos hv] at this;exact this));(case hp => (exact Pur.pf));(case hN => rfl))|((with_reducible apply aI (k := 79));(case ha => rfl);(case h => exact Dc p.types p.body (aR p) w f);(case hp => (exact Pur.pf));(case hN => rfl))|(apply aD;rfl;rfl)|(apply a6;rfl;rfl;(exact (rfl:_=[_, _]));rfl;rfl;rfl)|(apply aC;rfl;rfl)|(apply aF;kernel_rfl)|(apply cK;rfl;rfl)|(apply bW;rfl;rfl;rfl;rfl)|(apply dI;rfl;rfl;rfl))|(apply aO;first|apply aH|apply aB|(apply cF;rfl;(rfl))|apply aS|apply aW)|with_reducible apply aA)
  exact aU rfl ⟨rfl, (by (exact aX _ _))⟩
theorem Ae (p : Prg) (f : Flows p.types (aR p)) (hl : p.types.length ≤ 1000000) (hs : bJ p.body ≤ 1000000) : PC Tryz.prog 19 [c8 p] (fun r => r = bv (cM p && (tN p f).isEmpty)) := by
 (refine aQ Tryz.func19 rfl (by simp [Tryz.ntmps19]) ?_; rw [Tryz.ntmps19])
 repeat' (first|(apply aM;first|((with_reducible apply aI (k := 31));(case ha => rfl);(case h => exact EH p f hl hs);(case hp => (exact Pur.pf));(case hN => rfl))|(apply aD;rfl;rfl)|(apply a6;rfl;rfl;(exact (rfl:_=[_, _]));rfl;rfl;rfl)|(first|(apply a9;rfl;rfl;rfl;(assumption))|(apply aZ;rfl;rfl;rfl;(assumption))|(apply bC;(case hj|hb|hN => rfl);all_goals (intro hg;have hq := hg;(try simp only [cD] at hq);(try (exfalso;omega)))))|(apply aV;rfl;rfl;rfl;rfl)|(apply aC;rfl;rfl)|(first|(apply bI;rfl;(assumption);rfl;rfl)|(apply bH;rfl;(assumption);rfl;rfl))|((with_reducible apply aI (k := 49));(case ha => rfl);(case h => (apply jF <;> (first|assumption|omega)));(case hp => (exact Pur.pf));(case hN => rfl))|(apply a8;rfl;rfl;rfl)|(apply aF;kernel_rfl)|(apply bW;rfl;rfl;rfl;rfl))|(apply aO;first|apply aH|apply aB|apply aW)|with_reducible apply aA)
 all_goals generalize tN p f = L at *
 all_goals refine aU rfl ⟨?_, rfl⟩
 all_goals simp only [bQ]
 ·rw [show cM p = true by assumption]
  cases L with
  | nil => rfl
  | cons a b => simp;omega
 ·rw [show cM p = false by assumption]; rfl
end Go.Proofs.YtjcpngimjdckmaaGreat
