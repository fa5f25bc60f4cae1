/-
 A part of the proofs over this program: rules and contracts of its functions (the contracts).
-/
import Derived.Test.YtjcpngimjdckmaaGreatQ2B01
set_option linter.unusedVariables false
set_option linter.unusedSimpArgs false
set_option maxHeartbeats 8000000
set_option maxRecDepth 4000
attribute [local irreducible] Go.AL.RW Go.AL.AW Go.AL.Stop
namespace Go.Proofs.YtjcpngimjdckmaaGreat
open Go.AL Go.RowKit
theorem FR (ts:List Int) (bd:List AL.Stmt) (pts:List Pnt) (A:List Nat) (w:WG ts pts) (hA:uG ts pts A):PC Tryz.prog 101 [aG ts bd pts,iv 0] (fun r => r = .imm pts.length (flat cN A)) := by
 (refine aT Tryz.func101 rfl (by simp [Tryz.ntmps101]) ?_; rw [Tryz.ntmps101])
 repeat' (first|(apply aK;first|((with_reducible apply aI (k := 145));(case ha => rfl);(case h => exact CH ts bd pts A w hA);(case hp => exact Pur.pf);(case hN => rfl))|(apply aE;rfl;rfl)|(apply aC;rfl;rfl)|(apply aF;kernel_rfl)|(apply kF;rfl;rfl;rfl))|(apply aL;first|apply aH|apply aB|apply aP)|with_reducible apply aA|((with_reducible apply aO);case hr => rfl))
 exact ⟨rfl, (by (exact aZ _ _))⟩
theorem Jd (ts:List Int) (bd:List AL.Stmt) (pts:List Pnt) (A:List Nat) (w:WG ts pts) (hA:tO ts pts A):PC Tryz.prog 166 [aG ts bd pts] (fun r => r = .imm pts.length (flat cN A)) := by
 (refine aT Tryz.func166 rfl (by simp [Tryz.ntmps166]) ?_; rw [Tryz.ntmps166])
 repeat' (first|(apply aK;first|((with_reducible apply aI (k := 145));(case ha => rfl);(case h => exact B7 ts bd pts A w hA);(case hp => exact Pur.pf);(case hN => rfl))|(apply aE;rfl;rfl)|(apply aC;rfl;rfl)|(apply aF;kernel_rfl)|(apply kF;rfl;rfl;rfl))|(apply aL;first|apply aH|apply aB|apply aP)|with_reducible apply aA|((with_reducible apply aO);case hr => rfl))
 exact ⟨rfl, (by (exact aZ _ _))⟩
theorem yP (ts:List Int) (bd:List AL.Stmt) (pts:List Pnt) (n:Nat) (B:List Nat) (i:Int) (w:WG ts pts) (hn:n = B.length) (hB:B.length = pts.length) (hs:∀ z:Nat,Sm B[z]!) (hi:0 ≤ i ∧ i < pts.length):PC Tryz.prog 134 [aG ts bd pts,.imm n (flat cN B),iv i] (fun r => r = iv (It pts B i.toNat:Nat)) := by
 subst hn
 have hin : i.toNat < pts.length := by omega
 have hnl := w.nl _ hin
 have hpl := w.pl
 (refine aT Tryz.func134 rfl (by simp [Tryz.ntmps134]) ?_; rw [Tryz.ntmps134])
 repeat' (first|(apply aK;first|(apply aE;rfl;rfl)|(apply aJ;rfl;rfl;rfl;rfl)|(apply aD;rfl;rfl;rfl)|(apply aC;rfl;rfl)|(apply cO;(case hx|hi => rfl);(case hm => (assumption));(case hml => (rfl));(case hα | hf|hg => infer_instance);(case hN => rfl))|(apply a8;rfl;rfl;rfl)|(apply aF;kernel_rfl)|(apply bV;rfl;rfl;rfl))|(apply aL;first|apply aH|apply aB|apply aM)|with_reducible apply aA)
 refine bF (σ := Nat × Nat) [1, 17, 18] [(1, _), (17, _), (18, _)] [] [] (fun k => [(19, iv (k.1 : Int)), (7, iv (k.2 : Int))]) (fun k => []) (fun k => k.1 ≤ pts[i.toNat]!.next.length ∧ k.2 = ((vW pts i.toNat).take k.1).foldl (fun a k => n7 a B[k]!) 0 ∧ Sm k.2) (fun k => pts[i.toNat]!.next.length - k.1) (0, 0) ⟨by omega, rfl, inferInstance⟩ rfl rfl (by repeat' (first|exact trivial|refine And.intro rfl ?_)) (by repeat' (exact trivial)) ?_
 rintro ⟨k, a⟩ ⟨hk, ha, hsa⟩
 dsimp only at hk ha hsa ⊢
 have hz : k < pts[i.toNat]!.next.length → 0 ≤ pts[i.toNat]!.next[k]! ∧ pts[i.toNat]!.next[k]! < pts.length := fun h => w.nx _ hin _ (b9 _ _ h)
 repeat' (first|(apply aK;first|(apply aE;rfl;rfl)|(apply aJ;rfl;rfl;rfl;rfl)|(first|(apply gO;rfl;rfl;infer_instance;infer_instance;infer_instance;rfl)|(apply bR;rfl;rfl;omega;rfl)|(apply aS;rfl;rfl;rfl;rfl))|(apply aC;rfl;rfl)|(first|(apply a7;(case hx|hi => rfl);(case hm => (omega));(case hml => (rfl));(case hα | hf|hg => infer_instance);(case hN => rfl))|(apply cO;(case hx|hi => rfl);(case hm => (omega));(case hml => (rfl));(case hα | hf|hg => infer_instance);(case hN => rfl)))|(apply aF;kernel_rfl))|(apply aL;first|apply aH|apply aB|(apply aN;rfl;all_goals intro hc;have hq:=hc;(try simp only [cH] at hq);try exfalso;omega)|apply aM|apply aR|apply bI|apply aP)|with_reducible apply aA|with_reducible apply bJ|with_reducible apply aW|with_reducible apply bG|((with_reducible apply aO);case hr => rfl))
 ·(apply dV (k + 1, _); focus (refine Le.ren [] rfl (by decide) ?_ ?_ <;> repeat' (first | exact trivial | refine And.intro ⟨_, rfl, ?_⟩ ?_ | refine Or.inl ⟨?_, (by first | rfl | exact aZ _ _)⟩ | rfl)))
  ·dsimp only
   refine ⟨by omega, ?_, inferInstance⟩
   rw [fM _ _ _ _ (by rw [lH]; omega), yK (by omega), ← ha]
  ·dsimp only;omega
 ·(refine ⟨?_, rfl⟩; simp only [b8, AV.v.injEq, Value.bool.injEq, Value.int.injEq, true_and])
  rw [ha, List.take_of_length_le (by rw [lH]; omega)]; rfl
theorem Ae (ts:List Int) (bd:List AL.Stmt) (pts:List Pnt) (A:List Nat) (w:WG ts pts) (hA:vH ts pts A):PC Tryz.prog 135 [aG ts bd pts] (fun r => r = .imm pts.length (flat cN A)) := by
 have hpl := w.pl
 have hp0 := w.p0
 have htl := w.tl
 (refine aT Tryz.func135 rfl (by simp [Tryz.ntmps135]) ?_; rw [Tryz.ntmps135])
 repeat' (first|(apply aK;first|(apply aE;rfl;rfl)|(apply aJ;rfl;rfl;rfl;rfl)|(apply aD;rfl;rfl;rfl)|(apply aC;rfl;rfl)|(apply a8;rfl;rfl;rfl)|(apply aF;kernel_rfl)|(apply bV;rfl;rfl;rfl)|(apply e9;rfl;rfl;rfl;omega;omega;(exact Cn);rfl;rfl))|(apply aL;first|apply aH|apply aB|apply aM)|with_reducible apply aA)
 refine bF (σ := List Nat × Bool) [0, 3] [(0, _), (3, _)] [] [] (fun s => [(4, bv s.2)]) (fun s => [(0, some (flat cN s.1))]) (fun s => SN ts pts s.1 ∧ (s.2 = false → ∀ i, i < pts.length → qM ts pts s.1 i = s.1[i]!)) (fun s => 2 * gJ (s.1.map (fun a => 2 ^ ts.length - a)) + s.2.toNat) (List.replicate pts.length 0, true) ⟨KW, fun h => by cases h⟩ rfl rfl (by repeat' (first|exact trivial|refine And.intro rfl ?_)) (by repeat' (first|exact trivial|refine And.intro (.inr rfl) ?_)) ?_
 rintro ⟨s, b⟩ ⟨hS, hC⟩
 dsimp only at hS hC ⊢
 repeat' (first|(apply aK;first|(apply aE;rfl;rfl)|(apply aJ;rfl;rfl;rfl;rfl)|(apply aD;rfl;rfl;rfl)|(apply e6;rfl;rfl;omega;rfl)|(apply aC;rfl;rfl)|(apply a8;rfl;rfl;rfl)|(apply aF;kernel_rfl)|(apply bV;rfl;rfl;rfl))|(apply aL;first|apply aH|apply aB|(apply aN;rfl;all_goals intro hc;have hq:=hc;(try simp only [cH] at hq);try exfalso;omega)|apply aM|apply aR|apply bI|apply aP)|with_reducible apply aA|with_reducible apply bJ|with_reducible apply bG)
 ·refine bF (σ := Nat × Int × (List Nat × Bool)) [0, 3] [(0, _), (3, _)] [] [] (fun k => [(5, iv k.2.1), (4, bv k.2.2.2)]) (fun k => [(0, some (flat cN k.2.2.1))]) (fun k => k.1 ≤ pts.length ∧ k.2.1 = (pts.length : Int) - 1 - k.1 ∧ k.2.2 = ((List.range pts.length).reverse.take k.1).foldl (lZ ts pts) (s, false) ∧ SN ts pts k.2.2.1) (fun k => pts.length - k.1) (0, (pts.length : Int) - 1, (s, false)) ⟨by omega, by simp, rfl, hS⟩ rfl rfl (by repeat' (first | exact trivial | refine And.intro rfl ?_)) (by repeat' (first | exact trivial | refine And.intro (.inr rfl) ?_)) ?_
  rintro ⟨k, z, u, c⟩ ⟨hk, hz, hf, hS2⟩
  dsimp only at hk hz hf hS2 ⊢
  have hsm : ∀ z : Nat, Sm u[z]! := vC hS2.1 (fun i A h => h.1) htl
  have hul := hS2.1.1
  have hst := fun h : z.toNat < pts.length => (w.set z.toNat h).1
  have hst2 : bD pts[z.toNat]! < 62 := by
   by_cases h : z.toNat < pts.length
   ·have := hst h;omega
   ·rw [getElem!_neg pts z.toNat h]; decide
  have hs1 : Sm (wS ts pts[z.toNat]! [1, 2, 3]) := dL (by omega)
  have hs2 : Sm (iK pts[z.toNat]!) := sR (by omega)
  have hs3 : Sm (It pts u z.toNat) := by
   unfold It
   have : ∀ (L : List Nat) (a : Nat), Sm a → Sm (L.foldl (fun a k => a ||| u[k]!) a) := by
    intro L;induction L with
    | nil => exact fun a h => h
    | cons x L ih => exact fun a h => ih _ (inferInstance : Sm (a ||| u[x]!))
   exact this _ _ inferInstance
  have hlaw := fun h : z.toNat < pts.length => w8 w u c z.toNat h hS2
  repeat' (first|(apply aK;first|(apply aE;rfl;rfl)|(first|(apply fF;(case hx|hH => rfl);(case hf|hg|hα => infer_instance);(case hk => omega);(case hc|hN => rfl))|(apply aJ;rfl;rfl;rfl;rfl)|(apply aU;rfl;rfl;(exact (rfl:_=[_, _, _, _, _]));rfl;rfl;rfl))|(apply aD;rfl;rfl;rfl)|(first|(apply gO;rfl;rfl;infer_instance;infer_instance;infer_instance;rfl)|(apply pD;rfl;rfl;infer_instance;infer_instance;infer_instance;rfl)|(apply e6;rfl;rfl;omega;rfl)|(apply aS;rfl;rfl;rfl;rfl))|(apply aC;rfl;rfl)|(first|(apply cO;(case hx|hi => rfl);(case hm => (omega));(case hml => (rfl));(case hα | hf|hg => infer_instance);(case hN => rfl))|(apply cR;rfl;rfl;(omega);rfl))|(first|((with_reducible apply oS (k := 134));(case ha => rfl);(case hl => (repeat' (first|exact nL|apply lN|exact xU|exact nB rfl inferInstance|exact BY inferInstance)));(case h => (apply yP <;> (first|assumption|omega)));(case hfr|hN => rfl);(case hmd => infer_instance))|((with_reducible apply aI (k := 151));(case ha => rfl);(case h => (apply iS <;> (assumption)));(case hp => (exact Pur.pf));(case hN => rfl))|((with_reducible apply aI (k := 174));(case ha => rfl);(case h => (apply oZ <;> (assumption)));(case hp => (exact Pur.pf));(case hN => rfl)))|(apply aF;kernel_rfl)|(apply bV;rfl;rfl;rfl)|(apply bB;rfl;rfl)|(apply aV;rfl;rfl;rfl;rfl;rfl;(case hl => (first|(rw [aQ]; simp only [gN] <;> omega)|(simp;done)));(first|exact tT (by (omega))|exact (rfl:_=[_, _, _, _, _]))))|(apply aL;first|apply aH|apply aB|(apply bZ;kernel_rfl)|(apply aN;rfl;all_goals intro hc;have hq:=hc;(try simp only [cH] at hq);try exfalso;omega)|apply aM|apply aR|apply bI)|with_reducible apply aA|with_reducible apply bJ|with_reducible apply aW|with_reducible apply bG)
  ·have hzn : z.toNat < pts.length := by omega
   have hne : qM ts pts u z.toNat ≠ u[z.toNat]! := fun h => hq (congrArg Int.ofNat h)
   have hl := hlaw hzn
   rw [DE hne] at hl
   have hrg : (List.range pts.length).reverse[k]! = z.toNat := by rw [A9 (by omega)]; omega
   (apply dV (k + 1, _, (_, true));focus (refine Le.ren [(0, 0)] rfl (by decide) ?_ ?_ <;> repeat' (first|exact trivial|refine And.intro ⟨_, rfl, ?_⟩ ?_|refine And.intro ⟨_, _, rfl, rfl, ?_⟩ ?_|exact Or.inr rfl|refine Or.inl ⟨?_, (by first|rfl|exact aZ _ _|exact Pur.pf)⟩|rfl)))
   ·dsimp only
    refine ⟨by omega, by omega, ?_, hl.1⟩
    rw [fM _ _ _ _ (by simp;omega), ← hf, hrg, DE hne]; rfl
   ·dsimp only;omega
  ·have hzn : z.toNat < pts.length := by omega
   have hne : qM ts pts u z.toNat = u[z.toNat]! := Int.ofNat.inj hq
   have hrg : (List.range pts.length).reverse[k]! = z.toNat := by rw [A9 (by omega)]; omega
   (apply dV (k + 1, _, (u, c));focus (refine Le.ren [(0, 0)] rfl (by decide) ?_ ?_ <;> repeat' (first|exact trivial|refine And.intro ⟨_, rfl, ?_⟩ ?_|refine And.intro ⟨_, _, rfl, rfl, ?_⟩ ?_|exact Or.inr rfl|refine Or.inl ⟨?_, (by first|rfl|exact aZ _ _|exact Pur.pf)⟩|rfl)))
   ·dsimp only
    refine ⟨by omega, by omega, ?_, hS2⟩
    rw [fM _ _ _ _ (by simp;omega), ← hf, hrg, JB hne]
   ·dsimp only;omega
  ·have law := Ev w s false hS
   have hfull : (u, c) = AF ts pts (s, false) := by
    rw [hf, List.take_of_length_le (by simp;omega)]; rfl
   rw [← hfull] at law
   (apply dV (u, c);focus (refine Le.ren [(0, 0)] rfl (by decide) ?_ ?_ <;> repeat' (first|exact trivial|refine And.intro ⟨_, rfl, ?_⟩ ?_|refine And.intro ⟨_, _, rfl, rfl, ?_⟩ ?_|exact Or.inr rfl|refine Or.inl ⟨?_, (by first|rfl|exact aZ _ _|exact Pur.pf)⟩|rfl)))
   ·dsimp only
    refine ⟨hS2, fun h => ?_⟩
    rcases law.2 with ⟨e1, e2⟩ | ⟨e1, _⟩
    ·cases e1;exact e2
    ·dsimp only at e1;rw [h] at e1;cases e1
   ·dsimp only
    have hb : b = true := by assumption
    subst hb
    rcases law.2 with ⟨e1, e2⟩ | ⟨e1, e2⟩
    ·cases e1;simp
    ·dsimp only at e1 e2;subst e1;omega
 ·have hb : b = false := by assumption
  refine cE (Le.frzD (d := 2) (i := 0) rfl rfl) ?_
  refine aO rfl ⟨?_, (by (exact aZ _ _))⟩
  simp only [b8]
  rw [EK hA (HF w hS (hC hb))]
theorem BA (ts:List Int) (bd:List AL.Stmt) (pts:List Pnt) (B A:List Nat) (w:WG ts pts) (hB:vH ts pts B) (hA:rH ts pts A):PC Tryz.prog 127 [aG ts bd pts] (fun r => r = .imm pts.length (flat cN A)) := by
 have hpl := w.pl
 have htl := w.tl
 have hBl := hB.1
 have hsm : ∀ z : Nat, Sm B[z]! := by
  intro z
  by_cases hz : z < pts.length
  ·refine ⟨Nat.lt_of_lt_of_le (Nat.lt_pow_two_of_testBit _ (n := 6) fun v hv => ?_) (by decide)⟩
   cases hq : B[z]!.testBit v with
   | false => rfl
   | true => have := tX w ((hB.2 z hz v).1 hq);dsimp only at this;omega
  ·rw [getElem!_neg B z (by rw [hBl]; exact hz)]; exact ⟨by decide⟩
 (refine aT Tryz.func127 rfl (by simp [Tryz.ntmps127]) ?_; rw [Tryz.ntmps127])
 repeat' (first|(apply aK;first|(apply aE;rfl;rfl)|(apply aJ;rfl;rfl;rfl;rfl)|(apply aD;rfl;rfl;rfl)|(apply aC;rfl;rfl)|((with_reducible apply aI (k := 135));(case ha => rfl);(case h => (apply Ae <;> (assumption)));(case hp => (exact Pur.pf));(case hN => rfl))|(apply a8;rfl;rfl;rfl)|(apply aF;kernel_rfl)|(apply bV;rfl;rfl;rfl))|(apply aL;first|apply aH|apply aB|apply aM)|with_reducible apply aA)
 refine AW.le ?_ (Le.nilOwn (d := 4) 1 rfl (by decide))
 refine bF (σ := Nat × List Nat) [0, 3, 12] [(0, _), (3, _), (12, _)] [] [] (fun k => [(13, iv (k.1 : Int)), (4, .own 0 0 k.1 1)]) (fun k => [(0, some (flat cN k.2))]) (fun k => k.1 ≤ pts.length ∧ k.2 = (List.range k.1).map (It pts B)) (fun k => pts.length - k.1) (0, []) ⟨by omega, rfl⟩ rfl rfl (by repeat' (first|exact trivial|refine And.intro rfl ?_)) (by repeat' (first|exact trivial|refine And.intro (.inr rfl) ?_)) ?_
 rintro ⟨k, u⟩ ⟨hk, hu⟩
 dsimp only at hk hu ⊢
 have hul : u.length = k := by rw [hu]; simp
 repeat' (first|(apply aK;first|(apply aE;rfl;rfl)|(first|(apply bR;rfl;rfl;omega;rfl)|(apply aS;rfl;rfl;rfl;rfl))|(apply aC;rfl;rfl)|((with_reducible apply aI (k := 134));(case ha => rfl);(case h => (apply yP <;> (first|assumption|omega)));(case hp => (exact Pur.pf));(case hN => rfl))|(apply cJ;rfl;rfl;rfl;rfl;rfl;(rw [aQ]; omega);(rfl);omega;omega;(exact JV (by (omega)));rfl;rfl)|(apply aF;kernel_rfl)|((apply bS (t := _));(case hze|hsm|hl => rfl);(case hfl => exact (rfl:_=some [_]));(case hM|hN => rfl)))|(apply aL;first|apply aH|apply aB|(apply aN;rfl;all_goals intro hc;have hq:=hc;(try simp only [cH] at hq);try exfalso;omega)|apply aM|apply aR|apply bI|apply aP)|with_reducible apply aA|with_reducible apply bJ|with_reducible apply aW|with_reducible apply bG)
 ·(apply dV (k + 1, _); focus (refine Le.ren [(0, 2)] rfl (by decide) ?_ ?_ <;> repeat' (first | exact trivial | refine And.intro ⟨_, rfl, ?_⟩ ?_ | refine And.intro ⟨_, _, rfl, rfl, ?_⟩ ?_ | exact Or.inr rfl | refine Or.inl ⟨?_, (by first | rfl | exact aZ _ _ | exact Pur.pf)⟩ | rfl)))
  ·dsimp only
   refine ⟨by omega, ?_⟩
   rw [hu, List.range_succ, List.map_append]; rfl
  ·dsimp only;omega
 ·refine cE (Le.frzD (d := 2) (i := 0) rfl rfl) ?_
  refine aO rfl ⟨?_, (by (exact aZ _ _))⟩
  simp only [b8]
  have hkn : k = pts.length := by omega
  subst hkn
  rw [wX hA (AR w hB), hu]
theorem g6 (A:Nat) (hA:Sm A):PC Tryz.prog 100 [iv (A:Int)] (fun r => r = sl cI (cQ A)) := by
 (refine aT Tryz.func100 rfl (by simp [Tryz.ntmps100]) ?_; rw [Tryz.ntmps100])
 repeat' (first|(apply aK;first|(apply aC;rfl;rfl)|(apply aF;kernel_rfl))|(apply aL;first|apply aH|apply aB|apply aM)|with_reducible apply aA)
 refine AW.le ?_ (Le.nilOwn (d := 3) 1 rfl (by decide))
 refine bF (σ := Nat × List Int × Nat) [0] [(0, _)] [] [] (fun k => [(4, iv (k.1 : Int)), (3, .own 0 0 k.2.2 1)]) (fun k => [(0, some (flat cI k.2.1))]) (fun k => k.1 ≤ 62 ∧ k.2.1 = ((List.range k.1).filter (A.testBit ·)).map (fun v : Nat => (v : Int)) ∧ k.2.2 = k.2.1.length ∧ k.2.2 ≤ k.1) (fun k => 62 - k.1) (0, [], 0) ⟨by omega, rfl, rfl, Nat.le_refl _⟩ rfl rfl (by repeat' (first|exact trivial|refine And.intro rfl ?_)) (by repeat' (first|exact trivial|refine And.intro (.inr rfl) ?_)) ?_
 rintro ⟨k, u, m⟩ ⟨hk, hu, hm, hmk⟩
 dsimp only at hk hu hm hmk ⊢
 repeat' (first|(apply aK;first|(apply aE;rfl;rfl)|(first|(apply sX;rfl;rfl;infer_instance;infer_instance;rfl)|(apply sZ;rfl;rfl;infer_instance;infer_instance;omega;rfl)|(apply bR;rfl;rfl;omega;rfl)|(apply aS;rfl;rfl;rfl;rfl))|(apply aC;rfl;rfl)|(apply cJ;rfl;rfl;rfl;rfl;rfl;(rw [aQ]; omega);(rfl);omega;omega;(exact lE (by (assumption)));rfl;rfl)|(apply aF;kernel_rfl)|((apply bS (t := _));(case hze|hsm|hl => rfl);(case hfl => exact (rfl:_=some [_]));(case hM|hN => rfl)))|(apply aL;first|apply aH|apply aB|(apply aN;rfl;all_goals intro hc;have hq:=hc;(try simp only [cH] at hq);try exfalso;omega)|apply aM|apply aR|apply bI|apply aP)|with_reducible apply aA|with_reducible apply bJ|with_reducible apply aW|with_reducible apply bG)
 ·have hlt := Dz hA (show 0 < ((A >>> k : Nat) : Int) by assumption)
  (apply dV (k + 1, _, _);focus (refine Le.ren [(0, 2)] rfl (by decide) ?_ ?_ <;> repeat' (first|exact trivial|refine And.intro ⟨_, rfl, ?_⟩ ?_|refine And.intro ⟨_, _, rfl, rfl, ?_⟩ ?_|exact Or.inr rfl|refine Or.inl ⟨?_, (by first|rfl|exact aZ _ _)⟩|rfl)))
  ·dsimp only
   exact ⟨by omega, wV hq hu, by simp;omega, by omega⟩
  ·dsimp only;omega
 ·have hlt := Dz hA (show 0 < ((A >>> k : Nat) : Int) by assumption)
  (apply dV (k + 1, u, m);focus (refine Le.ren [(0, 0)] rfl (by decide) ?_ ?_ <;> repeat' (first|exact trivial|refine And.intro ⟨_, rfl, ?_⟩ ?_|refine And.intro ⟨_, _, rfl, rfl, ?_⟩ ?_|exact Or.inr rfl|refine Or.inl ⟨?_, (by first|rfl|exact aZ _ _)⟩|rfl)))
  ·dsimp only
   exact ⟨by omega, xA hq hu, hm, by omega⟩
  ·dsimp only;omega
 ·(refine cE (Le.frzD (d := 2) (i := 0) rfl rfl) ?_; refine aO rfl ?_)
  refine ⟨?_, (by (exact aZ _ _))⟩
  simp only [b8, sl]
  rw [wP (k := k) (fun v hv => G3 hq v hv) (by omega) hA, ← hu, ← hm]
theorem uJ (A:Nat) (hA:Sm A):PC Tryz.prog 92 [.v (.int .u64 (A:Int))] (fun r => r = sl cI (cQ A)) := by
 (refine aT Tryz.func92 rfl (by simp [Tryz.ntmps92]) ?_; rw [Tryz.ntmps92])
 repeat' (first|(apply aK;first|(apply aE;rfl;rfl)|(apply aC;rfl;rfl)|(apply aF;kernel_rfl))|(apply aL;first|apply aH|apply aB|apply aM)|with_reducible apply aA)
 refine AW.le ?_ (Le.nilOwn (d := 3) 1 rfl (by decide))
 refine bF (σ := Nat × List Int × Nat) [0] [(0, _)] [] [] (fun k => [(5, iv (k.1 : Int)), (3, .own 0 0 k.2.2 1)]) (fun k => [(0, some (flat cI k.2.1))]) (fun k => k.1 ≤ 64 ∧ k.2.1 = ((List.range k.1).filter (A.testBit ·)).map (fun v : Nat => (v : Int)) ∧ k.2.2 = k.2.1.length ∧ k.2.2 ≤ k.1) (fun k => 64 - k.1) (0, [], 0) ⟨by omega, rfl, rfl, Nat.le_refl _⟩ rfl rfl (by repeat' (first|exact trivial|refine And.intro rfl ?_)) (by repeat' (first|exact trivial|refine And.intro (.inr rfl) ?_)) ?_
 rintro ⟨k, u, m⟩ ⟨hk, hu, hm, hmk⟩
 dsimp only at hk hu hm hmk ⊢
 repeat' (first|(apply aK;first|(apply aE;rfl;rfl)|(first|(apply sX;rfl;rfl;infer_instance;infer_instance;rfl)|(apply sZ;rfl;rfl;infer_instance;infer_instance;omega;rfl)|(apply bR;rfl;rfl;omega;rfl)|(apply aS;rfl;rfl;rfl;rfl))|(apply aC;rfl;rfl)|(apply cJ;rfl;rfl;rfl;rfl;rfl;(rw [aQ]; omega);(rfl);omega;omega;(exact lE (by (assumption)));rfl;rfl)|(apply aF;kernel_rfl)|((apply bS (t := _));(case hze|hsm|hl => rfl);(case hfl => exact (rfl:_=some [_]));(case hM|hN => rfl)))|(apply aL;first|apply aH|apply aB|(apply aN;rfl;all_goals intro hc;have hq:=hc;(try simp only [cH] at hq);try exfalso;omega)|apply aM|apply aR|apply bI|apply aP)|with_reducible apply aA|with_reducible apply bJ|with_reducible apply aW|with_reducible apply bG)
 ·(apply dV (k + 1, _, _); focus (refine Le.ren [(0, 2)] rfl (by decide) ?_ ?_ <;> repeat' (first | exact trivial | refine And.intro ⟨_, rfl, ?_⟩ ?_ | refine And.intro ⟨_, _, rfl, rfl, ?_⟩ ?_ | exact Or.inr rfl | refine Or.inl ⟨?_, (by first | rfl | exact aZ _ _)⟩ | rfl)))
  ·dsimp only
   exact ⟨by omega, wV hq hu, by simp;omega, by omega⟩
  ·dsimp only;omega
 ·(apply dV (k + 1, u, m); focus (refine Le.ren [(0, 0)] rfl (by decide) ?_ ?_ <;> repeat' (first | exact trivial | refine And.intro ⟨_, rfl, ?_⟩ ?_ | refine And.intro ⟨_, _, rfl, rfl, ?_⟩ ?_ | exact Or.inr rfl | refine Or.inl ⟨?_, (by first | rfl | exact aZ _ _)⟩ | rfl)))
  ·dsimp only
   exact ⟨by omega, xA hq hu, hm, by omega⟩
  ·dsimp only;omega
 ·(refine cE (Le.frzD (d := 2) (i := 0) rfl rfl) ?_; refine aO rfl ?_)
  refine ⟨?_, (by (exact aZ _ _))⟩
  simp only [b8, sl]
  rw [wP (k := k) (fun v hv => Nat.testBit_lt_two_pow (Nat.lt_of_lt_of_le hA.pf (Nat.pow_le_pow_right (by decide) (by omega)))) (by omega) hA, ← hu, ← hm]
theorem Bw (ts:List Int) (bd:List AL.Stmt) (pts:List Pnt) (V:Nat) (w:WG ts pts) (hV:Sm V):PC Tryz.prog 198 [aG ts bd pts,iv (V:Int)] (fun r => r = .v (.int .u64 (r9 pts V:Nat))) := by
 have hpl := w.pl
 have htl := w.tl
 (refine aT Tryz.func198 rfl (by simp [Tryz.ntmps198]) ?_; rw [Tryz.ntmps198])
 repeat' (first|(apply aK;first|(apply aE;rfl;rfl)|(apply aJ;rfl;rfl;rfl;rfl)|(apply aD;rfl;rfl;rfl)|(apply aC;rfl;rfl)|(apply a8;rfl;rfl;rfl)|(apply aF;kernel_rfl)|(apply bV;rfl;rfl;rfl))|(apply aL;first|apply aH|apply aB|apply aM)|with_reducible apply aA)
 refine bF (σ := Nat × Nat) [1, 11, 12] [(1, _), (11, _), (12, _)] [] [] (fun k => [(13, iv (k.1 : Int)), (5, .v (.int .u64 (k.2 : Int)))]) (fun k => []) (fun k => k.1 ≤ pts.length ∧ k.2 = fX (fun l => dZ pts[l]! && V.testBit (pts[l]!.y.toNat)) k.1) (fun k => pts.length - k.1) (0, 0) ⟨by omega, rfl⟩ rfl rfl (by repeat' (first|exact trivial|refine And.intro rfl ?_)) (by repeat' (exact trivial)) ?_
 rintro ⟨k, A⟩ ⟨hk, hA⟩
 dsimp only at hk hA ⊢
 have hsm : Sm A := hA ▸ dL (by omega)
 cases hln : dZ pts[k]!
 ·repeat' (first | (apply aK; first | (apply aE;rfl;rfl) | (apply aU;rfl;rfl;(exact (rfl:_=[_, _, _, _, _]));rfl;rfl;rfl) | (apply a6;rfl;rfl;rfl;(assumption)) | (first | (apply bR;rfl;rfl;omega;rfl) | (apply aS;rfl;rfl;rfl;rfl)) | (apply aC;rfl;rfl) | (apply bC;rfl;(assumption);rfl;rfl) | (apply a7; (case hx | hi => rfl); (case hm => (omega)); (case hml => (rfl)); (case hα | hf | hg => infer_instance); (case hN => rfl)) | ((with_reducible apply aI (k := 196)); (case ha => rfl); (case h => (apply mG <;> (fail))); (case hp => (exact Pur.pf)); (case hN => rfl)) | (apply aF;kernel_rfl) | (apply bB;rfl;rfl) | (apply aV;rfl;rfl;rfl;rfl;rfl;(case hl => (simp;done));(exact (rfl:_=[_, _, _, _, _])))) | (apply aL; first | apply aH | apply aB | (apply cG;rfl;(rfl)) | (apply aN;rfl;all_goals intro hc;have hq:=hc;(try simp only [cH] at hq);try exfalso;omega) | apply aM | apply aR | apply bI | apply aP) | with_reducible apply aA | with_reducible apply bJ | with_reducible apply aW | with_reducible apply bG | ((with_reducible apply aO); case hr => rfl))
  ·(apply dV (k + 1, A); focus (refine Le.ren [] rfl (by decide) ?_ ?_ <;> repeat' (first | exact trivial | refine And.intro ⟨_, rfl, ?_⟩ ?_ | refine Or.inl ⟨?_, (by first | rfl | exact aZ _ _)⟩ | rfl)))
   ·dsimp only
    exact ⟨by omega, by rw [hA]; exact mE _ _ (by rw [hln]; rfl)⟩
   ·dsimp only;omega
  ·(refine ⟨?_, rfl⟩; simp only [b8, AV.v.injEq, Value.bool.injEq, Value.int.injEq, true_and])
   rw [hA, show k = pts.length by omega]; rfl
 ·have hy := fun (h : k < pts.length) => CI w h hln
  repeat' (first|(apply aK;first|(apply aE;rfl;rfl)|(first|(apply aJ;rfl;rfl;rfl;rfl)|(apply aU;rfl;rfl;(exact (rfl:_=[_, _, _, _, _]));rfl;rfl;rfl))|(apply aD;rfl;rfl;rfl)|(apply aY;rfl;rfl;rfl;(assumption))|(first|(apply gO;rfl;rfl;infer_instance;infer_instance;infer_instance;rfl)|(apply sX;rfl;rfl;infer_instance;infer_instance;rfl)|(apply kK;rfl;rfl;infer_instance;omega;rfl;(case' kk => intro hsm))|(apply sZ;rfl;rfl;infer_instance;infer_instance;omega;rfl)|(apply bR;rfl;rfl;omega;rfl)|(apply aS;rfl;rfl;rfl;rfl))|(apply aC;rfl;rfl)|(apply bK;rfl;(assumption);rfl;rfl)|(apply a7;(case hx|hi => rfl);(case hm => (omega));(case hml => (rfl));(case hα | hf|hg => infer_instance);(case hN => rfl))|((with_reducible apply aI (k := 196));(case ha => rfl);(case h => (apply mG <;> (fail)));(case hp => (exact Pur.pf));(case hN => rfl))|(apply aF;kernel_rfl)|(apply bB;rfl;rfl)|(apply aV;rfl;rfl;rfl;rfl;rfl;(case hl => (simp;done));(exact (rfl:_=[_, _, _, _, _]))))|(apply aL;first|apply aH|apply aB|(apply aN;rfl;all_goals intro hc;have hq:=hc;(try simp only [cH] at hq);try exfalso;omega)|apply aM|apply aR|apply bI|apply aP)|with_reducible apply aA|with_reducible apply bJ|with_reducible apply aW|with_reducible apply bG|((with_reducible apply aO);case hr => rfl))
  ·(apply dV (k + 1, _); focus (refine Le.ren [] rfl (by decide) ?_ ?_ <;> repeat' (first | exact trivial | refine And.intro ⟨_, rfl, ?_⟩ ?_ | refine Or.inl ⟨?_, (by first | rfl | exact aZ _ _)⟩ | rfl)))
   ·dsimp only
    exact ⟨by omega, by rw [hA]; exact rQ _ _ (by rw [hln, Bool.true_and]; exact (mM _ _).1 hq)⟩
   ·dsimp only;omega
  ·(apply dV (k + 1, A); focus (refine Le.ren [] rfl (by decide) ?_ ?_ <;> repeat' (first | exact trivial | refine And.intro ⟨_, rfl, ?_⟩ ?_ | refine Or.inl ⟨?_, (by first | rfl | exact aZ _ _)⟩ | rfl)))
   ·dsimp only
    exact ⟨by omega, by rw [hA]; exact mE _ _ (by rw [hln, Bool.true_and]; cases hb : V.testBit (pts[k]!.y.toNat) with|false => rfl|true => exact absurd ((mM _ _).2 hb) hq)⟩
   ·dsimp only;omega
  ·(refine ⟨?_, rfl⟩; simp only [b8, AV.v.injEq, Value.bool.injEq, Value.int.injEq, true_and])
   rw [hA, show k = pts.length by omega]; rfl
theorem GL (ts:List Int) (bd:List AL.Stmt) (pts:List Pnt) (A:List Nat) (w:WG ts pts) (hA:wT ts pts A):PC Tryz.prog 167 [aG ts bd pts] (fun r => r = .imm pts.length (flat cW A)) := by
 have hpl := w.pl
 have hp0 := w.p0
 have htl := w.tl
 have fl := MN w
 (refine aT Tryz.func167 rfl (by simp [Tryz.ntmps167]) ?_; rw [Tryz.ntmps167])
 repeat' (first|(apply aK;first|(apply aE;rfl;rfl)|(apply aJ;rfl;rfl;rfl;rfl)|(apply aD;rfl;rfl;rfl)|(apply aC;rfl;rfl)|(apply a8;rfl;rfl;rfl)|(apply aF;kernel_rfl)|(apply bV;rfl;rfl;rfl)|(apply e9;rfl;rfl;rfl;omega;omega;(exact JR);rfl;rfl))|(apply aL;first|apply aH|apply aB|apply aM)|with_reducible apply aA)
 refine bF (σ := List Nat × Bool) [0, 3] [(0, _), (3, _)] [] [] (fun s => [(4, bv s.2)]) (fun s => [(0, some (flat cW s.1))]) (fun s => SG pts (MK ts pts) s.1 ∧ (s.2 = false → lO n7 (zB ts pts) pts s.1)) (fun s => 2 * gJ (s.1.map (fun a => 2 ^ pts.length - a)) + s.2.toNat) (List.replicate pts.length 0, true) ⟨CT fun i hi => ⟨Nat.pow_pos (by decide), fun v h => by simp at h⟩, fun h => by cases h⟩ rfl rfl (by repeat' (first|exact trivial|refine And.intro rfl ?_)) (by repeat' (first|exact trivial|refine And.intro (.inr rfl) ?_)) ?_
 rintro ⟨s, b⟩ ⟨hS, hC⟩
 dsimp only at hS hC ⊢
 repeat' (first|(apply aK;first|(apply aE;rfl;rfl)|(apply aJ;rfl;rfl;rfl;rfl)|(apply aD;rfl;rfl;rfl)|(apply aC;rfl;rfl)|(apply a8;rfl;rfl;rfl)|(apply aF;kernel_rfl)|(apply bV;rfl;rfl;rfl))|(apply aL;first|apply aH|apply aB|(apply aN;rfl;all_goals intro hc;have hq:=hc;(try simp only [cH] at hq);try exfalso;omega)|apply aM|apply aR|apply bI|apply aP)|with_reducible apply aA|with_reducible apply bJ|with_reducible apply bG)
 ·refine bF (σ := Nat × (List Nat × Bool)) [0, 3, 20, 21] [(0, _), (3, _), (20, _), (21, _)] [] [] (fun k => [(22, iv (k.1 : Int)), (4, bv k.2.2)]) (fun k => [(0, some (flat cW k.2.1))]) (fun k => k.1 ≤ pts.length ∧ k.2 = (List.range k.1).foldl (xZ n7 (zB ts pts) pts) (s, false) ∧ SG pts (MK ts pts) k.2.1) (fun k => pts.length - k.1) (0, (s, false)) ⟨by omega, rfl, hS⟩ rfl rfl (by repeat' (first | exact trivial | refine And.intro rfl ?_)) (by repeat' (first | exact trivial | refine And.intro (.inr rfl) ?_)) ?_
  rintro ⟨k, u, c⟩ ⟨hk, hf, hS2⟩
  dsimp only at hk hf hS2 ⊢
  have hul := hS2.1
  by_cases hkn : k < pts.length
  ·have hst := (w.set k hkn).1
   have hsm : ∀ z : Nat, Sm u[z]! := by
    intro z
    by_cases hz : z < pts.length
    ·exact ⟨Nat.lt_of_lt_of_le (hS2.2 z hz).1 (Nat.pow_le_pow_right (by decide) (by omega))⟩
    ·rw [getElem!_neg u z (by rw [hul]; exact hz)]; exact ⟨by decide⟩
   have hs1 : Sm (wS ts pts[k]! [2]) := dL (by omega)
   have hs2 : Sm (iK pts[k]!) := sR (by omega)
   have hs3 : ∀ V, Sm (r9 pts V) := fun V => F6 w V
   have hnl := w.nl k hkn
   have e1 : dZ pts[k]! = true → oI u[k]! (r9 pts (wS ts pts[k]! [2] ||| iK pts[k]!)) ||| 2 ^ (k : Int).toNat = zB ts pts k u[k]! := fun h => by unfold zB LA;rw [if_pos h]; rfl
   have e0 : dZ pts[k]! = false → oI u[k]! (r9 pts (wS ts pts[k]! [2] ||| iK pts[k]!)) = zB ts pts k u[k]! := fun h => by unfold zB LA;rw [if_neg (by rw [h]; simp), Nat.or_zero]
   have hps : Sm (zB ts pts k u[k]!) := ⟨Nat.lt_of_lt_of_le (CK w hkn (hS2.2 k hkn).1) (Nat.pow_le_pow_right (by decide) (by omega))⟩
   repeat' (first|(apply aK;first|(apply aE;rfl;rfl)|(first|(apply fF;(case hx|hH => rfl);(case hf|hg|hα => infer_instance);(case hk => omega);(case hc|hN => rfl))|(apply aJ;rfl;rfl;rfl;rfl)|(apply aU;rfl;rfl;(exact (rfl:_=[_, _, _, _, _]));rfl;rfl;rfl))|(apply aD;rfl;rfl;rfl)|(first|(apply gO;rfl;rfl;infer_instance;infer_instance;infer_instance;rfl)|(apply pD;rfl;rfl;infer_instance;infer_instance;infer_instance;rfl)|(apply kK;rfl;rfl;infer_instance;omega;rfl;(case' kk => intro hsm))|(apply aS;rfl;rfl;rfl;rfl))|(apply aC;rfl;rfl)|(first|(apply a7;(case hx|hi => rfl);(case hm => (assumption));(case hml => (rfl));(case hα | hf|hg => infer_instance);(case hN => rfl))|(apply cM;rfl;rfl;(assumption);rfl))|(first|((with_reducible apply aI (k := 139));(case ha => rfl);(case h => (apply s9 <;> (assumption)));(case hp => (exact Pur.pf));(case hN => rfl))|((with_reducible apply aI (k := 174));(case ha => rfl);(case h => (apply oZ <;> (omega)));(case hp => (exact Pur.pf));(case hN => rfl))|((with_reducible apply aI (k := 196));(case ha => rfl);(case h => (apply mG <;> (fail)));(case hp => (exact Pur.pf));(case hN => rfl))|((with_reducible apply aI (k := 198));(case ha => rfl);(case h => (apply Bw <;> (first|assumption|infer_instance)));(case hp => (exact Pur.pf));(case hN => rfl)))|(apply a8;rfl;rfl;rfl)|(apply aF;kernel_rfl)|(apply bB;rfl;rfl)|(apply aV;rfl;rfl;rfl;rfl;rfl;(case hl => (simp;done));(exact (rfl:_=[_, _, _, _, _]))))|(apply aL;first|apply aH|apply aB|(apply bZ;kernel_rfl)|(apply aN;rfl;all_goals intro hc;have hq:=hc;(try simp only [cH] at hq);try exfalso;omega)|apply aM|apply aR)|with_reducible apply aA)
   all_goals first|rw [e1 (by assumption)]|rw [e0 (by assumption)]
   all_goals
    refine bF (σ := Nat × (List Nat × Bool)) [0, 3, 7, 20, 21, 22, 47, 48] [(0, _), (3, _), (7, _), (20, _), (21, _), (22, _), (47, _), (48, _)] [] [] (fun j => [(49, iv (j.1 : Int)), (4, bv j.2.2)]) (fun j => [(0, some (flat cW j.2.1))]) (fun j => j.1 ≤ pts[k]!.next.length ∧ j.2 = ((vW pts k).take j.1).foldl (lJ n7 (zB ts pts k u[k]!)) (u, c) ∧ SG pts (MK ts pts) j.2.1) (fun j => pts[k]!.next.length - j.1) (0, (u, c)) ⟨by omega, rfl, hS2⟩ rfl rfl (by repeat' (first|exact trivial|refine And.intro rfl ?_)) (by repeat' (first|exact trivial|refine And.intro (.inr rfl) ?_)) ?_
    rintro ⟨j, u2, c2⟩ ⟨hj, hf2, hS3⟩
    dsimp only at hj hf2 hS3 ⊢
    have hul2 := hS3.1
    have hsm2 : ∀ z : Nat, Sm u2[z]! := by
     intro z
     by_cases hz : z < pts.length
     ·exact ⟨Nat.lt_of_lt_of_le (hS3.2 z hz).1 (Nat.pow_le_pow_right (by decide) (by omega))⟩
     ·rw [getElem!_neg u2 z (by rw [hul2]; exact hz)]; exact ⟨by decide⟩
    have hz : j < pts[k]!.next.length → 0 ≤ pts[k]!.next[j]! ∧ pts[k]!.next[j]! < pts.length := fun h => w.nx k hkn _ (b9 _ _ h)
    repeat' (first|(apply aK;first|(apply aE;rfl;rfl)|(first|(apply fF;(case hx|hH => rfl);(case hf|hg|hα => infer_instance);(case hk => omega);(case hc|hN => rfl))|(apply aJ;rfl;rfl;rfl;rfl))|(first|(apply gO;rfl;rfl;infer_instance;infer_instance;infer_instance;rfl)|(apply bR;rfl;rfl;omega;rfl)|(apply aS;rfl;rfl;rfl;rfl))|(apply aC;rfl;rfl)|(first|(apply a7;(case hx|hi => rfl);(case hm => (omega));(case hml => (rfl));(case hα | hf|hg => infer_instance);(case hN => rfl))|(apply cR;rfl;rfl;(omega);rfl))|(apply aF;kernel_rfl)|(apply aV;rfl;rfl;rfl;rfl;rfl;(rw [aQ]; simp only [gN] <;> omega);(exact o7 (by (omega)))))|(apply aL;first|apply aH|apply aB|(apply bZ;kernel_rfl)|(apply aN;rfl;all_goals intro hc;have hq:=hc;(try simp only [cH] at hq);try exfalso;omega)|apply aM|apply aR|apply bI)|with_reducible apply aA|with_reducible apply bJ|with_reducible apply aW|with_reducible apply bG)
    ·have hzz := hz (by omega)
     have hed : edge pts k (pts[k]!.next[j]!).toNat := ⟨hkn, by rw [Int.toNat_of_nonneg hzz.1]; exact b9 _ _ (by omega)⟩
     have hne : n7 u2[(pts[k]!.next[j]!).toNat]! (zB ts pts k u[k]!) ≠ u2[(pts[k]!.next[j]!).toNat]! := fun h => hq (congrArg Int.ofNat h)
     (apply dV (j + 1, (_, true));focus (refine Le.ren [(0, 0)] rfl (by decide) ?_ ?_ <;> repeat' (first|exact trivial|refine And.intro ⟨_, rfl, ?_⟩ ?_|refine And.intro ⟨_, _, rfl, rfl, ?_⟩ ?_|exact Or.inr rfl|refine Or.inl ⟨?_, (by first|rfl|exact aZ _ _|exact Pur.pf)⟩|rfl)))
     ·dsimp only
      refine ⟨by omega, ?_, yV fl w (hS2.2 k hkn) hed hS3⟩
      rw [jQ (by omega), ← hf2, yX hne]
     ·dsimp only;omega
    ·have hzz := hz (by omega)
     have hne : n7 u2[(pts[k]!.next[j]!).toNat]! (zB ts pts k u[k]!) = u2[(pts[k]!.next[j]!).toNat]! := Int.ofNat.inj hq
     (apply dV (j + 1, (u2, c2));focus (refine Le.ren [(0, 0)] rfl (by decide) ?_ ?_ <;> repeat' (first|exact trivial|refine And.intro ⟨_, rfl, ?_⟩ ?_|refine And.intro ⟨_, _, rfl, rfl, ?_⟩ ?_|exact Or.inr rfl|refine Or.inl ⟨?_, (by first|rfl|exact aZ _ _|exact Pur.pf)⟩|rfl)))
     ·dsimp only
      refine ⟨by omega, ?_, hS3⟩
      rw [jQ (by omega), ← hf2, zJ hne]
     ·dsimp only;omega
    ·(apply dV (k + 1, (u2, c2)); focus (refine Le.ren [(0, 0)] rfl (by decide) ?_ ?_ <;> repeat' (first | exact trivial | refine And.intro ⟨_, rfl, ?_⟩ ?_ | refine And.intro ⟨_, _, rfl, rfl, ?_⟩ ?_ | exact Or.inr rfl | refine Or.inl ⟨?_, (by first | rfl | exact aZ _ _ | exact Pur.pf)⟩ | rfl)))
     ·dsimp only
      refine ⟨by omega, ?_, hS3⟩
      rw [fG, ← hf, hf2, List.take_of_length_le (by rw [lH]; omega)]; rfl
     ·dsimp only;omega
  ·repeat' (first | (apply aK; first | (apply aS;rfl;rfl;rfl;rfl) | (apply aF;kernel_rfl)) | (apply aL; first | apply aH | apply aB | (apply aN;rfl;all_goals intro hc;have hq:=hc;(try simp only [cH] at hq);try exfalso;omega) | apply bI) | with_reducible apply aA | with_reducible apply bJ | with_reducible apply aW | with_reducible apply bG)
   have law := vI w fl s false hS
   have hfull : (u, c) = yU n7 (zB ts pts) pts (s, false) := by
    rw [hf, show k = pts.length by omega]; rfl
   rw [← hfull] at law
   (apply dV (u, c);focus (refine Le.ren [(0, 0)] rfl (by decide) ?_ ?_ <;> repeat' (first|exact trivial|refine And.intro ⟨_, rfl, ?_⟩ ?_|refine And.intro ⟨_, _, rfl, rfl, ?_⟩ ?_|exact Or.inr rfl|refine Or.inl ⟨?_, (by first|rfl|exact aZ _ _|exact Pur.pf)⟩|rfl)))
   ·dsimp only
    refine ⟨hS2, fun h => ?_⟩
    rcases law.2 with ⟨e1, e2⟩ | ⟨e1, _⟩
    ·cases e1;exact e2
    ·dsimp only at e1;rw [h] at e1;cases e1
   ·dsimp only
    have hb : b = true := by assumption
    subst hb
    rcases law.2 with ⟨e1, e2⟩ | ⟨e1, e2⟩
    ·cases e1;simp
    ·dsimp only at e1 e2;subst e1;omega
 ·have hb : b = false := by assumption
  refine cE (Le.frzD (d := 2) (i := 0) rfl rfl) ?_
  refine aO rfl ⟨?_, (by (exact aZ _ _))⟩
  simp only [b8]
  rw [Ex hA (FJ w hS (hC hb))]
theorem Cw (ts:List Int) (bd:List AL.Stmt) (pts:List Pnt) (i:Int) (f:List Nat) (w:WG ts pts) (hi:0 ≤ i ∧ i < pts.length) (hf:f.length = 6) (hs:∀ z:Nat,Sm f[z]!):PC Tryz.prog 165 [aG ts bd pts,iv i,.agg (flat cW f)] (fun r => r = .agg (flat cW (zM ts pts i.toNat f))) := by
 have hpl := w.pl
 have htl := w.tl
 have hin : i.toNat < pts.length := by omega
 have hst := (w.set i.toNat hin)
 have hy := w.y i.toNat hin
 have hbl := dW (wS ts pts[i.toNat]! [2])
 have hT : Sm (wS ts pts[i.toNat]! [2]) := dL (by omega)
 (refine aT Tryz.func165 rfl (by simp [Tryz.ntmps165]) ?_; rw [Tryz.ntmps165])
 repeat' (first|(apply aK;first|(apply aE;rfl;rfl)|(first|(apply aJ;rfl;rfl;rfl;rfl)|(apply aU;rfl;rfl;(first|exact (rfl:_=[_, _, _, _, _])|rfl);rfl;rfl;rfl)|(apply kD;rfl;rfl;(assumption);rfl;rfl))|(apply aD;rfl;rfl;rfl)|(apply cO;(case hx|hi => rfl);(case hm => (assumption));(case hml => (rfl));(case hα | hf|hg => infer_instance);(case hN => rfl))|(first|((with_reducible apply aI (k := 100));(case ha => rfl);(case h => (apply g6 <;> (assumption)));(case hp => (rfl));(case hN => rfl))|((with_reducible apply aI (k := 139));(case ha => rfl);(case h => (apply s9 <;> (assumption)));(case hp => (exact Pur.pf));(case hN => rfl)))|(apply a8;rfl;rfl;rfl)|(apply aF;kernel_rfl)|(apply bV;rfl;rfl;rfl)|(apply bT;rfl;rfl;rfl;rfl)|(apply bB;rfl;rfl)|(apply aV;rfl;rfl;rfl;rfl;rfl;(case hl => (simp;done));(exact (rfl:_=[_, _, _, _, _])))|(apply iN;rfl;rfl;rfl;(assumption);(rfl)))|(apply aL;first|apply aH|apply aB|apply aM)|with_reducible apply aA)
 refine bF (σ := Nat × List Nat) [0, 1, 5, 6, 7, 8, 23, 24] [(0, _), (1, _), (5, _), (6, _), (7, _), (8, _), (23, _), (24, _)] [0, 1, 2] [(0, some _), (1, some _), (2, some _)] (fun k => [(25, iv (k.1 : Int))]) (fun k => [(3, some (flat cW k.2))]) (fun k => k.1 ≤ (cQ (wS ts pts[i.toNat]! [2])).length ∧ k.2 = oO ((cQ (wS ts pts[i.toNat]! [2])).take k.1) f ∧ k.2.length = 6) (fun k => (cQ (wS ts pts[i.toNat]! [2])).length - k.1) (0, f) ⟨by omega, rfl, hf⟩ rfl rfl (by repeat' (first|exact trivial|refine And.intro rfl ?_)) (by repeat' (first|exact trivial|refine And.intro (.inr rfl) ?_)) ?_
 rintro ⟨k, u⟩ ⟨hk, hu, hul⟩
 dsimp only at hk hu hul ⊢
 have hbb : k < (cQ (wS ts pts[i.toNat]! [2])).length → 0 ≤ (cQ (wS ts pts[i.toNat]! [2]))[k]! ∧ (cQ (wS ts pts[i.toNat]! [2]))[k]! < ts.length := fun h => mF (xL (fun v => decide (bQ ts pts[i.toNat]! v ∈ [2])) ts.length) h
 have husm : ∀ z : Nat, Sm u[z]! := by intro z;rw [hu]; exact Lz hs z
 have hset : ∀ (k a : Nat) [Sm a] (z : Nat), Sm (u.set k a)[z]! := fun k a h z => B6 husm h z
 have hset2 : ∀ (k a k2 a2 : Nat) [Sm a] [Sm a2] (z : Nat), Sm ((u.set k a).set k2 a2)[z]! := fun k a k2 a2 h h2 z => B6 (B6 husm h) h2 z
 by_cases hkn : k < (cQ (wS ts pts[i.toNat]! [2])).length
 ·have hbk := hbb hkn
  repeat' (first|(apply aK;first|(apply aE;rfl;rfl)|(apply aJ;rfl;rfl;rfl;rfl)|(first|(apply bR;rfl;rfl;omega;rfl)|(apply aS;rfl;rfl;rfl;rfl))|(apply aC;rfl;rfl)|(first|(apply a7;(case hx|hi => rfl);(case hm => (assumption));(case hml => (rfl));(case hα | hf|hg => infer_instance);(case hN => rfl))|(apply iJ;rfl;rfl;(omega);rfl;rfl))|(apply aF;kernel_rfl)|(apply aV;rfl;rfl;rfl;rfl;rfl;(rw [aQ]; simp only [gN] <;> omega);(exact o7 (by (omega)))))|(apply aL;first|apply aH|apply aB|(apply aN;rfl;all_goals intro hc;have hq:=hc;(try simp only [cH] at hq);try exfalso;omega)|apply aM|apply aR)|with_reducible apply aA|with_reducible apply aW)
  (apply Exists.intro (k + 1, u.set ((cQ (wS ts pts[i.toNat]! [2]))[k]!).toNat 0);refine And.intro ?_ (And.intro ?_ ?_);rotate_left 2;focus (refine Le.ren [(0, 0), (1, 1), (2, 2), (3, 3)] rfl (by decide) ?_ ?_ <;> repeat' (first|exact trivial|refine And.intro ⟨_, rfl, ?_⟩ ?_|refine And.intro ⟨_, _, rfl, rfl, ?_⟩ ?_|exact Or.inr rfl|refine Or.inl ⟨?_, (by first|rfl|exact aZ _ _|exact Pur.pf)⟩|rfl)))
  ·dsimp only
   exact ⟨by omega, by rw [Fi hkn, ← hu], by simpa using hul⟩
  ·dsimp only;omega
 ·have hu' : u = oO (cQ (wS ts pts[i.toNat]! [2])) f := by rw [hu, List.take_of_length_le (by omega)]
  cases hln : dZ pts[i.toNat]!
  ·repeat' (first | (apply aK; first | (apply aE;rfl;rfl) | (first | (apply fF; (case hx | hH => rfl); (case hf | hg | hα => infer_instance); (case hk => omega); (case hc | hN => rfl)) | (apply aJ;rfl;rfl;rfl;rfl) | (apply aU;rfl;rfl;(first | exact (rfl:_=[_, _, _, _, _]) | rfl);rfl;rfl;rfl) | (apply kD;rfl;rfl;(first | assumption | (simp only [gN] <;> omega));rfl;rfl) | (apply qI;rfl;rfl;(exact MR);(simp only [gN] <;> omega);rfl)) | (apply aD;rfl;rfl;rfl) | (first | (apply aY;rfl;rfl;rfl;(rfl)) | (apply a6;rfl;rfl;rfl;(assumption))) | (first | (apply gO;rfl;rfl;infer_instance;infer_instance;infer_instance;rfl) | (apply aS;rfl;rfl;rfl;rfl)) | (apply aC;rfl;rfl) | (apply bC;rfl;(first | rfl | assumption);rfl;rfl) | (apply iJ;rfl;rfl;(omega);rfl;rfl) | (first | ((with_reducible apply aI (k := 140)); (case ha => rfl); (case h => (apply zD <;> (fail))); (case hp => (exact Pur.pf)); (case hN => rfl)) | ((with_reducible apply aI (k := 196)); (case ha => rfl); (case h => (apply mG <;> (fail))); (case hp => (exact Pur.pf)); (case hN => rfl))) | (apply aF;kernel_rfl) | (apply aV;rfl;rfl;rfl;rfl;rfl;(rw [aQ]; simp only [gN] <;> omega);(exact o7 (by (first | omega | (simp only [gN] <;> omega))))) | (apply iN;rfl;rfl;rfl;(first | assumption | (simp only [gN] <;> omega));(rfl))) | (apply aL; first | apply aH | apply aB | (apply bZ;kernel_rfl) | (apply cG;rfl;(assumption)) | (apply aN;rfl;all_goals intro hc;have hq:=hc;(try simp only [cH] at hq);try exfalso;omega) | apply aR | apply bI | apply aP) | with_reducible apply aA | with_reducible apply bH | with_reducible apply bJ | with_reducible apply bG)
   all_goals (refine aO (oC (z := 6) rfl rfl (by first|exact hul|(simp only [List.length_set]; exact hul)) (by decide)) ⟨?_, (by (exact aZ _ _))⟩)
   all_goals simp only [b8, zM, ← hu', hln, Bool.false_eq_true, false_and, false_or, if_false]
   all_goals congr 2
   all_goals grind
  ·have hop := Dg hln
   repeat' (first|(apply aK;first|(apply aE;rfl;rfl)|(first|(apply fF;(case hx|hH => rfl);(case hf|hg|hα => infer_instance);(case hk => omega);(case hc|hN => rfl))|(apply aJ;rfl;rfl;rfl;rfl)|(apply aU;rfl;rfl;(first|exact (rfl:_=[_, _, _, _, _])|rfl);rfl;rfl;rfl)|(apply kD;rfl;rfl;(first|assumption|(simp only [gN] <;> omega));rfl;rfl)|(apply qI;rfl;rfl;(exact MR);(simp only [gN] <;> omega);rfl))|(apply aD;rfl;rfl;rfl)|(first|(apply aY;rfl;rfl;rfl;(assumption))|(apply a6;rfl;rfl;rfl;(assumption))|(apply bE;(case hj|hb|hN => rfl);all_goals (intro hg;have hq := hg;(try simp only [cH] at hq);(try (exfalso;omega)))))|(first|(apply gO;rfl;rfl;infer_instance;infer_instance;infer_instance;rfl)|(apply kK;rfl;rfl;infer_instance;omega;rfl;(case' kk => intro hsm))|(apply aS;rfl;rfl;rfl;rfl))|(apply aC;rfl;rfl)|(first|(apply bK;rfl;(assumption);rfl;rfl)|(apply bC;rfl;(assumption);rfl;rfl))|(first|(apply cO;(case hx|hi => rfl);(case hm => (omega));(case hml => (rfl));(case hα | hf|hg => infer_instance);(case hN => rfl))|(apply iJ;rfl;rfl;(omega);rfl;rfl))|(first|((with_reducible apply aI (k := 140));(case ha => rfl);(case h => (apply zD <;> (fail)));(case hp => (exact Pur.pf));(case hN => rfl))|((with_reducible apply aI (k := 196));(case ha => rfl);(case h => (apply mG <;> (fail)));(case hp => (exact Pur.pf));(case hN => rfl))|((with_reducible apply aI (k := 197));(case ha => rfl);(case h => (apply Aw <;> (fail)));(case hp => (rfl));(case hN => rfl)))|(apply aF;kernel_rfl)|(apply bV;rfl;rfl;rfl)|(apply aV;rfl;rfl;rfl;rfl;rfl;(rw [aQ]; simp only [gN] <;> omega);(exact o7 (by (first|omega|(simp only [gN] <;> omega)))))|(apply iN;rfl;rfl;rfl;(first|assumption|(simp only [gN] <;> omega));(rfl)))|(apply aL;first|apply aH|apply aB|(apply bZ;kernel_rfl)|(apply bU;rfl;(first|rfl|assumption))|(apply aN;rfl;all_goals intro hc;have hq:=hc;(try simp only [cH] at hq);try exfalso;omega)|apply aR|apply bI|apply aP)|with_reducible apply aA|with_reducible apply bH|with_reducible apply bJ|with_reducible apply bG)
   all_goals (refine aO (oC (z := 6) rfl rfl (by first|exact hul|(simp only [List.length_set]; exact hul)) (by decide)) ⟨?_, (by (exact aZ _ _))⟩)
   all_goals simp only [b8, zM, ← hu', hln, true_and, if_true]
   all_goals congr 2
   all_goals grind
theorem Em (ts:List Int) (bd:List AL.Stmt) (pts:List Pnt) (A:List Nat) (w:WG ts pts) (hA:xQ ts pts A):PC Tryz.prog 125 [aG ts bd pts] (fun r => r = .imm pts.length (flat cW A)) := by
 have hpl := w.pl
 have hp0 := w.p0
 have htl := w.tl
 (refine aT Tryz.func125 rfl (by simp [Tryz.ntmps125]) ?_; rw [Tryz.ntmps125])
 repeat' (first|(apply aK;first|(apply aE;rfl;rfl)|(apply aJ;rfl;rfl;rfl;rfl)|(apply aD;rfl;rfl;rfl)|(apply aC;rfl;rfl)|(apply a8;rfl;rfl;rfl)|(apply aF;kernel_rfl)|(apply bV;rfl;rfl;rfl)|(apply e9;rfl;rfl;rfl;omega;omega;(exact H7);rfl;rfl))|(apply aL;first|apply aH|apply aB|apply aM)|with_reducible apply aA)
 refine bF (σ := List Nat × Bool) [0, 3] [(0, _), (3, _)] [] [] (fun s => [(4, bv s.2)]) (fun s => [(0, some (flat cW s.1))]) (fun s => SF ts pts s.1 ∧ (s.2 = false → zS ts pts s.1)) (fun s => 2 * gJ (s.1.map (fun x => 2 ^ pts.length - x)) + s.2.toNat) (List.replicate (pts.length * 6) 0, true) ⟨K3, fun h => by cases h⟩ rfl rfl (by repeat' (first|exact trivial|refine And.intro rfl ?_)) (by repeat' (first|exact trivial|refine And.intro (.inr rfl) ?_)) ?_
 rintro ⟨s, b⟩ ⟨hS, hC⟩
 dsimp only at hS hC ⊢
 repeat' (first|(apply aK;first|(apply aE;rfl;rfl)|(apply aJ;rfl;rfl;rfl;rfl)|(apply aD;rfl;rfl;rfl)|(apply aC;rfl;rfl)|(apply a8;rfl;rfl;rfl)|(apply aF;kernel_rfl)|(apply bV;rfl;rfl;rfl))|(apply aL;first|apply aH|apply aB|(apply aN;rfl;all_goals intro hc;have hq:=hc;(try simp only [cH] at hq);try exfalso;omega)|apply aM|apply aR|apply bI|apply aP)|with_reducible apply aA|with_reducible apply bJ|with_reducible apply bG)
 ·refine bF (σ := Nat × (List Nat × Bool)) [0, 3, 22, 23] [(0, _), (3, _), (22, _), (23, _)] [] [] (fun k => [(24, iv (k.1 : Int)), (4, bv k.2.2)]) (fun k => [(0, some (flat cW k.2.1))]) (fun k => k.1 ≤ pts.length ∧ k.2 = (List.range k.1).foldl (CU ts pts) (s, false) ∧ SF ts pts k.2.1) (fun k => pts.length - k.1) (0, (s, false)) ⟨by omega, rfl, hS⟩ rfl rfl (by repeat' (first | exact trivial | refine And.intro rfl ?_)) (by repeat' (first | exact trivial | refine And.intro (.inr rfl) ?_)) ?_
  rintro ⟨i, u, c⟩ ⟨hk, hf, hS2⟩
  dsimp only at hk hf hS2 ⊢
  have hul := hS2.1
  have hsm : ∀ z : Nat, Sm u[z]! := Kq w hS2
  by_cases hin : i < pts.length
  ·have hnl := w.nl i hin
   have hrl : ((u.drop (i * 6)).take 6).length = 6 := gZ hul hin
   have hrs : ∀ z : Nat, Sm ((u.drop (i * 6)).take 6)[z]! := by
    intro z
    by_cases hz : z < 6
    ·have := iE hul hin hz;unfold fY at this;rw [this]; exact hsm _
    ·rw [getElem!_neg _ z (by rw [hrl]; exact hz)]; exact ⟨by decide⟩
   have hcl : (zM ts pts (i : Int).toNat ((u.drop (i * 6)).take 6)).length = 6 := (Kb ts pts i ((u.drop (i * 6)).take 6)).trans hrl
   repeat' (first|(apply aK;first|(apply aE;rfl;rfl)|(first|(apply aJ;rfl;rfl;rfl;rfl)|(apply aU;rfl;rfl;(first|exact (rfl:_=[_, _, _, _, _])|rfl);rfl;rfl;rfl)|(apply BG;rfl;rfl;(omega);rfl;rfl))|(apply aD;rfl;rfl;rfl)|(apply aS;rfl;rfl;rfl;rfl)|(apply aC;rfl;rfl)|(first|(apply a7;(case hx|hi => rfl);(case hm => (assumption));(case hml => (rfl));(case hα | hf|hg => infer_instance);(case hN => rfl))|(apply cM;rfl;rfl;(assumption);rfl))|((with_reducible apply aI (k := 165));(case ha => rfl);(case h => (apply Cw <;> (first|assumption|omega)));(case hp => (exact Pur.pf));(case hN => rfl))|(apply a8;rfl;rfl;rfl)|(apply aF;kernel_rfl)|(apply bB;rfl;rfl)|(apply aV;rfl;rfl;rfl;rfl;rfl;(case hl => (simp;done));(exact (rfl:_=[_, _, _, _, _])))|(apply iN;rfl;rfl;rfl;(assumption);(rfl)))|(apply aL;first|apply aH|apply aB|(apply aN;rfl;all_goals intro hc;have hq:=hc;(try simp only [cH] at hq);try exfalso;omega)|apply aM|apply aR)|with_reducible apply aA)
   generalize hcf : zM ts pts (i : Int).toNat ((u.drop (i * 6)).take 6) = a at hcl
   have hcf' : zM ts pts i (fY u i) = a := hcf
   have hasnd : ∀ k, edge pts i k → ∀ v, v < 6 → MD ts pts k v a[v]! := fun k e v hv => by rw [← hcf']; exact Dl w hS2 e hv
   refine bF (σ := Nat × (List Nat × Bool)) [0, 3, 7, 22, 23, 24, 37, 38] [(0, _), (3, _), (7, _), (22, _), (23, _), (24, _), (37, _), (38, _)] [2] [(2, some _)] (fun j => [(39, iv (j.1 : Int)), (4, bv j.2.2)]) (fun j => [(0, some (flat cW j.2.1))]) (fun j => j.1 ≤ pts[i]!.next.length ∧ j.2 = ((vW pts i).take j.1).foldl (wE a) (u, c) ∧ SF ts pts j.2.1) (fun j => pts[i]!.next.length - j.1) (0, (u, c)) ⟨by omega, rfl, hS2⟩ rfl rfl (by repeat' (first|exact trivial|refine And.intro rfl ?_)) (by repeat' (first|exact trivial|refine And.intro (.inr rfl) ?_)) ?_
   rintro ⟨j, u2, c2⟩ ⟨hj, hf2, hS3⟩
   dsimp only at hj hf2 hS3 ⊢
   have hul2 := hS3.1
   by_cases hjn : j < pts[i]!.next.length
   ·have hzz : 0 ≤ pts[i]!.next[j]! ∧ pts[i]!.next[j]! < pts.length := w.nx i hin _ (b9 _ _ hjn)
    have hed : edge pts i (pts[i]!.next[j]!).toNat := ⟨hin, by rw [Int.toNat_of_nonneg hzz.1]; exact b9 _ _ hjn⟩
    have hap := hasnd _ hed
    have hasm : ∀ z : Nat, Sm a[z]! := by
     intro z
     by_cases hz : z < 6
     ·exact ⟨Nat.lt_of_lt_of_le (hap z hz).1 (Nat.pow_le_pow_right (by decide) (by omega))⟩
     ·rw [getElem!_neg a z (by rw [hcl]; exact hz)]; exact ⟨by decide⟩
    repeat' (first|(apply aK;first|(apply aE;rfl;rfl)|(first|(apply aJ;rfl;rfl;rfl;rfl)|(apply kD;rfl;rfl;(assumption);rfl;rfl))|(apply aS;rfl;rfl;rfl;rfl)|(apply aC;rfl;rfl)|(apply a7;(case hx|hi => rfl);(case hm => (assumption));(case hml => (rfl));(case hα | hf|hg => infer_instance);(case hN => rfl))|(apply aF;kernel_rfl))|(apply aL;first|apply aH|apply aB|(apply aN;rfl;all_goals intro hc;have hq:=hc;(try simp only [cH] at hq);try exfalso;omega)|apply aM|apply aR)|with_reducible apply aA)
    refine bF (σ := Nat × (List Nat × Bool)) [0, 3, 7, 9, 22, 23, 24, 37, 38, 39, 43] [(0, _), (3, _), (7, _), (9, _), (22, _), (23, _), (24, _), (37, _), (38, _), (39, _), (43, _)] [2] [(2, some _)] (fun v => [(44, iv (v.1 : Int)), (4, bv v.2.2)]) (fun v => [(0, some (flat cW v.2.1))]) (fun v => v.1 ≤ 6 ∧ v.2 = (List.range v.1).foldl (qF a (pts[i]!.next[j]!).toNat) (u2, c2) ∧ SF ts pts v.2.1) (fun v => 6 - v.1) (0, (u2, c2)) ⟨by omega, rfl, hS3⟩ rfl rfl (by repeat' (first|exact trivial|refine And.intro rfl ?_)) (by repeat' (first|exact trivial|refine And.intro (.inr rfl) ?_)) ?_
    rintro ⟨v, u3, c3⟩ ⟨hv, hf3, hS4⟩
    dsimp only at hv hf3 hS4 ⊢
    have hul3 := hS4.1
    have hsm3 : ∀ z : Nat, Sm u3[z]! := Kq w hS4
    by_cases hvn : v < 6
    ·have hlaw := BH (eH w hed) hap u3 c3 v hvn hS4
     repeat' (first|(apply aK;first|(apply aE;rfl;rfl)|(apply qI;rfl;rfl;(exact M8);(omega);rfl)|(first|(apply gO;rfl;rfl;infer_instance;infer_instance;infer_instance;rfl)|(apply bR;rfl;rfl;omega;rfl)|(apply aS;rfl;rfl;rfl;rfl))|(apply aC;rfl;rfl)|(first|(apply cR;rfl;rfl;(assumption);rfl)|(apply iJ;rfl;rfl;(omega);rfl;rfl))|(apply aF;kernel_rfl)|(apply CB;rfl;rfl;(assumption);omega;rfl)|(apply aV;rfl;rfl;rfl;rfl;rfl;(rw [aQ]; simp only [gN] <;> omega);(exact HT (by (omega)))))|(apply aL;first|apply aH|apply aB|(apply bZ;kernel_rfl)|(apply aN;rfl;all_goals intro hc;have hq:=hc;(try simp only [cH] at hq);try exfalso;omega)|apply aM|apply aR)|with_reducible apply aA|with_reducible apply aW)
     ·have hne : n7 u3[(pts[i]!.next[j]!).toNat * 6 + v]! a[v]! ≠ u3[(pts[i]!.next[j]!).toNat * 6 + v]! := fun h => hq (congrArg Int.ofNat h)
      have e1 : qF a (pts[i]!.next[j]!).toNat (u3, c3) v = (u3.set ((pts[i]!.next[j]!).toNat * 6 + v) (n7 u3[(pts[i]!.next[j]!).toNat * 6 + v]! a[v]!), true) := yX hne
      rw [e1] at hlaw
      (apply dV (v + 1, (_, true));focus (refine Le.ren [(0, 0), (2, 2)] rfl (by decide) ?_ ?_ <;> repeat' (first|exact trivial|refine And.intro ⟨_, rfl, ?_⟩ ?_|refine And.intro ⟨_, _, rfl, rfl, ?_⟩ ?_|exact Or.inr rfl|refine Or.inl ⟨?_, (by first|rfl|exact aZ _ _|exact Pur.pf)⟩|rfl)))
      ·dsimp only
       refine ⟨by omega, ?_, hlaw.1⟩
       rw [xE, ← hf3, e1]; rfl
      ·dsimp only;omega
     ·have hne : n7 u3[(pts[i]!.next[j]!).toNat * 6 + v]! a[v]! = u3[(pts[i]!.next[j]!).toNat * 6 + v]! := Int.ofNat.inj hq
      have e1 : qF a (pts[i]!.next[j]!).toNat (u3, c3) v = (u3, c3) := zJ hne
      (apply dV (v + 1, (u3, c3));focus (refine Le.ren [(0, 0), (2, 2)] rfl (by decide) ?_ ?_ <;> repeat' (first|exact trivial|refine And.intro ⟨_, rfl, ?_⟩ ?_|refine And.intro ⟨_, _, rfl, rfl, ?_⟩ ?_|exact Or.inr rfl|refine Or.inl ⟨?_, (by first|rfl|exact aZ _ _|exact Pur.pf)⟩|rfl)))
      ·dsimp only
       refine ⟨by omega, ?_, hS4⟩
       rw [xE, ← hf3, e1]
      ·dsimp only;omega
    ·have hv6 : v = 6 := by omega
     subst hv6
     repeat' (first|(apply aK;first|(apply aE;rfl;rfl)|(first|(apply bR;rfl;rfl;omega;rfl)|(apply aS;rfl;rfl;rfl;rfl))|(apply aF;kernel_rfl))|(apply aL;first|apply aH|apply aB|(apply cG;rfl;(rfl))|apply bI)|with_reducible apply aA|with_reducible apply bJ|with_reducible apply aW|with_reducible apply bG)
     (apply dV (j + 1, (u3, c3));focus (refine Le.ren [(0, 0), (2, 2)] rfl (by decide) ?_ ?_ <;> repeat' (first|exact trivial|refine And.intro ⟨_, rfl, ?_⟩ ?_|refine And.intro ⟨_, _, rfl, rfl, ?_⟩ ?_|exact Or.inr rfl|refine Or.inl ⟨?_, (by first|rfl|exact aZ _ _|exact Pur.pf)⟩|rfl)))
     ·dsimp only
      refine ⟨by omega, ?_, hS4⟩
      rw [EM hjn, ← hf2, hf3]; rfl
     ·dsimp only;omega
   ·repeat' (first | (apply aK; first | (apply aE;rfl;rfl) | (first | (apply bR;rfl;rfl;omega;rfl) | (apply aS;rfl;rfl;rfl;rfl)) | (apply aF;kernel_rfl)) | (apply aL; first | apply aH | apply aB | (apply aN;rfl;all_goals intro hc;have hq:=hc;(try simp only [cH] at hq);try exfalso;omega) | apply bI) | with_reducible apply aA | with_reducible apply bJ | with_reducible apply aW | with_reducible apply bG)
    (apply dV (i + 1, (u2, c2));focus (refine Le.ren [(0, 0)] rfl (by decide) ?_ ?_ <;> repeat' (first|exact trivial|refine And.intro ⟨_, rfl, ?_⟩ ?_|refine And.intro ⟨_, _, rfl, rfl, ?_⟩ ?_|exact Or.inr rfl|refine Or.inl ⟨?_, (by first|rfl|exact aZ _ _|exact Pur.pf)⟩|rfl)))
    ·dsimp only
     refine ⟨by omega, ?_, hS3⟩
     rw [fG, ← hf, hf2, List.take_of_length_le (by rw [lH]; omega), ← hcf']; rfl
    ·dsimp only;omega
  ·repeat' (first | (apply aK; first | (apply aS;rfl;rfl;rfl;rfl) | (apply aF;kernel_rfl)) | (apply aL; first | apply aH | apply aB | (apply aN;rfl;all_goals intro hc;have hq:=hc;(try simp only [cH] at hq);try exfalso;omega) | apply bI) | with_reducible apply aA | with_reducible apply bJ | with_reducible apply aW | with_reducible apply bG)
   have law := Gc w s false hS
   have hfull : (u, c) = Hg ts pts (s, false) := by
    rw [hf, show i = pts.length by omega]; rfl
   rw [← hfull] at law
   (apply dV (u, c);focus (refine Le.ren [(0, 0)] rfl (by decide) ?_ ?_ <;> repeat' (first|exact trivial|refine And.intro ⟨_, rfl, ?_⟩ ?_|refine And.intro ⟨_, _, rfl, rfl, ?_⟩ ?_|exact Or.inr rfl|refine Or.inl ⟨?_, (by first|rfl|exact aZ _ _|exact Pur.pf)⟩|rfl)))
   ·dsimp only
    refine ⟨hS2, fun h => ?_⟩
    rcases law.2 with ⟨e1, e2⟩ | ⟨e1, _⟩
    ·cases e1;exact e2
    ·dsimp only at e1;rw [h] at e1;cases e1
   ·dsimp only
    have hb : b = true := by assumption
    subst hb
    rcases law.2 with ⟨e1, e2⟩ | ⟨e1, e2⟩
    ·cases e1;simp
    ·dsimp only at e1 e2;subst e1;omega
 ·have hb : b = false := by assumption
  refine cE (Le.frzD (d := 2) (i := 0) rfl rfl) ?_
  refine aO rfl ⟨?_, (by (exact aZ _ _))⟩
  simp only [b8]
  rw [EF hA (GX w hS (hC hb))]
theorem LM (ts:List Int) (bd:List AL.Stmt) (pts:List Pnt) (i:Int) (lv:Nat) (f:List Nat) (w:WG ts pts) (hi:0 ≤ i ∧ i < pts.length) (hlv:lv < 2 ^ ts.length) (hf:f.length = 6) (hs:∀ z:Nat,Sm f[z]!):PC Tryz.prog 169 [aG ts bd pts,iv i,iv (lv:Int),.agg (flat cW f)] (fun r => r = .v (.int .u64 (zX ts pts[i.toNat]! lv f:Nat))) := by
 have hpl := w.pl
 have htl := w.tl
 have hin : i.toNat < pts.length := by omega
 have hst := (w.set i.toNat hin)
 have hsl : Sm lv := ⟨Nat.lt_of_lt_of_le hlv (Nat.pow_le_pow_right (by decide) (by omega))⟩
 have hT : Sm (wS ts pts[i.toNat]! [2]) := dL (by omega)
 have hB : Sm (iK pts[i.toNat]!) := sR (by omega)
 have hbl := dW (oI lv (wS ts pts[i.toNat]! [2] ||| iK pts[i.toNat]!))
 have hlt : oI lv (wS ts pts[i.toNat]! [2] ||| iK pts[i.toNat]!) < 2 ^ ts.length := Nat.xor_lt_two_pow hlv (Nat.lt_of_le_of_lt Nat.and_le_left hlv)
 (refine aT Tryz.func169 rfl (by simp [Tryz.ntmps169]) ?_; rw [Tryz.ntmps169])
 repeat' (first|(apply aK;first|(apply aE;rfl;rfl)|(first|(apply aJ;rfl;rfl;rfl;rfl)|(apply aU;rfl;rfl;(exact (rfl:_=[_, _, _, _, _]));rfl;rfl;rfl))|(apply aD;rfl;rfl;rfl)|(first|(apply gO;rfl;rfl;infer_instance;infer_instance;infer_instance;rfl)|(apply pD;rfl;rfl;infer_instance;infer_instance;infer_instance;rfl))|(apply aC;rfl;rfl)|(apply cO;(case hx|hi => rfl);(case hm => (assumption));(case hml => (rfl));(case hα | hf|hg => infer_instance);(case hN => rfl))|(first|((with_reducible apply aI (k := 100));(case ha => rfl);(case h => (apply g6 <;> (infer_instance)));(case hp => (rfl));(case hN => rfl))|((with_reducible apply aI (k := 139));(case ha => rfl);(case h => (apply s9 <;> (assumption)));(case hp => (exact Pur.pf));(case hN => rfl))|((with_reducible apply aI (k := 174));(case ha => rfl);(case h => (apply oZ <;> (omega)));(case hp => (exact Pur.pf));(case hN => rfl)))|(apply a8;rfl;rfl;rfl)|(apply aF;kernel_rfl)|(apply bV;rfl;rfl;rfl)|(apply bT;rfl;rfl;rfl;rfl)|(apply bB;rfl;rfl)|(apply aV;rfl;rfl;rfl;rfl;rfl;(case hl => (simp;done));(exact (rfl:_=[_, _, _, _, _]))))|(apply aL;first|apply aH|apply aB|(apply bZ;kernel_rfl)|apply aM)|with_reducible apply aA)
 refine bF (σ := Nat × Nat) [7, 28, 29] [(7, _), (28, _), (29, _)] [0] [(0, some _)] (fun k => [(30, iv (k.1 : Int)), (10, .v (.int .u64 (k.2 : Int)))]) (fun k => []) (fun k => k.1 ≤ (cQ (oI lv (wS ts pts[i.toNat]! [2] ||| iK pts[i.toNat]!))).length ∧ k.2 = L6 f ((cQ (oI lv (wS ts pts[i.toNat]! [2] ||| iK pts[i.toNat]!))).take k.1) 0 ∧ Sm k.2) (fun k => (cQ (oI lv (wS ts pts[i.toNat]! [2] ||| iK pts[i.toNat]!))).length - k.1) (0, 0) ⟨by omega, rfl, inferInstance⟩ rfl rfl (by repeat' (first|exact trivial|refine And.intro rfl ?_)) (by repeat' (exact trivial)) ?_
 rintro ⟨k, a⟩ ⟨hk, ha, hsa⟩
 dsimp only at hk ha hsa ⊢
 have hbb : k < (cQ (oI lv (wS ts pts[i.toNat]! [2] ||| iK pts[i.toNat]!))).length → 0 ≤ (cQ (oI lv (wS ts pts[i.toNat]! [2] ||| iK pts[i.toNat]!)))[k]! ∧ (cQ (oI lv (wS ts pts[i.toNat]! [2] ||| iK pts[i.toNat]!)))[k]! < ts.length := fun h => mF hlt h
 repeat' (first|(apply aK;first|(apply aE;rfl;rfl)|(first|(apply fF;(case hx|hH => rfl);(case hf|hg|hα => infer_instance);(case hk => omega);(case hc|hN => rfl))|(apply aJ;rfl;rfl;rfl;rfl))|(first|(apply gO;rfl;rfl;infer_instance;infer_instance;infer_instance;rfl)|(apply bR;rfl;rfl;omega;rfl)|(apply aS;rfl;rfl;rfl;rfl))|(apply aC;rfl;rfl)|(first|(apply a7;(case hx|hi => rfl);(case hm => (omega));(case hml => (rfl));(case hα | hf|hg => infer_instance);(case hN => rfl))|(apply iJ;rfl;rfl;(omega);rfl;rfl))|(apply aF;kernel_rfl))|(apply aL;first|apply aH|apply aB|(apply aN;rfl;all_goals intro hc;have hq:=hc;(try simp only [cH] at hq);try exfalso;omega)|apply aM|apply aR|apply bI|apply aP)|with_reducible apply aA|with_reducible apply bJ|with_reducible apply aW|with_reducible apply bG)
 ·(apply dV (k + 1, _); focus (refine Le.ren [(0, 0)] rfl (by decide) ?_ ?_ <;> repeat' (first | exact trivial | refine And.intro ⟨_, rfl, ?_⟩ ?_ | refine And.intro ⟨_, _, rfl, rfl, ?_⟩ ?_ | exact Or.inr rfl | refine Or.inl ⟨?_, (by first | rfl | exact aZ _ _)⟩ | rfl)))
  ·dsimp only
   refine ⟨by omega, ?_, inferInstance⟩
   rw [ha]; unfold L6;rw [fM _ _ _ _ (by omega)]
  ·dsimp only;omega
 ·refine aO rfl ⟨?_, rfl⟩
  simp only [b8]
  rw [ha, List.take_of_length_le (by omega)]; rfl
theorem CG (ts:List Int) (bd:List AL.Stmt) (pts:List Pnt) (x:Pnt) (mb:Nat) (htl:ts.length ≤ 6) (hmb:Sm mb) (hst:bD x < ts.length) (hy:0 ≤ x.y ∧ (3 ≤ x.op → x.op ≤ 7 → x.y < ts.length)):PC Tryz.prog 199 [aG ts bd pts,hG x,iv (mb:Int)] (fun r => r = sl I9 (oP ts x (mb.testBit (bD x).toNat))) := by
 (refine aT Tryz.func199 rfl (by simp [Tryz.ntmps199]) ?_; rw [Tryz.ntmps199])
 repeat' (first|(apply aK;first|((apply gY (d := 7) (e := 2));(case hM|hN => rfl))|(apply aE;rfl;rfl)|(first|(apply aJ;rfl;rfl;rfl;rfl)|(apply aU;rfl;rfl;(exact (rfl:_=[_, _, _, _, _]));rfl;rfl;rfl))|(apply aD;rfl;rfl;rfl)|(first|(apply aY;rfl;rfl;rfl;(assumption))|(apply a6;rfl;rfl;rfl;(first|rfl|assumption))|(apply bE;(case hj|hb|hN => rfl);all_goals (intro hg;have hq := hg;(try simp only [cH] at hq);(try (exfalso;omega)))))|(first|(apply sX;rfl;rfl;infer_instance;infer_instance;rfl)|(apply sZ;rfl;rfl;infer_instance;infer_instance;omega;rfl)|(apply aS;rfl;rfl;rfl;rfl))|(apply aC;rfl;rfl)|(first|(apply bK;rfl;(assumption);rfl;rfl)|(apply bC;rfl;(first|rfl|assumption);rfl;rfl))|(apply cO;(case hx|hi => rfl);(case hm => (omega));(case hml => (rfl));(case hα | hf|hg => infer_instance);(case hN => rfl))|(first|((with_reducible apply aI (k := 140));(case ha => rfl);(case h => (apply zD <;> (fail)));(case hp => (exact Pur.pf));(case hN => rfl))|((with_reducible apply aI (k := 154));(case ha => rfl);(case h => (apply y9 <;> (omega)));(case hp => (exact Pur.pf));(case hN => rfl)))|(apply cJ;rfl;rfl;rfl;rfl;rfl;(case hl => (simp [aQ]; done));(rfl);omega;omega;(first|exact (rfl:_=[_, _])|exact (rfl:_=[_, _, _, _]));rfl;rfl)|(apply aF;kernel_rfl)|(apply bW;rfl;(exact (rfl:_=some [_, _]));(exact (rfl:_=[_, _]));rfl)|(apply bV;rfl;rfl;rfl)|(apply bT;rfl;rfl;rfl;rfl)|(apply cD;rfl;rfl;rfl;(exact (rfl:_=some [_, _]));rfl;rfl))|(apply aL;first|apply aH|apply aB|(apply bU;rfl;(assumption))|(apply cG;rfl;(rfl))|(apply aN;rfl;all_goals intro hc;have hq:=hc;(try simp only [cH] at hq);try exfalso;omega)|apply aM|apply aR|apply aP)|with_reducible apply aA|with_reducible apply aW)
 all_goals first|refine cE (Le.frzD (d := 6) (i := 1) rfl rfl) ?_|refine cE (Le.frzD (d := 6) (i := 3) rfl rfl) ?_|refine cE (Le.frzD (d := 6) (i := 5) rfl rfl) ?_
 all_goals refine aO rfl ⟨?_, (by (rfl))⟩
 all_goals simp only [b8, oP]
 all_goals have h1 := mM mb (bD x).toNat
 all_goals (try (rw [if_neg (show ¬ (0 ≤ bD x ∧ ts[(bD x).toNat]! = 2 ∧ mb.testBit (bD x).toNat = true) from fun h => by omega)]))
 all_goals (simp_all <;> rfl)
theorem El (ts:List Int) (bd:List AL.Stmt) (pts:List Pnt) (i:Int) (mb loans:Nat) (w:WG ts pts) (hi:0 ≤ i ∧ i < pts.length) (hmb:Sm mb) (hlo:loans < 2 ^ pts.length):PC Tryz.prog 168 [aG ts bd pts,iv i,iv (mb:Int),.v (.int .u64 (loans:Int))] (fun r => r = .v (.int .u64 (Ij pts loans (oP ts pts[i.toNat]! (mb.testBit (bD pts[i.toNat]!).toNat)) 0:Nat))) := by
 have hpl := w.pl
 have htl := w.tl
 have hin : i.toNat < pts.length := by omega
 have hst := (w.set i.toNat hin).1
 have hy := w.y i.toNat hin
 have hx := w.x i.toNat hin
 have hop := w.op i.toNat hin
 have hlsm : Sm loans := ⟨Nat.lt_of_lt_of_le hlo (Nat.pow_le_pow_right (by decide) (by omega))⟩
 have hacc := DT (mb.testBit (bD pts[i.toNat]!).toNat) w hin
 have hal := Hv ts pts[i.toNat]! (mb.testBit (bD pts[i.toNat]!).toNat)
 (refine aT Tryz.func168 rfl (by simp [Tryz.ntmps168]) ?_; rw [Tryz.ntmps168])
 repeat' (first|(apply aK;first|(apply aE;rfl;rfl)|(first|(apply aJ;rfl;rfl;rfl;rfl)|(apply aU;rfl;rfl;(exact (rfl:_=[_, _, _, _, _]));rfl;rfl;rfl))|(apply aD;rfl;rfl;rfl)|(apply aC;rfl;rfl)|(apply cO;(case hx|hi => rfl);(case hm => (assumption));(case hml => (rfl));(case hα | hf|hg => infer_instance);(case hN => rfl))|((with_reducible apply aI (k := 199));(case ha => rfl);(case h => (apply CG <;> (assumption)));(case hp => (exact Pur.pf));(case hN => rfl))|(apply a8;rfl;rfl;rfl)|(apply aF;kernel_rfl)|(apply bV;rfl;rfl;rfl))|(apply aL;first|apply aH|apply aB|apply aM)|with_reducible apply aA)
 generalize oP ts pts[i.toNat]! (mb.testBit (bD pts[i.toNat]!).toNat) = acs at hacc hal
 refine bF (σ := Nat × Nat) [0, 3, 23, 24] [(0, _), (3, _), (23, _), (24, _)] [] [] (fun k => [(25, iv (k.1 : Int)), (9, .v (.int .u64 (k.2 : Int)))]) (fun k => []) (fun k => k.1 ≤ acs.length ∧ k.2 = Ij pts loans (acs.take k.1) 0 ∧ k.2 < 2 ^ pts.length) (fun k => acs.length - k.1) (0, 0) ⟨by omega, rfl, Nat.pow_pos (by decide)⟩ rfl rfl (by repeat' (first|exact trivial|refine And.intro rfl ?_)) (by repeat' (exact trivial)) ?_
 rintro ⟨k, a⟩ ⟨hk, ha, hab⟩
 dsimp only at hk ha hab ⊢
 by_cases hkn : k < acs.length
 ·have hcv := hacc _ (b9 acs k hkn)
  have hof : ∀ V, Sm (r9 pts V) := fun V => F6 w V
  have hll := dW (loans &&& r9 pts (2 ^ (acs[k]!.var).toNat))
  have hlb : loans &&& r9 pts (2 ^ (acs[k]!.var).toNat) < 2 ^ pts.length := Nat.lt_of_le_of_lt Nat.and_le_left hlo
  have htk := fM (fun a c => I0 pts c.write (cQ (loans &&& r9 pts (2 ^ c.var.toNat))) a) acs 0 k hkn
  repeat' (first|(apply aK;first|(apply aE;rfl;rfl)|(first|(apply aJ;rfl;rfl;rfl;rfl)|(apply aU;rfl;rfl;(exact (rfl:_=[_, _]));rfl;rfl;rfl))|(apply aD;rfl;rfl;rfl)|(first|(apply yJ;rfl;rfl;infer_instance;infer_instance;infer_instance;rfl)|(apply kK;rfl;rfl;infer_instance;omega;rfl;(case' kk => intro hsm))|(apply aS;rfl;rfl;rfl;rfl))|(apply a7;(case hx|hi => rfl);(case hm => (assumption));(case hml => (rfl));(case hα | hf|hg => infer_instance);(case hN => rfl))|(first|((with_reducible apply aI (k := 92));(case ha => rfl);(case h => (apply uJ <;> (infer_instance)));(case hp => (rfl));(case hN => rfl))|((with_reducible apply aI (k := 198));(case ha => rfl);(case h => (apply Bw <;> (assumption)));(case hp => (exact Pur.pf));(case hN => rfl)))|(apply a8;rfl;rfl;rfl)|(apply aF;kernel_rfl)|(apply bB;rfl;rfl)|(apply aV;rfl;rfl;rfl;rfl;rfl;(case hl => (simp;done));(exact (rfl:_=[_, _]))))|(apply aL;first|apply aH|apply aB|(apply aN;rfl;all_goals intro hc;have hq:=hc;(try simp only [cH] at hq);try exfalso;omega)|apply aM|apply aR)|with_reducible apply aA)
  refine bF (σ := Nat × Nat) [0, 3, 11, 23, 24, 25, 36, 37] [(0, _), (3, _), (11, _), (23, _), (24, _), (25, _), (36, _), (37, _)] [0] [(0, some _)] (fun j => [(38, iv (j.1 : Int)), (9, .v (.int .u64 (j.2 : Int)))]) (fun j => []) (fun j => j.1 ≤ (cQ (loans &&& r9 pts (2 ^ (acs[k]!.var).toNat))).length ∧ j.2 = I0 pts acs[k]!.write ((cQ (loans &&& r9 pts (2 ^ (acs[k]!.var).toNat))).take j.1) a ∧ j.2 < 2 ^ pts.length) (fun j => (cQ (loans &&& r9 pts (2 ^ (acs[k]!.var).toNat))).length - j.1) (0, a) ⟨by omega, rfl, hab⟩ rfl rfl (by repeat' (first|exact trivial|refine And.intro rfl ?_)) (by repeat' (exact trivial)) ?_
  rintro ⟨j, b⟩ ⟨hj, hb, hbb⟩
  dsimp only at hj hb hbb ⊢
  have hbsm : Sm b := ⟨Nat.lt_of_lt_of_le hbb (Nat.pow_le_pow_right (by decide) (by omega))⟩
  by_cases hjn : j < (cQ (loans &&& r9 pts (2 ^ (acs[k]!.var).toNat))).length
  ·have hlz := mF hlb hjn
   have hstep : I0 pts acs[k]!.write ((cQ (loans &&& r9 pts (2 ^ (acs[k]!.var).toNat))).take (j + 1)) a = if acs[k]!.write = true ∨ pts[((cQ (loans &&& r9 pts (2 ^ (acs[k]!.var).toNat)))[j]!).toNat]!.op = 5 then b ||| 2 ^ ((cQ (loans &&& r9 pts (2 ^ (acs[k]!.var).toNat)))[j]!).toNat else b := by
    rw [hb]; unfold I0;rw [fM _ _ _ _ hjn]
   have hb2 : b ||| 2 ^ ((cQ (loans &&& r9 pts (2 ^ (acs[k]!.var).toNat)))[j]!).toNat < 2 ^ pts.length := Nat.or_lt_two_pow hbb (Nat.pow_lt_pow_right (by decide) (by omega))
   repeat' (first|(apply aK;first|(apply aE;rfl;rfl)|(apply aJ;rfl;rfl;rfl;rfl)|(apply aD;rfl;rfl;rfl)|(first|(apply aY;rfl;rfl;rfl;(assumption))|(apply a6;rfl;rfl;rfl;(assumption))|(apply bE;(case hj|hb|hN => rfl);all_goals (intro hg;have hq := hg;(try simp only [cH] at hq);(try (exfalso;omega)))))|(first|(apply gO;rfl;rfl;infer_instance;infer_instance;infer_instance;rfl)|(apply kK;rfl;rfl;infer_instance;omega;rfl;(case' kk => intro hsm))|(apply bR;rfl;rfl;omega;rfl)|(apply aS;rfl;rfl;rfl;rfl))|(apply aC;rfl;rfl)|(first|(apply bK;rfl;(assumption);rfl;rfl)|(apply bC;rfl;(assumption);rfl;rfl))|(first|(apply a7;(case hx|hi => rfl);(case hm => (assumption));(case hml => (rfl));(case hα | hf|hg => infer_instance);(case hN => rfl))|(apply cO;(case hx|hi => rfl);(case hm => (assumption));(case hml => (rfl));(case hα | hf|hg => infer_instance);(case hN => rfl)))|(apply aF;kernel_rfl)|(apply bV;rfl;rfl;rfl))|(apply aL;first|apply aH|apply aB|(apply bU;rfl;(rfl))|(apply aN;rfl;all_goals intro hc;have hq:=hc;(try simp only [cH] at hq);try exfalso;omega)|apply aM|apply aR)|with_reducible apply aA|with_reducible apply aW)
   all_goals first
    | ((apply Exists.intro (j + 1, b ||| 2 ^ ((cQ (loans &&& r9 pts (2 ^ (acs[k]!.var).toNat)))[j]!).toNat); refine And.intro ?_ (And.intro ?_ ?_); rotate_left 2; focus (refine Le.ren [(0, 0)] rfl (by decide) ?_ ?_ <;> repeat' (first | exact trivial | refine And.intro ⟨_, rfl, ?_⟩ ?_ | refine And.intro ⟨_, _, rfl, rfl, ?_⟩ ?_ | exact Or.inr rfl | refine Or.inl ⟨?_, (by first | rfl | exact aZ _ _ | exact Pur.pf)⟩ | rfl)))
       ·dsimp only
        refine ⟨by omega, ?_, hb2⟩
        rw [hstep, if_pos (by first|exact .inl (by assumption)|exact .inr (by assumption))]
       ·dsimp only;omega)
    | ((apply dV (j + 1, b); focus (refine Le.ren [(0, 0)] rfl (by decide) ?_ ?_ <;> repeat' (first | exact trivial | refine And.intro ⟨_, rfl, ?_⟩ ?_ | refine And.intro ⟨_, _, rfl, rfl, ?_⟩ ?_ | exact Or.inr rfl | refine Or.inl ⟨?_, (by first | rfl | exact aZ _ _ | exact Pur.pf)⟩ | rfl)))
       ·dsimp only
        refine ⟨by omega, ?_, hbb⟩
        rw [hstep, if_neg (fun h => h.elim (fun h1 => Bool.noConfusion (h1.symm.trans (by assumption : acs[k]!.write = false))) (fun h2 => absurd h2 (by assumption)))]
       ·dsimp only;omega)
  ·repeat' (first | (apply aK; first | (apply aE;rfl;rfl) | (first | (apply bR;rfl;rfl;omega;rfl) | (apply aS;rfl;rfl;rfl;rfl)) | (apply aF;kernel_rfl)) | (apply aL; first | apply aH | apply aB | (apply aN;rfl;all_goals intro hc;have hq:=hc;(try simp only [cH] at hq);try exfalso;omega) | apply bI) | with_reducible apply aA | with_reducible apply bJ | with_reducible apply aW | with_reducible apply bG)
   (apply dV (k + 1, b);focus (refine Le.ren [] rfl (by decide) ?_ ?_ <;> repeat' (first|exact trivial|refine And.intro ⟨_, rfl, ?_⟩ ?_|refine Or.inl ⟨?_, (by first|rfl|exact aZ _ _|exact Pur.pf)⟩|rfl)))
   ·dsimp only
    refine ⟨by omega, ?_, hbb⟩
    rw [hb, List.take_of_length_le (by omega), ha]; unfold Ij;rw [htk]
   ·dsimp only;omega
 ·repeat' (first | (apply aK; first | (apply aE;rfl;rfl) | (apply aS;rfl;rfl;rfl;rfl) | (apply aC;rfl;rfl) | (apply aF;kernel_rfl)) | (apply aL; first | apply aH | apply aB | (apply aN;rfl;all_goals intro hc;have hq:=hc;(try simp only [cH] at hq);try exfalso;omega) | apply bI | apply aP) | with_reducible apply aA | with_reducible apply bJ | with_reducible apply bG)
  refine aO rfl ⟨?_, rfl⟩
  simp only [b8]
  rw [ha, List.take_of_length_le (by omega)]
theorem Et (n:Nat) (A:List Nat) (i:Int) (hA:A.length = n * 6) (hi:0 ≤ i ∧ i < n):PC Tryz.prog 128 [iv i,.iptr [.imm n (flat cW A)]] (fun r => r = .agg (flat cW (fY A i.toNat))) := by
 have h6 : ((A.drop (i.toNat * 6)).take 6).length = 6 := gZ hA (by omega)
 (refine aT Tryz.func128 rfl (by simp [Tryz.ntmps128]) ?_; rw [Tryz.ntmps128])
 repeat' (first|(apply aK;first|(apply aE;rfl;rfl)|(first|(apply aJ;rfl;rfl;rfl;rfl)|(apply Au;rfl;(simp only [gN, List.length_drop] <;> omega);rfl;rfl))|(apply CF;rfl;rfl;(omega);rfl)|(apply aF;kernel_rfl)|(apply bB;rfl;rfl)|(apply iN;rfl;rfl;rfl;(assumption);(rfl)))|(apply aL;first|apply aH|apply aB|apply aP)|with_reducible apply aA)
 refine aO (oC (z := 6) rfl rfl h6 (by decide)) ⟨rfl, (by (exact aZ _ _))⟩
theorem IX (ts:List Int) (bd:List AL.Stmt) (pts:List Pnt) (Aa Am Al Af Ap:List Nat) (n:Nat) (w:WG ts pts) (ga:uG ts pts Aa) (gm:tO ts pts Am) (gl:rH ts pts Al) (gf:xQ ts pts Af) (gp:wT ts pts Ap) (hn:n = pts.length) :
  PC Tryz.prog 126 [aG ts bd pts, .imm n (flat cN Al), .clos (.func 128) [] [.iptr [.imm n (flat cW Af)]]] (fun r => r = sl rV (Ey ts pts Aa Am Al Af Ap pts.length)) := by
 subst hn
 have hpl := w.pl
 have htl := w.tl
 have hla := ga.1
 have hlm := gm.1
 have hll := gl.1
 have hlf := gf.1
 have hlp := gp.1
 (refine aT Tryz.func126 rfl (by simp [Tryz.ntmps126]) ?_; rw [Tryz.ntmps126])
 repeat' (first|(apply aK;first|((apply gY (d := 10) (e := 3));(case hM|hN => rfl))|(apply aE;rfl;rfl)|(apply aJ;rfl;rfl;rfl;rfl)|(apply aD;rfl;rfl;rfl)|(apply aC;rfl;rfl)|(first|((with_reducible apply aI (k := 101));(case ha => rfl);(case h => (apply FR <;> (assumption)));(case hp => (exact Pur.pf));(case hN => rfl))|((with_reducible apply aI (k := 166));(case ha => rfl);(case h => (apply Jd <;> (assumption)));(case hp => (exact Pur.pf));(case hN => rfl))|((with_reducible apply aI (k := 167));(case ha => rfl);(case h => (apply GL <;> (assumption)));(case hp => (exact Pur.pf));(case hN => rfl)))|(apply a8;rfl;rfl;rfl)|(apply aF;kernel_rfl)|(apply bV;rfl;rfl;rfl))|(apply aL;first|apply aH|apply aB|apply aM)|with_reducible apply aA)
 refine bF (σ := Nat × List Iss × Nat) [0, 1, 2, 7, 8, 9, 27, 28] [(0, _), (1, _), (2, _), (7, _), (8, _), (9, _), (27, _), (28, _)] [] [] (fun k => [(29, iv (k.1 : Int)), (10, .own 0 0 k.2.2 3)]) (fun k => [(0, some (flat rV k.2.1))]) (fun k => k.1 ≤ pts.length ∧ k.2.1 = Ey ts pts Aa Am Al Af Ap k.1 ∧ k.2.2 = k.2.1.length ∧ k.2.2 ≤ k.1 * 124) (fun k => pts.length - k.1) (0, [], 0) ⟨by omega, rfl, rfl, Nat.le_refl _⟩ rfl rfl (by repeat' (first|exact trivial|refine And.intro rfl ?_)) (by repeat' (first|exact trivial|refine And.intro (.inr rfl) ?_)) ?_
 rintro ⟨i, u, m⟩ ⟨hk, hu, hm, hmk⟩
 dsimp only at hk hu hm hmk ⊢
 by_cases hin : i < pts.length
 ·have hst := w.set i hin
  have hsU : Sm (wS ts pts[i]! [1, 2, 3]) := dL (by omega)
  have bl : ∀ {A : Nat} {n : Nat}, n ≤ 62 → (∀ v, A.testBit v = true → v < n) → A < 2 ^ n := fun _ hv => Nat.lt_pow_two_of_testBit _ fun v h => by
   cases hq : Nat.testBit _ v with
   | false => rfl
   | true => have := hv v hq;omega
  have hAa : Sm Aa[i]! := ⟨bl (n := 62) (by omega) fun v hv => by have := ((ga.2 i hin v).1 hv).1;omega⟩
  have hAm : Sm Am[i]! := ⟨bl (n := 62) (by omega) fun v hv => by have := GU w ((gm.2 i hin v).1 hv);dsimp only at this;omega⟩
  have hAl : Al[i]! < 2 ^ ts.length := bl (by omega) fun v hv => by obtain ⟨k, _, h⟩ := (gl.2 i hin v).1 hv;exact tX w h
  have hAl2 : Sm Al[i]! := ⟨Nat.lt_of_lt_of_le hAl (Nat.pow_le_pow_right (by decide) (by omega))⟩
  have hAp : Ap[i]! < 2 ^ pts.length := bl (by omega) fun v hv => (rF ((gp.2 i hin v).1 hv)).1
  have hAp2 : Sm Ap[i]! := ⟨Nat.lt_of_lt_of_le hAp (Nat.pow_le_pow_right (by decide) (by omega))⟩
  have hrl := gZ hlf hin
  have hrs : ∀ z : Nat, Sm (fY Af i)[z]! := by
   intro z
   by_cases hz : z < 6
   ·rw [iE hlf hin hz]
    exact ⟨bl (n := 62) (by omega) fun v hv => by have := (Ag w ((gf.2 i z hin hz v).1 hv)).2.2;dsimp only at this;omega⟩
   ·rw [getElem!_neg _ z (by rw [hrl]; exact hz)]; exact ⟨by decide⟩
  have hkp : zX ts pts[(i : Int).toNat]! Al[i]! (fY Af (i : Int).toNat) < 2 ^ pts.length := by
   refine bl (by omega) fun v hv => ?_
   unfold zX at hv
   rw [iM] at hv
   rcases hv with hv | ⟨z, hz, hv⟩
   ·simp at hv
   ·obtain ⟨q, h1, h2, rfl⟩ := dQ.1 hz
    rw [eB, Bool.and_eq_true] at h2
    have h3 := eT hAl h2.1
    have h4 : q < 6 := by omega
    have h5 : (fY Af i)[q]!.testBit v = true := hv
    rw [iE hlf hin h4] at h5
    exact (Ag w ((gf.2 i q hin h4 v).1 h5)).2.2
  have hkp2 : Sm (zX ts pts[(i : Int).toNat]! Al[i]! (fY Af (i : Int).toNat)) := ⟨Nat.lt_of_lt_of_le hkp (Nat.pow_le_pow_right (by decide) (by omega))⟩
  have hlo : zX ts pts[(i : Int).toNat]! Al[i]! (fY Af (i : Int).toNat) &&& Ap[i]! < 2 ^ pts.length := Nat.and_lt_two_pow _ hAp
  have hcf := FN w (Am := Am) (Al := Al) (Af := Af) (i := i) hAp
  have hcf2 : Sm (FG ts pts Am Al Af Ap i) := ⟨Nat.lt_of_lt_of_le hcf (Nat.pow_le_pow_right (by decide) (by omega))⟩
  have hcf3 : Sm (Ij pts (zX ts pts[(i : Int).toNat]! Al[i]! (fY Af (i : Int).toNat) &&& Ap[i]!) (oP ts pts[(i : Int).toNat]! (Am[i]!.testBit (bD pts[(i : Int).toNat]!).toNat)) 0) := hcf2
  have hb1 := dW (oI (wS ts pts[i]! [1, 2, 3]) Aa[i]!)
  have hb2 := dW (FG ts pts Am Al Af Ap i)
  repeat' (first|(apply aK;first|(apply aE;rfl;rfl)|(first|(apply aJ;rfl;rfl;rfl;rfl)|(apply aU;rfl;rfl;(exact (rfl:_=[_, _, _, _, _]));rfl;rfl;rfl))|(first|(apply pD;rfl;rfl;infer_instance;infer_instance;infer_instance;rfl)|(apply aS;rfl;rfl;rfl;rfl))|(apply aC;rfl;rfl)|(apply a7;(case hx|hi => rfl);(case hm => (assumption));(case hml => (first|rfl|omega));(case hα | hf|hg => infer_instance);(case hN => rfl))|(first|((with_reducible apply aI (k := 100));(case ha => rfl);(case h => (apply g6 <;> (infer_instance)));(case hp => (rfl));(case hN => rfl))|((with_reducible apply aI (k := 151));(case ha => rfl);(case h => (apply iS <;> (assumption)));(case hp => (exact Pur.pf));(case hN => rfl)))|(apply a8;rfl;rfl;rfl)|(apply aF;kernel_rfl)|(apply bB;rfl;rfl)|(apply aV;rfl;rfl;rfl;rfl;rfl;(case hl => (simp;done));(exact (rfl:_=[_, _, _, _, _]))))|(apply aL;first|apply aH|apply aB|(apply bZ;kernel_rfl)|(apply aN;rfl;all_goals intro hc;have hq:=hc;(try simp only [cH] at hq);try exfalso;omega)|apply aM|apply aR)|with_reducible apply aA)
  have hb1b : ∀ j, j < (cQ (oI (wS ts pts[i]! [1, 2, 3]) Aa[i]!)).length → 0 ≤ (cQ (oI (wS ts pts[i]! [1, 2, 3]) Aa[i]!))[j]! := fun j h => (mF (inferInstance : Sm (oI (wS ts pts[i]! [1, 2, 3]) Aa[i]!)).pf h).1
  refine bF (σ := Nat × List Iss × Nat) [0, 1, 2, 7, 8, 9, 11, 27, 28, 29, 42, 43] [(0, _), (1, _), (2, _), (7, _), (8, _), (9, _), (11, _), (27, _), (28, _), (29, _), (42, _), (43, _)] [] [] (fun j => [(44, iv (j.1 : Int)), (10, .own 0 0 j.2.2 3)]) (fun j => [(0, some (flat rV j.2.1))]) (fun j => j.1 ≤ (cQ (oI (wS ts pts[i]! [1, 2, 3]) Aa[i]!)).length ∧ j.2.1 = u ++ Ig i ((cQ (oI (wS ts pts[i]! [1, 2, 3]) Aa[i]!)).take j.1) ∧ j.2.2 = j.2.1.length ∧ j.2.2 ≤ i * 124 + j.1) (fun j => (cQ (oI (wS ts pts[i]! [1, 2, 3]) Aa[i]!)).length - j.1) (0, u, m) ⟨by omega, by simp [Ig], hm, by omega⟩ rfl rfl (by repeat' (first|exact trivial|refine And.intro rfl ?_)) (by repeat' (first|exact trivial|refine And.intro (.inr rfl) ?_)) ?_
  rintro ⟨j, u2, m2⟩ ⟨hj, hu2, hm2, hmk2⟩
  dsimp only at hj hu2 hm2 hmk2 ⊢
  by_cases hjn : j < (cQ (oI (wS ts pts[i]! [1, 2, 3]) Aa[i]!)).length
  ·repeat' (first | (apply aK; first | (apply aE;rfl;rfl) | (apply aJ;rfl;rfl;rfl;rfl) | (first | (apply bR;rfl;rfl;omega;rfl) | (apply aS;rfl;rfl;rfl;rfl)) | (apply aC;rfl;rfl) | (apply a7; (case hx | hi => rfl); (case hm => (assumption)); (case hml => (rfl)); (case hα | hf | hg => infer_instance); (case hN => rfl)) | (apply cJ;rfl;rfl;rfl;rfl;rfl;(rw [aQ]; omega);(rfl);omega;omega;(exact DK (by (assumption)));rfl;rfl) | (apply aF;kernel_rfl) | (apply bW;rfl;(exact (rfl:_=some [_, _, _]));(exact (rfl:_=[_, _, _]));rfl) | ((apply bS (t := _)); (case hze | hsm | hl => rfl); (case hfl => (exact (rfl:_=some [_, _, _]))); (case hM | hN => rfl))) | (apply aL; first | apply aH | apply aB | (apply aN;rfl;all_goals intro hc;have hq:=hc;(try simp only [cH] at hq);try exfalso;omega) | apply aM | apply aR) | with_reducible apply aA | with_reducible apply aW)
   (apply dV (j + 1, _, _);focus (refine Le.ren [(0, 3)] rfl (by decide) ?_ ?_ <;> repeat' (first|exact trivial|refine And.intro ⟨_, rfl, ?_⟩ ?_|refine And.intro ⟨_, _, rfl, rfl, ?_⟩ ?_|exact Or.inr rfl|refine Or.inl ⟨?_, (by first|rfl|exact aZ _ _|exact Pur.pf)⟩|rfl)))
   ·dsimp only
    refine ⟨by omega, ?_, by simp;omega, by omega⟩
    rw [hu2]; unfold Ig;rw [kO _ _ _ hjn, List.append_assoc]
   ·dsimp only;omega
  ·have hu3 : u2 = u ++ Ig i (cQ (oI (wS ts pts[i]! [1, 2, 3]) Aa[i]!)) := by rw [hu2, List.take_of_length_le (by omega)]
   repeat' (first|(apply aK;first|(apply aE;rfl;rfl)|(apply aJ;rfl;rfl;rfl;rfl)|(first|(apply yJ;rfl;rfl;infer_instance;infer_instance;infer_instance;rfl)|(apply aS;rfl;rfl;rfl;rfl))|(apply a7;(case hx|hi => rfl);(case hm => (assumption));(case hml => (omega));(case hα | hf|hg => infer_instance);(case hN => rfl))|(first|((with_reducible apply aI (k := 92));(case ha => rfl);(case h => (apply uJ <;> (assumption)));(case hp => (rfl));(case hN => rfl))|((with_reducible apply aI (k := 168));(case ha => rfl);(case h => (apply El <;> (first|assumption|omega)));(case hp => (exact Pur.pf));(case hN => rfl))|((with_reducible apply aI (k := 169));(case ha => rfl);(case h => (apply LM <;> (first|assumption|omega)));(case hp => (exact Pur.pf));(case hN => rfl)))|(apply a8;rfl;rfl;rfl)|((with_reducible apply iP);(case hx|hcl => rfl);(case hc => infer_instance);(case ha => rfl);(case h => (apply Et <;> (first|assumption|omega)));(case hp => (exact Pur.pf));(case hN => rfl))|(apply aF;kernel_rfl))|(apply aL;first|apply aH|apply aB|(apply bZ;kernel_rfl)|(apply aN;rfl;all_goals intro hc;have hq:=hc;(try simp only [cH] at hq);try exfalso;omega)|apply aM|apply bI)|with_reducible apply aA|with_reducible apply bJ|with_reducible apply bG)
   generalize hL : cQ (Ij pts (zX ts pts[(i : Int).toNat]! Al[i]! (fY Af (i : Int).toNat) &&& Ap[i]!) (oP ts pts[(i : Int).toNat]! (Am[i]!.testBit (bD pts[(i : Int).toNat]!).toNat)) 0) = L2
   have hL2 : cQ (FG ts pts Am Al Af Ap i) = L2 := hL
   have hbd : ∀ j, j < L2.length → 0 ≤ L2[j]! ∧ L2[j]! < pts.length := fun j h => by rw [← hL2] at h ⊢; exact mF hcf h
   rw [hL2] at hb2
   refine bF (σ := Nat × List Iss × Nat) [0, 1, 2, 7, 8, 9, 11, 27, 28, 29, 77, 78] [(0, _), (1, _), (2, _), (7, _), (8, _), (9, _), (11, _), (27, _), (28, _), (29, _), (77, _), (78, _)] [] [] (fun l => [(79, iv (l.1 : Int)), (10, .own 0 0 l.2.2 3)]) (fun l => [(0, some (flat rV l.2.1))]) (fun l => l.1 ≤ L2.length ∧ l.2.1 = u2 ++ HU pts i (L2.take l.1) ∧ l.2.2 = l.2.1.length ∧ l.2.2 ≤ i * 124 + 62 + l.1) (fun l => L2.length - l.1) (0, u2, m2) ⟨by omega, by simp [HU], hm2, Nat.le_trans hmk2 (by omega)⟩ rfl rfl (by repeat' (first|exact trivial|refine And.intro rfl ?_)) (by repeat' (first|exact trivial|refine And.intro (.inr rfl) ?_)) ?_
   rintro ⟨l, u4, m4⟩ ⟨hl, hu4, hm4, hmk4⟩
   dsimp only at hl hu4 hm4 hmk4 ⊢
   by_cases hln : l < L2.length
   ·have hbl := hbd l hln
    repeat' (first|(apply aK;first|(apply aE;rfl;rfl)|(apply aJ;rfl;rfl;rfl;rfl)|(apply aD;rfl;rfl;rfl)|(first|(apply bR;rfl;rfl;omega;rfl)|(apply aS;rfl;rfl;rfl;rfl))|(apply aC;rfl;rfl)|(first|(apply a7;(case hx|hi => rfl);(case hm => (assumption));(case hml => (rfl));(case hα | hf|hg => infer_instance);(case hN => rfl))|(apply cO;(case hx|hi => rfl);(case hm => (assumption));(case hml => (rfl));(case hα | hf|hg => infer_instance);(case hN => rfl)))|(apply cJ;rfl;rfl;rfl;rfl;rfl;(rw [aQ]; omega);(rfl);omega;omega;(exact DK (by (assumption)));rfl;rfl)|(apply aF;kernel_rfl)|(apply bW;rfl;(exact (rfl:_=some [_, _, _]));(exact (rfl:_=[_, _, _]));rfl)|(apply bV;rfl;rfl;rfl)|((apply bS (t := _));(case hze|hsm|hl => rfl);(case hfl => (exact (rfl:_=some [_, _, _])));(case hM|hN => rfl)))|(apply aL;first|apply aH|apply aB|(apply aN;rfl;all_goals intro hc;have hq:=hc;(try simp only [cH] at hq);try exfalso;omega)|apply aM|apply aR)|with_reducible apply aA|with_reducible apply aW)
    ·(apply dV (l + 1, _, _); focus (refine Le.ren [(0, 3)] rfl (by decide) ?_ ?_ <;> repeat' (first | exact trivial | refine And.intro ⟨_, rfl, ?_⟩ ?_ | refine And.intro ⟨_, _, rfl, rfl, ?_⟩ ?_ | exact Or.inr rfl | refine Or.inl ⟨?_, (by first | rfl | exact aZ _ _ | exact Pur.pf)⟩ | rfl)))
     ·dsimp only
      refine ⟨by omega, ?_, by simp;omega, by omega⟩
      rw [hu4]; unfold HU;rw [kO _ _ _ hln, List.append_assoc, if_pos hq]
     ·dsimp only;omega
    ·(apply dV (l + 1, _, _); focus (refine Le.ren [(0, 3)] rfl (by decide) ?_ ?_ <;> repeat' (first | exact trivial | refine And.intro ⟨_, rfl, ?_⟩ ?_ | refine And.intro ⟨_, _, rfl, rfl, ?_⟩ ?_ | exact Or.inr rfl | refine Or.inl ⟨?_, (by first | rfl | exact aZ _ _ | exact Pur.pf)⟩ | rfl)))
     ·dsimp only
      refine ⟨by omega, ?_, by simp;omega, by omega⟩
      rw [hu4]; unfold HU;rw [kO _ _ _ hln, List.append_assoc, if_neg hq]
     ·dsimp only;omega
   ·repeat' (first | (apply aK; first | (apply aE;rfl;rfl) | (first | (apply bR;rfl;rfl;omega;rfl) | (apply aS;rfl;rfl;rfl;rfl)) | (apply aF;kernel_rfl)) | (apply aL; first | apply aH | apply aB | (apply aN;rfl;all_goals intro hc;have hq:=hc;(try simp only [cH] at hq);try exfalso;omega) | apply bI) | with_reducible apply aA | with_reducible apply bJ | with_reducible apply aW | with_reducible apply bG)
    (apply dV (i + 1, u4, m4);focus (refine Le.ren [(0, 0)] rfl (by decide) ?_ ?_ <;> repeat' (first|exact trivial|refine And.intro ⟨_, rfl, ?_⟩ ?_|refine And.intro ⟨_, _, rfl, rfl, ?_⟩ ?_|exact Or.inr rfl|refine Or.inl ⟨?_, (by first|rfl|exact aZ _ _|exact Pur.pf)⟩|rfl)))
    ·dsimp only
     refine ⟨by omega, ?_, hm4, by omega⟩
     rw [Es, hu4, List.take_of_length_le (by omega), hu3, ← hL2, hu, List.append_assoc]; rfl
    ·dsimp only;omega
 ·repeat' (first | (apply aK; first | (apply aE;rfl;rfl) | (apply aS;rfl;rfl;rfl;rfl) | (apply aC;rfl;rfl) | (apply aF;kernel_rfl)) | (apply aL; first | apply aH | apply aB | (apply aN;rfl;all_goals intro hc;have hq:=hc;(try simp only [cH] at hq);try exfalso;omega) | apply bI | apply aP) | with_reducible apply aA | with_reducible apply bJ | with_reducible apply bG)
  (refine cE (Le.frzD (d := 6) (i := 0) rfl rfl) ?_; refine aO rfl ?_)
  refine ⟨?_, (by (exact aZ _ _))⟩
  simp only [b8, sl]
  rw [hm, hu, show i = pts.length by omega]
theorem Fq (ts:List Int) (bd:List AL.Stmt) (pts:List Pnt) (w:WG ts pts) (f:Flows ts pts):PC Tryz.prog 79 [aG ts bd pts] (fun r => r = sl rV f.iss) := by
 have hpl := w.pl
 (refine aT Tryz.func79 rfl (by simp [Tryz.ntmps79]) ?_; rw [Tryz.ntmps79])
 repeat' (first|(apply aK;first|(apply tJ;rfl;rfl;rfl)|((with_reducible apply aI (k := 125));(case ha => rfl);(case h => exact Em ts bd pts f.Af w f.gf);(case hp => exact Pur.pf);(case hN => rfl))|((with_reducible apply aI (k := 127));(case ha => rfl);(case h => exact BA ts bd pts f.An f.Al w f.gn f.gl);(case hp => exact Pur.pf);(case hN => rfl))|((with_reducible apply aI (k := 126));(case ha => rfl);(case h => exact IX ts bd pts f.Aa f.Am f.Al f.Af f.Ap _ w f.ga f.gm f.gl f.gf f.gp rfl);(case hp => exact Pur.pf);(case hN => rfl))|(apply aE;rfl;rfl)|(apply aC;rfl;rfl)|(apply aF;kernel_rfl)|(apply bB;rfl;rfl)|(apply aV;rfl;rfl;rfl;rfl;rfl;(case hl => (simp;done));(exact (rfl:_=[_]))))|(apply aL;first|apply aH|apply aB|apply aP)|with_reducible apply aA)
 refine aO rfl ⟨rfl, (by (exact aZ _ _))⟩
theorem nE (p:Prg) (hl:p.types.length ≤ 1000000) (hs:bO p.body ≤ 1000000):PC Tryz.prog 78 [dH p,.v (.slice none 0 0)] (fun r => r = if cP p = true then .tup [aG p.types p.body (bX p),bv true] else .tup [.v (.pointer none),bv false]) := by
 have hpl := kT p
 have hnl := j3 p.body
 (refine aT Tryz.func78 rfl (by simp [Tryz.ntmps78]) ?_; rw [Tryz.ntmps78])
 repeat' (first|(apply aK;first|(apply aE;rfl;rfl)|(apply aU;rfl;rfl;(exact (rfl:_=[_, _]));rfl;rfl;rfl)|(apply aC;rfl;rfl)|(first|((with_reducible apply aI (k := 49));(case ha => rfl);(case h => (apply k6 <;> (first|assumption|omega)));(case hp => (exact Pur.pf));(case hN => rfl))|((with_reducible apply aI (k := 96));(case ha => rfl);(case h => (apply A5 <;> (assumption)));(case hp => (exact Pur.pf));(case hN => rfl)))|(apply a8;rfl;rfl;rfl)|(apply aF;kernel_rfl)|(apply bW;rfl;(exact (rfl:_=some [_, _, _]));(exact (rfl:_=[_, _, _]));rfl)|(apply cF;rfl;rfl)|(apply bT;rfl;rfl;rfl;rfl))|(apply aL;first|apply aH|apply aB|(apply bZ;kernel_rfl)|(apply aN;rfl;all_goals intro hc;have hq:=hc;(try simp only [cH] at hq);try exfalso;omega)|apply aM|apply aR|apply aP)|with_reducible apply aA|with_reducible apply bH)
 ·refine aO rfl ⟨?_, (by (rfl))⟩
  rw [if_neg (by simp [hq])]; rfl
 ·refine bF (σ := Unit) [6, 17, 18] [(6, _), (17, _), (18, _)] [1] [(1, some _)] (fun _u => [(19, iv 0)]) (fun _u => []) (fun _u => True) (fun _u => 0) () trivial rfl rfl (by repeat' (first | exact trivial | refine And.intro rfl ?_)) (by repeat' (exact trivial)) ?_
  intro _ _
  repeat' (first|(apply aK;first|(apply aE;rfl;rfl)|(apply aS;rfl;rfl;rfl;rfl)|(apply aC;rfl;rfl)|(apply aF;kernel_rfl))|(apply aL;first|apply aH|apply aB|(apply cG;rfl;(rfl))|apply bI|apply aP)|with_reducible apply aA|with_reducible apply bJ|with_reducible apply bG)
  refine cE (Le.frzP (d := 4) (i := 1) rfl rfl) ?_
  refine aO rfl ⟨?_, (by show (AV.tup [aG p.types p.body (bX p), bv true]).pur = true;exact PurV.pf)⟩
  rw [if_pos hq]; rfl
def KT (p : Prg) (f : Flows p.types (bX p)) : List Iss := if cP p = true then f.iss else []
theorem Hc (p:Prg) (f:Flows p.types (bX p)) (hl:p.types.length ≤ 1000000) (hs:bO p.body ≤ 1000000):PC Tryz.prog 31 [dH p] (fun r => r = sl rV (KT p f)) := by
 unfold KT
 cases hv : cP p
 ·(refine aT Tryz.func31 rfl (by simp [Tryz.ntmps31]) ?_; rw [Tryz.ntmps31])
  repeat' (first|(apply aK;first|((with_reducible apply aI (k := 78));(case ha => rfl);(case h => exact (by have := nE p hl hs;rw [if_neg (by simp [hv])] at this;exact this));(case hp => (exact Pur.pf));(case hN => rfl))|(apply aE;rfl;rfl)|(apply aU;rfl;rfl;(exact (rfl:_=[_, _]));rfl;rfl;rfl)|(apply aC;rfl;rfl)|(apply aF;kernel_rfl)|(apply cF;rfl;rfl)|(apply bT;rfl;rfl;rfl;rfl)|(apply b0;rfl;rfl;rfl))|(apply aL;first|apply aH|apply aB|(apply bU;rfl;(rfl))|apply aP)|with_reducible apply aA|with_reducible apply bH)
  (refine cE (Le.nilImm (d := 2) rfl) ?_; refine aO rfl ?_)
  exact ⟨rfl, rfl⟩
 ·have w := WG.of_valid hv
  (refine aT Tryz.func31 rfl (by simp [Tryz.ntmps31]) ?_; rw [Tryz.ntmps31])
  repeat' (first|(apply aK;first|((with_reducible apply aI (k := 78));(case ha => rfl);(case h => exact (by have := nE p hl hs;rw [if_pos hv] at this;exact this));(case hp => (exact Pur.pf));(case hN => rfl))|((with_reducible apply aI (k := 79));(case ha => rfl);(case h => exact Fq p.types p.body (bX p) w f);(case hp => (exact Pur.pf));(case hN => rfl))|(apply aE;rfl;rfl)|(apply aU;rfl;rfl;(exact (rfl:_=[_, _]));rfl;rfl;rfl)|(apply aC;rfl;rfl)|(apply aF;kernel_rfl)|(apply cF;rfl;rfl)|(apply bT;rfl;rfl;rfl;rfl)|(apply b0;rfl;rfl;rfl))|(apply aL;first|apply aH|apply aB|(apply cG;rfl;(rfl))|apply aR|apply aP)|with_reducible apply aA)
  exact aO rfl ⟨rfl, (by (exact aZ _ _))⟩
instance : BoT Tryz.prog 4 := ⟨by kernel_rfl⟩
theorem J9 (x:Pnt):PC Tryz.prog 137 [hG x] (fun r => r = iv (bD x)) := by
 (refine aT Tryz.func137 rfl (by simp [Tryz.ntmps137]) ?_; rw [Tryz.ntmps137])
 repeat' (first|(apply aK;first|(apply aE;rfl;rfl)|(apply aJ;rfl;rfl;rfl;rfl)|(apply aD;rfl;rfl;rfl)|(first|(apply aY;rfl;rfl;rfl;(assumption))|(apply a6;rfl;rfl;rfl;(assumption))|(apply bE;(case hj|hb|hN => rfl);all_goals (intro hg;have hq := hg;(try simp only [cH] at hq);(try (exfalso;omega)))))|(apply aS;rfl;rfl;rfl;rfl)|(apply aC;rfl;rfl)|(first|(apply bK;rfl;(assumption);rfl;rfl)|(apply bC;rfl;(assumption);rfl;rfl))|(apply aF;kernel_rfl)|(apply bT;rfl;rfl;rfl;rfl))|(apply aL;first|apply aH|apply aB|(apply cG;rfl;(rfl))|(apply aN;rfl;all_goals intro hc;have hq:=hc;(try simp only [cH] at hq);try exfalso;omega)|apply aR|apply aP)|with_reducible apply aA|with_reducible apply bH|((with_reducible apply aO);case hr => rfl))
 all_goals (refine ⟨?_, rfl⟩; simp only [b8, AV.v.injEq, Value.bool.injEq, Value.int.injEq, true_and])
 all_goals grind [bD]
theorem J5 (ts:List Int) (x:Pnt) (v:Int) (h:0 ≤ v ∧ v < ts.length):PC Tryz.prog 136 [sl cI ts,hG x,iv v] (fun r => r = iv (bQ ts x v)) := by
 (refine aT Tryz.func136 rfl (by simp [Tryz.ntmps136]) ?_; rw [Tryz.ntmps136])
 repeat' (first|(apply aK;first|(apply aE;rfl;rfl)|(apply aJ;rfl;rfl;rfl;rfl)|(apply aD;rfl;rfl;rfl)|(first|(apply aY;rfl;rfl;rfl;(assumption))|(apply a6;rfl;rfl;rfl;(assumption))|(apply bE;(case hj|hb|hN => rfl);all_goals (intro hg;have hq := hg;(try simp only [cH] at hq);(try (exfalso;omega)))))|(apply aS;rfl;rfl;rfl;rfl)|(apply aC;rfl;rfl)|(first|(apply bK;rfl;(assumption);rfl;rfl)|(apply bC;rfl;(assumption);rfl;rfl))|(apply cO;(case hx|hi => rfl);(case hm => (assumption));(case hml => (rfl));(case hα | hf|hg => infer_instance);(case hN => rfl))|(apply aF;kernel_rfl)|(apply bT;rfl;rfl;rfl;rfl))|(apply aL;first|apply aH|apply aB|(apply bU;rfl;(first|rfl|assumption))|(apply aN;rfl;all_goals intro hc;have hq:=hc;(try simp only [cH] at hq);try exfalso;omega)|apply aM|apply aR|apply aP)|with_reducible apply aA|with_reducible apply bH|with_reducible apply aW|with_reducible apply cX|((with_reducible apply aO);case hr => rfl))
 all_goals (refine ⟨?_, rfl⟩; simp only [b8, AV.v.injEq, Value.bool.injEq, Value.int.injEq, true_and])
 all_goals grind [bQ]
end Go.Proofs.YtjcpngimjdckmaaGreat
