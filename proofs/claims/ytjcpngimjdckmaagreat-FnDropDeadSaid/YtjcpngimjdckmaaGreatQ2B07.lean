/-
 A part of the proofs over this program: rules and contracts of its functions (the contracts).
-/
import Derived.Test.YtjcpngimjdckmaaGreatQ2B06
import Derived.Test.YtjcpngimjdckmaaGreatRows
import Derived.WalkKit
import Derived.ProofKit
import Derived.OpenShut
import Derived.Carry
import Derived.ChangeSlices
set_option linter.unusedVariables false
set_option linter.unusedSimpArgs false
set_option maxHeartbeats 8000000
set_option maxRecDepth 4000
attribute [local irreducible] Go.AL.RW Go.AL.AW Go.AL.Stop
namespace Go.Proofs.YtjcpngimjdckmaaGreat
open Go.AL Go.ChangeShapes Go.WideShapes Go.ChangeAt Go.RowKit
theorem w6 {w:World}{bad:Nat → Prop}{ι:Pl}{b:Nat}:∀ (bs:List UInt8) (o:Nat),¬ bad b → (∀ j,j < bs.length → w.cell? ⟨b,o + j,none⟩ = some (.int .u8 ((bs[j]!).toNat:Int))) → RdC w bad ι (flat cU bs) b o
 | [], _, _, _ => by simp only [flat, List.flatMap_nil, RdC]
 | x :: bs, o, hb, h => by
  have h0 := h 0 (by simp)
  have e : flat cU (x :: bs) = .v (.int .u8 (x.toNat : Int)) :: flat cU bs := rfl
  rw [e]
  simp only [RdC]
  refine ⟨⟨.int .u8 (x.toNat : Int), by simpa using h0, rfl, by simp only [Rd]⟩, w6 bs (o + 1) hb fun j hj => ?_⟩
  have := h (j + 1) (by simpa using hj)
  rw [show o + 1 + j = o + (j + 1) from by omega]
  simpa using this
theorem pK {P:Program}{k:FuncId}{bs ms:List UInt8}(h:PC P k [sl cU bs,sl cU ms] (fun r => r = bv true)){W:World}{v v':Value}(hv:Rd W (fun _ => False) (fun _ => none) (sl cU bs) v) (hv':Rd W (fun _ => False) (fun _ => none) (sl cU ms) v') :
  Calls P k #[v, v'] W fun e W' => e = .returned (.bool true) ∧ Below W.heap.size W W' := by
 let C : Ctx := { N := 0, w0 := W, W0 := fun _ => False, X := fun _ => False, ι0 := fun _ => none, xlt := fun _ h => h.elim }
 have hbad : ∀ b, ¬ a9 C.X (fun _ => none) (cA []) b := by
  rintro b (h | ⟨id, cs, β, h1, h2⟩)
  ·exact h
  ·cases h2
 have g : HG C (fun _ => none) (fun j => 0 ≤ j) (cA []) W :=
  ⟨fun id cs h => by simp [cA] at h, fun id id' cs cs' b β β' h => by simp [cA] at h, Fr.refl _ _, fun _ _ h => h, fun _ _ => rfl⟩
 have hcar : Carry W (fun _ => False) (fun _ => none) W (a9 C.X (fun _ => none) (cA [])) (fun _ => none) := ⟨fun b o x _ h2 => ⟨hbad b, h2⟩, fun _ _ h => h, fun _ => Nat.le_refl _⟩
 have ha : RdV W (a9 C.X (fun _ => none) (cA [])) (fun _ => none) [sl cU bs, sl cU ms] [v, v'] := by
  simp only [RdV]
  exact ⟨v, [v'], rfl, Rd.carry hcar _ _ hv, v', [], rfl, Rd.carry hcar _ _ hv', rfl⟩
 refine (h C _ W [v, v'] rfl rfl g ha).mono ?_
 rintro e W' ⟨v'', r, H', ι', rfl, ⟨rfl, _⟩, h4, h5⟩
 simp only [Rd] at h4
 subst h4
 have f := h5.fr
 exact ⟨rfl, f.os, f.tape, f.output, f.size, fun b hb => f.block b hb (fun h => h)⟩
theorem IU:laidOutB Tryz.prog = true := by kernel_rfl
theorem L3:Tryz.prog.cellsOf 5 = 1 := by kernel_rfl
theorem o8 {H:Type}{enc:TypeId × Value → H}{W:World}{base:Nat}{v0:Value}{d0:DataW H}{p:List MemPlace}(hval:Value.okWide Tryz.prog W .any base 22 v0) (h0:DataW.Trod enc Tryz.prog W 0 (fun _ => true) true 22 v0 d0 p) :
  ∃ bs : List UInt8, Rd W (fun _ => False) (fun _ => none) (sl cU bs) v0 := by
 obtain ⟨a0, len, cap, rfl⟩ := okWide_slice Tryz.underlying22 hval
 obtain ⟨fuel, hf⟩ := h0
 rcases open_ints Tryz.underlying22 Tryz.underlying5 L3 hf with ⟨hcs, hx⟩ | ⟨a, len', cap', zs, hcs, _, hl, hm, hz, hx, hcell, hwz⟩
 ·simp [Value.cells] at hcs
  obtain ⟨rfl, rfl, rfl⟩ := hcs
  refine ⟨[], ?_⟩
  simp only [Rd]
  exact ⟨none, 0, rfl, .inl rfl⟩
 ·simp [Value.cells] at hcs
  obtain ⟨rfl, rfl, rfl⟩ := hcs
  simp only [if_true] at hz
  refine ⟨(zs.take len).map fun n => UInt8.ofNat n.toNat, ?_⟩
  have hlen : ((zs.take len).map fun n => UInt8.ofNat n.toNat).length = len := by simp;omega
  simp only [Rd]
  refine ⟨some a, cap, by rw [hlen], ?_⟩
  by_cases h00 : len = 0
  ·exact .inl (by rw [hlen]; exact h00)
  ·obtain ⟨b, off, spot⟩ := a
   have hspot : spot = none := by simpa [Addr.add] using World.cell?_spot (hcell 0 (by omega))
   subst hspot
   refine .inr ⟨b, off, by rw [hlen]; exact hl, rfl, .inr ⟨fun h => h, w6 _ _ (fun h => h) fun j hj => ?_⟩⟩
   rw [hlen] at hj
   have hcj := hcell j (by omega)
   rw [Addr.add_lit] at hcj
   rw [hcj]
   have e : zs.getD j 0 = zs[j]'(by omega) := by simp [List.getD, List.getElem?_eq_getElem (show j < zs.length by omega)]
   have hw := hwz (zs[j]'(by omega)) (List.getElem_mem _)
   have hr : 0 ≤ zs[j]'(by omega) ∧ zs[j]'(by omega) ≤ 255 := by simpa [Lit.wf, IntKind.min, IntKind.max, IntKind.signed, IntKind.bits] using hw
   rw [e, cK _ _ (by rw [hlen]; exact hj)]
   simp only [List.getElem_map, List.getElem_take]
   congr 2
   simp only [UInt8.toNat_ofNat']
   omega
end Go.Proofs.YtjcpngimjdckmaaGreat
namespace Go.Proofs.YtjcpngimjdckmaaGreat
open Go.AL Go.RowKit
theorem sD {ts:List Int}(ht:cZ ts = true){d:Nat}{s:AL.Stmt}(h:oQ ts d s = true):1 ≤ s.op ∧ s.op ≤ 10 ∧ (s.op ≤ 8 → 0 ≤ s.x ∧ s.x < ts.length) ∧ (3 ≤ s.op → s.op ≤ 7 → 0 ≤ s.y ∧ s.y < ts.length) ∧ (∃ e,okL ts e s.th = true ∧ okL ts e s.el = true) ∧ (9 ≤ s.op → s.x = 0 ∧ s.y = 0) := by
 rw [o5] at h
 by_cases q : s.op ≠ 9 ∧ s.op ≠ 10
 ·rw [if_pos q, Bool.and_eq_true, Bool.and_eq_true] at h
  have hs := tC ht h.2
  have e1 : s.th = [] := by simpa using h.1.1
  have e2 : s.el = [] := by simpa using h.1.2
  refine ⟨hs.1, by omega, fun _ => ⟨hs.2.2.1, hs.2.2.2.1⟩, fun h1 h2 => ⟨hs.2.2.2.2.1, hs.2.2.2.2.2 h1 h2⟩, ⟨0, by rw [e1]; rfl, by rw [e2]; rfl⟩, fun _ => by omega⟩
 ·rw [if_neg q] at h
  cases d with
  | zero => cases h
  | succ d =>
   simp only [Bool.and_eq_true, decide_eq_true_eq] at h
   exact ⟨by omega, by omega, fun _ => by omega, fun _ _ => by omega, ⟨d, h.1.2, h.2⟩, fun _ => ⟨h.1.1.1.1, h.1.1.1.2.1⟩⟩
theorem Im (bs:List UInt8) (hb:bs.length ≤ 1048576):PC Tryz.prog 45 [sl cU bs] (fun r => ∃ (q:Prg) (k:Int),r = .tup [dH q,iv k] ∧ bO q.body ≤ 20000 ∧ q.types.length ≤ 1000 ∧ -1 ≤ k ∧ k ≤ 20000) := by
 have hb2 : (bs.take 2000).length ≤ 2000 := by rw [List.length_take]; omega
 (refine aT Tryz.func45 rfl (by simp [Tryz.ntmps45]) ?_; rw [Tryz.ntmps45])
 repeat' (first|(apply aK;first|((with_reducible apply lL (k := 74));(case h => exact Gg (bs.take 2000) 0 hb2 (by decide));(case ha|hpv|hH|hM|hN => rfl);(rintro ⟨q, p1⟩ ⟨hq1, hq2, hq3⟩);(dsimp only at hq1 hq2 hq3))|((with_reducible apply lL (k := 73));(case h => exact AY (bs.take 2000) p1 q hb2 (by omega) (by omega) (by omega));(case ha => rfl);(case hpv => exact Pur.pf);(case hH|hM|hN => rfl);(rintro ⟨q2, p2⟩ ⟨hr1, hr2, hr3⟩);(dsimp only at hr1 hr2 hr3);(have hln := dG q2.body);(have hpk := fun p => fP (bs.take 2000) p (q2.body.length : Int));(have hn9 := fun p => uC (bs.take 2000) p [0, -1, 40] (-1) 40 (by decide) (by decide)))|(apply aE;rfl;rfl)|(first|(apply aJ;rfl;rfl;rfl;rfl)|(apply aU;rfl;rfl;(exact (rfl:_=[_, _]));rfl;rfl;rfl))|(apply aD;rfl;rfl;rfl)|(first|(apply aY;rfl;rfl;rfl;(assumption))|(apply a6;rfl;rfl;rfl;(assumption))|(apply bE;(case hj|hb|hN => rfl);all_goals (intro hg;have hq := hg;(try simp only [cH] at hq);(try (exfalso;omega)))))|(apply aS;rfl;rfl;rfl;rfl)|(apply aC;rfl;rfl)|(first|(apply bK;rfl;(assumption);rfl;rfl)|(apply bC;rfl;(assumption);rfl;rfl))|(first|(apply n8;rfl;(apply qW <;> (assumption));rfl;rfl)|(apply jH;rfl;rfl;(rfl);(apply k9 <;> (first|assumption|omega|(simp only [gN] <;> omega)));rfl;rfl)|(apply nQ;rfl;rfl;rfl;rfl;infer_instance;rfl;(rfl);assumption;omega;(decide);(decide);rfl;rfl))|(apply a8;rfl;rfl;rfl)|(apply aF;kernel_rfl)|(apply bB;rfl;rfl)|(apply cD;rfl;rfl;rfl;(exact (rfl:_=some [_, _, _]));rfl;rfl)|(apply aV;rfl;rfl;rfl;rfl;rfl;(case hl => (simp;done));(exact (rfl:_=[_, _]))))|(apply aL;first|apply aH|apply aB|(apply bZ;kernel_rfl)|(apply bU;rfl;(rfl))|(apply aN;rfl;all_goals intro hc;have hq:=hc;(try simp only [cH] at hq);try exfalso;omega)|apply aR|apply aP)|with_reducible apply aA|with_reducible apply bH)
 ·exact aO (l := [dH q2, iv (gU (bs.take 2000) (p2 + 1) [0, -1, 40])]) rfl ⟨⟨q2, _, rfl, by omega, by omega, (hn9 _).1, by have := (hn9 (p2 + 1)).2;omega⟩, Pur.pf⟩
 ·exact aO (l := [dH q2, iv (cT (bs.take 2000) (p2 + 1) (q2.body.length : Int))]) rfl ⟨⟨q2, _, rfl, by omega, by omega, by have := hpk (p2 + 1);omega, by have := hpk (p2 + 1);omega⟩, Pur.pf⟩
 ·exact aO (l := [dH q2, iv (gU (bs.take 2000) p2 [0, -1, 40])]) rfl ⟨⟨q2, _, rfl, by omega, by omega, (hn9 _).1, by have := (hn9 p2).2;omega⟩, Pur.pf⟩
theorem KF (xs:List Int) (hl:xs.length ≤ 1000000):PC Tryz.prog 62 [sl cI xs,sl cI xs] (fun r => r = bv true) := by
 (refine aT Tryz.func62 rfl (by simp [Tryz.ntmps62]) ?_; rw [Tryz.ntmps62])
 repeat' (first|(apply aK;first|(apply aE;rfl;rfl)|(apply aS;rfl;rfl;rfl;rfl)|(apply aC;rfl;rfl)|(apply a8;rfl;rfl;rfl)|(apply aF;kernel_rfl))|(apply aL;first|apply aH|apply aB|(apply aN;rfl;all_goals intro hc;have hq:=hc;(try simp only [cH] at hq);try exfalso;omega)|apply aM|apply aR|apply aP)|with_reducible apply aA|with_reducible apply bH)
 all_goals try exact absurd trivial (by assumption : ¬ True)
 refine bF (σ := Nat) [0, 1, 12] [(0, _), (1, _), (12, _)] [] [] (fun k => [(13, iv (k : Int))]) (fun k => []) (fun k => k ≤ xs.length) (fun k => xs.length - k) (0) (Nat.zero_le _) rfl rfl (by repeat' (first|exact trivial|refine And.intro rfl ?_)) (by repeat' (exact trivial)) ?_
 intro k hk
 repeat' (first|(apply aK;first|(apply aE;rfl;rfl)|(apply aJ;rfl;rfl;rfl;rfl)|(first|(apply bR;rfl;rfl;omega;rfl)|(apply aS;rfl;rfl;rfl;rfl))|(apply aC;rfl;rfl)|(apply a7;(case hx|hi => rfl);(case hm => (omega));(case hml => (rfl));(case hα | hf|hg => infer_instance);(case hN => rfl))|(apply aF;kernel_rfl))|(apply aL;first|apply aH|apply aB|(apply bZ;kernel_rfl)|(apply aN;rfl;all_goals intro hc;have hq:=hc;(try simp only [cH] at hq);try exfalso;omega)|apply aM|apply aR|apply bI|apply aP)|with_reducible apply aA|with_reducible apply bH|with_reducible apply bJ|with_reducible apply aW|with_reducible apply cX|with_reducible apply bG)
 all_goals try exact absurd trivial (by assumption : ¬ True)
 ·(apply dV (k + 1); focus (refine Le.ren [] rfl (by decide) ?_ ?_ <;> repeat' (first | exact trivial | refine And.intro ⟨_, rfl, ?_⟩ ?_ | refine Or.inl ⟨?_, (by first | rfl | exact aZ _ _)⟩ | rfl)))
  ·omega
  ·omega
 ·exact aO rfl ⟨rfl, rfl⟩
theorem Is (mm:Nat) (same_ih:∀ l,bO l < mm → PC Tryz.prog 63 [sl aX l,sl aX l] (fun r => r = bv true)) (s:AL.Stmt) (hs:dO s ≤ mm):PC Tryz.prog 116 [fA s,fA s] (fun r => r = bv true) := by
 have hct := iR s
 (refine aT Tryz.func116 rfl (by simp [Tryz.ntmps116]) ?_; rw [Tryz.ntmps116])
 repeat' (first|(apply aK;first|(apply aE;rfl;rfl)|(apply aJ;rfl;rfl;rfl;rfl)|(apply aD;rfl;rfl;rfl)|(first|(apply aY;rfl;rfl;rfl;(first|rfl|assumption))|(apply a6;rfl;rfl;rfl;(first|rfl|assumption))|(apply bE;(case hj|hb|hN => rfl);all_goals (intro hg;have hq := hg;(try simp only [cH] at hq);(try (exfalso;omega)))))|(apply aS;rfl;rfl;rfl;rfl)|(apply aC;rfl;rfl)|(first|(apply bK;rfl;(first|rfl|assumption);rfl;rfl)|(apply bC;rfl;(first|rfl|assumption);rfl;rfl))|((with_reducible apply aI (k := 63));(case ha => rfl);(case h => (apply same_ih <;> (omega)));(case hp => (exact Pur.pf));(case hN => rfl))|(apply aF;kernel_rfl)|(apply bT;rfl;rfl;rfl;rfl))|(apply aL;first|apply aH|apply aB|apply aP)|with_reducible apply aA)
 all_goals try exact absurd trivial (by assumption : ¬ True)
 exact aO rfl ⟨rfl, rfl⟩
theorem Mp (l:List AL.Stmt) (hs:bO l ≤ 1000000) (h1:∀ s,s ∈ l → PC Tryz.prog 116 [fA s,fA s] (fun r => r = bv true)):PC Tryz.prog 115 [sl aX l,sl aX l,.v (.func (.func 116) #[] #[])] (fun r => r = bv true) := by
 have hlen := dG l
 (refine aT Tryz.func115 rfl (by simp [Tryz.ntmps115]) ?_; rw [Tryz.ntmps115])
 repeat' (first|(apply aK;first|(apply aE;rfl;rfl)|(apply aS;rfl;rfl;rfl;rfl)|(apply aC;rfl;rfl)|(apply a8;rfl;rfl;rfl)|(apply aF;kernel_rfl))|(apply aL;first|apply aH|apply aB|(apply aN;rfl;all_goals intro hc;have hq:=hc;(try simp only [cH] at hq);try exfalso;omega)|apply aM|apply aR|apply aP)|with_reducible apply aA|with_reducible apply bH)
 all_goals try exact absurd trivial (by assumption : ¬ True)
 refine bF (σ := Nat) [1, 2, 15, 16] [(1, _), (2, _), (15, _), (16, _)] [] [] (fun k => [(17, iv (k : Int))]) (fun k => []) (fun k => k ≤ l.length) (fun k => l.length - k) (0) (Nat.zero_le _) rfl rfl (by repeat' (first|exact trivial|refine And.intro rfl ?_)) (by repeat' (exact trivial)) ?_
 intro k hk
 by_cases hkn : k < l.length
 ·have hcl := h1 l[k]! (b9 l k hkn)
  repeat' (first|(apply aK;first|(apply aE;rfl;rfl)|(apply aU;rfl;rfl;(exact (rfl:_=[_, _, _, _, _, _]));rfl;rfl;rfl)|(first|(apply bR;rfl;rfl;omega;rfl)|(apply aS;rfl;rfl;rfl;rfl))|(apply aC;rfl;rfl)|(apply a7;(case hx|hi => rfl);(case hm => (assumption));(case hml => (rfl));(case hα | hf|hg => infer_instance);(case hN => rfl))|((with_reducible apply iP);(case hx|hcl => rfl);(case hc => infer_instance);(case ha => rfl);(case h => (apply hcl <;> (fail)));(case hp => (exact Pur.pf));(case hN => rfl))|(apply aF;kernel_rfl)|(apply cF;rfl;rfl)|(apply bB;rfl;rfl)|(apply aV;rfl;rfl;rfl;rfl;rfl;(case hl => (simp;done));(exact (rfl:_=[_, _, _, _, _, _]))))|(apply aL;first|apply aH|apply aB|(apply cG;rfl;(rfl))|(apply aN;rfl;all_goals intro hc;have hq:=hc;(try simp only [cH] at hq);try exfalso;omega)|apply aM|apply aR)|with_reducible apply aA|with_reducible apply aW)
  (apply dV (k + 1);focus (refine Le.ren [] rfl (by decide) ?_ ?_ <;> repeat' (first|exact trivial|refine And.intro ⟨_, rfl, ?_⟩ ?_|refine Or.inl ⟨?_, (by first|rfl|exact aZ _ _)⟩|rfl)))
  ·omega
  ·omega
 ·repeat' (first | (apply aK; first | (apply aS;rfl;rfl;rfl;rfl) | (apply aC;rfl;rfl) | (apply aF;kernel_rfl)) | (apply aL; first | apply aH | apply aB | (apply aN;rfl;all_goals intro hc;have hq:=hc;(try simp only [cH] at hq);try exfalso;omega) | apply bI | apply aP) | with_reducible apply aA | with_reducible apply bJ | with_reducible apply bG)
  exact aO rfl ⟨rfl, rfl⟩
theorem DZ (mm:Nat) (hmm:mm ≤ 1000000) (same_ih:∀ l,bO l < mm → PC Tryz.prog 63 [sl aX l,sl aX l] (fun r => r = bv true)) (l:List AL.Stmt) (hs:bO l ≤ mm):PC Tryz.prog 63 [sl aX l,sl aX l] (fun r => r = bv true) := by
 have hq := Mp l (by omega) (fun s hm => Is mm same_ih s (Nat.le_trans (vM hm) hs))
 (refine aT Tryz.func63 rfl (by simp [Tryz.ntmps63]) ?_; rw [Tryz.ntmps63])
 repeat' (first|(apply aK;first|((with_reducible apply aI (k := 115));(case ha => rfl);(case h => exact hq);(case hp => (exact Pur.pf));(case hN => rfl))|(apply aE;rfl;rfl)|(apply aC;rfl;rfl)|(apply aF;kernel_rfl))|(apply aL;first|apply aH|apply aB|apply aP)|with_reducible apply aA)
 exact aO rfl ⟨rfl, rfl⟩
theorem Lg (l:List AL.Stmt) (hb:bO l ≤ 1000000):PC Tryz.prog 63 [sl aX l,sl aX l] (fun r => r = bv true) := by
 have key : ∀ m, m ≤ 1000000 → ∀ l, bO l ≤ m → PC Tryz.prog 63 [sl aX l, sl aX l] (fun r => r = bv true) := by
  intro m
  induction m with
  | zero => intro hm l hl;exact DZ 0 hm (fun l h => by omega) l hl
  | succ m ih => intro hm l hl;exact DZ (m + 1) hm (fun l h => ih (by omega) l (by omega)) l hl
 exact key (bO l) hb l (Nat.le_refl _)
theorem lK (q:Prg) (hs:bO q.body ≤ 1000000) (ht:q.types.length ≤ 1000000):PC Tryz.prog 14 [dH q,dH q] (fun r => r = bv true) := by
 have h1 := KF q.types ht
 have h2 := Lg q.body hs
 (refine aT Tryz.func14 rfl (by simp [Tryz.ntmps14]) ?_; rw [Tryz.ntmps14])
 repeat' (first|(apply aK;first|((with_reducible apply aI (k := 62));(case ha => rfl);(case h => exact h1);(case hp => (exact Pur.pf));(case hN => rfl))|((with_reducible apply aI (k := 63));(case ha => rfl);(case h => exact h2);(case hp => (exact Pur.pf));(case hN => rfl))|(apply aE;rfl;rfl)|(apply aJ;rfl;rfl;rfl;rfl)|(apply aD;rfl;rfl;rfl)|(apply aY;rfl;rfl;rfl;(rfl))|(apply aC;rfl;rfl)|(apply bK;rfl;(rfl);rfl;rfl)|(apply aF;kernel_rfl)|(apply bT;rfl;rfl;rfl;rfl))|(apply aL;first|apply aH|apply aB|apply aP)|with_reducible apply aA)
 exact aO rfl ⟨rfl, rfl⟩
def B0 (r : Option Prg) : AV := .tup [dH (r.getD ⟨[], []⟩), bv r.isSome]
theorem Jg (r:Option Prg):(B0 r).pur = true := by unfold B0; exact PurV.pf
theorem lX {P:Program}{s:AS}{res:Array ResultVar}{r:Option Prg}{l:List AV}(hr:v8 P (lk s.ts) (cA s.hs) res.toList = some l) (e:b8 l = B0 r):AQ P res (fun x _ => x = B0 r ∧ x.pur = true) .ret s := aO hr ⟨e,by rw [e]; exact Jg r⟩
theorem Kk {xs:List AL.Stmt}{k:Nat}{a b c d:Int}{t e:List AL.Stmt}(hk:k < xs.length):hZ (flat aX xs) (0 + k * 6) [iv a,iv b,iv c,iv d,sl aX t,sl aX e] = flat aX (xs.set k (.mk a b c d t e)) := k8 hk (eC (.mk a b c d t e)).symm
theorem EL (p:Prg) (k:Int) (hl:p.types.length ≤ 1000000) (hs:bO p.body ≤ 1000000):PC Tryz.prog 69 [dH p,iv k] (fun r => r = bv (decide (cP p = true ∧ 0 ≤ k ∧ k ≤ (p.body.length:Int) - 2))) := by
 have hlen := dG p.body
 have hval := k6 p hl (by omega)
 (refine aT Tryz.func69 rfl (by simp [Tryz.ntmps69]) ?_; rw [Tryz.ntmps69])
 repeat' (first|(apply aK;first|((with_reducible apply aI (k := 49));(case ha => rfl);(case h => exact hval);(case hp => (exact Pur.pf));(case hN => rfl))|(apply aE;rfl;rfl)|(first|(apply aJ;rfl;rfl;rfl;rfl)|(apply aU;rfl;rfl;(exact (rfl:_=[_, _]));rfl;rfl;rfl))|(apply aD;rfl;rfl;rfl)|(first|(apply aY;rfl;rfl;rfl;(assumption))|(apply a6;rfl;rfl;rfl;(assumption))|(apply bE;(case hj|hb|hN => rfl);all_goals (intro hg;have hq := hg;(try simp only [cH] at hq);(try (exfalso;omega)))))|(apply e6;rfl;rfl;omega;rfl)|(apply aC;rfl;rfl)|(first|(apply bK;rfl;(assumption);rfl;rfl)|(apply bC;rfl;(assumption);rfl;rfl))|((with_reducible apply aI (k := 50));(case ha => rfl);(case h => (apply eA <;> (fail)));(case hp => (rfl));(case hN => rfl))|(apply a8;rfl;rfl;rfl)|(apply aF;kernel_rfl)|(apply bT;rfl;rfl;rfl;rfl))|(apply aL;first|apply aH|apply aB|apply aP)|with_reducible apply aA)
 ·refine aO rfl ⟨?_, rfl⟩
  simp only [b8]
  rw [hq, ← Bool.decide_and]
  congr 1
  simp
 ·refine aO rfl ⟨?_, rfl⟩
  simp only [b8]
  rw [decide_eq_false (by rw [hq]; rintro ⟨h, _⟩; cases h)]
def fwdC (p : Prg) (k : Nat) : Prop := k + 1 < p.body.length ∧ p.body[k]!.op = 7 ∧ p.body[k + 1]!.op = 6 ∧ p.body[k + 1]!.y = p.body[k]!.x ∧ p.body[k + 1]!.x ≠ p.body[k]!.y
def qU (p : Prg) (k : Nat) : Prg := ⟨p.types, p.body.set (k + 1) (.mk 3 p.body[k + 1]!.x p.body[k]!.y 0 [] [])⟩
instance (p : Prg) (k : Nat) : Decidable (fwdC p k) := by unfold fwdC; infer_instance
def mW (p : Prg) (k : Int) : Option Prg := if cP p = true ∧ 0 ≤ k ∧ fwdC p k.toNat then some (qU p k.toNat) else none
theorem HB {p:Prg}{k:Nat}(h:p.body[k]!.op = 7 → p.body[k + 1]!.op = 6 → p.body[k + 1]!.y = p.body[k]!.x → p.body[k + 1]!.x ≠ p.body[k]!.y → False):mW p (k:Int) = none := by
 unfold mW fwdC
 rw [if_neg]
 rintro ⟨_, _, _, h1, h2, h3, h4⟩
 rw [Int.toNat_natCast] at h1 h2 h3 h4
 exact h h1 h2 h3 h4
theorem Lu (p:Prg) (k:Int) (hl:p.types.length ≤ 1000000) (hs:bO p.body ≤ 1000000):PC Tryz.prog 22 [dH p,iv k] (fun r => r = B0 (mW p k)) := by
 have hlen := dG p.body
 have hp := EL p k hl hs
 by_cases h : cP p = true ∧ 0 ≤ k ∧ k ≤ (p.body.length : Int) - 2
 ·rw [decide_eq_true h] at hp
  obtain ⟨k, rfl⟩ : ∃ j : Nat, k = j := ⟨k.toNat, by omega⟩
  (refine aT Tryz.func22 rfl (by simp [Tryz.ntmps22]) ?_; rw [Tryz.ntmps22])
  repeat' (first|(apply aK;first|((with_reducible apply aI (k := 69));(case ha => rfl);(case h => exact hp);(case hp => (exact Pur.pf));(case hN => rfl))|(apply DG;rfl;(apply Hs <;> omega);rfl;rfl)|(apply aV;rfl;rfl;rfl;rfl;rfl;(rw [aQ aX (e := 6)]; (show _ + 6 ≤ _);omega);exact Kk (t := []) (e := []) (by omega))|(apply aE;rfl;rfl)|(first|(apply aJ;rfl;rfl;rfl;rfl)|(apply aU;rfl;rfl;(first|exact (rfl:_=[_, _])|exact (rfl:_=[_, _, _, _, _, _]));rfl;rfl;rfl))|(apply aD;rfl;rfl;rfl)|(first|(apply aY;rfl;rfl;rfl;(assumption))|(apply a6;rfl;rfl;rfl;(first|rfl|assumption))|(apply bE;(case hj|hb|hN => rfl);all_goals (intro hg;have hq := hg;(try simp only [cH] at hq);(try (exfalso;omega)))))|(first|(apply bR;rfl;rfl;omega;rfl)|(apply aS;rfl;rfl;rfl;rfl))|(apply aC;rfl;rfl)|(first|(apply bK;rfl;(first|rfl|assumption);rfl;rfl)|(apply bC;rfl;(assumption);rfl;rfl))|(first|(apply a7;(case hx|hi => rfl);(case hm => (omega));(case hml => (rfl));(case hα | hf|hg => infer_instance);(case hN => rfl))|(apply cO;(case hx|hi => rfl);(case hm => (omega));(case hml => (rfl));(case hα | hf|hg => infer_instance);(case hN => rfl))|(apply cR;rfl;rfl;(omega);rfl))|(apply aF;kernel_rfl)|(apply bW;rfl;(first|exact (rfl:_=some [_, _])|exact (rfl:_=some [_, _, _, _, _, _]));(first|exact (rfl:_=[_, _])|exact (rfl:_=[_, _, _, _, _, _]));rfl)|(apply cF;rfl;rfl)|(apply bT;rfl;rfl;rfl;rfl)|(apply bB;rfl;rfl)|(apply aV;rfl;rfl;rfl;rfl;rfl;(case hl => (first|decide|(simp;done)));(first|exact (rfl:_=[_, _])|exact (rfl:_=[_, _, _, _, _, _]))))|(apply aL;first|apply aH|apply aB|(apply bZ;kernel_rfl)|(apply bU;rfl;(rfl))|(apply cG;rfl;(rfl))|(apply aN;rfl;all_goals intro hc;have hq:=hc;(try simp only [cH] at hq);try exfalso;omega)|apply aR|apply aP)|with_reducible apply aA|with_reducible apply bH)
  all_goals rw [show ((k : Int) + 1).toNat = k + 1 by omega] at *
  all_goals first
   | (refine aO (l := [.agg [.imm 0 [], .imm 0 []], bv false]) rfl ⟨?_, rfl⟩
      have : mW p k = none := HB fun h1 h2 h3 h4 => by omega
      rw [this]; rfl)
   | skip
  have : mW p k = some (qU p k) := by
   unfold mW fwdC
   rw [if_pos]; rfl
   refine ⟨h.1, h.2.1, ?_⟩
   rw [Int.toNat_natCast]
   exact ⟨by omega, by assumption, by assumption, by assumption, by assumption⟩
  rw [this]
  refine cE (Le.frzC (j := 1) (i := 6) [sl cI p.types] rfl rfl (by decide)) ?_
  have e : b8 [AV.agg [sl cI p.types, .imm p.body.length (flat aX (p.body.set (k + 1) (.mk 3 p.body[k + 1]!.x p.body[k]!.y 0 [] [])))], bv true] = B0 (some (qU p k)) := by
   show AV.tup [_, _] = AV.tup [dH (qU p k), bv true]
   unfold qU;dsimp only [dH]; unfold sl;rw [List.length_set]
  refine lX ?_ e
  rfl
 ·rw [decide_eq_false h] at hp
  (refine aT Tryz.func22 rfl (by simp [Tryz.ntmps22]) ?_; rw [Tryz.ntmps22])
  repeat' (first|(apply aK;first|((with_reducible apply aI (k := 69));(case ha => rfl);(case h => exact hp);(case hp => (exact Pur.pf));(case hN => rfl))|(apply aE;rfl;rfl)|(apply aU;rfl;rfl;(exact (rfl:_=[_, _]));rfl;rfl;rfl)|(apply aC;rfl;rfl)|(apply aF;kernel_rfl)|(apply bW;rfl;(exact (rfl:_=some [_, _]));(exact (rfl:_=[_, _]));rfl)|(apply cF;rfl;rfl)|(apply bT;rfl;rfl;rfl;rfl)|(apply bB;rfl;rfl)|(apply aV;rfl;rfl;rfl;rfl;rfl;(decide);(exact (rfl:_=[_, _]))))|(apply aL;first|apply aH|apply aB|(apply bU;rfl;(rfl))|apply aP)|with_reducible apply aA|with_reducible apply bH)
  refine aO (l := [.agg [.imm 0 [], .imm 0 []], bv false]) rfl ⟨?_, rfl⟩
  have : mW p k = none := by unfold mW;rw [if_neg]; rintro ⟨h1, h2, h3⟩; unfold fwdC at h3;exact h ⟨h1, h2, by omega⟩
  rw [this]; rfl
theorem L1 (p:Prg) (k:Int) (hl:p.types.length ≤ 1000000) (hs:bO p.body ≤ 1000000):PC Tryz.prog 23 [dH p,iv k] (fun r => r = B0 (mW p k)) := by
 have hlen := dG p.body
 have hval := mD p hl (by omega)
 by_cases h : cP p = true ∧ 0 ≤ k ∧ k ≤ (p.body.length : Int) - 2
 ·rw [h.1] at hval
  obtain ⟨k, rfl⟩ : ∃ j : Nat, k = j := ⟨k.toNat, by omega⟩
  (refine aT Tryz.func23 rfl (by simp [Tryz.ntmps23]) ?_; rw [Tryz.ntmps23])
  repeat' (first|(apply aK;first|((with_reducible apply aI (k := 57));(case ha => rfl);(case h => exact hval);(case hp => (exact Pur.pf));(case hN => rfl))|(apply nJ;rfl;(apply pA <;> omega);rfl;rfl)|(apply aV;rfl;rfl;rfl;rfl;rfl;(rw [aQ aX (e := 6)]; (show _ + 6 ≤ _);omega);exact Kk (t := []) (e := []) (by omega))|(apply aE;rfl;rfl)|(first|(apply aJ;rfl;rfl;rfl;rfl)|(apply aU;rfl;rfl;(first|exact (rfl:_=[_, _])|exact (rfl:_=[_, _, _, _, _, _]));rfl;rfl;rfl))|(apply aD;rfl;rfl;rfl)|(first|(apply aY;rfl;rfl;rfl;(first|rfl|assumption))|(apply a6;rfl;rfl;rfl;(first|rfl|assumption))|(apply bE;(case hj|hb|hN => rfl);all_goals (intro hg;have hq := hg;(try simp only [cH] at hq);(try (exfalso;omega)))))|(first|(apply bR;rfl;rfl;omega;rfl)|(apply e6;rfl;rfl;omega;rfl)|(apply aS;rfl;rfl;rfl;rfl))|(apply aC;rfl;rfl)|(first|(apply bK;rfl;(first|rfl|assumption);rfl;rfl)|(apply bC;rfl;(first|rfl|assumption);rfl;rfl))|(first|(apply a7;(case hx|hi => rfl);(case hm => (omega));(case hml => (rfl));(case hα | hf|hg => infer_instance);(case hN => rfl))|(apply cO;(case hx|hi => rfl);(case hm => (omega));(case hml => (rfl));(case hα | hf|hg => infer_instance);(case hN => rfl))|(apply cR;rfl;rfl;(omega);rfl))|(apply a8;rfl;rfl;rfl)|(apply aF;kernel_rfl)|(apply bW;rfl;(first|exact (rfl:_=some [_, _])|exact (rfl:_=some [_, _, _, _, _, _]));(first|exact (rfl:_=[_, _])|exact (rfl:_=[_, _, _, _, _, _]));rfl)|(apply cF;rfl;rfl)|(apply bT;rfl;rfl;rfl;rfl)|(apply bB;rfl;rfl)|(apply aV;rfl;rfl;rfl;rfl;rfl;(case hl => (first|decide|(simp;done)));(first|exact (rfl:_=[_, _])|exact (rfl:_=[_, _, _, _, _, _]))))|(apply aL;first|apply aH|apply aB|(apply bU;rfl;(rfl))|(apply aN;rfl;all_goals intro hc;have hq:=hc;(try simp only [cH] at hq);try exfalso;omega)|apply aR|apply aP)|with_reducible apply aA|with_reducible apply bH)
  all_goals rw [show ((k : Int) + 1).toNat = k + 1 by omega] at *
  all_goals first
   | (exfalso;omega)
   | (refine aO (l := [.agg [.imm 0 [], .imm 0 []], bv false]) rfl ⟨?_, rfl⟩
      have : mW p k = none := HB fun h1 h2 h3 h4 => by omega
      rw [this]; rfl)
   | skip
  have : mW p k = some (qU p k) := by
   unfold mW fwdC
   rw [if_pos]; rfl
   refine ⟨h.1, h.2.1, ?_⟩
   rw [Int.toNat_natCast]
   exact ⟨by omega, by assumption, by assumption, Eq.symm (by assumption), fun z => absurd z.symm (by assumption)⟩
  rw [this]
  refine cE (Le.frzC (j := 1) (i := 7) [] rfl rfl (by decide)) ?_
  refine cE (Le.frzC (j := 1) (i := 8) [.imm _ _] rfl rfl (by decide)) ?_
  have e : b8 [AV.agg [sl cI p.types, .imm p.body.length (flat aX (p.body.set (k + 1) (.mk 3 p.body[k + 1]!.x p.body[k]!.y 0 [] [])))], bv true] = B0 (some (qU p k)) := by
   show AV.tup [_, _] = AV.tup [dH (qU p k), bv true]
   unfold qU;dsimp only [dH]; unfold sl;rw [List.length_set]
  refine lX ?_ e
  rfl
 ·have : mW p k = none := by unfold mW; rw [if_neg]; rintro ⟨h1, h2, h3⟩; unfold fwdC at h3; exact h ⟨h1, h2, by omega⟩
  rw [this]
  cases hv : cP p
  ·rw [hv] at hval
   (refine aT Tryz.func23 rfl (by simp [Tryz.ntmps23]) ?_; rw [Tryz.ntmps23])
   repeat' (first|(apply aK;first|((with_reducible apply aI (k := 57));(case ha => rfl);(case h => exact hval);(case hp => (exact Pur.pf));(case hN => rfl))|(apply aE;rfl;rfl)|(apply aU;rfl;rfl;(exact (rfl:_=[_, _]));rfl;rfl;rfl)|(apply a6;rfl;rfl;rfl;(rfl))|(apply aC;rfl;rfl)|(apply bK;rfl;(rfl);rfl;rfl)|(apply aF;kernel_rfl)|(apply bW;rfl;(exact (rfl:_=some [_, _]));(exact (rfl:_=[_, _]));rfl)|(apply cF;rfl;rfl)|(apply bT;rfl;rfl;rfl;rfl)|(apply bB;rfl;rfl)|(apply aV;rfl;rfl;rfl;rfl;rfl;(decide);(exact (rfl:_=[_, _]))))|(apply aL;first|apply aH|apply aB|(apply bU;rfl;(rfl))|apply aP)|with_reducible apply aA|with_reducible apply bH)
   exact aO (l := [.agg [.imm 0 [], .imm 0 []], bv false]) rfl ⟨rfl, rfl⟩
  ·rw [hv] at hval
   (refine aT Tryz.func23 rfl (by simp [Tryz.ntmps23]) ?_; rw [Tryz.ntmps23])
   repeat' (first|(apply aK;first|((with_reducible apply aI (k := 57));(case ha => rfl);(case h => exact hval);(case hp => (exact Pur.pf));(case hN => rfl))|(apply aE;rfl;rfl)|(first|(apply aJ;rfl;rfl;rfl;rfl)|(apply aU;rfl;rfl;(first|exact (rfl:_=[_, _])|exact (rfl:_=[_, _, _, _, _, _]));rfl;rfl;rfl))|(apply aD;rfl;rfl;rfl)|(first|(apply aY;rfl;rfl;rfl;(first|rfl|assumption))|(apply a6;rfl;rfl;rfl;(first|rfl|assumption))|(apply bE;(case hj|hb|hN => rfl);all_goals (intro hg;have hq := hg;(try simp only [cH] at hq);(try (exfalso;omega)))))|(first|(apply bR;rfl;rfl;omega;rfl)|(apply e6;rfl;rfl;omega;rfl)|(apply aS;rfl;rfl;rfl;rfl))|(apply aC;rfl;rfl)|(first|(apply bK;rfl;(first|rfl|assumption);rfl;rfl)|(apply bC;rfl;(first|rfl|assumption);rfl;rfl))|(first|(apply cO;(case hx|hi => rfl);(case hm => (omega));(case hml => (rfl));(case hα | hf|hg => infer_instance);(case hN => rfl))|(apply cR;rfl;rfl;(omega);rfl))|(apply nJ;rfl;(apply pA <;> (assumption));rfl;rfl)|(apply a8;rfl;rfl;rfl)|(apply aF;kernel_rfl)|(apply bW;rfl;(first|exact (rfl:_=some [_, _])|exact (rfl:_=some [_, _, _, _, _, _]));(first|exact (rfl:_=[_, _])|exact (rfl:_=[_, _, _, _, _, _]));rfl)|(apply cF;rfl;rfl)|(apply bT;rfl;rfl;rfl;rfl)|(apply bB;rfl;rfl)|(apply aV;rfl;rfl;rfl;rfl;rfl;(case hl => (first|decide|(rw [aQ]; simp only [gN] <;> omega)|(simp;done)));(first|exact (rfl:_=[_, _])|exact (rfl:_=[_, _, _, _, _, _])|rfl)))|(apply aL;first|apply aH|apply aB|(apply bU;rfl;(rfl))|(apply aN;rfl;all_goals intro hc;have hq:=hc;(try simp only [cH] at hq);try exfalso;omega)|apply aR|apply aP)|with_reducible apply aA|with_reducible apply bH)
   all_goals first
    | exact aO (l := [.agg [.imm 0 [], .imm 0 []], bv false]) rfl ⟨rfl, rfl⟩
    | (exfalso;exact h ⟨hv, by omega, by omega⟩)
def QK (r : AV) : Prop := ∃ (q : Prg) (k : Int), r = .tup [dH q, iv k] ∧ bO q.body ≤ 20000 ∧ q.types.length ≤ 1000 ∧ -1 ≤ k ∧ k ≤ 20000
theorem QK.mk (q:Prg) (k:Int) (h1:bO q.body ≤ 20000) (h2:q.types.length ≤ 1000) (h3:-1 ≤ k) (h4:k ≤ 20000):QK (b8 [dH q,iv k]) ∧ (b8 [dH q,iv k]).pur = true := ⟨⟨q,k,rfl,h1,h2,h3,h4⟩,Pur.pf⟩
theorem HR {P:Program}{N:Nat}{Q:Exit → AS → Prop}{all:Array Oper}{rest:List Oper}{ts:List (Nat × AV)}{hs:List (Nat × Option (List AV))}{n:Nat}{z0:Lo}{cs:List AV}{xs:List ByteArray}{m d:Nat}(hd:lk ts d = some (.imm m cs)) (h:NumS cs xs) (hm:m = xs.length) (ha:xs.all (fun s => decide (s.size ≤ 600)) = true)
  (k : ∀ ys : List ByteArray, ys.length = m → (∀ i : Nat, (ys[i]!).size ≤ 600) → RW P N all Q .txt rest ⟨(d, sl A8 ys) :: ts, hs, n, z0⟩) : RW P N all Q .txt rest ⟨ts, hs, n, z0⟩ := by
 obtain ⟨ys, e, h1, h2⟩ := Bu h hm ha
 exact kL (k ys h1 h2) (Le.slotEq _ _ hd e)
theorem Aj (bs:List UInt8) (hb:bs.length ≤ 1048576):PC Tryz.prog 45 [sl cU bs] QK := Im bs hb
theorem CJ (bs:List UInt8) (hb:bs.length ≤ 1048576):PC Tryz.prog 35 [sl cU bs] QK := by
 (refine aT Tryz.func35 rfl (by simp [Tryz.ntmps35]) ?_; rw [Tryz.ntmps35])
 repeat' (first|(apply aK;first|((with_reducible apply fN (k := 45));(case ha => rfl);(case h => exact Aj bs hb);(case hp => (exact Pur.pf));(case hN => rfl);(rintro _ ⟨q, k, rfl, h1, h2, h3, h4⟩ _))|(apply aE;rfl;rfl)|(apply aC;rfl;rfl)|(apply aF;kernel_rfl)|(apply bB;rfl;rfl)|(apply b0;rfl;rfl;rfl)|(apply aV;rfl;rfl;rfl;rfl;rfl;(case hl => (simp;done));(exact (rfl:_=[_, _]))))|(apply aL;first|apply aH|apply aB|apply aP)|with_reducible apply aA)
 exact aO (l := [dH q, iv k]) rfl (QK.mk q k h1 h2 h3 h4)
theorem Eg (bs:List UInt8) (hb:bs.length ≤ 1048576):PC Tryz.prog 21 [sl cU bs] QK := by
 have hb2 : (bs.take 2000).length ≤ 2000 := by rw [List.length_take]; omega
 (refine aT Tryz.func21 rfl (by simp [Tryz.ntmps21]) ?_; rw [Tryz.ntmps21])
 repeat' (first|(apply aK;first|((with_reducible apply fN (k := 45));(case ha => rfl);(case h => exact Aj bs hb);(case hp => (exact Pur.pf));(case hN => rfl);(rintro _ ⟨q, k, rfl, h1, h2, h3, h4⟩ _))|((apply bS (d := 13));(case hze|hsm|hl => rfl);(case hfl => exact (rfl:_=some [_, _, _]));(case hM|hN => rfl))|(with_reducible apply dE (d := 15))|(apply aE;rfl;rfl)|(apply aS;rfl;rfl;rfl;rfl)|(apply aC;rfl;rfl)|(first|(apply n8;rfl;(apply qW <;> (assumption));rfl;rfl)|(apply jH;rfl;rfl;(rfl);(apply k9 <;> (first|assumption|omega));rfl;rfl))|(apply aF;kernel_rfl)|(apply bB;rfl;rfl)|(apply b0;rfl;rfl;rfl)|(apply aV;rfl;rfl;rfl;rfl;rfl;(case hl => (simp;done));(exact (rfl:_=[_, _]))))|(apply aL;first|apply aH|apply aB|(apply aN;rfl;all_goals intro hc;have hq:=hc;(try simp only [cH] at hq);try exfalso;omega)|apply aR|apply aP)|with_reducible apply aA)
 ·refine eX (HR (d := 5) (m := 3) rfl inferInstance rfl (by decide) ?_)
  intro ys hyl hsz
  have hpk := fP (bs.take 2000) (0 + 1) (ys.length : Int)
  repeat' (first|(apply aK;first|((with_reducible apply fN (k := 68));(case ha => rfl);(case h => exact mN _ (Nat.le_trans (hsz _) (by decide)));(case hp => (rfl));(case hN => rfl);(rintro _ ⟨q, b, rfl, hqc, hqt⟩ _))|(apply aE;rfl;rfl)|(first|(apply aJ;rfl;rfl;rfl;rfl)|(apply aU;rfl;rfl;(exact (rfl:_=[_, _]));rfl;rfl;rfl))|(apply aC;rfl;rfl)|(apply cO;(case hx|hi => rfl);(case hm => (omega));(case hml => (rfl));(case hα | hf|hg => infer_instance);(case hN => rfl))|(first|(apply jH;rfl;rfl;(rfl);(apply k9 <;> (first|assumption|omega));rfl;rfl)|(apply nQ;rfl;rfl;rfl;rfl;infer_instance;rfl;(rfl);assumption;omega;(decide);(decide);rfl;rfl))|(apply a8;rfl;rfl;rfl)|(apply aF;kernel_rfl)|(apply bB;rfl;rfl)|(apply b0;rfl;rfl;rfl)|(apply cD;rfl;rfl;rfl;(exact (rfl:_=some [_, _, _, _]));rfl;rfl)|(apply aV;rfl;rfl;rfl;rfl;rfl;(case hl => (simp;done));(exact (rfl:_=[_, _]))))|(apply aL;first|apply aH|(apply bZ;kernel_rfl)|apply aP)|with_reducible apply aA|with_reducible apply bH)
  have h9 := hsz (cT (bs.take 2000) (0 + 1) (ys.length : Int)).toNat
  have hn := uC (bs.take 2000) (0 + 1 + 1) [3, 2, 3, 4] 2 4 (by decide) (by decide)
  exact aO (l := [dH q, iv (gU (bs.take 2000) (0 + 1 + 1) [3, 2, 3, 4])]) rfl (QK.mk q _ (by omega) (by omega) (by omega) (by omega))
 ·exact aO (l := [dH q, iv k]) rfl (QK.mk q k h1 h2 h3 h4)
theorem DM (p:Prg) (hv:cP p = true) (hl:p.types.length ≤ 1000000) (hs:bO p.body ≤ 1000000) (f:Flows p.types (bX p)) :
  PC Tryz.prog 31 [dH p] (fun r => r = sl rV f.iss) ∧ PC Tryz.prog 19 [dH p] (fun r => r = bv f.iss.isEmpty) := by
 have h := Hc p f hl hs
 have e : KT p f = f.iss := if_pos hv
 rw [e] at h
 have h2 := Ak p f.iss hl hs h
 rw [hv, Bool.true_and] at h2
 exact ⟨h, h2⟩
def Nh (l : List Value) : Prop := ∃ (b : Bool) (n c d : Int), l = [.bool b, .int .i64 n, .int .i64 c, .int .i64 d]
instance : EqS Go.Proofs.Tryz.prog 51 Nh where
 g := Go.Proofs.Tryz.eqGuardType51
 e := fun l hl w => by
  obtain ⟨b, n, c, d, rfl⟩ := hl
  have u3 := Go.Proofs.Tryz.underlying3
  have a3 := Go.Proofs.Tryz.isAgg3
  have z3 := Go.Proofs.Tryz.sizeOf3
  have u4 := Go.Proofs.Tryz.underlying4
  have a4 := Go.Proofs.Tryz.isAgg4
  have z4 := Go.Proofs.Tryz.sizeOf4
  have a5 := Go.Proofs.Tryz.isAgg49
  have z5 := Go.Proofs.Tryz.sizeOf49
  have hS : Go.Proofs.Tryz.prog.underlying 51 = some (.struct (Go.Proofs.Tryz.prog.fieldsOf 51)) := by kernel_rfl
  have hp : Go.Proofs.Tryz.prog.stoodInHeld 51 = false := by kernel_rfl
  have hS5 : Go.Proofs.Tryz.prog.underlying 49 = some (.struct (Go.Proofs.Tryz.prog.fieldsOf 49)) := by kernel_rfl
  have hp5 : Go.Proofs.Tryz.prog.stoodInHeld 49 = false := by kernel_rfl
  have h5 : ∀ w, (Op.equalIn 9999 49 (.agg #[.int .i64 c, .int .i64 d]) (.agg #[.int .i64 c, .int .i64 d])).run Go.Proofs.Tryz.prog w = .ok true w := fun w => by
   rw [show (9999 : Nat) = 9998 + 1 from rfl, run_equalIn_agg w 9998 49 _ _ hS5 hp5]
   simp only [Program.fieldsOf, Go.Proofs.Tryz.underlying49]
   go_simp
  rw [show (10000 : Nat) = 9999 + 1 from rfl, run_equalIn_agg w 9999 51 _ _ hS hp]
  simp only [Program.fieldsOf, Go.Proofs.Tryz.underlying51]
  go_simp
theorem DN (p:Prg) (hv:cP p = true) (hl:p.types.length ≤ 1000000) (hs:bO p.body ≤ 1000000) (cs:List Int) (hc:cs.length ≤ 1000000) (n:Nat) (hn:n ≤ 150) :
  PC Tryz.prog 24 [dH p, sl cI cs, iv (n : Int)] (fun r => r = .tup [sl e5 (dI p.types (bX p) cs n).1.slots, iv (dI p.types (bX p) cs n).2.1]) := by
 have h := wA p cs n hl hs hc
 rw [if_pos (by unfold LX;rw [hv, decide_eq_true (by omega), decide_eq_true (by omega)]; rfl), Int.toNat_natCast] at h
 exact h
theorem Ke (p:Prg) (k:Int) (Q:Prg) (h:mW p k = some Q):cP p = true ∧ Q.types = p.types ∧ cP Q = true ∧ ∀ (w:WG p.types (bX p)) (f:Flows p.types (bX p)) (w':WG p.types (bX Q)) (g:Flows p.types (bX Q)),f.iss = [] → g.iss = [] ∧
  ∀ (cs : List Int), (dI p.types (bX p) cs 80).2.1 = (dI p.types (bX Q) cs 80).2.1 ∧ ((dI p.types (bX p) cs 80).2.1 = 0 → ∀ v, v < p.types.length → p.types[v]! = 1 → (dI p.types (bX p) cs 80).1.slots[v]! = (dI p.types (bX Q) cs 80).1.slots[v]!) := by
 unfold mW at h
 split at h
 ·rename_i hc
  obtain ⟨hv, hk, h1, h2, h3, h4, h5⟩ := hc
  cases h
  obtain ⟨⟨a, X, Y, Z, F⟩, hvQ⟩ : (∃ a X Y Z, Fwd p.types (bX p) (bX (qU p k.toNat)) a X Y Z) ∧ cP (qU p k.toNat) = true := Fwd.of hv h1 h2 h3 h4 h5
  refine ⟨hv, rfl, hvQ, fun w f w' g hf => ?_⟩
  have A := WA.of_valid hv
  have A' : WA p.types (bX (qU p k.toNat)) := WA.of_valid hvQ
  generalize bX (qU p k.toNat) = QQ at *
  have N := (NoI.iff w f).1 hf
  have N' := F.noI A' N
  have hg := (NoI.iff w' g).2 N'
  refine ⟨hg, fun cs => ?_⟩
  have s1 := wM w A f cs 80 (by decide) hf
  have s2 := wM w' A' g cs 80 (by decide) hg
  have hop : ∀ i : Nat, (bX p)[i]!.op = 11 ↔ QQ[i]!.op = 11 := fun i => by
   by_cases q : i = a + 1
   ·have := F.p2
    have := F.q2
    rw [q]; omega
   ·rw [← F.ne i q]
  have he : (dI p.types (bX p) cs 80).2.1 = (dI p.types QQ cs 80).2.1 := JF (ts := p.types) hop (fun i => (F.nx i).symm) 80 0 cs (mc0 p.types.length) (mc0 p.types.length) 0 0 (by show 0 + 80 ≤ 199;decide) (by show 0 + 80 ≤ 199;decide) s1 s2
  exact ⟨he, fun h0 v hv1 ht => F.run w A w' A' cs 80 h0 (by rw [← he]; exact h0) v hv1 ht⟩
 ·cases h
theorem nG (ts:List Int) (pts:List Pnt) (cs:List Int) (n:Nat):(dI ts pts cs n).1.slots.length = ts.length := by
 have key : ∀ (l : List Nat) (s : Mc) (last : Nat), s.slots.length = ts.length → (gI ts pts l s last).1.slots.length = ts.length := by
  intro l
  induction l with
  | nil => intro s last h;exact h
  | cons a l ih =>
   intro s last h
   rw [gI]
   split
   ·exact h
   ·split
    ·exact ih _ _ (by rw [gH]; exact h)
    ·rw [gH]; exact h
 exact key _ _ _ (by simp [mc0])
theorem rW (bs ms:List UInt8):PC Tryz.prog 5 [sl cU bs,sl cU ms] (fun r => r = bv true) := by
 rcases Nat.lt_or_ge 1048576 bs.length with hb|hb
 ·(refine aT Tryz.func5 rfl (by simp [Tryz.ntmps5]) ?_; rw [Tryz.ntmps5])
  repeat' (first|(apply aK;first|(apply aE;rfl;rfl)|(first|(apply a6;rfl;rfl;rfl;(assumption))|(apply bE;(case hj|hb|hN => rfl);all_goals (intro hg;have hq := hg;(try simp only [cH] at hq);(try (exfalso;omega)))))|(apply aS;rfl;rfl;rfl;rfl)|(apply aC;rfl;rfl)|(apply bK;rfl;(assumption);rfl;rfl)|(apply a8;rfl;rfl;rfl)|(apply aF;kernel_rfl))|(apply aL;first|apply aH|apply aB|(apply bU;rfl;(rfl))|apply aP)|with_reducible apply aA|with_reducible apply bH)
  all_goals exact aO rfl ⟨rfl, rfl⟩
 rcases Nat.lt_or_ge 1048576 ms.length with hm|hm
 ·(refine aT Tryz.func5 rfl (by simp [Tryz.ntmps5]) ?_; rw [Tryz.ntmps5])
  repeat' (first|(apply aK;first|(apply aE;rfl;rfl)|(first|(apply aY;rfl;rfl;rfl;(assumption))|(apply bE;(case hj|hb|hN => rfl);all_goals (intro hg;have hq := hg;(try simp only [cH] at hq);(try (exfalso;omega)))))|(apply aS;rfl;rfl;rfl;rfl)|(apply aC;rfl;rfl)|(apply bC;rfl;(assumption);rfl;rfl)|(apply a8;rfl;rfl;rfl)|(apply aF;kernel_rfl))|(apply aL;first|apply aH|apply aB|(apply aN;rfl;all_goals intro hc;have hq:=hc;(try simp only [cH] at hq);try exfalso;omega)|apply aP)|with_reducible apply aA|with_reducible apply bH)
  all_goals exact aO rfl ⟨rfl, rfl⟩
 (refine aT Tryz.func5 rfl (by simp [Tryz.ntmps5]) ?_; rw [Tryz.ntmps5])
 repeat' (first|(apply aK;first|((with_reducible apply fN (k := 21));(case ha => rfl);(case h => exact Eg bs hb);(case hp => (exact Pur.pf));(case hN => rfl);(rintro _ ⟨p, k, rfl, hq1, hq2, hq3, hq4⟩ _))|(with_reducible apply dE (d := 33))|(apply aE;rfl;rfl)|(first|(apply aY;rfl;rfl;rfl;(assumption))|(apply bE;(case hj|hb|hN => rfl);all_goals (intro hg;have hq := hg;(try simp only [cH] at hq);(try (exfalso;omega)))))|(apply aS;rfl;rfl;rfl;rfl)|(apply aC;rfl;rfl)|(apply bC;rfl;(assumption);rfl;rfl)|(apply a8;rfl;rfl;rfl)|(apply aF;kernel_rfl)|(apply bB;rfl;rfl)|(apply b0;rfl;rfl;rfl)|(apply aV;rfl;rfl;rfl;rfl;rfl;(case hl => (simp;done));(exact (rfl:_=[_, _]))))|(apply aL;first|apply aH|apply aB|(apply aN;rfl;all_goals intro hc;have hq:=hc;(try simp only [cH] at hq);try exfalso;omega)|apply aR)|with_reducible apply aA)
 refine eX ?_
 have h1 := Lu p k (by omega) (by omega)
 have h2 := L1 p k (by omega) (by omega)
 unfold B0 at h1 h2
 cases hR : mW p k with
 | none =>
  rw [hR] at h1 h2
  have v1 := lK ⟨[], []⟩ (by simp [bO]) (by simp)
  repeat' (first|(apply aK;first|((with_reducible apply aI (k := 22));(case ha => rfl);(case h => exact h1);(case hp => (exact Pur.pf));(case hN => rfl))|((with_reducible apply aI (k := 23));(case ha => rfl);(case h => exact h2);(case hp => (exact Pur.pf));(case hN => rfl))|((with_reducible apply aI (k := 14));(case ha => rfl);(case h => exact v1);(case hp => (rfl));(case hN => rfl))|(apply aE;rfl;rfl)|(apply aU;rfl;rfl;(exact (rfl:_=[_, _]));rfl;rfl;rfl)|(first|(apply aY;rfl;rfl;rfl;(rfl))|(apply a6;rfl;rfl;rfl;(rfl)))|(apply lM;rfl;rfl;rfl;rfl)|(apply aC;rfl;rfl)|(first|(apply bK;rfl;(rfl);rfl;rfl)|(apply bC;rfl;(rfl);rfl;rfl))|(apply aF;kernel_rfl)|(apply cF;rfl;rfl)|(apply bB;rfl;rfl)|(apply b0;rfl;rfl;rfl)|(apply aV;rfl;rfl;rfl;rfl;rfl;(decide);(exact (rfl:_=[_, _]))))|(apply aL;first|apply aH|apply aB|(apply bU;rfl;(rfl))|apply aP)|with_reducible apply aA|with_reducible apply bH)
  all_goals first
   | exact aO rfl ⟨rfl, rfl⟩
   | (exfalso;exact (by assumption : ¬ True) trivial)
 | some Q =>
  obtain ⟨hv, hT, hvQ, law⟩ := Ke p k Q hR
  rw [hR] at h1 h2
  dsimp only [Option.getD, Option.isSome] at h1 h2
  obtain ⟨t, body⟩ := Q
  dsimp only at hT
  subst hT
  have hcQ := (eY hvQ).2.2
  have v1 := lK ⟨p.types, body⟩ (by omega) (by show p.types.length ≤ _; omega)
  have w := WG.of_valid hv
  have w' : WG p.types (bX ⟨p.types, body⟩) := WG.of_valid hvQ
  obtain ⟨f⟩ := Flows.ex w
  obtain ⟨g⟩ := Flows.ex w'
  obtain ⟨_, a1⟩ := DM p hv (by omega) (by omega) f
  obtain ⟨_, a2⟩ := DM ⟨p.types, body⟩ hvQ (by show p.types.length ≤ _; omega) (by omega) g
  have lw := law w f w' g
  clear law
  cases hf : f.iss.isEmpty with
  | false =>
   rw [hf] at a1
   repeat' (first|(apply aK;first|((with_reducible apply aI (k := 22));(case ha => rfl);(case h => exact h1);(case hp => (exact Pur.pf));(case hN => rfl))|((with_reducible apply aI (k := 23));(case ha => rfl);(case h => exact h2);(case hp => (exact Pur.pf));(case hN => rfl))|((with_reducible apply aI (k := 14));(case ha => rfl);(case h => exact v1);(case hp => (exact Pur.pf));(case hN => rfl))|((with_reducible apply aI (k := 19));(case ha => rfl);(case h => exact a1);(case hp => (exact Pur.pf));(case hN => rfl))|(apply aE;rfl;rfl)|(apply aU;rfl;rfl;(exact (rfl:_=[_, _]));rfl;rfl;rfl)|(apply aY;rfl;rfl;rfl;(rfl))|(apply lM;rfl;rfl;rfl;rfl)|(apply aC;rfl;rfl)|(first|(apply bK;rfl;(rfl);rfl;rfl)|(apply bC;rfl;(rfl);rfl;rfl))|(apply aF;kernel_rfl)|(apply cF;rfl;rfl)|(apply bB;rfl;rfl)|(apply b0;rfl;rfl;rfl)|(apply aV;rfl;rfl;rfl;rfl;rfl;(case hl => (simp;done));(exact (rfl:_=[_, _]))))|(apply aL;first|apply aH|apply aB|(apply bU;rfl;(rfl))|apply aP)|with_reducible apply aA|with_reducible apply bH)
   all_goals first
    | exact aO rfl ⟨rfl, rfl⟩
    | (exfalso;exact (by assumption : ¬ True) trivial)
  | true =>
   obtain ⟨hg, run⟩ := lw (List.isEmpty_iff.1 hf)
   rw [hf] at a1
   rw [hg] at a2
   clear lw
   repeat' (first|(apply aK;first|((with_reducible apply aI (k := 22));(case ha => rfl);(case h => exact h1);(case hp => (exact Pur.pf));(case hN => rfl))|((with_reducible apply aI (k := 23));(case ha => rfl);(case h => exact h2);(case hp => (exact Pur.pf));(case hN => rfl))|((with_reducible apply aI (k := 14));(case ha => rfl);(case h => exact v1);(case hp => (exact Pur.pf));(case hN => rfl))|((with_reducible apply aI (k := 19));(case ha => rfl);(case h => exact a1);(case hp => (exact Pur.pf));(case hN => rfl))|((with_reducible apply fN (k := 16));(case ha => rfl);(case h => exact xR ms hm);(case hp => (exact Pur.pf));(case hN => rfl);(rintro _ ⟨q', cs, n', rfl, hr1, hr2, hr3, hr4, hr5⟩ _))|(with_reducible apply dE (d := 77))|(apply aE;rfl;rfl)|(apply aU;rfl;rfl;(exact (rfl:_=[_, _]));rfl;rfl;rfl)|(apply aY;rfl;rfl;rfl;(rfl))|(apply lM;rfl;rfl;rfl;rfl)|(apply aC;rfl;rfl)|(apply bC;rfl;(rfl);rfl;rfl)|(apply aF;kernel_rfl)|(apply cF;rfl;rfl)|(apply bB;rfl;rfl)|(apply b0;rfl;rfl;rfl)|(apply aV;rfl;rfl;rfl;rfl;rfl;(case hl => (simp;done));(exact (rfl:_=[_, _]))))|(apply aL;first|apply aH|apply aB|(apply cG;rfl;(rfl))|apply aR)|with_reducible apply aA)
   refine eX ?_
   obtain ⟨he, hsl⟩ := run cs
   clear run
   have n1 := DN p hv (by omega) (by omega) cs (by omega) 80 (by decide)
   have n2 := DN ⟨p.types, body⟩ hvQ (by show p.types.length ≤ _; omega) (by omega) cs (by omega) 80 (by decide)
   change PC _ _ _ (fun r => r = .tup [sl e5 (dI p.types (bX ⟨p.types, body⟩) cs 80).1.slots, iv (dI p.types (bX ⟨p.types, body⟩) cs 80).2.1]) at n2
   rw [← he] at n2
   have l1 : (dI p.types (bX p) cs 80).1.slots.length = p.types.length := nG _ _ _ _
   have l2 : (dI p.types (bX ⟨p.types, body⟩) cs 80).1.slots.length = p.types.length := nG _ _ _ _
   generalize (dI p.types (bX p) cs 80).2.1 = en at *
   generalize (dI p.types (bX p) cs 80).1.slots = s1 at *
   generalize (dI p.types (bX ⟨p.types, body⟩) cs 80).1.slots = s2 at *
   repeat' (first|(apply aK;first|((with_reducible apply aI (k := 24));(case ha => rfl);(case h => exact n1);(case hp => (exact Pur.pf));(case hN => rfl))|((with_reducible apply aI (k := 24));(case ha => rfl);(case h => exact n2);(case hp => (exact Pur.pf));(case hN => rfl))|(apply aE;rfl;rfl)|(apply aU;rfl;rfl;(exact (rfl:_=[_, _]));rfl;rfl;rfl)|(apply aC;rfl;rfl)|(apply aF;kernel_rfl)|(apply b0;rfl;rfl;rfl))|(apply aL;first|apply aH|apply aB|apply aM)|with_reducible apply aA)
   refine bF (σ := Nat) [5, 7, 14, 15, 16, 17] [(5, _), (7, _), (14, _), (15, _), (16, _), (17, _)] [0, 1] [(0, some _), (1, some _)] (fun v => [(18, iv (v : Int))]) (fun v => []) (fun v => v ≤ p.types.length) (fun v => p.types.length - v) (0) (Nat.zero_le _) rfl rfl (by repeat' (first|exact trivial|refine And.intro rfl ?_)) (by repeat' (exact trivial)) ?_
   intro v hvl
   by_cases hvn : v < p.types.length
   ·by_cases h0 : en = 0
    ·by_cases ht : p.types[v]! = 1
     ·have e := hsl h0 v hvn ht
      repeat' (first|(apply aK;first|((apply Dy [.bool s1[v]!.set, .int .i64 s1[v]!.num, .int .i64 s1[v]!.ptr.cell, .int .i64 s1[v]!.ptr.tag]);(case hx => rfl);(case hy => (rw [e] <;> rfl));(case hc => rfl);(case hS => exact ⟨_, _, _, _, rfl⟩);(case hN => rfl))|(apply aE;rfl;rfl)|(first|(apply aJ;rfl;rfl;rfl;rfl)|(apply aU;rfl;rfl;(exact (rfl:_=[_, _, _, _]));rfl;rfl;rfl))|(apply aD;rfl;rfl;rfl)|(first|(apply aY;rfl;rfl;rfl;(assumption))|(apply bE;(case hj|hb|hN => rfl);all_goals (intro hg;have hq := hg;(try simp only [cH] at hq);(try (exfalso;omega)))))|(first|(apply bR;rfl;rfl;omega;rfl)|(apply aS;rfl;rfl;rfl;rfl))|(apply aC;rfl;rfl)|(apply bK;rfl;(assumption);rfl;rfl)|(apply a7;(case hx|hi => rfl);(case hm => (first|assumption|omega));(case hml => (rfl));(case hα | hf|hg => infer_instance);(case hN => rfl))|(apply a8;rfl;rfl;rfl)|(apply aF;kernel_rfl))|(apply aL;first|apply aH|apply aB|(apply bZ;kernel_rfl)|(apply cG;rfl;(rfl))|(apply aN;rfl;all_goals intro hc;have hq:=hc;(try simp only [cH] at hq);try exfalso;omega)|apply aM|apply aR)|with_reducible apply aA|with_reducible apply aW)
      all_goals first
       | (exfalso;omega)
       | ((apply dV (v + 1); focus (refine Le.ren [(0, 0), (1, 1)] rfl (by decide) ?_ ?_ <;> repeat' (first | exact trivial | refine And.intro ⟨_, rfl, ?_⟩ ?_ | refine And.intro ⟨_, _, rfl, rfl, ?_⟩ ?_ | exact Or.inr rfl | refine Or.inl ⟨?_, (by first | rfl | exact aZ _ _ | exact Pur.pf)⟩ | rfl)))
          ·exact hvn
          ·omega)
     ·repeat' (first | (apply aK; first | (apply aE;rfl;rfl) | (apply aJ;rfl;rfl;rfl;rfl) | (apply aD;rfl;rfl;rfl) | (first | (apply aY;rfl;rfl;rfl;(assumption)) | (apply a6;rfl;rfl;rfl;(assumption)) | (apply bE; (case hj | hb | hN => rfl); all_goals (intro hg; have hq := hg; (try simp only [cH] at hq); (try (exfalso; omega))))) | (first | (apply bR;rfl;rfl;omega;rfl) | (apply aS;rfl;rfl;rfl;rfl)) | (apply aC;rfl;rfl) | (first | (apply bK;rfl;(assumption);rfl;rfl) | (apply bC;rfl;(assumption);rfl;rfl)) | (apply a7; (case hx | hi => rfl); (case hm => (assumption)); (case hml => (rfl)); (case hα | hf | hg => infer_instance); (case hN => rfl)) | (apply a8;rfl;rfl;rfl) | (apply aF;kernel_rfl)) | (apply aL; first | apply aH | apply aB | (apply bZ;kernel_rfl) | (apply cG;rfl;(rfl)) | (apply aN;rfl;all_goals intro hc;have hq:=hc;(try simp only [cH] at hq);try exfalso;omega) | apply aM | apply aR) | with_reducible apply aA | with_reducible apply aW)
      all_goals first
       | (exfalso;omega)
       | ((apply dV (v + 1); focus (refine Le.ren [(0, 0), (1, 1)] rfl (by decide) ?_ ?_ <;> repeat' (first | exact trivial | refine And.intro ⟨_, rfl, ?_⟩ ?_ | refine And.intro ⟨_, _, rfl, rfl, ?_⟩ ?_ | exact Or.inr rfl | refine Or.inl ⟨?_, (by first | rfl | exact aZ _ _ | exact Pur.pf)⟩ | rfl)))
          ·exact hvn
          ·omega)
    ·repeat' (first | (apply aK; first | ((with_reducible apply aI (k := 19)); (case ha => rfl); (case h => exact a2); (case hp => (exact Pur.pf)); (case hN => rfl)) | (apply aE;rfl;rfl) | (first | (apply aJ;rfl;rfl;rfl;rfl) | (apply aU;rfl;rfl;(exact (rfl:_=[_, _]));rfl;rfl;rfl)) | (apply aD;rfl;rfl;rfl) | (first | (apply aY;rfl;rfl;rfl;(first | rfl | assumption)) | (apply bE; (case hj | hb | hN => rfl); all_goals (intro hg; have hq := hg; (try simp only [cH] at hq); (try (exfalso; omega))))) | (apply aS;rfl;rfl;rfl;rfl) | (apply aC;rfl;rfl) | (apply bK;rfl;(first | rfl | assumption);rfl;rfl) | (apply a8;rfl;rfl;rfl) | (apply aF;kernel_rfl)) | (apply aL; first | apply aH | apply aB | (apply aN;rfl;all_goals intro hc;have hq:=hc;(try simp only [cH] at hq);try exfalso;omega) | apply bI | apply aP) | with_reducible apply aA | with_reducible apply bJ | with_reducible apply bG)
     all_goals first
      | (exfalso;omega)
      | (refine aO rfl ⟨?_, rfl⟩
         simp only [b8, decide_true])
   ·repeat' (first | (apply aK; first | ((with_reducible apply aI (k := 19)); (case ha => rfl); (case h => exact a2); (case hp => (exact Pur.pf)); (case hN => rfl)) | (apply aE;rfl;rfl) | (first | (apply aJ;rfl;rfl;rfl;rfl) | (apply aU;rfl;rfl;(exact (rfl:_=[_, _]));rfl;rfl;rfl)) | (apply aD;rfl;rfl;rfl) | (first | (apply aY;rfl;rfl;rfl;(rfl)) | (apply a6;rfl;rfl;rfl;(assumption)) | (apply bE; (case hj | hb | hN => rfl); all_goals (intro hg; have hq := hg; (try simp only [cH] at hq); (try (exfalso; omega))))) | (apply aS;rfl;rfl;rfl;rfl) | (apply aC;rfl;rfl) | (first | (apply bK;rfl;(rfl);rfl;rfl) | (apply bC;rfl;(assumption);rfl;rfl)) | (apply a8;rfl;rfl;rfl) | (apply aF;kernel_rfl)) | (apply aL; first | apply aH | apply aB | (apply cG;rfl;(rfl)) | apply bI | apply aP) | with_reducible apply aA | with_reducible apply bJ | with_reducible apply bG)
    all_goals first
     | (exfalso;omega)
     | (refine aO rfl ⟨?_, rfl⟩
        simp only [b8, decide_true])
theorem Gi (p:Prg) (k:Int) (hs:bO p.body ≤ 1000000):PC Tryz.prog 64 [dH p,iv k] (fun r => r = bv (decide (0 ≤ k ∧ k < p.body.length))) := by
 have hlen := dG p.body
 (refine aT Tryz.func64 rfl (by simp [Tryz.ntmps64]) ?_; rw [Tryz.ntmps64])
 repeat' (first|(apply aK;first|(apply aE;rfl;rfl)|(apply aJ;rfl;rfl;rfl;rfl)|(apply aD;rfl;rfl;rfl)|(apply e6;rfl;rfl;omega;rfl)|(apply aC;rfl;rfl)|((with_reducible apply aI (k := 50));(case ha => rfl);(case h => (apply eA <;> (fail)));(case hp => (rfl));(case hN => rfl))|(apply a8;rfl;rfl;rfl)|(apply aF;kernel_rfl)|(apply bT;rfl;rfl;rfl;rfl))|(apply aL;first|apply aH|apply aB|apply aP)|with_reducible apply aA)
 refine aO rfl ⟨?_, rfl⟩
 simp only [b8]
 congr 1
 rw [← Bool.decide_and, decide_eq_decide]
 omega
theorem Ix (q:Prg) (k:Nat) (hv:cP q = true) (hk:k < q.body.length) (hs:bO q.body ≤ 1000000) (ht:q.types.length ≤ 1000000):PC Tryz.prog 87 [dH q,iv (k:Int)] (fun r => r = .tup [dH (jV q k),bv true]) := by
 have hlen := dG q.body
 have hval := mD q ht (by omega)
 rw [hv] at hval
 (refine aT Tryz.func87 rfl (by simp [Tryz.ntmps87]) ?_; rw [Tryz.ntmps87])
 repeat' (first|(apply aK;first|((with_reducible apply aI (k := 57));(case ha => rfl);(case h => exact hval);(case hp => (exact Pur.pf));(case hN => rfl))|((apply gB (d := 27) (l := 0) (h := k));(case hx|hn|hl => rfl);(case hh => exact gP rfl rfl);(case hp => exact if_pos (by omega));(case hN => rfl))|((apply gB (d := 32) (l := k + 1) (h := q.body.length));(case hx|hn => rfl);(case hl => exact gP rfl (by omega));(case hh => rfl);(case hp => exact if_pos (by omega));(case hN => rfl))|((apply cJ (d := 33));(case hx|hy|hze|he0|hH => rfl);(case hl => (rw [aQ aX (e := 6)]; omega));(case hs' => exact sJ rfl rfl);(case hbig => omega);(case hmx => omega);(case hcs => exact C8 (k := k) (by omega));(case hM|hN => rfl))|(apply aE;rfl;rfl)|(first|(apply aJ;rfl;rfl;rfl;rfl)|(apply aU;rfl;rfl;(exact (rfl:_=[_, _]));rfl;rfl;rfl))|(apply aD;rfl;rfl;rfl)|(apply aY;rfl;rfl;rfl;(rfl))|(first|(apply bR;rfl;rfl;omega;rfl)|(apply aS;rfl;rfl;rfl;rfl))|(apply aC;rfl;rfl)|(apply bC;rfl;(rfl);rfl;rfl)|(apply nJ;rfl;(apply pA <;> (assumption));rfl;rfl)|(apply a8;rfl;rfl;rfl)|(apply aF;kernel_rfl)|(apply cF;rfl;rfl)|(apply bT;rfl;rfl;rfl;rfl)|(apply bB;rfl;rfl)|(apply aV;rfl;rfl;rfl;rfl;rfl;(case hl => (simp;done));(exact (rfl:_=[_, _]))))|(apply aL;first|apply aH|apply aB|(apply bZ;kernel_rfl)|(apply aN;rfl;all_goals intro hc;have hq:=hc;(try simp only [cH] at hq);try exfalso;omega)|apply aR|apply aP)|with_reducible apply aA)
 refine cE (Le.frzC (j := 1) (i := 5) [] rfl rfl (by decide)) ?_
 refine cE (Le.frzC (j := 1) (i := 8) [.imm _ _] rfl rfl (by decide)) ?_
 have e : AV.agg [sl cI q.types, .imm (k - 0 + (q.body.length - (k + 1))) (flat aX (gL k q.body))] = dH (jV q k) := by
  have := m5 hk
  unfold jV
  dsimp only [dH]
  unfold sl
  rw [show (gL k q.body).length = k - 0 + (q.body.length - (k + 1)) by omega]
 rw [← e]
 exact aO (l := [AV.agg [sl cI q.types, .imm (k - 0 + (q.body.length - (k + 1))) (flat aX (gL k q.body))], bv true]) rfl ⟨rfl, by rw [e]; exact Pur.pf⟩
theorem zO (p:Prg) (i:Int) (f:Flows p.types (bX p)) (hl:p.types.length ≤ 1000000) (hs:bO p.body ≤ 1000000) (h:Mk p i):PC Tryz.prog 85 [dH p,iv i] (fun r => r = sl cI (cQ f.Al[i.toNat]!)) := by
 have hg := EO p i hl hs h
 have w := WG.of_valid h.1
 have hpl := w.pl
 have htl := w.tl
 have hi := h.2
 have hin : i.toNat < (bX p).length := by omega
 have b := f.bnd w
 have hbL := b.bL i.toNat
 haveI hsm : Sm f.Al[i.toNat]! := jC (by omega) hbL
 have hafc := yP p.types p.body (bX p) _ f.An i w b.ln.symm b.ln b.sN hi
 rw [b.af _ hin] at hafc
 (refine aT Tryz.func85 rfl (by simp [Tryz.ntmps85]) ?_; rw [Tryz.ntmps85])
 repeat' (first|(apply aK;first|((with_reducible apply aI (k := 78));(case ha => rfl);(case h => exact hg);(case hp => (exact Pur.pf));(case hN => rfl))|((with_reducible apply aI (k := 135));(case ha => rfl);(case h => exact Ae p.types p.body (bX p) f.An w f.gn);(case hp => (exact Pur.pf));(case hN => rfl))|((with_reducible apply aI (k := 134));(case ha => rfl);(case h => exact hafc);(case hp => (exact Pur.pf));(case hN => rfl))|(apply aE;rfl;rfl)|(apply aU;rfl;rfl;(exact (rfl:_=[_, _]));rfl;rfl;rfl)|(apply aC;rfl;rfl)|((with_reducible apply aI (k := 100));(case ha => rfl);(case h => (apply g6 <;> (assumption)));(case hp => (rfl));(case hN => rfl))|(apply aF;kernel_rfl)|(apply cF;rfl;rfl)|(apply bT;rfl;rfl;rfl;rfl)|(apply b0;rfl;rfl;rfl)|((apply bS (t := _));(case hze|hsm|hl => rfl);(case hfl => exact (rfl:_=some [_]));(case hM|hN => rfl)))|(apply aL;first|apply aH|apply aB|(apply cG;rfl;(rfl))|apply aR|apply aP)|with_reducible apply aA)
 refine aO rfl ⟨rfl, (by (exact aZ _ _))⟩
theorem Ck (q:Prg) (k:Nat) (hk:k ≤ q.body.length) (hs:bO q.body ≤ 1000000):PC Tryz.prog 58 [dH q,iv (k:Int)] (fun r => r = iv (dK (q.body.take k):Int)) := by
 have hlen := dG q.body
 have hc : bO (List.take ((k : Int).toNat - 0) (List.drop 0 q.body)) ≤ bO q.body := by
  have h := fI (q.body.take k) (q.body.drop k)
  rw [List.take_append_drop] at h
  rw [List.drop_zero, Nat.sub_zero, Int.toNat_natCast]; omega
 have hn := j3 (List.take ((k : Int).toNat - 0) (List.drop 0 q.body))
 (refine aT Tryz.func58 rfl (by simp [Tryz.ntmps58]) ?_; rw [Tryz.ntmps58])
 repeat' (first|(apply aK;first|(apply aE;rfl;rfl)|(apply aJ;rfl;rfl;rfl;rfl)|(apply aD;rfl;rfl;rfl)|(apply aC;rfl;rfl)|(apply vL;rfl;rfl;(exact w7 rfl);(apply DB <;> (first|omega|(simp only [gN] <;> omega)));rfl;rfl)|(apply a8;rfl;rfl;rfl)|(apply aF;kernel_rfl)|(apply nK;rfl;infer_instance;rfl;rfl;(omega);rfl)|(apply bT;rfl;rfl;rfl;rfl)|(apply cD;rfl;rfl;rfl;(rfl);rfl;rfl))|(apply aL;first|apply aH|apply aB|apply aP)|with_reducible apply aA)
 refine aO rfl ⟨?_, rfl⟩
 simp only [b8, List.drop_zero, Nat.sub_zero, Int.toNat_natCast, Nat.zero_add]
def tI (p : Prg) (f : Flows p.types (bX p)) (k : Nat) : Prop := k < p.body.length ∧ (p.body[k]!.op = 1 ∨ p.body[k]!.op = 6 ∨ p.body[k]!.op = 4 ∨ p.body[k]!.op = 5 ∨ (p.body[k]!.op = 3 ∧ (p.types[p.body[k]!.x.toNat]! = 1 ∨ p.types[p.body[k]!.x.toNat]! = 3))) ∧
 (f.Al[dK (p.body.take k)]!).testBit p.body[k]!.x.toNat = false
instance (p : Prg) (f : Flows p.types (bX p)) (k : Nat) : Decidable (tI p f k) := by unfold tI; infer_instance
def jU (p : Prg) (f : Flows p.types (bX p)) (k : Int) : Option Prg := if 0 ≤ k ∧ tI p f k.toNat then some (jV p k.toNat) else none
theorem FH {ts:List Int}(ht:cZ ts = true){d:Nat}{s:AL.Stmt}(h:oQ ts d s = true):0 ≤ s.x := by
 obtain ⟨u1, u2, u3, _, _, u6⟩ := sD ht h
 by_cases q : s.op ≤ 8
 ·exact (u3 q).1
 ·rw [(u6 (by omega)).1]; decide
theorem HD (A:Nat) (x:Int) (h0:0 ≤ x) (hA:A < 2 ^ 62):PC Tryz.prog 52 [sl cI (cQ A),iv x] (fun r => r = bv (A.testBit x.toNat)) := by
 have h := tP (cQ A) x (by unfold cQ;rw [List.length_map]; exact Nat.le_trans (List.length_filter_le _ _) (by rw [List.length_range]; decide))
 have e : decide (x ∈ cQ A) = A.testBit x.toNat := by
  rw [Bool.eq_iff_iff, decide_eq_true_eq, dQ]
  constructor
  ·rintro ⟨v, _, h2, rfl⟩
   rw [Int.toNat_natCast]; exact h2
  ·intro h1
   refine ⟨x.toNat, ?_, h1, by omega⟩
   apply Classical.byContradiction;intro q
   have := Nat.testBit_lt_two_pow (Nat.lt_of_lt_of_le hA (Nat.pow_le_pow_right (by decide) (show 62 ≤ x.toNat by omega)))
   rw [h1] at this;cases this
 rw [e] at h;exact h
theorem tA {p:Prg}{f:Flows p.types (bX p)}{k:Nat}(h:(p.body[k]!.op = 1 ∨ p.body[k]!.op = 6 ∨ p.body[k]!.op = 4 ∨ p.body[k]!.op = 5 ∨ (p.body[k]!.op = 3 ∧ (p.types[p.body[k]!.x.toNat]! = 1 ∨ p.types[p.body[k]!.x.toNat]! = 3))) → (f.Al[dK (p.body.take k)]!).testBit p.body[k]!.x.toNat = false → False):jU p f (k:Int) = none := by
 unfold jU tI
 rw [if_neg]
 rintro ⟨_, _, h2, h3⟩
 rw [Int.toNat_natCast] at h2 h3
 exact h h2 h3
theorem z9 {p:Prg}{f:Flows p.types (bX p)}{k:Nat}(hk:k < p.body.length) (h2:p.body[k]!.op = 1 ∨ p.body[k]!.op = 6 ∨ p.body[k]!.op = 4 ∨ p.body[k]!.op = 5 ∨ (p.body[k]!.op = 3 ∧ (p.types[p.body[k]!.x.toNat]! = 1 ∨ p.types[p.body[k]!.x.toNat]! = 3))) (h3:(f.Al[dK (p.body.take k)]!).testBit p.body[k]!.x.toNat = false):jU p f (k:Int) = some (jV p k) := by
 unfold jU tI
 rw [if_pos, Int.toNat_natCast]
 rw [Int.toNat_natCast]
 exact ⟨by omega, hk, h2, h3⟩
theorem Gr (p:Prg) (k:Int) (hv:cP p = false) (hl:p.types.length ≤ 1000000) (hs:bO p.body ≤ 1000000):PC Tryz.prog 36 [dH p,iv k] (fun r => r = B0 none) := by
 have hval := k6 p hl (by omega)
 rw [hv] at hval
 (refine aT Tryz.func36 rfl (by simp [Tryz.ntmps36]) ?_; rw [Tryz.ntmps36])
 repeat' (first|(apply aK;first|((with_reducible apply aI (k := 49));(case ha => rfl);(case h => exact hval);(case hp => (exact Pur.pf));(case hN => rfl))|(apply aE;rfl;rfl)|(apply aU;rfl;rfl;(exact (rfl:_=[_, _]));rfl;rfl;rfl)|(apply a6;rfl;rfl;rfl;(rfl))|(apply aC;rfl;rfl)|(apply bK;rfl;(rfl);rfl;rfl)|(apply aF;kernel_rfl)|(apply bW;rfl;(exact (rfl:_=some [_, _]));(exact (rfl:_=[_, _]));rfl)|(apply cF;rfl;rfl)|(apply bT;rfl;rfl;rfl;rfl)|(apply bB;rfl;rfl)|(apply aV;rfl;rfl;rfl;rfl;rfl;(decide);(exact (rfl:_=[_, _]))))|(apply aL;first|apply aH|apply aB|(apply bU;rfl;(rfl))|apply aP)|with_reducible apply aA|with_reducible apply bH)
 exact lX (r := none) rfl rfl
theorem IF (p:Prg) (k:Int) (hv:cP p = true) (f:Flows p.types (bX p)):PC Tryz.prog 36 [dH p,iv k] (fun r => r = B0 (jU p f k)) := by
 obtain ⟨t1, t2, t3⟩ := eY hv
 have htl := fV t1
 have hlen := dG p.body
 have hval := k6 p (by omega) (by omega)
 rw [hv] at hval
 have hst := Gi p k (by omega)
 by_cases h : 0 ≤ k ∧ k < p.body.length
 ·rw [decide_eq_true h] at hst
  obtain ⟨k, rfl⟩ : ∃ j : Nat, k = j := ⟨k.toNat, by omega⟩
  have hkl : k < p.body.length := by omega
  obtain ⟨u1, u2, u3, u4, _, _⟩ := sD t1 (mT hv hkl)
  have hfp := yI p k (by omega) (by omega)
  have hnp := uZ p.body k hkl
  have hpl := kT p
  have hla := zO p (dK (p.body.take k) : Int) f (by omega) (by omega) ⟨hv, by omega, by have := pV p.body[k]!; omega⟩
  rw [Int.toNat_natCast] at hla
  have hAl := (f.bnd (WG.of_valid hv)).bL (dK (p.body.take k))
  have hx0 := FH t1 (mT hv hkl)
  have hct := HD f.Al[dK (p.body.take k)]! p.body[k]!.x hx0 (Nat.lt_of_lt_of_le hAl (Nat.pow_le_pow_right (by decide) (by omega)))
  have hdr := Ez p k hkl (by omega) (by omega)
  (refine aT Tryz.func36 rfl (by simp [Tryz.ntmps36]) ?_; rw [Tryz.ntmps36])
  repeat' (first|(apply aK;first|((with_reducible apply aI (k := 49));(case ha => rfl);(case h => exact hval);(case hp => (exact Pur.pf));(case hN => rfl))|((with_reducible apply aI (k := 64));(case ha => rfl);(case h => exact hst);(case hp => (exact Pur.pf));(case hN => rfl))|((with_reducible apply aI (k := 54));(case ha => rfl);(case h => exact hfp);(case hp => (exact Pur.pf));(case hN => rfl))|((with_reducible apply aI (k := 85));(case ha => rfl);(case h => exact hla);(case hp => (exact Pur.pf));(case hN => rfl))|((with_reducible apply aI (k := 52));(case ha => rfl);(case h => exact hct);(case hp => (exact Pur.pf));(case hN => rfl))|((with_reducible apply aI (k := 65));(case ha => rfl);(case h => exact hdr);(case hp => (exact Pur.pf));(case hN => rfl))|(apply aE;rfl;rfl)|(first|(apply aJ;rfl;rfl;rfl;rfl)|(apply aU;rfl;rfl;(first|exact (rfl:_=[_, _])|exact (rfl:_=[_, _, _, _, _, _]));rfl;rfl;rfl))|(apply aD;rfl;rfl;rfl)|(first|(apply aY;rfl;rfl;rfl;(first|rfl|assumption))|(apply a6;rfl;rfl;rfl;(assumption))|(apply bE;(case hj|hb|hN => rfl);all_goals (intro hg;have hq := hg;(try simp only [cH] at hq);(try (exfalso;omega)))))|(apply aS;rfl;rfl;rfl;rfl)|(apply aC;rfl;rfl)|(first|(apply bK;rfl;(assumption);rfl;rfl)|(apply bC;rfl;(first|rfl|assumption);rfl;rfl))|(first|(apply a7;(case hx|hi => rfl);(case hm => (assumption));(case hml => (rfl));(case hα | hf|hg => infer_instance);(case hN => rfl))|(apply cO;(case hx|hi => rfl);(case hm => (omega));(case hml => (rfl));(case hα | hf|hg => infer_instance);(case hN => rfl)))|(apply aF;kernel_rfl)|(apply bW;rfl;(exact (rfl:_=some [_, _]));(exact (rfl:_=[_, _]));rfl)|(apply cF;rfl;rfl)|(apply bT;rfl;rfl;rfl;rfl)|(apply bB;rfl;rfl)|(apply aV;rfl;rfl;rfl;rfl;rfl;(case hl => (first|decide|(simp;done)));(first|exact (rfl:_=[_, _])|exact (rfl:_=[_, _, _, _, _, _]))))|(apply aL;first|apply aH|apply aB|(apply bZ;kernel_rfl)|(apply bU;rfl;(assumption))|(apply cG;rfl;(rfl))|(apply aN;rfl;all_goals intro hc;have hq:=hc;(try simp only [cH] at hq);try exfalso;omega)|apply aM|apply aR|apply aP)|with_reducible apply aA|with_reducible apply bH|with_reducible apply aW|with_reducible apply cX)
  all_goals first
   | (rw [tA fun h2 h3 => by omega]; exact lX (r := none) rfl rfl)
   | (rw [tA fun h2 h3 => by rw [h3] at hq;exact absurd hq (by simp)]; exact lX (r := none) rfl rfl)
   | (rw [z9 hkl (by omega) hq]; exact lX (l := [dH (jV p k), bv true]) rfl rfl)
 ·rw [decide_eq_false h] at hst
  have : jU p f k = none := by unfold jU;rw [if_neg]; rintro ⟨h1, h2⟩; unfold tI at h2;exact h ⟨h1, by omega⟩
  rw [this]
  (refine aT Tryz.func36 rfl (by simp [Tryz.ntmps36]) ?_; rw [Tryz.ntmps36])
  repeat' (first|(apply aK;first|((with_reducible apply aI (k := 49));(case ha => rfl);(case h => exact hval);(case hp => (exact Pur.pf));(case hN => rfl))|((with_reducible apply aI (k := 64));(case ha => rfl);(case h => exact hst);(case hp => (exact Pur.pf));(case hN => rfl))|(apply aE;rfl;rfl)|(apply aU;rfl;rfl;(exact (rfl:_=[_, _]));rfl;rfl;rfl)|(apply aY;rfl;rfl;rfl;(rfl))|(apply aC;rfl;rfl)|(apply bC;rfl;(rfl);rfl;rfl)|(apply aF;kernel_rfl)|(apply bW;rfl;(exact (rfl:_=some [_, _]));(exact (rfl:_=[_, _]));rfl)|(apply cF;rfl;rfl)|(apply bT;rfl;rfl;rfl;rfl)|(apply bB;rfl;rfl)|(apply aV;rfl;rfl;rfl;rfl;rfl;(decide);(exact (rfl:_=[_, _]))))|(apply aL;first|apply aH|apply aB|(apply bU;rfl;(rfl))|apply aP)|with_reducible apply aA|with_reducible apply bH)
  exact lX (r := none) rfl rfl
theorem GH {p:Prg}{k:Nat}(hm:p.body[k]!.op = 3 → p.types[p.body[k]!.y.toNat]! = p.types[p.body[k]!.x.toNat]!):(p.body[k]!.op = 3 ∧ (p.types[p.body[k]!.y.toNat]! = 1 ∨ p.types[p.body[k]!.y.toNat]! = 3)) ↔ (p.body[k]!.op = 3 ∧ (p.types[p.body[k]!.x.toNat]! = 1 ∨ p.types[p.body[k]!.x.toNat]! = 3)) := by
 by_cases q : p.body[k]!.op = 3
 ·rw [hm q]
 ·exact ⟨fun h => absurd h.1 q, fun h => absurd h.1 q⟩
theorem F4 {p:Prg}{f:Flows p.types (bX p)}{k:Nat}(hm:p.body[k]!.op = 3 → p.types[p.body[k]!.y.toNat]! = p.types[p.body[k]!.x.toNat]!) (h:(p.body[k]!.op = 1 ∨ p.body[k]!.op = 6 ∨ p.body[k]!.op = 4 ∨ p.body[k]!.op = 5 ∨ (p.body[k]!.op = 3 ∧ (p.types[p.body[k]!.y.toNat]! = 1 ∨ p.types[p.body[k]!.y.toNat]! = 3))) → (f.Al[dK (p.body.take k)]!).testBit p.body[k]!.x.toNat = false → False):jU p f (k:Int) = none :=
 tA fun h2 h3 => h (by rw [GH hm]; exact h2) h3
theorem EV {p:Prg}{f:Flows p.types (bX p)}{k:Nat}(hm:p.body[k]!.op = 3 → p.types[p.body[k]!.y.toNat]! = p.types[p.body[k]!.x.toNat]!) (hk:k < p.body.length) (h2:p.body[k]!.op = 1 ∨ p.body[k]!.op = 6 ∨ p.body[k]!.op = 4 ∨ p.body[k]!.op = 5 ∨ (p.body[k]!.op = 3 ∧ (p.types[p.body[k]!.y.toNat]! = 1 ∨ p.types[p.body[k]!.y.toNat]! = 3))) (h3:(f.Al[dK (p.body.take k)]!).testBit p.body[k]!.x.toNat = false):jU p f (k:Int) = some (jV p k) :=
 z9 hk (by rw [GH hm] at h2;exact h2) h3
theorem GN (p:Prg) (k:Int) (hv:cP p = false) (hl:p.types.length ≤ 1000000) (hs:bO p.body ≤ 1000000):PC Tryz.prog 37 [dH p,iv k] (fun r => r = B0 none) := by
 have hval := mD p hl (by omega)
 rw [hv] at hval
 (refine aT Tryz.func37 rfl (by simp [Tryz.ntmps37]) ?_; rw [Tryz.ntmps37])
 repeat' (first|(apply aK;first|((with_reducible apply aI (k := 57));(case ha => rfl);(case h => exact hval);(case hp => (exact Pur.pf));(case hN => rfl))|(apply aE;rfl;rfl)|(apply aU;rfl;rfl;(exact (rfl:_=[_, _]));rfl;rfl;rfl)|(apply a6;rfl;rfl;rfl;(rfl))|(apply aC;rfl;rfl)|(apply bK;rfl;(rfl);rfl;rfl)|(apply aF;kernel_rfl)|(apply bW;rfl;(exact (rfl:_=some [_, _]));(exact (rfl:_=[_, _]));rfl)|(apply cF;rfl;rfl)|(apply bT;rfl;rfl;rfl;rfl)|(apply bB;rfl;rfl)|(apply aV;rfl;rfl;rfl;rfl;rfl;(decide);(exact (rfl:_=[_, _]))))|(apply aL;first|apply aH|apply aB|(apply bU;rfl;(rfl))|apply aP)|with_reducible apply aA|with_reducible apply bH)
 exact lX (r := none) rfl rfl
theorem IS {p:Prg}(hv:cP p = true){k:Nat}(hk:k < p.body.length) (h3:p.body[k]!.op = 3):p.types[p.body[k]!.y.toNat]! = p.types[p.body[k]!.x.toNat]! ∧ 0 ≤ p.body[k]!.y ∧ p.body[k]!.y < p.types.length := by
 obtain ⟨t1, t2, t3⟩ := eY hv
 have s1 := (lC (mT hv hk) ⟨by omega, by omega⟩).1
 have hn : ¬ p.body[k]!.n ≠ 0 := fun q => by
  unfold dS at s1;dsimp only at s1
  rw [if_neg (by omega), if_neg (by omega), if_pos q] at s1;cases s1
 unfold dS at s1
 dsimp only at s1
 rw [if_neg (by omega), if_neg (by omega), if_neg hn, if_pos h3, decide_eq_true_eq] at s1
 obtain ⟨x1, x2, x3⟩ := jT (v := p.body[k]!.x) (by omega) t1
 obtain ⟨y1, y2, y3⟩ := jT (v := p.body[k]!.y) (by omega) t1
 exact ⟨by omega, by omega, by omega⟩
theorem JJ (p:Prg) (k:Int) (hv:cP p = true) (f:Flows p.types (bX p)):PC Tryz.prog 37 [dH p,iv k] (fun r => r = B0 (jU p f k)) := by
 obtain ⟨t1, t2, t3⟩ := eY hv
 have htl := fV t1
 have hlen := dG p.body
 have hval := mD p (by omega) (by omega)
 rw [hv] at hval
 by_cases h : 0 ≤ k ∧ k < p.body.length
 ·obtain ⟨k, rfl⟩ : ∃ j : Nat, k = j := ⟨k.toNat, by omega⟩
  have hkl : k < p.body.length := by omega
  obtain ⟨u1, u2, u3, u4, _, _⟩ := sD t1 (mT hv hkl)
  have hmv := fun h3 => IS hv hkl h3
  have hx0 := FH t1 (mT hv hkl)
  have hfp := Ck p k (by omega) (by omega)
  have hnp := uZ p.body k hkl
  have hpl := kT p
  have hsp := pV p.body[k]!
  have w := WG.of_valid hv
  have hla := FL p f.Al (by omega) w f.gl
  have hdr := Ix p k hv hkl (by omega) (by omega)
  have hrl := qQ p.types.length (bX p).length f.Al
  have hat : dK (p.body.take k) < (bX p).length := by
   by_cases q9 : p.body[k]!.op = 9
   ·rw [if_pos q9] at hsp;omega
   ·rw [if_neg q9] at hsp
    by_cases q10 : p.body[k]!.op = 10
    ·rw [if_pos q10] at hsp;omega
    ·rw [if_neg q10] at hsp;omega
  have hrow : ((uT p.types.length (bX p).length f.Al)[dK (p.body.take k)]!).length = p.types.length := by rw [qZ _ _ _ _ hat]; simp
  clear hsp
  (refine aT Tryz.func37 rfl (by simp [Tryz.ntmps37]) ?_; rw [Tryz.ntmps37])
  repeat' (first|(apply aK;first|((with_reducible apply aI (k := 57));(case ha => rfl);(case h => exact hval);(case hp => (exact Pur.pf));(case hN => rfl))|((with_reducible apply aI (k := 58));(case ha => rfl);(case h => exact hfp);(case hp => (exact Pur.pf));(case hN => rfl))|((with_reducible apply aI (k := 86));(case ha => rfl);(case h => exact hla);(case hp => (exact Pur.pf));(case hN => rfl))|((with_reducible apply aI (k := 87));(case ha => rfl);(case h => exact hdr);(case hp => (exact Pur.pf));(case hN => rfl))|(apply aE;rfl;rfl)|(first|(apply aJ;rfl;rfl;rfl;rfl)|(apply aU;rfl;rfl;(first|exact (rfl:_=[_, _])|exact (rfl:_=[_, _, _, _, _, _]));rfl;rfl;rfl))|(apply aD;rfl;rfl;rfl)|(first|(apply jP;rfl;rfl;rfl)|(apply aY;rfl;rfl;rfl;(first|rfl|assumption))|(apply a6;rfl;rfl;rfl;(first|rfl|assumption))|(apply bE;(case hj|hb|hN => rfl);all_goals (intro hg;have hq := hg;(try simp only [cH] at hq);(try (exfalso;omega)))))|(apply aS;rfl;rfl;rfl;rfl)|(apply aC;rfl;rfl)|(first|(apply bK;rfl;(first|rfl|assumption);rfl;rfl)|(apply bC;rfl;(first|rfl|assumption);rfl;rfl))|(first|(apply a7;(case hx|hi => rfl);(case hm => (first|assumption|omega));(case hml => (rfl));(case hα | hf|hg => infer_instance);(case hN => rfl))|(apply cO;(case hx|hi => rfl);(case hm => (omega));(case hml => (rfl));(case hα | hf|hg => infer_instance);(case hN => rfl)))|(apply a8;rfl;rfl;rfl)|(apply aF;kernel_rfl)|(apply bW;rfl;(exact (rfl:_=some [_, _]));(exact (rfl:_=[_, _]));rfl)|(apply cF;rfl;rfl)|(apply bT;rfl;rfl;rfl;rfl)|(apply bB;rfl;rfl)|(apply b0;rfl;rfl;rfl)|(apply aV;rfl;rfl;rfl;rfl;rfl;(case hl => (first|decide|(simp;done)));(first|exact (rfl:_=[_, _])|exact (rfl:_=[_, _, _, _, _, _]))))|(apply aL;first|apply aH|apply aB|(apply bZ;kernel_rfl)|(apply bU;rfl;(rfl))|(apply aN;rfl;all_goals intro hc;have hq:=hc;(try simp only [cH] at hq);try exfalso;omega)|apply aR|apply aP)|with_reducible apply aA|with_reducible apply bH)
  all_goals try rw [xD _ _ _ _ _ hat (by have := u3 (by omega);omega)] at hq
  all_goals first
   | (rw [F4 (fun h => (hmv h).1) fun h2 h3 => by omega]; exact lX (r := none) rfl rfl)
   | (rw [tA fun h2 h3 => by rw [h3] at hq;exact absurd hq (by simp)]; exact lX (r := none) rfl rfl)
   | (rw [EV (fun h => (hmv h).1) hkl (by omega) hq]; exact lX (l := [dH (jV p k), bv true]) rfl rfl)
 ·have : jU p f k = none := by unfold jU; rw [if_neg]; rintro ⟨h1, h2⟩; unfold tI at h2; exact h ⟨h1, by omega⟩
  rw [this]
  (refine aT Tryz.func37 rfl (by simp [Tryz.ntmps37]) ?_; rw [Tryz.ntmps37])
  repeat' (first|(apply aK;first|((with_reducible apply aI (k := 57));(case ha => rfl);(case h => exact hval);(case hp => (exact Pur.pf));(case hN => rfl))|(apply aE;rfl;rfl)|(first|(apply aJ;rfl;rfl;rfl;rfl)|(apply aU;rfl;rfl;(exact (rfl:_=[_, _]));rfl;rfl;rfl))|(apply aD;rfl;rfl;rfl)|(first|(apply aY;rfl;rfl;rfl;(first|rfl|assumption))|(apply a6;rfl;rfl;rfl;(assumption))|(apply bE;(case hj|hb|hN => rfl);all_goals (intro hg;have hq := hg;(try simp only [cH] at hq);(try (exfalso;omega)))))|(apply aS;rfl;rfl;rfl;rfl)|(apply aC;rfl;rfl)|(first|(apply bK;rfl;(assumption);rfl;rfl)|(apply bC;rfl;(first|rfl|assumption);rfl;rfl))|(apply a8;rfl;rfl;rfl)|(apply aF;kernel_rfl)|(apply bW;rfl;(exact (rfl:_=some [_, _]));(exact (rfl:_=[_, _]));rfl)|(apply cF;rfl;rfl)|(apply bT;rfl;rfl;rfl;rfl)|(apply bB;rfl;rfl)|(apply aV;rfl;rfl;rfl;rfl;rfl;(decide);(exact (rfl:_=[_, _]))))|(apply aL;first|apply aH|apply aB|(apply bU;rfl;(rfl))|(apply aN;rfl;all_goals intro hc;have hq:=hc;(try simp only [cH] at hq);try exfalso;omega)|apply aP)|with_reducible apply aA|with_reducible apply bH)
  all_goals first
   | (exfalso;exact h ⟨by omega, by omega⟩)
   | exact lX (r := none) rfl rfl
theorem H5 (p:Prg) (hv:cP p = true) (f:Flows p.types (bX p)) (k:Int) (Q:Prg) (h:jU p f k = some Q):0 ≤ k ∧ k < p.body.length ∧ Q.types = p.types ∧ cP Q = true ∧ ∀ (w':WG p.types (bX Q)) (g:Flows p.types (bX Q)),f.iss = [] → g.iss = [] ∧
  ∀ (cs : List Int), (dI p.types (bX p) cs 80).2.1 = 0 → (dI p.types (bX Q) cs 80).2.1 = 0 → ∀ v : Nat, v < p.types.length → p.types[v]! = 1 → (v : Int) ≠ p.body[k.toNat]!.x → (dI p.types (bX p) cs 80).1.slots[v]! = (dI p.types (bX Q) cs 80).1.slots[v]! := by
 unfold jU at h
 split at h
 ·rename_i hc
  obtain ⟨hk, h1, h2, h3⟩ := hc
  cases h
  obtain ⟨t1, t2, t3⟩ := eY hv
  have hvQ : cP (jV p k.toNat) = true := AI hv
  have hop : p.body[k.toNat]!.op ≠ 9 ∧ p.body[k.toNat]!.op ≠ 10 := by omega
  obtain ⟨u1, u2, u3, u4, _, _⟩ := sD t1 (mT hv h1)
  have hx := u3 (by omega)
  have w := WG.of_valid hv
  have A := WA.of_valid hv
  have I := Ins.of h1 hop
  obtain ⟨T, hT⟩ := Top.of h1 hop
  have hin : dK (p.body.take k.toNat) < (bX p).length := by have := T.l;omega
  have PA := A.a _ hin
  have e0 : (bX p)[dK (p.body.take k.toNat)]!.op = p.body[k.toNat]!.op := by rw [hT]; rfl
  have e1 : (bX p)[dK (p.body.take k.toNat)]!.x = p.body[k.toNat]!.x := by rw [hT]; rfl
  have D : Dead p.types (bX p) (dK (p.body.take k.toNat)) p.body[k.toNat]!.x.toNat := by
   refine ⟨by rw [fS (by omega), e1]; omega, fun v => ?_, fun hn => ?_, by omega, ?_, by omega⟩
   ·unfold bQ
    rw [e0]
    by_cases c3 : p.body[k.toNat]!.op = 3
    ·have ht := (PA.t3 (by rw [e0]; exact c3)).1
     rw [e1] at ht
     rw [if_pos c3]
     by_cases q : (v : Int) = (bX p)[dK (p.body.take k.toNat)]!.y
     ·rw [if_pos q, if_neg]
      ·decide
      ·rw [q, ← ht]; omega
     ·rw [if_neg q]; decide
    ·rw [if_neg c3]
     by_cases c4 : p.body[k.toNat]!.op = 4 ∨ p.body[k.toNat]!.op = 5 ∨ p.body[k.toNat]!.op = 6
     ·rw [if_pos c4]; split <;> decide
     ·rw [if_neg c4, if_neg (by omega), if_neg (by omega)]; decide
   ·have hb := (f.gl.2 _ hin p.body[k.toNat]!.x.toNat).2 ⟨_, T.edge, hn⟩
    rw [h3] at hb;cases hb
   ·have q1 := PA.t1
    have q3 := PA.t3
    have q4 := PA.t4
    have q5 := PA.t5
    have q6 := PA.t6
    rw [e0, e1] at q1 q3 q4 q5 q6
    rcases h2 with c|c|c|c | ⟨c, c'⟩
    ·have := q1 c;omega
    ·have := (q6 c).1;omega
    ·have := (q4 c).1;omega
    ·have := (q5 c).1;omega
    ·omega
  refine ⟨hk, by omega, rfl, hvQ, fun w' g hf => ?_⟩
  have A' : WA p.types (bX (jV p k.toNat)) := WA.of_valid hvQ
  have I' : Ins (bX p) (bX (jV p k.toNat)) (dK (p.body.take k.toNat)) := I
  have N := D.noI I' w' ((NoI.iff w f).1 hf)
  refine ⟨(NoI.iff w' g).2 N, fun cs c1 c2 v hv1 ht hne => ?_⟩
  exact D.run I' w A w' A' (by rw [e0]; omega) cs 80 80 c1 c2 v hv1 (by omega) ht
 ·cases h
theorem zF (bs ms:List UInt8):PC Tryz.prog 9 [sl cU bs,sl cU ms] (fun r => r = bv true) := by
 rcases Nat.lt_or_ge 1048576 bs.length with hb|hb
 ·(refine aT Tryz.func9 rfl (by simp [Tryz.ntmps9]) ?_; rw [Tryz.ntmps9])
  repeat' (first|(apply aK;first|(apply aE;rfl;rfl)|(first|(apply a6;rfl;rfl;rfl;(assumption))|(apply bE;(case hj|hb|hN => rfl);all_goals (intro hg;have hq := hg;(try simp only [cH] at hq);(try (exfalso;omega)))))|(apply aS;rfl;rfl;rfl;rfl)|(apply aC;rfl;rfl)|(apply bK;rfl;(assumption);rfl;rfl)|(apply a8;rfl;rfl;rfl)|(apply aF;kernel_rfl))|(apply aL;first|apply aH|apply aB|(apply bU;rfl;(rfl))|apply aP)|with_reducible apply aA|with_reducible apply bH)
  all_goals exact aO rfl ⟨rfl, rfl⟩
 rcases Nat.lt_or_ge 1048576 ms.length with hm|hm
 ·(refine aT Tryz.func9 rfl (by simp [Tryz.ntmps9]) ?_; rw [Tryz.ntmps9])
  repeat' (first|(apply aK;first|(apply aE;rfl;rfl)|(first|(apply aY;rfl;rfl;rfl;(assumption))|(apply bE;(case hj|hb|hN => rfl);all_goals (intro hg;have hq := hg;(try simp only [cH] at hq);(try (exfalso;omega)))))|(apply aS;rfl;rfl;rfl;rfl)|(apply aC;rfl;rfl)|(apply bC;rfl;(assumption);rfl;rfl)|(apply a8;rfl;rfl;rfl)|(apply aF;kernel_rfl))|(apply aL;first|apply aH|apply aB|(apply aN;rfl;all_goals intro hc;have hq:=hc;(try simp only [cH] at hq);try exfalso;omega)|apply aP)|with_reducible apply aA|with_reducible apply bH)
  all_goals exact aO rfl ⟨rfl, rfl⟩
 (refine aT Tryz.func9 rfl (by simp [Tryz.ntmps9]) ?_; rw [Tryz.ntmps9])
 repeat' (first|(apply aK;first|((with_reducible apply fN (k := 35));(case ha => rfl);(case h => exact CJ bs hb);(case hp => (exact Pur.pf));(case hN => rfl);(rintro _ ⟨p, k, rfl, hq1, hq2, hq3, hq4⟩ _))|(with_reducible apply dE (d := 33))|(apply aE;rfl;rfl)|(first|(apply aY;rfl;rfl;rfl;(assumption))|(apply bE;(case hj|hb|hN => rfl);all_goals (intro hg;have hq := hg;(try simp only [cH] at hq);(try (exfalso;omega)))))|(apply aS;rfl;rfl;rfl;rfl)|(apply aC;rfl;rfl)|(apply bC;rfl;(assumption);rfl;rfl)|(apply a8;rfl;rfl;rfl)|(apply aF;kernel_rfl)|(apply bB;rfl;rfl)|(apply b0;rfl;rfl;rfl)|(apply aV;rfl;rfl;rfl;rfl;rfl;(case hl => (simp;done));(exact (rfl:_=[_, _]))))|(apply aL;first|apply aH|apply aB|(apply aN;rfl;all_goals intro hc;have hq:=hc;(try simp only [cH] at hq);try exfalso;omega)|apply aR)|with_reducible apply aA)
 refine eX ?_
 have v0 := lK ⟨[], []⟩ (by simp [bO]) (by simp)
 cases hv : cP p with
 | false =>
  have h1 := Gr p k hv (by omega) (by omega)
  have h2 := GN p k hv (by omega) (by omega)
  unfold B0 at h1 h2
  repeat' (first|(apply aK;first|((with_reducible apply aI (k := 36));(case ha => rfl);(case h => exact h1);(case hp => (exact Pur.pf));(case hN => rfl))|((with_reducible apply aI (k := 37));(case ha => rfl);(case h => exact h2);(case hp => (exact Pur.pf));(case hN => rfl))|((with_reducible apply aI (k := 14));(case ha => rfl);(case h => exact v0);(case hp => (rfl));(case hN => rfl))|(apply aE;rfl;rfl)|(apply aU;rfl;rfl;(exact (rfl:_=[_, _]));rfl;rfl;rfl)|(first|(apply aY;rfl;rfl;rfl;(rfl))|(apply a6;rfl;rfl;rfl;(rfl)))|(apply lM;rfl;rfl;rfl;rfl)|(apply aC;rfl;rfl)|(first|(apply bK;rfl;(rfl);rfl;rfl)|(apply bC;rfl;(rfl);rfl;rfl))|(apply aF;kernel_rfl)|(apply cF;rfl;rfl)|(apply bB;rfl;rfl)|(apply b0;rfl;rfl;rfl)|(apply aV;rfl;rfl;rfl;rfl;rfl;(decide);(exact (rfl:_=[_, _]))))|(apply aL;first|apply aH|apply aB|(apply bU;rfl;(rfl))|apply aP)|with_reducible apply aA|with_reducible apply bH)
  all_goals first
   | exact aO rfl ⟨rfl, rfl⟩
   | (exfalso;exact (by assumption : ¬ True) trivial)
 | true =>
  have w := WG.of_valid hv
  obtain ⟨f⟩ := Flows.ex w
  have h1 := IF p k hv f
  have h2 := JJ p k hv f
  unfold B0 at h1 h2
  cases hR : jU p f k with
  | none =>
   rw [hR] at h1 h2
   repeat' (first|(apply aK;first|((with_reducible apply aI (k := 36));(case ha => rfl);(case h => exact h1);(case hp => (exact Pur.pf));(case hN => rfl))|((with_reducible apply aI (k := 37));(case ha => rfl);(case h => exact h2);(case hp => (exact Pur.pf));(case hN => rfl))|((with_reducible apply aI (k := 14));(case ha => rfl);(case h => exact v0);(case hp => (rfl));(case hN => rfl))|(apply aE;rfl;rfl)|(apply aU;rfl;rfl;(exact (rfl:_=[_, _]));rfl;rfl;rfl)|(first|(apply aY;rfl;rfl;rfl;(rfl))|(apply a6;rfl;rfl;rfl;(rfl)))|(apply lM;rfl;rfl;rfl;rfl)|(apply aC;rfl;rfl)|(first|(apply bK;rfl;(rfl);rfl;rfl)|(apply bC;rfl;(rfl);rfl;rfl))|(apply aF;kernel_rfl)|(apply cF;rfl;rfl)|(apply bB;rfl;rfl)|(apply b0;rfl;rfl;rfl)|(apply aV;rfl;rfl;rfl;rfl;rfl;(decide);(exact (rfl:_=[_, _]))))|(apply aL;first|apply aH|apply aB|(apply bU;rfl;(rfl))|apply aP)|with_reducible apply aA|with_reducible apply bH)
   all_goals first
    | exact aO rfl ⟨rfl, rfl⟩
    | (exfalso;exact (by assumption : ¬ True) trivial)
  | some Q =>
   obtain ⟨hk0, hkl, hT, hvQ, law⟩ := H5 p hv f k Q hR
   rw [hR] at h1 h2
   dsimp only [Option.getD, Option.isSome] at h1 h2
   obtain ⟨t, body⟩ := Q
   dsimp only at hT
   subst hT
   have hcQ := (eY hvQ).2.2
   have v1 := lK ⟨p.types, body⟩ (by omega) (by show p.types.length ≤ _; omega)
   have w' : WG p.types (bX ⟨p.types, body⟩) := WG.of_valid hvQ
   obtain ⟨g⟩ := Flows.ex w'
   obtain ⟨_, a1⟩ := DM p hv (by omega) (by omega) f
   obtain ⟨_, a2⟩ := DM ⟨p.types, body⟩ hvQ (by show p.types.length ≤ _; omega) (by omega) g
   have lw := law w' g
   clear law v0
   cases hf : f.iss.isEmpty with
   | false =>
    rw [hf] at a1
    repeat' (first|(apply aK;first|((with_reducible apply aI (k := 36));(case ha => rfl);(case h => exact h1);(case hp => (exact Pur.pf));(case hN => rfl))|((with_reducible apply aI (k := 37));(case ha => rfl);(case h => exact h2);(case hp => (exact Pur.pf));(case hN => rfl))|((with_reducible apply aI (k := 14));(case ha => rfl);(case h => exact v1);(case hp => (exact Pur.pf));(case hN => rfl))|((with_reducible apply aI (k := 19));(case ha => rfl);(case h => exact a1);(case hp => (exact Pur.pf));(case hN => rfl))|(apply aE;rfl;rfl)|(apply aU;rfl;rfl;(exact (rfl:_=[_, _]));rfl;rfl;rfl)|(apply aY;rfl;rfl;rfl;(rfl))|(apply lM;rfl;rfl;rfl;rfl)|(apply aC;rfl;rfl)|(first|(apply bK;rfl;(rfl);rfl;rfl)|(apply bC;rfl;(rfl);rfl;rfl))|(apply aF;kernel_rfl)|(apply cF;rfl;rfl)|(apply bB;rfl;rfl)|(apply b0;rfl;rfl;rfl)|(apply aV;rfl;rfl;rfl;rfl;rfl;(case hl => (simp;done));(exact (rfl:_=[_, _]))))|(apply aL;first|apply aH|apply aB|(apply bU;rfl;(rfl))|apply aP)|with_reducible apply aA|with_reducible apply bH)
    all_goals first
     | exact aO rfl ⟨rfl, rfl⟩
     | (exfalso;exact (by assumption : ¬ True) trivial)
   | true =>
    obtain ⟨hg, run⟩ := lw (List.isEmpty_iff.1 hf)
    rw [hf] at a1
    rw [hg] at a2
    clear lw
    repeat' (first|(apply aK;first|((with_reducible apply aI (k := 36));(case ha => rfl);(case h => exact h1);(case hp => (exact Pur.pf));(case hN => rfl))|((with_reducible apply aI (k := 37));(case ha => rfl);(case h => exact h2);(case hp => (exact Pur.pf));(case hN => rfl))|((with_reducible apply aI (k := 14));(case ha => rfl);(case h => exact v1);(case hp => (exact Pur.pf));(case hN => rfl))|((with_reducible apply aI (k := 19));(case ha => rfl);(case h => exact a1);(case hp => (exact Pur.pf));(case hN => rfl))|((with_reducible apply fN (k := 16));(case ha => rfl);(case h => exact xR ms hm);(case hp => (exact Pur.pf));(case hN => rfl);(rintro _ ⟨q', cs, n', rfl, hr1, hr2, hr3, hr4, hr5⟩ _))|(with_reducible apply dE (d := 77))|(apply aE;rfl;rfl)|(apply aU;rfl;rfl;(exact (rfl:_=[_, _]));rfl;rfl;rfl)|(apply aY;rfl;rfl;rfl;(rfl))|(apply lM;rfl;rfl;rfl;rfl)|(apply aC;rfl;rfl)|(apply bC;rfl;(rfl);rfl;rfl)|(apply aF;kernel_rfl)|(apply cF;rfl;rfl)|(apply bB;rfl;rfl)|(apply b0;rfl;rfl;rfl)|(apply aV;rfl;rfl;rfl;rfl;rfl;(case hl => (simp;done));(exact (rfl:_=[_, _]))))|(apply aL;first|apply aH|apply aB|(apply cG;rfl;(rfl))|apply aR)|with_reducible apply aA)
    refine eX ?_
    have hsl := run cs
    clear run
    have n1 := DN p hv (by omega) (by omega) cs (by omega) 80 (by decide)
    have n2 := DN ⟨p.types, body⟩ hvQ (by show p.types.length ≤ _; omega) (by omega) cs (by omega) 80 (by decide)
    change PC _ _ _ (fun r => r = .tup [sl e5 (dI p.types (bX ⟨p.types, body⟩) cs 80).1.slots, iv (dI p.types (bX ⟨p.types, body⟩) cs 80).2.1]) at n2
    have l1 : (dI p.types (bX p) cs 80).1.slots.length = p.types.length := nG _ _ _ _
    have l2 : (dI p.types (bX ⟨p.types, body⟩) cs 80).1.slots.length = p.types.length := nG _ _ _ _
    generalize (dI p.types (bX p) cs 80).2.1 = en at *
    generalize (dI p.types (bX p) cs 80).1.slots = s1 at *
    generalize (dI p.types (bX ⟨p.types, body⟩) cs 80).1.slots = s2 at *
    generalize (dI p.types (bX ⟨p.types, body⟩) cs 80).2.1 = en2 at *
    obtain ⟨k, rfl⟩ : ∃ j : Nat, k = j := ⟨k.toNat, by omega⟩
    have hkn : k < p.body.length := by omega
    rw [Int.toNat_natCast] at hsl
    repeat' (first|(apply aK;first|((with_reducible apply aI (k := 24));(case ha => rfl);(case h => exact n1);(case hp => (exact Pur.pf));(case hN => rfl))|((with_reducible apply aI (k := 24));(case ha => rfl);(case h => exact n2);(case hp => (exact Pur.pf));(case hN => rfl))|(apply aE;rfl;rfl)|(apply aU;rfl;rfl;(exact (rfl:_=[_, _]));rfl;rfl;rfl)|(apply aC;rfl;rfl)|(apply aF;kernel_rfl)|(apply b0;rfl;rfl;rfl))|(apply aL;first|apply aH|apply aB|apply aM)|with_reducible apply aA)
    refine bF (σ := Nat) [5, 6, 7, 14, 15, 16, 17] [(5, _), (6, _), (7, _), (14, _), (15, _), (16, _), (17, _)] [0, 1] [(0, some _), (1, some _)] (fun v => [(18, iv (v : Int))]) (fun v => []) (fun v => v ≤ p.types.length) (fun v => p.types.length - v) (0) (Nat.zero_le _) rfl rfl (by repeat' (first|exact trivial|refine And.intro rfl ?_)) (by repeat' (exact trivial)) ?_
    intro v hvl
    by_cases hvn : v < p.types.length
    ·by_cases h00 : en = 0 ∧ en2 = 0
     ·obtain ⟨h0, h0'⟩ := h00
      have hs := hsl h0 h0' v hvn
      clear hsl
      by_cases ht : p.types[v]! = 1 ∧ (v : Int) ≠ p.body[k]!.x
      ·obtain ⟨ht1, ht2⟩ := ht
       have e := hs ht1 ht2
       clear hs
       repeat' (first|(apply aK;first|((apply Dy [.bool s1[v]!.set, .int .i64 s1[v]!.num, .int .i64 s1[v]!.ptr.cell, .int .i64 s1[v]!.ptr.tag]);(case hx => rfl);(case hy => (rw [e] <;> rfl));(case hc => rfl);(case hS => exact ⟨_, _, _, _, rfl⟩);(case hN => rfl))|(apply aE;rfl;rfl)|(first|(apply aJ;rfl;rfl;rfl;rfl)|(apply aU;rfl;rfl;(exact (rfl:_=[_, _, _, _]));rfl;rfl;rfl))|(apply aD;rfl;rfl;rfl)|(first|(apply aY;rfl;rfl;rfl;(assumption))|(apply bE;(case hj|hb|hN => rfl);all_goals (intro hg;have hq := hg;(try simp only [cH] at hq);(try (exfalso;omega)))))|(first|(apply bR;rfl;rfl;omega;rfl)|(apply aS;rfl;rfl;rfl;rfl))|(apply aC;rfl;rfl)|(apply bK;rfl;(assumption);rfl;rfl)|(apply a7;(case hx|hi => rfl);(case hm => (first|assumption|omega));(case hml => (rfl));(case hα | hf|hg => infer_instance);(case hN => rfl))|(apply a8;rfl;rfl;rfl)|(apply aF;kernel_rfl))|(apply aL;first|apply aH|apply aB|(apply bZ;kernel_rfl)|(apply cG;rfl;(rfl))|(apply aN;rfl;all_goals intro hc;have hq:=hc;(try simp only [cH] at hq);try exfalso;omega)|apply aM|apply aR)|with_reducible apply aA|with_reducible apply aW)
       all_goals first
        | (exfalso;omega)
        | ((apply dV (v + 1); focus (refine Le.ren [(0, 0), (1, 1)] rfl (by decide) ?_ ?_ <;> repeat' (first | exact trivial | refine And.intro ⟨_, rfl, ?_⟩ ?_ | refine And.intro ⟨_, _, rfl, rfl, ?_⟩ ?_ | exact Or.inr rfl | refine Or.inl ⟨?_, (by first | rfl | exact aZ _ _ | exact Pur.pf)⟩ | rfl)))
           ·exact hvn
           ·omega)
      ·clear hs
       repeat' (first|(apply aK;first|(apply aE;rfl;rfl)|(apply aJ;rfl;rfl;rfl;rfl)|(apply aD;rfl;rfl;rfl)|(first|(apply aY;rfl;rfl;rfl;(assumption))|(apply a6;rfl;rfl;rfl;(first|rfl|assumption))|(apply bE;(case hj|hb|hN => rfl);all_goals (intro hg;have hq := hg;(try simp only [cH] at hq);(try (exfalso;omega)))))|(first|(apply bR;rfl;rfl;omega;rfl)|(apply aS;rfl;rfl;rfl;rfl))|(apply aC;rfl;rfl)|(first|(apply bK;rfl;(assumption);rfl;rfl)|(apply bC;rfl;(first|rfl|assumption);rfl;rfl))|(apply a7;(case hx|hi => rfl);(case hm => (assumption));(case hml => (rfl));(case hα | hf|hg => infer_instance);(case hN => rfl))|(apply a8;rfl;rfl;rfl)|(apply aF;kernel_rfl))|(apply aL;first|apply aH|apply aB|(apply bZ;kernel_rfl)|(apply cG;rfl;(rfl))|(apply aN;rfl;all_goals intro hc;have hq:=hc;(try simp only [cH] at hq);try exfalso;omega)|apply aM|apply aR)|with_reducible apply aA|with_reducible apply aW)
       all_goals first
        | (exfalso;omega)
        | ((apply dV (v + 1); focus (refine Le.ren [(0, 0), (1, 1)] rfl (by decide) ?_ ?_ <;> repeat' (first | exact trivial | refine And.intro ⟨_, rfl, ?_⟩ ?_ | refine And.intro ⟨_, _, rfl, rfl, ?_⟩ ?_ | exact Or.inr rfl | refine Or.inl ⟨?_, (by first | rfl | exact aZ _ _ | exact Pur.pf)⟩ | rfl)))
           ·exact hvn
           ·omega)
     ·clear hsl
      repeat' (first|(apply aK;first|((with_reducible apply aI (k := 19));(case ha => rfl);(case h => exact a2);(case hp => (exact Pur.pf));(case hN => rfl))|(apply aE;rfl;rfl)|(first|(apply aJ;rfl;rfl;rfl;rfl)|(apply aU;rfl;rfl;(exact (rfl:_=[_, _]));rfl;rfl;rfl))|(apply aD;rfl;rfl;rfl)|(first|(apply aY;rfl;rfl;rfl;(assumption))|(apply a6;rfl;rfl;rfl;(assumption))|(apply bE;(case hj|hb|hN => rfl);all_goals (intro hg;have hq := hg;(try simp only [cH] at hq);(try (exfalso;omega)))))|(apply aS;rfl;rfl;rfl;rfl)|(apply aC;rfl;rfl)|(first|(apply bK;rfl;(assumption);rfl;rfl)|(apply bC;rfl;(assumption);rfl;rfl))|(apply a8;rfl;rfl;rfl)|(apply aF;kernel_rfl))|(apply aL;first|apply aH|apply aB|(apply cG;rfl;(rfl))|(apply aN;rfl;all_goals intro hc;have hq:=hc;(try simp only [cH] at hq);try exfalso;omega)|apply bI|apply aP)|with_reducible apply aA|with_reducible apply bJ|with_reducible apply bG)
      all_goals first
       | (exfalso;omega)
       | exact aO rfl ⟨rfl, rfl⟩
    ·clear hsl
     repeat' (first|(apply aK;first|((with_reducible apply aI (k := 19));(case ha => rfl);(case h => exact a2);(case hp => (exact Pur.pf));(case hN => rfl))|(apply aE;rfl;rfl)|(first|(apply aJ;rfl;rfl;rfl;rfl)|(apply aU;rfl;rfl;(exact (rfl:_=[_, _]));rfl;rfl;rfl))|(apply aD;rfl;rfl;rfl)|(first|(apply a6;rfl;rfl;rfl;(first|rfl|assumption))|(apply bE;(case hj|hb|hN => rfl);all_goals (intro hg;have hq := hg;(try simp only [cH] at hq);(try (exfalso;omega)))))|(apply aS;rfl;rfl;rfl;rfl)|(apply aC;rfl;rfl)|(apply bC;rfl;(first|rfl|assumption);rfl;rfl)|(apply a8;rfl;rfl;rfl)|(apply aF;kernel_rfl))|(apply aL;first|apply aH|apply aB|(apply cG;rfl;(rfl))|apply bI|apply aP)|with_reducible apply aA|with_reducible apply bJ|with_reducible apply bG)
     all_goals first
      | (exfalso;omega)
      | exact aO rfl ⟨rfl, rfl⟩
end Go.Proofs.YtjcpngimjdckmaaGreat
