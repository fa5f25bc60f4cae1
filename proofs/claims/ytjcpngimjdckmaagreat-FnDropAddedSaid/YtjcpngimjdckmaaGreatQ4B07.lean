/-
 A part of the proofs over this program: rules and contracts of its functions (the contracts).
-/
import Derived.Test.YtjcpngimjdckmaaGreatQ4B06
set_option linter.unusedVariables false
set_option linter.unusedSimpArgs false
set_option maxHeartbeats 8000000
set_option maxRecDepth 4000
attribute [local irreducible] Go.AL.RW Go.AL.AW Go.AL.Stop
namespace Go.Proofs.YtjcpngimjdckmaaGreat
open Go.AL Go.RowKit
theorem BH {q : Prg} (h : rE q = true) : cM q = true ∧ NoI q.types (aR q) := by
 unfold rE at h
 rw [Bool.and_eq_true] at h
 exact ⟨h.1, @of_decide_eq_true _ (Classical.propDecidable _) h.2⟩
theorem B4 {p : Prg} {f : Flows p.types (aR p)} {k v : Int} {Q : Prg} (t1 : cP p.types = true) (h : gS p f k v = some Q) : 0 ≤ k ∧ k ≤ p.body.length ∧ 0 ≤ v ∧ v < p.types.length ∧ Q = gN p k.toNat v ∧ cM Q = true ∧ NoI Q.types (aR Q) := by
 unfold gS at h
 split at h
 ·rename_i hc
  obtain ⟨h1, ⟨h2, h3, _⟩, h4⟩ := hc
  have hv0 := (fV t1 v).1 (by omega)
  cases h
  exact ⟨h1, by omega, by omega, by omega, rfl, BH h4⟩
 ·cases h
theorem zE {p : Prg} {k v : Nat} (hk : k ≤ p.body.length) (hv : v < p.types.length) (g : Flows p.types (aR (gN p k (v : Int)))) : gS (gN p k (v : Int)) g (k : Int) (v : Int) = none := by
 unfold gS
 rw [if_neg]
 rintro ⟨_, _, h3⟩
 rw [Int.toNat_natCast] at h3
 obtain ⟨h4, h5⟩ := BH h3
 have w : WG p.types (aR (gN (gN p k (v : Int)) k (v : Int))) := WG.of_valid h4
 obtain ⟨f⟩ := Flows.ex w
 exact B3 (ts := p.types) (b := p.body) hk hv w f ((NoI.iff w f).2 h5)
theorem G6 (q : Prg) (k : Nat) (hv : cM q = true) (hk : k < q.body.length) : PC Tryz.prog 15 [c8 q, iv (k : Int)] (fun r => r = Bp (some (rW q k))) := by
 obtain ⟨t1, t2, t3⟩ := jN hv
 have htl := eJ t1
 have hlen := cY q.body
 have hval := jF q (by omega) (by omega)
 rw [hv] at hval
 have hdr := BZ q k hk (by omega) (by omega)
 (refine aQ Tryz.func15 rfl (by simp [Tryz.ntmps15]) ?_; rw [Tryz.ntmps15])
 repeat' (first|(apply aM;first|((with_reducible apply aI (k := 49));(case ha => rfl);(case h => exact hval);(case hp => (exact Pur.pf));(case hN => rfl))|((with_reducible apply aI (k := 65));(case ha => rfl);(case h => exact hdr);(case hp => (exact Pur.pf));(case hN => rfl))|(apply aD;rfl;rfl)|(apply a6;rfl;rfl;(exact (rfl:_=[_, _]));rfl;rfl;rfl)|(apply a9;rfl;rfl;rfl;(rfl))|(apply aC;rfl;rfl)|(apply bH;rfl;(rfl);rfl;rfl)|((with_reducible apply aI (k := 64));(case ha => rfl);(case h => (apply EZ <;> (omega)));(case hp => (exact Pur.pf));(case hN => rfl))|(apply aF;kernel_rfl)|(apply cK;rfl;rfl)|(apply bW;rfl;rfl;rfl;rfl)|(apply bT;rfl;rfl)|(apply a7;rfl;rfl;rfl;rfl;rfl;(case hl => (simp;done));(exact (rfl:_=[_, _]))))|(apply aO;first|apply aH|apply aB|(apply aP;rfl;all_goals intro hc;have hq:=hc;(try simp only [cD] at hq);try exfalso;omega)|apply aS|apply aW)|with_reducible apply aA)
 exact kC (r := some (rW q k)) rfl rfl
theorem tK (bs : List UInt8) : PC Tryz.prog 3 [sl cU bs] (fun r => r = bv true) := by
 rcases Nat.lt_or_ge 1048576 bs.length with hb|hb
 ·(refine aQ Tryz.func3 rfl (by simp [Tryz.ntmps3]) ?_; rw [Tryz.ntmps3])
  repeat' (first|(apply aM;first|(apply aD;rfl;rfl)|(apply aV;rfl;rfl;rfl;rfl)|(apply aC;rfl;rfl)|(apply a8;rfl;rfl;rfl)|(apply aF;kernel_rfl))|(apply aO;first|apply aH|apply aB|(apply aP;rfl;all_goals intro hc;have hq:=hc;(try simp only [cD] at hq);try exfalso;omega)|apply aW)|with_reducible apply aA|with_reducible apply b0)
  all_goals exact aU rfl ⟨rfl, rfl⟩
 (refine aQ Tryz.func3 rfl (by simp [Tryz.ntmps3]) ?_; rw [Tryz.ntmps3])
 repeat' (first|(apply aM;first|((with_reducible apply iO (k := 11));(case ha => rfl);(case h => exact C0 bs hb);(case hp => (exact Pur.pf));(case hN => rfl);(rintro _ ⟨p, k, v, rfl, hq1, hq2⟩ _))|(with_reducible apply dR (d := 24))|(apply aD;rfl;rfl)|(apply aV;rfl;rfl;rfl;rfl)|(apply aC;rfl;rfl)|(apply a8;rfl;rfl;rfl)|(apply aF;kernel_rfl)|(apply bT;rfl;rfl)|(apply dI;rfl;rfl;rfl)|(apply a7;rfl;rfl;rfl;rfl;rfl;(case hl => (simp;done));(exact (rfl:_=[_, _]))))|(apply aO;first|apply aH|apply aB|(apply aP;rfl;all_goals intro hc;have hq:=hc;(try simp only [cD] at hq);try exfalso;omega)|apply aS)|with_reducible apply aA)
 refine gK ?_
 have v0 := mY ⟨[], []⟩ (by simp [bJ]) (by simp)
 cases hv : cM p with
 | false =>
  have h1 := Gz p k v hv (by omega) (by omega)
  have h2 := Gy p k v hv (by omega) (by omega)
  unfold Bp at h1 h2
  repeat' (first|(apply aM;first|((with_reducible apply aI (k := 12));(case ha => rfl);(case h => exact h1);(case hp => (exact Pur.pf));(case hN => rfl))|((with_reducible apply aI (k := 13));(case ha => rfl);(case h => exact h2);(case hp => (exact Pur.pf));(case hN => rfl))|((with_reducible apply aI (k := 14));(case ha => rfl);(case h => exact v0);(case hp => (rfl));(case hN => rfl))|(apply aD;rfl;rfl)|(apply a6;rfl;rfl;(exact (rfl:_=[_, _]));rfl;rfl;rfl)|(apply a9;rfl;rfl;rfl;(rfl))|(apply qA;rfl;rfl;rfl;rfl)|(apply aC;rfl;rfl)|(first|(apply bI;rfl;(rfl);rfl;rfl)|(apply bH;rfl;(rfl);rfl;rfl))|(apply aF;kernel_rfl)|(apply cK;rfl;rfl)|(apply bT;rfl;rfl)|(apply dI;rfl;rfl;rfl)|(apply a7;rfl;rfl;rfl;rfl;rfl;(decide);(exact (rfl:_=[_, _]))))|(apply aO;first|apply aH|apply aB|(apply bX;rfl;(rfl))|apply aW)|with_reducible apply aA|with_reducible apply b0)
  all_goals first
   | exact aU rfl ⟨rfl, rfl⟩
   | (exfalso;exact (by assumption : ¬ True) trivial)
 | true =>
  have w := WG.of_valid hv
  obtain ⟨t1, t2, t3⟩ := jN hv
  have htl := eJ t1
  obtain ⟨f⟩ := Flows.ex w
  have h1 := Ed p k v hv f
  have h2 := HE p k v hv f
  unfold Bp at h1 h2
  cases hR : gS p f k v with
  | none =>
   rw [hR] at h1 h2
   repeat' (first|(apply aM;first|((with_reducible apply aI (k := 12));(case ha => rfl);(case h => exact h1);(case hp => (exact Pur.pf));(case hN => rfl))|((with_reducible apply aI (k := 13));(case ha => rfl);(case h => exact h2);(case hp => (exact Pur.pf));(case hN => rfl))|((with_reducible apply aI (k := 14));(case ha => rfl);(case h => exact v0);(case hp => (rfl));(case hN => rfl))|(apply aD;rfl;rfl)|(apply a6;rfl;rfl;(exact (rfl:_=[_, _]));rfl;rfl;rfl)|(apply a9;rfl;rfl;rfl;(rfl))|(apply qA;rfl;rfl;rfl;rfl)|(apply aC;rfl;rfl)|(first|(apply bI;rfl;(rfl);rfl;rfl)|(apply bH;rfl;(rfl);rfl;rfl))|(apply aF;kernel_rfl)|(apply cK;rfl;rfl)|(apply bT;rfl;rfl)|(apply dI;rfl;rfl;rfl)|(apply a7;rfl;rfl;rfl;rfl;rfl;(decide);(exact (rfl:_=[_, _]))))|(apply aO;first|apply aH|apply aB|(apply bX;rfl;(rfl))|apply aW)|with_reducible apply aA|with_reducible apply b0)
   all_goals first
    | exact aU rfl ⟨rfl, rfl⟩
    | (exfalso;exact (by assumption : ¬ True) trivial)
  | some Q =>
   rw [hR] at h1 h2
   obtain ⟨k0, kl, y0, yl, rfl, hvQ, _⟩ := B4 t1 hR
   clear hR
   obtain ⟨k, rfl⟩ : ∃ j : Nat, k = j := ⟨k.toNat, by omega⟩
   obtain ⟨v, rfl⟩ : ∃ j : Nat, v = j := ⟨v.toNat, by omega⟩
   rw [Int.toNat_natCast] at h1 h2 hvQ
   dsimp only [Option.getD, Option.isSome] at h1 h2
   have hci := rM p.body k (v : Int)
   have v1 := mY (gN p k (v : Int)) (by show bJ (eX k (iK (v : Int)) p.body) ≤ _; omega) (by show p.types.length ≤ _; omega)
   have v2 := mY p (by omega) (by omega)
   have hd := G6 (gN p k (v : Int)) k hvQ (by show k < (eX k (iK (v : Int)) p.body).length;rw [sK]; omega)
   have eD : rW (gN p k (v : Int)) k = p := by
    unfold rW gN;dsimp only;rw [B2 (by omega)]
   rw [eD] at hd
   obtain ⟨g⟩ := Flows.ex (ts := (gN p k (v : Int)).types) (pts := aR (gN p k (v : Int))) (WG.of_valid hvQ)
   have h3 := Ed (gN p k (v : Int)) (k : Int) (v : Int) hvQ g
   rw [zE (p := p) (k := k) (v := v) (by omega) (by omega) g] at h3
   unfold Bp at hd h3
   dsimp only [Option.getD, Option.isSome] at hd h3
   repeat' (first|(apply aM;first|((with_reducible apply aI (k := 12));(case ha => rfl);(case h => first|exact h1|exact h3);(case hp => (exact Pur.pf));(case hN => rfl))|((with_reducible apply aI (k := 13));(case ha => rfl);(case h => exact h2);(case hp => (exact Pur.pf));(case hN => rfl))|((with_reducible apply aI (k := 14));(case ha => rfl);(case h => first|exact v1|exact v2);(case hp => (exact Pur.pf));(case hN => rfl))|((with_reducible apply aI (k := 15));(case ha => rfl);(case h => exact hd);(case hp => (exact Pur.pf));(case hN => rfl))|(apply aD;rfl;rfl)|(apply a6;rfl;rfl;(exact (rfl:_=[_, _]));rfl;rfl;rfl)|(apply a9;rfl;rfl;rfl;(rfl))|(apply qA;rfl;rfl;rfl;rfl)|(apply aC;rfl;rfl)|(first|(apply bI;rfl;(rfl);rfl;rfl)|(apply bH;rfl;(rfl);rfl;rfl))|(apply aF;kernel_rfl)|(apply cK;rfl;rfl)|(apply bT;rfl;rfl)|(apply dI;rfl;rfl;rfl)|(apply a7;rfl;rfl;rfl;rfl;rfl;(case hl => (first|decide|(simp;done)));(exact (rfl:_=[_, _]))))|(apply aO;first|apply aH|apply aB|(apply cF;rfl;(rfl))|apply aS|apply aW)|with_reducible apply aA)
   exact aU rfl ⟨rfl, rfl⟩
end Go.Proofs.YtjcpngimjdckmaaGreat
