/-
 A part of the proofs over this program: rules and contracts of its functions (the contracts).
-/
import Derived.Test.YtjcpngimjdckmaaGreatQ2B02
set_option linter.unusedVariables false
set_option linter.unusedSimpArgs false
set_option maxHeartbeats 8000000
set_option maxRecDepth 4000
attribute [local irreducible] Go.AL.RW Go.AL.AW Go.AL.Stop
namespace Go.Proofs.YtjcpngimjdckmaaGreat
open Go.AL Go.RowKit
theorem JY {m:List (Nat × Nat)}{l0 k K b w:Nat}(h0:l0 ≤ dJ) (hK:K = k):RnL (l5 m ⟨l0,dJ + K⟩ (some b)) (flat (Fj 0 w) (List.range (k + 1))) (((flat (Fj 0 w) (List.range k)).drop 0).take (k * 1) ++ [.own b 0 w 1]) := by
 rw [hK]
 have e : ((flat (Fj 0 w) (List.range k)).drop 0).take (k * 1) = flat (Fj 0 w) (List.range k) := List.take_of_length_le (by rw [List.drop_zero, aQ (Fj 0 w) (e := 1)]; simp)
 rw [e, List.range_succ, ← dP, uM]
 refine (gK (by show dJ + (0 + k) ≤ dJ + k;omega)).app (.cons (.own ?_) .nil)
 unfold l5
 rw [if_neg (by show ¬ 0 + k + dJ < l0;omega), if_pos (by omega), if_neg (by show ¬ 0 + k + dJ < dJ + k;omega), if_pos (by show 0 + k + dJ = dJ + k;omega)]
theorem FL (p:Prg) (A:List Nat) (hs:bO p.body ≤ 1000000) (w:WG p.types (bX p)) (hA:rH p.types (bX p) A):PC Tryz.prog 86 [dH p] (fun r => r = sl L7 (uT p.types.length (bX p).length A)) := by
 have hpl := w.pl
 have hp0 := w.p0
 have htl := w.tl
 (refine aT Tryz.func86 rfl (by simp [Tryz.ntmps86]) ?_; rw [Tryz.ntmps86])
 repeat' (first|(apply aK;first|((with_reducible apply aI (k := 110));(case ha => rfl);(case h => exact B8 p hs);(case hp => (exact Pur.pf));(case hN => rfl))|(apply aU;rfl;rfl;(exact (rfl:_=[_, _]));rfl;rfl;rfl)|(apply aC;rfl;rfl)|(apply aF;kernel_rfl)|(apply bT;rfl;rfl;rfl;rfl)|(apply cD;rfl;rfl;rfl;(rfl);rfl;rfl))|(apply aL;first|apply aH|apply aB|apply aM)|with_reducible apply aA)
 refine mK (σ := Nat) 0 (fun k => List.replicate k (List.replicate p.types.length false)) [1, 3] [(1, _), (3, _)] [0] [(0, some _)] (fun k => [(5, iv (k : Int)), (4, .own 1 0 k 1)]) (fun k => [(1, some (flat (Fj 0 p.types.length) (List.range k)))]) (fun k => k ≤ (bX p).length) (fun k => (bX p).length - k) (0) (Nat.zero_le _) rfl rfl (by repeat' (first|exact trivial|refine And.intro rfl ?_)) (by repeat' (first|exact trivial|refine And.intro (.inr rfl) ?_)) (by (repeat' (first|exact FamR.here|(apply FamR.cons;focus rfl)))) (by (rfl)) ?_
 intro k hk
 try dsimp only
 repeat' (first|(apply aK;first|(with_reducible apply dE (d := 6))|(apply aE;rfl;rfl)|(apply aJ;rfl;rfl;rfl;rfl)|(apply aD;rfl;rfl;rfl)|(first|(apply bR;rfl;rfl;omega;rfl)|(apply aS;rfl;rfl;rfl;rfl))|(apply aC;rfl;rfl)|(first|(apply a8;rfl;rfl;rfl)|(apply cJ;rfl;rfl;rfl;rfl;rfl;(case hl => (simp [aQ]; done));(rfl);omega;omega;(rfl);rfl;rfl))|(apply aF;kernel_rfl)|(apply cD;rfl;rfl;rfl;exact (rfl:_=some [_]);rfl;rfl)|(apply e9;rfl;rfl;rfl;omega;omega;(exact Io);rfl;rfl))|(apply aL;first|apply aH|apply aB|(apply aN;rfl;all_goals intro hc;have hq:=hc;(try simp only [cH] at hq);try exfalso;omega)|apply aM|apply aR|apply bI)|with_reducible apply aA|with_reducible apply bJ|with_reducible apply aW|with_reducible apply bG)
 ·(apply dV (k + 1); focus (refine Le.renF1 [(0, 0), (1, 4)] 2 (R := ?qA1) (r := ?qB1) (hF := ?qF1) (hz := ?qz1) (hm := ?qm1) (hn := ?qn1) (hlb := ?qlb1) (hb := ?qb1) (hr := ?qr1) (hR := ?qR1) (h1 := ?q11) (h2 := ?q21); (case qF1 => (repeat' (first | exact FamR.here | (apply FamR.cons; focus rfl)))); (case qz1 => (rfl)); (case qm1 => rfl); (case qn1 => decide); (case qlb1 => decide); (case qb1 => decide); (case qr1 => rfl); (case qR1 => (exact List.replicate_succ')); all_goals (repeat' (first | exact trivial | refine And.intro ⟨_, rfl, ?_⟩ ?_ | refine And.intro ⟨_, _, rfl, rfl, ?_⟩ ?_ | exact RnL.purI inferInstance | exact RnV.purI inferInstance | exact RnV.own rfl | exact RnV.optr rfl | exact JY (by decide) (by simp)))))
  ·show k + 1 ≤ (bX p).length;omega
  ·show (bX p).length - (k + 1) < (bX p).length - k;omega
 ·have hkN : k = (bX p).length := by omega
  subst hkN
  refine eX (kL ?_ (Le.frzD (d := 4) (i := 1) rfl rfl))
  repeat' (first|(apply aK;first|(apply aC;rfl;rfl)|(apply aF;kernel_rfl))|(apply aL;first|apply aH|apply aM)|with_reducible apply aA)
  refine mK (σ := List (List Bool) × Bool) 0 (fun s => s.1) [1, 3, 4] [(1, _), (3, _), (4, _)] [0] [(0, some _)] (fun s => [(6, bv s.2)]) (fun s => []) (fun s => LH p.types (bX p) s.1 s.2) (fun s => M5 p.types.length (bX p).length s.1 s.2) (List.replicate (bX p).length (List.replicate p.types.length false), true) (LH.init _ _) rfl rfl (by repeat' (first|exact trivial|refine And.intro rfl ?_)) (by repeat' (exact trivial)) (by (repeat' (first|exact FamR.here|(apply FamR.cons;focus rfl)))) (by (rfl)) ?_
  rintro ⟨R, c⟩ hLH
  try dsimp only at hLH
  try dsimp only
  have hRl := hLH.lo
  have hRr := hLH.ro
  cases c with
  | false =>
   repeat' (first|(apply aK;first|(apply aE;rfl;rfl)|(apply aC;rfl;rfl)|(apply aF;kernel_rfl))|(apply aL;first|apply aH|apply aB|(apply cG;rfl;(rfl))|apply bI|apply aP)|with_reducible apply aA|with_reducible apply bJ|with_reducible apply bG)
   have hfin := hLH.final w hA
   refine cE (Le.frzAll (d := 2) (D := (List.range R.length).map fun k => 0 + k + dJ) rfl (.imm (LdL.rows (b := 0) (R := R) (by (repeat' (first|exact FamR.here|(apply FamR.cons;focus rfl)))) (fun k hk => List.mem_map.2 ⟨k, by rw [List.mem_range]; omega, rfl⟩) (by omega) (fun k hk => by rw [Nat.zero_add]; exact hRr k hk)))) ?_
   refine aO rfl ⟨?_, (by (exact aZ _ _))⟩
   simp only [b8]
   rw [List.drop_zero, List.take_of_length_le (by omega), hfin]
   simp only [sl, qQ]
  | true =>
   have hst := hLH.start
   repeat' (first|(apply aK;first|(apply aE;rfl;rfl)|(apply e6;rfl;rfl;omega;rfl)|(apply aC;rfl;rfl)|(apply a8;rfl;rfl;rfl)|(apply aF;kernel_rfl))|(apply aL;first|apply aH|apply aB|(apply bU;rfl;(rfl))|apply aM|apply aR)|with_reducible apply aA)
   refine mK (σ := Int × List (List Bool) × Bool) 0 (fun s => s.2.1) [1, 3, 4] [(1, _), (3, _), (4, _)] [0] [(0, some _)] (fun s => [(6, bv s.2.2), (7, iv s.1)]) (fun s => []) (fun s => -1 ≤ s.1 ∧ s.1 < (bX p).length ∧ LS p.types (bX p) R s.2.1 s.2.2 (DL s.1 0 0)) (fun s => (s.1 + 1).toNat) (((bX p).length : Int) - 1, R, false) ⟨(by show -1 ≤ ((bX p).length : Int) - 1;omega), (by show ((bX p).length : Int) - 1 < _; omega), hst⟩ rfl rfl (by repeat' (first|exact trivial|refine And.intro rfl ?_)) (by repeat' (exact trivial)) (by (repeat' (first|exact FamR.here|(apply FamR.cons;focus rfl)))) (by (rfl)) ?_
   rintro ⟨z, R1, c1⟩ ⟨hz1, hz2, hL1⟩
   dsimp only at hz1 hz2 hL1
   have hl1 := hL1.lo
   try dsimp only
   repeat' (first|(apply aK;first|(apply aE;rfl;rfl)|(apply aS;rfl;rfl;rfl;rfl)|(apply aC;rfl;rfl)|(apply aF;kernel_rfl))|(apply aL;first|apply aH|apply aB|(apply aN;rfl;all_goals intro hc;have hq:=hc;(try simp only [cH] at hq);try exfalso;omega)|apply aM|apply aR|apply bI)|with_reducible apply aA|with_reducible apply bJ|with_reducible apply aW|with_reducible apply bG)
   ·have hnl := w.nl z.toNat (by omega)
    refine mK (σ := Nat × List (List Bool) × Bool) 0 (fun s => s.2.1) [1, 3, 4, 7] [(1, _), (3, _), (4, _), (7, _)] [0] [(0, some _)] (fun s => [(6, bv s.2.2), (8, iv (s.1 : Int))]) (fun s => []) (fun s => s.1 ≤ (bX p)[z.toNat]!.next.length ∧ LS p.types (bX p) R s.2.1 s.2.2 (DL z s.1 0)) (fun s => (bX p)[z.toNat]!.next.length - s.1) (0, R1, c1) ⟨Nat.zero_le _, hL1⟩ rfl rfl (by repeat' (first|exact trivial|refine And.intro rfl ?_)) (by repeat' (exact trivial)) (by (repeat' (first|exact FamR.here|(apply FamR.cons;focus rfl)))) (by (rfl)) ?_
    rintro ⟨kk, R2, c2⟩ ⟨hk, hL2⟩
    dsimp only at hk hL2
    have hl2 := hL2.lo
    try dsimp only
    by_cases hkn : kk < (bX p)[z.toNat]!.next.length
    ·have hnx := w.nx z.toNat (by omega) _ (b9 _ _ hkn)
     repeat' (first|(apply aK;first|(apply aE;rfl;rfl)|(apply aJ;rfl;rfl;rfl;rfl)|(apply aD;rfl;rfl;rfl)|(apply aS;rfl;rfl;rfl;rfl)|(apply aC;rfl;rfl)|(first|(apply a7;(case hx|hi => rfl);(case hm => (assumption));(case hml => (rfl));(case hα | hf|hg => infer_instance);(case hN => rfl))|(apply cO;(case hx|hi => rfl);(case hm => (omega));(case hml => (rfl));(case hα | hf|hg => infer_instance);(case hN => rfl)))|(apply a8;rfl;rfl;rfl)|(apply aF;kernel_rfl))|(apply aL;first|apply aH|apply aB|(apply aN;rfl;all_goals intro hc;have hq:=hc;(try simp only [cH] at hq);try exfalso;omega)|apply aM|apply aR)|with_reducible apply aA)
     refine mK (σ := Nat × List (List Bool) × Bool) 0 (fun s => s.2.1) [1, 3, 4, 7, 8, 9] [(1, _), (3, _), (4, _), (7, _), (8, _), (9, _)] [0] [(0, some _)] (fun s => [(6, bv s.2.2), (10, iv (s.1 : Int))]) (fun s => []) (fun s => s.1 ≤ p.types.length ∧ LS p.types (bX p) R s.2.1 s.2.2 (DL z kk s.1)) (fun s => p.types.length - s.1) (0, R2, c2) ⟨Nat.zero_le _, hL2⟩ rfl rfl (by repeat' (first|exact trivial|refine And.intro rfl ?_)) (by repeat' (exact trivial)) (by (repeat' (first|exact FamR.here|(apply FamR.cons;focus rfl)))) (by (rfl)) ?_
     rintro ⟨v, R3, c3⟩ ⟨hv, hL3⟩
     dsimp only at hv hL3
     try dsimp only
     have hl3 := hL3.lo
     have hr3 := hL3.ro z.toNat (by omega)
     have hr3n := hL3.ro ((bX p)[z.toNat]!.next[kk]!).toNat (by omega)
     by_cases hvn : v < p.types.length
     ·repeat' (first | (apply aK; first | (apply aE;rfl;rfl) | (first | (apply Gl;rfl;(case hF => (repeat' (first | exact FamR.here | (apply FamR.cons; focus rfl))));(omega);(simp only [gN] <;> omega);rfl) | (apply aJ;rfl;rfl;rfl;rfl) | (apply aU;rfl;rfl;(exact (rfl:_=[_, _, _, _, _]));rfl;rfl;rfl)) | (apply aD;rfl;rfl;rfl) | (first | (apply jP;rfl;rfl;rfl) | (apply aY;rfl;rfl;rfl;(first | rfl | assumption)) | (apply a6;rfl;rfl;rfl;(first | rfl | assumption)) | (apply bE; (case hj | hb | hN => rfl); all_goals (intro hg; have hq := hg; (try simp only [cH] at hq); (try (exfalso; omega))))) | (first | (apply bR;rfl;rfl;omega;rfl) | (apply aS;rfl;rfl;rfl;rfl)) | (apply aC;rfl;rfl) | (first | (apply bK;rfl;(first | rfl | assumption);rfl;rfl) | (apply bC;rfl;(first | rfl | assumption);rfl;rfl)) | (first | (apply BE;rfl;rfl;(first | assumption | omega);rfl;infer_instance;infer_instance;rfl) | (apply cM;rfl;rfl;(assumption);rfl) | (apply cO; (case hx | hi => rfl); (case hm => (assumption)); (case hml => (rfl)); (case hα | hf | hg => infer_instance); (case hN => rfl))) | (first | ((with_reducible apply aI (k := 136)); (case ha => rfl); (case h => (apply J5 <;> (omega))); (case hp => (exact Pur.pf)); (case hN => rfl)) | ((with_reducible apply aI (k := 137)); (case ha => rfl); (case h => (apply J9 <;> (fail))); (case hp => (exact Pur.pf)); (case hN => rfl))) | (apply a8;rfl;rfl;rfl) | (apply aF;kernel_rfl) | (apply cF;rfl;rfl) | (apply FA;rfl;rfl;(case hF => (repeat' (first | exact FamR.here | (apply FamR.cons; focus rfl))));(omega);(simp only [gN] <;> omega))) | (apply aL; first | apply aH | apply aB | (apply bZ;kernel_rfl) | (apply cG;rfl;(rfl)) | (apply aN;rfl;all_goals intro hc;have hq:=hc;(try simp only [cH] at hq);try exfalso;omega) | apply aM | apply aR) | with_reducible apply aA | with_reducible apply aW)
      ·(apply dV (v + 1, _, _); focus (refine Le.renF0 [(0, 0)] (R := ?qA2) (hF := ?qF2) (hz := ?qz2) (hm := ?qm2) (hn := ?qn2) (h1 := ?q12) (h2 := ?q22); (case qF2 => (repeat' (first | exact FamR.here | (apply FamR.cons; focus rfl)))); (case qz2 => (simp only [List.length_set])); (case qm2 => rfl); (case qn2 => decide); all_goals (repeat' (first | exact trivial | refine And.intro ⟨_, rfl, ?_⟩ ?_ | refine And.intro ⟨_, _, rfl, rfl, ?_⟩ ?_ | exact RnL.purI inferInstance | exact RnV.purI inferInstance | exact RnV.optr rfl | exact RnV.imm (gK (by (simp only [List.length_replicate, List.length_set, List.length_append, List.length_singleton] at * <;> omega)))))))
       ·refine ⟨(by show v + 1 ≤ p.types.length; omega), ?_⟩
        have hf : R3[z.toNat]![v]! = false := by simp only [Nat.zero_add] at *; assumption
        have hn : iV p.types (bX p) R3 ((bX p)[z.toNat]!.next[kk]!).toNat v = true := by simp only [Nat.zero_add] at *; clear hL1 hL2 hL3 hLH hst;grind [iV]
        have hh := hL3.hit w (DL z kk (v + 1)) (by omega) hkn hvn hn hf
        simpa only [Nat.zero_add] using hh
       ·show p.types.length - (v + 1) < p.types.length - v;omega
      ·(apply dV (v + 1, R3, c3); focus (refine Le.renF0 [(0, 0)] (R := ?qA3) (hF := ?qF3) (hz := ?qz3) (hm := ?qm3) (hn := ?qn3) (h1 := ?q13) (h2 := ?q23); (case qF3 => (repeat' (first | exact FamR.here | (apply FamR.cons; focus rfl)))); (case qz3 => (rfl)); (case qm3 => rfl); (case qn3 => decide); all_goals (repeat' (first | exact trivial | refine And.intro ⟨_, rfl, ?_⟩ ?_ | refine And.intro ⟨_, _, rfl, rfl, ?_⟩ ?_ | exact RnL.purI inferInstance | exact RnV.purI inferInstance | exact RnV.optr rfl | exact RnV.imm (gK (by (simp only [List.length_replicate, List.length_set, List.length_append, List.length_singleton] at * <;> omega)))))))
       ·refine ⟨(by show v + 1 ≤ p.types.length; omega), ?_⟩
        refine hL3.skip (i := z.toNat) (k := kk) (v := v) (fun hn => ?_) (fun i' k' v' _ _ _ hd => by unfold DL at hd ⊢; omega)
        simp only [Nat.zero_add] at *
        first
        | assumption
        | (exfalso;clear hL1 hL2 hL3 hLH hst;grind [iV])
       ·show p.types.length - (v + 1) < p.types.length - v;omega
      ·(apply dV (v + 1, R3, c3); focus (refine Le.renF0 [(0, 0)] (R := ?qA4) (hF := ?qF4) (hz := ?qz4) (hm := ?qm4) (hn := ?qn4) (h1 := ?q14) (h2 := ?q24); (case qF4 => (repeat' (first | exact FamR.here | (apply FamR.cons; focus rfl)))); (case qz4 => (rfl)); (case qm4 => rfl); (case qn4 => decide); all_goals (repeat' (first | exact trivial | refine And.intro ⟨_, rfl, ?_⟩ ?_ | refine And.intro ⟨_, _, rfl, rfl, ?_⟩ ?_ | exact RnL.purI inferInstance | exact RnV.purI inferInstance | exact RnV.optr rfl | exact RnV.imm (gK (by (simp only [List.length_replicate, List.length_set, List.length_append, List.length_singleton] at * <;> omega)))))))
       ·refine ⟨(by show v + 1 ≤ p.types.length; omega), ?_⟩
        refine hL3.skip (i := z.toNat) (k := kk) (v := v) (fun hn => ?_) (fun i' k' v' _ _ _ hd => by unfold DL at hd ⊢; omega)
        simp only [Nat.zero_add] at *
        first
        | assumption
        | (exfalso;clear hL1 hL2 hL3 hLH hst;grind [iV])
       ·show p.types.length - (v + 1) < p.types.length - v;omega
      ·(apply dV (v + 1, R3, c3); focus (refine Le.renF0 [(0, 0)] (R := ?qA5) (hF := ?qF5) (hz := ?qz5) (hm := ?qm5) (hn := ?qn5) (h1 := ?q15) (h2 := ?q25); (case qF5 => (repeat' (first | exact FamR.here | (apply FamR.cons; focus rfl)))); (case qz5 => (rfl)); (case qm5 => rfl); (case qn5 => decide); all_goals (repeat' (first | exact trivial | refine And.intro ⟨_, rfl, ?_⟩ ?_ | refine And.intro ⟨_, _, rfl, rfl, ?_⟩ ?_ | exact RnL.purI inferInstance | exact RnV.purI inferInstance | exact RnV.optr rfl | exact RnV.imm (gK (by (simp only [List.length_replicate, List.length_set, List.length_append, List.length_singleton] at * <;> omega)))))))
       ·refine ⟨(by show v + 1 ≤ p.types.length; omega), ?_⟩
        refine hL3.skip (i := z.toNat) (k := kk) (v := v) (fun hn => ?_) (fun i' k' v' _ _ _ hd => by unfold DL at hd ⊢; omega)
        simp only [Nat.zero_add] at *
        first
        | assumption
        | (exfalso;clear hL1 hL2 hL3 hLH hst;grind [iV])
       ·show p.types.length - (v + 1) < p.types.length - v;omega
      ·(apply dV (v + 1, _, _); focus (refine Le.renF0 [(0, 0)] (R := ?qA6) (hF := ?qF6) (hz := ?qz6) (hm := ?qm6) (hn := ?qn6) (h1 := ?q16) (h2 := ?q26); (case qF6 => (repeat' (first | exact FamR.here | (apply FamR.cons; focus rfl)))); (case qz6 => (simp only [List.length_set])); (case qm6 => rfl); (case qn6 => decide); all_goals (repeat' (first | exact trivial | refine And.intro ⟨_, rfl, ?_⟩ ?_ | refine And.intro ⟨_, _, rfl, rfl, ?_⟩ ?_ | exact RnL.purI inferInstance | exact RnV.purI inferInstance | exact RnV.optr rfl | exact RnV.imm (gK (by (simp only [List.length_replicate, List.length_set, List.length_append, List.length_singleton] at * <;> omega)))))))
       ·refine ⟨(by show v + 1 ≤ p.types.length; omega), ?_⟩
        have hf : R3[z.toNat]![v]! = false := by simp only [Nat.zero_add] at *; assumption
        have hn : iV p.types (bX p) R3 ((bX p)[z.toNat]!.next[kk]!).toNat v = true := by simp only [Nat.zero_add] at *; clear hL1 hL2 hL3 hLH hst;grind [iV]
        have hh := hL3.hit w (DL z kk (v + 1)) (by omega) hkn hvn hn hf
        simpa only [Nat.zero_add] using hh
       ·show p.types.length - (v + 1) < p.types.length - v;omega
      ·(apply dV (v + 1, R3, c3); focus (refine Le.renF0 [(0, 0)] (R := ?qA7) (hF := ?qF7) (hz := ?qz7) (hm := ?qm7) (hn := ?qn7) (h1 := ?q17) (h2 := ?q27); (case qF7 => (repeat' (first | exact FamR.here | (apply FamR.cons; focus rfl)))); (case qz7 => (rfl)); (case qm7 => rfl); (case qn7 => decide); all_goals (repeat' (first | exact trivial | refine And.intro ⟨_, rfl, ?_⟩ ?_ | refine And.intro ⟨_, _, rfl, rfl, ?_⟩ ?_ | exact RnL.purI inferInstance | exact RnV.purI inferInstance | exact RnV.optr rfl | exact RnV.imm (gK (by (simp only [List.length_replicate, List.length_set, List.length_append, List.length_singleton] at * <;> omega)))))))
       ·refine ⟨(by show v + 1 ≤ p.types.length; omega), ?_⟩
        refine hL3.skip (i := z.toNat) (k := kk) (v := v) (fun hn => ?_) (fun i' k' v' _ _ _ hd => by unfold DL at hd ⊢; omega)
        simp only [Nat.zero_add] at *
        first
        | assumption
        | (exfalso;clear hL1 hL2 hL3 hLH hst;grind [iV])
       ·show p.types.length - (v + 1) < p.types.length - v;omega
     ·repeat' (first | (apply aK; first | (apply aE;rfl;rfl) | (apply aJ;rfl;rfl;rfl;rfl) | (apply aD;rfl;rfl;rfl) | (first | (apply bR;rfl;rfl;omega;rfl) | (apply aS;rfl;rfl;rfl;rfl)) | (apply aC;rfl;rfl) | (apply a8;rfl;rfl;rfl) | (apply aF;kernel_rfl)) | (apply aL; first | apply aH | apply aB | (apply aN;rfl;all_goals intro hc;have hq:=hc;(try simp only [cH] at hq);try exfalso;omega) | apply bI) | with_reducible apply aA | with_reducible apply bJ | with_reducible apply aW | with_reducible apply bG)
      ·(apply dV (kk + 1, R3, c3); focus (refine Le.renF0 [(0, 0)] (R := ?qA8) (hF := ?qF8) (hz := ?qz8) (hm := ?qm8) (hn := ?qn8) (h1 := ?q18) (h2 := ?q28); (case qF8 => (repeat' (first | exact FamR.here | (apply FamR.cons; focus rfl)))); (case qz8 => (rfl)); (case qm8 => rfl); (case qn8 => decide); all_goals (repeat' (first | exact trivial | refine And.intro ⟨_, rfl, ?_⟩ ?_ | refine And.intro ⟨_, _, rfl, rfl, ?_⟩ ?_ | exact RnL.purI inferInstance | exact RnV.purI inferInstance | exact RnV.optr rfl | exact RnV.imm (gK (by (simp only [List.length_replicate, List.length_set, List.length_append, List.length_singleton] at * <;> omega)))))))
       ·refine ⟨(by show kk + 1 ≤ (bX p)[z.toNat]!.next.length; omega), ?_⟩
        exact hL3.mono fun i' k' v' _ _ _ hd => by unfold DL at hd ⊢; omega
       ·show (bX p)[z.toNat]!.next.length - (kk + 1) < (bX p)[z.toNat]!.next.length - kk;omega
    ·repeat' (first | (apply aK; first | (apply aE;rfl;rfl) | (apply aJ;rfl;rfl;rfl;rfl) | (apply aD;rfl;rfl;rfl) | (first | (apply e6;rfl;rfl;omega;rfl) | (apply aS;rfl;rfl;rfl;rfl)) | (apply aC;rfl;rfl) | (apply cO; (case hx | hi => rfl); (case hm => (omega)); (case hml => (rfl)); (case hα | hf | hg => infer_instance); (case hN => rfl)) | (apply a8;rfl;rfl;rfl) | (apply aF;kernel_rfl)) | (apply aL; first | apply aH | apply aB | (apply aN;rfl;all_goals intro hc;have hq:=hc;(try simp only [cH] at hq);try exfalso;omega) | apply bI) | with_reducible apply aA | with_reducible apply bJ | with_reducible apply aW | with_reducible apply bG)
     ·(apply dV (z - 1, R2, c2); focus (refine Le.renF0 [(0, 0)] (R := ?qA9) (hF := ?qF9) (hz := ?qz9) (hm := ?qm9) (hn := ?qn9) (h1 := ?q19) (h2 := ?q29); (case qF9 => (repeat' (first | exact FamR.here | (apply FamR.cons; focus rfl)))); (case qz9 => (rfl)); (case qm9 => rfl); (case qn9 => decide); all_goals (repeat' (first | exact trivial | refine And.intro ⟨_, rfl, ?_⟩ ?_ | refine And.intro ⟨_, _, rfl, rfl, ?_⟩ ?_ | exact RnL.purI inferInstance | exact RnV.purI inferInstance | exact RnV.optr rfl | exact RnV.imm (gK (by (simp only [List.length_replicate, List.length_set, List.length_append, List.length_singleton] at * <;> omega)))))))
      ·refine ⟨(by show -1 ≤ z - 1; omega), (by show z - 1 < ((bX p).length : Int); omega), ?_⟩
       refine hL2.mono fun i' k' v' _ hk' _ hd => ?_
       unfold DL at hd ⊢
       by_cases e : (i' : Int) = z
       ·have e2 : i' = z.toNat := by omega
        rw [e2] at hk'; omega
       ·omega
      ·show (z - 1 + 1).toNat < (z + 1).toNat;omega
   ·(apply dV (R1, c1); focus (refine Le.renF0 [(0, 0)] (R := ?qA10) (hF := ?qF10) (hz := ?qz10) (hm := ?qm10) (hn := ?qn10) (h1 := ?q110) (h2 := ?q210); (case qF10 => (repeat' (first | exact FamR.here | (apply FamR.cons; focus rfl)))); (case qz10 => (rfl)); (case qm10 => rfl); (case qn10 => decide); all_goals (repeat' (first | exact trivial | refine And.intro ⟨_, rfl, ?_⟩ ?_ | refine And.intro ⟨_, _, rfl, rfl, ?_⟩ ?_ | exact RnL.purI inferInstance | exact RnV.purI inferInstance | exact RnV.optr rfl | exact RnV.imm (gK (by (simp only [List.length_replicate, List.length_set, List.length_append, List.length_singleton] at * <;> omega)))))))
    ·exact (hL1.fin (by omega)).1
    ·exact (hL1.fin (by omega)).2
abbrev fE (bs : List UInt8) (p : Nat) : List AV := [sl cU bs, iv (p : Int)]
def Ko (bs : List UInt8) (q : Int) : Int := ((bs[(q % (bs.length : Int)).toNat]!).toNat : Int) * 131 + ((bs[((q * 7 + 3) % (bs.length : Int)).toNat]!).toNat : Int) * 1117 + q * 29 + q / (bs.length : Int) * 53
def cT (bs : List UInt8) (p : Nat) (n : Int) : Int :=
 if n < 1 then 0 else if (bs.length : Int) = 0 then 0 else
 if (p : Int) + 1 - 1 < (bs.length : Int) then ((bs[((p : Int) + 1 - 1).toNat]!).toNat : Int) % n
 else (((Ko bs ((p : Int) + 1 - 1)).toNat ^^^ (Ko bs ((p : Int) + 1 - 1) / 64).toNat : Nat) : Int) % n
theorem fP (bs:List UInt8) (p:Nat) (n:Int):0 ≤ cT bs p n ∧ (cT bs p n < n ∨ n < 1 ∧ cT bs p n = 0) := by
 unfold cT
 split
 ·omega
 ·split
  ·omega
  ·split
   ·exact ⟨Int.emod_nonneg _ (by omega), .inl (Int.emod_lt_of_pos _ (by omega))⟩
   ·exact ⟨Int.emod_nonneg _ (by omega), .inl (Int.emod_lt_of_pos _ (by omega))⟩
def gU (bs : List UInt8) (p : Nat) (xs : List Int) : Int := xs[(cT bs p (xs.length : Int)).toNat]!
class NumL (cs : List AV) (xs : outParam (List Int)) : Prop where h : cs = flat cI xs
instance NumL.nil : NumL [] [] := ⟨rfl⟩
instance NumL.cons {n : Int} {cs : List AV} {xs : List Int} [h : NumL cs xs] : NumL (.v (.int .i64 n) :: cs) (n :: xs) := ⟨by rw [h.h]; rfl⟩
theorem jH {bs:List UInt8}{p:Nat}{n:Int}{N:Nat}{Q:Exit → AS → Prop}{all:Array Oper}{rest:List Oper}{tsl:List (Nat × AV)}{hsl:List (Nat × Option (List AV))}{nidl:Nat}{z0:Lo}{md:Md}{d:Nat}{ty:TypeId}{pos:String}{af:Array Edge}{tys:Array TypeId}{x0 x1:Operand}{i0:Nat}(ha0:ev (lk tsl) x0 = some (.optr i0 0)) (ha1:ev (lk tsl) x1 = some (iv n)) (hH0:cA hsl i0 = some (fE bs p)) (hmc:MC Tryz.prog 47 [.optr 0 0,iv n] [(0,some (fE bs p))] 1 (fun _:Unit => True) (fun _ => iv (cT bs p n)) (fun _ => [(0,some (fE bs (p + 1)))])) (hM:Nat.ble (nidl + 0) dJ = true) (hN:Nat.blt d N = true){md':Md}[hmd:MdA md (hO [x0,x1] ++ [.inr i0]) (List.map Sum.inr (List.map Prod.fst ([(i0,some (fE bs (p + 1)))]:List (Nat × Option (List AV)))) ++ [.inl d]) md'] (kk:RW Tryz.prog N all Q md' rest ⟨(d,iv (cT bs p n)) :: tsl,iY hsl [(i0,some (fE bs (p + 1)))],nidl + 0,z0⟩):RW Tryz.prog N all Q md (⟨some d,.call ⟨.value (.func 47),#[x0,x1],tys⟩,ty,pos,af,none⟩ :: rest) ⟨tsl,hsl,nidl,z0⟩ := by
 refine cL [i0] 1 [(i0, some (fE bs (p + 1)))] hmc (avs := [.optr i0 0, iv n]) ?_ rfl ?_ rfl ?_ (by simpa using hM) ?_ ?_ ?_ hN (md' := md') (hmd := hmd) kk
 ·show evL (lk tsl) [x0, x1] = _
  simp only [evL, ha0, ha1]
 ·exact ⟨⟨_, _, rfl, hH0, by (repeat' (exact RnL.purI inferInstance))⟩, trivial⟩
 ·(repeat' (first|exact RnL.purI inferInstance|exact RnV.optr rfl|refine RnL.cons ?_ ?_))
 ·(repeat' (exact RnV.purI inferInstance))
 ·simp [dT]
 ·(repeat' (first|exact trivial|(refine And.intro ⟨0, _, rfl, rfl, ?_⟩ ?_)|exact RnL.purI inferInstance))
theorem Js {bs:List UInt8}{p:Nat}{xs:List Int}{N:Nat}{Q:Exit → AS → Prop}{all:Array Oper}{rest:List Oper}{tsl:List (Nat × AV)}{hsl:List (Nat × Option (List AV))}{nidl:Nat}{z0:Lo}{md:Md}{d:Nat}{ty:TypeId}{pos:String}{af:Array Edge}{tys:Array TypeId}{x0 x1:Operand}{i0:Nat}(ha0:ev (lk tsl) x0 = some (.optr i0 0)) (ha1:ev (lk tsl) x1 = some (sl cI xs)) (hH0:cA hsl i0 = some (fE bs p)) (hmc:MC Tryz.prog 48 [.optr 0 0,sl cI xs] [(0,some (fE bs p))] 1 (fun _:Unit => True) (fun _ => iv (gU bs p xs)) (fun _ => [(0,some (fE bs (p + 1)))])) (hM:Nat.ble (nidl + 0) dJ = true) (hN:Nat.blt d N = true){md':Md}[hmd:MdA md (hO [x0,x1] ++ [.inr i0]) (List.map Sum.inr (List.map Prod.fst ([(i0,some (fE bs (p + 1)))]:List (Nat × Option (List AV)))) ++ [.inl d]) md'] (kk:RW Tryz.prog N all Q md' rest ⟨(d,iv (gU bs p xs)) :: tsl,iY hsl [(i0,some (fE bs (p + 1)))],nidl + 0,z0⟩):RW Tryz.prog N all Q md (⟨some d,.call ⟨.value (.func 48),#[x0,x1],tys⟩,ty,pos,af,none⟩ :: rest) ⟨tsl,hsl,nidl,z0⟩ := by
 refine cL [i0] 1 [(i0, some (fE bs (p + 1)))] hmc (avs := [.optr i0 0, sl cI xs]) ?_ rfl ?_ rfl ?_ (by simpa using hM) ?_ ?_ ?_ hN (md' := md') (hmd := hmd) kk
 ·show evL (lk tsl) [x0, x1] = _
  simp only [evL, ha0, ha1]
 ·exact ⟨⟨_, _, rfl, hH0, by (repeat' (exact RnL.purI inferInstance))⟩, trivial⟩
 ·(repeat' (first|exact RnL.purI inferInstance|exact RnV.optr rfl|refine RnL.cons ?_ ?_))
 ·(repeat' (exact RnV.purI inferInstance))
 ·simp [dT]
 ·(repeat' (first|exact trivial|(refine And.intro ⟨0, _, rfl, rfl, ?_⟩ ?_)|exact RnL.purI inferInstance))
theorem GO {bs:List UInt8}{p:Nat}{xs:List Int}{N:Nat}{Q:Exit → AS → Prop}{all:Array Oper}{rest:List Oper}{tsl:List (Nat × AV)}{hsl:List (Nat × Option (List AV))}{nidl:Nat}{z0:Lo}{md:Md}{d:Nat}{ty:TypeId}{pos:String}{af:Array Edge}{tys:Array TypeId}{x0 x1:Operand}{i0 i1:Nat}(ha0:ev (lk tsl) x0 = some (.optr i0 0)) (ha1:ev (lk tsl) x1 = some (.own i1 0 xs.length 1)) (hH0:cA hsl i0 = some (fE bs p)) (hH1:cA hsl i1 = some (flat cI xs)) (hdd:Go.AL.distinct [i0,i1] = true) (hmc:MC Tryz.prog 48 [.optr 0 0,.own 1 0 xs.length 1] [(0,some (fE bs p)),(1,some (flat cI xs))] 2 (fun _:Unit => True) (fun _ => iv (gU bs p xs)) (fun _ => [(0,some (fE bs (p + 1)))])) (hM:Nat.ble (nidl + 0) dJ = true) (hN:Nat.blt d N = true){md':Md}[hmd:MdA md (hO [x0,x1] ++ [.inr i0,.inr i1]) (List.map Sum.inr (List.map Prod.fst ([(i0,some (fE bs (p + 1))),(i1,none)]:List (Nat × Option (List AV)))) ++ [.inl d]) md'] (kk:RW Tryz.prog N all Q md' rest ⟨(d,iv (gU bs p xs)) :: tsl,iY hsl [(i0,some (fE bs (p + 1))),(i1,none)],nidl + 0,z0⟩):RW Tryz.prog N all Q md (⟨some d,.call ⟨.value (.func 48),#[x0,x1],tys⟩,ty,pos,af,none⟩ :: rest) ⟨tsl,hsl,nidl,z0⟩ := by
 refine cL [i0, i1] 2 [(i0, some (fE bs (p + 1))), (i1, none)] hmc (avs := [.optr i0 0, .own i1 0 xs.length 1]) ?_ hdd ?_ rfl ?_ (by simpa using hM) ?_ ?_ ?_ hN (md' := md') (hmd := hmd) kk
 ·show evL (lk tsl) [x0, x1] = _
  simp only [evL, ha0, ha1]
 ·exact ⟨⟨_, _, rfl, hH0, by (repeat' (exact RnL.purI inferInstance))⟩, ⟨⟨_, _, rfl, hH1, by (repeat' (exact RnL.purI inferInstance))⟩, trivial⟩⟩
 ·(repeat' (first|exact RnL.purI inferInstance|exact RnV.own rfl|exact RnV.optr rfl|refine RnL.cons ?_ ?_))
 ·(repeat' (exact RnV.purI inferInstance))
 ·simp [dT]
 ·(repeat' (first|exact trivial|(refine And.intro ⟨0, _, rfl, rfl, ?_⟩ ?_)|exact RnL.purI inferInstance))
theorem k9 (bs:List UInt8) (p:Nat) (n:Int) (hb:bs.length ≤ 2000) (hp:p ≤ 1000000) (hn0:0 ≤ n) (hn:n ≤ 1000000):MC Tryz.prog 47 [.optr 0 0,iv n] [(0,some (fE bs p))] 1 (fun _:Unit => True) (fun _ => iv (cT bs p n)) (fun _ => [(0,some (fE bs (p + 1)))]) := by
 have hdiv : 0 ≤ ((p : Int) + 1 - 1) / (bs.length : Int) ∧ ((p : Int) + 1 - 1) / (bs.length : Int) ≤ p + 1 - 1 := ⟨Int.ediv_nonneg (by omega) (by omega), Int.ediv_le_self _ (by omega)⟩
 (refine cC Tryz.func47 rfl (by simp [Tryz.ntmps47]) ?_; rw [Tryz.ntmps47])
 repeat' (first|(apply aK;first|(apply aE;rfl;rfl)|(apply aJ;rfl;rfl;rfl;rfl)|(apply aD;rfl;rfl;rfl)|(first|(apply aY;rfl;rfl;rfl;(assumption))|(apply a6;rfl;rfl;rfl;(assumption))|(apply bE;(case hj|hb|hN => rfl);all_goals (intro hg;have hq := hg;(try simp only [cH] at hq);(try (exfalso;omega)))))|(first|(apply bR;rfl;rfl;omega;rfl)|(apply e6;rfl;rfl;omega;rfl)|(apply Ly;rfl;rfl;omega;omega;rfl)|(apply K7;rfl;rfl;omega;rfl)|(apply Lk;rfl;rfl;omega;rfl)|(apply K8;rfl;rfl;omega;rfl)|(apply aS;rfl;rfl;rfl;rfl))|(apply aC;rfl;rfl)|(first|(apply bK;rfl;(assumption);rfl;rfl)|(apply bC;rfl;(assumption);rfl;rfl))|(apply cO;(case hx|hi => rfl);(case hm => (first|omega|exact ⟨Int.emod_nonneg _ (by omega), Int.emod_lt_of_pos _ (by omega)⟩));(case hml => (rfl));(case hα | hf|hg => infer_instance);(case hN => rfl))|(apply a8;rfl;rfl;rfl)|(apply aF;kernel_rfl)|(apply F8;rfl;rfl;(case' kk => intro hbd))|(apply bV;rfl;rfl;rfl)|(apply aV;rfl;rfl;rfl;rfl;rfl;(case hl => (simp;done));(exact (rfl:_=[_, _]))))|(apply aL;first|apply aH|apply aB|(apply bZ;kernel_rfl)|(apply bU;rfl;(rfl))|(apply aN;rfl;all_goals intro hc;have hq:=hc;(try simp only [cH] at hq);try exfalso;omega)|apply aR|apply aP)|with_reducible apply aA|with_reducible apply bH)
 all_goals (refine aO rfl ?_; refine bY () trivial ?_ ⟨.inr (Eq.trans (b := some _) rfl ?_), trivial⟩)
 all_goals first|rfl|skip
 all_goals simp only [b8, AV.v.injEq, Value.int.injEq, true_and, cT]
 ·rw [if_neg (by omega), if_pos (by omega)]
 ·rw [if_neg (by omega), if_neg (by omega), if_pos (by omega)]
 ·rw [if_neg (by omega), if_neg (by omega), if_neg (by omega)]; rfl
 ·rw [if_pos (by omega)]
theorem LZ (bs:List UInt8) (p:Nat) (xs:List Int) (hb:bs.length ≤ 2000) (hp:p ≤ 1000000) (h0:0 < xs.length) (hn:xs.length ≤ 1000000):MC Tryz.prog 48 [.optr 0 0,sl cI xs] [(0,some (fE bs p))] 1 (fun _:Unit => True) (fun _ => iv (gU bs p xs)) (fun _ => [(0,some (fE bs (p + 1)))]) := by
 have hpf := fP bs p xs.length
 (refine cC Tryz.func48 rfl (by simp [Tryz.ntmps48]) ?_; rw [Tryz.ntmps48])
 repeat' (first|(apply aK;first|(apply aE;rfl;rfl)|(apply aJ;rfl;rfl;rfl;rfl)|(apply aC;rfl;rfl)|(apply cO;(case hx|hi => rfl);(case hm => (omega));(case hml => (rfl));(case hα | hf|hg => infer_instance);(case hN => rfl))|(apply jH;rfl;rfl;(rfl);(apply k9 <;> (first|assumption|omega));rfl;rfl)|(apply a8;rfl;rfl;rfl)|(apply aF;kernel_rfl))|(apply aL;first|apply aH|apply aB|apply aP)|with_reducible apply aA)
 (refine aO rfl ?_; refine bY () trivial ?_ ⟨.inr (Eq.trans (b := some _) rfl ?_), trivial⟩)
 ·rfl
 ·rfl
theorem GM {Q:Exit → AS → Prop}{all:Array Oper}{rest:List Oper}{N:Nat}{tsl:List (Nat × AV)}{hsl:List (Nat × Option (List AV))}{nidl:Nat}{z0:Lo}{md:Md}{d:Nat}{ty:TypeId}{pos:String}{af:Array Edge}{tys:Array TypeId}
  {bs : List UInt8} {p m : Nat} {cs : List AV} {xs : List Int} {x0 x1 : Operand} {i0 : Nat} (ha0 : ev (lk tsl) x0 = some (.optr i0 0)) (ha1 : ev (lk tsl) x1 = some (.imm m cs)) (hcs : NumL cs xs) (hH0 : cA hsl i0 = some (fE bs p))
  (hm : m = xs.length) (hb : bs.length ≤ 2000) (hp : p ≤ 1000000) (h0 : 0 < xs.length) (hn : xs.length ≤ 1000000) (hM : Nat.ble (nidl + 0) dJ = true) (hN : Nat.blt d N = true) {md' : Md}
  [hmd : MdA md (hO [x0, x1] ++ [.inr i0]) [.inr i0, .inl d] md']
  (kk : RW Tryz.prog N all Q md' rest ⟨(d, iv (gU bs p xs)) :: tsl, (i0, some (fE bs (p + 1))) :: hsl, nidl + 0, z0⟩) : RW Tryz.prog N all Q md (⟨some d, .call ⟨.value (.func 48), #[x0, x1], tys⟩, ty, pos, af, none⟩ :: rest) ⟨tsl, hsl, nidl, z0⟩ := by
 have h := hcs.h
 subst hm h
 exact Js ha0 ha1 hH0 (LZ bs p xs hb hp h0 hn) hM hN (hmd := hmd) kk
theorem JQ (bs:List UInt8) (p:Nat) (xs:List Int) (hb:bs.length ≤ 2000) (hp:p ≤ 1000000) (h0:0 < xs.length) (hn:xs.length ≤ 1000000):MC Tryz.prog 48 [.optr 0 0,.own 1 0 xs.length 1] [(0,some (fE bs p)),(1,some (flat cI xs))] 2 (fun _:Unit => True) (fun _ => iv (gU bs p xs)) (fun _ => [(0,some (fE bs (p + 1)))]) := by
 have hpf := fP bs p xs.length
 (refine cC Tryz.func48 rfl (by simp [Tryz.ntmps48]) ?_; rw [Tryz.ntmps48])
 repeat' (first|(apply aK;first|(apply aE;rfl;rfl)|(apply fF;(case hx|hH => rfl);(case hf|hg|hα => infer_instance);(case hk => omega);(case hc|hN => rfl))|(apply aC;rfl;rfl)|(apply cR;rfl;rfl;(omega);rfl)|(apply jH;rfl;rfl;(rfl);(apply k9 <;> (first|assumption|omega));rfl;rfl)|(apply a8;rfl;rfl;rfl)|(apply aF;kernel_rfl))|(apply aL;first|apply aH|apply aB|apply aP)|with_reducible apply aA)
 (refine aO rfl ?_; refine bY () trivial ?_ ⟨.inr (Eq.trans (b := some _) rfl ?_), trivial⟩)
 ·rfl
 ·rfl
theorem nQ {Q:Exit → AS → Prop}{all:Array Oper}{rest:List Oper}{N:Nat}{tsl:List (Nat × AV)}{hsl:List (Nat × Option (List AV))}{nidl:Nat}{z0:Lo}{md:Md}{d:Nat}{ty:TypeId}{pos:String}{af:Array Edge}{tys:Array TypeId}
  {bs : List UInt8} {p m : Nat} {cs : List AV} {xs : List Int} {x0 x1 : Operand} {i0 i1 : Nat} (ha0 : ev (lk tsl) x0 = some (.optr i0 0)) (ha1 : ev (lk tsl) x1 = some (.own i1 0 m 1)) (hH0 : cA hsl i0 = some (fE bs p)) (hH1 : cA hsl i1 = some cs) (hcs : NumL cs xs)
  (hdd : Go.AL.distinct [i0, i1] = true) (hm : m = xs.length) (hb : bs.length ≤ 2000) (hp : p ≤ 1000000) (h0 : 0 < xs.length) (hn : xs.length ≤ 1000000) (hM : Nat.ble (nidl + 0) dJ = true) (hN : Nat.blt d N = true) {md' : Md}
  [hmd : MdA md (hO [x0, x1] ++ [.inr i0, .inr i1]) [.inr i0, .inr i1, .inl d] md']
  (kk : RW Tryz.prog N all Q md' rest ⟨(d, iv (gU bs p xs)) :: tsl, iY hsl [(i0, some (fE bs (p + 1))), (i1, none)], nidl + 0, z0⟩) : RW Tryz.prog N all Q md (⟨some d, .call ⟨.value (.func 48), #[x0, x1], tys⟩, ty, pos, af, none⟩ :: rest) ⟨tsl, hsl, nidl, z0⟩ := by
 have h := hcs.h
 subst hm h
 exact GO ha0 ha1 hH0 hH1 hdd (JQ bs p xs hb hp h0 hn) hM hN (hmd := hmd) kk
theorem Kr (bs:List UInt8) (hb:bs.length ≤ 1048576):MC Tryz.prog 46 [sl cU bs] [] 0 (fun _:Unit => True) (fun _ => .optr 0 0) (fun _ => [(0,some (fE (bs.take 2000) 0))]) := by
 (refine cC Tryz.func46 rfl (by simp [Tryz.ntmps46]) ?_; rw [Tryz.ntmps46])
 repeat' (first|(apply aK;first|(apply aE;rfl;rfl)|(apply aS;rfl;rfl;rfl;rfl)|(apply aC;rfl;rfl)|(apply a8;rfl;rfl;rfl)|(apply aF;kernel_rfl)|(apply bW;rfl;(exact (rfl:_=some [_, _]));(exact (rfl:_=[_, _]));rfl)|(apply nK;rfl;infer_instance;rfl;rfl;(omega);rfl)|(apply bT;rfl;rfl;rfl;rfl))|(apply aL;first|apply aH|apply aB|(apply aN;rfl;all_goals intro hc;have hq:=hc;(try simp only [cH] at hq);try exfalso;omega)|apply aR|apply aP)|with_reducible apply aA)
 ·(refine aO rfl ?_; refine bY () trivial ?_ ⟨.inr (Eq.trans (b := some _) rfl ?_), trivial⟩)
  ·rfl
  ·rfl
 ·(refine aO rfl ?_; refine bY () trivial ?_ ⟨.inr (Eq.trans (b := some _) rfl ?_), trivial⟩)
  ·rfl
  ·rw [List.take_of_length_le (by omega)]; rfl
def st (op x y n : Int) : AL.Stmt := .mk op x y n [] []
def kA (bs : List UInt8) (p : Nat) : AL.Stmt × Nat :=
 let box := 1 + cT bs p 2
 let owner := gU bs (p + 1) [1, 2, 1, 4, 5]
 let c := cT bs (p + 1 + 1) 11
 if c = 0 then (st 1 0 0 (cT bs (p + 1 + 1 + 1) 10), p + 4)
 else if c = 1 then (st 2 box 0 (cT bs (p + 1 + 1 + 1) 10), p + 4)
 else if c = 2 then (st 3 box (3 - box) 0, p + 3)
 else if c = 3 then (st 4 3 owner 0, p + 3)
 else if c = 4 ∨ c = 5 then (st 5 4 (gU bs (p + 1 + 1 + 1) [1, 2, 1, 5]) 0, p + 4)
 else if c = 6 then (st 6 0 (gU bs (p + 1 + 1 + 1) [3, 4, 1, 2, 5]) 0, p + 4)
 else if c = 7 then (st 7 (gU bs (p + 1 + 1 + 1) [4, 1, 2, 5]) 0 0, p + 4)
 else if c = 8 then (st 8 box 0 0, p + 3)
 else (st 5 5 (gU bs (p + 1 + 1 + 1) [4, 1, 2]) 0, p + 4)
def iG (one : Nat → AL.Stmt × Nat) (s : AL.Stmt) (p : Nat) : Nat → List AL.Stmt × Nat
 | 0 => ([s], p)
 | k + 1 => ((iG one s p k).1 ++ [(one (iG one s p k).2).1], (one (iG one s p k).2).2)
def vZ (bs : List UInt8) : Nat → Nat → AL.Stmt × Nat
 | 0, p => kA bs p
 | d + 1, p =>
  let c := cT bs (p + 1 + 1) 11
  if c = 9 then
   let r := iG (vZ bs d) (st 2 1 0 (cT bs (p + 1 + 1 + 1 + 1) 10)) (p + 1 + 1 + 1 + 1 + 1) (cT bs (p + 1 + 1 + 1) 3).toNat
   let e := kA bs r.2
   (.mk 9 0 0 0 r.1 [e.1], e.2)
  else if c = 10 then
   let a := kA bs (p + 1 + 1 + 1)
   let b := kA bs a.2
   (.mk 10 0 0 0 [a.1, b.1] [], b.2)
  else kA bs p
def fQ (bs : List UInt8) (d : Int) (p : Nat) : AL.Stmt × Nat := vZ bs d.toNat p
def eW (bs : List UInt8) (d n : Int) (p : Nat) : List AL.Stmt × Nat := iG (fQ bs d) (st 2 1 0 (cT bs p 10)) (p + 1) n.toNat
theorem vP (bs:List UInt8) (p:Nat):(kA bs p).2 ≤ p + 4 := by
 unfold kA;dsimp only;repeat' split
 all_goals omega
theorem vK (bs:List UInt8) (p:Nat):dO (kA bs p).1 = 1 := by
 unfold kA st;dsimp only;repeat' split
 all_goals simp [dO, bO]
theorem y8 {one:Nat → AL.Stmt × Nat}{c:Nat}(h:∀ p,(one p).2 ≤ p + c) (s:AL.Stmt) (p:Nat):∀ k,(iG one s p k).2 ≤ p + k * c
 | 0 => by simp [iG]
 | k + 1 => by
  have := y8 h s p k
  have := h (iG one s p k).2
  simp only [iG, Nat.succ_mul]; omega
theorem zL {one:Nat → AL.Stmt × Nat}{c:Nat}(h:∀ p,dO (one p).1 ≤ c) (s:AL.Stmt) (p:Nat):∀ k,bO (iG one s p k).1 ≤ dO s + k * c
 | 0 => by simp [iG, bO]
 | k + 1 => by
  have := zL h s p k
  have := h (iG one s p k).2
  simp only [iG, Nat.succ_mul, fI, bO]; omega
def Be : Nat → Nat
 | 0 => 4
 | d + 1 => 9 + 2 * Be d
def Fu : Nat → Nat
 | 0 => 1
 | d + 1 => 3 + 2 * Fu d
theorem k3 (bs:List UInt8) (p:Nat):(cT bs p 3).toNat ≤ 2 := by have := fP bs p 3; omega
theorem Hx (bs:List UInt8):∀ d p,(vZ bs d p).2 ≤ p + Be d
 | 0, p => vP bs p
 | d + 1, p => by
  have h0 := vP bs p
  have h1 := y8 (Hx bs d) (st 2 1 0 (cT bs (p + 1 + 1 + 1 + 1) 10)) (p + 1 + 1 + 1 + 1 + 1) (cT bs (p + 1 + 1 + 1) 3).toNat
  have h2 := k3 bs (p + 1 + 1 + 1)
  have h3 : (cT bs (p + 1 + 1 + 1) 3).toNat * Be d ≤ 2 * Be d := Nat.mul_le_mul_right _ h2
  have h4 := vP bs (iG (vZ bs d) (st 2 1 0 (cT bs (p + 1 + 1 + 1 + 1) 10)) (p + 1 + 1 + 1 + 1 + 1) (cT bs (p + 1 + 1 + 1) 3).toNat).2
  have h5 := vP bs (p + 1 + 1 + 1)
  have h6 := vP bs (kA bs (p + 1 + 1 + 1)).2
  have h7 : 1 ≤ Be d := by cases d <;> simp only [Be] <;> omega
  simp only [vZ, Be]
  split
  ·dsimp only;omega
  ·split
   ·dsimp only;omega
   ·omega
theorem Hl (bs:List UInt8):∀ d p,dO (vZ bs d p).1 ≤ Fu d
 | 0, p => by rw [vZ, vK]; decide
 | d + 1, p => by
  have h0 := vK bs p
  have h1 := zL (Hl bs d) (st 2 1 0 (cT bs (p + 1 + 1 + 1 + 1) 10)) (p + 1 + 1 + 1 + 1 + 1) (cT bs (p + 1 + 1 + 1) 3).toNat
  have h2 := k3 bs (p + 1 + 1 + 1)
  have h3 : (cT bs (p + 1 + 1 + 1) 3).toNat * Fu d ≤ 2 * Fu d := Nat.mul_le_mul_right _ h2
  have h4 := vK bs (iG (vZ bs d) (st 2 1 0 (cT bs (p + 1 + 1 + 1 + 1) 10)) (p + 1 + 1 + 1 + 1 + 1) (cT bs (p + 1 + 1 + 1) 3).toNat).2
  have h5 := vK bs (p + 1 + 1 + 1)
  have h6 := vK bs (kA bs (p + 1 + 1 + 1)).2
  have h7 : dO (st 2 1 0 (cT bs (p + 1 + 1 + 1 + 1) 10)) = 1 := by simp [st, dO, bO]
  simp only [vZ, Fu]
  split
  ·simp only [dO, bO]; omega
  ·split
   ·simp only [dO, bO]; omega
   ·omega
theorem G8 (bs:List UInt8){d:Int}(h:d ≤ 2) (p:Nat):(fQ bs d p).2 ≤ p + 43 := by
 have h1 := Hx bs d.toNat p
 have h2 : Be d.toNat ≤ 43 := by
  have : d.toNat = 0 ∨ d.toNat = 1 ∨ d.toNat = 2 := by omega
  rcases this with h|h|h <;> rw [h] <;> decide
 exact Nat.le_trans h1 (by omega)
theorem LR (bs:List UInt8){d:Int}(h:d ≤ 2) (p:Nat):dO (fQ bs d p).1 ≤ 13 := by
 have h1 := Hl bs d.toNat p
 have h2 : Fu d.toNat ≤ 13 := by
  have : d.toNat = 0 ∨ d.toNat = 1 ∨ d.toNat = 2 := by omega
  rcases this with h|h|h <;> rw [h] <;> decide
 exact Nat.le_trans h1 h2
theorem w4 {one:Nat → AL.Stmt × Nat}(s:AL.Stmt) (p:Nat):∀ k,(iG one s p k).1.length = k + 1
 | 0 => rfl
 | k + 1 => by simp only [iG, List.length_append, w4 s p k, List.length_cons, List.length_nil]
theorem ES (bs:List UInt8) (d:Int) (n p:Nat):(eW bs d (n:Int) p).1.length = n + 1 := w4 _ _ _
theorem Jn (bs:List UInt8) (d:Int) (k p:Nat):eW bs d ((k + 1:Nat):Int) p = ((eW bs d (k:Int) p).1 ++ [(fQ bs d (eW bs d (k:Int) p).2).1],(fQ bs d (eW bs d (k:Int) p).2).2) := rfl
theorem iQ {xs:List AL.Stmt}{m:Nat}{s:AL.Stmt}(hm:m = xs.length):((flat aX xs).drop 0).take (m * 6) ++ [iv s.op,iv s.x,iv s.y,iv s.n,sl aX s.th,sl aX s.el] = flat aX (xs ++ [s]) := iH hm (eC s).symm
def MZ (s : AL.Stmt) (a : Int) : AL.Stmt := .mk a s.x s.y s.n s.th s.el
def uX (s : AL.Stmt) (a : Int) : AL.Stmt := .mk s.op a s.y s.n s.th s.el
def uY (s : AL.Stmt) (a : Int) : AL.Stmt := .mk s.op s.x a s.n s.th s.el
def uN (s : AL.Stmt) (a : Int) : AL.Stmt := .mk s.op s.x s.y a s.th s.el
theorem LC {xs:List AL.Stmt}{k:Nat}{a:Int}(hk:k < xs.length):hZ (flat aX xs) (0 + k * 6 + 0) [iv a] = flat aX (xs.set k (MZ xs[k]! a)) := gF hk (by simp) (by rw [eC,eC]; rfl)
theorem Ms {xs:List AL.Stmt}{k:Nat}{a:Int}(hk:k < xs.length):hZ (flat aX xs) (0 + k * 6 + 1) [iv a] = flat aX (xs.set k (uX xs[k]! a)) := gF hk (by simp) (by rw [eC,eC]; rfl)
theorem Mq {xs:List AL.Stmt}{k:Nat}{a:Int}(hk:k < xs.length):hZ (flat aX xs) (0 + k * 6 + 2) [iv a] = flat aX (xs.set k (uY xs[k]! a)) := gF hk (by simp) (by rw [eC,eC]; rfl)
theorem MP {xs:List AL.Stmt}{k:Nat}{a:Int}(hk:k < xs.length):hZ (flat aX xs) (0 + k * 6 + 3) [iv a] = flat aX (xs.set k (uN xs[k]! a)) := gF hk (by simp) (by rw [eC,eC]; rfl)
theorem x9 (bs:List UInt8){d:Int}(h:d ≤ 2) (n:Int) (p:Nat):(eW bs d n p).2 ≤ p + 1 + n.toNat * 43 := y8 (G8 bs h) _ _ _
theorem Ju (bs:List UInt8){d:Int}(h:d ≤ 2) (n:Int) (p:Nat):bO (eW bs d n p).1 ≤ 1 + n.toNat * 13 := by
 have h7 : dO (st 2 1 0 (cT bs p 10)) = 1 := by simp [st, dO, bO]
 have := zL (LR bs h) (st 2 1 0 (cT bs p 10)) (p + 1) n.toNat
 rw [h7] at this
 exact this
theorem CC (bs:List UInt8){d:Int}(h:0 < d) (p:Nat):fQ bs d p = 
  let c := cT bs (p + 1 + 1) 11
  if c = 9 then
   let r := eW bs (d - 1) (cT bs (p + 1 + 1 + 1) 3) (p + 1 + 1 + 1 + 1)
   let e := fQ bs 0 r.2
   (.mk 9 0 0 0 r.1 [e.1], e.2)
  else if c = 10 then
   let a := fQ bs 0 (p + 1 + 1 + 1)
   let b := fQ bs 0 a.2
   (.mk 10 0 0 0 [a.1, b.1] [], b.2)
  else kA bs p := by
 have : d.toNat = (d - 1).toNat + 1 := by omega
 simp only [fQ, this, vZ, eW]
 rfl
theorem My (s:AL.Stmt):flat aX [s] = [iv s.op,iv s.x,iv s.y,iv s.n,sl aX s.th,sl aX s.el] := by simp [flat,eC]
theorem MJ (s t:AL.Stmt):flat aX [s,t] = [iv s.op,iv s.x,iv s.y,iv s.n,sl aX s.th,sl aX s.el,iv t.op,iv t.x,iv t.y,iv t.n,sl aX t.th,sl aX t.el] := by simp [flat,eC]
theorem LF (bs:List UInt8){d:Int}(h0:0 ≤ d) (p:Nat) (h:¬ 0 < d ∨ (cT bs (p + 1 + 1) 11 ≠ 9 ∧ cT bs (p + 1 + 1) 11 ≠ 10)):fQ bs d p = kA bs p := by
 by_cases hd : 0 < d
 ·rw [CC bs hd p]
  dsimp only
  rw [if_neg (by omega), if_neg (by omega)]
 ·have : d = 0 := by omega
  subst this;rfl
theorem Lp (bs:List UInt8){d:Int}(hd:0 < d) (p:Nat) (h:cT bs (p + 1 + 1) 11 = 9):fQ bs d p = (.mk 9 0 0 0 (eW bs (d - 1) (cT bs (p + 1 + 1 + 1) 3) (p + 1 + 1 + 1 + 1)).1 [(fQ bs 0 (eW bs (d - 1) (cT bs (p + 1 + 1 + 1) 3) (p + 1 + 1 + 1 + 1)).2).1],(fQ bs 0 (eW bs (d - 1) (cT bs (p + 1 + 1 + 1) 3) (p + 1 + 1 + 1 + 1)).2).2) := by
 rw [CC bs hd p]
 dsimp only
 rw [if_pos h]
theorem Jh (bs:List UInt8){d:Int}(hd:0 < d) (p:Nat) (h:cT bs (p + 1 + 1) 11 = 10):fQ bs d p = (.mk 10 0 0 0 [(fQ bs 0 (p + 1 + 1 + 1)).1,(fQ bs 0 (fQ bs 0 (p + 1 + 1 + 1)).2).1] [],(fQ bs 0 (fQ bs 0 (p + 1 + 1 + 1)).2).2) := by
 rw [CC bs hd p]
 dsimp only
 rw [if_neg (by omega), if_pos h]
theorem A4 {bs:List UInt8}{p:Nat}{ts:List Int}{dp:Int}{N:Nat}{Q:Exit → AS → Prop}{all:Array Oper}{rest:List Oper}{tsl:List (Nat × AV)}{hsl:List (Nat × Option (List AV))}{nidl:Nat}{z0:Lo}{md:Md}{d:Nat}{ty:TypeId}{pos:String}{af:Array Edge}{tys:Array TypeId}{x0 x1 x2:Operand}{i0:Nat}(ha0:ev (lk tsl) x0 = some (.optr i0 0)) (ha1:ev (lk tsl) x1 = some (sl cI ts)) (ha2:ev (lk tsl) x2 = some (iv dp)) (hH0:cA hsl i0 = some (fE bs p)) (hmc:MC Tryz.prog 164 [.optr 0 0,sl cI ts,iv dp] [(0,some (fE bs p))] 1 (fun _:Unit => True) (fun _ => fA (fQ bs dp p).1) (fun _ => [(0,some (fE bs (fQ bs dp p).2))])) (hM:Nat.ble (nidl + 0) dJ = true) (hN:Nat.blt d N = true){md':Md}[hmd:MdA md (hO [x0,x1,x2] ++ [.inr i0]) (List.map Sum.inr (List.map Prod.fst ([(i0,some (fE bs (fQ bs dp p).2))]:List (Nat × Option (List AV)))) ++ [.inl d]) md'] (kk:RW Tryz.prog N all Q md' rest ⟨(d,fA (fQ bs dp p).1) :: tsl,iY hsl [(i0,some (fE bs (fQ bs dp p).2))],nidl + 0,z0⟩):RW Tryz.prog N all Q md (⟨some d,.call ⟨.value (.func 164),#[x0,x1,x2],tys⟩,ty,pos,af,none⟩ :: rest) ⟨tsl,hsl,nidl,z0⟩ := by
 refine cL [i0] 1 [(i0, some (fE bs (fQ bs dp p).2))] hmc (avs := [.optr i0 0, sl cI ts, iv dp]) ?_ rfl ?_ rfl ?_ (by simpa using hM) ?_ ?_ ?_ hN (md' := md') (hmd := hmd) kk
 ·show evL (lk tsl) [x0, x1, x2] = _
  simp only [evL, ha0, ha1, ha2]
 ·exact ⟨⟨_, _, rfl, hH0, by (repeat' (exact RnL.purI inferInstance))⟩, trivial⟩
 ·(repeat' (first|exact RnL.purI inferInstance|exact RnV.optr rfl|refine RnL.cons ?_ ?_))
 ·(repeat' (exact RnV.purI inferInstance))
 ·simp [dT]
 ·(repeat' (first|exact trivial|(refine And.intro ⟨0, _, rfl, rfl, ?_⟩ ?_)|exact RnL.purI inferInstance))
theorem wI {bs:List UInt8}{p:Nat}{ts:List Int}{dp cn:Int}{N:Nat}{Q:Exit → AS → Prop}{all:Array Oper}{rest:List Oper}{tsl:List (Nat × AV)}{hsl:List (Nat × Option (List AV))}{nidl:Nat}{z0:Lo}{md:Md}{d:Nat}{ty:TypeId}{pos:String}{af:Array Edge}{tys:Array TypeId}{x0 x1 x2 x3:Operand}{i0:Nat}(ha0:ev (lk tsl) x0 = some (.optr i0 0)) (ha1:ev (lk tsl) x1 = some (sl cI ts)) (ha2:ev (lk tsl) x2 = some (iv dp)) (ha3:ev (lk tsl) x3 = some (iv cn)) (hH0:cA hsl i0 = some (fE bs p)) (hmc:MC Tryz.prog 123 [.optr 0 0,sl cI ts,iv dp,iv cn] [(0,some (fE bs p))] 1 (fun _:Unit => True) (fun _ => sl aX (eW bs dp cn p).1) (fun _ => [(0,some (fE bs (eW bs dp cn p).2))])) (hM:Nat.ble (nidl + 0) dJ = true) (hN:Nat.blt d N = true){md':Md}[hmd:MdA md (hO [x0,x1,x2,x3] ++ [.inr i0]) (List.map Sum.inr (List.map Prod.fst ([(i0,some (fE bs (eW bs dp cn p).2))]:List (Nat × Option (List AV)))) ++ [.inl d]) md'] (kk:RW Tryz.prog N all Q md' rest ⟨(d,sl aX (eW bs dp cn p).1) :: tsl,iY hsl [(i0,some (fE bs (eW bs dp cn p).2))],nidl + 0,z0⟩):RW Tryz.prog N all Q md (⟨some d,.call ⟨.value (.func 123),#[x0,x1,x2,x3],tys⟩,ty,pos,af,none⟩ :: rest) ⟨tsl,hsl,nidl,z0⟩ := by
 refine cL [i0] 1 [(i0, some (fE bs (eW bs dp cn p).2))] hmc (avs := [.optr i0 0, sl cI ts, iv dp, iv cn]) ?_ rfl ?_ rfl ?_ (by simpa using hM) ?_ ?_ ?_ hN (md' := md') (hmd := hmd) kk
 ·show evL (lk tsl) [x0, x1, x2, x3] = _
  simp only [evL, ha0, ha1, ha2, ha3]
 ·exact ⟨⟨_, _, rfl, hH0, by (repeat' (exact RnL.purI inferInstance))⟩, trivial⟩
 ·(repeat' (first|exact RnL.purI inferInstance|exact RnV.optr rfl|refine RnL.cons ?_ ?_))
 ·(repeat' (exact RnV.purI inferInstance))
 ·simp [dT]
 ·(repeat' (first|exact trivial|(refine And.intro ⟨0, _, rfl, rfl, ?_⟩ ?_)|exact RnL.purI inferInstance))
attribute [local irreducible] cT
theorem Bh (D:Int) (hD0:0 ≤ D) (hD:D ≤ 2) (l1One_ih:∀ bs p ts,0 < D → bs.length ≤ 2000 → p ≤ 900000 → ∀ dp:Int,dp = 0 → MC Tryz.prog 164 [.optr 0 0,sl cI ts,iv dp] [(0,some (fE bs p))] 1 (fun _:Unit => True) (fun _ => fA (fQ bs dp p).1) (fun _ => [(0,some (fE bs (fQ bs dp p).2))])) (l1Some_ih:∀ bs (p:Nat) ts cn,0 < D → bs.length ≤ 2000 → (p:Int) ≤ 850000 - 100000 * (D - 1) → 0 ≤ cn → cn ≤ 2 → ∀ dp:Int,dp = D - 1 → MC Tryz.prog 123 [.optr 0 0,sl cI ts,iv dp,iv cn] [(0,some (fE bs p))] 1 (fun _:Unit => True) (fun _ => sl aX (eW bs dp cn p).1) (fun _ => [(0,some (fE bs (eW bs dp cn p).2))])) (bs:List UInt8) (p:Nat) (ts:List Int) (dp:Int) (hd:dp = D) (hb:bs.length ≤ 2000) (hp:(p:Int) ≤ 900000 - 100000 * D):MC Tryz.prog 164 [.optr 0 0,sl cI ts,iv dp] [(0,some (fE bs p))] 1 (fun _:Unit => True) (fun _ => fA (fQ bs dp p).1) (fun _ => [(0,some (fE bs (fQ bs dp p).2))]) := by
 subst hd
 have h0 := fP bs p 2
 have h2 := fP bs (p + 1 + 1) 11
 have h3 := fP bs (p + 1 + 1 + 1) 3
 have h3' := k3 bs (p + 1 + 1 + 1)
 have h4 := G8 bs (d := 0) (by omega) (p + 1 + 1 + 1)
 have h5 := x9 bs (d := dp - 1) (by omega) (cT bs (p + 1 + 1 + 1) 3) (p + 1 + 1 + 1 + 1)
 have h6 : (cT bs (p + 1 + 1 + 1) 3).toNat * 43 ≤ 2 * 43 := Nat.mul_le_mul_right _ h3'
 (refine cC Tryz.func164 rfl (by simp [Tryz.ntmps164]) ?_; rw [Tryz.ntmps164])
 repeat' (first|(apply aK;first|(apply aE;rfl;rfl)|(first|(apply bR;rfl;rfl;omega;rfl)|(apply e6;rfl;rfl;omega;rfl)|(apply aS;rfl;rfl;rfl;rfl))|(apply aC;rfl;rfl)|(first|(apply jH;rfl;rfl;(rfl);(apply k9 <;> (first|assumption|omega));rfl;rfl)|(apply GM;rfl;rfl;infer_instance;rfl;(rfl);assumption;omega;(decide);(decide);rfl;rfl)|(apply wI;rfl;rfl;rfl;rfl;(rfl);(apply l1Some_ih <;> (first|assumption|omega));rfl;rfl)|(apply A4;rfl;rfl;rfl;(rfl);(apply l1One_ih <;> (first|assumption|omega));rfl;rfl))|(apply aF;kernel_rfl)|(apply bW;rfl;(exact (rfl:_=some [_, _, _, _, _, _]));(exact (rfl:_=[_, _, _, _, _, _]));rfl)|(apply bB;rfl;rfl)|((apply bS (t := _));(case hze|hsm|hl => rfl);(case hfl => (first|exact (rfl:_=some [_, _, _])|exact (rfl:_=some [_, _, _, _])|exact (rfl:_=some [_, _, _, _, _])|exact (rfl:_=some [_, _, _, _, _, _])|rfl));(case hM|hN => rfl))|(apply aV;rfl;rfl;rfl;rfl;rfl;(case hl => (simp;done));(exact (rfl:_=[_, _, _, _, _, _]))))|(apply aL;first|apply aH|apply aB|(apply bU;rfl;(assumption))|(apply aN;rfl;all_goals intro hc;have hq:=hc;(try simp only [cH] at hq);try exfalso;omega)|apply aM|apply aR|apply aP)|with_reducible apply aA|with_reducible apply bH|with_reducible apply aW|with_reducible apply cX)
 all_goals try (refine aO rfl ?_; refine bY () trivial ?_ ⟨.inr (Eq.trans (b := some _) rfl ?_), trivial⟩)
 all_goals try (rw [LF bs hD0 p (by omega)]; unfold kA; dsimp only; repeat' split
                all_goals (first|rfl|(exfalso;omega));done)
 iterate 2
  rewrite [Lp bs (d := dp) (by assumption) p (by assumption)]
  first|rfl|(refine Eq.trans (b := AV.agg [_, _, _, _, _, AV.imm 1 (flat aX [_])]) ?_ rfl;rw [My]; rfl)
 iterate 2
  rewrite [Jh bs (d := dp) (by omega) p (by omega)]
  first|rfl|(refine Eq.trans (b := AV.agg [_, _, _, _, AV.imm 2 (flat aX [_, _]), _]) ?_ rfl;rw [MJ]; rfl)
theorem wG (D:Int) (hD0:0 ≤ D) (hD:D ≤ 2) (l1One_ih:∀ bs (p:Nat) ts,bs.length ≤ 2000 → (p:Int) ≤ 900000 - 100000 * D → ∀ dp:Int,dp = D → MC Tryz.prog 164 [.optr 0 0,sl cI ts,iv dp] [(0,some (fE bs p))] 1 (fun _:Unit => True) (fun _ => fA (fQ bs dp p).1) (fun _ => [(0,some (fE bs (fQ bs dp p).2))])) (bs:List UInt8) (p:Nat) (ts:List Int) (dp:Int) (hd:dp = D) (cn:Int) (hb:bs.length ≤ 2000) (hp:(p:Int) ≤ 850000 - 100000 * D) (hc0:0 ≤ cn) (hc:cn ≤ 8):MC Tryz.prog 123 [.optr 0 0,sl cI ts,iv dp,iv cn] [(0,some (fE bs p))] 1 (fun _:Unit => True) (fun _ => sl aX (eW bs dp cn p).1) (fun _ => [(0,some (fE bs (eW bs dp cn p).2))]) := by
 subst hd
 (refine cC Tryz.func123 rfl (by simp [Tryz.ntmps123]) ?_; rw [Tryz.ntmps123])
 repeat' (first|(apply aK;first|(apply aE;rfl;rfl)|(apply aC;rfl;rfl)|(apply jH;rfl;rfl;(rfl);(apply k9 <;> (first|assumption|omega));rfl;rfl)|(apply aF;kernel_rfl)|(apply bW;rfl;(exact (rfl:_=some [_, _, _, _, _, _]));(exact (rfl:_=[_, _, _, _, _, _]));rfl)|(apply cD;rfl;rfl;rfl;(exact (rfl:_=some [_, _, _, _, _, _]));rfl;rfl))|(apply aL;first|apply aH|apply aB|apply aM)|with_reducible apply aA)
 refine bF (σ := Nat × List AL.Stmt × Nat) [0, 1, 2, 3] [(0, _), (1, _), (2, _), (3, _)] [] [] (fun k => [(10, iv (k.1 : Int)), (9, .own 1 0 (k.1 + 1) 6)]) (fun k => [(0, some (fE bs k.2.2)), (1, some (flat aX k.2.1))]) (fun k => (k.1 : Int) ≤ cn ∧ k.2 = eW bs dp (k.1 : Int) p) (fun k => cn.toNat - k.1) (0, [st 2 1 0 (cT bs p 10)], p + 1) ⟨by omega, rfl⟩ rfl rfl (by repeat' (first|exact trivial|refine And.intro rfl ?_)) (by repeat' (first|exact trivial|refine And.intro (.inr rfl) ?_)) ?_
 rintro ⟨k, xs, q⟩ ⟨hk, hse⟩
 dsimp only at hk hse ⊢
 have hp2 := x9 bs (d := dp) (by omega) (k : Int) p
 have hkk : (k : Int).toNat * 43 ≤ 8 * 43 := Nat.mul_le_mul_right _ (by omega)
 have hln := ES bs dp k p
 rw [← hse] at hp2 hln
 dsimp only at hp2 hln
 repeat' (first|(apply aK;first|(apply aE;rfl;rfl)|(first|(apply bR;rfl;rfl;omega;rfl)|(apply aS;rfl;rfl;rfl;rfl))|(apply aC;rfl;rfl)|(apply A4;rfl;rfl;rfl;(rfl);(apply l1One_ih <;> (first|assumption|omega));rfl;rfl)|(apply cJ;rfl;rfl;rfl;rfl;rfl;(rw [aQ]; omega);(rfl);omega;omega;(exact iQ (by (omega)));rfl;rfl)|(apply aF;kernel_rfl)|((apply bS (t := _));(case hze|hsm|hl => rfl);(case hfl => (exact (rfl:_=some [_, _, _, _, _, _])));(case hM|hN => rfl)))|(apply aL;first|apply aH|apply aB|(apply aN;rfl;all_goals intro hc;have hq:=hc;(try simp only [cH] at hq);try exfalso;omega)|apply aM|apply aR|apply bI|apply aP)|with_reducible apply aA|with_reducible apply bJ|with_reducible apply aW|with_reducible apply bG)
 ·(apply dV (k + 1, _, _); focus (refine Le.ren [(1, 3)] rfl (by decide) ?_ ?_ <;> repeat' (first | exact trivial | refine And.intro ⟨_, rfl, ?_⟩ ?_ | refine And.intro ⟨_, _, rfl, rfl, ?_⟩ ?_ | exact Or.inr rfl | refine Or.inl ⟨?_, (by first | rfl | exact aZ _ _ | exact Pur.pf)⟩ | rfl)))
  ·dsimp only
   refine ⟨by omega, ?_⟩
   rw [Jn, ← hse]
  ·dsimp only;omega
 ·have hke : (k : Int) = cn := by omega
  rw [hke] at hse
  (refine cE (Le.frzD (d := 8) (i := 1) rfl rfl) ?_; refine aO rfl ?_)
  refine bY () trivial ?_ ⟨.inr (Eq.trans (b := some _) rfl ?_), trivial⟩
  ·rw [← hse]; show AV.imm (k + 1) (flat aX xs) = AV.imm xs.length (flat aX xs)
   rw [hln]
  ·rw [← hse]
theorem oJ:∀ D:Nat,D ≤ 2 → (∀ bs (p:Nat) ts,bs.length ≤ 2000 → (p:Int) ≤ 900000 - 100000 * (D:Int) → ∀ dp:Int,dp = (D:Int) → MC Tryz.prog 164 [.optr 0 0,sl cI ts,iv dp] [(0,some (fE bs p))] 1 (fun _:Unit => True) (fun _ => fA (fQ bs dp p).1) (fun _ => [(0,some (fE bs (fQ bs dp p).2))])) ∧ (∀ bs (p:Nat) ts (cn:Int),bs.length ≤ 2000 → (p:Int) ≤ 850000 - 100000 * (D:Int) → 0 ≤ cn → cn ≤ 8 → ∀ dp:Int,dp = (D:Int) → MC Tryz.prog 123 [.optr 0 0,sl cI ts,iv dp,iv cn] [(0,some (fE bs p))] 1 (fun _:Unit => True) (fun _ => sl aX (eW bs dp cn p).1) (fun _ => [(0,some (fE bs (eW bs dp cn p).2))]))
 | 0, _ => by
  have h1 : ∀ bs (p : Nat) ts, bs.length ≤ 2000 → (p : Int) ≤ 900000 - 100000 * ((0 : Nat) : Int) → ∀ dp : Int, dp = ((0 : Nat) : Int) → MC Tryz.prog 164 [.optr 0 0, sl cI ts, iv dp] [(0, some (fE bs p))] 1 (fun _ : Unit => True) (fun _ => fA (fQ bs dp p).1) (fun _ => [(0, some (fE bs (fQ bs dp p).2))]) :=
   fun bs p ts hb hp dp hd => Bh ((0 : Nat) : Int) (by omega) (by omega) (fun _ _ _ h => by omega) (fun _ _ _ _ h => by omega) bs p ts dp hd hb hp
  exact ⟨h1, fun bs p ts cn hb hp h0 h8 dp hd => wG ((0 : Nat) : Int) (by omega) (by omega) h1 bs p ts dp hd cn hb hp h0 h8⟩
 | D + 1, hD => by
  have ih := oJ D (by omega)
  have i0 := oJ 0 (by omega)
  have h1 : ∀ bs (p : Nat) ts, bs.length ≤ 2000 → (p : Int) ≤ 900000 - 100000 * ((D + 1 : Nat) : Int) → ∀ dp : Int, dp = ((D + 1 : Nat) : Int) → MC Tryz.prog 164 [.optr 0 0, sl cI ts, iv dp] [(0, some (fE bs p))] 1 (fun _ : Unit => True) (fun _ => fA (fQ bs dp p).1) (fun _ => [(0, some (fE bs (fQ bs dp p).2))]) :=
   fun bs p ts hb hp dp hd => Bh ((D + 1 : Nat) : Int) (by omega) (by omega) (fun bs p ts _ hb hp dp hd => i0.1 bs p ts hb (by omega) dp (by omega)) (fun bs p ts cn _ hb hp h0 h2 dp hd => ih.2 bs p ts cn hb (by omega) h0 (by omega) dp (by omega)) bs p ts dp hd hb hp
  exact ⟨h1, fun bs p ts cn hb hp h0 h8 dp hd => wG ((D + 1 : Nat) : Int) (by omega) (by omega) h1 bs p ts dp hd cn hb hp h0 h8⟩
theorem Gd (bs:List UInt8) (p:Nat) (ts:List Int) (dp cn:Int) (hb:bs.length ≤ 2000) (hp:p ≤ 600000) (h0:0 ≤ cn) (h8:cn ≤ 8) (hd0:0 ≤ dp) (hd:dp ≤ 2):MC Tryz.prog 123 [.optr 0 0,sl cI ts,iv dp,iv cn] [(0,some (fE bs p))] 1 (fun _:Unit => True) (fun _ => sl aX (eW bs dp cn p).1) (fun _ => [(0,some (fE bs (eW bs dp cn p).2))]) :=
 (oJ dp.toNat (by omega)).2 bs p ts cn hb (by omega) h0 h8 dp (by omega)
end Go.Proofs.YtjcpngimjdckmaaGreat
namespace Go.Proofs.YtjcpngimjdckmaaGreat
open Go.AL Go.RowKit
theorem DI {w:World}{bad:Nat → Prop}{ι:Pl}:∀ {cs cs':List AV},All2 (fun c c' => c' = c ∨ c' = pY c) cs cs' → ∀ {b β:Nat},RdC w bad ι cs b β → RdC w bad ι cs' b β
 | _, _, .nil, _, _, h => h
 | _, _, .cons h1 h2, b, β, h => by
  simp only [RdC] at h ⊢
  obtain ⟨⟨x, q1, q2, q3⟩, q4⟩ := h
  refine ⟨⟨x, q1, q2, ?_⟩, DI h2 q4⟩
  rcases h1 with rfl|rfl
  ·exact q3
  ·exact mA q3
theorem Dh:∀ (l:List AV){a b:List AV},All2 (fun c c' => c' = c ∨ c' = pY c) a b → All2 (fun c c' => c' = c ∨ c' = pY c) (l ++ a) (l ++ b)
 | [], _, _, h => h
 | _ :: l, _, _, h => .cons (.inl rfl) (Dh l h)
theorem qO {α:Type}{p q:α → Prop}{F:α → AS}{s s':AS}(L:Le s s') (h:∃ j,p j ∧ q j ∧ Le s' (F j)):∃ j,p j ∧ q j ∧ Le s (F j) := by
 obtain ⟨j, h1, h2, h3⟩ := h
 exact ⟨j, h1, h2, L.trans h3⟩
theorem Le.stmtN {ts:List (Nat × AV)}{hs:List (Nat × Option (List AV))}{n i:Nat}{z0:Lo}{xs:List AL.Stmt}(s:AL.Stmt){m:Nat}{a b:AV}(hm:m = xs.length)
  (ha : a = sl aX s.th ∨ (a = .v (.slice none 0 0) ∧ s.th = [])) (hb : b = sl aX s.el ∨ (b = .v (.slice none 0 0) ∧ s.el = []))
  (hi : cA hs i = some (((flat aX xs).drop 0).take (m * 6) ++ List.take (1 * 6) [iv s.op, iv s.x, iv s.y, iv s.n, a, b])) : Le ⟨ts, hs, n, z0⟩ ⟨ts, (i, some (flat aX (xs ++ [s]))) :: hs, n, z0⟩ := by
 have e : flat aX (xs ++ [s]) = ((flat aX xs).drop 0).take (m * 6) ++ [iv s.op, iv s.x, iv s.y, iv s.n, sl aX s.th, sl aX s.el] := (iQ hm).symm
 have k : All2 (fun c c' => c' = c ∨ c' = pY c) (((flat aX xs).drop 0).take (m * 6) ++ List.take (1 * 6) [iv s.op, iv s.x, iv s.y, iv s.n, a, b]) (flat aX (xs ++ [s])) := by
  rw [e]
  refine Dh _ (.cons (.inl rfl) (.cons (.inl rfl) (.cons (.inl rfl) (.cons (.inl rfl) (.cons ?_ (.cons ?_ .nil))))))
  ·rcases ha with h | ⟨h, h2⟩
   ·exact .inl h.symm
   ·refine .inr ?_; rw [h2, h]; rfl
  ·rcases hb with h | ⟨h, h2⟩
   ·exact .inl h.symm
   ·refine .inr ?_; rw [h2, h]; rfl
 refine Le.cells hi ?_ fun w bad ι b β h => DI k h
 rw [e]; simp
theorem Dt (mm:Nat) (hmm:mm ≤ 1000000) (copy_ih:∀ l,bO l < mm → PC Tryz.prog 72 [sl aX l] (fun r => r = sl aX l)) (l:List AL.Stmt) (hs:bO l ≤ mm):PC Tryz.prog 72 [sl aX l] (fun r => r = sl aX l) := by
 have hlen := dG l
 (refine aT Tryz.func72 rfl (by simp [Tryz.ntmps72]) ?_; rw [Tryz.ntmps72])
 repeat' (first|(apply aK;first|(apply aC;rfl;rfl)|(apply aF;kernel_rfl)|(apply cD;rfl;rfl;rfl;(rfl);rfl;rfl))|(apply aL;first|apply aH|apply aB|apply aM)|with_reducible apply aA)
 refine bF (σ := Nat × List AL.Stmt) [0] [(0, _)] [] [] (fun k => [(4, iv (k.1 : Int)), (3, .own 0 0 k.1 6)]) (fun k => [(0, some (flat aX k.2))]) (fun k => k.1 ≤ l.length ∧ k.2 = l.take k.1) (fun k => l.length - k.1) (0, []) ⟨by omega, rfl⟩ rfl rfl (by repeat' (first|exact trivial|refine And.intro rfl ?_)) (by repeat' (first|exact trivial|refine And.intro (.inr rfl) ?_)) ?_
 rintro ⟨k, xs⟩ ⟨hk, hxs⟩
 dsimp only at hk hxs ⊢
 have hck := gD l k
 have hct := iR l[k]!
 have hln : xs.length = k := by rw [hxs, List.length_take]; omega
 repeat' (first|(apply aK;first|(apply aE;rfl;rfl)|(first|(apply aJ;rfl;rfl;rfl;rfl)|(apply aU;rfl;rfl;(exact (rfl:_=[_, _, _, _, _, _]));rfl;rfl;rfl))|(apply aD;rfl;rfl;rfl)|(first|(apply bR;rfl;rfl;omega;rfl)|(apply aS;rfl;rfl;rfl;rfl))|(apply aC;rfl;rfl)|(apply a7;(case hx|hi => rfl);(case hm => (omega));(case hml => (rfl));(case hα | hf|hg => infer_instance);(case hN => rfl))|((with_reducible apply aI (k := 72));(case ha => rfl);(case h => (apply copy_ih <;> (omega)));(case hp => (exact Pur.pf));(case hN => rfl))|(first|(apply a8;rfl;rfl;rfl)|(apply cJ;rfl;rfl;rfl;rfl;rfl;(rw [aQ]; omega);(rfl);omega;omega;(first|exact iQ (by (omega))|rfl);rfl;rfl))|(apply aF;kernel_rfl)|(apply bB;rfl;rfl)|((apply bS (t := _));(case hze|hsm|hl => rfl);(case hfl => (exact (rfl:_=some [_, _, _, _, _, _])));(case hM|hN => rfl))|(apply aV;rfl;rfl;rfl;rfl;rfl;(case hl => (simp;done));(exact (rfl:_=[_, _, _, _, _, _]))))|(apply aL;first|apply aH|apply aB|(apply aN;rfl;all_goals intro hc;have hq:=hc;(try simp only [cH] at hq);try exfalso;omega)|apply aM|apply aR|apply bI|apply aP)|with_reducible apply aA|with_reducible apply bJ|with_reducible apply aW|with_reducible apply bG)
 ·(apply dV (k + 1, _); focus (refine Le.ren [(0, 3)] rfl (by decide) ?_ ?_ <;> repeat' (first | exact trivial | refine And.intro ⟨_, rfl, ?_⟩ ?_ | refine And.intro ⟨_, _, rfl, rfl, ?_⟩ ?_ | exact Or.inr rfl | refine Or.inl ⟨?_, (by first | rfl | exact aZ _ _)⟩ | rfl)))
  ·exact ⟨by dsimp only;omega, by dsimp only;rw [hxs, dC l k (by omega)]⟩
  ·dsimp only;omega
 ·have hel : l[k]!.el = [] := List.eq_nil_of_length_eq_zero (by omega)
  refine qO (Le.stmtN (i := 3) l[k]! hln.symm (.inl rfl) (.inr ⟨rfl, hel⟩) rfl) ?_
  (apply dV (k + 1, _);focus (refine Le.ren [(0, 3)] rfl (by decide) ?_ ?_ <;> repeat' (first|exact trivial|refine And.intro ⟨_, rfl, ?_⟩ ?_|refine And.intro ⟨_, _, rfl, rfl, ?_⟩ ?_|exact Or.inr rfl|refine Or.inl ⟨?_, (by first|rfl|exact aZ _ _)⟩|rfl)))
  ·exact ⟨by dsimp only;omega, by dsimp only;rw [hxs, dC l k (by omega)]⟩
  ·dsimp only;omega
 ·have hth : l[k]!.th = [] := List.eq_nil_of_length_eq_zero (by omega)
  refine qO (Le.stmtN (i := 3) l[k]! hln.symm (.inr ⟨rfl, hth⟩) (.inl rfl) rfl) ?_
  (apply dV (k + 1, _);focus (refine Le.ren [(0, 3)] rfl (by decide) ?_ ?_ <;> repeat' (first|exact trivial|refine And.intro ⟨_, rfl, ?_⟩ ?_|refine And.intro ⟨_, _, rfl, rfl, ?_⟩ ?_|exact Or.inr rfl|refine Or.inl ⟨?_, (by first|rfl|exact aZ _ _)⟩|rfl)))
  ·exact ⟨by dsimp only;omega, by dsimp only;rw [hxs, dC l k (by omega)]⟩
  ·dsimp only;omega
 ·have hth : l[k]!.th = [] := List.eq_nil_of_length_eq_zero (by omega)
  have hel : l[k]!.el = [] := List.eq_nil_of_length_eq_zero (by omega)
  refine qO (Le.stmtN (i := 3) l[k]! hln.symm (.inr ⟨rfl, hth⟩) (.inr ⟨rfl, hel⟩) rfl) ?_
  (apply dV (k + 1, _);focus (refine Le.ren [(0, 3)] rfl (by decide) ?_ ?_ <;> repeat' (first|exact trivial|refine And.intro ⟨_, rfl, ?_⟩ ?_|refine And.intro ⟨_, _, rfl, rfl, ?_⟩ ?_|exact Or.inr rfl|refine Or.inl ⟨?_, (by first|rfl|exact aZ _ _)⟩|rfl)))
  ·exact ⟨by dsimp only;omega, by dsimp only;rw [hxs, dC l k (by omega)]⟩
  ·dsimp only;omega
 ·have hke : k = l.length := by omega
  (refine cE (Le.frzD (d := 2) (i := 0) rfl rfl) ?_; refine aO rfl ?_)
  refine ⟨?_, Pur.pf⟩
  rw [hxs, hke, List.take_length]; rfl
theorem Lf (l:List AL.Stmt) (hb:bO l ≤ 1000000):PC Tryz.prog 72 [sl aX l] (fun r => r = sl aX l) := by
 have key : ∀ m, m ≤ 1000000 → ∀ l, bO l ≤ m → PC Tryz.prog 72 [sl aX l] (fun r => r = sl aX l) := by
  intro m
  induction m with
  | zero => intro hm l hl;exact Dt 0 hm (fun l h => by omega) l hl
  | succ m ih => intro hm l hl;exact Dt (m + 1) hm (fun l h => ih (by omega) l (by omega)) l hl
 exact key (bO l) hb l (Nat.le_refl _)
theorem Iy (l:List AL.Stmt) (hs:bO l ≤ 1000000):MC Tryz.prog 72 [sl aX l] [] 0 (fun _:Unit => True) (fun _ => .own 0 0 l.length 6) (fun _ => [(0,some (flat aX l))]) := by
 have hlen := dG l
 (refine cC Tryz.func72 rfl (by simp [Tryz.ntmps72]) ?_; rw [Tryz.ntmps72])
 repeat' (first|(apply aK;first|(apply aC;rfl;rfl)|(apply aF;kernel_rfl)|(apply cD;rfl;rfl;rfl;(rfl);rfl;rfl))|(apply aL;first|apply aH|apply aB|apply aM)|with_reducible apply aA)
 refine bF (σ := Nat × List AL.Stmt) [0] [(0, _)] [] [] (fun k => [(4, iv (k.1 : Int)), (3, .own 0 0 k.1 6)]) (fun k => [(0, some (flat aX k.2))]) (fun k => k.1 ≤ l.length ∧ k.2 = l.take k.1) (fun k => l.length - k.1) (0, []) ⟨by omega, rfl⟩ rfl rfl (by repeat' (first|exact trivial|refine And.intro rfl ?_)) (by repeat' (first|exact trivial|refine And.intro (.inr rfl) ?_)) ?_
 rintro ⟨k, xs⟩ ⟨hk, hxs⟩
 dsimp only at hk hxs ⊢
 have hck := gD l k
 have hct := iR l[k]!
 have hln : xs.length = k := by rw [hxs, List.length_take]; omega
 repeat' (first|(apply aK;first|(apply aE;rfl;rfl)|(first|(apply aJ;rfl;rfl;rfl;rfl)|(apply aU;rfl;rfl;(exact (rfl:_=[_, _, _, _, _, _]));rfl;rfl;rfl))|(apply aD;rfl;rfl;rfl)|(first|(apply bR;rfl;rfl;omega;rfl)|(apply aS;rfl;rfl;rfl;rfl))|(apply aC;rfl;rfl)|(apply a7;(case hx|hi => rfl);(case hm => (omega));(case hml => (rfl));(case hα | hf|hg => infer_instance);(case hN => rfl))|((with_reducible apply aI (k := 72));(case ha => rfl);(case h => (apply Lf <;> (omega)));(case hp => (exact Pur.pf));(case hN => rfl))|(first|(apply a8;rfl;rfl;rfl)|(apply cJ;rfl;rfl;rfl;rfl;rfl;(rw [aQ]; omega);(rfl);omega;omega;(first|exact iQ (by (omega))|rfl);rfl;rfl))|(apply aF;kernel_rfl)|(apply bB;rfl;rfl)|((apply bS (t := _));(case hze|hsm|hl => rfl);(case hfl => (exact (rfl:_=some [_, _, _, _, _, _])));(case hM|hN => rfl))|(apply aV;rfl;rfl;rfl;rfl;rfl;(case hl => (simp;done));(exact (rfl:_=[_, _, _, _, _, _]))))|(apply aL;first|apply aH|apply aB|(apply aN;rfl;all_goals intro hc;have hq:=hc;(try simp only [cH] at hq);try exfalso;omega)|apply aM|apply aR|apply bI|apply aP)|with_reducible apply aA|with_reducible apply bJ|with_reducible apply aW|with_reducible apply bG)
 ·(apply dV (k + 1, _); focus (refine Le.ren [(0, 3)] rfl (by decide) ?_ ?_ <;> repeat' (first | exact trivial | refine And.intro ⟨_, rfl, ?_⟩ ?_ | refine And.intro ⟨_, _, rfl, rfl, ?_⟩ ?_ | exact Or.inr rfl | refine Or.inl ⟨?_, (by first | rfl | exact aZ _ _)⟩ | rfl)))
  ·exact ⟨by dsimp only;omega, by dsimp only;rw [hxs, dC l k (by omega)]⟩
  ·dsimp only;omega
 ·have hel : l[k]!.el = [] := List.eq_nil_of_length_eq_zero (by omega)
  refine qO (Le.stmtN (i := 3) l[k]! hln.symm (.inl rfl) (.inr ⟨rfl, hel⟩) rfl) ?_
  (apply dV (k + 1, _);focus (refine Le.ren [(0, 3)] rfl (by decide) ?_ ?_ <;> repeat' (first|exact trivial|refine And.intro ⟨_, rfl, ?_⟩ ?_|refine And.intro ⟨_, _, rfl, rfl, ?_⟩ ?_|exact Or.inr rfl|refine Or.inl ⟨?_, (by first|rfl|exact aZ _ _)⟩|rfl)))
  ·exact ⟨by dsimp only;omega, by dsimp only;rw [hxs, dC l k (by omega)]⟩
  ·dsimp only;omega
 ·have hth : l[k]!.th = [] := List.eq_nil_of_length_eq_zero (by omega)
  refine qO (Le.stmtN (i := 3) l[k]! hln.symm (.inr ⟨rfl, hth⟩) (.inl rfl) rfl) ?_
  (apply dV (k + 1, _);focus (refine Le.ren [(0, 3)] rfl (by decide) ?_ ?_ <;> repeat' (first|exact trivial|refine And.intro ⟨_, rfl, ?_⟩ ?_|refine And.intro ⟨_, _, rfl, rfl, ?_⟩ ?_|exact Or.inr rfl|refine Or.inl ⟨?_, (by first|rfl|exact aZ _ _)⟩|rfl)))
  ·exact ⟨by dsimp only;omega, by dsimp only;rw [hxs, dC l k (by omega)]⟩
  ·dsimp only;omega
 ·have hth : l[k]!.th = [] := List.eq_nil_of_length_eq_zero (by omega)
  have hel : l[k]!.el = [] := List.eq_nil_of_length_eq_zero (by omega)
  refine qO (Le.stmtN (i := 3) l[k]! hln.symm (.inr ⟨rfl, hth⟩) (.inr ⟨rfl, hel⟩) rfl) ?_
  (apply dV (k + 1, _);focus (refine Le.ren [(0, 3)] rfl (by decide) ?_ ?_ <;> repeat' (first|exact trivial|refine And.intro ⟨_, rfl, ?_⟩ ?_|refine And.intro ⟨_, _, rfl, rfl, ?_⟩ ?_|exact Or.inr rfl|refine Or.inl ⟨?_, (by first|rfl|exact aZ _ _)⟩|rfl)))
  ·exact ⟨by dsimp only;omega, by dsimp only;rw [hxs, dC l k (by omega)]⟩
  ·dsimp only;omega
 ·have hke : k = l.length := by omega
  have hxl : xs = l := by rw [hxs, hke, List.take_length]
  subst hke
  refine aO rfl ?_
  refine bY () trivial ?_ ⟨.inr (Eq.trans (b := some _) rfl ?_), trivial⟩
  ·rfl
  ·rw [hxl]
theorem H8 {l:List AL.Stmt}{N:Nat}{Q:Exit → AS → Prop}{all:Array Oper}{rest:List Oper}{tsl:List (Nat × AV)}{hsl:List (Nat × Option (List AV))}{nidl:Nat}{z0:Lo}{md:Md}{d:Nat}{ty:TypeId}{pos:String}{af:Array Edge}{tys:Array TypeId}{x0:Operand}(ha0:ev (lk tsl) x0 = some (sl aX l)) (hmc:MC Tryz.prog 72 [sl aX l] [] 0 (fun _:Unit => True) (fun _ => .own 0 0 l.length 6) (fun _ => [(0,some (flat aX l))])) (hM:Nat.ble (nidl + 1) dJ = true) (hN:Nat.blt d N = true){md':Md}[hmd:MdA md (hO [x0] ++ []) (List.map Sum.inr (List.map Prod.fst ([(nidl,some (flat aX l))]:List (Nat × Option (List AV)))) ++ [.inl d]) md'] (kk:RW Tryz.prog N all Q md' rest ⟨(d,.own nidl 0 l.length 6) :: tsl,iY hsl [(nidl,some (flat aX l))],nidl + 1,z0⟩):RW Tryz.prog N all Q md (⟨some d,.call ⟨.value (.func 72),#[x0],tys⟩,ty,pos,af,none⟩ :: rest) ⟨tsl,hsl,nidl,z0⟩ := by
 refine cL [] 1 [(nidl, some (flat aX l))] hmc (avs := [sl aX l]) ?_ rfl ?_ rfl ?_ (by simpa using hM) ?_ ?_ ?_ hN (md' := md') (hmd := hmd) kk
 ·show evL (lk tsl) [x0] = _
  simp only [evL, ha0]
 ·exact trivial
 ·(repeat' (exact RnL.purI inferInstance))
 ·(repeat' (exact RnV.own rfl))
 ·simp [dT]
 ·(repeat' (first|exact trivial|(refine And.intro ⟨0, _, rfl, rfl, ?_⟩ ?_)|exact RnL.purI inferInstance))
theorem nJ {q:Prg}{N:Nat}{Q:Exit → AS → Prop}{all:Array Oper}{rest:List Oper}{tsl:List (Nat × AV)}{hsl:List (Nat × Option (List AV))}{nidl:Nat}{z0:Lo}{md:Md}{d:Nat}{ty:TypeId}{pos:String}{af:Array Edge}{tys:Array TypeId}{x0:Operand}(ha0:ev (lk tsl) x0 = some (dH q)) (hmc:MC Tryz.prog 59 [dH q] [] 0 (fun _:Unit => True) (fun _ => .agg [.own 3 0 q.types.length 1,.own 4 0 q.body.length 6]) (fun _ => [(3,some (flat cI q.types)),(4,some (flat aX q.body))])) (hM:Nat.ble (nidl + 5) dJ = true) (hN:Nat.blt d N = true){md':Md}[hmd:MdA md (hO [x0] ++ []) (List.map Sum.inr (List.map Prod.fst ([((nidl + 3),some (flat cI q.types)),((nidl + 4),some (flat aX q.body))]:List (Nat × Option (List AV)))) ++ [.inl d]) md'] (kk:RW Tryz.prog N all Q md' rest ⟨(d,.agg [.own (nidl + 3) 0 q.types.length 1,.own (nidl + 4) 0 q.body.length 6]) :: tsl,iY hsl [((nidl + 3),some (flat cI q.types)),((nidl + 4),some (flat aX q.body))],nidl + 5,z0⟩):RW Tryz.prog N all Q md (⟨some d,.call ⟨.value (.func 59),#[x0],tys⟩,ty,pos,af,none⟩ :: rest) ⟨tsl,hsl,nidl,z0⟩ := by
 refine cL [] 5 [((nidl + 3), some (flat cI q.types)), ((nidl + 4), some (flat aX q.body))] hmc (avs := [dH q]) ?_ rfl ?_ rfl ?_ (by simpa using hM) ?_ ?_ ?_ hN (md' := md') (hmd := hmd) kk
 ·show evL (lk tsl) [x0] = _
  simp only [evL, ha0]
 ·exact trivial
 ·(repeat' (exact RnL.purI inferInstance))
 ·(repeat' (first|exact RnL.purI inferInstance|exact RnV.own rfl|refine RnL.cons ?_ ?_|refine RnV.agg ?_))
 ·simp [dT]
 ·(repeat' (first|exact trivial|(refine And.intro ⟨3, _, rfl, rfl, ?_⟩ ?_)|(refine And.intro ⟨4, _, rfl, rfl, ?_⟩ ?_)|exact RnL.purI inferInstance))
theorem pA (q:Prg) (hs:bO q.body ≤ 1000000) (ht:q.types.length ≤ 1000000):MC Tryz.prog 59 [dH q] [] 0 (fun _:Unit => True) (fun _ => .agg [.own 3 0 q.types.length 1,.own 4 0 q.body.length 6]) (fun _ => [(3,some (flat cI q.types)),(4,some (flat aX q.body))]) := by
 (refine cC Tryz.func59 rfl (by simp [Tryz.ntmps59]) ?_; rw [Tryz.ntmps59])
 repeat' (first|(apply aK;first|(apply H8;rfl;(apply Iy;assumption);rfl;rfl)|(apply aJ;rfl;rfl;rfl;rfl)|(apply aD;rfl;rfl;rfl)|(apply cJ;rfl;rfl;rfl;rfl;rfl;(case hl => (simp [aQ]; done));(exact yN (by (rfl)));omega;omega;(exact mH (by (omega)));rfl;rfl)|(apply aF;kernel_rfl)|(apply bW;rfl;(exact (rfl:_=some [_, _]));(exact (rfl:_=[_, _]));rfl)|(apply bT;rfl;rfl;rfl;rfl)|(apply bB;rfl;rfl)|(apply cD;rfl;rfl;rfl;(rfl);rfl;rfl)|(apply aV;rfl;rfl;rfl;rfl;rfl;(case hl => (simp;done));(exact (rfl:_=[_, _]))))|(apply aL;first|apply aH|apply aB|(apply bZ;kernel_rfl)|apply aP)|with_reducible apply aA)
 refine aO rfl ?_
 refine bY () trivial ?_ ⟨.inr (Eq.trans (b := some _) rfl ?_), .inr (Eq.trans (b := some _) rfl ?_), trivial⟩
 ·show AV.agg [AV.own 3 0 (0 + q.types.length) 1, AV.own 4 0 q.body.length 6] = _
  rw [Nat.zero_add]
 ·rfl
 ·rfl
theorem Hn (s:AL.Stmt) (a:Int):dO (MZ s a) = dO s := by simp [gM,MZ,AL.Stmt.th,AL.Stmt.el]
theorem Kd (s:AL.Stmt) (a:Int):dO (uX s a) = dO s := by simp [gM,uX,AL.Stmt.th,AL.Stmt.el]
theorem JE (s:AL.Stmt) (a:Int):dO (uY s a) = dO s := by simp [gM,uY,AL.Stmt.th,AL.Stmt.el]
theorem Kc (s:AL.Stmt) (a:Int):dO (uN s a) = dO s := by simp [gM,uN,AL.Stmt.th,AL.Stmt.el]
theorem mJ:∀ (xs:List AL.Stmt) (k:Nat) (y:AL.Stmt),k < xs.length → dO y = dO xs[k]! → bO (xs.set k y) = bO xs
 | [], k, y, h, _ => by simp at h
 | x :: xs, 0, y, _, h => by simp only [List.set_cons_zero, bO]; simp only [List.getElem!_cons_zero] at h;omega
 | x :: xs, k + 1, y, h, h2 => by
  simp only [List.set_cons_succ, bO]
  rw [mJ xs k y (by simpa using h) (by rw [h2]; simp only [List.getElem!_cons_succ])]
theorem A3 (s:AL.Stmt):∀ k,bO (List.replicate k s) = k * dO s
 | 0 => by simp [bO]
 | k + 1 => by simp only [List.replicate_succ, bO, A3 s k, Nat.succ_mul]; omega
theorem Az:∀ (xs:List AL.Stmt) (k:Nat),bO (xs.take k ++ xs.drop (k + 1)) ≤ bO xs
 | [], k => by simp [bO]
 | x :: xs, 0 => by simp [bO]
 | x :: xs, k + 1 => by have := Az xs k;simp only [List.take_succ_cons, List.drop_succ_cons, List.cons_append, bO]; omega
theorem sC {T:Nat → Option AV}{x:Operand}{dd:Nat}{k:IntKind}{m:Int}(hx:ev T x = some (.v (.int k m))) (h:0 ≤ m):eU T (some x) dd = some m.toNat := by
 simp only [eU, hx]; rw [if_pos h]
section
variable {P : Program} {N : Nat} {Q : Exit → AS → Prop} {all : Array Oper} {rest : List Oper} {ts : List (Nat × AV)} {hs : List (Nat × Option (List AV))} {n : Nat} {z0 : Lo} {md : Md}
variable {d : Nat} {ty : TypeId} {pos : String} {af : Array Edge}
theorem C0 {t el:TypeId}{x:Operand}{hi:Option Operand}{i o m e h:Nat}[ht:SlT P t el] [he:SzT P el e] (hx:ev (lk ts) x = some (.own i o m e))
  (hh : eU (lk ts) hi m = some h) (hb : h ≤ m) (hN : Nat.blt d N = true) {md' : Md} [hmd : MdA md (rO x ++ (rB none ++ rB hi)) [.inl d] md'] (kk : RW P N all Q md' rest ⟨(d, .own i o h e) :: ts, hs, n, z0⟩) :
  RW P N all Q md (⟨some d, .slice t x none hi none, ty, pos, af, none⟩ :: rest) ⟨ts, hs, n, z0⟩ :=
 gB (m := m) (l := 0) (h := h) hx rfl rfl hh (by simp [LG, hb]) hN (md' := md') (hmd := hmd) kk
end
theorem J2 {hs:List (Nat × Option (List AV))}{xs:List AL.Stmt}{i k n:Nat}(hH:cA hs i = some (flat aX xs)) (hn:n = xs.length - k):sCells (cA hs) 6 (pY (.own i (0 + k * 6) n 6)) = some (n,flat aX (xs.drop k)) := by
 show ((cA hs i).bind fun cs => if n * 6 ≤ (cs.drop (0 + k * 6)).length then some (n, (cs.drop (0 + k * 6)).take (n * 6)) else none) = _
 rw [hH, Option.bind_some, Nat.zero_add]
 have h1 : (flat aX xs).length = xs.length * 6 := aQ aX xs
 have h3 : (flat aX xs).drop (k * 6) = flat aX (xs.drop k) := by
  have h4 : flat aX xs = flat aX (xs.take k) ++ flat aX (xs.drop k) := by rw [dP, List.take_append_drop]
  have h5 : (flat aX (xs.take k)).length = (xs.take k).length * 6 := aQ aX _
  by_cases hk : k ≤ xs.length
  ·rw [h4, ← show (flat aX (xs.take k)).length = k * 6 from by rw [h5, List.length_take]; congr 1;omega, List.drop_left]
  ·rw [List.drop_of_length_le (by omega), List.drop_of_length_le (by omega)]; rfl
 rw [h3]
 have h2 : (flat aX (xs.drop k)).length = (xs.length - k) * 6 := by rw [aQ aX (e := 6), List.length_drop]
 rw [if_pos (by omega), List.take_of_length_le (by omega)]
theorem C8 {xs ys:List AL.Stmt}{k:Nat}(hk:k ≤ xs.length):((flat aX xs).drop 0).take (k * 6) ++ flat aX ys = flat aX (xs.take k ++ ys) := by
 rw [List.drop_zero, eV aX (e := 6), dP]
theorem AY (bs:List UInt8) (p:Nat) (q:Prg) (hb:bs.length ≤ 2000) (hp:p ≤ 900000) (hs:bO q.body ≤ 10000) (ht:q.types.length ≤ 10000):MC Tryz.prog 73 [.optr 0 0,dH q] [(0,some (fE bs p))] 1 (fun x:Prg × Nat => bO x.1.body ≤ 32 * bO q.body ∧ x.1.types.length ≤ q.types.length + 1 ∧ x.2 ≤ p + 3) (fun x => dH x.1) (fun x => [(0,some (fE bs x.2))]) := by
 have hlen := dG q.body
 have h0 := fP bs p (q.body.length : Int)
 (refine cC Tryz.func73 rfl (by simp [Tryz.ntmps73]) ?_; rw [Tryz.ntmps73])
 repeat' (first|(apply aK;first|(apply aE;rfl;rfl)|(first|(apply aJ;rfl;rfl;rfl;rfl)|(apply aU;rfl;rfl;(exact (rfl:_=[_, _]));rfl;rfl;rfl))|(apply aD;rfl;rfl;rfl)|(apply aS;rfl;rfl;rfl;rfl)|(apply aC;rfl;rfl)|(apply cR;rfl;rfl;(omega);rfl)|(first|(apply jH;rfl;rfl;(rfl);(apply k9 <;> (first|assumption|omega));rfl;rfl)|(apply nQ;rfl;rfl;rfl;rfl;infer_instance;rfl;(rfl);assumption;omega;(decide);(decide);rfl;rfl)|(apply nJ;rfl;(apply pA <;> (omega));rfl;rfl))|(first|(apply a8;rfl;rfl;rfl)|(apply cJ;rfl;rfl;rfl;rfl;rfl;(rw [aQ]; omega);(rfl);omega;omega;(exact lE (by (omega)));rfl;rfl))|(apply aF;kernel_rfl)|(apply bT;rfl;rfl;rfl;rfl)|(apply bB;rfl;rfl)|(apply cD;rfl;rfl;rfl;(first|exact (rfl:_=some [_])|exact (rfl:_=some [_, _, _])|exact (rfl:_=some [_, _, _, _])|exact (rfl:_=some [_, _, _, _, _]));rfl;rfl)|(apply aV;rfl;rfl;rfl;rfl;rfl;(case hl => (first|(rw [aQ]; simp only [gN] <;> omega)|(simp;done)));(first|exact LC (by (omega))|exact Ms (by (omega))|exact Mq (by (omega))|exact MP (by (omega))|exact (rfl:_=[_, _]))))|(apply aL;first|apply aH|apply aB|(apply bZ;kernel_rfl)|(apply aN;rfl;all_goals intro hc;have hq:=hc;(try simp only [cH] at hq);try exfalso;omega)|apply aM|apply aR|apply aP)|with_reducible apply aA|with_reducible apply bH|with_reducible apply aW)
 ·refine cE (Le.frzC (j := 2) (i := 6) [] rfl rfl (by decide)) ?_
  refine cE (Le.frzC (j := 2) (i := 7) [.imm _ _] rfl rfl (by decide)) ?_
  refine aO rfl ?_
  refine bY ((⟨q.types, q.body⟩ : Prg), p) ?_ ?_ ⟨.inr (Eq.trans (b := some _) rfl ?_), trivial⟩
  ·exact ⟨by dsimp only;omega, by dsimp only;omega, by dsimp only;omega⟩
  ·rfl
  ·rfl
 ·refine cE (Le.frzC (j := 2) (i := 6) [] rfl rfl (by decide)) ?_
  refine cE (Le.frzC (j := 2) (i := 7) [.imm _ _] rfl rfl (by decide)) ?_
  refine aO rfl ?_
  refine bY ((⟨q.types, q.body.set (cT bs p (q.body.length : Int)).toNat (MZ q.body[(cT bs p (q.body.length : Int)).toNat]! (gU bs (p + 1 + 1) [0, 11, 1, 3, 8]))⟩ : Prg), p + 1 + 1 + 1) ?_ ?_ ⟨.inr (Eq.trans (b := some _) rfl ?_), trivial⟩
  ·refine ⟨?_, by dsimp only;omega, by dsimp only;omega⟩; dsimp only;rw [mJ q.body (cT bs p (q.body.length : Int)).toNat _ (by omega) (by rw [Hn])]; omega
  ·show _ = AV.agg [_, AV.imm (List.length (q.body.set _ _)) _]; rw [List.length_set]; rfl
  ·rfl
 ·refine cE (Le.frzC (j := 2) (i := 6) [] rfl rfl (by decide)) ?_
  refine cE (Le.frzC (j := 2) (i := 7) [.imm _ _] rfl rfl (by decide)) ?_
  refine aO rfl ?_
  refine bY ((⟨q.types, q.body.set (cT bs p (q.body.length : Int)).toNat (uX q.body[(cT bs p (q.body.length : Int)).toNat]! (gU bs (p + 1 + 1) [6, -1, 0, 1]))⟩ : Prg), p + 1 + 1 + 1) ?_ ?_ ⟨.inr (Eq.trans (b := some _) rfl ?_), trivial⟩
  ·refine ⟨?_, by dsimp only;omega, by dsimp only;omega⟩; dsimp only;rw [mJ q.body (cT bs p (q.body.length : Int)).toNat _ (by omega) (by rw [Kd])]; omega
  ·show _ = AV.agg [_, AV.imm (List.length (q.body.set _ _)) _]; rw [List.length_set]; rfl
  ·rfl
 ·refine cE (Le.frzC (j := 2) (i := 6) [] rfl rfl (by decide)) ?_
  refine cE (Le.frzC (j := 2) (i := 7) [.imm _ _] rfl rfl (by decide)) ?_
  refine aO rfl ?_
  refine bY ((⟨q.types, q.body.set (cT bs p (q.body.length : Int)).toNat (uY q.body[(cT bs p (q.body.length : Int)).toNat]! (gU bs (p + 1 + 1) [6, -1, 0, 1]))⟩ : Prg), p + 1 + 1 + 1) ?_ ?_ ⟨.inr (Eq.trans (b := some _) rfl ?_), trivial⟩
  ·refine ⟨?_, by dsimp only;omega, by dsimp only;omega⟩; dsimp only;rw [mJ q.body (cT bs p (q.body.length : Int)).toNat _ (by omega) (by rw [JE])]; omega
  ·show _ = AV.agg [_, AV.imm (List.length (q.body.set _ _)) _]; rw [List.length_set]; rfl
  ·rfl
 ·refine cE (Le.frzC (j := 2) (i := 6) [] rfl rfl (by decide)) ?_
  refine cE (Le.frzC (j := 2) (i := 7) [.imm _ _] rfl rfl (by decide)) ?_
  refine aO rfl ?_
  refine bY ((⟨q.types, q.body.set (cT bs p (q.body.length : Int)).toNat (uN q.body[(cT bs p (q.body.length : Int)).toNat]! (gU bs (p + 1 + 1) [10, -1, 5]))⟩ : Prg), p + 1 + 1 + 1) ?_ ?_ ⟨.inr (Eq.trans (b := some _) rfl ?_), trivial⟩
  ·refine ⟨?_, by dsimp only;omega, by dsimp only;omega⟩; dsimp only;rw [mJ q.body (cT bs p (q.body.length : Int)).toNat _ (by omega) (by rw [Kc])]; omega
  ·show _ = AV.agg [_, AV.imm (List.length (q.body.set _ _)) _]; rw [List.length_set]; rfl
  ·rfl
 ·refine cE (Le.frzC (j := 2) (i := 11) [] rfl rfl (by decide)) ?_
  refine cE (Le.frzC (j := 2) (i := 7) [.imm _ _] rfl rfl (by decide)) ?_
  refine aO rfl ?_
  refine bY ((⟨q.types ++ [gU bs (p + 1 + 1) [1, 5, 0, 4]], q.body⟩ : Prg), p + 1 + 1 + 1) ?_ ?_ ⟨.inr (Eq.trans (b := some _) rfl ?_), trivial⟩
  ·exact ⟨by dsimp only;omega, by simp, by dsimp only;omega⟩
  ·show _ = AV.agg [AV.imm (List.length (q.types ++ [_])) _, _]; rw [List.length_append]; rfl
  ·rfl
 ·refine bF (σ := Nat × List AL.Stmt × Nat) [4, 5] [(4, _), (5, _)] [6, 2, 0] [(6, some _), (2, some _), (0, some _)] (fun k => [(7, iv (k.1 : Int))]) (fun k => [(7, some (flat aX k.2.1)), (8, some [.own 6 0 q.types.length 1, .own 7 0 k.2.2 6])]) (fun k => k.1 ≤ 31 ∧ k.2.1 = q.body ++ List.replicate k.1 q.body[0]! ∧ k.2.2 = k.2.1.length) (fun k => 31 - k.1) (0, q.body, q.body.length) ⟨by omega, by simp, rfl⟩ rfl rfl (by repeat' (first | exact trivial | refine And.intro rfl ?_)) (by repeat' (first | exact trivial | refine And.intro (.inr rfl) ?_)) ?_
  rintro ⟨k, xs, m⟩ ⟨hk, hxs, hm⟩
  dsimp only at hk hxs hm ⊢
  have hln : 0 < xs.length := by rw [hxs, List.length_append]; omega
  have hl2 : xs.length = q.body.length + k := by rw [hxs, List.length_append, List.length_replicate]
  repeat' (first|(apply aK;first|(apply aE;rfl;rfl)|(first|(apply iA;(case hx|hH => rfl);(case hf|hg|hα => infer_instance);(case hk => omega);(case h0|hN => rfl))|(apply aJ;rfl;rfl;rfl;rfl)|(apply aU;rfl;rfl;(exact (rfl:_=[_, _]));rfl;rfl;rfl))|(apply aD;rfl;rfl;rfl)|(first|(apply bR;rfl;rfl;omega;rfl)|(apply aS;rfl;rfl;rfl;rfl))|(apply aC;rfl;rfl)|(apply cR;rfl;rfl;(omega);rfl)|(apply cJ;rfl;rfl;rfl;rfl;rfl;(rw [aQ]; omega);(rfl);omega;omega;(exact iQ (by (assumption)));rfl;rfl)|(apply aF;kernel_rfl)|(apply cD;rfl;rfl;rfl;(exact (rfl:_=some [_, _, _, _, _, _]));rfl;rfl)|(apply aV;rfl;rfl;rfl;rfl;rfl;(case hl => (simp;done));(exact (rfl:_=[_, _]))))|(apply aL;first|apply aH|apply aB|(apply bZ;kernel_rfl)|(apply aN;rfl;all_goals intro hc;have hq:=hc;(try simp only [cH] at hq);try exfalso;omega)|apply aM|apply aR|apply bI|apply aP)|with_reducible apply aA|with_reducible apply bJ|with_reducible apply aW|with_reducible apply bG)
  ·(apply dV (k + 1, _, _); focus (refine Le.ren [(7, 10), (8, 8), (6, 6), (2, 2)] rfl (by decide) ?_ ?_ <;> repeat' (first | exact trivial | refine And.intro ⟨_, rfl, ?_⟩ ?_ | refine And.intro ⟨_, _, rfl, rfl, ?_⟩ ?_ | exact Or.inr rfl | refine Or.inl ⟨?_, (by first | rfl | exact aZ _ _ | exact Pur.pf)⟩ | refine Or.inr (All2.cons ?_ ?_) | refine All2.cons ?_ ?_ | exact All2.nil | rfl)))
   ·dsimp only
    refine ⟨by omega, ?_, by simp [hm]⟩
    have e0 : xs[Int.toNat 0]! = q.body[0]! := by
     show xs[0]! = _
     rw [hxs, getElem!_pos _ _ (by rw [List.length_append]; omega), List.getElem_append_left (by omega), getElem!_pos _ _ (by omega)]
    rw [e0, hxs, List.replicate_succ', List.append_assoc]
   ·dsimp only;omega
  ·have hc0 : dO q.body[0]! ≤ bO q.body := gD q.body 0 (by omega)
   have hc1 : bO xs = bO q.body + k * dO q.body[0]! := by rw [hxs, fI, A3]
   have hc2 : k * dO q.body[0]! ≤ 31 * bO q.body := Nat.mul_le_mul hk hc0
   subst hm
   refine cE (Le.frzC (j := 2) (i := 6) [] rfl rfl (by decide)) ?_
   refine cE (Le.frzC (j := 2) (i := 7) [.imm _ _] rfl rfl (by decide)) ?_
   refine aO rfl ?_
   refine bY ((⟨q.types, xs⟩ : Prg), p + 1 + 1) ?_ ?_ ⟨.inr (Eq.trans (b := some _) rfl ?_), trivial⟩
   ·exact ⟨by dsimp only;omega, by dsimp only;omega, by dsimp only;omega⟩
   ·rfl
   ·rfl
 ·have hK : (cT bs p (q.body.length : Int) + 1).toNat = (cT bs p (q.body.length : Int)).toNat + 1 := by omega
  repeat' (first|(apply aK;first|(apply C0;rfl;exact sC rfl (by omega);omega;rfl)|(apply Ch;rfl;exact sC rfl (by omega);omega;rfl)|(apply cJ;rfl;rfl;rfl;rfl;rfl;(rw [aQ]; omega);exact J2 rfl (by omega);omega;omega;exact C8 (by omega);rfl;rfl)|(apply aE;rfl;rfl)|(first|(apply aJ;rfl;rfl;rfl;rfl)|(apply aU;rfl;rfl;(exact (rfl:_=[_, _]));rfl;rfl;rfl))|(apply aD;rfl;rfl;rfl)|(apply bR;rfl;rfl;omega;rfl)|(apply aF;kernel_rfl)|(apply aV;rfl;rfl;rfl;rfl;rfl;(case hl => (simp;done));(exact (rfl:_=[_, _]))))|(apply aL;first|apply aH|apply aB|apply aP)|with_reducible apply aA|with_reducible apply aW)
  refine cE (Le.frzC (j := 2) (i := 6) [] rfl rfl (by decide)) ?_
  refine cE (Le.frzC (j := 2) (i := 9) [.imm _ _] rfl rfl (by decide)) ?_
  refine aO rfl ?_
  refine bY ((⟨q.types, q.body.take (cT bs p (q.body.length : Int)).toNat ++ q.body.drop (cT bs p (q.body.length : Int) + 1).toNat⟩ : Prg), p + 1 + 1) ?_ ?_ ⟨.inr (Eq.trans (b := some _) rfl ?_), trivial⟩
  ·refine ⟨?_, by dsimp only; omega, by dsimp only; omega⟩
   dsimp only
   rw [hK]
   have := Az q.body (cT bs p (q.body.length : Int)).toNat
   omega
  ·show AV.agg [_, AV.imm _ _] = AV.agg [_, AV.imm (List.length (_ ++ _)) _]
   rw [List.length_append, List.length_take, List.length_drop, Nat.min_eq_left (by omega)]
  ·rfl
 ·refine cE (Le.frzC (j := 2) (i := 6) [] rfl rfl (by decide)) ?_
  refine cE (Le.frzC (j := 2) (i := 7) [.imm _ _] rfl rfl (by decide)) ?_
  refine aO rfl ?_
  refine bY (q, p + 1 + 1) ⟨by dsimp only;omega, by dsimp only;omega, by dsimp only;omega⟩ rfl ⟨.inr (Eq.trans (b := some _) rfl ?_), trivial⟩
  ·rfl
def D9 (s : ByteArray) (i : Int) (w : ByteArray) : Bool := decide (0 ≤ i) && (decide (i + w.size ≤ s.size) && ((s.extract i.toNat (i + w.size).toNat).toList == w.toList))
def Jo (lo hi : Int) (s : ByteArray) (i : Int) : Int := if i < 0 then -1 else if (s.size : Int) ≤ i then -1 else if ((s[i.toNat]!).toNat : Int) < lo then -1 else if hi < ((s[i.toNat]!).toNat : Int) then -1 else ((s[i.toNat]!).toNat : Int) - lo
theorem uQ (s:ByteArray) (i:Int) (w:ByteArray) (hs:s.size ≤ 1000000) (hw:w.size ≤ 1000000) (hi:i ≤ 1000000):PC Tryz.prog 161 [sv s,iv i,sv w] (fun r => r = bv (D9 s i w)) := by
 (refine aT Tryz.func161 rfl (by simp [Tryz.ntmps161]) ?_; rw [Tryz.ntmps161])
 repeat' (first|(apply aK;first|(apply lU;rfl;rfl;(rfl);rfl)|(apply Fy;rfl;exact sC rfl (by omega);exact sC rfl (by omega);omega;rfl)|(apply aE;rfl;rfl)|(first|(apply aY;rfl;rfl;rfl;(assumption))|(apply a6;rfl;rfl;rfl;(first|rfl|assumption))|(apply bE;(case hj|hb|hN => rfl);all_goals (intro hg;have hq := hg;(try simp only [cH] at hq);(try (exfalso;omega)))))|(first|(apply bR;rfl;rfl;omega;rfl)|(apply aS;rfl;rfl;rfl;rfl))|(apply aC;rfl;rfl)|(first|(apply bK;rfl;(assumption);rfl;rfl)|(apply bC;rfl;(first|rfl|assumption);rfl;rfl))|(apply kC;rfl;rfl)|(apply aF;kernel_rfl))|(apply aL;first|apply aH|apply aB|apply aP)|with_reducible apply aA|((with_reducible apply aO);case hr => rfl))
 all_goals (refine ⟨?_, rfl⟩; simp only [b8, AV.v.injEq, Value.bool.injEq, Value.int.injEq, true_and])
 ·unfold D9
  rw [decide_eq_true (by omega), decide_eq_true (by omega)]; rfl
 ·unfold D9
  rw [decide_eq_true (p := 0 ≤ i) (by omega), decide_eq_false (by omega)]; rfl
 ·unfold D9
  rw [decide_eq_false (by omega)]; rfl
theorem IE (s:ByteArray) (i:Int) (hs:s.size ≤ 1000000):PC Tryz.prog 192 [sv s,iv i] (fun r => r = iv (Jo 97 122 s i)) := by
 have hb0 : ((s[i.toNat]!).toNat : Int) ≤ 255 := by have := (s[i.toNat]!).toNat_lt;omega
 (refine aT Tryz.func192 rfl (by simp [Tryz.ntmps192]) ?_; rw [Tryz.ntmps192])
 repeat' (first|(apply aK;first|(apply qJ;rfl;rfl;omega;rfl)|(apply D8;rfl;rfl;omega;rfl)|(apply aE;rfl;rfl)|(first|(apply aY;rfl;rfl;rfl;(assumption))|(apply a6;rfl;rfl;rfl;(first|rfl|assumption))|(apply bE;(case hj|hb|hN => rfl);all_goals (intro hg;have hq := hg;(try simp only [cH] at hq);(try (exfalso;omega)))))|(apply aS;rfl;rfl;rfl;rfl)|(apply aC;rfl;rfl)|(first|(apply bK;rfl;(first|rfl|assumption);rfl;rfl)|(apply bC;rfl;(assumption);rfl;rfl))|(apply kC;rfl;rfl)|(apply aF;kernel_rfl)|(apply qD;rfl;(omega);rfl))|(apply aL;first|apply aH|apply aB|(apply bU;rfl;(rfl))|(apply aN;rfl;all_goals intro hc;have hq:=hc;(try simp only [cH] at hq);try exfalso;omega)|apply aR|apply aP)|with_reducible apply aA|with_reducible apply bH|((with_reducible apply aO);case hr => rfl))
 all_goals (refine ⟨?_, rfl⟩; simp only [b8, AV.v.injEq, Value.bool.injEq, Value.int.injEq, true_and])
 all_goals (unfold Jo;repeat' split)
 all_goals (first|rfl|omega)
theorem Fa (s:ByteArray) (i:Int) (hs:s.size ≤ 1000000):PC Tryz.prog 194 [sv s,iv i] (fun r => r = iv (Jo 48 57 s i)) := by
 have hb0 : ((s[i.toNat]!).toNat : Int) ≤ 255 := by have := (s[i.toNat]!).toNat_lt;omega
 (refine aT Tryz.func194 rfl (by simp [Tryz.ntmps194]) ?_; rw [Tryz.ntmps194])
 repeat' (first|(apply aK;first|(apply qJ;rfl;rfl;omega;rfl)|(apply D8;rfl;rfl;omega;rfl)|(apply aE;rfl;rfl)|(first|(apply aY;rfl;rfl;rfl;(assumption))|(apply a6;rfl;rfl;rfl;(first|rfl|assumption))|(apply bE;(case hj|hb|hN => rfl);all_goals (intro hg;have hq := hg;(try simp only [cH] at hq);(try (exfalso;omega)))))|(apply aS;rfl;rfl;rfl;rfl)|(apply aC;rfl;rfl)|(first|(apply bK;rfl;(first|rfl|assumption);rfl;rfl)|(apply bC;rfl;(assumption);rfl;rfl))|(apply kC;rfl;rfl)|(apply aF;kernel_rfl)|(apply qD;rfl;(omega);rfl))|(apply aL;first|apply aH|apply aB|(apply bU;rfl;(rfl))|(apply aN;rfl;all_goals intro hc;have hq:=hc;(try simp only [cH] at hq);try exfalso;omega)|apply aR|apply aP)|with_reducible apply aA|with_reducible apply bH|((with_reducible apply aO);case hr => rfl))
 all_goals (refine ⟨?_, rfl⟩; simp only [b8, AV.v.injEq, Value.bool.injEq, Value.int.injEq, true_and])
 all_goals (unfold Jo;repeat' split)
 all_goals (first|rfl|omega)
def QP (s : ByteArray) (i : Int) (r : AV) : Prop := ∃ (x : AL.Stmt) (nx : Int), r = .tup [fA x, iv nx] ∧ ((nx = -1 ∧ (dO x : Int) ≤ s.size + 1) ∨ (i < nx ∧ nx ≤ s.size + 3 ∧ (dO x : Int) ≤ nx - i))
def QB (s : ByteArray) (i : Int) (r : AV) : Prop := ∃ (l : List AL.Stmt) (nx : Int), r = .tup [sl aX l, iv nx] ∧ ((nx = -1 ∧ l = []) ∨ (0 ≤ i ∧ i + 2 ≤ nx ∧ nx ≤ s.size ∧ (bO l : Int) ≤ nx - i))
def QL (s : ByteArray) (i : Int) (r : AV) : Prop := ∃ (l : List AL.Stmt) (nx : Int), r = .tup [sl aX l, iv nx] ∧ ((nx = -1 ∧ l = []) ∨ (i ≤ nx ∧ nx ≤ s.size ∧ (bO l : Int) ≤ nx - i))
theorem kN {s w:ByteArray}{i:Int}(h:D9 s i w = true):0 ≤ i ∧ i + w.size ≤ s.size := by
 unfold D9 at h;simp only [Bool.and_eq_true, decide_eq_true_eq] at h;exact ⟨h.1, h.2.1⟩
theorem Ni {s:ByteArray}{i op x y n nx:Int}(h:nx = -1 ∨ (i < nx ∧ nx ≤ s.size + 3)):QP s i (.tup [.agg [iv op,iv x,iv y,iv n,.imm 0 [],.imm 0 []],iv nx]) :=
 ⟨.mk op x y n [] [], nx, rfl, by simp only [dO, bO]; omega⟩
theorem Ng {s:ByteArray}{i op x y n nx:Int}{th:List AL.Stmt}(h:(nx = -1 ∧ (bO th:Int) ≤ s.size) ∨ (i < nx ∧ nx ≤ s.size + 3 ∧ (bO th:Int) + 1 ≤ nx - i)):QP s i (.tup [.agg [iv op,iv x,iv y,iv n,sl aX th,.imm 0 []],iv nx]) :=
 ⟨.mk op x y n th [], nx, rfl, by simp only [dO, bO]; omega⟩
theorem Nf {s:ByteArray}{i op x y n nx:Int}{th el:List AL.Stmt}(h:(nx = -1 ∧ (bO th:Int) + bO el ≤ s.size) ∨ (i < nx ∧ nx ≤ s.size + 3 ∧ (bO th:Int) + bO el + 1 ≤ nx - i)):QP s i (.tup [.agg [iv op,iv x,iv y,iv n,sl aX th,sl aX el],iv nx]) :=
 ⟨.mk op x y n th el, nx, rfl, by simp only [dO]; omega⟩
theorem QP.pur {s:ByteArray}{i:Int}{r:AV}(h:QP s i r):r.pur = true := by obtain ⟨x,nx,rfl,_⟩ := h; exact Pur.pf
theorem QB.pur {s:ByteArray}{i:Int}{r:AV}(h:QB s i r):r.pur = true := by obtain ⟨x,nx,rfl,_⟩ := h; exact Pur.pf
theorem QL.pur {s:ByteArray}{i:Int}{r:AV}(h:QL s i r):r.pur = true := by obtain ⟨x,nx,rfl,_⟩ := h; exact Pur.pf
theorem uI {P:Program}{s:AS}{res:Array ResultVar}{q:AV → Prop}{l:List AV}(hQ:∀ r,q r → r.pur = true) (hr:v8 P (lk s.ts) (cA s.hs) res.toList = some l) (h:q (b8 l)):AQ P res (fun r _ => q r ∧ r.pur = true) .ret s := aO hr ⟨h,hQ _ h⟩
theorem AX (s:ByteArray) (i dp:Int) (hs:s.size ≤ 100000) (hi0:0 ≤ i) (hi:i ≤ s.size) (hd0:0 ≤ dp) (hd:dp ≤ 10) (braces_ih:∀ j dj:Int,dj = dp - 1 → -1 ≤ j → j ≤ s.size + 10 → PC Tryz.prog 193 [sv s,iv j,iv dj] (QB s j)):PC Tryz.prog 162 [sv s,iv i,iv dp] (QP s i) := by
 have h1 : D9 s i ⟨#[100, 114, 111, 112, 32]⟩ = true → i + 5 ≤ s.size := fun h => (kN h).2
 have h2 : D9 s i ⟨#[108, 111, 111, 112, 123]⟩ = true → i + 5 ≤ s.size := fun h => (kN h).2
 have h3 : D9 s i ⟨#[105, 102, 123]⟩ = true → i + 3 ≤ s.size := fun h => (kN h).2
 have h4 : D9 s i ⟨#[42]⟩ = true → i + 1 ≤ s.size := fun h => (kN h).2
 have h5 : D9 s (i + 1) ⟨#[61]⟩ = true → i + 1 + 1 ≤ s.size := fun h => (kN h).2
 have h6 : D9 s (i + 2) ⟨#[98, 111, 120, 32]⟩ = true → i + 2 + 4 ≤ s.size := fun h => (kN h).2
 have h7 : D9 s (i + 2) ⟨#[38, 109, 117, 116, 32]⟩ = true → i + 2 + 5 ≤ s.size := fun h => (kN h).2
 (refine aT Tryz.func162 rfl (by simp [Tryz.ntmps162]) ?_; rw [Tryz.ntmps162])
 repeat' (first|(apply aK;first|(apply aE;rfl;rfl)|(first|(apply aY;rfl;rfl;rfl;(assumption))|(apply a6;rfl;rfl;rfl;(assumption))|(apply bE;(case hj|hb|hN => rfl);all_goals (intro hg;have hq := hg;(try simp only [cH] at hq);(try (exfalso;omega)))))|(first|(apply bR;rfl;rfl;omega;rfl)|(apply e6;rfl;rfl;omega;rfl)|(apply aS;rfl;rfl;rfl;rfl))|(apply aC;rfl;rfl)|(first|(apply bK;rfl;(assumption);rfl;rfl)|(apply bC;rfl;(assumption);rfl;rfl))|(first|((with_reducible apply aI (k := 161));(case ha => rfl);(case h => (apply uQ <;> (first|omega|decide)));(case hp => (rfl));(case hN => rfl))|((with_reducible apply aI (k := 192));(case ha => rfl);(case h => (apply IE <;> (omega)));(case hp => (rfl));(case hN => rfl))|((with_reducible apply fN (k := 193));(case ha => rfl);(case h => (apply braces_ih <;> (omega)));(case hp => (rfl));(case hN => rfl);(rintro _ ⟨l, nx, rfl, hql⟩ _))|((with_reducible apply aI (k := 194));(case ha => rfl);(case h => (apply Fa <;> (omega)));(case hp => (rfl));(case hN => rfl)))|(apply aF;kernel_rfl)|(apply bW;rfl;(exact (rfl:_=some [_, _, _, _, _, _]));(exact (rfl:_=[_, _, _, _, _, _]));rfl)|(apply cF;rfl;rfl)|(apply bB;rfl;rfl)|(apply b0;rfl;rfl;rfl)|(apply aV;rfl;rfl;rfl;rfl;rfl;(case hl => (first|decide|(simp;done)));(exact (rfl:_=[_, _, _, _, _, _]))))|(apply aL;first|apply aH|apply aB|(apply bU;rfl;(rfl))|(apply aN;rfl;all_goals intro hc;have hq:=hc;(try simp only [cH] at hq);try exfalso;omega)|apply aM|apply aR|apply aP)|with_reducible apply aA|with_reducible apply bH|with_reducible apply aW|with_reducible apply cX)
 all_goals refine uI (fun _ => QP.pur) (l := [.agg [_, _, _, _, _, _], _]) rfl ?_
 all_goals (try have b1 := h1 (by assumption))
 all_goals (try have b2 := h2 (by assumption))
 all_goals (try have b3 := h3 (by assumption))
 all_goals (try have b4 := h4 (by assumption))
 all_goals (try have b5 := h5 (by assumption))
 all_goals (try have b6 := h6 (by assumption))
 all_goals (try have b7 := h7 (by assumption))
 all_goals clear h1 h2 h3 h4 h5 h6 h7
 all_goals first
  | (refine Ni ?_; omega)
  | skip
 ·refine Ng (th := l) ?_
  rcases hql with ⟨h8, h9⟩|hql
  ·rw [h9]; simp only [bO]; omega
  ·omega
 ·rename_i l1 nx1 hql1 hpu1 hpu2
  refine Nf (th := l1) (el := l) ?_
  rcases hql1 with ⟨h8, h9⟩|hql1 <;> rcases hql with ⟨h10, h11⟩|hql
  ·rw [h9, h11]; simp only [bO]; omega
  ·omega
  ·rw [h11]; simp only [bO]; omega
  ·omega
theorem wW (s:ByteArray) (i dp:Int) (hs:s.size ≤ 100000) (hi0:-1 ≤ i) (hi:i ≤ s.size + 10) (hd0:-1 ≤ dp) (hd:dp ≤ 10) (list_ih:∀ j dj:Int,0 ≤ dp → dj = dp → 0 ≤ j → j ≤ s.size → PC Tryz.prog 121 [sv s,iv j,iv dj] (QL s j)):PC Tryz.prog 193 [sv s,iv i,iv dp] (QB s i) := by
 have h1 : D9 s i ⟨#[123]⟩ = true → 0 ≤ i ∧ i + 1 ≤ s.size := fun h => kN h
 (refine aT Tryz.func193 rfl (by simp [Tryz.ntmps193]) ?_; rw [Tryz.ntmps193])
 repeat' (first|(apply aK;first|(apply aE;rfl;rfl)|(first|(apply aY;rfl;rfl;rfl;(assumption))|(apply a6;rfl;rfl;rfl;(assumption))|(apply bE;(case hj|hb|hN => rfl);all_goals (intro hg;have hq := hg;(try simp only [cH] at hq);(try (exfalso;omega)))))|(first|(apply bR;rfl;rfl;omega;rfl)|(apply aS;rfl;rfl;rfl;rfl))|(apply aC;rfl;rfl)|(first|(apply bK;rfl;(assumption);rfl;rfl)|(apply bC;rfl;(assumption);rfl;rfl))|((with_reducible apply aI (k := 161));(case ha => rfl);(case h => (apply uQ <;> (first|omega|decide)));(case hp => (rfl));(case hN => rfl))|(apply aF;kernel_rfl)|(apply cF;rfl;rfl))|(apply aL;first|apply aH|apply aB|(apply bU;rfl;(rfl))|(apply aN;rfl;all_goals intro hc;have hq:=hc;(try simp only [cH] at hq);try exfalso;omega)|apply aR|apply aP)|with_reducible apply aA|with_reducible apply bH)
 ·refine cE (Le.nilImm (d := 6) rfl) ?_
  exact uI (fun _ => QB.pur) (l := [.imm 0 [], iv (-1)]) rfl ⟨[], -1, rfl, .inl ⟨rfl, rfl⟩⟩
 ·have b1 := h1 (by assumption)
  repeat' (first|(apply aK;first|(apply aE;rfl;rfl)|(apply bR;rfl;rfl;omega;rfl)|(apply aC;rfl;rfl)|(first|((with_reducible apply fN (k := 121));(case ha => rfl);(case h => (apply list_ih <;> (first|assumption|omega)));(case hp => (rfl));(case hN => rfl);(rintro _ ⟨l, nx, rfl, hql⟩ _))|((with_reducible apply aI (k := 161));(case ha => rfl);(case h => (apply uQ <;> (first|omega|decide)));(case hp => (rfl));(case hN => rfl)))|(apply aF;kernel_rfl)|(apply cF;rfl;rfl)|(apply b0;rfl;rfl;rfl))|(apply aL;first|apply aH|apply aB|(apply aN;rfl;all_goals intro hc;have hq:=hc;(try simp only [cH] at hq);try exfalso;omega)|apply aR|apply aP)|with_reducible apply aA|with_reducible apply bH)
  ·refine cE (Le.nilImm (d := 6) rfl) ?_
   exact uI (fun _ => QB.pur) (l := [.imm 0 [], iv (-1)]) rfl ⟨[], -1, rfl, .inl ⟨rfl, rfl⟩⟩
  ·have b2 : 0 ≤ nx ∧ nx + 1 ≤ s.size := kN (w := ⟨#[125]⟩) (by assumption)
   exact uI (fun _ => QB.pur) (l := [sl aX l, iv (nx + 1)]) rfl ⟨l, nx + 1, rfl, by omega⟩
 ·refine cE (Le.nilImm (d := 6) rfl) ?_
  exact uI (fun _ => QB.pur) (l := [.imm 0 [], iv (-1)]) rfl ⟨[], -1, rfl, .inl ⟨rfl, rfl⟩⟩
theorem D5 (s:ByteArray) (i dp:Int) (hs:s.size ≤ 100000) (hi0:0 ≤ i) (hi:i ≤ s.size) (hd0:0 ≤ dp) (hd:dp ≤ 10) (parse_ih:∀ j dj:Int,dj = dp → 0 ≤ j → j ≤ s.size → PC Tryz.prog 162 [sv s,iv j,iv dj] (QP s j)):PC Tryz.prog 121 [sv s,iv i,iv dp] (QL s i) := by
 (refine aT Tryz.func121 rfl (by simp [Tryz.ntmps121]) ?_; rw [Tryz.ntmps121])
 repeat' (first|(apply aK;first|(apply aE;rfl;rfl)|(first|(apply aY;rfl;rfl;rfl;(assumption))|(apply a6;rfl;rfl;rfl;(assumption))|(apply bE;(case hj|hb|hN => rfl);all_goals (intro hg;have hq := hg;(try simp only [cH] at hq);(try (exfalso;omega)))))|(apply aS;rfl;rfl;rfl;rfl)|(apply aC;rfl;rfl)|(first|(apply bK;rfl;(assumption);rfl;rfl)|(apply bC;rfl;(assumption);rfl;rfl))|((with_reducible apply aI (k := 161));(case ha => rfl);(case h => (apply uQ <;> (first|omega|decide)));(case hp => (rfl));(case hN => rfl))|(apply kC;rfl;rfl)|(apply aF;kernel_rfl)|(apply cD;rfl;rfl;rfl;(rfl);rfl;rfl))|(apply aL;first|apply aH|apply aB|(apply bU;rfl;(rfl))|(apply aN;rfl;all_goals intro hc;have hq:=hc;(try simp only [cH] at hq);try exfalso;omega)|apply aM|apply aR|apply aP)|with_reducible apply aA|with_reducible apply bH)
 rotate_left 1
 ·refine bF (σ := Int × List AL.Stmt × Nat) [0, 2] [(0, _), (2, _)] [] [] (fun k => [(1, iv k.1), (8, .own 0 0 k.2.2 6)]) (fun k => [(0, some (flat aX k.2.1))]) (fun k => i ≤ k.1 ∧ k.1 ≤ s.size ∧ k.2.2 = k.2.1.length ∧ (bO k.2.1 : Int) ≤ k.1 - i) (fun k => (s.size - k.1).toNat) (i, [], 0) ⟨by omega, by omega, rfl, by simp [bO]⟩ rfl rfl (by repeat' (first | exact trivial | refine And.intro rfl ?_)) (by repeat' (first | exact trivial | refine And.intro (.inr rfl) ?_)) ?_
  rintro ⟨k, xs, m⟩ ⟨hk0, hk, hm, hc⟩
  dsimp only at hk0 hk hm hc ⊢
  have hln := dG xs
  repeat' (first|(apply aK;first|(apply aE;rfl;rfl)|(apply aU;rfl;rfl;(exact (rfl:_=[_, _, _, _, _, _]));rfl;rfl;rfl)|(first|(apply aY;rfl;rfl;rfl;(assumption))|(apply a6;rfl;rfl;rfl;(assumption))|(apply bE;(case hj|hb|hN => rfl);all_goals (intro hg;have hq := hg;(try simp only [cH] at hq);(try (exfalso;omega)))))|(first|(apply bR;rfl;rfl;omega;rfl)|(apply aS;rfl;rfl;rfl;rfl))|(apply aC;rfl;rfl)|(first|(apply bK;rfl;(assumption);rfl;rfl)|(apply bC;rfl;(assumption);rfl;rfl))|(first|((with_reducible apply aI (k := 161));(case ha => rfl);(case h => (apply uQ <;> (first|omega|decide)));(case hp => (rfl));(case hN => rfl))|((with_reducible apply fN (k := 162));(case ha => rfl);(case h => (apply parse_ih <;> (first|assumption|omega)));(case hp => (rfl));(case hN => rfl);(rintro _ ⟨x, nx, rfl, hqx⟩ _)))|(first|(apply kC;rfl;rfl)|(apply cJ;rfl;rfl;rfl;rfl;rfl;(rw [aQ]; omega);(rfl);omega;omega;(exact iQ (by (assumption)));rfl;rfl))|(apply aF;kernel_rfl)|(apply cF;rfl;rfl)|(apply bB;rfl;rfl)|(apply b0;rfl;rfl;rfl)|((apply bS (t := _));(case hze|hsm|hl => rfl);(case hfl => (exact (rfl:_=some [_, _, _, _, _, _])));(case hM|hN => rfl))|(apply aV;rfl;rfl;rfl;rfl;rfl;(case hl => (simp;done));(exact (rfl:_=[_, _, _, _, _, _]))))|(apply aL;first|apply aH|apply aB|(apply bU;rfl;(rfl))|(apply aN;rfl;all_goals intro hc;have hq:=hc;(try simp only [cH] at hq);try exfalso;omega)|apply aM|apply aR|apply aP)|with_reducible apply aA|with_reducible apply bH|with_reducible apply aW|with_reducible apply cX)
  ·refine cE (Le.nilImm (d := 6) rfl) ?_
   exact uI (fun _ => QL.pur) (l := [.imm 0 [], iv (-1)]) rfl ⟨[], -1, rfl, .inl ⟨rfl, rfl⟩⟩
  ·refine cE (Le.frzD (d := 6) (i := 3) rfl rfl) ?_
   refine uI (fun _ => QL.pur) (l := [.imm (m + 1) (flat aX (xs ++ [x])), iv nx]) rfl ⟨xs ++ [x], nx, ?_, ?_⟩
   ·show AV.tup [AV.imm (m + 1) _, _] = AV.tup [AV.imm (List.length (xs ++ [x])) _, _]
    rw [List.length_append, hm]; rfl
   ·rw [fI]; simp only [bO]; omega
  ·have b2 : 0 ≤ nx ∧ nx + 1 ≤ s.size := kN (w := ⟨#[59]⟩) (by assumption)
   (apply dV (nx + 1, xs ++ [x], m + 1);focus (refine Le.ren [(0, 3)] rfl (by decide) ?_ ?_ <;> repeat' (first|exact trivial|refine And.intro ⟨_, rfl, ?_⟩ ?_|refine And.intro ⟨_, _, rfl, rfl, ?_⟩ ?_|exact Or.inr rfl|refine Or.inl ⟨?_, (by first|rfl|exact aZ _ _)⟩|rfl)))
   ·dsimp only
    refine ⟨by omega, by omega, by simp [hm], ?_⟩
    rw [fI]; simp only [bO]; omega
   ·dsimp only;omega
  ·refine cE (Le.nilImm (d := 6) rfl) ?_
   exact uI (fun _ => QL.pur) (l := [.imm 0 [], iv (-1)]) rfl ⟨[], -1, rfl, .inl ⟨rfl, rfl⟩⟩
 ·refine cE (Le.frzD (d := 6) (i := 0) rfl rfl) ?_
  exact uI (fun _ => QL.pur) (l := [.imm 0 [], iv i]) rfl ⟨[], i, rfl, by simp only [bO]; omega⟩
 ·refine cE (Le.frzD (d := 6) (i := 0) rfl rfl) ?_
  exact uI (fun _ => QL.pur) (l := [.imm 0 [], iv i]) rfl ⟨[], i, rfl, by simp only [bO]; omega⟩
theorem Bv (s:ByteArray) (hs:s.size ≤ 100000):∀ n:Nat,n ≤ 10 → (∀ j:Int,-1 ≤ j → j ≤ s.size + 10 → PC Tryz.prog 193 [sv s,iv j,iv ((n:Int) - 1)] (QB s j)) ∧ (∀ j:Int,0 ≤ j → j ≤ s.size → PC Tryz.prog 121 [sv s,iv j,iv (n:Int)] (QL s j))
 | 0, hn => by
  have hB : ∀ j : Int, -1 ≤ j → j ≤ s.size + 10 → PC Tryz.prog 193 [sv s, iv j, iv (((0 : Nat) : Int) - 1)] (QB s j) :=
   fun j h0 h1 => wW s j (((0 : Nat) : Int) - 1) hs h0 h1 (by omega) (by omega) (fun _ _ h => by omega)
  have hP : ∀ j : Int, 0 ≤ j → j ≤ s.size → PC Tryz.prog 162 [sv s, iv j, iv ((0 : Nat) : Int)] (QP s j) :=
   fun j h0 h1 => AX s j _ hs h0 h1 (by omega) (by omega) (fun k dj h2 h3 h4 => by subst h2;exact hB k h3 h4)
  exact ⟨hB, fun j h0 h1 => D5 s j _ hs h0 h1 (by omega) (by omega) (fun k dj h2 h3 h4 => by subst h2;exact hP k h3 h4)⟩
 | n + 1, hn => by
  have ih := Bv s hs n (by omega)
  have e : (((n + 1 : Nat) : Int) - 1) = (n : Int) := by omega
  have hB : ∀ j : Int, -1 ≤ j → j ≤ s.size + 10 → PC Tryz.prog 193 [sv s, iv j, iv (((n + 1 : Nat) : Int) - 1)] (QB s j) :=
   fun j h0 h1 => wW s j _ hs h0 h1 (by omega) (by omega) (fun k dj h2 h3 h4 h5 => by rw [e] at h3;subst h3;exact ih.2 k h4 h5)
  have hP : ∀ j : Int, 0 ≤ j → j ≤ s.size → PC Tryz.prog 162 [sv s, iv j, iv ((n + 1 : Nat) : Int)] (QP s j) :=
   fun j h0 h1 => AX s j _ hs h0 h1 (by omega) (by omega) (fun k dj h2 h3 h4 => by subst h2;exact hB k h3 h4)
  exact ⟨hB, fun j h0 h1 => D5 s j _ hs h0 h1 (by omega) (by omega) (fun k dj h2 h3 h4 => by subst h2;exact hP k h3 h4)⟩
theorem JX (s:ByteArray) (i:Int) (hs:s.size ≤ 100000) (hi0:0 ≤ i) (hi:i ≤ s.size):PC Tryz.prog 121 [sv s,iv i,iv 4] (QL s i) := (Bv s hs 4 (by omega)).2 i hi0 hi
end Go.Proofs.YtjcpngimjdckmaaGreat
