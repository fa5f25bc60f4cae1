/-
 A part of the proofs over this program: rules and contracts of its functions (the contracts).
-/
import Derived.Test.YtjcpngimjdckmaaGreatQ4A07
import Derived.Test.YtjcpngimjdckmaaGreatRows
set_option linter.unusedVariables false
set_option linter.unusedSimpArgs false
set_option maxHeartbeats 8000000
set_option maxRecDepth 4000
attribute [local irreducible] Go.AL.RW Go.AL.AW Go.AL.Stop
namespace Go.Proofs.YtjcpngimjdckmaaGreat
open Go.AL
theorem iC (a b c : Int) : PC Tryz.prog 50 [iv a, iv b, iv c] (fun r => r = bv (decide (b ≤ a) && decide (a ≤ c))) := by
 (refine aQ Tryz.func50 rfl (by simp [Tryz.ntmps50]) ?_; rw [Tryz.ntmps50])
 repeat' (first|(apply aM;first|(apply aD;rfl;rfl)|(first|(apply a9;rfl;rfl;rfl;(assumption))|(apply aZ;rfl;rfl;rfl;(assumption))|(apply bC;(case hj|hb|hN => rfl);all_goals (intro hg;have hq := hg;(try simp only [cD] at hq);(try (exfalso;omega)))))|(apply aV;rfl;rfl;rfl;rfl)|(apply aC;rfl;rfl)|(first|(apply bI;rfl;(assumption);rfl;rfl)|(apply bH;rfl;(assumption);rfl;rfl))|(apply aF;kernel_rfl))|(apply aO;first|apply aH|apply aB|apply aW)|with_reducible apply aA|((with_reducible apply aU);case hr => rfl))
 all_goals (refine ⟨?_, rfl⟩; simp only [bQ, AV.v.injEq, Value.bool.injEq, Value.int.injEq, true_and])
 all_goals grind
theorem yO (t : Int) : PC Tryz.prog 197 [iv t] (fun r => r = bv (jW t)) := by
 (refine aQ Tryz.func197 rfl (by simp [Tryz.ntmps197]) ?_; rw [Tryz.ntmps197])
 repeat' (first|(apply aM;first|(apply aD;rfl;rfl)|(first|(apply a9;rfl;rfl;rfl;(assumption))|(apply aZ;rfl;rfl;rfl;(assumption))|(apply bC;(case hj|hb|hN => rfl);all_goals (intro hg;have hq := hg;(try simp only [cD] at hq);(try (exfalso;omega)))))|(apply aV;rfl;rfl;rfl;rfl)|(apply aC;rfl;rfl)|(first|(apply bI;rfl;(assumption);rfl;rfl)|(apply bH;rfl;(assumption);rfl;rfl))|(apply aF;kernel_rfl))|(apply aO;first|apply aH|apply aB|apply aW)|with_reducible apply aA|((with_reducible apply aU);case hr => rfl))
 all_goals (refine ⟨?_, rfl⟩; simp only [bQ, AV.v.injEq, Value.bool.injEq, Value.int.injEq, true_and])
 all_goals grind [jW]
theorem Dk (t : Int) : PC Tryz.prog 217 [iv t] (fun r => r = bv (jW t)) := by
 (refine aQ Tryz.func217 rfl (by simp [Tryz.ntmps217]) ?_; rw [Tryz.ntmps217])
 repeat' (first|(apply aM;first|(apply aD;rfl;rfl)|(first|(apply a9;rfl;rfl;rfl;(assumption))|(apply aZ;rfl;rfl;rfl;(assumption))|(apply bC;(case hj|hb|hN => rfl);all_goals (intro hg;have hq := hg;(try simp only [cD] at hq);(try (exfalso;omega)))))|(apply aV;rfl;rfl;rfl;rfl)|(apply aC;rfl;rfl)|(first|(apply bI;rfl;(assumption);rfl;rfl)|(apply bH;rfl;(assumption);rfl;rfl))|(apply aF;kernel_rfl))|(apply aO;first|apply aH|apply aB|apply aW)|with_reducible apply aA|((with_reducible apply aU);case hr => rfl))
 all_goals (refine ⟨?_, rfl⟩; simp only [bQ, AV.v.injEq, Value.bool.injEq, Value.int.injEq, true_and])
 all_goals grind [jW]
theorem zH (t : Int) : PC Tryz.prog 203 [iv t] (fun r => r = bv (decide (t = 2) || jW t)) := by
 (refine aQ Tryz.func203 rfl (by simp [Tryz.ntmps203]) ?_; rw [Tryz.ntmps203])
 repeat' (first|(apply aM;first|(apply aD;rfl;rfl)|(first|(apply a9;rfl;rfl;rfl;(assumption))|(apply aZ;rfl;rfl;rfl;(assumption))|(apply bC;(case hj|hb|hN => rfl);all_goals (intro hg;have hq := hg;(try simp only [cD] at hq);(try (exfalso;omega)))))|(apply aV;rfl;rfl;rfl;rfl)|(apply aC;rfl;rfl)|(first|(apply bI;rfl;(assumption);rfl;rfl)|(apply bH;rfl;(assumption);rfl;rfl))|((with_reducible apply aI (k := 197));(case ha => rfl);(case h => (apply yO <;> (fail)));(case hp => (rfl));(case hN => rfl))|(apply aF;kernel_rfl))|(apply aO;first|apply aH|apply aB|apply aW)|with_reducible apply aA|((with_reducible apply aU);case hr => rfl))
 all_goals (refine ⟨?_, rfl⟩; simp only [bQ, AV.v.injEq, Value.bool.injEq, Value.int.injEq, true_and])
 all_goals grind
theorem zL (t : Int) : PC Tryz.prog 80 [iv t] (fun r => r = bv (decide (t = 9) || decide (t = 10))) := by
 (refine aQ Tryz.func80 rfl (by simp [Tryz.ntmps80]) ?_; rw [Tryz.ntmps80])
 repeat' (first|(apply aM;first|(apply aD;rfl;rfl)|(first|(apply a9;rfl;rfl;rfl;(assumption))|(apply aZ;rfl;rfl;rfl;(assumption))|(apply bC;(case hj|hb|hN => rfl);all_goals (intro hg;have hq := hg;(try simp only [cD] at hq);(try (exfalso;omega)))))|(apply aV;rfl;rfl;rfl;rfl)|(apply aC;rfl;rfl)|(first|(apply bI;rfl;(assumption);rfl;rfl)|(apply bH;rfl;(assumption);rfl;rfl))|(apply aF;kernel_rfl))|(apply aO;first|apply aH|apply aB|apply aW)|with_reducible apply aA|((with_reducible apply aU);case hr => rfl))
 all_goals (refine ⟨?_, rfl⟩; simp only [bQ, AV.v.injEq, Value.bool.injEq, Value.int.injEq, true_and])
 all_goals grind
theorem Fj (ts : List Int) (v : Int) : PC Tryz.prog 204 [sl cI ts, iv v] (fun r => r = iv (fX ts v)) := by
 (refine aQ Tryz.func204 rfl (by simp [Tryz.ntmps204]) ?_; rw [Tryz.ntmps204])
 repeat' (first|(apply aM;first|(apply aD;rfl;rfl)|(apply aL;rfl;rfl;rfl;rfl)|(first|(apply a9;rfl;rfl;rfl;(assumption))|(apply aZ;rfl;rfl;rfl;(assumption))|(apply bC;(case hj|hb|hN => rfl);all_goals (intro hg;have hq := hg;(try simp only [cD] at hq);(try (exfalso;omega)))))|(apply aV;rfl;rfl;rfl;rfl)|(apply aC;rfl;rfl)|(first|(apply bI;rfl;(assumption);rfl;rfl)|(apply bH;rfl;(assumption);rfl;rfl))|(apply cC;(case hx|hi => rfl);(case hm => (omega));(case hml => (rfl));(case hα | hf|hg => infer_instance);(case hN => rfl))|(apply a8;rfl;rfl;rfl)|(apply aF;kernel_rfl))|(apply aO;first|apply aH|apply aB|(apply bX;rfl;(rfl))|(apply aP;rfl;all_goals intro hc;have hq:=hc;(try simp only [cD] at hq);try exfalso;omega)|apply aS|apply aW)|with_reducible apply aA|with_reducible apply b0|((with_reducible apply aU);case hr => rfl))
 all_goals (refine ⟨?_, rfl⟩; simp only [bQ, AV.v.injEq, Value.bool.injEq, Value.int.injEq, true_and])
 all_goals grind [fX]
theorem rG (ts : List Int) (v : Int) (hl : ts.length ≤ 1000000) : PC Tryz.prog 51 [sl cI ts, iv v] (fun r => r = iv (fX ts v)) := by
 (refine aQ Tryz.func51 rfl (by simp [Tryz.ntmps51]) ?_; rw [Tryz.ntmps51])
 repeat' (first|(apply aM;first|(apply aD;rfl;rfl)|(apply aL;rfl;rfl;rfl;rfl)|(apply gT;rfl;rfl;omega;rfl)|(apply aC;rfl;rfl)|(apply cC;(case hx|hi => rfl);(case hm => (omega));(case hml => (rfl));(case hα | hf|hg => infer_instance);(case hN => rfl))|((with_reducible apply aI (k := 50));(case ha => rfl);(case h => (apply iC <;> (fail)));(case hp => (rfl));(case hN => rfl))|(apply a8;rfl;rfl;rfl)|(apply aF;kernel_rfl)|(apply cK;rfl;rfl))|(apply aO;first|apply aH|apply aB|(apply aP;rfl;all_goals intro hc;have hq:=hc;(try simp only [cD] at hq);try exfalso;omega)|apply aS|apply aW)|with_reducible apply aA|with_reducible apply b0|((with_reducible apply aU);case hr => rfl))
 all_goals (refine ⟨?_, rfl⟩; simp only [bQ, AV.v.injEq, Value.bool.injEq, Value.int.injEq, true_and])
 all_goals grind [fX]
theorem Ay (ts : List Int) (s : AL.Stmt) (hl : cP ts = true) : PC Tryz.prog 179 [sl cI ts, eN s] (fun r => r = bv (s.th.isEmpty && s.el.isEmpty && fK ts s)) := by
 have hl2 := eJ hl
 have hx := iQ hl s.x
 have hy := iQ hl s.y
 (refine aQ Tryz.func179 rfl (by simp [Tryz.ntmps179]) ?_; rw [Tryz.ntmps179])
 repeat' (first|(apply aM;first|(apply aD;rfl;rfl)|(apply aL;rfl;rfl;rfl;rfl)|(apply aE;rfl;rfl;rfl)|(first|(apply iS;rfl;rfl;rfl)|(apply a9;rfl;rfl;rfl;(first|rfl|assumption))|(apply aZ;rfl;rfl;rfl;(first|rfl|assumption))|(apply bC;(case hj|hb|hN => rfl);all_goals (intro hg;have hq := hg;(try simp only [cD] at hq);(try (exfalso;omega)))))|(apply aV;rfl;rfl;rfl;rfl)|(apply aC;rfl;rfl)|(first|(apply bI;rfl;(first|rfl|assumption);rfl;rfl)|(apply bH;rfl;(first|rfl|assumption);rfl;rfl))|(first|((with_reducible apply aI (k := 50));(case ha => rfl);(case h => (apply iC <;> (fail)));(case hp => (rfl));(case hN => rfl))|((with_reducible apply aI (k := 51));(case ha => rfl);(case h => (apply rG <;> (omega)));(case hp => (exact Pur.pf));(case hN => rfl))|((with_reducible apply aI (k := 203));(case ha => rfl);(case h => (apply zH <;> (fail)));(case hp => (rfl));(case hN => rfl)))|(apply a8;rfl;rfl;rfl)|(apply aF;kernel_rfl)|(apply cK;rfl;rfl)|(apply bW;rfl;rfl;rfl;rfl))|(apply aO;first|apply aH|apply aB|(apply b9;kernel_rfl)|(apply bX;rfl;(first|rfl|assumption))|(apply cF;rfl;(assumption))|(apply aP;rfl;all_goals intro hc;have hq:=hc;(try simp only [cD] at hq);try exfalso;omega)|apply aJ|apply aS|apply aW)|with_reducible apply aA|with_reducible apply b0|with_reducible apply aT|with_reducible apply eQ|((with_reducible apply aU);case hr => rfl))
 all_goals (refine ⟨?_, rfl⟩; simp only [bQ, AV.v.injEq, Value.bool.injEq, Value.int.injEq, true_and])
 all_goals (cases hth : s.th <;> cases hel : s.el <;> simp only [hth, hel, List.length_nil, List.length_cons, List.isEmpty_nil, List.isEmpty_cons, Bool.true_and, Bool.false_and] at *)
 all_goals (try unfold fK)
 all_goals (try simp only [jW, Bool.or_eq_true, Bool.or_eq_false_iff, decide_eq_true_eq, decide_eq_false_iff_not] at *)
 all_goals grind
theorem Av (ts : List Int) (s : AL.Stmt) (hl : cP ts = true) : PC Tryz.prog 182 [sl cI ts, eN s] (fun r => r = bv (fK ts s)) := by
 have hl2 := eJ hl
 have hx := iQ hl s.x
 have hy := iQ hl s.y
 (refine aQ Tryz.func182 rfl (by simp [Tryz.ntmps182]) ?_; rw [Tryz.ntmps182])
 repeat' (first|(apply aM;first|(apply aD;rfl;rfl)|(apply aL;rfl;rfl;rfl;rfl)|(apply aE;rfl;rfl;rfl)|(first|(apply iS;rfl;rfl;rfl)|(apply a9;rfl;rfl;rfl;(first|rfl|assumption))|(apply aZ;rfl;rfl;rfl;(first|rfl|assumption))|(apply bC;(case hj|hb|hN => rfl);all_goals (intro hg;have hq := hg;(try simp only [cD] at hq);(try (exfalso;omega)))))|(apply aV;rfl;rfl;rfl;rfl)|(apply aC;rfl;rfl)|(first|(apply bI;rfl;(first|rfl|assumption);rfl;rfl)|(apply bH;rfl;(first|rfl|assumption);rfl;rfl))|((with_reducible apply aI (k := 204));(case ha => rfl);(case h => (apply Fj <;> (fail)));(case hp => (exact Pur.pf));(case hN => rfl))|(apply aF;kernel_rfl)|(apply bW;rfl;rfl;rfl;rfl))|(apply aO;first|apply aH|apply aB|(apply cF;rfl;(rfl))|(apply aP;rfl;all_goals intro hc;have hq:=hc;(try simp only [cD] at hq);try exfalso;omega)|apply aJ|apply aS|apply aW)|with_reducible apply aA|with_reducible apply b0|with_reducible apply aT|with_reducible apply eQ|((with_reducible apply aU);case hr => rfl))
 all_goals (refine ⟨?_, rfl⟩; simp only [bQ, AV.v.injEq, Value.bool.injEq, Value.int.injEq, true_and])
 all_goals (try unfold fK)
 all_goals grind
theorem CV (ts : List Int) (hl : cP ts = true) (m : Nat) (ih : ∀ l (d : Int), bJ l < m → 0 ≤ d → d ≤ 1000 → PC Tryz.prog 107 [sl cI ts, sl aN l, iv d] (fun r => r = bv (okL ts d.toNat l))) (s : AL.Stmt) (d : Int) (hs : dH s ≤ m) (hd0 : 0 ≤ d) (hd : d ≤ 1000) :
  PC Tryz.prog 148 [sl cI ts, eN s, iv d] (fun r => r = bv (tL ts d.toNat s)) := by
 rw [Ge ts d hd0]
 (refine aQ Tryz.func148 rfl (by simp [Tryz.ntmps148]) ?_; rw [Tryz.ntmps148])
 repeat' (first|(apply aM;first|(apply aD;rfl;rfl)|(first|(apply aL;rfl;rfl;rfl;rfl)|(apply a6;rfl;rfl;(exact (rfl:_=[_, _, _, _, _, _]));rfl;rfl;rfl))|(apply aE;rfl;rfl;rfl)|(first|(apply iS;rfl;rfl;rfl)|(apply a9;rfl;rfl;rfl;(assumption))|(apply aZ;rfl;rfl;rfl;(first|rfl|assumption))|(apply bC;(case hj|hb|hN => rfl);all_goals (intro hg;have hq := hg;(try simp only [cD] at hq);(try (exfalso;omega)))))|(first|(apply gT;rfl;rfl;omega;rfl)|(apply aV;rfl;rfl;rfl;rfl))|(apply aC;rfl;rfl)|(first|(apply bI;rfl;(first|rfl|assumption);rfl;rfl)|(apply bH;rfl;(first|rfl|assumption);rfl;rfl))|(first|((with_reducible apply aI (k := 107));(case ha => rfl);(case h => (apply ih <;> (first|omega|(have := iG s;omega))));(case hp => (exact Pur.pf));(case hN => rfl))|((with_reducible apply aI (k := 182));(case ha => rfl);(case h => (apply Av <;> (assumption)));(case hp => (exact Pur.pf));(case hN => rfl)))|(apply a8;rfl;rfl;rfl)|(apply aF;kernel_rfl)|(apply bW;rfl;rfl;rfl;rfl))|(apply aO;first|apply aH|apply aB|(apply bX;rfl;(rfl))|(apply cF;rfl;(rfl))|(apply aP;rfl;all_goals intro hc;have hq:=hc;(try simp only [cD] at hq);try exfalso;omega)|apply aS|apply aW)|with_reducible apply aA|with_reducible apply b0|((with_reducible apply aU);case hr => rfl))
 all_goals (refine ⟨?_, rfl⟩; simp only [bQ, AV.v.injEq, Value.bool.injEq, Value.int.injEq, true_and])
 all_goals (cases hth : s.th <;> cases hel : s.el <;> simp only [hth, hel, List.length_nil, List.length_cons, List.isEmpty_nil, List.isEmpty_cons, Bool.true_and, Bool.false_and] at *)
 all_goals grind
theorem Cq (ts : List Int) (hl : cP ts = true) (m : Nat) (ih : ∀ s (d : Int), dH s ≤ m → 0 ≤ d → d ≤ 1000 → PC Tryz.prog 148 [sl cI ts, eN s, iv d] (fun r => r = bv (tL ts d.toNat s))) (l : List AL.Stmt) (d : Int) (hs : bJ l ≤ m) (hm : m ≤ 100000000) (hd0 : 0 ≤ d) (hd : d ≤ 1000) :
  PC Tryz.prog 107 [sl cI ts, sl aN l, iv d] (fun r => r = bv (okL ts d.toNat l)) := by
 have hlen := cY l
 (refine aQ Tryz.func107 rfl (by simp [Tryz.ntmps107]) ?_; rw [Tryz.ntmps107])
 repeat' (first|(apply aM;first|(apply aC;rfl;rfl)|(apply aF;kernel_rfl))|(apply aO;first|apply aH|apply aB|apply aJ)|with_reducible apply aA)
 refine bG (σ := Nat) [0, 1, 2] [(0, _), (1, _), (2, _)] [] [] (fun k => [(7, iv (k : Int))]) (fun k => []) (fun k => k ≤ l.length ∧ ∀ i, i < k → tL ts d.toNat l[i]! = true) (fun k => l.length - k) (0) ⟨by omega, by omega⟩ rfl rfl (by repeat' (first|exact trivial|refine And.intro rfl ?_)) (by repeat' (exact trivial)) ?_
 intro k ⟨hk, hall⟩
 have hck := fL l k
 repeat' (first|(apply aM;first|((with_reducible apply aI (k := 148));(case ha => rfl);(case h => (apply ih _ d (Nat.le_trans (hck (by omega)) hs) hd0 hd));(case hp => (exact Pur.pf));(case hN => rfl))|(apply aD;rfl;rfl)|(apply a6;rfl;rfl;(exact (rfl:_=[_, _, _, _, _, _]));rfl;rfl;rfl)|(first|(apply bO;rfl;rfl;omega;rfl)|(apply aV;rfl;rfl;rfl;rfl))|(apply aC;rfl;rfl)|(apply bB;(case hx|hi => rfl);(case hm => (omega));(case hml => (rfl));(case hα | hf|hg => infer_instance);(case hN => rfl))|(apply a8;rfl;rfl;rfl)|(apply aF;kernel_rfl)|(apply cK;rfl;rfl))|(apply aO;first|apply aH|apply aB|(apply aP;rfl;all_goals intro hc;have hq:=hc;(try simp only [cD] at hq);try exfalso;omega)|apply aJ|apply aS|apply bF|apply aW)|with_reducible apply aA|with_reducible apply b0|with_reducible apply bE|with_reducible apply aT|with_reducible apply eQ|with_reducible apply bD|((with_reducible apply aU);case hr => rfl))
 ·(refine ⟨?_, rfl⟩; simp only [bQ, AV.v.injEq, Value.bool.injEq, Value.int.injEq, true_and])
  rw [EU (k := k) (by omega) hq]
 ·(apply c6 (k + 1); focus (refine Le.ren [] rfl (by decide) ?_ ?_ <;> repeat' (first | exact trivial | refine And.intro ⟨_, rfl, ?_⟩ ?_ | refine Or.inl ⟨?_, (by first | rfl | exact aX _ _)⟩ | rfl)))
  ·grind
  ·omega
 ·(refine ⟨?_, rfl⟩; simp only [bQ, AV.v.injEq, Value.bool.injEq, Value.int.injEq, true_and])
  rw [FN (fun i hi => hall i (by omega))]
theorem Gp (ts : List Int) (hl : cP ts = true) : ∀ (m : Nat), m ≤ 100000000 → (∀ s (d : Int), dH s ≤ m → 0 ≤ d → d ≤ 1000 → PC Tryz.prog 148 [sl cI ts, eN s, iv d] (fun r => r = bv (tL ts d.toNat s))) ∧
  (∀ l (d : Int), bJ l ≤ m → 0 ≤ d → d ≤ 1000 → PC Tryz.prog 107 [sl cI ts, sl aN l, iv d] (fun r => r = bv (okL ts d.toNat l))) := by
 intro m
 induction m using Nat.strongRecOn with
 | ind m ih =>
  intro hm
  have h1 : ∀ s (d : Int), dH s ≤ m → 0 ≤ d → d ≤ 1000 → PC Tryz.prog 148 [sl cI ts, eN s, iv d] (fun r => r = bv (tL ts d.toNat s)) :=
   fun s d h1 h2 h3 => CV ts hl m (fun l d' g1 g2 g3 => (ih (bJ l) g1 (by omega)).2 l d' (Nat.le_refl _) g2 g3) s d h1 h2 h3
  exact ⟨h1, fun l d g1 g2 g3 => Cq ts hl m h1 l d g1 hm g2 g3⟩
theorem zF (m0 : Nat) (ih : ∀ l (most : Int), bJ l < m0 → -1 ≤ most → most ≤ 1000 → PC Tryz.prog 108 [sl aN l, iv most] (fun r => r = iv (mO most 0 l))) (l : List AL.Stmt) (most : Int) (hs : bJ l ≤ m0) (hm : m0 ≤ 100000000) (hd0 : -1 ≤ most) (hd : most ≤ 1000) :
  PC Tryz.prog 108 [sl aN l, iv most] (fun r => r = iv (mO most 0 l)) := by
 have hlen := cY l
 have hall := lM l most 0
 (refine aQ Tryz.func108 rfl (by simp [Tryz.ntmps108]) ?_; rw [Tryz.ntmps108])
 repeat' (first|(apply aM;first|(apply aC;rfl;rfl)|(apply aF;kernel_rfl))|(apply aO;first|apply aH|apply aB|apply aJ)|with_reducible apply aA)
 refine bG (σ := Nat × Int) [0, 1] [(0, _), (1, _)] [] [] (fun k => [(6, iv (k.1 : Int)), (5, iv k.2)]) (fun k => []) (fun k => k.1 ≤ l.length ∧ mO most k.2 (l.drop k.1) = mO most 0 l ∧ 0 ≤ k.2 ∧ k.2 ≤ bJ l) (fun k => l.length - k.1) (0, 0) ⟨by omega, rfl, by omega, by omega⟩ rfl rfl (by repeat' (first|exact trivial|refine And.intro rfl ?_)) (by repeat' (exact trivial)) ?_
 rintro ⟨k, n⟩ ⟨hk, hn, hn0, hn1⟩
 dsimp only at hk hn hn0 hn1 ⊢
 have hck := fL l k
 have hct := iG l[k]!
 have b1 := lM l[k]!.th (most - n) 0
 have b2 := fun z => lM l[k]!.el z 0
 have b3 := EE l[k]! most n
 have b4 := lM (l.drop (k + 1)) most (EW most n l[k]!)
 have b5 := EO most n l k
 rw [G7] at b3 b4 b5
 repeat' (first|(apply aM;first|((with_reducible apply aI (k := 108));(case ha => rfl);(case h => (apply ih <;> omega));(case hp => (exact Pur.pf));(case hN => rfl))|(apply aD;rfl;rfl)|(apply aL;rfl;rfl;rfl;rfl)|(apply aE;rfl;rfl;rfl)|(first|(apply a9;rfl;rfl;rfl;(assumption))|(apply aZ;rfl;rfl;rfl;(assumption))|(apply bC;(case hj|hb|hN => rfl);all_goals (intro hg;have hq := hg;(try simp only [cD] at hq);(try (exfalso;omega)))))|(first|(apply bO;rfl;rfl;omega;rfl)|(apply gT;rfl;rfl;omega;rfl)|(apply aV;rfl;rfl;rfl;rfl))|(apply aC;rfl;rfl)|(first|(apply bI;rfl;(assumption);rfl;rfl)|(apply bH;rfl;(assumption);rfl;rfl))|(apply bB;(case hx|hi => rfl);(case hm => (omega));(case hml => (rfl));(case hα | hf|hg => infer_instance);(case hN => rfl))|(apply a8;rfl;rfl;rfl)|(apply aF;kernel_rfl))|(apply aO;first|apply aH|apply aB|(apply cF;rfl;(rfl))|(apply aP;rfl;all_goals intro hc;have hq:=hc;(try simp only [cD] at hq);try exfalso;omega)|apply aJ|apply aS|apply bF|apply aW)|with_reducible apply aA|with_reducible apply bE|with_reducible apply aT|with_reducible apply bD|((with_reducible apply aU);case hr => rfl))
 ·(apply Exists.intro (k + 1, n + 1 + mO (most - n) 0 l[k]!.th + mO (most - (n + 1 + mO (most - n) 0 l[k]!.th)) 0 l[k]!.el); refine And.intro ?_ (And.intro ?_ ?_); rotate_left 2; focus (refine Le.ren [] rfl (by decide) ?_ ?_ <;> repeat' (first | exact trivial | refine And.intro ⟨_, rfl, ?_⟩ ?_ | refine Or.inl ⟨?_, (by first | rfl | exact aX _ _)⟩ | rfl)))
  ·dsimp only;grind
  ·dsimp only;omega
 ·(apply c6 (k + 1, n + 1 + mO (most - n) 0 l[k]!.th); focus (refine Le.ren [] rfl (by decide) ?_ ?_ <;> repeat' (first | exact trivial | refine And.intro ⟨_, rfl, ?_⟩ ?_ | refine Or.inl ⟨?_, (by first | rfl | exact aX _ _)⟩ | rfl)))
  ·dsimp only;grind
  ·dsimp only;omega
 ·(refine ⟨?_, rfl⟩; simp only [bQ, AV.v.injEq, Value.bool.injEq, Value.int.injEq, true_and])
  rw [← hn, Ei _ _ _ (by omega)]
 ·(refine ⟨?_, rfl⟩; simp only [bQ, AV.v.injEq, Value.bool.injEq, Value.int.injEq, true_and])
  rw [← hn, FU _ _ _ _ (by omega)]
theorem CJ (l : List AL.Stmt) (most : Int) (hs : bJ l ≤ 100000000) (hd0 : -1 ≤ most) (hd : most ≤ 1000) :
  PC Tryz.prog 108 [sl aN l, iv most] (fun r => r = iv (mO most 0 l)) := by
 have h : ∀ (m : Nat), m ≤ 100000000 → ∀ l (most : Int), bJ l ≤ m → -1 ≤ most → most ≤ 1000 → PC Tryz.prog 108 [sl aN l, iv most] (fun r => r = iv (mO most 0 l)) := by
  intro m
  induction m using Nat.strongRecOn with
  | ind m ih =>
   intro hm l most h1 h2 h3
   exact zF m (fun l' most' g1 g2 g3 => ih _ g1 (by omega) l' most' (Nat.le_refl _) g2 g3) l most h1 hm h2 h3
 exact h _ hs l most (Nat.le_refl _) hd0 hd
theorem Ee (ts : List Int) (l : List AL.Stmt) (d : Int) (hl : cP ts = true) (hs : bJ l ≤ 100000000) (hd0 : 0 ≤ d) (hd : d ≤ 1000) : PC Tryz.prog 107 [sl cI ts, sl aN l, iv d] (fun r => r = bv (okL ts d.toNat l)) :=
 (Gp ts hl _ hs).2 l d (Nat.le_refl _) hd0 hd
theorem uB (ts : List Int) (hl : ts.length ≤ 1000000) : PC Tryz.prog 106 [sl cI ts] (fun r => r = bv (cP ts)) := by
 (refine aQ Tryz.func106 rfl (by simp [Tryz.ntmps106]) ?_; rw [Tryz.ntmps106])
 repeat' (first|(apply aM;first|(apply aC;rfl;rfl)|(apply aF;kernel_rfl))|(apply aO;first|apply aH|apply aB|apply aJ)|with_reducible apply aA)
 refine bG (σ := Nat) [0] [(0, _)] [] [] (fun k => [(3, iv (k : Int))]) (fun k => []) (fun k => k ≤ ts.length ∧ ∀ i, i < k → 1 ≤ ts[i]! ∧ ts[i]! ≤ 4) (fun k => ts.length - k) (0) ⟨by omega, by omega⟩ rfl rfl (by repeat' (first|exact trivial|refine And.intro rfl ?_)) (by repeat' (exact trivial)) ?_
 intro k ⟨hk, hall⟩
 repeat' (first|(apply aM;first|(apply aD;rfl;rfl)|(apply aL;rfl;rfl;rfl;rfl)|(first|(apply a9;rfl;rfl;rfl;(assumption))|(apply aZ;rfl;rfl;rfl;(assumption))|(apply bC;(case hj|hb|hN => rfl);all_goals (intro hg;have hq := hg;(try simp only [cD] at hq);(try (exfalso;omega)))))|(first|(apply bO;rfl;rfl;omega;rfl)|(apply aV;rfl;rfl;rfl;rfl))|(apply aC;rfl;rfl)|(first|(apply bI;rfl;(assumption);rfl;rfl)|(apply bH;rfl;(assumption);rfl;rfl))|(apply bB;(case hx|hi => rfl);(case hm => (omega));(case hml => (rfl));(case hα | hf|hg => infer_instance);(case hN => rfl))|(apply a8;rfl;rfl;rfl)|(apply aF;kernel_rfl))|(apply aO;first|apply aH|apply aB|(apply bX;rfl;(rfl))|(apply aP;rfl;all_goals intro hc;have hq:=hc;(try simp only [cD] at hq);try exfalso;omega)|apply aJ|apply aS|apply bF|apply aW)|with_reducible apply aA|with_reducible apply b0|with_reducible apply bE|with_reducible apply aT|with_reducible apply eQ|with_reducible apply bD|((with_reducible apply aU);case hr => rfl))
 ·(refine ⟨?_, rfl⟩; simp only [bQ, AV.v.injEq, Value.bool.injEq, Value.int.injEq, true_and])
  unfold cP;grind [mI, jQ]
 ·(apply c6 (k + 1); focus (refine Le.ren [] rfl (by decide) ?_ ?_ <;> repeat' (first | exact trivial | refine And.intro ⟨_, rfl, ?_⟩ ?_ | refine Or.inl ⟨?_, (by first | rfl | exact aX _ _)⟩ | rfl)))
  ·grind
  ·omega
 ·(refine ⟨?_, rfl⟩; simp only [bQ, AV.v.injEq, Value.bool.injEq, Value.int.injEq, true_and])
  unfold cP;grind [mI, jQ]
 ·(refine ⟨?_, rfl⟩; simp only [bQ, AV.v.injEq, Value.bool.injEq, Value.int.injEq, true_and])
  unfold cP;grind [mI, jQ]
theorem gZ (p : Prg) (hl : p.types.length ≤ 1000000) (hs : bJ p.body ≤ 100000000) : PC Tryz.prog 57 [c8 p] (fun r => r = bv (cM p)) := by
 unfold cM
 cases ht : cP p.types
 ·(refine aQ Tryz.func57 rfl (by simp [Tryz.ntmps57]) ?_; rw [Tryz.ntmps57])
  repeat' (first|(apply aM;first|(apply aD;rfl;rfl)|(apply aL;rfl;rfl;rfl;rfl)|(apply aE;rfl;rfl;rfl)|(apply aZ;rfl;rfl;rfl;(first|rfl|assumption))|(apply aC;rfl;rfl)|(apply bH;rfl;(first|rfl|assumption);rfl;rfl)|((with_reducible apply aI (k := 106));(case ha => rfl);(case h => (apply uB <;> (assumption)));(case hp => (exact Pur.pf));(case hN => rfl))|(apply aF;kernel_rfl)|(apply bW;rfl;rfl;rfl;rfl))|(apply aO;first|apply aH|apply aB|apply aW)|with_reducible apply aA|((with_reducible apply aU);case hr => rfl))
  (refine ⟨?_, rfl⟩; simp only [bQ, AV.v.injEq, Value.bool.injEq, Value.int.injEq, true_and])
  rfl
 ·(refine aQ Tryz.func57 rfl (by simp [Tryz.ntmps57]) ?_; rw [Tryz.ntmps57])
  repeat' (first|(apply aM;first|(apply aD;rfl;rfl)|(apply aL;rfl;rfl;rfl;rfl)|(apply aE;rfl;rfl;rfl)|(first|(apply a9;rfl;rfl;rfl;(assumption))|(apply aZ;rfl;rfl;rfl;(assumption))|(apply bC;(case hj|hb|hN => rfl);all_goals (intro hg;have hq := hg;(try simp only [cD] at hq);(try (exfalso;omega)))))|(apply aV;rfl;rfl;rfl;rfl)|(apply aC;rfl;rfl)|(first|(apply bI;rfl;(assumption);rfl;rfl)|(apply bH;rfl;(assumption);rfl;rfl))|(first|((with_reducible apply aI (k := 106));(case ha => rfl);(case h => (apply uB <;> (assumption)));(case hp => (exact Pur.pf));(case hN => rfl))|((with_reducible apply aI (k := 107));(case ha => rfl);(case h => (apply Ee <;> (first|assumption|omega)));(case hp => (exact Pur.pf));(case hN => rfl))|((with_reducible apply aI (k := 108));(case ha => rfl);(case h => (apply CJ <;> (first|assumption|omega)));(case hp => (exact Pur.pf));(case hN => rfl)))|(apply aF;kernel_rfl)|(apply bW;rfl;rfl;rfl;rfl))|(apply aO;first|apply aH|apply aB|apply aW)|with_reducible apply aA|((with_reducible apply aU);case hr => rfl))
  ·(refine ⟨?_, rfl⟩; simp only [bQ, AV.v.injEq, Value.bool.injEq, Value.int.injEq, true_and])
   rw [show okL p.types 4 p.body = true from hq]; simp only [Bool.true_and, Ii, decide_eq_decide]; omega
  ·(refine ⟨?_, rfl⟩; simp only [bQ, AV.v.injEq, Value.bool.injEq, Value.int.injEq, true_and])
   rw [show okL p.types 4 p.body = false from hq]; rfl
end Go.Proofs.YtjcpngimjdckmaaGreat
namespace Go.Proofs.YtjcpngimjdckmaaGreat
open Go.AL Go.RowKit
theorem GF {ts : List Int} {s : AL.Stmt} {nest c : Int} {N : Nat} {Q : Exit → AS → Prop} {all : Array Oper} {rest : List Oper} {tsl : List (Nat × AV)} {hsl : List (Nat × Option (List AV))} {nidl : Nat} {z0 : Lo} {md : Md} {d : Nat} {ty : TypeId} {pos : String} {af : Array Edge} {tys : Array TypeId} {x0 x1 x2 x3 : Operand} {i0 : Nat} (ha0 : ev (lk tsl) x0 = some (sl cI ts)) (ha1 : ev (lk tsl) x1 = some (eN s)) (ha2 : ev (lk tsl) x2 = some (iv nest)) (ha3 : ev (lk tsl) x3 = some (.optr i0 0)) (hH0 : bU hsl i0 = some ([iv c])) (hmc : MC Tryz.prog 144 [sl cI ts, eN s, iv nest, .optr 0 0] [(0, some ([iv c]))] 1 (fun _ : Unit => True) (fun _ => bv (lO ts nest c s).1) (fun _ => [(0, some ([iv (lO ts nest c s).2]))])) (hM : Nat.ble (nidl + 0) bZ = true) (hN : Nat.blt d N = true) {md' : Md} [hmd : MdA md (jH [x0, x1, x2, x3] ++ [.inr i0]) (List.map Sum.inr (List.map Prod.fst ([(i0, some ([iv (lO ts nest c s).2]))] : List (Nat × Option (List AV)))) ++ [.inl d]) md'] (kk : RW Tryz.prog N all Q md' rest ⟨(d, bv (lO ts nest c s).1) :: tsl, lE hsl [(i0, some ([iv (lO ts nest c s).2]))], nidl + 0, z0⟩) : RW Tryz.prog N all Q md (⟨some d, .call ⟨.value (.func 144), #[x0, x1, x2, x3], tys⟩, ty, pos, af, none⟩ :: rest) ⟨tsl, hsl, nidl, z0⟩ := by
 refine c5 [i0] 1 [(i0, some ([iv (lO ts nest c s).2]))] hmc (avs := [sl cI ts, eN s, iv nest, .optr i0 0]) ?_ rfl ?_ rfl ?_ (by simpa using hM) ?_ ?_ ?_ hN (md' := md') (hmd := hmd) kk
 ·show evL (lk tsl) [x0, x1, x2, x3] = _
  simp only [evL, ha0, ha1, ha2, ha3]
 ·exact ⟨⟨_, _, rfl, hH0, by (repeat' (exact RnL.purI inferInstance))⟩, trivial⟩
 ·(repeat' (first|exact RnL.purI inferInstance|exact RnV.purI inferInstance|exact RnV.optr rfl|refine RnL.cons ?_ ?_))
 ·(repeat' (exact RnV.purI inferInstance))
 ·simp [e7]
 ·(repeat' (first|exact trivial|(refine And.intro ⟨0, _, rfl, rfl, ?_⟩ ?_)|exact RnL.purI inferInstance))
theorem s7 {ts : List Int} {l : List AL.Stmt} {nest c : Int} {N : Nat} {Q : Exit → AS → Prop} {all : Array Oper} {rest : List Oper} {tsl : List (Nat × AV)} {hsl : List (Nat × Option (List AV))} {nidl : Nat} {z0 : Lo} {md : Md} {d : Nat} {ty : TypeId} {pos : String} {af : Array Edge} {tys : Array TypeId} {x0 x1 x2 x3 : Operand} {i0 : Nat} (ha0 : ev (lk tsl) x0 = some (sl cI ts)) (ha1 : ev (lk tsl) x1 = some (sl aN l)) (ha2 : ev (lk tsl) x2 = some (iv nest)) (ha3 : ev (lk tsl) x3 = some (.optr i0 0)) (hH0 : bU hsl i0 = some ([iv c])) (hmc : MC Tryz.prog 98 [sl cI ts, sl aN l, iv nest, .optr 0 0] [(0, some ([iv c]))] 1 (fun _ : Unit => True) (fun _ => bv (j5 ts nest c l).1) (fun _ => [(0, some ([iv (j5 ts nest c l).2]))])) (hM : Nat.ble (nidl + 0) bZ = true) (hN : Nat.blt d N = true) {md' : Md} [hmd : MdA md (jH [x0, x1, x2, x3] ++ [.inr i0]) (List.map Sum.inr (List.map Prod.fst ([(i0, some ([iv (j5 ts nest c l).2]))] : List (Nat × Option (List AV)))) ++ [.inl d]) md'] (kk : RW Tryz.prog N all Q md' rest ⟨(d, bv (j5 ts nest c l).1) :: tsl, lE hsl [(i0, some ([iv (j5 ts nest c l).2]))], nidl + 0, z0⟩) : RW Tryz.prog N all Q md (⟨some d, .call ⟨.value (.func 98), #[x0, x1, x2, x3], tys⟩, ty, pos, af, none⟩ :: rest) ⟨tsl, hsl, nidl, z0⟩ := by
 refine c5 [i0] 1 [(i0, some ([iv (j5 ts nest c l).2]))] hmc (avs := [sl cI ts, sl aN l, iv nest, .optr i0 0]) ?_ rfl ?_ rfl ?_ (by simpa using hM) ?_ ?_ ?_ hN (md' := md') (hmd := hmd) kk
 ·show evL (lk tsl) [x0, x1, x2, x3] = _
  simp only [evL, ha0, ha1, ha2, ha3]
 ·exact ⟨⟨_, _, rfl, hH0, by (repeat' (exact RnL.purI inferInstance))⟩, trivial⟩
 ·(repeat' (first|exact RnL.purI inferInstance|exact RnV.purI inferInstance|exact RnV.optr rfl|refine RnL.cons ?_ ?_))
 ·(repeat' (exact RnV.purI inferInstance))
 ·simp [e7]
 ·(repeat' (first|exact trivial|(refine And.intro ⟨0, _, rfl, rfl, ?_⟩ ?_)|exact RnL.purI inferInstance))
theorem G8 (ts : List Int) (htO : cP ts = true) (m : Nat) (scanAll_ih : ∀ l nest c, bJ l < m → 0 ≤ nest → nest ≤ 4 → 0 ≤ c → c ≤ 30 → MC Tryz.prog 98 [sl cI ts, sl aN l, iv nest, .optr 0 0] [(0, some ([iv c]))] 1 (fun _ : Unit => True) (fun _ => bv (j5 ts nest c l).1) (fun _ => [(0, some ([iv (j5 ts nest c l).2]))])) (s : AL.Stmt) (nest c : Int) (hs : dH s ≤ m) (hn0 : 0 ≤ nest) (hn : nest ≤ 4) (hc0 : 0 ≤ c) (hc : c ≤ 30) : MC Tryz.prog 144 [sl cI ts, eN s, iv nest, .optr 0 0] [(0, some ([iv c]))] 1 (fun _ : Unit => True) (fun _ => bv (lO ts nest c s).1) (fun _ => [(0, some ([iv (lO ts nest c s).2]))]) := by
 have ct := iG s
 have hb1 := H3 ts s.th (nest + 1) (c + 1)
 (refine dB Tryz.func144 rfl (by simp [Tryz.ntmps144]) ?_; rw [Tryz.ntmps144])
 repeat' (first|(apply aM;first|(apply aD;rfl;rfl)|(first|(apply aL;rfl;rfl;rfl;rfl)|(apply a6;rfl;rfl;(exact (rfl:_=[_, _, _, _, _, _]));rfl;rfl;rfl))|(apply aE;rfl;rfl;rfl)|(first|(apply iS;rfl;rfl;rfl)|(apply a9;rfl;rfl;rfl;(assumption))|(apply aZ;rfl;rfl;rfl;(first|rfl|assumption))|(apply bC;(case hj|hb|hN => rfl);all_goals (intro hg;have hq := hg;(try simp only [cD] at hq);(try (exfalso;omega)))))|(first|(apply bO;rfl;rfl;omega;rfl)|(apply aV;rfl;rfl;rfl;rfl))|(apply aC;rfl;rfl)|(first|(apply bI;rfl;(first|rfl|assumption);rfl;rfl)|(apply bH;rfl;(assumption);rfl;rfl))|(first|((with_reducible apply aI (k := 80));(case ha => rfl);(case h => (apply zL <;> (fail)));(case hp => (rfl));(case hN => rfl))|(apply s7;rfl;rfl;rfl;rfl;(rfl);(apply scanAll_ih <;> (first|assumption|omega|grind));rfl;rfl)|((with_reducible apply aI (k := 179));(case ha => rfl);(case h => (apply Ay <;> (assumption)));(case hp => (exact Pur.pf));(case hN => rfl)))|(apply a8;rfl;rfl;rfl)|(apply aF;kernel_rfl)|(apply cK;rfl;rfl)|(apply dJ;rfl;rfl;rfl)|(apply bW;rfl;rfl;rfl;rfl)|(apply a7;rfl;rfl;rfl;rfl;rfl;(case hl => (simp;done));(exact (rfl:_=[_]))))|(apply aO;first|apply aH|apply aB|(apply bX;rfl;(rfl))|(apply cF;rfl;(rfl))|(apply aP;rfl;all_goals intro hc;have hq:=hc;(try simp only [cD] at hq);try exfalso;omega)|apply aS|apply aW)|with_reducible apply aA|with_reducible apply b0)
 all_goals (refine aU rfl ?_; refine dA () trivial ?_ ⟨.inr (Eq.trans (b := some _) rfl ?_), trivial⟩)
 all_goals (try simp only [bQ, AV.v.injEq, Value.bool.injEq, Value.int.injEq, true_and, g8, List.take, List.drop, List.length, List.append, List.nil_append, List.append_nil, Option.some.injEq, List.cons.injEq, and_true])
 all_goals rw [G0]
 all_goals clear scanAll_ih
 all_goals (cases hel : s.el <;> simp only [hel, List.length_nil, List.length_cons] at * <;> grind)
theorem Aq (ts : List Int) (m : Nat) (hm : m ≤ 100000000) (scan_ih : ∀ s nest c, dH s ≤ m → 0 ≤ nest → nest ≤ 4 → 0 ≤ c → c ≤ 30 → MC Tryz.prog 144 [sl cI ts, eN s, iv nest, .optr 0 0] [(0, some ([iv c]))] 1 (fun _ : Unit => True) (fun _ => bv (lO ts nest c s).1) (fun _ => [(0, some ([iv (lO ts nest c s).2]))])) (l : List AL.Stmt) (nest c : Int) (hs : bJ l ≤ m) (hn0 : 0 ≤ nest) (hn : nest ≤ 4) (hc0 : 0 ≤ c) (hc : c ≤ 30) : MC Tryz.prog 98 [sl cI ts, sl aN l, iv nest, .optr 0 0] [(0, some ([iv c]))] 1 (fun _ : Unit => True) (fun _ => bv (j5 ts nest c l).1) (fun _ => [(0, some ([iv (j5 ts nest c l).2]))]) := by
 have hlen := cY l
 (refine dB Tryz.func98 rfl (by simp [Tryz.ntmps98]) ?_; rw [Tryz.ntmps98])
 repeat' (first|(apply aM;first|(apply aD;rfl;rfl)|(apply aC;rfl;rfl)|(apply a8;rfl;rfl;rfl)|(apply aF;kernel_rfl))|(apply aO;first|apply aH|apply aB|apply aJ)|with_reducible apply aA)
 refine bG (σ := Nat × Int) [0, 2, 3, 11, 12] [(0, _), (2, _), (3, _), (11, _), (12, _)] [] [] (fun k => [(13, iv (k.1 : Int))]) (fun k => [(0, some [iv k.2])]) (fun k => k.1 ≤ l.length ∧ j5 ts nest k.2 (l.drop k.1) = j5 ts nest c l ∧ 0 ≤ k.2 ∧ k.2 ≤ 30) (fun k => l.length - k.1) (0, c) ⟨by omega, rfl, by omega, by omega⟩ rfl rfl (by repeat' (first|exact trivial|refine And.intro rfl ?_)) (by repeat' (first|exact trivial|refine And.intro (.inr rfl) ?_)) ?_
 rintro ⟨k, c'⟩ ⟨hk, hn, hn0, hn1⟩
 dsimp only at hk hn hn0 hn1 ⊢
 have hck := fL l k
 have hb1 := Hn ts l[k]! nest c'
 have hst := @scL_stop ts nest c' l k
 repeat' (first|(apply aM;first|(apply aD;rfl;rfl)|(apply a6;rfl;rfl;(exact (rfl:_=[_, _, _, _, _, _]));rfl;rfl;rfl)|(first|(apply bO;rfl;rfl;omega;rfl)|(apply aV;rfl;rfl;rfl;rfl))|(apply aC;rfl;rfl)|(apply bB;(case hx|hi => rfl);(case hm => (omega));(case hml => (rfl));(case hα | hf|hg => infer_instance);(case hN => rfl))|(apply GF;rfl;rfl;rfl;rfl;(rfl);(apply scan_ih <;> (first|assumption|omega));rfl;rfl)|(apply aF;kernel_rfl)|(apply cK;rfl;rfl)|(apply bT;rfl;rfl)|(apply a7;rfl;rfl;rfl;rfl;rfl;(case hl => (simp;done));(exact (rfl:_=[_, _, _, _, _, _]))))|(apply aO;first|apply aH|apply aB|(apply aP;rfl;all_goals intro hc;have hq:=hc;(try simp only [cD] at hq);try exfalso;omega)|apply aJ|apply aS|apply bF|apply aW)|with_reducible apply aA|with_reducible apply b0|with_reducible apply bE|with_reducible apply aT|with_reducible apply eQ|with_reducible apply bD)
 ·(refine aU rfl ?_; refine dA () trivial ?_ ⟨.inr (Eq.trans (b := some _) rfl ?_), trivial⟩)
  all_goals (try simp only [bQ, AV.v.injEq, Value.bool.injEq, Value.int.injEq, true_and, g8, List.take, List.drop, List.length, List.append, List.nil_append, List.append_nil, Option.some.injEq, List.cons.injEq, and_true])
  all_goals (rw [← hn, hst (by omega)]; grind)
 ·(apply c6 (k + 1, (lO ts nest c' l[k]!).2); focus (refine Le.ren [] rfl (by decide) ?_ ?_ <;> repeat' (first | exact trivial | refine And.intro ⟨_, rfl, ?_⟩ ?_ | refine And.intro ⟨_, _, rfl, rfl, ?_⟩ ?_ | exact Or.inr rfl | refine Or.inl ⟨?_, (by first | rfl | exact aX _ _)⟩ | rfl)))
  ·dsimp only;grind
  ·dsimp only;omega
 ·(refine aU rfl ?_; refine dA () trivial ?_ ⟨.inr (Eq.trans (b := some _) rfl ?_), trivial⟩)
  all_goals (try simp only [bQ, AV.v.injEq, Value.bool.injEq, Value.int.injEq, true_and, g8, List.take, List.drop, List.length, List.append, List.nil_append, List.append_nil, Option.some.injEq, List.cons.injEq, and_true])
  all_goals (rw [← hn, List.drop_of_length_le (by omega), j5])
theorem C6 (ts : List Int) (hl : cP ts = true) : ∀ (m : Nat), m ≤ 100000000 → (∀ s (nest c : Int), dH s ≤ m → 0 ≤ nest → nest ≤ 4 → 0 ≤ c → c ≤ 30 → MC Tryz.prog 144 [sl cI ts, eN s, iv nest, .optr 0 0] [(0, some ([iv c]))] 1 (fun _ : Unit => True) (fun _ => bv (lO ts nest c s).1) (fun _ => [(0, some ([iv (lO ts nest c s).2]))])) ∧
  (∀ l (nest c : Int), bJ l ≤ m → 0 ≤ nest → nest ≤ 4 → 0 ≤ c → c ≤ 30 → MC Tryz.prog 98 [sl cI ts, sl aN l, iv nest, .optr 0 0] [(0, some ([iv c]))] 1 (fun _ : Unit => True) (fun _ => bv (j5 ts nest c l).1) (fun _ => [(0, some ([iv (j5 ts nest c l).2]))])) := by
 intro m
 induction m using Nat.strongRecOn with
 | ind m ih =>
  intro hm
  have h1 : ∀ s (nest c : Int), dH s ≤ m → 0 ≤ nest → nest ≤ 4 → 0 ≤ c → c ≤ 30 → MC Tryz.prog 144 [sl cI ts, eN s, iv nest, .optr 0 0] [(0, some ([iv c]))] 1 (fun _ : Unit => True) (fun _ => bv (lO ts nest c s).1) (fun _ => [(0, some ([iv (lO ts nest c s).2]))]) :=
   fun s nest c h1 h2 h3 h4 h5 => G8 ts hl m (fun l nest c g1 g2 g3 g4 g5 => (ih (bJ l) g1 (by omega)).2 l nest c (Nat.le_refl _) g2 g3 g4 g5) s nest c h1 h2 h3 h4 h5
  exact ⟨h1, fun l nest c g1 g2 g3 g4 g5 => Aq ts m hm h1 l nest c g1 g2 g3 g4 g5⟩
theorem Ct (ts : List Int) (l : List AL.Stmt) (nest c : Int) (hl : cP ts = true) (hs : bJ l ≤ 100000000) (hn0 : 0 ≤ nest) (hn : nest ≤ 4) (hc0 : 0 ≤ c) (hc : c ≤ 30) : MC Tryz.prog 98 [sl cI ts, sl aN l, iv nest, .optr 0 0] [(0, some ([iv c]))] 1 (fun _ : Unit => True) (fun _ => bv (j5 ts nest c l).1) (fun _ => [(0, some ([iv (j5 ts nest c l).2]))]) :=
 (C6 ts hl _ hs).2 l nest c (Nat.le_refl _) hn0 hn hc0 hc
theorem zO (t : Int) : PC Tryz.prog 143 [iv t] (fun r => r = bv (!(decide (1 ≤ t) && decide (t ≤ 4)))) := by
 (refine aQ Tryz.func143 rfl (by simp [Tryz.ntmps143]) ?_; rw [Tryz.ntmps143])
 repeat' (first|(apply aM;first|(apply aD;rfl;rfl)|(apply aC;rfl;rfl)|((with_reducible apply aI (k := 50));(case ha => rfl);(case h => (apply iC <;> (fail)));(case hp => (rfl));(case hN => rfl))|(apply aF;kernel_rfl)|(apply cK;rfl;rfl))|(apply aO;first|apply aH|apply aB|apply aW)|with_reducible apply aA|((with_reducible apply aU);case hr => rfl))
 all_goals (refine ⟨?_, rfl⟩; simp only [bQ, AV.v.injEq, Value.bool.injEq, Value.int.injEq, true_and])
def sZ (ts : List Int) : Int := match ts.findIdx? (fun t => !(decide (1 ≤ t) && decide (t ≤ 4))) with | some i => i | none => -1
theorem Eo (ts : List Int) (hl : ts.length ≤ 1000000) : PC Tryz.prog 171 [sl cI ts, .v (.func (.func 143) #[] #[])] (fun r => r = iv (sZ ts)) := by
 (refine aQ Tryz.func171 rfl (by simp [Tryz.ntmps171]) ?_; rw [Tryz.ntmps171])
 repeat' (first|(apply aM;first|(apply aD;rfl;rfl)|(apply aC;rfl;rfl)|(apply a8;rfl;rfl;rfl)|(apply aF;kernel_rfl))|(apply aO;first|apply aH|apply aB|apply aJ)|with_reducible apply aA)
 refine bG (σ := Nat) [0, 1, 7] [(0, _), (1, _), (7, _)] [] [] (fun k => [(8, iv (k : Int))]) (fun k => []) (fun k => k ≤ ts.length ∧ ∀ i, i < k → 1 ≤ ts[i]! ∧ ts[i]! ≤ 4) (fun k => ts.length - k) (0) ⟨by omega, by omega⟩ rfl rfl (by repeat' (first|exact trivial|refine And.intro rfl ?_)) (by repeat' (exact trivial)) ?_
 intro k ⟨hk, hall⟩
 repeat' (first|(apply aM;first|(apply aD;rfl;rfl)|(apply aL;rfl;rfl;rfl;rfl)|(first|(apply bO;rfl;rfl;omega;rfl)|(apply aV;rfl;rfl;rfl;rfl))|(apply aC;rfl;rfl)|(apply bB;(case hx|hi => rfl);(case hm => (omega));(case hml => (rfl));(case hα | hf|hg => infer_instance);(case hN => rfl))|((with_reducible apply lL);(case hx|hcl => rfl);(case hc => infer_instance);(case ha => rfl);(case h => (apply zO <;> (fail)));(case hp => (rfl));(case hN => rfl))|(apply aF;kernel_rfl))|(apply aO;first|apply aH|apply aB|(apply aP;rfl;all_goals intro hc;have hq:=hc;(try simp only [cD] at hq);try exfalso;omega)|apply aJ|apply aS|apply bF|apply aW)|with_reducible apply aA|with_reducible apply b0|with_reducible apply bE|with_reducible apply aT|with_reducible apply eQ|with_reducible apply bD|((with_reducible apply aU);case hr => rfl))
 ·(refine ⟨?_, rfl⟩; simp only [bQ, AV.v.injEq, Value.bool.injEq, Value.int.injEq, true_and])
  have hlt : k < ts.length := by omega
  have : ts.findIdx? (fun t => !(decide (1 ≤ t) && decide (t ≤ 4))) = some k := by
   rw [List.findIdx?_eq_some_iff_getElem]
   refine ⟨hlt, ?_, fun j hj => ?_⟩
   ·rw [← dG ts k hlt]; grind
   ·have := hall j hj;rw [dG ts j (by omega)] at this;simp;omega
  simp only [sZ, this]
 ·(apply c6 (k + 1); focus (refine Le.ren [] rfl (by decide) ?_ ?_ <;> repeat' (first | exact trivial | refine And.intro ⟨_, rfl, ?_⟩ ?_ | refine Or.inl ⟨?_, (by first | rfl | exact aX _ _)⟩ | rfl)))
  ·grind
  ·omega
 ·(refine ⟨?_, rfl⟩; simp only [bQ, AV.v.injEq, Value.bool.injEq, Value.int.injEq, true_and])
  have : ts.findIdx? (fun t => !(decide (1 ≤ t) && decide (t ≤ 4))) = none := by
   rw [List.findIdx?_eq_none_iff]
   intro x hx
   obtain ⟨i, hi, rfl⟩ := List.getElem_of_mem hx
   have := hall i (by omega);rw [dG ts i hi] at this;simp;omega
  simp only [sZ, this]
theorem CZ (ts : List Int) : decide (0 ≤ sZ ts) = !(ts.all (fun t => decide (1 ≤ t) && decide (t ≤ 4))) := by
 unfold sZ
 split
 ·rename_i i h
  obtain ⟨h1, h2, _⟩ := List.findIdx?_eq_some_iff_getElem.1 h
  have : ts.all (fun t => decide (1 ≤ t) && decide (t ≤ 4)) = false := by
   rw [List.all_eq_false]; exact ⟨ts[i], List.getElem_mem h1, by simp at h2 ⊢; omega⟩
  rw [this]; simp
 ·rename_i h
  rw [List.findIdx?_eq_none_iff] at h
  have : ts.all (fun t => decide (1 ≤ t) && decide (t ≤ 4)) = true := by
   rw [List.all_eq_true]; intro x hx;simpa using h x hx
  rw [this]; rfl
theorem CD (ts : List Int) (hl : ts.length ≤ 1000000) : PC Tryz.prog 130 [sl cI ts, .v (.func (.func 143) #[] #[])] (fun r => r = bv (!(ts.all (fun t => decide (1 ≤ t) && decide (t ≤ 4))))) := by
 (refine aQ Tryz.func130 rfl (by simp [Tryz.ntmps130]) ?_; rw [Tryz.ntmps130])
 repeat' (first|(apply aM;first|(apply aD;rfl;rfl)|(apply aV;rfl;rfl;rfl;rfl)|(apply aC;rfl;rfl)|((with_reducible apply aI (k := 171));(case ha => rfl);(case h => (apply Eo <;> (assumption)));(case hp => (exact Pur.pf));(case hN => rfl))|(apply aF;kernel_rfl))|(apply aO;first|apply aH|apply aB|apply aW)|with_reducible apply aA|((with_reducible apply aU);case hr => rfl))
 (refine ⟨?_, rfl⟩; simp only [bQ, AV.v.injEq, Value.bool.injEq, Value.int.injEq, true_and])
 exact CZ ts
theorem qI (ts : List Int) (hl : ts.length ≤ 1000000) : PC Tryz.prog 97 [sl cI ts] (fun r => r = bv (cP ts)) := by
 (refine aQ Tryz.func97 rfl (by simp [Tryz.ntmps97]) ?_; rw [Tryz.ntmps97])
 repeat' (first|(apply aM;first|(apply aD;rfl;rfl)|(first|(apply a9;rfl;rfl;rfl;(assumption))|(apply aZ;rfl;rfl;rfl;(assumption))|(apply bC;(case hj|hb|hN => rfl);all_goals (intro hg;have hq := hg;(try simp only [cD] at hq);(try (exfalso;omega)))))|(apply aV;rfl;rfl;rfl;rfl)|(apply aC;rfl;rfl)|(first|(apply bI;rfl;(assumption);rfl;rfl)|(apply bH;rfl;(assumption);rfl;rfl))|((with_reducible apply aI (k := 130));(case ha => rfl);(case h => (apply CD <;> (assumption)));(case hp => (exact Pur.pf));(case hN => rfl))|(apply a8;rfl;rfl;rfl)|(apply aF;kernel_rfl)|(apply cK;rfl;rfl))|(apply aO;first|apply aH|apply aB|apply aW)|with_reducible apply aA|((with_reducible apply aU);case hr => rfl))
 all_goals (refine ⟨?_, rfl⟩; simp only [bQ, AV.v.injEq, Value.bool.injEq, Value.int.injEq, true_and])
 all_goals (unfold cP;grind)
theorem jF (p : Prg) (hl : p.types.length ≤ 1000000) (hs : bJ p.body ≤ 100000000) : PC Tryz.prog 49 [c8 p] (fun r => r = bv (cM p)) := by
 rw [← C1]
 cases ht : cP p.types
 ·(refine aQ Tryz.func49 rfl (by simp [Tryz.ntmps49]) ?_; rw [Tryz.ntmps49])
  repeat' (first|(apply aM;first|(apply aD;rfl;rfl)|(apply aL;rfl;rfl;rfl;rfl)|(apply aE;rfl;rfl;rfl)|(apply aZ;rfl;rfl;rfl;(assumption))|(apply aC;rfl;rfl)|(apply bH;rfl;(assumption);rfl;rfl)|((with_reducible apply aI (k := 97));(case ha => rfl);(case h => (apply qI <;> (assumption)));(case hp => (exact Pur.pf));(case hN => rfl))|(apply aF;kernel_rfl)|(apply bW;rfl;rfl;rfl;rfl)|(apply bT;rfl;rfl)|(apply a7;rfl;rfl;rfl;rfl;rfl;(decide);(exact (rfl:_=[_]))))|(apply aO;first|apply aH|apply aB|apply aW)|with_reducible apply aA|((with_reducible apply aU);case hr => rfl))
  all_goals (refine ⟨?_, rfl⟩; simp only [bQ, AV.v.injEq, Value.bool.injEq, Value.int.injEq, true_and])
  all_goals grind
 ·(refine aQ Tryz.func49 rfl (by simp [Tryz.ntmps49]) ?_; rw [Tryz.ntmps49])
  repeat' (first|(apply aM;first|(apply aD;rfl;rfl)|(apply aL;rfl;rfl;rfl;rfl)|(apply aE;rfl;rfl;rfl)|(apply a9;rfl;rfl;rfl;(assumption))|(apply aC;rfl;rfl)|(apply bI;rfl;(assumption);rfl;rfl)|(first|((with_reducible apply aI (k := 97));(case ha => rfl);(case h => (apply qI <;> (assumption)));(case hp => (exact Pur.pf));(case hN => rfl))|(apply s7;rfl;rfl;rfl;rfl;(rfl);(apply Ct <;> (first|assumption|omega));rfl;rfl))|(apply aF;kernel_rfl)|(apply bW;rfl;rfl;rfl;rfl)|(apply bT;rfl;rfl)|(apply a7;rfl;rfl;rfl;rfl;rfl;(decide);(exact (rfl:_=[_]))))|(apply aO;first|apply aH|apply aB|apply aW)|with_reducible apply aA|((with_reducible apply aU);case hr => rfl))
  all_goals (refine ⟨?_, rfl⟩; simp only [bQ, AV.v.injEq, Value.bool.injEq, Value.int.injEq, true_and])
  all_goals grind
theorem pA {l : List AL.Stmt} {pts : List Pnt} {m : Nat} {N : Nat} {Q : Exit → AS → Prop} {all : Array Oper} {rest : List Oper} {tsl : List (Nat × AV)} {hsl : List (Nat × Option (List AV))} {nidl : Nat} {z0 : Lo} {md : Md} {d : Nat} {ty : TypeId} {pos : String} {af : Array Edge} {tys : Array TypeId} {x0 x1 : Operand} {i0 : Nat} (ha0 : ev (lk tsl) x0 = some (sl aN l)) (ha1 : ev (lk tsl) x1 = some (.own i0 0 m 5)) (hH0 : bU hsl i0 = some (flat dF pts)) (hmc : MC Tryz.prog 102 [sl aN l, .own 0 0 m 5] [(0, some (flat dF pts))] 1 (fun _ : Unit => True) (fun _ => .own 1 0 (m + dL l) 5) (fun _ => [(1, some (flat dF (pts ++ gF pts.length l)))])) (hM : Nat.ble (nidl + 1) bZ = true) (hN : Nat.blt d N = true) {md' : Md} [hmd : MdA md (jH [x0, x1] ++ [.inr i0]) (List.map Sum.inr (List.map Prod.fst ([(nidl, some (flat dF (pts ++ gF pts.length l))), (i0, none)] : List (Nat × Option (List AV)))) ++ [.inl d]) md'] (kk : RW Tryz.prog N all Q md' rest ⟨(d, .own nidl 0 (m + dL l) 5) :: tsl, lE hsl [(nidl, some (flat dF (pts ++ gF pts.length l))), (i0, none)], nidl + 1, z0⟩) : RW Tryz.prog N all Q md (⟨some d, .call ⟨.value (.func 102), #[x0, x1], tys⟩, ty, pos, af, none⟩ :: rest) ⟨tsl, hsl, nidl, z0⟩ := by
 refine c5 [i0] 2 [(nidl, some (flat dF (pts ++ gF pts.length l))), (i0, none)] hmc (avs := [sl aN l, .own i0 0 m 5]) ?_ rfl ?_ rfl ?_ (by simpa using hM) ?_ ?_ ?_ hN (md' := md') (hmd := hmd) kk
 ·show evL (lk tsl) [x0, x1] = _
  simp only [evL, ha0, ha1]
 ·exact ⟨⟨_, _, rfl, hH0, by (repeat' (exact RnL.purI inferInstance))⟩, trivial⟩
 ·(repeat' (first|exact RnL.purI inferInstance|exact RnV.purI inferInstance|exact RnV.own rfl|refine RnL.cons ?_ ?_))
 ·(repeat' (exact RnV.own rfl))
 ·simp [e7]
 ·(repeat' (first|exact trivial|(refine And.intro ⟨1, _, rfl, rfl, ?_⟩ ?_)|exact RnL.purI inferInstance))
theorem yD (mm : Nat) (hmm : mm ≤ 1000000) (pointsOf_ih : ∀ l pts m, bJ l < mm → m = pts.length → m + dL l ≤ 12000000 → MC Tryz.prog 102 [sl aN l, .own 0 0 m 5] [(0, some (flat dF pts))] 1 (fun _ : Unit => True) (fun _ => .own 1 0 (m + dL l) 5) (fun _ => [(1, some (flat dF (pts ++ gF pts.length l)))])) (l : List AL.Stmt) (pts : List Pnt) (m : Nat) (hs : bJ l ≤ mm) (hm : m = pts.length) (hb : m + dL l ≤ 12000000) : MC Tryz.prog 102 [sl aN l, .own 0 0 m 5] [(0, some (flat dF pts))] 1 (fun _ : Unit => True) (fun _ => .own 1 0 (m + dL l) 5) (fun _ => [(1, some (flat dF (pts ++ gF pts.length l)))]) := by
 have hlen := cY l
 subst hm
 (refine dB Tryz.func102 rfl (by simp [Tryz.ntmps102]) ?_; rw [Tryz.ntmps102])
 repeat' (first|(apply aM;first|(apply aD;rfl;rfl)|(apply aC;rfl;rfl)|(apply a8;rfl;rfl;rfl)|(apply aF;kernel_rfl))|(apply aO;first|apply aH|apply aB|apply aJ)|with_reducible apply aA)
 refine AW.le ?_ (Le.mv (d := 1) (i := 0) (cs := flat dF pts) rfl rfl (by decide))
 refine bG (σ := Nat × List Pnt × Nat) [9, 10] [(9, _), (10, _)] [] [] (fun k => [(11, iv (k.1 : Int)), (1, .own 1 0 k.2.2 5)]) (fun k => [(1, some (flat dF k.2.1))]) (fun k => k.1 ≤ l.length ∧ k.2.1 = pts ++ gF pts.length (l.take k.1) ∧ k.2.2 = k.2.1.length ∧ k.2.2 = pts.length + dL (l.take k.1)) (fun k => l.length - k.1) (0, pts, pts.length) ⟨by omega, by simp [gF], rfl, by simp [dL]⟩ rfl rfl (by repeat' (first|exact trivial|refine And.intro rfl ?_)) (by repeat' (first|exact trivial|refine And.intro (.inr rfl) ?_)) ?_
 rintro ⟨k, xs, m1⟩ ⟨hk, hxs, hm1, hm2⟩
 dsimp only at hk hxs hm1 hm2 ⊢
 have hck := fL l k
 have hct := iG l[k]!
 have hnt := Ax l k
 have n9 := Eg l[k]!
 have n10 := AK l[k]!
 have n1 := E3 l[k]!
 repeat' (first|(apply aM;first|(apply aD;rfl;rfl)|(first|(apply aL;rfl;rfl;rfl;rfl)|(apply a6;rfl;rfl;(exact (rfl:_=[_, _, _, _, _, _]));rfl;rfl;rfl))|(apply aE;rfl;rfl;rfl)|(first|(apply bO;rfl;rfl;omega;rfl)|(apply aV;rfl;rfl;rfl;rfl))|(apply aC;rfl;rfl)|(first|(apply bB;(case hx|hi => rfl);(case hm => (omega));(case hml => (rfl));(case hα | hf|hg => infer_instance);(case hN => rfl))|(apply cL;rfl;rfl;(omega);rfl))|(apply pA;rfl;rfl;(rfl);(apply pointsOf_ih <;> (first|omega|(simp only [fD] <;> omega)));rfl;rfl)|(first|(apply a8;rfl;rfl;rfl)|(apply bV;rfl;rfl;rfl;rfl;rfl;(first|(rw [aK]; omega)|(rw [aK]; simp only [fD] <;> omega));(rfl);omega;omega;(first|exact qK (by (first|assumption|(simp only [fD] <;> omega)))|exact lH (by (first|assumption|(simp only [fD] <;> omega))));rfl;rfl))|(apply aF;kernel_rfl)|(apply b8;rfl;(exact (rfl:_=some [_, _, _, _, _]));(exact (rfl:_=[_, _, _, _, _]));rfl)|(apply bT;rfl;rfl)|((apply bS (t := _));(case hze|hsm|hl => rfl);(case hfl => (first|exact (rfl:_=some [_])|exact (rfl:_=some [_, _])|exact (rfl:_=some [_, _, _, _, _])));(case hM|hN => rfl))|(apply a7;rfl;rfl;rfl;rfl;rfl;(case hl => (first|(rw [aK]; simp only [fD] <;> omega)|(simp;done)));(first|exact sO (by (simp only [fD] <;> omega))|exact qJ (by (simp only [fD] <;> omega))|exact (rfl:_=[_, _, _, _, _, _]))))|(apply aO;first|apply aH|apply aB|(apply aP;rfl;all_goals intro hc;have hq:=hc;(try simp only [cD] at hq);try exfalso;omega)|apply aJ|apply aS|apply bF|apply aW)|with_reducible apply aA|with_reducible apply bE|with_reducible apply aT|with_reducible apply bD)
 ·(apply c6 (k + 1, _, _); focus (refine Le.ren [(1, 8)] rfl (by decide) ?_ ?_ <;> repeat' (first | exact trivial | refine And.intro ⟨_, rfl, ?_⟩ ?_ | refine And.intro ⟨_, _, rfl, rfl, ?_⟩ ?_ | exact Or.inr rfl | refine Or.inl ⟨?_, (by first | rfl | exact aX _ _)⟩ | rfl)))
  ·dsimp only
   rw [vM hm1, vO hm1, vI (by rw [cS, hm1]), uU (by rw [cS, hm1]), gG l _ k (by omega), fP l k (by omega), iL, if_pos hq, n9 hq]
   refine ⟨by omega, ?_, by simp [cS]; omega, by omega⟩
   have e1 : xs.length = pts.length + dL (l.take k) := by omega
   rw [← List.append_assoc pts, ← hxs, ← e1]
   simp only [List.append_assoc, List.length_append, List.length_cons, List.length_nil, cS, hm1, Nat.zero_add]
   clear pointsOf_ih hxs hck hnt n9 n10 n1
   grind
  ·dsimp only;omega
 ·(apply c6 (k + 1, _, _); focus (refine Le.ren [(1, 8)] rfl (by decide) ?_ ?_ <;> repeat' (first | exact trivial | refine And.intro ⟨_, rfl, ?_⟩ ?_ | refine And.intro ⟨_, _, rfl, rfl, ?_⟩ ?_ | exact Or.inr rfl | refine Or.inl ⟨?_, (by first | rfl | exact aX _ _)⟩ | rfl)))
  ·dsimp only
   rw [Ai hm1, zM hm1, gG l _ k (by omega), fP l k (by omega), iL, if_neg (by omega), if_pos hq, n10 hq]
   refine ⟨by omega, ?_, by simp [cS]; omega, by omega⟩
   have e1 : xs.length = pts.length + dL (l.take k) := by omega
   rw [← List.append_assoc pts, ← hxs, ← e1]
   simp only [List.append_assoc, List.length_append, List.length_cons, List.length_nil, cS, hm1, Nat.zero_add]
   clear pointsOf_ih hxs hck hnt n9 n10 n1
   grind
  ·dsimp only;omega
 ·(apply c6 (k + 1, _, _); focus (refine Le.ren [(1, 5)] rfl (by decide) ?_ ?_ <;> repeat' (first | exact trivial | refine And.intro ⟨_, rfl, ?_⟩ ?_ | refine And.intro ⟨_, _, rfl, rfl, ?_⟩ ?_ | exact Or.inr rfl | refine Or.inl ⟨?_, (by first | rfl | exact aX _ _)⟩ | rfl)))
  ·dsimp only
   rw [gG l _ k (by omega), fP l k (by omega), iL, if_neg ‹¬l[k]!.op = 9›, if_neg hq, n1 ‹¬l[k]!.op = 9› hq]
   refine ⟨by omega, ?_, by simp [cS]; omega, by omega⟩
   have e1 : xs.length = pts.length + dL (l.take k) := by omega
   rw [← List.append_assoc pts, ← hxs, ← e1, hm1]
  ·dsimp only;omega
 ·refine aU rfl ?_
  have e2 : l.take k = l := List.take_of_length_le (by omega)
  rw [e2] at hxs hm2
  refine dA () trivial ?_ ⟨.inr (Eq.trans (b := some _) rfl ?_), trivial⟩
  ·simp only [bQ]; rw [hm2]
  ·rw [hxs]
theorem zS (l : List AL.Stmt) (pts : List Pnt) (m : Nat) (hs : bJ l ≤ 1000000) (hm : m = pts.length) (hb : m + dL l ≤ 12000000) : MC Tryz.prog 102 [sl aN l, .own 0 0 m 5] [(0, some (flat dF pts))] 1 (fun _ : Unit => True) (fun _ => .own 1 0 (m + dL l) 5) (fun _ => [(1, some (flat dF (pts ++ gF pts.length l)))]) := by
 have h : ∀ (mm : Nat), mm ≤ 1000000 → ∀ l pts m, bJ l ≤ mm → m = pts.length → m + dL l ≤ 12000000 → MC Tryz.prog 102 [sl aN l, .own 0 0 m 5] [(0, some (flat dF pts))] 1 (fun _ : Unit => True) (fun _ => .own 1 0 (m + dL l) 5) (fun _ => [(1, some (flat dF (pts ++ gF pts.length l)))]) := by
  intro mm
  induction mm using Nat.strongRecOn with
  | ind mm ih =>
   intro h0 l pts m h1 h2 h3
   exact yD mm h0 (fun l' pts' m' g1 g2 g3 => ih _ g1 (by omega) l' pts' m' (Nat.le_refl _) g2 g3) l pts m h1 h2 h3
 exact h _ hs l pts m (Nat.le_refl _) hm hb
theorem nY {l : List AL.Stmt} {N : Nat} {Q : Exit → AS → Prop} {all : Array Oper} {rest : List Oper} {tsl : List (Nat × AV)} {hsl : List (Nat × Option (List AV))} {nidl : Nat} {z0 : Lo} {md : Md} {d : Nat} {ty : TypeId} {pos : String} {af : Array Edge} {tys : Array TypeId} {x0 x1 : Operand} (ha0 : ev (lk tsl) x0 = some (sl aN l)) (ha1 : ev (lk tsl) x1 = some (.v (.slice none 0 0))) (hmc : MC Tryz.prog 102 [sl aN l, .v (.slice none 0 0)] [] 0 (fun _ : Unit => True) (fun _ => .own 0 0 (dL l) 5) (fun _ => [(0, some (flat dF (gF 0 l)))])) (hM : Nat.ble (nidl + 1) bZ = true) (hN : Nat.blt d N = true) {md' : Md} [hmd : MdA md (jH [x0, x1] ++ []) (List.map Sum.inr (List.map Prod.fst ([(nidl, some (flat dF (gF 0 l)))] : List (Nat × Option (List AV)))) ++ [.inl d]) md'] (kk : RW Tryz.prog N all Q md' rest ⟨(d, .own nidl 0 (dL l) 5) :: tsl, lE hsl [(nidl, some (flat dF (gF 0 l)))], nidl + 1, z0⟩) : RW Tryz.prog N all Q md (⟨some d, .call ⟨.value (.func 102), #[x0, x1], tys⟩, ty, pos, af, none⟩ :: rest) ⟨tsl, hsl, nidl, z0⟩ := by
 refine c5 [] 1 [(nidl, some (flat dF (gF 0 l)))] hmc (avs := [sl aN l, .v (.slice none 0 0)]) ?_ rfl ?_ rfl ?_ (by simpa using hM) ?_ ?_ ?_ hN (md' := md') (hmd := hmd) kk
 ·show evL (lk tsl) [x0, x1] = _
  simp only [evL, ha0, ha1]
 ·exact trivial
 ·(repeat' (exact RnL.purI inferInstance))
 ·(repeat' (exact RnV.own rfl))
 ·simp [e7]
 ·(repeat' (first|exact trivial|(refine And.intro ⟨0, _, rfl, rfl, ?_⟩ ?_)|exact RnL.purI inferInstance))
theorem o7 (l : List AL.Stmt) (hs : bJ l ≤ 1000000) : MC Tryz.prog 102 [sl aN l, .v (.slice none 0 0)] [] 0 (fun _ : Unit => True) (fun _ => .own 0 0 (dL l) 5) (fun _ => [(0, some (flat dF (gF 0 l)))]) := by
 have hlen := cY l
 have hn2 := jG l
 (refine dB Tryz.func102 rfl (by simp [Tryz.ntmps102]) ?_; rw [Tryz.ntmps102])
 repeat' (first|(apply aM;first|(apply aD;rfl;rfl)|(apply aC;rfl;rfl)|(apply a8;rfl;rfl;rfl)|(apply aF;kernel_rfl))|(apply aO;first|apply aH|apply aB|apply aJ)|with_reducible apply aA)
 refine AW.le ?_ (Le.nilOwn (d := 1) 5 rfl (by decide))
 refine bG (σ := Nat × List Pnt × Nat) [9, 10] [(9, _), (10, _)] [] [] (fun k => [(11, iv (k.1 : Int)), (1, .own 0 0 k.2.2 5)]) (fun k => [(0, some (flat dF k.2.1))]) (fun k => k.1 ≤ l.length ∧ k.2.1 = gF 0 (l.take k.1) ∧ k.2.2 = k.2.1.length ∧ k.2.2 = dL (l.take k.1)) (fun k => l.length - k.1) (0, [], 0) ⟨by omega, by simp [gF], rfl, by simp [dL]⟩ rfl rfl (by repeat' (first|exact trivial|refine And.intro rfl ?_)) (by repeat' (first|exact trivial|refine And.intro (.inr rfl) ?_)) ?_
 rintro ⟨k, xs, m1⟩ ⟨hk, hxs, hm1, hm2⟩
 dsimp only at hk hxs hm1 hm2 ⊢
 have hck := fL l k
 have hct := iG l[k]!
 have hnt := Ax l k
 have n9 := Eg l[k]!
 have n10 := AK l[k]!
 have n1 := E3 l[k]!
 repeat' (first|(apply aM;first|(apply aD;rfl;rfl)|(first|(apply aL;rfl;rfl;rfl;rfl)|(apply a6;rfl;rfl;(exact (rfl:_=[_, _, _, _, _, _]));rfl;rfl;rfl))|(apply aE;rfl;rfl;rfl)|(first|(apply bO;rfl;rfl;omega;rfl)|(apply aV;rfl;rfl;rfl;rfl))|(apply aC;rfl;rfl)|(first|(apply bB;(case hx|hi => rfl);(case hm => (omega));(case hml => (rfl));(case hα | hf|hg => infer_instance);(case hN => rfl))|(apply cL;rfl;rfl;(omega);rfl))|(apply pA;rfl;rfl;(rfl);(apply zS <;> (first|omega|(simp only [fD] <;> omega)));rfl;rfl)|(first|(apply a8;rfl;rfl;rfl)|(apply bV;rfl;rfl;rfl;rfl;rfl;(first|(rw [aK]; omega)|(rw [aK]; simp only [fD] <;> omega));(rfl);omega;omega;(first|exact qK (by (first|assumption|(simp only [fD] <;> omega)))|exact lH (by (first|assumption|(simp only [fD] <;> omega))));rfl;rfl))|(apply aF;kernel_rfl)|(apply b8;rfl;(exact (rfl:_=some [_, _, _, _, _]));(exact (rfl:_=[_, _, _, _, _]));rfl)|(apply bT;rfl;rfl)|((apply bS (t := _));(case hze|hsm|hl => rfl);(case hfl => (first|exact (rfl:_=some [_])|exact (rfl:_=some [_, _])|exact (rfl:_=some [_, _, _, _, _])));(case hM|hN => rfl))|(apply a7;rfl;rfl;rfl;rfl;rfl;(case hl => (first|(rw [aK]; simp only [fD] <;> omega)|(simp;done)));(first|exact sO (by (simp only [fD] <;> omega))|exact qJ (by (simp only [fD] <;> omega))|exact (rfl:_=[_, _, _, _, _, _]))))|(apply aO;first|apply aH|apply aB|(apply aP;rfl;all_goals intro hc;have hq:=hc;(try simp only [cD] at hq);try exfalso;omega)|apply aJ|apply aS|apply bF|apply aW)|with_reducible apply aA|with_reducible apply bE|with_reducible apply aT|with_reducible apply bD)
 ·(apply c6 (k + 1, _, _); focus (refine Le.ren [(0, 7)] rfl (by decide) ?_ ?_ <;> repeat' (first | exact trivial | refine And.intro ⟨_, rfl, ?_⟩ ?_ | refine And.intro ⟨_, _, rfl, rfl, ?_⟩ ?_ | exact Or.inr rfl | refine Or.inl ⟨?_, (by first | rfl | exact aX _ _)⟩ | rfl)))
  ·dsimp only
   rw [vM hm1, vO hm1, vI (by rw [cS, hm1]), uU (by rw [cS, hm1]), gG l _ k (by omega), fP l k (by omega), iL, if_pos hq, n9 hq]
   refine ⟨by omega, ?_, by simp [cS]; omega, by omega⟩
   have e1 : dL (l.take k) = xs.length := by omega
   rw [Nat.zero_add, e1]
   rw [← hxs]
   simp only [List.append_assoc, List.length_append, List.length_cons, List.length_nil, cS, hm1, Nat.zero_add]
   clear hxs hck hnt n9 n10 n1
   grind
  ·dsimp only;omega
 ·(apply c6 (k + 1, _, _); focus (refine Le.ren [(0, 7)] rfl (by decide) ?_ ?_ <;> repeat' (first | exact trivial | refine And.intro ⟨_, rfl, ?_⟩ ?_ | refine And.intro ⟨_, _, rfl, rfl, ?_⟩ ?_ | exact Or.inr rfl | refine Or.inl ⟨?_, (by first | rfl | exact aX _ _)⟩ | rfl)))
  ·dsimp only
   rw [Ai hm1, zM hm1, gG l _ k (by omega), fP l k (by omega), iL, if_neg (by omega), if_pos hq, n10 hq]
   refine ⟨by omega, ?_, by simp [cS]; omega, by omega⟩
   have e1 : dL (l.take k) = xs.length := by omega
   rw [Nat.zero_add, e1]
   rw [← hxs]
   simp only [List.append_assoc, List.length_append, List.length_cons, List.length_nil, cS, hm1, Nat.zero_add]
   clear hxs hck hnt n9 n10 n1
   grind
  ·dsimp only;omega
 ·(apply c6 (k + 1, _, _); focus (refine Le.ren [(0, 4)] rfl (by decide) ?_ ?_ <;> repeat' (first | exact trivial | refine And.intro ⟨_, rfl, ?_⟩ ?_ | refine And.intro ⟨_, _, rfl, rfl, ?_⟩ ?_ | exact Or.inr rfl | refine Or.inl ⟨?_, (by first | rfl | exact aX _ _)⟩ | rfl)))
  ·dsimp only
   rw [gG l _ k (by omega), fP l k (by omega), iL, if_neg ‹¬l[k]!.op = 9›, if_neg hq, n1 ‹¬l[k]!.op = 9› hq]
   refine ⟨by omega, ?_, by simp [cS]; omega, by omega⟩
   have e1 : dL (l.take k) = xs.length := by omega
   rw [Nat.zero_add, e1]
   rw [← hxs, hm1]
  ·dsimp only;omega
 ·refine aU rfl ?_
  have e2 : l.take k = l := List.take_of_length_le (by omega)
  rw [e2] at hxs hm2
  refine dA () trivial ?_ ⟨.inr (Eq.trans (b := some _) rfl ?_), trivial⟩
  ·simp only [bQ]; rw [hm2]
  ·rw [hxs]
theorem xY (p : Prg) (hs : bJ p.body ≤ 1000000) : PC Tryz.prog 96 [c8 p] (fun r => r = sl dF (aR p)) := by
 have hn := jG p.body
 (refine aQ Tryz.func96 rfl (by simp [Tryz.ntmps96]) ?_; rw [Tryz.ntmps96])
 repeat' (first|(apply aM;first|(apply aL;rfl;rfl;rfl;rfl)|(apply aE;rfl;rfl;rfl)|(apply aC;rfl;rfl)|(apply nY;rfl;rfl;(apply o7 <;> (assumption));rfl;rfl)|(apply bV;rfl;rfl;rfl;rfl;rfl;(rw [aK]; simp only [fD] <;> omega);(rfl);omega;omega;(exact lH (by (simp only [fD] <;> omega)));rfl;rfl)|(apply aF;kernel_rfl)|(apply b8;rfl;(exact (rfl:_=some [_, _, _, _, _]));(exact (rfl:_=[_, _, _, _, _]));rfl)|(apply bW;rfl;rfl;rfl;rfl)|((apply bS (t := _));(case hze|hsm|hl => rfl);(case hfl => (exact (rfl:_=some [_, _, _, _, _])));(case hM|hN => rfl)))|(apply aO;first|apply aH|apply aB|apply aW)|with_reducible apply aA)
 (refine cA (Le.frzD (d := 2) (i := 3) rfl rfl) ?_; refine aU rfl ?_)
 refine ⟨?_, ?_⟩
 ·simp only [bQ, sl, aR, List.length_append, List.length_cons, List.length_nil, cS, Nat.zero_add]
 ·(exact aX _ _)
theorem sG {l : List AL.Stmt} {pts : List Pnt} {m : Nat} {N : Nat} {Q : Exit → AS → Prop} {all : Array Oper} {rest : List Oper} {tsl : List (Nat × AV)} {hsl : List (Nat × Option (List AV))} {nidl : Nat} {z0 : Lo} {md : Md} {d : Nat} {ty : TypeId} {pos : String} {af : Array Edge} {tys : Array TypeId} {x0 x1 : Operand} {i0 : Nat} (ha0 : ev (lk tsl) x0 = some (.own i0 0 m 5)) (ha1 : ev (lk tsl) x1 = some (sl aN l)) (hH0 : bU hsl i0 = some (flat dF pts)) (hmc : MC Tryz.prog 109 [.own 0 0 m 5, sl aN l] [(0, some (flat dF pts))] 1 (fun _ : Unit => True) (fun _ => .own 1 0 (m + dL l) 5) (fun _ => [(1, some (flat dF (pts ++ gF pts.length l)))])) (hM : Nat.ble (nidl + 1) bZ = true) (hN : Nat.blt d N = true) {md' : Md} [hmd : MdA md (jH [x0, x1] ++ [.inr i0]) (List.map Sum.inr (List.map Prod.fst ([(nidl, some (flat dF (pts ++ gF pts.length l))), (i0, none)] : List (Nat × Option (List AV)))) ++ [.inl d]) md'] (kk : RW Tryz.prog N all Q md' rest ⟨(d, .own nidl 0 (m + dL l) 5) :: tsl, lE hsl [(nidl, some (flat dF (pts ++ gF pts.length l))), (i0, none)], nidl + 1, z0⟩) : RW Tryz.prog N all Q md (⟨some d, .call ⟨.value (.func 109), #[x0, x1], tys⟩, ty, pos, af, none⟩ :: rest) ⟨tsl, hsl, nidl, z0⟩ := by
 refine c5 [i0] 2 [(nidl, some (flat dF (pts ++ gF pts.length l))), (i0, none)] hmc (avs := [.own i0 0 m 5, sl aN l]) ?_ rfl ?_ rfl ?_ (by simpa using hM) ?_ ?_ ?_ hN (md' := md') (hmd := hmd) kk
 ·show evL (lk tsl) [x0, x1] = _
  simp only [evL, ha0, ha1]
 ·exact ⟨⟨_, _, rfl, hH0, by (repeat' (exact RnL.purI inferInstance))⟩, trivial⟩
 ·(repeat' (first|exact RnL.purI inferInstance|exact RnV.own rfl|refine RnL.cons ?_ ?_))
 ·(repeat' (exact RnV.own rfl))
 ·simp [e7]
 ·(repeat' (first|exact trivial|(refine And.intro ⟨1, _, rfl, rfl, ?_⟩ ?_)|exact RnL.purI inferInstance))
theorem Et (mm : Nat) (hmm : mm ≤ 1000000) (l2Add_ih : ∀ l pts m, bJ l < mm → m = pts.length → m + dL l ≤ 12000000 → MC Tryz.prog 109 [.own 0 0 m 5, sl aN l] [(0, some (flat dF pts))] 1 (fun _ : Unit => True) (fun _ => .own 1 0 (m + dL l) 5) (fun _ => [(1, some (flat dF (pts ++ gF pts.length l)))])) (l : List AL.Stmt) (pts : List Pnt) (m : Nat) (hs : bJ l ≤ mm) (hm : m = pts.length) (hb : m + dL l ≤ 12000000) : MC Tryz.prog 109 [.own 0 0 m 5, sl aN l] [(0, some (flat dF pts))] 1 (fun _ : Unit => True) (fun _ => .own 1 0 (m + dL l) 5) (fun _ => [(1, some (flat dF (pts ++ gF pts.length l)))]) := by
 have hlen := cY l
 subst hm
 (refine dB Tryz.func109 rfl (by simp [Tryz.ntmps109]) ?_; rw [Tryz.ntmps109])
 repeat' (first|(apply aM;first|(apply aC;rfl;rfl)|(apply aF;kernel_rfl))|(apply aO;first|apply aH|apply aB|apply aJ)|with_reducible apply aA)
 refine AW.le ?_ (Le.mv (d := 0) (i := 0) (cs := flat dF pts) rfl rfl (by decide))
 refine bG (σ := Nat × List Pnt × Nat) [1] [(1, _)] [] [] (fun k => [(5, iv (k.1 : Int)), (0, .own 1 0 k.2.2 5)]) (fun k => [(1, some (flat dF k.2.1))]) (fun k => k.1 ≤ l.length ∧ k.2.1 = pts ++ gF pts.length (l.take k.1) ∧ k.2.2 = k.2.1.length ∧ k.2.2 = pts.length + dL (l.take k.1)) (fun k => l.length - k.1) (0, pts, pts.length) ⟨by omega, by simp [gF], rfl, by simp [dL]⟩ rfl rfl (by repeat' (first|exact trivial|refine And.intro rfl ?_)) (by repeat' (first|exact trivial|refine And.intro (.inr rfl) ?_)) ?_
 rintro ⟨k, xs, m1⟩ ⟨hk, hxs, hm1, hm2⟩
 dsimp only at hk hxs hm1 hm2 ⊢
 have hck := fL l k
 have hct := iG l[k]!
 have hnt := Ax l k
 have n9 := Eg l[k]!
 have n10 := AK l[k]!
 have n1 := E3 l[k]!
 repeat' (first|(apply aM;first|(apply aD;rfl;rfl)|(first|(apply aL;rfl;rfl;rfl;rfl)|(apply a6;rfl;rfl;(exact (rfl:_=[_, _, _, _, _, _]));rfl;rfl;rfl))|(apply aE;rfl;rfl;rfl)|(first|(apply bO;rfl;rfl;omega;rfl)|(apply aV;rfl;rfl;rfl;rfl))|(apply aC;rfl;rfl)|(first|(apply bB;(case hx|hi => rfl);(case hm => (omega));(case hml => (rfl));(case hα | hf|hg => infer_instance);(case hN => rfl))|(apply cL;rfl;rfl;(omega);rfl))|(apply sG;rfl;rfl;(rfl);(apply l2Add_ih <;> (first|omega|(simp only [fD] <;> omega)));rfl;rfl)|(first|(apply a8;rfl;rfl;rfl)|(apply bV;rfl;rfl;rfl;rfl;rfl;(first|(rw [aK]; omega)|(rw [aK]; simp only [fD] <;> omega));(rfl);omega;omega;(first|exact qK (by (first|assumption|(simp only [fD] <;> omega)))|exact lH (by (first|assumption|(simp only [fD] <;> omega))));rfl;rfl))|(apply aF;kernel_rfl)|(apply b8;rfl;(exact (rfl:_=some [_, _, _, _, _]));(exact (rfl:_=[_, _, _, _, _]));rfl)|(apply bT;rfl;rfl)|((apply bS (t := _));(case hze|hsm|hl => rfl);(case hfl => (first|exact (rfl:_=some [_])|exact (rfl:_=some [_, _])|exact (rfl:_=some [_, _, _, _, _])));(case hM|hN => rfl))|(apply a7;rfl;rfl;rfl;rfl;rfl;(case hl => (first|(rw [aK]; simp only [fD] <;> omega)|(simp;done)));(first|exact sO (by (simp only [fD] <;> omega))|exact qJ (by (simp only [fD] <;> omega))|exact (rfl:_=[_, _, _, _, _, _]))))|(apply aO;first|apply aH|apply aB|(apply aP;rfl;all_goals intro hc;have hq:=hc;(try simp only [cD] at hq);try exfalso;omega)|apply aJ|apply aS|apply bF|apply aW)|with_reducible apply aA|with_reducible apply bE|with_reducible apply aT|with_reducible apply bD)
 ·(apply c6 (k + 1, _, _); focus (refine Le.ren [(1, 8)] rfl (by decide) ?_ ?_ <;> repeat' (first | exact trivial | refine And.intro ⟨_, rfl, ?_⟩ ?_ | refine And.intro ⟨_, _, rfl, rfl, ?_⟩ ?_ | exact Or.inr rfl | refine Or.inl ⟨?_, (by first | rfl | exact aX _ _)⟩ | rfl)))
  ·dsimp only
   rw [vI (by rw [cS, hm1]), uU (by rw [cS, hm1]), vM hm1, vO hm1, gG l _ k (by omega), fP l k (by omega), iL, if_pos hq, n9 hq]
   refine ⟨by omega, ?_, by simp [cS]; omega, by omega⟩
   have e1 : xs.length = pts.length + dL (l.take k) := by omega
   rw [← List.append_assoc pts, ← hxs, ← e1]
   simp only [List.append_assoc, List.length_append, List.length_cons, List.length_nil, cS, hm1, Nat.zero_add]
   clear l2Add_ih hxs hck hnt n9 n10 n1
   grind
  ·dsimp only;omega
 ·(apply c6 (k + 1, _, _); focus (refine Le.ren [(1, 8)] rfl (by decide) ?_ ?_ <;> repeat' (first | exact trivial | refine And.intro ⟨_, rfl, ?_⟩ ?_ | refine And.intro ⟨_, _, rfl, rfl, ?_⟩ ?_ | exact Or.inr rfl | refine Or.inl ⟨?_, (by first | rfl | exact aX _ _)⟩ | rfl)))
  ·dsimp only
   rw [Ai hm1, zM hm1, gG l _ k (by omega), fP l k (by omega), iL, if_neg (by omega), if_pos hq, n10 hq]
   refine ⟨by omega, ?_, by simp [cS]; omega, by omega⟩
   have e1 : xs.length = pts.length + dL (l.take k) := by omega
   rw [← List.append_assoc pts, ← hxs, ← e1]
   simp only [List.append_assoc, List.length_append, List.length_cons, List.length_nil, cS, hm1, Nat.zero_add]
   clear l2Add_ih hxs hck hnt n9 n10 n1
   grind
  ·dsimp only;omega
 ·(apply c6 (k + 1, _, _); focus (refine Le.ren [(1, 5)] rfl (by decide) ?_ ?_ <;> repeat' (first | exact trivial | refine And.intro ⟨_, rfl, ?_⟩ ?_ | refine And.intro ⟨_, _, rfl, rfl, ?_⟩ ?_ | exact Or.inr rfl | refine Or.inl ⟨?_, (by first | rfl | exact aX _ _)⟩ | rfl)))
  ·dsimp only
   rw [gG l _ k (by omega), fP l k (by omega), iL, if_neg ‹¬l[k]!.op = 9›, if_neg hq, n1 ‹¬l[k]!.op = 9› hq]
   refine ⟨by omega, ?_, by simp [cS]; omega, by omega⟩
   have e1 : xs.length = pts.length + dL (l.take k) := by omega
   rw [← List.append_assoc pts, ← hxs, ← e1, hm1]
  ·dsimp only;omega
 ·refine aU rfl ?_
  have e2 : l.take k = l := List.take_of_length_le (by omega)
  rw [e2] at hxs hm2
  refine dA () trivial ?_ ⟨.inr (Eq.trans (b := some _) rfl ?_), trivial⟩
  ·simp only [bQ]; rw [hm2]
  ·rw [hxs]
theorem BC (l : List AL.Stmt) (pts : List Pnt) (m : Nat) (hs : bJ l ≤ 1000000) (hm : m = pts.length) (hb : m + dL l ≤ 12000000) : MC Tryz.prog 109 [.own 0 0 m 5, sl aN l] [(0, some (flat dF pts))] 1 (fun _ : Unit => True) (fun _ => .own 1 0 (m + dL l) 5) (fun _ => [(1, some (flat dF (pts ++ gF pts.length l)))]) := by
 have h : ∀ (mm : Nat), mm ≤ 1000000 → ∀ l pts m, bJ l ≤ mm → m = pts.length → m + dL l ≤ 12000000 → MC Tryz.prog 109 [.own 0 0 m 5, sl aN l] [(0, some (flat dF pts))] 1 (fun _ : Unit => True) (fun _ => .own 1 0 (m + dL l) 5) (fun _ => [(1, some (flat dF (pts ++ gF pts.length l)))]) := by
  intro mm
  induction mm using Nat.strongRecOn with
  | ind mm ih =>
   intro h0 l pts m h1 h2 h3
   exact Et mm h0 (fun l' pts' m' g1 g2 g3 => ih _ g1 (by omega) l' pts' m' (Nat.le_refl _) g2 g3) l pts m h1 h2 h3
 exact h _ hs l pts m (Nat.le_refl _) hm hb
theorem kX (p : Prg) (hs : bJ p.body ≤ 1000000) : PC Tryz.prog 110 [c8 p] (fun r => r = sl dF (aR p)) := by
 have hn := jG p.body
 have e0 : ([] : List AV) = flat dF [] := rfl
 (refine aQ Tryz.func110 rfl (by simp [Tryz.ntmps110]) ?_; rw [Tryz.ntmps110])
 repeat' (first|(apply aM;first|(apply aL;rfl;rfl;rfl;rfl)|(apply aE;rfl;rfl;rfl)|(apply aC;rfl;rfl)|(apply sG;rfl;rfl;(exact tY rfl);(apply BC <;> (first|assumption|omega|(simp only [fD] <;> omega)));rfl;rfl)|(apply bV;rfl;rfl;rfl;rfl;rfl;(rw [aK]; simp only [fD] <;> omega);(rfl);omega;omega;(exact lH (by (simp only [fD] <;> omega)));rfl;rfl)|(apply aF;kernel_rfl)|(apply b8;rfl;(exact (rfl:_=some [_, _, _, _, _]));(exact (rfl:_=[_, _, _, _, _]));rfl)|(apply bW;rfl;rfl;rfl;rfl)|(apply bK;rfl;rfl;rfl;(first|exact (rfl:_=some [_, _, _, _, _])|rfl);rfl;rfl))|(apply aO;first|apply aH|apply aB|apply aW)|with_reducible apply aA)
 (refine cA (Le.frzD (d := 2) (i := 4) rfl rfl) ?_; refine aU rfl ?_)
 refine ⟨?_, (by (exact aX _ _))⟩
 simp only [bQ, sl, aR, List.length_append, List.length_cons, List.length_nil, cS, Nat.zero_add, List.nil_append]
theorem BI (ts : List Int) (bd : List AL.Stmt) (pts : List Pnt) (v : Int) (h : 0 ≤ v ∧ v < ts.length) : PC Tryz.prog 154 [aG ts bd pts, iv v] (fun r => r = bv (Hf ts[v.toNat]!)) := by
 (refine aQ Tryz.func154 rfl (by simp [Tryz.ntmps154]) ?_; rw [Tryz.ntmps154])
 repeat' (first|(apply aM;first|(apply aD;rfl;rfl)|(apply aL;rfl;rfl;rfl;rfl)|(apply aE;rfl;rfl;rfl)|(first|(apply a9;rfl;rfl;rfl;(assumption))|(apply aZ;rfl;rfl;rfl;(assumption))|(apply bC;(case hj|hb|hN => rfl);all_goals (intro hg;have hq := hg;(try simp only [cD] at hq);(try (exfalso;omega)))))|(apply aV;rfl;rfl;rfl;rfl)|(apply aC;rfl;rfl)|(first|(apply bI;rfl;(assumption);rfl;rfl)|(apply bH;rfl;(assumption);rfl;rfl))|(apply cC;(case hx|hi => rfl);(case hm => (assumption));(case hml => (rfl));(case hα | hf|hg => infer_instance);(case hN => rfl))|(apply aF;kernel_rfl)|(apply dJ;rfl;rfl;rfl))|(apply aO;first|apply aH|apply aB|apply aW)|with_reducible apply aA|((with_reducible apply aU);case hr => rfl))
 all_goals (refine ⟨?_, rfl⟩; simp only [bQ, AV.v.injEq, Value.bool.injEq, Value.int.injEq, true_and])
 all_goals grind [Hf]
theorem IN (ts : List Int) (bd : List AL.Stmt) (pts : List Pnt) (x : Pnt) (v : Int) (h : 0 ≤ v ∧ v < ts.length) : PC Tryz.prog 201 [aG ts bd pts, oH x, iv v] (fun r => r = iv (cE ts x v)) := by
 (refine aQ Tryz.func201 rfl (by simp [Tryz.ntmps201]) ?_; rw [Tryz.ntmps201])
 repeat' (first|(apply aM;first|(apply aD;rfl;rfl)|(apply aL;rfl;rfl;rfl;rfl)|(apply aE;rfl;rfl;rfl)|(first|(apply a9;rfl;rfl;rfl;(assumption))|(apply aZ;rfl;rfl;rfl;(assumption))|(apply bC;(case hj|hb|hN => rfl);all_goals (intro hg;have hq := hg;(try simp only [cD] at hq);(try (exfalso;omega)))))|(apply aV;rfl;rfl;rfl;rfl)|(apply aC;rfl;rfl)|(first|(apply bI;rfl;(assumption);rfl;rfl)|(apply bH;rfl;(assumption);rfl;rfl))|((with_reducible apply aI (k := 154));(case ha => rfl);(case h => (apply BI <;> (assumption)));(case hp => (exact Pur.pf));(case hN => rfl))|(apply aF;kernel_rfl)|(apply bW;rfl;rfl;rfl;rfl))|(apply aO;first|apply aH|apply aB|(apply bX;rfl;(assumption))|(apply cF;rfl;(first|rfl|assumption))|(apply aP;rfl;all_goals intro hc;have hq:=hc;(try simp only [cD] at hq);try exfalso;omega)|apply aJ|apply aS|apply aW)|with_reducible apply aA|with_reducible apply b0|with_reducible apply aT|with_reducible apply eQ|((with_reducible apply aU);case hr => rfl))
 all_goals (refine ⟨?_, rfl⟩; simp only [bQ, AV.v.injEq, Value.bool.injEq, Value.int.injEq, true_and])
 all_goals grind [Hf, cE]
theorem wN (x : Pnt) : PC Tryz.prog 140 [oH x] (fun r => r = iv (bR x)) := by
 (refine aQ Tryz.func140 rfl (by simp [Tryz.ntmps140]) ?_; rw [Tryz.ntmps140])
 repeat' (first|(apply aM;first|(apply aL;rfl;rfl;rfl;rfl)|(apply aE;rfl;rfl;rfl)|(apply aV;rfl;rfl;rfl;rfl)|(apply aC;rfl;rfl)|(apply aF;kernel_rfl)|(apply bW;rfl;rfl;rfl;rfl))|(apply aO;first|apply aH|apply aB|(apply bX;rfl;(assumption))|(apply aP;rfl;all_goals intro hc;have hq:=hc;(try simp only [cD] at hq);try exfalso;omega)|apply aJ|apply aS|apply aW)|with_reducible apply aA|with_reducible apply b0|with_reducible apply aT|with_reducible apply eQ|((with_reducible apply aU);case hr => rfl))
 all_goals (refine ⟨?_, rfl⟩; simp only [bQ, AV.v.injEq, Value.bool.injEq, Value.int.injEq, true_and])
 all_goals grind [bR]
theorem lR (x : Pnt) : PC Tryz.prog 196 [oH x] (fun r => r = bv (c9 x)) := by
 (refine aQ Tryz.func196 rfl (by simp [Tryz.ntmps196]) ?_; rw [Tryz.ntmps196])
 repeat' (first|(apply aM;first|(apply aD;rfl;rfl)|(apply aL;rfl;rfl;rfl;rfl)|(apply aE;rfl;rfl;rfl)|(first|(apply a9;rfl;rfl;rfl;(assumption))|(apply aZ;rfl;rfl;rfl;(assumption))|(apply bC;(case hj|hb|hN => rfl);all_goals (intro hg;have hq := hg;(try simp only [cD] at hq);(try (exfalso;omega)))))|(apply aV;rfl;rfl;rfl;rfl)|(apply aC;rfl;rfl)|(first|(apply bI;rfl;(assumption);rfl;rfl)|(apply bH;rfl;(assumption);rfl;rfl))|(apply aF;kernel_rfl)|(apply bW;rfl;rfl;rfl;rfl))|(apply aO;first|apply aH|apply aB|apply aW)|with_reducible apply aA|((with_reducible apply aU);case hr => rfl))
 all_goals (refine ⟨?_, rfl⟩; simp only [bQ, AV.v.injEq, Value.bool.injEq, Value.int.injEq, true_and])
 all_goals grind [c9]
theorem n0 (x : Pnt) (h : bR x < 62) : PC Tryz.prog 174 [oH x] (fun r => r = iv (hO x : Nat)) := by
 (refine aQ Tryz.func174 rfl (by simp [Tryz.ntmps174]) ?_; rw [Tryz.ntmps174])
 repeat' (first|(apply aM;first|(apply aD;rfl;rfl)|(apply a6;rfl;rfl;(exact (rfl:_=[_, _, _, _, _]));rfl;rfl;rfl)|(first|(apply jR;rfl;rfl;infer_instance;omega;rfl;(case' kk => intro hsm))|(apply aV;rfl;rfl;rfl;rfl))|(apply aC;rfl;rfl)|((with_reducible apply aI (k := 140));(case ha => rfl);(case h => (apply wN <;> (fail)));(case hp => (exact Pur.pf));(case hN => rfl))|(apply aF;kernel_rfl)|(apply bW;rfl;rfl;rfl;rfl))|(apply aO;first|apply aH|apply aB|(apply aP;rfl;all_goals intro hc;have hq:=hc;(try simp only [cD] at hq);try exfalso;omega)|apply aS|apply aW)|with_reducible apply aA|with_reducible apply b0|((with_reducible apply aU);case hr => rfl))
 all_goals (refine ⟨?_, rfl⟩; simp only [bQ, AV.v.injEq, Value.bool.injEq, Value.int.injEq, true_and])
 all_goals (unfold hO)
 ·rw [if_pos (by omega)]
 ·rw [if_neg (by omega)]; rfl
theorem IK (ts : List Int) (bd : List AL.Stmt) (pts : List Pnt) (h : ts.length ≤ 6) : PC Tryz.prog 180 [aG ts bd pts] (fun r => r = iv ((2 ^ ts.length - 1 : Nat) : Int)) := by
 have h1 : 2 ^ ts.length ≤ 2 ^ 6 := Nat.pow_le_pow_right (by decide) h
 have h2 : 0 < 2 ^ ts.length := Nat.pow_pos (by decide)
 have h3 : 2 ^ (ts.length : Int).toNat ≤ 2 ^ 6 := h1
 have h4 : 2 ^ (ts.length : Int).toNat = 2 ^ ts.length := rfl
 (refine aQ Tryz.func180 rfl (by simp [Tryz.ntmps180]) ?_; rw [Tryz.ntmps180])
 repeat' (first|(apply aM;first|(apply aD;rfl;rfl)|(apply aL;rfl;rfl;rfl;rfl)|(apply aE;rfl;rfl;rfl)|(first|(apply jR;rfl;rfl;infer_instance;omega;rfl;(case' kk => intro hsm))|(apply gT;rfl;rfl;omega;rfl))|(apply aC;rfl;rfl)|(apply a8;rfl;rfl;rfl)|(apply aF;kernel_rfl)|(apply dJ;rfl;rfl;rfl))|(apply aO;first|apply aH|apply aB|apply aW)|with_reducible apply aA|((with_reducible apply aU);case hr => rfl))
 all_goals (refine ⟨?_, rfl⟩; simp only [bQ, AV.v.injEq, Value.bool.injEq, Value.int.injEq, true_and])
 omega
def DR (xs : List Int) (v : Int) : Int := match xs.findIdx? (fun t => decide (t = v)) with | some i => i | none => -1
theorem GX (xs : List Int) (v : Int) (hl : xs.length ≤ 1000000) : PC Tryz.prog 99 [sl cI xs, iv v] (fun r => r = iv (DR xs v)) := by
 (refine aQ Tryz.func99 rfl (by simp [Tryz.ntmps99]) ?_; rw [Tryz.ntmps99])
 repeat' (first|(apply aM;first|(apply aD;rfl;rfl)|(apply aC;rfl;rfl)|(apply a8;rfl;rfl;rfl)|(apply aF;kernel_rfl))|(apply aO;first|apply aH|apply aB|apply aJ)|with_reducible apply aA)
 refine bG (σ := Nat) [0, 1, 7] [(0, _), (1, _), (7, _)] [] [] (fun k => [(8, iv (k : Int))]) (fun k => []) (fun k => k ≤ xs.length ∧ ∀ i, i < k → xs[i]! ≠ v) (fun k => xs.length - k) (0) ⟨by omega, by omega⟩ rfl rfl (by repeat' (first|exact trivial|refine And.intro rfl ?_)) (by repeat' (exact trivial)) ?_
 intro k ⟨hk, hall⟩
 repeat' (first|(apply aM;first|(apply aD;rfl;rfl)|(apply aL;rfl;rfl;rfl;rfl)|(first|(apply bO;rfl;rfl;omega;rfl)|(apply aV;rfl;rfl;rfl;rfl))|(apply aC;rfl;rfl)|(apply bB;(case hx|hi => rfl);(case hm => (omega));(case hml => (rfl));(case hα | hf|hg => infer_instance);(case hN => rfl))|(apply aF;kernel_rfl))|(apply aO;first|apply aH|apply aB|(apply aP;rfl;all_goals intro hc;have hq:=hc;(try simp only [cD] at hq);try exfalso;omega)|apply aJ|apply aS|apply bF|apply aW)|with_reducible apply aA|with_reducible apply b0|with_reducible apply bE|with_reducible apply aT|with_reducible apply eQ|with_reducible apply bD|((with_reducible apply aU);case hr => rfl))
 ·(refine ⟨?_, rfl⟩; simp only [bQ, AV.v.injEq, Value.bool.injEq, Value.int.injEq, true_and])
  have hlt : k < xs.length := by omega
  have : xs.findIdx? (fun t => decide (t = v)) = some k := by
   rw [List.findIdx?_eq_some_iff_getElem]
   refine ⟨hlt, ?_, fun j hj => ?_⟩
   ·rw [← dG xs k hlt]; grind
   ·have := hall j hj;rw [dG xs j (by omega)] at this;simpa using this
  simp only [DR, this]
 ·(apply c6 (k + 1); focus (refine Le.ren [] rfl (by decide) ?_ ?_ <;> repeat' (first | exact trivial | refine And.intro ⟨_, rfl, ?_⟩ ?_ | refine Or.inl ⟨?_, (by first | rfl | exact aX _ _)⟩ | rfl)))
  ·grind
  ·omega
 ·(refine ⟨?_, rfl⟩; simp only [bQ, AV.v.injEq, Value.bool.injEq, Value.int.injEq, true_and])
  have : xs.findIdx? (fun t => decide (t = v)) = none := by
   rw [List.findIdx?_eq_none_iff]
   intro x hx
   obtain ⟨i, hi, rfl⟩ := List.getElem_of_mem hx
   have := hall i (by omega);rw [dG xs i hi] at this;simpa using this
  simp only [DR, this]
theorem Gj (xs : List Int) (v : Int) : decide (0 ≤ DR xs v) = decide (v ∈ xs) := by
 unfold DR
 split
 ·rename_i i h
  obtain ⟨h1, h2, _⟩ := List.findIdx?_eq_some_iff_getElem.1 h
  simp only [decide_eq_true_eq] at h2
  have : v ∈ xs := by rw [← h2]; exact List.getElem_mem h1
  simp [this]
 ·rename_i h
  rw [List.findIdx?_eq_none_iff] at h
  have : v ∉ xs := fun hm => by have := h v hm;simp at this
  simp [this]
theorem rS (xs : List Int) (v : Int) (hl : xs.length ≤ 1000000) : PC Tryz.prog 52 [sl cI xs, iv v] (fun r => r = bv (decide (v ∈ xs))) := by
 (refine aQ Tryz.func52 rfl (by simp [Tryz.ntmps52]) ?_; rw [Tryz.ntmps52])
 repeat' (first|(apply aM;first|(apply aD;rfl;rfl)|(apply aV;rfl;rfl;rfl;rfl)|(apply aC;rfl;rfl)|((with_reducible apply aI (k := 99));(case ha => rfl);(case h => (apply GX <;> (assumption)));(case hp => (exact Pur.pf));(case hN => rfl))|(apply aF;kernel_rfl))|(apply aO;first|apply aH|apply aB|apply aW)|with_reducible apply aA|((with_reducible apply aU);case hr => rfl))
 (refine ⟨?_, rfl⟩; simp only [bQ, AV.v.injEq, Value.bool.injEq, Value.int.injEq, true_and])
 exact Gj xs v
theorem BE (ts : List Int) (bd : List AL.Stmt) (pts : List Pnt) (x : Pnt) (us : List Int) (h : ts.length ≤ 6) (hu : us.length ≤ 1000) : PC Tryz.prog 177 [aG ts bd pts, oH x, sl cI us] (fun r => r = iv (wS ts x us : Nat)) := by
 (refine aQ Tryz.func177 rfl (by simp [Tryz.ntmps177]) ?_; rw [Tryz.ntmps177])
 repeat' (first|(apply aM;first|(apply aD;rfl;rfl)|(apply aL;rfl;rfl;rfl;rfl)|(apply aE;rfl;rfl;rfl)|(apply aC;rfl;rfl)|(apply a8;rfl;rfl;rfl)|(apply aF;kernel_rfl)|(apply dJ;rfl;rfl;rfl)|(apply bW;rfl;rfl;rfl;rfl))|(apply aO;first|apply aH|apply aB|apply aJ)|with_reducible apply aA)
 refine bG (σ := Nat × Nat) [0, 2, 4, 14] [(0, _), (2, _), (4, _), (14, _)] [0] [(0, some _)] (fun k => [(15, iv (k.1 : Int)), (7, iv (k.2 : Int))]) (fun k => []) (fun k => k.1 ≤ ts.length ∧ k.2 = fF (fun v => decide (cE ts x v ∈ us)) k.1) (fun k => ts.length - k.1) (0, 0) ⟨by omega, rfl⟩ rfl rfl (by repeat' (first|exact trivial|refine And.intro rfl ?_)) (by repeat' (exact trivial)) ?_
 rintro ⟨k, A⟩ ⟨hk, hA⟩
 dsimp only at hk hA ⊢
 have hsm : Sm A := hA ▸ fB (by omega)
 repeat' (first|(apply aM;first|(apply aD;rfl;rfl)|(apply a6;rfl;rfl;(exact (rfl:_=[_, _, _, _, _]));rfl;rfl;rfl)|(first|(apply fU;rfl;rfl;infer_instance;infer_instance;infer_instance;rfl)|(apply jR;rfl;rfl;infer_instance;omega;rfl;(case' kk => intro hsm))|(apply bO;rfl;rfl;omega;rfl)|(apply aV;rfl;rfl;rfl;rfl))|(apply aC;rfl;rfl)|(first|((with_reducible apply aI (k := 52));(case ha => rfl);(case h => (apply rS <;> (omega)));(case hp => (exact Pur.pf));(case hN => rfl))|((with_reducible apply aI (k := 201));(case ha => rfl);(case h => (apply IN <;> (omega)));(case hp => (exact Pur.pf));(case hN => rfl)))|(apply aF;kernel_rfl))|(apply aO;first|apply aH|apply aB|(apply aP;rfl;all_goals intro hc;have hq:=hc;(try simp only [cD] at hq);try exfalso;omega)|apply aJ|apply aS|apply bF|apply aW)|with_reducible apply aA|with_reducible apply bE|with_reducible apply aT|with_reducible apply bD|((with_reducible apply aU);case hr => rfl))
 ·(apply c6 (k + 1, _); focus (refine Le.ren [(0, 0)] rfl (by decide) ?_ ?_ <;> repeat' (first | exact trivial | refine And.intro ⟨_, rfl, ?_⟩ ?_ | refine And.intro ⟨_, _, rfl, rfl, ?_⟩ ?_ | exact Or.inr rfl | refine Or.inl ⟨?_, (by first | rfl | exact aX _ _ | exact Pur.pf)⟩ | rfl)))
  ·dsimp only
   rw [hA]
   exact ⟨by omega, o3 _ _ (by simpa using hq)⟩
  ·dsimp only;omega
 ·(apply c6 (k + 1, _); focus (refine Le.ren [(0, 0)] rfl (by decide) ?_ ?_ <;> repeat' (first | exact trivial | refine And.intro ⟨_, rfl, ?_⟩ ?_ | refine And.intro ⟨_, _, rfl, rfl, ?_⟩ ?_ | exact Or.inr rfl | refine Or.inl ⟨?_, (by first | rfl | exact aX _ _ | exact Pur.pf)⟩ | rfl)))
  ·dsimp only
   rw [hA]
   exact ⟨by omega, lT _ _ (by simpa using hq)⟩
  ·dsimp only;omega
 ·(refine ⟨?_, rfl⟩; simp only [bQ, AV.v.injEq, Value.bool.injEq, Value.int.injEq, true_and])
  rw [hA, show k = ts.length by omega]; rfl
theorem Ey (ts : List Int) (bd : List AL.Stmt) (pts : List Pnt) (x : Pnt) (h : ts.length ≤ 6) : PC Tryz.prog 151 [aG ts bd pts, oH x] (fun r => r = iv (wS ts x [1, 2, 3] : Nat)) := by
 (refine aQ Tryz.func151 rfl (by simp [Tryz.ntmps151]) ?_; rw [Tryz.ntmps151])
 repeat' (first|(apply aM;first|(apply aD;rfl;rfl)|(apply a6;rfl;rfl;(exact (rfl:_=[_, _, _, _, _]));rfl;rfl;rfl)|(apply aC;rfl;rfl)|((with_reducible apply aI (k := 177));(case ha => rfl);(case h => (apply BE (us := [1, 2, 3]) <;> (first|assumption|decide)));(case hp => (exact Pur.pf));(case hN => rfl))|(apply aF;kernel_rfl)|(apply bW;rfl;rfl;rfl;rfl)|((apply bS (t := _));(case hze|hsm|hl => rfl);(case hfl => (exact (rfl:_=some [_, _, _])));(case hM|hN => rfl)))|(apply aO;first|apply aH|apply aB|apply aW)|with_reducible apply aA|((with_reducible apply aU);case hr => rfl))
 (refine ⟨?_, rfl⟩; simp only [bQ, AV.v.injEq, Value.bool.injEq, Value.int.injEq, true_and])
theorem p8 (ts : List Int) (bd : List AL.Stmt) (pts : List Pnt) (x : Pnt) (h : ts.length ≤ 6) : PC Tryz.prog 139 [aG ts bd pts, oH x] (fun r => r = iv (wS ts x [2] : Nat)) := by
 (refine aQ Tryz.func139 rfl (by simp [Tryz.ntmps139]) ?_; rw [Tryz.ntmps139])
 repeat' (first|(apply aM;first|(apply aD;rfl;rfl)|(apply a6;rfl;rfl;(exact (rfl:_=[_, _, _, _, _]));rfl;rfl;rfl)|(apply aC;rfl;rfl)|((with_reducible apply aI (k := 177));(case ha => rfl);(case h => (apply BE (us := [2]) <;> (first|assumption|decide)));(case hp => (exact Pur.pf));(case hN => rfl))|(apply aF;kernel_rfl)|(apply bW;rfl;rfl;rfl;rfl)|((apply bS (t := _));(case hze|hsm|hl => rfl);(case hfl => exact (rfl:_=some [_]));(case hM|hN => rfl)))|(apply aO;first|apply aH|apply aB|apply aW)|with_reducible apply aA|((with_reducible apply aU);case hr => rfl))
 (refine ⟨?_, rfl⟩; simp only [bQ, AV.v.injEq, Value.bool.injEq, Value.int.injEq, true_and])
theorem wV (ts : List Int) (bd : List AL.Stmt) (pts : List Pnt) (i : Int) (A : Nat) (h : WG ts pts) (hi : 0 ≤ i ∧ i < pts.length) (hA : Sm A) : PC Tryz.prog 146 [aG ts bd pts, iv i, iv (A : Int)] (fun r => r = iv (iA ts pts[i.toNat]! A : Nat)) := by
 have htl := h.tl
 have hst := (h.set i.toNat (by omega)).1
 have hs1 : Sm (wS ts pts[i.toNat]! [2]) := fB (by omega)
 have hs2 : Sm (hO pts[i.toNat]!) := pM (by omega)
 (refine aQ Tryz.func146 rfl (by simp [Tryz.ntmps146]) ?_; rw [Tryz.ntmps146])
 repeat' (first|(apply aM;first|(apply aD;rfl;rfl)|(first|(apply aL;rfl;rfl;rfl;rfl)|(apply a6;rfl;rfl;(exact (rfl:_=[_, _, _, _, _]));rfl;rfl;rfl))|(apply aE;rfl;rfl;rfl)|(first|(apply fU;rfl;rfl;infer_instance;infer_instance;infer_instance;rfl)|(apply nX;rfl;rfl;infer_instance;infer_instance;infer_instance;rfl))|(apply aC;rfl;rfl)|(apply cC;(case hx|hi => rfl);(case hm => (assumption));(case hml => (rfl));(case hα | hf|hg => infer_instance);(case hN => rfl))|(first|((with_reducible apply aI (k := 139));(case ha => rfl);(case h => (apply p8 <;> (assumption)));(case hp => (exact Pur.pf));(case hN => rfl))|((with_reducible apply aI (k := 174));(case ha => rfl);(case h => (apply n0 <;> (omega)));(case hp => (exact Pur.pf));(case hN => rfl)))|(apply aF;kernel_rfl)|(apply dJ;rfl;rfl;rfl)|(apply bT;rfl;rfl)|(apply a7;rfl;rfl;rfl;rfl;rfl;(case hl => (simp;done));(exact (rfl:_=[_, _, _, _, _]))))|(apply aO;first|apply aH|apply aB|(apply b9;kernel_rfl)|apply aW)|with_reducible apply aA|((with_reducible apply aU);case hr => rfl))
 (refine ⟨?_, rfl⟩; simp only [bQ, AV.v.injEq, Value.bool.injEq, Value.int.injEq, true_and])
 rfl
theorem AE (ts : List Int) (bd : List AL.Stmt) (pts : List Pnt) (A : List Nat) (w : WG ts pts) (hA : pF ts pts A) : PC Tryz.prog 145 [aG ts bd pts, iv 0, bv false, .clos (.func 146) [aG ts bd pts] []] (fun r => r = .imm pts.length (flat cN A)) := by
 have hpl := w.pl
 have hp0 := w.p0
 have htl := w.tl
 have fl := IV w
 (refine aQ Tryz.func145 rfl (by simp [Tryz.ntmps145]) ?_; rw [Tryz.ntmps145])
 repeat' (first|(apply aM;first|(apply aD;rfl;rfl)|(apply aL;rfl;rfl;rfl;rfl)|(apply aE;rfl;rfl;rfl)|(apply aC;rfl;rfl)|(apply cL;rfl;rfl;(assumption);rfl)|(apply a8;rfl;rfl;rfl)|(apply aF;kernel_rfl)|(apply dJ;rfl;rfl;rfl)|(apply a7;rfl;rfl;rfl;rfl;rfl;(rw [aK]; simp only [fD] <;> omega);(exact rJ (by (simp only [fD] <;> omega))))|(apply cR;rfl;rfl;rfl;omega;omega;(exact AB);rfl;rfl))|(apply aO;first|apply aH|apply aB|(apply cF;rfl;(rfl))|apply aJ|apply aS)|with_reducible apply aA)
 refine bG (σ := List Nat × Bool) [0, 2, 3, 9] [(0, _), (2, _), (3, _), (9, _)] [] [] (fun s => [(11, bv s.2)]) (fun s => [(0, some (flat cN s.1))]) (fun s => SG pts (Iy ts pts) s.1 ∧ True ∧ (s.2 = false → kV mR (fun i A => iA ts pts[i]! A) pts s.1)) (fun s => 2 * fM (s.1.map (fun a => 2 ^ ts.length - a)) + s.2.toNat) (((List.replicate pts.length 0).set 0 0), true) ⟨by rw [w6 (by rw [dG _ _ (by simpa using hp0), List.getElem_replicate]) (by simpa using hp0)]; exact zQ fun i hi => ⟨Nat.pow_pos (by decide), fun v h => by simp at h⟩, trivial, fun h => by cases h⟩ rfl rfl (by repeat' (first|exact trivial|refine And.intro rfl ?_)) (by repeat' (first|exact trivial|refine And.intro (.inr rfl) ?_)) ?_
 rintro ⟨s, b⟩ ⟨hS, hE, hC⟩
 dsimp only at hS hE hC ⊢
 repeat' (first|(apply aM;first|(apply aD;rfl;rfl)|(apply aL;rfl;rfl;rfl;rfl)|(apply aE;rfl;rfl;rfl)|(apply aC;rfl;rfl)|(apply a8;rfl;rfl;rfl)|(apply aF;kernel_rfl)|(apply dJ;rfl;rfl;rfl))|(apply aO;first|apply aH|apply aB|(apply aP;rfl;all_goals intro hc;have hq:=hc;(try simp only [cD] at hq);try exfalso;omega)|apply aJ|apply aS|apply bF|apply aW)|with_reducible apply aA|with_reducible apply bE|with_reducible apply bD)
 ·refine bG (σ := Nat × (List Nat × Bool)) [0, 2, 3, 9, 43, 44] [(0, _), (2, _), (3, _), (9, _), (43, _), (44, _)] [] [] (fun k => [(45, iv (k.1 : Int)), (11, bv k.2.2)]) (fun k => [(0, some (flat cN k.2.1))]) (fun k => k.1 ≤ pts.length ∧ k.2 = (List.range k.1).foldl (v8 mR (fun i A => iA ts pts[i]! A) pts) (s, false) ∧ SG pts (Iy ts pts) k.2.1 ∧ True) (fun k => pts.length - k.1) (0, (s, false)) ⟨by omega, rfl, hS, hE⟩ rfl rfl (by repeat' (first | exact trivial | refine And.intro rfl ?_)) (by repeat' (first | exact trivial | refine And.intro (.inr rfl) ?_)) ?_
  rintro ⟨k, u, c⟩ ⟨hk, hf, hS2, hE2⟩
  dsimp only at hk hf hS2 hE2 ⊢
  have hsm : ∀ z, Sm u[z]! := sI hS2 (fun i A h => h.1) htl
  have hul := hS2.1
  repeat' (first|(apply aM;first|(apply aD;rfl;rfl)|(first|(apply dE;(case hx|hH => rfl);(case hf|hg|hα => infer_instance);(case hk => omega);(case hc|hN => rfl))|(apply aL;rfl;rfl;rfl;rfl)|(apply a6;rfl;rfl;(exact (rfl:_=[_, _, _, _, _]));rfl;rfl;rfl))|(apply aE;rfl;rfl;rfl)|(apply aV;rfl;rfl;rfl;rfl)|(apply aC;rfl;rfl)|(first|(apply bB;(case hx|hi => rfl);(case hm => (omega));(case hml => (rfl));(case hα | hf|hg => infer_instance);(case hN => rfl))|(apply cL;rfl;rfl;(omega);rfl))|(apply a8;rfl;rfl;rfl)|((with_reducible apply lL);(case hx|hcl => rfl);(case hc => infer_instance);(case ha => rfl);(case h => (apply wV <;> (first|assumption|omega|infer_instance)));(case hp => (exact Pur.pf));(case hN => rfl))|(apply aF;kernel_rfl)|(apply bT;rfl;rfl)|(apply a7;rfl;rfl;rfl;rfl;rfl;(case hl => (simp;done));(exact (rfl:_=[_, _, _, _, _]))))|(apply aO;first|apply aH|apply aB|(apply aP;rfl;all_goals intro hc;have hq:=hc;(try simp only [cD] at hq);try exfalso;omega)|apply aJ|apply aS|apply bF)|with_reducible apply aA|with_reducible apply bE|with_reducible apply aT|with_reducible apply bD)
  ·have hkn : k < pts.length := by omega
   have hv := pU w hkn (hS2.2 k hkn).1
   have hvs : Sm (iA ts pts[k]! u[k]!) := ⟨Nat.lt_of_lt_of_le hv (Nat.pow_le_pow_right (by decide) (by omega))⟩
   have hvs' : Sm (iA ts pts[(k : Int).toNat]! u[k]!) := hvs
   have hnl := w.nl k hkn
   refine bG (σ := Nat × (List Nat × Bool)) [0, 2, 3, 9, 14, 43, 44, 45, 58, 59] [(0, _), (2, _), (3, _), (9, _), (14, _), (43, _), (44, _), (45, _), (58, _), (59, _)] [] [] (fun j => [(60, iv (j.1 : Int)), (11, bv j.2.2)]) (fun j => [(0, some (flat cN j.2.1))]) (fun j => j.1 ≤ pts[k]!.next.length ∧ j.2 = ((s9 pts k).take j.1).foldl (kQ mR (iA ts pts[k]! u[k]!)) (u, c) ∧ SG pts (Iy ts pts) j.2.1 ∧ True) (fun j => pts[k]!.next.length - j.1) (0, (u, c)) ⟨by omega, rfl, hS2, hE2⟩ rfl rfl (by repeat' (first|exact trivial|refine And.intro rfl ?_)) (by repeat' (first|exact trivial|refine And.intro (.inr rfl) ?_)) ?_
   rintro ⟨j, u2, c2⟩ ⟨hj, hf2, hS3, hE3⟩
   dsimp only at hj hf2 hS3 hE3 ⊢
   have hsm2 : ∀ z, Sm u2[z]! := sI hS3 (fun i A h => h.1) htl
   have hul2 := hS3.1
   have hz : j < pts[k]!.next.length → 0 ≤ pts[k]!.next[j]! ∧ pts[k]!.next[j]! < pts.length := fun h => w.nx k hkn _ (dD _ _ h)
   repeat' (first|(apply aM;first|(apply aD;rfl;rfl)|(first|(apply dE;(case hx|hH => rfl);(case hf|hg|hα => infer_instance);(case hk => omega);(case hc|hN => rfl))|(apply aL;rfl;rfl;rfl;rfl))|(first|(apply fU;rfl;rfl;infer_instance;infer_instance;infer_instance;rfl)|(apply bO;rfl;rfl;omega;rfl)|(apply aV;rfl;rfl;rfl;rfl))|(apply aC;rfl;rfl)|(first|(apply bB;(case hx|hi => rfl);(case hm => (omega));(case hml => (rfl));(case hα | hf|hg => infer_instance);(case hN => rfl))|(apply dO;rfl;rfl;(omega);rfl))|(apply aF;kernel_rfl)|(apply a7;rfl;rfl;rfl;rfl;rfl;(rw [aK]; simp only [fD] <;> omega);(exact rJ (by (omega)))))|(apply aO;first|apply aH|apply aB|(apply cF;rfl;(rfl))|(apply aP;rfl;all_goals intro hc;have hq:=hc;(try simp only [cD] at hq);try exfalso;omega)|apply aJ|apply aS|apply bF)|with_reducible apply aA|with_reducible apply bE|with_reducible apply aT|with_reducible apply bD)
   ·have hzz := hz (by omega)
    have hed : eM pts k (pts[k]!.next[j]!).toNat := ⟨hkn, by rw [Int.toNat_of_nonneg hzz.1]; exact dD _ _ (by omega)⟩
    have hne : mR u2[(pts[k]!.next[j]!).toNat]! (iA ts pts[k]! u[k]!) ≠ u2[(pts[k]!.next[j]!).toNat]! := fun h => hq (congrArg Int.ofNat h)
    (apply c6 (j + 1, (_, true));focus (refine Le.ren [(0, 0)] rfl (by decide) ?_ ?_ <;> repeat' (first|exact trivial|refine And.intro ⟨_, rfl, ?_⟩ ?_|refine And.intro ⟨_, _, rfl, rfl, ?_⟩ ?_|exact Or.inr rfl|refine Or.inl ⟨?_, (by first|rfl|exact aX _ _|exact Pur.pf|exact PurV.pf)⟩|rfl)))
    ·dsimp only
     refine ⟨by omega, ?_, vU fl w (hS2.2 k hkn) hed hS3, trivial⟩
     rw [iT (by omega), ← hf2, v7 hne]; rfl
    ·dsimp only;omega
   ·have hzz := hz (by omega)
    have hne : mR u2[(pts[k]!.next[j]!).toNat]! (iA ts pts[k]! u[k]!) = u2[(pts[k]!.next[j]!).toNat]! := Int.ofNat.inj hq
    (apply c6 (j + 1, (u2, c2));focus (refine Le.ren [(0, 0)] rfl (by decide) ?_ ?_ <;> repeat' (first|exact trivial|refine And.intro ⟨_, rfl, ?_⟩ ?_|refine And.intro ⟨_, _, rfl, rfl, ?_⟩ ?_|exact Or.inr rfl|refine Or.inl ⟨?_, (by first|rfl|exact aX _ _|exact Pur.pf|exact PurV.pf)⟩|rfl)))
    ·dsimp only
     refine ⟨by omega, ?_, hS3, hE3⟩
     rw [iT (by omega), ← hf2, vJ hne]
    ·dsimp only;omega
   ·(apply c6 (k + 1, (u2, c2)); focus (refine Le.ren [(0, 0)] rfl (by decide) ?_ ?_ <;> repeat' (first | exact trivial | refine And.intro ⟨_, rfl, ?_⟩ ?_ | refine And.intro ⟨_, _, rfl, rfl, ?_⟩ ?_ | exact Or.inr rfl | refine Or.inl ⟨?_, (by first | rfl | exact aX _ _ | exact Pur.pf | exact PurV.pf)⟩ | rfl)))
    ·dsimp only
     refine ⟨by omega, ?_, hS3, hE3⟩
     rw [eS, ← hf, hf2, List.take_of_length_le (by rw [k5]; omega)]; rfl
    ·dsimp only;omega
  ·have law := qW w fl s false hS
   have hfull : (u, c) = u9 mR (fun i A => iA ts pts[i]! A) pts (s, false) := by
    rw [hf, show k = pts.length by omega]; rfl
   rw [show u9 (fun a s => mR a s) (fun i A => iA ts pts[i]! A) pts (s, false) = (u, c) from hfull.symm] at law
   (apply c6 (u, c);focus (refine Le.ren [(0, 0)] rfl (by decide) ?_ ?_ <;> repeat' (first|exact trivial|refine And.intro ⟨_, rfl, ?_⟩ ?_|refine And.intro ⟨_, _, rfl, rfl, ?_⟩ ?_|exact Or.inr rfl|refine Or.inl ⟨?_, (by first|rfl|exact aX _ _|exact Pur.pf|exact PurV.pf)⟩|rfl)))
   ·dsimp only
    refine ⟨hS2, hE2, fun h => ?_⟩
    rcases law.2 with ⟨e1, e2⟩ | ⟨e1, _⟩
    ·cases e1;exact e2
    ·dsimp only at e1;rw [h] at e1;cases e1
   ·dsimp only
    have hb : b = true := by assumption
    subst hb
    rcases law.2 with ⟨e1, e2⟩ | ⟨e1, e2⟩
    ·cases e1;simp
    ·dsimp only at e1 e2;subst e1;omega
 ·have hb : b = false := by assumption
  refine cA (Le.frzD (d := 8) (i := 0) rfl rfl) ?_
  refine aU rfl ⟨?_, (by (exact aX _ _))⟩
  simp only [bQ]
  rw [Ca hA (Eu w hS (hC hb))]
end Go.Proofs.YtjcpngimjdckmaaGreat
