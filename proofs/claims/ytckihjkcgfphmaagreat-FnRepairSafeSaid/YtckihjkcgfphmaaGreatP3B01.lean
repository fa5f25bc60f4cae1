/-
 A part of the proofs over this program: rules and contracts of its functions (the contracts).
-/
import Derived.Test.YtckihjkcgfphmaaGreatP3A07
import Derived.Test.YtckihjkcgfphmaaGreatRows
set_option linter.unusedVariables false
set_option linter.unusedSimpArgs false
set_option maxHeartbeats 8000000
set_option maxRecDepth 4000
attribute [local irreducible] Go.AL.RW Go.AL.AW Go.AL.Stop
namespace Go.Proofs.YtckihjkcgfphmaaGreat
open Go.AL
theorem eL (a b c : Int) : PC Tryz.prog 84 [iv a, iv b, iv c] (fun r => r = bv (decide (b ≤ a) && decide (a ≤ c))) := by
 (refine aS Tryz.func84 rfl (by simp [Tryz.ntmps84]) ?_; rw [Tryz.ntmps84])
 repeat' (first|(apply aL;first|(apply aE;rfl;rfl)|(first|(apply a8;rfl;rfl;rfl;(assumption))|(apply bC;rfl;rfl;rfl;(assumption))|(apply bR;(case hj|hb|hN => rfl);all_goals (intro hg;have hq := hg;(try simp only [cJ] at hq);(try (exfalso;omega)))))|(apply aU;rfl;rfl;rfl;rfl)|(apply aC;rfl;rfl)|(first|(apply bY;rfl;(assumption);rfl;rfl)|(apply bQ;rfl;(assumption);rfl;rfl))|(apply aF;kernel_rfl))|(apply aM;first|apply aH|apply aB|apply aR)|with_reducible apply aA|((with_reducible apply aO);case hr => rfl))
 all_goals (refine ⟨?_, rfl⟩; simp only [b0, AV.v.injEq, Value.bool.injEq, Value.int.injEq, true_and])
 all_goals grind
theorem AK (t : Int) : PC Tryz.prog 208 [iv t] (fun r => r = bv (nJ t)) := by
 (refine aS Tryz.func208 rfl (by simp [Tryz.ntmps208]) ?_; rw [Tryz.ntmps208])
 repeat' (first|(apply aL;first|(apply aE;rfl;rfl)|(first|(apply a8;rfl;rfl;rfl;(assumption))|(apply bC;rfl;rfl;rfl;(assumption))|(apply bR;(case hj|hb|hN => rfl);all_goals (intro hg;have hq := hg;(try simp only [cJ] at hq);(try (exfalso;omega)))))|(apply aU;rfl;rfl;rfl;rfl)|(apply aC;rfl;rfl)|(first|(apply bY;rfl;(assumption);rfl;rfl)|(apply bQ;rfl;(assumption);rfl;rfl))|(apply aF;kernel_rfl))|(apply aM;first|apply aH|apply aB|apply aR)|with_reducible apply aA|((with_reducible apply aO);case hr => rfl))
 all_goals (refine ⟨?_, rfl⟩; simp only [b0, AV.v.injEq, Value.bool.injEq, Value.int.injEq, true_and])
 all_goals grind [nJ]
theorem Cm (t : Int) : PC Tryz.prog 204 [iv t] (fun r => r = bv (decide (t = 2) || nJ t)) := by
 (refine aS Tryz.func204 rfl (by simp [Tryz.ntmps204]) ?_; rw [Tryz.ntmps204])
 repeat' (first|(apply aL;first|(apply aE;rfl;rfl)|(first|(apply a8;rfl;rfl;rfl;(assumption))|(apply bC;rfl;rfl;rfl;(assumption))|(apply bR;(case hj|hb|hN => rfl);all_goals (intro hg;have hq := hg;(try simp only [cJ] at hq);(try (exfalso;omega)))))|(apply aU;rfl;rfl;rfl;rfl)|(apply aC;rfl;rfl)|(first|(apply bY;rfl;(assumption);rfl;rfl)|(apply bQ;rfl;(assumption);rfl;rfl))|((with_reducible apply aJ (k := 208));(case ha => rfl);(case h => (apply AK <;> (fail)));(case hp => (rfl));(case hN => rfl))|(apply aF;kernel_rfl))|(apply aM;first|apply aH|apply aB|apply aR)|with_reducible apply aA|((with_reducible apply aO);case hr => rfl))
 all_goals (refine ⟨?_, rfl⟩; simp only [b0, AV.v.injEq, Value.bool.injEq, Value.int.injEq, true_and])
 all_goals grind
theorem Cn (t : Int) : PC Tryz.prog 162 [iv t] (fun r => r = bv (decide (t = 9) || decide (t = 10))) := by
 (refine aS Tryz.func162 rfl (by simp [Tryz.ntmps162]) ?_; rw [Tryz.ntmps162])
 repeat' (first|(apply aL;first|(apply aE;rfl;rfl)|(first|(apply a8;rfl;rfl;rfl;(assumption))|(apply bC;rfl;rfl;rfl;(assumption))|(apply bR;(case hj|hb|hN => rfl);all_goals (intro hg;have hq := hg;(try simp only [cJ] at hq);(try (exfalso;omega)))))|(apply aU;rfl;rfl;rfl;rfl)|(apply aC;rfl;rfl)|(first|(apply bY;rfl;(assumption);rfl;rfl)|(apply bQ;rfl;(assumption);rfl;rfl))|(apply aF;kernel_rfl))|(apply aM;first|apply aH|apply aB|apply aR)|with_reducible apply aA|((with_reducible apply aO);case hr => rfl))
 all_goals (refine ⟨?_, rfl⟩; simp only [b0, AV.v.injEq, Value.bool.injEq, Value.int.injEq, true_and])
 all_goals grind
theorem Ho (ts : List Int) (v : Int) : PC Tryz.prog 250 [sl cI ts, iv v] (fun r => r = iv (gI ts v)) := by
 (refine aS Tryz.func250 rfl (by simp [Tryz.ntmps250]) ?_; rw [Tryz.ntmps250])
 repeat' (first|(apply aL;first|(apply aE;rfl;rfl)|(apply aN;rfl;rfl;rfl;rfl)|(first|(apply a8;rfl;rfl;rfl;(assumption))|(apply bC;rfl;rfl;rfl;(assumption))|(apply bR;(case hj|hb|hN => rfl);all_goals (intro hg;have hq := hg;(try simp only [cJ] at hq);(try (exfalso;omega)))))|(apply aU;rfl;rfl;rfl;rfl)|(apply aC;rfl;rfl)|(first|(apply bY;rfl;(assumption);rfl;rfl)|(apply bQ;rfl;(assumption);rfl;rfl))|(apply cL;(case hx|hi => rfl);(case hm => (omega));(case hml => (rfl));(case hα | hf|hg => infer_instance);(case hN => rfl))|(apply bI;rfl;rfl;rfl)|(apply aF;kernel_rfl))|(apply aM;first|apply aH|apply aB|(apply cB;rfl;(rfl))|(apply aQ;rfl;all_goals intro hc;have hq:=hc;(try simp only [cJ] at hq);try exfalso;omega)|apply aT|apply aR)|with_reducible apply aA|with_reducible apply bG|((with_reducible apply aO);case hr => rfl))
 all_goals (refine ⟨?_, rfl⟩; simp only [b0, AV.v.injEq, Value.bool.injEq, Value.int.injEq, true_and])
 all_goals grind [gI]
theorem Hn (ts : List Int) (v : Int) (hl : ts.length ≤ 1000000) : PC Tryz.prog 203 [sl cI ts, iv v] (fun r => r = iv (gI ts v)) := by
 (refine aS Tryz.func203 rfl (by simp [Tryz.ntmps203]) ?_; rw [Tryz.ntmps203])
 repeat' (first|(apply aL;first|(apply aE;rfl;rfl)|(apply aN;rfl;rfl;rfl;rfl)|(apply iB;rfl;rfl;omega;rfl)|(apply aC;rfl;rfl)|(apply cL;(case hx|hi => rfl);(case hm => (omega));(case hml => (rfl));(case hα | hf|hg => infer_instance);(case hN => rfl))|((with_reducible apply aJ (k := 84));(case ha => rfl);(case h => (apply eL <;> (fail)));(case hp => (rfl));(case hN => rfl))|(apply bI;rfl;rfl;rfl)|(apply aF;kernel_rfl)|(apply cF;rfl;rfl))|(apply aM;first|apply aH|apply aB|(apply aQ;rfl;all_goals intro hc;have hq:=hc;(try simp only [cJ] at hq);try exfalso;omega)|apply aT|apply aR)|with_reducible apply aA|with_reducible apply bG|((with_reducible apply aO);case hr => rfl))
 all_goals (refine ⟨?_, rfl⟩; simp only [b0, AV.v.injEq, Value.bool.injEq, Value.int.injEq, true_and])
 all_goals grind [gI]
theorem BS (ts : List Int) (s : AL.Stmt) (hl : dE ts = true) : PC Tryz.prog 163 [sl cI ts, fV s] (fun r => r = bv (s.th.isEmpty && s.el.isEmpty && eX ts s)) := by
 have hl2 := gX hl
 have hx := jU hl s.x
 have hy := jU hl s.y
 (refine aS Tryz.func163 rfl (by simp [Tryz.ntmps163]) ?_; rw [Tryz.ntmps163])
 repeat' (first|(apply aL;first|(apply aE;rfl;rfl)|(apply aN;rfl;rfl;rfl;rfl)|(apply aD;rfl;rfl;rfl)|(first|(apply mT;rfl;rfl;rfl)|(apply a8;rfl;rfl;rfl;(first|rfl|assumption))|(apply bC;rfl;rfl;rfl;(first|rfl|assumption))|(apply bR;(case hj|hb|hN => rfl);all_goals (intro hg;have hq := hg;(try simp only [cJ] at hq);(try (exfalso;omega)))))|(apply aU;rfl;rfl;rfl;rfl)|(apply aC;rfl;rfl)|(first|(apply bY;rfl;(first|rfl|assumption);rfl;rfl)|(apply bQ;rfl;(first|rfl|assumption);rfl;rfl))|(first|((with_reducible apply aJ (k := 84));(case ha => rfl);(case h => (apply eL <;> (fail)));(case hp => (rfl));(case hN => rfl))|((with_reducible apply aJ (k := 203));(case ha => rfl);(case h => (apply Hn <;> (omega)));(case hp => (exact Pur.pf));(case hN => rfl))|((with_reducible apply aJ (k := 204));(case ha => rfl);(case h => (apply Cm <;> (fail)));(case hp => (rfl));(case hN => rfl)))|(apply bI;rfl;rfl;rfl)|(apply aF;kernel_rfl)|(apply cF;rfl;rfl)|(apply bH;rfl;rfl;rfl;rfl))|(apply aM;first|apply aH|apply aB|(apply bV;kernel_rfl)|(apply cB;rfl;(first|rfl|assumption))|(apply cG;rfl;(assumption))|(apply aQ;rfl;all_goals intro hc;have hq:=hc;(try simp only [cJ] at hq);try exfalso;omega)|apply aK|apply aT|apply aR)|with_reducible apply aA|with_reducible apply bG|with_reducible apply aX|with_reducible apply cP|((with_reducible apply aO);case hr => rfl))
 all_goals (refine ⟨?_, rfl⟩; simp only [b0, AV.v.injEq, Value.bool.injEq, Value.int.injEq, true_and])
 all_goals (cases hth : s.th <;> cases hel : s.el <;> simp only [hth, hel, List.length_nil, List.length_cons, List.isEmpty_nil, List.isEmpty_cons, Bool.true_and, Bool.false_and] at *)
 all_goals (try unfold eX)
 all_goals (try simp only [nJ, Bool.or_eq_true, Bool.or_eq_false_iff, decide_eq_true_eq, decide_eq_false_iff_not] at *)
 all_goals grind
theorem BM (ts : List Int) (s : AL.Stmt) (hl : dE ts = true) : PC Tryz.prog 234 [sl cI ts, fV s] (fun r => r = bv (eX ts s)) := by
 have hl2 := gX hl
 have hx := jU hl s.x
 have hy := jU hl s.y
 (refine aS Tryz.func234 rfl (by simp [Tryz.ntmps234]) ?_; rw [Tryz.ntmps234])
 repeat' (first|(apply aL;first|(apply aE;rfl;rfl)|(apply aN;rfl;rfl;rfl;rfl)|(apply aD;rfl;rfl;rfl)|(first|(apply mT;rfl;rfl;rfl)|(apply a8;rfl;rfl;rfl;(first|rfl|assumption))|(apply bC;rfl;rfl;rfl;(first|rfl|assumption))|(apply bR;(case hj|hb|hN => rfl);all_goals (intro hg;have hq := hg;(try simp only [cJ] at hq);(try (exfalso;omega)))))|(apply aU;rfl;rfl;rfl;rfl)|(apply aC;rfl;rfl)|(first|(apply bY;rfl;(first|rfl|assumption);rfl;rfl)|(apply bQ;rfl;(first|rfl|assumption);rfl;rfl))|((with_reducible apply aJ (k := 250));(case ha => rfl);(case h => (apply Ho <;> (fail)));(case hp => (exact Pur.pf));(case hN => rfl))|(apply aF;kernel_rfl)|(apply bH;rfl;rfl;rfl;rfl))|(apply aM;first|apply aH|apply aB|(apply cG;rfl;(rfl))|(apply aQ;rfl;all_goals intro hc;have hq:=hc;(try simp only [cJ] at hq);try exfalso;omega)|apply aK|apply aT|apply aR)|with_reducible apply aA|with_reducible apply bG|with_reducible apply aX|with_reducible apply cP|((with_reducible apply aO);case hr => rfl))
 all_goals (refine ⟨?_, rfl⟩; simp only [b0, AV.v.injEq, Value.bool.injEq, Value.int.injEq, true_and])
 all_goals (try unfold eX)
 all_goals grind
theorem DK (ts : List Int) (hl : dE ts = true) (m : Nat) (ih : ∀ l (d : Int), bX l < m → 0 ≤ d → d ≤ 1000 → PC Tryz.prog 139 [sl cI ts, sl aZ l, iv d] (fun r => r = bv (okL ts d.toNat l))) (s : AL.Stmt) (d : Int) (hs : dR s ≤ m) (hd0 : 0 ≤ d) (hd : d ≤ 1000) :
  PC Tryz.prog 189 [sl cI ts, fV s, iv d] (fun r => r = bv (sK ts d.toNat s)) := by
 rw [HV ts d hd0]
 (refine aS Tryz.func189 rfl (by simp [Tryz.ntmps189]) ?_; rw [Tryz.ntmps189])
 repeat' (first|(apply aL;first|(apply aE;rfl;rfl)|(first|(apply aN;rfl;rfl;rfl;rfl)|(apply aV;rfl;rfl;(exact (rfl:_=[_, _, _, _, _, _]));rfl;rfl;rfl))|(apply aD;rfl;rfl;rfl)|(first|(apply mT;rfl;rfl;rfl)|(apply a8;rfl;rfl;rfl;(assumption))|(apply bC;rfl;rfl;rfl;(first|rfl|assumption))|(apply bR;(case hj|hb|hN => rfl);all_goals (intro hg;have hq := hg;(try simp only [cJ] at hq);(try (exfalso;omega)))))|(first|(apply iB;rfl;rfl;omega;rfl)|(apply aU;rfl;rfl;rfl;rfl))|(apply aC;rfl;rfl)|(first|(apply bY;rfl;(first|rfl|assumption);rfl;rfl)|(apply bQ;rfl;(first|rfl|assumption);rfl;rfl))|(first|((with_reducible apply aJ (k := 139));(case ha => rfl);(case h => (apply ih <;> (first|omega|(have := jX s;omega))));(case hp => (exact Pur.pf));(case hN => rfl))|((with_reducible apply aJ (k := 234));(case ha => rfl);(case h => (apply BM <;> (assumption)));(case hp => (exact Pur.pf));(case hN => rfl)))|(apply bI;rfl;rfl;rfl)|(apply aF;kernel_rfl)|(apply bH;rfl;rfl;rfl;rfl))|(apply aM;first|apply aH|apply aB|(apply cB;rfl;(rfl))|(apply cG;rfl;(rfl))|(apply aQ;rfl;all_goals intro hc;have hq:=hc;(try simp only [cJ] at hq);try exfalso;omega)|apply aT|apply aR)|with_reducible apply aA|with_reducible apply bG|((with_reducible apply aO);case hr => rfl))
 all_goals (refine ⟨?_, rfl⟩; simp only [b0, AV.v.injEq, Value.bool.injEq, Value.int.injEq, true_and])
 all_goals (cases hth : s.th <;> cases hel : s.el <;> simp only [hth, hel, List.length_nil, List.length_cons, List.isEmpty_nil, List.isEmpty_cons, Bool.true_and, Bool.false_and] at *)
 all_goals grind
theorem Ev (ts : List Int) (hl : dE ts = true) (m : Nat) (ih : ∀ s (d : Int), dR s ≤ m → 0 ≤ d → d ≤ 1000 → PC Tryz.prog 189 [sl cI ts, fV s, iv d] (fun r => r = bv (sK ts d.toNat s))) (l : List AL.Stmt) (d : Int) (hs : bX l ≤ m) (hm : m ≤ 100000000) (hd0 : 0 ≤ d) (hd : d ≤ 1000) :
  PC Tryz.prog 139 [sl cI ts, sl aZ l, iv d] (fun r => r = bv (okL ts d.toNat l)) := by
 have hlen := dM l
 (refine aS Tryz.func139 rfl (by simp [Tryz.ntmps139]) ?_; rw [Tryz.ntmps139])
 repeat' (first|(apply aL;first|(apply aC;rfl;rfl)|(apply aF;kernel_rfl))|(apply aM;first|apply aH|apply aB|apply aK)|with_reducible apply aA)
 refine bB (σ := Nat) [0, 1, 2] [(0, _), (1, _), (2, _)] [] [] (fun k => [(7, iv (k : Int))]) (fun k => []) (fun k => k ≤ l.length ∧ ∀ i, i < k → sK ts d.toNat l[i]! = true) (fun k => l.length - k) (0) ⟨by omega, by omega⟩ rfl rfl (by repeat' (first|exact trivial|refine And.intro rfl ?_)) (by repeat' (exact trivial)) ?_
 intro k ⟨hk, hall⟩
 have hck := gF l k
 repeat' (first|(apply aL;first|((with_reducible apply aJ (k := 189));(case ha => rfl);(case h => (apply ih _ d (Nat.le_trans (hck (by omega)) hs) hd0 hd));(case hp => (exact Pur.pf));(case hN => rfl))|(apply aE;rfl;rfl)|(apply aV;rfl;rfl;(exact (rfl:_=[_, _, _, _, _, _]));rfl;rfl;rfl)|(first|(apply bS;rfl;rfl;omega;rfl)|(apply aU;rfl;rfl;rfl;rfl))|(apply aC;rfl;rfl)|(apply a7;(case hx|hi => rfl);(case hm => (omega));(case hml => (rfl));(case hα | hf|hg => infer_instance);(case hN => rfl))|(apply bI;rfl;rfl;rfl)|(apply aF;kernel_rfl)|(apply cF;rfl;rfl))|(apply aM;first|apply aH|apply aB|(apply aQ;rfl;all_goals intro hc;have hq:=hc;(try simp only [cJ] at hq);try exfalso;omega)|apply aK|apply aT|apply bK|apply aR)|with_reducible apply aA|with_reducible apply bG|with_reducible apply bJ|with_reducible apply aX|with_reducible apply cP|with_reducible apply bO|((with_reducible apply aO);case hr => rfl))
 ·(refine ⟨?_, rfl⟩; simp only [b0, AV.v.injEq, Value.bool.injEq, Value.int.injEq, true_and])
  rw [GA (k := k) (by omega) hq]
 ·(apply dK (k + 1); focus (refine Le.ren [] rfl (by decide) ?_ ?_ <;> repeat' (first | exact trivial | refine And.intro ⟨_, rfl, ?_⟩ ?_ | refine Or.inl ⟨?_, (by first | rfl | exact aY _ _)⟩ | rfl)))
  ·grind
  ·omega
 ·(refine ⟨?_, rfl⟩; simp only [b0, AV.v.injEq, Value.bool.injEq, Value.int.injEq, true_and])
  rw [Il (fun i hi => hall i (by omega))]
theorem Ij (ts : List Int) (hl : dE ts = true) : ∀ (m : Nat), m ≤ 100000000 → (∀ s (d : Int), dR s ≤ m → 0 ≤ d → d ≤ 1000 → PC Tryz.prog 189 [sl cI ts, fV s, iv d] (fun r => r = bv (sK ts d.toNat s))) ∧
  (∀ l (d : Int), bX l ≤ m → 0 ≤ d → d ≤ 1000 → PC Tryz.prog 139 [sl cI ts, sl aZ l, iv d] (fun r => r = bv (okL ts d.toNat l))) := by
 intro m
 induction m using Nat.strongRecOn with
 | ind m ih =>
  intro hm
  have h1 : ∀ s (d : Int), dR s ≤ m → 0 ≤ d → d ≤ 1000 → PC Tryz.prog 189 [sl cI ts, fV s, iv d] (fun r => r = bv (sK ts d.toNat s)) :=
   fun s d h1 h2 h3 => DK ts hl m (fun l d' g1 g2 g3 => (ih (bX l) g1 (by omega)).2 l d' (Nat.le_refl _) g2 g3) s d h1 h2 h3
  exact ⟨h1, fun l d g1 g2 g3 => Ev ts hl m h1 l d g1 hm g2 g3⟩
theorem Bl (m0 : Nat) (ih : ∀ l (most : Int), bX l < m0 → -1 ≤ most → most ≤ 1000 → PC Tryz.prog 140 [sl aZ l, iv most] (fun r => r = iv (nG most 0 l))) (l : List AL.Stmt) (most : Int) (hs : bX l ≤ m0) (hm : m0 ≤ 100000000) (hd0 : -1 ≤ most) (hd : most ≤ 1000) :
  PC Tryz.prog 140 [sl aZ l, iv most] (fun r => r = iv (nG most 0 l)) := by
 have hlen := dM l
 have hall := mD l most 0
 (refine aS Tryz.func140 rfl (by simp [Tryz.ntmps140]) ?_; rw [Tryz.ntmps140])
 repeat' (first|(apply aL;first|(apply aC;rfl;rfl)|(apply aF;kernel_rfl))|(apply aM;first|apply aH|apply aB|apply aK)|with_reducible apply aA)
 refine bB (σ := Nat × Int) [0, 1] [(0, _), (1, _)] [] [] (fun k => [(6, iv (k.1 : Int)), (5, iv k.2)]) (fun k => []) (fun k => k.1 ≤ l.length ∧ nG most k.2 (l.drop k.1) = nG most 0 l ∧ 0 ≤ k.2 ∧ k.2 ≤ bX l) (fun k => l.length - k.1) (0, 0) ⟨by omega, rfl, by omega, by omega⟩ rfl rfl (by repeat' (first|exact trivial|refine And.intro rfl ?_)) (by repeat' (exact trivial)) ?_
 rintro ⟨k, n⟩ ⟨hk, hn, hn0, hn1⟩
 dsimp only at hk hn hn0 hn1 ⊢
 have hck := gF l k
 have hct := jX l[k]!
 have b1 := mD l[k]!.th (most - n) 0
 have b2 := fun z => mD l[k]!.el z 0
 have b3 := Ht l[k]! most n
 have b4 := mD (l.drop (k + 1)) most (F7 most n l[k]!)
 have b5 := Gb most n l k
 rw [Jf] at b3 b4 b5
 repeat' (first|(apply aL;first|((with_reducible apply aJ (k := 140));(case ha => rfl);(case h => (apply ih <;> omega));(case hp => (exact Pur.pf));(case hN => rfl))|(apply aE;rfl;rfl)|(apply aN;rfl;rfl;rfl;rfl)|(apply aD;rfl;rfl;rfl)|(first|(apply a8;rfl;rfl;rfl;(assumption))|(apply bC;rfl;rfl;rfl;(assumption))|(apply bR;(case hj|hb|hN => rfl);all_goals (intro hg;have hq := hg;(try simp only [cJ] at hq);(try (exfalso;omega)))))|(first|(apply bS;rfl;rfl;omega;rfl)|(apply iB;rfl;rfl;omega;rfl)|(apply aU;rfl;rfl;rfl;rfl))|(apply aC;rfl;rfl)|(first|(apply bY;rfl;(assumption);rfl;rfl)|(apply bQ;rfl;(assumption);rfl;rfl))|(apply a7;(case hx|hi => rfl);(case hm => (omega));(case hml => (rfl));(case hα | hf|hg => infer_instance);(case hN => rfl))|(apply bI;rfl;rfl;rfl)|(apply aF;kernel_rfl))|(apply aM;first|apply aH|apply aB|(apply cG;rfl;(rfl))|(apply aQ;rfl;all_goals intro hc;have hq:=hc;(try simp only [cJ] at hq);try exfalso;omega)|apply aK|apply aT|apply bK|apply aR)|with_reducible apply aA|with_reducible apply bJ|with_reducible apply aX|with_reducible apply bO|((with_reducible apply aO);case hr => rfl))
 ·(apply Exists.intro (k + 1, n + 1 + nG (most - n) 0 l[k]!.th + nG (most - (n + 1 + nG (most - n) 0 l[k]!.th)) 0 l[k]!.el); refine And.intro ?_ (And.intro ?_ ?_); rotate_left 2; focus (refine Le.ren [] rfl (by decide) ?_ ?_ <;> repeat' (first | exact trivial | refine And.intro ⟨_, rfl, ?_⟩ ?_ | refine Or.inl ⟨?_, (by first | rfl | exact aY _ _)⟩ | rfl)))
  ·dsimp only;grind
  ·dsimp only;omega
 ·(apply dK (k + 1, n + 1 + nG (most - n) 0 l[k]!.th); focus (refine Le.ren [] rfl (by decide) ?_ ?_ <;> repeat' (first | exact trivial | refine And.intro ⟨_, rfl, ?_⟩ ?_ | refine Or.inl ⟨?_, (by first | rfl | exact aY _ _)⟩ | rfl)))
  ·dsimp only;grind
  ·dsimp only;omega
 ·(refine ⟨?_, rfl⟩; simp only [b0, AV.v.injEq, Value.bool.injEq, Value.int.injEq, true_and])
  rw [← hn, GV _ _ _ (by omega)]
 ·(refine ⟨?_, rfl⟩; simp only [b0, AV.v.injEq, Value.bool.injEq, Value.int.injEq, true_and])
  rw [← hn, HF _ _ _ _ (by omega)]
theorem D7 (l : List AL.Stmt) (most : Int) (hs : bX l ≤ 100000000) (hd0 : -1 ≤ most) (hd : most ≤ 1000) :
  PC Tryz.prog 140 [sl aZ l, iv most] (fun r => r = iv (nG most 0 l)) := by
 have h : ∀ (m : Nat), m ≤ 100000000 → ∀ l (most : Int), bX l ≤ m → -1 ≤ most → most ≤ 1000 → PC Tryz.prog 140 [sl aZ l, iv most] (fun r => r = iv (nG most 0 l)) := by
  intro m
  induction m using Nat.strongRecOn with
  | ind m ih =>
   intro hm l most h1 h2 h3
   exact Bl m (fun l' most' g1 g2 g3 => ih _ g1 (by omega) l' most' (Nat.le_refl _) g2 g3) l most h1 hm h2 h3
 exact h _ hs l most (Nat.le_refl _) hd0 hd
theorem FH (ts : List Int) (l : List AL.Stmt) (d : Int) (hl : dE ts = true) (hs : bX l ≤ 100000000) (hd0 : 0 ≤ d) (hd : d ≤ 1000) : PC Tryz.prog 139 [sl cI ts, sl aZ l, iv d] (fun r => r = bv (okL ts d.toNat l)) :=
 (Ij ts hl _ hs).2 l d (Nat.le_refl _) hd0 hd
theorem xB (ts : List Int) (hl : ts.length ≤ 1000000) : PC Tryz.prog 138 [sl cI ts] (fun r => r = bv (dE ts)) := by
 (refine aS Tryz.func138 rfl (by simp [Tryz.ntmps138]) ?_; rw [Tryz.ntmps138])
 repeat' (first|(apply aL;first|(apply aC;rfl;rfl)|(apply aF;kernel_rfl))|(apply aM;first|apply aH|apply aB|apply aK)|with_reducible apply aA)
 refine bB (σ := Nat) [0] [(0, _)] [] [] (fun k => [(3, iv (k : Int))]) (fun k => []) (fun k => k ≤ ts.length ∧ ∀ i, i < k → 1 ≤ ts[i]! ∧ ts[i]! ≤ 4) (fun k => ts.length - k) (0) ⟨by omega, by omega⟩ rfl rfl (by repeat' (first|exact trivial|refine And.intro rfl ?_)) (by repeat' (exact trivial)) ?_
 intro k ⟨hk, hall⟩
 repeat' (first|(apply aL;first|(apply aE;rfl;rfl)|(apply aN;rfl;rfl;rfl;rfl)|(first|(apply a8;rfl;rfl;rfl;(assumption))|(apply bC;rfl;rfl;rfl;(assumption))|(apply bR;(case hj|hb|hN => rfl);all_goals (intro hg;have hq := hg;(try simp only [cJ] at hq);(try (exfalso;omega)))))|(first|(apply bS;rfl;rfl;omega;rfl)|(apply aU;rfl;rfl;rfl;rfl))|(apply aC;rfl;rfl)|(first|(apply bY;rfl;(assumption);rfl;rfl)|(apply bQ;rfl;(assumption);rfl;rfl))|(apply a7;(case hx|hi => rfl);(case hm => (omega));(case hml => (rfl));(case hα | hf|hg => infer_instance);(case hN => rfl))|(apply bI;rfl;rfl;rfl)|(apply aF;kernel_rfl))|(apply aM;first|apply aH|apply aB|(apply cB;rfl;(rfl))|(apply aQ;rfl;all_goals intro hc;have hq:=hc;(try simp only [cJ] at hq);try exfalso;omega)|apply aK|apply aT|apply bK|apply aR)|with_reducible apply aA|with_reducible apply bG|with_reducible apply bJ|with_reducible apply aX|with_reducible apply cP|with_reducible apply bO|((with_reducible apply aO);case hr => rfl))
 ·(refine ⟨?_, rfl⟩; simp only [b0, AV.v.injEq, Value.bool.injEq, Value.int.injEq, true_and])
  unfold dE;grind [m7, kJ]
 ·(apply dK (k + 1); focus (refine Le.ren [] rfl (by decide) ?_ ?_ <;> repeat' (first | exact trivial | refine And.intro ⟨_, rfl, ?_⟩ ?_ | refine Or.inl ⟨?_, (by first | rfl | exact aY _ _)⟩ | rfl)))
  ·grind
  ·omega
 ·(refine ⟨?_, rfl⟩; simp only [b0, AV.v.injEq, Value.bool.injEq, Value.int.injEq, true_and])
  unfold dE;grind [m7, kJ]
 ·(refine ⟨?_, rfl⟩; simp only [b0, AV.v.injEq, Value.bool.injEq, Value.int.injEq, true_and])
  unfold dE;grind [m7, kJ]
theorem pH (p : Prg) (hl : p.types.length ≤ 1000000) (hs : bX p.body ≤ 100000000) : PC Tryz.prog 87 [dF p] (fun r => r = bv (cS p)) := by
 unfold cS
 cases ht : dE p.types
 ·(refine aS Tryz.func87 rfl (by simp [Tryz.ntmps87]) ?_; rw [Tryz.ntmps87])
  repeat' (first|(apply aL;first|(apply aE;rfl;rfl)|(apply aN;rfl;rfl;rfl;rfl)|(apply aD;rfl;rfl;rfl)|(apply bC;rfl;rfl;rfl;(first|rfl|assumption))|(apply aC;rfl;rfl)|(apply bQ;rfl;(first|rfl|assumption);rfl;rfl)|((with_reducible apply aJ (k := 138));(case ha => rfl);(case h => (apply xB <;> (assumption)));(case hp => (exact Pur.pf));(case hN => rfl))|(apply aF;kernel_rfl)|(apply bH;rfl;rfl;rfl;rfl))|(apply aM;first|apply aH|apply aB|apply aR)|with_reducible apply aA|((with_reducible apply aO);case hr => rfl))
  (refine ⟨?_, rfl⟩; simp only [b0, AV.v.injEq, Value.bool.injEq, Value.int.injEq, true_and])
  rfl
 ·(refine aS Tryz.func87 rfl (by simp [Tryz.ntmps87]) ?_; rw [Tryz.ntmps87])
  repeat' (first|(apply aL;first|(apply aE;rfl;rfl)|(apply aN;rfl;rfl;rfl;rfl)|(apply aD;rfl;rfl;rfl)|(first|(apply a8;rfl;rfl;rfl;(assumption))|(apply bC;rfl;rfl;rfl;(assumption))|(apply bR;(case hj|hb|hN => rfl);all_goals (intro hg;have hq := hg;(try simp only [cJ] at hq);(try (exfalso;omega)))))|(apply aU;rfl;rfl;rfl;rfl)|(apply aC;rfl;rfl)|(first|(apply bY;rfl;(assumption);rfl;rfl)|(apply bQ;rfl;(assumption);rfl;rfl))|(first|((with_reducible apply aJ (k := 138));(case ha => rfl);(case h => (apply xB <;> (assumption)));(case hp => (exact Pur.pf));(case hN => rfl))|((with_reducible apply aJ (k := 139));(case ha => rfl);(case h => (apply FH <;> (first|assumption|omega)));(case hp => (exact Pur.pf));(case hN => rfl))|((with_reducible apply aJ (k := 140));(case ha => rfl);(case h => (apply D7 <;> (first|assumption|omega)));(case hp => (exact Pur.pf));(case hN => rfl)))|(apply aF;kernel_rfl)|(apply bH;rfl;rfl;rfl;rfl))|(apply aM;first|apply aH|apply aB|apply aR)|with_reducible apply aA|((with_reducible apply aO);case hr => rfl))
  ·(refine ⟨?_, rfl⟩; simp only [b0, AV.v.injEq, Value.bool.injEq, Value.int.injEq, true_and])
   rw [show okL p.types 4 p.body = true from hq]; simp only [Bool.true_and, Kv, decide_eq_decide]; omega
  ·(refine ⟨?_, rfl⟩; simp only [b0, AV.v.injEq, Value.bool.injEq, Value.int.injEq, true_and])
   rw [show okL p.types 4 p.body = false from hq]; rfl
end Go.Proofs.YtckihjkcgfphmaaGreat
namespace Go.Proofs.YtckihjkcgfphmaaGreat
open Go.AL Go.RowKit
theorem Ic {ts : List Int} {s : AL.Stmt} {nest c : Int} {N : Nat} {Q : Exit → AS → Prop} {all : Array Oper} {rest : List Oper} {tsl : List (Nat × AV)} {hsl : List (Nat × Option (List AV))} {nidl : Nat} {z0 : Lo} {md : Md} {d : Nat} {ty : TypeId} {pos : String} {af : Array Edge} {tys : Array TypeId} {x0 x1 x2 x3 : Operand} {i0 : Nat} (ha0 : ev (lk tsl) x0 = some (sl cI ts)) (ha1 : ev (lk tsl) x1 = some (fV s)) (ha2 : ev (lk tsl) x2 = some (iv nest)) (ha3 : ev (lk tsl) x3 = some (.optr i0 0)) (hH0 : cO hsl i0 = some ([iv c])) (hmc : MC Tryz.prog 99 [sl cI ts, fV s, iv nest, .optr 0 0] [(0, some ([iv c]))] 1 (fun _ : Unit => True) (fun _ => bv (mH ts nest c s).1) (fun _ => [(0, some ([iv (mH ts nest c s).2]))])) (hM : Nat.ble (nidl + 0) eZ = true) (hN : Nat.blt d N = true) {md' : Md} [hmd : MdA md (gK [x0, x1, x2, x3] ++ [.inr i0]) (List.map Sum.inr (List.map Prod.fst ([(i0, some ([iv (mH ts nest c s).2]))] : List (Nat × Option (List AV)))) ++ [.inl d]) md'] (kk : RW Tryz.prog N all Q md' rest ⟨(d, bv (mH ts nest c s).1) :: tsl, iD hsl [(i0, some ([iv (mH ts nest c s).2]))], nidl + 0, z0⟩) : RW Tryz.prog N all Q md (⟨some d, .call ⟨.value (.func 99), #[x0, x1, x2, x3], tys⟩, ty, pos, af, none⟩ :: rest) ⟨tsl, hsl, nidl, z0⟩ := by
 refine cE [i0] 1 [(i0, some ([iv (mH ts nest c s).2]))] hmc (avs := [sl cI ts, fV s, iv nest, .optr i0 0]) ?_ rfl ?_ rfl ?_ (by simpa using hM) ?_ ?_ ?_ hN (md' := md') (hmd := hmd) kk
 ·show evL (lk tsl) [x0, x1, x2, x3] = _
  simp only [evL, ha0, ha1, ha2, ha3]
 ·exact ⟨⟨_, _, rfl, hH0, by (repeat' (exact RnL.purI inferInstance))⟩, trivial⟩
 ·(repeat' (first|exact RnL.purI inferInstance|exact RnV.purI inferInstance|exact RnV.optr rfl|refine RnL.cons ?_ ?_))
 ·(repeat' (exact RnV.purI inferInstance))
 ·simp [dJ]
 ·(repeat' (first|exact trivial|(refine And.intro ⟨0, _, rfl, rfl, ?_⟩ ?_)|exact RnL.purI inferInstance))
theorem sX {ts : List Int} {l : List AL.Stmt} {nest c : Int} {N : Nat} {Q : Exit → AS → Prop} {all : Array Oper} {rest : List Oper} {tsl : List (Nat × AV)} {hsl : List (Nat × Option (List AV))} {nidl : Nat} {z0 : Lo} {md : Md} {d : Nat} {ty : TypeId} {pos : String} {af : Array Edge} {tys : Array TypeId} {x0 x1 x2 x3 : Operand} {i0 : Nat} (ha0 : ev (lk tsl) x0 = some (sl cI ts)) (ha1 : ev (lk tsl) x1 = some (sl aZ l)) (ha2 : ev (lk tsl) x2 = some (iv nest)) (ha3 : ev (lk tsl) x3 = some (.optr i0 0)) (hH0 : cO hsl i0 = some ([iv c])) (hmc : MC Tryz.prog 59 [sl cI ts, sl aZ l, iv nest, .optr 0 0] [(0, some ([iv c]))] 1 (fun _ : Unit => True) (fun _ => bv (kT ts nest c l).1) (fun _ => [(0, some ([iv (kT ts nest c l).2]))])) (hM : Nat.ble (nidl + 0) eZ = true) (hN : Nat.blt d N = true) {md' : Md} [hmd : MdA md (gK [x0, x1, x2, x3] ++ [.inr i0]) (List.map Sum.inr (List.map Prod.fst ([(i0, some ([iv (kT ts nest c l).2]))] : List (Nat × Option (List AV)))) ++ [.inl d]) md'] (kk : RW Tryz.prog N all Q md' rest ⟨(d, bv (kT ts nest c l).1) :: tsl, iD hsl [(i0, some ([iv (kT ts nest c l).2]))], nidl + 0, z0⟩) : RW Tryz.prog N all Q md (⟨some d, .call ⟨.value (.func 59), #[x0, x1, x2, x3], tys⟩, ty, pos, af, none⟩ :: rest) ⟨tsl, hsl, nidl, z0⟩ := by
 refine cE [i0] 1 [(i0, some ([iv (kT ts nest c l).2]))] hmc (avs := [sl cI ts, sl aZ l, iv nest, .optr i0 0]) ?_ rfl ?_ rfl ?_ (by simpa using hM) ?_ ?_ ?_ hN (md' := md') (hmd := hmd) kk
 ·show evL (lk tsl) [x0, x1, x2, x3] = _
  simp only [evL, ha0, ha1, ha2, ha3]
 ·exact ⟨⟨_, _, rfl, hH0, by (repeat' (exact RnL.purI inferInstance))⟩, trivial⟩
 ·(repeat' (first|exact RnL.purI inferInstance|exact RnV.purI inferInstance|exact RnV.optr rfl|refine RnL.cons ?_ ?_))
 ·(repeat' (exact RnV.purI inferInstance))
 ·simp [dJ]
 ·(repeat' (first|exact trivial|(refine And.intro ⟨0, _, rfl, rfl, ?_⟩ ?_)|exact RnL.purI inferInstance))
theorem Iz (ts : List Int) (htO : dE ts = true) (m : Nat) (scanAll_ih : ∀ l nest c, bX l < m → 0 ≤ nest → nest ≤ 4 → 0 ≤ c → c ≤ 30 → MC Tryz.prog 59 [sl cI ts, sl aZ l, iv nest, .optr 0 0] [(0, some ([iv c]))] 1 (fun _ : Unit => True) (fun _ => bv (kT ts nest c l).1) (fun _ => [(0, some ([iv (kT ts nest c l).2]))])) (s : AL.Stmt) (nest c : Int) (hs : dR s ≤ m) (hn0 : 0 ≤ nest) (hn : nest ≤ 4) (hc0 : 0 ≤ c) (hc : c ≤ 30) : MC Tryz.prog 99 [sl cI ts, fV s, iv nest, .optr 0 0] [(0, some ([iv c]))] 1 (fun _ : Unit => True) (fun _ => bv (mH ts nest c s).1) (fun _ => [(0, some ([iv (mH ts nest c s).2]))]) := by
 have ct := jX s
 have hb1 := Ls ts s.th (nest + 1) (c + 1)
 (refine b9 Tryz.func99 rfl (by simp [Tryz.ntmps99]) ?_; rw [Tryz.ntmps99])
 repeat' (first|(apply aL;first|(apply aE;rfl;rfl)|(first|(apply aN;rfl;rfl;rfl;rfl)|(apply aV;rfl;rfl;(exact (rfl:_=[_, _, _, _, _, _]));rfl;rfl;rfl))|(apply aD;rfl;rfl;rfl)|(first|(apply mT;rfl;rfl;rfl)|(apply a8;rfl;rfl;rfl;(assumption))|(apply bC;rfl;rfl;rfl;(first|rfl|assumption))|(apply bR;(case hj|hb|hN => rfl);all_goals (intro hg;have hq := hg;(try simp only [cJ] at hq);(try (exfalso;omega)))))|(first|(apply bS;rfl;rfl;omega;rfl)|(apply aU;rfl;rfl;rfl;rfl))|(apply aC;rfl;rfl)|(first|(apply bY;rfl;(first|rfl|assumption);rfl;rfl)|(apply bQ;rfl;(assumption);rfl;rfl))|(first|(apply sX;rfl;rfl;rfl;rfl;(rfl);(apply scanAll_ih <;> (first|assumption|omega|grind));rfl;rfl)|((with_reducible apply aJ (k := 162));(case ha => rfl);(case h => (apply Cn <;> (fail)));(case hp => (rfl));(case hN => rfl))|((with_reducible apply aJ (k := 163));(case ha => rfl);(case h => (apply BS <;> (assumption)));(case hp => (exact Pur.pf));(case hN => rfl)))|(apply bI;rfl;rfl;rfl)|(apply aF;kernel_rfl)|(apply cF;rfl;rfl)|(apply cA;rfl;rfl;rfl)|(apply bH;rfl;rfl;rfl;rfl)|(apply aW;rfl;rfl;rfl;rfl;rfl;(case hl => (simp;done));(exact (rfl:_=[_]))))|(apply aM;first|apply aH|apply aB|(apply cB;rfl;(rfl))|(apply cG;rfl;(rfl))|(apply aQ;rfl;all_goals intro hc;have hq:=hc;(try simp only [cJ] at hq);try exfalso;omega)|apply aT|apply aR)|with_reducible apply aA|with_reducible apply bG)
 all_goals (refine aO rfl ?_; refine bU () trivial ?_ ⟨.inr (Eq.trans (b := some _) rfl ?_), trivial⟩)
 all_goals (try simp only [b0, AV.v.injEq, Value.bool.injEq, Value.int.injEq, true_and, hO, List.take, List.drop, List.length, List.append, List.nil_append, List.append_nil, Option.some.injEq, List.cons.injEq, and_true])
 all_goals rw [IX]
 all_goals clear scanAll_ih
 all_goals (cases hel : s.el <;> simp only [hel, List.length_nil, List.length_cons] at * <;> grind)
theorem Cb (ts : List Int) (m : Nat) (hm : m ≤ 100000000) (scan_ih : ∀ s nest c, dR s ≤ m → 0 ≤ nest → nest ≤ 4 → 0 ≤ c → c ≤ 30 → MC Tryz.prog 99 [sl cI ts, fV s, iv nest, .optr 0 0] [(0, some ([iv c]))] 1 (fun _ : Unit => True) (fun _ => bv (mH ts nest c s).1) (fun _ => [(0, some ([iv (mH ts nest c s).2]))])) (l : List AL.Stmt) (nest c : Int) (hs : bX l ≤ m) (hn0 : 0 ≤ nest) (hn : nest ≤ 4) (hc0 : 0 ≤ c) (hc : c ≤ 30) : MC Tryz.prog 59 [sl cI ts, sl aZ l, iv nest, .optr 0 0] [(0, some ([iv c]))] 1 (fun _ : Unit => True) (fun _ => bv (kT ts nest c l).1) (fun _ => [(0, some ([iv (kT ts nest c l).2]))]) := by
 have hlen := dM l
 (refine b9 Tryz.func59 rfl (by simp [Tryz.ntmps59]) ?_; rw [Tryz.ntmps59])
 repeat' (first|(apply aL;first|(apply aE;rfl;rfl)|(apply aC;rfl;rfl)|(apply bI;rfl;rfl;rfl)|(apply aF;kernel_rfl))|(apply aM;first|apply aH|apply aB|apply aK)|with_reducible apply aA)
 refine bB (σ := Nat × Int) [0, 2, 3, 11, 12] [(0, _), (2, _), (3, _), (11, _), (12, _)] [] [] (fun k => [(13, iv (k.1 : Int))]) (fun k => [(0, some [iv k.2])]) (fun k => k.1 ≤ l.length ∧ kT ts nest k.2 (l.drop k.1) = kT ts nest c l ∧ 0 ≤ k.2 ∧ k.2 ≤ 30) (fun k => l.length - k.1) (0, c) ⟨by omega, rfl, by omega, by omega⟩ rfl rfl (by repeat' (first|exact trivial|refine And.intro rfl ?_)) (by repeat' (first|exact trivial|refine And.intro (.inr rfl) ?_)) ?_
 rintro ⟨k, c'⟩ ⟨hk, hn, hn0, hn1⟩
 dsimp only at hk hn hn0 hn1 ⊢
 have hck := gF l k
 have hb1 := Ko ts l[k]! nest c'
 have hst := @scL_stop ts nest c' l k
 repeat' (first|(apply aL;first|(apply aE;rfl;rfl)|(apply aV;rfl;rfl;(exact (rfl:_=[_, _, _, _, _, _]));rfl;rfl;rfl)|(first|(apply bS;rfl;rfl;omega;rfl)|(apply aU;rfl;rfl;rfl;rfl))|(apply aC;rfl;rfl)|(apply a7;(case hx|hi => rfl);(case hm => (omega));(case hml => (rfl));(case hα | hf|hg => infer_instance);(case hN => rfl))|(apply Ic;rfl;rfl;rfl;rfl;(rfl);(apply scan_ih <;> (first|assumption|omega));rfl;rfl)|(apply aF;kernel_rfl)|(apply cF;rfl;rfl)|(apply a6;rfl;rfl)|(apply aW;rfl;rfl;rfl;rfl;rfl;(case hl => (simp;done));(exact (rfl:_=[_, _, _, _, _, _]))))|(apply aM;first|apply aH|apply aB|(apply aQ;rfl;all_goals intro hc;have hq:=hc;(try simp only [cJ] at hq);try exfalso;omega)|apply aK|apply aT|apply bK|apply aR)|with_reducible apply aA|with_reducible apply bG|with_reducible apply bJ|with_reducible apply aX|with_reducible apply cP|with_reducible apply bO)
 ·(refine aO rfl ?_; refine bU () trivial ?_ ⟨.inr (Eq.trans (b := some _) rfl ?_), trivial⟩)
  all_goals (try simp only [b0, AV.v.injEq, Value.bool.injEq, Value.int.injEq, true_and, hO, List.take, List.drop, List.length, List.append, List.nil_append, List.append_nil, Option.some.injEq, List.cons.injEq, and_true])
  all_goals (rw [← hn, hst (by omega)]; grind)
 ·(apply dK (k + 1, (mH ts nest c' l[k]!).2); focus (refine Le.ren [] rfl (by decide) ?_ ?_ <;> repeat' (first | exact trivial | refine And.intro ⟨_, rfl, ?_⟩ ?_ | refine And.intro ⟨_, _, rfl, rfl, ?_⟩ ?_ | exact Or.inr rfl | refine Or.inl ⟨?_, (by first | rfl | exact aY _ _)⟩ | rfl)))
  ·dsimp only;grind
  ·dsimp only;omega
 ·(refine aO rfl ?_; refine bU () trivial ?_ ⟨.inr (Eq.trans (b := some _) rfl ?_), trivial⟩)
  all_goals (try simp only [b0, AV.v.injEq, Value.bool.injEq, Value.int.injEq, true_and, hO, List.take, List.drop, List.length, List.append, List.nil_append, List.append_nil, Option.some.injEq, List.cons.injEq, and_true])
  all_goals (rw [← hn, List.drop_of_length_le (by omega), kT])
theorem DX (ts : List Int) (hl : dE ts = true) : ∀ (m : Nat), m ≤ 100000000 → (∀ s (nest c : Int), dR s ≤ m → 0 ≤ nest → nest ≤ 4 → 0 ≤ c → c ≤ 30 → MC Tryz.prog 99 [sl cI ts, fV s, iv nest, .optr 0 0] [(0, some ([iv c]))] 1 (fun _ : Unit => True) (fun _ => bv (mH ts nest c s).1) (fun _ => [(0, some ([iv (mH ts nest c s).2]))])) ∧
  (∀ l (nest c : Int), bX l ≤ m → 0 ≤ nest → nest ≤ 4 → 0 ≤ c → c ≤ 30 → MC Tryz.prog 59 [sl cI ts, sl aZ l, iv nest, .optr 0 0] [(0, some ([iv c]))] 1 (fun _ : Unit => True) (fun _ => bv (kT ts nest c l).1) (fun _ => [(0, some ([iv (kT ts nest c l).2]))])) := by
 intro m
 induction m using Nat.strongRecOn with
 | ind m ih =>
  intro hm
  have h1 : ∀ s (nest c : Int), dR s ≤ m → 0 ≤ nest → nest ≤ 4 → 0 ≤ c → c ≤ 30 → MC Tryz.prog 99 [sl cI ts, fV s, iv nest, .optr 0 0] [(0, some ([iv c]))] 1 (fun _ : Unit => True) (fun _ => bv (mH ts nest c s).1) (fun _ => [(0, some ([iv (mH ts nest c s).2]))]) :=
   fun s nest c h1 h2 h3 h4 h5 => Iz ts hl m (fun l nest c g1 g2 g3 g4 g5 => (ih (bX l) g1 (by omega)).2 l nest c (Nat.le_refl _) g2 g3 g4 g5) s nest c h1 h2 h3 h4 h5
  exact ⟨h1, fun l nest c g1 g2 g3 g4 g5 => Cb ts m hm h1 l nest c g1 g2 g3 g4 g5⟩
theorem DA (ts : List Int) (l : List AL.Stmt) (nest c : Int) (hl : dE ts = true) (hs : bX l ≤ 100000000) (hn0 : 0 ≤ nest) (hn : nest ≤ 4) (hc0 : 0 ≤ c) (hc : c ≤ 30) : MC Tryz.prog 59 [sl cI ts, sl aZ l, iv nest, .optr 0 0] [(0, some ([iv c]))] 1 (fun _ : Unit => True) (fun _ => bv (kT ts nest c l).1) (fun _ => [(0, some ([iv (kT ts nest c l).2]))]) :=
 (DX ts hl _ hs).2 l nest c (Nat.le_refl _) hn0 hn hc0 hc
theorem Bx (t : Int) : PC Tryz.prog 98 [iv t] (fun r => r = bv (!(decide (1 ≤ t) && decide (t ≤ 4)))) := by
 (refine aS Tryz.func98 rfl (by simp [Tryz.ntmps98]) ?_; rw [Tryz.ntmps98])
 repeat' (first|(apply aL;first|(apply aE;rfl;rfl)|(apply aC;rfl;rfl)|((with_reducible apply aJ (k := 84));(case ha => rfl);(case h => (apply eL <;> (fail)));(case hp => (rfl));(case hN => rfl))|(apply aF;kernel_rfl)|(apply cF;rfl;rfl))|(apply aM;first|apply aH|apply aB|apply aR)|with_reducible apply aA|((with_reducible apply aO);case hr => rfl))
 all_goals (refine ⟨?_, rfl⟩; simp only [b0, AV.v.injEq, Value.bool.injEq, Value.int.injEq, true_and])
def uO (ts : List Int) : Int := match ts.findIdx? (fun t => !(decide (1 ≤ t) && decide (t ≤ 4))) with | some i => i | none => -1
theorem Gr (ts : List Int) (hl : ts.length ≤ 1000000) : PC Tryz.prog 161 [sl cI ts, .v (.func (.func 98) #[] #[])] (fun r => r = iv (uO ts)) := by
 (refine aS Tryz.func161 rfl (by simp [Tryz.ntmps161]) ?_; rw [Tryz.ntmps161])
 repeat' (first|(apply aL;first|(apply aE;rfl;rfl)|(apply aC;rfl;rfl)|(apply bI;rfl;rfl;rfl)|(apply aF;kernel_rfl))|(apply aM;first|apply aH|apply aB|apply aK)|with_reducible apply aA)
 refine bB (σ := Nat) [0, 1, 7] [(0, _), (1, _), (7, _)] [] [] (fun k => [(8, iv (k : Int))]) (fun k => []) (fun k => k ≤ ts.length ∧ ∀ i, i < k → 1 ≤ ts[i]! ∧ ts[i]! ≤ 4) (fun k => ts.length - k) (0) ⟨by omega, by omega⟩ rfl rfl (by repeat' (first|exact trivial|refine And.intro rfl ?_)) (by repeat' (exact trivial)) ?_
 intro k ⟨hk, hall⟩
 repeat' (first|(apply aL;first|(apply aE;rfl;rfl)|(apply aN;rfl;rfl;rfl;rfl)|(first|(apply bS;rfl;rfl;omega;rfl)|(apply aU;rfl;rfl;rfl;rfl))|(apply aC;rfl;rfl)|(apply a7;(case hx|hi => rfl);(case hm => (omega));(case hml => (rfl));(case hα | hf|hg => infer_instance);(case hN => rfl))|((with_reducible apply jZ);(case hx|hcl => rfl);(case hc => infer_instance);(case ha => rfl);(case h => (apply Bx <;> (fail)));(case hp => (rfl));(case hN => rfl))|(apply aF;kernel_rfl))|(apply aM;first|apply aH|apply aB|(apply aQ;rfl;all_goals intro hc;have hq:=hc;(try simp only [cJ] at hq);try exfalso;omega)|apply aK|apply aT|apply bK|apply aR)|with_reducible apply aA|with_reducible apply bG|with_reducible apply bJ|with_reducible apply aX|with_reducible apply cP|with_reducible apply bO|((with_reducible apply aO);case hr => rfl))
 ·(refine ⟨?_, rfl⟩; simp only [b0, AV.v.injEq, Value.bool.injEq, Value.int.injEq, true_and])
  have hlt : k < ts.length := by omega
  have : ts.findIdx? (fun t => !(decide (1 ≤ t) && decide (t ≤ 4))) = some k := by
   rw [List.findIdx?_eq_some_iff_getElem]
   refine ⟨hlt, ?_, fun j hj => ?_⟩
   ·rw [← cT ts k hlt]; grind
   ·have := hall j hj;rw [cT ts j (by omega)] at this;simp;omega
  simp only [uO, this]
 ·(apply dK (k + 1); focus (refine Le.ren [] rfl (by decide) ?_ ?_ <;> repeat' (first | exact trivial | refine And.intro ⟨_, rfl, ?_⟩ ?_ | refine Or.inl ⟨?_, (by first | rfl | exact aY _ _)⟩ | rfl)))
  ·grind
  ·omega
 ·(refine ⟨?_, rfl⟩; simp only [b0, AV.v.injEq, Value.bool.injEq, Value.int.injEq, true_and])
  have : ts.findIdx? (fun t => !(decide (1 ≤ t) && decide (t ≤ 4))) = none := by
   rw [List.findIdx?_eq_none_iff]
   intro x hx
   obtain ⟨i, hi, rfl⟩ := List.getElem_of_mem hx
   have := hall i (by omega);rw [cT ts i hi] at this;simp;omega
  simp only [uO, this]
theorem Dv (ts : List Int) : decide (0 ≤ uO ts) = !(ts.all (fun t => decide (1 ≤ t) && decide (t ≤ 4))) := by
 unfold uO
 split
 ·rename_i i h
  obtain ⟨h1, h2, _⟩ := List.findIdx?_eq_some_iff_getElem.1 h
  have : ts.all (fun t => decide (1 ≤ t) && decide (t ≤ 4)) = false := by
   rw [List.all_eq_false]; exact ⟨ts[i], List.getElem_mem h1, by simp at h2 ⊢; omega⟩
  rw [this]; simp
 ·rename_i h
  rw [List.findIdx?_eq_none_iff] at h
  have : ts.all (fun t => decide (1 ≤ t) && decide (t ≤ 4)) = true := by
   rw [List.all_eq_true]; intro x hx;simpa using h x hx
  rw [this]; rfl
theorem Ep (ts : List Int) (hl : ts.length ≤ 1000000) : PC Tryz.prog 97 [sl cI ts, .v (.func (.func 98) #[] #[])] (fun r => r = bv (!(ts.all (fun t => decide (1 ≤ t) && decide (t ≤ 4))))) := by
 (refine aS Tryz.func97 rfl (by simp [Tryz.ntmps97]) ?_; rw [Tryz.ntmps97])
 repeat' (first|(apply aL;first|(apply aE;rfl;rfl)|(apply aU;rfl;rfl;rfl;rfl)|(apply aC;rfl;rfl)|((with_reducible apply aJ (k := 161));(case ha => rfl);(case h => (apply Gr <;> (assumption)));(case hp => (exact Pur.pf));(case hN => rfl))|(apply aF;kernel_rfl))|(apply aM;first|apply aH|apply aB|apply aR)|with_reducible apply aA|((with_reducible apply aO);case hr => rfl))
 (refine ⟨?_, rfl⟩; simp only [b0, AV.v.injEq, Value.bool.injEq, Value.int.injEq, true_and])
 exact Dv ts
theorem sO (ts : List Int) (hl : ts.length ≤ 1000000) : PC Tryz.prog 58 [sl cI ts] (fun r => r = bv (dE ts)) := by
 (refine aS Tryz.func58 rfl (by simp [Tryz.ntmps58]) ?_; rw [Tryz.ntmps58])
 repeat' (first|(apply aL;first|(apply aE;rfl;rfl)|(first|(apply a8;rfl;rfl;rfl;(assumption))|(apply bC;rfl;rfl;rfl;(assumption))|(apply bR;(case hj|hb|hN => rfl);all_goals (intro hg;have hq := hg;(try simp only [cJ] at hq);(try (exfalso;omega)))))|(apply aU;rfl;rfl;rfl;rfl)|(apply aC;rfl;rfl)|(first|(apply bY;rfl;(assumption);rfl;rfl)|(apply bQ;rfl;(assumption);rfl;rfl))|((with_reducible apply aJ (k := 97));(case ha => rfl);(case h => (apply Ep <;> (assumption)));(case hp => (exact Pur.pf));(case hN => rfl))|(apply bI;rfl;rfl;rfl)|(apply aF;kernel_rfl)|(apply cF;rfl;rfl))|(apply aM;first|apply aH|apply aB|apply aR)|with_reducible apply aA|((with_reducible apply aO);case hr => rfl))
 all_goals (refine ⟨?_, rfl⟩; simp only [b0, AV.v.injEq, Value.bool.injEq, Value.int.injEq, true_and])
 all_goals (unfold dE;grind)
theorem mL (p : Prg) (hl : p.types.length ≤ 1000000) (hs : bX p.body ≤ 100000000) : PC Tryz.prog 25 [dF p] (fun r => r = bv (cS p)) := by
 rw [← El]
 cases ht : dE p.types
 ·(refine aS Tryz.func25 rfl (by simp [Tryz.ntmps25]) ?_; rw [Tryz.ntmps25])
  repeat' (first|(apply aL;first|(apply aE;rfl;rfl)|(apply aN;rfl;rfl;rfl;rfl)|(apply aD;rfl;rfl;rfl)|(apply bC;rfl;rfl;rfl;(assumption))|(apply aC;rfl;rfl)|(apply bQ;rfl;(assumption);rfl;rfl)|((with_reducible apply aJ (k := 58));(case ha => rfl);(case h => (apply sO <;> (assumption)));(case hp => (exact Pur.pf));(case hN => rfl))|(apply aF;kernel_rfl)|(apply bH;rfl;rfl;rfl;rfl)|(apply a6;rfl;rfl)|(apply aW;rfl;rfl;rfl;rfl;rfl;(decide);(exact (rfl:_=[_]))))|(apply aM;first|apply aH|apply aB|apply aR)|with_reducible apply aA|((with_reducible apply aO);case hr => rfl))
  all_goals (refine ⟨?_, rfl⟩; simp only [b0, AV.v.injEq, Value.bool.injEq, Value.int.injEq, true_and])
  all_goals grind
 ·(refine aS Tryz.func25 rfl (by simp [Tryz.ntmps25]) ?_; rw [Tryz.ntmps25])
  repeat' (first|(apply aL;first|(apply aE;rfl;rfl)|(apply aN;rfl;rfl;rfl;rfl)|(apply aD;rfl;rfl;rfl)|(apply a8;rfl;rfl;rfl;(assumption))|(apply aC;rfl;rfl)|(apply bY;rfl;(assumption);rfl;rfl)|(first|((with_reducible apply aJ (k := 58));(case ha => rfl);(case h => (apply sO <;> (assumption)));(case hp => (exact Pur.pf));(case hN => rfl))|(apply sX;rfl;rfl;rfl;rfl;(rfl);(apply DA <;> (first|assumption|omega));rfl;rfl))|(apply aF;kernel_rfl)|(apply bH;rfl;rfl;rfl;rfl)|(apply a6;rfl;rfl)|(apply aW;rfl;rfl;rfl;rfl;rfl;(decide);(exact (rfl:_=[_]))))|(apply aM;first|apply aH|apply aB|apply aR)|with_reducible apply aA|((with_reducible apply aO);case hr => rfl))
  all_goals (refine ⟨?_, rfl⟩; simp only [b0, AV.v.injEq, Value.bool.injEq, Value.int.injEq, true_and])
  all_goals grind
theorem qT {l : List AL.Stmt} {pts : List Pnt} {m : Nat} {N : Nat} {Q : Exit → AS → Prop} {all : Array Oper} {rest : List Oper} {tsl : List (Nat × AV)} {hsl : List (Nat × Option (List AV))} {nidl : Nat} {z0 : Lo} {md : Md} {d : Nat} {ty : TypeId} {pos : String} {af : Array Edge} {tys : Array TypeId} {x0 x1 : Operand} {i0 : Nat} (ha0 : ev (lk tsl) x0 = some (sl aZ l)) (ha1 : ev (lk tsl) x1 = some (.own i0 0 m 5)) (hH0 : cO hsl i0 = some (aI dV pts)) (hmc : MC Tryz.prog 107 [sl aZ l, .own 0 0 m 5] [(0, some (aI dV pts))] 1 (fun _ : Unit => True) (fun _ => .own 1 0 (m + eC l) 5) (fun _ => [(1, some (aI dV (pts ++ iM pts.length l)))])) (hM : Nat.ble (nidl + 1) eZ = true) (hN : Nat.blt d N = true) {md' : Md} [hmd : MdA md (gK [x0, x1] ++ [.inr i0]) (List.map Sum.inr (List.map Prod.fst ([(nidl, some (aI dV (pts ++ iM pts.length l))), (i0, none)] : List (Nat × Option (List AV)))) ++ [.inl d]) md'] (kk : RW Tryz.prog N all Q md' rest ⟨(d, .own nidl 0 (m + eC l) 5) :: tsl, iD hsl [(nidl, some (aI dV (pts ++ iM pts.length l))), (i0, none)], nidl + 1, z0⟩) : RW Tryz.prog N all Q md (⟨some d, .call ⟨.value (.func 107), #[x0, x1], tys⟩, ty, pos, af, none⟩ :: rest) ⟨tsl, hsl, nidl, z0⟩ := by
 refine cE [i0] 2 [(nidl, some (aI dV (pts ++ iM pts.length l))), (i0, none)] hmc (avs := [sl aZ l, .own i0 0 m 5]) ?_ rfl ?_ rfl ?_ (by simpa using hM) ?_ ?_ ?_ hN (md' := md') (hmd := hmd) kk
 ·show evL (lk tsl) [x0, x1] = _
  simp only [evL, ha0, ha1]
 ·exact ⟨⟨_, _, rfl, hH0, by (repeat' (exact RnL.purI inferInstance))⟩, trivial⟩
 ·(repeat' (first|exact RnL.purI inferInstance|exact RnV.purI inferInstance|exact RnV.own rfl|refine RnL.cons ?_ ?_))
 ·(repeat' (exact RnV.own rfl))
 ·simp [dJ]
 ·(repeat' (first|exact trivial|(refine And.intro ⟨1, _, rfl, rfl, ?_⟩ ?_)|exact RnL.purI inferInstance))
theorem zJ (mm : Nat) (hmm : mm ≤ 1000000) (pointsOf_ih : ∀ l pts m, bX l < mm → m = pts.length → m + eC l ≤ 12000000 → MC Tryz.prog 107 [sl aZ l, .own 0 0 m 5] [(0, some (aI dV pts))] 1 (fun _ : Unit => True) (fun _ => .own 1 0 (m + eC l) 5) (fun _ => [(1, some (aI dV (pts ++ iM pts.length l)))])) (l : List AL.Stmt) (pts : List Pnt) (m : Nat) (hs : bX l ≤ mm) (hm : m = pts.length) (hb : m + eC l ≤ 12000000) : MC Tryz.prog 107 [sl aZ l, .own 0 0 m 5] [(0, some (aI dV pts))] 1 (fun _ : Unit => True) (fun _ => .own 1 0 (m + eC l) 5) (fun _ => [(1, some (aI dV (pts ++ iM pts.length l)))]) := by
 have hlen := dM l
 subst hm
 (refine b9 Tryz.func107 rfl (by simp [Tryz.ntmps107]) ?_; rw [Tryz.ntmps107])
 repeat' (first|(apply aL;first|(apply aE;rfl;rfl)|(apply aC;rfl;rfl)|(apply bI;rfl;rfl;rfl)|(apply aF;kernel_rfl))|(apply aM;first|apply aH|apply aB|apply aK)|with_reducible apply aA)
 refine AW.le ?_ (Le.mv (d := 1) (i := 0) (cs := aI dV pts) rfl rfl (by decide))
 refine bB (σ := Nat × List Pnt × Nat) [9, 10] [(9, _), (10, _)] [] [] (fun k => [(11, iv (k.1 : Int)), (1, .own 1 0 k.2.2 5)]) (fun k => [(1, some (aI dV k.2.1))]) (fun k => k.1 ≤ l.length ∧ k.2.1 = pts ++ iM pts.length (l.take k.1) ∧ k.2.2 = k.2.1.length ∧ k.2.2 = pts.length + eC (l.take k.1)) (fun k => l.length - k.1) (0, pts, pts.length) ⟨by omega, by simp [iM], rfl, by simp [eC]⟩ rfl rfl (by repeat' (first|exact trivial|refine And.intro rfl ?_)) (by repeat' (first|exact trivial|refine And.intro (.inr rfl) ?_)) ?_
 rintro ⟨k, xs, m1⟩ ⟨hk, hxs, hm1, hm2⟩
 dsimp only at hk hxs hm1 hm2 ⊢
 have hck := gF l k
 have hct := jX l[k]!
 have hnt := Ci l k
 have n9 := GL l[k]!
 have n10 := B9 l[k]!
 have n1 := Ha l[k]!
 repeat' (first|(apply aL;first|(apply aE;rfl;rfl)|(first|(apply aN;rfl;rfl;rfl;rfl)|(apply aV;rfl;rfl;(exact (rfl:_=[_, _, _, _, _, _]));rfl;rfl;rfl))|(apply aD;rfl;rfl;rfl)|(first|(apply bS;rfl;rfl;omega;rfl)|(apply aU;rfl;rfl;rfl;rfl))|(apply aC;rfl;rfl)|(first|(apply a7;(case hx|hi => rfl);(case hm => (omega));(case hml => (rfl));(case hα | hf|hg => infer_instance);(case hN => rfl))|(apply cH;rfl;rfl;(omega);rfl))|(apply qT;rfl;rfl;(rfl);(apply pointsOf_ih <;> (first|omega|(simp only [gH] <;> omega)));rfl;rfl)|(first|(apply bI;rfl;rfl;rfl)|(apply bW;rfl;rfl;rfl;rfl;rfl;(first|(rw [aP]; omega)|(rw [aP]; simp only [gH] <;> omega));(rfl);omega;omega;(first|exact uU (by (first|assumption|(simp only [gH] <;> omega)))|exact l7 (by (first|assumption|(simp only [gH] <;> omega))));rfl;rfl))|(apply aF;kernel_rfl)|(apply b8;rfl;(exact (rfl:_=some [_, _, _, _, _]));(exact (rfl:_=[_, _, _, _, _]));rfl)|(apply a6;rfl;rfl)|((apply bE (t := _));(case hze|hsm|hl => rfl);(case hfl => (first|exact (rfl:_=some [_])|exact (rfl:_=some [_, _])|exact (rfl:_=some [_, _, _, _, _])));(case hM|hN => rfl))|(apply aW;rfl;rfl;rfl;rfl;rfl;(case hl => (first|(rw [aP]; simp only [gH] <;> omega)|(simp;done)));(first|exact sE (by (simp only [gH] <;> omega))|exact uF (by (simp only [gH] <;> omega))|exact (rfl:_=[_, _, _, _, _, _]))))|(apply aM;first|apply aH|apply aB|(apply aQ;rfl;all_goals intro hc;have hq:=hc;(try simp only [cJ] at hq);try exfalso;omega)|apply aK|apply aT|apply bK|apply aR)|with_reducible apply aA|with_reducible apply bJ|with_reducible apply aX|with_reducible apply bO)
 ·(apply dK (k + 1, _, _); focus (refine Le.ren [(1, 8)] rfl (by decide) ?_ ?_ <;> repeat' (first | exact trivial | refine And.intro ⟨_, rfl, ?_⟩ ?_ | refine And.intro ⟨_, _, rfl, rfl, ?_⟩ ?_ | exact Or.inr rfl | refine Or.inl ⟨?_, (by first | rfl | exact aY _ _)⟩ | rfl)))
  ·dsimp only
   rw [xZ hm1, xP hm1, yY (by rw [dG, hm1]), yH (by rw [dG, hm1]), iE l _ k (by omega), gL l k (by omega), jO, if_pos hq, n9 hq]
   refine ⟨by omega, ?_, by simp [dG]; omega, by omega⟩
   have e1 : xs.length = pts.length + eC (l.take k) := by omega
   rw [← List.append_assoc pts, ← hxs, ← e1]
   simp only [List.append_assoc, List.length_append, List.length_cons, List.length_nil, dG, hm1, Nat.zero_add]
   clear pointsOf_ih hxs hck hnt n9 n10 n1
   grind
  ·dsimp only;omega
 ·(apply dK (k + 1, _, _); focus (refine Le.ren [(1, 8)] rfl (by decide) ?_ ?_ <;> repeat' (first | exact trivial | refine And.intro ⟨_, rfl, ?_⟩ ?_ | refine And.intro ⟨_, _, rfl, rfl, ?_⟩ ?_ | exact Or.inr rfl | refine Or.inl ⟨?_, (by first | rfl | exact aY _ _)⟩ | rfl)))
  ·dsimp only
   rw [Cp hm1, BU hm1, iE l _ k (by omega), gL l k (by omega), jO, if_neg (by omega), if_pos hq, n10 hq]
   refine ⟨by omega, ?_, by simp [dG]; omega, by omega⟩
   have e1 : xs.length = pts.length + eC (l.take k) := by omega
   rw [← List.append_assoc pts, ← hxs, ← e1]
   simp only [List.append_assoc, List.length_append, List.length_cons, List.length_nil, dG, hm1, Nat.zero_add]
   clear pointsOf_ih hxs hck hnt n9 n10 n1
   grind
  ·dsimp only;omega
 ·(apply dK (k + 1, _, _); focus (refine Le.ren [(1, 5)] rfl (by decide) ?_ ?_ <;> repeat' (first | exact trivial | refine And.intro ⟨_, rfl, ?_⟩ ?_ | refine And.intro ⟨_, _, rfl, rfl, ?_⟩ ?_ | exact Or.inr rfl | refine Or.inl ⟨?_, (by first | rfl | exact aY _ _)⟩ | rfl)))
  ·dsimp only
   rw [iE l _ k (by omega), gL l k (by omega), jO, if_neg ‹¬l[k]!.op = 9›, if_neg hq, n1 ‹¬l[k]!.op = 9› hq]
   refine ⟨by omega, ?_, by simp [dG]; omega, by omega⟩
   have e1 : xs.length = pts.length + eC (l.take k) := by omega
   rw [← List.append_assoc pts, ← hxs, ← e1, hm1]
  ·dsimp only;omega
 ·refine aO rfl ?_
  have e2 : l.take k = l := List.take_of_length_le (by omega)
  rw [e2] at hxs hm2
  refine bU () trivial ?_ ⟨.inr (Eq.trans (b := some _) rfl ?_), trivial⟩
  ·simp only [b0]; rw [hm2]
  ·rw [hxs]
theorem BJ (l : List AL.Stmt) (pts : List Pnt) (m : Nat) (hs : bX l ≤ 1000000) (hm : m = pts.length) (hb : m + eC l ≤ 12000000) : MC Tryz.prog 107 [sl aZ l, .own 0 0 m 5] [(0, some (aI dV pts))] 1 (fun _ : Unit => True) (fun _ => .own 1 0 (m + eC l) 5) (fun _ => [(1, some (aI dV (pts ++ iM pts.length l)))]) := by
 have h : ∀ (mm : Nat), mm ≤ 1000000 → ∀ l pts m, bX l ≤ mm → m = pts.length → m + eC l ≤ 12000000 → MC Tryz.prog 107 [sl aZ l, .own 0 0 m 5] [(0, some (aI dV pts))] 1 (fun _ : Unit => True) (fun _ => .own 1 0 (m + eC l) 5) (fun _ => [(1, some (aI dV (pts ++ iM pts.length l)))]) := by
  intro mm
  induction mm using Nat.strongRecOn with
  | ind mm ih =>
   intro h0 l pts m h1 h2 h3
   exact zJ mm h0 (fun l' pts' m' g1 g2 g3 => ih _ g1 (by omega) l' pts' m' (Nat.le_refl _) g2 g3) l pts m h1 h2 h3
 exact h _ hs l pts m (Nat.le_refl _) hm hb
theorem pG {l : List AL.Stmt} {N : Nat} {Q : Exit → AS → Prop} {all : Array Oper} {rest : List Oper} {tsl : List (Nat × AV)} {hsl : List (Nat × Option (List AV))} {nidl : Nat} {z0 : Lo} {md : Md} {d : Nat} {ty : TypeId} {pos : String} {af : Array Edge} {tys : Array TypeId} {x0 x1 : Operand} (ha0 : ev (lk tsl) x0 = some (sl aZ l)) (ha1 : ev (lk tsl) x1 = some (.v (.slice none 0 0))) (hmc : MC Tryz.prog 107 [sl aZ l, .v (.slice none 0 0)] [] 0 (fun _ : Unit => True) (fun _ => .own 0 0 (eC l) 5) (fun _ => [(0, some (aI dV (iM 0 l)))])) (hM : Nat.ble (nidl + 1) eZ = true) (hN : Nat.blt d N = true) {md' : Md} [hmd : MdA md (gK [x0, x1] ++ []) (List.map Sum.inr (List.map Prod.fst ([(nidl, some (aI dV (iM 0 l)))] : List (Nat × Option (List AV)))) ++ [.inl d]) md'] (kk : RW Tryz.prog N all Q md' rest ⟨(d, .own nidl 0 (eC l) 5) :: tsl, iD hsl [(nidl, some (aI dV (iM 0 l)))], nidl + 1, z0⟩) : RW Tryz.prog N all Q md (⟨some d, .call ⟨.value (.func 107), #[x0, x1], tys⟩, ty, pos, af, none⟩ :: rest) ⟨tsl, hsl, nidl, z0⟩ := by
 refine cE [] 1 [(nidl, some (aI dV (iM 0 l)))] hmc (avs := [sl aZ l, .v (.slice none 0 0)]) ?_ rfl ?_ rfl ?_ (by simpa using hM) ?_ ?_ ?_ hN (md' := md') (hmd := hmd) kk
 ·show evL (lk tsl) [x0, x1] = _
  simp only [evL, ha0, ha1]
 ·exact trivial
 ·(repeat' (exact RnL.purI inferInstance))
 ·(repeat' (exact RnV.own rfl))
 ·simp [dJ]
 ·(repeat' (first|exact trivial|(refine And.intro ⟨0, _, rfl, rfl, ?_⟩ ?_)|exact RnL.purI inferInstance))
theorem qR (l : List AL.Stmt) (hs : bX l ≤ 1000000) : MC Tryz.prog 107 [sl aZ l, .v (.slice none 0 0)] [] 0 (fun _ : Unit => True) (fun _ => .own 0 0 (eC l) 5) (fun _ => [(0, some (aI dV (iM 0 l)))]) := by
 have hlen := dM l
 have hn2 := lO l
 (refine b9 Tryz.func107 rfl (by simp [Tryz.ntmps107]) ?_; rw [Tryz.ntmps107])
 repeat' (first|(apply aL;first|(apply aE;rfl;rfl)|(apply aC;rfl;rfl)|(apply bI;rfl;rfl;rfl)|(apply aF;kernel_rfl))|(apply aM;first|apply aH|apply aB|apply aK)|with_reducible apply aA)
 refine AW.le ?_ (Le.nilOwn (d := 1) 5 rfl (by decide))
 refine bB (σ := Nat × List Pnt × Nat) [9, 10] [(9, _), (10, _)] [] [] (fun k => [(11, iv (k.1 : Int)), (1, .own 0 0 k.2.2 5)]) (fun k => [(0, some (aI dV k.2.1))]) (fun k => k.1 ≤ l.length ∧ k.2.1 = iM 0 (l.take k.1) ∧ k.2.2 = k.2.1.length ∧ k.2.2 = eC (l.take k.1)) (fun k => l.length - k.1) (0, [], 0) ⟨by omega, by simp [iM], rfl, by simp [eC]⟩ rfl rfl (by repeat' (first|exact trivial|refine And.intro rfl ?_)) (by repeat' (first|exact trivial|refine And.intro (.inr rfl) ?_)) ?_
 rintro ⟨k, xs, m1⟩ ⟨hk, hxs, hm1, hm2⟩
 dsimp only at hk hxs hm1 hm2 ⊢
 have hck := gF l k
 have hct := jX l[k]!
 have hnt := Ci l k
 have n9 := GL l[k]!
 have n10 := B9 l[k]!
 have n1 := Ha l[k]!
 repeat' (first|(apply aL;first|(apply aE;rfl;rfl)|(first|(apply aN;rfl;rfl;rfl;rfl)|(apply aV;rfl;rfl;(exact (rfl:_=[_, _, _, _, _, _]));rfl;rfl;rfl))|(apply aD;rfl;rfl;rfl)|(first|(apply bS;rfl;rfl;omega;rfl)|(apply aU;rfl;rfl;rfl;rfl))|(apply aC;rfl;rfl)|(first|(apply a7;(case hx|hi => rfl);(case hm => (omega));(case hml => (rfl));(case hα | hf|hg => infer_instance);(case hN => rfl))|(apply cH;rfl;rfl;(omega);rfl))|(apply qT;rfl;rfl;(rfl);(apply BJ <;> (first|omega|(simp only [gH] <;> omega)));rfl;rfl)|(first|(apply bI;rfl;rfl;rfl)|(apply bW;rfl;rfl;rfl;rfl;rfl;(first|(rw [aP]; omega)|(rw [aP]; simp only [gH] <;> omega));(rfl);omega;omega;(first|exact uU (by (first|assumption|(simp only [gH] <;> omega)))|exact l7 (by (first|assumption|(simp only [gH] <;> omega))));rfl;rfl))|(apply aF;kernel_rfl)|(apply b8;rfl;(exact (rfl:_=some [_, _, _, _, _]));(exact (rfl:_=[_, _, _, _, _]));rfl)|(apply a6;rfl;rfl)|((apply bE (t := _));(case hze|hsm|hl => rfl);(case hfl => (first|exact (rfl:_=some [_])|exact (rfl:_=some [_, _])|exact (rfl:_=some [_, _, _, _, _])));(case hM|hN => rfl))|(apply aW;rfl;rfl;rfl;rfl;rfl;(case hl => (first|(rw [aP]; simp only [gH] <;> omega)|(simp;done)));(first|exact sE (by (simp only [gH] <;> omega))|exact uF (by (simp only [gH] <;> omega))|exact (rfl:_=[_, _, _, _, _, _]))))|(apply aM;first|apply aH|apply aB|(apply aQ;rfl;all_goals intro hc;have hq:=hc;(try simp only [cJ] at hq);try exfalso;omega)|apply aK|apply aT|apply bK|apply aR)|with_reducible apply aA|with_reducible apply bJ|with_reducible apply aX|with_reducible apply bO)
 ·(apply dK (k + 1, _, _); focus (refine Le.ren [(0, 7)] rfl (by decide) ?_ ?_ <;> repeat' (first | exact trivial | refine And.intro ⟨_, rfl, ?_⟩ ?_ | refine And.intro ⟨_, _, rfl, rfl, ?_⟩ ?_ | exact Or.inr rfl | refine Or.inl ⟨?_, (by first | rfl | exact aY _ _)⟩ | rfl)))
  ·dsimp only
   rw [xZ hm1, xP hm1, yY (by rw [dG, hm1]), yH (by rw [dG, hm1]), iE l _ k (by omega), gL l k (by omega), jO, if_pos hq, n9 hq]
   refine ⟨by omega, ?_, by simp [dG]; omega, by omega⟩
   have e1 : eC (l.take k) = xs.length := by omega
   rw [Nat.zero_add, e1]
   rw [← hxs]
   simp only [List.append_assoc, List.length_append, List.length_cons, List.length_nil, dG, hm1, Nat.zero_add]
   clear hxs hck hnt n9 n10 n1
   grind
  ·dsimp only;omega
 ·(apply dK (k + 1, _, _); focus (refine Le.ren [(0, 7)] rfl (by decide) ?_ ?_ <;> repeat' (first | exact trivial | refine And.intro ⟨_, rfl, ?_⟩ ?_ | refine And.intro ⟨_, _, rfl, rfl, ?_⟩ ?_ | exact Or.inr rfl | refine Or.inl ⟨?_, (by first | rfl | exact aY _ _)⟩ | rfl)))
  ·dsimp only
   rw [Cp hm1, BU hm1, iE l _ k (by omega), gL l k (by omega), jO, if_neg (by omega), if_pos hq, n10 hq]
   refine ⟨by omega, ?_, by simp [dG]; omega, by omega⟩
   have e1 : eC (l.take k) = xs.length := by omega
   rw [Nat.zero_add, e1]
   rw [← hxs]
   simp only [List.append_assoc, List.length_append, List.length_cons, List.length_nil, dG, hm1, Nat.zero_add]
   clear hxs hck hnt n9 n10 n1
   grind
  ·dsimp only;omega
 ·(apply dK (k + 1, _, _); focus (refine Le.ren [(0, 4)] rfl (by decide) ?_ ?_ <;> repeat' (first | exact trivial | refine And.intro ⟨_, rfl, ?_⟩ ?_ | refine And.intro ⟨_, _, rfl, rfl, ?_⟩ ?_ | exact Or.inr rfl | refine Or.inl ⟨?_, (by first | rfl | exact aY _ _)⟩ | rfl)))
  ·dsimp only
   rw [iE l _ k (by omega), gL l k (by omega), jO, if_neg ‹¬l[k]!.op = 9›, if_neg hq, n1 ‹¬l[k]!.op = 9› hq]
   refine ⟨by omega, ?_, by simp [dG]; omega, by omega⟩
   have e1 : eC (l.take k) = xs.length := by omega
   rw [Nat.zero_add, e1]
   rw [← hxs, hm1]
  ·dsimp only;omega
 ·refine aO rfl ?_
  have e2 : l.take k = l := List.take_of_length_le (by omega)
  rw [e2] at hxs hm2
  refine bU () trivial ?_ ⟨.inr (Eq.trans (b := some _) rfl ?_), trivial⟩
  ·simp only [b0]; rw [hm2]
  ·rw [hxs]
theorem G5 (p : Prg) (hs : bX p.body ≤ 1000000) : PC Tryz.prog 96 [dF p] (fun r => r = sl dV (dC p)) := by
 have hn := lO p.body
 (refine aS Tryz.func96 rfl (by simp [Tryz.ntmps96]) ?_; rw [Tryz.ntmps96])
 repeat' (first|(apply aL;first|(apply aN;rfl;rfl;rfl;rfl)|(apply aD;rfl;rfl;rfl)|(apply aC;rfl;rfl)|(apply pG;rfl;rfl;(apply qR <;> (assumption));rfl;rfl)|(apply bW;rfl;rfl;rfl;rfl;rfl;(rw [aP]; simp only [gH] <;> omega);(rfl);omega;omega;(exact l7 (by (simp only [gH] <;> omega)));rfl;rfl)|(apply aF;kernel_rfl)|(apply b8;rfl;(exact (rfl:_=some [_, _, _, _, _]));(exact (rfl:_=[_, _, _, _, _]));rfl)|(apply bH;rfl;rfl;rfl;rfl)|((apply bE (t := _));(case hze|hsm|hl => rfl);(case hfl => (exact (rfl:_=some [_, _, _, _, _])));(case hM|hN => rfl)))|(apply aM;first|apply aH|apply aB|apply aR)|with_reducible apply aA)
 (refine cD (Le.frzD (d := 2) (i := 3) rfl rfl) ?_; refine aO rfl ?_)
 refine ⟨?_, ?_⟩
 ·simp only [b0, sl, dC, List.length_append, List.length_cons, List.length_nil, dG, Nat.zero_add]
 ·(exact aY _ _)
theorem zM {l : List AL.Stmt} {pts : List Pnt} {m : Nat} {N : Nat} {Q : Exit → AS → Prop} {all : Array Oper} {rest : List Oper} {tsl : List (Nat × AV)} {hsl : List (Nat × Option (List AV))} {nidl : Nat} {z0 : Lo} {md : Md} {d : Nat} {ty : TypeId} {pos : String} {af : Array Edge} {tys : Array TypeId} {x0 x1 : Operand} {i0 : Nat} (ha0 : ev (lk tsl) x0 = some (.own i0 0 m 5)) (ha1 : ev (lk tsl) x1 = some (sl aZ l)) (hH0 : cO hsl i0 = some (aI dV pts)) (hmc : MC Tryz.prog 100 [.own 0 0 m 5, sl aZ l] [(0, some (aI dV pts))] 1 (fun _ : Unit => True) (fun _ => .own 1 0 (m + eC l) 5) (fun _ => [(1, some (aI dV (pts ++ iM pts.length l)))])) (hM : Nat.ble (nidl + 1) eZ = true) (hN : Nat.blt d N = true) {md' : Md} [hmd : MdA md (gK [x0, x1] ++ [.inr i0]) (List.map Sum.inr (List.map Prod.fst ([(nidl, some (aI dV (pts ++ iM pts.length l))), (i0, none)] : List (Nat × Option (List AV)))) ++ [.inl d]) md'] (kk : RW Tryz.prog N all Q md' rest ⟨(d, .own nidl 0 (m + eC l) 5) :: tsl, iD hsl [(nidl, some (aI dV (pts ++ iM pts.length l))), (i0, none)], nidl + 1, z0⟩) : RW Tryz.prog N all Q md (⟨some d, .call ⟨.value (.func 100), #[x0, x1], tys⟩, ty, pos, af, none⟩ :: rest) ⟨tsl, hsl, nidl, z0⟩ := by
 refine cE [i0] 2 [(nidl, some (aI dV (pts ++ iM pts.length l))), (i0, none)] hmc (avs := [.own i0 0 m 5, sl aZ l]) ?_ rfl ?_ rfl ?_ (by simpa using hM) ?_ ?_ ?_ hN (md' := md') (hmd := hmd) kk
 ·show evL (lk tsl) [x0, x1] = _
  simp only [evL, ha0, ha1]
 ·exact ⟨⟨_, _, rfl, hH0, by (repeat' (exact RnL.purI inferInstance))⟩, trivial⟩
 ·(repeat' (first|exact RnL.purI inferInstance|exact RnV.own rfl|refine RnL.cons ?_ ?_))
 ·(repeat' (exact RnV.own rfl))
 ·simp [dJ]
 ·(repeat' (first|exact trivial|(refine And.intro ⟨1, _, rfl, rfl, ?_⟩ ?_)|exact RnL.purI inferInstance))
theorem E9 (mm : Nat) (hmm : mm ≤ 1000000) (l2Add_ih : ∀ l pts m, bX l < mm → m = pts.length → m + eC l ≤ 12000000 → MC Tryz.prog 100 [.own 0 0 m 5, sl aZ l] [(0, some (aI dV pts))] 1 (fun _ : Unit => True) (fun _ => .own 1 0 (m + eC l) 5) (fun _ => [(1, some (aI dV (pts ++ iM pts.length l)))])) (l : List AL.Stmt) (pts : List Pnt) (m : Nat) (hs : bX l ≤ mm) (hm : m = pts.length) (hb : m + eC l ≤ 12000000) : MC Tryz.prog 100 [.own 0 0 m 5, sl aZ l] [(0, some (aI dV pts))] 1 (fun _ : Unit => True) (fun _ => .own 1 0 (m + eC l) 5) (fun _ => [(1, some (aI dV (pts ++ iM pts.length l)))]) := by
 have hlen := dM l
 subst hm
 (refine b9 Tryz.func100 rfl (by simp [Tryz.ntmps100]) ?_; rw [Tryz.ntmps100])
 repeat' (first|(apply aL;first|(apply aC;rfl;rfl)|(apply aF;kernel_rfl))|(apply aM;first|apply aH|apply aB|apply aK)|with_reducible apply aA)
 refine AW.le ?_ (Le.mv (d := 0) (i := 0) (cs := aI dV pts) rfl rfl (by decide))
 refine bB (σ := Nat × List Pnt × Nat) [1] [(1, _)] [] [] (fun k => [(5, iv (k.1 : Int)), (0, .own 1 0 k.2.2 5)]) (fun k => [(1, some (aI dV k.2.1))]) (fun k => k.1 ≤ l.length ∧ k.2.1 = pts ++ iM pts.length (l.take k.1) ∧ k.2.2 = k.2.1.length ∧ k.2.2 = pts.length + eC (l.take k.1)) (fun k => l.length - k.1) (0, pts, pts.length) ⟨by omega, by simp [iM], rfl, by simp [eC]⟩ rfl rfl (by repeat' (first|exact trivial|refine And.intro rfl ?_)) (by repeat' (first|exact trivial|refine And.intro (.inr rfl) ?_)) ?_
 rintro ⟨k, xs, m1⟩ ⟨hk, hxs, hm1, hm2⟩
 dsimp only at hk hxs hm1 hm2 ⊢
 have hck := gF l k
 have hct := jX l[k]!
 have hnt := Ci l k
 have n9 := GL l[k]!
 have n10 := B9 l[k]!
 have n1 := Ha l[k]!
 repeat' (first|(apply aL;first|(apply aE;rfl;rfl)|(first|(apply aN;rfl;rfl;rfl;rfl)|(apply aV;rfl;rfl;(exact (rfl:_=[_, _, _, _, _, _]));rfl;rfl;rfl))|(apply aD;rfl;rfl;rfl)|(first|(apply bS;rfl;rfl;omega;rfl)|(apply aU;rfl;rfl;rfl;rfl))|(apply aC;rfl;rfl)|(first|(apply a7;(case hx|hi => rfl);(case hm => (omega));(case hml => (rfl));(case hα | hf|hg => infer_instance);(case hN => rfl))|(apply cH;rfl;rfl;(omega);rfl))|(apply zM;rfl;rfl;(rfl);(apply l2Add_ih <;> (first|omega|(simp only [gH] <;> omega)));rfl;rfl)|(first|(apply bI;rfl;rfl;rfl)|(apply bW;rfl;rfl;rfl;rfl;rfl;(first|(rw [aP]; omega)|(rw [aP]; simp only [gH] <;> omega));(rfl);omega;omega;(first|exact uU (by (first|assumption|(simp only [gH] <;> omega)))|exact l7 (by (first|assumption|(simp only [gH] <;> omega))));rfl;rfl))|(apply aF;kernel_rfl)|(apply b8;rfl;(exact (rfl:_=some [_, _, _, _, _]));(exact (rfl:_=[_, _, _, _, _]));rfl)|(apply a6;rfl;rfl)|((apply bE (t := _));(case hze|hsm|hl => rfl);(case hfl => (first|exact (rfl:_=some [_])|exact (rfl:_=some [_, _])|exact (rfl:_=some [_, _, _, _, _])));(case hM|hN => rfl))|(apply aW;rfl;rfl;rfl;rfl;rfl;(case hl => (first|(rw [aP]; simp only [gH] <;> omega)|(simp;done)));(first|exact sE (by (simp only [gH] <;> omega))|exact uF (by (simp only [gH] <;> omega))|exact (rfl:_=[_, _, _, _, _, _]))))|(apply aM;first|apply aH|apply aB|(apply aQ;rfl;all_goals intro hc;have hq:=hc;(try simp only [cJ] at hq);try exfalso;omega)|apply aK|apply aT|apply bK|apply aR)|with_reducible apply aA|with_reducible apply bJ|with_reducible apply aX|with_reducible apply bO)
 ·(apply dK (k + 1, _, _); focus (refine Le.ren [(1, 8)] rfl (by decide) ?_ ?_ <;> repeat' (first | exact trivial | refine And.intro ⟨_, rfl, ?_⟩ ?_ | refine And.intro ⟨_, _, rfl, rfl, ?_⟩ ?_ | exact Or.inr rfl | refine Or.inl ⟨?_, (by first | rfl | exact aY _ _)⟩ | rfl)))
  ·dsimp only
   rw [yY (by rw [dG, hm1]), yH (by rw [dG, hm1]), xZ hm1, xP hm1, iE l _ k (by omega), gL l k (by omega), jO, if_pos hq, n9 hq]
   refine ⟨by omega, ?_, by simp [dG]; omega, by omega⟩
   have e1 : xs.length = pts.length + eC (l.take k) := by omega
   rw [← List.append_assoc pts, ← hxs, ← e1]
   simp only [List.append_assoc, List.length_append, List.length_cons, List.length_nil, dG, hm1, Nat.zero_add]
   clear l2Add_ih hxs hck hnt n9 n10 n1
   grind
  ·dsimp only;omega
 ·(apply dK (k + 1, _, _); focus (refine Le.ren [(1, 8)] rfl (by decide) ?_ ?_ <;> repeat' (first | exact trivial | refine And.intro ⟨_, rfl, ?_⟩ ?_ | refine And.intro ⟨_, _, rfl, rfl, ?_⟩ ?_ | exact Or.inr rfl | refine Or.inl ⟨?_, (by first | rfl | exact aY _ _)⟩ | rfl)))
  ·dsimp only
   rw [Cp hm1, BU hm1, iE l _ k (by omega), gL l k (by omega), jO, if_neg (by omega), if_pos hq, n10 hq]
   refine ⟨by omega, ?_, by simp [dG]; omega, by omega⟩
   have e1 : xs.length = pts.length + eC (l.take k) := by omega
   rw [← List.append_assoc pts, ← hxs, ← e1]
   simp only [List.append_assoc, List.length_append, List.length_cons, List.length_nil, dG, hm1, Nat.zero_add]
   clear l2Add_ih hxs hck hnt n9 n10 n1
   grind
  ·dsimp only;omega
 ·(apply dK (k + 1, _, _); focus (refine Le.ren [(1, 5)] rfl (by decide) ?_ ?_ <;> repeat' (first | exact trivial | refine And.intro ⟨_, rfl, ?_⟩ ?_ | refine And.intro ⟨_, _, rfl, rfl, ?_⟩ ?_ | exact Or.inr rfl | refine Or.inl ⟨?_, (by first | rfl | exact aY _ _)⟩ | rfl)))
  ·dsimp only
   rw [iE l _ k (by omega), gL l k (by omega), jO, if_neg ‹¬l[k]!.op = 9›, if_neg hq, n1 ‹¬l[k]!.op = 9› hq]
   refine ⟨by omega, ?_, by simp [dG]; omega, by omega⟩
   have e1 : xs.length = pts.length + eC (l.take k) := by omega
   rw [← List.append_assoc pts, ← hxs, ← e1, hm1]
  ·dsimp only;omega
 ·refine aO rfl ?_
  have e2 : l.take k = l := List.take_of_length_le (by omega)
  rw [e2] at hxs hm2
  refine bU () trivial ?_ ⟨.inr (Eq.trans (b := some _) rfl ?_), trivial⟩
  ·simp only [b0]; rw [hm2]
  ·rw [hxs]
theorem Im (l : List AL.Stmt) (pts : List Pnt) (m : Nat) (hs : bX l ≤ 1000000) (hm : m = pts.length) (hb : m + eC l ≤ 12000000) : MC Tryz.prog 100 [.own 0 0 m 5, sl aZ l] [(0, some (aI dV pts))] 1 (fun _ : Unit => True) (fun _ => .own 1 0 (m + eC l) 5) (fun _ => [(1, some (aI dV (pts ++ iM pts.length l)))]) := by
 have h : ∀ (mm : Nat), mm ≤ 1000000 → ∀ l pts m, bX l ≤ mm → m = pts.length → m + eC l ≤ 12000000 → MC Tryz.prog 100 [.own 0 0 m 5, sl aZ l] [(0, some (aI dV pts))] 1 (fun _ : Unit => True) (fun _ => .own 1 0 (m + eC l) 5) (fun _ => [(1, some (aI dV (pts ++ iM pts.length l)))]) := by
  intro mm
  induction mm using Nat.strongRecOn with
  | ind mm ih =>
   intro h0 l pts m h1 h2 h3
   exact E9 mm h0 (fun l' pts' m' g1 g2 g3 => ih _ g1 (by omega) l' pts' m' (Nat.le_refl _) g2 g3) l pts m h1 h2 h3
 exact h _ hs l pts m (Nat.le_refl _) hm hb
theorem tX (p : Prg) (hs : bX p.body ≤ 1000000) : PC Tryz.prog 60 [dF p] (fun r => r = sl dV (dC p)) := by
 have hn := lO p.body
 have e0 : ([] : List AV) = aI dV [] := rfl
 (refine aS Tryz.func60 rfl (by simp [Tryz.ntmps60]) ?_; rw [Tryz.ntmps60])
 repeat' (first|(apply aL;first|(apply aN;rfl;rfl;rfl;rfl)|(apply aD;rfl;rfl;rfl)|(apply aC;rfl;rfl)|(apply zM;rfl;rfl;(exact Dt rfl);(apply Im <;> (first|assumption|omega|(simp only [gH] <;> omega)));rfl;rfl)|(apply bW;rfl;rfl;rfl;rfl;rfl;(rw [aP]; simp only [gH] <;> omega);(rfl);omega;omega;(exact l7 (by (simp only [gH] <;> omega)));rfl;rfl)|(apply aF;kernel_rfl)|(apply b8;rfl;(exact (rfl:_=some [_, _, _, _, _]));(exact (rfl:_=[_, _, _, _, _]));rfl)|(apply bH;rfl;rfl;rfl;rfl)|(apply bZ;rfl;rfl;rfl;(first|exact (rfl:_=some [_, _, _, _, _])|rfl);rfl;rfl))|(apply aM;first|apply aH|apply aB|apply aR)|with_reducible apply aA)
 (refine cD (Le.frzD (d := 2) (i := 4) rfl rfl) ?_; refine aO rfl ?_)
 refine ⟨?_, (by (exact aY _ _))⟩
 simp only [b0, sl, dC, List.length_append, List.length_cons, List.length_nil, dG, Nat.zero_add, List.nil_append]
theorem yU (ts : List Int) (bd : List AL.Stmt) (pts : List Pnt) (v : Int) (h : 0 ≤ v ∧ v < ts.length) : PC Tryz.prog 131 [aG ts bd pts, iv v] (fun r => r = bv (vW ts[v.toNat]!)) := by
 (refine aS Tryz.func131 rfl (by simp [Tryz.ntmps131]) ?_; rw [Tryz.ntmps131])
 repeat' (first|(apply aL;first|(apply aE;rfl;rfl)|(apply aN;rfl;rfl;rfl;rfl)|(apply aD;rfl;rfl;rfl)|(first|(apply a8;rfl;rfl;rfl;(assumption))|(apply bC;rfl;rfl;rfl;(assumption))|(apply bR;(case hj|hb|hN => rfl);all_goals (intro hg;have hq := hg;(try simp only [cJ] at hq);(try (exfalso;omega)))))|(apply aU;rfl;rfl;rfl;rfl)|(apply aC;rfl;rfl)|(first|(apply bY;rfl;(assumption);rfl;rfl)|(apply bQ;rfl;(assumption);rfl;rfl))|(apply cL;(case hx|hi => rfl);(case hm => (assumption));(case hml => (rfl));(case hα | hf|hg => infer_instance);(case hN => rfl))|(apply aF;kernel_rfl)|(apply cA;rfl;rfl;rfl))|(apply aM;first|apply aH|apply aB|apply aR)|with_reducible apply aA|((with_reducible apply aO);case hr => rfl))
 all_goals (refine ⟨?_, rfl⟩; simp only [b0, AV.v.injEq, Value.bool.injEq, Value.int.injEq, true_and])
 all_goals grind [vW]
theorem LP (ts : List Int) (bd : List AL.Stmt) (pts : List Pnt) (x : Pnt) (v : Int) (h : 0 ≤ v ∧ v < ts.length) : PC Tryz.prog 224 [aG ts bd pts, fQ x, iv v] (fun r => r = iv (cC ts x v)) := by
 (refine aS Tryz.func224 rfl (by simp [Tryz.ntmps224]) ?_; rw [Tryz.ntmps224])
 repeat' (first|(apply aL;first|(apply aE;rfl;rfl)|(apply aN;rfl;rfl;rfl;rfl)|(apply aD;rfl;rfl;rfl)|(first|(apply a8;rfl;rfl;rfl;(assumption))|(apply bC;rfl;rfl;rfl;(assumption))|(apply bR;(case hj|hb|hN => rfl);all_goals (intro hg;have hq := hg;(try simp only [cJ] at hq);(try (exfalso;omega)))))|(apply aU;rfl;rfl;rfl;rfl)|(apply aC;rfl;rfl)|(first|(apply bY;rfl;(assumption);rfl;rfl)|(apply bQ;rfl;(assumption);rfl;rfl))|((with_reducible apply aJ (k := 131));(case ha => rfl);(case h => (apply yU <;> (assumption)));(case hp => (exact Pur.pf));(case hN => rfl))|(apply aF;kernel_rfl)|(apply bH;rfl;rfl;rfl;rfl))|(apply aM;first|apply aH|apply aB|(apply cB;rfl;(assumption))|(apply cG;rfl;(first|rfl|assumption))|(apply aQ;rfl;all_goals intro hc;have hq:=hc;(try simp only [cJ] at hq);try exfalso;omega)|apply aK|apply aT|apply aR)|with_reducible apply aA|with_reducible apply bG|with_reducible apply aX|with_reducible apply cP|((with_reducible apply aO);case hr => rfl))
 all_goals (refine ⟨?_, rfl⟩; simp only [b0, AV.v.injEq, Value.bool.injEq, Value.int.injEq, true_and])
 all_goals grind [vW, cC]
theorem xS (x : Pnt) : PC Tryz.prog 206 [fQ x] (fun r => r = iv (bT x)) := by
 (refine aS Tryz.func206 rfl (by simp [Tryz.ntmps206]) ?_; rw [Tryz.ntmps206])
 repeat' (first|(apply aL;first|(apply aN;rfl;rfl;rfl;rfl)|(apply aD;rfl;rfl;rfl)|(apply aU;rfl;rfl;rfl;rfl)|(apply aC;rfl;rfl)|(apply aF;kernel_rfl)|(apply bH;rfl;rfl;rfl;rfl))|(apply aM;first|apply aH|apply aB|(apply cB;rfl;(assumption))|(apply aQ;rfl;all_goals intro hc;have hq:=hc;(try simp only [cJ] at hq);try exfalso;omega)|apply aK|apply aT|apply aR)|with_reducible apply aA|with_reducible apply bG|with_reducible apply aX|with_reducible apply cP|((with_reducible apply aO);case hr => rfl))
 all_goals (refine ⟨?_, rfl⟩; simp only [b0, AV.v.injEq, Value.bool.injEq, Value.int.injEq, true_and])
 all_goals grind [bT]
theorem mM (x : Pnt) : PC Tryz.prog 207 [fQ x] (fun r => r = bv (fG x)) := by
 (refine aS Tryz.func207 rfl (by simp [Tryz.ntmps207]) ?_; rw [Tryz.ntmps207])
 repeat' (first|(apply aL;first|(apply aE;rfl;rfl)|(apply aN;rfl;rfl;rfl;rfl)|(apply aD;rfl;rfl;rfl)|(first|(apply a8;rfl;rfl;rfl;(assumption))|(apply bC;rfl;rfl;rfl;(assumption))|(apply bR;(case hj|hb|hN => rfl);all_goals (intro hg;have hq := hg;(try simp only [cJ] at hq);(try (exfalso;omega)))))|(apply aU;rfl;rfl;rfl;rfl)|(apply aC;rfl;rfl)|(first|(apply bY;rfl;(assumption);rfl;rfl)|(apply bQ;rfl;(assumption);rfl;rfl))|(apply aF;kernel_rfl)|(apply bH;rfl;rfl;rfl;rfl))|(apply aM;first|apply aH|apply aB|apply aR)|with_reducible apply aA|((with_reducible apply aO);case hr => rfl))
 all_goals (refine ⟨?_, rfl⟩; simp only [b0, AV.v.injEq, Value.bool.injEq, Value.int.injEq, true_and])
 all_goals grind [fG]
theorem o9 (x : Pnt) (h : bT x < 62) : PC Tryz.prog 212 [fQ x] (fun r => r = iv (iY x : Nat)) := by
 (refine aS Tryz.func212 rfl (by simp [Tryz.ntmps212]) ?_; rw [Tryz.ntmps212])
 repeat' (first|(apply aL;first|(apply aE;rfl;rfl)|(apply aV;rfl;rfl;(exact (rfl:_=[_, _, _, _, _]));rfl;rfl;rfl)|(first|(apply iU;rfl;rfl;infer_instance;omega;rfl;(case' kk => intro hsm))|(apply aU;rfl;rfl;rfl;rfl))|(apply aC;rfl;rfl)|((with_reducible apply aJ (k := 206));(case ha => rfl);(case h => (apply xS <;> (fail)));(case hp => (exact Pur.pf));(case hN => rfl))|(apply aF;kernel_rfl)|(apply bH;rfl;rfl;rfl;rfl))|(apply aM;first|apply aH|apply aB|(apply aQ;rfl;all_goals intro hc;have hq:=hc;(try simp only [cJ] at hq);try exfalso;omega)|apply aT|apply aR)|with_reducible apply aA|with_reducible apply bG|((with_reducible apply aO);case hr => rfl))
 all_goals (refine ⟨?_, rfl⟩; simp only [b0, AV.v.injEq, Value.bool.injEq, Value.int.injEq, true_and])
 all_goals (unfold iY)
 ·rw [if_pos (by omega)]
 ·rw [if_neg (by omega)]; rfl
theorem L1 (ts : List Int) (bd : List AL.Stmt) (pts : List Pnt) (h : ts.length ≤ 6) : PC Tryz.prog 239 [aG ts bd pts] (fun r => r = iv ((2 ^ ts.length - 1 : Nat) : Int)) := by
 have h1 : 2 ^ ts.length ≤ 2 ^ 6 := Nat.pow_le_pow_right (by decide) h
 have h2 : 0 < 2 ^ ts.length := Nat.pow_pos (by decide)
 have h3 : 2 ^ (ts.length : Int).toNat ≤ 2 ^ 6 := h1
 have h4 : 2 ^ (ts.length : Int).toNat = 2 ^ ts.length := rfl
 (refine aS Tryz.func239 rfl (by simp [Tryz.ntmps239]) ?_; rw [Tryz.ntmps239])
 repeat' (first|(apply aL;first|(apply aE;rfl;rfl)|(apply aN;rfl;rfl;rfl;rfl)|(apply aD;rfl;rfl;rfl)|(first|(apply iU;rfl;rfl;infer_instance;omega;rfl;(case' kk => intro hsm))|(apply iB;rfl;rfl;omega;rfl))|(apply aC;rfl;rfl)|(apply bI;rfl;rfl;rfl)|(apply aF;kernel_rfl)|(apply cA;rfl;rfl;rfl))|(apply aM;first|apply aH|apply aB|apply aR)|with_reducible apply aA|((with_reducible apply aO);case hr => rfl))
 all_goals (refine ⟨?_, rfl⟩; simp only [b0, AV.v.injEq, Value.bool.injEq, Value.int.injEq, true_and])
 omega
def Hh (xs : List Int) (v : Int) : Int := match xs.findIdx? (fun t => decide (t = v)) with | some i => i | none => -1
theorem HZ (xs : List Int) (v : Int) (hl : xs.length ≤ 1000000) : PC Tryz.prog 124 [sl cI xs, iv v] (fun r => r = iv (Hh xs v)) := by
 (refine aS Tryz.func124 rfl (by simp [Tryz.ntmps124]) ?_; rw [Tryz.ntmps124])
 repeat' (first|(apply aL;first|(apply aE;rfl;rfl)|(apply aC;rfl;rfl)|(apply bI;rfl;rfl;rfl)|(apply aF;kernel_rfl))|(apply aM;first|apply aH|apply aB|apply aK)|with_reducible apply aA)
 refine bB (σ := Nat) [0, 1, 7] [(0, _), (1, _), (7, _)] [] [] (fun k => [(8, iv (k : Int))]) (fun k => []) (fun k => k ≤ xs.length ∧ ∀ i, i < k → xs[i]! ≠ v) (fun k => xs.length - k) (0) ⟨by omega, by omega⟩ rfl rfl (by repeat' (first|exact trivial|refine And.intro rfl ?_)) (by repeat' (exact trivial)) ?_
 intro k ⟨hk, hall⟩
 repeat' (first|(apply aL;first|(apply aE;rfl;rfl)|(apply aN;rfl;rfl;rfl;rfl)|(first|(apply bS;rfl;rfl;omega;rfl)|(apply aU;rfl;rfl;rfl;rfl))|(apply aC;rfl;rfl)|(apply a7;(case hx|hi => rfl);(case hm => (omega));(case hml => (rfl));(case hα | hf|hg => infer_instance);(case hN => rfl))|(apply aF;kernel_rfl))|(apply aM;first|apply aH|apply aB|(apply aQ;rfl;all_goals intro hc;have hq:=hc;(try simp only [cJ] at hq);try exfalso;omega)|apply aK|apply aT|apply bK|apply aR)|with_reducible apply aA|with_reducible apply bG|with_reducible apply bJ|with_reducible apply aX|with_reducible apply cP|with_reducible apply bO|((with_reducible apply aO);case hr => rfl))
 ·(refine ⟨?_, rfl⟩; simp only [b0, AV.v.injEq, Value.bool.injEq, Value.int.injEq, true_and])
  have hlt : k < xs.length := by omega
  have : xs.findIdx? (fun t => decide (t = v)) = some k := by
   rw [List.findIdx?_eq_some_iff_getElem]
   refine ⟨hlt, ?_, fun j hj => ?_⟩
   ·rw [← cT xs k hlt]; grind
   ·have := hall j hj;rw [cT xs j (by omega)] at this;simpa using this
  simp only [Hh, this]
 ·(apply dK (k + 1); focus (refine Le.ren [] rfl (by decide) ?_ ?_ <;> repeat' (first | exact trivial | refine And.intro ⟨_, rfl, ?_⟩ ?_ | refine Or.inl ⟨?_, (by first | rfl | exact aY _ _)⟩ | rfl)))
  ·grind
  ·omega
 ·(refine ⟨?_, rfl⟩; simp only [b0, AV.v.injEq, Value.bool.injEq, Value.int.injEq, true_and])
  have : xs.findIdx? (fun t => decide (t = v)) = none := by
   rw [List.findIdx?_eq_none_iff]
   intro x hx
   obtain ⟨i, hi, rfl⟩ := List.getElem_of_mem hx
   have := hall i (by omega);rw [cT xs i hi] at this;simpa using this
  simp only [Hh, this]
theorem HX (xs : List Int) (v : Int) : decide (0 ≤ Hh xs v) = decide (v ∈ xs) := by
 unfold Hh
 split
 ·rename_i i h
  obtain ⟨h1, h2, _⟩ := List.findIdx?_eq_some_iff_getElem.1 h
  simp only [decide_eq_true_eq] at h2
  have : v ∈ xs := by rw [← h2]; exact List.getElem_mem h1
  simp [this]
 ·rename_i h
  rw [List.findIdx?_eq_none_iff] at h
  have : v ∉ xs := fun hm => by have := h v hm;simp at this
  simp [this]
theorem By (xs : List Int) (v : Int) (hl : xs.length ≤ 1000000) : PC Tryz.prog 78 [sl cI xs, iv v] (fun r => r = bv (decide (v ∈ xs))) := by
 (refine aS Tryz.func78 rfl (by simp [Tryz.ntmps78]) ?_; rw [Tryz.ntmps78])
 repeat' (first|(apply aL;first|(apply aE;rfl;rfl)|(apply aU;rfl;rfl;rfl;rfl)|(apply aC;rfl;rfl)|((with_reducible apply aJ (k := 124));(case ha => rfl);(case h => (apply HZ <;> (assumption)));(case hp => (exact Pur.pf));(case hN => rfl))|(apply aF;kernel_rfl))|(apply aM;first|apply aH|apply aB|apply aR)|with_reducible apply aA|((with_reducible apply aO);case hr => rfl))
 (refine ⟨?_, rfl⟩; simp only [b0, AV.v.injEq, Value.bool.injEq, Value.int.injEq, true_and])
 exact HX xs v
theorem Dd (ts : List Int) (bd : List AL.Stmt) (pts : List Pnt) (x : Pnt) (us : List Int) (h : ts.length ≤ 6) (hu : us.length ≤ 1000) : PC Tryz.prog 179 [aG ts bd pts, fQ x, sl cI us] (fun r => r = iv (wS ts x us : Nat)) := by
 (refine aS Tryz.func179 rfl (by simp [Tryz.ntmps179]) ?_; rw [Tryz.ntmps179])
 repeat' (first|(apply aL;first|(apply aE;rfl;rfl)|(apply aN;rfl;rfl;rfl;rfl)|(apply aD;rfl;rfl;rfl)|(apply aC;rfl;rfl)|(apply bI;rfl;rfl;rfl)|(apply aF;kernel_rfl)|(apply cA;rfl;rfl;rfl)|(apply bH;rfl;rfl;rfl;rfl))|(apply aM;first|apply aH|apply aB|apply aK)|with_reducible apply aA)
 refine bB (σ := Nat × Nat) [0, 2, 4, 14] [(0, _), (2, _), (4, _), (14, _)] [0] [(0, some _)] (fun k => [(15, iv (k.1 : Int)), (7, iv (k.2 : Int))]) (fun k => []) (fun k => k.1 ≤ ts.length ∧ k.2 = fZ (fun v => decide (cC ts x v ∈ us)) k.1) (fun k => ts.length - k.1) (0, 0) ⟨by omega, rfl⟩ rfl rfl (by repeat' (first|exact trivial|refine And.intro rfl ?_)) (by repeat' (exact trivial)) ?_
 rintro ⟨k, A⟩ ⟨hk, hA⟩
 dsimp only at hk hA ⊢
 have hsm : Sm A := hA ▸ dH (by omega)
 repeat' (first|(apply aL;first|(apply aE;rfl;rfl)|(apply aV;rfl;rfl;(exact (rfl:_=[_, _, _, _, _]));rfl;rfl;rfl)|(first|(apply gR;rfl;rfl;infer_instance;infer_instance;infer_instance;rfl)|(apply iU;rfl;rfl;infer_instance;omega;rfl;(case' kk => intro hsm))|(apply bS;rfl;rfl;omega;rfl)|(apply aU;rfl;rfl;rfl;rfl))|(apply aC;rfl;rfl)|(first|((with_reducible apply aJ (k := 78));(case ha => rfl);(case h => (apply By <;> (omega)));(case hp => (exact Pur.pf));(case hN => rfl))|((with_reducible apply aJ (k := 224));(case ha => rfl);(case h => (apply LP <;> (omega)));(case hp => (exact Pur.pf));(case hN => rfl)))|(apply aF;kernel_rfl))|(apply aM;first|apply aH|apply aB|(apply aQ;rfl;all_goals intro hc;have hq:=hc;(try simp only [cJ] at hq);try exfalso;omega)|apply aK|apply aT|apply bK|apply aR)|with_reducible apply aA|with_reducible apply bJ|with_reducible apply aX|with_reducible apply bO|((with_reducible apply aO);case hr => rfl))
 ·(apply dK (k + 1, _); focus (refine Le.ren [(0, 0)] rfl (by decide) ?_ ?_ <;> repeat' (first | exact trivial | refine And.intro ⟨_, rfl, ?_⟩ ?_ | refine And.intro ⟨_, _, rfl, rfl, ?_⟩ ?_ | exact Or.inr rfl | refine Or.inl ⟨?_, (by first | rfl | exact aY _ _ | exact Pur.pf)⟩ | rfl)))
  ·dsimp only
   rw [hA]
   exact ⟨by omega, qF _ _ (by simpa using hq)⟩
  ·dsimp only;omega
 ·(apply dK (k + 1, _); focus (refine Le.ren [(0, 0)] rfl (by decide) ?_ ?_ <;> repeat' (first | exact trivial | refine And.intro ⟨_, rfl, ?_⟩ ?_ | refine And.intro ⟨_, _, rfl, rfl, ?_⟩ ?_ | exact Or.inr rfl | refine Or.inl ⟨?_, (by first | rfl | exact aY _ _ | exact Pur.pf)⟩ | rfl)))
  ·dsimp only
   rw [hA]
   exact ⟨by omega, mE _ _ (by simpa using hq)⟩
  ·dsimp only;omega
 ·(refine ⟨?_, rfl⟩; simp only [b0, AV.v.injEq, Value.bool.injEq, Value.int.injEq, true_and])
  rw [hA, show k = ts.length by omega]; rfl
theorem jK (ts : List Int) (bd : List AL.Stmt) (pts : List Pnt) (x : Pnt) (h : ts.length ≤ 6) : PC Tryz.prog 120 [aG ts bd pts, fQ x] (fun r => r = iv (wS ts x [1, 2, 3] : Nat)) := by
 (refine aS Tryz.func120 rfl (by simp [Tryz.ntmps120]) ?_; rw [Tryz.ntmps120])
 repeat' (first|(apply aL;first|(apply aE;rfl;rfl)|(apply aV;rfl;rfl;(exact (rfl:_=[_, _, _, _, _]));rfl;rfl;rfl)|(apply aC;rfl;rfl)|((with_reducible apply aJ (k := 179));(case ha => rfl);(case h => (apply Dd (us := [1, 2, 3]) <;> (first|assumption|decide)));(case hp => (exact Pur.pf));(case hN => rfl))|(apply aF;kernel_rfl)|(apply bH;rfl;rfl;rfl;rfl)|((apply bE (t := _));(case hze|hsm|hl => rfl);(case hfl => (exact (rfl:_=some [_, _, _])));(case hM|hN => rfl)))|(apply aM;first|apply aH|apply aB|apply aR)|with_reducible apply aA|((with_reducible apply aO);case hr => rfl))
 (refine ⟨?_, rfl⟩; simp only [b0, AV.v.injEq, Value.bool.injEq, Value.int.injEq, true_and])
theorem rF (ts : List Int) (bd : List AL.Stmt) (pts : List Pnt) (x : Pnt) (h : ts.length ≤ 6) : PC Tryz.prog 205 [aG ts bd pts, fQ x] (fun r => r = iv (wS ts x [2] : Nat)) := by
 (refine aS Tryz.func205 rfl (by simp [Tryz.ntmps205]) ?_; rw [Tryz.ntmps205])
 repeat' (first|(apply aL;first|(apply aE;rfl;rfl)|(apply aV;rfl;rfl;(exact (rfl:_=[_, _, _, _, _]));rfl;rfl;rfl)|(apply aC;rfl;rfl)|((with_reducible apply aJ (k := 179));(case ha => rfl);(case h => (apply Dd (us := [2]) <;> (first|assumption|decide)));(case hp => (exact Pur.pf));(case hN => rfl))|(apply aF;kernel_rfl)|(apply bH;rfl;rfl;rfl;rfl)|((apply bE (t := _));(case hze|hsm|hl => rfl);(case hfl => exact (rfl:_=some [_]));(case hM|hN => rfl)))|(apply aM;first|apply aH|apply aB|apply aR)|with_reducible apply aA|((with_reducible apply aO);case hr => rfl))
 (refine ⟨?_, rfl⟩; simp only [b0, AV.v.injEq, Value.bool.injEq, Value.int.injEq, true_and])
theorem zO (ts : List Int) (bd : List AL.Stmt) (pts : List Pnt) (i : Int) (A : Nat) (h : WG ts pts) (hi : 0 ≤ i ∧ i < pts.length) (hA : Sm A) : PC Tryz.prog 210 [aG ts bd pts, iv i, iv (A : Int)] (fun r => r = iv (jA ts pts[i.toNat]! A : Nat)) := by
 have htl := h.tl
 have hst := (h.set i.toNat (by omega)).1
 have hs1 : Sm (wS ts pts[i.toNat]! [2]) := dH (by omega)
 have hs2 : Sm (iY pts[i.toNat]!) := rX (by omega)
 (refine aS Tryz.func210 rfl (by simp [Tryz.ntmps210]) ?_; rw [Tryz.ntmps210])
 repeat' (first|(apply aL;first|(apply aE;rfl;rfl)|(first|(apply aN;rfl;rfl;rfl;rfl)|(apply aV;rfl;rfl;(exact (rfl:_=[_, _, _, _, _]));rfl;rfl;rfl))|(apply aD;rfl;rfl;rfl)|(first|(apply gR;rfl;rfl;infer_instance;infer_instance;infer_instance;rfl)|(apply oJ;rfl;rfl;infer_instance;infer_instance;infer_instance;rfl))|(apply aC;rfl;rfl)|(apply cL;(case hx|hi => rfl);(case hm => (assumption));(case hml => (rfl));(case hα | hf|hg => infer_instance);(case hN => rfl))|(first|((with_reducible apply aJ (k := 205));(case ha => rfl);(case h => (apply rF <;> (assumption)));(case hp => (exact Pur.pf));(case hN => rfl))|((with_reducible apply aJ (k := 212));(case ha => rfl);(case h => (apply o9 <;> (omega)));(case hp => (exact Pur.pf));(case hN => rfl)))|(apply aF;kernel_rfl)|(apply cA;rfl;rfl;rfl)|(apply a6;rfl;rfl)|(apply aW;rfl;rfl;rfl;rfl;rfl;(case hl => (simp;done));(exact (rfl:_=[_, _, _, _, _]))))|(apply aM;first|apply aH|apply aB|(apply bV;kernel_rfl)|apply aR)|with_reducible apply aA|((with_reducible apply aO);case hr => rfl))
 (refine ⟨?_, rfl⟩; simp only [b0, AV.v.injEq, Value.bool.injEq, Value.int.injEq, true_and])
 rfl
theorem Bi (ts : List Int) (bd : List AL.Stmt) (pts : List Pnt) (A : List Nat) (w : WG ts pts) (hA : sF ts pts A) : PC Tryz.prog 209 [aG ts bd pts, iv 0, bv false, .clos (.func 210) [aG ts bd pts] []] (fun r => r = .imm pts.length (aI cN A)) := by
 have hpl := w.pl
 have hp0 := w.p0
 have htl := w.tl
 have fl := L6 w
 (refine aS Tryz.func209 rfl (by simp [Tryz.ntmps209]) ?_; rw [Tryz.ntmps209])
 repeat' (first|(apply aL;first|(apply aE;rfl;rfl)|(apply aN;rfl;rfl;rfl;rfl)|(apply aD;rfl;rfl;rfl)|(apply aC;rfl;rfl)|(apply cH;rfl;rfl;(assumption);rfl)|(apply bI;rfl;rfl;rfl)|(apply aF;kernel_rfl)|(apply cA;rfl;rfl;rfl)|(apply aW;rfl;rfl;rfl;rfl;rfl;(rw [aP]; simp only [gH] <;> omega);(exact uH (by (simp only [gH] <;> omega))))|(apply e7;rfl;rfl;rfl;omega;omega;(exact BD);rfl;rfl))|(apply aM;first|apply aH|apply aB|(apply cG;rfl;(rfl))|apply aK|apply aT)|with_reducible apply aA)
 refine bB (σ := List Nat × Bool) [0, 2, 3, 9] [(0, _), (2, _), (3, _), (9, _)] [] [] (fun s => [(11, bv s.2)]) (fun s => [(0, some (aI cN s.1))]) (fun s => SG pts (Mp ts pts) s.1 ∧ True ∧ (s.2 = false → lL nZ (fun i A => jA ts pts[i]! A) pts s.1)) (fun s => 2 * gJ (s.1.map (fun a => 2 ^ ts.length - a)) + s.2.toNat) (((List.replicate pts.length 0).set 0 0), true) ⟨by rw [mP (by rw [cT _ _ (by simpa using hp0), List.getElem_replicate]) (by simpa using hp0)]; exact Ce fun i hi => ⟨Nat.pow_pos (by decide), fun v h => by simp at h⟩, trivial, fun h => by cases h⟩ rfl rfl (by repeat' (first|exact trivial|refine And.intro rfl ?_)) (by repeat' (first|exact trivial|refine And.intro (.inr rfl) ?_)) ?_
 rintro ⟨s, b⟩ ⟨hS, hE, hC⟩
 dsimp only at hS hE hC ⊢
 repeat' (first|(apply aL;first|(apply aE;rfl;rfl)|(apply aN;rfl;rfl;rfl;rfl)|(apply aD;rfl;rfl;rfl)|(apply aC;rfl;rfl)|(apply bI;rfl;rfl;rfl)|(apply aF;kernel_rfl)|(apply cA;rfl;rfl;rfl))|(apply aM;first|apply aH|apply aB|(apply aQ;rfl;all_goals intro hc;have hq:=hc;(try simp only [cJ] at hq);try exfalso;omega)|apply aK|apply aT|apply bK|apply aR)|with_reducible apply aA|with_reducible apply bJ|with_reducible apply bO)
 ·refine bB (σ := Nat × (List Nat × Bool)) [0, 2, 3, 9, 43, 44] [(0, _), (2, _), (3, _), (9, _), (43, _), (44, _)] [] [] (fun k => [(45, iv (k.1 : Int)), (11, bv k.2.2)]) (fun k => [(0, some (aI cN k.2.1))]) (fun k => k.1 ≤ pts.length ∧ k.2 = (List.range k.1).foldl (yO nZ (fun i A => jA ts pts[i]! A) pts) (s, false) ∧ SG pts (Mp ts pts) k.2.1 ∧ True) (fun k => pts.length - k.1) (0, (s, false)) ⟨by omega, rfl, hS, hE⟩ rfl rfl (by repeat' (first | exact trivial | refine And.intro rfl ?_)) (by repeat' (first | exact trivial | refine And.intro (.inr rfl) ?_)) ?_
  rintro ⟨k, u, c⟩ ⟨hk, hf, hS2, hE2⟩
  dsimp only at hk hf hS2 hE2 ⊢
  have hsm : ∀ z, Sm u[z]! := tF hS2 (fun i A h => h.1) htl
  have hul := hS2.1
  repeat' (first|(apply aL;first|(apply aE;rfl;rfl)|(first|(apply eF;(case hx|hH => rfl);(case hf|hg|hα => infer_instance);(case hk => omega);(case hc|hN => rfl))|(apply aN;rfl;rfl;rfl;rfl)|(apply aV;rfl;rfl;(exact (rfl:_=[_, _, _, _, _]));rfl;rfl;rfl))|(apply aD;rfl;rfl;rfl)|(apply aU;rfl;rfl;rfl;rfl)|(apply aC;rfl;rfl)|(first|(apply a7;(case hx|hi => rfl);(case hm => (omega));(case hml => (rfl));(case hα | hf|hg => infer_instance);(case hN => rfl))|(apply cH;rfl;rfl;(omega);rfl))|(apply bI;rfl;rfl;rfl)|((with_reducible apply jZ);(case hx|hcl => rfl);(case hc => infer_instance);(case ha => rfl);(case h => (apply zO <;> (first|assumption|omega|infer_instance)));(case hp => (exact Pur.pf));(case hN => rfl))|(apply aF;kernel_rfl)|(apply a6;rfl;rfl)|(apply aW;rfl;rfl;rfl;rfl;rfl;(case hl => (simp;done));(exact (rfl:_=[_, _, _, _, _]))))|(apply aM;first|apply aH|apply aB|(apply aQ;rfl;all_goals intro hc;have hq:=hc;(try simp only [cJ] at hq);try exfalso;omega)|apply aK|apply aT|apply bK)|with_reducible apply aA|with_reducible apply bJ|with_reducible apply aX|with_reducible apply bO)
  ·have hkn : k < pts.length := by omega
   have hv := rT w hkn (hS2.2 k hkn).1
   have hvs : Sm (jA ts pts[k]! u[k]!) := ⟨Nat.lt_of_lt_of_le hv (Nat.pow_le_pow_right (by decide) (by omega))⟩
   have hvs' : Sm (jA ts pts[(k : Int).toNat]! u[k]!) := hvs
   have hnl := w.nl k hkn
   refine bB (σ := Nat × (List Nat × Bool)) [0, 2, 3, 9, 14, 43, 44, 45, 58, 59] [(0, _), (2, _), (3, _), (9, _), (14, _), (43, _), (44, _), (45, _), (58, _), (59, _)] [] [] (fun j => [(60, iv (j.1 : Int)), (11, bv j.2.2)]) (fun j => [(0, some (aI cN j.2.1))]) (fun j => j.1 ≤ pts[k]!.next.length ∧ j.2 = ((u9 pts k).take j.1).foldl (lT nZ (jA ts pts[k]! u[k]!)) (u, c) ∧ SG pts (Mp ts pts) j.2.1 ∧ True) (fun j => pts[k]!.next.length - j.1) (0, (u, c)) ⟨by omega, rfl, hS2, hE2⟩ rfl rfl (by repeat' (first|exact trivial|refine And.intro rfl ?_)) (by repeat' (first|exact trivial|refine And.intro (.inr rfl) ?_)) ?_
   rintro ⟨j, u2, c2⟩ ⟨hj, hf2, hS3, hE3⟩
   dsimp only at hj hf2 hS3 hE3 ⊢
   have hsm2 : ∀ z, Sm u2[z]! := tF hS3 (fun i A h => h.1) htl
   have hul2 := hS3.1
   have hz : j < pts[k]!.next.length → 0 ≤ pts[k]!.next[j]! ∧ pts[k]!.next[j]! < pts.length := fun h => w.nx k hkn _ (cM _ _ h)
   repeat' (first|(apply aL;first|(apply aE;rfl;rfl)|(first|(apply eF;(case hx|hH => rfl);(case hf|hg|hα => infer_instance);(case hk => omega);(case hc|hN => rfl))|(apply aN;rfl;rfl;rfl;rfl))|(first|(apply gR;rfl;rfl;infer_instance;infer_instance;infer_instance;rfl)|(apply bS;rfl;rfl;omega;rfl)|(apply aU;rfl;rfl;rfl;rfl))|(apply aC;rfl;rfl)|(first|(apply a7;(case hx|hi => rfl);(case hm => (omega));(case hml => (rfl));(case hα | hf|hg => infer_instance);(case hN => rfl))|(apply cQ;rfl;rfl;(omega);rfl))|(apply aF;kernel_rfl)|(apply aW;rfl;rfl;rfl;rfl;rfl;(rw [aP]; simp only [gH] <;> omega);(exact uH (by (omega)))))|(apply aM;first|apply aH|apply aB|(apply cG;rfl;(rfl))|(apply aQ;rfl;all_goals intro hc;have hq:=hc;(try simp only [cJ] at hq);try exfalso;omega)|apply aK|apply aT|apply bK)|with_reducible apply aA|with_reducible apply bJ|with_reducible apply aX|with_reducible apply bO)
   ·have hzz := hz (by omega)
    have hed : e8 pts k (pts[k]!.next[j]!).toNat := ⟨hkn, by rw [Int.toNat_of_nonneg hzz.1]; exact cM _ _ (by omega)⟩
    have hne : nZ u2[(pts[k]!.next[j]!).toNat]! (jA ts pts[k]! u[k]!) ≠ u2[(pts[k]!.next[j]!).toNat]! := fun h => hq (congrArg Int.ofNat h)
    (apply dK (j + 1, (_, true));focus (refine Le.ren [(0, 0)] rfl (by decide) ?_ ?_ <;> repeat' (first|exact trivial|refine And.intro ⟨_, rfl, ?_⟩ ?_|refine And.intro ⟨_, _, rfl, rfl, ?_⟩ ?_|exact Or.inr rfl|refine Or.inl ⟨?_, (by first|rfl|exact aY _ _|exact Pur.pf|exact PurV.pf)⟩|rfl)))
    ·dsimp only
     refine ⟨by omega, ?_, xH fl w (hS2.2 k hkn) hed hS3, trivial⟩
     rw [jT (by omega), ← hf2, y1 hne]; rfl
    ·dsimp only;omega
   ·have hzz := hz (by omega)
    have hne : nZ u2[(pts[k]!.next[j]!).toNat]! (jA ts pts[k]! u[k]!) = u2[(pts[k]!.next[j]!).toNat]! := Int.ofNat.inj hq
    (apply dK (j + 1, (u2, c2));focus (refine Le.ren [(0, 0)] rfl (by decide) ?_ ?_ <;> repeat' (first|exact trivial|refine And.intro ⟨_, rfl, ?_⟩ ?_|refine And.intro ⟨_, _, rfl, rfl, ?_⟩ ?_|exact Or.inr rfl|refine Or.inl ⟨?_, (by first|rfl|exact aY _ _|exact Pur.pf|exact PurV.pf)⟩|rfl)))
    ·dsimp only
     refine ⟨by omega, ?_, hS3, hE3⟩
     rw [jT (by omega), ← hf2, yS hne]
    ·dsimp only;omega
   ·(apply dK (k + 1, (u2, c2)); focus (refine Le.ren [(0, 0)] rfl (by decide) ?_ ?_ <;> repeat' (first | exact trivial | refine And.intro ⟨_, rfl, ?_⟩ ?_ | refine And.intro ⟨_, _, rfl, rfl, ?_⟩ ?_ | exact Or.inr rfl | refine Or.inl ⟨?_, (by first | rfl | exact aY _ _ | exact Pur.pf | exact PurV.pf)⟩ | rfl)))
    ·dsimp only
     refine ⟨by omega, ?_, hS3, hE3⟩
     rw [fD, ← hf, hf2, List.take_of_length_le (by rw [lH]; omega)]; rfl
    ·dsimp only;omega
  ·have law := uW w fl s false hS
   have hfull : (u, c) = y0 nZ (fun i A => jA ts pts[i]! A) pts (s, false) := by
    rw [hf, show k = pts.length by omega]; rfl
   rw [show y0 (fun a s => nZ a s) (fun i A => jA ts pts[i]! A) pts (s, false) = (u, c) from hfull.symm] at law
   (apply dK (u, c);focus (refine Le.ren [(0, 0)] rfl (by decide) ?_ ?_ <;> repeat' (first|exact trivial|refine And.intro ⟨_, rfl, ?_⟩ ?_|refine And.intro ⟨_, _, rfl, rfl, ?_⟩ ?_|exact Or.inr rfl|refine Or.inl ⟨?_, (by first|rfl|exact aY _ _|exact Pur.pf|exact PurV.pf)⟩|rfl)))
   ·dsimp only
    refine ⟨hS2, hE2, fun h => ?_⟩
    rcases law.2 with ⟨e1, e2⟩ | ⟨e1, _⟩
    ·cases e1;exact e2
    ·dsimp only at e1;rw [h] at e1;cases e1
   ·dsimp only
    have hb : b = true := by assumption
    subst hb
    rcases law.2 with ⟨e1, e2⟩ | ⟨e1, e2⟩
    ·cases e1;simp
    ·dsimp only at e1 e2;subst e1;omega
 ·have hb : b = false := by assumption
  refine cD (Le.frzD (d := 8) (i := 0) rfl rfl) ?_
  refine aO rfl ⟨?_, (by (exact aY _ _))⟩
  simp only [b0]
  rw [EC hA (FK w hS (hC hb))]
theorem Ca (ts : List Int) (bd : List AL.Stmt) (pts : List Pnt) (A : List Nat) (w : WG ts pts) (hA : tE ts pts A) : PC Tryz.prog 209 [aG ts bd pts, iv 0, bv true, .clos (.func 210) [aG ts bd pts] []] (fun r => r = .imm pts.length (aI cN A)) := by
 have hpl := w.pl
 have hp0 := w.p0
 have htl := w.tl
 have fl := LK w
 (refine aS Tryz.func209 rfl (by simp [Tryz.ntmps209]) ?_; rw [Tryz.ntmps209])
 repeat' (first|(apply aL;first|(apply aE;rfl;rfl)|(apply aN;rfl;rfl;rfl;rfl)|(apply aD;rfl;rfl;rfl)|(apply aC;rfl;rfl)|(apply bI;rfl;rfl;rfl)|(apply aF;kernel_rfl)|(apply cA;rfl;rfl;rfl)|(apply e7;rfl;rfl;rfl;omega;omega;(exact BD);rfl;rfl))|(apply aM;first|apply aH|apply aB|(apply cB;rfl;(rfl))|apply aK)|with_reducible apply aA)
 refine bB (σ := Nat × List Nat) [0, 1, 2, 3, 9, 26] [(0, _), (1, _), (2, _), (3, _), (9, _), (26, _)] [] [] (fun k => [(27, iv (k.1 : Int))]) (fun k => [(0, some (aI cN k.2))]) (fun k => k.1 ≤ pts.length ∧ k.2 = List.replicate k.1 (2 ^ ts.length - 1) ++ List.replicate (pts.length - k.1) 0) (fun k => pts.length - k.1) (0, List.replicate pts.length 0) ⟨by omega, by simp⟩ rfl rfl (by repeat' (first|exact trivial|refine And.intro rfl ?_)) (by repeat' (first|exact trivial|refine And.intro (.inr rfl) ?_)) ?_
 rintro ⟨k0, u0⟩ ⟨hk0, hu0⟩
 dsimp only at hk0 hu0 ⊢
 have hul0 : u0.length = pts.length := by rw [hu0]; simp;omega
 repeat' (first|(apply aL;first|(apply aE;rfl;rfl)|(first|(apply bS;rfl;rfl;omega;rfl)|(apply aU;rfl;rfl;rfl;rfl))|(apply aC;rfl;rfl)|(apply cH;rfl;rfl;(first|assumption|omega);rfl)|((with_reducible apply aJ (k := 239));(case ha => rfl);(case h => (apply L1 <;> (assumption)));(case hp => (exact Pur.pf));(case hN => rfl))|(apply aF;kernel_rfl)|(apply aW;rfl;rfl;rfl;rfl;rfl;(rw [aP]; simp only [gH] <;> omega);(exact uH (by (first|omega|(simp only [gH] <;> omega))))))|(apply aM;first|apply aH|apply aB|(apply aQ;rfl;all_goals intro hc;have hq:=hc;(try simp only [cJ] at hq);try exfalso;omega)|apply aK|apply aT|apply bK)|with_reducible apply aA|with_reducible apply bJ|with_reducible apply aX|with_reducible apply bO)
 ·(apply dK (k0 + 1, _); focus (refine Le.ren [(0, 0)] rfl (by decide) ?_ ?_ <;> repeat' (first | exact trivial | refine And.intro ⟨_, rfl, ?_⟩ ?_ | refine And.intro ⟨_, _, rfl, rfl, ?_⟩ ?_ | exact Or.inr rfl | refine Or.inl ⟨?_, (by first | rfl | exact aY _ _ | exact Pur.pf | exact PurV.pf)⟩ | rfl)))
  ·dsimp only
   exact ⟨by omega, by rw [hu0]; exact IQ (by omega)⟩
  ·dsimp only;omega
 have hk1 : k0 = pts.length := by omega
 subst hk1
 rw [Nat.sub_self, List.replicate_zero, List.append_nil] at hu0
 refine bB (σ := List Nat × Bool) [0, 2, 3, 9] [(0, _), (2, _), (3, _), (9, _)] [] [] (fun s => [(11, bv s.2)]) (fun s => [(0, some (aI cN s.1))]) (fun s => SG pts (Lx ts pts) s.1 ∧ s.1[0]! = 0 ∧ (s.2 = false → lL J5 (fun i A => jA ts pts[i]! A) pts s.1)) (fun s => 2 * gJ (s.1.map (fun a => a)) + s.2.toNat) ((u0.set 0 0), true) ⟨(Gz w hu0).1, (Gz w hu0).2, fun h => by cases h⟩ rfl rfl (by repeat' (first|exact trivial|refine And.intro rfl ?_)) (by repeat' (first|exact trivial|refine And.intro (.inr rfl) ?_)) ?_
 rintro ⟨s, b⟩ ⟨hS, hE, hC⟩
 dsimp only at hS hE hC ⊢
 repeat' (first|(apply aL;first|(apply aE;rfl;rfl)|(apply aN;rfl;rfl;rfl;rfl)|(apply aD;rfl;rfl;rfl)|(apply aC;rfl;rfl)|(apply bI;rfl;rfl;rfl)|(apply aF;kernel_rfl)|(apply cA;rfl;rfl;rfl))|(apply aM;first|apply aH|apply aB|(apply aQ;rfl;all_goals intro hc;have hq:=hc;(try simp only [cJ] at hq);try exfalso;omega)|apply aK|apply aT|apply bK|apply aR)|with_reducible apply aA|with_reducible apply bJ|with_reducible apply bO)
 ·refine bB (σ := Nat × (List Nat × Bool)) [0, 2, 3, 9, 43, 44] [(0, _), (2, _), (3, _), (9, _), (43, _), (44, _)] [] [] (fun k => [(45, iv (k.1 : Int)), (11, bv k.2.2)]) (fun k => [(0, some (aI cN k.2.1))]) (fun k => k.1 ≤ pts.length ∧ k.2 = (List.range k.1).foldl (yO J5 (fun i A => jA ts pts[i]! A) pts) (s, false) ∧ SG pts (Lx ts pts) k.2.1 ∧ k.2.1[0]! = 0) (fun k => pts.length - k.1) (0, (s, false)) ⟨by omega, rfl, hS, hE⟩ rfl rfl (by repeat' (first | exact trivial | refine And.intro rfl ?_)) (by repeat' (first | exact trivial | refine And.intro (.inr rfl) ?_)) ?_
  rintro ⟨k, u, c⟩ ⟨hk, hf, hS2, hE2⟩
  dsimp only at hk hf hS2 hE2 ⊢
  have hsm : ∀ z, Sm u[z]! := tF hS2 (fun i A h => h.1) htl
  have hul := hS2.1
  repeat' (first|(apply aL;first|(apply aE;rfl;rfl)|(first|(apply eF;(case hx|hH => rfl);(case hf|hg|hα => infer_instance);(case hk => omega);(case hc|hN => rfl))|(apply aN;rfl;rfl;rfl;rfl)|(apply aV;rfl;rfl;(exact (rfl:_=[_, _, _, _, _]));rfl;rfl;rfl))|(apply aD;rfl;rfl;rfl)|(apply aU;rfl;rfl;rfl;rfl)|(apply aC;rfl;rfl)|(first|(apply a7;(case hx|hi => rfl);(case hm => (omega));(case hml => (rfl));(case hα | hf|hg => infer_instance);(case hN => rfl))|(apply cH;rfl;rfl;(omega);rfl))|(apply bI;rfl;rfl;rfl)|((with_reducible apply jZ);(case hx|hcl => rfl);(case hc => infer_instance);(case ha => rfl);(case h => (apply zO <;> (first|assumption|omega|infer_instance)));(case hp => (exact Pur.pf));(case hN => rfl))|(apply aF;kernel_rfl)|(apply a6;rfl;rfl)|(apply aW;rfl;rfl;rfl;rfl;rfl;(case hl => (simp;done));(exact (rfl:_=[_, _, _, _, _]))))|(apply aM;first|apply aH|apply aB|(apply aQ;rfl;all_goals intro hc;have hq:=hc;(try simp only [cJ] at hq);try exfalso;omega)|apply aK|apply aT|apply bK)|with_reducible apply aA|with_reducible apply bJ|with_reducible apply aX|with_reducible apply bO)
  ·have hkn : k < pts.length := by omega
   have hv := rT w hkn (hS2.2 k hkn).1
   have hvs : Sm (jA ts pts[k]! u[k]!) := ⟨Nat.lt_of_lt_of_le hv (Nat.pow_le_pow_right (by decide) (by omega))⟩
   have hvs' : Sm (jA ts pts[(k : Int).toNat]! u[k]!) := hvs
   have hnl := w.nl k hkn
   refine bB (σ := Nat × (List Nat × Bool)) [0, 2, 3, 9, 14, 43, 44, 45, 58, 59] [(0, _), (2, _), (3, _), (9, _), (14, _), (43, _), (44, _), (45, _), (58, _), (59, _)] [] [] (fun j => [(60, iv (j.1 : Int)), (11, bv j.2.2)]) (fun j => [(0, some (aI cN j.2.1))]) (fun j => j.1 ≤ pts[k]!.next.length ∧ j.2 = ((u9 pts k).take j.1).foldl (lT J5 (jA ts pts[k]! u[k]!)) (u, c) ∧ SG pts (Lx ts pts) j.2.1 ∧ j.2.1[0]! = 0) (fun j => pts[k]!.next.length - j.1) (0, (u, c)) ⟨by omega, rfl, hS2, hE2⟩ rfl rfl (by repeat' (first|exact trivial|refine And.intro rfl ?_)) (by repeat' (first|exact trivial|refine And.intro (.inr rfl) ?_)) ?_
   rintro ⟨j, u2, c2⟩ ⟨hj, hf2, hS3, hE3⟩
   dsimp only at hj hf2 hS3 hE3 ⊢
   have hsm2 : ∀ z, Sm u2[z]! := tF hS3 (fun i A h => h.1) htl
   have hul2 := hS3.1
   have hz : j < pts[k]!.next.length → 0 ≤ pts[k]!.next[j]! ∧ pts[k]!.next[j]! < pts.length := fun h => w.nx k hkn _ (cM _ _ h)
   repeat' (first|(apply aL;first|(apply aE;rfl;rfl)|(first|(apply eF;(case hx|hH => rfl);(case hf|hg|hα => infer_instance);(case hk => omega);(case hc|hN => rfl))|(apply aN;rfl;rfl;rfl;rfl))|(first|(apply gR;rfl;rfl;infer_instance;infer_instance;infer_instance;rfl)|(apply yE;rfl;rfl;infer_instance;infer_instance;infer_instance;rfl)|(apply bS;rfl;rfl;omega;rfl)|(apply aU;rfl;rfl;rfl;rfl))|(apply aC;rfl;rfl)|(first|(apply a7;(case hx|hi => rfl);(case hm => (omega));(case hml => (rfl));(case hα | hf|hg => infer_instance);(case hN => rfl))|(apply cQ;rfl;rfl;(omega);rfl))|(apply aF;kernel_rfl)|(apply aW;rfl;rfl;rfl;rfl;rfl;(rw [aP]; simp only [gH] <;> omega);(exact uH (by (omega)))))|(apply aM;first|apply aH|apply aB|(apply cB;rfl;(rfl))|(apply aQ;rfl;all_goals intro hc;have hq:=hc;(try simp only [cJ] at hq);try exfalso;omega)|apply aK|apply aT|apply bK)|with_reducible apply aA|with_reducible apply bJ|with_reducible apply aX|with_reducible apply bO)
   ·have hzz := hz (by omega)
    have hed : e8 pts k (pts[k]!.next[j]!).toNat := ⟨hkn, by rw [Int.toNat_of_nonneg hzz.1]; exact cM _ _ (by omega)⟩
    have hne : J5 u2[(pts[k]!.next[j]!).toNat]! (jA ts pts[k]! u[k]!) ≠ u2[(pts[k]!.next[j]!).toNat]! := fun h => hq (congrArg Int.ofNat h)
    (apply dK (j + 1, (_, true));focus (refine Le.ren [(0, 0)] rfl (by decide) ?_ ?_ <;> repeat' (first|exact trivial|refine And.intro ⟨_, rfl, ?_⟩ ?_|refine And.intro ⟨_, _, rfl, rfl, ?_⟩ ?_|exact Or.inr rfl|refine Or.inl ⟨?_, (by first|rfl|exact aY _ _|exact Pur.pf|exact PurV.pf)⟩|rfl)))
    ·dsimp only
     refine ⟨by omega, ?_, xH fl w (hS2.2 k hkn) hed hS3, (by rw [eQ _ _ _ _ (by rw [hS3.1]; exact gG w hed)]; split <;> first|exact hE3|(rename_i q;rw [← q, hE3]; exact Nat.zero_and _))⟩
     rw [jT (by omega), ← hf2, y1 hne]; rfl
    ·dsimp only;omega
   ·have hzz := hz (by omega)
    have hne : J5 u2[(pts[k]!.next[j]!).toNat]! (jA ts pts[k]! u[k]!) = u2[(pts[k]!.next[j]!).toNat]! := Int.ofNat.inj hq
    (apply dK (j + 1, (u2, c2));focus (refine Le.ren [(0, 0)] rfl (by decide) ?_ ?_ <;> repeat' (first|exact trivial|refine And.intro ⟨_, rfl, ?_⟩ ?_|refine And.intro ⟨_, _, rfl, rfl, ?_⟩ ?_|exact Or.inr rfl|refine Or.inl ⟨?_, (by first|rfl|exact aY _ _|exact Pur.pf|exact PurV.pf)⟩|rfl)))
    ·dsimp only
     refine ⟨by omega, ?_, hS3, hE3⟩
     rw [jT (by omega), ← hf2, yS hne]
    ·dsimp only;omega
   ·(apply dK (k + 1, (u2, c2)); focus (refine Le.ren [(0, 0)] rfl (by decide) ?_ ?_ <;> repeat' (first | exact trivial | refine And.intro ⟨_, rfl, ?_⟩ ?_ | refine And.intro ⟨_, _, rfl, rfl, ?_⟩ ?_ | exact Or.inr rfl | refine Or.inl ⟨?_, (by first | rfl | exact aY _ _ | exact Pur.pf | exact PurV.pf)⟩ | rfl)))
    ·dsimp only
     refine ⟨by omega, ?_, hS3, hE3⟩
     rw [fD, ← hf, hf2, List.take_of_length_le (by rw [lH]; omega)]; rfl
    ·dsimp only;omega
  ·have law := uW w fl s false hS
   have hfull : (u, c) = y0 J5 (fun i A => jA ts pts[i]! A) pts (s, false) := by
    rw [hf, show k = pts.length by omega]; rfl
   rw [show y0 (fun a s => J5 a s) (fun i A => jA ts pts[i]! A) pts (s, false) = (u, c) from hfull.symm] at law
   (apply dK (u, c);focus (refine Le.ren [(0, 0)] rfl (by decide) ?_ ?_ <;> repeat' (first|exact trivial|refine And.intro ⟨_, rfl, ?_⟩ ?_|refine And.intro ⟨_, _, rfl, rfl, ?_⟩ ?_|exact Or.inr rfl|refine Or.inl ⟨?_, (by first|rfl|exact aY _ _|exact Pur.pf|exact PurV.pf)⟩|rfl)))
   ·dsimp only
    refine ⟨hS2, hE2, fun h => ?_⟩
    rcases law.2 with ⟨e1, e2⟩ | ⟨e1, _⟩
    ·cases e1;exact e2
    ·dsimp only at e1;rw [h] at e1;cases e1
   ·dsimp only
    have hb : b = true := by assumption
    subst hb
    rcases law.2 with ⟨e1, e2⟩ | ⟨e1, e2⟩
    ·cases e1;simp
    ·dsimp only at e1 e2;subst e1;omega
 ·have hb : b = false := by assumption
  refine cD (Le.frzD (d := 8) (i := 0) rfl rfl) ?_
  refine aO rfl ⟨?_, (by (exact aY _ _))⟩
  simp only [b0]
  rw [Eh hA (Hb w hS hE (hC hb))]
end Go.Proofs.YtckihjkcgfphmaaGreat
