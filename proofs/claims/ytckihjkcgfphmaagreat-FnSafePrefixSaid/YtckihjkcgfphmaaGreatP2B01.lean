/-
 A part of the proofs over this program: rules and contracts of its functions (the contracts).
-/
import Derived.Test.YtckihjkcgfphmaaGreatP2A05
import Derived.Test.YtckihjkcgfphmaaGreatRows
set_option linter.unusedVariables false
set_option linter.unusedSimpArgs false
set_option maxHeartbeats 8000000
set_option maxRecDepth 4000
attribute [local irreducible] Go.AL.RW Go.AL.AW Go.AL.Stop
namespace Go.Proofs.YtckihjkcgfphmaaGreat
open Go.AL
theorem dL (a b c : Int) : PC Tryz.prog 84 [iv a, iv b, iv c] (fun r => r = bv (decide (b ≤ a) && decide (a ≤ c))) := by
 (refine aS Tryz.func84 rfl (by simp [Tryz.ntmps84]) ?_; rw [Tryz.ntmps84])
 repeat' (first|(apply aL;first|(apply aE;rfl;rfl)|(first|(apply aY;rfl;rfl;rfl;(assumption))|(apply a7;rfl;rfl;rfl;(assumption))|(apply bE;(case hj|hb|hN => rfl);all_goals (intro hg;have hq := hg;(try simp only [cC] at hq);(try (exfalso;omega)))))|(apply aU;rfl;rfl;rfl;rfl)|(apply aC;rfl;rfl)|(first|(apply bJ;rfl;(assumption);rfl;rfl)|(apply bC;rfl;(assumption);rfl;rfl))|(apply aF;kernel_rfl))|(apply aM;first|apply aH|apply aB|apply aO)|with_reducible apply aA|((with_reducible apply aK);case hr => rfl))
 all_goals (refine ⟨?_, rfl⟩; simp only [bX, AV.v.injEq, Value.bool.injEq, Value.int.injEq, true_and])
 all_goals grind
theorem BV (t : Int) : PC Tryz.prog 208 [iv t] (fun r => r = bv (yV t)) := by
 (refine aS Tryz.func208 rfl (by simp [Tryz.ntmps208]) ?_; rw [Tryz.ntmps208])
 repeat' (first|(apply aL;first|(apply aE;rfl;rfl)|(first|(apply aY;rfl;rfl;rfl;(assumption))|(apply a7;rfl;rfl;rfl;(assumption))|(apply bE;(case hj|hb|hN => rfl);all_goals (intro hg;have hq := hg;(try simp only [cC] at hq);(try (exfalso;omega)))))|(apply aU;rfl;rfl;rfl;rfl)|(apply aC;rfl;rfl)|(first|(apply bJ;rfl;(assumption);rfl;rfl)|(apply bC;rfl;(assumption);rfl;rfl))|(apply aF;kernel_rfl))|(apply aM;first|apply aH|apply aB|apply aO)|with_reducible apply aA|((with_reducible apply aK);case hr => rfl))
 all_goals (refine ⟨?_, rfl⟩; simp only [bX, AV.v.injEq, Value.bool.injEq, Value.int.injEq, true_and])
 all_goals grind [yV]
theorem xL (t : Int) : PC Tryz.prog 204 [iv t] (fun r => r = bv (decide (t = 2) || yV t)) := by
 (refine aS Tryz.func204 rfl (by simp [Tryz.ntmps204]) ?_; rw [Tryz.ntmps204])
 repeat' (first|(apply aL;first|(apply aE;rfl;rfl)|(first|(apply aY;rfl;rfl;rfl;(assumption))|(apply a7;rfl;rfl;rfl;(assumption))|(apply bE;(case hj|hb|hN => rfl);all_goals (intro hg;have hq := hg;(try simp only [cC] at hq);(try (exfalso;omega)))))|(apply aU;rfl;rfl;rfl;rfl)|(apply aC;rfl;rfl)|(first|(apply bJ;rfl;(assumption);rfl;rfl)|(apply bC;rfl;(assumption);rfl;rfl))|((with_reducible apply aJ (k := 208));(case ha => rfl);(case h => (apply BV <;> (fail)));(case hp => (rfl));(case hN => rfl))|(apply aF;kernel_rfl))|(apply aM;first|apply aH|apply aB|apply aO)|with_reducible apply aA|((with_reducible apply aK);case hr => rfl))
 all_goals (refine ⟨?_, rfl⟩; simp only [bX, AV.v.injEq, Value.bool.injEq, Value.int.injEq, true_and])
 all_goals grind
theorem xH (t : Int) : PC Tryz.prog 162 [iv t] (fun r => r = bv (decide (t = 9) || decide (t = 10))) := by
 (refine aS Tryz.func162 rfl (by simp [Tryz.ntmps162]) ?_; rw [Tryz.ntmps162])
 repeat' (first|(apply aL;first|(apply aE;rfl;rfl)|(first|(apply aY;rfl;rfl;rfl;(assumption))|(apply a7;rfl;rfl;rfl;(assumption))|(apply bE;(case hj|hb|hN => rfl);all_goals (intro hg;have hq := hg;(try simp only [cC] at hq);(try (exfalso;omega)))))|(apply aU;rfl;rfl;rfl;rfl)|(apply aC;rfl;rfl)|(first|(apply bJ;rfl;(assumption);rfl;rfl)|(apply bC;rfl;(assumption);rfl;rfl))|(apply aF;kernel_rfl))|(apply aM;first|apply aH|apply aB|apply aO)|with_reducible apply aA|((with_reducible apply aK);case hr => rfl))
 all_goals (refine ⟨?_, rfl⟩; simp only [bX, AV.v.injEq, Value.bool.injEq, Value.int.injEq, true_and])
 all_goals grind
theorem BA (ts : List Int) (v : Int) : PC Tryz.prog 250 [sl cI ts, iv v] (fun r => r = iv (eY ts v)) := by
 (refine aS Tryz.func250 rfl (by simp [Tryz.ntmps250]) ?_; rw [Tryz.ntmps250])
 repeat' (first|(apply aL;first|(apply aE;rfl;rfl)|(apply aP;rfl;rfl;rfl;rfl)|(first|(apply aY;rfl;rfl;rfl;(assumption))|(apply a7;rfl;rfl;rfl;(assumption))|(apply bE;(case hj|hb|hN => rfl);all_goals (intro hg;have hq := hg;(try simp only [cC] at hq);(try (exfalso;omega)))))|(apply aU;rfl;rfl;rfl;rfl)|(apply aC;rfl;rfl)|(first|(apply bJ;rfl;(assumption);rfl;rfl)|(apply bC;rfl;(assumption);rfl;rfl))|(apply cM;(case hx|hi => rfl);(case hm => (omega));(case hml => (rfl));(case hα | hf|hg => infer_instance);(case hN => rfl))|(apply bM;rfl;rfl;rfl)|(apply aF;kernel_rfl))|(apply aM;first|apply aH|apply aB|(apply bR;rfl;(rfl))|(apply aQ;rfl;all_goals intro hc;have hq:=hc;(try simp only [cC] at hq);try exfalso;omega)|apply aV|apply aO)|with_reducible apply aA|with_reducible apply a8|((with_reducible apply aK);case hr => rfl))
 all_goals (refine ⟨?_, rfl⟩; simp only [bX, AV.v.injEq, Value.bool.injEq, Value.int.injEq, true_and])
 all_goals grind [eY]
theorem BL (ts : List Int) (v : Int) (hl : ts.length ≤ 1000000) : PC Tryz.prog 203 [sl cI ts, iv v] (fun r => r = iv (eY ts v)) := by
 (refine aS Tryz.func203 rfl (by simp [Tryz.ntmps203]) ?_; rw [Tryz.ntmps203])
 repeat' (first|(apply aL;first|(apply aE;rfl;rfl)|(apply aP;rfl;rfl;rfl;rfl)|(apply iB;rfl;rfl;omega;rfl)|(apply aC;rfl;rfl)|(apply cM;(case hx|hi => rfl);(case hm => (omega));(case hml => (rfl));(case hα | hf|hg => infer_instance);(case hN => rfl))|((with_reducible apply aJ (k := 84));(case ha => rfl);(case h => (apply dL <;> (fail)));(case hp => (rfl));(case hN => rfl))|(apply bM;rfl;rfl;rfl)|(apply aF;kernel_rfl)|(apply bW;rfl;rfl))|(apply aM;first|apply aH|apply aB|(apply aQ;rfl;all_goals intro hc;have hq:=hc;(try simp only [cC] at hq);try exfalso;omega)|apply aV|apply aO)|with_reducible apply aA|with_reducible apply a8|((with_reducible apply aK);case hr => rfl))
 all_goals (refine ⟨?_, rfl⟩; simp only [bX, AV.v.injEq, Value.bool.injEq, Value.int.injEq, true_and])
 all_goals grind [eY]
theorem v8 (ts : List Int) (s : AL.Stmt) (hl : cP ts = true) : PC Tryz.prog 163 [sl cI ts, eL s] (fun r => r = bv (s.th.isEmpty && s.el.isEmpty && dO ts s)) := by
 have hl2 := gA hl
 have hx := gV hl s.x
 have hy := gV hl s.y
 (refine aS Tryz.func163 rfl (by simp [Tryz.ntmps163]) ?_; rw [Tryz.ntmps163])
 repeat' (first|(apply aL;first|(apply aE;rfl;rfl)|(apply aP;rfl;rfl;rfl;rfl)|(apply aD;rfl;rfl;rfl)|(first|(apply kR;rfl;rfl;rfl)|(apply aY;rfl;rfl;rfl;(first|rfl|assumption))|(apply a7;rfl;rfl;rfl;(first|rfl|assumption))|(apply bE;(case hj|hb|hN => rfl);all_goals (intro hg;have hq := hg;(try simp only [cC] at hq);(try (exfalso;omega)))))|(apply aU;rfl;rfl;rfl;rfl)|(apply aC;rfl;rfl)|(first|(apply bJ;rfl;(first|rfl|assumption);rfl;rfl)|(apply bC;rfl;(first|rfl|assumption);rfl;rfl))|(first|((with_reducible apply aJ (k := 84));(case ha => rfl);(case h => (apply dL <;> (fail)));(case hp => (rfl));(case hN => rfl))|((with_reducible apply aJ (k := 203));(case ha => rfl);(case h => (apply BL <;> (omega)));(case hp => (exact Pur.pf));(case hN => rfl))|((with_reducible apply aJ (k := 204));(case ha => rfl);(case h => (apply xL <;> (fail)));(case hp => (rfl));(case hN => rfl)))|(apply bM;rfl;rfl;rfl)|(apply aF;kernel_rfl)|(apply bW;rfl;rfl)|(apply bA;rfl;rfl;rfl;rfl))|(apply aM;first|apply aH|apply aB|(apply bZ;kernel_rfl)|(apply bR;rfl;(first|rfl|assumption))|(apply b9;rfl;(assumption))|(apply aQ;rfl;all_goals intro hc;have hq:=hc;(try simp only [cC] at hq);try exfalso;omega)|apply aN|apply aV|apply aO)|with_reducible apply aA|with_reducible apply a8|with_reducible apply aX|with_reducible apply cA|((with_reducible apply aK);case hr => rfl))
 all_goals (refine ⟨?_, rfl⟩; simp only [bX, AV.v.injEq, Value.bool.injEq, Value.int.injEq, true_and])
 all_goals (cases hth : s.th <;> cases hel : s.el <;> simp only [hth, hel, List.length_nil, List.length_cons, List.isEmpty_nil, List.isEmpty_cons, Bool.true_and, Bool.false_and] at *)
 all_goals (try unfold dO)
 all_goals (try simp only [yV, Bool.or_eq_true, Bool.or_eq_false_iff, decide_eq_true_eq, decide_eq_false_iff_not] at *)
 all_goals grind
theorem xP (ts : List Int) (s : AL.Stmt) (hl : cP ts = true) : PC Tryz.prog 234 [sl cI ts, eL s] (fun r => r = bv (dO ts s)) := by
 have hl2 := gA hl
 have hx := gV hl s.x
 have hy := gV hl s.y
 (refine aS Tryz.func234 rfl (by simp [Tryz.ntmps234]) ?_; rw [Tryz.ntmps234])
 repeat' (first|(apply aL;first|(apply aE;rfl;rfl)|(apply aP;rfl;rfl;rfl;rfl)|(apply aD;rfl;rfl;rfl)|(first|(apply kR;rfl;rfl;rfl)|(apply aY;rfl;rfl;rfl;(first|rfl|assumption))|(apply a7;rfl;rfl;rfl;(first|rfl|assumption))|(apply bE;(case hj|hb|hN => rfl);all_goals (intro hg;have hq := hg;(try simp only [cC] at hq);(try (exfalso;omega)))))|(apply aU;rfl;rfl;rfl;rfl)|(apply aC;rfl;rfl)|(first|(apply bJ;rfl;(first|rfl|assumption);rfl;rfl)|(apply bC;rfl;(first|rfl|assumption);rfl;rfl))|((with_reducible apply aJ (k := 250));(case ha => rfl);(case h => (apply BA <;> (fail)));(case hp => (exact Pur.pf));(case hN => rfl))|(apply aF;kernel_rfl)|(apply bA;rfl;rfl;rfl;rfl))|(apply aM;first|apply aH|apply aB|(apply b9;rfl;(rfl))|(apply aQ;rfl;all_goals intro hc;have hq:=hc;(try simp only [cC] at hq);try exfalso;omega)|apply aN|apply aV|apply aO)|with_reducible apply aA|with_reducible apply a8|with_reducible apply aX|with_reducible apply cA|((with_reducible apply aK);case hr => rfl))
 all_goals (refine ⟨?_, rfl⟩; simp only [bX, AV.v.injEq, Value.bool.injEq, Value.int.injEq, true_and])
 all_goals (try unfold dO)
 all_goals grind
theorem zQ (ts : List Int) (hl : cP ts = true) (m : Nat) (ih : ∀ l (d : Int), bO l < m → 0 ≤ d → d ≤ 1000 → PC Tryz.prog 139 [sl cI ts, sl bB l, iv d] (fun r => r = bv (okL ts d.toNat l))) (s : AL.Stmt) (d : Int) (hs : c9 s ≤ m) (hd0 : 0 ≤ d) (hd : d ≤ 1000) :
  PC Tryz.prog 189 [sl cI ts, eL s, iv d] (fun r => r = bv (nS ts d.toNat s)) := by
 rw [Di ts d hd0]
 (refine aS Tryz.func189 rfl (by simp [Tryz.ntmps189]) ?_; rw [Tryz.ntmps189])
 repeat' (first|(apply aL;first|(apply aE;rfl;rfl)|(first|(apply aP;rfl;rfl;rfl;rfl)|(apply aR;rfl;rfl;(exact (rfl:_=[_, _, _, _, _, _]));rfl;rfl;rfl))|(apply aD;rfl;rfl;rfl)|(first|(apply kR;rfl;rfl;rfl)|(apply aY;rfl;rfl;rfl;(assumption))|(apply a7;rfl;rfl;rfl;(first|rfl|assumption))|(apply bE;(case hj|hb|hN => rfl);all_goals (intro hg;have hq := hg;(try simp only [cC] at hq);(try (exfalso;omega)))))|(first|(apply iB;rfl;rfl;omega;rfl)|(apply aU;rfl;rfl;rfl;rfl))|(apply aC;rfl;rfl)|(first|(apply bJ;rfl;(first|rfl|assumption);rfl;rfl)|(apply bC;rfl;(first|rfl|assumption);rfl;rfl))|(first|((with_reducible apply aJ (k := 139));(case ha => rfl);(case h => (apply ih <;> (first|omega|(have := jL s;omega))));(case hp => (exact Pur.pf));(case hN => rfl))|((with_reducible apply aJ (k := 234));(case ha => rfl);(case h => (apply xP <;> (assumption)));(case hp => (exact Pur.pf));(case hN => rfl)))|(apply bM;rfl;rfl;rfl)|(apply aF;kernel_rfl)|(apply bA;rfl;rfl;rfl;rfl))|(apply aM;first|apply aH|apply aB|(apply bR;rfl;(rfl))|(apply b9;rfl;(rfl))|(apply aQ;rfl;all_goals intro hc;have hq:=hc;(try simp only [cC] at hq);try exfalso;omega)|apply aV|apply aO)|with_reducible apply aA|with_reducible apply a8|((with_reducible apply aK);case hr => rfl))
 all_goals (refine ⟨?_, rfl⟩; simp only [bX, AV.v.injEq, Value.bool.injEq, Value.int.injEq, true_and])
 all_goals (cases hth : s.th <;> cases hel : s.el <;> simp only [hth, hel, List.length_nil, List.length_cons, List.isEmpty_nil, List.isEmpty_cons, Bool.true_and, Bool.false_and] at *)
 all_goals grind
theorem AI (ts : List Int) (hl : cP ts = true) (m : Nat) (ih : ∀ s (d : Int), c9 s ≤ m → 0 ≤ d → d ≤ 1000 → PC Tryz.prog 189 [sl cI ts, eL s, iv d] (fun r => r = bv (nS ts d.toNat s))) (l : List AL.Stmt) (d : Int) (hs : bO l ≤ m) (hm : m ≤ 100000000) (hd0 : 0 ≤ d) (hd : d ≤ 1000) :
  PC Tryz.prog 139 [sl cI ts, sl bB l, iv d] (fun r => r = bv (okL ts d.toNat l)) := by
 have hlen := dX l
 (refine aS Tryz.func139 rfl (by simp [Tryz.ntmps139]) ?_; rw [Tryz.ntmps139])
 repeat' (first|(apply aL;first|(apply aC;rfl;rfl)|(apply aF;kernel_rfl))|(apply aM;first|apply aH|apply aB|apply aN)|with_reducible apply aA)
 refine bL (σ := Nat) [0, 1, 2] [(0, _), (1, _), (2, _)] [] [] (fun k => [(7, iv (k : Int))]) (fun k => []) (fun k => k ≤ l.length ∧ ∀ i, i < k → nS ts d.toNat l[i]! = true) (fun k => l.length - k) (0) ⟨by omega, by omega⟩ rfl rfl (by repeat' (first|exact trivial|refine And.intro rfl ?_)) (by repeat' (exact trivial)) ?_
 intro k ⟨hk, hall⟩
 have hck := fF l k
 repeat' (first|(apply aL;first|((with_reducible apply aJ (k := 189));(case ha => rfl);(case h => (apply ih _ d (Nat.le_trans (hck (by omega)) hs) hd0 hd));(case hp => (exact Pur.pf));(case hN => rfl))|(apply aE;rfl;rfl)|(apply aR;rfl;rfl;(exact (rfl:_=[_, _, _, _, _, _]));rfl;rfl;rfl)|(first|(apply bN;rfl;rfl;omega;rfl)|(apply aU;rfl;rfl;rfl;rfl))|(apply aC;rfl;rfl)|(apply bI;(case hx|hi => rfl);(case hm => (omega));(case hml => (rfl));(case hα | hf|hg => infer_instance);(case hN => rfl))|(apply bM;rfl;rfl;rfl)|(apply aF;kernel_rfl)|(apply bW;rfl;rfl))|(apply aM;first|apply aH|apply aB|(apply aQ;rfl;all_goals intro hc;have hq:=hc;(try simp only [cC] at hq);try exfalso;omega)|apply aN|apply aV|apply bS|apply aO)|with_reducible apply aA|with_reducible apply a8|with_reducible apply bU|with_reducible apply aX|with_reducible apply cA|with_reducible apply bT|((with_reducible apply aK);case hr => rfl))
 ·(refine ⟨?_, rfl⟩; simp only [bX, AV.v.injEq, Value.bool.injEq, Value.int.injEq, true_and])
  rw [BP (k := k) (by omega) hq]
 ·(apply dG (k + 1); focus (refine Le.ren [] rfl (by decide) ?_ ?_ <;> repeat' (first | exact trivial | refine And.intro ⟨_, rfl, ?_⟩ ?_ | refine Or.inl ⟨?_, (by first | rfl | exact bH _ _)⟩ | rfl)))
  ·grind
  ·omega
 ·(refine ⟨?_, rfl⟩; simp only [bX, AV.v.injEq, Value.bool.injEq, Value.int.injEq, true_and])
  rw [DN (fun i hi => hall i (by omega))]
theorem Ej (ts : List Int) (hl : cP ts = true) : ∀ (m : Nat), m ≤ 100000000 → (∀ s (d : Int), c9 s ≤ m → 0 ≤ d → d ≤ 1000 → PC Tryz.prog 189 [sl cI ts, eL s, iv d] (fun r => r = bv (nS ts d.toNat s))) ∧
  (∀ l (d : Int), bO l ≤ m → 0 ≤ d → d ≤ 1000 → PC Tryz.prog 139 [sl cI ts, sl bB l, iv d] (fun r => r = bv (okL ts d.toNat l))) := by
 intro m
 induction m using Nat.strongRecOn with
 | ind m ih =>
  intro hm
  have h1 : ∀ s (d : Int), c9 s ≤ m → 0 ≤ d → d ≤ 1000 → PC Tryz.prog 189 [sl cI ts, eL s, iv d] (fun r => r = bv (nS ts d.toNat s)) :=
   fun s d h1 h2 h3 => zQ ts hl m (fun l d' g1 g2 g3 => (ih (bO l) g1 (by omega)).2 l d' (Nat.le_refl _) g2 g3) s d h1 h2 h3
  exact ⟨h1, fun l d g1 g2 g3 => AI ts hl m h1 l d g1 hm g2 g3⟩
theorem wM (m0 : Nat) (ih : ∀ l (most : Int), bO l < m0 → -1 ≤ most → most ≤ 1000 → PC Tryz.prog 140 [sl bB l, iv most] (fun r => r = iv (kU most 0 l))) (l : List AL.Stmt) (most : Int) (hs : bO l ≤ m0) (hm : m0 ≤ 100000000) (hd0 : -1 ≤ most) (hd : most ≤ 1000) :
  PC Tryz.prog 140 [sl bB l, iv most] (fun r => r = iv (kU most 0 l)) := by
 have hlen := dX l
 have hall := j7 l most 0
 (refine aS Tryz.func140 rfl (by simp [Tryz.ntmps140]) ?_; rw [Tryz.ntmps140])
 repeat' (first|(apply aL;first|(apply aC;rfl;rfl)|(apply aF;kernel_rfl))|(apply aM;first|apply aH|apply aB|apply aN)|with_reducible apply aA)
 refine bL (σ := Nat × Int) [0, 1] [(0, _), (1, _)] [] [] (fun k => [(6, iv (k.1 : Int)), (5, iv k.2)]) (fun k => []) (fun k => k.1 ≤ l.length ∧ kU most k.2 (l.drop k.1) = kU most 0 l ∧ 0 ≤ k.2 ∧ k.2 ≤ bO l) (fun k => l.length - k.1) (0, 0) ⟨by omega, rfl, by omega, by omega⟩ rfl rfl (by repeat' (first|exact trivial|refine And.intro rfl ?_)) (by repeat' (exact trivial)) ?_
 rintro ⟨k, n⟩ ⟨hk, hn, hn0, hn1⟩
 dsimp only at hk hn hn0 hn1 ⊢
 have hck := fF l k
 have hct := jL l[k]!
 have b1 := j7 l[k]!.th (most - n) 0
 have b2 := fun z => j7 l[k]!.el z 0
 have b3 := Bg l[k]! most n
 have b4 := j7 (l.drop (k + 1)) most (Bt most n l[k]!)
 have b5 := BO most n l k
 rw [Dz] at b3 b4 b5
 repeat' (first|(apply aL;first|((with_reducible apply aJ (k := 140));(case ha => rfl);(case h => (apply ih <;> omega));(case hp => (exact Pur.pf));(case hN => rfl))|(apply aE;rfl;rfl)|(apply aP;rfl;rfl;rfl;rfl)|(apply aD;rfl;rfl;rfl)|(first|(apply aY;rfl;rfl;rfl;(assumption))|(apply a7;rfl;rfl;rfl;(assumption))|(apply bE;(case hj|hb|hN => rfl);all_goals (intro hg;have hq := hg;(try simp only [cC] at hq);(try (exfalso;omega)))))|(first|(apply bN;rfl;rfl;omega;rfl)|(apply iB;rfl;rfl;omega;rfl)|(apply aU;rfl;rfl;rfl;rfl))|(apply aC;rfl;rfl)|(first|(apply bJ;rfl;(assumption);rfl;rfl)|(apply bC;rfl;(assumption);rfl;rfl))|(apply bI;(case hx|hi => rfl);(case hm => (omega));(case hml => (rfl));(case hα | hf|hg => infer_instance);(case hN => rfl))|(apply bM;rfl;rfl;rfl)|(apply aF;kernel_rfl))|(apply aM;first|apply aH|apply aB|(apply b9;rfl;(rfl))|(apply aQ;rfl;all_goals intro hc;have hq:=hc;(try simp only [cC] at hq);try exfalso;omega)|apply aN|apply aV|apply bS|apply aO)|with_reducible apply aA|with_reducible apply bU|with_reducible apply aX|with_reducible apply bT|((with_reducible apply aK);case hr => rfl))
 ·(apply Exists.intro (k + 1, n + 1 + kU (most - n) 0 l[k]!.th + kU (most - (n + 1 + kU (most - n) 0 l[k]!.th)) 0 l[k]!.el); refine And.intro ?_ (And.intro ?_ ?_); rotate_left 2; focus (refine Le.ren [] rfl (by decide) ?_ ?_ <;> repeat' (first | exact trivial | refine And.intro ⟨_, rfl, ?_⟩ ?_ | refine Or.inl ⟨?_, (by first | rfl | exact bH _ _)⟩ | rfl)))
  ·dsimp only;grind
  ·dsimp only;omega
 ·(apply dG (k + 1, n + 1 + kU (most - n) 0 l[k]!.th); focus (refine Le.ren [] rfl (by decide) ?_ ?_ <;> repeat' (first | exact trivial | refine And.intro ⟨_, rfl, ?_⟩ ?_ | refine Or.inl ⟨?_, (by first | rfl | exact bH _ _)⟩ | rfl)))
  ·dsimp only;grind
  ·dsimp only;omega
 ·(refine ⟨?_, rfl⟩; simp only [bX, AV.v.injEq, Value.bool.injEq, Value.int.injEq, true_and])
  rw [← hn, Cx _ _ _ (by omega)]
 ·(refine ⟨?_, rfl⟩; simp only [bX, AV.v.injEq, Value.bool.injEq, Value.int.injEq, true_and])
  rw [← hn, C7 _ _ _ _ (by omega)]
theorem zN (l : List AL.Stmt) (most : Int) (hs : bO l ≤ 100000000) (hd0 : -1 ≤ most) (hd : most ≤ 1000) :
  PC Tryz.prog 140 [sl bB l, iv most] (fun r => r = iv (kU most 0 l)) := by
 have h : ∀ (m : Nat), m ≤ 100000000 → ∀ l (most : Int), bO l ≤ m → -1 ≤ most → most ≤ 1000 → PC Tryz.prog 140 [sl bB l, iv most] (fun r => r = iv (kU most 0 l)) := by
  intro m
  induction m using Nat.strongRecOn with
  | ind m ih =>
   intro hm l most h1 h2 h3
   exact wM m (fun l' most' g1 g2 g3 => ih _ g1 (by omega) l' most' (Nat.le_refl _) g2 g3) l most h1 hm h2 h3
 exact h _ hs l most (Nat.le_refl _) hd0 hd
theorem CN (ts : List Int) (l : List AL.Stmt) (d : Int) (hl : cP ts = true) (hs : bO l ≤ 100000000) (hd0 : 0 ≤ d) (hd : d ≤ 1000) : PC Tryz.prog 139 [sl cI ts, sl bB l, iv d] (fun r => r = bv (okL ts d.toNat l)) :=
 (Ej ts hl _ hs).2 l d (Nat.le_refl _) hd0 hd
theorem qC (ts : List Int) (hl : ts.length ≤ 1000000) : PC Tryz.prog 138 [sl cI ts] (fun r => r = bv (cP ts)) := by
 (refine aS Tryz.func138 rfl (by simp [Tryz.ntmps138]) ?_; rw [Tryz.ntmps138])
 repeat' (first|(apply aL;first|(apply aC;rfl;rfl)|(apply aF;kernel_rfl))|(apply aM;first|apply aH|apply aB|apply aN)|with_reducible apply aA)
 refine bL (σ := Nat) [0] [(0, _)] [] [] (fun k => [(3, iv (k : Int))]) (fun k => []) (fun k => k ≤ ts.length ∧ ∀ i, i < k → 1 ≤ ts[i]! ∧ ts[i]! ≤ 4) (fun k => ts.length - k) (0) ⟨by omega, by omega⟩ rfl rfl (by repeat' (first|exact trivial|refine And.intro rfl ?_)) (by repeat' (exact trivial)) ?_
 intro k ⟨hk, hall⟩
 repeat' (first|(apply aL;first|(apply aE;rfl;rfl)|(apply aP;rfl;rfl;rfl;rfl)|(first|(apply aY;rfl;rfl;rfl;(assumption))|(apply a7;rfl;rfl;rfl;(assumption))|(apply bE;(case hj|hb|hN => rfl);all_goals (intro hg;have hq := hg;(try simp only [cC] at hq);(try (exfalso;omega)))))|(first|(apply bN;rfl;rfl;omega;rfl)|(apply aU;rfl;rfl;rfl;rfl))|(apply aC;rfl;rfl)|(first|(apply bJ;rfl;(assumption);rfl;rfl)|(apply bC;rfl;(assumption);rfl;rfl))|(apply bI;(case hx|hi => rfl);(case hm => (omega));(case hml => (rfl));(case hα | hf|hg => infer_instance);(case hN => rfl))|(apply bM;rfl;rfl;rfl)|(apply aF;kernel_rfl))|(apply aM;first|apply aH|apply aB|(apply bR;rfl;(rfl))|(apply aQ;rfl;all_goals intro hc;have hq:=hc;(try simp only [cC] at hq);try exfalso;omega)|apply aN|apply aV|apply bS|apply aO)|with_reducible apply aA|with_reducible apply a8|with_reducible apply bU|with_reducible apply aX|with_reducible apply cA|with_reducible apply bT|((with_reducible apply aK);case hr => rfl))
 ·(refine ⟨?_, rfl⟩; simp only [bX, AV.v.injEq, Value.bool.injEq, Value.int.injEq, true_and])
  unfold cP;grind [kK, iH]
 ·(apply dG (k + 1); focus (refine Le.ren [] rfl (by decide) ?_ ?_ <;> repeat' (first | exact trivial | refine And.intro ⟨_, rfl, ?_⟩ ?_ | refine Or.inl ⟨?_, (by first | rfl | exact bH _ _)⟩ | rfl)))
  ·grind
  ·omega
 ·(refine ⟨?_, rfl⟩; simp only [bX, AV.v.injEq, Value.bool.injEq, Value.int.injEq, true_and])
  unfold cP;grind [kK, iH]
 ·(refine ⟨?_, rfl⟩; simp only [bX, AV.v.injEq, Value.bool.injEq, Value.int.injEq, true_and])
  unfold cP;grind [kK, iH]
theorem lS (p : Prg) (hl : p.types.length ≤ 1000000) (hs : bO p.body ≤ 100000000) : PC Tryz.prog 87 [cW p] (fun r => r = bv (c8 p)) := by
 unfold c8
 cases ht : cP p.types
 ·(refine aS Tryz.func87 rfl (by simp [Tryz.ntmps87]) ?_; rw [Tryz.ntmps87])
  repeat' (first|(apply aL;first|(apply aE;rfl;rfl)|(apply aP;rfl;rfl;rfl;rfl)|(apply aD;rfl;rfl;rfl)|(apply a7;rfl;rfl;rfl;(first|rfl|assumption))|(apply aC;rfl;rfl)|(apply bC;rfl;(first|rfl|assumption);rfl;rfl)|((with_reducible apply aJ (k := 138));(case ha => rfl);(case h => (apply qC <;> (assumption)));(case hp => (exact Pur.pf));(case hN => rfl))|(apply aF;kernel_rfl)|(apply bA;rfl;rfl;rfl;rfl))|(apply aM;first|apply aH|apply aB|apply aO)|with_reducible apply aA|((with_reducible apply aK);case hr => rfl))
  (refine ⟨?_, rfl⟩; simp only [bX, AV.v.injEq, Value.bool.injEq, Value.int.injEq, true_and])
  rfl
 ·(refine aS Tryz.func87 rfl (by simp [Tryz.ntmps87]) ?_; rw [Tryz.ntmps87])
  repeat' (first|(apply aL;first|(apply aE;rfl;rfl)|(apply aP;rfl;rfl;rfl;rfl)|(apply aD;rfl;rfl;rfl)|(first|(apply aY;rfl;rfl;rfl;(assumption))|(apply a7;rfl;rfl;rfl;(assumption))|(apply bE;(case hj|hb|hN => rfl);all_goals (intro hg;have hq := hg;(try simp only [cC] at hq);(try (exfalso;omega)))))|(apply aU;rfl;rfl;rfl;rfl)|(apply aC;rfl;rfl)|(first|(apply bJ;rfl;(assumption);rfl;rfl)|(apply bC;rfl;(assumption);rfl;rfl))|(first|((with_reducible apply aJ (k := 138));(case ha => rfl);(case h => (apply qC <;> (assumption)));(case hp => (exact Pur.pf));(case hN => rfl))|((with_reducible apply aJ (k := 139));(case ha => rfl);(case h => (apply CN <;> (first|assumption|omega)));(case hp => (exact Pur.pf));(case hN => rfl))|((with_reducible apply aJ (k := 140));(case ha => rfl);(case h => (apply zN <;> (first|assumption|omega)));(case hp => (exact Pur.pf));(case hN => rfl)))|(apply aF;kernel_rfl)|(apply bA;rfl;rfl;rfl;rfl))|(apply aM;first|apply aH|apply aB|apply aO)|with_reducible apply aA|((with_reducible apply aK);case hr => rfl))
  ·(refine ⟨?_, rfl⟩; simp only [bX, AV.v.injEq, Value.bool.injEq, Value.int.injEq, true_and])
   rw [show okL p.types 4 p.body = true from hq]; simp only [Bool.true_and, ET, decide_eq_decide]; omega
  ·(refine ⟨?_, rfl⟩; simp only [bX, AV.v.injEq, Value.bool.injEq, Value.int.injEq, true_and])
   rw [show okL p.types 4 p.body = false from hq]; rfl
end Go.Proofs.YtckihjkcgfphmaaGreat
namespace Go.Proofs.YtckihjkcgfphmaaGreat
open Go.AL Go.RowKit
theorem Dl {ts : List Int} {s : AL.Stmt} {nest c : Int} {N : Nat} {Q : Exit → AS → Prop} {all : Array Oper} {rest : List Oper} {tsl : List (Nat × AV)} {hsl : List (Nat × Option (List AV))} {nidl : Nat} {z0 : Lo} {md : Md} {d : Nat} {ty : TypeId} {pos : String} {af : Array Edge} {tys : Array TypeId} {x0 x1 x2 x3 : Operand} {i0 : Nat} (ha0 : ev (lk tsl) x0 = some (sl cI ts)) (ha1 : ev (lk tsl) x1 = some (eL s)) (ha2 : ev (lk tsl) x2 = some (iv nest)) (ha3 : ev (lk tsl) x3 = some (.optr i0 0)) (hH0 : b8 hsl i0 = some ([iv c])) (hmc : MC Tryz.prog 99 [sl cI ts, eL s, iv nest, .optr 0 0] [(0, some ([iv c]))] 1 (fun _ : Unit => True) (fun _ => bv (kB ts nest c s).1) (fun _ => [(0, some ([iv (kB ts nest c s).2]))])) (hM : Nat.ble (nidl + 0) dR = true) (hN : Nat.blt d N = true) {md' : Md} [hmd : MdA md (e7 [x0, x1, x2, x3] ++ [.inr i0]) (List.map Sum.inr (List.map Prod.fst ([(i0, some ([iv (kB ts nest c s).2]))] : List (Nat × Option (List AV)))) ++ [.inl d]) md'] (kk : RW Tryz.prog N all Q md' rest ⟨(d, bv (kB ts nest c s).1) :: tsl, fS hsl [(i0, some ([iv (kB ts nest c s).2]))], nidl + 0, z0⟩) : RW Tryz.prog N all Q md (⟨some d, .call ⟨.value (.func 99), #[x0, x1, x2, x3], tys⟩, ty, pos, af, none⟩ :: rest) ⟨tsl, hsl, nidl, z0⟩ := by
 refine bP [i0] 1 [(i0, some ([iv (kB ts nest c s).2]))] hmc (avs := [sl cI ts, eL s, iv nest, .optr i0 0]) ?_ rfl ?_ rfl ?_ (by simpa using hM) ?_ ?_ ?_ hN (md' := md') (hmd := hmd) kk
 ·show evL (lk tsl) [x0, x1, x2, x3] = _
  simp only [evL, ha0, ha1, ha2, ha3]
 ·exact ⟨⟨_, _, rfl, hH0, by (repeat' (exact RnL.purI inferInstance))⟩, trivial⟩
 ·(repeat' (first|exact RnL.purI inferInstance|exact RnV.purI inferInstance|exact RnV.optr rfl|refine RnL.cons ?_ ?_))
 ·(repeat' (exact RnV.purI inferInstance))
 ·simp [cZ]
 ·(repeat' (first|exact trivial|(refine And.intro ⟨0, _, rfl, rfl, ?_⟩ ?_)|exact RnL.purI inferInstance))
theorem n8 {ts : List Int} {l : List AL.Stmt} {nest c : Int} {N : Nat} {Q : Exit → AS → Prop} {all : Array Oper} {rest : List Oper} {tsl : List (Nat × AV)} {hsl : List (Nat × Option (List AV))} {nidl : Nat} {z0 : Lo} {md : Md} {d : Nat} {ty : TypeId} {pos : String} {af : Array Edge} {tys : Array TypeId} {x0 x1 x2 x3 : Operand} {i0 : Nat} (ha0 : ev (lk tsl) x0 = some (sl cI ts)) (ha1 : ev (lk tsl) x1 = some (sl bB l)) (ha2 : ev (lk tsl) x2 = some (iv nest)) (ha3 : ev (lk tsl) x3 = some (.optr i0 0)) (hH0 : b8 hsl i0 = some ([iv c])) (hmc : MC Tryz.prog 59 [sl cI ts, sl bB l, iv nest, .optr 0 0] [(0, some ([iv c]))] 1 (fun _ : Unit => True) (fun _ => bv (iS ts nest c l).1) (fun _ => [(0, some ([iv (iS ts nest c l).2]))])) (hM : Nat.ble (nidl + 0) dR = true) (hN : Nat.blt d N = true) {md' : Md} [hmd : MdA md (e7 [x0, x1, x2, x3] ++ [.inr i0]) (List.map Sum.inr (List.map Prod.fst ([(i0, some ([iv (iS ts nest c l).2]))] : List (Nat × Option (List AV)))) ++ [.inl d]) md'] (kk : RW Tryz.prog N all Q md' rest ⟨(d, bv (iS ts nest c l).1) :: tsl, fS hsl [(i0, some ([iv (iS ts nest c l).2]))], nidl + 0, z0⟩) : RW Tryz.prog N all Q md (⟨some d, .call ⟨.value (.func 59), #[x0, x1, x2, x3], tys⟩, ty, pos, af, none⟩ :: rest) ⟨tsl, hsl, nidl, z0⟩ := by
 refine bP [i0] 1 [(i0, some ([iv (iS ts nest c l).2]))] hmc (avs := [sl cI ts, sl bB l, iv nest, .optr i0 0]) ?_ rfl ?_ rfl ?_ (by simpa using hM) ?_ ?_ ?_ hN (md' := md') (hmd := hmd) kk
 ·show evL (lk tsl) [x0, x1, x2, x3] = _
  simp only [evL, ha0, ha1, ha2, ha3]
 ·exact ⟨⟨_, _, rfl, hH0, by (repeat' (exact RnL.purI inferInstance))⟩, trivial⟩
 ·(repeat' (first|exact RnL.purI inferInstance|exact RnV.purI inferInstance|exact RnV.optr rfl|refine RnL.cons ?_ ?_))
 ·(repeat' (exact RnV.purI inferInstance))
 ·simp [cZ]
 ·(repeat' (first|exact trivial|(refine And.intro ⟨0, _, rfl, rfl, ?_⟩ ?_)|exact RnL.purI inferInstance))
theorem Ed (ts : List Int) (htO : cP ts = true) (m : Nat) (scanAll_ih : ∀ l nest c, bO l < m → 0 ≤ nest → nest ≤ 4 → 0 ≤ c → c ≤ 30 → MC Tryz.prog 59 [sl cI ts, sl bB l, iv nest, .optr 0 0] [(0, some ([iv c]))] 1 (fun _ : Unit => True) (fun _ => bv (iS ts nest c l).1) (fun _ => [(0, some ([iv (iS ts nest c l).2]))])) (s : AL.Stmt) (nest c : Int) (hs : c9 s ≤ m) (hn0 : 0 ≤ nest) (hn : nest ≤ 4) (hc0 : 0 ≤ c) (hc : c ≤ 30) : MC Tryz.prog 99 [sl cI ts, eL s, iv nest, .optr 0 0] [(0, some ([iv c]))] 1 (fun _ : Unit => True) (fun _ => bv (kB ts nest c s).1) (fun _ => [(0, some ([iv (kB ts nest c s).2]))]) := by
 have ct := jL s
 have hb1 := EU ts s.th (nest + 1) (c + 1)
 (refine bK Tryz.func99 rfl (by simp [Tryz.ntmps99]) ?_; rw [Tryz.ntmps99])
 repeat' (first|(apply aL;first|(apply aE;rfl;rfl)|(first|(apply aP;rfl;rfl;rfl;rfl)|(apply aR;rfl;rfl;(exact (rfl:_=[_, _, _, _, _, _]));rfl;rfl;rfl))|(apply aD;rfl;rfl;rfl)|(first|(apply kR;rfl;rfl;rfl)|(apply aY;rfl;rfl;rfl;(assumption))|(apply a7;rfl;rfl;rfl;(first|rfl|assumption))|(apply bE;(case hj|hb|hN => rfl);all_goals (intro hg;have hq := hg;(try simp only [cC] at hq);(try (exfalso;omega)))))|(first|(apply bN;rfl;rfl;omega;rfl)|(apply aU;rfl;rfl;rfl;rfl))|(apply aC;rfl;rfl)|(first|(apply bJ;rfl;(first|rfl|assumption);rfl;rfl)|(apply bC;rfl;(assumption);rfl;rfl))|(first|(apply n8;rfl;rfl;rfl;rfl;(rfl);(apply scanAll_ih <;> (first|assumption|omega|grind));rfl;rfl)|((with_reducible apply aJ (k := 162));(case ha => rfl);(case h => (apply xH <;> (fail)));(case hp => (rfl));(case hN => rfl))|((with_reducible apply aJ (k := 163));(case ha => rfl);(case h => (apply v8 <;> (assumption)));(case hp => (exact Pur.pf));(case hN => rfl)))|(apply bM;rfl;rfl;rfl)|(apply aF;kernel_rfl)|(apply bW;rfl;rfl)|(apply cB;rfl;rfl;rfl)|(apply bA;rfl;rfl;rfl;rfl)|(apply aW;rfl;rfl;rfl;rfl;rfl;(case hl => (simp;done));(exact (rfl:_=[_]))))|(apply aM;first|apply aH|apply aB|(apply bR;rfl;(rfl))|(apply b9;rfl;(rfl))|(apply aQ;rfl;all_goals intro hc;have hq:=hc;(try simp only [cC] at hq);try exfalso;omega)|apply aV|apply aO)|with_reducible apply aA|with_reducible apply a8)
 all_goals (refine aK rfl ?_; refine bG () trivial ?_ ⟨.inr (Eq.trans (b := some _) rfl ?_), trivial⟩)
 all_goals (try simp only [bX, AV.v.injEq, Value.bool.injEq, Value.int.injEq, true_and, gO, List.take, List.drop, List.length, List.append, List.nil_append, List.append_nil, Option.some.injEq, List.cons.injEq, and_true])
 all_goals rw [DK]
 all_goals clear scanAll_ih
 all_goals (cases hel : s.el <;> simp only [hel, List.length_nil, List.length_cons] at * <;> grind)
theorem wZ (ts : List Int) (m : Nat) (hm : m ≤ 100000000) (scan_ih : ∀ s nest c, c9 s ≤ m → 0 ≤ nest → nest ≤ 4 → 0 ≤ c → c ≤ 30 → MC Tryz.prog 99 [sl cI ts, eL s, iv nest, .optr 0 0] [(0, some ([iv c]))] 1 (fun _ : Unit => True) (fun _ => bv (kB ts nest c s).1) (fun _ => [(0, some ([iv (kB ts nest c s).2]))])) (l : List AL.Stmt) (nest c : Int) (hs : bO l ≤ m) (hn0 : 0 ≤ nest) (hn : nest ≤ 4) (hc0 : 0 ≤ c) (hc : c ≤ 30) : MC Tryz.prog 59 [sl cI ts, sl bB l, iv nest, .optr 0 0] [(0, some ([iv c]))] 1 (fun _ : Unit => True) (fun _ => bv (iS ts nest c l).1) (fun _ => [(0, some ([iv (iS ts nest c l).2]))]) := by
 have hlen := dX l
 (refine bK Tryz.func59 rfl (by simp [Tryz.ntmps59]) ?_; rw [Tryz.ntmps59])
 repeat' (first|(apply aL;first|(apply aE;rfl;rfl)|(apply aC;rfl;rfl)|(apply bM;rfl;rfl;rfl)|(apply aF;kernel_rfl))|(apply aM;first|apply aH|apply aB|apply aN)|with_reducible apply aA)
 refine bL (σ := Nat × Int) [0, 2, 3, 11, 12] [(0, _), (2, _), (3, _), (11, _), (12, _)] [] [] (fun k => [(13, iv (k.1 : Int))]) (fun k => [(0, some [iv k.2])]) (fun k => k.1 ≤ l.length ∧ iS ts nest k.2 (l.drop k.1) = iS ts nest c l ∧ 0 ≤ k.2 ∧ k.2 ≤ 30) (fun k => l.length - k.1) (0, c) ⟨by omega, rfl, by omega, by omega⟩ rfl rfl (by repeat' (first|exact trivial|refine And.intro rfl ?_)) (by repeat' (first|exact trivial|refine And.intro (.inr rfl) ?_)) ?_
 rintro ⟨k, c'⟩ ⟨hk, hn, hn0, hn1⟩
 dsimp only at hk hn hn0 hn1 ⊢
 have hck := fF l k
 have hb1 := Ez ts l[k]! nest c'
 have hst := @scL_stop ts nest c' l k
 repeat' (first|(apply aL;first|(apply aE;rfl;rfl)|(apply aR;rfl;rfl;(exact (rfl:_=[_, _, _, _, _, _]));rfl;rfl;rfl)|(first|(apply bN;rfl;rfl;omega;rfl)|(apply aU;rfl;rfl;rfl;rfl))|(apply aC;rfl;rfl)|(apply bI;(case hx|hi => rfl);(case hm => (omega));(case hml => (rfl));(case hα | hf|hg => infer_instance);(case hN => rfl))|(apply Dl;rfl;rfl;rfl;rfl;(rfl);(apply scan_ih <;> (first|assumption|omega));rfl;rfl)|(apply aF;kernel_rfl)|(apply bW;rfl;rfl)|(apply bD;rfl;rfl)|(apply aW;rfl;rfl;rfl;rfl;rfl;(case hl => (simp;done));(exact (rfl:_=[_, _, _, _, _, _]))))|(apply aM;first|apply aH|apply aB|(apply aQ;rfl;all_goals intro hc;have hq:=hc;(try simp only [cC] at hq);try exfalso;omega)|apply aN|apply aV|apply bS|apply aO)|with_reducible apply aA|with_reducible apply a8|with_reducible apply bU|with_reducible apply aX|with_reducible apply cA|with_reducible apply bT)
 ·(refine aK rfl ?_; refine bG () trivial ?_ ⟨.inr (Eq.trans (b := some _) rfl ?_), trivial⟩)
  all_goals (try simp only [bX, AV.v.injEq, Value.bool.injEq, Value.int.injEq, true_and, gO, List.take, List.drop, List.length, List.append, List.nil_append, List.append_nil, Option.some.injEq, List.cons.injEq, and_true])
  all_goals (rw [← hn, hst (by omega)]; grind)
 ·(apply dG (k + 1, (kB ts nest c' l[k]!).2); focus (refine Le.ren [] rfl (by decide) ?_ ?_ <;> repeat' (first | exact trivial | refine And.intro ⟨_, rfl, ?_⟩ ?_ | refine And.intro ⟨_, _, rfl, rfl, ?_⟩ ?_ | exact Or.inr rfl | refine Or.inl ⟨?_, (by first | rfl | exact bH _ _)⟩ | rfl)))
  ·dsimp only;grind
  ·dsimp only;omega
 ·(refine aK rfl ?_; refine bG () trivial ?_ ⟨.inr (Eq.trans (b := some _) rfl ?_), trivial⟩)
  all_goals (try simp only [bX, AV.v.injEq, Value.bool.injEq, Value.int.injEq, true_and, gO, List.take, List.drop, List.length, List.append, List.nil_append, List.append_nil, Option.some.injEq, List.cons.injEq, and_true])
  all_goals (rw [← hn, List.drop_of_length_le (by omega), iS])
theorem An (ts : List Int) (hl : cP ts = true) : ∀ (m : Nat), m ≤ 100000000 → (∀ s (nest c : Int), c9 s ≤ m → 0 ≤ nest → nest ≤ 4 → 0 ≤ c → c ≤ 30 → MC Tryz.prog 99 [sl cI ts, eL s, iv nest, .optr 0 0] [(0, some ([iv c]))] 1 (fun _ : Unit => True) (fun _ => bv (kB ts nest c s).1) (fun _ => [(0, some ([iv (kB ts nest c s).2]))])) ∧
  (∀ l (nest c : Int), bO l ≤ m → 0 ≤ nest → nest ≤ 4 → 0 ≤ c → c ≤ 30 → MC Tryz.prog 59 [sl cI ts, sl bB l, iv nest, .optr 0 0] [(0, some ([iv c]))] 1 (fun _ : Unit => True) (fun _ => bv (iS ts nest c l).1) (fun _ => [(0, some ([iv (iS ts nest c l).2]))])) := by
 intro m
 induction m using Nat.strongRecOn with
 | ind m ih =>
  intro hm
  have h1 : ∀ s (nest c : Int), c9 s ≤ m → 0 ≤ nest → nest ≤ 4 → 0 ≤ c → c ≤ 30 → MC Tryz.prog 99 [sl cI ts, eL s, iv nest, .optr 0 0] [(0, some ([iv c]))] 1 (fun _ : Unit => True) (fun _ => bv (kB ts nest c s).1) (fun _ => [(0, some ([iv (kB ts nest c s).2]))]) :=
   fun s nest c h1 h2 h3 h4 h5 => Ed ts hl m (fun l nest c g1 g2 g3 g4 g5 => (ih (bO l) g1 (by omega)).2 l nest c (Nat.le_refl _) g2 g3 g4 g5) s nest c h1 h2 h3 h4 h5
  exact ⟨h1, fun l nest c g1 g2 g3 g4 g5 => wZ ts m hm h1 l nest c g1 g2 g3 g4 g5⟩
theorem Ap (ts : List Int) (l : List AL.Stmt) (nest c : Int) (hl : cP ts = true) (hs : bO l ≤ 100000000) (hn0 : 0 ≤ nest) (hn : nest ≤ 4) (hc0 : 0 ≤ c) (hc : c ≤ 30) : MC Tryz.prog 59 [sl cI ts, sl bB l, iv nest, .optr 0 0] [(0, some ([iv c]))] 1 (fun _ : Unit => True) (fun _ => bv (iS ts nest c l).1) (fun _ => [(0, some ([iv (iS ts nest c l).2]))]) :=
 (An ts hl _ hs).2 l nest c (Nat.le_refl _) hn0 hn hc0 hc
theorem wI (t : Int) : PC Tryz.prog 98 [iv t] (fun r => r = bv (!(decide (1 ≤ t) && decide (t ≤ 4)))) := by
 (refine aS Tryz.func98 rfl (by simp [Tryz.ntmps98]) ?_; rw [Tryz.ntmps98])
 repeat' (first|(apply aL;first|(apply aE;rfl;rfl)|(apply aC;rfl;rfl)|((with_reducible apply aJ (k := 84));(case ha => rfl);(case h => (apply dL <;> (fail)));(case hp => (rfl));(case hN => rfl))|(apply aF;kernel_rfl)|(apply bW;rfl;rfl))|(apply aM;first|apply aH|apply aB|apply aO)|with_reducible apply aA|((with_reducible apply aK);case hr => rfl))
 all_goals (refine ⟨?_, rfl⟩; simp only [bX, AV.v.injEq, Value.bool.injEq, Value.int.injEq, true_and])
def pG (ts : List Int) : Int := match ts.findIdx? (fun t => !(decide (1 ≤ t) && decide (t ≤ 4))) with | some i => i | none => -1
theorem CG (ts : List Int) (hl : ts.length ≤ 1000000) : PC Tryz.prog 161 [sl cI ts, .v (.func (.func 98) #[] #[])] (fun r => r = iv (pG ts)) := by
 (refine aS Tryz.func161 rfl (by simp [Tryz.ntmps161]) ?_; rw [Tryz.ntmps161])
 repeat' (first|(apply aL;first|(apply aE;rfl;rfl)|(apply aC;rfl;rfl)|(apply bM;rfl;rfl;rfl)|(apply aF;kernel_rfl))|(apply aM;first|apply aH|apply aB|apply aN)|with_reducible apply aA)
 refine bL (σ := Nat) [0, 1, 7] [(0, _), (1, _), (7, _)] [] [] (fun k => [(8, iv (k : Int))]) (fun k => []) (fun k => k ≤ ts.length ∧ ∀ i, i < k → 1 ≤ ts[i]! ∧ ts[i]! ≤ 4) (fun k => ts.length - k) (0) ⟨by omega, by omega⟩ rfl rfl (by repeat' (first|exact trivial|refine And.intro rfl ?_)) (by repeat' (exact trivial)) ?_
 intro k ⟨hk, hall⟩
 repeat' (first|(apply aL;first|(apply aE;rfl;rfl)|(apply aP;rfl;rfl;rfl;rfl)|(first|(apply bN;rfl;rfl;omega;rfl)|(apply aU;rfl;rfl;rfl;rfl))|(apply aC;rfl;rfl)|(apply bI;(case hx|hi => rfl);(case hm => (omega));(case hml => (rfl));(case hα | hf|hg => infer_instance);(case hN => rfl))|((with_reducible apply lO);(case hx|hcl => rfl);(case hc => infer_instance);(case ha => rfl);(case h => (apply wI <;> (fail)));(case hp => (rfl));(case hN => rfl))|(apply aF;kernel_rfl))|(apply aM;first|apply aH|apply aB|(apply aQ;rfl;all_goals intro hc;have hq:=hc;(try simp only [cC] at hq);try exfalso;omega)|apply aN|apply aV|apply bS|apply aO)|with_reducible apply aA|with_reducible apply a8|with_reducible apply bU|with_reducible apply aX|with_reducible apply cA|with_reducible apply bT|((with_reducible apply aK);case hr => rfl))
 ·(refine ⟨?_, rfl⟩; simp only [bX, AV.v.injEq, Value.bool.injEq, Value.int.injEq, true_and])
  have hlt : k < ts.length := by omega
  have : ts.findIdx? (fun t => !(decide (1 ≤ t) && decide (t ≤ 4))) = some k := by
   rw [List.findIdx?_eq_some_iff_getElem]
   refine ⟨hlt, ?_, fun j hj => ?_⟩
   ·rw [← cV ts k hlt]; grind
   ·have := hall j hj;rw [cV ts j (by omega)] at this;simp;omega
  simp only [pG, this]
 ·(apply dG (k + 1); focus (refine Le.ren [] rfl (by decide) ?_ ?_ <;> repeat' (first | exact trivial | refine And.intro ⟨_, rfl, ?_⟩ ?_ | refine Or.inl ⟨?_, (by first | rfl | exact bH _ _)⟩ | rfl)))
  ·grind
  ·omega
 ·(refine ⟨?_, rfl⟩; simp only [bX, AV.v.injEq, Value.bool.injEq, Value.int.injEq, true_and])
  have : ts.findIdx? (fun t => !(decide (1 ≤ t) && decide (t ≤ 4))) = none := by
   rw [List.findIdx?_eq_none_iff]
   intro x hx
   obtain ⟨i, hi, rfl⟩ := List.getElem_of_mem hx
   have := hall i (by omega);rw [cV ts i hi] at this;simp;omega
  simp only [pG, this]
theorem AJ (ts : List Int) : decide (0 ≤ pG ts) = !(ts.all (fun t => decide (1 ≤ t) && decide (t ≤ 4))) := by
 unfold pG
 split
 ·rename_i i h
  obtain ⟨h1, h2, _⟩ := List.findIdx?_eq_some_iff_getElem.1 h
  have : ts.all (fun t => decide (1 ≤ t) && decide (t ≤ 4)) = false := by
   rw [List.all_eq_false]; exact ⟨ts[i], List.getElem_mem h1, by simp at h2 ⊢; omega⟩
  rw [this]; simp
 ·rename_i h
  rw [List.findIdx?_eq_none_iff] at h
  have : ts.all (fun t => decide (1 ≤ t) && decide (t ≤ 4)) = true := by
   rw [List.all_eq_true]; intro x hx;simpa using h x hx
  rw [this]; rfl
theorem Af (ts : List Int) (hl : ts.length ≤ 1000000) : PC Tryz.prog 97 [sl cI ts, .v (.func (.func 98) #[] #[])] (fun r => r = bv (!(ts.all (fun t => decide (1 ≤ t) && decide (t ≤ 4))))) := by
 (refine aS Tryz.func97 rfl (by simp [Tryz.ntmps97]) ?_; rw [Tryz.ntmps97])
 repeat' (first|(apply aL;first|(apply aE;rfl;rfl)|(apply aU;rfl;rfl;rfl;rfl)|(apply aC;rfl;rfl)|((with_reducible apply aJ (k := 161));(case ha => rfl);(case h => (apply CG <;> (assumption)));(case hp => (exact Pur.pf));(case hN => rfl))|(apply aF;kernel_rfl))|(apply aM;first|apply aH|apply aB|apply aO)|with_reducible apply aA|((with_reducible apply aK);case hr => rfl))
 (refine ⟨?_, rfl⟩; simp only [bX, AV.v.injEq, Value.bool.injEq, Value.int.injEq, true_and])
 exact AJ ts
theorem nV (ts : List Int) (hl : ts.length ≤ 1000000) : PC Tryz.prog 58 [sl cI ts] (fun r => r = bv (cP ts)) := by
 (refine aS Tryz.func58 rfl (by simp [Tryz.ntmps58]) ?_; rw [Tryz.ntmps58])
 repeat' (first|(apply aL;first|(apply aE;rfl;rfl)|(first|(apply aY;rfl;rfl;rfl;(assumption))|(apply a7;rfl;rfl;rfl;(assumption))|(apply bE;(case hj|hb|hN => rfl);all_goals (intro hg;have hq := hg;(try simp only [cC] at hq);(try (exfalso;omega)))))|(apply aU;rfl;rfl;rfl;rfl)|(apply aC;rfl;rfl)|(first|(apply bJ;rfl;(assumption);rfl;rfl)|(apply bC;rfl;(assumption);rfl;rfl))|((with_reducible apply aJ (k := 97));(case ha => rfl);(case h => (apply Af <;> (assumption)));(case hp => (exact Pur.pf));(case hN => rfl))|(apply bM;rfl;rfl;rfl)|(apply aF;kernel_rfl)|(apply bW;rfl;rfl))|(apply aM;first|apply aH|apply aB|apply aO)|with_reducible apply aA|((with_reducible apply aK);case hr => rfl))
 all_goals (refine ⟨?_, rfl⟩; simp only [bX, AV.v.injEq, Value.bool.injEq, Value.int.injEq, true_and])
 all_goals (unfold cP;grind)
theorem iY (p : Prg) (hl : p.types.length ≤ 1000000) (hs : bO p.body ≤ 100000000) : PC Tryz.prog 25 [cW p] (fun r => r = bv (c8 p)) := by
 rw [← z1]
 cases ht : cP p.types
 ·(refine aS Tryz.func25 rfl (by simp [Tryz.ntmps25]) ?_; rw [Tryz.ntmps25])
  repeat' (first|(apply aL;first|(apply aE;rfl;rfl)|(apply aP;rfl;rfl;rfl;rfl)|(apply aD;rfl;rfl;rfl)|(apply a7;rfl;rfl;rfl;(assumption))|(apply aC;rfl;rfl)|(apply bC;rfl;(assumption);rfl;rfl)|((with_reducible apply aJ (k := 58));(case ha => rfl);(case h => (apply nV <;> (assumption)));(case hp => (exact Pur.pf));(case hN => rfl))|(apply aF;kernel_rfl)|(apply bA;rfl;rfl;rfl;rfl)|(apply bD;rfl;rfl)|(apply aW;rfl;rfl;rfl;rfl;rfl;(decide);(exact (rfl:_=[_]))))|(apply aM;first|apply aH|apply aB|apply aO)|with_reducible apply aA|((with_reducible apply aK);case hr => rfl))
  all_goals (refine ⟨?_, rfl⟩; simp only [bX, AV.v.injEq, Value.bool.injEq, Value.int.injEq, true_and])
  all_goals grind
 ·(refine aS Tryz.func25 rfl (by simp [Tryz.ntmps25]) ?_; rw [Tryz.ntmps25])
  repeat' (first|(apply aL;first|(apply aE;rfl;rfl)|(apply aP;rfl;rfl;rfl;rfl)|(apply aD;rfl;rfl;rfl)|(apply aY;rfl;rfl;rfl;(assumption))|(apply aC;rfl;rfl)|(apply bJ;rfl;(assumption);rfl;rfl)|(first|((with_reducible apply aJ (k := 58));(case ha => rfl);(case h => (apply nV <;> (assumption)));(case hp => (exact Pur.pf));(case hN => rfl))|(apply n8;rfl;rfl;rfl;rfl;(rfl);(apply Ap <;> (first|assumption|omega));rfl;rfl))|(apply aF;kernel_rfl)|(apply bA;rfl;rfl;rfl;rfl)|(apply bD;rfl;rfl)|(apply aW;rfl;rfl;rfl;rfl;rfl;(decide);(exact (rfl:_=[_]))))|(apply aM;first|apply aH|apply aB|apply aO)|with_reducible apply aA|((with_reducible apply aK);case hr => rfl))
  all_goals (refine ⟨?_, rfl⟩; simp only [bX, AV.v.injEq, Value.bool.injEq, Value.int.injEq, true_and])
  all_goals grind
theorem m5 {l : List AL.Stmt} {pts : List Pnt} {m : Nat} {N : Nat} {Q : Exit → AS → Prop} {all : Array Oper} {rest : List Oper} {tsl : List (Nat × AV)} {hsl : List (Nat × Option (List AV))} {nidl : Nat} {z0 : Lo} {md : Md} {d : Nat} {ty : TypeId} {pos : String} {af : Array Edge} {tys : Array TypeId} {x0 x1 : Operand} {i0 : Nat} (ha0 : ev (lk tsl) x0 = some (sl bB l)) (ha1 : ev (lk tsl) x1 = some (.own i0 0 m 5)) (hH0 : b8 hsl i0 = some (aI dA pts)) (hmc : MC Tryz.prog 107 [sl bB l, .own 0 0 m 5] [(0, some (aI dA pts))] 1 (fun _ : Unit => True) (fun _ => .own 1 0 (m + dQ l) 5) (fun _ => [(1, some (aI dA (pts ++ fO pts.length l)))])) (hM : Nat.ble (nidl + 1) dR = true) (hN : Nat.blt d N = true) {md' : Md} [hmd : MdA md (e7 [x0, x1] ++ [.inr i0]) (List.map Sum.inr (List.map Prod.fst ([(nidl, some (aI dA (pts ++ fO pts.length l))), (i0, none)] : List (Nat × Option (List AV)))) ++ [.inl d]) md'] (kk : RW Tryz.prog N all Q md' rest ⟨(d, .own nidl 0 (m + dQ l) 5) :: tsl, fS hsl [(nidl, some (aI dA (pts ++ fO pts.length l))), (i0, none)], nidl + 1, z0⟩) : RW Tryz.prog N all Q md (⟨some d, .call ⟨.value (.func 107), #[x0, x1], tys⟩, ty, pos, af, none⟩ :: rest) ⟨tsl, hsl, nidl, z0⟩ := by
 refine bP [i0] 2 [(nidl, some (aI dA (pts ++ fO pts.length l))), (i0, none)] hmc (avs := [sl bB l, .own i0 0 m 5]) ?_ rfl ?_ rfl ?_ (by simpa using hM) ?_ ?_ ?_ hN (md' := md') (hmd := hmd) kk
 ·show evL (lk tsl) [x0, x1] = _
  simp only [evL, ha0, ha1]
 ·exact ⟨⟨_, _, rfl, hH0, by (repeat' (exact RnL.purI inferInstance))⟩, trivial⟩
 ·(repeat' (first|exact RnL.purI inferInstance|exact RnV.purI inferInstance|exact RnV.own rfl|refine RnL.cons ?_ ?_))
 ·(repeat' (exact RnV.own rfl))
 ·simp [cZ]
 ·(repeat' (first|exact trivial|(refine And.intro ⟨1, _, rfl, rfl, ?_⟩ ?_)|exact RnL.purI inferInstance))
theorem tL (mm : Nat) (hmm : mm ≤ 1000000) (pointsOf_ih : ∀ l pts m, bO l < mm → m = pts.length → m + dQ l ≤ 12000000 → MC Tryz.prog 107 [sl bB l, .own 0 0 m 5] [(0, some (aI dA pts))] 1 (fun _ : Unit => True) (fun _ => .own 1 0 (m + dQ l) 5) (fun _ => [(1, some (aI dA (pts ++ fO pts.length l)))])) (l : List AL.Stmt) (pts : List Pnt) (m : Nat) (hs : bO l ≤ mm) (hm : m = pts.length) (hb : m + dQ l ≤ 12000000) : MC Tryz.prog 107 [sl bB l, .own 0 0 m 5] [(0, some (aI dA pts))] 1 (fun _ : Unit => True) (fun _ => .own 1 0 (m + dQ l) 5) (fun _ => [(1, some (aI dA (pts ++ fO pts.length l)))]) := by
 have hlen := dX l
 subst hm
 (refine bK Tryz.func107 rfl (by simp [Tryz.ntmps107]) ?_; rw [Tryz.ntmps107])
 repeat' (first|(apply aL;first|(apply aE;rfl;rfl)|(apply aC;rfl;rfl)|(apply bM;rfl;rfl;rfl)|(apply aF;kernel_rfl))|(apply aM;first|apply aH|apply aB|apply aN)|with_reducible apply aA)
 refine AW.le ?_ (Le.mv (d := 1) (i := 0) (cs := aI dA pts) rfl rfl (by decide))
 refine bL (σ := Nat × List Pnt × Nat) [9, 10] [(9, _), (10, _)] [] [] (fun k => [(11, iv (k.1 : Int)), (1, .own 1 0 k.2.2 5)]) (fun k => [(1, some (aI dA k.2.1))]) (fun k => k.1 ≤ l.length ∧ k.2.1 = pts ++ fO pts.length (l.take k.1) ∧ k.2.2 = k.2.1.length ∧ k.2.2 = pts.length + dQ (l.take k.1)) (fun k => l.length - k.1) (0, pts, pts.length) ⟨by omega, by simp [fO], rfl, by simp [dQ]⟩ rfl rfl (by repeat' (first|exact trivial|refine And.intro rfl ?_)) (by repeat' (first|exact trivial|refine And.intro (.inr rfl) ?_)) ?_
 rintro ⟨k, xs, m1⟩ ⟨hk, hxs, hm1, hm2⟩
 dsimp only at hk hxs hm1 hm2 ⊢
 have hck := fF l k
 have hct := jL l[k]!
 have hnt := xA l k
 have n9 := Bb l[k]!
 have n10 := xQ l[k]!
 have n1 := CI l[k]!
 repeat' (first|(apply aL;first|(apply aE;rfl;rfl)|(first|(apply aP;rfl;rfl;rfl;rfl)|(apply aR;rfl;rfl;(exact (rfl:_=[_, _, _, _, _, _]));rfl;rfl;rfl))|(apply aD;rfl;rfl;rfl)|(first|(apply bN;rfl;rfl;omega;rfl)|(apply aU;rfl;rfl;rfl;rfl))|(apply aC;rfl;rfl)|(first|(apply bI;(case hx|hi => rfl);(case hm => (omega));(case hml => (rfl));(case hα | hf|hg => infer_instance);(case hN => rfl))|(apply cE;rfl;rfl;(omega);rfl))|(apply m5;rfl;rfl;(rfl);(apply pointsOf_ih <;> (first|omega|(simp only [gY] <;> omega)));rfl;rfl)|(first|(apply bM;rfl;rfl;rfl)|(apply bV;rfl;rfl;rfl;rfl;rfl;(first|(rw [aT]; omega)|(rw [aT]; simp only [gY] <;> omega));(rfl);omega;omega;(first|exact oZ (by (first|assumption|(simp only [gY] <;> omega)))|exact j4 (by (first|assumption|(simp only [gY] <;> omega))));rfl;rfl))|(apply aF;kernel_rfl)|(apply bY;rfl;(exact (rfl:_=some [_, _, _, _, _]));(exact (rfl:_=[_, _, _, _, _]));rfl)|(apply bD;rfl;rfl)|((apply bF (t := _));(case hze|hsm|hl => rfl);(case hfl => (first|exact (rfl:_=some [_])|exact (rfl:_=some [_, _])|exact (rfl:_=some [_, _, _, _, _])));(case hM|hN => rfl))|(apply aW;rfl;rfl;rfl;rfl;rfl;(case hl => (first|(rw [aT]; simp only [gY] <;> omega)|(simp;done)));(first|exact pC (by (simp only [gY] <;> omega))|exact oN (by (simp only [gY] <;> omega))|exact (rfl:_=[_, _, _, _, _, _]))))|(apply aM;first|apply aH|apply aB|(apply aQ;rfl;all_goals intro hc;have hq:=hc;(try simp only [cC] at hq);try exfalso;omega)|apply aN|apply aV|apply bS|apply aO)|with_reducible apply aA|with_reducible apply bU|with_reducible apply aX|with_reducible apply bT)
 ·(apply dG (k + 1, _, _); focus (refine Le.ren [(1, 8)] rfl (by decide) ?_ ?_ <;> repeat' (first | exact trivial | refine And.intro ⟨_, rfl, ?_⟩ ?_ | refine And.intro ⟨_, _, rfl, rfl, ?_⟩ ?_ | exact Or.inr rfl | refine Or.inl ⟨?_, (by first | rfl | exact bH _ _)⟩ | rfl)))
  ·dsimp only
   rw [rZ hm1, rU hm1, sB (by rw [cT, hm1]), rX (by rw [cT, hm1]), fH l _ k (by omega), e5 l k (by omega), gP, if_pos hq, n9 hq]
   refine ⟨by omega, ?_, by simp [cT]; omega, by omega⟩
   have e1 : xs.length = pts.length + dQ (l.take k) := by omega
   rw [← List.append_assoc pts, ← hxs, ← e1]
   simp only [List.append_assoc, List.length_append, List.length_cons, List.length_nil, cT, hm1, Nat.zero_add]
   clear pointsOf_ih hxs hck hnt n9 n10 n1
   grind
  ·dsimp only;omega
 ·(apply dG (k + 1, _, _); focus (refine Le.ren [(1, 8)] rfl (by decide) ?_ ?_ <;> repeat' (first | exact trivial | refine And.intro ⟨_, rfl, ?_⟩ ?_ | refine And.intro ⟨_, _, rfl, rfl, ?_⟩ ?_ | exact Or.inr rfl | refine Or.inl ⟨?_, (by first | rfl | exact bH _ _)⟩ | rfl)))
  ·dsimp only
   rw [wV hm1, wF hm1, fH l _ k (by omega), e5 l k (by omega), gP, if_neg (by omega), if_pos hq, n10 hq]
   refine ⟨by omega, ?_, by simp [cT]; omega, by omega⟩
   have e1 : xs.length = pts.length + dQ (l.take k) := by omega
   rw [← List.append_assoc pts, ← hxs, ← e1]
   simp only [List.append_assoc, List.length_append, List.length_cons, List.length_nil, cT, hm1, Nat.zero_add]
   clear pointsOf_ih hxs hck hnt n9 n10 n1
   grind
  ·dsimp only;omega
 ·(apply dG (k + 1, _, _); focus (refine Le.ren [(1, 5)] rfl (by decide) ?_ ?_ <;> repeat' (first | exact trivial | refine And.intro ⟨_, rfl, ?_⟩ ?_ | refine And.intro ⟨_, _, rfl, rfl, ?_⟩ ?_ | exact Or.inr rfl | refine Or.inl ⟨?_, (by first | rfl | exact bH _ _)⟩ | rfl)))
  ·dsimp only
   rw [fH l _ k (by omega), e5 l k (by omega), gP, if_neg ‹¬l[k]!.op = 9›, if_neg hq, n1 ‹¬l[k]!.op = 9› hq]
   refine ⟨by omega, ?_, by simp [cT]; omega, by omega⟩
   have e1 : xs.length = pts.length + dQ (l.take k) := by omega
   rw [← List.append_assoc pts, ← hxs, ← e1, hm1]
  ·dsimp only;omega
 ·refine aK rfl ?_
  have e2 : l.take k = l := List.take_of_length_le (by omega)
  rw [e2] at hxs hm2
  refine bG () trivial ?_ ⟨.inr (Eq.trans (b := some _) rfl ?_), trivial⟩
  ·simp only [bX]; rw [hm2]
  ·rw [hxs]
theorem w4 (l : List AL.Stmt) (pts : List Pnt) (m : Nat) (hs : bO l ≤ 1000000) (hm : m = pts.length) (hb : m + dQ l ≤ 12000000) : MC Tryz.prog 107 [sl bB l, .own 0 0 m 5] [(0, some (aI dA pts))] 1 (fun _ : Unit => True) (fun _ => .own 1 0 (m + dQ l) 5) (fun _ => [(1, some (aI dA (pts ++ fO pts.length l)))]) := by
 have h : ∀ (mm : Nat), mm ≤ 1000000 → ∀ l pts m, bO l ≤ mm → m = pts.length → m + dQ l ≤ 12000000 → MC Tryz.prog 107 [sl bB l, .own 0 0 m 5] [(0, some (aI dA pts))] 1 (fun _ : Unit => True) (fun _ => .own 1 0 (m + dQ l) 5) (fun _ => [(1, some (aI dA (pts ++ fO pts.length l)))]) := by
  intro mm
  induction mm using Nat.strongRecOn with
  | ind mm ih =>
   intro h0 l pts m h1 h2 h3
   exact tL mm h0 (fun l' pts' m' g1 g2 g3 => ih _ g1 (by omega) l' pts' m' (Nat.le_refl _) g2 g3) l pts m h1 h2 h3
 exact h _ hs l pts m (Nat.le_refl _) hm hb
theorem sN {l : List AL.Stmt} {N : Nat} {Q : Exit → AS → Prop} {all : Array Oper} {rest : List Oper} {tsl : List (Nat × AV)} {hsl : List (Nat × Option (List AV))} {nidl : Nat} {z0 : Lo} {md : Md} {d : Nat} {ty : TypeId} {pos : String} {af : Array Edge} {tys : Array TypeId} {x0 x1 : Operand} (ha0 : ev (lk tsl) x0 = some (sl bB l)) (ha1 : ev (lk tsl) x1 = some (.v (.slice none 0 0))) (hmc : MC Tryz.prog 107 [sl bB l, .v (.slice none 0 0)] [] 0 (fun _ : Unit => True) (fun _ => .own 0 0 (dQ l) 5) (fun _ => [(0, some (aI dA (fO 0 l)))])) (hM : Nat.ble (nidl + 1) dR = true) (hN : Nat.blt d N = true) {md' : Md} [hmd : MdA md (e7 [x0, x1] ++ []) (List.map Sum.inr (List.map Prod.fst ([(nidl, some (aI dA (fO 0 l)))] : List (Nat × Option (List AV)))) ++ [.inl d]) md'] (kk : RW Tryz.prog N all Q md' rest ⟨(d, .own nidl 0 (dQ l) 5) :: tsl, fS hsl [(nidl, some (aI dA (fO 0 l)))], nidl + 1, z0⟩) : RW Tryz.prog N all Q md (⟨some d, .call ⟨.value (.func 107), #[x0, x1], tys⟩, ty, pos, af, none⟩ :: rest) ⟨tsl, hsl, nidl, z0⟩ := by
 refine bP [] 1 [(nidl, some (aI dA (fO 0 l)))] hmc (avs := [sl bB l, .v (.slice none 0 0)]) ?_ rfl ?_ rfl ?_ (by simpa using hM) ?_ ?_ ?_ hN (md' := md') (hmd := hmd) kk
 ·show evL (lk tsl) [x0, x1] = _
  simp only [evL, ha0, ha1]
 ·exact trivial
 ·(repeat' (exact RnL.purI inferInstance))
 ·(repeat' (exact RnV.own rfl))
 ·simp [cZ]
 ·(repeat' (first|exact trivial|(refine And.intro ⟨0, _, rfl, rfl, ?_⟩ ?_)|exact RnL.purI inferInstance))
theorem u6 (l : List AL.Stmt) (hs : bO l ≤ 1000000) : MC Tryz.prog 107 [sl bB l, .v (.slice none 0 0)] [] 0 (fun _ : Unit => True) (fun _ => .own 0 0 (dQ l) 5) (fun _ => [(0, some (aI dA (fO 0 l)))]) := by
 have hlen := dX l
 have hn2 := kD l
 (refine bK Tryz.func107 rfl (by simp [Tryz.ntmps107]) ?_; rw [Tryz.ntmps107])
 repeat' (first|(apply aL;first|(apply aE;rfl;rfl)|(apply aC;rfl;rfl)|(apply bM;rfl;rfl;rfl)|(apply aF;kernel_rfl))|(apply aM;first|apply aH|apply aB|apply aN)|with_reducible apply aA)
 refine AW.le ?_ (Le.nilOwn (d := 1) 5 rfl (by decide))
 refine bL (σ := Nat × List Pnt × Nat) [9, 10] [(9, _), (10, _)] [] [] (fun k => [(11, iv (k.1 : Int)), (1, .own 0 0 k.2.2 5)]) (fun k => [(0, some (aI dA k.2.1))]) (fun k => k.1 ≤ l.length ∧ k.2.1 = fO 0 (l.take k.1) ∧ k.2.2 = k.2.1.length ∧ k.2.2 = dQ (l.take k.1)) (fun k => l.length - k.1) (0, [], 0) ⟨by omega, by simp [fO], rfl, by simp [dQ]⟩ rfl rfl (by repeat' (first|exact trivial|refine And.intro rfl ?_)) (by repeat' (first|exact trivial|refine And.intro (.inr rfl) ?_)) ?_
 rintro ⟨k, xs, m1⟩ ⟨hk, hxs, hm1, hm2⟩
 dsimp only at hk hxs hm1 hm2 ⊢
 have hck := fF l k
 have hct := jL l[k]!
 have hnt := xA l k
 have n9 := Bb l[k]!
 have n10 := xQ l[k]!
 have n1 := CI l[k]!
 repeat' (first|(apply aL;first|(apply aE;rfl;rfl)|(first|(apply aP;rfl;rfl;rfl;rfl)|(apply aR;rfl;rfl;(exact (rfl:_=[_, _, _, _, _, _]));rfl;rfl;rfl))|(apply aD;rfl;rfl;rfl)|(first|(apply bN;rfl;rfl;omega;rfl)|(apply aU;rfl;rfl;rfl;rfl))|(apply aC;rfl;rfl)|(first|(apply bI;(case hx|hi => rfl);(case hm => (omega));(case hml => (rfl));(case hα | hf|hg => infer_instance);(case hN => rfl))|(apply cE;rfl;rfl;(omega);rfl))|(apply m5;rfl;rfl;(rfl);(apply w4 <;> (first|omega|(simp only [gY] <;> omega)));rfl;rfl)|(first|(apply bM;rfl;rfl;rfl)|(apply bV;rfl;rfl;rfl;rfl;rfl;(first|(rw [aT]; omega)|(rw [aT]; simp only [gY] <;> omega));(rfl);omega;omega;(first|exact oZ (by (first|assumption|(simp only [gY] <;> omega)))|exact j4 (by (first|assumption|(simp only [gY] <;> omega))));rfl;rfl))|(apply aF;kernel_rfl)|(apply bY;rfl;(exact (rfl:_=some [_, _, _, _, _]));(exact (rfl:_=[_, _, _, _, _]));rfl)|(apply bD;rfl;rfl)|((apply bF (t := _));(case hze|hsm|hl => rfl);(case hfl => (first|exact (rfl:_=some [_])|exact (rfl:_=some [_, _])|exact (rfl:_=some [_, _, _, _, _])));(case hM|hN => rfl))|(apply aW;rfl;rfl;rfl;rfl;rfl;(case hl => (first|(rw [aT]; simp only [gY] <;> omega)|(simp;done)));(first|exact pC (by (simp only [gY] <;> omega))|exact oN (by (simp only [gY] <;> omega))|exact (rfl:_=[_, _, _, _, _, _]))))|(apply aM;first|apply aH|apply aB|(apply aQ;rfl;all_goals intro hc;have hq:=hc;(try simp only [cC] at hq);try exfalso;omega)|apply aN|apply aV|apply bS|apply aO)|with_reducible apply aA|with_reducible apply bU|with_reducible apply aX|with_reducible apply bT)
 ·(apply dG (k + 1, _, _); focus (refine Le.ren [(0, 7)] rfl (by decide) ?_ ?_ <;> repeat' (first | exact trivial | refine And.intro ⟨_, rfl, ?_⟩ ?_ | refine And.intro ⟨_, _, rfl, rfl, ?_⟩ ?_ | exact Or.inr rfl | refine Or.inl ⟨?_, (by first | rfl | exact bH _ _)⟩ | rfl)))
  ·dsimp only
   rw [rZ hm1, rU hm1, sB (by rw [cT, hm1]), rX (by rw [cT, hm1]), fH l _ k (by omega), e5 l k (by omega), gP, if_pos hq, n9 hq]
   refine ⟨by omega, ?_, by simp [cT]; omega, by omega⟩
   have e1 : dQ (l.take k) = xs.length := by omega
   rw [Nat.zero_add, e1]
   rw [← hxs]
   simp only [List.append_assoc, List.length_append, List.length_cons, List.length_nil, cT, hm1, Nat.zero_add]
   clear hxs hck hnt n9 n10 n1
   grind
  ·dsimp only;omega
 ·(apply dG (k + 1, _, _); focus (refine Le.ren [(0, 7)] rfl (by decide) ?_ ?_ <;> repeat' (first | exact trivial | refine And.intro ⟨_, rfl, ?_⟩ ?_ | refine And.intro ⟨_, _, rfl, rfl, ?_⟩ ?_ | exact Or.inr rfl | refine Or.inl ⟨?_, (by first | rfl | exact bH _ _)⟩ | rfl)))
  ·dsimp only
   rw [wV hm1, wF hm1, fH l _ k (by omega), e5 l k (by omega), gP, if_neg (by omega), if_pos hq, n10 hq]
   refine ⟨by omega, ?_, by simp [cT]; omega, by omega⟩
   have e1 : dQ (l.take k) = xs.length := by omega
   rw [Nat.zero_add, e1]
   rw [← hxs]
   simp only [List.append_assoc, List.length_append, List.length_cons, List.length_nil, cT, hm1, Nat.zero_add]
   clear hxs hck hnt n9 n10 n1
   grind
  ·dsimp only;omega
 ·(apply dG (k + 1, _, _); focus (refine Le.ren [(0, 4)] rfl (by decide) ?_ ?_ <;> repeat' (first | exact trivial | refine And.intro ⟨_, rfl, ?_⟩ ?_ | refine And.intro ⟨_, _, rfl, rfl, ?_⟩ ?_ | exact Or.inr rfl | refine Or.inl ⟨?_, (by first | rfl | exact bH _ _)⟩ | rfl)))
  ·dsimp only
   rw [fH l _ k (by omega), e5 l k (by omega), gP, if_neg ‹¬l[k]!.op = 9›, if_neg hq, n1 ‹¬l[k]!.op = 9› hq]
   refine ⟨by omega, ?_, by simp [cT]; omega, by omega⟩
   have e1 : dQ (l.take k) = xs.length := by omega
   rw [Nat.zero_add, e1]
   rw [← hxs, hm1]
  ·dsimp only;omega
 ·refine aK rfl ?_
  have e2 : l.take k = l := List.take_of_length_le (by omega)
  rw [e2] at hxs hm2
  refine bG () trivial ?_ ⟨.inr (Eq.trans (b := some _) rfl ?_), trivial⟩
  ·simp only [bX]; rw [hm2]
  ·rw [hxs]
theorem u3 (p : Prg) (hs : bO p.body ≤ 1000000) : PC Tryz.prog 96 [cW p] (fun r => r = sl dA (cX p)) := by
 have hn := kD p.body
 (refine aS Tryz.func96 rfl (by simp [Tryz.ntmps96]) ?_; rw [Tryz.ntmps96])
 repeat' (first|(apply aL;first|(apply aP;rfl;rfl;rfl;rfl)|(apply aD;rfl;rfl;rfl)|(apply aC;rfl;rfl)|(apply sN;rfl;rfl;(apply u6 <;> (assumption));rfl;rfl)|(apply bV;rfl;rfl;rfl;rfl;rfl;(rw [aT]; simp only [gY] <;> omega);(rfl);omega;omega;(exact j4 (by (simp only [gY] <;> omega)));rfl;rfl)|(apply aF;kernel_rfl)|(apply bY;rfl;(exact (rfl:_=some [_, _, _, _, _]));(exact (rfl:_=[_, _, _, _, _]));rfl)|(apply bA;rfl;rfl;rfl;rfl)|((apply bF (t := _));(case hze|hsm|hl => rfl);(case hfl => (exact (rfl:_=some [_, _, _, _, _])));(case hM|hN => rfl)))|(apply aM;first|apply aH|apply aB|apply aO)|with_reducible apply aA)
 (refine b0 (Le.frzD (d := 2) (i := 3) rfl rfl) ?_; refine aK rfl ?_)
 refine ⟨?_, ?_⟩
 ·simp only [bX, sl, cX, List.length_append, List.length_cons, List.length_nil, cT, Nat.zero_add]
 ·(exact bH _ _)
theorem vM (p : Prg) (hl : p.types.length ≤ 1000000) (hs : bO p.body ≤ 1000000) : PC Tryz.prog 56 [cW p] (fun r => r = sl dA (if c8 p = true then cX p else [])) := by
 (refine aS Tryz.func56 rfl (by simp [Tryz.ntmps56]) ?_; rw [Tryz.ntmps56])
 repeat' (first|(apply aL;first|(apply aR;rfl;rfl;(exact (rfl:_=[_, _]));rfl;rfl;rfl)|(apply aC;rfl;rfl)|(first|((with_reducible apply aJ (k := 25));(case ha => rfl);(case h => (apply iY <;> (first|assumption|omega)));(case hp => (exact Pur.pf));(case hN => rfl))|((with_reducible apply aJ (k := 96));(case ha => rfl);(case h => (apply u3 <;> (assumption)));(case hp => (exact Pur.pf));(case hN => rfl)))|(apply aF;kernel_rfl)|(apply bW;rfl;rfl)|(apply bA;rfl;rfl;rfl;rfl))|(apply aM;first|apply aH|apply aB|(apply aQ;rfl;all_goals intro hc;have hq:=hc;(try simp only [cC] at hq);try exfalso;omega)|apply aV|apply aO)|with_reducible apply aA|with_reducible apply a8)
 ·(refine b0 (Le.nilImm (d := 2) rfl) ?_; refine aK rfl ?_)
  refine ⟨?_, (by (rfl))⟩
  simp only [hq, bX, Bool.false_eq_true, if_false]; rfl
 ·refine aK rfl ⟨?_, (by (exact bH _ _))⟩
  simp only [hq, bX, if_true]
theorem tS {l : List AL.Stmt} {pts : List Pnt} {m : Nat} {N : Nat} {Q : Exit → AS → Prop} {all : Array Oper} {rest : List Oper} {tsl : List (Nat × AV)} {hsl : List (Nat × Option (List AV))} {nidl : Nat} {z0 : Lo} {md : Md} {d : Nat} {ty : TypeId} {pos : String} {af : Array Edge} {tys : Array TypeId} {x0 x1 : Operand} {i0 : Nat} (ha0 : ev (lk tsl) x0 = some (.own i0 0 m 5)) (ha1 : ev (lk tsl) x1 = some (sl bB l)) (hH0 : b8 hsl i0 = some (aI dA pts)) (hmc : MC Tryz.prog 100 [.own 0 0 m 5, sl bB l] [(0, some (aI dA pts))] 1 (fun _ : Unit => True) (fun _ => .own 1 0 (m + dQ l) 5) (fun _ => [(1, some (aI dA (pts ++ fO pts.length l)))])) (hM : Nat.ble (nidl + 1) dR = true) (hN : Nat.blt d N = true) {md' : Md} [hmd : MdA md (e7 [x0, x1] ++ [.inr i0]) (List.map Sum.inr (List.map Prod.fst ([(nidl, some (aI dA (pts ++ fO pts.length l))), (i0, none)] : List (Nat × Option (List AV)))) ++ [.inl d]) md'] (kk : RW Tryz.prog N all Q md' rest ⟨(d, .own nidl 0 (m + dQ l) 5) :: tsl, fS hsl [(nidl, some (aI dA (pts ++ fO pts.length l))), (i0, none)], nidl + 1, z0⟩) : RW Tryz.prog N all Q md (⟨some d, .call ⟨.value (.func 100), #[x0, x1], tys⟩, ty, pos, af, none⟩ :: rest) ⟨tsl, hsl, nidl, z0⟩ := by
 refine bP [i0] 2 [(nidl, some (aI dA (pts ++ fO pts.length l))), (i0, none)] hmc (avs := [.own i0 0 m 5, sl bB l]) ?_ rfl ?_ rfl ?_ (by simpa using hM) ?_ ?_ ?_ hN (md' := md') (hmd := hmd) kk
 ·show evL (lk tsl) [x0, x1] = _
  simp only [evL, ha0, ha1]
 ·exact ⟨⟨_, _, rfl, hH0, by (repeat' (exact RnL.purI inferInstance))⟩, trivial⟩
 ·(repeat' (first|exact RnL.purI inferInstance|exact RnV.own rfl|refine RnL.cons ?_ ?_))
 ·(repeat' (exact RnV.own rfl))
 ·simp [cZ]
 ·(repeat' (first|exact trivial|(refine And.intro ⟨1, _, rfl, rfl, ?_⟩ ?_)|exact RnL.purI inferInstance))
theorem BW (mm : Nat) (hmm : mm ≤ 1000000) (l2Add_ih : ∀ l pts m, bO l < mm → m = pts.length → m + dQ l ≤ 12000000 → MC Tryz.prog 100 [.own 0 0 m 5, sl bB l] [(0, some (aI dA pts))] 1 (fun _ : Unit => True) (fun _ => .own 1 0 (m + dQ l) 5) (fun _ => [(1, some (aI dA (pts ++ fO pts.length l)))])) (l : List AL.Stmt) (pts : List Pnt) (m : Nat) (hs : bO l ≤ mm) (hm : m = pts.length) (hb : m + dQ l ≤ 12000000) : MC Tryz.prog 100 [.own 0 0 m 5, sl bB l] [(0, some (aI dA pts))] 1 (fun _ : Unit => True) (fun _ => .own 1 0 (m + dQ l) 5) (fun _ => [(1, some (aI dA (pts ++ fO pts.length l)))]) := by
 have hlen := dX l
 subst hm
 (refine bK Tryz.func100 rfl (by simp [Tryz.ntmps100]) ?_; rw [Tryz.ntmps100])
 repeat' (first|(apply aL;first|(apply aC;rfl;rfl)|(apply aF;kernel_rfl))|(apply aM;first|apply aH|apply aB|apply aN)|with_reducible apply aA)
 refine AW.le ?_ (Le.mv (d := 0) (i := 0) (cs := aI dA pts) rfl rfl (by decide))
 refine bL (σ := Nat × List Pnt × Nat) [1] [(1, _)] [] [] (fun k => [(5, iv (k.1 : Int)), (0, .own 1 0 k.2.2 5)]) (fun k => [(1, some (aI dA k.2.1))]) (fun k => k.1 ≤ l.length ∧ k.2.1 = pts ++ fO pts.length (l.take k.1) ∧ k.2.2 = k.2.1.length ∧ k.2.2 = pts.length + dQ (l.take k.1)) (fun k => l.length - k.1) (0, pts, pts.length) ⟨by omega, by simp [fO], rfl, by simp [dQ]⟩ rfl rfl (by repeat' (first|exact trivial|refine And.intro rfl ?_)) (by repeat' (first|exact trivial|refine And.intro (.inr rfl) ?_)) ?_
 rintro ⟨k, xs, m1⟩ ⟨hk, hxs, hm1, hm2⟩
 dsimp only at hk hxs hm1 hm2 ⊢
 have hck := fF l k
 have hct := jL l[k]!
 have hnt := xA l k
 have n9 := Bb l[k]!
 have n10 := xQ l[k]!
 have n1 := CI l[k]!
 repeat' (first|(apply aL;first|(apply aE;rfl;rfl)|(first|(apply aP;rfl;rfl;rfl;rfl)|(apply aR;rfl;rfl;(exact (rfl:_=[_, _, _, _, _, _]));rfl;rfl;rfl))|(apply aD;rfl;rfl;rfl)|(first|(apply bN;rfl;rfl;omega;rfl)|(apply aU;rfl;rfl;rfl;rfl))|(apply aC;rfl;rfl)|(first|(apply bI;(case hx|hi => rfl);(case hm => (omega));(case hml => (rfl));(case hα | hf|hg => infer_instance);(case hN => rfl))|(apply cE;rfl;rfl;(omega);rfl))|(apply tS;rfl;rfl;(rfl);(apply l2Add_ih <;> (first|omega|(simp only [gY] <;> omega)));rfl;rfl)|(first|(apply bM;rfl;rfl;rfl)|(apply bV;rfl;rfl;rfl;rfl;rfl;(first|(rw [aT]; omega)|(rw [aT]; simp only [gY] <;> omega));(rfl);omega;omega;(first|exact oZ (by (first|assumption|(simp only [gY] <;> omega)))|exact j4 (by (first|assumption|(simp only [gY] <;> omega))));rfl;rfl))|(apply aF;kernel_rfl)|(apply bY;rfl;(exact (rfl:_=some [_, _, _, _, _]));(exact (rfl:_=[_, _, _, _, _]));rfl)|(apply bD;rfl;rfl)|((apply bF (t := _));(case hze|hsm|hl => rfl);(case hfl => (first|exact (rfl:_=some [_])|exact (rfl:_=some [_, _])|exact (rfl:_=some [_, _, _, _, _])));(case hM|hN => rfl))|(apply aW;rfl;rfl;rfl;rfl;rfl;(case hl => (first|(rw [aT]; simp only [gY] <;> omega)|(simp;done)));(first|exact pC (by (simp only [gY] <;> omega))|exact oN (by (simp only [gY] <;> omega))|exact (rfl:_=[_, _, _, _, _, _]))))|(apply aM;first|apply aH|apply aB|(apply aQ;rfl;all_goals intro hc;have hq:=hc;(try simp only [cC] at hq);try exfalso;omega)|apply aN|apply aV|apply bS|apply aO)|with_reducible apply aA|with_reducible apply bU|with_reducible apply aX|with_reducible apply bT)
 ·(apply dG (k + 1, _, _); focus (refine Le.ren [(1, 8)] rfl (by decide) ?_ ?_ <;> repeat' (first | exact trivial | refine And.intro ⟨_, rfl, ?_⟩ ?_ | refine And.intro ⟨_, _, rfl, rfl, ?_⟩ ?_ | exact Or.inr rfl | refine Or.inl ⟨?_, (by first | rfl | exact bH _ _)⟩ | rfl)))
  ·dsimp only
   rw [sB (by rw [cT, hm1]), rX (by rw [cT, hm1]), rZ hm1, rU hm1, fH l _ k (by omega), e5 l k (by omega), gP, if_pos hq, n9 hq]
   refine ⟨by omega, ?_, by simp [cT]; omega, by omega⟩
   have e1 : xs.length = pts.length + dQ (l.take k) := by omega
   rw [← List.append_assoc pts, ← hxs, ← e1]
   simp only [List.append_assoc, List.length_append, List.length_cons, List.length_nil, cT, hm1, Nat.zero_add]
   clear l2Add_ih hxs hck hnt n9 n10 n1
   grind
  ·dsimp only;omega
 ·(apply dG (k + 1, _, _); focus (refine Le.ren [(1, 8)] rfl (by decide) ?_ ?_ <;> repeat' (first | exact trivial | refine And.intro ⟨_, rfl, ?_⟩ ?_ | refine And.intro ⟨_, _, rfl, rfl, ?_⟩ ?_ | exact Or.inr rfl | refine Or.inl ⟨?_, (by first | rfl | exact bH _ _)⟩ | rfl)))
  ·dsimp only
   rw [wV hm1, wF hm1, fH l _ k (by omega), e5 l k (by omega), gP, if_neg (by omega), if_pos hq, n10 hq]
   refine ⟨by omega, ?_, by simp [cT]; omega, by omega⟩
   have e1 : xs.length = pts.length + dQ (l.take k) := by omega
   rw [← List.append_assoc pts, ← hxs, ← e1]
   simp only [List.append_assoc, List.length_append, List.length_cons, List.length_nil, cT, hm1, Nat.zero_add]
   clear l2Add_ih hxs hck hnt n9 n10 n1
   grind
  ·dsimp only;omega
 ·(apply dG (k + 1, _, _); focus (refine Le.ren [(1, 5)] rfl (by decide) ?_ ?_ <;> repeat' (first | exact trivial | refine And.intro ⟨_, rfl, ?_⟩ ?_ | refine And.intro ⟨_, _, rfl, rfl, ?_⟩ ?_ | exact Or.inr rfl | refine Or.inl ⟨?_, (by first | rfl | exact bH _ _)⟩ | rfl)))
  ·dsimp only
   rw [fH l _ k (by omega), e5 l k (by omega), gP, if_neg ‹¬l[k]!.op = 9›, if_neg hq, n1 ‹¬l[k]!.op = 9› hq]
   refine ⟨by omega, ?_, by simp [cT]; omega, by omega⟩
   have e1 : xs.length = pts.length + dQ (l.take k) := by omega
   rw [← List.append_assoc pts, ← hxs, ← e1, hm1]
  ·dsimp only;omega
 ·refine aK rfl ?_
  have e2 : l.take k = l := List.take_of_length_le (by omega)
  rw [e2] at hxs hm2
  refine bG () trivial ?_ ⟨.inr (Eq.trans (b := some _) rfl ?_), trivial⟩
  ·simp only [bX]; rw [hm2]
  ·rw [hxs]
theorem Dy (l : List AL.Stmt) (pts : List Pnt) (m : Nat) (hs : bO l ≤ 1000000) (hm : m = pts.length) (hb : m + dQ l ≤ 12000000) : MC Tryz.prog 100 [.own 0 0 m 5, sl bB l] [(0, some (aI dA pts))] 1 (fun _ : Unit => True) (fun _ => .own 1 0 (m + dQ l) 5) (fun _ => [(1, some (aI dA (pts ++ fO pts.length l)))]) := by
 have h : ∀ (mm : Nat), mm ≤ 1000000 → ∀ l pts m, bO l ≤ mm → m = pts.length → m + dQ l ≤ 12000000 → MC Tryz.prog 100 [.own 0 0 m 5, sl bB l] [(0, some (aI dA pts))] 1 (fun _ : Unit => True) (fun _ => .own 1 0 (m + dQ l) 5) (fun _ => [(1, some (aI dA (pts ++ fO pts.length l)))]) := by
  intro mm
  induction mm using Nat.strongRecOn with
  | ind mm ih =>
   intro h0 l pts m h1 h2 h3
   exact BW mm h0 (fun l' pts' m' g1 g2 g3 => ih _ g1 (by omega) l' pts' m' (Nat.le_refl _) g2 g3) l pts m h1 h2 h3
 exact h _ hs l pts m (Nat.le_refl _) hm hb
theorem oA (p : Prg) (hs : bO p.body ≤ 1000000) : PC Tryz.prog 60 [cW p] (fun r => r = sl dA (cX p)) := by
 have hn := kD p.body
 have e0 : ([] : List AV) = aI dA [] := rfl
 (refine aS Tryz.func60 rfl (by simp [Tryz.ntmps60]) ?_; rw [Tryz.ntmps60])
 repeat' (first|(apply aL;first|(apply aP;rfl;rfl;rfl;rfl)|(apply aD;rfl;rfl;rfl)|(apply aC;rfl;rfl)|(apply tS;rfl;rfl;(exact Ay rfl);(apply Dy <;> (first|assumption|omega|(simp only [gY] <;> omega)));rfl;rfl)|(apply bV;rfl;rfl;rfl;rfl;rfl;(rw [aT]; simp only [gY] <;> omega);(rfl);omega;omega;(exact j4 (by (simp only [gY] <;> omega)));rfl;rfl)|(apply aF;kernel_rfl)|(apply bY;rfl;(exact (rfl:_=some [_, _, _, _, _]));(exact (rfl:_=[_, _, _, _, _]));rfl)|(apply bA;rfl;rfl;rfl;rfl)|(apply bQ;rfl;rfl;rfl;(first|exact (rfl:_=some [_, _, _, _, _])|rfl);rfl;rfl))|(apply aM;first|apply aH|apply aB|apply aO)|with_reducible apply aA)
 (refine b0 (Le.frzD (d := 2) (i := 4) rfl rfl) ?_; refine aK rfl ?_)
 refine ⟨?_, (by (exact bH _ _))⟩
 simp only [bX, sl, cX, List.length_append, List.length_cons, List.length_nil, cT, Nat.zero_add, List.nil_append]
theorem zC (ts : List Int) (bd : List AL.Stmt) (pts : List Pnt) (v : Int) (h : 0 ≤ v ∧ v < ts.length) : PC Tryz.prog 131 [aG ts bd pts, iv v] (fun r => r = bv (yO ts[v.toNat]!)) := by
 (refine aS Tryz.func131 rfl (by simp [Tryz.ntmps131]) ?_; rw [Tryz.ntmps131])
 repeat' (first|(apply aL;first|(apply aE;rfl;rfl)|(apply aP;rfl;rfl;rfl;rfl)|(apply aD;rfl;rfl;rfl)|(first|(apply aY;rfl;rfl;rfl;(assumption))|(apply a7;rfl;rfl;rfl;(assumption))|(apply bE;(case hj|hb|hN => rfl);all_goals (intro hg;have hq := hg;(try simp only [cC] at hq);(try (exfalso;omega)))))|(apply aU;rfl;rfl;rfl;rfl)|(apply aC;rfl;rfl)|(first|(apply bJ;rfl;(assumption);rfl;rfl)|(apply bC;rfl;(assumption);rfl;rfl))|(apply cM;(case hx|hi => rfl);(case hm => (assumption));(case hml => (rfl));(case hα | hf|hg => infer_instance);(case hN => rfl))|(apply aF;kernel_rfl)|(apply cB;rfl;rfl;rfl))|(apply aM;first|apply aH|apply aB|apply aO)|with_reducible apply aA|((with_reducible apply aK);case hr => rfl))
 all_goals (refine ⟨?_, rfl⟩; simp only [bX, AV.v.injEq, Value.bool.injEq, Value.int.injEq, true_and])
 all_goals grind [yO]
theorem FJ (ts : List Int) (bd : List AL.Stmt) (pts : List Pnt) (x : Pnt) (v : Int) (h : 0 ≤ v ∧ v < ts.length) : PC Tryz.prog 224 [aG ts bd pts, eX x, iv v] (fun r => r = iv (fN ts x v)) := by
 (refine aS Tryz.func224 rfl (by simp [Tryz.ntmps224]) ?_; rw [Tryz.ntmps224])
 repeat' (first|(apply aL;first|(apply aE;rfl;rfl)|(apply aP;rfl;rfl;rfl;rfl)|(apply aD;rfl;rfl;rfl)|(first|(apply aY;rfl;rfl;rfl;(assumption))|(apply a7;rfl;rfl;rfl;(assumption))|(apply bE;(case hj|hb|hN => rfl);all_goals (intro hg;have hq := hg;(try simp only [cC] at hq);(try (exfalso;omega)))))|(apply aU;rfl;rfl;rfl;rfl)|(apply aC;rfl;rfl)|(first|(apply bJ;rfl;(assumption);rfl;rfl)|(apply bC;rfl;(assumption);rfl;rfl))|((with_reducible apply aJ (k := 131));(case ha => rfl);(case h => (apply zC <;> (assumption)));(case hp => (exact Pur.pf));(case hN => rfl))|(apply aF;kernel_rfl)|(apply bA;rfl;rfl;rfl;rfl))|(apply aM;first|apply aH|apply aB|(apply bR;rfl;(assumption))|(apply b9;rfl;(first|rfl|assumption))|(apply aQ;rfl;all_goals intro hc;have hq:=hc;(try simp only [cC] at hq);try exfalso;omega)|apply aN|apply aV|apply aO)|with_reducible apply aA|with_reducible apply a8|with_reducible apply aX|with_reducible apply cA|((with_reducible apply aK);case hr => rfl))
 all_goals (refine ⟨?_, rfl⟩; simp only [bX, AV.v.injEq, Value.bool.injEq, Value.int.injEq, true_and])
 all_goals grind [yO, fN]
def Ba (xs : List Int) (v : Int) : Int := match xs.findIdx? (fun t => decide (t = v)) with | some i => i | none => -1
theorem Du (xs : List Int) (v : Int) (hl : xs.length ≤ 1000000) : PC Tryz.prog 124 [sl cI xs, iv v] (fun r => r = iv (Ba xs v)) := by
 (refine aS Tryz.func124 rfl (by simp [Tryz.ntmps124]) ?_; rw [Tryz.ntmps124])
 repeat' (first|(apply aL;first|(apply aE;rfl;rfl)|(apply aC;rfl;rfl)|(apply bM;rfl;rfl;rfl)|(apply aF;kernel_rfl))|(apply aM;first|apply aH|apply aB|apply aN)|with_reducible apply aA)
 refine bL (σ := Nat) [0, 1, 7] [(0, _), (1, _), (7, _)] [] [] (fun k => [(8, iv (k : Int))]) (fun k => []) (fun k => k ≤ xs.length ∧ ∀ i, i < k → xs[i]! ≠ v) (fun k => xs.length - k) (0) ⟨by omega, by omega⟩ rfl rfl (by repeat' (first|exact trivial|refine And.intro rfl ?_)) (by repeat' (exact trivial)) ?_
 intro k ⟨hk, hall⟩
 repeat' (first|(apply aL;first|(apply aE;rfl;rfl)|(apply aP;rfl;rfl;rfl;rfl)|(first|(apply bN;rfl;rfl;omega;rfl)|(apply aU;rfl;rfl;rfl;rfl))|(apply aC;rfl;rfl)|(apply bI;(case hx|hi => rfl);(case hm => (omega));(case hml => (rfl));(case hα | hf|hg => infer_instance);(case hN => rfl))|(apply aF;kernel_rfl))|(apply aM;first|apply aH|apply aB|(apply aQ;rfl;all_goals intro hc;have hq:=hc;(try simp only [cC] at hq);try exfalso;omega)|apply aN|apply aV|apply bS|apply aO)|with_reducible apply aA|with_reducible apply a8|with_reducible apply bU|with_reducible apply aX|with_reducible apply cA|with_reducible apply bT|((with_reducible apply aK);case hr => rfl))
 ·(refine ⟨?_, rfl⟩; simp only [bX, AV.v.injEq, Value.bool.injEq, Value.int.injEq, true_and])
  have hlt : k < xs.length := by omega
  have : xs.findIdx? (fun t => decide (t = v)) = some k := by
   rw [List.findIdx?_eq_some_iff_getElem]
   refine ⟨hlt, ?_, fun j hj => ?_⟩
   ·rw [← cV xs k hlt]; grind
   ·have := hall j hj;rw [cV xs j (by omega)] at this;simpa using this
  simp only [Ba, this]
 ·(apply dG (k + 1); focus (refine Le.ren [] rfl (by decide) ?_ ?_ <;> repeat' (first | exact trivial | refine And.intro ⟨_, rfl, ?_⟩ ?_ | refine Or.inl ⟨?_, (by first | rfl | exact bH _ _)⟩ | rfl)))
  ·grind
  ·omega
 ·(refine ⟨?_, rfl⟩; simp only [bX, AV.v.injEq, Value.bool.injEq, Value.int.injEq, true_and])
  have : xs.findIdx? (fun t => decide (t = v)) = none := by
   rw [List.findIdx?_eq_none_iff]
   intro x hx
   obtain ⟨i, hi, rfl⟩ := List.getElem_of_mem hx
   have := hall i (by omega);rw [cV xs i hi] at this;simpa using this
  simp only [Ba, this]
theorem Db (xs : List Int) (v : Int) : decide (0 ≤ Ba xs v) = decide (v ∈ xs) := by
 unfold Ba
 split
 ·rename_i i h
  obtain ⟨h1, h2, _⟩ := List.findIdx?_eq_some_iff_getElem.1 h
  simp only [decide_eq_true_eq] at h2
  have : v ∈ xs := by rw [← h2]; exact List.getElem_mem h1
  simp [this]
 ·rename_i h
  rw [List.findIdx?_eq_none_iff] at h
  have : v ∉ xs := fun hm => by have := h v hm;simp at this
  simp [this]
theorem xO (xs : List Int) (v : Int) (hl : xs.length ≤ 1000000) : PC Tryz.prog 78 [sl cI xs, iv v] (fun r => r = bv (decide (v ∈ xs))) := by
 (refine aS Tryz.func78 rfl (by simp [Tryz.ntmps78]) ?_; rw [Tryz.ntmps78])
 repeat' (first|(apply aL;first|(apply aE;rfl;rfl)|(apply aU;rfl;rfl;rfl;rfl)|(apply aC;rfl;rfl)|((with_reducible apply aJ (k := 124));(case ha => rfl);(case h => (apply Du <;> (assumption)));(case hp => (exact Pur.pf));(case hN => rfl))|(apply aF;kernel_rfl))|(apply aM;first|apply aH|apply aB|apply aO)|with_reducible apply aA|((with_reducible apply aK);case hr => rfl))
 (refine ⟨?_, rfl⟩; simp only [bX, AV.v.injEq, Value.bool.injEq, Value.int.injEq, true_and])
 exact Db xs v
theorem CX (ts : List Int) (bd : List AL.Stmt) (pts : List Pnt) (x : Pnt) (us : List Int) (h : ts.length ≤ 6) (hu : us.length ≤ 1000) : PC Tryz.prog 179 [aG ts bd pts, eX x, sl cI us] (fun r => r = iv (wS ts x us : Nat)) := by
 (refine aS Tryz.func179 rfl (by simp [Tryz.ntmps179]) ?_; rw [Tryz.ntmps179])
 repeat' (first|(apply aL;first|(apply aE;rfl;rfl)|(apply aP;rfl;rfl;rfl;rfl)|(apply aD;rfl;rfl;rfl)|(apply aC;rfl;rfl)|(apply bM;rfl;rfl;rfl)|(apply aF;kernel_rfl)|(apply cB;rfl;rfl;rfl)|(apply bA;rfl;rfl;rfl;rfl))|(apply aM;first|apply aH|apply aB|apply aN)|with_reducible apply aA)
 refine bL (σ := Nat × Nat) [0, 2, 4, 14] [(0, _), (2, _), (4, _), (14, _)] [0] [(0, some _)] (fun k => [(15, iv (k.1 : Int)), (7, iv (k.2 : Int))]) (fun k => []) (fun k => k.1 ≤ ts.length ∧ k.2 = fD (fun v => decide (fN ts x v ∈ us)) k.1) (fun k => ts.length - k.1) (0, 0) ⟨by omega, rfl⟩ rfl rfl (by repeat' (first|exact trivial|refine And.intro rfl ?_)) (by repeat' (exact trivial)) ?_
 rintro ⟨k, A⟩ ⟨hk, hA⟩
 dsimp only at hk hA ⊢
 have hsm : Sm A := hA ▸ dU (by omega)
 repeat' (first|(apply aL;first|(apply aE;rfl;rfl)|(apply aR;rfl;rfl;(exact (rfl:_=[_, _, _, _, _]));rfl;rfl;rfl)|(first|(apply EK;rfl;rfl;infer_instance;infer_instance;infer_instance;rfl)|(apply lW;rfl;rfl;infer_instance;omega;rfl;(case' kk => intro hsm))|(apply bN;rfl;rfl;omega;rfl)|(apply aU;rfl;rfl;rfl;rfl))|(apply aC;rfl;rfl)|(first|((with_reducible apply aJ (k := 78));(case ha => rfl);(case h => (apply xO <;> (omega)));(case hp => (exact Pur.pf));(case hN => rfl))|((with_reducible apply aJ (k := 224));(case ha => rfl);(case h => (apply FJ <;> (omega)));(case hp => (exact Pur.pf));(case hN => rfl)))|(apply aF;kernel_rfl))|(apply aM;first|apply aH|apply aB|(apply aQ;rfl;all_goals intro hc;have hq:=hc;(try simp only [cC] at hq);try exfalso;omega)|apply aN|apply aV|apply bS|apply aO)|with_reducible apply aA|with_reducible apply bU|with_reducible apply aX|with_reducible apply bT|((with_reducible apply aK);case hr => rfl))
 ·(apply dG (k + 1, _); focus (refine Le.ren [(0, 0)] rfl (by decide) ?_ ?_ <;> repeat' (first | exact trivial | refine And.intro ⟨_, rfl, ?_⟩ ?_ | refine And.intro ⟨_, _, rfl, rfl, ?_⟩ ?_ | exact Or.inr rfl | refine Or.inl ⟨?_, (by first | rfl | exact bH _ _ | exact Pur.pf)⟩ | rfl)))
  ·dsimp only
   rw [hA]
   exact ⟨by omega, u5 _ _ (by simpa using hq)⟩
  ·dsimp only;omega
 ·(apply dG (k + 1, _); focus (refine Le.ren [(0, 0)] rfl (by decide) ?_ ?_ <;> repeat' (first | exact trivial | refine And.intro ⟨_, rfl, ?_⟩ ?_ | refine And.intro ⟨_, _, rfl, rfl, ?_⟩ ?_ | exact Or.inr rfl | refine Or.inl ⟨?_, (by first | rfl | exact bH _ _ | exact Pur.pf)⟩ | rfl)))
  ·dsimp only
   rw [hA]
   exact ⟨by omega, tI _ _ (by simpa using hq)⟩
  ·dsimp only;omega
 ·(refine ⟨?_, rfl⟩; simp only [bX, AV.v.injEq, Value.bool.injEq, Value.int.injEq, true_and])
  rw [hA, show k = ts.length by omega]; rfl
theorem iX (ts : List Int) (bd : List AL.Stmt) (pts : List Pnt) (x : Pnt) (h : ts.length ≤ 6) : PC Tryz.prog 120 [aG ts bd pts, eX x] (fun r => r = iv (wS ts x [1, 2, 3] : Nat)) := by
 (refine aS Tryz.func120 rfl (by simp [Tryz.ntmps120]) ?_; rw [Tryz.ntmps120])
 repeat' (first|(apply aL;first|(apply aE;rfl;rfl)|(apply aR;rfl;rfl;(exact (rfl:_=[_, _, _, _, _]));rfl;rfl;rfl)|(apply aC;rfl;rfl)|((with_reducible apply aJ (k := 179));(case ha => rfl);(case h => (apply CX (us := [1, 2, 3]) <;> (first|assumption|decide)));(case hp => (exact Pur.pf));(case hN => rfl))|(apply aF;kernel_rfl)|(apply bA;rfl;rfl;rfl;rfl)|((apply bF (t := _));(case hze|hsm|hl => rfl);(case hfl => (exact (rfl:_=some [_, _, _])));(case hM|hN => rfl)))|(apply aM;first|apply aH|apply aB|apply aO)|with_reducible apply aA|((with_reducible apply aK);case hr => rfl))
 (refine ⟨?_, rfl⟩; simp only [bX, AV.v.injEq, Value.bool.injEq, Value.int.injEq, true_and])
theorem iT (A : Nat) (hA : Sm A) : PC Tryz.prog 119 [iv (A : Int)] (fun r => r = sl cI (fI A)) := by
 (refine aS Tryz.func119 rfl (by simp [Tryz.ntmps119]) ?_; rw [Tryz.ntmps119])
 repeat' (first|(apply aL;first|(apply aC;rfl;rfl)|(apply aF;kernel_rfl))|(apply aM;first|apply aH|apply aB|apply aN)|with_reducible apply aA)
 refine AW.le ?_ (Le.nilOwn (d := 3) 1 rfl (by decide))
 refine bL (σ := Nat × List Int × Nat) [0] [(0, _)] [] [] (fun k => [(4, iv (k.1 : Int)), (3, .own 0 0 k.2.2 1)]) (fun k => [(0, some (aI cI k.2.1))]) (fun k => k.1 ≤ 62 ∧ k.2.1 = ((List.range k.1).filter (A.testBit ·)).map (fun v : Nat => (v : Int)) ∧ k.2.2 = k.2.1.length ∧ k.2.2 ≤ k.1) (fun k => 62 - k.1) (0, [], 0) ⟨by omega, rfl, rfl, Nat.le_refl _⟩ rfl rfl (by repeat' (first|exact trivial|refine And.intro rfl ?_)) (by repeat' (first|exact trivial|refine And.intro (.inr rfl) ?_)) ?_
 rintro ⟨k, u, m⟩ ⟨hk, hu, hm, hmk⟩
 dsimp only at hk hu hm hmk ⊢
 repeat' (first|(apply aL;first|(apply aE;rfl;rfl)|(first|(apply yJ;rfl;rfl;infer_instance;infer_instance;rfl)|(apply x8;rfl;rfl;infer_instance;infer_instance;omega;rfl)|(apply bN;rfl;rfl;omega;rfl)|(apply aU;rfl;rfl;rfl;rfl))|(apply aC;rfl;rfl)|(apply bV;rfl;rfl;rfl;rfl;rfl;(rw [aT]; omega);(rfl);omega;omega;(exact fW (by (assumption)));rfl;rfl)|(apply aF;kernel_rfl)|((apply bF (t := _));(case hze|hsm|hl => rfl);(case hfl => exact (rfl:_=some [_]));(case hM|hN => rfl)))|(apply aM;first|apply aH|apply aB|(apply aQ;rfl;all_goals intro hc;have hq:=hc;(try simp only [cC] at hq);try exfalso;omega)|apply aN|apply aV|apply bS|apply aO)|with_reducible apply aA|with_reducible apply bU|with_reducible apply aX|with_reducible apply bT)
 ·have hlt := zB hA (show 0 < ((A >>> k : Nat) : Int) by assumption)
  (apply dG (k + 1, _, _);focus (refine Le.ren [(0, 2)] rfl (by decide) ?_ ?_ <;> repeat' (first|exact trivial|refine And.intro ⟨_, rfl, ?_⟩ ?_|refine And.intro ⟨_, _, rfl, rfl, ?_⟩ ?_|exact Or.inr rfl|refine Or.inl ⟨?_, (by first|rfl|exact bH _ _)⟩|rfl)))
  ·dsimp only
   exact ⟨by omega, Al hq hu, by simp;omega, by omega⟩
  ·dsimp only;omega
 ·have hlt := zB hA (show 0 < ((A >>> k : Nat) : Int) by assumption)
  (apply dG (k + 1, u, m);focus (refine Le.ren [(0, 0)] rfl (by decide) ?_ ?_ <;> repeat' (first|exact trivial|refine And.intro ⟨_, rfl, ?_⟩ ?_|refine And.intro ⟨_, _, rfl, rfl, ?_⟩ ?_|exact Or.inr rfl|refine Or.inl ⟨?_, (by first|rfl|exact bH _ _)⟩|rfl)))
  ·dsimp only
   exact ⟨by omega, Ax hq hu, hm, by omega⟩
  ·dsimp only;omega
 ·(refine b0 (Le.frzD (d := 2) (i := 0) rfl rfl) ?_; refine aK rfl ?_)
  refine ⟨?_, (by (exact bH _ _))⟩
  simp only [bX, sl]
  rw [Am (k := k) (fun v hv => Ce hq v hv) (by omega) hA, ← hu, ← hm]
theorem rD (p : Prg) (hl : p.types.length ≤ 1000000) (hs : bO p.body ≤ 1000000) : PC Tryz.prog 62 [cW p, .v (.slice none 0 0)] (fun r => r = if c8 p = true then .tup [aG p.types p.body (cX p), bv true] else .tup [.v (.pointer none), bv false]) := by
 have hpl := nT p
 have hnl := kD p.body
 (refine aS Tryz.func62 rfl (by simp [Tryz.ntmps62]) ?_; rw [Tryz.ntmps62])
 repeat' (first|(apply aL;first|(apply aE;rfl;rfl)|(apply aR;rfl;rfl;(exact (rfl:_=[_, _]));rfl;rfl;rfl)|(apply aC;rfl;rfl)|(first|((with_reducible apply aJ (k := 25));(case ha => rfl);(case h => (apply iY <;> (first|assumption|omega)));(case hp => (exact Pur.pf));(case hN => rfl))|((with_reducible apply aJ (k := 96));(case ha => rfl);(case h => (apply u3 <;> (assumption)));(case hp => (exact Pur.pf));(case hN => rfl)))|(apply bM;rfl;rfl;rfl)|(apply aF;kernel_rfl)|(apply bY;rfl;(exact (rfl:_=some [_, _, _]));(exact (rfl:_=[_, _, _]));rfl)|(apply bW;rfl;rfl)|(apply bA;rfl;rfl;rfl;rfl))|(apply aM;first|apply aH|apply aB|(apply bZ;kernel_rfl)|(apply aQ;rfl;all_goals intro hc;have hq:=hc;(try simp only [cC] at hq);try exfalso;omega)|apply aN|apply aV|apply aO)|with_reducible apply aA|with_reducible apply a8)
 ·refine aK rfl ⟨?_, (by (rfl))⟩
  rw [if_neg (by simp [hq])]; rfl
 ·refine bL (σ := Unit) [6, 17, 18] [(6, _), (17, _), (18, _)] [1] [(1, some _)] (fun _u => [(19, iv 0)]) (fun _u => []) (fun _u => True) (fun _u => 0) () trivial rfl rfl (by repeat' (first | exact trivial | refine And.intro rfl ?_)) (by repeat' (exact trivial)) ?_
  intro _ _
  repeat' (first|(apply aL;first|(apply aE;rfl;rfl)|(apply aU;rfl;rfl;rfl;rfl)|(apply aC;rfl;rfl)|(apply aF;kernel_rfl))|(apply aM;first|apply aH|apply aB|(apply b9;rfl;(rfl))|apply bS|apply aO)|with_reducible apply aA|with_reducible apply bU|with_reducible apply bT)
  refine b0 (Le.frzP (d := 4) (i := 1) rfl rfl) ?_
  refine aK rfl ⟨?_, (by show (AV.tup [aG p.types p.body (cX p), bv true]).pur = true;exact PurV.pf)⟩
  rw [if_pos hq]; rfl
instance : BoT Tryz.prog 4 := ⟨by kernel_rfl⟩
abbrev eF (bs : List UInt8) (p : Nat) : List AV := [sl cU bs, iv (p : Int)]
def El (bs : List UInt8) (q : Int) : Int := ((bs[(q % (bs.length : Int)).toNat]!).toNat : Int) * 131 + ((bs[((q * 7 + 3) % (bs.length : Int)).toNat]!).toNat : Int) * 1117 + q * 29 + q / (bs.length : Int) * 53
def cJ (bs : List UInt8) (p : Nat) (n : Int) : Int :=
 if n < 1 then 0 else if (bs.length : Int) = 0 then 0 else
 if (p : Int) + 1 - 1 < (bs.length : Int) then ((bs[((p : Int) + 1 - 1).toNat]!).toNat : Int) % n
 else (((El bs ((p : Int) + 1 - 1)).toNat ^^^ (El bs ((p : Int) + 1 - 1) / 64).toNat : Nat) : Int) % n
theorem eZ (bs : List UInt8) (p : Nat) (n : Int) : 0 ≤ cJ bs p n ∧ (cJ bs p n < n ∨ n < 1 ∧ cJ bs p n = 0) := by
 unfold cJ
 split
 ·omega
 ·split
  ·omega
  ·split
   ·exact ⟨Int.emod_nonneg _ (by omega), .inl (Int.emod_lt_of_pos _ (by omega))⟩
   ·exact ⟨Int.emod_nonneg _ (by omega), .inl (Int.emod_lt_of_pos _ (by omega))⟩
def gG (bs : List UInt8) (p : Nat) (xs : List Int) : Int := xs[(cJ bs p (xs.length : Int)).toNat]!
class NumL (cs : List AV) (xs : outParam (List Int)) : Prop where h : cs = aI cI xs
instance NumL.nil : NumL [] [] := ⟨rfl⟩
instance NumL.cons {n : Int} {cs : List AV} {xs : List Int} [h : NumL cs xs] : NumL (.v (.int .i64 n) :: cs) (n :: xs) := ⟨by rw [h.h]; rfl⟩
theorem kL {bs : List UInt8} {p : Nat} {n : Int} {N : Nat} {Q : Exit → AS → Prop} {all : Array Oper} {rest : List Oper} {tsl : List (Nat × AV)} {hsl : List (Nat × Option (List AV))} {nidl : Nat} {z0 : Lo} {md : Md} {d : Nat} {ty : TypeId} {pos : String} {af : Array Edge} {tys : Array TypeId} {x0 x1 : Operand} {i0 : Nat} (ha0 : ev (lk tsl) x0 = some (.optr i0 0)) (ha1 : ev (lk tsl) x1 = some (iv n)) (hH0 : b8 hsl i0 = some (eF bs p)) (hmc : MC Tryz.prog 110 [.optr 0 0, iv n] [(0, some (eF bs p))] 1 (fun _ : Unit => True) (fun _ => iv (cJ bs p n)) (fun _ => [(0, some (eF bs (p + 1)))])) (hM : Nat.ble (nidl + 0) dR = true) (hN : Nat.blt d N = true) {md' : Md} [hmd : MdA md (e7 [x0, x1] ++ [.inr i0]) (List.map Sum.inr (List.map Prod.fst ([(i0, some (eF bs (p + 1)))] : List (Nat × Option (List AV)))) ++ [.inl d]) md'] (kk : RW Tryz.prog N all Q md' rest ⟨(d, iv (cJ bs p n)) :: tsl, fS hsl [(i0, some (eF bs (p + 1)))], nidl + 0, z0⟩) : RW Tryz.prog N all Q md (⟨some d, .call ⟨.value (.func 110), #[x0, x1], tys⟩, ty, pos, af, none⟩ :: rest) ⟨tsl, hsl, nidl, z0⟩ := by
 refine bP [i0] 1 [(i0, some (eF bs (p + 1)))] hmc (avs := [.optr i0 0, iv n]) ?_ rfl ?_ rfl ?_ (by simpa using hM) ?_ ?_ ?_ hN (md' := md') (hmd := hmd) kk
 ·show evL (lk tsl) [x0, x1] = _
  simp only [evL, ha0, ha1]
 ·exact ⟨⟨_, _, rfl, hH0, by (repeat' (exact RnL.purI inferInstance))⟩, trivial⟩
 ·(repeat' (first|exact RnL.purI inferInstance|exact RnV.optr rfl|refine RnL.cons ?_ ?_))
 ·(repeat' (exact RnV.purI inferInstance))
 ·simp [cZ]
 ·(repeat' (first|exact trivial|(refine And.intro ⟨0, _, rfl, rfl, ?_⟩ ?_)|exact RnL.purI inferInstance))
theorem DM {bs : List UInt8} {p : Nat} {xs : List Int} {N : Nat} {Q : Exit → AS → Prop} {all : Array Oper} {rest : List Oper} {tsl : List (Nat × AV)} {hsl : List (Nat × Option (List AV))} {nidl : Nat} {z0 : Lo} {md : Md} {d : Nat} {ty : TypeId} {pos : String} {af : Array Edge} {tys : Array TypeId} {x0 x1 : Operand} {i0 : Nat} (ha0 : ev (lk tsl) x0 = some (.optr i0 0)) (ha1 : ev (lk tsl) x1 = some (sl cI xs)) (hH0 : b8 hsl i0 = some (eF bs p)) (hmc : MC Tryz.prog 83 [.optr 0 0, sl cI xs] [(0, some (eF bs p))] 1 (fun _ : Unit => True) (fun _ => iv (gG bs p xs)) (fun _ => [(0, some (eF bs (p + 1)))])) (hM : Nat.ble (nidl + 0) dR = true) (hN : Nat.blt d N = true) {md' : Md} [hmd : MdA md (e7 [x0, x1] ++ [.inr i0]) (List.map Sum.inr (List.map Prod.fst ([(i0, some (eF bs (p + 1)))] : List (Nat × Option (List AV)))) ++ [.inl d]) md'] (kk : RW Tryz.prog N all Q md' rest ⟨(d, iv (gG bs p xs)) :: tsl, fS hsl [(i0, some (eF bs (p + 1)))], nidl + 0, z0⟩) : RW Tryz.prog N all Q md (⟨some d, .call ⟨.value (.func 83), #[x0, x1], tys⟩, ty, pos, af, none⟩ :: rest) ⟨tsl, hsl, nidl, z0⟩ := by
 refine bP [i0] 1 [(i0, some (eF bs (p + 1)))] hmc (avs := [.optr i0 0, sl cI xs]) ?_ rfl ?_ rfl ?_ (by simpa using hM) ?_ ?_ ?_ hN (md' := md') (hmd := hmd) kk
 ·show evL (lk tsl) [x0, x1] = _
  simp only [evL, ha0, ha1]
 ·exact ⟨⟨_, _, rfl, hH0, by (repeat' (exact RnL.purI inferInstance))⟩, trivial⟩
 ·(repeat' (first|exact RnL.purI inferInstance|exact RnV.optr rfl|refine RnL.cons ?_ ?_))
 ·(repeat' (exact RnV.purI inferInstance))
 ·simp [cZ]
 ·(repeat' (first|exact trivial|(refine And.intro ⟨0, _, rfl, rfl, ?_⟩ ?_)|exact RnL.purI inferInstance))
theorem CF {bs : List UInt8} {p : Nat} {xs : List Int} {N : Nat} {Q : Exit → AS → Prop} {all : Array Oper} {rest : List Oper} {tsl : List (Nat × AV)} {hsl : List (Nat × Option (List AV))} {nidl : Nat} {z0 : Lo} {md : Md} {d : Nat} {ty : TypeId} {pos : String} {af : Array Edge} {tys : Array TypeId} {x0 x1 : Operand} {i0 i1 : Nat} (ha0 : ev (lk tsl) x0 = some (.optr i0 0)) (ha1 : ev (lk tsl) x1 = some (.own i1 0 xs.length 1)) (hH0 : b8 hsl i0 = some (eF bs p)) (hH1 : b8 hsl i1 = some (aI cI xs)) (hdd : Go.AL.distinct [i0, i1] = true) (hmc : MC Tryz.prog 83 [.optr 0 0, .own 1 0 xs.length 1] [(0, some (eF bs p)), (1, some (aI cI xs))] 2 (fun _ : Unit => True) (fun _ => iv (gG bs p xs)) (fun _ => [(0, some (eF bs (p + 1)))])) (hM : Nat.ble (nidl + 0) dR = true) (hN : Nat.blt d N = true) {md' : Md} [hmd : MdA md (e7 [x0, x1] ++ [.inr i0, .inr i1]) (List.map Sum.inr (List.map Prod.fst ([(i0, some (eF bs (p + 1))), (i1, none)] : List (Nat × Option (List AV)))) ++ [.inl d]) md'] (kk : RW Tryz.prog N all Q md' rest ⟨(d, iv (gG bs p xs)) :: tsl, fS hsl [(i0, some (eF bs (p + 1))), (i1, none)], nidl + 0, z0⟩) : RW Tryz.prog N all Q md (⟨some d, .call ⟨.value (.func 83), #[x0, x1], tys⟩, ty, pos, af, none⟩ :: rest) ⟨tsl, hsl, nidl, z0⟩ := by
 refine bP [i0, i1] 2 [(i0, some (eF bs (p + 1))), (i1, none)] hmc (avs := [.optr i0 0, .own i1 0 xs.length 1]) ?_ hdd ?_ rfl ?_ (by simpa using hM) ?_ ?_ ?_ hN (md' := md') (hmd := hmd) kk
 ·show evL (lk tsl) [x0, x1] = _
  simp only [evL, ha0, ha1]
 ·exact ⟨⟨_, _, rfl, hH0, by (repeat' (exact RnL.purI inferInstance))⟩, ⟨⟨_, _, rfl, hH1, by (repeat' (exact RnL.purI inferInstance))⟩, trivial⟩⟩
 ·(repeat' (first|exact RnL.purI inferInstance|exact RnV.own rfl|exact RnV.optr rfl|refine RnL.cons ?_ ?_))
 ·(repeat' (exact RnV.purI inferInstance))
 ·simp [cZ]
 ·(repeat' (first|exact trivial|(refine And.intro ⟨0, _, rfl, rfl, ?_⟩ ?_)|exact RnL.purI inferInstance))
theorem mG (bs : List UInt8) (p : Nat) (n : Int) (hb : bs.length ≤ 2000) (hp : p ≤ 1000000) (hn0 : 0 ≤ n) (hn : n ≤ 1000000) : MC Tryz.prog 110 [.optr 0 0, iv n] [(0, some (eF bs p))] 1 (fun _ : Unit => True) (fun _ => iv (cJ bs p n)) (fun _ => [(0, some (eF bs (p + 1)))]) := by
 have hdiv : 0 ≤ ((p : Int) + 1 - 1) / (bs.length : Int) ∧ ((p : Int) + 1 - 1) / (bs.length : Int) ≤ p + 1 - 1 := ⟨Int.ediv_nonneg (by omega) (by omega), Int.ediv_le_self _ (by omega)⟩
 (refine bK Tryz.func110 rfl (by simp [Tryz.ntmps110]) ?_; rw [Tryz.ntmps110])
 repeat' (first|(apply aL;first|(apply aE;rfl;rfl)|(apply aP;rfl;rfl;rfl;rfl)|(apply aD;rfl;rfl;rfl)|(first|(apply aY;rfl;rfl;rfl;(assumption))|(apply a7;rfl;rfl;rfl;(assumption))|(apply bE;(case hj|hb|hN => rfl);all_goals (intro hg;have hq := hg;(try simp only [cC] at hq);(try (exfalso;omega)))))|(first|(apply bN;rfl;rfl;omega;rfl)|(apply iB;rfl;rfl;omega;rfl)|(apply E3;rfl;rfl;omega;omega;rfl)|(apply Fk;rfl;rfl;omega;rfl)|(apply Bo;rfl;rfl;omega;rfl)|(apply CR;rfl;rfl;omega;rfl)|(apply aU;rfl;rfl;rfl;rfl))|(apply aC;rfl;rfl)|(first|(apply bJ;rfl;(assumption);rfl;rfl)|(apply bC;rfl;(assumption);rfl;rfl))|(apply cM;(case hx|hi => rfl);(case hm => (first|omega|exact ⟨Int.emod_nonneg _ (by omega), Int.emod_lt_of_pos _ (by omega)⟩));(case hml => (rfl));(case hα | hf|hg => infer_instance);(case hN => rfl))|(apply bM;rfl;rfl;rfl)|(apply aF;kernel_rfl)|(apply Cn;rfl;rfl;(case' kk => intro hbd))|(apply cB;rfl;rfl;rfl)|(apply aW;rfl;rfl;rfl;rfl;rfl;(case hl => (simp;done));(exact (rfl:_=[_, _]))))|(apply aM;first|apply aH|apply aB|(apply bZ;kernel_rfl)|(apply bR;rfl;(rfl))|(apply aQ;rfl;all_goals intro hc;have hq:=hc;(try simp only [cC] at hq);try exfalso;omega)|apply aV|apply aO)|with_reducible apply aA|with_reducible apply a8)
 all_goals (refine aK rfl ?_; refine bG () trivial ?_ ⟨.inr (Eq.trans (b := some _) rfl ?_), trivial⟩)
 all_goals first|rfl|skip
 all_goals simp only [bX, AV.v.injEq, Value.int.injEq, true_and, cJ]
 ·rw [if_neg (by omega), if_pos (by omega)]
 ·rw [if_neg (by omega), if_neg (by omega), if_pos (by omega)]
 ·rw [if_neg (by omega), if_neg (by omega), if_neg (by omega)]; rfl
 ·rw [if_pos (by omega)]
theorem EY (bs : List UInt8) (p : Nat) (xs : List Int) (hb : bs.length ≤ 2000) (hp : p ≤ 1000000) (h0 : 0 < xs.length) (hn : xs.length ≤ 1000000) : MC Tryz.prog 83 [.optr 0 0, sl cI xs] [(0, some (eF bs p))] 1 (fun _ : Unit => True) (fun _ => iv (gG bs p xs)) (fun _ => [(0, some (eF bs (p + 1)))]) := by
 have hpf := eZ bs p xs.length
 (refine bK Tryz.func83 rfl (by simp [Tryz.ntmps83]) ?_; rw [Tryz.ntmps83])
 repeat' (first|(apply aL;first|(apply aE;rfl;rfl)|(apply aP;rfl;rfl;rfl;rfl)|(apply aC;rfl;rfl)|(apply cM;(case hx|hi => rfl);(case hm => (omega));(case hml => (rfl));(case hα | hf|hg => infer_instance);(case hN => rfl))|(apply kL;rfl;rfl;(rfl);(apply mG <;> (first|assumption|omega));rfl;rfl)|(apply bM;rfl;rfl;rfl)|(apply aF;kernel_rfl))|(apply aM;first|apply aH|apply aB|apply aO)|with_reducible apply aA)
 (refine aK rfl ?_; refine bG () trivial ?_ ⟨.inr (Eq.trans (b := some _) rfl ?_), trivial⟩)
 ·rfl
 ·rfl
theorem E5 {Q : Exit → AS → Prop} {all : Array Oper} {rest : List Oper} {N : Nat} {tsl : List (Nat × AV)} {hsl : List (Nat × Option (List AV))} {nidl : Nat} {z0 : Lo} {md : Md} {d : Nat} {ty : TypeId} {pos : String} {af : Array Edge} {tys : Array TypeId}
  {bs : List UInt8} {p m : Nat} {cs : List AV} {xs : List Int} {x0 x1 : Operand} {i0 : Nat} (ha0 : ev (lk tsl) x0 = some (.optr i0 0)) (ha1 : ev (lk tsl) x1 = some (.imm m cs)) (hcs : NumL cs xs) (hH0 : b8 hsl i0 = some (eF bs p))
  (hm : m = xs.length) (hb : bs.length ≤ 2000) (hp : p ≤ 1000000) (h0 : 0 < xs.length) (hn : xs.length ≤ 1000000) (hM : Nat.ble (nidl + 0) dR = true) (hN : Nat.blt d N = true) {md' : Md}
  [hmd : MdA md (e7 [x0, x1] ++ [.inr i0]) [.inr i0, .inl d] md']
  (kk : RW Tryz.prog N all Q md' rest ⟨(d, iv (gG bs p xs)) :: tsl, (i0, some (eF bs (p + 1))) :: hsl, nidl + 0, z0⟩) : RW Tryz.prog N all Q md (⟨some d, .call ⟨.value (.func 83), #[x0, x1], tys⟩, ty, pos, af, none⟩ :: rest) ⟨tsl, hsl, nidl, z0⟩ := by
 have h := hcs.h
 subst hm h
 exact DM ha0 ha1 hH0 (EY bs p xs hb hp h0 hn) hM hN (hmd := hmd) kk
theorem Dg (bs : List UInt8) (p : Nat) (xs : List Int) (hb : bs.length ≤ 2000) (hp : p ≤ 1000000) (h0 : 0 < xs.length) (hn : xs.length ≤ 1000000) : MC Tryz.prog 83 [.optr 0 0, .own 1 0 xs.length 1] [(0, some (eF bs p)), (1, some (aI cI xs))] 2 (fun _ : Unit => True) (fun _ => iv (gG bs p xs)) (fun _ => [(0, some (eF bs (p + 1)))]) := by
 have hpf := eZ bs p xs.length
 (refine bK Tryz.func83 rfl (by simp [Tryz.ntmps83]) ?_; rw [Tryz.ntmps83])
 repeat' (first|(apply aL;first|(apply aE;rfl;rfl)|(apply Aw;(case hx|hH => rfl);(case hf|hg|hα => infer_instance);(case hk => omega);(case hc|hN => rfl))|(apply aC;rfl;rfl)|(apply cG;rfl;rfl;(omega);rfl)|(apply kL;rfl;rfl;(rfl);(apply mG <;> (first|assumption|omega));rfl;rfl)|(apply bM;rfl;rfl;rfl)|(apply aF;kernel_rfl))|(apply aM;first|apply aH|apply aB|apply aO)|with_reducible apply aA)
 (refine aK rfl ?_; refine bG () trivial ?_ ⟨.inr (Eq.trans (b := some _) rfl ?_), trivial⟩)
 ·rfl
 ·rfl
theorem sI {Q : Exit → AS → Prop} {all : Array Oper} {rest : List Oper} {N : Nat} {tsl : List (Nat × AV)} {hsl : List (Nat × Option (List AV))} {nidl : Nat} {z0 : Lo} {md : Md} {d : Nat} {ty : TypeId} {pos : String} {af : Array Edge} {tys : Array TypeId}
  {bs : List UInt8} {p m : Nat} {cs : List AV} {xs : List Int} {x0 x1 : Operand} {i0 i1 : Nat} (ha0 : ev (lk tsl) x0 = some (.optr i0 0)) (ha1 : ev (lk tsl) x1 = some (.own i1 0 m 1)) (hH0 : b8 hsl i0 = some (eF bs p)) (hH1 : b8 hsl i1 = some cs) (hcs : NumL cs xs)
  (hdd : Go.AL.distinct [i0, i1] = true) (hm : m = xs.length) (hb : bs.length ≤ 2000) (hp : p ≤ 1000000) (h0 : 0 < xs.length) (hn : xs.length ≤ 1000000) (hM : Nat.ble (nidl + 0) dR = true) (hN : Nat.blt d N = true) {md' : Md}
  [hmd : MdA md (e7 [x0, x1] ++ [.inr i0, .inr i1]) [.inr i0, .inr i1, .inl d] md']
  (kk : RW Tryz.prog N all Q md' rest ⟨(d, iv (gG bs p xs)) :: tsl, fS hsl [(i0, some (eF bs (p + 1))), (i1, none)], nidl + 0, z0⟩) : RW Tryz.prog N all Q md (⟨some d, .call ⟨.value (.func 83), #[x0, x1], tys⟩, ty, pos, af, none⟩ :: rest) ⟨tsl, hsl, nidl, z0⟩ := by
 have h := hcs.h
 subst hm h
 exact CF ha0 ha1 hH0 hH1 hdd (Dg bs p xs hb hp h0 hn) hM hN (hmd := hmd) kk
theorem EZ (bs : List UInt8) (hb : bs.length ≤ 1048576) : MC Tryz.prog 79 [sl cU bs] [] 0 (fun _ : Unit => True) (fun _ => .optr 0 0) (fun _ => [(0, some (eF (bs.take 2000) 0))]) := by
 (refine bK Tryz.func79 rfl (by simp [Tryz.ntmps79]) ?_; rw [Tryz.ntmps79])
 repeat' (first|(apply aL;first|(apply aE;rfl;rfl)|(apply aU;rfl;rfl;rfl;rfl)|(apply aC;rfl;rfl)|(apply bM;rfl;rfl;rfl)|(apply aF;kernel_rfl)|(apply bY;rfl;(exact (rfl:_=some [_, _]));(exact (rfl:_=[_, _]));rfl)|(apply gT;rfl;infer_instance;rfl;rfl;(omega);rfl)|(apply bA;rfl;rfl;rfl;rfl))|(apply aM;first|apply aH|apply aB|(apply aQ;rfl;all_goals intro hc;have hq:=hc;(try simp only [cC] at hq);try exfalso;omega)|apply aV|apply aO)|with_reducible apply aA)
 ·(refine aK rfl ?_; refine bG () trivial ?_ ⟨.inr (Eq.trans (b := some _) rfl ?_), trivial⟩)
  ·rfl
  ·rfl
 ·(refine aK rfl ?_; refine bG () trivial ?_ ⟨.inr (Eq.trans (b := some _) rfl ?_), trivial⟩)
  ·rfl
  ·rw [List.take_of_length_le (by omega)]; rfl
end Go.Proofs.YtckihjkcgfphmaaGreat
