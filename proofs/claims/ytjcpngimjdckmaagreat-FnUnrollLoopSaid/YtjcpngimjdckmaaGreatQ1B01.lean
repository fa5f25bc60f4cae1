/-
 A part of the proofs over this program: rules and contracts of its functions (the contracts).
-/
import Derived.Test.YtjcpngimjdckmaaGreatQ1A07
import Derived.Test.YtjcpngimjdckmaaGreatRows
set_option linter.unusedVariables false
set_option linter.unusedSimpArgs false
set_option maxHeartbeats 8000000
set_option maxRecDepth 4000
attribute [local irreducible] Go.AL.RW Go.AL.AW Go.AL.Stop
namespace Go.Proofs.YtjcpngimjdckmaaGreat
open Go.AL
theorem eD (a b c : Int) : PC Tryz.prog 50 [iv a, iv b, iv c] (fun r => r = bv (decide (b ≤ a) && decide (a ≤ c))) := by
 (refine aU Tryz.func50 rfl (by simp [Tryz.ntmps50]) ?_; rw [Tryz.ntmps50])
 repeat' (first|(apply aM;first|(apply aE;rfl;rfl)|(first|(apply a6;rfl;rfl;rfl;(assumption))|(apply bD;rfl;rfl;rfl;(assumption))|(apply bO;(case hj|hb|hN => rfl);all_goals (intro hg;have hq := hg;(try simp only [cF] at hq);(try (exfalso;omega)))))|(apply aR;rfl;rfl;rfl;rfl)|(apply aC;rfl;rfl)|(first|(apply bR;rfl;(assumption);rfl;rfl)|(apply bF;rfl;(assumption);rfl;rfl))|(apply aF;kernel_rfl))|(apply aN;first|apply aI|apply aB|apply aQ)|with_reducible apply aA|((with_reducible apply aP);case hr => rfl))
 all_goals (refine ⟨?_, rfl⟩; simp only [b9, AV.v.injEq, Value.bool.injEq, Value.int.injEq, true_and])
 all_goals grind
theorem zU (t : Int) : PC Tryz.prog 197 [iv t] (fun r => r = bv (nB t)) := by
 (refine aU Tryz.func197 rfl (by simp [Tryz.ntmps197]) ?_; rw [Tryz.ntmps197])
 repeat' (first|(apply aM;first|(apply aE;rfl;rfl)|(first|(apply a6;rfl;rfl;rfl;(assumption))|(apply bD;rfl;rfl;rfl;(assumption))|(apply bO;(case hj|hb|hN => rfl);all_goals (intro hg;have hq := hg;(try simp only [cF] at hq);(try (exfalso;omega)))))|(apply aR;rfl;rfl;rfl;rfl)|(apply aC;rfl;rfl)|(first|(apply bR;rfl;(assumption);rfl;rfl)|(apply bF;rfl;(assumption);rfl;rfl))|(apply aF;kernel_rfl))|(apply aN;first|apply aI|apply aB|apply aQ)|with_reducible apply aA|((with_reducible apply aP);case hr => rfl))
 all_goals (refine ⟨?_, rfl⟩; simp only [b9, AV.v.injEq, Value.bool.injEq, Value.int.injEq, true_and])
 all_goals grind [nB]
theorem Bd (t : Int) : PC Tryz.prog 203 [iv t] (fun r => r = bv (decide (t = 2) || nB t)) := by
 (refine aU Tryz.func203 rfl (by simp [Tryz.ntmps203]) ?_; rw [Tryz.ntmps203])
 repeat' (first|(apply aM;first|(apply aE;rfl;rfl)|(first|(apply a6;rfl;rfl;rfl;(assumption))|(apply bD;rfl;rfl;rfl;(assumption))|(apply bO;(case hj|hb|hN => rfl);all_goals (intro hg;have hq := hg;(try simp only [cF] at hq);(try (exfalso;omega)))))|(apply aR;rfl;rfl;rfl;rfl)|(apply aC;rfl;rfl)|(first|(apply bR;rfl;(assumption);rfl;rfl)|(apply bF;rfl;(assumption);rfl;rfl))|((with_reducible apply aJ (k := 197));(case ha => rfl);(case h => (apply zU <;> (fail)));(case hp => (rfl));(case hN => rfl))|(apply aF;kernel_rfl))|(apply aN;first|apply aI|apply aB|apply aQ)|with_reducible apply aA|((with_reducible apply aP);case hr => rfl))
 all_goals (refine ⟨?_, rfl⟩; simp only [b9, AV.v.injEq, Value.bool.injEq, Value.int.injEq, true_and])
 all_goals grind
theorem BA (t : Int) : PC Tryz.prog 80 [iv t] (fun r => r = bv (decide (t = 9) || decide (t = 10))) := by
 (refine aU Tryz.func80 rfl (by simp [Tryz.ntmps80]) ?_; rw [Tryz.ntmps80])
 repeat' (first|(apply aM;first|(apply aE;rfl;rfl)|(first|(apply a6;rfl;rfl;rfl;(assumption))|(apply bD;rfl;rfl;rfl;(assumption))|(apply bO;(case hj|hb|hN => rfl);all_goals (intro hg;have hq := hg;(try simp only [cF] at hq);(try (exfalso;omega)))))|(apply aR;rfl;rfl;rfl;rfl)|(apply aC;rfl;rfl)|(first|(apply bR;rfl;(assumption);rfl;rfl)|(apply bF;rfl;(assumption);rfl;rfl))|(apply aF;kernel_rfl))|(apply aN;first|apply aI|apply aB|apply aQ)|with_reducible apply aA|((with_reducible apply aP);case hr => rfl))
 all_goals (refine ⟨?_, rfl⟩; simp only [b9, AV.v.injEq, Value.bool.injEq, Value.int.injEq, true_and])
 all_goals grind
theorem FV (ts : List Int) (v : Int) : PC Tryz.prog 204 [sl cI ts, iv v] (fun r => r = iv (dF ts v)) := by
 (refine aU Tryz.func204 rfl (by simp [Tryz.ntmps204]) ?_; rw [Tryz.ntmps204])
 repeat' (first|(apply aM;first|(apply aE;rfl;rfl)|(apply aL;rfl;rfl;rfl;rfl)|(first|(apply a6;rfl;rfl;rfl;(assumption))|(apply bD;rfl;rfl;rfl;(assumption))|(apply bO;(case hj|hb|hN => rfl);all_goals (intro hg;have hq := hg;(try simp only [cF] at hq);(try (exfalso;omega)))))|(apply aR;rfl;rfl;rfl;rfl)|(apply aC;rfl;rfl)|(first|(apply bR;rfl;(assumption);rfl;rfl)|(apply bF;rfl;(assumption);rfl;rfl))|(apply dA;(case hx|hi => rfl);(case hm => (omega));(case hml => (rfl));(case hα | hf|hg => infer_instance);(case hN => rfl))|(apply a8;rfl;rfl;rfl)|(apply aF;kernel_rfl))|(apply aN;first|apply aI|apply aB|(apply bZ;rfl;(rfl))|(apply aO;rfl;all_goals intro hc;have hq:=hc;(try simp only [cF] at hq);try exfalso;omega)|apply aS|apply aQ)|with_reducible apply aA|with_reducible apply bK|((with_reducible apply aP);case hr => rfl))
 all_goals (refine ⟨?_, rfl⟩; simp only [b9, AV.v.injEq, Value.bool.injEq, Value.int.injEq, true_and])
 all_goals grind [dF]
theorem Gn (ts : List Int) (v : Int) (hl : ts.length ≤ 1000000) : PC Tryz.prog 51 [sl cI ts, iv v] (fun r => r = iv (dF ts v)) := by
 (refine aU Tryz.func51 rfl (by simp [Tryz.ntmps51]) ?_; rw [Tryz.ntmps51])
 repeat' (first|(apply aM;first|(apply aE;rfl;rfl)|(apply aL;rfl;rfl;rfl;rfl)|(apply fU;rfl;rfl;omega;rfl)|(apply aC;rfl;rfl)|(apply dA;(case hx|hi => rfl);(case hm => (omega));(case hml => (rfl));(case hα | hf|hg => infer_instance);(case hN => rfl))|((with_reducible apply aJ (k := 50));(case ha => rfl);(case h => (apply eD <;> (fail)));(case hp => (rfl));(case hN => rfl))|(apply a8;rfl;rfl;rfl)|(apply aF;kernel_rfl)|(apply cC;rfl;rfl))|(apply aN;first|apply aI|apply aB|(apply aO;rfl;all_goals intro hc;have hq:=hc;(try simp only [cF] at hq);try exfalso;omega)|apply aS|apply aQ)|with_reducible apply aA|with_reducible apply bK|((with_reducible apply aP);case hr => rfl))
 all_goals (refine ⟨?_, rfl⟩; simp only [b9, AV.v.injEq, Value.bool.injEq, Value.int.injEq, true_and])
 all_goals grind [dF]
theorem BK (ts : List Int) (s : AL.Stmt) (hl : cR ts = true) : PC Tryz.prog 179 [sl cI ts, eZ s] (fun r => r = bv (s.th.isEmpty && s.el.isEmpty && dX ts s)) := by
 have hl2 := fF hl
 have hx := jH hl s.x
 have hy := jH hl s.y
 (refine aU Tryz.func179 rfl (by simp [Tryz.ntmps179]) ?_; rw [Tryz.ntmps179])
 repeat' (first|(apply aM;first|(apply aE;rfl;rfl)|(apply aL;rfl;rfl;rfl;rfl)|(apply aD;rfl;rfl;rfl)|(first|(apply jK;rfl;rfl;rfl)|(apply a6;rfl;rfl;rfl;(first|rfl|assumption))|(apply bD;rfl;rfl;rfl;(first|rfl|assumption))|(apply bO;(case hj|hb|hN => rfl);all_goals (intro hg;have hq := hg;(try simp only [cF] at hq);(try (exfalso;omega)))))|(apply aR;rfl;rfl;rfl;rfl)|(apply aC;rfl;rfl)|(first|(apply bR;rfl;(first|rfl|assumption);rfl;rfl)|(apply bF;rfl;(first|rfl|assumption);rfl;rfl))|(first|((with_reducible apply aJ (k := 50));(case ha => rfl);(case h => (apply eD <;> (fail)));(case hp => (rfl));(case hN => rfl))|((with_reducible apply aJ (k := 51));(case ha => rfl);(case h => (apply Gn <;> (omega)));(case hp => (exact Pur.pf));(case hN => rfl))|((with_reducible apply aJ (k := 203));(case ha => rfl);(case h => (apply Bd <;> (fail)));(case hp => (rfl));(case hN => rfl)))|(apply a8;rfl;rfl;rfl)|(apply aF;kernel_rfl)|(apply cC;rfl;rfl)|(apply b0;rfl;rfl;rfl;rfl))|(apply aN;first|apply aI|apply aB|(apply b8;kernel_rfl)|(apply bZ;rfl;(first|rfl|assumption))|(apply cS;rfl;(assumption))|(apply aO;rfl;all_goals intro hc;have hq:=hc;(try simp only [cF] at hq);try exfalso;omega)|apply aK|apply aS|apply aQ)|with_reducible apply aA|with_reducible apply bK|with_reducible apply aX|with_reducible apply cT|((with_reducible apply aP);case hr => rfl))
 all_goals (refine ⟨?_, rfl⟩; simp only [b9, AV.v.injEq, Value.bool.injEq, Value.int.injEq, true_and])
 all_goals (cases hth : s.th <;> cases hel : s.el <;> simp only [hth, hel, List.length_nil, List.length_cons, List.isEmpty_nil, List.isEmpty_cons, Bool.true_and, Bool.false_and] at *)
 all_goals (try unfold dX)
 all_goals (try simp only [nB, Bool.or_eq_true, Bool.or_eq_false_iff, decide_eq_true_eq, decide_eq_false_iff_not] at *)
 all_goals grind
theorem BE (ts : List Int) (s : AL.Stmt) (hl : cR ts = true) : PC Tryz.prog 182 [sl cI ts, eZ s] (fun r => r = bv (dX ts s)) := by
 have hl2 := fF hl
 have hx := jH hl s.x
 have hy := jH hl s.y
 (refine aU Tryz.func182 rfl (by simp [Tryz.ntmps182]) ?_; rw [Tryz.ntmps182])
 repeat' (first|(apply aM;first|(apply aE;rfl;rfl)|(apply aL;rfl;rfl;rfl;rfl)|(apply aD;rfl;rfl;rfl)|(first|(apply jK;rfl;rfl;rfl)|(apply a6;rfl;rfl;rfl;(first|rfl|assumption))|(apply bD;rfl;rfl;rfl;(first|rfl|assumption))|(apply bO;(case hj|hb|hN => rfl);all_goals (intro hg;have hq := hg;(try simp only [cF] at hq);(try (exfalso;omega)))))|(apply aR;rfl;rfl;rfl;rfl)|(apply aC;rfl;rfl)|(first|(apply bR;rfl;(first|rfl|assumption);rfl;rfl)|(apply bF;rfl;(first|rfl|assumption);rfl;rfl))|((with_reducible apply aJ (k := 204));(case ha => rfl);(case h => (apply FV <;> (fail)));(case hp => (exact Pur.pf));(case hN => rfl))|(apply aF;kernel_rfl)|(apply b0;rfl;rfl;rfl;rfl))|(apply aN;first|apply aI|apply aB|(apply cS;rfl;(rfl))|(apply aO;rfl;all_goals intro hc;have hq:=hc;(try simp only [cF] at hq);try exfalso;omega)|apply aK|apply aS|apply aQ)|with_reducible apply aA|with_reducible apply bK|with_reducible apply aX|with_reducible apply cT|((with_reducible apply aP);case hr => rfl))
 all_goals (refine ⟨?_, rfl⟩; simp only [b9, AV.v.injEq, Value.bool.injEq, Value.int.injEq, true_and])
 all_goals (try unfold dX)
 all_goals grind
theorem Et (ts : List Int) (hl : cR ts = true) (m : Nat) (ih : ∀ l (d : Int), bQ l < m → 0 ≤ d → d ≤ 1000 → PC Tryz.prog 107 [sl cI ts, sl aV l, iv d] (fun r => r = bv (okL ts d.toNat l))) (s : AL.Stmt) (d : Int) (hs : dM s ≤ m) (hd0 : 0 ≤ d) (hd : d ≤ 1000) :
  PC Tryz.prog 148 [sl cI ts, eZ s, iv d] (fun r => r = bv (o8 ts d.toNat s)) := by
 rw [HJ ts d hd0]
 (refine aU Tryz.func148 rfl (by simp [Tryz.ntmps148]) ?_; rw [Tryz.ntmps148])
 repeat' (first|(apply aM;first|(apply aE;rfl;rfl)|(first|(apply aL;rfl;rfl;rfl;rfl)|(apply aY;rfl;rfl;(exact (rfl:_=[_, _, _, _, _, _]));rfl;rfl;rfl))|(apply aD;rfl;rfl;rfl)|(first|(apply jK;rfl;rfl;rfl)|(apply a6;rfl;rfl;rfl;(assumption))|(apply bD;rfl;rfl;rfl;(first|rfl|assumption))|(apply bO;(case hj|hb|hN => rfl);all_goals (intro hg;have hq := hg;(try simp only [cF] at hq);(try (exfalso;omega)))))|(first|(apply fU;rfl;rfl;omega;rfl)|(apply aR;rfl;rfl;rfl;rfl))|(apply aC;rfl;rfl)|(first|(apply bR;rfl;(first|rfl|assumption);rfl;rfl)|(apply bF;rfl;(first|rfl|assumption);rfl;rfl))|(first|((with_reducible apply aJ (k := 107));(case ha => rfl);(case h => (apply ih <;> (first|omega|(have := gB s;omega))));(case hp => (exact Pur.pf));(case hN => rfl))|((with_reducible apply aJ (k := 182));(case ha => rfl);(case h => (apply BE <;> (assumption)));(case hp => (exact Pur.pf));(case hN => rfl)))|(apply a8;rfl;rfl;rfl)|(apply aF;kernel_rfl)|(apply b0;rfl;rfl;rfl;rfl))|(apply aN;first|apply aI|apply aB|(apply bZ;rfl;(rfl))|(apply cS;rfl;(rfl))|(apply aO;rfl;all_goals intro hc;have hq:=hc;(try simp only [cF] at hq);try exfalso;omega)|apply aS|apply aQ)|with_reducible apply aA|with_reducible apply bK|((with_reducible apply aP);case hr => rfl))
 all_goals (refine ⟨?_, rfl⟩; simp only [b9, AV.v.injEq, Value.bool.injEq, Value.int.injEq, true_and])
 all_goals (cases hth : s.th <;> cases hel : s.el <;> simp only [hth, hel, List.length_nil, List.length_cons, List.isEmpty_nil, List.isEmpty_cons, Bool.true_and, Bool.false_and] at *)
 all_goals grind
theorem Es (ts : List Int) (hl : cR ts = true) (m : Nat) (ih : ∀ s (d : Int), dM s ≤ m → 0 ≤ d → d ≤ 1000 → PC Tryz.prog 148 [sl cI ts, eZ s, iv d] (fun r => r = bv (o8 ts d.toNat s))) (l : List AL.Stmt) (d : Int) (hs : bQ l ≤ m) (hm : m ≤ 100000000) (hd0 : 0 ≤ d) (hd : d ≤ 1000) :
  PC Tryz.prog 107 [sl cI ts, sl aV l, iv d] (fun r => r = bv (okL ts d.toNat l)) := by
 have hlen := dI l
 (refine aU Tryz.func107 rfl (by simp [Tryz.ntmps107]) ?_; rw [Tryz.ntmps107])
 repeat' (first|(apply aM;first|(apply aC;rfl;rfl)|(apply aF;kernel_rfl))|(apply aN;first|apply aI|apply aB|apply aK)|with_reducible apply aA)
 refine bC (σ := Nat) [0, 1, 2] [(0, _), (1, _), (2, _)] [] [] (fun k => [(7, iv (k : Int))]) (fun k => []) (fun k => k ≤ l.length ∧ ∀ i, i < k → o8 ts d.toNat l[i]! = true) (fun k => l.length - k) (0) ⟨by omega, by omega⟩ rfl rfl (by repeat' (first|exact trivial|refine And.intro rfl ?_)) (by repeat' (exact trivial)) ?_
 intro k ⟨hk, hall⟩
 have hck := eS l k
 repeat' (first|(apply aM;first|((with_reducible apply aJ (k := 148));(case ha => rfl);(case h => (apply ih _ d (Nat.le_trans (hck (by omega)) hs) hd0 hd));(case hp => (exact Pur.pf));(case hN => rfl))|(apply aE;rfl;rfl)|(apply aY;rfl;rfl;(exact (rfl:_=[_, _, _, _, _, _]));rfl;rfl;rfl)|(first|(apply bU;rfl;rfl;omega;rfl)|(apply aR;rfl;rfl;rfl;rfl))|(apply aC;rfl;rfl)|(apply a7;(case hx|hi => rfl);(case hm => (omega));(case hml => (rfl));(case hα | hf|hg => infer_instance);(case hN => rfl))|(apply a8;rfl;rfl;rfl)|(apply aF;kernel_rfl)|(apply cC;rfl;rfl))|(apply aN;first|apply aI|apply aB|(apply aO;rfl;all_goals intro hc;have hq:=hc;(try simp only [cF] at hq);try exfalso;omega)|apply aK|apply aS|apply bI|apply aQ)|with_reducible apply aA|with_reducible apply bK|with_reducible apply bJ|with_reducible apply aX|with_reducible apply cT|with_reducible apply bH|((with_reducible apply aP);case hr => rfl))
 ·(refine ⟨?_, rfl⟩; simp only [b9, AV.v.injEq, Value.bool.injEq, Value.int.injEq, true_and])
  rw [F5 (k := k) (by omega) hq]
 ·(apply dW (k + 1); focus (refine Le.ren [] rfl (by decide) ?_ ?_ <;> repeat' (first | exact trivial | refine And.intro ⟨_, rfl, ?_⟩ ?_ | refine Or.inl ⟨?_, (by first | rfl | exact aZ _ _)⟩ | rfl)))
  ·grind
  ·omega
 ·(refine ⟨?_, rfl⟩; simp only [b9, AV.v.injEq, Value.bool.injEq, Value.int.injEq, true_and])
  rw [Il (fun i hi => hall i (by omega))]
theorem HX (ts : List Int) (hl : cR ts = true) : ∀ (m : Nat), m ≤ 100000000 → (∀ s (d : Int), dM s ≤ m → 0 ≤ d → d ≤ 1000 → PC Tryz.prog 148 [sl cI ts, eZ s, iv d] (fun r => r = bv (o8 ts d.toNat s))) ∧
  (∀ l (d : Int), bQ l ≤ m → 0 ≤ d → d ≤ 1000 → PC Tryz.prog 107 [sl cI ts, sl aV l, iv d] (fun r => r = bv (okL ts d.toNat l))) := by
 intro m
 induction m using Nat.strongRecOn with
 | ind m ih =>
  intro hm
  have h1 : ∀ s (d : Int), dM s ≤ m → 0 ≤ d → d ≤ 1000 → PC Tryz.prog 148 [sl cI ts, eZ s, iv d] (fun r => r = bv (o8 ts d.toNat s)) :=
   fun s d h1 h2 h3 => Et ts hl m (fun l d' g1 g2 g3 => (ih (bQ l) g1 (by omega)).2 l d' (Nat.le_refl _) g2 g3) s d h1 h2 h3
  exact ⟨h1, fun l d g1 g2 g3 => Es ts hl m h1 l d g1 hm g2 g3⟩
theorem BW (m0 : Nat) (ih : ∀ l (most : Int), bQ l < m0 → -1 ≤ most → most ≤ 1000 → PC Tryz.prog 108 [sl aV l, iv most] (fun r => r = iv (m6 most 0 l))) (l : List AL.Stmt) (most : Int) (hs : bQ l ≤ m0) (hm : m0 ≤ 100000000) (hd0 : -1 ≤ most) (hd : most ≤ 1000) :
  PC Tryz.prog 108 [sl aV l, iv most] (fun r => r = iv (m6 most 0 l)) := by
 have hlen := dI l
 have hall := l6 l most 0
 (refine aU Tryz.func108 rfl (by simp [Tryz.ntmps108]) ?_; rw [Tryz.ntmps108])
 repeat' (first|(apply aM;first|(apply aC;rfl;rfl)|(apply aF;kernel_rfl))|(apply aN;first|apply aI|apply aB|apply aK)|with_reducible apply aA)
 refine bC (σ := Nat × Int) [0, 1] [(0, _), (1, _)] [] [] (fun k => [(6, iv (k.1 : Int)), (5, iv k.2)]) (fun k => []) (fun k => k.1 ≤ l.length ∧ m6 most k.2 (l.drop k.1) = m6 most 0 l ∧ 0 ≤ k.2 ∧ k.2 ≤ bQ l) (fun k => l.length - k.1) (0, 0) ⟨by omega, rfl, by omega, by omega⟩ rfl rfl (by repeat' (first|exact trivial|refine And.intro rfl ?_)) (by repeat' (exact trivial)) ?_
 rintro ⟨k, n⟩ ⟨hk, hn, hn0, hn1⟩
 dsimp only at hk hn hn0 hn1 ⊢
 have hck := eS l k
 have hct := gB l[k]!
 have b1 := l6 l[k]!.th (most - n) 0
 have b2 := fun z => l6 l[k]!.el z 0
 have b3 := Gt l[k]! most n
 have b4 := l6 (l.drop (k + 1)) most (ER most n l[k]!)
 have b5 := Ge most n l k
 rw [HZ] at b3 b4 b5
 repeat' (first|(apply aM;first|((with_reducible apply aJ (k := 108));(case ha => rfl);(case h => (apply ih <;> omega));(case hp => (exact Pur.pf));(case hN => rfl))|(apply aE;rfl;rfl)|(apply aL;rfl;rfl;rfl;rfl)|(apply aD;rfl;rfl;rfl)|(first|(apply a6;rfl;rfl;rfl;(assumption))|(apply bD;rfl;rfl;rfl;(assumption))|(apply bO;(case hj|hb|hN => rfl);all_goals (intro hg;have hq := hg;(try simp only [cF] at hq);(try (exfalso;omega)))))|(first|(apply bU;rfl;rfl;omega;rfl)|(apply fU;rfl;rfl;omega;rfl)|(apply aR;rfl;rfl;rfl;rfl))|(apply aC;rfl;rfl)|(first|(apply bR;rfl;(assumption);rfl;rfl)|(apply bF;rfl;(assumption);rfl;rfl))|(apply a7;(case hx|hi => rfl);(case hm => (omega));(case hml => (rfl));(case hα | hf|hg => infer_instance);(case hN => rfl))|(apply a8;rfl;rfl;rfl)|(apply aF;kernel_rfl))|(apply aN;first|apply aI|apply aB|(apply cS;rfl;(rfl))|(apply aO;rfl;all_goals intro hc;have hq:=hc;(try simp only [cF] at hq);try exfalso;omega)|apply aK|apply aS|apply bI|apply aQ)|with_reducible apply aA|with_reducible apply bJ|with_reducible apply aX|with_reducible apply bH|((with_reducible apply aP);case hr => rfl))
 ·(apply Exists.intro (k + 1, n + 1 + m6 (most - n) 0 l[k]!.th + m6 (most - (n + 1 + m6 (most - n) 0 l[k]!.th)) 0 l[k]!.el); refine And.intro ?_ (And.intro ?_ ?_); rotate_left 2; focus (refine Le.ren [] rfl (by decide) ?_ ?_ <;> repeat' (first | exact trivial | refine And.intro ⟨_, rfl, ?_⟩ ?_ | refine Or.inl ⟨?_, (by first | rfl | exact aZ _ _)⟩ | rfl)))
  ·dsimp only;grind
  ·dsimp only;omega
 ·(apply dW (k + 1, n + 1 + m6 (most - n) 0 l[k]!.th); focus (refine Le.ren [] rfl (by decide) ?_ ?_ <;> repeat' (first | exact trivial | refine And.intro ⟨_, rfl, ?_⟩ ?_ | refine Or.inl ⟨?_, (by first | rfl | exact aZ _ _)⟩ | rfl)))
  ·dsimp only;grind
  ·dsimp only;omega
 ·(refine ⟨?_, rfl⟩; simp only [b9, AV.v.injEq, Value.bool.injEq, Value.int.injEq, true_and])
  rw [← hn, EV _ _ _ (by omega)]
 ·(refine ⟨?_, rfl⟩; simp only [b9, AV.v.injEq, Value.bool.injEq, Value.int.injEq, true_and])
  rw [← hn, Hj _ _ _ _ (by omega)]
theorem DM (l : List AL.Stmt) (most : Int) (hs : bQ l ≤ 100000000) (hd0 : -1 ≤ most) (hd : most ≤ 1000) :
  PC Tryz.prog 108 [sl aV l, iv most] (fun r => r = iv (m6 most 0 l)) := by
 have h : ∀ (m : Nat), m ≤ 100000000 → ∀ l (most : Int), bQ l ≤ m → -1 ≤ most → most ≤ 1000 → PC Tryz.prog 108 [sl aV l, iv most] (fun r => r = iv (m6 most 0 l)) := by
  intro m
  induction m using Nat.strongRecOn with
  | ind m ih =>
   intro hm l most h1 h2 h3
   exact BW m (fun l' most' g1 g2 g3 => ih _ g1 (by omega) l' most' (Nat.le_refl _) g2 g3) l most h1 hm h2 h3
 exact h _ hs l most (Nat.le_refl _) hd0 hd
theorem F6 (ts : List Int) (l : List AL.Stmt) (d : Int) (hl : cR ts = true) (hs : bQ l ≤ 100000000) (hd0 : 0 ≤ d) (hd : d ≤ 1000) : PC Tryz.prog 107 [sl cI ts, sl aV l, iv d] (fun r => r = bv (okL ts d.toNat l)) :=
 (HX ts hl _ hs).2 l d (Nat.le_refl _) hd0 hd
theorem wL (ts : List Int) (hl : ts.length ≤ 1000000) : PC Tryz.prog 106 [sl cI ts] (fun r => r = bv (cR ts)) := by
 (refine aU Tryz.func106 rfl (by simp [Tryz.ntmps106]) ?_; rw [Tryz.ntmps106])
 repeat' (first|(apply aM;first|(apply aC;rfl;rfl)|(apply aF;kernel_rfl))|(apply aN;first|apply aI|apply aB|apply aK)|with_reducible apply aA)
 refine bC (σ := Nat) [0] [(0, _)] [] [] (fun k => [(3, iv (k : Int))]) (fun k => []) (fun k => k ≤ ts.length ∧ ∀ i, i < k → 1 ≤ ts[i]! ∧ ts[i]! ≤ 4) (fun k => ts.length - k) (0) ⟨by omega, by omega⟩ rfl rfl (by repeat' (first|exact trivial|refine And.intro rfl ?_)) (by repeat' (exact trivial)) ?_
 intro k ⟨hk, hall⟩
 repeat' (first|(apply aM;first|(apply aE;rfl;rfl)|(apply aL;rfl;rfl;rfl;rfl)|(first|(apply a6;rfl;rfl;rfl;(assumption))|(apply bD;rfl;rfl;rfl;(assumption))|(apply bO;(case hj|hb|hN => rfl);all_goals (intro hg;have hq := hg;(try simp only [cF] at hq);(try (exfalso;omega)))))|(first|(apply bU;rfl;rfl;omega;rfl)|(apply aR;rfl;rfl;rfl;rfl))|(apply aC;rfl;rfl)|(first|(apply bR;rfl;(assumption);rfl;rfl)|(apply bF;rfl;(assumption);rfl;rfl))|(apply a7;(case hx|hi => rfl);(case hm => (omega));(case hml => (rfl));(case hα | hf|hg => infer_instance);(case hN => rfl))|(apply a8;rfl;rfl;rfl)|(apply aF;kernel_rfl))|(apply aN;first|apply aI|apply aB|(apply bZ;rfl;(rfl))|(apply aO;rfl;all_goals intro hc;have hq:=hc;(try simp only [cF] at hq);try exfalso;omega)|apply aK|apply aS|apply bI|apply aQ)|with_reducible apply aA|with_reducible apply bK|with_reducible apply bJ|with_reducible apply aX|with_reducible apply cT|with_reducible apply bH|((with_reducible apply aP);case hr => rfl))
 ·(refine ⟨?_, rfl⟩; simp only [b9, AV.v.injEq, Value.bool.injEq, Value.int.injEq, true_and])
  unfold cR;grind [mP, kC]
 ·(apply dW (k + 1); focus (refine Le.ren [] rfl (by decide) ?_ ?_ <;> repeat' (first | exact trivial | refine And.intro ⟨_, rfl, ?_⟩ ?_ | refine Or.inl ⟨?_, (by first | rfl | exact aZ _ _)⟩ | rfl)))
  ·grind
  ·omega
 ·(refine ⟨?_, rfl⟩; simp only [b9, AV.v.injEq, Value.bool.injEq, Value.int.injEq, true_and])
  unfold cR;grind [mP, kC]
 ·(refine ⟨?_, rfl⟩; simp only [b9, AV.v.injEq, Value.bool.injEq, Value.int.injEq, true_and])
  unfold cR;grind [mP, kC]
theorem l9 (p : Prg) (hl : p.types.length ≤ 1000000) (hs : bQ p.body ≤ 100000000) : PC Tryz.prog 57 [dD p] (fun r => r = bv (cQ p)) := by
 unfold cQ
 cases ht : cR p.types
 ·(refine aU Tryz.func57 rfl (by simp [Tryz.ntmps57]) ?_; rw [Tryz.ntmps57])
  repeat' (first|(apply aM;first|(apply aE;rfl;rfl)|(apply aL;rfl;rfl;rfl;rfl)|(apply aD;rfl;rfl;rfl)|(apply bD;rfl;rfl;rfl;(first|rfl|assumption))|(apply aC;rfl;rfl)|(apply bF;rfl;(first|rfl|assumption);rfl;rfl)|((with_reducible apply aJ (k := 106));(case ha => rfl);(case h => (apply wL <;> (assumption)));(case hp => (exact Pur.pf));(case hN => rfl))|(apply aF;kernel_rfl)|(apply b0;rfl;rfl;rfl;rfl))|(apply aN;first|apply aI|apply aB|apply aQ)|with_reducible apply aA|((with_reducible apply aP);case hr => rfl))
  (refine ⟨?_, rfl⟩; simp only [b9, AV.v.injEq, Value.bool.injEq, Value.int.injEq, true_and])
  rfl
 ·(refine aU Tryz.func57 rfl (by simp [Tryz.ntmps57]) ?_; rw [Tryz.ntmps57])
  repeat' (first|(apply aM;first|(apply aE;rfl;rfl)|(apply aL;rfl;rfl;rfl;rfl)|(apply aD;rfl;rfl;rfl)|(first|(apply a6;rfl;rfl;rfl;(assumption))|(apply bD;rfl;rfl;rfl;(assumption))|(apply bO;(case hj|hb|hN => rfl);all_goals (intro hg;have hq := hg;(try simp only [cF] at hq);(try (exfalso;omega)))))|(apply aR;rfl;rfl;rfl;rfl)|(apply aC;rfl;rfl)|(first|(apply bR;rfl;(assumption);rfl;rfl)|(apply bF;rfl;(assumption);rfl;rfl))|(first|((with_reducible apply aJ (k := 106));(case ha => rfl);(case h => (apply wL <;> (assumption)));(case hp => (exact Pur.pf));(case hN => rfl))|((with_reducible apply aJ (k := 107));(case ha => rfl);(case h => (apply F6 <;> (first|assumption|omega)));(case hp => (exact Pur.pf));(case hN => rfl))|((with_reducible apply aJ (k := 108));(case ha => rfl);(case h => (apply DM <;> (first|assumption|omega)));(case hp => (exact Pur.pf));(case hN => rfl)))|(apply aF;kernel_rfl)|(apply b0;rfl;rfl;rfl;rfl))|(apply aN;first|apply aI|apply aB|apply aQ)|with_reducible apply aA|((with_reducible apply aP);case hr => rfl))
  ·(refine ⟨?_, rfl⟩; simp only [b9, AV.v.injEq, Value.bool.injEq, Value.int.injEq, true_and])
   rw [show okL p.types 4 p.body = true from hq]; simp only [Bool.true_and, JW, decide_eq_decide]; omega
  ·(refine ⟨?_, rfl⟩; simp only [b9, AV.v.injEq, Value.bool.injEq, Value.int.injEq, true_and])
   rw [show okL p.types 4 p.body = false from hq]; rfl
end Go.Proofs.YtjcpngimjdckmaaGreat
namespace Go.Proofs.YtjcpngimjdckmaaGreat
open Go.AL Go.RowKit
theorem Hn {ts : List Int} {s : AL.Stmt} {nest c : Int} {N : Nat} {Q : Exit → AS → Prop} {all : Array Oper} {rest : List Oper} {tsl : List (Nat × AV)} {hsl : List (Nat × Option (List AV))} {nidl : Nat} {z0 : Lo} {md : Md} {d : Nat} {ty : TypeId} {pos : String} {af : Array Edge} {tys : Array TypeId} {x0 x1 x2 x3 : Operand} {i0 : Nat} (ha0 : ev (lk tsl) x0 = some (sl cI ts)) (ha1 : ev (lk tsl) x1 = some (eZ s)) (ha2 : ev (lk tsl) x2 = some (iv nest)) (ha3 : ev (lk tsl) x3 = some (.optr i0 0)) (hH0 : cJ hsl i0 = some ([iv c])) (hmc : MC Tryz.prog 144 [sl cI ts, eZ s, iv nest, .optr 0 0] [(0, some ([iv c]))] 1 (fun _ : Unit => True) (fun _ => bv (mD ts nest c s).1) (fun _ => [(0, some ([iv (mD ts nest c s).2]))])) (hM : Nat.ble (nidl + 0) fG = true) (hN : Nat.blt d N = true) {md' : Md} [hmd : MdA md (hG [x0, x1, x2, x3] ++ [.inr i0]) (List.map Sum.inr (List.map Prod.fst ([(i0, some ([iv (mD ts nest c s).2]))] : List (Nat × Option (List AV)))) ++ [.inl d]) md'] (kk : RW Tryz.prog N all Q md' rest ⟨(d, bv (mD ts nest c s).1) :: tsl, jF hsl [(i0, some ([iv (mD ts nest c s).2]))], nidl + 0, z0⟩) : RW Tryz.prog N all Q md (⟨some d, .call ⟨.value (.func 144), #[x0, x1, x2, x3], tys⟩, ty, pos, af, none⟩ :: rest) ⟨tsl, hsl, nidl, z0⟩ := by
 refine cM [i0] 1 [(i0, some ([iv (mD ts nest c s).2]))] hmc (avs := [sl cI ts, eZ s, iv nest, .optr i0 0]) ?_ rfl ?_ rfl ?_ (by simpa using hM) ?_ ?_ ?_ hN (md' := md') (hmd := hmd) kk
 ·show evL (lk tsl) [x0, x1, x2, x3] = _
  simp only [evL, ha0, ha1, ha2, ha3]
 ·exact ⟨⟨_, _, rfl, hH0, by (repeat' (exact RnL.purI inferInstance))⟩, trivial⟩
 ·(repeat' (first|exact RnL.purI inferInstance|exact RnV.purI inferInstance|exact RnV.optr rfl|refine RnL.cons ?_ ?_))
 ·(repeat' (exact RnV.purI inferInstance))
 ·simp [eA]
 ·(repeat' (first|exact trivial|(refine And.intro ⟨0, _, rfl, rfl, ?_⟩ ?_)|exact RnL.purI inferInstance))
theorem uL {ts : List Int} {l : List AL.Stmt} {nest c : Int} {N : Nat} {Q : Exit → AS → Prop} {all : Array Oper} {rest : List Oper} {tsl : List (Nat × AV)} {hsl : List (Nat × Option (List AV))} {nidl : Nat} {z0 : Lo} {md : Md} {d : Nat} {ty : TypeId} {pos : String} {af : Array Edge} {tys : Array TypeId} {x0 x1 x2 x3 : Operand} {i0 : Nat} (ha0 : ev (lk tsl) x0 = some (sl cI ts)) (ha1 : ev (lk tsl) x1 = some (sl aV l)) (ha2 : ev (lk tsl) x2 = some (iv nest)) (ha3 : ev (lk tsl) x3 = some (.optr i0 0)) (hH0 : cJ hsl i0 = some ([iv c])) (hmc : MC Tryz.prog 98 [sl cI ts, sl aV l, iv nest, .optr 0 0] [(0, some ([iv c]))] 1 (fun _ : Unit => True) (fun _ => bv (kJ ts nest c l).1) (fun _ => [(0, some ([iv (kJ ts nest c l).2]))])) (hM : Nat.ble (nidl + 0) fG = true) (hN : Nat.blt d N = true) {md' : Md} [hmd : MdA md (hG [x0, x1, x2, x3] ++ [.inr i0]) (List.map Sum.inr (List.map Prod.fst ([(i0, some ([iv (kJ ts nest c l).2]))] : List (Nat × Option (List AV)))) ++ [.inl d]) md'] (kk : RW Tryz.prog N all Q md' rest ⟨(d, bv (kJ ts nest c l).1) :: tsl, jF hsl [(i0, some ([iv (kJ ts nest c l).2]))], nidl + 0, z0⟩) : RW Tryz.prog N all Q md (⟨some d, .call ⟨.value (.func 98), #[x0, x1, x2, x3], tys⟩, ty, pos, af, none⟩ :: rest) ⟨tsl, hsl, nidl, z0⟩ := by
 refine cM [i0] 1 [(i0, some ([iv (kJ ts nest c l).2]))] hmc (avs := [sl cI ts, sl aV l, iv nest, .optr i0 0]) ?_ rfl ?_ rfl ?_ (by simpa using hM) ?_ ?_ ?_ hN (md' := md') (hmd := hmd) kk
 ·show evL (lk tsl) [x0, x1, x2, x3] = _
  simp only [evL, ha0, ha1, ha2, ha3]
 ·exact ⟨⟨_, _, rfl, hH0, by (repeat' (exact RnL.purI inferInstance))⟩, trivial⟩
 ·(repeat' (first|exact RnL.purI inferInstance|exact RnV.purI inferInstance|exact RnV.optr rfl|refine RnL.cons ?_ ?_))
 ·(repeat' (exact RnV.purI inferInstance))
 ·simp [eA]
 ·(repeat' (first|exact trivial|(refine And.intro ⟨0, _, rfl, rfl, ?_⟩ ?_)|exact RnL.purI inferInstance))
theorem HP (ts : List Int) (htO : cR ts = true) (m : Nat) (scanAll_ih : ∀ l nest c, bQ l < m → 0 ≤ nest → nest ≤ 4 → 0 ≤ c → c ≤ 30 → MC Tryz.prog 98 [sl cI ts, sl aV l, iv nest, .optr 0 0] [(0, some ([iv c]))] 1 (fun _ : Unit => True) (fun _ => bv (kJ ts nest c l).1) (fun _ => [(0, some ([iv (kJ ts nest c l).2]))])) (s : AL.Stmt) (nest c : Int) (hs : dM s ≤ m) (hn0 : 0 ≤ nest) (hn : nest ≤ 4) (hc0 : 0 ≤ c) (hc : c ≤ 30) : MC Tryz.prog 144 [sl cI ts, eZ s, iv nest, .optr 0 0] [(0, some ([iv c]))] 1 (fun _ : Unit => True) (fun _ => bv (mD ts nest c s).1) (fun _ => [(0, some ([iv (mD ts nest c s).2]))]) := by
 have ct := gB s
 have hb1 := K0 ts s.th (nest + 1) (c + 1)
 (refine cD Tryz.func144 rfl (by simp [Tryz.ntmps144]) ?_; rw [Tryz.ntmps144])
 repeat' (first|(apply aM;first|(apply aE;rfl;rfl)|(first|(apply aL;rfl;rfl;rfl;rfl)|(apply aY;rfl;rfl;(exact (rfl:_=[_, _, _, _, _, _]));rfl;rfl;rfl))|(apply aD;rfl;rfl;rfl)|(first|(apply jK;rfl;rfl;rfl)|(apply a6;rfl;rfl;rfl;(assumption))|(apply bD;rfl;rfl;rfl;(first|rfl|assumption))|(apply bO;(case hj|hb|hN => rfl);all_goals (intro hg;have hq := hg;(try simp only [cF] at hq);(try (exfalso;omega)))))|(first|(apply bU;rfl;rfl;omega;rfl)|(apply aR;rfl;rfl;rfl;rfl))|(apply aC;rfl;rfl)|(first|(apply bR;rfl;(first|rfl|assumption);rfl;rfl)|(apply bF;rfl;(assumption);rfl;rfl))|(first|((with_reducible apply aJ (k := 80));(case ha => rfl);(case h => (apply BA <;> (fail)));(case hp => (rfl));(case hN => rfl))|(apply uL;rfl;rfl;rfl;rfl;(rfl);(apply scanAll_ih <;> (first|assumption|omega|grind));rfl;rfl)|((with_reducible apply aJ (k := 179));(case ha => rfl);(case h => (apply BK <;> (assumption)));(case hp => (exact Pur.pf));(case hN => rfl)))|(apply a8;rfl;rfl;rfl)|(apply aF;kernel_rfl)|(apply cC;rfl;rfl)|(apply bW;rfl;rfl;rfl)|(apply b0;rfl;rfl;rfl;rfl)|(apply aW;rfl;rfl;rfl;rfl;rfl;(case hl => (simp;done));(exact (rfl:_=[_]))))|(apply aN;first|apply aI|apply aB|(apply bZ;rfl;(rfl))|(apply cS;rfl;(rfl))|(apply aO;rfl;all_goals intro hc;have hq:=hc;(try simp only [cF] at hq);try exfalso;omega)|apply aS|apply aQ)|with_reducible apply aA|with_reducible apply bK)
 all_goals (refine aP rfl ?_; refine bY () trivial ?_ ⟨.inr (Eq.trans (b := some _) rfl ?_), trivial⟩)
 all_goals (try simp only [b9, AV.v.injEq, Value.bool.injEq, Value.int.injEq, true_and, iJ, List.take, List.drop, List.length, List.append, List.nil_append, List.append_nil, Option.some.injEq, List.cons.injEq, and_true])
 all_goals rw [Ix]
 all_goals clear scanAll_ih
 all_goals (cases hel : s.el <;> simp only [hel, List.length_nil, List.length_cons] at * <;> grind)
theorem Cj (ts : List Int) (m : Nat) (hm : m ≤ 100000000) (scan_ih : ∀ s nest c, dM s ≤ m → 0 ≤ nest → nest ≤ 4 → 0 ≤ c → c ≤ 30 → MC Tryz.prog 144 [sl cI ts, eZ s, iv nest, .optr 0 0] [(0, some ([iv c]))] 1 (fun _ : Unit => True) (fun _ => bv (mD ts nest c s).1) (fun _ => [(0, some ([iv (mD ts nest c s).2]))])) (l : List AL.Stmt) (nest c : Int) (hs : bQ l ≤ m) (hn0 : 0 ≤ nest) (hn : nest ≤ 4) (hc0 : 0 ≤ c) (hc : c ≤ 30) : MC Tryz.prog 98 [sl cI ts, sl aV l, iv nest, .optr 0 0] [(0, some ([iv c]))] 1 (fun _ : Unit => True) (fun _ => bv (kJ ts nest c l).1) (fun _ => [(0, some ([iv (kJ ts nest c l).2]))]) := by
 have hlen := dI l
 (refine cD Tryz.func98 rfl (by simp [Tryz.ntmps98]) ?_; rw [Tryz.ntmps98])
 repeat' (first|(apply aM;first|(apply aE;rfl;rfl)|(apply aC;rfl;rfl)|(apply a8;rfl;rfl;rfl)|(apply aF;kernel_rfl))|(apply aN;first|apply aI|apply aB|apply aK)|with_reducible apply aA)
 refine bC (σ := Nat × Int) [0, 2, 3, 11, 12] [(0, _), (2, _), (3, _), (11, _), (12, _)] [] [] (fun k => [(13, iv (k.1 : Int))]) (fun k => [(0, some [iv k.2])]) (fun k => k.1 ≤ l.length ∧ kJ ts nest k.2 (l.drop k.1) = kJ ts nest c l ∧ 0 ≤ k.2 ∧ k.2 ≤ 30) (fun k => l.length - k.1) (0, c) ⟨by omega, rfl, by omega, by omega⟩ rfl rfl (by repeat' (first|exact trivial|refine And.intro rfl ?_)) (by repeat' (first|exact trivial|refine And.intro (.inr rfl) ?_)) ?_
 rintro ⟨k, c'⟩ ⟨hk, hn, hn0, hn1⟩
 dsimp only at hk hn hn0 hn1 ⊢
 have hck := eS l k
 have hb1 := KP ts l[k]! nest c'
 have hst := @scL_stop ts nest c' l k
 repeat' (first|(apply aM;first|(apply aE;rfl;rfl)|(apply aY;rfl;rfl;(exact (rfl:_=[_, _, _, _, _, _]));rfl;rfl;rfl)|(first|(apply bU;rfl;rfl;omega;rfl)|(apply aR;rfl;rfl;rfl;rfl))|(apply aC;rfl;rfl)|(apply a7;(case hx|hi => rfl);(case hm => (omega));(case hml => (rfl));(case hα | hf|hg => infer_instance);(case hN => rfl))|(apply Hn;rfl;rfl;rfl;rfl;(rfl);(apply scan_ih <;> (first|assumption|omega));rfl;rfl)|(apply aF;kernel_rfl)|(apply cC;rfl;rfl)|(apply bE;rfl;rfl)|(apply aW;rfl;rfl;rfl;rfl;rfl;(case hl => (simp;done));(exact (rfl:_=[_, _, _, _, _, _]))))|(apply aN;first|apply aI|apply aB|(apply aO;rfl;all_goals intro hc;have hq:=hc;(try simp only [cF] at hq);try exfalso;omega)|apply aK|apply aS|apply bI|apply aQ)|with_reducible apply aA|with_reducible apply bK|with_reducible apply bJ|with_reducible apply aX|with_reducible apply cT|with_reducible apply bH)
 ·(refine aP rfl ?_; refine bY () trivial ?_ ⟨.inr (Eq.trans (b := some _) rfl ?_), trivial⟩)
  all_goals (try simp only [b9, AV.v.injEq, Value.bool.injEq, Value.int.injEq, true_and, iJ, List.take, List.drop, List.length, List.append, List.nil_append, List.append_nil, Option.some.injEq, List.cons.injEq, and_true])
  all_goals (rw [← hn, hst (by omega)]; grind)
 ·(apply dW (k + 1, (mD ts nest c' l[k]!).2); focus (refine Le.ren [] rfl (by decide) ?_ ?_ <;> repeat' (first | exact trivial | refine And.intro ⟨_, rfl, ?_⟩ ?_ | refine And.intro ⟨_, _, rfl, rfl, ?_⟩ ?_ | exact Or.inr rfl | refine Or.inl ⟨?_, (by first | rfl | exact aZ _ _)⟩ | rfl)))
  ·dsimp only;grind
  ·dsimp only;omega
 ·(refine aP rfl ?_; refine bY () trivial ?_ ⟨.inr (Eq.trans (b := some _) rfl ?_), trivial⟩)
  all_goals (try simp only [b9, AV.v.injEq, Value.bool.injEq, Value.int.injEq, true_and, iJ, List.take, List.drop, List.length, List.append, List.nil_append, List.append_nil, Option.some.injEq, List.cons.injEq, and_true])
  all_goals (rw [← hn, List.drop_of_length_le (by omega), kJ])
theorem Ej (ts : List Int) (hl : cR ts = true) : ∀ (m : Nat), m ≤ 100000000 → (∀ s (nest c : Int), dM s ≤ m → 0 ≤ nest → nest ≤ 4 → 0 ≤ c → c ≤ 30 → MC Tryz.prog 144 [sl cI ts, eZ s, iv nest, .optr 0 0] [(0, some ([iv c]))] 1 (fun _ : Unit => True) (fun _ => bv (mD ts nest c s).1) (fun _ => [(0, some ([iv (mD ts nest c s).2]))])) ∧
  (∀ l (nest c : Int), bQ l ≤ m → 0 ≤ nest → nest ≤ 4 → 0 ≤ c → c ≤ 30 → MC Tryz.prog 98 [sl cI ts, sl aV l, iv nest, .optr 0 0] [(0, some ([iv c]))] 1 (fun _ : Unit => True) (fun _ => bv (kJ ts nest c l).1) (fun _ => [(0, some ([iv (kJ ts nest c l).2]))])) := by
 intro m
 induction m using Nat.strongRecOn with
 | ind m ih =>
  intro hm
  have h1 : ∀ s (nest c : Int), dM s ≤ m → 0 ≤ nest → nest ≤ 4 → 0 ≤ c → c ≤ 30 → MC Tryz.prog 144 [sl cI ts, eZ s, iv nest, .optr 0 0] [(0, some ([iv c]))] 1 (fun _ : Unit => True) (fun _ => bv (mD ts nest c s).1) (fun _ => [(0, some ([iv (mD ts nest c s).2]))]) :=
   fun s nest c h1 h2 h3 h4 h5 => HP ts hl m (fun l nest c g1 g2 g3 g4 g5 => (ih (bQ l) g1 (by omega)).2 l nest c (Nat.le_refl _) g2 g3 g4 g5) s nest c h1 h2 h3 h4 h5
  exact ⟨h1, fun l nest c g1 g2 g3 g4 g5 => Cj ts m hm h1 l nest c g1 g2 g3 g4 g5⟩
theorem DL (ts : List Int) (l : List AL.Stmt) (nest c : Int) (hl : cR ts = true) (hs : bQ l ≤ 100000000) (hn0 : 0 ≤ nest) (hn : nest ≤ 4) (hc0 : 0 ≤ c) (hc : c ≤ 30) : MC Tryz.prog 98 [sl cI ts, sl aV l, iv nest, .optr 0 0] [(0, some ([iv c]))] 1 (fun _ : Unit => True) (fun _ => bv (kJ ts nest c l).1) (fun _ => [(0, some ([iv (kJ ts nest c l).2]))]) :=
 (Ej ts hl _ hs).2 l nest c (Nat.le_refl _) hn0 hn hc0 hc
theorem Bw (t : Int) : PC Tryz.prog 143 [iv t] (fun r => r = bv (!(decide (1 ≤ t) && decide (t ≤ 4)))) := by
 (refine aU Tryz.func143 rfl (by simp [Tryz.ntmps143]) ?_; rw [Tryz.ntmps143])
 repeat' (first|(apply aM;first|(apply aE;rfl;rfl)|(apply aC;rfl;rfl)|((with_reducible apply aJ (k := 50));(case ha => rfl);(case h => (apply eD <;> (fail)));(case hp => (rfl));(case hN => rfl))|(apply aF;kernel_rfl)|(apply cC;rfl;rfl))|(apply aN;first|apply aI|apply aB|apply aQ)|with_reducible apply aA|((with_reducible apply aP);case hr => rfl))
 all_goals (refine ⟨?_, rfl⟩; simp only [b9, AV.v.injEq, Value.bool.injEq, Value.int.injEq, true_and])
def uO (ts : List Int) : Int := match ts.findIdx? (fun t => !(decide (1 ≤ t) && decide (t ≤ 4))) with | some i => i | none => -1
theorem Fp (ts : List Int) (hl : ts.length ≤ 1000000) : PC Tryz.prog 171 [sl cI ts, .v (.func (.func 143) #[] #[])] (fun r => r = iv (uO ts)) := by
 (refine aU Tryz.func171 rfl (by simp [Tryz.ntmps171]) ?_; rw [Tryz.ntmps171])
 repeat' (first|(apply aM;first|(apply aE;rfl;rfl)|(apply aC;rfl;rfl)|(apply a8;rfl;rfl;rfl)|(apply aF;kernel_rfl))|(apply aN;first|apply aI|apply aB|apply aK)|with_reducible apply aA)
 refine bC (σ := Nat) [0, 1, 7] [(0, _), (1, _), (7, _)] [] [] (fun k => [(8, iv (k : Int))]) (fun k => []) (fun k => k ≤ ts.length ∧ ∀ i, i < k → 1 ≤ ts[i]! ∧ ts[i]! ≤ 4) (fun k => ts.length - k) (0) ⟨by omega, by omega⟩ rfl rfl (by repeat' (first|exact trivial|refine And.intro rfl ?_)) (by repeat' (exact trivial)) ?_
 intro k ⟨hk, hall⟩
 repeat' (first|(apply aM;first|(apply aE;rfl;rfl)|(apply aL;rfl;rfl;rfl;rfl)|(first|(apply bU;rfl;rfl;omega;rfl)|(apply aR;rfl;rfl;rfl;rfl))|(apply aC;rfl;rfl)|(apply a7;(case hx|hi => rfl);(case hm => (omega));(case hml => (rfl));(case hα | hf|hg => infer_instance);(case hN => rfl))|((with_reducible apply iH);(case hx|hcl => rfl);(case hc => infer_instance);(case ha => rfl);(case h => (apply Bw <;> (fail)));(case hp => (rfl));(case hN => rfl))|(apply aF;kernel_rfl))|(apply aN;first|apply aI|apply aB|(apply aO;rfl;all_goals intro hc;have hq:=hc;(try simp only [cF] at hq);try exfalso;omega)|apply aK|apply aS|apply bI|apply aQ)|with_reducible apply aA|with_reducible apply bK|with_reducible apply bJ|with_reducible apply aX|with_reducible apply cT|with_reducible apply bH|((with_reducible apply aP);case hr => rfl))
 ·(refine ⟨?_, rfl⟩; simp only [b9, AV.v.injEq, Value.bool.injEq, Value.int.injEq, true_and])
  have hlt : k < ts.length := by omega
  have : ts.findIdx? (fun t => !(decide (1 ≤ t) && decide (t ≤ 4))) = some k := by
   rw [List.findIdx?_eq_some_iff_getElem]
   refine ⟨hlt, ?_, fun j hj => ?_⟩
   ·rw [← cK ts k hlt]; grind
   ·have := hall j hj;rw [cK ts j (by omega)] at this;simp;omega
  simp only [uO, this]
 ·(apply dW (k + 1); focus (refine Le.ren [] rfl (by decide) ?_ ?_ <;> repeat' (first | exact trivial | refine And.intro ⟨_, rfl, ?_⟩ ?_ | refine Or.inl ⟨?_, (by first | rfl | exact aZ _ _)⟩ | rfl)))
  ·grind
  ·omega
 ·(refine ⟨?_, rfl⟩; simp only [b9, AV.v.injEq, Value.bool.injEq, Value.int.injEq, true_and])
  have : ts.findIdx? (fun t => !(decide (1 ≤ t) && decide (t ≤ 4))) = none := by
   rw [List.findIdx?_eq_none_iff]
   intro x hx
   obtain ⟨i, hi, rfl⟩ := List.getElem_of_mem hx
   have := hall i (by omega);rw [cK ts i hi] at this;simp;omega
  simp only [uO, this]
theorem DZ (ts : List Int) : decide (0 ≤ uO ts) = !(ts.all (fun t => decide (1 ≤ t) && decide (t ≤ 4))) := by
 unfold uO
 split
 ·rename_i i h
  obtain ⟨h1, h2, _⟩ := List.findIdx?_eq_some_iff_getElem.1 h
  have : ts.all (fun t => decide (1 ≤ t) && decide (t ≤ 4)) = false := by
   rw [List.all_eq_false]; exact ⟨ts[i], List.getElem_mem h1, by simp at h2 ⊢; omega⟩
  rw [this]; simp
 ·rename_i h
  rw [List.findIdx?_eq_none_iff] at h
  have : ts.all (fun t => decide (1 ≤ t) && decide (t ≤ 4)) = true := by
   rw [List.all_eq_true]; intro x hx;simpa using h x hx
  rw [this]; rfl
theorem D6 (ts : List Int) (hl : ts.length ≤ 1000000) : PC Tryz.prog 130 [sl cI ts, .v (.func (.func 143) #[] #[])] (fun r => r = bv (!(ts.all (fun t => decide (1 ≤ t) && decide (t ≤ 4))))) := by
 (refine aU Tryz.func130 rfl (by simp [Tryz.ntmps130]) ?_; rw [Tryz.ntmps130])
 repeat' (first|(apply aM;first|(apply aE;rfl;rfl)|(apply aR;rfl;rfl;rfl;rfl)|(apply aC;rfl;rfl)|((with_reducible apply aJ (k := 171));(case ha => rfl);(case h => (apply Fp <;> (assumption)));(case hp => (exact Pur.pf));(case hN => rfl))|(apply aF;kernel_rfl))|(apply aN;first|apply aI|apply aB|apply aQ)|with_reducible apply aA|((with_reducible apply aP);case hr => rfl))
 (refine ⟨?_, rfl⟩; simp only [b9, AV.v.injEq, Value.bool.injEq, Value.int.injEq, true_and])
 exact DZ ts
theorem sI (ts : List Int) (hl : ts.length ≤ 1000000) : PC Tryz.prog 97 [sl cI ts] (fun r => r = bv (cR ts)) := by
 (refine aU Tryz.func97 rfl (by simp [Tryz.ntmps97]) ?_; rw [Tryz.ntmps97])
 repeat' (first|(apply aM;first|(apply aE;rfl;rfl)|(first|(apply a6;rfl;rfl;rfl;(assumption))|(apply bD;rfl;rfl;rfl;(assumption))|(apply bO;(case hj|hb|hN => rfl);all_goals (intro hg;have hq := hg;(try simp only [cF] at hq);(try (exfalso;omega)))))|(apply aR;rfl;rfl;rfl;rfl)|(apply aC;rfl;rfl)|(first|(apply bR;rfl;(assumption);rfl;rfl)|(apply bF;rfl;(assumption);rfl;rfl))|((with_reducible apply aJ (k := 130));(case ha => rfl);(case h => (apply D6 <;> (assumption)));(case hp => (exact Pur.pf));(case hN => rfl))|(apply a8;rfl;rfl;rfl)|(apply aF;kernel_rfl)|(apply cC;rfl;rfl))|(apply aN;first|apply aI|apply aB|apply aQ)|with_reducible apply aA|((with_reducible apply aP);case hr => rfl))
 all_goals (refine ⟨?_, rfl⟩; simp only [b9, AV.v.injEq, Value.bool.injEq, Value.int.injEq, true_and])
 all_goals (unfold cR;grind)
theorem kO (p : Prg) (hl : p.types.length ≤ 1000000) (hs : bQ p.body ≤ 100000000) : PC Tryz.prog 49 [dD p] (fun r => r = bv (cQ p)) := by
 rw [← DD]
 cases ht : cR p.types
 ·(refine aU Tryz.func49 rfl (by simp [Tryz.ntmps49]) ?_; rw [Tryz.ntmps49])
  repeat' (first|(apply aM;first|(apply aE;rfl;rfl)|(apply aL;rfl;rfl;rfl;rfl)|(apply aD;rfl;rfl;rfl)|(apply bD;rfl;rfl;rfl;(assumption))|(apply aC;rfl;rfl)|(apply bF;rfl;(assumption);rfl;rfl)|((with_reducible apply aJ (k := 97));(case ha => rfl);(case h => (apply sI <;> (assumption)));(case hp => (exact Pur.pf));(case hN => rfl))|(apply aF;kernel_rfl)|(apply b0;rfl;rfl;rfl;rfl)|(apply bE;rfl;rfl)|(apply aW;rfl;rfl;rfl;rfl;rfl;(decide);(exact (rfl:_=[_]))))|(apply aN;first|apply aI|apply aB|apply aQ)|with_reducible apply aA|((with_reducible apply aP);case hr => rfl))
  all_goals (refine ⟨?_, rfl⟩; simp only [b9, AV.v.injEq, Value.bool.injEq, Value.int.injEq, true_and])
  all_goals grind
 ·(refine aU Tryz.func49 rfl (by simp [Tryz.ntmps49]) ?_; rw [Tryz.ntmps49])
  repeat' (first|(apply aM;first|(apply aE;rfl;rfl)|(apply aL;rfl;rfl;rfl;rfl)|(apply aD;rfl;rfl;rfl)|(apply a6;rfl;rfl;rfl;(assumption))|(apply aC;rfl;rfl)|(apply bR;rfl;(assumption);rfl;rfl)|(first|((with_reducible apply aJ (k := 97));(case ha => rfl);(case h => (apply sI <;> (assumption)));(case hp => (exact Pur.pf));(case hN => rfl))|(apply uL;rfl;rfl;rfl;rfl;(rfl);(apply DL <;> (first|assumption|omega));rfl;rfl))|(apply aF;kernel_rfl)|(apply b0;rfl;rfl;rfl;rfl)|(apply bE;rfl;rfl)|(apply aW;rfl;rfl;rfl;rfl;rfl;(decide);(exact (rfl:_=[_]))))|(apply aN;first|apply aI|apply aB|apply aQ)|with_reducible apply aA|((with_reducible apply aP);case hr => rfl))
  all_goals (refine ⟨?_, rfl⟩; simp only [b9, AV.v.injEq, Value.bool.injEq, Value.int.injEq, true_and])
  all_goals grind
theorem p9 {l : List AL.Stmt} {pts : List Pnt} {m : Nat} {N : Nat} {Q : Exit → AS → Prop} {all : Array Oper} {rest : List Oper} {tsl : List (Nat × AV)} {hsl : List (Nat × Option (List AV))} {nidl : Nat} {z0 : Lo} {md : Md} {d : Nat} {ty : TypeId} {pos : String} {af : Array Edge} {tys : Array TypeId} {x0 x1 : Operand} {i0 : Nat} (ha0 : ev (lk tsl) x0 = some (sl aV l)) (ha1 : ev (lk tsl) x1 = some (.own i0 0 m 5)) (hH0 : cJ hsl i0 = some (aH fQ pts)) (hmc : MC Tryz.prog 102 [sl aV l, .own 0 0 m 5] [(0, some (aH fQ pts))] 1 (fun _ : Unit => True) (fun _ => .own 1 0 (m + eF l) 5) (fun _ => [(1, some (aH fQ (pts ++ fY pts.length l)))])) (hM : Nat.ble (nidl + 1) fG = true) (hN : Nat.blt d N = true) {md' : Md} [hmd : MdA md (hG [x0, x1] ++ [.inr i0]) (List.map Sum.inr (List.map Prod.fst ([(nidl, some (aH fQ (pts ++ fY pts.length l))), (i0, none)] : List (Nat × Option (List AV)))) ++ [.inl d]) md'] (kk : RW Tryz.prog N all Q md' rest ⟨(d, .own nidl 0 (m + eF l) 5) :: tsl, jF hsl [(nidl, some (aH fQ (pts ++ fY pts.length l))), (i0, none)], nidl + 1, z0⟩) : RW Tryz.prog N all Q md (⟨some d, .call ⟨.value (.func 102), #[x0, x1], tys⟩, ty, pos, af, none⟩ :: rest) ⟨tsl, hsl, nidl, z0⟩ := by
 refine cM [i0] 2 [(nidl, some (aH fQ (pts ++ fY pts.length l))), (i0, none)] hmc (avs := [sl aV l, .own i0 0 m 5]) ?_ rfl ?_ rfl ?_ (by simpa using hM) ?_ ?_ ?_ hN (md' := md') (hmd := hmd) kk
 ·show evL (lk tsl) [x0, x1] = _
  simp only [evL, ha0, ha1]
 ·exact ⟨⟨_, _, rfl, hH0, by (repeat' (exact RnL.purI inferInstance))⟩, trivial⟩
 ·(repeat' (first|exact RnL.purI inferInstance|exact RnV.purI inferInstance|exact RnV.own rfl|refine RnL.cons ?_ ?_))
 ·(repeat' (exact RnV.own rfl))
 ·simp [eA]
 ·(repeat' (first|exact trivial|(refine And.intro ⟨1, _, rfl, rfl, ?_⟩ ?_)|exact RnL.purI inferInstance))
theorem yP (mm : Nat) (hmm : mm ≤ 1000000) (pointsOf_ih : ∀ l pts m, bQ l < mm → m = pts.length → m + eF l ≤ 12000000 → MC Tryz.prog 102 [sl aV l, .own 0 0 m 5] [(0, some (aH fQ pts))] 1 (fun _ : Unit => True) (fun _ => .own 1 0 (m + eF l) 5) (fun _ => [(1, some (aH fQ (pts ++ fY pts.length l)))])) (l : List AL.Stmt) (pts : List Pnt) (m : Nat) (hs : bQ l ≤ mm) (hm : m = pts.length) (hb : m + eF l ≤ 12000000) : MC Tryz.prog 102 [sl aV l, .own 0 0 m 5] [(0, some (aH fQ pts))] 1 (fun _ : Unit => True) (fun _ => .own 1 0 (m + eF l) 5) (fun _ => [(1, some (aH fQ (pts ++ fY pts.length l)))]) := by
 have hlen := dI l
 subst hm
 (refine cD Tryz.func102 rfl (by simp [Tryz.ntmps102]) ?_; rw [Tryz.ntmps102])
 repeat' (first|(apply aM;first|(apply aE;rfl;rfl)|(apply aC;rfl;rfl)|(apply a8;rfl;rfl;rfl)|(apply aF;kernel_rfl))|(apply aN;first|apply aI|apply aB|apply aK)|with_reducible apply aA)
 refine AW.le ?_ (Le.mv (d := 1) (i := 0) (cs := aH fQ pts) rfl rfl (by decide))
 refine bC (σ := Nat × List Pnt × Nat) [9, 10] [(9, _), (10, _)] [] [] (fun k => [(11, iv (k.1 : Int)), (1, .own 1 0 k.2.2 5)]) (fun k => [(1, some (aH fQ k.2.1))]) (fun k => k.1 ≤ l.length ∧ k.2.1 = pts ++ fY pts.length (l.take k.1) ∧ k.2.2 = k.2.1.length ∧ k.2.2 = pts.length + eF (l.take k.1)) (fun k => l.length - k.1) (0, pts, pts.length) ⟨by omega, by simp [fY], rfl, by simp [eF]⟩ rfl rfl (by repeat' (first|exact trivial|refine And.intro rfl ?_)) (by repeat' (first|exact trivial|refine And.intro (.inr rfl) ?_)) ?_
 rintro ⟨k, xs, m1⟩ ⟨hk, hxs, hm1, hm2⟩
 dsimp only at hk hxs hm1 hm2 ⊢
 have hck := eS l k
 have hct := gB l[k]!
 have hnt := Fu l k
 have n9 := I1 l[k]!
 have n10 := Bh l[k]!
 have n1 := Je l[k]!
 repeat' (first|(apply aM;first|(apply aE;rfl;rfl)|(first|(apply aL;rfl;rfl;rfl;rfl)|(apply aY;rfl;rfl;(exact (rfl:_=[_, _, _, _, _, _]));rfl;rfl;rfl))|(apply aD;rfl;rfl;rfl)|(first|(apply bU;rfl;rfl;omega;rfl)|(apply aR;rfl;rfl;rfl;rfl))|(apply aC;rfl;rfl)|(first|(apply a7;(case hx|hi => rfl);(case hm => (omega));(case hml => (rfl));(case hα | hf|hg => infer_instance);(case hN => rfl))|(apply cL;rfl;rfl;(omega);rfl))|(apply p9;rfl;rfl;(rfl);(apply pointsOf_ih <;> (first|omega|(simp only [gX] <;> omega)));rfl;rfl)|(first|(apply a8;rfl;rfl;rfl)|(apply cH;rfl;rfl;rfl;rfl;rfl;(first|(rw [aT]; omega)|(rw [aT]; simp only [gX] <;> omega));(rfl);omega;omega;(first|exact Ai (by (first|assumption|(simp only [gX] <;> omega)))|exact tW (by (first|assumption|(simp only [gX] <;> omega))));rfl;rfl))|(apply aF;kernel_rfl)|(apply bV;rfl;(exact (rfl:_=some [_, _, _, _, _]));(exact (rfl:_=[_, _, _, _, _]));rfl)|(apply bE;rfl;rfl)|((apply bS (t := _));(case hze|hsm|hl => rfl);(case hfl => (first|exact (rfl:_=some [_])|exact (rfl:_=some [_, _])|exact (rfl:_=some [_, _, _, _, _])));(case hM|hN => rfl))|(apply aW;rfl;rfl;rfl;rfl;rfl;(case hl => (first|(rw [aT]; simp only [gX] <;> omega)|(simp;done)));(first|exact y6 (by (simp only [gX] <;> omega))|exact z2 (by (simp only [gX] <;> omega))|exact (rfl:_=[_, _, _, _, _, _]))))|(apply aN;first|apply aI|apply aB|(apply aO;rfl;all_goals intro hc;have hq:=hc;(try simp only [cF] at hq);try exfalso;omega)|apply aK|apply aS|apply bI|apply aQ)|with_reducible apply aA|with_reducible apply bJ|with_reducible apply aX|with_reducible apply bH)
 ·(apply dW (k + 1, _, _); focus (refine Le.ren [(1, 8)] rfl (by decide) ?_ ?_ <;> repeat' (first | exact trivial | refine And.intro ⟨_, rfl, ?_⟩ ?_ | refine And.intro ⟨_, _, rfl, rfl, ?_⟩ ?_ | exact Or.inr rfl | refine Or.inl ⟨?_, (by first | rfl | exact aZ _ _)⟩ | rfl)))
  ·dsimp only
   rw [CD hm1, Cr hm1, CN (by rw [dU, hm1]), C6 (by rw [dU, hm1]), kQ l _ k (by omega), jS l k (by omega), lK, if_pos hq, n9 hq]
   refine ⟨by omega, ?_, by simp [dU]; omega, by omega⟩
   have e1 : xs.length = pts.length + eF (l.take k) := by omega
   rw [← List.append_assoc pts, ← hxs, ← e1]
   simp only [List.append_assoc, List.length_append, List.length_cons, List.length_nil, dU, hm1, Nat.zero_add]
   clear pointsOf_ih hxs hck hnt n9 n10 n1
   grind
  ·dsimp only;omega
 ·(apply dW (k + 1, _, _); focus (refine Le.ren [(1, 8)] rfl (by decide) ?_ ?_ <;> repeat' (first | exact trivial | refine And.intro ⟨_, rfl, ?_⟩ ?_ | refine And.intro ⟨_, _, rfl, rfl, ?_⟩ ?_ | exact Or.inr rfl | refine Or.inl ⟨?_, (by first | rfl | exact aZ _ _)⟩ | rfl)))
  ·dsimp only
   rw [Gf hm1, Gx hm1, kQ l _ k (by omega), jS l k (by omega), lK, if_neg (by omega), if_pos hq, n10 hq]
   refine ⟨by omega, ?_, by simp [dU]; omega, by omega⟩
   have e1 : xs.length = pts.length + eF (l.take k) := by omega
   rw [← List.append_assoc pts, ← hxs, ← e1]
   simp only [List.append_assoc, List.length_append, List.length_cons, List.length_nil, dU, hm1, Nat.zero_add]
   clear pointsOf_ih hxs hck hnt n9 n10 n1
   grind
  ·dsimp only;omega
 ·(apply dW (k + 1, _, _); focus (refine Le.ren [(1, 5)] rfl (by decide) ?_ ?_ <;> repeat' (first | exact trivial | refine And.intro ⟨_, rfl, ?_⟩ ?_ | refine And.intro ⟨_, _, rfl, rfl, ?_⟩ ?_ | exact Or.inr rfl | refine Or.inl ⟨?_, (by first | rfl | exact aZ _ _)⟩ | rfl)))
  ·dsimp only
   rw [kQ l _ k (by omega), jS l k (by omega), lK, if_neg ‹¬l[k]!.op = 9›, if_neg hq, n1 ‹¬l[k]!.op = 9› hq]
   refine ⟨by omega, ?_, by simp [dU]; omega, by omega⟩
   have e1 : xs.length = pts.length + eF (l.take k) := by omega
   rw [← List.append_assoc pts, ← hxs, ← e1, hm1]
  ·dsimp only;omega
 ·refine aP rfl ?_
  have e2 : l.take k = l := List.take_of_length_le (by omega)
  rw [e2] at hxs hm2
  refine bY () trivial ?_ ⟨.inr (Eq.trans (b := some _) rfl ?_), trivial⟩
  ·simp only [b9]; rw [hm2]
  ·rw [hxs]
theorem Bo (l : List AL.Stmt) (pts : List Pnt) (m : Nat) (hs : bQ l ≤ 1000000) (hm : m = pts.length) (hb : m + eF l ≤ 12000000) : MC Tryz.prog 102 [sl aV l, .own 0 0 m 5] [(0, some (aH fQ pts))] 1 (fun _ : Unit => True) (fun _ => .own 1 0 (m + eF l) 5) (fun _ => [(1, some (aH fQ (pts ++ fY pts.length l)))]) := by
 have h : ∀ (mm : Nat), mm ≤ 1000000 → ∀ l pts m, bQ l ≤ mm → m = pts.length → m + eF l ≤ 12000000 → MC Tryz.prog 102 [sl aV l, .own 0 0 m 5] [(0, some (aH fQ pts))] 1 (fun _ : Unit => True) (fun _ => .own 1 0 (m + eF l) 5) (fun _ => [(1, some (aH fQ (pts ++ fY pts.length l)))]) := by
  intro mm
  induction mm using Nat.strongRecOn with
  | ind mm ih =>
   intro h0 l pts m h1 h2 h3
   exact yP mm h0 (fun l' pts' m' g1 g2 g3 => ih _ g1 (by omega) l' pts' m' (Nat.le_refl _) g2 g3) l pts m h1 h2 h3
 exact h _ hs l pts m (Nat.le_refl _) hm hb
theorem xX {l : List AL.Stmt} {N : Nat} {Q : Exit → AS → Prop} {all : Array Oper} {rest : List Oper} {tsl : List (Nat × AV)} {hsl : List (Nat × Option (List AV))} {nidl : Nat} {z0 : Lo} {md : Md} {d : Nat} {ty : TypeId} {pos : String} {af : Array Edge} {tys : Array TypeId} {x0 x1 : Operand} (ha0 : ev (lk tsl) x0 = some (sl aV l)) (ha1 : ev (lk tsl) x1 = some (.v (.slice none 0 0))) (hmc : MC Tryz.prog 102 [sl aV l, .v (.slice none 0 0)] [] 0 (fun _ : Unit => True) (fun _ => .own 0 0 (eF l) 5) (fun _ => [(0, some (aH fQ (fY 0 l)))])) (hM : Nat.ble (nidl + 1) fG = true) (hN : Nat.blt d N = true) {md' : Md} [hmd : MdA md (hG [x0, x1] ++ []) (List.map Sum.inr (List.map Prod.fst ([(nidl, some (aH fQ (fY 0 l)))] : List (Nat × Option (List AV)))) ++ [.inl d]) md'] (kk : RW Tryz.prog N all Q md' rest ⟨(d, .own nidl 0 (eF l) 5) :: tsl, jF hsl [(nidl, some (aH fQ (fY 0 l)))], nidl + 1, z0⟩) : RW Tryz.prog N all Q md (⟨some d, .call ⟨.value (.func 102), #[x0, x1], tys⟩, ty, pos, af, none⟩ :: rest) ⟨tsl, hsl, nidl, z0⟩ := by
 refine cM [] 1 [(nidl, some (aH fQ (fY 0 l)))] hmc (avs := [sl aV l, .v (.slice none 0 0)]) ?_ rfl ?_ rfl ?_ (by simpa using hM) ?_ ?_ ?_ hN (md' := md') (hmd := hmd) kk
 ·show evL (lk tsl) [x0, x1] = _
  simp only [evL, ha0, ha1]
 ·exact trivial
 ·(repeat' (exact RnL.purI inferInstance))
 ·(repeat' (exact RnV.own rfl))
 ·simp [eA]
 ·(repeat' (first|exact trivial|(refine And.intro ⟨0, _, rfl, rfl, ?_⟩ ?_)|exact RnL.purI inferInstance))
theorem zO (l : List AL.Stmt) (hs : bQ l ≤ 1000000) : MC Tryz.prog 102 [sl aV l, .v (.slice none 0 0)] [] 0 (fun _ : Unit => True) (fun _ => .own 0 0 (eF l) 5) (fun _ => [(0, some (aH fQ (fY 0 l)))]) := by
 have hlen := dI l
 have hn2 := nK l
 (refine cD Tryz.func102 rfl (by simp [Tryz.ntmps102]) ?_; rw [Tryz.ntmps102])
 repeat' (first|(apply aM;first|(apply aE;rfl;rfl)|(apply aC;rfl;rfl)|(apply a8;rfl;rfl;rfl)|(apply aF;kernel_rfl))|(apply aN;first|apply aI|apply aB|apply aK)|with_reducible apply aA)
 refine AW.le ?_ (Le.nilOwn (d := 1) 5 rfl (by decide))
 refine bC (σ := Nat × List Pnt × Nat) [9, 10] [(9, _), (10, _)] [] [] (fun k => [(11, iv (k.1 : Int)), (1, .own 0 0 k.2.2 5)]) (fun k => [(0, some (aH fQ k.2.1))]) (fun k => k.1 ≤ l.length ∧ k.2.1 = fY 0 (l.take k.1) ∧ k.2.2 = k.2.1.length ∧ k.2.2 = eF (l.take k.1)) (fun k => l.length - k.1) (0, [], 0) ⟨by omega, by simp [fY], rfl, by simp [eF]⟩ rfl rfl (by repeat' (first|exact trivial|refine And.intro rfl ?_)) (by repeat' (first|exact trivial|refine And.intro (.inr rfl) ?_)) ?_
 rintro ⟨k, xs, m1⟩ ⟨hk, hxs, hm1, hm2⟩
 dsimp only at hk hxs hm1 hm2 ⊢
 have hck := eS l k
 have hct := gB l[k]!
 have hnt := Fu l k
 have n9 := I1 l[k]!
 have n10 := Bh l[k]!
 have n1 := Je l[k]!
 repeat' (first|(apply aM;first|(apply aE;rfl;rfl)|(first|(apply aL;rfl;rfl;rfl;rfl)|(apply aY;rfl;rfl;(exact (rfl:_=[_, _, _, _, _, _]));rfl;rfl;rfl))|(apply aD;rfl;rfl;rfl)|(first|(apply bU;rfl;rfl;omega;rfl)|(apply aR;rfl;rfl;rfl;rfl))|(apply aC;rfl;rfl)|(first|(apply a7;(case hx|hi => rfl);(case hm => (omega));(case hml => (rfl));(case hα | hf|hg => infer_instance);(case hN => rfl))|(apply cL;rfl;rfl;(omega);rfl))|(apply p9;rfl;rfl;(rfl);(apply Bo <;> (first|omega|(simp only [gX] <;> omega)));rfl;rfl)|(first|(apply a8;rfl;rfl;rfl)|(apply cH;rfl;rfl;rfl;rfl;rfl;(first|(rw [aT]; omega)|(rw [aT]; simp only [gX] <;> omega));(rfl);omega;omega;(first|exact Ai (by (first|assumption|(simp only [gX] <;> omega)))|exact tW (by (first|assumption|(simp only [gX] <;> omega))));rfl;rfl))|(apply aF;kernel_rfl)|(apply bV;rfl;(exact (rfl:_=some [_, _, _, _, _]));(exact (rfl:_=[_, _, _, _, _]));rfl)|(apply bE;rfl;rfl)|((apply bS (t := _));(case hze|hsm|hl => rfl);(case hfl => (first|exact (rfl:_=some [_])|exact (rfl:_=some [_, _])|exact (rfl:_=some [_, _, _, _, _])));(case hM|hN => rfl))|(apply aW;rfl;rfl;rfl;rfl;rfl;(case hl => (first|(rw [aT]; simp only [gX] <;> omega)|(simp;done)));(first|exact y6 (by (simp only [gX] <;> omega))|exact z2 (by (simp only [gX] <;> omega))|exact (rfl:_=[_, _, _, _, _, _]))))|(apply aN;first|apply aI|apply aB|(apply aO;rfl;all_goals intro hc;have hq:=hc;(try simp only [cF] at hq);try exfalso;omega)|apply aK|apply aS|apply bI|apply aQ)|with_reducible apply aA|with_reducible apply bJ|with_reducible apply aX|with_reducible apply bH)
 ·(apply dW (k + 1, _, _); focus (refine Le.ren [(0, 7)] rfl (by decide) ?_ ?_ <;> repeat' (first | exact trivial | refine And.intro ⟨_, rfl, ?_⟩ ?_ | refine And.intro ⟨_, _, rfl, rfl, ?_⟩ ?_ | exact Or.inr rfl | refine Or.inl ⟨?_, (by first | rfl | exact aZ _ _)⟩ | rfl)))
  ·dsimp only
   rw [CD hm1, Cr hm1, CN (by rw [dU, hm1]), C6 (by rw [dU, hm1]), kQ l _ k (by omega), jS l k (by omega), lK, if_pos hq, n9 hq]
   refine ⟨by omega, ?_, by simp [dU]; omega, by omega⟩
   have e1 : eF (l.take k) = xs.length := by omega
   rw [Nat.zero_add, e1]
   rw [← hxs]
   simp only [List.append_assoc, List.length_append, List.length_cons, List.length_nil, dU, hm1, Nat.zero_add]
   clear hxs hck hnt n9 n10 n1
   grind
  ·dsimp only;omega
 ·(apply dW (k + 1, _, _); focus (refine Le.ren [(0, 7)] rfl (by decide) ?_ ?_ <;> repeat' (first | exact trivial | refine And.intro ⟨_, rfl, ?_⟩ ?_ | refine And.intro ⟨_, _, rfl, rfl, ?_⟩ ?_ | exact Or.inr rfl | refine Or.inl ⟨?_, (by first | rfl | exact aZ _ _)⟩ | rfl)))
  ·dsimp only
   rw [Gf hm1, Gx hm1, kQ l _ k (by omega), jS l k (by omega), lK, if_neg (by omega), if_pos hq, n10 hq]
   refine ⟨by omega, ?_, by simp [dU]; omega, by omega⟩
   have e1 : eF (l.take k) = xs.length := by omega
   rw [Nat.zero_add, e1]
   rw [← hxs]
   simp only [List.append_assoc, List.length_append, List.length_cons, List.length_nil, dU, hm1, Nat.zero_add]
   clear hxs hck hnt n9 n10 n1
   grind
  ·dsimp only;omega
 ·(apply dW (k + 1, _, _); focus (refine Le.ren [(0, 4)] rfl (by decide) ?_ ?_ <;> repeat' (first | exact trivial | refine And.intro ⟨_, rfl, ?_⟩ ?_ | refine And.intro ⟨_, _, rfl, rfl, ?_⟩ ?_ | exact Or.inr rfl | refine Or.inl ⟨?_, (by first | rfl | exact aZ _ _)⟩ | rfl)))
  ·dsimp only
   rw [kQ l _ k (by omega), jS l k (by omega), lK, if_neg ‹¬l[k]!.op = 9›, if_neg hq, n1 ‹¬l[k]!.op = 9› hq]
   refine ⟨by omega, ?_, by simp [dU]; omega, by omega⟩
   have e1 : eF (l.take k) = xs.length := by omega
   rw [Nat.zero_add, e1]
   rw [← hxs, hm1]
  ·dsimp only;omega
 ·refine aP rfl ?_
  have e2 : l.take k = l := List.take_of_length_le (by omega)
  rw [e2] at hxs hm2
  refine bY () trivial ?_ ⟨.inr (Eq.trans (b := some _) rfl ?_), trivial⟩
  ·simp only [b9]; rw [hm2]
  ·rw [hxs]
theorem GA (p : Prg) (hs : bQ p.body ≤ 1000000) : PC Tryz.prog 96 [dD p] (fun r => r = sl fQ (c9 p)) := by
 have hn := nK p.body
 (refine aU Tryz.func96 rfl (by simp [Tryz.ntmps96]) ?_; rw [Tryz.ntmps96])
 repeat' (first|(apply aM;first|(apply aL;rfl;rfl;rfl;rfl)|(apply aD;rfl;rfl;rfl)|(apply aC;rfl;rfl)|(apply xX;rfl;rfl;(apply zO <;> (assumption));rfl;rfl)|(apply cH;rfl;rfl;rfl;rfl;rfl;(rw [aT]; simp only [gX] <;> omega);(rfl);omega;omega;(exact tW (by (simp only [gX] <;> omega)));rfl;rfl)|(apply aF;kernel_rfl)|(apply bV;rfl;(exact (rfl:_=some [_, _, _, _, _]));(exact (rfl:_=[_, _, _, _, _]));rfl)|(apply b0;rfl;rfl;rfl;rfl)|((apply bS (t := _));(case hze|hsm|hl => rfl);(case hfl => (exact (rfl:_=some [_, _, _, _, _])));(case hM|hN => rfl)))|(apply aN;first|apply aI|apply aB|apply aQ)|with_reducible apply aA)
 (refine cE (Le.frzD (d := 2) (i := 3) rfl rfl) ?_; refine aP rfl ?_)
 refine ⟨?_, ?_⟩
 ·simp only [b9, sl, c9, List.length_append, List.length_cons, List.length_nil, dU, Nat.zero_add]
 ·(exact aZ _ _)
theorem x7 (ts : List Int) (bd : List AL.Stmt) (pts : List Pnt) (v : Int) (h : 0 ≤ v ∧ v < ts.length) : PC Tryz.prog 154 [aG ts bd pts, iv v] (fun r => r = bv (D0 ts[v.toNat]!)) := by
 (refine aU Tryz.func154 rfl (by simp [Tryz.ntmps154]) ?_; rw [Tryz.ntmps154])
 repeat' (first|(apply aM;first|(apply aE;rfl;rfl)|(apply aL;rfl;rfl;rfl;rfl)|(apply aD;rfl;rfl;rfl)|(first|(apply a6;rfl;rfl;rfl;(assumption))|(apply bD;rfl;rfl;rfl;(assumption))|(apply bO;(case hj|hb|hN => rfl);all_goals (intro hg;have hq := hg;(try simp only [cF] at hq);(try (exfalso;omega)))))|(apply aR;rfl;rfl;rfl;rfl)|(apply aC;rfl;rfl)|(first|(apply bR;rfl;(assumption);rfl;rfl)|(apply bF;rfl;(assumption);rfl;rfl))|(apply dA;(case hx|hi => rfl);(case hm => (assumption));(case hml => (rfl));(case hα | hf|hg => infer_instance);(case hN => rfl))|(apply aF;kernel_rfl)|(apply bW;rfl;rfl;rfl))|(apply aN;first|apply aI|apply aB|apply aQ)|with_reducible apply aA|((with_reducible apply aP);case hr => rfl))
 all_goals (refine ⟨?_, rfl⟩; simp only [b9, AV.v.injEq, Value.bool.injEq, Value.int.injEq, true_and])
 all_goals grind [D0]
theorem LY (ts : List Int) (bd : List AL.Stmt) (pts : List Pnt) (x : Pnt) (v : Int) (h : 0 ≤ v ∧ v < ts.length) : PC Tryz.prog 201 [aG ts bd pts, iG x, iv v] (fun r => r = iv (bX ts x v)) := by
 (refine aU Tryz.func201 rfl (by simp [Tryz.ntmps201]) ?_; rw [Tryz.ntmps201])
 repeat' (first|(apply aM;first|(apply aE;rfl;rfl)|(apply aL;rfl;rfl;rfl;rfl)|(apply aD;rfl;rfl;rfl)|(first|(apply a6;rfl;rfl;rfl;(assumption))|(apply bD;rfl;rfl;rfl;(assumption))|(apply bO;(case hj|hb|hN => rfl);all_goals (intro hg;have hq := hg;(try simp only [cF] at hq);(try (exfalso;omega)))))|(apply aR;rfl;rfl;rfl;rfl)|(apply aC;rfl;rfl)|(first|(apply bR;rfl;(assumption);rfl;rfl)|(apply bF;rfl;(assumption);rfl;rfl))|((with_reducible apply aJ (k := 154));(case ha => rfl);(case h => (apply x7 <;> (assumption)));(case hp => (exact Pur.pf));(case hN => rfl))|(apply aF;kernel_rfl)|(apply b0;rfl;rfl;rfl;rfl))|(apply aN;first|apply aI|apply aB|(apply bZ;rfl;(assumption))|(apply cS;rfl;(first|rfl|assumption))|(apply aO;rfl;all_goals intro hc;have hq:=hc;(try simp only [cF] at hq);try exfalso;omega)|apply aK|apply aS|apply aQ)|with_reducible apply aA|with_reducible apply bK|with_reducible apply aX|with_reducible apply cT|((with_reducible apply aP);case hr => rfl))
 all_goals (refine ⟨?_, rfl⟩; simp only [b9, AV.v.injEq, Value.bool.injEq, Value.int.injEq, true_and])
 all_goals grind [D0, bX]
theorem xN (x : Pnt) : PC Tryz.prog 140 [iG x] (fun r => r = iv (bG x)) := by
 (refine aU Tryz.func140 rfl (by simp [Tryz.ntmps140]) ?_; rw [Tryz.ntmps140])
 repeat' (first|(apply aM;first|(apply aL;rfl;rfl;rfl;rfl)|(apply aD;rfl;rfl;rfl)|(apply aR;rfl;rfl;rfl;rfl)|(apply aC;rfl;rfl)|(apply aF;kernel_rfl)|(apply b0;rfl;rfl;rfl;rfl))|(apply aN;first|apply aI|apply aB|(apply bZ;rfl;(assumption))|(apply aO;rfl;all_goals intro hc;have hq:=hc;(try simp only [cF] at hq);try exfalso;omega)|apply aK|apply aS|apply aQ)|with_reducible apply aA|with_reducible apply bK|with_reducible apply aX|with_reducible apply cT|((with_reducible apply aP);case hr => rfl))
 all_goals (refine ⟨?_, rfl⟩; simp only [b9, AV.v.injEq, Value.bool.injEq, Value.int.injEq, true_and])
 all_goals grind [bG]
theorem l7 (x : Pnt) : PC Tryz.prog 196 [iG x] (fun r => r = bv (eE x)) := by
 (refine aU Tryz.func196 rfl (by simp [Tryz.ntmps196]) ?_; rw [Tryz.ntmps196])
 repeat' (first|(apply aM;first|(apply aE;rfl;rfl)|(apply aL;rfl;rfl;rfl;rfl)|(apply aD;rfl;rfl;rfl)|(first|(apply a6;rfl;rfl;rfl;(assumption))|(apply bD;rfl;rfl;rfl;(assumption))|(apply bO;(case hj|hb|hN => rfl);all_goals (intro hg;have hq := hg;(try simp only [cF] at hq);(try (exfalso;omega)))))|(apply aR;rfl;rfl;rfl;rfl)|(apply aC;rfl;rfl)|(first|(apply bR;rfl;(assumption);rfl;rfl)|(apply bF;rfl;(assumption);rfl;rfl))|(apply aF;kernel_rfl)|(apply b0;rfl;rfl;rfl;rfl))|(apply aN;first|apply aI|apply aB|apply aQ)|with_reducible apply aA|((with_reducible apply aP);case hr => rfl))
 all_goals (refine ⟨?_, rfl⟩; simp only [b9, AV.v.injEq, Value.bool.injEq, Value.int.injEq, true_and])
 all_goals grind [eE]
theorem oQ (x : Pnt) (h : bG x < 62) : PC Tryz.prog 174 [iG x] (fun r => r = iv (iF x : Nat)) := by
 (refine aU Tryz.func174 rfl (by simp [Tryz.ntmps174]) ?_; rw [Tryz.ntmps174])
 repeat' (first|(apply aM;first|(apply aE;rfl;rfl)|(apply aY;rfl;rfl;(exact (rfl:_=[_, _, _, _, _]));rfl;rfl;rfl)|(first|(apply j6;rfl;rfl;infer_instance;omega;rfl;(case' kk => intro hsm))|(apply aR;rfl;rfl;rfl;rfl))|(apply aC;rfl;rfl)|((with_reducible apply aJ (k := 140));(case ha => rfl);(case h => (apply xN <;> (fail)));(case hp => (exact Pur.pf));(case hN => rfl))|(apply aF;kernel_rfl)|(apply b0;rfl;rfl;rfl;rfl))|(apply aN;first|apply aI|apply aB|(apply aO;rfl;all_goals intro hc;have hq:=hc;(try simp only [cF] at hq);try exfalso;omega)|apply aS|apply aQ)|with_reducible apply aA|with_reducible apply bK|((with_reducible apply aP);case hr => rfl))
 all_goals (refine ⟨?_, rfl⟩; simp only [b9, AV.v.injEq, Value.bool.injEq, Value.int.injEq, true_and])
 all_goals (unfold iF)
 ·rw [if_pos (by omega)]
 ·rw [if_neg (by omega)]; rfl
theorem Lj (ts : List Int) (bd : List AL.Stmt) (pts : List Pnt) (h : ts.length ≤ 6) : PC Tryz.prog 180 [aG ts bd pts] (fun r => r = iv ((2 ^ ts.length - 1 : Nat) : Int)) := by
 have h1 : 2 ^ ts.length ≤ 2 ^ 6 := Nat.pow_le_pow_right (by decide) h
 have h2 : 0 < 2 ^ ts.length := Nat.pow_pos (by decide)
 have h3 : 2 ^ (ts.length : Int).toNat ≤ 2 ^ 6 := h1
 have h4 : 2 ^ (ts.length : Int).toNat = 2 ^ ts.length := rfl
 (refine aU Tryz.func180 rfl (by simp [Tryz.ntmps180]) ?_; rw [Tryz.ntmps180])
 repeat' (first|(apply aM;first|(apply aE;rfl;rfl)|(apply aL;rfl;rfl;rfl;rfl)|(apply aD;rfl;rfl;rfl)|(first|(apply j6;rfl;rfl;infer_instance;omega;rfl;(case' kk => intro hsm))|(apply fU;rfl;rfl;omega;rfl))|(apply aC;rfl;rfl)|(apply a8;rfl;rfl;rfl)|(apply aF;kernel_rfl)|(apply bW;rfl;rfl;rfl))|(apply aN;first|apply aI|apply aB|apply aQ)|with_reducible apply aA|((with_reducible apply aP);case hr => rfl))
 all_goals (refine ⟨?_, rfl⟩; simp only [b9, AV.v.injEq, Value.bool.injEq, Value.int.injEq, true_and])
 omega
def Fj (xs : List Int) (v : Int) : Int := match xs.findIdx? (fun t => decide (t = v)) with | some i => i | none => -1
theorem Hc (xs : List Int) (v : Int) (hl : xs.length ≤ 1000000) : PC Tryz.prog 99 [sl cI xs, iv v] (fun r => r = iv (Fj xs v)) := by
 (refine aU Tryz.func99 rfl (by simp [Tryz.ntmps99]) ?_; rw [Tryz.ntmps99])
 repeat' (first|(apply aM;first|(apply aE;rfl;rfl)|(apply aC;rfl;rfl)|(apply a8;rfl;rfl;rfl)|(apply aF;kernel_rfl))|(apply aN;first|apply aI|apply aB|apply aK)|with_reducible apply aA)
 refine bC (σ := Nat) [0, 1, 7] [(0, _), (1, _), (7, _)] [] [] (fun k => [(8, iv (k : Int))]) (fun k => []) (fun k => k ≤ xs.length ∧ ∀ i, i < k → xs[i]! ≠ v) (fun k => xs.length - k) (0) ⟨by omega, by omega⟩ rfl rfl (by repeat' (first|exact trivial|refine And.intro rfl ?_)) (by repeat' (exact trivial)) ?_
 intro k ⟨hk, hall⟩
 repeat' (first|(apply aM;first|(apply aE;rfl;rfl)|(apply aL;rfl;rfl;rfl;rfl)|(first|(apply bU;rfl;rfl;omega;rfl)|(apply aR;rfl;rfl;rfl;rfl))|(apply aC;rfl;rfl)|(apply a7;(case hx|hi => rfl);(case hm => (omega));(case hml => (rfl));(case hα | hf|hg => infer_instance);(case hN => rfl))|(apply aF;kernel_rfl))|(apply aN;first|apply aI|apply aB|(apply aO;rfl;all_goals intro hc;have hq:=hc;(try simp only [cF] at hq);try exfalso;omega)|apply aK|apply aS|apply bI|apply aQ)|with_reducible apply aA|with_reducible apply bK|with_reducible apply bJ|with_reducible apply aX|with_reducible apply cT|with_reducible apply bH|((with_reducible apply aP);case hr => rfl))
 ·(refine ⟨?_, rfl⟩; simp only [b9, AV.v.injEq, Value.bool.injEq, Value.int.injEq, true_and])
  have hlt : k < xs.length := by omega
  have : xs.findIdx? (fun t => decide (t = v)) = some k := by
   rw [List.findIdx?_eq_some_iff_getElem]
   refine ⟨hlt, ?_, fun j hj => ?_⟩
   ·rw [← cK xs k hlt]; grind
   ·have := hall j hj;rw [cK xs j (by omega)] at this;simpa using this
  simp only [Fj, this]
 ·(apply dW (k + 1); focus (refine Le.ren [] rfl (by decide) ?_ ?_ <;> repeat' (first | exact trivial | refine And.intro ⟨_, rfl, ?_⟩ ?_ | refine Or.inl ⟨?_, (by first | rfl | exact aZ _ _)⟩ | rfl)))
  ·grind
  ·omega
 ·(refine ⟨?_, rfl⟩; simp only [b9, AV.v.injEq, Value.bool.injEq, Value.int.injEq, true_and])
  have : xs.findIdx? (fun t => decide (t = v)) = none := by
   rw [List.findIdx?_eq_none_iff]
   intro x hx
   obtain ⟨i, hi, rfl⟩ := List.getElem_of_mem hx
   have := hall i (by omega);rw [cK xs i hi] at this;simpa using this
  simp only [Fj, this]
theorem HK (xs : List Int) (v : Int) : decide (0 ≤ Fj xs v) = decide (v ∈ xs) := by
 unfold Fj
 split
 ·rename_i i h
  obtain ⟨h1, h2, _⟩ := List.findIdx?_eq_some_iff_getElem.1 h
  simp only [decide_eq_true_eq] at h2
  have : v ∈ xs := by rw [← h2]; exact List.getElem_mem h1
  simp [this]
 ·rename_i h
  rw [List.findIdx?_eq_none_iff] at h
  have : v ∉ xs := fun hm => by have := h v hm;simp at this
  simp [this]
theorem tG (xs : List Int) (v : Int) (hl : xs.length ≤ 1000000) : PC Tryz.prog 52 [sl cI xs, iv v] (fun r => r = bv (decide (v ∈ xs))) := by
 (refine aU Tryz.func52 rfl (by simp [Tryz.ntmps52]) ?_; rw [Tryz.ntmps52])
 repeat' (first|(apply aM;first|(apply aE;rfl;rfl)|(apply aR;rfl;rfl;rfl;rfl)|(apply aC;rfl;rfl)|((with_reducible apply aJ (k := 99));(case ha => rfl);(case h => (apply Hc <;> (assumption)));(case hp => (exact Pur.pf));(case hN => rfl))|(apply aF;kernel_rfl))|(apply aN;first|apply aI|apply aB|apply aQ)|with_reducible apply aA|((with_reducible apply aP);case hr => rfl))
 (refine ⟨?_, rfl⟩; simp only [b9, AV.v.injEq, Value.bool.injEq, Value.int.injEq, true_and])
 exact HK xs v
theorem Dv (ts : List Int) (bd : List AL.Stmt) (pts : List Pnt) (x : Pnt) (us : List Int) (h : ts.length ≤ 6) (hu : us.length ≤ 1000) : PC Tryz.prog 177 [aG ts bd pts, iG x, sl cI us] (fun r => r = iv (wS ts x us : Nat)) := by
 (refine aU Tryz.func177 rfl (by simp [Tryz.ntmps177]) ?_; rw [Tryz.ntmps177])
 repeat' (first|(apply aM;first|(apply aE;rfl;rfl)|(apply aL;rfl;rfl;rfl;rfl)|(apply aD;rfl;rfl;rfl)|(apply aC;rfl;rfl)|(apply a8;rfl;rfl;rfl)|(apply aF;kernel_rfl)|(apply bW;rfl;rfl;rfl)|(apply b0;rfl;rfl;rfl;rfl))|(apply aN;first|apply aI|apply aB|apply aK)|with_reducible apply aA)
 refine bC (σ := Nat × Nat) [0, 2, 4, 14] [(0, _), (2, _), (4, _), (14, _)] [0] [(0, some _)] (fun k => [(15, iv (k.1 : Int)), (7, iv (k.2 : Int))]) (fun k => []) (fun k => k.1 ≤ ts.length ∧ k.2 = fV (fun v => decide (bX ts x v ∈ us)) k.1) (fun k => ts.length - k.1) (0, 0) ⟨by omega, rfl⟩ rfl rfl (by repeat' (first|exact trivial|refine And.intro rfl ?_)) (by repeat' (exact trivial)) ?_
 rintro ⟨k, A⟩ ⟨hk, hA⟩
 dsimp only at hk hA ⊢
 have hsm : Sm A := hA ▸ dK (by omega)
 repeat' (first|(apply aM;first|(apply aE;rfl;rfl)|(apply aY;rfl;rfl;(exact (rfl:_=[_, _, _, _, _]));rfl;rfl;rfl)|(first|(apply gJ;rfl;rfl;infer_instance;infer_instance;infer_instance;rfl)|(apply j6;rfl;rfl;infer_instance;omega;rfl;(case' kk => intro hsm))|(apply bU;rfl;rfl;omega;rfl)|(apply aR;rfl;rfl;rfl;rfl))|(apply aC;rfl;rfl)|(first|((with_reducible apply aJ (k := 52));(case ha => rfl);(case h => (apply tG <;> (omega)));(case hp => (exact Pur.pf));(case hN => rfl))|((with_reducible apply aJ (k := 201));(case ha => rfl);(case h => (apply LY <;> (omega)));(case hp => (exact Pur.pf));(case hN => rfl)))|(apply aF;kernel_rfl))|(apply aN;first|apply aI|apply aB|(apply aO;rfl;all_goals intro hc;have hq:=hc;(try simp only [cF] at hq);try exfalso;omega)|apply aK|apply aS|apply bI|apply aQ)|with_reducible apply aA|with_reducible apply bJ|with_reducible apply aX|with_reducible apply bH|((with_reducible apply aP);case hr => rfl))
 ·(apply dW (k + 1, _); focus (refine Le.ren [(0, 0)] rfl (by decide) ?_ ?_ <;> repeat' (first | exact trivial | refine And.intro ⟨_, rfl, ?_⟩ ?_ | refine And.intro ⟨_, _, rfl, rfl, ?_⟩ ?_ | exact Or.inr rfl | refine Or.inl ⟨?_, (by first | rfl | exact aZ _ _ | exact Pur.pf)⟩ | rfl)))
  ·dsimp only
   rw [hA]
   exact ⟨by omega, p7 _ _ (by simpa using hq)⟩
  ·dsimp only;omega
 ·(apply dW (k + 1, _); focus (refine Le.ren [(0, 0)] rfl (by decide) ?_ ?_ <;> repeat' (first | exact trivial | refine And.intro ⟨_, rfl, ?_⟩ ?_ | refine And.intro ⟨_, _, rfl, rfl, ?_⟩ ?_ | exact Or.inr rfl | refine Or.inl ⟨?_, (by first | rfl | exact aZ _ _ | exact Pur.pf)⟩ | rfl)))
  ·dsimp only
   rw [hA]
   exact ⟨by omega, mE _ _ (by simpa using hq)⟩
  ·dsimp only;omega
 ·(refine ⟨?_, rfl⟩; simp only [b9, AV.v.injEq, Value.bool.injEq, Value.int.injEq, true_and])
  rw [hA, show k = ts.length by omega]; rfl
theorem iR (ts : List Int) (bd : List AL.Stmt) (pts : List Pnt) (x : Pnt) (h : ts.length ≤ 6) : PC Tryz.prog 151 [aG ts bd pts, iG x] (fun r => r = iv (wS ts x [1, 2, 3] : Nat)) := by
 (refine aU Tryz.func151 rfl (by simp [Tryz.ntmps151]) ?_; rw [Tryz.ntmps151])
 repeat' (first|(apply aM;first|(apply aE;rfl;rfl)|(apply aY;rfl;rfl;(exact (rfl:_=[_, _, _, _, _]));rfl;rfl;rfl)|(apply aC;rfl;rfl)|((with_reducible apply aJ (k := 177));(case ha => rfl);(case h => (apply Dv (us := [1, 2, 3]) <;> (first|assumption|decide)));(case hp => (exact Pur.pf));(case hN => rfl))|(apply aF;kernel_rfl)|(apply b0;rfl;rfl;rfl;rfl)|((apply bS (t := _));(case hze|hsm|hl => rfl);(case hfl => (exact (rfl:_=some [_, _, _])));(case hM|hN => rfl)))|(apply aN;first|apply aI|apply aB|apply aQ)|with_reducible apply aA|((with_reducible apply aP);case hr => rfl))
 (refine ⟨?_, rfl⟩; simp only [b9, AV.v.injEq, Value.bool.injEq, Value.int.injEq, true_and])
theorem rN (ts : List Int) (bd : List AL.Stmt) (pts : List Pnt) (x : Pnt) (h : ts.length ≤ 6) : PC Tryz.prog 139 [aG ts bd pts, iG x] (fun r => r = iv (wS ts x [2] : Nat)) := by
 (refine aU Tryz.func139 rfl (by simp [Tryz.ntmps139]) ?_; rw [Tryz.ntmps139])
 repeat' (first|(apply aM;first|(apply aE;rfl;rfl)|(apply aY;rfl;rfl;(exact (rfl:_=[_, _, _, _, _]));rfl;rfl;rfl)|(apply aC;rfl;rfl)|((with_reducible apply aJ (k := 177));(case ha => rfl);(case h => (apply Dv (us := [2]) <;> (first|assumption|decide)));(case hp => (exact Pur.pf));(case hN => rfl))|(apply aF;kernel_rfl)|(apply b0;rfl;rfl;rfl;rfl)|((apply bS (t := _));(case hze|hsm|hl => rfl);(case hfl => exact (rfl:_=some [_]));(case hM|hN => rfl)))|(apply aN;first|apply aI|apply aB|apply aQ)|with_reducible apply aA|((with_reducible apply aP);case hr => rfl))
 (refine ⟨?_, rfl⟩; simp only [b9, AV.v.injEq, Value.bool.injEq, Value.int.injEq, true_and])
theorem yY (ts : List Int) (bd : List AL.Stmt) (pts : List Pnt) (i : Int) (A : Nat) (h : WG ts pts) (hi : 0 ≤ i ∧ i < pts.length) (hA : Sm A) : PC Tryz.prog 146 [aG ts bd pts, iv i, iv (A : Int)] (fun r => r = iv (iM ts pts[i.toNat]! A : Nat)) := by
 have htl := h.tl
 have hst := (h.set i.toNat (by omega)).1
 have hs1 : Sm (wS ts pts[i.toNat]! [2]) := dK (by omega)
 have hs2 : Sm (iF pts[i.toNat]!) := rC (by omega)
 (refine aU Tryz.func146 rfl (by simp [Tryz.ntmps146]) ?_; rw [Tryz.ntmps146])
 repeat' (first|(apply aM;first|(apply aE;rfl;rfl)|(first|(apply aL;rfl;rfl;rfl;rfl)|(apply aY;rfl;rfl;(exact (rfl:_=[_, _, _, _, _]));rfl;rfl;rfl))|(apply aD;rfl;rfl;rfl)|(first|(apply gJ;rfl;rfl;infer_instance;infer_instance;infer_instance;rfl)|(apply oF;rfl;rfl;infer_instance;infer_instance;infer_instance;rfl))|(apply aC;rfl;rfl)|(apply dA;(case hx|hi => rfl);(case hm => (assumption));(case hml => (rfl));(case hα | hf|hg => infer_instance);(case hN => rfl))|(first|((with_reducible apply aJ (k := 139));(case ha => rfl);(case h => (apply rN <;> (assumption)));(case hp => (exact Pur.pf));(case hN => rfl))|((with_reducible apply aJ (k := 174));(case ha => rfl);(case h => (apply oQ <;> (omega)));(case hp => (exact Pur.pf));(case hN => rfl)))|(apply aF;kernel_rfl)|(apply bW;rfl;rfl;rfl)|(apply bE;rfl;rfl)|(apply aW;rfl;rfl;rfl;rfl;rfl;(case hl => (simp;done));(exact (rfl:_=[_, _, _, _, _]))))|(apply aN;first|apply aI|apply aB|(apply b8;kernel_rfl)|apply aQ)|with_reducible apply aA|((with_reducible apply aP);case hr => rfl))
 (refine ⟨?_, rfl⟩; simp only [b9, AV.v.injEq, Value.bool.injEq, Value.int.injEq, true_and])
 rfl
theorem BU (ts : List Int) (bd : List AL.Stmt) (pts : List Pnt) (A : List Nat) (w : WG ts pts) (hA : tT ts pts A) : PC Tryz.prog 145 [aG ts bd pts, iv 0, bv false, .clos (.func 146) [aG ts bd pts] []] (fun r => r = .imm pts.length (aH cN A)) := by
 have hpl := w.pl
 have hp0 := w.p0
 have htl := w.tl
 have fl := LN w
 (refine aU Tryz.func145 rfl (by simp [Tryz.ntmps145]) ?_; rw [Tryz.ntmps145])
 repeat' (first|(apply aM;first|(apply aE;rfl;rfl)|(apply aL;rfl;rfl;rfl;rfl)|(apply aD;rfl;rfl;rfl)|(apply aC;rfl;rfl)|(apply cL;rfl;rfl;(assumption);rfl)|(apply a8;rfl;rfl;rfl)|(apply aF;kernel_rfl)|(apply bW;rfl;rfl;rfl)|(apply aW;rfl;rfl;rfl;rfl;rfl;(rw [aT]; simp only [gX] <;> omega);(exact tN (by (simp only [gX] <;> omega))))|(apply dV;rfl;rfl;rfl;omega;omega;(exact r8);rfl;rfl))|(apply aN;first|apply aI|apply aB|(apply cS;rfl;(rfl))|apply aK|apply aS)|with_reducible apply aA)
 refine bC (σ := List Nat × Bool) [0, 2, 3, 9] [(0, _), (2, _), (3, _), (9, _)] [] [] (fun s => [(11, bv s.2)]) (fun s => [(0, some (aH cN s.1))]) (fun s => SG pts (Mm ts pts) s.1 ∧ True ∧ (s.2 = false → lD nG (fun i A => iM ts pts[i]! A) pts s.1)) (fun s => 2 * gD (s.1.map (fun a => 2 ^ ts.length - a)) + s.2.toNat) (((List.replicate pts.length 0).set 0 0), true) ⟨by rw [lV (by rw [cK _ _ (by simpa using hp0), List.getElem_replicate]) (by simpa using hp0)]; exact Ch fun i hi => ⟨Nat.pow_pos (by decide), fun v h => by simp at h⟩, trivial, fun h => by cases h⟩ rfl rfl (by repeat' (first|exact trivial|refine And.intro rfl ?_)) (by repeat' (first|exact trivial|refine And.intro (.inr rfl) ?_)) ?_
 rintro ⟨s, b⟩ ⟨hS, hE, hC⟩
 dsimp only at hS hE hC ⊢
 repeat' (first|(apply aM;first|(apply aE;rfl;rfl)|(apply aL;rfl;rfl;rfl;rfl)|(apply aD;rfl;rfl;rfl)|(apply aC;rfl;rfl)|(apply a8;rfl;rfl;rfl)|(apply aF;kernel_rfl)|(apply bW;rfl;rfl;rfl))|(apply aN;first|apply aI|apply aB|(apply aO;rfl;all_goals intro hc;have hq:=hc;(try simp only [cF] at hq);try exfalso;omega)|apply aK|apply aS|apply bI|apply aQ)|with_reducible apply aA|with_reducible apply bJ|with_reducible apply bH)
 ·refine bC (σ := Nat × (List Nat × Bool)) [0, 2, 3, 9, 43, 44] [(0, _), (2, _), (3, _), (9, _), (43, _), (44, _)] [] [] (fun k => [(45, iv (k.1 : Int)), (11, bv k.2.2)]) (fun k => [(0, some (aH cN k.2.1))]) (fun k => k.1 ≤ pts.length ∧ k.2 = (List.range k.1).foldl (yA nG (fun i A => iM ts pts[i]! A) pts) (s, false) ∧ SG pts (Mm ts pts) k.2.1 ∧ True) (fun k => pts.length - k.1) (0, (s, false)) ⟨by omega, rfl, hS, hE⟩ rfl rfl (by repeat' (first | exact trivial | refine And.intro rfl ?_)) (by repeat' (first | exact trivial | refine And.intro (.inr rfl) ?_)) ?_
  rintro ⟨k, u, c⟩ ⟨hk, hf, hS2, hE2⟩
  dsimp only at hk hf hS2 hE2 ⊢
  have hsm : ∀ z, Sm u[z]! := tQ hS2 (fun i A h => h.1) htl
  have hul := hS2.1
  repeat' (first|(apply aM;first|(apply aE;rfl;rfl)|(first|(apply eQ;(case hx|hH => rfl);(case hf|hg|hα => infer_instance);(case hk => omega);(case hc|hN => rfl))|(apply aL;rfl;rfl;rfl;rfl)|(apply aY;rfl;rfl;(exact (rfl:_=[_, _, _, _, _]));rfl;rfl;rfl))|(apply aD;rfl;rfl;rfl)|(apply aR;rfl;rfl;rfl;rfl)|(apply aC;rfl;rfl)|(first|(apply a7;(case hx|hi => rfl);(case hm => (omega));(case hml => (rfl));(case hα | hf|hg => infer_instance);(case hN => rfl))|(apply cL;rfl;rfl;(omega);rfl))|(apply a8;rfl;rfl;rfl)|((with_reducible apply iH);(case hx|hcl => rfl);(case hc => infer_instance);(case ha => rfl);(case h => (apply yY <;> (first|assumption|omega|infer_instance)));(case hp => (exact Pur.pf));(case hN => rfl))|(apply aF;kernel_rfl)|(apply bE;rfl;rfl)|(apply aW;rfl;rfl;rfl;rfl;rfl;(case hl => (simp;done));(exact (rfl:_=[_, _, _, _, _]))))|(apply aN;first|apply aI|apply aB|(apply aO;rfl;all_goals intro hc;have hq:=hc;(try simp only [cF] at hq);try exfalso;omega)|apply aK|apply aS|apply bI)|with_reducible apply aA|with_reducible apply bJ|with_reducible apply aX|with_reducible apply bH)
  ·have hkn : k < pts.length := by omega
   have hv := qX w hkn (hS2.2 k hkn).1
   have hvs : Sm (iM ts pts[k]! u[k]!) := ⟨Nat.lt_of_lt_of_le hv (Nat.pow_le_pow_right (by decide) (by omega))⟩
   have hvs' : Sm (iM ts pts[(k : Int).toNat]! u[k]!) := hvs
   have hnl := w.nl k hkn
   refine bC (σ := Nat × (List Nat × Bool)) [0, 2, 3, 9, 14, 43, 44, 45, 58, 59] [(0, _), (2, _), (3, _), (9, _), (14, _), (43, _), (44, _), (45, _), (58, _), (59, _)] [] [] (fun j => [(60, iv (j.1 : Int)), (11, bv j.2.2)]) (fun j => [(0, some (aH cN j.2.1))]) (fun j => j.1 ≤ pts[k]!.next.length ∧ j.2 = ((uR pts k).take j.1).foldl (k7 nG (iM ts pts[k]! u[k]!)) (u, c) ∧ SG pts (Mm ts pts) j.2.1 ∧ True) (fun j => pts[k]!.next.length - j.1) (0, (u, c)) ⟨by omega, rfl, hS2, hE2⟩ rfl rfl (by repeat' (first|exact trivial|refine And.intro rfl ?_)) (by repeat' (first|exact trivial|refine And.intro (.inr rfl) ?_)) ?_
   rintro ⟨j, u2, c2⟩ ⟨hj, hf2, hS3, hE3⟩
   dsimp only at hj hf2 hS3 hE3 ⊢
   have hsm2 : ∀ z, Sm u2[z]! := tQ hS3 (fun i A h => h.1) htl
   have hul2 := hS3.1
   have hz : j < pts[k]!.next.length → 0 ≤ pts[k]!.next[j]! ∧ pts[k]!.next[j]! < pts.length := fun h => w.nx k hkn _ (cA _ _ h)
   repeat' (first|(apply aM;first|(apply aE;rfl;rfl)|(first|(apply eQ;(case hx|hH => rfl);(case hf|hg|hα => infer_instance);(case hk => omega);(case hc|hN => rfl))|(apply aL;rfl;rfl;rfl;rfl))|(first|(apply gJ;rfl;rfl;infer_instance;infer_instance;infer_instance;rfl)|(apply bU;rfl;rfl;omega;rfl)|(apply aR;rfl;rfl;rfl;rfl))|(apply aC;rfl;rfl)|(first|(apply a7;(case hx|hi => rfl);(case hm => (omega));(case hml => (rfl));(case hα | hf|hg => infer_instance);(case hN => rfl))|(apply cP;rfl;rfl;(omega);rfl))|(apply aF;kernel_rfl)|(apply aW;rfl;rfl;rfl;rfl;rfl;(rw [aT]; simp only [gX] <;> omega);(exact tN (by (omega)))))|(apply aN;first|apply aI|apply aB|(apply cS;rfl;(rfl))|(apply aO;rfl;all_goals intro hc;have hq:=hc;(try simp only [cF] at hq);try exfalso;omega)|apply aK|apply aS|apply bI)|with_reducible apply aA|with_reducible apply bJ|with_reducible apply aX|with_reducible apply bH)
   ·have hzz := hz (by omega)
    have hed : eB pts k (pts[k]!.next[j]!).toNat := ⟨hkn, by rw [Int.toNat_of_nonneg hzz.1]; exact cA _ _ (by omega)⟩
    have hne : nG u2[(pts[k]!.next[j]!).toNat]! (iM ts pts[k]! u[k]!) ≠ u2[(pts[k]!.next[j]!).toNat]! := fun h => hq (congrArg Int.ofNat h)
    (apply dW (j + 1, (_, true));focus (refine Le.ren [(0, 0)] rfl (by decide) ?_ ?_ <;> repeat' (first|exact trivial|refine And.intro ⟨_, rfl, ?_⟩ ?_|refine And.intro ⟨_, _, rfl, rfl, ?_⟩ ?_|exact Or.inr rfl|refine Or.inl ⟨?_, (by first|rfl|exact aZ _ _|exact Pur.pf|exact PurV.pf)⟩|rfl)))
    ·dsimp only
     refine ⟨by omega, ?_, xG fl w (hS2.2 k hkn) hed hS3, trivial⟩
     rw [jJ (by omega), ← hf2, xB hne]; rfl
    ·dsimp only;omega
   ·have hzz := hz (by omega)
    have hne : nG u2[(pts[k]!.next[j]!).toNat]! (iM ts pts[k]! u[k]!) = u2[(pts[k]!.next[j]!).toNat]! := Int.ofNat.inj hq
    (apply dW (j + 1, (u2, c2));focus (refine Le.ren [(0, 0)] rfl (by decide) ?_ ?_ <;> repeat' (first|exact trivial|refine And.intro ⟨_, rfl, ?_⟩ ?_|refine And.intro ⟨_, _, rfl, rfl, ?_⟩ ?_|exact Or.inr rfl|refine Or.inl ⟨?_, (by first|rfl|exact aZ _ _|exact Pur.pf|exact PurV.pf)⟩|rfl)))
    ·dsimp only
     refine ⟨by omega, ?_, hS3, hE3⟩
     rw [jJ (by omega), ← hf2, x6 hne]
    ·dsimp only;omega
   ·(apply dW (k + 1, (u2, c2)); focus (refine Le.ren [(0, 0)] rfl (by decide) ?_ ?_ <;> repeat' (first | exact trivial | refine And.intro ⟨_, rfl, ?_⟩ ?_ | refine And.intro ⟨_, _, rfl, rfl, ?_⟩ ?_ | exact Or.inr rfl | refine Or.inl ⟨?_, (by first | rfl | exact aZ _ _ | exact Pur.pf | exact PurV.pf)⟩ | rfl)))
    ·dsimp only
     refine ⟨by omega, ?_, hS3, hE3⟩
     rw [e9, ← hf, hf2, List.take_of_length_le (by rw [lN]; omega)]; rfl
    ·dsimp only;omega
  ·have law := tD w fl s false hS
   have hfull : (u, c) = yI nG (fun i A => iM ts pts[i]! A) pts (s, false) := by
    rw [hf, show k = pts.length by omega]; rfl
   rw [show yI (fun a s => nG a s) (fun i A => iM ts pts[i]! A) pts (s, false) = (u, c) from hfull.symm] at law
   (apply dW (u, c);focus (refine Le.ren [(0, 0)] rfl (by decide) ?_ ?_ <;> repeat' (first|exact trivial|refine And.intro ⟨_, rfl, ?_⟩ ?_|refine And.intro ⟨_, _, rfl, rfl, ?_⟩ ?_|exact Or.inr rfl|refine Or.inl ⟨?_, (by first|rfl|exact aZ _ _|exact Pur.pf|exact PurV.pf)⟩|rfl)))
   ·dsimp only
    refine ⟨hS2, hE2, fun h => ?_⟩
    rcases law.2 with ⟨e1, e2⟩ | ⟨e1, _⟩
    ·cases e1;exact e2
    ·dsimp only at e1;rw [h] at e1;cases e1
   ·dsimp only
    have hb : b = true := by assumption
    subst hb
    rcases law.2 with ⟨e1, e2⟩ | ⟨e1, e2⟩
    ·cases e1;simp
    ·dsimp only at e1 e2;subst e1;omega
 ·have hb : b = false := by assumption
  refine cE (Le.frzD (d := 8) (i := 0) rfl rfl) ?_
  refine aP rfl ⟨?_, (by (exact aZ _ _))⟩
  simp only [b9]
  rw [Ez hA (FW w hS (hC hb))]
theorem BN (ts : List Int) (bd : List AL.Stmt) (pts : List Pnt) (A : List Nat) (w : WG ts pts) (hA : sE ts pts A) : PC Tryz.prog 145 [aG ts bd pts, iv 0, bv true, .clos (.func 146) [aG ts bd pts] []] (fun r => r = .imm pts.length (aH cN A)) := by
 have hpl := w.pl
 have hp0 := w.p0
 have htl := w.tl
 have fl := L4 w
 (refine aU Tryz.func145 rfl (by simp [Tryz.ntmps145]) ?_; rw [Tryz.ntmps145])
 repeat' (first|(apply aM;first|(apply aE;rfl;rfl)|(apply aL;rfl;rfl;rfl;rfl)|(apply aD;rfl;rfl;rfl)|(apply aC;rfl;rfl)|(apply a8;rfl;rfl;rfl)|(apply aF;kernel_rfl)|(apply bW;rfl;rfl;rfl)|(apply dV;rfl;rfl;rfl;omega;omega;(exact r8);rfl;rfl))|(apply aN;first|apply aI|apply aB|(apply bZ;rfl;(rfl))|apply aK)|with_reducible apply aA)
 refine bC (σ := Nat × List Nat) [0, 1, 2, 3, 9, 26] [(0, _), (1, _), (2, _), (3, _), (9, _), (26, _)] [] [] (fun k => [(27, iv (k.1 : Int))]) (fun k => [(0, some (aH cN k.2))]) (fun k => k.1 ≤ pts.length ∧ k.2 = List.replicate k.1 (2 ^ ts.length - 1) ++ List.replicate (pts.length - k.1) 0) (fun k => pts.length - k.1) (0, List.replicate pts.length 0) ⟨by omega, by simp⟩ rfl rfl (by repeat' (first|exact trivial|refine And.intro rfl ?_)) (by repeat' (first|exact trivial|refine And.intro (.inr rfl) ?_)) ?_
 rintro ⟨k0, u0⟩ ⟨hk0, hu0⟩
 dsimp only at hk0 hu0 ⊢
 have hul0 : u0.length = pts.length := by rw [hu0]; simp;omega
 repeat' (first|(apply aM;first|(apply aE;rfl;rfl)|(first|(apply bU;rfl;rfl;omega;rfl)|(apply aR;rfl;rfl;rfl;rfl))|(apply aC;rfl;rfl)|(apply cL;rfl;rfl;(first|assumption|omega);rfl)|((with_reducible apply aJ (k := 180));(case ha => rfl);(case h => (apply Lj <;> (assumption)));(case hp => (exact Pur.pf));(case hN => rfl))|(apply aF;kernel_rfl)|(apply aW;rfl;rfl;rfl;rfl;rfl;(rw [aT]; simp only [gX] <;> omega);(exact tN (by (first|omega|(simp only [gX] <;> omega))))))|(apply aN;first|apply aI|apply aB|(apply aO;rfl;all_goals intro hc;have hq:=hc;(try simp only [cF] at hq);try exfalso;omega)|apply aK|apply aS|apply bI)|with_reducible apply aA|with_reducible apply bJ|with_reducible apply aX|with_reducible apply bH)
 ·(apply dW (k0 + 1, _); focus (refine Le.ren [(0, 0)] rfl (by decide) ?_ ?_ <;> repeat' (first | exact trivial | refine And.intro ⟨_, rfl, ?_⟩ ?_ | refine And.intro ⟨_, _, rfl, rfl, ?_⟩ ?_ | exact Or.inr rfl | refine Or.inl ⟨?_, (by first | rfl | exact aZ _ _ | exact Pur.pf | exact PurV.pf)⟩ | rfl)))
  ·dsimp only
   exact ⟨by omega, by rw [hu0]; exact HI (by omega)⟩
  ·dsimp only;omega
 have hk1 : k0 = pts.length := by omega
 subst hk1
 rw [Nat.sub_self, List.replicate_zero, List.append_nil] at hu0
 refine bC (σ := List Nat × Bool) [0, 2, 3, 9] [(0, _), (2, _), (3, _), (9, _)] [] [] (fun s => [(11, bv s.2)]) (fun s => [(0, some (aH cN s.1))]) (fun s => SG pts (Lb ts pts) s.1 ∧ s.1[0]! = 0 ∧ (s.2 = false → lD Kt (fun i A => iM ts pts[i]! A) pts s.1)) (fun s => 2 * gD (s.1.map (fun a => a)) + s.2.toNat) ((u0.set 0 0), true) ⟨(Gl w hu0).1, (Gl w hu0).2, fun h => by cases h⟩ rfl rfl (by repeat' (first|exact trivial|refine And.intro rfl ?_)) (by repeat' (first|exact trivial|refine And.intro (.inr rfl) ?_)) ?_
 rintro ⟨s, b⟩ ⟨hS, hE, hC⟩
 dsimp only at hS hE hC ⊢
 repeat' (first|(apply aM;first|(apply aE;rfl;rfl)|(apply aL;rfl;rfl;rfl;rfl)|(apply aD;rfl;rfl;rfl)|(apply aC;rfl;rfl)|(apply a8;rfl;rfl;rfl)|(apply aF;kernel_rfl)|(apply bW;rfl;rfl;rfl))|(apply aN;first|apply aI|apply aB|(apply aO;rfl;all_goals intro hc;have hq:=hc;(try simp only [cF] at hq);try exfalso;omega)|apply aK|apply aS|apply bI|apply aQ)|with_reducible apply aA|with_reducible apply bJ|with_reducible apply bH)
 ·refine bC (σ := Nat × (List Nat × Bool)) [0, 2, 3, 9, 43, 44] [(0, _), (2, _), (3, _), (9, _), (43, _), (44, _)] [] [] (fun k => [(45, iv (k.1 : Int)), (11, bv k.2.2)]) (fun k => [(0, some (aH cN k.2.1))]) (fun k => k.1 ≤ pts.length ∧ k.2 = (List.range k.1).foldl (yA Kt (fun i A => iM ts pts[i]! A) pts) (s, false) ∧ SG pts (Lb ts pts) k.2.1 ∧ k.2.1[0]! = 0) (fun k => pts.length - k.1) (0, (s, false)) ⟨by omega, rfl, hS, hE⟩ rfl rfl (by repeat' (first | exact trivial | refine And.intro rfl ?_)) (by repeat' (first | exact trivial | refine And.intro (.inr rfl) ?_)) ?_
  rintro ⟨k, u, c⟩ ⟨hk, hf, hS2, hE2⟩
  dsimp only at hk hf hS2 hE2 ⊢
  have hsm : ∀ z, Sm u[z]! := tQ hS2 (fun i A h => h.1) htl
  have hul := hS2.1
  repeat' (first|(apply aM;first|(apply aE;rfl;rfl)|(first|(apply eQ;(case hx|hH => rfl);(case hf|hg|hα => infer_instance);(case hk => omega);(case hc|hN => rfl))|(apply aL;rfl;rfl;rfl;rfl)|(apply aY;rfl;rfl;(exact (rfl:_=[_, _, _, _, _]));rfl;rfl;rfl))|(apply aD;rfl;rfl;rfl)|(apply aR;rfl;rfl;rfl;rfl)|(apply aC;rfl;rfl)|(first|(apply a7;(case hx|hi => rfl);(case hm => (omega));(case hml => (rfl));(case hα | hf|hg => infer_instance);(case hN => rfl))|(apply cL;rfl;rfl;(omega);rfl))|(apply a8;rfl;rfl;rfl)|((with_reducible apply iH);(case hx|hcl => rfl);(case hc => infer_instance);(case ha => rfl);(case h => (apply yY <;> (first|assumption|omega|infer_instance)));(case hp => (exact Pur.pf));(case hN => rfl))|(apply aF;kernel_rfl)|(apply bE;rfl;rfl)|(apply aW;rfl;rfl;rfl;rfl;rfl;(case hl => (simp;done));(exact (rfl:_=[_, _, _, _, _]))))|(apply aN;first|apply aI|apply aB|(apply aO;rfl;all_goals intro hc;have hq:=hc;(try simp only [cF] at hq);try exfalso;omega)|apply aK|apply aS|apply bI)|with_reducible apply aA|with_reducible apply bJ|with_reducible apply aX|with_reducible apply bH)
  ·have hkn : k < pts.length := by omega
   have hv := qX w hkn (hS2.2 k hkn).1
   have hvs : Sm (iM ts pts[k]! u[k]!) := ⟨Nat.lt_of_lt_of_le hv (Nat.pow_le_pow_right (by decide) (by omega))⟩
   have hvs' : Sm (iM ts pts[(k : Int).toNat]! u[k]!) := hvs
   have hnl := w.nl k hkn
   refine bC (σ := Nat × (List Nat × Bool)) [0, 2, 3, 9, 14, 43, 44, 45, 58, 59] [(0, _), (2, _), (3, _), (9, _), (14, _), (43, _), (44, _), (45, _), (58, _), (59, _)] [] [] (fun j => [(60, iv (j.1 : Int)), (11, bv j.2.2)]) (fun j => [(0, some (aH cN j.2.1))]) (fun j => j.1 ≤ pts[k]!.next.length ∧ j.2 = ((uR pts k).take j.1).foldl (k7 Kt (iM ts pts[k]! u[k]!)) (u, c) ∧ SG pts (Lb ts pts) j.2.1 ∧ j.2.1[0]! = 0) (fun j => pts[k]!.next.length - j.1) (0, (u, c)) ⟨by omega, rfl, hS2, hE2⟩ rfl rfl (by repeat' (first|exact trivial|refine And.intro rfl ?_)) (by repeat' (first|exact trivial|refine And.intro (.inr rfl) ?_)) ?_
   rintro ⟨j, u2, c2⟩ ⟨hj, hf2, hS3, hE3⟩
   dsimp only at hj hf2 hS3 hE3 ⊢
   have hsm2 : ∀ z, Sm u2[z]! := tQ hS3 (fun i A h => h.1) htl
   have hul2 := hS3.1
   have hz : j < pts[k]!.next.length → 0 ≤ pts[k]!.next[j]! ∧ pts[k]!.next[j]! < pts.length := fun h => w.nx k hkn _ (cA _ _ h)
   repeat' (first|(apply aM;first|(apply aE;rfl;rfl)|(first|(apply eQ;(case hx|hH => rfl);(case hf|hg|hα => infer_instance);(case hk => omega);(case hc|hN => rfl))|(apply aL;rfl;rfl;rfl;rfl))|(first|(apply gJ;rfl;rfl;infer_instance;infer_instance;infer_instance;rfl)|(apply yE;rfl;rfl;infer_instance;infer_instance;infer_instance;rfl)|(apply bU;rfl;rfl;omega;rfl)|(apply aR;rfl;rfl;rfl;rfl))|(apply aC;rfl;rfl)|(first|(apply a7;(case hx|hi => rfl);(case hm => (omega));(case hml => (rfl));(case hα | hf|hg => infer_instance);(case hN => rfl))|(apply cP;rfl;rfl;(omega);rfl))|(apply aF;kernel_rfl)|(apply aW;rfl;rfl;rfl;rfl;rfl;(rw [aT]; simp only [gX] <;> omega);(exact tN (by (omega)))))|(apply aN;first|apply aI|apply aB|(apply bZ;rfl;(rfl))|(apply aO;rfl;all_goals intro hc;have hq:=hc;(try simp only [cF] at hq);try exfalso;omega)|apply aK|apply aS|apply bI)|with_reducible apply aA|with_reducible apply bJ|with_reducible apply aX|with_reducible apply bH)
   ·have hzz := hz (by omega)
    have hed : eB pts k (pts[k]!.next[j]!).toNat := ⟨hkn, by rw [Int.toNat_of_nonneg hzz.1]; exact cA _ _ (by omega)⟩
    have hne : Kt u2[(pts[k]!.next[j]!).toNat]! (iM ts pts[k]! u[k]!) ≠ u2[(pts[k]!.next[j]!).toNat]! := fun h => hq (congrArg Int.ofNat h)
    (apply dW (j + 1, (_, true));focus (refine Le.ren [(0, 0)] rfl (by decide) ?_ ?_ <;> repeat' (first|exact trivial|refine And.intro ⟨_, rfl, ?_⟩ ?_|refine And.intro ⟨_, _, rfl, rfl, ?_⟩ ?_|exact Or.inr rfl|refine Or.inl ⟨?_, (by first|rfl|exact aZ _ _|exact Pur.pf|exact PurV.pf)⟩|rfl)))
    ·dsimp only
     refine ⟨by omega, ?_, xG fl w (hS2.2 k hkn) hed hS3, (by rw [eL _ _ _ _ (by rw [hS3.1]; exact gG w hed)]; split <;> first|exact hE3|(rename_i q;rw [← q, hE3]; exact Nat.zero_and _))⟩
     rw [jJ (by omega), ← hf2, xB hne]; rfl
    ·dsimp only;omega
   ·have hzz := hz (by omega)
    have hne : Kt u2[(pts[k]!.next[j]!).toNat]! (iM ts pts[k]! u[k]!) = u2[(pts[k]!.next[j]!).toNat]! := Int.ofNat.inj hq
    (apply dW (j + 1, (u2, c2));focus (refine Le.ren [(0, 0)] rfl (by decide) ?_ ?_ <;> repeat' (first|exact trivial|refine And.intro ⟨_, rfl, ?_⟩ ?_|refine And.intro ⟨_, _, rfl, rfl, ?_⟩ ?_|exact Or.inr rfl|refine Or.inl ⟨?_, (by first|rfl|exact aZ _ _|exact Pur.pf|exact PurV.pf)⟩|rfl)))
    ·dsimp only
     refine ⟨by omega, ?_, hS3, hE3⟩
     rw [jJ (by omega), ← hf2, x6 hne]
    ·dsimp only;omega
   ·(apply dW (k + 1, (u2, c2)); focus (refine Le.ren [(0, 0)] rfl (by decide) ?_ ?_ <;> repeat' (first | exact trivial | refine And.intro ⟨_, rfl, ?_⟩ ?_ | refine And.intro ⟨_, _, rfl, rfl, ?_⟩ ?_ | exact Or.inr rfl | refine Or.inl ⟨?_, (by first | rfl | exact aZ _ _ | exact Pur.pf | exact PurV.pf)⟩ | rfl)))
    ·dsimp only
     refine ⟨by omega, ?_, hS3, hE3⟩
     rw [e9, ← hf, hf2, List.take_of_length_le (by rw [lN]; omega)]; rfl
    ·dsimp only;omega
  ·have law := tD w fl s false hS
   have hfull : (u, c) = yI Kt (fun i A => iM ts pts[i]! A) pts (s, false) := by
    rw [hf, show k = pts.length by omega]; rfl
   rw [show yI (fun a s => Kt a s) (fun i A => iM ts pts[i]! A) pts (s, false) = (u, c) from hfull.symm] at law
   (apply dW (u, c);focus (refine Le.ren [(0, 0)] rfl (by decide) ?_ ?_ <;> repeat' (first|exact trivial|refine And.intro ⟨_, rfl, ?_⟩ ?_|refine And.intro ⟨_, _, rfl, rfl, ?_⟩ ?_|exact Or.inr rfl|refine Or.inl ⟨?_, (by first|rfl|exact aZ _ _|exact Pur.pf|exact PurV.pf)⟩|rfl)))
   ·dsimp only
    refine ⟨hS2, hE2, fun h => ?_⟩
    rcases law.2 with ⟨e1, e2⟩ | ⟨e1, _⟩
    ·cases e1;exact e2
    ·dsimp only at e1;rw [h] at e1;cases e1
   ·dsimp only
    have hb : b = true := by assumption
    subst hb
    rcases law.2 with ⟨e1, e2⟩ | ⟨e1, e2⟩
    ·cases e1;simp
    ·dsimp only at e1 e2;subst e1;omega
 ·have hb : b = false := by assumption
  refine cE (Le.frzD (d := 8) (i := 0) rfl rfl) ?_
  refine aP rfl ⟨?_, (by (exact aZ _ _))⟩
  simp only [b9]
  rw [Ey hA (EX w hS hE (hC hb))]
end Go.Proofs.YtjcpngimjdckmaaGreat
