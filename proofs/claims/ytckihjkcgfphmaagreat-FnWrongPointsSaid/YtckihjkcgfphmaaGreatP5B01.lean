/-
 A part of the proofs over this program: rules and contracts of its functions (the contracts).
-/
import Derived.Test.YtckihjkcgfphmaaGreatP5A07
import Derived.Test.YtckihjkcgfphmaaGreatRows
set_option linter.unusedVariables false
set_option linter.unusedSimpArgs false
set_option maxHeartbeats 8000000
set_option maxRecDepth 4000
attribute [local irreducible] Go.AL.RW Go.AL.AW Go.AL.Stop
namespace Go.Proofs.YtckihjkcgfphmaaGreat
open Go.AL
theorem eC (a b c : Int) : PC Tryz.prog 84 [iv a, iv b, iv c] (fun r => r = bv (decide (b ≤ a) && decide (a ≤ c))) := by
 (refine aU Tryz.func84 rfl (by simp [Tryz.ntmps84]) ?_; rw [Tryz.ntmps84])
 repeat' (first|(apply aL;first|(apply aE;rfl;rfl)|(first|(apply bB;rfl;rfl;rfl;(assumption))|(apply bD;rfl;rfl;rfl;(assumption))|(apply bS;(case hj|hb|hN => rfl);all_goals (intro hg;have hq := hg;(try simp only [cJ] at hq);(try (exfalso;omega)))))|(apply aT;rfl;rfl;rfl;rfl)|(apply aC;rfl;rfl)|(first|(apply bV;rfl;(assumption);rfl;rfl)|(apply bQ;rfl;(assumption);rfl;rfl))|(apply aF;kernel_rfl))|(apply aM;first|apply aH|apply aB|apply aR)|with_reducible apply aA|((with_reducible apply aP);case hr => rfl))
 all_goals (refine ⟨?_, rfl⟩; simp only [bX, AV.v.injEq, Value.bool.injEq, Value.int.injEq, true_and])
 all_goals grind
theorem Bc (t : Int) : PC Tryz.prog 208 [iv t] (fun r => r = bv (nN t)) := by
 (refine aU Tryz.func208 rfl (by simp [Tryz.ntmps208]) ?_; rw [Tryz.ntmps208])
 repeat' (first|(apply aL;first|(apply aE;rfl;rfl)|(first|(apply bB;rfl;rfl;rfl;(assumption))|(apply bD;rfl;rfl;rfl;(assumption))|(apply bS;(case hj|hb|hN => rfl);all_goals (intro hg;have hq := hg;(try simp only [cJ] at hq);(try (exfalso;omega)))))|(apply aT;rfl;rfl;rfl;rfl)|(apply aC;rfl;rfl)|(first|(apply bV;rfl;(assumption);rfl;rfl)|(apply bQ;rfl;(assumption);rfl;rfl))|(apply aF;kernel_rfl))|(apply aM;first|apply aH|apply aB|apply aR)|with_reducible apply aA|((with_reducible apply aP);case hr => rfl))
 all_goals (refine ⟨?_, rfl⟩; simp only [bX, AV.v.injEq, Value.bool.injEq, Value.int.injEq, true_and])
 all_goals grind [nN]
theorem BX (t : Int) : PC Tryz.prog 204 [iv t] (fun r => r = bv (decide (t = 2) || nN t)) := by
 (refine aU Tryz.func204 rfl (by simp [Tryz.ntmps204]) ?_; rw [Tryz.ntmps204])
 repeat' (first|(apply aL;first|(apply aE;rfl;rfl)|(first|(apply bB;rfl;rfl;rfl;(assumption))|(apply bD;rfl;rfl;rfl;(assumption))|(apply bS;(case hj|hb|hN => rfl);all_goals (intro hg;have hq := hg;(try simp only [cJ] at hq);(try (exfalso;omega)))))|(apply aT;rfl;rfl;rfl;rfl)|(apply aC;rfl;rfl)|(first|(apply bV;rfl;(assumption);rfl;rfl)|(apply bQ;rfl;(assumption);rfl;rfl))|((with_reducible apply aJ (k := 208));(case ha => rfl);(case h => (apply Bc <;> (fail)));(case hp => (rfl));(case hN => rfl))|(apply aF;kernel_rfl))|(apply aM;first|apply aH|apply aB|apply aR)|with_reducible apply aA|((with_reducible apply aP);case hr => rfl))
 all_goals (refine ⟨?_, rfl⟩; simp only [bX, AV.v.injEq, Value.bool.injEq, Value.int.injEq, true_and])
 all_goals grind
theorem BU (t : Int) : PC Tryz.prog 162 [iv t] (fun r => r = bv (decide (t = 9) || decide (t = 10))) := by
 (refine aU Tryz.func162 rfl (by simp [Tryz.ntmps162]) ?_; rw [Tryz.ntmps162])
 repeat' (first|(apply aL;first|(apply aE;rfl;rfl)|(first|(apply bB;rfl;rfl;rfl;(assumption))|(apply bD;rfl;rfl;rfl;(assumption))|(apply bS;(case hj|hb|hN => rfl);all_goals (intro hg;have hq := hg;(try simp only [cJ] at hq);(try (exfalso;omega)))))|(apply aT;rfl;rfl;rfl;rfl)|(apply aC;rfl;rfl)|(first|(apply bV;rfl;(assumption);rfl;rfl)|(apply bQ;rfl;(assumption);rfl;rfl))|(apply aF;kernel_rfl))|(apply aM;first|apply aH|apply aB|apply aR)|with_reducible apply aA|((with_reducible apply aP);case hr => rfl))
 all_goals (refine ⟨?_, rfl⟩; simp only [bX, AV.v.injEq, Value.bool.injEq, Value.int.injEq, true_and])
 all_goals grind
theorem Gb (ts : List Int) (v : Int) : PC Tryz.prog 250 [sl cI ts, iv v] (fun r => r = iv (gE ts v)) := by
 (refine aU Tryz.func250 rfl (by simp [Tryz.ntmps250]) ?_; rw [Tryz.ntmps250])
 repeat' (first|(apply aL;first|(apply aE;rfl;rfl)|(apply aN;rfl;rfl;rfl;rfl)|(first|(apply bB;rfl;rfl;rfl;(assumption))|(apply bD;rfl;rfl;rfl;(assumption))|(apply bS;(case hj|hb|hN => rfl);all_goals (intro hg;have hq := hg;(try simp only [cJ] at hq);(try (exfalso;omega)))))|(apply aT;rfl;rfl;rfl;rfl)|(apply aC;rfl;rfl)|(first|(apply bV;rfl;(assumption);rfl;rfl)|(apply bQ;rfl;(assumption);rfl;rfl))|(apply cL;(case hx|hi => rfl);(case hm => (omega));(case hml => (rfl));(case hα | hf|hg => infer_instance);(case hN => rfl))|(apply bC;rfl;rfl;rfl)|(apply aF;kernel_rfl))|(apply aM;first|apply aH|apply aB|(apply cA;rfl;(rfl))|(apply aO;rfl;all_goals intro hc;have hq:=hc;(try simp only [cJ] at hq);try exfalso;omega)|apply aS|apply aR)|with_reducible apply aA|with_reducible apply bJ|((with_reducible apply aP);case hr => rfl))
 all_goals (refine ⟨?_, rfl⟩; simp only [bX, AV.v.injEq, Value.bool.injEq, Value.int.injEq, true_and])
 all_goals grind [gE]
theorem GU (ts : List Int) (v : Int) (hl : ts.length ≤ 1000000) : PC Tryz.prog 203 [sl cI ts, iv v] (fun r => r = iv (gE ts v)) := by
 (refine aU Tryz.func203 rfl (by simp [Tryz.ntmps203]) ?_; rw [Tryz.ntmps203])
 repeat' (first|(apply aL;first|(apply aE;rfl;rfl)|(apply aN;rfl;rfl;rfl;rfl)|(apply gF;rfl;rfl;omega;rfl)|(apply aC;rfl;rfl)|(apply cL;(case hx|hi => rfl);(case hm => (omega));(case hml => (rfl));(case hα | hf|hg => infer_instance);(case hN => rfl))|((with_reducible apply aJ (k := 84));(case ha => rfl);(case h => (apply eC <;> (fail)));(case hp => (rfl));(case hN => rfl))|(apply bC;rfl;rfl;rfl)|(apply aF;kernel_rfl)|(apply cG;rfl;rfl))|(apply aM;first|apply aH|apply aB|(apply aO;rfl;all_goals intro hc;have hq:=hc;(try simp only [cJ] at hq);try exfalso;omega)|apply aS|apply aR)|with_reducible apply aA|with_reducible apply bJ|((with_reducible apply aP);case hr => rfl))
 all_goals (refine ⟨?_, rfl⟩; simp only [bX, AV.v.injEq, Value.bool.injEq, Value.int.injEq, true_and])
 all_goals grind [gE]
theorem B8 (ts : List Int) (s : AL.Stmt) (hl : dD ts = true) : PC Tryz.prog 163 [sl cI ts, fQ s] (fun r => r = bv (s.th.isEmpty && s.el.isEmpty && eV ts s)) := by
 have hl2 := iX hl
 have hx := jU hl s.x
 have hy := jU hl s.y
 (refine aU Tryz.func163 rfl (by simp [Tryz.ntmps163]) ?_; rw [Tryz.ntmps163])
 repeat' (first|(apply aL;first|(apply aE;rfl;rfl)|(apply aN;rfl;rfl;rfl;rfl)|(apply aD;rfl;rfl;rfl)|(first|(apply mT;rfl;rfl;rfl)|(apply bB;rfl;rfl;rfl;(first|rfl|assumption))|(apply bD;rfl;rfl;rfl;(first|rfl|assumption))|(apply bS;(case hj|hb|hN => rfl);all_goals (intro hg;have hq := hg;(try simp only [cJ] at hq);(try (exfalso;omega)))))|(apply aT;rfl;rfl;rfl;rfl)|(apply aC;rfl;rfl)|(first|(apply bV;rfl;(first|rfl|assumption);rfl;rfl)|(apply bQ;rfl;(first|rfl|assumption);rfl;rfl))|(first|((with_reducible apply aJ (k := 84));(case ha => rfl);(case h => (apply eC <;> (fail)));(case hp => (rfl));(case hN => rfl))|((with_reducible apply aJ (k := 203));(case ha => rfl);(case h => (apply GU <;> (omega)));(case hp => (exact Pur.pf));(case hN => rfl))|((with_reducible apply aJ (k := 204));(case ha => rfl);(case h => (apply BX <;> (fail)));(case hp => (rfl));(case hN => rfl)))|(apply bC;rfl;rfl;rfl)|(apply aF;kernel_rfl)|(apply cG;rfl;rfl)|(apply bK;rfl;rfl;rfl;rfl))|(apply aM;first|apply aH|apply aB|(apply b0;kernel_rfl)|(apply cA;rfl;(first|rfl|assumption))|(apply cH;rfl;(assumption))|(apply aO;rfl;all_goals intro hc;have hq:=hc;(try simp only [cJ] at hq);try exfalso;omega)|apply aK|apply aS|apply aR)|with_reducible apply aA|with_reducible apply bJ|with_reducible apply aW|with_reducible apply cQ|((with_reducible apply aP);case hr => rfl))
 all_goals (refine ⟨?_, rfl⟩; simp only [bX, AV.v.injEq, Value.bool.injEq, Value.int.injEq, true_and])
 all_goals (cases hth : s.th <;> cases hel : s.el <;> simp only [hth, hel, List.length_nil, List.length_cons, List.isEmpty_nil, List.isEmpty_cons, Bool.true_and, Bool.false_and] at *)
 all_goals (try unfold eV)
 all_goals (try simp only [nN, Bool.or_eq_true, Bool.or_eq_false_iff, decide_eq_true_eq, decide_eq_false_iff_not] at *)
 all_goals grind
theorem Bv (ts : List Int) (s : AL.Stmt) (hl : dD ts = true) : PC Tryz.prog 234 [sl cI ts, fQ s] (fun r => r = bv (eV ts s)) := by
 have hl2 := iX hl
 have hx := jU hl s.x
 have hy := jU hl s.y
 (refine aU Tryz.func234 rfl (by simp [Tryz.ntmps234]) ?_; rw [Tryz.ntmps234])
 repeat' (first|(apply aL;first|(apply aE;rfl;rfl)|(apply aN;rfl;rfl;rfl;rfl)|(apply aD;rfl;rfl;rfl)|(first|(apply mT;rfl;rfl;rfl)|(apply bB;rfl;rfl;rfl;(first|rfl|assumption))|(apply bD;rfl;rfl;rfl;(first|rfl|assumption))|(apply bS;(case hj|hb|hN => rfl);all_goals (intro hg;have hq := hg;(try simp only [cJ] at hq);(try (exfalso;omega)))))|(apply aT;rfl;rfl;rfl;rfl)|(apply aC;rfl;rfl)|(first|(apply bV;rfl;(first|rfl|assumption);rfl;rfl)|(apply bQ;rfl;(first|rfl|assumption);rfl;rfl))|((with_reducible apply aJ (k := 250));(case ha => rfl);(case h => (apply Gb <;> (fail)));(case hp => (exact Pur.pf));(case hN => rfl))|(apply aF;kernel_rfl)|(apply bK;rfl;rfl;rfl;rfl))|(apply aM;first|apply aH|apply aB|(apply cH;rfl;(rfl))|(apply aO;rfl;all_goals intro hc;have hq:=hc;(try simp only [cJ] at hq);try exfalso;omega)|apply aK|apply aS|apply aR)|with_reducible apply aA|with_reducible apply bJ|with_reducible apply aW|with_reducible apply cQ|((with_reducible apply aP);case hr => rfl))
 all_goals (refine ⟨?_, rfl⟩; simp only [bX, AV.v.injEq, Value.bool.injEq, Value.int.injEq, true_and])
 all_goals (try unfold eV)
 all_goals grind
theorem Eu (ts : List Int) (hl : dD ts = true) (m : Nat) (ih : ∀ l (d : Int), b9 l < m → 0 ≤ d → d ≤ 1000 → PC Tryz.prog 139 [sl cI ts, sl bO l, iv d] (fun r => r = bv (okL ts d.toNat l))) (s : AL.Stmt) (d : Int) (hs : dQ s ≤ m) (hd0 : 0 ≤ d) (hd : d ≤ 1000) :
  PC Tryz.prog 189 [sl cI ts, fQ s, iv d] (fun r => r = bv (tI ts d.toNat s)) := by
 rw [H7 ts d hd0]
 (refine aU Tryz.func189 rfl (by simp [Tryz.ntmps189]) ?_; rw [Tryz.ntmps189])
 repeat' (first|(apply aL;first|(apply aE;rfl;rfl)|(first|(apply aN;rfl;rfl;rfl;rfl)|(apply aV;rfl;rfl;(exact (rfl:_=[_, _, _, _, _, _]));rfl;rfl;rfl))|(apply aD;rfl;rfl;rfl)|(first|(apply mT;rfl;rfl;rfl)|(apply bB;rfl;rfl;rfl;(assumption))|(apply bD;rfl;rfl;rfl;(first|rfl|assumption))|(apply bS;(case hj|hb|hN => rfl);all_goals (intro hg;have hq := hg;(try simp only [cJ] at hq);(try (exfalso;omega)))))|(first|(apply gF;rfl;rfl;omega;rfl)|(apply aT;rfl;rfl;rfl;rfl))|(apply aC;rfl;rfl)|(first|(apply bV;rfl;(first|rfl|assumption);rfl;rfl)|(apply bQ;rfl;(first|rfl|assumption);rfl;rfl))|(first|((with_reducible apply aJ (k := 139));(case ha => rfl);(case h => (apply ih <;> (first|omega|(have := lU s;omega))));(case hp => (exact Pur.pf));(case hN => rfl))|((with_reducible apply aJ (k := 234));(case ha => rfl);(case h => (apply Bv <;> (assumption)));(case hp => (exact Pur.pf));(case hN => rfl)))|(apply bC;rfl;rfl;rfl)|(apply aF;kernel_rfl)|(apply bK;rfl;rfl;rfl;rfl))|(apply aM;first|apply aH|apply aB|(apply cA;rfl;(rfl))|(apply cH;rfl;(rfl))|(apply aO;rfl;all_goals intro hc;have hq:=hc;(try simp only [cJ] at hq);try exfalso;omega)|apply aS|apply aR)|with_reducible apply aA|with_reducible apply bJ|((with_reducible apply aP);case hr => rfl))
 all_goals (refine ⟨?_, rfl⟩; simp only [bX, AV.v.injEq, Value.bool.injEq, Value.int.injEq, true_and])
 all_goals (cases hth : s.th <;> cases hel : s.el <;> simp only [hth, hel, List.length_nil, List.length_cons, List.isEmpty_nil, List.isEmpty_cons, Bool.true_and, Bool.false_and] at *)
 all_goals grind
theorem DY (ts : List Int) (hl : dD ts = true) (m : Nat) (ih : ∀ s (d : Int), dQ s ≤ m → 0 ≤ d → d ≤ 1000 → PC Tryz.prog 189 [sl cI ts, fQ s, iv d] (fun r => r = bv (tI ts d.toNat s))) (l : List AL.Stmt) (d : Int) (hs : b9 l ≤ m) (hm : m ≤ 100000000) (hd0 : 0 ≤ d) (hd : d ≤ 1000) :
  PC Tryz.prog 139 [sl cI ts, sl bO l, iv d] (fun r => r = bv (okL ts d.toNat l)) := by
 have hlen := e7 l
 (refine aU Tryz.func139 rfl (by simp [Tryz.ntmps139]) ?_; rw [Tryz.ntmps139])
 repeat' (first|(apply aL;first|(apply aC;rfl;rfl)|(apply aF;kernel_rfl))|(apply aM;first|apply aH|apply aB|apply aK)|with_reducible apply aA)
 refine a6 (σ := Nat) [0, 1, 2] [(0, _), (1, _), (2, _)] [] [] (fun k => [(7, iv (k : Int))]) (fun k => []) (fun k => k ≤ l.length ∧ ∀ i, i < k → tI ts d.toNat l[i]! = true) (fun k => l.length - k) (0) ⟨by omega, by omega⟩ rfl rfl (by repeat' (first|exact trivial|refine And.intro rfl ?_)) (by repeat' (exact trivial)) ?_
 intro k ⟨hk, hall⟩
 have hck := gY l k
 repeat' (first|(apply aL;first|((with_reducible apply aJ (k := 189));(case ha => rfl);(case h => (apply ih _ d (Nat.le_trans (hck (by omega)) hs) hd0 hd));(case hp => (exact Pur.pf));(case hN => rfl))|(apply aE;rfl;rfl)|(apply aV;rfl;rfl;(exact (rfl:_=[_, _, _, _, _, _]));rfl;rfl;rfl)|(first|(apply bR;rfl;rfl;omega;rfl)|(apply aT;rfl;rfl;rfl;rfl))|(apply aC;rfl;rfl)|(apply aZ;(case hx|hi => rfl);(case hm => (omega));(case hml => (rfl));(case hα | hf|hg => infer_instance);(case hN => rfl))|(apply bC;rfl;rfl;rfl)|(apply aF;kernel_rfl)|(apply cG;rfl;rfl))|(apply aM;first|apply aH|apply aB|(apply aO;rfl;all_goals intro hc;have hq:=hc;(try simp only [cJ] at hq);try exfalso;omega)|apply aK|apply aS|apply bG|apply aR)|with_reducible apply aA|with_reducible apply bJ|with_reducible apply bH|with_reducible apply aW|with_reducible apply cQ|with_reducible apply bF|((with_reducible apply aP);case hr => rfl))
 ·(refine ⟨?_, rfl⟩; simp only [bX, AV.v.injEq, Value.bool.injEq, Value.int.injEq, true_and])
  rw [Gx (k := k) (by omega) hq]
 ·(apply dJ (k + 1); focus (refine Le.ren [] rfl (by decide) ?_ ?_ <;> repeat' (first | exact trivial | refine And.intro ⟨_, rfl, ?_⟩ ?_ | refine Or.inl ⟨?_, (by first | rfl | exact aY _ _)⟩ | rfl)))
  ·grind
  ·omega
 ·(refine ⟨?_, rfl⟩; simp only [bX, AV.v.injEq, Value.bool.injEq, Value.int.injEq, true_and])
  rw [Iu (fun i hi => hall i (by omega))]
theorem I7 (ts : List Int) (hl : dD ts = true) : ∀ (m : Nat), m ≤ 100000000 → (∀ s (d : Int), dQ s ≤ m → 0 ≤ d → d ≤ 1000 → PC Tryz.prog 189 [sl cI ts, fQ s, iv d] (fun r => r = bv (tI ts d.toNat s))) ∧
  (∀ l (d : Int), b9 l ≤ m → 0 ≤ d → d ≤ 1000 → PC Tryz.prog 139 [sl cI ts, sl bO l, iv d] (fun r => r = bv (okL ts d.toNat l))) := by
 intro m
 induction m using Nat.strongRecOn with
 | ind m ih =>
  intro hm
  have h1 : ∀ s (d : Int), dQ s ≤ m → 0 ≤ d → d ≤ 1000 → PC Tryz.prog 189 [sl cI ts, fQ s, iv d] (fun r => r = bv (tI ts d.toNat s)) :=
   fun s d h1 h2 h3 => Eu ts hl m (fun l d' g1 g2 g3 => (ih (b9 l) g1 (by omega)).2 l d' (Nat.le_refl _) g2 g3) s d h1 h2 h3
  exact ⟨h1, fun l d g1 g2 g3 => DY ts hl m h1 l d g1 hm g2 g3⟩
theorem BK (m0 : Nat) (ih : ∀ l (most : Int), b9 l < m0 → -1 ≤ most → most ≤ 1000 → PC Tryz.prog 140 [sl bO l, iv most] (fun r => r = iv (nH most 0 l))) (l : List AL.Stmt) (most : Int) (hs : b9 l ≤ m0) (hm : m0 ≤ 100000000) (hd0 : -1 ≤ most) (hd : most ≤ 1000) :
  PC Tryz.prog 140 [sl bO l, iv most] (fun r => r = iv (nH most 0 l)) := by
 have hlen := e7 l
 have hall := mK l most 0
 (refine aU Tryz.func140 rfl (by simp [Tryz.ntmps140]) ?_; rw [Tryz.ntmps140])
 repeat' (first|(apply aL;first|(apply aC;rfl;rfl)|(apply aF;kernel_rfl))|(apply aM;first|apply aH|apply aB|apply aK)|with_reducible apply aA)
 refine a6 (σ := Nat × Int) [0, 1] [(0, _), (1, _)] [] [] (fun k => [(6, iv (k.1 : Int)), (5, iv k.2)]) (fun k => []) (fun k => k.1 ≤ l.length ∧ nH most k.2 (l.drop k.1) = nH most 0 l ∧ 0 ≤ k.2 ∧ k.2 ≤ b9 l) (fun k => l.length - k.1) (0, 0) ⟨by omega, rfl, by omega, by omega⟩ rfl rfl (by repeat' (first|exact trivial|refine And.intro rfl ?_)) (by repeat' (exact trivial)) ?_
 rintro ⟨k, n⟩ ⟨hk, hn, hn0, hn1⟩
 dsimp only at hk hn hn0 hn1 ⊢
 have hck := gY l k
 have hct := lU l[k]!
 have b1 := mK l[k]!.th (most - n) 0
 have b2 := fun z => mK l[k]!.el z 0
 have b3 := Fk l[k]! most n
 have b4 := mK (l.drop (k + 1)) most (Fi most n l[k]!)
 have b5 := Gu most n l k
 rw [I6] at b3 b4 b5
 repeat' (first|(apply aL;first|((with_reducible apply aJ (k := 140));(case ha => rfl);(case h => (apply ih <;> omega));(case hp => (exact Pur.pf));(case hN => rfl))|(apply aE;rfl;rfl)|(apply aN;rfl;rfl;rfl;rfl)|(apply aD;rfl;rfl;rfl)|(first|(apply bB;rfl;rfl;rfl;(assumption))|(apply bD;rfl;rfl;rfl;(assumption))|(apply bS;(case hj|hb|hN => rfl);all_goals (intro hg;have hq := hg;(try simp only [cJ] at hq);(try (exfalso;omega)))))|(first|(apply bR;rfl;rfl;omega;rfl)|(apply gF;rfl;rfl;omega;rfl)|(apply aT;rfl;rfl;rfl;rfl))|(apply aC;rfl;rfl)|(first|(apply bV;rfl;(assumption);rfl;rfl)|(apply bQ;rfl;(assumption);rfl;rfl))|(apply aZ;(case hx|hi => rfl);(case hm => (omega));(case hml => (rfl));(case hα | hf|hg => infer_instance);(case hN => rfl))|(apply bC;rfl;rfl;rfl)|(apply aF;kernel_rfl))|(apply aM;first|apply aH|apply aB|(apply cH;rfl;(rfl))|(apply aO;rfl;all_goals intro hc;have hq:=hc;(try simp only [cJ] at hq);try exfalso;omega)|apply aK|apply aS|apply bG|apply aR)|with_reducible apply aA|with_reducible apply bH|with_reducible apply aW|with_reducible apply bF|((with_reducible apply aP);case hr => rfl))
 ·(apply Exists.intro (k + 1, n + 1 + nH (most - n) 0 l[k]!.th + nH (most - (n + 1 + nH (most - n) 0 l[k]!.th)) 0 l[k]!.el); refine And.intro ?_ (And.intro ?_ ?_); rotate_left 2; focus (refine Le.ren [] rfl (by decide) ?_ ?_ <;> repeat' (first | exact trivial | refine And.intro ⟨_, rfl, ?_⟩ ?_ | refine Or.inl ⟨?_, (by first | rfl | exact aY _ _)⟩ | rfl)))
  ·dsimp only;grind
  ·dsimp only;omega
 ·(apply dJ (k + 1, n + 1 + nH (most - n) 0 l[k]!.th); focus (refine Le.ren [] rfl (by decide) ?_ ?_ <;> repeat' (first | exact trivial | refine And.intro ⟨_, rfl, ?_⟩ ?_ | refine Or.inl ⟨?_, (by first | rfl | exact aY _ _)⟩ | rfl)))
  ·dsimp only;grind
  ·dsimp only;omega
 ·(refine ⟨?_, rfl⟩; simp only [bX, AV.v.injEq, Value.bool.injEq, Value.int.injEq, true_and])
  rw [← hn, Hh _ _ _ (by omega)]
 ·(refine ⟨?_, rfl⟩; simp only [bX, AV.v.injEq, Value.bool.injEq, Value.int.injEq, true_and])
  rw [← hn, Ig _ _ _ _ (by omega)]
theorem DN (l : List AL.Stmt) (most : Int) (hs : b9 l ≤ 100000000) (hd0 : -1 ≤ most) (hd : most ≤ 1000) :
  PC Tryz.prog 140 [sl bO l, iv most] (fun r => r = iv (nH most 0 l)) := by
 have h : ∀ (m : Nat), m ≤ 100000000 → ∀ l (most : Int), b9 l ≤ m → -1 ≤ most → most ≤ 1000 → PC Tryz.prog 140 [sl bO l, iv most] (fun r => r = iv (nH most 0 l)) := by
  intro m
  induction m using Nat.strongRecOn with
  | ind m ih =>
   intro hm l most h1 h2 h3
   exact BK m (fun l' most' g1 g2 g3 => ih _ g1 (by omega) l' most' (Nat.le_refl _) g2 g3) l most h1 hm h2 h3
 exact h _ hs l most (Nat.le_refl _) hd0 hd
theorem GM (ts : List Int) (l : List AL.Stmt) (d : Int) (hl : dD ts = true) (hs : b9 l ≤ 100000000) (hd0 : 0 ≤ d) (hd : d ≤ 1000) : PC Tryz.prog 139 [sl cI ts, sl bO l, iv d] (fun r => r = bv (okL ts d.toNat l)) :=
 (I7 ts hl _ hs).2 l d (Nat.le_refl _) hd0 hd
theorem w7 (ts : List Int) (hl : ts.length ≤ 1000000) : PC Tryz.prog 138 [sl cI ts] (fun r => r = bv (dD ts)) := by
 (refine aU Tryz.func138 rfl (by simp [Tryz.ntmps138]) ?_; rw [Tryz.ntmps138])
 repeat' (first|(apply aL;first|(apply aC;rfl;rfl)|(apply aF;kernel_rfl))|(apply aM;first|apply aH|apply aB|apply aK)|with_reducible apply aA)
 refine a6 (σ := Nat) [0] [(0, _)] [] [] (fun k => [(3, iv (k : Int))]) (fun k => []) (fun k => k ≤ ts.length ∧ ∀ i, i < k → 1 ≤ ts[i]! ∧ ts[i]! ≤ 4) (fun k => ts.length - k) (0) ⟨by omega, by omega⟩ rfl rfl (by repeat' (first|exact trivial|refine And.intro rfl ?_)) (by repeat' (exact trivial)) ?_
 intro k ⟨hk, hall⟩
 repeat' (first|(apply aL;first|(apply aE;rfl;rfl)|(apply aN;rfl;rfl;rfl;rfl)|(first|(apply bB;rfl;rfl;rfl;(assumption))|(apply bD;rfl;rfl;rfl;(assumption))|(apply bS;(case hj|hb|hN => rfl);all_goals (intro hg;have hq := hg;(try simp only [cJ] at hq);(try (exfalso;omega)))))|(first|(apply bR;rfl;rfl;omega;rfl)|(apply aT;rfl;rfl;rfl;rfl))|(apply aC;rfl;rfl)|(first|(apply bV;rfl;(assumption);rfl;rfl)|(apply bQ;rfl;(assumption);rfl;rfl))|(apply aZ;(case hx|hi => rfl);(case hm => (omega));(case hml => (rfl));(case hα | hf|hg => infer_instance);(case hN => rfl))|(apply bC;rfl;rfl;rfl)|(apply aF;kernel_rfl))|(apply aM;first|apply aH|apply aB|(apply cA;rfl;(rfl))|(apply aO;rfl;all_goals intro hc;have hq:=hc;(try simp only [cJ] at hq);try exfalso;omega)|apply aK|apply aS|apply bG|apply aR)|with_reducible apply aA|with_reducible apply bJ|with_reducible apply bH|with_reducible apply aW|with_reducible apply cQ|with_reducible apply bF|((with_reducible apply aP);case hr => rfl))
 ·(refine ⟨?_, rfl⟩; simp only [bX, AV.v.injEq, Value.bool.injEq, Value.int.injEq, true_and])
  unfold dD;grind [mV, kM]
 ·(apply dJ (k + 1); focus (refine Le.ren [] rfl (by decide) ?_ ?_ <;> repeat' (first | exact trivial | refine And.intro ⟨_, rfl, ?_⟩ ?_ | refine Or.inl ⟨?_, (by first | rfl | exact aY _ _)⟩ | rfl)))
  ·grind
  ·omega
 ·(refine ⟨?_, rfl⟩; simp only [bX, AV.v.injEq, Value.bool.injEq, Value.int.injEq, true_and])
  unfold dD;grind [mV, kM]
 ·(refine ⟨?_, rfl⟩; simp only [bX, AV.v.injEq, Value.bool.injEq, Value.int.injEq, true_and])
  unfold dD;grind [mV, kM]
theorem oP (p : Prg) (hl : p.types.length ≤ 1000000) (hs : b9 p.body ≤ 100000000) : PC Tryz.prog 87 [dT p] (fun r => r = bv (dF p)) := by
 unfold dF
 cases ht : dD p.types
 ·(refine aU Tryz.func87 rfl (by simp [Tryz.ntmps87]) ?_; rw [Tryz.ntmps87])
  repeat' (first|(apply aL;first|(apply aE;rfl;rfl)|(apply aN;rfl;rfl;rfl;rfl)|(apply aD;rfl;rfl;rfl)|(apply bD;rfl;rfl;rfl;(first|rfl|assumption))|(apply aC;rfl;rfl)|(apply bQ;rfl;(first|rfl|assumption);rfl;rfl)|((with_reducible apply aJ (k := 138));(case ha => rfl);(case h => (apply w7 <;> (assumption)));(case hp => (exact Pur.pf));(case hN => rfl))|(apply aF;kernel_rfl)|(apply bK;rfl;rfl;rfl;rfl))|(apply aM;first|apply aH|apply aB|apply aR)|with_reducible apply aA|((with_reducible apply aP);case hr => rfl))
  (refine ⟨?_, rfl⟩; simp only [bX, AV.v.injEq, Value.bool.injEq, Value.int.injEq, true_and])
  rfl
 ·(refine aU Tryz.func87 rfl (by simp [Tryz.ntmps87]) ?_; rw [Tryz.ntmps87])
  repeat' (first|(apply aL;first|(apply aE;rfl;rfl)|(apply aN;rfl;rfl;rfl;rfl)|(apply aD;rfl;rfl;rfl)|(first|(apply bB;rfl;rfl;rfl;(assumption))|(apply bD;rfl;rfl;rfl;(assumption))|(apply bS;(case hj|hb|hN => rfl);all_goals (intro hg;have hq := hg;(try simp only [cJ] at hq);(try (exfalso;omega)))))|(apply aT;rfl;rfl;rfl;rfl)|(apply aC;rfl;rfl)|(first|(apply bV;rfl;(assumption);rfl;rfl)|(apply bQ;rfl;(assumption);rfl;rfl))|(first|((with_reducible apply aJ (k := 138));(case ha => rfl);(case h => (apply w7 <;> (assumption)));(case hp => (exact Pur.pf));(case hN => rfl))|((with_reducible apply aJ (k := 139));(case ha => rfl);(case h => (apply GM <;> (first|assumption|omega)));(case hp => (exact Pur.pf));(case hN => rfl))|((with_reducible apply aJ (k := 140));(case ha => rfl);(case h => (apply DN <;> (first|assumption|omega)));(case hp => (exact Pur.pf));(case hN => rfl)))|(apply aF;kernel_rfl)|(apply bK;rfl;rfl;rfl;rfl))|(apply aM;first|apply aH|apply aB|apply aR)|with_reducible apply aA|((with_reducible apply aP);case hr => rfl))
  ·(refine ⟨?_, rfl⟩; simp only [bX, AV.v.injEq, Value.bool.injEq, Value.int.injEq, true_and])
   rw [show okL p.types 4 p.body = true from hq]; simp only [Bool.true_and, Km, decide_eq_decide]; omega
  ·(refine ⟨?_, rfl⟩; simp only [bX, AV.v.injEq, Value.bool.injEq, Value.int.injEq, true_and])
   rw [show okL p.types 4 p.body = false from hq]; rfl
end Go.Proofs.YtckihjkcgfphmaaGreat
namespace Go.Proofs.YtckihjkcgfphmaaGreat
open Go.AL Go.RowKit
theorem HY {ts : List Int} {s : AL.Stmt} {nest c : Int} {N : Nat} {Q : Exit → AS → Prop} {all : Array Oper} {rest : List Oper} {tsl : List (Nat × AV)} {hsl : List (Nat × Option (List AV))} {nidl : Nat} {z0 : Lo} {md : Md} {d : Nat} {ty : TypeId} {pos : String} {af : Array Edge} {tys : Array TypeId} {x0 x1 x2 x3 : Operand} {i0 : Nat} (ha0 : ev (lk tsl) x0 = some (sl cI ts)) (ha1 : ev (lk tsl) x1 = some (fQ s)) (ha2 : ev (lk tsl) x2 = some (iv nest)) (ha3 : ev (lk tsl) x3 = some (.optr i0 0)) (hH0 : cO hsl i0 = some ([iv c])) (hmc : MC Tryz.prog 99 [sl cI ts, fQ s, iv nest, .optr 0 0] [(0, some ([iv c]))] 1 (fun _ : Unit => True) (fun _ => bv (mR ts nest c s).1) (fun _ => [(0, some ([iv (mR ts nest c s).2]))])) (hM : Nat.ble (nidl + 0) eS = true) (hN : Nat.blt d N = true) {md' : Md} [hmd : MdA md (gL [x0, x1, x2, x3] ++ [.inr i0]) (List.map Sum.inr (List.map Prod.fst ([(i0, some ([iv (mR ts nest c s).2]))] : List (Nat × Option (List AV)))) ++ [.inl d]) md'] (kk : RW Tryz.prog N all Q md' rest ⟨(d, bv (mR ts nest c s).1) :: tsl, iH hsl [(i0, some ([iv (mR ts nest c s).2]))], nidl + 0, z0⟩) : RW Tryz.prog N all Q md (⟨some d, .call ⟨.value (.func 99), #[x0, x1, x2, x3], tys⟩, ty, pos, af, none⟩ :: rest) ⟨tsl, hsl, nidl, z0⟩ := by
 refine cE [i0] 1 [(i0, some ([iv (mR ts nest c s).2]))] hmc (avs := [sl cI ts, fQ s, iv nest, .optr i0 0]) ?_ rfl ?_ rfl ?_ (by simpa using hM) ?_ ?_ ?_ hN (md' := md') (hmd := hmd) kk
 ·show evL (lk tsl) [x0, x1, x2, x3] = _
  simp only [evL, ha0, ha1, ha2, ha3]
 ·exact ⟨⟨_, _, rfl, hH0, by (repeat' (exact RnL.purI inferInstance))⟩, trivial⟩
 ·(repeat' (first|exact RnL.purI inferInstance|exact RnV.purI inferInstance|exact RnV.optr rfl|refine RnL.cons ?_ ?_))
 ·(repeat' (exact RnV.purI inferInstance))
 ·simp [dL]
 ·(repeat' (first|exact trivial|(refine And.intro ⟨0, _, rfl, rfl, ?_⟩ ?_)|exact RnL.purI inferInstance))
theorem tO {ts : List Int} {l : List AL.Stmt} {nest c : Int} {N : Nat} {Q : Exit → AS → Prop} {all : Array Oper} {rest : List Oper} {tsl : List (Nat × AV)} {hsl : List (Nat × Option (List AV))} {nidl : Nat} {z0 : Lo} {md : Md} {d : Nat} {ty : TypeId} {pos : String} {af : Array Edge} {tys : Array TypeId} {x0 x1 x2 x3 : Operand} {i0 : Nat} (ha0 : ev (lk tsl) x0 = some (sl cI ts)) (ha1 : ev (lk tsl) x1 = some (sl bO l)) (ha2 : ev (lk tsl) x2 = some (iv nest)) (ha3 : ev (lk tsl) x3 = some (.optr i0 0)) (hH0 : cO hsl i0 = some ([iv c])) (hmc : MC Tryz.prog 59 [sl cI ts, sl bO l, iv nest, .optr 0 0] [(0, some ([iv c]))] 1 (fun _ : Unit => True) (fun _ => bv (kS ts nest c l).1) (fun _ => [(0, some ([iv (kS ts nest c l).2]))])) (hM : Nat.ble (nidl + 0) eS = true) (hN : Nat.blt d N = true) {md' : Md} [hmd : MdA md (gL [x0, x1, x2, x3] ++ [.inr i0]) (List.map Sum.inr (List.map Prod.fst ([(i0, some ([iv (kS ts nest c l).2]))] : List (Nat × Option (List AV)))) ++ [.inl d]) md'] (kk : RW Tryz.prog N all Q md' rest ⟨(d, bv (kS ts nest c l).1) :: tsl, iH hsl [(i0, some ([iv (kS ts nest c l).2]))], nidl + 0, z0⟩) : RW Tryz.prog N all Q md (⟨some d, .call ⟨.value (.func 59), #[x0, x1, x2, x3], tys⟩, ty, pos, af, none⟩ :: rest) ⟨tsl, hsl, nidl, z0⟩ := by
 refine cE [i0] 1 [(i0, some ([iv (kS ts nest c l).2]))] hmc (avs := [sl cI ts, sl bO l, iv nest, .optr i0 0]) ?_ rfl ?_ rfl ?_ (by simpa using hM) ?_ ?_ ?_ hN (md' := md') (hmd := hmd) kk
 ·show evL (lk tsl) [x0, x1, x2, x3] = _
  simp only [evL, ha0, ha1, ha2, ha3]
 ·exact ⟨⟨_, _, rfl, hH0, by (repeat' (exact RnL.purI inferInstance))⟩, trivial⟩
 ·(repeat' (first|exact RnL.purI inferInstance|exact RnV.purI inferInstance|exact RnV.optr rfl|refine RnL.cons ?_ ?_))
 ·(repeat' (exact RnV.purI inferInstance))
 ·simp [dL]
 ·(repeat' (first|exact trivial|(refine And.intro ⟨0, _, rfl, rfl, ?_⟩ ?_)|exact RnL.purI inferInstance))
theorem Iy (ts : List Int) (htO : dD ts = true) (m : Nat) (scanAll_ih : ∀ l nest c, b9 l < m → 0 ≤ nest → nest ≤ 4 → 0 ≤ c → c ≤ 30 → MC Tryz.prog 59 [sl cI ts, sl bO l, iv nest, .optr 0 0] [(0, some ([iv c]))] 1 (fun _ : Unit => True) (fun _ => bv (kS ts nest c l).1) (fun _ => [(0, some ([iv (kS ts nest c l).2]))])) (s : AL.Stmt) (nest c : Int) (hs : dQ s ≤ m) (hn0 : 0 ≤ nest) (hn : nest ≤ 4) (hc0 : 0 ≤ c) (hc : c ≤ 30) : MC Tryz.prog 99 [sl cI ts, fQ s, iv nest, .optr 0 0] [(0, some ([iv c]))] 1 (fun _ : Unit => True) (fun _ => bv (mR ts nest c s).1) (fun _ => [(0, some ([iv (mR ts nest c s).2]))]) := by
 have ct := lU s
 have hb1 := Kh ts s.th (nest + 1) (c + 1)
 (refine cC Tryz.func99 rfl (by simp [Tryz.ntmps99]) ?_; rw [Tryz.ntmps99])
 repeat' (first|(apply aL;first|(apply aE;rfl;rfl)|(first|(apply aN;rfl;rfl;rfl;rfl)|(apply aV;rfl;rfl;(exact (rfl:_=[_, _, _, _, _, _]));rfl;rfl;rfl))|(apply aD;rfl;rfl;rfl)|(first|(apply mT;rfl;rfl;rfl)|(apply bB;rfl;rfl;rfl;(assumption))|(apply bD;rfl;rfl;rfl;(first|rfl|assumption))|(apply bS;(case hj|hb|hN => rfl);all_goals (intro hg;have hq := hg;(try simp only [cJ] at hq);(try (exfalso;omega)))))|(first|(apply bR;rfl;rfl;omega;rfl)|(apply aT;rfl;rfl;rfl;rfl))|(apply aC;rfl;rfl)|(first|(apply bV;rfl;(first|rfl|assumption);rfl;rfl)|(apply bQ;rfl;(assumption);rfl;rfl))|(first|(apply tO;rfl;rfl;rfl;rfl;(rfl);(apply scanAll_ih <;> (first|assumption|omega|grind));rfl;rfl)|((with_reducible apply aJ (k := 162));(case ha => rfl);(case h => (apply BU <;> (fail)));(case hp => (rfl));(case hN => rfl))|((with_reducible apply aJ (k := 163));(case ha => rfl);(case h => (apply B8 <;> (assumption)));(case hp => (exact Pur.pf));(case hN => rfl)))|(apply bC;rfl;rfl;rfl)|(apply aF;kernel_rfl)|(apply cG;rfl;rfl)|(apply bY;rfl;rfl;rfl)|(apply bK;rfl;rfl;rfl;rfl)|(apply aX;rfl;rfl;rfl;rfl;rfl;(case hl => (simp;done));(exact (rfl:_=[_]))))|(apply aM;first|apply aH|apply aB|(apply cA;rfl;(rfl))|(apply cH;rfl;(rfl))|(apply aO;rfl;all_goals intro hc;have hq:=hc;(try simp only [cJ] at hq);try exfalso;omega)|apply aS|apply aR)|with_reducible apply aA|with_reducible apply bJ)
 all_goals (refine aP rfl ?_; refine bU () trivial ?_ ⟨.inr (Eq.trans (b := some _) rfl ?_), trivial⟩)
 all_goals (try simp only [bX, AV.v.injEq, Value.bool.injEq, Value.int.injEq, true_and, iN, List.take, List.drop, List.length, List.append, List.nil_append, List.append_nil, Option.some.injEq, List.cons.injEq, and_true])
 all_goals rw [JD]
 all_goals clear scanAll_ih
 all_goals (cases hel : s.el <;> simp only [hel, List.length_nil, List.length_cons] at * <;> grind)
theorem Br (ts : List Int) (m : Nat) (hm : m ≤ 100000000) (scan_ih : ∀ s nest c, dQ s ≤ m → 0 ≤ nest → nest ≤ 4 → 0 ≤ c → c ≤ 30 → MC Tryz.prog 99 [sl cI ts, fQ s, iv nest, .optr 0 0] [(0, some ([iv c]))] 1 (fun _ : Unit => True) (fun _ => bv (mR ts nest c s).1) (fun _ => [(0, some ([iv (mR ts nest c s).2]))])) (l : List AL.Stmt) (nest c : Int) (hs : b9 l ≤ m) (hn0 : 0 ≤ nest) (hn : nest ≤ 4) (hc0 : 0 ≤ c) (hc : c ≤ 30) : MC Tryz.prog 59 [sl cI ts, sl bO l, iv nest, .optr 0 0] [(0, some ([iv c]))] 1 (fun _ : Unit => True) (fun _ => bv (kS ts nest c l).1) (fun _ => [(0, some ([iv (kS ts nest c l).2]))]) := by
 have hlen := e7 l
 (refine cC Tryz.func59 rfl (by simp [Tryz.ntmps59]) ?_; rw [Tryz.ntmps59])
 repeat' (first|(apply aL;first|(apply aE;rfl;rfl)|(apply aC;rfl;rfl)|(apply bC;rfl;rfl;rfl)|(apply aF;kernel_rfl))|(apply aM;first|apply aH|apply aB|apply aK)|with_reducible apply aA)
 refine a6 (σ := Nat × Int) [0, 2, 3, 11, 12] [(0, _), (2, _), (3, _), (11, _), (12, _)] [] [] (fun k => [(13, iv (k.1 : Int))]) (fun k => [(0, some [iv k.2])]) (fun k => k.1 ≤ l.length ∧ kS ts nest k.2 (l.drop k.1) = kS ts nest c l ∧ 0 ≤ k.2 ∧ k.2 ≤ 30) (fun k => l.length - k.1) (0, c) ⟨by omega, rfl, by omega, by omega⟩ rfl rfl (by repeat' (first|exact trivial|refine And.intro rfl ?_)) (by repeat' (first|exact trivial|refine And.intro (.inr rfl) ?_)) ?_
 rintro ⟨k, c'⟩ ⟨hk, hn, hn0, hn1⟩
 dsimp only at hk hn hn0 hn1 ⊢
 have hck := gY l k
 have hb1 := J7 ts l[k]! nest c'
 have hst := @scL_stop ts nest c' l k
 repeat' (first|(apply aL;first|(apply aE;rfl;rfl)|(apply aV;rfl;rfl;(exact (rfl:_=[_, _, _, _, _, _]));rfl;rfl;rfl)|(first|(apply bR;rfl;rfl;omega;rfl)|(apply aT;rfl;rfl;rfl;rfl))|(apply aC;rfl;rfl)|(apply aZ;(case hx|hi => rfl);(case hm => (omega));(case hml => (rfl));(case hα | hf|hg => infer_instance);(case hN => rfl))|(apply HY;rfl;rfl;rfl;rfl;(rfl);(apply scan_ih <;> (first|assumption|omega));rfl;rfl)|(apply aF;kernel_rfl)|(apply cG;rfl;rfl)|(apply bI;rfl;rfl)|(apply aX;rfl;rfl;rfl;rfl;rfl;(case hl => (simp;done));(exact (rfl:_=[_, _, _, _, _, _]))))|(apply aM;first|apply aH|apply aB|(apply aO;rfl;all_goals intro hc;have hq:=hc;(try simp only [cJ] at hq);try exfalso;omega)|apply aK|apply aS|apply bG|apply aR)|with_reducible apply aA|with_reducible apply bJ|with_reducible apply bH|with_reducible apply aW|with_reducible apply cQ|with_reducible apply bF)
 ·(refine aP rfl ?_; refine bU () trivial ?_ ⟨.inr (Eq.trans (b := some _) rfl ?_), trivial⟩)
  all_goals (try simp only [bX, AV.v.injEq, Value.bool.injEq, Value.int.injEq, true_and, iN, List.take, List.drop, List.length, List.append, List.nil_append, List.append_nil, Option.some.injEq, List.cons.injEq, and_true])
  all_goals (rw [← hn, hst (by omega)]; grind)
 ·(apply dJ (k + 1, (mR ts nest c' l[k]!).2); focus (refine Le.ren [] rfl (by decide) ?_ ?_ <;> repeat' (first | exact trivial | refine And.intro ⟨_, rfl, ?_⟩ ?_ | refine And.intro ⟨_, _, rfl, rfl, ?_⟩ ?_ | exact Or.inr rfl | refine Or.inl ⟨?_, (by first | rfl | exact aY _ _)⟩ | rfl)))
  ·dsimp only;grind
  ·dsimp only;omega
 ·(refine aP rfl ?_; refine bU () trivial ?_ ⟨.inr (Eq.trans (b := some _) rfl ?_), trivial⟩)
  all_goals (try simp only [bX, AV.v.injEq, Value.bool.injEq, Value.int.injEq, true_and, iN, List.take, List.drop, List.length, List.append, List.nil_append, List.append_nil, Option.some.injEq, List.cons.injEq, and_true])
  all_goals (rw [← hn, List.drop_of_length_le (by omega), kS])
theorem EV (ts : List Int) (hl : dD ts = true) : ∀ (m : Nat), m ≤ 100000000 → (∀ s (nest c : Int), dQ s ≤ m → 0 ≤ nest → nest ≤ 4 → 0 ≤ c → c ≤ 30 → MC Tryz.prog 99 [sl cI ts, fQ s, iv nest, .optr 0 0] [(0, some ([iv c]))] 1 (fun _ : Unit => True) (fun _ => bv (mR ts nest c s).1) (fun _ => [(0, some ([iv (mR ts nest c s).2]))])) ∧
  (∀ l (nest c : Int), b9 l ≤ m → 0 ≤ nest → nest ≤ 4 → 0 ≤ c → c ≤ 30 → MC Tryz.prog 59 [sl cI ts, sl bO l, iv nest, .optr 0 0] [(0, some ([iv c]))] 1 (fun _ : Unit => True) (fun _ => bv (kS ts nest c l).1) (fun _ => [(0, some ([iv (kS ts nest c l).2]))])) := by
 intro m
 induction m using Nat.strongRecOn with
 | ind m ih =>
  intro hm
  have h1 : ∀ s (nest c : Int), dQ s ≤ m → 0 ≤ nest → nest ≤ 4 → 0 ≤ c → c ≤ 30 → MC Tryz.prog 99 [sl cI ts, fQ s, iv nest, .optr 0 0] [(0, some ([iv c]))] 1 (fun _ : Unit => True) (fun _ => bv (mR ts nest c s).1) (fun _ => [(0, some ([iv (mR ts nest c s).2]))]) :=
   fun s nest c h1 h2 h3 h4 h5 => Iy ts hl m (fun l nest c g1 g2 g3 g4 g5 => (ih (b9 l) g1 (by omega)).2 l nest c (Nat.le_refl _) g2 g3 g4 g5) s nest c h1 h2 h3 h4 h5
  exact ⟨h1, fun l nest c g1 g2 g3 g4 g5 => Br ts m hm h1 l nest c g1 g2 g3 g4 g5⟩
theorem Ez (ts : List Int) (l : List AL.Stmt) (nest c : Int) (hl : dD ts = true) (hs : b9 l ≤ 100000000) (hn0 : 0 ≤ nest) (hn : nest ≤ 4) (hc0 : 0 ≤ c) (hc : c ≤ 30) : MC Tryz.prog 59 [sl cI ts, sl bO l, iv nest, .optr 0 0] [(0, some ([iv c]))] 1 (fun _ : Unit => True) (fun _ => bv (kS ts nest c l).1) (fun _ => [(0, some ([iv (kS ts nest c l).2]))]) :=
 (EV ts hl _ hs).2 l nest c (Nat.le_refl _) hn0 hn hc0 hc
theorem BB (t : Int) : PC Tryz.prog 98 [iv t] (fun r => r = bv (!(decide (1 ≤ t) && decide (t ≤ 4)))) := by
 (refine aU Tryz.func98 rfl (by simp [Tryz.ntmps98]) ?_; rw [Tryz.ntmps98])
 repeat' (first|(apply aL;first|(apply aE;rfl;rfl)|(apply aC;rfl;rfl)|((with_reducible apply aJ (k := 84));(case ha => rfl);(case h => (apply eC <;> (fail)));(case hp => (rfl));(case hN => rfl))|(apply aF;kernel_rfl)|(apply cG;rfl;rfl))|(apply aM;first|apply aH|apply aB|apply aR)|with_reducible apply aA|((with_reducible apply aP);case hr => rfl))
 all_goals (refine ⟨?_, rfl⟩; simp only [bX, AV.v.injEq, Value.bool.injEq, Value.int.injEq, true_and])
def uB (ts : List Int) : Int := match ts.findIdx? (fun t => !(decide (1 ≤ t) && decide (t ≤ 4))) with | some i => i | none => -1
theorem GG (ts : List Int) (hl : ts.length ≤ 1000000) : PC Tryz.prog 161 [sl cI ts, .v (.func (.func 98) #[] #[])] (fun r => r = iv (uB ts)) := by
 (refine aU Tryz.func161 rfl (by simp [Tryz.ntmps161]) ?_; rw [Tryz.ntmps161])
 repeat' (first|(apply aL;first|(apply aE;rfl;rfl)|(apply aC;rfl;rfl)|(apply bC;rfl;rfl;rfl)|(apply aF;kernel_rfl))|(apply aM;first|apply aH|apply aB|apply aK)|with_reducible apply aA)
 refine a6 (σ := Nat) [0, 1, 7] [(0, _), (1, _), (7, _)] [] [] (fun k => [(8, iv (k : Int))]) (fun k => []) (fun k => k ≤ ts.length ∧ ∀ i, i < k → 1 ≤ ts[i]! ∧ ts[i]! ≤ 4) (fun k => ts.length - k) (0) ⟨by omega, by omega⟩ rfl rfl (by repeat' (first|exact trivial|refine And.intro rfl ?_)) (by repeat' (exact trivial)) ?_
 intro k ⟨hk, hall⟩
 repeat' (first|(apply aL;first|(apply aE;rfl;rfl)|(apply aN;rfl;rfl;rfl;rfl)|(first|(apply bR;rfl;rfl;omega;rfl)|(apply aT;rfl;rfl;rfl;rfl))|(apply aC;rfl;rfl)|(apply aZ;(case hx|hi => rfl);(case hm => (omega));(case hml => (rfl));(case hα | hf|hg => infer_instance);(case hN => rfl))|((with_reducible apply jW);(case hx|hcl => rfl);(case hc => infer_instance);(case ha => rfl);(case h => (apply BB <;> (fail)));(case hp => (rfl));(case hN => rfl))|(apply aF;kernel_rfl))|(apply aM;first|apply aH|apply aB|(apply aO;rfl;all_goals intro hc;have hq:=hc;(try simp only [cJ] at hq);try exfalso;omega)|apply aK|apply aS|apply bG|apply aR)|with_reducible apply aA|with_reducible apply bJ|with_reducible apply bH|with_reducible apply aW|with_reducible apply cQ|with_reducible apply bF|((with_reducible apply aP);case hr => rfl))
 ·(refine ⟨?_, rfl⟩; simp only [bX, AV.v.injEq, Value.bool.injEq, Value.int.injEq, true_and])
  have hlt : k < ts.length := by omega
  have : ts.findIdx? (fun t => !(decide (1 ≤ t) && decide (t ≤ 4))) = some k := by
   rw [List.findIdx?_eq_some_iff_getElem]
   refine ⟨hlt, ?_, fun j hj => ?_⟩
   ·rw [← cV ts k hlt]; grind
   ·have := hall j hj;rw [cV ts j (by omega)] at this;simp;omega
  simp only [uB, this]
 ·(apply dJ (k + 1); focus (refine Le.ren [] rfl (by decide) ?_ ?_ <;> repeat' (first | exact trivial | refine And.intro ⟨_, rfl, ?_⟩ ?_ | refine Or.inl ⟨?_, (by first | rfl | exact aY _ _)⟩ | rfl)))
  ·grind
  ·omega
 ·(refine ⟨?_, rfl⟩; simp only [bX, AV.v.injEq, Value.bool.injEq, Value.int.injEq, true_and])
  have : ts.findIdx? (fun t => !(decide (1 ≤ t) && decide (t ≤ 4))) = none := by
   rw [List.findIdx?_eq_none_iff]
   intro x hx
   obtain ⟨i, hi, rfl⟩ := List.getElem_of_mem hx
   have := hall i (by omega);rw [cV ts i hi] at this;simp;omega
  simp only [uB, this]
theorem El (ts : List Int) : decide (0 ≤ uB ts) = !(ts.all (fun t => decide (1 ≤ t) && decide (t ≤ 4))) := by
 unfold uB
 split
 ·rename_i i h
  obtain ⟨h1, h2, _⟩ := List.findIdx?_eq_some_iff_getElem.1 h
  have : ts.all (fun t => decide (1 ≤ t) && decide (t ≤ 4)) = false := by
   rw [List.all_eq_false]; exact ⟨ts[i], List.getElem_mem h1, by simp at h2 ⊢; omega⟩
  rw [this]; simp
 ·rename_i h
  rw [List.findIdx?_eq_none_iff] at h
  have : ts.all (fun t => decide (1 ≤ t) && decide (t ≤ 4)) = true := by
   rw [List.all_eq_true]; intro x hx;simpa using h x hx
  rw [this]; rfl
theorem EK (ts : List Int) (hl : ts.length ≤ 1000000) : PC Tryz.prog 97 [sl cI ts, .v (.func (.func 98) #[] #[])] (fun r => r = bv (!(ts.all (fun t => decide (1 ≤ t) && decide (t ≤ 4))))) := by
 (refine aU Tryz.func97 rfl (by simp [Tryz.ntmps97]) ?_; rw [Tryz.ntmps97])
 repeat' (first|(apply aL;first|(apply aE;rfl;rfl)|(apply aT;rfl;rfl;rfl;rfl)|(apply aC;rfl;rfl)|((with_reducible apply aJ (k := 161));(case ha => rfl);(case h => (apply GG <;> (assumption)));(case hp => (exact Pur.pf));(case hN => rfl))|(apply aF;kernel_rfl))|(apply aM;first|apply aH|apply aB|apply aR)|with_reducible apply aA|((with_reducible apply aP);case hr => rfl))
 (refine ⟨?_, rfl⟩; simp only [bX, AV.v.injEq, Value.bool.injEq, Value.int.injEq, true_and])
 exact El ts
theorem sD (ts : List Int) (hl : ts.length ≤ 1000000) : PC Tryz.prog 58 [sl cI ts] (fun r => r = bv (dD ts)) := by
 (refine aU Tryz.func58 rfl (by simp [Tryz.ntmps58]) ?_; rw [Tryz.ntmps58])
 repeat' (first|(apply aL;first|(apply aE;rfl;rfl)|(first|(apply bB;rfl;rfl;rfl;(assumption))|(apply bD;rfl;rfl;rfl;(assumption))|(apply bS;(case hj|hb|hN => rfl);all_goals (intro hg;have hq := hg;(try simp only [cJ] at hq);(try (exfalso;omega)))))|(apply aT;rfl;rfl;rfl;rfl)|(apply aC;rfl;rfl)|(first|(apply bV;rfl;(assumption);rfl;rfl)|(apply bQ;rfl;(assumption);rfl;rfl))|((with_reducible apply aJ (k := 97));(case ha => rfl);(case h => (apply EK <;> (assumption)));(case hp => (exact Pur.pf));(case hN => rfl))|(apply bC;rfl;rfl;rfl)|(apply aF;kernel_rfl)|(apply cG;rfl;rfl))|(apply aM;first|apply aH|apply aB|apply aR)|with_reducible apply aA|((with_reducible apply aP);case hr => rfl))
 all_goals (refine ⟨?_, rfl⟩; simp only [bX, AV.v.injEq, Value.bool.injEq, Value.int.injEq, true_and])
 all_goals (unfold dD;grind)
theorem mC (p : Prg) (hl : p.types.length ≤ 1000000) (hs : b9 p.body ≤ 100000000) : PC Tryz.prog 25 [dT p] (fun r => r = bv (dF p)) := by
 rw [← DZ]
 cases ht : dD p.types
 ·(refine aU Tryz.func25 rfl (by simp [Tryz.ntmps25]) ?_; rw [Tryz.ntmps25])
  repeat' (first|(apply aL;first|(apply aE;rfl;rfl)|(apply aN;rfl;rfl;rfl;rfl)|(apply aD;rfl;rfl;rfl)|(apply bD;rfl;rfl;rfl;(assumption))|(apply aC;rfl;rfl)|(apply bQ;rfl;(assumption);rfl;rfl)|((with_reducible apply aJ (k := 58));(case ha => rfl);(case h => (apply sD <;> (assumption)));(case hp => (exact Pur.pf));(case hN => rfl))|(apply aF;kernel_rfl)|(apply bK;rfl;rfl;rfl;rfl)|(apply bI;rfl;rfl)|(apply aX;rfl;rfl;rfl;rfl;rfl;(decide);(exact (rfl:_=[_]))))|(apply aM;first|apply aH|apply aB|apply aR)|with_reducible apply aA|((with_reducible apply aP);case hr => rfl))
  all_goals (refine ⟨?_, rfl⟩; simp only [bX, AV.v.injEq, Value.bool.injEq, Value.int.injEq, true_and])
  all_goals grind
 ·(refine aU Tryz.func25 rfl (by simp [Tryz.ntmps25]) ?_; rw [Tryz.ntmps25])
  repeat' (first|(apply aL;first|(apply aE;rfl;rfl)|(apply aN;rfl;rfl;rfl;rfl)|(apply aD;rfl;rfl;rfl)|(apply bB;rfl;rfl;rfl;(assumption))|(apply aC;rfl;rfl)|(apply bV;rfl;(assumption);rfl;rfl)|(first|((with_reducible apply aJ (k := 58));(case ha => rfl);(case h => (apply sD <;> (assumption)));(case hp => (exact Pur.pf));(case hN => rfl))|(apply tO;rfl;rfl;rfl;rfl;(rfl);(apply Ez <;> (first|assumption|omega));rfl;rfl))|(apply aF;kernel_rfl)|(apply bK;rfl;rfl;rfl;rfl)|(apply bI;rfl;rfl)|(apply aX;rfl;rfl;rfl;rfl;rfl;(decide);(exact (rfl:_=[_]))))|(apply aM;first|apply aH|apply aB|apply aR)|with_reducible apply aA|((with_reducible apply aP);case hr => rfl))
  all_goals (refine ⟨?_, rfl⟩; simp only [bX, AV.v.injEq, Value.bool.injEq, Value.int.injEq, true_and])
  all_goals grind
theorem qU {l : List AL.Stmt} {pts : List Pnt} {m : Nat} {N : Nat} {Q : Exit → AS → Prop} {all : Array Oper} {rest : List Oper} {tsl : List (Nat × AV)} {hsl : List (Nat × Option (List AV))} {nidl : Nat} {z0 : Lo} {md : Md} {d : Nat} {ty : TypeId} {pos : String} {af : Array Edge} {tys : Array TypeId} {x0 x1 : Operand} {i0 : Nat} (ha0 : ev (lk tsl) x0 = some (sl bO l)) (ha1 : ev (lk tsl) x1 = some (.own i0 0 m 5)) (hH0 : cO hsl i0 = some (aI dW pts)) (hmc : MC Tryz.prog 107 [sl bO l, .own 0 0 m 5] [(0, some (aI dW pts))] 1 (fun _ : Unit => True) (fun _ => .own 1 0 (m + eX l) 5) (fun _ => [(1, some (aI dW (pts ++ iI pts.length l)))])) (hM : Nat.ble (nidl + 1) eS = true) (hN : Nat.blt d N = true) {md' : Md} [hmd : MdA md (gL [x0, x1] ++ [.inr i0]) (List.map Sum.inr (List.map Prod.fst ([(nidl, some (aI dW (pts ++ iI pts.length l))), (i0, none)] : List (Nat × Option (List AV)))) ++ [.inl d]) md'] (kk : RW Tryz.prog N all Q md' rest ⟨(d, .own nidl 0 (m + eX l) 5) :: tsl, iH hsl [(nidl, some (aI dW (pts ++ iI pts.length l))), (i0, none)], nidl + 1, z0⟩) : RW Tryz.prog N all Q md (⟨some d, .call ⟨.value (.func 107), #[x0, x1], tys⟩, ty, pos, af, none⟩ :: rest) ⟨tsl, hsl, nidl, z0⟩ := by
 refine cE [i0] 2 [(nidl, some (aI dW (pts ++ iI pts.length l))), (i0, none)] hmc (avs := [sl bO l, .own i0 0 m 5]) ?_ rfl ?_ rfl ?_ (by simpa using hM) ?_ ?_ ?_ hN (md' := md') (hmd := hmd) kk
 ·show evL (lk tsl) [x0, x1] = _
  simp only [evL, ha0, ha1]
 ·exact ⟨⟨_, _, rfl, hH0, by (repeat' (exact RnL.purI inferInstance))⟩, trivial⟩
 ·(repeat' (first|exact RnL.purI inferInstance|exact RnV.purI inferInstance|exact RnV.own rfl|refine RnL.cons ?_ ?_))
 ·(repeat' (exact RnV.own rfl))
 ·simp [dL]
 ·(repeat' (first|exact trivial|(refine And.intro ⟨1, _, rfl, rfl, ?_⟩ ?_)|exact RnL.purI inferInstance))
theorem AN (mm : Nat) (hmm : mm ≤ 1000000) (pointsOf_ih : ∀ l pts m, b9 l < mm → m = pts.length → m + eX l ≤ 12000000 → MC Tryz.prog 107 [sl bO l, .own 0 0 m 5] [(0, some (aI dW pts))] 1 (fun _ : Unit => True) (fun _ => .own 1 0 (m + eX l) 5) (fun _ => [(1, some (aI dW (pts ++ iI pts.length l)))])) (l : List AL.Stmt) (pts : List Pnt) (m : Nat) (hs : b9 l ≤ mm) (hm : m = pts.length) (hb : m + eX l ≤ 12000000) : MC Tryz.prog 107 [sl bO l, .own 0 0 m 5] [(0, some (aI dW pts))] 1 (fun _ : Unit => True) (fun _ => .own 1 0 (m + eX l) 5) (fun _ => [(1, some (aI dW (pts ++ iI pts.length l)))]) := by
 have hlen := e7 l
 subst hm
 (refine cC Tryz.func107 rfl (by simp [Tryz.ntmps107]) ?_; rw [Tryz.ntmps107])
 repeat' (first|(apply aL;first|(apply aE;rfl;rfl)|(apply aC;rfl;rfl)|(apply bC;rfl;rfl;rfl)|(apply aF;kernel_rfl))|(apply aM;first|apply aH|apply aB|apply aK)|with_reducible apply aA)
 refine AW.le ?_ (Le.mv (d := 1) (i := 0) (cs := aI dW pts) rfl rfl (by decide))
 refine a6 (σ := Nat × List Pnt × Nat) [9, 10] [(9, _), (10, _)] [] [] (fun k => [(11, iv (k.1 : Int)), (1, .own 1 0 k.2.2 5)]) (fun k => [(1, some (aI dW k.2.1))]) (fun k => k.1 ≤ l.length ∧ k.2.1 = pts ++ iI pts.length (l.take k.1) ∧ k.2.2 = k.2.1.length ∧ k.2.2 = pts.length + eX (l.take k.1)) (fun k => l.length - k.1) (0, pts, pts.length) ⟨by omega, by simp [iI], rfl, by simp [eX]⟩ rfl rfl (by repeat' (first|exact trivial|refine And.intro rfl ?_)) (by repeat' (first|exact trivial|refine And.intro (.inr rfl) ?_)) ?_
 rintro ⟨k, xs, m1⟩ ⟨hk, hxs, hm1, hm2⟩
 dsimp only at hk hxs hm1 hm2 ⊢
 have hck := gY l k
 have hct := lU l[k]!
 have hnt := Bu l k
 have n9 := HB l[k]!
 have n10 := B0 l[k]!
 have n1 := GD l[k]!
 repeat' (first|(apply aL;first|(apply aE;rfl;rfl)|(first|(apply aN;rfl;rfl;rfl;rfl)|(apply aV;rfl;rfl;(exact (rfl:_=[_, _, _, _, _, _]));rfl;rfl;rfl))|(apply aD;rfl;rfl;rfl)|(first|(apply bR;rfl;rfl;omega;rfl)|(apply aT;rfl;rfl;rfl;rfl))|(apply aC;rfl;rfl)|(first|(apply aZ;(case hx|hi => rfl);(case hm => (omega));(case hml => (rfl));(case hα | hf|hg => infer_instance);(case hN => rfl))|(apply cM;rfl;rfl;(omega);rfl))|(apply qU;rfl;rfl;(rfl);(apply pointsOf_ih <;> (first|omega|(simp only [fY] <;> omega)));rfl;rfl)|(first|(apply bC;rfl;rfl;rfl)|(apply bW;rfl;rfl;rfl;rfl;rfl;(first|(rw [aQ]; omega)|(rw [aQ]; simp only [fY] <;> omega));(rfl);omega;omega;(first|exact uA (by (first|assumption|(simp only [fY] <;> omega)))|exact mM (by (first|assumption|(simp only [fY] <;> omega))));rfl;rfl))|(apply aF;kernel_rfl)|(apply b8;rfl;(exact (rfl:_=some [_, _, _, _, _]));(exact (rfl:_=[_, _, _, _, _]));rfl)|(apply bI;rfl;rfl)|((apply a7 (t := _));(case hze|hsm|hl => rfl);(case hfl => (first|exact (rfl:_=some [_])|exact (rfl:_=some [_, _])|exact (rfl:_=some [_, _, _, _, _])));(case hM|hN => rfl))|(apply aX;rfl;rfl;rfl;rfl;rfl;(case hl => (first|(rw [aQ]; simp only [fY] <;> omega)|(simp;done)));(first|exact sK (by (simp only [fY] <;> omega))|exact r9 (by (simp only [fY] <;> omega))|exact (rfl:_=[_, _, _, _, _, _]))))|(apply aM;first|apply aH|apply aB|(apply aO;rfl;all_goals intro hc;have hq:=hc;(try simp only [cJ] at hq);try exfalso;omega)|apply aK|apply aS|apply bG|apply aR)|with_reducible apply aA|with_reducible apply bH|with_reducible apply aW|with_reducible apply bF)
 ·(apply dJ (k + 1, _, _); focus (refine Le.ren [(1, 8)] rfl (by decide) ?_ ?_ <;> repeat' (first | exact trivial | refine And.intro ⟨_, rfl, ?_⟩ ?_ | refine And.intro ⟨_, _, rfl, rfl, ?_⟩ ?_ | exact Or.inr rfl | refine Or.inl ⟨?_, (by first | rfl | exact aY _ _)⟩ | rfl)))
  ·dsimp only
   rw [xZ hm1, xL hm1, xH (by rw [dG, hm1]), yQ (by rw [dG, hm1]), hU l _ k (by omega), gK l k (by omega), jP, if_pos hq, n9 hq]
   refine ⟨by omega, ?_, by simp [dG]; omega, by omega⟩
   have e1 : xs.length = pts.length + eX (l.take k) := by omega
   rw [← List.append_assoc pts, ← hxs, ← e1]
   simp only [List.append_assoc, List.length_append, List.length_cons, List.length_nil, dG, hm1, Nat.zero_add]
   clear pointsOf_ih hxs hck hnt n9 n10 n1
   grind
  ·dsimp only;omega
 ·(apply dJ (k + 1, _, _); focus (refine Le.ren [(1, 8)] rfl (by decide) ?_ ?_ <;> repeat' (first | exact trivial | refine And.intro ⟨_, rfl, ?_⟩ ?_ | refine And.intro ⟨_, _, rfl, rfl, ?_⟩ ?_ | exact Or.inr rfl | refine Or.inl ⟨?_, (by first | rfl | exact aY _ _)⟩ | rfl)))
  ·dsimp only
   rw [BI hm1, BG hm1, hU l _ k (by omega), gK l k (by omega), jP, if_neg (by omega), if_pos hq, n10 hq]
   refine ⟨by omega, ?_, by simp [dG]; omega, by omega⟩
   have e1 : xs.length = pts.length + eX (l.take k) := by omega
   rw [← List.append_assoc pts, ← hxs, ← e1]
   simp only [List.append_assoc, List.length_append, List.length_cons, List.length_nil, dG, hm1, Nat.zero_add]
   clear pointsOf_ih hxs hck hnt n9 n10 n1
   grind
  ·dsimp only;omega
 ·(apply dJ (k + 1, _, _); focus (refine Le.ren [(1, 5)] rfl (by decide) ?_ ?_ <;> repeat' (first | exact trivial | refine And.intro ⟨_, rfl, ?_⟩ ?_ | refine And.intro ⟨_, _, rfl, rfl, ?_⟩ ?_ | exact Or.inr rfl | refine Or.inl ⟨?_, (by first | rfl | exact aY _ _)⟩ | rfl)))
  ·dsimp only
   rw [hU l _ k (by omega), gK l k (by omega), jP, if_neg ‹¬l[k]!.op = 9›, if_neg hq, n1 ‹¬l[k]!.op = 9› hq]
   refine ⟨by omega, ?_, by simp [dG]; omega, by omega⟩
   have e1 : xs.length = pts.length + eX (l.take k) := by omega
   rw [← List.append_assoc pts, ← hxs, ← e1, hm1]
  ·dsimp only;omega
 ·refine aP rfl ?_
  have e2 : l.take k = l := List.take_of_length_le (by omega)
  rw [e2] at hxs hm2
  refine bU () trivial ?_ ⟨.inr (Eq.trans (b := some _) rfl ?_), trivial⟩
  ·simp only [bX]; rw [hm2]
  ·rw [hxs]
theorem BZ (l : List AL.Stmt) (pts : List Pnt) (m : Nat) (hs : b9 l ≤ 1000000) (hm : m = pts.length) (hb : m + eX l ≤ 12000000) : MC Tryz.prog 107 [sl bO l, .own 0 0 m 5] [(0, some (aI dW pts))] 1 (fun _ : Unit => True) (fun _ => .own 1 0 (m + eX l) 5) (fun _ => [(1, some (aI dW (pts ++ iI pts.length l)))]) := by
 have h : ∀ (mm : Nat), mm ≤ 1000000 → ∀ l pts m, b9 l ≤ mm → m = pts.length → m + eX l ≤ 12000000 → MC Tryz.prog 107 [sl bO l, .own 0 0 m 5] [(0, some (aI dW pts))] 1 (fun _ : Unit => True) (fun _ => .own 1 0 (m + eX l) 5) (fun _ => [(1, some (aI dW (pts ++ iI pts.length l)))]) := by
  intro mm
  induction mm using Nat.strongRecOn with
  | ind mm ih =>
   intro h0 l pts m h1 h2 h3
   exact AN mm h0 (fun l' pts' m' g1 g2 g3 => ih _ g1 (by omega) l' pts' m' (Nat.le_refl _) g2 g3) l pts m h1 h2 h3
 exact h _ hs l pts m (Nat.le_refl _) hm hb
theorem yO {l : List AL.Stmt} {N : Nat} {Q : Exit → AS → Prop} {all : Array Oper} {rest : List Oper} {tsl : List (Nat × AV)} {hsl : List (Nat × Option (List AV))} {nidl : Nat} {z0 : Lo} {md : Md} {d : Nat} {ty : TypeId} {pos : String} {af : Array Edge} {tys : Array TypeId} {x0 x1 : Operand} (ha0 : ev (lk tsl) x0 = some (sl bO l)) (ha1 : ev (lk tsl) x1 = some (.v (.slice none 0 0))) (hmc : MC Tryz.prog 107 [sl bO l, .v (.slice none 0 0)] [] 0 (fun _ : Unit => True) (fun _ => .own 0 0 (eX l) 5) (fun _ => [(0, some (aI dW (iI 0 l)))])) (hM : Nat.ble (nidl + 1) eS = true) (hN : Nat.blt d N = true) {md' : Md} [hmd : MdA md (gL [x0, x1] ++ []) (List.map Sum.inr (List.map Prod.fst ([(nidl, some (aI dW (iI 0 l)))] : List (Nat × Option (List AV)))) ++ [.inl d]) md'] (kk : RW Tryz.prog N all Q md' rest ⟨(d, .own nidl 0 (eX l) 5) :: tsl, iH hsl [(nidl, some (aI dW (iI 0 l)))], nidl + 1, z0⟩) : RW Tryz.prog N all Q md (⟨some d, .call ⟨.value (.func 107), #[x0, x1], tys⟩, ty, pos, af, none⟩ :: rest) ⟨tsl, hsl, nidl, z0⟩ := by
 refine cE [] 1 [(nidl, some (aI dW (iI 0 l)))] hmc (avs := [sl bO l, .v (.slice none 0 0)]) ?_ rfl ?_ rfl ?_ (by simpa using hM) ?_ ?_ ?_ hN (md' := md') (hmd := hmd) kk
 ·show evL (lk tsl) [x0, x1] = _
  simp only [evL, ha0, ha1]
 ·exact trivial
 ·(repeat' (exact RnL.purI inferInstance))
 ·(repeat' (exact RnV.own rfl))
 ·simp [dL]
 ·(repeat' (first|exact trivial|(refine And.intro ⟨0, _, rfl, rfl, ?_⟩ ?_)|exact RnL.purI inferInstance))
theorem zP (l : List AL.Stmt) (hs : b9 l ≤ 1000000) : MC Tryz.prog 107 [sl bO l, .v (.slice none 0 0)] [] 0 (fun _ : Unit => True) (fun _ => .own 0 0 (eX l) 5) (fun _ => [(0, some (aI dW (iI 0 l)))]) := by
 have hlen := e7 l
 have hn2 := lN l
 (refine cC Tryz.func107 rfl (by simp [Tryz.ntmps107]) ?_; rw [Tryz.ntmps107])
 repeat' (first|(apply aL;first|(apply aE;rfl;rfl)|(apply aC;rfl;rfl)|(apply bC;rfl;rfl;rfl)|(apply aF;kernel_rfl))|(apply aM;first|apply aH|apply aB|apply aK)|with_reducible apply aA)
 refine AW.le ?_ (Le.nilOwn (d := 1) 5 rfl (by decide))
 refine a6 (σ := Nat × List Pnt × Nat) [9, 10] [(9, _), (10, _)] [] [] (fun k => [(11, iv (k.1 : Int)), (1, .own 0 0 k.2.2 5)]) (fun k => [(0, some (aI dW k.2.1))]) (fun k => k.1 ≤ l.length ∧ k.2.1 = iI 0 (l.take k.1) ∧ k.2.2 = k.2.1.length ∧ k.2.2 = eX (l.take k.1)) (fun k => l.length - k.1) (0, [], 0) ⟨by omega, by simp [iI], rfl, by simp [eX]⟩ rfl rfl (by repeat' (first|exact trivial|refine And.intro rfl ?_)) (by repeat' (first|exact trivial|refine And.intro (.inr rfl) ?_)) ?_
 rintro ⟨k, xs, m1⟩ ⟨hk, hxs, hm1, hm2⟩
 dsimp only at hk hxs hm1 hm2 ⊢
 have hck := gY l k
 have hct := lU l[k]!
 have hnt := Bu l k
 have n9 := HB l[k]!
 have n10 := B0 l[k]!
 have n1 := GD l[k]!
 repeat' (first|(apply aL;first|(apply aE;rfl;rfl)|(first|(apply aN;rfl;rfl;rfl;rfl)|(apply aV;rfl;rfl;(exact (rfl:_=[_, _, _, _, _, _]));rfl;rfl;rfl))|(apply aD;rfl;rfl;rfl)|(first|(apply bR;rfl;rfl;omega;rfl)|(apply aT;rfl;rfl;rfl;rfl))|(apply aC;rfl;rfl)|(first|(apply aZ;(case hx|hi => rfl);(case hm => (omega));(case hml => (rfl));(case hα | hf|hg => infer_instance);(case hN => rfl))|(apply cM;rfl;rfl;(omega);rfl))|(apply qU;rfl;rfl;(rfl);(apply BZ <;> (first|omega|(simp only [fY] <;> omega)));rfl;rfl)|(first|(apply bC;rfl;rfl;rfl)|(apply bW;rfl;rfl;rfl;rfl;rfl;(first|(rw [aQ]; omega)|(rw [aQ]; simp only [fY] <;> omega));(rfl);omega;omega;(first|exact uA (by (first|assumption|(simp only [fY] <;> omega)))|exact mM (by (first|assumption|(simp only [fY] <;> omega))));rfl;rfl))|(apply aF;kernel_rfl)|(apply b8;rfl;(exact (rfl:_=some [_, _, _, _, _]));(exact (rfl:_=[_, _, _, _, _]));rfl)|(apply bI;rfl;rfl)|((apply a7 (t := _));(case hze|hsm|hl => rfl);(case hfl => (first|exact (rfl:_=some [_])|exact (rfl:_=some [_, _])|exact (rfl:_=some [_, _, _, _, _])));(case hM|hN => rfl))|(apply aX;rfl;rfl;rfl;rfl;rfl;(case hl => (first|(rw [aQ]; simp only [fY] <;> omega)|(simp;done)));(first|exact sK (by (simp only [fY] <;> omega))|exact r9 (by (simp only [fY] <;> omega))|exact (rfl:_=[_, _, _, _, _, _]))))|(apply aM;first|apply aH|apply aB|(apply aO;rfl;all_goals intro hc;have hq:=hc;(try simp only [cJ] at hq);try exfalso;omega)|apply aK|apply aS|apply bG|apply aR)|with_reducible apply aA|with_reducible apply bH|with_reducible apply aW|with_reducible apply bF)
 ·(apply dJ (k + 1, _, _); focus (refine Le.ren [(0, 7)] rfl (by decide) ?_ ?_ <;> repeat' (first | exact trivial | refine And.intro ⟨_, rfl, ?_⟩ ?_ | refine And.intro ⟨_, _, rfl, rfl, ?_⟩ ?_ | exact Or.inr rfl | refine Or.inl ⟨?_, (by first | rfl | exact aY _ _)⟩ | rfl)))
  ·dsimp only
   rw [xZ hm1, xL hm1, xH (by rw [dG, hm1]), yQ (by rw [dG, hm1]), hU l _ k (by omega), gK l k (by omega), jP, if_pos hq, n9 hq]
   refine ⟨by omega, ?_, by simp [dG]; omega, by omega⟩
   have e1 : eX (l.take k) = xs.length := by omega
   rw [Nat.zero_add, e1]
   rw [← hxs]
   simp only [List.append_assoc, List.length_append, List.length_cons, List.length_nil, dG, hm1, Nat.zero_add]
   clear hxs hck hnt n9 n10 n1
   grind
  ·dsimp only;omega
 ·(apply dJ (k + 1, _, _); focus (refine Le.ren [(0, 7)] rfl (by decide) ?_ ?_ <;> repeat' (first | exact trivial | refine And.intro ⟨_, rfl, ?_⟩ ?_ | refine And.intro ⟨_, _, rfl, rfl, ?_⟩ ?_ | exact Or.inr rfl | refine Or.inl ⟨?_, (by first | rfl | exact aY _ _)⟩ | rfl)))
  ·dsimp only
   rw [BI hm1, BG hm1, hU l _ k (by omega), gK l k (by omega), jP, if_neg (by omega), if_pos hq, n10 hq]
   refine ⟨by omega, ?_, by simp [dG]; omega, by omega⟩
   have e1 : eX (l.take k) = xs.length := by omega
   rw [Nat.zero_add, e1]
   rw [← hxs]
   simp only [List.append_assoc, List.length_append, List.length_cons, List.length_nil, dG, hm1, Nat.zero_add]
   clear hxs hck hnt n9 n10 n1
   grind
  ·dsimp only;omega
 ·(apply dJ (k + 1, _, _); focus (refine Le.ren [(0, 4)] rfl (by decide) ?_ ?_ <;> repeat' (first | exact trivial | refine And.intro ⟨_, rfl, ?_⟩ ?_ | refine And.intro ⟨_, _, rfl, rfl, ?_⟩ ?_ | exact Or.inr rfl | refine Or.inl ⟨?_, (by first | rfl | exact aY _ _)⟩ | rfl)))
  ·dsimp only
   rw [hU l _ k (by omega), gK l k (by omega), jP, if_neg ‹¬l[k]!.op = 9›, if_neg hq, n1 ‹¬l[k]!.op = 9› hq]
   refine ⟨by omega, ?_, by simp [dG]; omega, by omega⟩
   have e1 : eX (l.take k) = xs.length := by omega
   rw [Nat.zero_add, e1]
   rw [← hxs, hm1]
  ·dsimp only;omega
 ·refine aP rfl ?_
  have e2 : l.take k = l := List.take_of_length_le (by omega)
  rw [e2] at hxs hm2
  refine bU () trivial ?_ ⟨.inr (Eq.trans (b := some _) rfl ?_), trivial⟩
  ·simp only [bX]; rw [hm2]
  ·rw [hxs]
theorem Ai (p : Prg) (hs : b9 p.body ≤ 1000000) : PC Tryz.prog 96 [dT p] (fun r => r = sl dW (cT p)) := by
 have hn := lN p.body
 (refine aU Tryz.func96 rfl (by simp [Tryz.ntmps96]) ?_; rw [Tryz.ntmps96])
 repeat' (first|(apply aL;first|(apply aN;rfl;rfl;rfl;rfl)|(apply aD;rfl;rfl;rfl)|(apply aC;rfl;rfl)|(apply yO;rfl;rfl;(apply zP <;> (assumption));rfl;rfl)|(apply bW;rfl;rfl;rfl;rfl;rfl;(rw [aQ]; simp only [fY] <;> omega);(rfl);omega;omega;(exact mM (by (simp only [fY] <;> omega)));rfl;rfl)|(apply aF;kernel_rfl)|(apply b8;rfl;(exact (rfl:_=some [_, _, _, _, _]));(exact (rfl:_=[_, _, _, _, _]));rfl)|(apply bK;rfl;rfl;rfl;rfl)|((apply a7 (t := _));(case hze|hsm|hl => rfl);(case hfl => (exact (rfl:_=some [_, _, _, _, _])));(case hM|hN => rfl)))|(apply aM;first|apply aH|apply aB|apply aR)|with_reducible apply aA)
 (refine cD (Le.frzD (d := 2) (i := 3) rfl rfl) ?_; refine aP rfl ?_)
 refine ⟨?_, ?_⟩
 ·simp only [bX, sl, cT, List.length_append, List.length_cons, List.length_nil, dG, Nat.zero_add]
 ·(exact aY _ _)
theorem AX {l : List AL.Stmt} {pts : List Pnt} {m : Nat} {N : Nat} {Q : Exit → AS → Prop} {all : Array Oper} {rest : List Oper} {tsl : List (Nat × AV)} {hsl : List (Nat × Option (List AV))} {nidl : Nat} {z0 : Lo} {md : Md} {d : Nat} {ty : TypeId} {pos : String} {af : Array Edge} {tys : Array TypeId} {x0 x1 : Operand} {i0 : Nat} (ha0 : ev (lk tsl) x0 = some (.own i0 0 m 5)) (ha1 : ev (lk tsl) x1 = some (sl bO l)) (hH0 : cO hsl i0 = some (aI dW pts)) (hmc : MC Tryz.prog 100 [.own 0 0 m 5, sl bO l] [(0, some (aI dW pts))] 1 (fun _ : Unit => True) (fun _ => .own 1 0 (m + eX l) 5) (fun _ => [(1, some (aI dW (pts ++ iI pts.length l)))])) (hM : Nat.ble (nidl + 1) eS = true) (hN : Nat.blt d N = true) {md' : Md} [hmd : MdA md (gL [x0, x1] ++ [.inr i0]) (List.map Sum.inr (List.map Prod.fst ([(nidl, some (aI dW (pts ++ iI pts.length l))), (i0, none)] : List (Nat × Option (List AV)))) ++ [.inl d]) md'] (kk : RW Tryz.prog N all Q md' rest ⟨(d, .own nidl 0 (m + eX l) 5) :: tsl, iH hsl [(nidl, some (aI dW (pts ++ iI pts.length l))), (i0, none)], nidl + 1, z0⟩) : RW Tryz.prog N all Q md (⟨some d, .call ⟨.value (.func 100), #[x0, x1], tys⟩, ty, pos, af, none⟩ :: rest) ⟨tsl, hsl, nidl, z0⟩ := by
 refine cE [i0] 2 [(nidl, some (aI dW (pts ++ iI pts.length l))), (i0, none)] hmc (avs := [.own i0 0 m 5, sl bO l]) ?_ rfl ?_ rfl ?_ (by simpa using hM) ?_ ?_ ?_ hN (md' := md') (hmd := hmd) kk
 ·show evL (lk tsl) [x0, x1] = _
  simp only [evL, ha0, ha1]
 ·exact ⟨⟨_, _, rfl, hH0, by (repeat' (exact RnL.purI inferInstance))⟩, trivial⟩
 ·(repeat' (first|exact RnL.purI inferInstance|exact RnV.own rfl|refine RnL.cons ?_ ?_))
 ·(repeat' (exact RnV.own rfl))
 ·simp [dL]
 ·(repeat' (first|exact trivial|(refine And.intro ⟨1, _, rfl, rfl, ?_⟩ ?_)|exact RnL.purI inferInstance))
theorem Fe (mm : Nat) (hmm : mm ≤ 1000000) (l2Add_ih : ∀ l pts m, b9 l < mm → m = pts.length → m + eX l ≤ 12000000 → MC Tryz.prog 100 [.own 0 0 m 5, sl bO l] [(0, some (aI dW pts))] 1 (fun _ : Unit => True) (fun _ => .own 1 0 (m + eX l) 5) (fun _ => [(1, some (aI dW (pts ++ iI pts.length l)))])) (l : List AL.Stmt) (pts : List Pnt) (m : Nat) (hs : b9 l ≤ mm) (hm : m = pts.length) (hb : m + eX l ≤ 12000000) : MC Tryz.prog 100 [.own 0 0 m 5, sl bO l] [(0, some (aI dW pts))] 1 (fun _ : Unit => True) (fun _ => .own 1 0 (m + eX l) 5) (fun _ => [(1, some (aI dW (pts ++ iI pts.length l)))]) := by
 have hlen := e7 l
 subst hm
 (refine cC Tryz.func100 rfl (by simp [Tryz.ntmps100]) ?_; rw [Tryz.ntmps100])
 repeat' (first|(apply aL;first|(apply aC;rfl;rfl)|(apply aF;kernel_rfl))|(apply aM;first|apply aH|apply aB|apply aK)|with_reducible apply aA)
 refine AW.le ?_ (Le.mv (d := 0) (i := 0) (cs := aI dW pts) rfl rfl (by decide))
 refine a6 (σ := Nat × List Pnt × Nat) [1] [(1, _)] [] [] (fun k => [(5, iv (k.1 : Int)), (0, .own 1 0 k.2.2 5)]) (fun k => [(1, some (aI dW k.2.1))]) (fun k => k.1 ≤ l.length ∧ k.2.1 = pts ++ iI pts.length (l.take k.1) ∧ k.2.2 = k.2.1.length ∧ k.2.2 = pts.length + eX (l.take k.1)) (fun k => l.length - k.1) (0, pts, pts.length) ⟨by omega, by simp [iI], rfl, by simp [eX]⟩ rfl rfl (by repeat' (first|exact trivial|refine And.intro rfl ?_)) (by repeat' (first|exact trivial|refine And.intro (.inr rfl) ?_)) ?_
 rintro ⟨k, xs, m1⟩ ⟨hk, hxs, hm1, hm2⟩
 dsimp only at hk hxs hm1 hm2 ⊢
 have hck := gY l k
 have hct := lU l[k]!
 have hnt := Bu l k
 have n9 := HB l[k]!
 have n10 := B0 l[k]!
 have n1 := GD l[k]!
 repeat' (first|(apply aL;first|(apply aE;rfl;rfl)|(first|(apply aN;rfl;rfl;rfl;rfl)|(apply aV;rfl;rfl;(exact (rfl:_=[_, _, _, _, _, _]));rfl;rfl;rfl))|(apply aD;rfl;rfl;rfl)|(first|(apply bR;rfl;rfl;omega;rfl)|(apply aT;rfl;rfl;rfl;rfl))|(apply aC;rfl;rfl)|(first|(apply aZ;(case hx|hi => rfl);(case hm => (omega));(case hml => (rfl));(case hα | hf|hg => infer_instance);(case hN => rfl))|(apply cM;rfl;rfl;(omega);rfl))|(apply AX;rfl;rfl;(rfl);(apply l2Add_ih <;> (first|omega|(simp only [fY] <;> omega)));rfl;rfl)|(first|(apply bC;rfl;rfl;rfl)|(apply bW;rfl;rfl;rfl;rfl;rfl;(first|(rw [aQ]; omega)|(rw [aQ]; simp only [fY] <;> omega));(rfl);omega;omega;(first|exact uA (by (first|assumption|(simp only [fY] <;> omega)))|exact mM (by (first|assumption|(simp only [fY] <;> omega))));rfl;rfl))|(apply aF;kernel_rfl)|(apply b8;rfl;(exact (rfl:_=some [_, _, _, _, _]));(exact (rfl:_=[_, _, _, _, _]));rfl)|(apply bI;rfl;rfl)|((apply a7 (t := _));(case hze|hsm|hl => rfl);(case hfl => (first|exact (rfl:_=some [_])|exact (rfl:_=some [_, _])|exact (rfl:_=some [_, _, _, _, _])));(case hM|hN => rfl))|(apply aX;rfl;rfl;rfl;rfl;rfl;(case hl => (first|(rw [aQ]; simp only [fY] <;> omega)|(simp;done)));(first|exact sK (by (simp only [fY] <;> omega))|exact r9 (by (simp only [fY] <;> omega))|exact (rfl:_=[_, _, _, _, _, _]))))|(apply aM;first|apply aH|apply aB|(apply aO;rfl;all_goals intro hc;have hq:=hc;(try simp only [cJ] at hq);try exfalso;omega)|apply aK|apply aS|apply bG|apply aR)|with_reducible apply aA|with_reducible apply bH|with_reducible apply aW|with_reducible apply bF)
 ·(apply dJ (k + 1, _, _); focus (refine Le.ren [(1, 8)] rfl (by decide) ?_ ?_ <;> repeat' (first | exact trivial | refine And.intro ⟨_, rfl, ?_⟩ ?_ | refine And.intro ⟨_, _, rfl, rfl, ?_⟩ ?_ | exact Or.inr rfl | refine Or.inl ⟨?_, (by first | rfl | exact aY _ _)⟩ | rfl)))
  ·dsimp only
   rw [xH (by rw [dG, hm1]), yQ (by rw [dG, hm1]), xZ hm1, xL hm1, hU l _ k (by omega), gK l k (by omega), jP, if_pos hq, n9 hq]
   refine ⟨by omega, ?_, by simp [dG]; omega, by omega⟩
   have e1 : xs.length = pts.length + eX (l.take k) := by omega
   rw [← List.append_assoc pts, ← hxs, ← e1]
   simp only [List.append_assoc, List.length_append, List.length_cons, List.length_nil, dG, hm1, Nat.zero_add]
   clear l2Add_ih hxs hck hnt n9 n10 n1
   grind
  ·dsimp only;omega
 ·(apply dJ (k + 1, _, _); focus (refine Le.ren [(1, 8)] rfl (by decide) ?_ ?_ <;> repeat' (first | exact trivial | refine And.intro ⟨_, rfl, ?_⟩ ?_ | refine And.intro ⟨_, _, rfl, rfl, ?_⟩ ?_ | exact Or.inr rfl | refine Or.inl ⟨?_, (by first | rfl | exact aY _ _)⟩ | rfl)))
  ·dsimp only
   rw [BI hm1, BG hm1, hU l _ k (by omega), gK l k (by omega), jP, if_neg (by omega), if_pos hq, n10 hq]
   refine ⟨by omega, ?_, by simp [dG]; omega, by omega⟩
   have e1 : xs.length = pts.length + eX (l.take k) := by omega
   rw [← List.append_assoc pts, ← hxs, ← e1]
   simp only [List.append_assoc, List.length_append, List.length_cons, List.length_nil, dG, hm1, Nat.zero_add]
   clear l2Add_ih hxs hck hnt n9 n10 n1
   grind
  ·dsimp only;omega
 ·(apply dJ (k + 1, _, _); focus (refine Le.ren [(1, 5)] rfl (by decide) ?_ ?_ <;> repeat' (first | exact trivial | refine And.intro ⟨_, rfl, ?_⟩ ?_ | refine And.intro ⟨_, _, rfl, rfl, ?_⟩ ?_ | exact Or.inr rfl | refine Or.inl ⟨?_, (by first | rfl | exact aY _ _)⟩ | rfl)))
  ·dsimp only
   rw [hU l _ k (by omega), gK l k (by omega), jP, if_neg ‹¬l[k]!.op = 9›, if_neg hq, n1 ‹¬l[k]!.op = 9› hq]
   refine ⟨by omega, ?_, by simp [dG]; omega, by omega⟩
   have e1 : xs.length = pts.length + eX (l.take k) := by omega
   rw [← List.append_assoc pts, ← hxs, ← e1, hm1]
  ·dsimp only;omega
 ·refine aP rfl ?_
  have e2 : l.take k = l := List.take_of_length_le (by omega)
  rw [e2] at hxs hm2
  refine bU () trivial ?_ ⟨.inr (Eq.trans (b := some _) rfl ?_), trivial⟩
  ·simp only [bX]; rw [hm2]
  ·rw [hxs]
theorem Jr (l : List AL.Stmt) (pts : List Pnt) (m : Nat) (hs : b9 l ≤ 1000000) (hm : m = pts.length) (hb : m + eX l ≤ 12000000) : MC Tryz.prog 100 [.own 0 0 m 5, sl bO l] [(0, some (aI dW pts))] 1 (fun _ : Unit => True) (fun _ => .own 1 0 (m + eX l) 5) (fun _ => [(1, some (aI dW (pts ++ iI pts.length l)))]) := by
 have h : ∀ (mm : Nat), mm ≤ 1000000 → ∀ l pts m, b9 l ≤ mm → m = pts.length → m + eX l ≤ 12000000 → MC Tryz.prog 100 [.own 0 0 m 5, sl bO l] [(0, some (aI dW pts))] 1 (fun _ : Unit => True) (fun _ => .own 1 0 (m + eX l) 5) (fun _ => [(1, some (aI dW (pts ++ iI pts.length l)))]) := by
  intro mm
  induction mm using Nat.strongRecOn with
  | ind mm ih =>
   intro h0 l pts m h1 h2 h3
   exact Fe mm h0 (fun l' pts' m' g1 g2 g3 => ih _ g1 (by omega) l' pts' m' (Nat.le_refl _) g2 g3) l pts m h1 h2 h3
 exact h _ hs l pts m (Nat.le_refl _) hm hb
theorem nV (p : Prg) (hs : b9 p.body ≤ 1000000) : PC Tryz.prog 60 [dT p] (fun r => r = sl dW (cT p)) := by
 have hn := lN p.body
 have e0 : ([] : List AV) = aI dW [] := rfl
 (refine aU Tryz.func60 rfl (by simp [Tryz.ntmps60]) ?_; rw [Tryz.ntmps60])
 repeat' (first|(apply aL;first|(apply aN;rfl;rfl;rfl;rfl)|(apply aD;rfl;rfl;rfl)|(apply aC;rfl;rfl)|(apply AX;rfl;rfl;(exact Es rfl);(apply Jr <;> (first|assumption|omega|(simp only [fY] <;> omega)));rfl;rfl)|(apply bW;rfl;rfl;rfl;rfl;rfl;(rw [aQ]; simp only [fY] <;> omega);(rfl);omega;omega;(exact mM (by (simp only [fY] <;> omega)));rfl;rfl)|(apply aF;kernel_rfl)|(apply b8;rfl;(exact (rfl:_=some [_, _, _, _, _]));(exact (rfl:_=[_, _, _, _, _]));rfl)|(apply bK;rfl;rfl;rfl;rfl)|(apply bZ;rfl;rfl;rfl;(first|exact (rfl:_=some [_, _, _, _, _])|rfl);rfl;rfl))|(apply aM;first|apply aH|apply aB|apply aR)|with_reducible apply aA)
 (refine cD (Le.frzD (d := 2) (i := 4) rfl rfl) ?_; refine aP rfl ?_)
 refine ⟨?_, (by (exact aY _ _))⟩
 simp only [bX, sl, cT, List.length_append, List.length_cons, List.length_nil, dG, Nat.zero_add, List.nil_append]
theorem x6 (ts : List Int) (bd : List AL.Stmt) (pts : List Pnt) (v : Int) (h : 0 ≤ v ∧ v < ts.length) : PC Tryz.prog 131 [aG ts bd pts, iv v] (fun r => r = bv (wC ts[v.toNat]!)) := by
 (refine aU Tryz.func131 rfl (by simp [Tryz.ntmps131]) ?_; rw [Tryz.ntmps131])
 repeat' (first|(apply aL;first|(apply aE;rfl;rfl)|(apply aN;rfl;rfl;rfl;rfl)|(apply aD;rfl;rfl;rfl)|(first|(apply bB;rfl;rfl;rfl;(assumption))|(apply bD;rfl;rfl;rfl;(assumption))|(apply bS;(case hj|hb|hN => rfl);all_goals (intro hg;have hq := hg;(try simp only [cJ] at hq);(try (exfalso;omega)))))|(apply aT;rfl;rfl;rfl;rfl)|(apply aC;rfl;rfl)|(first|(apply bV;rfl;(assumption);rfl;rfl)|(apply bQ;rfl;(assumption);rfl;rfl))|(apply cL;(case hx|hi => rfl);(case hm => (assumption));(case hml => (rfl));(case hα | hf|hg => infer_instance);(case hN => rfl))|(apply aF;kernel_rfl)|(apply bY;rfl;rfl;rfl))|(apply aM;first|apply aH|apply aB|apply aR)|with_reducible apply aA|((with_reducible apply aP);case hr => rfl))
 all_goals (refine ⟨?_, rfl⟩; simp only [bX, AV.v.injEq, Value.bool.injEq, Value.int.injEq, true_and])
 all_goals grind [wC]
theorem LS (ts : List Int) (bd : List AL.Stmt) (pts : List Pnt) (x : Pnt) (v : Int) (h : 0 ≤ v ∧ v < ts.length) : PC Tryz.prog 224 [aG ts bd pts, fL x, iv v] (fun r => r = iv (cF ts x v)) := by
 (refine aU Tryz.func224 rfl (by simp [Tryz.ntmps224]) ?_; rw [Tryz.ntmps224])
 repeat' (first|(apply aL;first|(apply aE;rfl;rfl)|(apply aN;rfl;rfl;rfl;rfl)|(apply aD;rfl;rfl;rfl)|(first|(apply bB;rfl;rfl;rfl;(assumption))|(apply bD;rfl;rfl;rfl;(assumption))|(apply bS;(case hj|hb|hN => rfl);all_goals (intro hg;have hq := hg;(try simp only [cJ] at hq);(try (exfalso;omega)))))|(apply aT;rfl;rfl;rfl;rfl)|(apply aC;rfl;rfl)|(first|(apply bV;rfl;(assumption);rfl;rfl)|(apply bQ;rfl;(assumption);rfl;rfl))|((with_reducible apply aJ (k := 131));(case ha => rfl);(case h => (apply x6 <;> (assumption)));(case hp => (exact Pur.pf));(case hN => rfl))|(apply aF;kernel_rfl)|(apply bK;rfl;rfl;rfl;rfl))|(apply aM;first|apply aH|apply aB|(apply cA;rfl;(assumption))|(apply cH;rfl;(first|rfl|assumption))|(apply aO;rfl;all_goals intro hc;have hq:=hc;(try simp only [cJ] at hq);try exfalso;omega)|apply aK|apply aS|apply aR)|with_reducible apply aA|with_reducible apply bJ|with_reducible apply aW|with_reducible apply cQ|((with_reducible apply aP);case hr => rfl))
 all_goals (refine ⟨?_, rfl⟩; simp only [bX, AV.v.injEq, Value.bool.injEq, Value.int.injEq, true_and])
 all_goals grind [wC, cF]
theorem xB (x : Pnt) : PC Tryz.prog 206 [fL x] (fun r => r = iv (bT x)) := by
 (refine aU Tryz.func206 rfl (by simp [Tryz.ntmps206]) ?_; rw [Tryz.ntmps206])
 repeat' (first|(apply aL;first|(apply aN;rfl;rfl;rfl;rfl)|(apply aD;rfl;rfl;rfl)|(apply aT;rfl;rfl;rfl;rfl)|(apply aC;rfl;rfl)|(apply aF;kernel_rfl)|(apply bK;rfl;rfl;rfl;rfl))|(apply aM;first|apply aH|apply aB|(apply cA;rfl;(assumption))|(apply aO;rfl;all_goals intro hc;have hq:=hc;(try simp only [cJ] at hq);try exfalso;omega)|apply aK|apply aS|apply aR)|with_reducible apply aA|with_reducible apply bJ|with_reducible apply aW|with_reducible apply cQ|((with_reducible apply aP);case hr => rfl))
 all_goals (refine ⟨?_, rfl⟩; simp only [bX, AV.v.injEq, Value.bool.injEq, Value.int.injEq, true_and])
 all_goals grind [bT]
theorem mP (x : Pnt) : PC Tryz.prog 207 [fL x] (fun r => r = bv (fC x)) := by
 (refine aU Tryz.func207 rfl (by simp [Tryz.ntmps207]) ?_; rw [Tryz.ntmps207])
 repeat' (first|(apply aL;first|(apply aE;rfl;rfl)|(apply aN;rfl;rfl;rfl;rfl)|(apply aD;rfl;rfl;rfl)|(first|(apply bB;rfl;rfl;rfl;(assumption))|(apply bD;rfl;rfl;rfl;(assumption))|(apply bS;(case hj|hb|hN => rfl);all_goals (intro hg;have hq := hg;(try simp only [cJ] at hq);(try (exfalso;omega)))))|(apply aT;rfl;rfl;rfl;rfl)|(apply aC;rfl;rfl)|(first|(apply bV;rfl;(assumption);rfl;rfl)|(apply bQ;rfl;(assumption);rfl;rfl))|(apply aF;kernel_rfl)|(apply bK;rfl;rfl;rfl;rfl))|(apply aM;first|apply aH|apply aB|apply aR)|with_reducible apply aA|((with_reducible apply aP);case hr => rfl))
 all_goals (refine ⟨?_, rfl⟩; simp only [bX, AV.v.injEq, Value.bool.injEq, Value.int.injEq, true_and])
 all_goals grind [fC]
theorem o3 (x : Pnt) (h : bT x < 62) : PC Tryz.prog 212 [fL x] (fun r => r = iv (iW x : Nat)) := by
 (refine aU Tryz.func212 rfl (by simp [Tryz.ntmps212]) ?_; rw [Tryz.ntmps212])
 repeat' (first|(apply aL;first|(apply aE;rfl;rfl)|(apply aV;rfl;rfl;(exact (rfl:_=[_, _, _, _, _]));rfl;rfl;rfl)|(first|(apply jK;rfl;rfl;infer_instance;omega;rfl;(case' kk => intro hsm))|(apply aT;rfl;rfl;rfl;rfl))|(apply aC;rfl;rfl)|((with_reducible apply aJ (k := 206));(case ha => rfl);(case h => (apply xB <;> (fail)));(case hp => (exact Pur.pf));(case hN => rfl))|(apply aF;kernel_rfl)|(apply bK;rfl;rfl;rfl;rfl))|(apply aM;first|apply aH|apply aB|(apply aO;rfl;all_goals intro hc;have hq:=hc;(try simp only [cJ] at hq);try exfalso;omega)|apply aS|apply aR)|with_reducible apply aA|with_reducible apply bJ|((with_reducible apply aP);case hr => rfl))
 all_goals (refine ⟨?_, rfl⟩; simp only [bX, AV.v.injEq, Value.bool.injEq, Value.int.injEq, true_and])
 all_goals (unfold iW)
 ·rw [if_pos (by omega)]
 ·rw [if_neg (by omega)]; rfl
theorem Mh (ts : List Int) (bd : List AL.Stmt) (pts : List Pnt) (h : ts.length ≤ 6) : PC Tryz.prog 239 [aG ts bd pts] (fun r => r = iv ((2 ^ ts.length - 1 : Nat) : Int)) := by
 have h1 : 2 ^ ts.length ≤ 2 ^ 6 := Nat.pow_le_pow_right (by decide) h
 have h2 : 0 < 2 ^ ts.length := Nat.pow_pos (by decide)
 have h3 : 2 ^ (ts.length : Int).toNat ≤ 2 ^ 6 := h1
 have h4 : 2 ^ (ts.length : Int).toNat = 2 ^ ts.length := rfl
 (refine aU Tryz.func239 rfl (by simp [Tryz.ntmps239]) ?_; rw [Tryz.ntmps239])
 repeat' (first|(apply aL;first|(apply aE;rfl;rfl)|(apply aN;rfl;rfl;rfl;rfl)|(apply aD;rfl;rfl;rfl)|(first|(apply jK;rfl;rfl;infer_instance;omega;rfl;(case' kk => intro hsm))|(apply gF;rfl;rfl;omega;rfl))|(apply aC;rfl;rfl)|(apply bC;rfl;rfl;rfl)|(apply aF;kernel_rfl)|(apply bY;rfl;rfl;rfl))|(apply aM;first|apply aH|apply aB|apply aR)|with_reducible apply aA|((with_reducible apply aP);case hr => rfl))
 all_goals (refine ⟨?_, rfl⟩; simp only [bX, AV.v.injEq, Value.bool.injEq, Value.int.injEq, true_and])
 omega
def HA (xs : List Int) (v : Int) : Int := match xs.findIdx? (fun t => decide (t = v)) with | some i => i | none => -1
theorem JC (xs : List Int) (v : Int) (hl : xs.length ≤ 1000000) : PC Tryz.prog 124 [sl cI xs, iv v] (fun r => r = iv (HA xs v)) := by
 (refine aU Tryz.func124 rfl (by simp [Tryz.ntmps124]) ?_; rw [Tryz.ntmps124])
 repeat' (first|(apply aL;first|(apply aE;rfl;rfl)|(apply aC;rfl;rfl)|(apply bC;rfl;rfl;rfl)|(apply aF;kernel_rfl))|(apply aM;first|apply aH|apply aB|apply aK)|with_reducible apply aA)
 refine a6 (σ := Nat) [0, 1, 7] [(0, _), (1, _), (7, _)] [] [] (fun k => [(8, iv (k : Int))]) (fun k => []) (fun k => k ≤ xs.length ∧ ∀ i, i < k → xs[i]! ≠ v) (fun k => xs.length - k) (0) ⟨by omega, by omega⟩ rfl rfl (by repeat' (first|exact trivial|refine And.intro rfl ?_)) (by repeat' (exact trivial)) ?_
 intro k ⟨hk, hall⟩
 repeat' (first|(apply aL;first|(apply aE;rfl;rfl)|(apply aN;rfl;rfl;rfl;rfl)|(first|(apply bR;rfl;rfl;omega;rfl)|(apply aT;rfl;rfl;rfl;rfl))|(apply aC;rfl;rfl)|(apply aZ;(case hx|hi => rfl);(case hm => (omega));(case hml => (rfl));(case hα | hf|hg => infer_instance);(case hN => rfl))|(apply aF;kernel_rfl))|(apply aM;first|apply aH|apply aB|(apply aO;rfl;all_goals intro hc;have hq:=hc;(try simp only [cJ] at hq);try exfalso;omega)|apply aK|apply aS|apply bG|apply aR)|with_reducible apply aA|with_reducible apply bJ|with_reducible apply bH|with_reducible apply aW|with_reducible apply cQ|with_reducible apply bF|((with_reducible apply aP);case hr => rfl))
 ·(refine ⟨?_, rfl⟩; simp only [bX, AV.v.injEq, Value.bool.injEq, Value.int.injEq, true_and])
  have hlt : k < xs.length := by omega
  have : xs.findIdx? (fun t => decide (t = v)) = some k := by
   rw [List.findIdx?_eq_some_iff_getElem]
   refine ⟨hlt, ?_, fun j hj => ?_⟩
   ·rw [← cV xs k hlt]; grind
   ·have := hall j hj;rw [cV xs j (by omega)] at this;simpa using this
  simp only [HA, this]
 ·(apply dJ (k + 1); focus (refine Le.ren [] rfl (by decide) ?_ ?_ <;> repeat' (first | exact trivial | refine And.intro ⟨_, rfl, ?_⟩ ?_ | refine Or.inl ⟨?_, (by first | rfl | exact aY _ _)⟩ | rfl)))
  ·grind
  ·omega
 ·(refine ⟨?_, rfl⟩; simp only [bX, AV.v.injEq, Value.bool.injEq, Value.int.injEq, true_and])
  have : xs.findIdx? (fun t => decide (t = v)) = none := by
   rw [List.findIdx?_eq_none_iff]
   intro x hx
   obtain ⟨i, hi, rfl⟩ := List.getElem_of_mem hx
   have := hall i (by omega);rw [cV xs i hi] at this;simpa using this
  simp only [HA, this]
theorem IW (xs : List Int) (v : Int) : decide (0 ≤ HA xs v) = decide (v ∈ xs) := by
 unfold HA
 split
 ·rename_i i h
  obtain ⟨h1, h2, _⟩ := List.findIdx?_eq_some_iff_getElem.1 h
  simp only [decide_eq_true_eq] at h2
  have : v ∈ xs := by rw [← h2]; exact List.getElem_mem h1
  simp [this]
 ·rename_i h
  rw [List.findIdx?_eq_none_iff] at h
  have : v ∉ xs := fun hm => by have := h v hm;simp at this
  simp [this]
theorem Cc (xs : List Int) (v : Int) (hl : xs.length ≤ 1000000) : PC Tryz.prog 78 [sl cI xs, iv v] (fun r => r = bv (decide (v ∈ xs))) := by
 (refine aU Tryz.func78 rfl (by simp [Tryz.ntmps78]) ?_; rw [Tryz.ntmps78])
 repeat' (first|(apply aL;first|(apply aE;rfl;rfl)|(apply aT;rfl;rfl;rfl;rfl)|(apply aC;rfl;rfl)|((with_reducible apply aJ (k := 124));(case ha => rfl);(case h => (apply JC <;> (assumption)));(case hp => (exact Pur.pf));(case hN => rfl))|(apply aF;kernel_rfl))|(apply aM;first|apply aH|apply aB|apply aR)|with_reducible apply aA|((with_reducible apply aP);case hr => rfl))
 (refine ⟨?_, rfl⟩; simp only [bX, AV.v.injEq, Value.bool.injEq, Value.int.injEq, true_and])
 exact IW xs v
theorem CO (ts : List Int) (bd : List AL.Stmt) (pts : List Pnt) (x : Pnt) (us : List Int) (h : ts.length ≤ 6) (hu : us.length ≤ 1000) : PC Tryz.prog 179 [aG ts bd pts, fL x, sl cI us] (fun r => r = iv (wS ts x us : Nat)) := by
 (refine aU Tryz.func179 rfl (by simp [Tryz.ntmps179]) ?_; rw [Tryz.ntmps179])
 repeat' (first|(apply aL;first|(apply aE;rfl;rfl)|(apply aN;rfl;rfl;rfl;rfl)|(apply aD;rfl;rfl;rfl)|(apply aC;rfl;rfl)|(apply bC;rfl;rfl;rfl)|(apply aF;kernel_rfl)|(apply bY;rfl;rfl;rfl)|(apply bK;rfl;rfl;rfl;rfl))|(apply aM;first|apply aH|apply aB|apply aK)|with_reducible apply aA)
 refine a6 (σ := Nat × Nat) [0, 2, 4, 14] [(0, _), (2, _), (4, _), (14, _)] [0] [(0, some _)] (fun k => [(15, iv (k.1 : Int)), (7, iv (k.2 : Int))]) (fun k => []) (fun k => k.1 ≤ ts.length ∧ k.2 = fT (fun v => decide (cF ts x v ∈ us)) k.1) (fun k => ts.length - k.1) (0, 0) ⟨by omega, rfl⟩ rfl rfl (by repeat' (first|exact trivial|refine And.intro rfl ?_)) (by repeat' (exact trivial)) ?_
 rintro ⟨k, A⟩ ⟨hk, hA⟩
 dsimp only at hk hA ⊢
 have hsm : Sm A := hA ▸ dH (by omega)
 repeat' (first|(apply aL;first|(apply aE;rfl;rfl)|(apply aV;rfl;rfl;(exact (rfl:_=[_, _, _, _, _]));rfl;rfl;rfl)|(first|(apply gM;rfl;rfl;infer_instance;infer_instance;infer_instance;rfl)|(apply jK;rfl;rfl;infer_instance;omega;rfl;(case' kk => intro hsm))|(apply bR;rfl;rfl;omega;rfl)|(apply aT;rfl;rfl;rfl;rfl))|(apply aC;rfl;rfl)|(first|((with_reducible apply aJ (k := 78));(case ha => rfl);(case h => (apply Cc <;> (omega)));(case hp => (exact Pur.pf));(case hN => rfl))|((with_reducible apply aJ (k := 224));(case ha => rfl);(case h => (apply LS <;> (omega)));(case hp => (exact Pur.pf));(case hN => rfl)))|(apply aF;kernel_rfl))|(apply aM;first|apply aH|apply aB|(apply aO;rfl;all_goals intro hc;have hq:=hc;(try simp only [cJ] at hq);try exfalso;omega)|apply aK|apply aS|apply bG|apply aR)|with_reducible apply aA|with_reducible apply bH|with_reducible apply aW|with_reducible apply bF|((with_reducible apply aP);case hr => rfl))
 ·(apply dJ (k + 1, _); focus (refine Le.ren [(0, 0)] rfl (by decide) ?_ ?_ <;> repeat' (first | exact trivial | refine And.intro ⟨_, rfl, ?_⟩ ?_ | refine And.intro ⟨_, _, rfl, rfl, ?_⟩ ?_ | exact Or.inr rfl | refine Or.inl ⟨?_, (by first | rfl | exact aY _ _ | exact Pur.pf)⟩ | rfl)))
  ·dsimp only
   rw [hA]
   exact ⟨by omega, qH _ _ (by simpa using hq)⟩
  ·dsimp only;omega
 ·(apply dJ (k + 1, _); focus (refine Le.ren [(0, 0)] rfl (by decide) ?_ ?_ <;> repeat' (first | exact trivial | refine And.intro ⟨_, rfl, ?_⟩ ?_ | refine And.intro ⟨_, _, rfl, rfl, ?_⟩ ?_ | exact Or.inr rfl | refine Or.inl ⟨?_, (by first | rfl | exact aY _ _ | exact Pur.pf)⟩ | rfl)))
  ·dsimp only
   rw [hA]
   exact ⟨by omega, mH _ _ (by simpa using hq)⟩
  ·dsimp only;omega
 ·(refine ⟨?_, rfl⟩; simp only [bX, AV.v.injEq, Value.bool.injEq, Value.int.injEq, true_and])
  rw [hA, show k = ts.length by omega]; rfl
theorem jH (ts : List Int) (bd : List AL.Stmt) (pts : List Pnt) (x : Pnt) (h : ts.length ≤ 6) : PC Tryz.prog 120 [aG ts bd pts, fL x] (fun r => r = iv (wS ts x [1, 2, 3] : Nat)) := by
 (refine aU Tryz.func120 rfl (by simp [Tryz.ntmps120]) ?_; rw [Tryz.ntmps120])
 repeat' (first|(apply aL;first|(apply aE;rfl;rfl)|(apply aV;rfl;rfl;(exact (rfl:_=[_, _, _, _, _]));rfl;rfl;rfl)|(apply aC;rfl;rfl)|((with_reducible apply aJ (k := 179));(case ha => rfl);(case h => (apply CO (us := [1, 2, 3]) <;> (first|assumption|decide)));(case hp => (exact Pur.pf));(case hN => rfl))|(apply aF;kernel_rfl)|(apply bK;rfl;rfl;rfl;rfl)|((apply a7 (t := _));(case hze|hsm|hl => rfl);(case hfl => (exact (rfl:_=some [_, _, _])));(case hM|hN => rfl)))|(apply aM;first|apply aH|apply aB|apply aR)|with_reducible apply aA|((with_reducible apply aP);case hr => rfl))
 (refine ⟨?_, rfl⟩; simp only [bX, AV.v.injEq, Value.bool.injEq, Value.int.injEq, true_and])
theorem rZ (ts : List Int) (bd : List AL.Stmt) (pts : List Pnt) (x : Pnt) (h : ts.length ≤ 6) : PC Tryz.prog 205 [aG ts bd pts, fL x] (fun r => r = iv (wS ts x [2] : Nat)) := by
 (refine aU Tryz.func205 rfl (by simp [Tryz.ntmps205]) ?_; rw [Tryz.ntmps205])
 repeat' (first|(apply aL;first|(apply aE;rfl;rfl)|(apply aV;rfl;rfl;(exact (rfl:_=[_, _, _, _, _]));rfl;rfl;rfl)|(apply aC;rfl;rfl)|((with_reducible apply aJ (k := 179));(case ha => rfl);(case h => (apply CO (us := [2]) <;> (first|assumption|decide)));(case hp => (exact Pur.pf));(case hN => rfl))|(apply aF;kernel_rfl)|(apply bK;rfl;rfl;rfl;rfl)|((apply a7 (t := _));(case hze|hsm|hl => rfl);(case hfl => exact (rfl:_=some [_]));(case hM|hN => rfl)))|(apply aM;first|apply aH|apply aB|apply aR)|with_reducible apply aA|((with_reducible apply aP);case hr => rfl))
 (refine ⟨?_, rfl⟩; simp only [bX, AV.v.injEq, Value.bool.injEq, Value.int.injEq, true_and])
theorem AF (ts : List Int) (bd : List AL.Stmt) (pts : List Pnt) (i : Int) (A : Nat) (h : WG ts pts) (hi : 0 ≤ i ∧ i < pts.length) (hA : Sm A) : PC Tryz.prog 210 [aG ts bd pts, iv i, iv (A : Int)] (fun r => r = iv (iU ts pts[i.toNat]! A : Nat)) := by
 have htl := h.tl
 have hst := (h.set i.toNat (by omega)).1
 have hs1 : Sm (wS ts pts[i.toNat]! [2]) := dH (by omega)
 have hs2 : Sm (iW pts[i.toNat]!) := rI (by omega)
 (refine aU Tryz.func210 rfl (by simp [Tryz.ntmps210]) ?_; rw [Tryz.ntmps210])
 repeat' (first|(apply aL;first|(apply aE;rfl;rfl)|(first|(apply aN;rfl;rfl;rfl;rfl)|(apply aV;rfl;rfl;(exact (rfl:_=[_, _, _, _, _]));rfl;rfl;rfl))|(apply aD;rfl;rfl;rfl)|(first|(apply gM;rfl;rfl;infer_instance;infer_instance;infer_instance;rfl)|(apply oK;rfl;rfl;infer_instance;infer_instance;infer_instance;rfl))|(apply aC;rfl;rfl)|(apply cL;(case hx|hi => rfl);(case hm => (assumption));(case hml => (rfl));(case hα | hf|hg => infer_instance);(case hN => rfl))|(first|((with_reducible apply aJ (k := 205));(case ha => rfl);(case h => (apply rZ <;> (assumption)));(case hp => (exact Pur.pf));(case hN => rfl))|((with_reducible apply aJ (k := 212));(case ha => rfl);(case h => (apply o3 <;> (omega)));(case hp => (exact Pur.pf));(case hN => rfl)))|(apply aF;kernel_rfl)|(apply bY;rfl;rfl;rfl)|(apply bI;rfl;rfl)|(apply aX;rfl;rfl;rfl;rfl;rfl;(case hl => (simp;done));(exact (rfl:_=[_, _, _, _, _]))))|(apply aM;first|apply aH|apply aB|(apply b0;kernel_rfl)|apply aR)|with_reducible apply aA|((with_reducible apply aP);case hr => rfl))
 (refine ⟨?_, rfl⟩; simp only [bX, AV.v.injEq, Value.bool.injEq, Value.int.injEq, true_and])
 rfl
theorem Cr (ts : List Int) (bd : List AL.Stmt) (pts : List Pnt) (A : List Nat) (w : WG ts pts) (hA : uP ts pts A) : PC Tryz.prog 209 [aG ts bd pts, iv 0, bv false, .clos (.func 210) [aG ts bd pts] []] (fun r => r = .imm pts.length (aI cN A)) := by
 have hpl := w.pl
 have hp0 := w.p0
 have htl := w.tl
 have fl := Mu w
 (refine aU Tryz.func209 rfl (by simp [Tryz.ntmps209]) ?_; rw [Tryz.ntmps209])
 repeat' (first|(apply aL;first|(apply aE;rfl;rfl)|(apply aN;rfl;rfl;rfl;rfl)|(apply aD;rfl;rfl;rfl)|(apply aC;rfl;rfl)|(apply cM;rfl;rfl;(assumption);rfl)|(apply bC;rfl;rfl;rfl)|(apply aF;kernel_rfl)|(apply bY;rfl;rfl;rfl)|(apply aX;rfl;rfl;rfl;rfl;rfl;(rw [aQ]; simp only [fY] <;> omega);(exact uL (by (simp only [fY] <;> omega))))|(apply dX;rfl;rfl;rfl;omega;omega;(exact BC);rfl;rfl))|(apply aM;first|apply aH|apply aB|(apply cH;rfl;(rfl))|apply aK|apply aS)|with_reducible apply aA)
 refine a6 (σ := List Nat × Bool) [0, 2, 3, 9] [(0, _), (2, _), (3, _), (9, _)] [] [] (fun s => [(11, bv s.2)]) (fun s => [(0, some (aI cN s.1))]) (fun s => SG pts (LD ts pts) s.1 ∧ True ∧ (s.2 = false → lM nO (fun i A => iU ts pts[i]! A) pts s.1)) (fun s => 2 * gD (s.1.map (fun a => 2 ^ ts.length - a)) + s.2.toNat) (((List.replicate pts.length 0).set 0 0), true) ⟨by rw [mD (by rw [cV _ _ (by simpa using hp0), List.getElem_replicate]) (by simpa using hp0)]; exact Bq fun i hi => ⟨Nat.pow_pos (by decide), fun v h => by simp at h⟩, trivial, fun h => by cases h⟩ rfl rfl (by repeat' (first|exact trivial|refine And.intro rfl ?_)) (by repeat' (first|exact trivial|refine And.intro (.inr rfl) ?_)) ?_
 rintro ⟨s, b⟩ ⟨hS, hE, hC⟩
 dsimp only at hS hE hC ⊢
 repeat' (first|(apply aL;first|(apply aE;rfl;rfl)|(apply aN;rfl;rfl;rfl;rfl)|(apply aD;rfl;rfl;rfl)|(apply aC;rfl;rfl)|(apply bC;rfl;rfl;rfl)|(apply aF;kernel_rfl)|(apply bY;rfl;rfl;rfl))|(apply aM;first|apply aH|apply aB|(apply aO;rfl;all_goals intro hc;have hq:=hc;(try simp only [cJ] at hq);try exfalso;omega)|apply aK|apply aS|apply bG|apply aR)|with_reducible apply aA|with_reducible apply bH|with_reducible apply bF)
 ·refine a6 (σ := Nat × (List Nat × Bool)) [0, 2, 3, 9, 43, 44] [(0, _), (2, _), (3, _), (9, _), (43, _), (44, _)] [] [] (fun k => [(45, iv (k.1 : Int)), (11, bv k.2.2)]) (fun k => [(0, some (aI cN k.2.1))]) (fun k => k.1 ≤ pts.length ∧ k.2 = (List.range k.1).foldl (xJ nO (fun i A => iU ts pts[i]! A) pts) (s, false) ∧ SG pts (LD ts pts) k.2.1 ∧ True) (fun k => pts.length - k.1) (0, (s, false)) ⟨by omega, rfl, hS, hE⟩ rfl rfl (by repeat' (first | exact trivial | refine And.intro rfl ?_)) (by repeat' (first | exact trivial | refine And.intro (.inr rfl) ?_)) ?_
  rintro ⟨k, u, c⟩ ⟨hk, hf, hS2, hE2⟩
  dsimp only at hk hf hS2 hE2 ⊢
  have hsm : ∀ z, Sm u[z]! := s7 hS2 (fun i A h => h.1) htl
  have hul := hS2.1
  repeat' (first|(apply aL;first|(apply aE;rfl;rfl)|(first|(apply eG;(case hx|hH => rfl);(case hf|hg|hα => infer_instance);(case hk => omega);(case hc|hN => rfl))|(apply aN;rfl;rfl;rfl;rfl)|(apply aV;rfl;rfl;(exact (rfl:_=[_, _, _, _, _]));rfl;rfl;rfl))|(apply aD;rfl;rfl;rfl)|(apply aT;rfl;rfl;rfl;rfl)|(apply aC;rfl;rfl)|(first|(apply aZ;(case hx|hi => rfl);(case hm => (omega));(case hml => (rfl));(case hα | hf|hg => infer_instance);(case hN => rfl))|(apply cM;rfl;rfl;(omega);rfl))|(apply bC;rfl;rfl;rfl)|((with_reducible apply jW);(case hx|hcl => rfl);(case hc => infer_instance);(case ha => rfl);(case h => (apply AF <;> (first|assumption|omega|infer_instance)));(case hp => (exact Pur.pf));(case hN => rfl))|(apply aF;kernel_rfl)|(apply bI;rfl;rfl)|(apply aX;rfl;rfl;rfl;rfl;rfl;(case hl => (simp;done));(exact (rfl:_=[_, _, _, _, _]))))|(apply aM;first|apply aH|apply aB|(apply aO;rfl;all_goals intro hc;have hq:=hc;(try simp only [cJ] at hq);try exfalso;omega)|apply aK|apply aS|apply bG)|with_reducible apply aA|with_reducible apply bH|with_reducible apply aW|with_reducible apply bF)
  ·have hkn : k < pts.length := by omega
   have hv := rJ w hkn (hS2.2 k hkn).1
   have hvs : Sm (iU ts pts[k]! u[k]!) := ⟨Nat.lt_of_lt_of_le hv (Nat.pow_le_pow_right (by decide) (by omega))⟩
   have hvs' : Sm (iU ts pts[(k : Int).toNat]! u[k]!) := hvs
   have hnl := w.nl k hkn
   refine a6 (σ := Nat × (List Nat × Bool)) [0, 2, 3, 9, 14, 43, 44, 45, 58, 59] [(0, _), (2, _), (3, _), (9, _), (14, _), (43, _), (44, _), (45, _), (58, _), (59, _)] [] [] (fun j => [(60, iv (j.1 : Int)), (11, bv j.2.2)]) (fun j => [(0, some (aI cN j.2.1))]) (fun j => j.1 ≤ pts[k]!.next.length ∧ j.2 = ((uZ pts k).take j.1).foldl (lT nO (iU ts pts[k]! u[k]!)) (u, c) ∧ SG pts (LD ts pts) j.2.1 ∧ True) (fun j => pts[k]!.next.length - j.1) (0, (u, c)) ⟨by omega, rfl, hS2, hE2⟩ rfl rfl (by repeat' (first|exact trivial|refine And.intro rfl ?_)) (by repeat' (first|exact trivial|refine And.intro (.inr rfl) ?_)) ?_
   rintro ⟨j, u2, c2⟩ ⟨hj, hf2, hS3, hE3⟩
   dsimp only at hj hf2 hS3 hE3 ⊢
   have hsm2 : ∀ z, Sm u2[z]! := s7 hS3 (fun i A h => h.1) htl
   have hul2 := hS3.1
   have hz : j < pts[k]!.next.length → 0 ≤ pts[k]!.next[j]! ∧ pts[k]!.next[j]! < pts.length := fun h => w.nx k hkn _ (cK _ _ h)
   repeat' (first|(apply aL;first|(apply aE;rfl;rfl)|(first|(apply eG;(case hx|hH => rfl);(case hf|hg|hα => infer_instance);(case hk => omega);(case hc|hN => rfl))|(apply aN;rfl;rfl;rfl;rfl))|(first|(apply gM;rfl;rfl;infer_instance;infer_instance;infer_instance;rfl)|(apply bR;rfl;rfl;omega;rfl)|(apply aT;rfl;rfl;rfl;rfl))|(apply aC;rfl;rfl)|(first|(apply aZ;(case hx|hi => rfl);(case hm => (omega));(case hml => (rfl));(case hα | hf|hg => infer_instance);(case hN => rfl))|(apply cR;rfl;rfl;(omega);rfl))|(apply aF;kernel_rfl)|(apply aX;rfl;rfl;rfl;rfl;rfl;(rw [aQ]; simp only [fY] <;> omega);(exact uL (by (omega)))))|(apply aM;first|apply aH|apply aB|(apply cH;rfl;(rfl))|(apply aO;rfl;all_goals intro hc;have hq:=hc;(try simp only [cJ] at hq);try exfalso;omega)|apply aK|apply aS|apply bG)|with_reducible apply aA|with_reducible apply bH|with_reducible apply aW|with_reducible apply bF)
   ·have hzz := hz (by omega)
    have hed : eQ pts k (pts[k]!.next[j]!).toNat := ⟨hkn, by rw [Int.toNat_of_nonneg hzz.1]; exact cK _ _ (by omega)⟩
    have hne : nO u2[(pts[k]!.next[j]!).toNat]! (iU ts pts[k]! u[k]!) ≠ u2[(pts[k]!.next[j]!).toNat]! := fun h => hq (congrArg Int.ofNat h)
    (apply dJ (j + 1, (_, true));focus (refine Le.ren [(0, 0)] rfl (by decide) ?_ ?_ <;> repeat' (first|exact trivial|refine And.intro ⟨_, rfl, ?_⟩ ?_|refine And.intro ⟨_, _, rfl, rfl, ?_⟩ ?_|exact Or.inr rfl|refine Or.inl ⟨?_, (by first|rfl|exact aY _ _|exact Pur.pf|exact PurV.pf)⟩|rfl)))
    ·dsimp only
     refine ⟨by omega, ?_, yI fl w (hS2.2 k hkn) hed hS3, trivial⟩
     rw [jR (by omega), ← hf2, xK hne]; rfl
    ·dsimp only;omega
   ·have hzz := hz (by omega)
    have hne : nO u2[(pts[k]!.next[j]!).toNat]! (iU ts pts[k]! u[k]!) = u2[(pts[k]!.next[j]!).toNat]! := Int.ofNat.inj hq
    (apply dJ (j + 1, (u2, c2));focus (refine Le.ren [(0, 0)] rfl (by decide) ?_ ?_ <;> repeat' (first|exact trivial|refine And.intro ⟨_, rfl, ?_⟩ ?_|refine And.intro ⟨_, _, rfl, rfl, ?_⟩ ?_|exact Or.inr rfl|refine Or.inl ⟨?_, (by first|rfl|exact aY _ _|exact Pur.pf|exact PurV.pf)⟩|rfl)))
    ·dsimp only
     refine ⟨by omega, ?_, hS3, hE3⟩
     rw [jR (by omega), ← hf2, x5 hne]
    ·dsimp only;omega
   ·(apply dJ (k + 1, (u2, c2)); focus (refine Le.ren [(0, 0)] rfl (by decide) ?_ ?_ <;> repeat' (first | exact trivial | refine And.intro ⟨_, rfl, ?_⟩ ?_ | refine And.intro ⟨_, _, rfl, rfl, ?_⟩ ?_ | exact Or.inr rfl | refine Or.inl ⟨?_, (by first | rfl | exact aY _ _ | exact Pur.pf | exact PurV.pf)⟩ | rfl)))
    ·dsimp only
     refine ⟨by omega, ?_, hS3, hE3⟩
     rw [e6, ← hf, hf2, List.take_of_length_le (by rw [lG]; omega)]; rfl
    ·dsimp only;omega
  ·have law := tM w fl s false hS
   have hfull : (u, c) = yA nO (fun i A => iU ts pts[i]! A) pts (s, false) := by
    rw [hf, show k = pts.length by omega]; rfl
   rw [show yA (fun a s => nO a s) (fun i A => iU ts pts[i]! A) pts (s, false) = (u, c) from hfull.symm] at law
   (apply dJ (u, c);focus (refine Le.ren [(0, 0)] rfl (by decide) ?_ ?_ <;> repeat' (first|exact trivial|refine And.intro ⟨_, rfl, ?_⟩ ?_|refine And.intro ⟨_, _, rfl, rfl, ?_⟩ ?_|exact Or.inr rfl|refine Or.inl ⟨?_, (by first|rfl|exact aY _ _|exact Pur.pf|exact PurV.pf)⟩|rfl)))
   ·dsimp only
    refine ⟨hS2, hE2, fun h => ?_⟩
    rcases law.2 with ⟨e1, e2⟩ | ⟨e1, _⟩
    ·cases e1;exact e2
    ·dsimp only at e1;rw [h] at e1;cases e1
   ·dsimp only
    have hb : b = true := by assumption
    subst hb
    rcases law.2 with ⟨e1, e2⟩ | ⟨e1, e2⟩
    ·cases e1;simp
    ·dsimp only at e1 e2;subst e1;omega
 ·have hb : b = false := by assumption
  refine cD (Le.frzD (d := 8) (i := 0) rfl rfl) ?_
  refine aP rfl ⟨?_, (by (exact aY _ _))⟩
  simp only [bX]
  rw [DQ hA (G1 w hS (hC hb))]
theorem BN (ts : List Int) (bd : List AL.Stmt) (pts : List Pnt) (A : List Nat) (w : WG ts pts) (hA : sJ ts pts A) : PC Tryz.prog 209 [aG ts bd pts, iv 0, bv true, .clos (.func 210) [aG ts bd pts] []] (fun r => r = .imm pts.length (aI cN A)) := by
 have hpl := w.pl
 have hp0 := w.p0
 have htl := w.tl
 have fl := Ml w
 (refine aU Tryz.func209 rfl (by simp [Tryz.ntmps209]) ?_; rw [Tryz.ntmps209])
 repeat' (first|(apply aL;first|(apply aE;rfl;rfl)|(apply aN;rfl;rfl;rfl;rfl)|(apply aD;rfl;rfl;rfl)|(apply aC;rfl;rfl)|(apply bC;rfl;rfl;rfl)|(apply aF;kernel_rfl)|(apply bY;rfl;rfl;rfl)|(apply dX;rfl;rfl;rfl;omega;omega;(exact BC);rfl;rfl))|(apply aM;first|apply aH|apply aB|(apply cA;rfl;(rfl))|apply aK)|with_reducible apply aA)
 refine a6 (σ := Nat × List Nat) [0, 1, 2, 3, 9, 26] [(0, _), (1, _), (2, _), (3, _), (9, _), (26, _)] [] [] (fun k => [(27, iv (k.1 : Int))]) (fun k => [(0, some (aI cN k.2))]) (fun k => k.1 ≤ pts.length ∧ k.2 = List.replicate k.1 (2 ^ ts.length - 1) ++ List.replicate (pts.length - k.1) 0) (fun k => pts.length - k.1) (0, List.replicate pts.length 0) ⟨by omega, by simp⟩ rfl rfl (by repeat' (first|exact trivial|refine And.intro rfl ?_)) (by repeat' (first|exact trivial|refine And.intro (.inr rfl) ?_)) ?_
 rintro ⟨k0, u0⟩ ⟨hk0, hu0⟩
 dsimp only at hk0 hu0 ⊢
 have hul0 : u0.length = pts.length := by rw [hu0]; simp;omega
 repeat' (first|(apply aL;first|(apply aE;rfl;rfl)|(first|(apply bR;rfl;rfl;omega;rfl)|(apply aT;rfl;rfl;rfl;rfl))|(apply aC;rfl;rfl)|(apply cM;rfl;rfl;(first|assumption|omega);rfl)|((with_reducible apply aJ (k := 239));(case ha => rfl);(case h => (apply Mh <;> (assumption)));(case hp => (exact Pur.pf));(case hN => rfl))|(apply aF;kernel_rfl)|(apply aX;rfl;rfl;rfl;rfl;rfl;(rw [aQ]; simp only [fY] <;> omega);(exact uL (by (first|omega|(simp only [fY] <;> omega))))))|(apply aM;first|apply aH|apply aB|(apply aO;rfl;all_goals intro hc;have hq:=hc;(try simp only [cJ] at hq);try exfalso;omega)|apply aK|apply aS|apply bG)|with_reducible apply aA|with_reducible apply bH|with_reducible apply aW|with_reducible apply bF)
 ·(apply dJ (k0 + 1, _); focus (refine Le.ren [(0, 0)] rfl (by decide) ?_ ?_ <;> repeat' (first | exact trivial | refine And.intro ⟨_, rfl, ?_⟩ ?_ | refine And.intro ⟨_, _, rfl, rfl, ?_⟩ ?_ | exact Or.inr rfl | refine Or.inl ⟨?_, (by first | rfl | exact aY _ _ | exact Pur.pf | exact PurV.pf)⟩ | rfl)))
  ·dsimp only
   exact ⟨by omega, by rw [hu0]; exact HV (by omega)⟩
  ·dsimp only;omega
 have hk1 : k0 = pts.length := by omega
 subst hk1
 rw [Nat.sub_self, List.replicate_zero, List.append_nil] at hu0
 refine a6 (σ := List Nat × Bool) [0, 2, 3, 9] [(0, _), (2, _), (3, _), (9, _)] [] [] (fun s => [(11, bv s.2)]) (fun s => [(0, some (aI cN s.1))]) (fun s => SG pts (LA ts pts) s.1 ∧ s.1[0]! = 0 ∧ (s.2 = false → lM Kx (fun i A => iU ts pts[i]! A) pts s.1)) (fun s => 2 * gD (s.1.map (fun a => a)) + s.2.toNat) ((u0.set 0 0), true) ⟨(E3 w hu0).1, (E3 w hu0).2, fun h => by cases h⟩ rfl rfl (by repeat' (first|exact trivial|refine And.intro rfl ?_)) (by repeat' (first|exact trivial|refine And.intro (.inr rfl) ?_)) ?_
 rintro ⟨s, b⟩ ⟨hS, hE, hC⟩
 dsimp only at hS hE hC ⊢
 repeat' (first|(apply aL;first|(apply aE;rfl;rfl)|(apply aN;rfl;rfl;rfl;rfl)|(apply aD;rfl;rfl;rfl)|(apply aC;rfl;rfl)|(apply bC;rfl;rfl;rfl)|(apply aF;kernel_rfl)|(apply bY;rfl;rfl;rfl))|(apply aM;first|apply aH|apply aB|(apply aO;rfl;all_goals intro hc;have hq:=hc;(try simp only [cJ] at hq);try exfalso;omega)|apply aK|apply aS|apply bG|apply aR)|with_reducible apply aA|with_reducible apply bH|with_reducible apply bF)
 ·refine a6 (σ := Nat × (List Nat × Bool)) [0, 2, 3, 9, 43, 44] [(0, _), (2, _), (3, _), (9, _), (43, _), (44, _)] [] [] (fun k => [(45, iv (k.1 : Int)), (11, bv k.2.2)]) (fun k => [(0, some (aI cN k.2.1))]) (fun k => k.1 ≤ pts.length ∧ k.2 = (List.range k.1).foldl (xJ Kx (fun i A => iU ts pts[i]! A) pts) (s, false) ∧ SG pts (LA ts pts) k.2.1 ∧ k.2.1[0]! = 0) (fun k => pts.length - k.1) (0, (s, false)) ⟨by omega, rfl, hS, hE⟩ rfl rfl (by repeat' (first | exact trivial | refine And.intro rfl ?_)) (by repeat' (first | exact trivial | refine And.intro (.inr rfl) ?_)) ?_
  rintro ⟨k, u, c⟩ ⟨hk, hf, hS2, hE2⟩
  dsimp only at hk hf hS2 hE2 ⊢
  have hsm : ∀ z, Sm u[z]! := s7 hS2 (fun i A h => h.1) htl
  have hul := hS2.1
  repeat' (first|(apply aL;first|(apply aE;rfl;rfl)|(first|(apply eG;(case hx|hH => rfl);(case hf|hg|hα => infer_instance);(case hk => omega);(case hc|hN => rfl))|(apply aN;rfl;rfl;rfl;rfl)|(apply aV;rfl;rfl;(exact (rfl:_=[_, _, _, _, _]));rfl;rfl;rfl))|(apply aD;rfl;rfl;rfl)|(apply aT;rfl;rfl;rfl;rfl)|(apply aC;rfl;rfl)|(first|(apply aZ;(case hx|hi => rfl);(case hm => (omega));(case hml => (rfl));(case hα | hf|hg => infer_instance);(case hN => rfl))|(apply cM;rfl;rfl;(omega);rfl))|(apply bC;rfl;rfl;rfl)|((with_reducible apply jW);(case hx|hcl => rfl);(case hc => infer_instance);(case ha => rfl);(case h => (apply AF <;> (first|assumption|omega|infer_instance)));(case hp => (exact Pur.pf));(case hN => rfl))|(apply aF;kernel_rfl)|(apply bI;rfl;rfl)|(apply aX;rfl;rfl;rfl;rfl;rfl;(case hl => (simp;done));(exact (rfl:_=[_, _, _, _, _]))))|(apply aM;first|apply aH|apply aB|(apply aO;rfl;all_goals intro hc;have hq:=hc;(try simp only [cJ] at hq);try exfalso;omega)|apply aK|apply aS|apply bG)|with_reducible apply aA|with_reducible apply bH|with_reducible apply aW|with_reducible apply bF)
  ·have hkn : k < pts.length := by omega
   have hv := rJ w hkn (hS2.2 k hkn).1
   have hvs : Sm (iU ts pts[k]! u[k]!) := ⟨Nat.lt_of_lt_of_le hv (Nat.pow_le_pow_right (by decide) (by omega))⟩
   have hvs' : Sm (iU ts pts[(k : Int).toNat]! u[k]!) := hvs
   have hnl := w.nl k hkn
   refine a6 (σ := Nat × (List Nat × Bool)) [0, 2, 3, 9, 14, 43, 44, 45, 58, 59] [(0, _), (2, _), (3, _), (9, _), (14, _), (43, _), (44, _), (45, _), (58, _), (59, _)] [] [] (fun j => [(60, iv (j.1 : Int)), (11, bv j.2.2)]) (fun j => [(0, some (aI cN j.2.1))]) (fun j => j.1 ≤ pts[k]!.next.length ∧ j.2 = ((uZ pts k).take j.1).foldl (lT Kx (iU ts pts[k]! u[k]!)) (u, c) ∧ SG pts (LA ts pts) j.2.1 ∧ j.2.1[0]! = 0) (fun j => pts[k]!.next.length - j.1) (0, (u, c)) ⟨by omega, rfl, hS2, hE2⟩ rfl rfl (by repeat' (first|exact trivial|refine And.intro rfl ?_)) (by repeat' (first|exact trivial|refine And.intro (.inr rfl) ?_)) ?_
   rintro ⟨j, u2, c2⟩ ⟨hj, hf2, hS3, hE3⟩
   dsimp only at hj hf2 hS3 hE3 ⊢
   have hsm2 : ∀ z, Sm u2[z]! := s7 hS3 (fun i A h => h.1) htl
   have hul2 := hS3.1
   have hz : j < pts[k]!.next.length → 0 ≤ pts[k]!.next[j]! ∧ pts[k]!.next[j]! < pts.length := fun h => w.nx k hkn _ (cK _ _ h)
   repeat' (first|(apply aL;first|(apply aE;rfl;rfl)|(first|(apply eG;(case hx|hH => rfl);(case hf|hg|hα => infer_instance);(case hk => omega);(case hc|hN => rfl))|(apply aN;rfl;rfl;rfl;rfl))|(first|(apply gM;rfl;rfl;infer_instance;infer_instance;infer_instance;rfl)|(apply xM;rfl;rfl;infer_instance;infer_instance;infer_instance;rfl)|(apply bR;rfl;rfl;omega;rfl)|(apply aT;rfl;rfl;rfl;rfl))|(apply aC;rfl;rfl)|(first|(apply aZ;(case hx|hi => rfl);(case hm => (omega));(case hml => (rfl));(case hα | hf|hg => infer_instance);(case hN => rfl))|(apply cR;rfl;rfl;(omega);rfl))|(apply aF;kernel_rfl)|(apply aX;rfl;rfl;rfl;rfl;rfl;(rw [aQ]; simp only [fY] <;> omega);(exact uL (by (omega)))))|(apply aM;first|apply aH|apply aB|(apply cA;rfl;(rfl))|(apply aO;rfl;all_goals intro hc;have hq:=hc;(try simp only [cJ] at hq);try exfalso;omega)|apply aK|apply aS|apply bG)|with_reducible apply aA|with_reducible apply bH|with_reducible apply aW|with_reducible apply bF)
   ·have hzz := hz (by omega)
    have hed : eQ pts k (pts[k]!.next[j]!).toNat := ⟨hkn, by rw [Int.toNat_of_nonneg hzz.1]; exact cK _ _ (by omega)⟩
    have hne : Kx u2[(pts[k]!.next[j]!).toNat]! (iU ts pts[k]! u[k]!) ≠ u2[(pts[k]!.next[j]!).toNat]! := fun h => hq (congrArg Int.ofNat h)
    (apply dJ (j + 1, (_, true));focus (refine Le.ren [(0, 0)] rfl (by decide) ?_ ?_ <;> repeat' (first|exact trivial|refine And.intro ⟨_, rfl, ?_⟩ ?_|refine And.intro ⟨_, _, rfl, rfl, ?_⟩ ?_|exact Or.inr rfl|refine Or.inl ⟨?_, (by first|rfl|exact aY _ _|exact Pur.pf|exact PurV.pf)⟩|rfl)))
    ·dsimp only
     refine ⟨by omega, ?_, yI fl w (hS2.2 k hkn) hed hS3, (by rw [eI _ _ _ _ (by rw [hS3.1]; exact fZ w hed)]; split <;> first|exact hE3|(rename_i q;rw [← q, hE3]; exact Nat.zero_and _))⟩
     rw [jR (by omega), ← hf2, xK hne]; rfl
    ·dsimp only;omega
   ·have hzz := hz (by omega)
    have hne : Kx u2[(pts[k]!.next[j]!).toNat]! (iU ts pts[k]! u[k]!) = u2[(pts[k]!.next[j]!).toNat]! := Int.ofNat.inj hq
    (apply dJ (j + 1, (u2, c2));focus (refine Le.ren [(0, 0)] rfl (by decide) ?_ ?_ <;> repeat' (first|exact trivial|refine And.intro ⟨_, rfl, ?_⟩ ?_|refine And.intro ⟨_, _, rfl, rfl, ?_⟩ ?_|exact Or.inr rfl|refine Or.inl ⟨?_, (by first|rfl|exact aY _ _|exact Pur.pf|exact PurV.pf)⟩|rfl)))
    ·dsimp only
     refine ⟨by omega, ?_, hS3, hE3⟩
     rw [jR (by omega), ← hf2, x5 hne]
    ·dsimp only;omega
   ·(apply dJ (k + 1, (u2, c2)); focus (refine Le.ren [(0, 0)] rfl (by decide) ?_ ?_ <;> repeat' (first | exact trivial | refine And.intro ⟨_, rfl, ?_⟩ ?_ | refine And.intro ⟨_, _, rfl, rfl, ?_⟩ ?_ | exact Or.inr rfl | refine Or.inl ⟨?_, (by first | rfl | exact aY _ _ | exact Pur.pf | exact PurV.pf)⟩ | rfl)))
    ·dsimp only
     refine ⟨by omega, ?_, hS3, hE3⟩
     rw [e6, ← hf, hf2, List.take_of_length_le (by rw [lG]; omega)]; rfl
    ·dsimp only;omega
  ·have law := tM w fl s false hS
   have hfull : (u, c) = yA Kx (fun i A => iU ts pts[i]! A) pts (s, false) := by
    rw [hf, show k = pts.length by omega]; rfl
   rw [show yA (fun a s => Kx a s) (fun i A => iU ts pts[i]! A) pts (s, false) = (u, c) from hfull.symm] at law
   (apply dJ (u, c);focus (refine Le.ren [(0, 0)] rfl (by decide) ?_ ?_ <;> repeat' (first|exact trivial|refine And.intro ⟨_, rfl, ?_⟩ ?_|refine And.intro ⟨_, _, rfl, rfl, ?_⟩ ?_|exact Or.inr rfl|refine Or.inl ⟨?_, (by first|rfl|exact aY _ _|exact Pur.pf|exact PurV.pf)⟩|rfl)))
   ·dsimp only
    refine ⟨hS2, hE2, fun h => ?_⟩
    rcases law.2 with ⟨e1, e2⟩ | ⟨e1, _⟩
    ·cases e1;exact e2
    ·dsimp only at e1;rw [h] at e1;cases e1
   ·dsimp only
    have hb : b = true := by assumption
    subst hb
    rcases law.2 with ⟨e1, e2⟩ | ⟨e1, e2⟩
    ·cases e1;simp
    ·dsimp only at e1 e2;subst e1;omega
 ·have hb : b = false := by assumption
  refine cD (Le.frzD (d := 8) (i := 0) rfl rfl) ?_
  refine aP rfl ⟨?_, (by (exact aY _ _))⟩
  simp only [bX]
  rw [DI hA (Hb w hS hE (hC hb))]
end Go.Proofs.YtckihjkcgfphmaaGreat
