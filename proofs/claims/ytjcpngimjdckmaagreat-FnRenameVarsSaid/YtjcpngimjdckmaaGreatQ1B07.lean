/-
 A part of the proofs over this program: rules and contracts of its functions (the contracts).
-/
import Derived.Test.YtjcpngimjdckmaaGreatQ1B06
set_option linter.unusedVariables false
set_option linter.unusedSimpArgs false
set_option maxHeartbeats 8000000
set_option maxRecDepth 4000
attribute [local irreducible] Go.AL.RW Go.AL.AW Go.AL.Stop
namespace Go.Proofs.YtjcpngimjdckmaaGreat
open Go.AL Go.RowKit
theorem Ma (L : List Int) (n : Int) (hl : L.length ≤ 1000000) : PC Tryz.prog 124 [sl cI L, iv n] (fun r => r = bv (decide (n ∈ L))) := by
 (refine aU Tryz.func124 rfl (by simp [Tryz.ntmps124]) ?_; rw [Tryz.ntmps124])
 repeat' (first|(apply aM;first|(apply aC;rfl;rfl)|(apply aF;kernel_rfl))|(apply aN;first|apply aI|apply aB|apply aK)|with_reducible apply aA)
 refine bC (σ := Nat) [0, 1] [(0, _), (1, _)] [] [] (fun k => [(5, iv (k : Int))]) (fun k => []) (fun k => k ≤ L.length ∧ ∀ j, j < k → L[j]! ≠ n) (fun k => L.length - k) (0) ⟨by omega, by omega⟩ rfl rfl (by repeat' (first|exact trivial|refine And.intro rfl ?_)) (by repeat' (exact trivial)) ?_
 rintro k ⟨hk, hall⟩
 repeat' (first|(apply aM;first|(apply aE;rfl;rfl)|(apply aL;rfl;rfl;rfl;rfl)|(first|(apply bU;rfl;rfl;omega;rfl)|(apply aR;rfl;rfl;rfl;rfl))|(apply aC;rfl;rfl)|(apply a7;(case hx|hi => rfl);(case hm => (omega));(case hml => (rfl));(case hα | hf|hg => infer_instance);(case hN => rfl))|(apply a8;rfl;rfl;rfl)|(apply aF;kernel_rfl))|(apply aN;first|apply aI|apply aB|(apply aO;rfl;all_goals intro hc;have hq:=hc;(try simp only [cF] at hq);try exfalso;omega)|apply aK|apply aS|apply bI|apply aQ)|with_reducible apply aA|with_reducible apply bK|with_reducible apply bJ|with_reducible apply aX|with_reducible apply cT|with_reducible apply bH)
 ·refine aP rfl ⟨?_, rfl⟩
  simp only [b9]
  rw [decide_eq_true (by have h := cA L k (by omega);rw [hq] at h;exact h)]
 ·(apply dW (k + 1); focus (refine Le.ren [] rfl (by decide) ?_ ?_ <;> repeat' (first | exact trivial | refine And.intro ⟨_, rfl, ?_⟩ ?_ | refine Or.inl ⟨?_, (by first | rfl | exact aZ _ _)⟩ | rfl)))
  ·exact ⟨by omega, fun j hj => by
    by_cases e : j = k
    ·subst e;exact hq
    ·exact hall j (by omega)⟩
  ·omega
 ·refine aP rfl ⟨?_, rfl⟩
  simp only [b9]
  rw [decide_eq_false]
  intro hm
  obtain ⟨j, hj, e⟩ := List.getElem_of_mem hm
  exact hall j (by omega) (by rw [cK _ _ hj]; exact e)
theorem CV (nm : List Int) (b : Bool) (hl : nm.length ≤ 1000000) (hb : b = true ↔ nmAll nm.length nm) : PC Tryz.prog 76 [sl cI nm] (fun r => r = bv b) := by
 (refine aU Tryz.func76 rfl (by simp [Tryz.ntmps76]) ?_; rw [Tryz.ntmps76])
 repeat' (first|(apply aM;first|(apply aC;rfl;rfl)|(apply aF;kernel_rfl))|(apply aN;first|apply aI|apply aB|apply aK)|with_reducible apply aA)
 refine bC (σ := Nat) [0] [(0, _)] [] [] (fun k => [(3, iv (k : Int))]) (fun k => []) (fun k => k ≤ nm.length ∧ ∀ j : Nat, j < k → (j : Int) ∈ nm) (fun k => nm.length - k) (0) ⟨by omega, by omega⟩ rfl rfl (by repeat' (first|exact trivial|refine And.intro rfl ?_)) (by repeat' (exact trivial)) ?_
 rintro k ⟨hk, hall⟩
 have hh := Ma nm k hl
 repeat' (first|(apply aM;first|((with_reducible apply aJ (k := 124));(case ha => rfl);(case h => exact hh);(case hp => (exact Pur.pf));(case hN => rfl))|(apply aE;rfl;rfl)|(first|(apply bU;rfl;rfl;omega;rfl)|(apply aR;rfl;rfl;rfl;rfl))|(apply aC;rfl;rfl)|(apply a8;rfl;rfl;rfl)|(apply aF;kernel_rfl)|(apply cC;rfl;rfl))|(apply aN;first|apply aI|apply aB|(apply aO;rfl;all_goals intro hc;have hq:=hc;(try simp only [cF] at hq);try exfalso;omega)|apply aK|apply aS|apply bI|apply aQ)|with_reducible apply aA|with_reducible apply bK|with_reducible apply bJ|with_reducible apply aX|with_reducible apply cT|with_reducible apply bH)
 ·refine aP rfl ⟨?_, rfl⟩
  have : b = false := by
   cases q : b with
   | false => rfl
   | true => exact absurd (hb.1 q k (by omega)) hq
  rw [this]; rfl
 ·(apply dW (k + 1); focus (refine Le.ren [] rfl (by decide) ?_ ?_ <;> repeat' (first | exact trivial | refine And.intro ⟨_, rfl, ?_⟩ ?_ | refine Or.inl ⟨?_, (by first | rfl | exact aZ _ _)⟩ | rfl)))
  ·exact ⟨by omega, fun j hj => by
    by_cases e : j = k
    ·subst e;exact hq
    ·exact hall j (by omega)⟩
  ·omega
 ·refine aP rfl ⟨?_, rfl⟩
  have : b = true := hb.2 fun j hj => hall j (by omega)
  rw [this]; rfl
theorem Jq {xs : List AL.Stmt} {k : Nat} {t : List AL.Stmt} (hk : k < xs.length) : iJ (aH aV xs) (0 + k * 6 + 4) [sl aV t] = aH aV (xs.set k (.mk xs[k]!.op xs[k]!.x xs[k]!.y xs[k]!.n t xs[k]!.el)) := fH hk (by simp) (by rw [dJ, dJ]; rfl)
theorem Ka {xs : List AL.Stmt} {k : Nat} {t : List AL.Stmt} (hk : k < xs.length) : iJ (aH aV xs) (0 + k * 6 + 5) [sl aV t] = aH aV (xs.set k (.mk xs[k]!.op xs[k]!.x xs[k]!.y xs[k]!.n xs[k]!.th t)) := fH hk (by simp) (by rw [dJ, dJ]; rfl)
theorem CJ (ts nm : List Int) (N : NmS ts nm) (mm : Nat) (hmm : mm ≤ 1000000) (ren_ih : ∀ l d, okL ts d l = true → bQ l < mm → PC Tryz.prog 77 [sl aV l, sl cI nm] (fun r => r = sl aV (kG (qB nm) l))) (l : List AL.Stmt) (d : Nat) (ho : okL ts d l = true) (hs : bQ l ≤ mm) : PC Tryz.prog 77 [sl aV l, sl cI nm] (fun r => r = sl aV (kG (qB nm) l)) := by
 have hlen := dI l
 have hnl := N.l
 (refine aU Tryz.func77 rfl (by simp [Tryz.ntmps77]) ?_; rw [Tryz.ntmps77])
 repeat' (first|(apply aM;first|(apply uJ;rfl;(apply w9;omega);rfl;rfl)|(apply aE;rfl;rfl)|(apply aC;rfl;rfl)|(apply aF;kernel_rfl))|(apply aN;first|apply aI|apply aB|apply aK)|with_reducible apply aA)
 refine bC (σ := Nat × List AL.Stmt) [1] [(1, _)] [] [] (fun k => [(6, iv (k.1 : Int)), (5, .own 0 0 l.length 6)]) (fun k => [(0, some (aH aV k.2))]) (fun k => k.1 ≤ l.length ∧ k.2 = kG (qB nm) (l.take k.1) ++ l.drop k.1) (fun k => l.length - k.1) (0, l) ⟨by omega, rfl⟩ rfl rfl (by repeat' (first|exact trivial|refine And.intro rfl ?_)) (by repeat' (first|exact trivial|refine And.intro (.inr rfl) ?_)) ?_
 rintro ⟨k, xs⟩ ⟨hk, hxs⟩
 dsimp only at hk hxs ⊢
 have hck := eS l k
 have hct := gB l[k]!
 have hxl : xs.length = l.length := by rw [hxs, List.length_append, lJ, List.length_take, List.length_drop]; omega
 by_cases hkl : k < l.length
 ·have hxk : xs[k]! = l[k]! := by
   rw [hxs, CR, lJ, List.length_take, if_neg (by omega), show k - min k l.length = 0 by omega, hU _ _ hkl]; rfl
  obtain ⟨u1, u2, u3, u4, ⟨e, u5, u6⟩, u7⟩ := C4 N.t (Bm ho hkl)
  have y1 := fun h => N.at (u3 h).1 (u3 h).2
  have y2 := fun h h2 => N.at (u4 h h2).1 (u4 h h2).2
  have hck' := hck hkl
  rw [← hxk] at u1 u2 u3 u4 u5 u6 y1 y2 hct hck'
  have sg : ∀ z, (xs.set k z)[k]! = z := fun z => by rw [dS, if_pos ⟨rfl, by omega⟩]
  have nl : xs[k]!.op ≤ 8 → xs[k]!.th = [] ∧ xs[k]!.el = [] := fun h => by
   have := Bm ho hkl
   rw [← hxk, jD, if_pos ⟨by omega, by omega⟩, Bool.and_eq_true, Bool.and_eq_true] at this
   exact ⟨by simpa using this.1.1, by simpa using this.1.2⟩
  have fin : ∀ z, z = yO (qB nm) xs[k]! → xs.set k z = kG (qB nm) (l.take (k + 1)) ++ l.drop (k + 1) := fun z hz => by
   have e1 : (kG (qB nm) (l.take k)).length = k := by rw [lJ, List.length_take]; omega
   rw [hz, hxk, cY l k hkl, sG, hxs, hU _ _ hkl]
   have := o5 (kG (qB nm) (l.take k)) l[k]! (yO (qB nm) l[k]!) (l.drop (k + 1))
   rw [e1] at this
   rw [this, List.append_assoc]; rfl
  repeat' (first|(apply aM;first|(apply aW;rfl;rfl;rfl;rfl;rfl;(rw [aT aV (e := 6)]; (try simp only [List.length_set]);(show _ + 1 ≤ _);omega);(first|exact Jq (by omega)|exact Ka (by rw [List.length_set]; omega)))|(apply aE;rfl;rfl)|(first|(apply fZ;(case hx|hH => rfl);(case hf|hg|hα => infer_instance);(case hk => omega);(case h0|hN => rfl))|(apply aL;rfl;rfl;rfl;rfl))|(apply aD;rfl;rfl;rfl)|(first|(apply a6;rfl;rfl;rfl;(assumption))|(apply bD;rfl;rfl;rfl;(first|rfl|assumption))|(apply bO;(case hj|hb|hN => rfl);all_goals (intro hg;have hq := hg;(try simp only [cF] at hq);(try (exfalso;omega)))))|(first|(apply bU;rfl;rfl;omega;rfl)|(apply aR;rfl;rfl;rfl;rfl))|(apply aC;rfl;rfl)|(first|(apply bR;rfl;(assumption);rfl;rfl)|(apply bF;rfl;(first|rfl|assumption);rfl;rfl))|(first|(apply cL;rfl;rfl;(assumption);rfl)|(apply dA;(case hx|hi => rfl);(case hm => (omega));(case hml => (rfl));(case hα | hf|hg => infer_instance);(case hN => rfl)))|((with_reducible apply aJ (k := 77));(case ha => rfl);(case h => (apply ren_ih <;> (first|assumption|omega)));(case hp => (exact Pur.pf));(case hN => rfl))|(apply a8;rfl;rfl;rfl)|(apply aF;kernel_rfl)|(apply bE;rfl;rfl)|(apply aW;rfl;rfl;rfl;rfl;rfl;(case hl => (first|(rw [aT]; simp only [gX] <;> omega)|(simp;done)));(first|exact Ja (by (first|assumption|omega))|exact I8 (by (first|assumption|(simp only [gX] <;> omega)))|exact (rfl:_=[_, _, _, _, _, _]))))|(apply aN;first|apply aI|apply aB|(apply bZ;rfl;(rfl))|(apply cS;rfl;(rfl))|(apply aO;rfl;all_goals intro hc;have hq:=hc;(try simp only [cF] at hq);try exfalso;omega)|apply aK|apply aS|apply bI)|with_reducible apply aA|with_reducible apply bJ|with_reducible apply aX|with_reducible apply bH)
  ·(apply dW (k + 1, _); focus (refine Le.ren [(0, 0)] rfl (by decide) ?_ ?_ <;> repeat' (first | exact trivial | refine And.intro ⟨_, rfl, ?_⟩ ?_ | refine And.intro ⟨_, _, rfl, rfl, ?_⟩ ?_ | exact Or.inr rfl | refine Or.inl ⟨?_, (by first | rfl | exact aZ _ _)⟩ | rfl)))
   ·refine ⟨by dsimp only; omega, ?_⟩
    dsimp only
    simp only [sg, List.set_set, uX, uY]
    refine fin _ ?_
    rw [k6]
    first
     | (rw [if_neg (by omega), if_neg (by omega)]; rfl)
     | (rw [if_pos (by omega), if_pos (by omega), y1 (by omega), y2 (by omega) (by omega), (nl (by omega)).1, (nl (by omega)).2]; rfl)
     | (rw [if_pos (by omega), if_neg (by omega), y1 (by omega), (nl (by omega)).1, (nl (by omega)).2]; rfl)
   ·dsimp only;omega
  ·(apply dW (k + 1, _); focus (refine Le.ren [(0, 0)] rfl (by decide) ?_ ?_ <;> repeat' (first | exact trivial | refine And.intro ⟨_, rfl, ?_⟩ ?_ | refine And.intro ⟨_, _, rfl, rfl, ?_⟩ ?_ | exact Or.inr rfl | refine Or.inl ⟨?_, (by first | rfl | exact aZ _ _)⟩ | rfl)))
   ·refine ⟨by dsimp only; omega, ?_⟩
    dsimp only
    simp only [sg, List.set_set, uX, uY]
    refine fin _ ?_
    rw [k6]
    first
     | (rw [if_neg (by omega), if_neg (by omega)]; rfl)
     | (rw [if_pos (by omega), if_pos (by omega), y1 (by omega), y2 (by omega) (by omega), (nl (by omega)).1, (nl (by omega)).2]; rfl)
     | (rw [if_pos (by omega), if_neg (by omega), y1 (by omega), (nl (by omega)).1, (nl (by omega)).2]; rfl)
   ·dsimp only;omega
  ·(apply dW (k + 1, _); focus (refine Le.ren [(0, 0)] rfl (by decide) ?_ ?_ <;> repeat' (first | exact trivial | refine And.intro ⟨_, rfl, ?_⟩ ?_ | refine And.intro ⟨_, _, rfl, rfl, ?_⟩ ?_ | exact Or.inr rfl | refine Or.inl ⟨?_, (by first | rfl | exact aZ _ _)⟩ | rfl)))
   ·refine ⟨by dsimp only; omega, ?_⟩
    dsimp only
    simp only [sg, List.set_set, uX, uY]
    refine fin _ ?_
    rw [k6]
    first
     | (rw [if_neg (by omega), if_neg (by omega)]; rfl)
     | (rw [if_pos (by omega), if_pos (by omega), y1 (by omega), y2 (by omega) (by omega), (nl (by omega)).1, (nl (by omega)).2]; rfl)
     | (rw [if_pos (by omega), if_neg (by omega), y1 (by omega), (nl (by omega)).1, (nl (by omega)).2]; rfl)
   ·dsimp only;omega
  ·(apply dW (k + 1, _); focus (refine Le.ren [(0, 0)] rfl (by decide) ?_ ?_ <;> repeat' (first | exact trivial | refine And.intro ⟨_, rfl, ?_⟩ ?_ | refine And.intro ⟨_, _, rfl, rfl, ?_⟩ ?_ | exact Or.inr rfl | refine Or.inl ⟨?_, (by first | rfl | exact aZ _ _)⟩ | rfl)))
   ·refine ⟨by dsimp only; omega, ?_⟩
    dsimp only
    simp only [sg, List.set_set, uX, uY]
    refine fin _ ?_
    rw [k6]
    first
     | (rw [if_neg (by omega), if_neg (by omega)]; rfl)
     | (rw [if_pos (by omega), if_pos (by omega), y1 (by omega), y2 (by omega) (by omega), (nl (by omega)).1, (nl (by omega)).2]; rfl)
     | (rw [if_pos (by omega), if_neg (by omega), y1 (by omega), (nl (by omega)).1, (nl (by omega)).2]; rfl)
   ·dsimp only;omega
  ·(apply dW (k + 1, _); focus (refine Le.ren [(0, 0)] rfl (by decide) ?_ ?_ <;> repeat' (first | exact trivial | refine And.intro ⟨_, rfl, ?_⟩ ?_ | refine And.intro ⟨_, _, rfl, rfl, ?_⟩ ?_ | exact Or.inr rfl | refine Or.inl ⟨?_, (by first | rfl | exact aZ _ _)⟩ | rfl)))
   ·refine ⟨by dsimp only; omega, ?_⟩
    dsimp only
    simp only [sg, List.set_set, uX, uY]
    refine fin _ ?_
    rw [k6]
    first
     | (rw [if_neg (by omega), if_neg (by omega)]; rfl)
     | (rw [if_pos (by omega), if_pos (by omega), y1 (by omega), y2 (by omega) (by omega), (nl (by omega)).1, (nl (by omega)).2]; rfl)
     | (rw [if_pos (by omega), if_neg (by omega), y1 (by omega), (nl (by omega)).1, (nl (by omega)).2]; rfl)
   ·dsimp only;omega
  ·(apply dW (k + 1, _); focus (refine Le.ren [(0, 0)] rfl (by decide) ?_ ?_ <;> repeat' (first | exact trivial | refine And.intro ⟨_, rfl, ?_⟩ ?_ | refine And.intro ⟨_, _, rfl, rfl, ?_⟩ ?_ | exact Or.inr rfl | refine Or.inl ⟨?_, (by first | rfl | exact aZ _ _)⟩ | rfl)))
   ·refine ⟨by dsimp only; omega, ?_⟩
    dsimp only
    simp only [sg, List.set_set, uX, uY]
    refine fin _ ?_
    rw [k6]
    first
     | (rw [if_neg (by omega), if_neg (by omega)]; rfl)
     | (rw [if_pos (by omega), if_pos (by omega), y1 (by omega), y2 (by omega) (by omega), (nl (by omega)).1, (nl (by omega)).2]; rfl)
     | (rw [if_pos (by omega), if_neg (by omega), y1 (by omega), (nl (by omega)).1, (nl (by omega)).2]; rfl)
   ·dsimp only;omega
 ·repeat' (first | (apply aM; first | (apply aE;rfl;rfl) | (apply aR;rfl;rfl;rfl;rfl) | (apply aC;rfl;rfl) | (apply a8;rfl;rfl;rfl) | (apply aF;kernel_rfl)) | (apply aN; first | apply aI | apply aB | (apply aO;rfl;all_goals intro hc;have hq:=hc;(try simp only [cF] at hq);try exfalso;omega) | apply bI | apply aQ) | with_reducible apply aA | with_reducible apply bJ | with_reducible apply bH)
  have hke : k = l.length := by omega
  (refine cE (Le.frzD (d := 4) (i := 0) rfl rfl) ?_; refine aP rfl ?_)
  refine ⟨?_, Pur.pf⟩
  rw [hxs, hke, List.take_length, List.drop_length, List.append_nil]
  simp only [b9, sl, lJ]
theorem FN (ts nm : List Int) (N : NmS ts nm) (l : List AL.Stmt) (d : Nat) (ho : okL ts d l = true) (hb : bQ l ≤ 1000000) : PC Tryz.prog 77 [sl aV l, sl cI nm] (fun r => r = sl aV (kG (qB nm) l)) := by
 have key : ∀ m, m ≤ 1000000 → ∀ l d, okL ts d l = true → bQ l ≤ m → PC Tryz.prog 77 [sl aV l, sl cI nm] (fun r => r = sl aV (kG (qB nm) l)) := by
  intro m
  induction m with
  | zero => intro hm l d ho hl;exact CJ ts nm N 0 hm (fun l d _ h => by omega) l d ho hl
  | succ m ih => intro hm l d ho hl;exact CJ ts nm N (m + 1) hm (fun l d ho h => ih (by omega) l d ho (by omega)) l d ho hl
 exact key (bQ l) hb l d ho (Nat.le_refl _)
theorem Kv (p : Prg) (nm : List Int) (b : Bool) (hv : cQ p = true) (hl : nm.length = p.types.length) (hb : b = true ↔ nmOk p.types.length nm) : PC Tryz.prog 30 [dD p, sl cI nm] (fun r => r = .tup [dD (xU p nm b), bv b]) := by
 have hts : cR p.types = true := by unfold cQ at hv;simp only [Bool.and_eq_true] at hv;exact hv.1.1
 have hok : okL p.types 4 p.body = true := by unfold cQ at hv;simp only [Bool.and_eq_true] at hv;exact hv.1.2
 have hcn : bQ p.body ≤ 30 := by unfold cQ at hv;simp only [Bool.and_eq_true, decide_eq_true_eq] at hv;exact hv.2
 have htl := fF hts
 have hval := l9 p (by omega) (by omega)
 rw [hv] at hval
 have hn := CV nm b (by omega) (by rw [hb, hl]; exact ⟨fun h => h.all hl, fun h => h.ok hl⟩)
 cases b with
 | false =>
  (refine aU Tryz.func30 rfl (by simp [Tryz.ntmps30]) ?_; rw [Tryz.ntmps30])
  repeat' (first|(apply aM;first|((with_reducible apply aJ (k := 57));(case ha => rfl);(case h => exact hval);(case hp => (exact Pur.pf));(case hN => rfl))|((with_reducible apply aJ (k := 76));(case ha => rfl);(case h => exact hn);(case hp => (exact Pur.pf));(case hN => rfl))|(apply aE;rfl;rfl)|(first|(apply aL;rfl;rfl;rfl;rfl)|(apply aY;rfl;rfl;(exact (rfl:_=[_, _]));rfl;rfl;rfl))|(apply aD;rfl;rfl;rfl)|(first|(apply a6;rfl;rfl;rfl;(first|rfl|assumption))|(apply bO;(case hj|hb|hN => rfl);all_goals (intro hg;have hq := hg;(try simp only [cF] at hq);(try (exfalso;omega)))))|(apply aR;rfl;rfl;rfl;rfl)|(apply aC;rfl;rfl)|(apply bF;rfl;(first|rfl|assumption);rfl;rfl)|(apply a8;rfl;rfl;rfl)|(apply aF;kernel_rfl)|(apply bV;rfl;(exact (rfl:_=some [_, _]));(exact (rfl:_=[_, _]));rfl)|(apply cC;rfl;rfl)|(apply b0;rfl;rfl;rfl;rfl)|(apply bE;rfl;rfl)|(apply aW;rfl;rfl;rfl;rfl;rfl;(decide);(exact (rfl:_=[_, _]))))|(apply aN;first|apply aI|apply aB|(apply bZ;rfl;(rfl))|apply aQ)|with_reducible apply aA|with_reducible apply bK)
  exact aP (l := [.agg [.imm 0 [], .imm 0 []], bv false]) rfl ⟨rfl, rfl⟩
 | true =>
  have hall := hb.1 rfl
  have hren := FN p.types nm ⟨hts, hl, fun v hv => (hall v hv).1⟩ p.body 4 hok (by omega)
  (refine aU Tryz.func30 rfl (by simp [Tryz.ntmps30]) ?_; rw [Tryz.ntmps30])
  repeat' (first|(apply aM;first|((with_reducible apply aJ (k := 57));(case ha => rfl);(case h => exact hval);(case hp => (exact Pur.pf));(case hN => rfl))|((with_reducible apply aJ (k := 76));(case ha => rfl);(case h => exact hn);(case hp => (exact Pur.pf));(case hN => rfl))|((with_reducible apply aJ (k := 77));(case ha => rfl);(case h => exact hren);(case hp => (exact Pur.pf));(case hN => rfl))|((apply dV (d := 28));(case hx|hy|hze => rfl);(case hsm => omega);(case hmx => omega);(case hcs => exact Fo);(case hM|hN => rfl))|(apply aE;rfl;rfl)|(first|(apply aL;rfl;rfl;rfl;rfl)|(apply aY;rfl;rfl;(exact (rfl:_=[_, _]));rfl;rfl;rfl))|(apply aD;rfl;rfl;rfl)|(first|(apply a6;rfl;rfl;rfl;(first|rfl|assumption))|(apply bO;(case hj|hb|hN => rfl);all_goals (intro hg;have hq := hg;(try simp only [cF] at hq);(try (exfalso;omega)))))|(apply aR;rfl;rfl;rfl;rfl)|(apply aC;rfl;rfl)|(apply bF;rfl;(first|rfl|assumption);rfl;rfl)|(apply a8;rfl;rfl;rfl)|(apply aF;kernel_rfl)|(apply bV;rfl;(exact (rfl:_=some [_, _]));(exact (rfl:_=[_, _]));rfl)|(apply cC;rfl;rfl)|(apply b0;rfl;rfl;rfl;rfl)|(apply bE;rfl;rfl)|(apply aW;rfl;rfl;rfl;rfl;rfl;(case hl => (simp;done));(exact (rfl:_=[_, _]))))|(apply aN;first|apply aI|apply aB|(apply b8;kernel_rfl)|(apply cS;rfl;(rfl))|apply aK|apply aS)|with_reducible apply aA)
  refine bC (σ := Nat) [1, 2, 4, 6] [(1, _), (2, _), (4, _), (6, _)] [0, 1, 3] [(0, some _), (1, some _), (3, some _)] (fun k => [(7, iv (k : Int))]) (fun k => [(2, some (aH cI (Eu p.types nm k)))]) (fun k => k ≤ nm.length) (fun k => nm.length - k) (0) (Nat.zero_le _) rfl rfl (by repeat' (first|exact trivial|refine And.intro rfl ?_)) (by repeat' (first|exact trivial|refine And.intro (.inr rfl) ?_)) ?_
  rintro k hk
  have hpl := j3 p.types nm k
  by_cases hkn : k < nm.length
  ·have hak := hall k (by omega)
   repeat' (first|(apply aM;first|(apply aE;rfl;rfl)|(apply aL;rfl;rfl;rfl;rfl)|(apply aD;rfl;rfl;rfl)|(first|(apply bU;rfl;rfl;omega;rfl)|(apply aR;rfl;rfl;rfl;rfl))|(apply aC;rfl;rfl)|(first|(apply a7;(case hx|hi => rfl);(case hm => (first|assumption|omega));(case hml => (rfl));(case hα | hf|hg => infer_instance);(case hN => rfl))|(apply cP;rfl;rfl;(omega);rfl))|(apply a8;rfl;rfl;rfl)|(apply aF;kernel_rfl)|(apply aW;rfl;rfl;rfl;rfl;rfl;(rw [aT]; simp only [gX] <;> omega);(exact Br (by (omega)))))|(apply aN;first|apply aI|apply aB|(apply b8;kernel_rfl)|(apply aO;rfl;all_goals intro hc;have hq:=hc;(try simp only [cF] at hq);try exfalso;omega)|apply aK|apply aS)|with_reducible apply aA|with_reducible apply aX)
   (apply dW (k + 1);focus (refine Le.ren [(0, 0), (1, 1), (2, 2), (3, 3)] rfl (by decide) ?_ ?_ <;> repeat' (first|exact trivial|refine And.intro ⟨_, rfl, ?_⟩ ?_|refine And.intro ⟨_, _, rfl, rfl, ?_⟩ ?_|exact Or.inr rfl|refine Or.inl ⟨?_, (by first|rfl|exact aZ _ _|exact Pur.pf)⟩|refine Or.inr (All2.cons ?_ ?_)|refine All2.cons ?_ ?_|exact All2.nil|rfl)))
   ·exact hkn
   ·omega
  ·have hkl : k = p.types.length := by omega
   subst hkl
   repeat' (first|(apply aM;first|(apply aE;rfl;rfl)|(apply aY;rfl;rfl;(exact (rfl:_=[_, _]));rfl;rfl;rfl)|(apply aR;rfl;rfl;rfl;rfl)|(apply aC;rfl;rfl)|(apply a8;rfl;rfl;rfl)|(apply aF;kernel_rfl)|(apply aW;rfl;rfl;rfl;rfl;rfl;(case hl => (simp;done));(exact (rfl:_=[_, _]))))|(apply aN;first|apply aI|apply aB|(apply aO;rfl;all_goals intro hc;have hq:=hc;(try simp only [cF] at hq);try exfalso;omega)|apply bI|apply aQ)|with_reducible apply aA|with_reducible apply bJ|with_reducible apply bH)
   refine cE (Le.frzC (j := 1) (i := 2) [] rfl rfl (by decide)) ?_
   refine aP (l := [.agg [.imm p.types.length (aH cI (Eu p.types nm p.types.length)), sl aV (kG (qB nm) p.body)], bv true]) rfl ⟨?_, (by (exact Pur.pf))⟩
   rw [xU, if_pos rfl]
   show AV.tup [.agg [.imm p.types.length _, _], _] = AV.tup [dD ⟨Eu p.types nm p.types.length, _⟩, _]
   unfold dD sl
   rw [j3]
theorem H4 (q : Prg) (k : Nat) (h1 : bQ q.body ≤ 20000) (h2 : q.types.length ≤ 1000) (hk : k ≤ 1000) (Z : List Int) (h : Z.length = k) : (∃ (q' : Prg) (nm : List Int), b9 [dD q, .imm k (aH cI Z)] = .tup [dD q', sl cI nm] ∧ bQ q'.body ≤ 20000 ∧ q'.types.length ≤ 1000 ∧ nm.length ≤ 1000) ∧ (b9 [dD q, .imm k (aH cI Z)]).pur = true := by
 have e : b9 [dD q, .imm k (aH cI Z)] = .tup [dD q, sl cI Z] := by show AV.tup [_, _] = _; unfold sl;rw [h]
 exact ⟨⟨q, Z, e, h1, h2, by omega⟩, by rw [e]; exact PurV.pf⟩
theorem DQ (bs : List UInt8) (hb : bs.length ≤ 1048576) : PC Tryz.prog 28 [sl cU bs] (fun r => ∃ (q : Prg) (nm : List Int), r = .tup [dD q, sl cI nm] ∧ bQ q.body ≤ 20000 ∧ q.types.length ≤ 1000 ∧ nm.length ≤ 1000) := by
 have hb2 : (bs.take 2000).length ≤ 2000 := by rw [List.length_take]; omega
 (refine aU Tryz.func28 rfl (by simp [Tryz.ntmps28]) ?_; rw [Tryz.ntmps28])
 repeat' (first|(apply aM;first|((with_reducible apply hZ (k := 74));(case h => exact BL (bs.take 2000) 0 hb2 (by decide));(case ha|hpv|hH|hM|hN => rfl);(rintro ⟨q, p1⟩ ⟨hq1, hq2, hq3⟩);(dsimp only at hq1 hq2 hq3))|((with_reducible apply hZ (k := 73));(case h => exact sF (bs.take 2000) p1 q hb2 (by omega) (by omega) (by omega));(case ha => rfl);(case hpv => exact Pur.pf);(case hH|hM|hN => rfl);(rintro ⟨q2, p2⟩ ⟨hr1, hr2, hr3⟩);(dsimp only at hr1 hr2 hr3);(have hln := dI q2.body))|(apply aE;rfl;rfl)|(apply aC;rfl;rfl)|(apply k5;rfl;(apply mV <;> (assumption));rfl;rfl)|(apply aF;kernel_rfl)|(apply bE;rfl;rfl)|(apply cG;rfl;rfl;rfl;(rfl);rfl;rfl)|(apply aW;rfl;rfl;rfl;rfl;rfl;(case hl => (simp;done));(exact (rfl:_=[_, _]))))|(apply aN;first|apply aI|apply aB|apply aK)|with_reducible apply aA)
 refine bC (σ := Nat × List Int) [2, 4, 5] [(2, _), (4, _), (5, _)] [0, 1, 2] [(0, some _), (1, some _), (2, some _)] (fun k => [(7, iv (k.1 : Int)), (6, .own 3 0 k.1 1)]) (fun k => [(3, some (aH cI k.2))]) (fun k => k.1 ≤ q2.types.length ∧ k.1 = k.2.length) (fun k => q2.types.length - k.1) (0, []) ⟨Nat.zero_le _, rfl⟩ rfl rfl (by repeat' (first|exact trivial|refine And.intro rfl ?_)) (by repeat' (first|exact trivial|refine And.intro (.inr rfl) ?_)) ?_
 rintro ⟨k, xs⟩ ⟨hk, hx⟩
 dsimp only at hk hx ⊢
 by_cases hkn : k < q2.types.length
 ·repeat' (first | (apply aM; first | (apply aE;rfl;rfl) | (apply aL;rfl;rfl;rfl;rfl) | (apply aD;rfl;rfl;rfl) | (first | (apply bU;rfl;rfl;omega;rfl) | (apply aR;rfl;rfl;rfl;rfl)) | (apply aC;rfl;rfl) | (first | (apply a8;rfl;rfl;rfl) | (apply cH;rfl;rfl;rfl;rfl;rfl;(rw [aT]; omega);(rfl);omega;omega;(exact j1 (by (assumption)));rfl;rfl)) | (apply aF;kernel_rfl) | ((apply bS (t := _)); (case hze | hsm | hl => rfl); (case hfl => exact (rfl:_=some [_])); (case hM | hN => rfl))) | (apply aN; first | apply aI | apply aB | (apply aO;rfl;all_goals intro hc;have hq:=hc;(try simp only [cF] at hq);try exfalso;omega) | apply aK | apply aS) | with_reducible apply aA | with_reducible apply aX)
  (apply dW (k + 1, xs ++ [(k : Int)]);focus (refine Le.ren [(0, 0), (1, 1), (2, 2), (3, 5)] rfl (by decide) ?_ ?_ <;> repeat' (first|exact trivial|refine And.intro ⟨_, rfl, ?_⟩ ?_|refine And.intro ⟨_, _, rfl, rfl, ?_⟩ ?_|exact Or.inr rfl|refine Or.inl ⟨?_, (by first|rfl|exact aZ _ _|exact Pur.pf)⟩|rfl)))
  ·exact ⟨hkn, by dsimp only;rw [List.length_append, ← hx]; rfl⟩
  ·dsimp only;omega
 ·have hkk : k = q2.types.length := by omega
  have h4 := eU (bs.take 2000) p2 4
  repeat' (first|(apply aM;first|(apply aE;rfl;rfl)|(apply aL;rfl;rfl;rfl;rfl)|(apply aD;rfl;rfl;rfl)|(apply aR;rfl;rfl;rfl;rfl)|(apply aC;rfl;rfl)|(apply iB;rfl;rfl;(rfl);(apply kD <;> (first|assumption|omega));rfl;rfl)|(apply a8;rfl;rfl;rfl)|(apply aF;kernel_rfl))|(apply aN;first|apply aI|apply aB|(apply aO;rfl;all_goals intro hc;have hq:=hc;(try simp only [cF] at hq);try exfalso;omega)|apply aK|apply bI)|with_reducible apply aA|with_reducible apply bJ|with_reducible apply bH)
  refine bC (σ := Int × List Int × Nat) [2, 4, 5] [(2, _), (4, _), (5, _)] [0, 2] [(0, some _), (2, some _)] (fun s => [(8, iv s.1), (6, .own 3 0 k 1)]) (fun s => [(1, some (e5 (bs.take 2000) s.2.2)), (3, some (aH cI s.2.1))]) (fun s => (0 ≤ s.1 ∧ s.1 ≤ 3) ∧ s.2.1.length = k ∧ (s.2.2 : Int) ≤ p2 + 7 - 2 * s.1) (fun s => s.1.toNat) (cV (bs.take 2000) p2 4, xs, p2 + 1) ⟨⟨h4.1, by dsimp only;omega⟩, hx.symm, by dsimp only;omega⟩ rfl rfl (by repeat' (first|exact trivial|refine And.intro rfl ?_)) (by repeat' (first|exact trivial|refine And.intro (.inr rfl) ?_)) ?_
  rintro ⟨i, ys, pos⟩ ⟨⟨hi0, hi3⟩, hy, hpos⟩
  dsimp only at hi0 hi3 hy hpos ⊢
  have pa := eU (bs.take 2000) pos (k : Int)
  have pb := eU (bs.take 2000) (pos + 1) (k : Int)
  repeat' (first|(apply aM;first|(apply aE;rfl;rfl)|(first|(apply eQ;(case hx|hH => rfl);(case hf|hg|hα => infer_instance);(case hk => omega);(case hc|hN => rfl))|(apply aY;rfl;rfl;(exact (rfl:_=[_, _]));rfl;rfl;rfl))|(first|(apply a6;rfl;rfl;rfl;(assumption))|(apply bD;rfl;rfl;rfl;(assumption))|(apply bO;(case hj|hb|hN => rfl);all_goals (intro hg;have hq := hg;(try simp only [cF] at hq);(try (exfalso;omega)))))|(first|(apply fU;rfl;rfl;omega;rfl)|(apply aR;rfl;rfl;rfl;rfl))|(apply aC;rfl;rfl)|(first|(apply bR;rfl;(assumption);rfl;rfl)|(apply bF;rfl;(assumption);rfl;rfl))|(apply cP;rfl;rfl;(omega);rfl)|(first|(apply iB;rfl;rfl;(rfl);(apply kD <;> (first|assumption|omega));rfl;rfl)|(apply mX;rfl;rfl;rfl;rfl;infer_instance;rfl;(rfl);assumption;omega;(decide);(decide);rfl;rfl))|(apply a8;rfl;rfl;rfl)|(apply aF;kernel_rfl)|(apply cG;rfl;rfl;rfl;(exact (rfl:_=some [_, _, _]));rfl;rfl)|(apply aW;rfl;rfl;rfl;rfl;rfl;(case hl => (first|(rw [aT]; simp only [gX] <;> omega)|(simp;done)));(first|exact Br (by (first|omega|(simp only [gX] <;> omega)))|exact (rfl:_=[_, _]))))|(apply aN;first|apply aI|apply aB|(apply cS;rfl;(rfl))|(apply aO;rfl;all_goals intro hc;have hq:=hc;(try simp only [cF] at hq);try exfalso;omega)|apply aK|apply aS|apply bI|apply aQ)|with_reducible apply aA|with_reducible apply bJ|with_reducible apply aX|with_reducible apply bH)
  ·(apply dW (i - 1, _, pos + 1 + 1); focus (refine Le.ren [(0, 0), (1, 1), (2, 2), (3, 3)] rfl (by decide) ?_ ?_ <;> repeat' (first | exact trivial | refine And.intro ⟨_, rfl, ?_⟩ ?_ | refine And.intro ⟨_, _, rfl, rfl, ?_⟩ ?_ | exact Or.inr rfl | refine Or.inl ⟨?_, (by first | rfl | exact aZ _ _ | exact Pur.pf)⟩ | rfl)))
   ·exact ⟨⟨by dsimp only;omega, by dsimp only;omega⟩, by dsimp only;rw [List.length_set, List.length_set]; exact hy, by dsimp only;omega⟩
   ·dsimp only;omega
  all_goals
   refine cE (Le.frzD (d := 3) (i := 3) rfl rfl) ?_
   refine aP (l := [dD q2, .imm k _]) rfl ?_
   refine H4 q2 k (by omega) (by omega) (by omega) _ ?_
   first|exact hy|(rw [List.length_set]; exact hy)
theorem Ik (bs : List UInt8) (hb : bs.length ≤ 1048576) : PC Tryz.prog 45 [sl cU bs] (fun r => ∃ (q : Prg) (k : Int), r = .tup [dD q, iv k] ∧ bQ q.body ≤ 20000 ∧ q.types.length ≤ 1000 ∧ -1 ≤ k ∧ k ≤ 20000) := by
 have hb2 : (bs.take 2000).length ≤ 2000 := by rw [List.length_take]; omega
 (refine aU Tryz.func45 rfl (by simp [Tryz.ntmps45]) ?_; rw [Tryz.ntmps45])
 repeat' (first|(apply aM;first|((with_reducible apply hZ (k := 74));(case h => exact BL (bs.take 2000) 0 hb2 (by decide));(case ha|hpv|hH|hM|hN => rfl);(rintro ⟨q, p1⟩ ⟨hq1, hq2, hq3⟩);(dsimp only at hq1 hq2 hq3))|((with_reducible apply hZ (k := 73));(case h => exact sF (bs.take 2000) p1 q hb2 (by omega) (by omega) (by omega));(case ha => rfl);(case hpv => exact Pur.pf);(case hH|hM|hN => rfl);(rintro ⟨q2, p2⟩ ⟨hr1, hr2, hr3⟩);(dsimp only at hr1 hr2 hr3);(have hln := dI q2.body);(have hpk := fun p => eU (bs.take 2000) p (q2.body.length : Int));(have hn9 := fun p => tF (bs.take 2000) p [0, -1, 40] (-1) 40 (by decide) (by decide)))|(apply aE;rfl;rfl)|(first|(apply aL;rfl;rfl;rfl;rfl)|(apply aY;rfl;rfl;(exact (rfl:_=[_, _]));rfl;rfl;rfl))|(apply aD;rfl;rfl;rfl)|(first|(apply a6;rfl;rfl;rfl;(assumption))|(apply bD;rfl;rfl;rfl;(assumption))|(apply bO;(case hj|hb|hN => rfl);all_goals (intro hg;have hq := hg;(try simp only [cF] at hq);(try (exfalso;omega)))))|(apply aR;rfl;rfl;rfl;rfl)|(apply aC;rfl;rfl)|(first|(apply bR;rfl;(assumption);rfl;rfl)|(apply bF;rfl;(assumption);rfl;rfl))|(first|(apply k5;rfl;(apply mV <;> (assumption));rfl;rfl)|(apply iB;rfl;rfl;(rfl);(apply kD <;> (first|assumption|omega|(simp only [gX] <;> omega)));rfl;rfl)|(apply mX;rfl;rfl;rfl;rfl;infer_instance;rfl;(rfl);assumption;omega;(decide);(decide);rfl;rfl))|(apply a8;rfl;rfl;rfl)|(apply aF;kernel_rfl)|(apply bE;rfl;rfl)|(apply cG;rfl;rfl;rfl;(exact (rfl:_=some [_, _, _]));rfl;rfl)|(apply aW;rfl;rfl;rfl;rfl;rfl;(case hl => (simp;done));(exact (rfl:_=[_, _]))))|(apply aN;first|apply aI|apply aB|(apply b8;kernel_rfl)|(apply bZ;rfl;(rfl))|(apply aO;rfl;all_goals intro hc;have hq:=hc;(try simp only [cF] at hq);try exfalso;omega)|apply aS|apply aQ)|with_reducible apply aA|with_reducible apply bK)
 ·exact aP (l := [dD q2, iv (gP (bs.take 2000) (p2 + 1) [0, -1, 40])]) rfl ⟨⟨q2, _, rfl, by omega, by omega, (hn9 _).1, by have := (hn9 (p2 + 1)).2;omega⟩, Pur.pf⟩
 ·exact aP (l := [dD q2, iv (cV (bs.take 2000) (p2 + 1) (q2.body.length : Int))]) rfl ⟨⟨q2, _, rfl, by omega, by omega, by have := hpk (p2 + 1);omega, by have := hpk (p2 + 1);omega⟩, Pur.pf⟩
 ·exact aP (l := [dD q2, iv (gP (bs.take 2000) p2 [0, -1, 40])]) rfl ⟨⟨q2, _, rfl, by omega, by omega, (hn9 _).1, by have := (hn9 p2).2;omega⟩, Pur.pf⟩
theorem J2 (xs : List Int) (hl : xs.length ≤ 1000000) : PC Tryz.prog 62 [sl cI xs, sl cI xs] (fun r => r = bv true) := by
 (refine aU Tryz.func62 rfl (by simp [Tryz.ntmps62]) ?_; rw [Tryz.ntmps62])
 repeat' (first|(apply aM;first|(apply aE;rfl;rfl)|(apply aR;rfl;rfl;rfl;rfl)|(apply aC;rfl;rfl)|(apply a8;rfl;rfl;rfl)|(apply aF;kernel_rfl))|(apply aN;first|apply aI|apply aB|(apply aO;rfl;all_goals intro hc;have hq:=hc;(try simp only [cF] at hq);try exfalso;omega)|apply aK|apply aS|apply aQ)|with_reducible apply aA|with_reducible apply bK)
 all_goals try exact absurd trivial (by assumption : ¬ True)
 refine bC (σ := Nat) [0, 1, 12] [(0, _), (1, _), (12, _)] [] [] (fun k => [(13, iv (k : Int))]) (fun k => []) (fun k => k ≤ xs.length) (fun k => xs.length - k) (0) (Nat.zero_le _) rfl rfl (by repeat' (first|exact trivial|refine And.intro rfl ?_)) (by repeat' (exact trivial)) ?_
 intro k hk
 repeat' (first|(apply aM;first|(apply aE;rfl;rfl)|(apply aL;rfl;rfl;rfl;rfl)|(first|(apply bU;rfl;rfl;omega;rfl)|(apply aR;rfl;rfl;rfl;rfl))|(apply aC;rfl;rfl)|(apply a7;(case hx|hi => rfl);(case hm => (omega));(case hml => (rfl));(case hα | hf|hg => infer_instance);(case hN => rfl))|(apply aF;kernel_rfl))|(apply aN;first|apply aI|apply aB|(apply b8;kernel_rfl)|(apply aO;rfl;all_goals intro hc;have hq:=hc;(try simp only [cF] at hq);try exfalso;omega)|apply aK|apply aS|apply bI|apply aQ)|with_reducible apply aA|with_reducible apply bK|with_reducible apply bJ|with_reducible apply aX|with_reducible apply cT|with_reducible apply bH)
 all_goals try exact absurd trivial (by assumption : ¬ True)
 ·(apply dW (k + 1); focus (refine Le.ren [] rfl (by decide) ?_ ?_ <;> repeat' (first | exact trivial | refine And.intro ⟨_, rfl, ?_⟩ ?_ | refine Or.inl ⟨?_, (by first | rfl | exact aZ _ _)⟩ | rfl)))
  ·omega
  ·omega
 ·exact aP rfl ⟨rfl, rfl⟩
theorem Hg (mm : Nat) (same_ih : ∀ l, bQ l < mm → PC Tryz.prog 63 [sl aV l, sl aV l] (fun r => r = bv true)) (s : AL.Stmt) (hs : dM s ≤ mm) : PC Tryz.prog 116 [eZ s, eZ s] (fun r => r = bv true) := by
 have hct := gB s
 (refine aU Tryz.func116 rfl (by simp [Tryz.ntmps116]) ?_; rw [Tryz.ntmps116])
 repeat' (first|(apply aM;first|(apply aE;rfl;rfl)|(apply aL;rfl;rfl;rfl;rfl)|(apply aD;rfl;rfl;rfl)|(first|(apply a6;rfl;rfl;rfl;(first|rfl|assumption))|(apply bD;rfl;rfl;rfl;(first|rfl|assumption))|(apply bO;(case hj|hb|hN => rfl);all_goals (intro hg;have hq := hg;(try simp only [cF] at hq);(try (exfalso;omega)))))|(apply aR;rfl;rfl;rfl;rfl)|(apply aC;rfl;rfl)|(first|(apply bR;rfl;(first|rfl|assumption);rfl;rfl)|(apply bF;rfl;(first|rfl|assumption);rfl;rfl))|((with_reducible apply aJ (k := 63));(case ha => rfl);(case h => (apply same_ih <;> (omega)));(case hp => (exact Pur.pf));(case hN => rfl))|(apply aF;kernel_rfl)|(apply b0;rfl;rfl;rfl;rfl))|(apply aN;first|apply aI|apply aB|apply aQ)|with_reducible apply aA)
 all_goals try exact absurd trivial (by assumption : ¬ True)
 exact aP rfl ⟨rfl, rfl⟩
theorem LP (l : List AL.Stmt) (hs : bQ l ≤ 1000000) (h1 : ∀ s, s ∈ l → PC Tryz.prog 116 [eZ s, eZ s] (fun r => r = bv true)) : PC Tryz.prog 115 [sl aV l, sl aV l, .v (.func (.func 116) #[] #[])] (fun r => r = bv true) := by
 have hlen := dI l
 (refine aU Tryz.func115 rfl (by simp [Tryz.ntmps115]) ?_; rw [Tryz.ntmps115])
 repeat' (first|(apply aM;first|(apply aE;rfl;rfl)|(apply aR;rfl;rfl;rfl;rfl)|(apply aC;rfl;rfl)|(apply a8;rfl;rfl;rfl)|(apply aF;kernel_rfl))|(apply aN;first|apply aI|apply aB|(apply aO;rfl;all_goals intro hc;have hq:=hc;(try simp only [cF] at hq);try exfalso;omega)|apply aK|apply aS|apply aQ)|with_reducible apply aA|with_reducible apply bK)
 all_goals try exact absurd trivial (by assumption : ¬ True)
 refine bC (σ := Nat) [1, 2, 15, 16] [(1, _), (2, _), (15, _), (16, _)] [] [] (fun k => [(17, iv (k : Int))]) (fun k => []) (fun k => k ≤ l.length) (fun k => l.length - k) (0) (Nat.zero_le _) rfl rfl (by repeat' (first|exact trivial|refine And.intro rfl ?_)) (by repeat' (exact trivial)) ?_
 intro k hk
 by_cases hkn : k < l.length
 ·have hcl := h1 l[k]! (cA l k hkn)
  repeat' (first|(apply aM;first|(apply aE;rfl;rfl)|(apply aY;rfl;rfl;(exact (rfl:_=[_, _, _, _, _, _]));rfl;rfl;rfl)|(first|(apply bU;rfl;rfl;omega;rfl)|(apply aR;rfl;rfl;rfl;rfl))|(apply aC;rfl;rfl)|(apply a7;(case hx|hi => rfl);(case hm => (assumption));(case hml => (rfl));(case hα | hf|hg => infer_instance);(case hN => rfl))|((with_reducible apply iH);(case hx|hcl => rfl);(case hc => infer_instance);(case ha => rfl);(case h => (apply hcl <;> (fail)));(case hp => (exact Pur.pf));(case hN => rfl))|(apply aF;kernel_rfl)|(apply cC;rfl;rfl)|(apply bE;rfl;rfl)|(apply aW;rfl;rfl;rfl;rfl;rfl;(case hl => (simp;done));(exact (rfl:_=[_, _, _, _, _, _]))))|(apply aN;first|apply aI|apply aB|(apply cS;rfl;(rfl))|(apply aO;rfl;all_goals intro hc;have hq:=hc;(try simp only [cF] at hq);try exfalso;omega)|apply aK|apply aS)|with_reducible apply aA|with_reducible apply aX)
  (apply dW (k + 1);focus (refine Le.ren [] rfl (by decide) ?_ ?_ <;> repeat' (first|exact trivial|refine And.intro ⟨_, rfl, ?_⟩ ?_|refine Or.inl ⟨?_, (by first|rfl|exact aZ _ _)⟩|rfl)))
  ·omega
  ·omega
 ·repeat' (first | (apply aM; first | (apply aR;rfl;rfl;rfl;rfl) | (apply aC;rfl;rfl) | (apply aF;kernel_rfl)) | (apply aN; first | apply aI | apply aB | (apply aO;rfl;all_goals intro hc;have hq:=hc;(try simp only [cF] at hq);try exfalso;omega) | apply bI | apply aQ) | with_reducible apply aA | with_reducible apply bJ | with_reducible apply bH)
  exact aP rfl ⟨rfl, rfl⟩
theorem Dk (mm : Nat) (hmm : mm ≤ 1000000) (same_ih : ∀ l, bQ l < mm → PC Tryz.prog 63 [sl aV l, sl aV l] (fun r => r = bv true)) (l : List AL.Stmt) (hs : bQ l ≤ mm) : PC Tryz.prog 63 [sl aV l, sl aV l] (fun r => r = bv true) := by
 have hq := LP l (by omega) (fun s hm => Hg mm same_ih s (Nat.le_trans (sD hm) hs))
 (refine aU Tryz.func63 rfl (by simp [Tryz.ntmps63]) ?_; rw [Tryz.ntmps63])
 repeat' (first|(apply aM;first|((with_reducible apply aJ (k := 115));(case ha => rfl);(case h => exact hq);(case hp => (exact Pur.pf));(case hN => rfl))|(apply aE;rfl;rfl)|(apply aC;rfl;rfl)|(apply aF;kernel_rfl))|(apply aN;first|apply aI|apply aB|apply aQ)|with_reducible apply aA)
 exact aP rfl ⟨rfl, rfl⟩
theorem Ju (l : List AL.Stmt) (hb : bQ l ≤ 1000000) : PC Tryz.prog 63 [sl aV l, sl aV l] (fun r => r = bv true) := by
 have key : ∀ m, m ≤ 1000000 → ∀ l, bQ l ≤ m → PC Tryz.prog 63 [sl aV l, sl aV l] (fun r => r = bv true) := by
  intro m
  induction m with
  | zero => intro hm l hl;exact Dk 0 hm (fun l h => by omega) l hl
  | succ m ih => intro hm l hl;exact Dk (m + 1) hm (fun l h => ih (by omega) l (by omega)) l hl
 exact key (bQ l) hb l (Nat.le_refl _)
theorem nR (q : Prg) (hs : bQ q.body ≤ 1000000) (ht : q.types.length ≤ 1000000) : PC Tryz.prog 14 [dD q, dD q] (fun r => r = bv true) := by
 have h1 := J2 q.types ht
 have h2 := Ju q.body hs
 (refine aU Tryz.func14 rfl (by simp [Tryz.ntmps14]) ?_; rw [Tryz.ntmps14])
 repeat' (first|(apply aM;first|((with_reducible apply aJ (k := 62));(case ha => rfl);(case h => exact h1);(case hp => (exact Pur.pf));(case hN => rfl))|((with_reducible apply aJ (k := 63));(case ha => rfl);(case h => exact h2);(case hp => (exact Pur.pf));(case hN => rfl))|(apply aE;rfl;rfl)|(apply aL;rfl;rfl;rfl;rfl)|(apply aD;rfl;rfl;rfl)|(apply a6;rfl;rfl;rfl;(rfl))|(apply aC;rfl;rfl)|(apply bR;rfl;(rfl);rfl;rfl)|(apply aF;kernel_rfl)|(apply b0;rfl;rfl;rfl;rfl))|(apply aN;first|apply aI|apply aB|apply aQ)|with_reducible apply aA)
 exact aP rfl ⟨rfl, rfl⟩
theorem Ht (p : Prg) (nm : List Int) (hl : p.types.length ≤ 1000000) (hs : bQ p.body ≤ 1000000) (hn : nm.length ≤ 1000000) (h : ¬ (cQ p = true ∧ nm.length = p.types.length)) : PC Tryz.prog 29 [dD p, sl cI nm] (fun r => r = .tup [dD ⟨[], []⟩, bv false]) := by
 have hval := kO p hl (by omega)
 (refine aU Tryz.func29 rfl (by simp [Tryz.ntmps29]) ?_; rw [Tryz.ntmps29])
 repeat' (first|(apply aM;first|((with_reducible apply aJ (k := 49));(case ha => rfl);(case h => exact hval);(case hp => (exact Pur.pf));(case hN => rfl))|(apply aE;rfl;rfl)|(first|(apply aL;rfl;rfl;rfl;rfl)|(apply aY;rfl;rfl;(exact (rfl:_=[_, _]));rfl;rfl;rfl))|(apply aD;rfl;rfl;rfl)|(first|(apply a6;rfl;rfl;rfl;(assumption))|(apply bD;rfl;rfl;rfl;(assumption))|(apply bO;(case hj|hb|hN => rfl);all_goals (intro hg;have hq := hg;(try simp only [cF] at hq);(try (exfalso;omega)))))|(apply aR;rfl;rfl;rfl;rfl)|(apply aC;rfl;rfl)|(first|(apply bR;rfl;(assumption);rfl;rfl)|(apply bF;rfl;(assumption);rfl;rfl))|(apply a8;rfl;rfl;rfl)|(apply aF;kernel_rfl)|(apply bV;rfl;(exact (rfl:_=some [_, _]));(exact (rfl:_=[_, _]));rfl)|(apply cC;rfl;rfl)|(apply b0;rfl;rfl;rfl;rfl)|(apply bE;rfl;rfl)|(apply aW;rfl;rfl;rfl;rfl;rfl;(case hl => (first|decide|(simp;done)));(exact (rfl:_=[_, _])))|(apply dV;rfl;rfl;rfl;omega;omega;(exact r8);rfl;rfl))|(apply aN;first|apply aI|apply aB|(apply bZ;rfl;(rfl))|(apply aO;rfl;all_goals intro hc;have hq:=hc;(try simp only [cF] at hq);try exfalso;omega)|apply aK|apply aS|apply aQ)|with_reducible apply aA|with_reducible apply bK)
 all_goals first
  | exact aP (l := [.agg [.imm 0 [], .imm 0 []], bv false]) rfl ⟨rfl, rfl⟩
  | (exfalso;exact h ⟨by assumption, by omega⟩)
theorem Hf (p : Prg) (nm : List Int) (hl : p.types.length ≤ 1000000) (hs : bQ p.body ≤ 1000000) (hn : nm.length ≤ 1000000) (h : ¬ (cQ p = true ∧ nm.length = p.types.length)) : PC Tryz.prog 30 [dD p, sl cI nm] (fun r => r = .tup [dD ⟨[], []⟩, bv false]) := by
 have hval := l9 p hl (by omega)
 (refine aU Tryz.func30 rfl (by simp [Tryz.ntmps30]) ?_; rw [Tryz.ntmps30])
 by_cases hv : cQ p = true
 ·rw [hv] at hval
  repeat' (first|(apply aM;first|((with_reducible apply aJ (k := 57));(case ha => rfl);(case h => exact hval);(case hp => (exact Pur.pf));(case hN => rfl))|(apply aE;rfl;rfl)|(first|(apply aL;rfl;rfl;rfl;rfl)|(apply aY;rfl;rfl;(exact (rfl:_=[_, _]));rfl;rfl;rfl))|(apply aD;rfl;rfl;rfl)|(first|(apply a6;rfl;rfl;rfl;(first|rfl|assumption))|(apply bD;rfl;rfl;rfl;(assumption))|(apply bO;(case hj|hb|hN => rfl);all_goals (intro hg;have hq := hg;(try simp only [cF] at hq);(try (exfalso;omega)))))|(apply aR;rfl;rfl;rfl;rfl)|(apply aC;rfl;rfl)|(first|(apply bR;rfl;(assumption);rfl;rfl)|(apply bF;rfl;(first|rfl|assumption);rfl;rfl))|(first|((with_reducible apply aJ (k := 76));(case ha => rfl);(case h => (apply CV <;> (first|assumption|grind)));(case hp => (exact Pur.pf));(case hN => rfl))|((with_reducible apply aJ (k := 77));(case ha => rfl);(case h => (apply FN <;> (first|assumption|grind)));(case hp => (exact Pur.pf));(case hN => rfl)))|(apply a8;rfl;rfl;rfl)|(apply aF;kernel_rfl)|(apply bV;rfl;(exact (rfl:_=some [_, _]));(exact (rfl:_=[_, _]));rfl)|(apply cC;rfl;rfl)|(apply b0;rfl;rfl;rfl;rfl)|(apply bE;rfl;rfl)|(apply aW;rfl;rfl;rfl;rfl;rfl;(case hl => (first|decide|(simp;done)));(exact (rfl:_=[_, _])))|(apply dV;rfl;rfl;rfl;omega;omega;(exact r8);rfl;rfl))|(apply aN;first|apply aI|apply aB|(apply b8;kernel_rfl)|(apply bZ;rfl;(rfl))|(apply aO;rfl;all_goals intro hc;have hq:=hc;(try simp only [cF] at hq);try exfalso;omega)|apply aK|apply aS|apply aQ)|with_reducible apply aA|with_reducible apply bK)
  all_goals first
   | exact aP (l := [.agg [.imm 0 [], .imm 0 []], bv false]) rfl ⟨rfl, rfl⟩
   | (exfalso;exact h ⟨hv, by omega⟩)
 ·rw [show cQ p = false by simpa using hv] at hval
  repeat' (first|(apply aM;first|((with_reducible apply aJ (k := 57));(case ha => rfl);(case h => exact hval);(case hp => (exact Pur.pf));(case hN => rfl))|(apply aE;rfl;rfl)|(apply aY;rfl;rfl;(exact (rfl:_=[_, _]));rfl;rfl;rfl)|(apply bD;rfl;rfl;rfl;(rfl))|(apply aC;rfl;rfl)|(apply bR;rfl;(rfl);rfl;rfl)|(apply aF;kernel_rfl)|(apply bV;rfl;(exact (rfl:_=some [_, _]));(exact (rfl:_=[_, _]));rfl)|(apply cC;rfl;rfl)|(apply b0;rfl;rfl;rfl;rfl)|(apply bE;rfl;rfl)|(apply aW;rfl;rfl;rfl;rfl;rfl;(decide);(exact (rfl:_=[_, _]))))|(apply aN;first|apply aI|apply aB|(apply bZ;rfl;(rfl))|apply aQ)|with_reducible apply aA|with_reducible apply bK)
  exact aP (l := [.agg [.imm 0 [], .imm 0 []], bv false]) rfl ⟨rfl, rfl⟩
theorem Ia (p : Prg) (nm : List Int) (hl : p.types.length ≤ 1000000) (hs : bQ p.body ≤ 1000000) (hn : nm.length ≤ 1000000) : ∃ (Q : Prg) (b : Bool), PC Tryz.prog 29 [dD p, sl cI nm] (fun r => r = .tup [dD Q, bv b]) ∧ PC Tryz.prog 30 [dD p, sl cI nm] (fun r => r = .tup [dD Q, bv b]) ∧
  Q.types.length ≤ 1000000 ∧ bQ Q.body ≤ 1000000 ∧ (b = true → ∃ σ, Ren p.types Q.types σ ∧ Q.body = kG σ p.body ∧ cQ p = true) := by
 by_cases h : cQ p = true ∧ nm.length = p.types.length
 ·obtain ⟨b, hb⟩ : ∃ b : Bool, b = true ↔ nmOk p.types.length nm := by
   by_cases q : nmOk p.types.length nm
   ·exact ⟨true, by simp [q]⟩
   ·exact ⟨false, by simp [q]⟩
  refine ⟨xU p nm b, b, JI p nm b h.1 h.2 hb, Kv p nm b h.1 h.2 hb, ?_, ?_, fun e => ?_⟩
  ·unfold xU J9; split
   ·rw [j3]; exact hl
   ·simp
  ·unfold xU J9; split
   ·rw [oE]; exact hs
   ·simp [bQ]
  ·have hok := hb.1 e
   refine ⟨qB nm, ?_, ?_, h.1⟩
   ·rw [xU, if_pos e]
    exact Ren.of h.2 (j3 _ _ _) hok (Kc hok _ (Nat.le_refl _))
   ·rw [xU, if_pos e]; rfl
 ·exact ⟨⟨[], []⟩, false, Ht p nm hl hs hn h, Hf p nm hl hs hn h, by simp, by simp [bQ], fun e => by cases e⟩
def Kr (r : Option Prg) : AV := .tup [dD (r.getD ⟨[], []⟩), bv r.isSome]
theorem IM (r : Option Prg) : (Kr r).pur = true := by unfold Kr; exact PurV.pf
theorem nA {P : Program} {s : AS} {res : Array ResultVar} {r : Option Prg} {l : List AV} (hr : uT P (lk s.ts) (cJ s.hs) res.toList = some l) (e : b9 l = Kr r) : AO P res (fun x _ => x = Kr r ∧ x.pur = true) .ret s := aP hr ⟨e, by rw [e]; exact IM r⟩
def fwdC (p : Prg) (k : Nat) : Prop := k + 1 < p.body.length ∧ p.body[k]!.op = 7 ∧ p.body[k + 1]!.op = 6 ∧ p.body[k + 1]!.y = p.body[k]!.x ∧ p.body[k + 1]!.x ≠ p.body[k]!.y
instance (p : Prg) (k : Nat) : Decidable (fwdC p k) := by unfold fwdC; infer_instance
def QK (r : AV) : Prop := ∃ (q : Prg) (k : Int), r = .tup [dD q, iv k] ∧ bQ q.body ≤ 20000 ∧ q.types.length ≤ 1000 ∧ -1 ≤ k ∧ k ≤ 20000
theorem QK.mk (q : Prg) (k : Int) (h1 : bQ q.body ≤ 20000) (h2 : q.types.length ≤ 1000) (h3 : -1 ≤ k) (h4 : k ≤ 20000) : QK (b9 [dD q, iv k]) ∧ (b9 [dD q, iv k]).pur = true := ⟨⟨q, k, rfl, h1, h2, h3, h4⟩, Pur.pf⟩
theorem zQ (bs : List UInt8) (hb : bs.length ≤ 1048576) : PC Tryz.prog 45 [sl cU bs] QK := Ik bs hb
theorem EK (bs : List UInt8) (hb : bs.length ≤ 1048576) : PC Tryz.prog 25 [sl cU bs] QK := by
 have hb2 : (bs.take 2000).length ≤ 2000 := by rw [List.length_take]; omega
 have hn := tF (bs.take 2000) (0 + 1) [11, 12, 15, 16] 11 16 (by decide) (by decide)
 (refine aU Tryz.func25 rfl (by simp [Tryz.ntmps25]) ?_; rw [Tryz.ntmps25])
 repeat' (first|(apply aM;first|((with_reducible apply e8 (k := 45));(case ha => rfl);(case h => exact zQ bs hb);(case hp => (exact Pur.pf));(case hN => rfl);(rintro _ ⟨q, k, rfl, h1, h2, h3, h4⟩ _))|((with_reducible apply e8 (k := 70));(case ha => rfl);(case h => exact wJ);(case hp => (rfl));(case hN => rfl);(rintro _ ⟨ys, rfl, hyl, hsz⟩ _))|((with_reducible apply e8 (k := 68));(case ha => rfl);(case h => exact lW _ (Nat.le_trans (hsz _) (by decide)));(case hp => (rfl));(case hN => rfl);(rintro _ ⟨q, b, rfl, hqc, hqt⟩ _);(have hln := dI q.body);(have h9 := hsz (gP (bs.take 2000) (0 + 1) [11, 12, 15, 16]).toNat))|(apply aE;rfl;rfl)|(apply aL;rfl;rfl;rfl;rfl)|(apply aR;rfl;rfl;rfl;rfl)|(apply aC;rfl;rfl)|(apply dA;(case hx|hi => rfl);(case hm => (omega));(case hml => (rfl));(case hα | hf|hg => infer_instance);(case hN => rfl))|(first|(apply k5;rfl;(apply mV <;> (assumption));rfl;rfl)|(apply iB;rfl;rfl;(rfl);(apply kD <;> (first|assumption|omega));rfl;rfl)|(apply Bx;rfl;rfl;infer_instance;rfl;(rfl);assumption;omega;(decide);(decide);rfl;rfl))|(apply aF;kernel_rfl)|(apply bE;rfl;rfl)|(apply cB;rfl;rfl;rfl)|((apply bS (t := _));(case hze|hsm|hl => rfl);(case hfl => (exact (rfl:_=some [_, _, _, _])));(case hM|hN => rfl))|(apply aW;rfl;rfl;rfl;rfl;rfl;(case hl => (simp;done));(exact (rfl:_=[_, _]))))|(apply aN;first|apply aI|apply aB|(apply aO;rfl;all_goals intro hc;have hq:=hc;(try simp only [cF] at hq);try exfalso;omega)|apply aK|apply aS|apply aQ)|with_reducible apply aA)
 ·refine bC (σ := Nat) [0, 2, 6] [(0, _), (2, _), (6, _)] [0, 3] [(0, some _), (3, some _)] (fun j => [(8, iv (j : Int))]) (fun j => []) (fun j => j ≤ q.body.length) (fun j => q.body.length - j) (0) (Nat.zero_le _) rfl rfl (by repeat' (first | exact trivial | refine And.intro rfl ?_)) (by repeat' (exact trivial)) ?_
  intro j hj
  by_cases hjl : j < q.body.length
  ·repeat' (first | (apply aM; first | (apply aE;rfl;rfl) | (first | (apply aL;rfl;rfl;rfl;rfl) | (apply aY;rfl;rfl;(exact (rfl:_=[_, _]));rfl;rfl;rfl)) | (apply aD;rfl;rfl;rfl) | (first | (apply bU;rfl;rfl;omega;rfl) | (apply aR;rfl;rfl;rfl;rfl)) | (apply aC;rfl;rfl) | (apply a7; (case hx | hi => rfl); (case hm => (assumption)); (case hml => (rfl)); (case hα | hf | hg => infer_instance); (case hN => rfl)) | (apply a8;rfl;rfl;rfl) | (apply aF;kernel_rfl) | (apply aW;rfl;rfl;rfl;rfl;rfl;(case hl => (simp;done));(exact (rfl:_=[_, _])))) | (apply aN; first | apply aI | apply aB | (apply aO;rfl;all_goals intro hc;have hq:=hc;(try simp only [cF] at hq);try exfalso;omega) | apply aK | apply aS | apply aQ) | with_reducible apply aA | with_reducible apply bK | with_reducible apply aX | with_reducible apply cT)
   ·exact aP (l := [dD q, iv (j : Int)]) rfl (QK.mk q j (by omega) (by omega) (by omega) (by omega))
   ·(apply dW (j + 1); focus (refine Le.ren [(0, 0), (3, 3)] rfl (by decide) ?_ ?_ <;> repeat' (first | exact trivial | refine And.intro ⟨_, rfl, ?_⟩ ?_ | refine And.intro ⟨_, _, rfl, rfl, ?_⟩ ?_ | exact Or.inr rfl | refine Or.inl ⟨?_, (by first | rfl | exact aZ _ _ | exact Pur.pf)⟩ | rfl)))
    ·exact hjl
    ·omega
  ·repeat' (first | (apply aM; first | ((with_reducible apply e8 (k := 45)); (case ha => rfl); (case h => exact zQ bs hb); (case hp => (exact Pur.pf)); (case hN => rfl); (rintro _ ⟨q', k, rfl, h1, h2, h3, h4⟩ _)) | (apply aE;rfl;rfl) | (apply aL;rfl;rfl;rfl;rfl) | (apply aD;rfl;rfl;rfl) | (apply aR;rfl;rfl;rfl;rfl) | (apply aC;rfl;rfl) | (apply a8;rfl;rfl;rfl) | (apply aF;kernel_rfl) | (apply cB;rfl;rfl;rfl) | (apply aW;rfl;rfl;rfl;rfl;rfl;(case hl => (simp;done));(exact (rfl:_=[_, _])))) | (apply aN; first | apply aI | apply aB | (apply aO;rfl;all_goals intro hc;have hq:=hc;(try simp only [cF] at hq);try exfalso;omega) | apply bI | apply aQ) | with_reducible apply aA | with_reducible apply bJ | with_reducible apply bH)
   exact aP (l := [dD q', iv k]) rfl (QK.mk q' k h1 h2 h3 h4)
 ·exact aP (l := [dD q, iv k]) rfl (QK.mk q k h1 h2 h3 h4)
theorem Hi (p : Prg) (hv : cQ p = true) (hl : p.types.length ≤ 1000000) (hs : bQ p.body ≤ 1000000) (cs : List Int) (hc : cs.length ≤ 1000000) (n : Nat) (hn : n ≤ 150) :
  PC Tryz.prog 17 [dD p, sl cI cs, iv (n : Int)] (fun r => r = .tup [sl cI (runP p.types (c9 p) cs n).1.read, iv (runP p.types (c9 p) cs n).2.1]) := by
 have h := tR p cs n hl hs hc
 rw [if_pos (by unfold Ki;rw [hv, decide_eq_true (by omega), decide_eq_true (by omega)]; rfl), Int.toNat_natCast] at h
 exact h
theorem CT (p : Prg) (hv : cQ p = true) (hl : p.types.length ≤ 1000000) (hs : bQ p.body ≤ 1000000) (f : Flows p.types (c9 p)) :
  PC Tryz.prog 31 [dD p] (fun r => r = sl qK f.iss) ∧ PC Tryz.prog 19 [dD p] (fun r => r = bv f.iss.isEmpty) := by
 have h := FQ p f hl hs
 have e : Kh p f = f.iss := if_pos hv
 rw [e] at h
 have h2 := zX p f.iss hl hs h
 rw [hv, Bool.true_and] at h2
 exact ⟨h, h2⟩
theorem Hv {p Q : Prg} {σ : Nat → Nat} (r : Ren p.types Q.types σ) (hB : Q.body = kG σ p.body) (w : WG p.types (c9 p)) (w' : WG Q.types (c9 Q)) (f : Flows p.types (c9 p)) (g : Flows Q.types (c9 Q)) : g.iss.length = f.iss.length := by
 have eP : c9 Q = (c9 p).map (fR σ) := by
  have := CB (ts := p.types) (ts' := Q.types) (b := p.body) σ
  rw [← hB] at this;exact this
 revert g w'
 rw [eP]
 intro w' g
 exact JG w w' r f g
theorem tM (bs ms : List UInt8) : PC Tryz.prog 7 [sl cU bs, sl cU ms] (fun r => r = bv true) := by
 rcases Nat.lt_or_ge 1048576 bs.length with hb|hb
 ·(refine aU Tryz.func7 rfl (by simp [Tryz.ntmps7]) ?_; rw [Tryz.ntmps7])
  repeat' (first|(apply aM;first|(apply aE;rfl;rfl)|(first|(apply bD;rfl;rfl;rfl;(assumption))|(apply bO;(case hj|hb|hN => rfl);all_goals (intro hg;have hq := hg;(try simp only [cF] at hq);(try (exfalso;omega)))))|(apply aR;rfl;rfl;rfl;rfl)|(apply aC;rfl;rfl)|(apply bR;rfl;(assumption);rfl;rfl)|(apply a8;rfl;rfl;rfl)|(apply aF;kernel_rfl))|(apply aN;first|apply aI|apply aB|(apply bZ;rfl;(rfl))|apply aQ)|with_reducible apply aA|with_reducible apply bK)
  all_goals exact aP rfl ⟨rfl, rfl⟩
 rcases Nat.lt_or_ge 1048576 ms.length with hm|hm
 ·(refine aU Tryz.func7 rfl (by simp [Tryz.ntmps7]) ?_; rw [Tryz.ntmps7])
  repeat' (first|(apply aM;first|(apply aE;rfl;rfl)|(first|(apply a6;rfl;rfl;rfl;(assumption))|(apply bO;(case hj|hb|hN => rfl);all_goals (intro hg;have hq := hg;(try simp only [cF] at hq);(try (exfalso;omega)))))|(apply aR;rfl;rfl;rfl;rfl)|(apply aC;rfl;rfl)|(apply bF;rfl;(assumption);rfl;rfl)|(apply a8;rfl;rfl;rfl)|(apply aF;kernel_rfl))|(apply aN;first|apply aI|apply aB|(apply aO;rfl;all_goals intro hc;have hq:=hc;(try simp only [cF] at hq);try exfalso;omega)|apply aQ)|with_reducible apply aA|with_reducible apply bK)
  all_goals exact aP rfl ⟨rfl, rfl⟩
 (refine aU Tryz.func7 rfl (by simp [Tryz.ntmps7]) ?_; rw [Tryz.ntmps7])
 repeat' (first|(apply aM;first|((with_reducible apply e8 (k := 28));(case ha => rfl);(case h => exact DQ bs hb);(case hp => (exact Pur.pf));(case hN => rfl);(rintro _ ⟨p, nm, rfl, hq1, hq2, hq3⟩ _))|(with_reducible apply dE (d := 32))|(apply aE;rfl;rfl)|(first|(apply a6;rfl;rfl;rfl;(assumption))|(apply bO;(case hj|hb|hN => rfl);all_goals (intro hg;have hq := hg;(try simp only [cF] at hq);(try (exfalso;omega)))))|(apply aR;rfl;rfl;rfl;rfl)|(apply aC;rfl;rfl)|(apply bF;rfl;(assumption);rfl;rfl)|(apply a8;rfl;rfl;rfl)|(apply aF;kernel_rfl)|(apply bE;rfl;rfl)|(apply cB;rfl;rfl;rfl)|(apply aW;rfl;rfl;rfl;rfl;rfl;(case hl => (simp;done));(exact (rfl:_=[_, _]))))|(apply aN;first|apply aI|apply aB|(apply aO;rfl;all_goals intro hc;have hq:=hc;(try simp only [cF] at hq);try exfalso;omega)|apply aS)|with_reducible apply aA)
 refine eR ?_
 obtain ⟨Q, b, h1, h2, b1, b2, h3⟩ := Ia p nm (by omega) (by omega) (by omega)
 have v1 := nR Q b2 b1
 cases b with
 | false =>
  repeat' (first|(apply aM;first|((with_reducible apply aJ (k := 29));(case ha => rfl);(case h => exact h1);(case hp => (exact Pur.pf));(case hN => rfl))|((with_reducible apply aJ (k := 30));(case ha => rfl);(case h => exact h2);(case hp => (exact Pur.pf));(case hN => rfl))|((with_reducible apply aJ (k := 14));(case ha => rfl);(case h => exact v1);(case hp => (exact Pur.pf));(case hN => rfl))|(apply aE;rfl;rfl)|(apply aY;rfl;rfl;(exact (rfl:_=[_, _]));rfl;rfl;rfl)|(apply a6;rfl;rfl;rfl;(rfl))|(apply n8;rfl;rfl;rfl;rfl)|(apply aC;rfl;rfl)|(first|(apply bR;rfl;(rfl);rfl;rfl)|(apply bF;rfl;(rfl);rfl;rfl))|(apply aF;kernel_rfl)|(apply cC;rfl;rfl)|(apply bE;rfl;rfl)|(apply cB;rfl;rfl;rfl)|(apply aW;rfl;rfl;rfl;rfl;rfl;(case hl => (simp;done));(exact (rfl:_=[_, _]))))|(apply aN;first|apply aI|apply aB|(apply bZ;rfl;(rfl))|apply aQ)|with_reducible apply aA|with_reducible apply bK)
  all_goals first
   | exact aP rfl ⟨rfl, rfl⟩
   | (exfalso;exact (by assumption : ¬ True) trivial)
 | true =>
  obtain ⟨σ, r, hB, hv⟩ := h3 rfl
  repeat' (first|(apply aM;first|((with_reducible apply aJ (k := 29));(case ha => rfl);(case h => exact h1);(case hp => (exact Pur.pf));(case hN => rfl))|((with_reducible apply aJ (k := 30));(case ha => rfl);(case h => exact h2);(case hp => (exact Pur.pf));(case hN => rfl))|((with_reducible apply aJ (k := 14));(case ha => rfl);(case h => exact v1);(case hp => (exact Pur.pf));(case hN => rfl))|((with_reducible apply e8 (k := 16));(case ha => rfl);(case h => exact wV ms hm);(case hp => (exact Pur.pf));(case hN => rfl);(rintro _ ⟨q', cs, n', rfl, hr1, hr2, hr3, hr4, hr5⟩ _))|(with_reducible apply dE (d := 71))|(apply aE;rfl;rfl)|(apply aY;rfl;rfl;(exact (rfl:_=[_, _]));rfl;rfl;rfl)|(apply a6;rfl;rfl;rfl;(rfl))|(apply n8;rfl;rfl;rfl;rfl)|(apply aC;rfl;rfl)|(apply bF;rfl;(rfl);rfl;rfl)|(apply aF;kernel_rfl)|(apply cC;rfl;rfl)|(apply bE;rfl;rfl)|(apply cB;rfl;rfl;rfl)|(apply aW;rfl;rfl;rfl;rfl;rfl;(case hl => (simp;done));(exact (rfl:_=[_, _]))))|(apply aN;first|apply aI|apply aB|(apply cS;rfl;(rfl))|apply aS)|with_reducible apply aA)
  refine eR ?_
  have hvQ : cQ Q = true := by
   have := GM r hv
   rw [← hB] at this;exact this
  have w := WG.of_valid hv
  have A := WA.of_valid hv
  have w' := WG.of_valid hvQ
  have A' := WA.of_valid hvQ
  obtain ⟨f⟩ := Flows.ex w
  obtain ⟨g⟩ := Flows.ex w'
  have n1 := Hi p hv (by omega) (by omega) cs (by omega) 80 (by decide)
  have n2 := Hi Q hvQ b1 b2 cs (by omega) 80 (by decide)
  obtain ⟨c1, a1⟩ := CT p hv (by omega) (by omega) f
  obtain ⟨c2, a2⟩ := CT Q hvQ b1 b2 g
  have eP : c9 Q = (c9 p).map (fR σ) := by
   have := CB (ts := p.types) (ts' := Q.types) (b := p.body) σ
   rw [← hB] at this;exact this
  have hi := Hv r hB w w' f g
  have hrun : (runP Q.types (c9 Q) cs 80).1.read = (runP p.types (c9 p) cs 80).1.read ∧ (runP Q.types (c9 Q) cs 80).2 = (runP p.types (c9 p) cs 80).2 := by
   rw [eP] at w' A' ⊢
   exact Hu w A w' A' r cs 80 (by decide) (fun a ha => Ba w A 80 0 cs w.p0 a ha)
  rw [hrun.1, hrun.2] at n2
  have hli := AM w f
  have hlg := AM w' g
  have hem : g.iss.isEmpty = f.iss.isEmpty := by
   rw [Bool.eq_iff_iff, List.isEmpty_iff_length_eq_zero, List.isEmpty_iff_length_eq_zero, hi]
  have hrd : (runP p.types (c9 p) cs 80).1.read.length ≤ 1000000 := Nat.le_trans (nF (by decide)) (by decide)
  have v2 := yT (runP p.types (c9 p) cs 80).1.read hrd
  rw [hem] at a2
  generalize (runP p.types (c9 p) cs 80).1.read = rd at *
  generalize (runP p.types (c9 p) cs 80).2.1 = en at *
  repeat' (first|(apply aM;first|((with_reducible apply aJ (k := 17));(case ha => rfl);(case h => exact n1);(case hp => (exact Pur.pf));(case hN => rfl))|((with_reducible apply aJ (k := 17));(case ha => rfl);(case h => exact n2);(case hp => (exact Pur.pf));(case hN => rfl))|((with_reducible apply aJ (k := 19));(case ha => rfl);(case h => exact a1);(case hp => (exact Pur.pf));(case hN => rfl))|((with_reducible apply aJ (k := 19));(case ha => rfl);(case h => exact a2);(case hp => (exact Pur.pf));(case hN => rfl))|((with_reducible apply aJ (k := 31));(case ha => rfl);(case h => exact c1);(case hp => (exact Pur.pf));(case hN => rfl))|((with_reducible apply aJ (k := 31));(case ha => rfl);(case h => exact c2);(case hp => (exact Pur.pf));(case hN => rfl))|((with_reducible apply aJ (k := 20));(case ha => rfl);(case h => exact v2);(case hp => (exact Pur.pf));(case hN => rfl))|(apply aE;rfl;rfl)|(apply aY;rfl;rfl;(exact (rfl:_=[_, _]));rfl;rfl;rfl)|(first|(apply a6;rfl;rfl;rfl;(first|rfl|assumption))|(apply bD;rfl;rfl;rfl;(first|rfl|assumption))|(apply bO;(case hj|hb|hN => rfl);all_goals (intro hg;have hq := hg;(try simp only [cF] at hq);(try (exfalso;omega)))))|(first|(apply n8;rfl;rfl;rfl;rfl)|(apply aR;rfl;rfl;rfl;rfl))|(apply aC;rfl;rfl)|(first|(apply bR;rfl;(first|rfl|assumption);rfl;rfl)|(apply bF;rfl;(first|rfl|assumption);rfl;rfl))|(apply a8;rfl;rfl;rfl)|(apply aF;kernel_rfl)|(apply cB;rfl;rfl;rfl))|(apply aN;first|apply aI|apply aB|(apply b8;kernel_rfl)|apply aQ)|with_reducible apply aA)
  all_goals first
   | (exfalso;exact (by assumption : ¬ True) trivial)
   | (refine aP rfl ⟨?_, rfl⟩
      simp only [b9]
      rw [hi, decide_eq_true rfl])
theorem H7 {b : List AL.Stmt} {k : Nat} (hk : k < b.length) (z : List AV) (hz : z.length = 6) : iJ (aH aV b) (0 + k * 6) z = aH aV (b.take k) ++ (z ++ aH aV (b.drop (k + 1))) := by
 have h1 : (aH aV (b.take k)).length = k * 6 := by rw [aT aV (e := 6), List.length_take]; omega
 have h2 : (aV b[k]!).length = 6 := by rw [dJ]; rfl
 have e : aH aV b = aH aV (b.take k) ++ (aV b[k]! ++ aH aV (b.drop (k + 1))) := uM hk
 unfold iJ
 rw [e, Nat.zero_add, ← h1, List.take_left, hz, List.drop_append, List.drop_of_length_le (by omega), List.nil_append,
  show (aH aV (b.take k)).length + 6 - (aH aV (b.take k)).length = 6 by omega, List.drop_append, List.drop_of_length_le (by omega), h2, Nat.sub_self, List.drop_zero, List.nil_append, List.append_assoc]
theorem Le.frzThen {ts : List (Nat × AV)} {hs : List (Nat × Option (List AV))} {n : Nat} {z0 : Lo} {i j m k : Nat} {b t : List AL.Stmt} (hk : k < b.length) (hj : cJ hs j = some (iJ (aH aV b) (0 + k * 6) [iv 9, iv 0, iv 0, iv 0, .own i 0 m 6, .imm 0 []])) (hi : cJ hs i = some (aH aV t)) (hm : m = t.length) (hij : j ≠ i) :
  Le ⟨ts, hs, n, z0⟩ ⟨ts, (j, some (aH aV (b.set k (.mk 9 0 0 0 t [])))) :: (i, none) :: hs, n, z0⟩ := by
 subst hm
 rw [H7 hk _ rfl] at hj
 have h := Le.frzC (ts := ts) (n := n) (z0 := z0) (aH aV (b.take k) ++ [iv 9, iv 0, iv 0, iv 0]) (c2 := .imm 0 [] :: aH aV (b.drop (k + 1))) (by rw [hj, List.append_assoc]; rfl) hi hij
 have e : aH aV (b.set k (.mk 9 0 0 0 t [])) = aH aV (b.take k) ++ [iv 9, iv 0, iv 0, iv 0] ++ .imm t.length (aH aV t) :: .imm 0 [] :: aH aV (b.drop (k + 1)) := by
  rw [List.set_eq_take_append_cons_drop, if_pos hk, ← dZ, List.append_assoc]
  congr 1
  show aV _ ++ _ = _
  rw [dJ]; rfl
 rw [e]; exact h
theorem Ft (p : Prg) (k : Int) (hs : bQ p.body ≤ 1000000) : PC Tryz.prog 64 [dD p, iv k] (fun r => r = bv (decide (0 ≤ k ∧ k < p.body.length))) := by
 have hlen := dI p.body
 (refine aU Tryz.func64 rfl (by simp [Tryz.ntmps64]) ?_; rw [Tryz.ntmps64])
 repeat' (first|(apply aM;first|(apply aE;rfl;rfl)|(apply aL;rfl;rfl;rfl;rfl)|(apply aD;rfl;rfl;rfl)|(apply fU;rfl;rfl;omega;rfl)|(apply aC;rfl;rfl)|((with_reducible apply aJ (k := 50));(case ha => rfl);(case h => (apply eD <;> (fail)));(case hp => (rfl));(case hN => rfl))|(apply a8;rfl;rfl;rfl)|(apply aF;kernel_rfl)|(apply b0;rfl;rfl;rfl;rfl))|(apply aN;first|apply aI|apply aB|apply aQ)|with_reducible apply aA)
 refine aP rfl ⟨?_, rfl⟩
 simp only [b9]
 congr 1
 rw [← Bool.decide_and, decide_eq_decide]
 omega
def rT (p : Prg) (k : Nat) : Prop := k < p.body.length ∧ p.body[k]!.op = 10 ∧ cQ (k9 p k) = true
instance (p : Prg) (k : Nat) : Decidable (rT p k) := by unfold rT; infer_instance
def kM (p : Prg) (k : Int) : Option Prg := if cQ p = true ∧ 0 ≤ k ∧ rT p k.toNat then some (k9 p k.toNat) else none
theorem zT (p : Prg) (k : Nat) : bQ (k9 p k).body ≤ 3 * bQ p.body + 10 := by
 unfold k9 Fv
 by_cases hk : k < p.body.length
 ·have h := vH p.body k (.mk 9 0 0 0 (p.body[k]!.th ++ [p.body[k]!]) []) hk
  have h2 := eS p.body k hk
  have h3 := gB p.body[k]!
  have e : dM (.mk 9 0 0 0 (p.body[k]!.th ++ [p.body[k]!]) []) = 1 + (bQ p.body[k]!.th + dM p.body[k]!) := by
   rw [dM, fW]; simp [bQ]
  dsimp only
  omega
 ·rw [List.set_eq_of_length_le (by omega)]; dsimp only;omega
theorem J5 (p : Prg) (k : Int) (hl : p.types.length ≤ 1000000) (hs : bQ p.body ≤ 300000) : PC Tryz.prog 26 [dD p, iv k] (fun r => r = Kr (kM p k)) := by
 have hlen := dI p.body
 have hval := kO p hl (by omega)
 have hst := Ft p k (by omega)
 by_cases h : cQ p = true ∧ 0 ≤ k ∧ k < p.body.length
 ·rw [h.1] at hval
  rw [decide_eq_true h.2] at hst
  obtain ⟨k, rfl⟩ : ∃ j : Nat, k = j := ⟨k.toNat, by omega⟩
  have hkl : k < p.body.length := by omega
  have hck := eS p.body k hkl
  have hct := gB p.body[k]!
  have huc := zT p k
  have hlt := dI p.body[k]!.th
  have hv2 := kO (k9 p k) hl (by omega)
  (refine aU Tryz.func26 rfl (by simp [Tryz.ntmps26]) ?_; rw [Tryz.ntmps26])
  repeat' (first|(apply aM;first|((with_reducible apply aJ (k := 49));(case ha => rfl);(case h => exact hval);(case hp => (exact Pur.pf));(case hN => rfl))|((with_reducible apply aJ (k := 64));(case ha => rfl);(case h => exact hst);(case hp => (exact Pur.pf));(case hN => rfl))|(apply Ii;rfl;(apply JU <;> omega);rfl;rfl)|(apply CZ;rfl;(apply F4;omega);rfl;rfl)|(with_reducible apply dE (d := 45))|(apply aE;rfl;rfl)|(first|(apply fZ;(case hx|hH => rfl);(case hf|hg|hα => infer_instance);(case hk => omega);(case h0|hN => rfl))|(apply aL;rfl;rfl;rfl;rfl)|(apply aY;rfl;rfl;(first|exact (rfl:_=[_, _])|exact (rfl:_=[_, _, _, _, _, _]));rfl;rfl;rfl))|(apply aD;rfl;rfl;rfl)|(apply a6;rfl;rfl;rfl;(rfl))|(apply aR;rfl;rfl;rfl;rfl)|(apply aC;rfl;rfl)|(apply bF;rfl;(rfl);rfl;rfl)|(first|(apply a7;(case hx|hi => rfl);(case hm => (assumption));(case hml => (rfl));(case hα | hf|hg => infer_instance);(case hN => rfl))|(apply cL;rfl;rfl;(assumption);rfl))|(apply cH;rfl;rfl;rfl;rfl;rfl;(rw [aT]; omega);(rfl);omega;omega;(exact gV (by (omega)));rfl;rfl)|(apply aF;kernel_rfl)|(apply bV;rfl;(first|exact (rfl:_=some [_, _])|exact (rfl:_=some [_, _, _, _, _, _]));(first|exact (rfl:_=[_, _])|exact (rfl:_=[_, _, _, _, _, _]));rfl)|(apply cC;rfl;rfl)|(apply b0;rfl;rfl;rfl;rfl)|(apply bE;rfl;rfl)|(apply cG;rfl;rfl;rfl;(exact (rfl:_=some [_, _, _, _, _, _]));rfl;rfl)|(apply aW;rfl;rfl;rfl;rfl;rfl;(case hl => (first|decide|(rw [aT]; simp only [gX] <;> omega)|(simp;done)));(first|exact (rfl:_=[_, _])|exact (rfl:_=[_, _, _, _, _, _])|rfl)))|(apply aN;first|apply aI|apply aB|(apply b8;kernel_rfl)|(apply aO;rfl;all_goals intro hc;have hq:=hc;(try simp only [cF] at hq);try exfalso;omega)|apply aS|apply aQ)|with_reducible apply aA|with_reducible apply bK)
  ·have : kM p k = none := by unfold kM rT; rw [if_neg]; rintro ⟨_, _, _, h3, _⟩; rw [Int.toNat_natCast] at h3; exact hq h3
   rw [this]
   exact nA (r := none) rfl rfl
  have e : AV.agg [sl cI p.types, .imm p.body.length (aH aV (p.body.set k (.mk 9 0 0 0 (p.body[k]!.th ++ [p.body[k]!]) [])))] = dD (k9 p k) := by
   unfold k9 Fv;dsimp only [dD]; unfold sl;rw [List.length_set]
  refine eR (iT (iT ?_ (Le.frzC (j := 5) (i := 4) [sl cI p.types] rfl rfl (by decide))) (Le.frzThen (i := 9) (j := 4) (k := k) (b := p.body) (t := p.body[k]!.th ++ [p.body[k]!]) hkl rfl rfl (by simp) (by decide)))
  rw [← e] at hv2
  repeat' (first|(apply aM;first|((with_reducible apply aJ (k := 49));(case ha => rfl);(case h => exact hv2);(case hp => exact (show dC [_] = true by rw [e]; exact Pur.pf));(case hN => rfl))|(apply aY;rfl;rfl;(exact (rfl:_=[_, _]));rfl;rfl;rfl)|(apply aC;rfl;rfl)|(apply aF;kernel_rfl)|(apply bV;rfl;(exact (rfl:_=some [_, _]));(exact (rfl:_=[_, _]));rfl)|(apply cC;rfl;rfl)|(apply aW;rfl;rfl;rfl;rfl;rfl;(case hl => (first|decide|(simp;done)));(exact (rfl:_=[_, _]))))|(apply aN;first|apply aI|apply aB|(apply aO;rfl;all_goals intro hc;have hq:=hc;(try simp only [cF] at hq);try exfalso;omega)|apply aS|apply aQ)|with_reducible apply aA|with_reducible apply bK)
  ·have : kM p k = none := by unfold kM rT; rw [if_neg]; rintro ⟨_, _, _, _, h3⟩; rw [Int.toNat_natCast, hq] at h3; cases h3
   rw [this]
   exact nA (r := none) rfl rfl
  ·have : kM p k = some (k9 p k) := by
    unfold kM rT;rw [if_pos]; rfl
    rw [Int.toNat_natCast]
    exact ⟨h.1, h.2.1, hkl, by assumption, hq⟩
   rw [this]
   refine nA (l := [AV.agg [sl cI p.types, .imm p.body.length (aH aV (p.body.set k (.mk 9 0 0 0 (p.body[k]!.th ++ [p.body[k]!]) [])))], bv true]) rfl ?_
   show AV.tup [_, _] = AV.tup [dD (k9 p k), bv true]
   rw [e]
 ·have : kM p k = none := by unfold kM; rw [if_neg]; rintro ⟨h1, h2, h3⟩; unfold rT at h3; exact h ⟨h1, h2, by omega⟩
  rw [this]
  cases hv : cQ p
  ·rw [hv] at hval
   (refine aU Tryz.func26 rfl (by simp [Tryz.ntmps26]) ?_; rw [Tryz.ntmps26])
   repeat' (first|(apply aM;first|((with_reducible apply aJ (k := 49));(case ha => rfl);(case h => exact hval);(case hp => (exact Pur.pf));(case hN => rfl))|(apply aE;rfl;rfl)|(apply aY;rfl;rfl;(exact (rfl:_=[_, _]));rfl;rfl;rfl)|(apply bD;rfl;rfl;rfl;(rfl))|(apply aC;rfl;rfl)|(apply bR;rfl;(rfl);rfl;rfl)|(apply aF;kernel_rfl)|(apply bV;rfl;(exact (rfl:_=some [_, _]));(exact (rfl:_=[_, _]));rfl)|(apply cC;rfl;rfl)|(apply b0;rfl;rfl;rfl;rfl)|(apply bE;rfl;rfl)|(apply aW;rfl;rfl;rfl;rfl;rfl;(decide);(exact (rfl:_=[_, _]))))|(apply aN;first|apply aI|apply aB|(apply bZ;rfl;(rfl))|apply aQ)|with_reducible apply aA|with_reducible apply bK)
   exact nA (r := none) rfl rfl
  ·rw [hv] at hval
   rw [decide_eq_false (fun q => h ⟨hv, q⟩)] at hst
   (refine aU Tryz.func26 rfl (by simp [Tryz.ntmps26]) ?_; rw [Tryz.ntmps26])
   repeat' (first|(apply aM;first|((with_reducible apply aJ (k := 49));(case ha => rfl);(case h => exact hval);(case hp => (exact Pur.pf));(case hN => rfl))|((with_reducible apply aJ (k := 64));(case ha => rfl);(case h => exact hst);(case hp => (exact Pur.pf));(case hN => rfl))|(apply aE;rfl;rfl)|(apply aY;rfl;rfl;(exact (rfl:_=[_, _]));rfl;rfl;rfl)|(first|(apply a6;rfl;rfl;rfl;(rfl))|(apply bD;rfl;rfl;rfl;(rfl)))|(apply aC;rfl;rfl)|(first|(apply bR;rfl;(rfl);rfl;rfl)|(apply bF;rfl;(rfl);rfl;rfl))|(apply aF;kernel_rfl)|(apply bV;rfl;(exact (rfl:_=some [_, _]));(exact (rfl:_=[_, _]));rfl)|(apply cC;rfl;rfl)|(apply b0;rfl;rfl;rfl;rfl)|(apply bE;rfl;rfl)|(apply aW;rfl;rfl;rfl;rfl;rfl;(decide);(exact (rfl:_=[_, _]))))|(apply aN;first|apply aI|apply aB|(apply bZ;rfl;(rfl))|apply aQ)|with_reducible apply aA|with_reducible apply bK)
   exact nA (r := none) rfl rfl
theorem K1 (p : Prg) (k : Int) (hl : p.types.length ≤ 1000000) (hs : bQ p.body ≤ 300000) : PC Tryz.prog 27 [dD p, iv k] (fun r => r = Kr (kM p k)) := by
 have hlen := dI p.body
 have hval := l9 p hl (by omega)
 by_cases h : cQ p = true ∧ 0 ≤ k ∧ k < p.body.length
 ·rw [h.1] at hval
  obtain ⟨k, rfl⟩ : ∃ j : Nat, k = j := ⟨k.toNat, by omega⟩
  have hkl : k < p.body.length := by omega
  have hck := eS p.body k hkl
  have hct := gB p.body[k]!
  have huc := zT p k
  have hlt := dI p.body[k]!.th
  have hv2 := l9 (k9 p k) hl (by omega)
  have e1 : (((k : Int) + 1).toNat - (k : Int).toNat) = 1 := by omega
  have e2 : List.take (((k : Int) + 1).toNat - (k : Int).toNat) (List.drop (k : Int).toNat p.body) = [p.body[k]!] := by
   rw [e1, Int.toNat_natCast, hU _ _ hkl]; rfl
  have hcp : PC Tryz.prog 72 [sl aV (List.take (((k : Int) + 1).toNat - (k : Int).toNat) (List.drop (k : Int).toNat p.body))] (fun r => r = sl aV [p.body[k]!]) := by rw [e2]; exact B6 [p.body[k]!] (by simp only [bQ]; omega)
  (refine aU Tryz.func27 rfl (by simp [Tryz.ntmps27]) ?_; rw [Tryz.ntmps27])
  repeat' (first|(apply aM;first|((with_reducible apply aJ (k := 57));(case ha => rfl);(case h => exact hval);(case hp => (exact Pur.pf));(case hN => rfl))|(apply o9;rfl;(apply sW <;> omega);rfl;rfl)|((apply uJ (d := 40));(case ha0 => rfl);(case hmc => (apply w9;omega));(case hM|hN => rfl))|((with_reducible apply aJ (k := 72) (d := 47));(case ha => rfl);(case h => exact hcp);(case hp => exact Pur.pf);(case hN => rfl))|((apply cH (d := 48));(case hx|hy|hze|he0|hH => rfl);(case hl => (rw [aT aV (e := 6)]; omega));(case hs' => exact sC (m := 1) rfl);(case hbig => omega);(case hmx => omega);(case hcs => exact D1 rfl);(case hM|hN => rfl))|(with_reducible apply dE (d := 55))|(apply aE;rfl;rfl)|(first|(apply aL;rfl;rfl;rfl;rfl)|(apply aY;rfl;rfl;(exact (rfl:_=[_, _]));rfl;rfl;rfl))|(apply aD;rfl;rfl;rfl)|(first|(apply a6;rfl;rfl;rfl;(first|rfl|assumption))|(apply bO;(case hj|hb|hN => rfl);all_goals (intro hg;have hq := hg;(try simp only [cF] at hq);(try (exfalso;omega)))))|(first|(apply bU;rfl;rfl;omega;rfl)|(apply aR;rfl;rfl;rfl;rfl))|(apply aC;rfl;rfl)|(apply bF;rfl;(first|rfl|assumption);rfl;rfl)|(first|(apply a7;(case hx|hi => rfl);(case hm => (assumption));(case hml => (rfl));(case hα | hf|hg => infer_instance);(case hN => rfl))|(apply cL;rfl;rfl;(assumption);rfl))|(apply a8;rfl;rfl;rfl)|(apply aF;kernel_rfl)|(apply bV;rfl;(first|exact (rfl:_=some [_, _])|exact (rfl:_=some [_, _, _, _, _, _]));(first|exact (rfl:_=[_, _])|exact (rfl:_=[_, _, _, _, _, _]));rfl)|(apply mT;rfl;infer_instance;rfl;rfl;(omega);rfl)|(apply cC;rfl;rfl)|(apply b0;rfl;rfl;rfl;rfl)|(apply bE;rfl;rfl)|(apply aW;rfl;rfl;rfl;rfl;rfl;(case hl => (first|decide|(rw [aT]; simp only [gX] <;> omega)|(simp;done)));(first|exact (rfl:_=[_, _])|rfl)))|(apply aN;first|apply aI|apply aB|(apply b8;kernel_rfl)|(apply aO;rfl;all_goals intro hc;have hq:=hc;(try simp only [cF] at hq);try exfalso;omega)|apply aS|apply aQ)|with_reducible apply aA|with_reducible apply bK)
  ·have : kM p k = none := by unfold kM rT; rw [if_neg]; rintro ⟨_, _, _, h3, _⟩; rw [Int.toNat_natCast] at h3; exact hq h3
   rw [this]
   exact nA (r := none) rfl rfl
  have e : AV.agg [.imm p.types.length (aH cI p.types), .imm p.body.length (aH aV (p.body.set k (.mk 9 0 0 0 (p.body[k]!.th ++ [p.body[k]!]) [])))] = dD (k9 p k) := by
   unfold k9 Fv;dsimp only [dD]; unfold sl;rw [List.length_set]
  refine eR (iT (iT (iT ?_ (Le.frzC (j := 7) (i := 6) [.imm _ _] rfl rfl (by decide))) (Le.frzC (j := 7) (i := 5) [] rfl rfl (by decide))) (Le.frzThen (i := 9) (j := 6) (k := k) (b := p.body) (t := p.body[k]!.th ++ [p.body[k]!]) hkl rfl rfl (by simp) (by decide)))
  rw [← e] at hv2
  repeat' (first|(apply aM;first|((with_reducible apply aJ (k := 57));(case ha => rfl);(case h => exact hv2);(case hp => exact (show dC [_] = true by rw [e]; exact Pur.pf));(case hN => rfl))|(apply aY;rfl;rfl;(exact (rfl:_=[_, _]));rfl;rfl;rfl)|(apply aC;rfl;rfl)|(apply aF;kernel_rfl)|(apply bV;rfl;(exact (rfl:_=some [_, _]));(exact (rfl:_=[_, _]));rfl)|(apply cC;rfl;rfl)|(apply aW;rfl;rfl;rfl;rfl;rfl;(case hl => (first|decide|(simp;done)));(exact (rfl:_=[_, _]))))|(apply aN;first|apply aI|apply aB|(apply aO;rfl;all_goals intro hc;have hq:=hc;(try simp only [cF] at hq);try exfalso;omega)|apply aS|apply aQ)|with_reducible apply aA|with_reducible apply bK)
  ·have : kM p k = none := by unfold kM rT; rw [if_neg]; rintro ⟨_, _, _, _, h3⟩; rw [Int.toNat_natCast, hq] at h3; cases h3
   rw [this]
   exact nA (r := none) rfl rfl
  ·have : kM p k = some (k9 p k) := by
    unfold kM rT;rw [if_pos]; rfl
    rw [Int.toNat_natCast]
    exact ⟨h.1, h.2.1, hkl, by assumption, hq⟩
   rw [this]
   refine nA (l := [AV.agg [.imm p.types.length (aH cI p.types), .imm p.body.length (aH aV (p.body.set k (.mk 9 0 0 0 (p.body[k]!.th ++ [p.body[k]!]) [])))], bv true]) rfl ?_
   show AV.tup [_, _] = AV.tup [dD (k9 p k), bv true]
   rw [e]
 ·have : kM p k = none := by unfold kM; rw [if_neg]; rintro ⟨h1, h2, h3⟩; unfold rT at h3; exact h ⟨h1, h2, by omega⟩
  rw [this]
  cases hv : cQ p
  ·rw [hv] at hval
   (refine aU Tryz.func27 rfl (by simp [Tryz.ntmps27]) ?_; rw [Tryz.ntmps27])
   repeat' (first|(apply aM;first|((with_reducible apply aJ (k := 57));(case ha => rfl);(case h => exact hval);(case hp => (exact Pur.pf));(case hN => rfl))|(apply aE;rfl;rfl)|(apply aY;rfl;rfl;(exact (rfl:_=[_, _]));rfl;rfl;rfl)|(apply bD;rfl;rfl;rfl;(rfl))|(apply aC;rfl;rfl)|(apply bR;rfl;(rfl);rfl;rfl)|(apply aF;kernel_rfl)|(apply bV;rfl;(exact (rfl:_=some [_, _]));(exact (rfl:_=[_, _]));rfl)|(apply cC;rfl;rfl)|(apply b0;rfl;rfl;rfl;rfl)|(apply bE;rfl;rfl)|(apply aW;rfl;rfl;rfl;rfl;rfl;(decide);(exact (rfl:_=[_, _]))))|(apply aN;first|apply aI|apply aB|(apply bZ;rfl;(rfl))|apply aQ)|with_reducible apply aA|with_reducible apply bK)
   exact nA (r := none) rfl rfl
  ·rw [hv] at hval
   (refine aU Tryz.func27 rfl (by simp [Tryz.ntmps27]) ?_; rw [Tryz.ntmps27])
   repeat' (first|(apply aM;first|((with_reducible apply aJ (k := 57));(case ha => rfl);(case h => exact hval);(case hp => (exact Pur.pf));(case hN => rfl))|(apply aE;rfl;rfl)|(first|(apply aL;rfl;rfl;rfl;rfl)|(apply aY;rfl;rfl;(exact (rfl:_=[_, _]));rfl;rfl;rfl))|(apply aD;rfl;rfl;rfl)|(first|(apply a6;rfl;rfl;rfl;(first|rfl|assumption))|(apply bD;rfl;rfl;rfl;(first|rfl|assumption))|(apply bO;(case hj|hb|hN => rfl);all_goals (intro hg;have hq := hg;(try simp only [cF] at hq);(try (exfalso;omega)))))|(first|(apply bU;rfl;rfl;omega;rfl)|(apply aR;rfl;rfl;rfl;rfl))|(apply aC;rfl;rfl)|(first|(apply bR;rfl;(first|rfl|assumption);rfl;rfl)|(apply bF;rfl;(first|rfl|assumption);rfl;rfl))|(apply dA;(case hx|hi => rfl);(case hm => (omega));(case hml => (rfl));(case hα | hf|hg => infer_instance);(case hN => rfl))|(first|(apply o9;rfl;(apply sW <;> (first|assumption|omega));rfl;rfl)|((with_reducible apply aJ (k := 72));(case ha => rfl);(case h => (apply B6 <;> (grind)));(case hp => (exact Pur.pf));(case hN => rfl)))|(apply a8;rfl;rfl;rfl)|(apply aF;kernel_rfl)|(apply bV;rfl;(exact (rfl:_=some [_, _]));(exact (rfl:_=[_, _]));rfl)|(apply cC;rfl;rfl)|(apply b0;rfl;rfl;rfl;rfl)|(apply bE;rfl;rfl)|(apply aW;rfl;rfl;rfl;rfl;rfl;(case hl => (first|decide|(simp;done)));(exact (rfl:_=[_, _]))))|(apply aN;first|apply aI|apply aB|(apply b8;kernel_rfl)|(apply bZ;rfl;(rfl))|(apply aO;rfl;all_goals intro hc;have hq:=hc;(try simp only [cF] at hq);try exfalso;omega)|apply aS|apply aQ)|with_reducible apply aA|with_reducible apply bK)
   all_goals first
    | exact nA (r := none) rfl rfl
    | (exfalso;exact h ⟨hv, by omega, by omega⟩)
theorem HH (p : Prg) (k : Int) (Q : Prg) (h : kM p k = some Q) : cQ p = true ∧ Q.types = p.types ∧ cQ Q = true ∧ ∀ (w : WG p.types (c9 p)) (f : Flows p.types (c9 p)) (w' : WG p.types (c9 Q)) (g : Flows p.types (c9 Q)), (f.iss = [] → g.iss = []) ∧
  ∀ (cs : List Int), (runP p.types (c9 p) cs 70).2.1 ≠ 1 → (runP p.types (c9 Q) cs 140).1.read = (runP p.types (c9 p) cs 70).1.read ∧ (runP p.types (c9 Q) cs 140).2.1 = (runP p.types (c9 p) cs 70).2.1 := by
 unfold kM at h
 split at h
 ·rename_i hc
  obtain ⟨hv, hk, h1, h2, h3⟩ := hc
  cases h
  obtain ⟨κ, J, c, U⟩ := B3 h1 h2
  refine ⟨hv, rfl, h3, fun w f w' g => ?_⟩
  have A' : WA p.types (c9 (k9 p k.toNat)) := WA.of_valid h3
  generalize c9 (k9 p k.toNat) = QQ at *
  refine ⟨fun hf => (NoI.iff w' g).2 (U.gmap.noI w ((NoI.iff w f).1 hf)), fun cs hcut => ?_⟩
  have := U.runP w' A' cs 70 140 (by decide) hcut
  exact ⟨by rw [this.1], this.2⟩
 ·cases h
theorem uH (bs ms : List UInt8) : PC Tryz.prog 6 [sl cU bs, sl cU ms] (fun r => r = bv true) := by
 rcases Nat.lt_or_ge 1048576 bs.length with hb|hb
 ·(refine aU Tryz.func6 rfl (by simp [Tryz.ntmps6]) ?_; rw [Tryz.ntmps6])
  repeat' (first|(apply aM;first|(apply aE;rfl;rfl)|(first|(apply bD;rfl;rfl;rfl;(assumption))|(apply bO;(case hj|hb|hN => rfl);all_goals (intro hg;have hq := hg;(try simp only [cF] at hq);(try (exfalso;omega)))))|(apply aR;rfl;rfl;rfl;rfl)|(apply aC;rfl;rfl)|(apply bR;rfl;(assumption);rfl;rfl)|(apply a8;rfl;rfl;rfl)|(apply aF;kernel_rfl))|(apply aN;first|apply aI|apply aB|(apply bZ;rfl;(rfl))|apply aQ)|with_reducible apply aA|with_reducible apply bK)
  all_goals exact aP rfl ⟨rfl, rfl⟩
 rcases Nat.lt_or_ge 1048576 ms.length with hm|hm
 ·(refine aU Tryz.func6 rfl (by simp [Tryz.ntmps6]) ?_; rw [Tryz.ntmps6])
  repeat' (first|(apply aM;first|(apply aE;rfl;rfl)|(first|(apply a6;rfl;rfl;rfl;(assumption))|(apply bO;(case hj|hb|hN => rfl);all_goals (intro hg;have hq := hg;(try simp only [cF] at hq);(try (exfalso;omega)))))|(apply aR;rfl;rfl;rfl;rfl)|(apply aC;rfl;rfl)|(apply bF;rfl;(assumption);rfl;rfl)|(apply a8;rfl;rfl;rfl)|(apply aF;kernel_rfl))|(apply aN;first|apply aI|apply aB|(apply aO;rfl;all_goals intro hc;have hq:=hc;(try simp only [cF] at hq);try exfalso;omega)|apply aQ)|with_reducible apply aA|with_reducible apply bK)
  all_goals exact aP rfl ⟨rfl, rfl⟩
 (refine aU Tryz.func6 rfl (by simp [Tryz.ntmps6]) ?_; rw [Tryz.ntmps6])
 repeat' (first|(apply aM;first|((with_reducible apply e8 (k := 25));(case ha => rfl);(case h => exact EK bs hb);(case hp => (exact Pur.pf));(case hN => rfl);(rintro _ ⟨p, k, rfl, hq1, hq2, hq3, hq4⟩ _))|(with_reducible apply dE (d := 32))|(apply aE;rfl;rfl)|(first|(apply a6;rfl;rfl;rfl;(assumption))|(apply bO;(case hj|hb|hN => rfl);all_goals (intro hg;have hq := hg;(try simp only [cF] at hq);(try (exfalso;omega)))))|(apply aR;rfl;rfl;rfl;rfl)|(apply aC;rfl;rfl)|(apply bF;rfl;(assumption);rfl;rfl)|(apply a8;rfl;rfl;rfl)|(apply aF;kernel_rfl)|(apply bE;rfl;rfl)|(apply cB;rfl;rfl;rfl)|(apply aW;rfl;rfl;rfl;rfl;rfl;(case hl => (simp;done));(exact (rfl:_=[_, _]))))|(apply aN;first|apply aI|apply aB|(apply aO;rfl;all_goals intro hc;have hq:=hc;(try simp only [cF] at hq);try exfalso;omega)|apply aS)|with_reducible apply aA)
 refine eR ?_
 have h1 := J5 p k (by omega) (by omega)
 have h2 := K1 p k (by omega) (by omega)
 unfold Kr at h1 h2
 cases hR : kM p k with
 | none =>
  rw [hR] at h1 h2
  have v1 := nR ⟨[], []⟩ (by simp [bQ]) (by simp)
  repeat' (first|(apply aM;first|((with_reducible apply aJ (k := 26));(case ha => rfl);(case h => exact h1);(case hp => (exact Pur.pf));(case hN => rfl))|((with_reducible apply aJ (k := 27));(case ha => rfl);(case h => exact h2);(case hp => (exact Pur.pf));(case hN => rfl))|((with_reducible apply aJ (k := 14));(case ha => rfl);(case h => exact v1);(case hp => (rfl));(case hN => rfl))|(apply aE;rfl;rfl)|(apply aY;rfl;rfl;(exact (rfl:_=[_, _]));rfl;rfl;rfl)|(apply a6;rfl;rfl;rfl;(rfl))|(apply n8;rfl;rfl;rfl;rfl)|(apply aC;rfl;rfl)|(first|(apply bR;rfl;(rfl);rfl;rfl)|(apply bF;rfl;(rfl);rfl;rfl))|(apply aF;kernel_rfl)|(apply cC;rfl;rfl)|(apply bE;rfl;rfl)|(apply cB;rfl;rfl;rfl)|(apply aW;rfl;rfl;rfl;rfl;rfl;(decide);(exact (rfl:_=[_, _]))))|(apply aN;first|apply aI|apply aB|(apply bZ;rfl;(rfl))|apply aQ)|with_reducible apply aA|with_reducible apply bK)
  all_goals first
   | exact aP rfl ⟨rfl, rfl⟩
   | (exfalso;exact (by assumption : ¬ True) trivial)
 | some Q =>
  obtain ⟨hv, hT, hvQ, law⟩ := HH p k Q hR
  rw [hR] at h1 h2
  dsimp only [Option.getD, Option.isSome] at h1 h2
  obtain ⟨t, body⟩ := Q
  dsimp only at hT
  subst hT
  have hcQ := (qG hvQ).2.2
  have v1 := nR ⟨p.types, body⟩ (by omega) (by show p.types.length ≤ _; omega)
  have w := WG.of_valid hv
  have w' : WG p.types (c9 ⟨p.types, body⟩) := WG.of_valid hvQ
  obtain ⟨f⟩ := Flows.ex w
  obtain ⟨g⟩ := Flows.ex w'
  obtain ⟨_, a1⟩ := CT p hv (by omega) (by omega) f
  obtain ⟨_, a2⟩ := CT ⟨p.types, body⟩ hvQ (by show p.types.length ≤ _; omega) (by omega) g
  obtain ⟨lg, lr⟩ := law w f w' g
  clear law
  have hem : f.iss.isEmpty = true → g.iss.isEmpty = true := fun h => by rw [lg (List.isEmpty_iff.1 h)]; rfl
  repeat' (first|(apply aM;first|((with_reducible apply aJ (k := 26));(case ha => rfl);(case h => exact h1);(case hp => (exact Pur.pf));(case hN => rfl))|((with_reducible apply aJ (k := 27));(case ha => rfl);(case h => exact h2);(case hp => (exact Pur.pf));(case hN => rfl))|((with_reducible apply aJ (k := 14));(case ha => rfl);(case h => exact v1);(case hp => (exact Pur.pf));(case hN => rfl))|((with_reducible apply e8 (k := 16));(case ha => rfl);(case h => exact wV ms hm);(case hp => (exact Pur.pf));(case hN => rfl);(rintro _ ⟨q', cs, n', rfl, hr1, hr2, hr3, hr4, hr5⟩ _))|(with_reducible apply dE (d := 71))|(apply aE;rfl;rfl)|(apply aY;rfl;rfl;(exact (rfl:_=[_, _]));rfl;rfl;rfl)|(apply a6;rfl;rfl;rfl;(rfl))|(apply n8;rfl;rfl;rfl;rfl)|(apply aC;rfl;rfl)|(apply bF;rfl;(rfl);rfl;rfl)|(apply aF;kernel_rfl)|(apply cC;rfl;rfl)|(apply bE;rfl;rfl)|(apply cB;rfl;rfl;rfl)|(apply aW;rfl;rfl;rfl;rfl;rfl;(case hl => (simp;done));(exact (rfl:_=[_, _]))))|(apply aN;first|apply aI|apply aB|(apply cS;rfl;(rfl))|apply aS)|with_reducible apply aA)
  refine eR ?_
  have run := lr cs
  clear lr lg
  have n1 := Hi p hv (by omega) (by omega) cs (by omega) 70 (by decide)
  have n2 := Hi ⟨p.types, body⟩ hvQ (by show p.types.length ≤ _; omega) (by omega) cs (by omega) 140 (by decide)
  change PC _ _ _ (fun r => r = .tup [sl cI (runP p.types (c9 ⟨p.types, body⟩) cs 140).1.read, iv (runP p.types (c9 ⟨p.types, body⟩) cs 140).2.1]) at n2
  have hrd : (runP p.types (c9 p) cs 70).1.read.length ≤ 1000000 := Nat.le_trans (nF (by decide)) (by decide)
  have v2 := yT (runP p.types (c9 p) cs 70).1.read hrd
  generalize (runP p.types (c9 p) cs 70).1.read = rd at *
  generalize (runP p.types (c9 p) cs 70).2.1 = en at *
  generalize (runP p.types (c9 ⟨p.types, body⟩) cs 140).1.read = rd2 at *
  generalize (runP p.types (c9 ⟨p.types, body⟩) cs 140).2.1 = en2 at *
  by_cases hcut : en = 1
  ·subst hcut
   repeat' (first|(apply aM;first|((with_reducible apply aJ (k := 17));(case ha => rfl);(case h => exact n1);(case hp => (exact Pur.pf));(case hN => rfl))|((with_reducible apply aJ (k := 17));(case ha => rfl);(case h => exact n2);(case hp => (exact Pur.pf));(case hN => rfl))|((with_reducible apply aJ (k := 19));(case ha => rfl);(case h => exact a1);(case hp => (exact Pur.pf));(case hN => rfl))|((with_reducible apply aJ (k := 19));(case ha => rfl);(case h => exact a2);(case hp => (exact Pur.pf));(case hN => rfl))|(apply aE;rfl;rfl)|(apply aY;rfl;rfl;(exact (rfl:_=[_, _]));rfl;rfl;rfl)|(first|(apply jK;rfl;rfl;rfl)|(apply a6;rfl;rfl;rfl;(first|rfl|assumption))|(apply bD;rfl;rfl;rfl;(first|rfl|assumption))|(apply bO;(case hj|hb|hN => rfl);all_goals (intro hg;have hq := hg;(try simp only [cF] at hq);(try (exfalso;omega)))))|(apply aR;rfl;rfl;rfl;rfl)|(apply aC;rfl;rfl)|(first|(apply bR;rfl;(first|rfl|assumption);rfl;rfl)|(apply bF;rfl;(assumption);rfl;rfl))|(apply aF;kernel_rfl)|(apply cC;rfl;rfl)|(apply cB;rfl;rfl;rfl))|(apply aN;first|apply aI|apply aB|apply aQ)|with_reducible apply aA)
   all_goals first
    | (exfalso;exact (by assumption : ¬ True) trivial)
    | exact aP rfl ⟨rfl, rfl⟩
    | (refine aP rfl ⟨?_, rfl⟩
       simp only [b9]
       rw [hem (by assumption)])
  ·obtain ⟨e1, e2⟩ := run hcut
   subst e1 e2
   repeat' (first|(apply aM;first|((with_reducible apply aJ (k := 17));(case ha => rfl);(case h => exact n1);(case hp => (exact Pur.pf));(case hN => rfl))|((with_reducible apply aJ (k := 17));(case ha => rfl);(case h => exact n2);(case hp => (exact Pur.pf));(case hN => rfl))|((with_reducible apply aJ (k := 19));(case ha => rfl);(case h => exact a1);(case hp => (exact Pur.pf));(case hN => rfl))|((with_reducible apply aJ (k := 19));(case ha => rfl);(case h => exact a2);(case hp => (exact Pur.pf));(case hN => rfl))|((with_reducible apply aJ (k := 20));(case ha => rfl);(case h => exact v2);(case hp => (exact Pur.pf));(case hN => rfl))|(apply aE;rfl;rfl)|(apply aY;rfl;rfl;(exact (rfl:_=[_, _]));rfl;rfl;rfl)|(first|(apply jK;rfl;rfl;rfl)|(apply a6;rfl;rfl;rfl;(first|rfl|assumption))|(apply bD;rfl;rfl;rfl;(first|rfl|assumption))|(apply bO;(case hj|hb|hN => rfl);all_goals (intro hg;have hq := hg;(try simp only [cF] at hq);(try (exfalso;omega)))))|(apply aR;rfl;rfl;rfl;rfl)|(apply aC;rfl;rfl)|(first|(apply bR;rfl;(first|rfl|assumption);rfl;rfl)|(apply bF;rfl;(first|rfl|assumption);rfl;rfl))|(apply aF;kernel_rfl)|(apply cC;rfl;rfl)|(apply cB;rfl;rfl;rfl))|(apply aN;first|apply aI|apply aB|apply aQ)|with_reducible apply aA)
   all_goals first
    | (exfalso;exact (by assumption : ¬ True) trivial)
    | exact aP rfl ⟨rfl, rfl⟩
    | (refine aP rfl ⟨?_, rfl⟩
       simp only [b9]
       rw [hem (by assumption)])
end Go.Proofs.YtjcpngimjdckmaaGreat
