/-
 A part of the proofs over this program: rules and contracts of its functions (the contracts).
-/
import Derived.Test.YtckihjkcgfphmaaGreatP2B02
set_option linter.unusedVariables false
set_option linter.unusedSimpArgs false
set_option maxHeartbeats 8000000
set_option maxRecDepth 4000
attribute [local irreducible] Go.AL.RW Go.AL.AW Go.AL.Stop
namespace Go.Proofs.YtckihjkcgfphmaaGreat
open Go.AL Go.RowKit
theorem nW {stk : List Tg} {id : Int} (h : 0 ≤ c5 stk id) : ∀ k < (c5 stk id).toNat, stk[k]!.id ≠ id := by
 unfold c5 at h ⊢
 split
 ·rename_i k hk
  obtain ⟨h1, h2, h3⟩ := List.findIdx?_eq_some_iff_getElem.1 hk
  rw [Int.toNat_natCast]
  intro j hj he
  have := h3 j hj
  rw [cV _ _ (by omega)] at he
  simp [he] at this
 ·rename_i hk;rw [hk] at h;dsimp only at h;omega
theorem sH {stk : List Tg} {id : Int} {i : Nat} (hi : i < stk.length) (h : stk[i]!.id = id) (hn : ∀ k < i, stk[k]!.id ≠ id) : c5 stk id = (i : Int) := by
 have hb := eI stk id
 by_cases hneg : c5 stk id < 0
 ·have := mH.1 hneg stk[i]! (by rw [cV _ _ hi]; exact List.getElem_mem hi)
  exact absurd h this
 ·have ha := De (stk := stk) (id := id) (by omega)
  have hf := nW (stk := stk) (id := id) (by omega)
  rcases Nat.lt_trichotomy (c5 stk id).toNat i with h1|h1|h1
  ·exact absurd ha (hn _ h1)
  ·omega
  ·exact absurd h (hf _ h1)
theorem yM (stk : List Tg) (id : Int) (hl : stk.length ≤ 1000000) : PC Tryz.prog 237 [sl c6 stk, iv id] (fun r => r = iv (c5 stk id)) := by
 (refine aS Tryz.func237 rfl (by simp [Tryz.ntmps237]) ?_; rw [Tryz.ntmps237])
 repeat' (first|(apply aL;first|(apply aC;rfl;rfl)|(apply aF;kernel_rfl))|(apply aM;first|apply aH|apply aB|apply aN)|with_reducible apply aA)
 refine bL (σ := Nat) [0, 1] [(0, _), (1, _)] [] [] (fun i => [(5, iv (i : Int))]) (fun i => []) (fun i => i ≤ stk.length ∧ (∀ k < i, stk[k]!.id ≠ id)) (fun i => stk.length - i) (0) ⟨Nat.zero_le _, fun k hk => absurd hk (by omega)⟩ rfl rfl (by repeat' (first|exact trivial|refine And.intro rfl ?_)) (by repeat' (exact trivial)) ?_
 rintro i ⟨hi, hn⟩
 try dsimp only at hi hn
 repeat' (first|(apply aL;first|(apply aE;rfl;rfl)|(apply aP;rfl;rfl;rfl;rfl)|(apply aD;rfl;rfl;rfl)|(first|(apply bN;rfl;rfl;omega;rfl)|(apply aU;rfl;rfl;rfl;rfl))|(apply aC;rfl;rfl)|(apply bI;(case hx|hi => rfl);(case hm => (omega));(case hml => (rfl));(case hα | hf|hg => infer_instance);(case hN => rfl))|(apply bM;rfl;rfl;rfl)|(apply aF;kernel_rfl))|(apply aM;first|apply aH|apply aB|(apply aQ;rfl;all_goals intro hc;have hq:=hc;(try simp only [cC] at hq);try exfalso;omega)|apply aN|apply aV|apply bS|apply aO)|with_reducible apply aA|with_reducible apply a8|with_reducible apply bU|with_reducible apply aX|with_reducible apply cA|with_reducible apply bT)
 ·refine aK rfl ⟨?_, rfl⟩
  simp only [bX]; rw [sH (i := i) (by omega) (by assumption) hn]
 ·(apply dG (i + 1); focus (refine Le.ren [] rfl (by decide) ?_ ?_ <;> repeat' (first | exact trivial | refine And.intro ⟨_, rfl, ?_⟩ ?_ | refine Or.inl ⟨?_, (by first | rfl | exact bH _ _)⟩ | rfl)))
  ·refine ⟨by omega, fun k hk => ?_⟩
   rcases Nat.lt_or_ge k i with h|h
   ·exact hn k h
   ·rw [show k = i by omega]; assumption
  ·show stk.length - (i + 1) < stk.length - i;omega
 ·refine aK rfl ⟨?_, rfl⟩
  have := mH (stk := stk) (id := id)
  have hb := eI stk id
  have : c5 stk id < 0 := this.2 (fun t ht => by obtain ⟨k, hk, rfl⟩ := List.getElem_of_mem ht;have := hn k (by omega);rwa [cV _ _ hk] at this)
  simp only [bX]; rw [show c5 stk id = -1 by omega]
theorem lF (c : Cl) : OkC c ↔ (0 ≤ c.val ∧ c.val ≤ 9) ∧ (1 ≤ c.next ∧ c.next ≤ 1000) ∧ (1 ≤ c.stk.length ∧ c.stk.length ≤ 200) ∧ c.stk[0]!.uq = true ∧ (∀ k < c.stk.length, 0 ≤ c.stk[k]!.id ∧ c.stk[k]!.id < c.next ∧ c5 c.stk c.stk[k]!.id = (k : Int)) := by
 constructor
 ·intro h
  refine ⟨h.v, h.n, h.l, h.u, fun k hk => ?_⟩
  have h1 := h.i c.stk[k]! (by rw [cV _ _ hk]; exact List.getElem_mem hk)
  refine ⟨h1.1, h1.2, sH hk rfl (fun j hj he => ?_)⟩
  have hd := List.nodup_iff_pairwise_ne.1 h.d |> List.pairwise_iff_getElem.1
  have := hd j k (by rw [List.length_map]; omega) (by rw [List.length_map]; omega) hj
  simp only [List.getElem_map] at this
  rw [cV _ _ (by omega), cV _ _ hk] at he
  exact this he
 ·rintro ⟨h1, h2, h3, h4, h5⟩
  refine ⟨h1, h2, h3, h4, fun t ht => ?_, ?_⟩
  ·obtain ⟨k, hk, rfl⟩ := List.getElem_of_mem ht
   have := h5 k hk;rw [cV _ _ hk] at this
   exact ⟨this.1, this.2.1⟩
  ·rw [List.nodup_iff_pairwise_ne, List.pairwise_iff_getElem]
   intro i j hi hj hij he
   rw [List.length_map] at hi hj
   simp only [List.getElem_map] at he
   have a := (h5 i hi).2.2
   have b := (h5 j hj).2.2
   rw [cV _ _ hi] at a;rw [cV _ _ hj, ← he, a] at b
   omega
instance (c : Cl) : Decidable (OkC c) := decidable_of_iff _ (lF c).symm
theorem dF (m : List Cl) : OkM m ↔ m.length ≤ 200 ∧ ∀ k < m.length, OkC m[k]! := by
 constructor
 ·exact fun h => ⟨h.l, fun k hk => h.c _ (by rw [cV _ _ hk]; exact List.getElem_mem hk)⟩
 ·exact fun h => ⟨h.1, fun c hc => by obtain ⟨k, hk, rfl⟩ := List.getElem_of_mem hc;have := h.2 k hk;rwa [cV _ _ hk] at this⟩
instance (m : List Cl) : Decidable (OkM m) := decidable_of_iff _ (dF m).symm
theorem Bc (c : Cl) : PC Tryz.prog 235 [Gt c] (fun r => r = bv (decide (OkC c))) := by
 (refine aS Tryz.func235 rfl (by simp [Tryz.ntmps235]) ?_; rw [Tryz.ntmps235])
 repeat' (first|(apply aL;first|(apply aE;rfl;rfl)|(apply aP;rfl;rfl;rfl;rfl)|(apply aD;rfl;rfl;rfl)|(first|(apply aY;rfl;rfl;rfl;(assumption))|(apply a7;rfl;rfl;rfl;(first|rfl|assumption))|(apply bE;(case hj|hb|hN => rfl);all_goals (intro hg;have hq := hg;(try simp only [cC] at hq);(try (exfalso;omega)))))|(apply aU;rfl;rfl;rfl;rfl)|(apply aC;rfl;rfl)|(first|(apply bJ;rfl;(first|rfl|assumption);rfl;rfl)|(apply bC;rfl;(assumption);rfl;rfl))|(apply cM;(case hx|hi => rfl);(case hm => (omega));(case hml => (rfl));(case hα | hf|hg => infer_instance);(case hN => rfl))|(apply bM;rfl;rfl;rfl)|(apply aF;kernel_rfl)|(apply bW;rfl;rfl)|(apply bA;rfl;rfl;rfl;rfl))|(apply aM;first|apply aH|apply aB|(apply bR;rfl;(rfl))|(apply aQ;rfl;all_goals intro hc;have hq:=hc;(try simp only [cC] at hq);try exfalso;omega)|apply aN|apply aV|apply aO)|with_reducible apply aA|with_reducible apply a8)
 all_goals try (refine aK rfl ⟨?_, rfl⟩; simp only [bX]; rw [show decide (OkC c) = false from decide_eq_false (fun h => by
  obtain ⟨h1, h2, h3, h4, h5⟩ := (lF c).1 h
  first|omega|exact absurd (by assumption : c.stk[Int.toNat 0]!.uq = false) (by rw [show Int.toNat 0 = 0 from rfl, h4]; decide))]; done)
 have hu : c.stk[0]!.uq = true := by assumption
 refine bL (σ := Nat) [1] [(1, _)] [0] [(0, some _)] (fun i => [(3, iv (i : Int))]) (fun i => []) (fun i => i ≤ c.stk.length ∧ (∀ k < i, 0 ≤ c.stk[k]!.id ∧ c.stk[k]!.id < c.next ∧ c5 c.stk c.stk[k]!.id = (k : Int))) (fun i => c.stk.length - i) (0) ⟨Nat.zero_le _, fun k hk => absurd hk (by omega)⟩ rfl rfl (by repeat' (first|exact trivial|refine And.intro rfl ?_)) (by repeat' (exact trivial)) ?_
 rintro i ⟨hi, hn⟩
 try dsimp only at hi hn
 repeat' (first|(apply aL;first|((with_reducible apply aJ (k := 237));(case ha => rfl);(case h => exact yM c.stk c.stk[i]!.id (by omega));(case hp => (exact Pur.pf));(case hN => rfl))|(apply aE;rfl;rfl)|(apply aP;rfl;rfl;rfl;rfl)|(apply aD;rfl;rfl;rfl)|(first|(apply aY;rfl;rfl;rfl;(assumption))|(apply a7;rfl;rfl;rfl;(first|rfl|assumption))|(apply bE;(case hj|hb|hN => rfl);all_goals (intro hg;have hq := hg;(try simp only [cC] at hq);(try (exfalso;omega)))))|(first|(apply bN;rfl;rfl;omega;rfl)|(apply aU;rfl;rfl;rfl;rfl))|(apply aC;rfl;rfl)|(first|(apply bJ;rfl;(first|rfl|assumption);rfl;rfl)|(apply bC;rfl;(assumption);rfl;rfl))|(apply bI;(case hx|hi => rfl);(case hm => (omega));(case hml => (rfl));(case hα | hf|hg => infer_instance);(case hN => rfl))|(apply bM;rfl;rfl;rfl)|(apply aF;kernel_rfl))|(apply aM;first|apply aH|apply aB|(apply bZ;kernel_rfl)|(apply bR;rfl;(rfl))|(apply aQ;rfl;all_goals intro hc;have hq:=hc;(try simp only [cC] at hq);try exfalso;omega)|apply aN|apply aV|apply bS|apply aO)|with_reducible apply aA|with_reducible apply a8|with_reducible apply bU|with_reducible apply aX|with_reducible apply cA|with_reducible apply bT)
 all_goals try (refine aK rfl ⟨?_, rfl⟩; simp only [bX]; rw [show decide (OkC c) = false from decide_eq_false (fun h => by
  obtain ⟨h1, h2, h3, h4, h5⟩ := (lF c).1 h
  exact absurd (h5 i (by omega)) (by omega))]; done)
 ·(apply dG (i + 1); focus (refine Le.ren [(0, 0)] rfl (by decide) ?_ ?_ <;> repeat' (first | exact trivial | refine And.intro ⟨_, rfl, ?_⟩ ?_ | refine And.intro ⟨_, _, rfl, rfl, ?_⟩ ?_ | exact Or.inr rfl | refine Or.inl ⟨?_, (by first | rfl | exact Pur.pf)⟩ | rfl)))
  ·refine ⟨by omega, fun k hk => ?_⟩
   rcases Nat.lt_or_ge k i with h|h
   ·exact hn k h
   ·rw [show k = i by omega]; exact ⟨by assumption, by assumption, by assumption⟩
  ·show c.stk.length - (i + 1) < c.stk.length - i;omega
 ·refine aK rfl ⟨?_, rfl⟩
  simp only [bX]
  rw [show decide (OkC c) = true from decide_eq_true ((lF c).2 ⟨by omega, by omega, by omega, hu, fun k hk => hn k (by omega)⟩)]
theorem kX (m : List Cl) (hl : m.length ≤ 1000000) : PC Tryz.prog 191 [sl cK m] (fun r => r = bv (decide (OkM m))) := by
 (refine aS Tryz.func191 rfl (by simp [Tryz.ntmps191]) ?_; rw [Tryz.ntmps191])
 repeat' (first|(apply aL;first|(apply aC;rfl;rfl)|(apply aF;kernel_rfl))|(apply aM;first|apply aH|apply aB|apply aN)|with_reducible apply aA)
 refine bL (σ := Nat) [0] [(0, _)] [] [] (fun i => [(3, iv (i : Int))]) (fun i => []) (fun i => i ≤ m.length ∧ i ≤ 201 ∧ (∀ k < i, OkC m[k]!)) (fun i => m.length - i) (0) ⟨Nat.zero_le _, by omega, fun k hk => absurd hk (by omega)⟩ rfl rfl (by repeat' (first|exact trivial|refine And.intro rfl ?_)) (by repeat' (exact trivial)) ?_
 rintro i ⟨hi, hi2, hn⟩
 try dsimp only at hi hi2 hn
 repeat' (first|(apply aL;first|((with_reducible apply aJ (k := 235));(case ha => rfl);(case h => exact Bc m[i]!);(case hp => (exact Pur.pf));(case hN => rfl))|(apply aE;rfl;rfl)|(apply aR;rfl;rfl;(exact (rfl:_=[_, _, _, _]));rfl;rfl;rfl)|(first|(apply aY;rfl;rfl;rfl;(assumption))|(apply a7;rfl;rfl;rfl;(assumption))|(apply bE;(case hj|hb|hN => rfl);all_goals (intro hg;have hq := hg;(try simp only [cC] at hq);(try (exfalso;omega)))))|(first|(apply bN;rfl;rfl;omega;rfl)|(apply aU;rfl;rfl;rfl;rfl))|(apply aC;rfl;rfl)|(first|(apply bJ;rfl;(assumption);rfl;rfl)|(apply bC;rfl;(assumption);rfl;rfl))|(apply bI;(case hx|hi => rfl);(case hm => (omega));(case hml => (rfl));(case hα | hf|hg => infer_instance);(case hN => rfl))|(apply bM;rfl;rfl;rfl)|(apply aF;kernel_rfl)|(apply bW;rfl;rfl))|(apply aM;first|apply aH|apply aB|(apply b9;rfl;(rfl))|(apply aQ;rfl;all_goals intro hc;have hq:=hc;(try simp only [cC] at hq);try exfalso;omega)|apply aN|apply aV|apply bS|apply aO)|with_reducible apply aA|with_reducible apply a8|with_reducible apply bU|with_reducible apply aX|with_reducible apply cA|with_reducible apply bT)
 ·refine aK rfl ⟨?_, rfl⟩
  simp only [bX]; rw [show decide (OkM m) = false from decide_eq_false (fun h => by
   have h1 := ((dF m).1 h).2 i (by omega)
   have h2 : ¬ OkC m[i]! := by assumption
   exact h2 h1)]
 ·(apply dG (i + 1); focus (refine Le.ren [] rfl (by decide) ?_ ?_ <;> repeat' (first | exact trivial | refine And.intro ⟨_, rfl, ?_⟩ ?_ | refine Or.inl ⟨?_, (by first | rfl | exact bH _ _)⟩ | rfl)))
  ·refine ⟨by omega, by omega, fun k hk => ?_⟩
   rcases Nat.lt_or_ge k i with h|h
   ·exact hn k h
   ·rw [show k = i by omega]; assumption
  ·show m.length - (i + 1) < m.length - i;omega
 ·refine aK rfl ⟨?_, rfl⟩
  simp only [bX]
  rw [show decide ((m.length : Int) ≤ 200) = false from decide_eq_false (by omega), show decide (OkM m) = false from decide_eq_false (fun h => by have := h.l;omega)]
 ·refine aK rfl ⟨?_, rfl⟩
  simp only [bX]
  rw [show decide ((m.length : Int) ≤ 200) = decide (OkM m) from decide_eq_decide.2 ⟨fun h => (dF m).2 ⟨by omega, fun k hk => hn k (by omega)⟩, fun h => by have := h.l;omega⟩]
theorem jB (k : Int) : PC Tryz.prog 142 [iv k] (fun r => r = iv (if k = 1 then 3 else if k = 0 then 0 else 4)) := by
 (refine aS Tryz.func142 rfl (by simp [Tryz.ntmps142]) ?_; rw [Tryz.ntmps142])
 repeat' (first|(apply aL;first|(apply aE;rfl;rfl)|(apply aU;rfl;rfl;rfl;rfl)|(apply aC;rfl;rfl)|(apply aF;kernel_rfl))|(apply aM;first|apply aH|apply aB|(apply aQ;rfl;all_goals intro hc;have hq:=hc;(try simp only [cC] at hq);try exfalso;omega)|apply aN|apply aV|apply aO)|with_reducible apply aA|with_reducible apply a8|with_reducible apply aX|with_reducible apply cA|((with_reducible apply aK);case hr => rfl))
 all_goals (refine ⟨?_, rfl⟩; simp only [bX, AV.v.injEq, Value.bool.injEq, Value.int.injEq, true_and])
 all_goals grind
theorem nG (k : Int) : PC Tryz.prog 133 [iv k] (fun r => r = iv (eU k)) := by
 (refine aS Tryz.func133 rfl (by simp [Tryz.ntmps133]) ?_; rw [Tryz.ntmps133])
 repeat' (first|(apply aL;first|(apply aE;rfl;rfl)|(apply aU;rfl;rfl;rfl;rfl)|(apply aC;rfl;rfl)|(apply aF;kernel_rfl))|(apply aM;first|apply aH|apply aB|(apply aQ;rfl;all_goals intro hc;have hq:=hc;(try simp only [cC] at hq);try exfalso;omega)|apply aV|apply aO)|with_reducible apply aA|with_reducible apply a8|((with_reducible apply aK);case hr => rfl))
 all_goals (refine ⟨?_, rfl⟩; simp only [bX, AV.v.injEq, Value.bool.injEq, Value.int.injEq, true_and])
 all_goals grind [eU]
theorem pD {xs : List Tg} {m : Nat} {a : Int} {b : Bool} (hm : m = xs.length) : ((aI c6 xs).drop 0).take (m * 2) ++ [iv a, bv b] = aI c6 (xs ++ [⟨a, b⟩]) := gD hm rfl
theorem Cb {xs : List Cl} {m : Nat} {a c : Int} {b : Bool} {s : List Tg} (hm : m = xs.length) : ((aI cK xs).drop 0).take (m * 4) ++ [iv a, bv b, iv c, sl c6 s] = aI cK (xs ++ [⟨a, b, c, s⟩]) := gD hm rfl
theorem iO {α : Type} [Inhabited α] (l : List α) {k i : Nat} (h : k ≤ i) (hi : i < l.length) : (l.drop k).take (i + 1 - k) = (l.drop k).take (i - k) ++ [l[i]!] := by
 have hl : i - k < (l.drop k).length := by rw [List.length_drop]; omega
 have h1 := cQ (l.drop k) (i - k) hl
 rw [show i + 1 - k = i - k + 1 by omega, h1]
 congr 2
 rw [cV (l.drop k) (i - k) hl, List.getElem_drop, cV l i hi]
 congr 1;omega
theorem l6 {α} {p : α → Bool} {a : α} (h : p a = true) : [a].filter p = [a] := by simp [h]
theorem kI {α} {p : α → Bool} {a : α} (h : p a = false) : [a].filter p = [] := by simp [h]
theorem Cg (stk : List Tg) (k : Nat) (hk : k < stk.length) (hl : stk.length ≤ 1000000) : PC Tryz.prog 196 [sl c6 stk, iv (k : Int)] (fun r => r = sl c6 (fM stk k false)) := by
 have e1 : List.take (((k : Int) + 1).toNat - 0) (List.drop 0 stk) = stk.take (k + 1) := by rw [List.drop_zero]; congr 1
 have e2 : (stk.take (k + 1)).length = k + 1 := by rw [List.length_take]; omega
 (refine aS Tryz.func196 rfl (by simp [Tryz.ntmps196]) ?_; rw [Tryz.ntmps196])
 repeat' (first|(apply aL;first|(with_reducible apply cF (d := 12))|(apply aE;rfl;rfl)|(apply bN;rfl;rfl;omega;rfl)|(apply aC;rfl;rfl)|(apply aF;kernel_rfl)|(apply gT;rfl;infer_instance;rfl;rfl;(omega);rfl)|(apply bQ;rfl;rfl;rfl;(rfl);rfl;rfl))|(apply aM;first|apply aH|apply aB)|with_reducible apply aA)
 refine dB ?_
 rw [e1]
 repeat' (first|(apply aL;first|(apply aE;rfl;rfl)|(apply bN;rfl;rfl;omega;rfl)|(apply aC;rfl;rfl)|(apply bV;rfl;rfl;rfl;rfl;rfl;(case hl => (simp [aT]; done));(exact gF (by (rfl)));omega;omega;(exact dW (by (omega)));rfl;rfl)|(apply aF;kernel_rfl))|(apply aM;first|apply aH|apply aB|apply aN)|with_reducible apply aA)
 refine bL (σ := Nat × List Tg × Nat) [0] [(0, _)] [] [] (fun s => [(6, iv (s.1 : Int)), (5, .own 1 0 s.2.2 2)]) (fun s => [(1, some (aI c6 s.2.1))]) (fun s => k + 1 ≤ s.1 ∧ s.1 ≤ stk.length ∧ s.2.1 = stk.take (k + 1) ++ ((stk.drop (k + 1)).take (s.1 - (k + 1))).filter (fun t => !t.uq) ∧ s.2.2 = s.2.1.length ∧ s.2.2 ≤ s.1) (fun s => stk.length - s.1) (k + 1, stk.take (k + 1), 0 + (stk.take (k + 1)).length) ⟨Nat.le_refl _, by dsimp only;omega, by simp, by dsimp only;omega, by dsimp only;omega⟩ rfl rfl (by repeat' (first|exact trivial|refine And.intro rfl ?_)) (by repeat' (first|exact trivial|refine And.intro (.inr rfl) ?_)) ?_
 rintro ⟨i, xs, n⟩ ⟨hki, hi, hxs, hn, hni⟩
 dsimp only at hki hi hxs hn hni ⊢
 repeat' (first|(apply aL;first|(apply aE;rfl;rfl)|(first|(apply aP;rfl;rfl;rfl;rfl)|(apply aR;rfl;rfl;(exact (rfl:_=[_, _]));rfl;rfl;rfl))|(apply aD;rfl;rfl;rfl)|(first|(apply bN;rfl;rfl;omega;rfl)|(apply aU;rfl;rfl;rfl;rfl))|(apply aC;rfl;rfl)|(apply bI;(case hx|hi => rfl);(case hm => (omega));(case hml => (rfl));(case hα | hf|hg => infer_instance);(case hN => rfl))|(first|(apply bM;rfl;rfl;rfl)|(apply bV;rfl;rfl;rfl;rfl;rfl;(rw [aT]; omega);(rfl);omega;omega;(exact pD (by (assumption)));rfl;rfl))|(apply aF;kernel_rfl)|(apply bW;rfl;rfl)|((apply bF (t := _));(case hze|hsm|hl => rfl);(case hfl => (exact (rfl:_=some [_, _])));(case hM|hN => rfl)))|(apply aM;first|apply aH|apply aB|(apply aQ;rfl;all_goals intro hc;have hq:=hc;(try simp only [cC] at hq);try exfalso;omega)|apply aN|apply aV|apply bS|apply aO)|with_reducible apply aA|with_reducible apply bU|with_reducible apply aX|with_reducible apply bT)
 ·(apply dG (i + 1, _, _); focus (refine Le.ren [(1, 3)] rfl (by decide) ?_ ?_ <;> repeat' (first | exact trivial | refine And.intro ⟨_, rfl, ?_⟩ ?_ | refine And.intro ⟨_, _, rfl, rfl, ?_⟩ ?_ | exact Or.inr rfl | refine Or.inl ⟨?_, (by first | rfl | exact bH _ _)⟩ | rfl)))
  ·refine ⟨by dsimp only; omega, by dsimp only; omega, ?_, by dsimp only; rw [List.length_append, hn]; rfl, by dsimp only; omega⟩
   dsimp only
   rw [hxs, iO stk hki (by omega), List.filter_append, List.append_assoc]
   congr 2
   have hu : stk[i]!.uq = false := by assumption
   rw [l6 (by rw [hu]; rfl)]
  ·dsimp only;omega
 ·(apply dG (i + 1, xs, n); focus (refine Le.ren [(1, 1)] rfl (by decide) ?_ ?_ <;> repeat' (first | exact trivial | refine And.intro ⟨_, rfl, ?_⟩ ?_ | refine And.intro ⟨_, _, rfl, rfl, ?_⟩ ?_ | exact Or.inr rfl | refine Or.inl ⟨?_, (by first | rfl | exact bH _ _)⟩ | rfl)))
  ·refine ⟨by dsimp only; omega, by dsimp only; omega, ?_, hn, by dsimp only; omega⟩
   dsimp only
   have hu : stk[i]!.uq = true := by assumption
   rw [hxs, iO stk hki (by omega), List.filter_append, kI (by rw [hu]; rfl), List.append_nil]
  ·dsimp only;omega
 ·(refine b0 (Le.frzD (d := 4) (i := 1) rfl rfl) ?_; refine aK rfl ?_)
  refine ⟨?_, (by (exact bH _ _))⟩
  have hie : i = stk.length := by omega
  simp only [bX, sl]
  have hd : (stk.drop (k + 1)).take (stk.length - (k + 1)) = stk.drop (k + 1) := List.take_of_length_le (by rw [List.length_drop]; exact Nat.le_refl _)
  rw [hn, hxs, hie, hd]
  rfl
theorem Cm (m : List Cl) (hm : OkM m) : PC Tryz.prog 192 [sl cK m] (fun r => r = sl cK m) := by
 have hml := hm.l
 (refine aS Tryz.func192 rfl (by simp [Tryz.ntmps192]) ?_; rw [Tryz.ntmps192])
 repeat' (first|(apply aL;first|(apply aC;rfl;rfl)|(apply aF;kernel_rfl)|(apply bQ;rfl;rfl;rfl;(rfl);rfl;rfl))|(apply aM;first|apply aH|apply aB|apply aN)|with_reducible apply aA)
 refine bL (σ := Nat × List Cl) [0] [(0, _)] [] [] (fun k => [(4, iv (k.1 : Int)), (3, .own 0 0 k.1 4)]) (fun k => [(0, some (aI cK k.2))]) (fun k => k.1 ≤ m.length ∧ k.2 = m.take k.1) (fun k => m.length - k.1) (0, []) ⟨by omega, rfl⟩ rfl rfl (by repeat' (first|exact trivial|refine And.intro rfl ?_)) (by repeat' (first|exact trivial|refine And.intro (.inr rfl) ?_)) ?_
 rintro ⟨i, xs⟩ ⟨hi, hxs⟩
 dsimp only at hi hxs ⊢
 have hln : xs.length = i := by rw [hxs, List.length_take]; exact Nat.min_eq_left hi
 have hst : i < m.length → m[i]!.stk.length ≤ 200 := fun h => (((dF m).1 hm).2 i h).l.2
 repeat' (first|(apply aL;first|(with_reducible apply cF (d := 21))|(apply aE;rfl;rfl)|(first|(apply aP;rfl;rfl;rfl;rfl)|(apply aR;rfl;rfl;(exact (rfl:_=[_, _, _, _]));rfl;rfl;rfl))|(apply aD;rfl;rfl;rfl)|(apply aU;rfl;rfl;rfl;rfl)|(apply aC;rfl;rfl)|(apply bI;(case hx|hi => rfl);(case hm => (omega));(case hml => (rfl));(case hα | hf|hg => infer_instance);(case hN => rfl))|(first|(apply bM;rfl;rfl;rfl)|(apply bV;rfl;rfl;rfl;rfl;rfl;(case hl => (simp [aT]; done));(exact gF (by (rfl)));omega;omega;(exact dW (by (omega)));rfl;rfl))|(apply aF;kernel_rfl)|(apply bD;rfl;rfl)|(apply bQ;rfl;rfl;rfl;(rfl);rfl;rfl)|(apply aW;rfl;rfl;rfl;rfl;rfl;(case hl => (simp;done));(exact (rfl:_=[_, _, _, _]))))|(apply aM;first|apply aH|apply aB|(apply aQ;rfl;all_goals intro hc;have hq:=hc;(try simp only [cC] at hq);try exfalso;omega)|apply aN|apply aV|apply bS|apply aO)|with_reducible apply aA|with_reducible apply bU|with_reducible apply bT)
 ·refine dB (gI ?_ (Le.frzD (d := 20) (i := 3) rfl rfl))
  rw [Nat.zero_add m[i]!.stk.length]
  repeat' (first|(apply aL;first|(apply aE;rfl;rfl)|(apply aR;rfl;rfl;(exact (rfl:_=[_, _, _, _]));rfl;rfl;rfl)|(apply aD;rfl;rfl;rfl)|(apply bN;rfl;rfl;omega;rfl)|(apply aC;rfl;rfl)|(apply bV;rfl;rfl;rfl;rfl;rfl;(rw [aT]; omega);(rfl);omega;omega;(exact Cb (by (omega)));rfl;rfl)|(apply aF;kernel_rfl)|((apply bF (t := _));(case hze|hsm|hl => rfl);(case hfl => (exact (rfl:_=some [_, _, _, _])));(case hM|hN => rfl))|(apply aW;rfl;rfl;rfl;rfl;rfl;(case hl => (simp;done));(exact (rfl:_=[_, _, _, _]))))|(apply aM;(apply aB))|with_reducible apply aA|with_reducible apply aX)
  (apply dG (i + 1, _);focus (refine Le.ren [(0, 5)] rfl (by decide) ?_ ?_ <;> repeat' (first|exact trivial|refine And.intro ⟨_, rfl, ?_⟩ ?_|refine And.intro ⟨_, _, rfl, rfl, ?_⟩ ?_|exact Or.inr rfl|refine Or.inl ⟨?_, (by first|rfl|exact bH _ _)⟩|rfl)))
  ·exact ⟨by dsimp only;omega, by dsimp only;rw [hxs, cQ m i (by omega)]⟩
  ·dsimp only;omega
 ·(refine b0 (Le.frzD (d := 2) (i := 0) rfl rfl) ?_; refine aK rfl ?_)
  refine ⟨?_, (by (exact bH _ _))⟩
  have hie : i = m.length := by omega
  simp only [bX, sl]
  rw [hxs, hie, List.take_length]
theorem wN {m : List Cl} {x : Pt} {wr : Bool} (h : x.cell < 0 ∨ (m.length : Int) ≤ x.cell) : cD m x wr = 4 := by
 unfold cD;rw [if_pos (by omega)]
theorem A1 {m : List Cl} {x : Pt} {wr : Bool} (h : 0 ≤ x.cell) (h2 : x.cell < m.length) (h3 : m[x.cell.toNat]!.alive = false) : cD m x wr = 1 := by
 unfold cD;rw [if_neg (by omega), if_pos h3]
theorem Cr {m : List Cl} {x : Pt} {wr : Bool} (h : 0 ≤ x.cell) (h2 : x.cell < m.length) (h3 : m[x.cell.toNat]!.alive = true) (h4 : c5 m[x.cell.toNat]!.stk x.tag < 0) : cD m x wr = 2 := by
 unfold cD;rw [if_neg (by omega), if_neg (by rw [h3]; decide), if_pos h4]
theorem nH {m : List Cl} {x : Pt} (h : 0 ≤ x.cell) (h2 : x.cell < m.length) (h3 : m[x.cell.toNat]!.alive = true) (h4 : 0 ≤ c5 m[x.cell.toNat]!.stk x.tag) : cD m x false = 0 := by
 unfold cD;rw [if_neg (by omega), if_neg (by rw [h3]; decide), if_neg (by omega), if_neg (by intro q;exact absurd q.1 (by decide))]
theorem sW {m : List Cl} {x : Pt} : cD m x true = if cD m x false = 0 then (if m[x.cell.toNat]!.stk[(c5 m[x.cell.toNat]!.stk x.tag).toNat]!.uq = false then 3 else 0) else cD m x false := by
 unfold cD
 split
 ·rw [if_neg (by decide)]
 ·split
  ·rw [if_neg (by decide)]
  ·split
   ·rw [if_neg (by decide)]
   ·rw [if_neg (c := false = true ∧ _) (by intro q; exact absurd q.1 (by decide)), if_pos rfl]
    simp only [true_and]
theorem dN {m : List Cl} {x : Pt} {wr : Bool} (h : cD m x wr = 0) : 0 ≤ x.cell ∧ x.cell < m.length ∧ m[x.cell.toNat]!.alive = true ∧ 0 ≤ c5 m[x.cell.toNat]!.stk x.tag ∧ (wr = true → m[x.cell.toNat]!.stk[(c5 m[x.cell.toNat]!.stk x.tag).toNat]!.uq = true) := by
 unfold cD at h
 split at h
 ·omega
 ·split at h
  ·omega
  ·split at h
   ·omega
   ·split at h
    ·omega
    ·rename_i a b c d
     refine ⟨by omega, by omega, by simpa using b, by omega, fun hw => ?_⟩
     by_cases q : m[x.cell.toNat]!.stk[(c5 m[x.cell.toNat]!.stk x.tag).toNat]!.uq = false
     ·exact absurd ⟨hw, q⟩ d
     ·simpa using q
theorem eS {m : List Cl} {N : Nat} {Q : Exit → AS → Prop} {all : Array Oper} {rest : List Oper} {tsl : List (Nat × AV)} {hsl : List (Nat × Option (List AV))} {nidl : Nat} {z0 : Lo} {md : Md} {d : Nat} {ty : TypeId} {pos : String} {af : Array Edge} {tys : Array TypeId} {x0 : Operand} (ha0 : ev (lk tsl) x0 = some (sl cK m)) (hmc : MC Tryz.prog 192 [sl cK m] [] 0 (fun _ : Unit => True) (fun _ => .own 0 0 m.length 4) (fun _ => [(0, some (aI cK m))])) (hM : Nat.ble (nidl + 1) dR = true) (hN : Nat.blt d N = true) {md' : Md} [hmd : MdA md (e7 [x0] ++ []) (List.map Sum.inr (List.map Prod.fst ([(nidl, some (aI cK m))] : List (Nat × Option (List AV)))) ++ [.inl d]) md'] (kk : RW Tryz.prog N all Q md' rest ⟨(d, .own nidl 0 m.length 4) :: tsl, fS hsl [(nidl, some (aI cK m))], nidl + 1, z0⟩) : RW Tryz.prog N all Q md (⟨some d, .call ⟨.value (.func 192), #[x0], tys⟩, ty, pos, af, none⟩ :: rest) ⟨tsl, hsl, nidl, z0⟩ := by
 refine bP [] 1 [(nidl, some (aI cK m))] hmc (avs := [sl cK m]) ?_ rfl ?_ rfl ?_ (by simpa using hM) ?_ ?_ ?_ hN (md' := md') (hmd := hmd) kk
 ·show evL (lk tsl) [x0] = _
  simp only [evL, ha0]
 ·exact trivial
 ·(repeat' (exact RnL.purI inferInstance))
 ·(repeat' (exact RnV.own rfl))
 ·simp [cZ]
 ·(repeat' (first|exact trivial|(refine And.intro ⟨0, _, rfl, rfl, ?_⟩ ?_)|exact RnL.purI inferInstance))
theorem fA (m : List Cl) (hm : OkM m) : MC Tryz.prog 192 [sl cK m] [] 0 (fun _ : Unit => True) (fun _ => .own 0 0 m.length 4) (fun _ => [(0, some (aI cK m))]) := by
 have hml := hm.l
 (refine bK Tryz.func192 rfl (by simp [Tryz.ntmps192]) ?_; rw [Tryz.ntmps192])
 repeat' (first|(apply aL;first|(apply aC;rfl;rfl)|(apply aF;kernel_rfl)|(apply bQ;rfl;rfl;rfl;(rfl);rfl;rfl))|(apply aM;first|apply aH|apply aB|apply aN)|with_reducible apply aA)
 refine bL (σ := Nat × List Cl) [0] [(0, _)] [] [] (fun k => [(4, iv (k.1 : Int)), (3, .own 0 0 k.1 4)]) (fun k => [(0, some (aI cK k.2))]) (fun k => k.1 ≤ m.length ∧ k.2 = m.take k.1) (fun k => m.length - k.1) (0, []) ⟨by omega, rfl⟩ rfl rfl (by repeat' (first|exact trivial|refine And.intro rfl ?_)) (by repeat' (first|exact trivial|refine And.intro (.inr rfl) ?_)) ?_
 rintro ⟨i, xs⟩ ⟨hi, hxs⟩
 dsimp only at hi hxs ⊢
 have hln : xs.length = i := by rw [hxs, List.length_take]; exact Nat.min_eq_left hi
 have hst : i < m.length → m[i]!.stk.length ≤ 200 := fun h => (((dF m).1 hm).2 i h).l.2
 repeat' (first|(apply aL;first|(with_reducible apply cF (d := 21))|(apply aE;rfl;rfl)|(first|(apply aP;rfl;rfl;rfl;rfl)|(apply aR;rfl;rfl;(exact (rfl:_=[_, _, _, _]));rfl;rfl;rfl))|(apply aD;rfl;rfl;rfl)|(apply aU;rfl;rfl;rfl;rfl)|(apply aC;rfl;rfl)|(apply bI;(case hx|hi => rfl);(case hm => (omega));(case hml => (rfl));(case hα | hf|hg => infer_instance);(case hN => rfl))|(first|(apply bM;rfl;rfl;rfl)|(apply bV;rfl;rfl;rfl;rfl;rfl;(case hl => (simp [aT]; done));(exact gF (by (rfl)));omega;omega;(exact dW (by (omega)));rfl;rfl))|(apply aF;kernel_rfl)|(apply bD;rfl;rfl)|(apply bQ;rfl;rfl;rfl;(rfl);rfl;rfl)|(apply aW;rfl;rfl;rfl;rfl;rfl;(case hl => (simp;done));(exact (rfl:_=[_, _, _, _]))))|(apply aM;first|apply aH|apply aB|(apply aQ;rfl;all_goals intro hc;have hq:=hc;(try simp only [cC] at hq);try exfalso;omega)|apply aN|apply aV|apply bS|apply aO)|with_reducible apply aA|with_reducible apply bU|with_reducible apply bT)
 ·refine dB (gI ?_ (Le.frzD (d := 20) (i := 3) rfl rfl))
  rw [Nat.zero_add m[i]!.stk.length]
  repeat' (first|(apply aL;first|(apply aE;rfl;rfl)|(apply aR;rfl;rfl;(exact (rfl:_=[_, _, _, _]));rfl;rfl;rfl)|(apply aD;rfl;rfl;rfl)|(apply bN;rfl;rfl;omega;rfl)|(apply aC;rfl;rfl)|(apply bV;rfl;rfl;rfl;rfl;rfl;(rw [aT]; omega);(rfl);omega;omega;(exact Cb (by (omega)));rfl;rfl)|(apply aF;kernel_rfl)|((apply bF (t := _));(case hze|hsm|hl => rfl);(case hfl => (exact (rfl:_=some [_, _, _, _])));(case hM|hN => rfl))|(apply aW;rfl;rfl;rfl;rfl;rfl;(case hl => (simp;done));(exact (rfl:_=[_, _, _, _]))))|(apply aM;(apply aB))|with_reducible apply aA|with_reducible apply aX)
  (apply dG (i + 1, _);focus (refine Le.ren [(0, 5)] rfl (by decide) ?_ ?_ <;> repeat' (first|exact trivial|refine And.intro ⟨_, rfl, ?_⟩ ?_|refine And.intro ⟨_, _, rfl, rfl, ?_⟩ ?_|exact Or.inr rfl|refine Or.inl ⟨?_, (by first|rfl|exact bH _ _)⟩|rfl)))
  ·exact ⟨by dsimp only;omega, by dsimp only;rw [hxs, cQ m i (by omega)]⟩
  ·dsimp only;omega
 ·have hie : i = m.length := by omega
  (refine aK rfl ?_; refine bG () trivial ?_ ⟨.inr (Eq.trans (b := some _) rfl ?_), trivial⟩)
  ·rw [hie]; rfl
  ·rw [hxs, hie, List.take_length]
theorem jH (m : List Cl) (hm : OkM m) (x : Pt) : PC Tryz.prog 195 [sl cK m, kQ x] (fun r => r = .tup [iv (if cD m x false = 0 then c5 m[x.cell.toNat]!.stk x.tag else 0), iv (cD m x false)]) := by
 have hml := hm.l
 have hcv := kX m (by omega)
 rw [decide_eq_true hm] at hcv
 have hst : 0 ≤ x.cell → x.cell < m.length → m[x.cell.toNat]!.stk.length ≤ 1000000 := fun h1 h2 => Nat.le_trans (((dF m).1 hm).2 x.cell.toNat (by omega)).l.2 (by decide)
 (refine aS Tryz.func195 rfl (by simp [Tryz.ntmps195]) ?_; rw [Tryz.ntmps195])
 repeat' (first|(apply aL;first|((with_reducible apply aJ (k := 191));(case ha => rfl);(case h => exact hcv);(case hp => (exact Pur.pf));(case hN => rfl))|((with_reducible apply aJ (k := 237));(case ha => rfl);(case h => exact yM m[x.cell.toNat]!.stk x.tag (hst (by assumption) (by assumption)));(case hp => (exact Pur.pf));(case hN => rfl))|(apply aE;rfl;rfl)|(apply aP;rfl;rfl;rfl;rfl)|(apply aD;rfl;rfl;rfl)|(first|(apply aY;rfl;rfl;rfl;(first|rfl|assumption))|(apply a7;rfl;rfl;rfl;(assumption))|(apply bE;(case hj|hb|hN => rfl);all_goals (intro hg;have hq := hg;(try simp only [cC] at hq);(try (exfalso;omega)))))|(apply aU;rfl;rfl;rfl;rfl)|(apply aC;rfl;rfl)|(first|(apply bJ;rfl;(assumption);rfl;rfl)|(apply bC;rfl;(first|rfl|assumption);rfl;rfl))|(apply cM;(case hx|hi => rfl);(case hm => (omega));(case hml => (rfl));(case hα | hf|hg => infer_instance);(case hN => rfl))|(apply bM;rfl;rfl;rfl)|(apply aF;kernel_rfl)|(apply bW;rfl;rfl)|(apply bA;rfl;rfl;rfl;rfl))|(apply aM;first|apply aH|apply aB|(apply bZ;kernel_rfl)|(apply bR;rfl;(rfl))|(apply aQ;rfl;all_goals intro hc;have hq:=hc;(try simp only [cC] at hq);try exfalso;omega)|apply aV|apply aO)|with_reducible apply aA|with_reducible apply a8)
 all_goals (refine aK rfl ⟨?_, rfl⟩; simp only [bX])
 ·rw [wN (by omega)]; rfl
 ·rw [A1 (by assumption) (by assumption) (by assumption)]; rfl
 ·rw [Cr (by assumption) (by assumption) (by assumption) (by assumption)]; rfl
 ·rw [nH (by assumption) (by assumption) (by assumption) (by assumption)]; rfl
 ·rw [wN (by omega)]; rfl
theorem wJ {xs : List Cl} {k : Nat} {s : List Tg} (hk : k < xs.length) : gO (aI cK xs) (0 + k * 4 + 3) [sl c6 s] = aI cK (xs.set k { xs[k]! with stk := s }) := dZ hk (by simp) rfl
theorem E4 {xs : List Cl} {k : Nat} {v : Int} (hk : k < xs.length) : gO (aI cK xs) (0 + k * 4 + 0) [iv v] = aI cK (xs.set k { xs[k]! with val := v }) := dZ hk (by simp) rfl
theorem ER {xs : List Cl} {k : Nat} {b : Bool} (hk : k < xs.length) : gO (aI cK xs) (0 + k * 4 + 1) [.v (.bool b)] = aI cK (xs.set k { xs[k]! with alive := b }) := dZ hk (by simp) rfl
theorem eH {α : Type} {f : α → List AV} {xs : List α} {n : Nat} (h : n = xs.length) : AV.imm n (aI f xs) = sl f xs := by subst h; rfl
theorem m2 (m : List Cl) (hm : OkM m) (x : Pt) : PC Tryz.prog 148 [sl cK m, kQ x] (fun r => r = .tup [sl cK (dT m x false), iv (lV m x), iv (cD m x false)]) := by
 have hml := hm.l
 have hst : 0 ≤ x.cell → x.cell < m.length → m[x.cell.toNat]!.stk.length ≤ 1000000 := fun h1 h2 => Nat.le_trans (((dF m).1 hm).2 x.cell.toNat (by omega)).l.2 (by decide)
 by_cases hk : cD m x false = 0
 ·have hpl := jH m hm x
  rw [if_pos hk, hk] at hpl
  obtain ⟨h1, h2, h3, h4, _⟩ := dN hk
  have hbd := eI m[x.cell.toNat]!.stk x.tag
  have hrd := Cg m[x.cell.toNat]!.stk (c5 m[x.cell.toNat]!.stk x.tag).toNat (by omega) (hst h1 h2)
  rw [Int.toNat_of_nonneg h4] at hrd
  (refine aS Tryz.func148 rfl (by simp [Tryz.ntmps148]) ?_; rw [Tryz.ntmps148])
  repeat' (first|(apply aL;first|(apply eS;rfl;exact fA m hm;rfl;rfl)|((with_reducible apply aJ (k := 195));(case ha => rfl);(case h => exact hpl);(case hp => (exact Pur.pf));(case hN => rfl))|((with_reducible apply aJ (k := 196));(case ha => rfl);(case h => exact hrd);(case hp => (exact Pur.pf));(case hN => rfl))|(apply aE;rfl;rfl)|(first|(apply aP;rfl;rfl;rfl;rfl)|(apply aR;rfl;rfl;(exact (rfl:_=[_, _]));rfl;rfl;rfl))|(apply aD;rfl;rfl;rfl)|(apply aU;rfl;rfl;rfl;rfl)|(apply aC;rfl;rfl)|(first|(apply cM;(case hx|hi => rfl);(case hm => (omega));(case hml => (rfl));(case hα | hf|hg => infer_instance);(case hN => rfl))|(apply cG;rfl;rfl;(omega);rfl))|(apply aF;kernel_rfl)|(apply bA;rfl;rfl;rfl;rfl)|(apply aZ;rfl;rfl;rfl)|(apply aW;rfl;rfl;rfl;rfl;rfl;(rw [aT]; simp only [gY] <;> omega);(exact wJ (by (omega)))))|(apply aM;first|apply aH|apply aB|(apply bZ;kernel_rfl)|(apply b9;rfl;(rfl))|apply aV|apply aO)|with_reducible apply aA)
  (refine b0 (Le.frzD (d := 4) (i := 1) rfl rfl) ?_; refine aK rfl ?_)
  refine ⟨?_, by (exact Pur.pf)⟩
  simp only [bX]
  rw [eH (by rw [List.length_set]), hk]
  unfold dT lV;rw [if_pos hk, if_pos hk]; rfl
 ·have hpl := jH m hm x
  rw [if_neg hk] at hpl
  (refine aS Tryz.func148 rfl (by simp [Tryz.ntmps148]) ?_; rw [Tryz.ntmps148])
  repeat' (first|(apply aL;first|(apply eS;rfl;exact fA m hm;rfl;rfl)|((with_reducible apply aJ (k := 195));(case ha => rfl);(case h => exact hpl);(case hp => (exact Pur.pf));(case hN => rfl))|(apply aE;rfl;rfl)|(apply aR;rfl;rfl;(exact (rfl:_=[_, _]));rfl;rfl;rfl)|(apply aU;rfl;rfl;rfl;rfl)|(apply aC;rfl;rfl)|(apply aF;kernel_rfl)|(apply bA;rfl;rfl;rfl;rfl)|(apply aZ;rfl;rfl;rfl))|(apply aM;first|apply aH|apply aB|(apply aQ;rfl;all_goals intro hc;have hq:=hc;(try simp only [cC] at hq);try exfalso;omega)|apply aO)|with_reducible apply aA|with_reducible apply a8)
  (refine b0 (Le.frzD (d := 4) (i := 1) rfl rfl) ?_; refine aK rfl ?_)
  refine ⟨?_, by (exact Pur.pf)⟩
  simp only [bX]
  unfold dT lV;rw [if_neg hk, if_neg hk]
theorem FD {cs : List AV} {i : Nat} {c : AV} : gO cs i [c] = cs.take i ++ c :: cs.drop (i + 1) := by
 have := Ec (cs := cs) (v := i) (c := c)
 rwa [Nat.zero_add, Nat.mul_one] at this
theorem Le.frzCl {ts : List (Nat × AV)} {hs : List (Nat × Option (List AV))} {n : Nat} {z0 : Lo} {j q v m : Nat} {u : List Cl} {r : List Tg} (hj : b8 hs j = some (gO (aI cK u) (0 + v * 4 + 3) [.own q 0 m 2])) (hq : b8 hs q = some (aI c6 r)) (hm : m = r.length) (hv : v < u.length) (hjq : j ≠ q) :
  Le ⟨ts, hs, n, z0⟩ ⟨ts, (j, some (aI cK (u.set v { u[v]! with stk := r }))) :: (q, none) :: hs, n, z0⟩ := by
 subst hm
 have hl : (aI cK u).length = u.length * 4 := aT cK u
 have e := wJ (s := r) hv
 rw [FD] at hj e
 have h := Le.frzC (ts := ts) (n := n) (z0 := z0) ((aI cK u).take (0 + v * 4 + 3)) hj hq hjq
 rw [← e]; exact h
theorem oC {m : List Cl} {x : Pt} {wr : Bool} : (dT m x wr).length = m.length := by
 unfold dT;split
 ·rw [List.length_set]
 ·rfl
theorem gC {m : List Cl} {x : Pt} {N : Nat} {Q : Exit → AS → Prop} {all : Array Oper} {rest : List Oper} {tsl : List (Nat × AV)} {hsl : List (Nat × Option (List AV))} {nidl : Nat} {z0 : Lo} {md : Md} {d : Nat} {ty : TypeId} {pos : String} {af : Array Edge} {tys : Array TypeId} {x0 x1 : Operand} (ha0 : ev (lk tsl) x0 = some (sl cK m)) (ha1 : ev (lk tsl) x1 = some (kQ x)) (hmc : MC Tryz.prog 190 [sl cK m, kQ x] [] 0 (fun _ : Unit => True) (fun _ => .tup [.own 1 0 m.length 4, iv (cD m x true)]) (fun _ => [(1, some (aI cK (dT m x true)))])) (hM : Nat.ble (nidl + 2) dR = true) (hN : Nat.blt d N = true) {md' : Md} [hmd : MdA md (e7 [x0, x1] ++ []) (List.map Sum.inr (List.map Prod.fst ([((nidl + 1), some (aI cK (dT m x true)))] : List (Nat × Option (List AV)))) ++ [.inl d]) md'] (kk : RW Tryz.prog N all Q md' rest ⟨(d, .tup [.own (nidl + 1) 0 m.length 4, iv (cD m x true)]) :: tsl, fS hsl [((nidl + 1), some (aI cK (dT m x true)))], nidl + 2, z0⟩) : RW Tryz.prog N all Q md (⟨some d, .call ⟨.value (.func 190), #[x0, x1], tys⟩, ty, pos, af, none⟩ :: rest) ⟨tsl, hsl, nidl, z0⟩ := by
 refine bP [] 2 [((nidl + 1), some (aI cK (dT m x true)))] hmc (avs := [sl cK m, kQ x]) ?_ rfl ?_ rfl ?_ (by simpa using hM) ?_ ?_ ?_ hN (md' := md') (hmd := hmd) kk
 ·show evL (lk tsl) [x0, x1] = _
  simp only [evL, ha0, ha1]
 ·exact trivial
 ·(repeat' (exact RnL.purI inferInstance))
 ·(repeat' (first|exact RnL.purI inferInstance|exact RnV.own rfl|refine RnL.cons ?_ ?_|refine RnV.tup ?_))
 ·simp [cZ]
 ·(repeat' (first|exact trivial|(refine And.intro ⟨1, _, rfl, rfl, ?_⟩ ?_)|exact RnL.purI inferInstance))
theorem gZ (m : List Cl) (x : Pt) (hm : OkM m) : MC Tryz.prog 190 [sl cK m, kQ x] [] 0 (fun _ : Unit => True) (fun _ => .tup [.own 1 0 m.length 4, iv (cD m x true)]) (fun _ => [(1, some (aI cK (dT m x true)))]) := by
 have hml := hm.l
 have hst : 0 ≤ x.cell → x.cell < m.length → m[x.cell.toNat]!.stk.length ≤ 200 := fun h1 h2 => (((dF m).1 hm).2 x.cell.toNat (by omega)).l.2
 have hpl := jH m hm x
 by_cases hk : cD m x false = 0
 ·rw [if_pos hk, hk] at hpl
  obtain ⟨h1, h2, h3, h4, _⟩ := dN hk
  have hbd := eI m[x.cell.toNat]!.stk x.tag
  have hs2 := hst h1 h2
  obtain ⟨k, hkk⟩ := Int.eq_ofNat_of_zero_le h4
  rw [hkk] at hpl
  have hkn : k < m[x.cell.toNat]!.stk.length := by omega
  have hkt : (c5 m[x.cell.toNat]!.stk x.tag).toNat = k := by omega
  have hwr := sW (m := m) (x := x)
  rw [if_pos hk, hkt] at hwr
  have e1 : List.take (((k : Int) + 1).toNat - 0) (List.drop 0 m[x.cell.toNat]!.stk) = m[x.cell.toNat]!.stk.take (k + 1) := by rw [List.drop_zero]; congr 1
  have e2 : (m[x.cell.toNat]!.stk.take (k + 1)).length = k + 1 := by rw [List.length_take]; omega
  (refine bK Tryz.func190 rfl (by simp [Tryz.ntmps190]) ?_; rw [Tryz.ntmps190])
  repeat' (first|(apply aL;first|(apply eS;rfl;exact fA m hm;rfl;rfl)|((with_reducible apply aJ (k := 195));(case ha => rfl);(case h => exact hpl);(case hp => (exact Pur.pf));(case hN => rfl))|(with_reducible apply cF (d := 46))|(apply aE;rfl;rfl)|(first|(apply aP;rfl;rfl;rfl;rfl)|(apply aR;rfl;rfl;(exact (rfl:_=[_, _]));rfl;rfl;rfl))|(apply aD;rfl;rfl;rfl)|(first|(apply bN;rfl;rfl;omega;rfl)|(apply aU;rfl;rfl;rfl;rfl))|(apply aC;rfl;rfl)|(first|(apply bI;(case hx|hi => rfl);(case hm => (assumption));(case hml => (rfl));(case hα | hf|hg => infer_instance);(case hN => rfl))|(apply cM;(case hx|hi => rfl);(case hm => (omega));(case hml => (rfl));(case hα | hf|hg => infer_instance);(case hN => rfl)))|(apply aF;kernel_rfl)|(apply gT;rfl;infer_instance;rfl;rfl;(omega);rfl)|(apply bW;rfl;rfl)|(apply bA;rfl;rfl;rfl;rfl)|(apply aZ;rfl;rfl;rfl)|(apply bQ;rfl;rfl;rfl;(rfl);rfl;rfl))|(apply aM;first|apply aH|apply aB|(apply bZ;kernel_rfl)|(apply b9;rfl;(rfl))|(apply aQ;rfl;all_goals intro hc;have hq:=hc;(try simp only [cC] at hq);try exfalso;omega)|apply aV|apply aO)|with_reducible apply aA|with_reducible apply a8)
  ·have hu : m[x.cell.toNat]!.stk[k]!.uq = false := by assumption
   rw [if_pos hu] at hwr
   (refine aK rfl ?_; refine bG () trivial ?_ ⟨.inr (Eq.trans (b := some _) rfl ?_), trivial⟩)
   ·rw [hwr]; rfl
   ·unfold dT;rw [if_neg (by rw [hwr]; decide)]
  ·have hu : m[x.cell.toNat]!.stk[k]!.uq = true := by assumption
   rw [if_neg (by rw [hu]; decide)] at hwr
   refine dB ?_
   rw [e1]
   repeat' (first|(apply aL;first|(with_reducible apply cF (d := 49))|(apply aD;rfl;rfl;rfl)|(apply cG;rfl;rfl;(omega);rfl)|(apply bV;rfl;rfl;rfl;rfl;rfl;(case hl => (simp [aT]; done));(exact gF (by (rfl)));omega;omega;(exact dW (by (omega)));rfl;rfl)|(apply aF;kernel_rfl)|(apply aW;rfl;rfl;rfl;rfl;rfl;(rw [aT]; simp only [gY] <;> omega);(rfl)))|(apply aM;first|apply aH|apply aB)|with_reducible apply aA)
   refine dB (gI ?_ (Le.frzCl (j := 1) (q := 3) (v := x.cell.toNat) (u := m) (r := m[x.cell.toNat]!.stk.take (k + 1)) rfl rfl (Nat.zero_add _) (by omega) (by decide)))
   repeat' (first|(apply aL;first|(apply aE;rfl;rfl)|(apply aC;rfl;rfl)|(apply aF;kernel_rfl))|(apply aM;(apply aO))|with_reducible apply aA)
   (refine aK rfl ?_; refine bG () trivial ?_ ⟨.inr (Eq.trans (b := some _) rfl ?_), trivial⟩)
   ·rw [hwr]; rfl
   ·unfold dT nQ fM;rw [if_pos hwr, hkt, if_pos rfl]
 ·rw [if_neg hk] at hpl
  have hk2 : cD m x true = cD m x false := by rw [sW, if_neg hk]
  (refine bK Tryz.func190 rfl (by simp [Tryz.ntmps190]) ?_; rw [Tryz.ntmps190])
  repeat' (first|(apply aL;first|(apply eS;rfl;exact fA m hm;rfl;rfl)|((with_reducible apply aJ (k := 195));(case ha => rfl);(case h => exact hpl);(case hp => (exact Pur.pf));(case hN => rfl))|(apply aE;rfl;rfl)|(apply aR;rfl;rfl;(exact (rfl:_=[_, _]));rfl;rfl;rfl)|(apply aU;rfl;rfl;rfl;rfl)|(apply aC;rfl;rfl)|(apply aF;kernel_rfl)|(apply bA;rfl;rfl;rfl;rfl)|(apply aZ;rfl;rfl;rfl))|(apply aM;first|apply aH|apply aB|(apply aQ;rfl;all_goals intro hc;have hq:=hc;(try simp only [cC] at hq);try exfalso;omega)|apply aO)|with_reducible apply aA|with_reducible apply a8)
  (refine aK rfl ?_; refine bG () trivial ?_ ⟨.inr (Eq.trans (b := some _) rfl ?_), trivial⟩)
  ·rw [hk2]; rfl
  ·unfold dT;rw [if_neg (by rw [hk2]; exact hk)]
theorem set_set {α : Type} {l : List α} {i : Nat} {a b : α} : (l.set i a).set i b = l.set i b := by simp
theorem jN {α : Type} [Inhabited α] {l : List α} {i : Nat} {a : α} (h : i < l.length) : (l.set i a)[i]! = a := by rw [cV _ _ (by rw [List.length_set]; exact h), List.getElem_set_self]
theorem rR (m : List Cl) (hm : OkM m) (x : Pt) (v : Int) : PC Tryz.prog 149 [sl cK m, kQ x, iv v] (fun r => r = .tup [sl cK (vP m x v), iv (rI m x v)]) := by
 have hml := hm.l
 have hlt := oC (m := m) (x := x) (wr := true)
 have hin := dN (m := m) (x := x) (wr := true)
 by_cases hv : 0 ≤ v ∧ v ≤ 9
 ·have hwk : rI m x v = cD m x true := by unfold rI; rw [if_pos hv]
  by_cases hk : cD m x true = 0
  ·obtain ⟨h1, h2, _⟩ := hin hk
   (refine aS Tryz.func149 rfl (by simp [Tryz.ntmps149]) ?_; rw [Tryz.ntmps149])
   repeat' (first|(apply aL;first|(apply gC;rfl;rfl;exact gZ m x hm;rfl;rfl)|(apply aE;rfl;rfl)|(first|(apply aP;rfl;rfl;rfl;rfl)|(apply aR;rfl;rfl;(exact (rfl:_=[_, _]));rfl;rfl;rfl))|(apply aD;rfl;rfl;rfl)|(first|(apply aY;rfl;rfl;rfl;(assumption))|(apply bE;(case hj|hb|hN => rfl);all_goals (intro hg;have hq := hg;(try simp only [cC] at hq);(try (exfalso;omega)))))|(apply aU;rfl;rfl;rfl;rfl)|(apply aC;rfl;rfl)|(apply bC;rfl;(assumption);rfl;rfl)|(apply cG;rfl;rfl;(omega);rfl)|(apply aF;kernel_rfl)|(apply bA;rfl;rfl;rfl;rfl)|(apply aZ;rfl;rfl;rfl)|(apply aW;rfl;rfl;rfl;rfl;rfl;(rw [aT]; simp only [gY] <;> omega);(exact E4 (by (omega)))))|(apply aM;first|apply aH|apply aB|(apply aQ;rfl;all_goals intro hc;have hq:=hc;(try simp only [cC] at hq);try exfalso;omega)|apply aV|apply aO)|with_reducible apply aA)
   (refine b0 (Le.frzD (d := 6) (i := 2) rfl rfl) ?_; refine aK rfl ?_)
   refine ⟨?_, by (exact Pur.pf)⟩
   simp only [bX]
   rw [eH (by rw [List.length_set, hlt]), hwk]
   unfold vP dT;rw [if_pos hk, if_pos (by rw [hwk]; exact hk), jN (by omega), set_set]
  ·(refine aS Tryz.func149 rfl (by simp [Tryz.ntmps149]) ?_; rw [Tryz.ntmps149])
   repeat' (first|(apply aL;first|(apply gC;rfl;rfl;exact gZ m x hm;rfl;rfl)|(apply aE;rfl;rfl)|(apply aR;rfl;rfl;(exact (rfl:_=[_, _]));rfl;rfl;rfl)|(first|(apply aY;rfl;rfl;rfl;(assumption))|(apply bE;(case hj|hb|hN => rfl);all_goals (intro hg;have hq := hg;(try simp only [cC] at hq);(try (exfalso;omega)))))|(apply aU;rfl;rfl;rfl;rfl)|(apply aC;rfl;rfl)|(apply bC;rfl;(assumption);rfl;rfl)|(apply aF;kernel_rfl)|(apply bA;rfl;rfl;rfl;rfl)|(apply aZ;rfl;rfl;rfl))|(apply aM;first|apply aH|apply aB|(apply aQ;rfl;all_goals intro hc;have hq:=hc;(try simp only [cC] at hq);try exfalso;omega)|apply aV|apply aO)|with_reducible apply aA)
   (refine b0 (Le.frzD (d := 6) (i := 2) rfl rfl) ?_; refine aK rfl ?_)
   refine ⟨?_, by (exact Pur.pf)⟩
   simp only [bX]
   rw [eH (by rw [hlt]), hwk]
   unfold vP dT;rw [if_neg hk, if_neg (by rw [hwk]; exact hk)]
 ·have hwk : rI m x v = 4 := by unfold rI; rw [if_neg hv]
  have e : vP m x v = m := by unfold vP;rw [if_neg (by rw [hwk]; decide)]
  (refine aS Tryz.func149 rfl (by simp [Tryz.ntmps149]) ?_; rw [Tryz.ntmps149])
  repeat' (first|(apply aL;first|(apply eS;rfl;exact fA m hm;rfl;rfl)|(apply aE;rfl;rfl)|(first|(apply aY;rfl;rfl;rfl;(assumption))|(apply a7;rfl;rfl;rfl;(assumption))|(apply bE;(case hj|hb|hN => rfl);all_goals (intro hg;have hq := hg;(try simp only [cC] at hq);(try (exfalso;omega)))))|(apply aU;rfl;rfl;rfl;rfl)|(apply aC;rfl;rfl)|(first|(apply bJ;rfl;(assumption);rfl;rfl)|(apply bC;rfl;(assumption);rfl;rfl))|(apply aF;kernel_rfl)|(apply bA;rfl;rfl;rfl;rfl))|(apply aM;first|apply aH|apply aB|(apply bR;rfl;(rfl))|(apply aQ;rfl;all_goals intro hc;have hq:=hc;(try simp only [cC] at hq);try exfalso;omega)|apply aO)|with_reducible apply aA|with_reducible apply a8)
  all_goals (try (exfalso;omega))
  all_goals (
   (refine b0 (Le.frzD (d := 6) (i := 1) rfl rfl) ?_; refine aK rfl ?_)
   refine ⟨?_, by (exact Pur.pf)⟩
   simp only [bX]
   rw [e, hwk])
theorem jZ (m : List Cl) (hm : OkM m) (x : Pt) : PC Tryz.prog 141 [sl cK m, kQ x] (fun r => r = .tup [sl cK (jW m x), iv (cD m x true)]) := by
 have hml := hm.l
 have hlt := oC (m := m) (x := x) (wr := true)
 have hin := dN (m := m) (x := x) (wr := true)
 by_cases hk : cD m x true = 0
 ·obtain ⟨h1, h2, _⟩ := hin hk
  (refine aS Tryz.func141 rfl (by simp [Tryz.ntmps141]) ?_; rw [Tryz.ntmps141])
  repeat' (first|(apply aL;first|(apply gC;rfl;rfl;exact gZ m x hm;rfl;rfl)|(apply aE;rfl;rfl)|(first|(apply aP;rfl;rfl;rfl;rfl)|(apply aR;rfl;rfl;(exact (rfl:_=[_, _]));rfl;rfl;rfl))|(apply aD;rfl;rfl;rfl)|(apply aU;rfl;rfl;rfl;rfl)|(apply aC;rfl;rfl)|(apply cG;rfl;rfl;(omega);rfl)|(apply aF;kernel_rfl)|(apply bA;rfl;rfl;rfl;rfl)|(apply aZ;rfl;rfl;rfl)|(apply aW;rfl;rfl;rfl;rfl;rfl;(rw [aT]; simp only [gY] <;> omega);(exact ER (by (omega)))))|(apply aM;first|apply aH|apply aB|(apply aQ;rfl;all_goals intro hc;have hq:=hc;(try simp only [cC] at hq);try exfalso;omega)|apply aO)|with_reducible apply aA)
  (refine b0 (Le.frzD (d := 4) (i := 2) rfl rfl) ?_; refine aK rfl ?_)
  refine ⟨?_, by (exact Pur.pf)⟩
  simp only [bX]
  rw [eH (by rw [List.length_set, hlt])]
  unfold jW dT;rw [if_pos hk, if_pos hk, jN (by omega), set_set]
 ·(refine aS Tryz.func141 rfl (by simp [Tryz.ntmps141]) ?_; rw [Tryz.ntmps141])
  repeat' (first|(apply aL;first|(apply gC;rfl;rfl;exact gZ m x hm;rfl;rfl)|(apply aE;rfl;rfl)|(apply aR;rfl;rfl;(exact (rfl:_=[_, _]));rfl;rfl;rfl)|(apply aU;rfl;rfl;rfl;rfl)|(apply aC;rfl;rfl)|(apply aF;kernel_rfl)|(apply bA;rfl;rfl;rfl;rfl)|(apply aZ;rfl;rfl;rfl))|(apply aM;first|apply aH|apply aB|(apply aQ;rfl;all_goals intro hc;have hq:=hc;(try simp only [cC] at hq);try exfalso;omega)|apply aV|apply aO)|with_reducible apply aA)
  (refine b0 (Le.frzD (d := 4) (i := 2) rfl rfl) ?_; refine aK rfl ?_)
  refine ⟨?_, by (exact Pur.pf)⟩
  simp only [bX]
  rw [eH (by rw [hlt])]
  unfold jW dT;rw [if_neg hk, if_neg hk]
theorem w5 (m : List Cl) (hm : OkM m) (v : Int) : PC Tryz.prog 145 [sl cK m, iv v] (fun r => r = .tup (if 0 ≤ v ∧ v ≤ 9 ∧ m.length < 200 then [sl cK (m ++ [p7 v]), .agg [iv m.length, iv 0], bv true] else [sl cK [], .agg [iv 0, iv 0], bv false])) := by
 have hml := hm.l
 have hcv := kX m (by omega)
 rw [decide_eq_true hm] at hcv
 (refine aS Tryz.func145 rfl (by simp [Tryz.ntmps145]) ?_; rw [Tryz.ntmps145])
 repeat' (first|(apply aL;first|(apply eS;rfl;exact fA m hm;rfl;rfl)|((with_reducible apply aJ (k := 191));(case ha => rfl);(case h => exact hcv);(case hp => (exact Pur.pf));(case hN => rfl))|(apply aE;rfl;rfl)|(first|(apply aY;rfl;rfl;rfl;(first|rfl|assumption))|(apply a7;rfl;rfl;rfl;(first|rfl|assumption))|(apply bE;(case hj|hb|hN => rfl);all_goals (intro hg;have hq := hg;(try simp only [cC] at hq);(try (exfalso;omega)))))|(apply aU;rfl;rfl;rfl;rfl)|(apply aC;rfl;rfl)|(first|(apply bJ;rfl;(first|rfl|assumption);rfl;rfl)|(apply bC;rfl;(first|rfl|assumption);rfl;rfl))|(first|(apply bM;rfl;rfl;rfl)|(apply bV;rfl;rfl;rfl;rfl;rfl;(rw [aT]; omega);(rfl);omega;omega;(rfl);rfl;rfl))|(apply aF;kernel_rfl)|(apply bY;rfl;(first|exact (rfl:_=some [_, _])|exact (rfl:_=some [_, _, _, _]));(first|exact (rfl:_=[_, _])|exact (rfl:_=[_, _, _, _]));rfl)|(apply bW;rfl;rfl)|(apply bD;rfl;rfl)|((apply bF (t := _));(case hze|hsm|hl => rfl);(case hfl => (first|exact (rfl:_=some [_, _])|exact (rfl:_=some [_, _, _, _])|rfl));(case hM|hN => rfl))|(apply aW;rfl;rfl;rfl;rfl;rfl;(case hl => (first|decide|(simp;done)));(exact (rfl:_=[_, _]))))|(apply aM;first|apply aH|apply aB|(apply bR;rfl;(rfl))|(apply aQ;rfl;all_goals intro hc;have hq:=hc;(try simp only [cC] at hq);try exfalso;omega)|apply aV|apply aO)|with_reducible apply aA|with_reducible apply a8)
 all_goals try exact aK (l := [sl cK [], .agg [iv 0, iv 0], bv false]) rfl ⟨by rw [if_neg (by omega)]; rfl, rfl⟩
 have e : ((aI cK m).drop 0).take (m.length * 4) ++ [iv v, bv true, iv 1, .imm 1 [iv 0, bv true]] = aI cK (m ++ [p7 v]) := gD rfl rfl
 have e2 : AV.imm (m.length + 1) (((aI cK m).drop 0).take (m.length * 4) ++ [iv v, bv true, iv 1, .imm 1 [iv 0, bv true]]) = sl cK (m ++ [p7 v]) := by
  rw [e]; exact eH (by rw [List.length_append]; rfl)
 refine b0 (Le.frzD (d := 4) (i := 4) rfl rfl) ?_
 refine aK (l := [AV.imm (m.length + 1) (((aI cK m).drop 0).take (m.length * 4) ++ [iv v, bv true, iv 1, .imm 1 [iv 0, bv true]]), .agg [iv m.length, iv 0], bv true]) rfl ?_
 rw [e2, if_pos (by omega)]
 exact ⟨rfl, by (exact Pur.pf)⟩
def lB (m : List Cl) (j : Nat) (r : List Tg) : Prop := r.length = 200 ∨ m[j]!.next = 1000
instance (m : List Cl) (j : Nat) (r : List Tg) : Decidable (lB m j r) := by unfold lB; infer_instance
def iD (m b : List Cl) (j : Nat) (u : Bool) (r : List Tg) : List Cl := if lB m j r then b else m.set j (psh { m[j]! with stk := r } u)
def iG (m : List Cl) (j : Nat) (r : List Tg) : Pt := if lB m j r then ⟨0, 0⟩ else ⟨j, m[j]!.next⟩
def iF (m : List Cl) (j : Nat) (r : List Tg) : Int := if lB m j r then 4 else 0
theorem qO {m b : List Cl} {j : Nat} {u : Bool} {r : List Tg} {n k : Nat} {N : Nat} {Q : Exit → AS → Prop} {all : Array Oper} {rest : List Oper} {tsl : List (Nat × AV)} {hsl : List (Nat × Option (List AV))} {nidl : Nat} {z0 : Lo} {md : Md} {d : Nat} {ty : TypeId} {pos : String} {af : Array Edge} {tys : Array TypeId} {x0 x1 x2 x3 : Operand} {i0 i1 : Nat} (ha0 : ev (lk tsl) x0 = some (.own i0 0 n 4)) (ha1 : ev (lk tsl) x1 = some (sl cK b)) (ha2 : ev (lk tsl) x2 = some (iv (j : Int))) (ha3 : ev (lk tsl) x3 = some (bv u)) (hH0 : b8 hsl i0 = some (aI eO (dI m j (.own i1 0 k 2)))) (hH1 : b8 hsl i1 = some (aI c6 r)) (hdd : Go.AL.distinct [i0, i1] = true) (hmc : MC Tryz.prog 236 [.own 0 0 n 4, sl cK b, iv (j : Int), bv u] [(0, some (aI eO (dI m j (.own 1 0 k 2)))), (1, some (aI c6 r))] 2 (fun _ : Unit => True) (fun _ => .tup [sl cK (iD m b j u r), kQ (iG m j r), iv (iF m j r)]) (fun _ => [])) (hM : Nat.ble (nidl + 0) dR = true) (hN : Nat.blt d N = true) {md' : Md} [hmd : MdA md (e7 [x0, x1, x2, x3] ++ [.inr i0, .inr i1]) (List.map Sum.inr (List.map Prod.fst ([(i0, none), (i1, none)] : List (Nat × Option (List AV)))) ++ [.inl d]) md'] (kk : RW Tryz.prog N all Q md' rest ⟨(d, .tup [sl cK (iD m b j u r), kQ (iG m j r), iv (iF m j r)]) :: tsl, fS hsl [(i0, none), (i1, none)], nidl + 0, z0⟩) : RW Tryz.prog N all Q md (⟨some d, .call ⟨.value (.func 236), #[x0, x1, x2, x3], tys⟩, ty, pos, af, none⟩ :: rest) ⟨tsl, hsl, nidl, z0⟩ := by
 refine bP [i0, i1] 2 [(i0, none), (i1, none)] hmc (avs := [.own i0 0 n 4, sl cK b, iv (j : Int), bv u]) ?_ hdd ?_ rfl ?_ (by simpa using hM) ?_ ?_ ?_ hN (md' := md') (hmd := hmd) kk
 ·show evL (lk tsl) [x0, x1, x2, x3] = _
  simp only [evL, ha0, ha1, ha2, ha3]
 ·exact ⟨⟨_, _, rfl, hH0, by (repeat' (exact iV rfl))⟩, ⟨⟨_, _, rfl, hH1, by (repeat' (exact RnL.purI inferInstance))⟩, trivial⟩⟩
 ·(repeat' (first|exact RnL.purI inferInstance|exact RnV.own rfl|refine RnL.cons ?_ ?_))
 ·(repeat' (exact RnV.purI inferInstance))
 ·simp [cZ]
 ·(repeat' (exact trivial))
theorem tU (m b : List Cl) (j : Nat) (u : Bool) (r : List Tg) (n k : Nat) (hb : OkM b) (hn : n = m.length) (hk : k = r.length) (hj : j < m.length) (hnx : 0 ≤ m[j]!.next ∧ m[j]!.next ≤ 1000) (hr : r.length ≤ 200) (hml : m.length ≤ 200) : MC Tryz.prog 236 [.own 0 0 n 4, sl cK b, iv (j : Int), bv u] [(0, some (aI eO (dI m j (.own 1 0 k 2)))), (1, some (aI c6 r))] 2 (fun _ : Unit => True) (fun _ => .tup [sl cK (iD m b j u r), kQ (iG m j r), iv (iF m j r)]) (fun _ => []) := by
 have hol := dH (m := m) (j := j) (X := .own 1 0 k 2)
 have hog := fY (m := m) (j := j) (X := .own 1 0 k 2) hj
 have hol2 := dH (m := m) (j := j) (X := .own (2 + 1 + 1 + 1) 0 (r.length + 1) 2)
 subst hn hk
 (refine bK Tryz.func236 rfl (by simp [Tryz.ntmps236]) ?_; rw [Tryz.ntmps236])
 repeat' (first|(apply aL;first|(with_reducible apply cF (d := 11))|(apply aE;rfl;rfl)|(apply fC;(case hx|hH => rfl);(case hf|hg|hα => infer_instance);(case hk => omega);(case h0|hN => rfl))|(apply aC;rfl;rfl)|(apply cE;rfl;rfl;(assumption);rfl)|(apply aF;kernel_rfl)|(apply bD;rfl;rfl))|(apply aM;first|apply aH|apply aB)|with_reducible apply aA)
 refine dB ?_
 rw [hog]
 dsimp only
 repeat' (first|(apply aL;first|((with_reducible apply aJ (k := 192));(case ha => rfl);(case h => exact Cm b hb);(case hp => (exact Pur.pf));(case hN => rfl))|(apply aE;rfl;rfl)|(apply aP;rfl;rfl;rfl;rfl)|(apply aD;rfl;rfl;rfl)|(first|(apply aY;rfl;rfl;rfl;(assumption))|(apply a7;rfl;rfl;rfl;(assumption))|(apply bE;(case hj|hb|hN => rfl);all_goals (intro hg;have hq := hg;(try simp only [cC] at hq);(try (exfalso;omega)))))|(first|(apply bN;rfl;rfl;omega;rfl)|(apply aU;rfl;rfl;rfl;rfl))|(apply aC;rfl;rfl)|(first|(apply bJ;rfl;(assumption);rfl;rfl)|(apply bC;rfl;(assumption);rfl;rfl))|(apply cE;rfl;rfl;(assumption);rfl)|(first|(apply bM;rfl;rfl;rfl)|(apply bV;rfl;rfl;rfl;rfl;rfl;(rw [aT]; omega);(rfl);omega;omega;(exact pD (by (omega)));rfl;rfl))|(apply aF;kernel_rfl)|(apply bY;rfl;(exact (rfl:_=some [_, _]));(exact (rfl:_=[_, _]));rfl)|(apply bD;rfl;rfl)|((apply bF (t := _));(case hze|hsm|hl => rfl);(case hfl => (exact (rfl:_=some [_, _])));(case hM|hN => rfl))|(apply aW;rfl;rfl;rfl;rfl;rfl;(case hl => (first|decide|(rw [aT]; simp only [gY] <;> omega)|(simp;done)));(first|exact pA (by (assumption))|exact s9 (by (assumption))|exact (rfl:_=[_, _])|exact (rfl:_=[_, _, _, _]))))|(apply aM;first|apply aH|apply aB|(apply bR;rfl;(rfl))|(apply aQ;rfl;all_goals intro hc;have hq:=hc;(try simp only [cC] at hq);try exfalso;omega)|apply aV|apply aO)|with_reducible apply aA|with_reducible apply a8)
 ·have hf : lB m j r := .inr (by assumption)
  refine aK (l := [sl cK b, .agg [iv 0, iv 0], iv 4]) rfl ?_
  refine bG () trivial ?_ trivial
  unfold iD iG iF;rw [if_pos hf, if_pos hf, if_pos hf]; rfl
 ·have hf : ¬ lB m j r := by unfold lB; omega
  have hm2 : (m.set j { m[j]! with next := m[j]!.next + 1 }).length = m.length := List.length_set
  refine b0 (Le.cls (o := 0) (q := 5) (j := j) (k := r.length + 1) (m := m.set j { m[j]! with next := m[j]!.next + 1 }) (r := r ++ [⟨m[j]!.next, u⟩]) rfl rfl (by rw [List.length_append]; rfl) (by omega) (by decide)) ?_
  refine b0 (Le.frzD (d := 8) (i := 0) rfl rfl) ?_
  have e : (m.set j { m[j]! with next := m[j]!.next + 1 }).set j { (m.set j { m[j]! with next := m[j]!.next + 1 })[j]! with stk := r ++ [⟨m[j]!.next, u⟩] } = m.set j (psh { m[j]! with stk := r } u) := by
   rw [jN hj, set_set]; rfl
  rw [e]
  refine aK (l := [.imm m.length (aI cK (m.set j (psh { m[j]! with stk := r } u))), .agg [iv (j : Int), iv m[j]!.next], iv 0]) rfl ?_
  refine bG () trivial ?_ trivial
  unfold iD iG iF;rw [if_neg hf, if_neg hf, if_neg hf, eH (by rw [List.length_set])]; rfl
 ·have hf : lB m j r := .inl (by omega)
  refine aK (l := [sl cK b, .agg [iv 0, iv 0], iv 4]) rfl ?_
  refine bG () trivial ?_ trivial
  unfold iD iG iF;rw [if_pos hf, if_pos hf, if_pos hf]; rfl
theorem wX {stk r : List Tg} {k : Nat} {N : Nat} {Q : Exit → AS → Prop} {all : Array Oper} {rest : List Oper} {tsl : List (Nat × AV)} {hsl : List (Nat × Option (List AV))} {nidl : Nat} {z0 : Lo} {md : Md} {d : Nat} {ty : TypeId} {pos : String} {af : Array Edge} {tys : Array TypeId} {x0 x1 : Operand} (ha0 : ev (lk tsl) x0 = some (sl c6 stk)) (ha1 : ev (lk tsl) x1 = some (iv (k : Int))) (hmc : MC Tryz.prog 196 [sl c6 stk, iv (k : Int)] [] 0 (fun _ : Unit => True) (fun _ => .own 1 0 r.length 2) (fun _ => [(1, some (aI c6 r))])) (hM : Nat.ble (nidl + 2) dR = true) (hN : Nat.blt d N = true) {md' : Md} [hmd : MdA md (e7 [x0, x1] ++ []) (List.map Sum.inr (List.map Prod.fst ([((nidl + 1), some (aI c6 r))] : List (Nat × Option (List AV)))) ++ [.inl d]) md'] (kk : RW Tryz.prog N all Q md' rest ⟨(d, .own (nidl + 1) 0 r.length 2) :: tsl, fS hsl [((nidl + 1), some (aI c6 r))], nidl + 2, z0⟩) : RW Tryz.prog N all Q md (⟨some d, .call ⟨.value (.func 196), #[x0, x1], tys⟩, ty, pos, af, none⟩ :: rest) ⟨tsl, hsl, nidl, z0⟩ := by
 refine bP [] 2 [((nidl + 1), some (aI c6 r))] hmc (avs := [sl c6 stk, iv (k : Int)]) ?_ rfl ?_ rfl ?_ (by simpa using hM) ?_ ?_ ?_ hN (md' := md') (hmd := hmd) kk
 ·show evL (lk tsl) [x0, x1] = _
  simp only [evL, ha0, ha1]
 ·exact trivial
 ·(repeat' (exact RnL.purI inferInstance))
 ·(repeat' (exact RnV.own rfl))
 ·simp [cZ]
 ·(repeat' (first|exact trivial|(refine And.intro ⟨1, _, rfl, rfl, ?_⟩ ?_)|exact RnL.purI inferInstance))
theorem Aq (stk r : List Tg) (k : Nat) (hr : r = fM stk k false) (hk : k < stk.length) (hl : stk.length ≤ 1000000) : MC Tryz.prog 196 [sl c6 stk, iv (k : Int)] [] 0 (fun _ : Unit => True) (fun _ => .own 1 0 r.length 2) (fun _ => [(1, some (aI c6 r))]) := by
 have e1 : List.take (((k : Int) + 1).toNat - 0) (List.drop 0 stk) = stk.take (k + 1) := by rw [List.drop_zero]; congr 1
 have e2 : (stk.take (k + 1)).length = k + 1 := by rw [List.length_take]; omega
 (refine bK Tryz.func196 rfl (by simp [Tryz.ntmps196]) ?_; rw [Tryz.ntmps196])
 repeat' (first|(apply aL;first|(with_reducible apply cF (d := 12))|(apply aE;rfl;rfl)|(apply bN;rfl;rfl;omega;rfl)|(apply aC;rfl;rfl)|(apply aF;kernel_rfl)|(apply gT;rfl;infer_instance;rfl;rfl;(omega);rfl)|(apply bQ;rfl;rfl;rfl;(rfl);rfl;rfl))|(apply aM;first|apply aH|apply aB)|with_reducible apply aA)
 refine dB ?_
 rw [e1]
 repeat' (first|(apply aL;first|(apply aE;rfl;rfl)|(apply bN;rfl;rfl;omega;rfl)|(apply aC;rfl;rfl)|(apply bV;rfl;rfl;rfl;rfl;rfl;(case hl => (simp [aT]; done));(exact gF (by (rfl)));omega;omega;(exact dW (by (omega)));rfl;rfl)|(apply aF;kernel_rfl))|(apply aM;first|apply aH|apply aB|apply aN)|with_reducible apply aA)
 refine bL (σ := Nat × List Tg × Nat) [0] [(0, _)] [] [] (fun s => [(6, iv (s.1 : Int)), (5, .own 1 0 s.2.2 2)]) (fun s => [(1, some (aI c6 s.2.1))]) (fun s => k + 1 ≤ s.1 ∧ s.1 ≤ stk.length ∧ s.2.1 = stk.take (k + 1) ++ ((stk.drop (k + 1)).take (s.1 - (k + 1))).filter (fun t => !t.uq) ∧ s.2.2 = s.2.1.length ∧ s.2.2 ≤ s.1) (fun s => stk.length - s.1) (k + 1, stk.take (k + 1), 0 + (stk.take (k + 1)).length) ⟨Nat.le_refl _, by dsimp only;omega, by simp, by dsimp only;omega, by dsimp only;omega⟩ rfl rfl (by repeat' (first|exact trivial|refine And.intro rfl ?_)) (by repeat' (first|exact trivial|refine And.intro (.inr rfl) ?_)) ?_
 rintro ⟨i, xs, n⟩ ⟨hki, hi, hxs, hn, hni⟩
 dsimp only at hki hi hxs hn hni ⊢
 repeat' (first|(apply aL;first|(apply aE;rfl;rfl)|(first|(apply aP;rfl;rfl;rfl;rfl)|(apply aR;rfl;rfl;(exact (rfl:_=[_, _]));rfl;rfl;rfl))|(apply aD;rfl;rfl;rfl)|(first|(apply bN;rfl;rfl;omega;rfl)|(apply aU;rfl;rfl;rfl;rfl))|(apply aC;rfl;rfl)|(apply bI;(case hx|hi => rfl);(case hm => (omega));(case hml => (rfl));(case hα | hf|hg => infer_instance);(case hN => rfl))|(first|(apply bM;rfl;rfl;rfl)|(apply bV;rfl;rfl;rfl;rfl;rfl;(rw [aT]; omega);(rfl);omega;omega;(exact pD (by (assumption)));rfl;rfl))|(apply aF;kernel_rfl)|(apply bW;rfl;rfl)|((apply bF (t := _));(case hze|hsm|hl => rfl);(case hfl => (exact (rfl:_=some [_, _])));(case hM|hN => rfl)))|(apply aM;first|apply aH|apply aB|(apply aQ;rfl;all_goals intro hc;have hq:=hc;(try simp only [cC] at hq);try exfalso;omega)|apply aN|apply aV|apply bS|apply aO)|with_reducible apply aA|with_reducible apply bU|with_reducible apply aX|with_reducible apply bT)
 ·(apply dG (i + 1, _, _); focus (refine Le.ren [(1, 3)] rfl (by decide) ?_ ?_ <;> repeat' (first | exact trivial | refine And.intro ⟨_, rfl, ?_⟩ ?_ | refine And.intro ⟨_, _, rfl, rfl, ?_⟩ ?_ | exact Or.inr rfl | refine Or.inl ⟨?_, (by first | rfl | exact bH _ _)⟩ | rfl)))
  ·refine ⟨by dsimp only; omega, by dsimp only; omega, ?_, by dsimp only; rw [List.length_append, hn]; rfl, by dsimp only; omega⟩
   dsimp only
   rw [hxs, iO stk hki (by omega), List.filter_append, List.append_assoc]
   congr 2
   have hu : stk[i]!.uq = false := by assumption
   rw [l6 (by rw [hu]; rfl)]
  ·dsimp only;omega
 ·(apply dG (i + 1, xs, n); focus (refine Le.ren [(1, 1)] rfl (by decide) ?_ ?_ <;> repeat' (first | exact trivial | refine And.intro ⟨_, rfl, ?_⟩ ?_ | refine And.intro ⟨_, _, rfl, rfl, ?_⟩ ?_ | exact Or.inr rfl | refine Or.inl ⟨?_, (by first | rfl | exact bH _ _)⟩ | rfl)))
  ·refine ⟨by dsimp only; omega, by dsimp only; omega, ?_, hn, by dsimp only; omega⟩
   dsimp only
   have hu : stk[i]!.uq = true := by assumption
   rw [hxs, iO stk hki (by omega), List.filter_append, kI (by rw [hu]; rfl), List.append_nil]
  ·dsimp only;omega
 ·have hie : i = stk.length := by omega
  have hd : (stk.drop (k + 1)).take (stk.length - (k + 1)) = stk.drop (k + 1) := List.take_of_length_le (by rw [List.length_drop]; exact Nat.le_refl _)
  have hxr : xs = r := by rw [hxs, hie, hd, hr]; rfl
  subst hxr
  (refine aK rfl ?_; refine bG () trivial ?_ ⟨.inr (Eq.trans (b := some _) rfl ?_), trivial⟩)
  ·rw [hn]; rfl
  ·rfl
theorem Ci {m : List Cl} {x : Pt} {j : Nat} {r : List Tg} {v : Int} {N : Nat} {Q : Exit → AS → Prop} {all : Array Oper} {rest : List Oper} {tsl : List (Nat × AV)} {hsl : List (Nat × Option (List AV))} {nidl : Nat} {z0 : Lo} {md : Md} {d : Nat} {ty : TypeId} {pos : String} {af : Array Edge} {tys : Array TypeId} {x0 x1 : Operand} (ha0 : ev (lk tsl) x0 = some (sl cK m)) (ha1 : ev (lk tsl) x1 = some (kQ x)) (hmc : MC Tryz.prog 148 [sl cK m, kQ x] [] 0 (fun _ : Unit => True) (fun _ => .tup [.own 1 0 m.length 4, iv v, iv 0]) (fun _ => [(1, some (aI eO (dI m j (.own 3 0 r.length 2)))), (3, some (aI c6 r))])) (hM : Nat.ble (nidl + 4) dR = true) (hN : Nat.blt d N = true) {md' : Md} [hmd : MdA md (e7 [x0, x1] ++ []) (List.map Sum.inr (List.map Prod.fst ([((nidl + 1), some (aI eO (dI m j (.own (nidl + 3) 0 r.length 2)))), ((nidl + 3), some (aI c6 r))] : List (Nat × Option (List AV)))) ++ [.inl d]) md'] (kk : RW Tryz.prog N all Q md' rest ⟨(d, .tup [.own (nidl + 1) 0 m.length 4, iv v, iv 0]) :: tsl, fS hsl [((nidl + 1), some (aI eO (dI m j (.own (nidl + 3) 0 r.length 2)))), ((nidl + 3), some (aI c6 r))], nidl + 4, z0⟩) : RW Tryz.prog N all Q md (⟨some d, .call ⟨.value (.func 148), #[x0, x1], tys⟩, ty, pos, af, none⟩ :: rest) ⟨tsl, hsl, nidl, z0⟩ := by
 refine bP [] 4 [((nidl + 1), some (aI eO (dI m j (.own (nidl + 3) 0 r.length 2)))), ((nidl + 3), some (aI c6 r))] hmc (avs := [sl cK m, kQ x]) ?_ rfl ?_ rfl ?_ (by simpa using hM) ?_ ?_ ?_ hN (md' := md') (hmd := hmd) kk
 ·show evL (lk tsl) [x0, x1] = _
  simp only [evL, ha0, ha1]
 ·exact trivial
 ·(repeat' (exact RnL.purI inferInstance))
 ·(repeat' (first|exact RnL.purI inferInstance|exact RnV.own rfl|refine RnL.cons ?_ ?_|refine RnV.tup ?_))
 ·simp [cZ]
 ·(repeat' (first|exact trivial|(refine And.intro ⟨1, _, rfl, rfl, ?_⟩ ?_)|(refine And.intro ⟨3, _, rfl, rfl, ?_⟩ ?_)|exact RnL.purI inferInstance|exact iV rfl))
theorem D6 (m : List Cl) (x : Pt) (j : Nat) (r : List Tg) (v : Int) (hm : OkM m) (hk : cD m x false = 0) (hj : j = x.cell.toNat) (hr : r = fM m[j]!.stk (c5 m[j]!.stk x.tag).toNat false) (hv : v = m[j]!.val) : MC Tryz.prog 148 [sl cK m, kQ x] [] 0 (fun _ : Unit => True) (fun _ => .tup [.own 1 0 m.length 4, iv v, iv 0]) (fun _ => [(1, some (aI eO (dI m j (.own 3 0 r.length 2)))), (3, some (aI c6 r))]) := by
 subst hj
 have hml := hm.l
 have hst : 0 ≤ x.cell → x.cell < m.length → m[x.cell.toNat]!.stk.length ≤ 1000000 := fun h1 h2 => Nat.le_trans (((dF m).1 hm).2 x.cell.toNat (by omega)).l.2 (by decide)
 have hpl := jH m hm x
 rw [if_pos hk, hk] at hpl
 obtain ⟨h1, h2, h3, h4, _⟩ := dN hk
 have hbd := eI m[x.cell.toNat]!.stk x.tag
 have hrd := Aq m[x.cell.toNat]!.stk r (c5 m[x.cell.toNat]!.stk x.tag).toNat hr (by omega) (hst h1 h2)
 rw [Int.toNat_of_nonneg h4] at hrd
 obtain ⟨k, hkk⟩ := Int.eq_ofNat_of_zero_le h4
 rw [hkk] at hpl hrd
 (refine bK Tryz.func148 rfl (by simp [Tryz.ntmps148]) ?_; rw [Tryz.ntmps148])
 repeat' (first|(apply aL;first|(apply eS;rfl;exact fA m hm;rfl;rfl)|((with_reducible apply aJ (k := 195));(case ha => rfl);(case h => exact hpl);(case hp => (exact Pur.pf));(case hN => rfl))|(apply wX;rfl;rfl;exact hrd;rfl;rfl)|(apply aE;rfl;rfl)|(first|(apply aP;rfl;rfl;rfl;rfl)|(apply aR;rfl;rfl;(exact (rfl:_=[_, _]));rfl;rfl;rfl))|(apply aD;rfl;rfl;rfl)|(apply aU;rfl;rfl;rfl;rfl)|(apply aC;rfl;rfl)|(first|(apply cM;(case hx|hi => rfl);(case hm => (omega));(case hml => (rfl));(case hα | hf|hg => infer_instance);(case hN => rfl))|(apply cG;rfl;rfl;(omega);rfl))|(apply aF;kernel_rfl)|(apply bA;rfl;rfl;rfl;rfl)|(apply aZ;rfl;rfl;rfl)|(apply aW;rfl;rfl;rfl;rfl;rfl;(rw [aT]; simp only [gY] <;> omega);(exact tB (by (omega)))))|(apply aM;first|apply aH|apply aB|(apply bZ;kernel_rfl)|(apply b9;rfl;(rfl))|apply aV|apply aO)|with_reducible apply aA)
 (refine aK rfl ?_; refine bG () trivial ?_ ⟨.inr (Eq.trans (b := some _) rfl ?_), ⟨.inr (Eq.trans (b := some _) rfl ?_), trivial⟩⟩)
 ·rw [hv]; rfl
 ·rfl
 ·rfl
theorem Ah {m : List Cl} {x : Pt} {j : Nat} {r : List Tg} {N : Nat} {Q : Exit → AS → Prop} {all : Array Oper} {rest : List Oper} {tsl : List (Nat × AV)} {hsl : List (Nat × Option (List AV))} {nidl : Nat} {z0 : Lo} {md : Md} {d : Nat} {ty : TypeId} {pos : String} {af : Array Edge} {tys : Array TypeId} {x0 x1 : Operand} (ha0 : ev (lk tsl) x0 = some (sl cK m)) (ha1 : ev (lk tsl) x1 = some (kQ x)) (hmc : MC Tryz.prog 190 [sl cK m, kQ x] [] 0 (fun _ : Unit => True) (fun _ => .tup [.own 1 0 m.length 4, iv 0]) (fun _ => [(1, some (aI eO (dI m j (.own 3 0 r.length 2)))), (3, some (aI c6 r))])) (hM : Nat.ble (nidl + 4) dR = true) (hN : Nat.blt d N = true) {md' : Md} [hmd : MdA md (e7 [x0, x1] ++ []) (List.map Sum.inr (List.map Prod.fst ([((nidl + 1), some (aI eO (dI m j (.own (nidl + 3) 0 r.length 2)))), ((nidl + 3), some (aI c6 r))] : List (Nat × Option (List AV)))) ++ [.inl d]) md'] (kk : RW Tryz.prog N all Q md' rest ⟨(d, .tup [.own (nidl + 1) 0 m.length 4, iv 0]) :: tsl, fS hsl [((nidl + 1), some (aI eO (dI m j (.own (nidl + 3) 0 r.length 2)))), ((nidl + 3), some (aI c6 r))], nidl + 4, z0⟩) : RW Tryz.prog N all Q md (⟨some d, .call ⟨.value (.func 190), #[x0, x1], tys⟩, ty, pos, af, none⟩ :: rest) ⟨tsl, hsl, nidl, z0⟩ := by
 refine bP [] 4 [((nidl + 1), some (aI eO (dI m j (.own (nidl + 3) 0 r.length 2)))), ((nidl + 3), some (aI c6 r))] hmc (avs := [sl cK m, kQ x]) ?_ rfl ?_ rfl ?_ (by simpa using hM) ?_ ?_ ?_ hN (md' := md') (hmd := hmd) kk
 ·show evL (lk tsl) [x0, x1] = _
  simp only [evL, ha0, ha1]
 ·exact trivial
 ·(repeat' (exact RnL.purI inferInstance))
 ·(repeat' (first|exact RnL.purI inferInstance|exact RnV.own rfl|refine RnL.cons ?_ ?_|refine RnV.tup ?_))
 ·simp [cZ]
 ·(repeat' (first|exact trivial|(refine And.intro ⟨1, _, rfl, rfl, ?_⟩ ?_)|(refine And.intro ⟨3, _, rfl, rfl, ?_⟩ ?_)|exact RnL.purI inferInstance|exact iV rfl))
theorem CM (m : List Cl) (x : Pt) (j : Nat) (r : List Tg) (hm : OkM m) (hk : cD m x true = 0) (hj : j = x.cell.toNat) (hr : r = fM m[j]!.stk (c5 m[j]!.stk x.tag).toNat true) : MC Tryz.prog 190 [sl cK m, kQ x] [] 0 (fun _ : Unit => True) (fun _ => .tup [.own 1 0 m.length 4, iv 0]) (fun _ => [(1, some (aI eO (dI m j (.own 3 0 r.length 2)))), (3, some (aI c6 r))]) := by
 subst hj
 have hml := hm.l
 obtain ⟨h1, h2, h3, h4, hu⟩ := dN hk
 have hk0 : cD m x false = 0 := nH h1 h2 h3 h4
 have hs2 : m[x.cell.toNat]!.stk.length ≤ 200 := (((dF m).1 hm).2 x.cell.toNat (by omega)).l.2
 have hpl := jH m hm x
 rw [if_pos hk0, hk0] at hpl
 have hbd := eI m[x.cell.toNat]!.stk x.tag
 obtain ⟨k, hkk⟩ := Int.eq_ofNat_of_zero_le h4
 have hkt : (c5 m[x.cell.toNat]!.stk x.tag).toNat = k := by omega
 rw [hkk] at hpl
 rw [hkt] at hr hu
 have hkn : k < m[x.cell.toNat]!.stk.length := by omega
 have e1 : List.take (((k : Int) + 1).toNat - 0) (List.drop 0 m[x.cell.toNat]!.stk) = r := by rw [List.drop_zero, hr]; unfold fM;rw [if_pos rfl]; congr 1
 have e2 : r.length = k + 1 := by rw [← e1, List.drop_zero, List.length_take]; omega
 have hut := hu rfl
 (refine bK Tryz.func190 rfl (by simp [Tryz.ntmps190]) ?_; rw [Tryz.ntmps190])
 repeat' (first|(apply aL;first|(apply eS;rfl;exact fA m hm;rfl;rfl)|((with_reducible apply aJ (k := 195));(case ha => rfl);(case h => exact hpl);(case hp => (exact Pur.pf));(case hN => rfl))|(with_reducible apply cF (d := 46))|(apply aE;rfl;rfl)|(first|(apply aP;rfl;rfl;rfl;rfl)|(apply aR;rfl;rfl;(exact (rfl:_=[_, _]));rfl;rfl;rfl))|(apply aD;rfl;rfl;rfl)|(first|(apply bN;rfl;rfl;omega;rfl)|(apply aU;rfl;rfl;rfl;rfl))|(apply aC;rfl;rfl)|(first|(apply bI;(case hx|hi => rfl);(case hm => (assumption));(case hml => (rfl));(case hα | hf|hg => infer_instance);(case hN => rfl))|(apply cM;(case hx|hi => rfl);(case hm => (omega));(case hml => (rfl));(case hα | hf|hg => infer_instance);(case hN => rfl)))|(apply aF;kernel_rfl)|(apply gT;rfl;infer_instance;rfl;rfl;(omega);rfl)|(apply bW;rfl;rfl)|(apply bA;rfl;rfl;rfl;rfl)|(apply aZ;rfl;rfl;rfl)|(apply bQ;rfl;rfl;rfl;(rfl);rfl;rfl))|(apply aM;first|apply aH|apply aB|(apply bZ;kernel_rfl)|(apply b9;rfl;(rfl))|(apply aQ;rfl;all_goals intro hc;have hq:=hc;(try simp only [cC] at hq);try exfalso;omega)|apply aV|apply aO)|with_reducible apply aA|with_reducible apply a8)
 ·exfalso; have hf : m[x.cell.toNat]!.stk[k]!.uq = false := by assumption
  rw [hut] at hf;exact absurd hf (by decide)
 refine dB ?_
 rw [e1]
 repeat' (first|(apply aL;first|(apply aE;rfl;rfl)|(apply aD;rfl;rfl;rfl)|(apply aC;rfl;rfl)|(apply cG;rfl;rfl;(omega);rfl)|(apply bV;rfl;rfl;rfl;rfl;rfl;(case hl => (simp [aT]; done));(exact gF (by (rfl)));omega;omega;(exact dW (by (omega)));rfl;rfl)|(apply aF;kernel_rfl)|(apply aW;rfl;rfl;rfl;rfl;rfl;(rw [aT]; simp only [gY] <;> omega);(exact tB (by (omega)))))|(apply aM;first|apply aH|apply aB|apply aO)|with_reducible apply aA)
 (refine aK rfl ?_; refine bG () trivial ?_ ⟨.inr (Eq.trans (b := some _) rfl ?_), ⟨.inr (Eq.trans (b := some _) rfl ?_), trivial⟩⟩)
 ·rfl
 ·rw [Nat.zero_add r.length]
 ·rfl
theorem qT {m : List Cl} {x : Pt} {u : Bool} {r : List Tg} (hk : cD m x u = 0) (hr : r = fM m[x.cell.toNat]!.stk (c5 m[x.cell.toNat]!.stk x.tag).toNat u) : j1 m x u = iF m x.cell.toNat r ∧ kW m x u = iD m m x.cell.toNat u r ∧ nN m x u = iG m x.cell.toNat r := by
 obtain ⟨h1, h2, _⟩ := dN hk
 subst hr
 have e : j1 m x u = iF m x.cell.toNat (fM m[x.cell.toNat]!.stk (c5 m[x.cell.toNat]!.stk x.tag).toNat u) := by
  unfold j1;rw [if_pos hk]; rfl
 refine ⟨e, ?_, ?_⟩
 ·unfold kW iD
  rw [e]; unfold iF
  split
  ·rw [if_neg (by decide)]
  ·rw [if_pos rfl]; rfl
 ·unfold nN iG
  rw [e]; unfold iF
  split
  ·rw [if_neg (by decide)]
  ·rw [if_pos rfl, Int.toNat_of_nonneg h1]
theorem Bx {m : List Cl} {x : Pt} {u : Bool} (hk : cD m x u ≠ 0) : j1 m x u = cD m x u ∧ kW m x u = m ∧ nN m x u = ⟨0, 0⟩ := by
 have e : j1 m x u = cD m x u := by unfold j1;rw [if_neg hk]
 exact ⟨e, by unfold kW;rw [if_neg (by rw [e]; exact hk)], by unfold nN;rw [if_neg (by rw [e]; exact hk)]⟩
theorem tC (m : List Cl) (hm : OkM m) (x : Pt) : PC Tryz.prog 193 [sl cK m, kQ x] (fun r => r = .tup [sl cK (kW m x false), kQ (nN m x false), iv (j1 m x false)]) := by
 have hml := hm.l
 by_cases hk : cD m x false = 0
 ·obtain ⟨c, t⟩ := x
  obtain ⟨h1, h2, _⟩ := dN hk
  have h1' : 0 ≤ c := h1
  obtain ⟨j, rfl⟩ := Int.eq_ofNat_of_zero_le h1'
  have h2' : (j : Int) < m.length := h2
  have hc := ((dF m).1 hm).2 j (by omega)
  obtain ⟨r, hr⟩ : ∃ r, r = fM m[j]!.stk (c5 m[j]!.stk t).toNat false := ⟨_, rfl⟩
  have hrl : r.length ≤ 200 := by rw [hr]; exact Nat.le_trans tchS_sub.length_le hc.l.2
  obtain ⟨e1, e2, e3⟩ := qT hk hr
  have hpu := tU m m j false r m.length r.length hm rfl rfl (by omega) (by have := hc.n;omega) hrl hml
  rw [e1, e2, e3]
  (refine aS Tryz.func193 rfl (by simp [Tryz.ntmps193]) ?_; rw [Tryz.ntmps193])
  repeat' (first|(apply aL;first|((apply Ci (j := j) (r := r) (v := m[j]!.val));(case ha0|ha1 => rfl);(case hmc => exact D6 m _ _ r _ hm hk rfl hr rfl);(case hM|hN => rfl))|((apply qO (m := m) (b := m) (j := j) (u := false) (r := r) (n := m.length) (k := r.length));(case ha0|ha1|ha2|ha3|hH0|hH1|hdd => rfl);(case hmc => exact hpu);(case hM|hN => rfl))|(apply aE;rfl;rfl)|(first|(apply aP;rfl;rfl;rfl;rfl)|(apply aR;rfl;rfl;(exact (rfl:_=[_, _]));rfl;rfl;rfl))|(apply aD;rfl;rfl;rfl)|(apply aU;rfl;rfl;rfl;rfl)|(apply aC;rfl;rfl)|(apply aF;kernel_rfl)|(apply bA;rfl;rfl;rfl;rfl)|(apply bD;rfl;rfl)|(apply aZ;rfl;rfl;rfl)|(apply aW;rfl;rfl;rfl;rfl;rfl;(case hl => (simp;done));(exact (rfl:_=[_, _]))))|(apply aM;first|apply aH|apply aB|(apply b9;rfl;(rfl))|apply aV|apply aO)|with_reducible apply aA)
  exact aK (l := [sl cK (iD m m j false r), .agg [iv (iG m j r).cell, iv (iG m j r).tag], iv (iF m j r)]) rfl ⟨rfl, by (exact Pur.pf)⟩
 ·obtain ⟨e1, e2, e3⟩ := Bx hk
  have hrd := m2 m hm x
  have e4 : dT m x false = m := by unfold dT;rw [if_neg hk]
  rw [e4] at hrd
  rw [e1, e2, e3]
  (refine aS Tryz.func193 rfl (by simp [Tryz.ntmps193]) ?_; rw [Tryz.ntmps193])
  repeat' (first|(apply aL;first|((with_reducible apply aJ (k := 148));(case ha => rfl);(case h => exact hrd);(case hp => (exact Pur.pf));(case hN => rfl))|(apply aE;rfl;rfl)|(apply aR;rfl;rfl;(exact (rfl:_=[_, _]));rfl;rfl;rfl)|(apply aU;rfl;rfl;rfl;rfl)|(apply aC;rfl;rfl)|(apply aF;kernel_rfl)|(apply bY;rfl;(exact (rfl:_=some [_, _]));(exact (rfl:_=[_, _]));rfl)|(apply bA;rfl;rfl;rfl;rfl)|(apply bD;rfl;rfl)|(apply aZ;rfl;rfl;rfl)|(apply aW;rfl;rfl;rfl;rfl;rfl;(decide);(exact (rfl:_=[_, _]))))|(apply aM;first|apply aH|apply aB|(apply aQ;rfl;all_goals intro hc;have hq:=hc;(try simp only [cC] at hq);try exfalso;omega)|apply aO)|with_reducible apply aA|with_reducible apply a8)
  skip
  exact aK (l := [sl cK m, .agg [iv 0, iv 0], iv (cD m x false)]) rfl ⟨rfl, by (exact Pur.pf)⟩
theorem pX (m : List Cl) (hm : OkM m) (x : Pt) : PC Tryz.prog 194 [sl cK m, kQ x] (fun r => r = .tup [sl cK (kW m x true), kQ (nN m x true), iv (j1 m x true)]) := by
 have hml := hm.l
 by_cases hk : cD m x true = 0
 ·obtain ⟨c, t⟩ := x
  obtain ⟨h1, h2, _⟩ := dN hk
  have h1' : 0 ≤ c := h1
  obtain ⟨j, rfl⟩ := Int.eq_ofNat_of_zero_le h1'
  have h2' : (j : Int) < m.length := h2
  have hc := ((dF m).1 hm).2 j (by omega)
  obtain ⟨r, hr⟩ : ∃ r, r = fM m[j]!.stk (c5 m[j]!.stk t).toNat true := ⟨_, rfl⟩
  have hrl : r.length ≤ 200 := by rw [hr]; exact Nat.le_trans tchS_sub.length_le hc.l.2
  obtain ⟨e1, e2, e3⟩ := qT hk hr
  have hpu := tU m m j true r m.length r.length hm rfl rfl (by omega) (by have := hc.n;omega) hrl hml
  rw [e1, e2, e3]
  (refine aS Tryz.func194 rfl (by simp [Tryz.ntmps194]) ?_; rw [Tryz.ntmps194])
  repeat' (first|(apply aL;first|((apply Ah (j := j) (r := r));(case ha0|ha1 => rfl);(case hmc => exact CM m _ _ r hm hk rfl hr);(case hM|hN => rfl))|((apply qO (m := m) (b := m) (j := j) (u := true) (r := r) (n := m.length) (k := r.length));(case ha0|ha1|ha2|ha3|hH0|hH1|hdd => rfl);(case hmc => exact hpu);(case hM|hN => rfl))|(apply aE;rfl;rfl)|(first|(apply aP;rfl;rfl;rfl;rfl)|(apply aR;rfl;rfl;(exact (rfl:_=[_, _]));rfl;rfl;rfl))|(apply aD;rfl;rfl;rfl)|(apply aU;rfl;rfl;rfl;rfl)|(apply aC;rfl;rfl)|(apply aF;kernel_rfl)|(apply bA;rfl;rfl;rfl;rfl)|(apply bD;rfl;rfl)|(apply aZ;rfl;rfl;rfl)|(apply aW;rfl;rfl;rfl;rfl;rfl;(case hl => (simp;done));(exact (rfl:_=[_, _]))))|(apply aM;first|apply aH|apply aB|(apply b9;rfl;(rfl))|apply aV|apply aO)|with_reducible apply aA)
  exact aK (l := [sl cK (iD m m j true r), .agg [iv (iG m j r).cell, iv (iG m j r).tag], iv (iF m j r)]) rfl ⟨rfl, by (exact Pur.pf)⟩
 ·obtain ⟨e1, e2, e3⟩ := Bx hk
  have hwr := gZ m x hm
  have e4 : dT m x true = m := by unfold dT;rw [if_neg hk]
  rw [e1, e2, e3]
  (refine aS Tryz.func194 rfl (by simp [Tryz.ntmps194]) ?_; rw [Tryz.ntmps194])
  repeat' (first|(apply aL;first|(apply gC;rfl;rfl;exact hwr;rfl;rfl)|(apply aE;rfl;rfl)|(apply aR;rfl;rfl;(exact (rfl:_=[_, _]));rfl;rfl;rfl)|(apply aU;rfl;rfl;rfl;rfl)|(apply aC;rfl;rfl)|(apply aF;kernel_rfl)|(apply bY;rfl;(exact (rfl:_=some [_, _]));(exact (rfl:_=[_, _]));rfl)|(apply bA;rfl;rfl;rfl;rfl)|(apply bD;rfl;rfl)|(apply aZ;rfl;rfl;rfl)|(apply aW;rfl;rfl;rfl;rfl;rfl;(decide);(exact (rfl:_=[_, _]))))|(apply aM;first|apply aH|apply aB|(apply aQ;rfl;all_goals intro hc;have hq:=hc;(try simp only [cC] at hq);try exfalso;omega)|apply aO)|with_reducible apply aA|with_reducible apply a8)
  refine b0 (Le.frzD (d := 4) (i := 3) (m := m.length) (cs := aI cK (dT m x true)) rfl rfl) ?_
  rw [e4]
  exact aK (l := [sl cK m, .agg [iv 0, iv 0], iv (cD m x true)]) rfl ⟨rfl, by (exact Pur.pf)⟩
abbrev e9 (s : Mc) : AV := .agg [sl dK s.slots, sl cK s.cells, sl cI s.read]
theorem rM {xs : List Sl} {k : Nat} {a : Bool} {b c d : Int} (hk : k < xs.length) : gO (aI dK xs) (0 + k * 4) [bv a, iv b, iv c, iv d] = aI dK (xs.set k ⟨a, b, ⟨c, d⟩⟩) := uR hk rfl
theorem mN (s : Mc) (v : Nat) (hv : v < s.slots.length) (hl : s.slots.length ≤ 1000000) : PC Tryz.prog 143 [e9 s, iv (v : Int)] (fun r => r = e9 ⟨s.slots.set v kG, s.cells, s.read⟩) := by
 (refine aS Tryz.func143 rfl (by simp [Tryz.ntmps143]) ?_; rw [Tryz.ntmps143])
 repeat' (first|(apply aL;first|(apply aE;rfl;rfl)|(first|(apply aP;rfl;rfl;rfl;rfl)|(apply aR;rfl;rfl;(exact (rfl:_=[_, _, _]));rfl;rfl;rfl))|(apply aD;rfl;rfl;rfl)|(apply cE;rfl;rfl;(omega);rfl)|(apply bV;rfl;rfl;rfl;rfl;rfl;(case hl => (simp [aT]; done));(exact gF (by (rfl)));omega;omega;(exact dW (by (omega)));rfl;rfl)|(apply aF;kernel_rfl)|(apply bY;rfl;(exact (rfl:_=some [_, _, _, _]));(exact (rfl:_=[_, _, _, _]));rfl)|(apply bA;rfl;rfl;rfl;rfl)|(apply bD;rfl;rfl)|(apply bQ;rfl;rfl;rfl;(rfl);rfl;rfl)|(apply aW;rfl;rfl;rfl;rfl;rfl;(case hl => (first|(rw [aT]; simp only [gY] <;> omega)|(simp;done)));(first|exact rM (by (assumption))|exact (rfl:_=[_, _, _]))))|(apply aM;first|apply aH|apply aB|apply aO)|with_reducible apply aA)
 refine b0 (Le.frzC (j := 1) (i := 3) [] rfl rfl (by decide)) ?_
 have e : AV.imm (0 + s.slots.length) (aI dK (s.slots.set v kG)) = sl dK (s.slots.set v kG) := eH (by rw [List.length_set, Nat.zero_add])
 refine aK (l := [.agg [.imm (0 + s.slots.length) (aI dK (s.slots.set v kG)), sl cK s.cells, sl cI s.read]]) rfl ?_
 rw [e]
 exact ⟨rfl, by (exact Pur.pf)⟩
theorem BZ (k : Int) : (if lD k = -1 then (0 : Int) else lD k) = if k = 1 then 3 else if k = 0 then 0 else 4 := by
 unfold lD eU
 by_cases h : k = 0
 ·subst h;rfl
 ·rw [if_neg h, if_neg h]
  by_cases h1 : k = 1
  ·rw [if_pos h1]; rfl
  ·rw [if_neg h1]; rfl
theorem jP (ts : List Int) (s : Mc) (v : Nat) (y : Sl) (hm : OkM s.cells) (hv : v < s.slots.length) (hvt : v < ts.length) (hl : s.slots.length ≤ 1000000) : PC Tryz.prog 144 [sl cI ts, e9 s, iv (v : Int), Cp y] (fun r => r = .tup [e9 (cR ts s v y).1, iv (if (cR ts s v y).2 = -1 then 0 else (cR ts s v y).2)]) := by
 have hfc := jZ s.cells hm s.slots[v]!.ptr
 (refine aS Tryz.func144 rfl (by simp [Tryz.ntmps144]) ?_; rw [Tryz.ntmps144])
 repeat' (first|(apply aL;first|((with_reducible apply aJ (k := 141));(case ha => rfl);(case h => exact hfc);(case hp => (exact Pur.pf));(case hN => rfl))|(apply aE;rfl;rfl)|(first|(apply aP;rfl;rfl;rfl;rfl)|(apply aR;rfl;rfl;(first|exact (rfl:_=[_, _])|exact (rfl:_=[_, _, _])|exact (rfl:_=[_, _, _, _]));rfl;rfl;rfl))|(apply aD;rfl;rfl;rfl)|(first|(apply aY;rfl;rfl;rfl;(assumption))|(apply a7;rfl;rfl;rfl;(assumption))|(apply bE;(case hj|hb|hN => rfl);all_goals (intro hg;have hq := hg;(try simp only [cC] at hq);(try (exfalso;omega)))))|(apply aU;rfl;rfl;rfl;rfl)|(apply aC;rfl;rfl)|(first|(apply bJ;rfl;(assumption);rfl;rfl)|(apply bC;rfl;(assumption);rfl;rfl))|(first|(apply bI;(case hx|hi => rfl);(case hm => (assumption));(case hml => (rfl));(case hα | hf|hg => infer_instance);(case hN => rfl))|(apply cE;rfl;rfl;(omega);rfl))|((with_reducible apply aJ (k := 142));(case ha => rfl);(case h => (apply jB <;> (fail)));(case hp => (rfl));(case hN => rfl))|(apply bV;rfl;rfl;rfl;rfl;rfl;(case hl => (simp [aT]; done));(exact gF (by (rfl)));omega;omega;(exact dW (by (omega)));rfl;rfl)|(apply aF;kernel_rfl)|(apply bA;rfl;rfl;rfl;rfl)|(apply bD;rfl;rfl)|(apply aZ;rfl;rfl;rfl)|(apply bQ;rfl;rfl;rfl;(rfl);rfl;rfl)|(apply aW;rfl;rfl;rfl;rfl;rfl;(case hl => (first|(rw [aT]; simp only [gY] <;> omega)|(simp;done)));(first|exact rM (by (assumption))|exact (rfl:_=[_, _, _]))))|(apply aM;first|apply aH|apply aB|(apply bZ;kernel_rfl)|(apply b9;rfl;(rfl))|(apply aQ;rfl;all_goals intro hc;have hq:=hc;(try simp only [cC] at hq);try exfalso;omega)|apply aV|apply aO)|with_reducible apply aA)
 all_goals (
  refine b0 (Le.frzC (j := 2) (i := 4) [] rfl rfl (by decide)) ?_
  have e : AV.imm (0 + s.slots.length) (aI dK (s.slots.set v y)) = sl dK (s.slots.set v y) := eH (by rw [List.length_set, Nat.zero_add]))
 ·have hp : cR ts s v y = (⟨s.slots.set v y, jW s.cells s.slots[v]!.ptr, s.read⟩, lD (cD s.cells s.slots[v]!.ptr true)) := if_pos ⟨by assumption, by assumption⟩
  refine aK (l := [.agg [.imm (0 + s.slots.length) (aI dK (s.slots.set v y)), sl cK (jW s.cells s.slots[v]!.ptr), sl cI s.read], iv (if cD s.cells s.slots[v]!.ptr true = 1 then 3 else if cD s.cells s.slots[v]!.ptr true = 0 then 0 else 4)]) rfl ?_
  rw [e, hp]
  dsimp only
  rw [BZ]
  exact ⟨rfl, by (exact Pur.pf)⟩
 all_goals (
  have hp : cR ts s v y = (⟨s.slots.set v y, s.cells, s.read⟩, -1) := if_neg (by
   rintro ⟨q1, q2⟩
   first|(exact (by assumption : ¬ ts[v]! = 2) q1)|(rw [(by assumption : s.slots[v]!.set = false)] at q2;exact absurd q2 (by decide)))
  refine aK (l := [.agg [.imm (0 + s.slots.length) (aI dK (s.slots.set v y)), sl cK s.cells, sl cI s.read], iv 0]) rfl ?_
  rw [e, hp]
  exact ⟨rfl, by (exact Pur.pf)⟩)
def gk (e : Int) : Int := if e = -1 then 0 else e
theorem Em {t : Int} (h : t = 2 ∨ t = 4) : yO t = true := by
 unfold yO;rcases h with h|h <;> subst h <;> rfl
theorem Gb {t : Int} (h : ¬ t = 2) (h2 : ¬ t = 4) : ¬ yO t = true := by
 unfold yO;rw [decide_eq_false h, decide_eq_false h2]; decide
theorem rS {k : Int} (h : ¬ k = 0) : (if k = 1 then (3 : Int) else if k = 0 then 0 else 4) = eU k := by
 unfold eU;rw [if_neg h]
theorem Eo {m : List Cl} {x : Pt} {u : Bool} (h : ¬ j1 m x u = 0) : kW m x u = m := by unfold kW; rw [if_neg h]
theorem Cu (ts : List Int) (s : Mc) (x : Pnt) (hm : OkM s.cells) (hsl : s.slots.length = ts.length) (hx : 0 ≤ x.x ∧ x.x < ts.length) (hy : 0 ≤ x.y ∧ x.y < ts.length) (hl : ts.length ≤ 1000000) : PC Tryz.prog 146 [sl cI ts, e9 s, eX x] (fun r => r = .tup [e9 (cR ts (if yO ts[x.y.toNat]! = true then ⟨s.slots.set x.y.toNat kG, s.cells, s.read⟩ else s) x.x.toNat s.slots[x.y.toNat]!).1, iv (gk (cR ts (if yO ts[x.y.toNat]! = true then ⟨s.slots.set x.y.toNat kG, s.cells, s.read⟩ else s) x.x.toNat s.slots[x.y.toNat]!).2)]) := by
 have hcl := mN s x.y.toNat (by omega) (by omega)
 have hp1 := jP ts ⟨s.slots.set x.y.toNat kG, s.cells, s.read⟩ x.x.toNat s.slots[x.y.toNat]! hm (by show _ < (s.slots.set x.y.toNat kG).length;rw [List.length_set]; omega) (by omega) (by show (s.slots.set x.y.toNat kG).length ≤ _; rw [List.length_set]; omega)
 have hp2 := jP ts s x.x.toNat s.slots[x.y.toNat]! hm (by omega) (by omega) (by omega)
 rw [Int.toNat_of_nonneg hy.1] at hcl
 rw [Int.toNat_of_nonneg hx.1] at hp1 hp2
 (refine aS Tryz.func146 rfl (by simp [Tryz.ntmps146]) ?_; rw [Tryz.ntmps146])
 repeat' (first|(apply aL;first|((with_reducible apply aJ (k := 143));(case ha => rfl);(case h => exact hcl);(case hp => (exact Pur.pf));(case hN => rfl))|((with_reducible apply aJ (k := 144));(case ha => rfl);(case h => first|exact hp1|exact hp2);(case hp => (exact Pur.pf));(case hN => rfl))|(apply aE;rfl;rfl)|(first|(apply aP;rfl;rfl;rfl;rfl)|(apply aR;rfl;rfl;(first|exact (rfl:_=[_, _, _])|exact (rfl:_=[_, _, _, _]));rfl;rfl;rfl))|(apply aD;rfl;rfl;rfl)|(first|(apply aY;rfl;rfl;rfl;(assumption))|(apply a7;rfl;rfl;rfl;(assumption))|(apply bE;(case hj|hb|hN => rfl);all_goals (intro hg;have hq := hg;(try simp only [cC] at hq);(try (exfalso;omega)))))|(apply aU;rfl;rfl;rfl;rfl)|(apply aC;rfl;rfl)|(first|(apply bJ;rfl;(assumption);rfl;rfl)|(apply bC;rfl;(assumption);rfl;rfl))|(apply cM;(case hx|hi => rfl);(case hm => (first|assumption|omega));(case hml => (rfl));(case hα | hf|hg => infer_instance);(case hN => rfl))|(apply aF;kernel_rfl)|(apply bA;rfl;rfl;rfl;rfl)|(apply bD;rfl;rfl)|(apply aZ;rfl;rfl;rfl)|(apply aW;rfl;rfl;rfl;rfl;rfl;(case hl => (simp;done));(first|exact (rfl:_=[_, _, _])|exact (rfl:_=[_, _, _, _]))))|(apply aM;first|apply aH|apply aB|(apply bR;rfl;(rfl))|(apply aQ;rfl;all_goals intro hc;have hq:=hc;(try simp only [cC] at hq);try exfalso;omega)|apply aV|apply aO)|with_reducible apply aA)
 ·refine aK (l := [e9 (cR ts ⟨s.slots.set x.y.toNat kG, s.cells, s.read⟩ x.x.toNat s.slots[x.y.toNat]!).1, iv (gk (cR ts ⟨s.slots.set x.y.toNat kG, s.cells, s.read⟩ x.x.toNat s.slots[x.y.toNat]!).2)]) rfl ⟨?_, by (exact Pur.pf)⟩
  rw [if_pos (Em (.inr (by assumption)))]; rfl
 ·refine aK (l := [e9 (cR ts s x.x.toNat s.slots[x.y.toNat]!).1, iv (gk (cR ts s x.x.toNat s.slots[x.y.toNat]!).2)]) rfl ⟨?_, by (exact Pur.pf)⟩
  rw [if_neg (Gb (by assumption) (by assumption))]; rfl
 ·refine aK (l := [e9 (cR ts ⟨s.slots.set x.y.toNat kG, s.cells, s.read⟩ x.x.toNat s.slots[x.y.toNat]!).1, iv (gk (cR ts ⟨s.slots.set x.y.toNat kG, s.cells, s.read⟩ x.x.toNat s.slots[x.y.toNat]!).2)]) rfl ⟨?_, by (exact Pur.pf)⟩
  rw [if_pos (Em (.inl (by assumption)))]; rfl
theorem AZ (ts : List Int) (s : Mc) (x : Pnt) (u : Bool) (hu : u = decide (x.op = 5)) (hm : OkM s.cells) (hsl : s.slots.length = ts.length) (hx : 0 ≤ x.x ∧ x.x < ts.length) (hy : 0 ≤ x.y ∧ x.y < ts.length) (hl : ts.length ≤ 1000000) : PC Tryz.prog 147 [sl cI ts, e9 s, eX x] (fun r => r = if j1 s.cells s.slots[x.y.toNat]!.ptr u = 0 then
  .tup [e9 (cR ts ⟨s.slots, kW s.cells s.slots[x.y.toNat]!.ptr u, s.read⟩ x.x.toNat ⟨true, 0, nN s.cells s.slots[x.y.toNat]!.ptr u⟩).1, iv (gk (cR ts ⟨s.slots, kW s.cells s.slots[x.y.toNat]!.ptr u, s.read⟩ x.x.toNat ⟨true, 0, nN s.cells s.slots[x.y.toNat]!.ptr u⟩).2)]
  else .tup [e9 s, iv (eU (j1 s.cells s.slots[x.y.toNat]!.ptr u))]) := by
 have hsh := tC s.cells hm s.slots[x.y.toNat]!.ptr
 have hbo := pX s.cells hm s.slots[x.y.toNat]!.ptr
 have hp1 := jP ts ⟨s.slots, kW s.cells s.slots[x.y.toNat]!.ptr false, s.read⟩ x.x.toNat ⟨true, 0, nN s.cells s.slots[x.y.toNat]!.ptr false⟩ (hm.ln _ _) (by show _ < s.slots.length;omega) (by omega) (by show s.slots.length ≤ _; omega)
 have hp2 := jP ts ⟨s.slots, kW s.cells s.slots[x.y.toNat]!.ptr true, s.read⟩ x.x.toNat ⟨true, 0, nN s.cells s.slots[x.y.toNat]!.ptr true⟩ (hm.ln _ _) (by show _ < s.slots.length;omega) (by omega) (by show s.slots.length ≤ _; omega)
 rw [Int.toNat_of_nonneg hx.1] at hp1 hp2
 (refine aS Tryz.func147 rfl (by simp [Tryz.ntmps147]) ?_; rw [Tryz.ntmps147])
 repeat' (first|(apply aL;first|((with_reducible apply aJ (k := 193));(case ha => rfl);(case h => exact hsh);(case hp => (exact Pur.pf));(case hN => rfl))|((with_reducible apply aJ (k := 194));(case ha => rfl);(case h => exact hbo);(case hp => (exact Pur.pf));(case hN => rfl))|((with_reducible apply aJ (k := 144) (avs := [sl cI ts, e9 ⟨s.slots, kW s.cells s.slots[x.y.toNat]!.ptr false, s.read⟩, iv x.x, Cp ⟨true, 0, nN s.cells s.slots[x.y.toNat]!.ptr false⟩]));(case ha => rfl);(case h => exact hp1);(case hp => (exact Pur.pf));(case hN => rfl))|((with_reducible apply aJ (k := 144) (avs := [sl cI ts, e9 ⟨s.slots, kW s.cells s.slots[x.y.toNat]!.ptr true, s.read⟩, iv x.x, Cp ⟨true, 0, nN s.cells s.slots[x.y.toNat]!.ptr true⟩]));(case ha => rfl);(case h => exact hp2);(case hp => (exact Pur.pf));(case hN => rfl))|(apply aE;rfl;rfl)|(first|(apply aP;rfl;rfl;rfl;rfl)|(apply aR;rfl;rfl;(first|exact (rfl:_=[_, _])|exact (rfl:_=[_, _, _]));rfl;rfl;rfl))|(apply aD;rfl;rfl;rfl)|(apply aU;rfl;rfl;rfl;rfl)|(apply aC;rfl;rfl)|(apply cM;(case hx|hi => rfl);(case hm => (omega));(case hml => (rfl));(case hα | hf|hg => infer_instance);(case hN => rfl))|((with_reducible apply aJ (k := 142));(case ha => rfl);(case h => (apply jB <;> (fail)));(case hp => (rfl));(case hN => rfl))|(apply aF;kernel_rfl)|(apply bY;rfl;(exact (rfl:_=some [_, _, _, _]));(exact (rfl:_=[_, _, _, _]));rfl)|(apply bA;rfl;rfl;rfl;rfl)|(apply bD;rfl;rfl)|(apply aZ;rfl;rfl;rfl)|(apply aW;rfl;rfl;rfl;rfl;rfl;(case hl => (simp;done));(first|exact (rfl:_=[_, _])|exact (rfl:_=[_, _, _]))))|(apply aM;first|apply aH|apply aB|(apply bZ;kernel_rfl)|(apply aQ;rfl;all_goals intro hc;have hq:=hc;(try simp only [cC] at hq);try exfalso;omega)|apply aV|apply aO)|with_reducible apply aA|with_reducible apply a8)
 ·have hk : ¬ j1 s.cells s.slots[x.y.toNat]!.ptr true = 0 := by assumption
  have hu2 : u = true := by rw [hu]; exact decide_eq_true (by assumption)
  subst hu2
  refine aK (l := [.agg [sl dK s.slots, sl cK (kW s.cells s.slots[x.y.toNat]!.ptr true), sl cI s.read], iv (if j1 s.cells s.slots[x.y.toNat]!.ptr true = 1 then 3 else if j1 s.cells s.slots[x.y.toNat]!.ptr true = 0 then 0 else 4)]) rfl ?_
  rw [rS hk, if_neg hk, Eo hk]
  exact ⟨rfl, by (exact Pur.pf)⟩
 ·have hk : j1 s.cells s.slots[x.y.toNat]!.ptr true = 0 := by assumption
  have hu2 : u = true := by rw [hu]; exact decide_eq_true (by assumption)
  subst hu2
  refine aK (l := [e9 (cR ts ⟨s.slots, kW s.cells s.slots[x.y.toNat]!.ptr true, s.read⟩ x.x.toNat ⟨true, 0, nN s.cells s.slots[x.y.toNat]!.ptr true⟩).1, iv (gk (cR ts ⟨s.slots, kW s.cells s.slots[x.y.toNat]!.ptr true, s.read⟩ x.x.toNat ⟨true, 0, nN s.cells s.slots[x.y.toNat]!.ptr true⟩).2)]) rfl ⟨?_, by (exact Pur.pf)⟩
  rw [if_pos hk]; rfl
 ·have hk : ¬ j1 s.cells s.slots[x.y.toNat]!.ptr false = 0 := by assumption
  have hu2 : u = false := by rw [hu]; exact decide_eq_false (by assumption)
  subst hu2
  refine aK (l := [.agg [sl dK s.slots, sl cK (kW s.cells s.slots[x.y.toNat]!.ptr false), sl cI s.read], iv (if j1 s.cells s.slots[x.y.toNat]!.ptr false = 1 then 3 else if j1 s.cells s.slots[x.y.toNat]!.ptr false = 0 then 0 else 4)]) rfl ?_
  rw [rS hk, if_neg hk, Eo hk]
  exact ⟨rfl, by (exact Pur.pf)⟩
 ·have hk : j1 s.cells s.slots[x.y.toNat]!.ptr false = 0 := by assumption
  have hu2 : u = false := by rw [hu]; exact decide_eq_false (by assumption)
  subst hu2
  refine aK (l := [e9 (cR ts ⟨s.slots, kW s.cells s.slots[x.y.toNat]!.ptr false, s.read⟩ x.x.toNat ⟨true, 0, nN s.cells s.slots[x.y.toNat]!.ptr false⟩).1, iv (gk (cR ts ⟨s.slots, kW s.cells s.slots[x.y.toNat]!.ptr false, s.read⟩ x.x.toNat ⟨true, 0, nN s.cells s.slots[x.y.toNat]!.ptr false⟩).2)]) rfl ⟨?_, by (exact Pur.pf)⟩
  rw [if_pos hk]; rfl
end Go.Proofs.YtckihjkcgfphmaaGreat
