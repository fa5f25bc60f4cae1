/-
 A part of the proofs over this program: rules and contracts of its functions (the contracts).
-/
import Derived.Test.YtjcpngimjdckmaaGreatQ1B03
set_option linter.unusedVariables false
set_option linter.unusedSimpArgs false
set_option maxHeartbeats 8000000
set_option maxRecDepth 4000
attribute [local irreducible] Go.AL.RW Go.AL.AW Go.AL.Stop
namespace Go.Proofs.YtjcpngimjdckmaaGreat
open Go.AL Go.RowKit
class NumS (cs : List AV) (xs : outParam (List ByteArray)) : Prop where h : cs = aH Bn xs
instance NumS.nil : NumS [] [] := ⟨rfl⟩
instance NumS.cons {n : ByteArray} {cs : List AV} {xs : List ByteArray} [h : NumS cs xs] : NumS (.v (.string n) :: cs) (n :: xs) := ⟨by rw [h.h]; rfl⟩
theorem Fw {cs : List AV} {xs : List ByteArray} {m : Nat} (h : NumS cs xs) (hm : m = xs.length) (hs : xs.all (fun s => decide (s.size ≤ 600)) = true) : ∃ ys : List ByteArray, AV.imm m cs = sl Bn ys ∧ ys.length = m ∧ ∀ i : Nat, (ys[i]!).size ≤ 600 := by
 refine ⟨xs, by rw [h.h, hm], hm.symm, fun i => ?_⟩
 by_cases hi : i < xs.length
 ·rw [List.all_eq_true] at hs
  rw [cK _ _ hi]
  simpa using hs _ (List.getElem_mem hi)
 ·rw [getElem!_neg xs i hi]; decide
theorem wJ : PC Tryz.prog 70 [] (fun r => ∃ ys : List ByteArray, r = sl Bn ys ∧ ys.length = 25 ∧ ∀ i : Nat, (ys[i]!).size ≤ 600) := by
 (refine aU Tryz.func70 rfl (by simp [Tryz.ntmps70]) ?_; rw [Tryz.ntmps70])
 repeat' (first|(apply aM;first|((apply bS (t := _));(case hze|hsm|hl => rfl);(case hfl => exact (rfl:_=some [_, _, _, _, _, _, _, _, _, _, _, _, _, _, _, _, _, _, _, _, _, _, _, _, _]));(case hM|hN => rfl))|(apply aC;rfl;rfl)|(apply aF;kernel_rfl))|(apply aN;first|apply aI|apply aB|apply aQ)|with_reducible apply aA)
 refine sY (l := [.imm 25 [_, _, _, _, _, _, _, _, _, _, _, _, _, _, _, _, _, _, _, _, _, _, _, _, _]]) ?_ rfl ?_
 ·rintro _ ⟨ys, rfl, _⟩; exact aZ _ _
 ·exact Fw inferInstance rfl (by decide)
theorem hZ {P : Program} {N : Nat} {Q : Exit → AS → Prop} {all : Array Oper} {rest : List Oper} {ts : List (Nat × AV)} {hs : List (Nat × Option (List AV))} {n : Nat} {z0 : Lo} {ty : TypeId} {pos : String} {af : Array Edge} {d : Nat} {args : Array Operand} {tys : Array TypeId}
  {k : FuncId} {pv : List AV} {p0 : Prg × Nat → Prop} {i p : Nat} {bs : List UInt8} (h : MC P k (.optr 0 0 :: pv) [(0, some (e5 bs p))] 1 p0 (fun x => dD x.1) (fun x => [(0, some (e5 bs x.2))])) [hc : CaT P k] (ha : evL (lk ts) args.toList = some (.optr i 0 :: pv)) (hpv : dC pv = true)
  (hH : cJ hs i = some (e5 bs p)) (hM : Nat.ble (n + 0) fG = true) (hN : Nat.blt d N = true) (kk : ∀ x, p0 x → RW P N all Q .txt rest ⟨(d, dD x.1) :: ts, (i, some (e5 bs x.2)) :: hs, n + 0, z0⟩) :
  RW P N all Q .txt (⟨some d, .call ⟨.value (.func k), args, tys⟩, ty, pos, af, none⟩ :: rest) ⟨ts, hs, n, z0⟩ :=
 AU (σ := Prg × Nat) [i] 1 (fun x : Prg × Nat => [(i, some (e5 bs x.2))]) h ha rfl ⟨⟨_, _, rfl, hH, RnL.purI inferInstance⟩, trivial⟩ rfl (RnL.cons (RnV.optr rfl) (RnL.pur hpv)) (by simpa using hM)
  (fun x _ => RnV.purI inferInstance) (fun x _ => by simp [eA]) (fun x _ => ⟨⟨0, _, rfl, rfl, RnL.purI inferInstance⟩, trivial⟩) hN kk
theorem tF (bs : List UInt8) (p : Nat) (xs : List Int) (lo hi : Int) (h0 : 0 < xs.length) (h : xs.all (fun x => decide (lo ≤ x) && decide (x ≤ hi)) = true) : lo ≤ gP bs p xs ∧ gP bs p xs ≤ hi := by
 have h1 := eU bs p (xs.length : Int)
 rw [kC] at h
 have := h (cV bs p (xs.length : Int)).toNat (by omega)
 simp only [Bool.and_eq_true, decide_eq_true_eq] at this
 exact this
theorem BL (bs : List UInt8) (p : Nat) (hb : bs.length ≤ 2000) (hp : p ≤ 1000) : MC Tryz.prog 74 [.optr 0 0] [(0, some (e5 bs p))] 1 (fun x : Prg × Nat => bQ x.1.body ≤ 620 ∧ x.1.types.length ≤ 620 ∧ x.2 ≤ 2000) (fun x => dD x.1) (fun x => [(0, some (e5 bs x.2))]) := by
 have h0 := eU bs p 25
 have hn := tF bs (p + 1 + 1) [5, 4, 7, 3, 8] 0 8 (by decide) (by decide)
 (refine cD Tryz.func74 rfl (by simp [Tryz.ntmps74]) ?_; rw [Tryz.ntmps74])
 repeat' (first|(apply aM;first|((with_reducible apply e8 (k := 70));(case ha => rfl);(case h => exact wJ);(case hp => (rfl));(case hN => rfl);(rintro _ ⟨ys, rfl, hyl, hsz⟩ _);(have hpk := eU bs p (ys.length : Int)))|((with_reducible apply e8 (k := 68));(case ha => rfl);(case h => exact lW _ (Nat.le_trans (hsz _) (by decide)));(case hp => (rfl));(case hN => rfl);(rintro _ ⟨q, b, rfl, hqc, hqt⟩ _))|((apply vO (ts := [1, 2, 2, 3, 4, 4]));(case ha0|ha1|ha2|ha3|hH0 => rfl);(case hmc => (apply GQ <;> (first|assumption|omega)));(case hM|hN => rfl))|(apply aE;rfl;rfl)|(first|(apply aL;rfl;rfl;rfl;rfl)|(apply aY;rfl;rfl;(exact (rfl:_=[_, _]));rfl;rfl;rfl))|(apply aD;rfl;rfl;rfl)|(first|(apply a6;rfl;rfl;rfl;(assumption))|(apply bD;rfl;rfl;rfl;(assumption))|(apply bO;(case hj|hb|hN => rfl);all_goals (intro hg;have hq := hg;(try simp only [cF] at hq);(try (exfalso;omega)))))|(apply aR;rfl;rfl;rfl;rfl)|(apply aC;rfl;rfl)|(first|(apply bR;rfl;(assumption);rfl;rfl)|(apply bF;rfl;(assumption);rfl;rfl))|(apply dA;(case hx|hi => rfl);(case hm => (omega));(case hml => (rfl));(case hα | hf|hg => infer_instance);(case hN => rfl))|(first|(apply iB;rfl;rfl;(rfl);(apply kD <;> (first|assumption|omega));rfl;rfl)|(apply mX;rfl;rfl;rfl;rfl;infer_instance;rfl;(rfl);assumption;omega;(decide);(decide);rfl;rfl))|(apply a8;rfl;rfl;rfl)|(apply aF;kernel_rfl)|(apply bV;rfl;(exact (rfl:_=some [_, _]));(exact (rfl:_=[_, _]));rfl)|(apply bE;rfl;rfl)|(apply cB;rfl;rfl;rfl)|((apply bS (t := _));(case hze|hsm|hl => rfl);(case hfl => (exact (rfl:_=some [_, _, _, _, _, _])));(case hM|hN => rfl))|(apply cG;rfl;rfl;rfl;(exact (rfl:_=some [_, _, _, _, _]));rfl;rfl)|(apply aW;rfl;rfl;rfl;rfl;rfl;(case hl => (first|decide|(simp;done)));(exact (rfl:_=[_, _]))))|(apply aN;first|apply aI|apply aB|(apply b8;kernel_rfl)|(apply bZ;rfl;(rfl))|(apply aO;rfl;all_goals intro hc;have hq:=hc;(try simp only [cF] at hq);try exfalso;omega)|apply aS|apply aQ)|with_reducible apply aA|with_reducible apply bK)
 ·have h9 := hsz (cV bs p (ys.length : Int)).toNat
  refine aP rfl ?_
  exact bY (q, p + 1 + 1) ⟨by dsimp only;omega, by dsimp only;omega, by dsimp only;omega⟩ rfl ⟨.inr rfl, trivial⟩
 ·have h9 := HM bs (d := 2) (by omega) (gP bs (p + 1 + 1) [5, 4, 7, 3, 8]) (p + 1 + 1 + 1)
  have h10 := xJ bs (d := 2) (by omega) (gP bs (p + 1 + 1) [5, 4, 7, 3, 8]) (p + 1 + 1 + 1)
  refine aP rfl ?_
  exact bY ((⟨[1, 2, 2, 3, 4, 4], (eV bs 2 (gP bs (p + 1 + 1) [5, 4, 7, 3, 8]) (p + 1 + 1 + 1)).1⟩ : Prg), (eV bs 2 (gP bs (p + 1 + 1) [5, 4, 7, 3, 8]) (p + 1 + 1 + 1)).2) ⟨by dsimp only;omega, by show 6 ≤ 620;decide, by dsimp only;omega⟩ rfl ⟨.inr rfl, trivial⟩
 ·have h9 := hsz (cV bs p (ys.length : Int)).toNat
  refine aP rfl ?_
  exact bY (q, p + 1 + 1) ⟨by dsimp only;omega, by dsimp only;omega, by dsimp only;omega⟩ rfl ⟨.inr rfl, trivial⟩
theorem k5 {bs : List UInt8} {N : Nat} {Q : Exit → AS → Prop} {all : Array Oper} {rest : List Oper} {tsl : List (Nat × AV)} {hsl : List (Nat × Option (List AV))} {nidl : Nat} {z0 : Lo} {md : Md} {d : Nat} {ty : TypeId} {pos : String} {af : Array Edge} {tys : Array TypeId} {x0 : Operand} (ha0 : ev (lk tsl) x0 = some (sl cU bs)) (hmc : MC Tryz.prog 46 [sl cU bs] [] 0 (fun _ : Unit => True) (fun _ => .optr 0 0) (fun _ => [(0, some (e5 (bs.take 2000) 0))])) (hM : Nat.ble (nidl + 1) fG = true) (hN : Nat.blt d N = true) {md' : Md} [hmd : MdA md (hG [x0] ++ []) (List.map Sum.inr (List.map Prod.fst ([(nidl, some (e5 (bs.take 2000) 0))] : List (Nat × Option (List AV)))) ++ [.inl d]) md'] (kk : RW Tryz.prog N all Q md' rest ⟨(d, .optr nidl 0) :: tsl, jF hsl [(nidl, some (e5 (bs.take 2000) 0))], nidl + 1, z0⟩) : RW Tryz.prog N all Q md (⟨some d, .call ⟨.value (.func 46), #[x0], tys⟩, ty, pos, af, none⟩ :: rest) ⟨tsl, hsl, nidl, z0⟩ := by
 refine cM [] 1 [(nidl, some (e5 (bs.take 2000) 0))] hmc (avs := [sl cU bs]) ?_ rfl ?_ rfl ?_ (by simpa using hM) ?_ ?_ ?_ hN (md' := md') (hmd := hmd) kk
 ·show evL (lk tsl) [x0] = _
  simp only [evL, ha0]
 ·exact trivial
 ·(repeat' (exact RnL.purI inferInstance))
 ·(repeat' (exact RnV.optr rfl))
 ·simp [eA]
 ·(repeat' (first|exact trivial|(refine And.intro ⟨0, _, rfl, rfl, ?_⟩ ?_)|exact RnL.purI inferInstance))
theorem mV (bs : List UInt8) (hb : bs.length ≤ 1048576) : MC Tryz.prog 46 [sl cU bs] [] 0 (fun _ : Unit => True) (fun _ => .optr 0 0) (fun _ => [(0, some (e5 (bs.take 2000) 0))]) := Kb bs hb
theorem zX (p : Prg) (L : List Iss) (hl : p.types.length ≤ 1000000) (hs : bQ p.body ≤ 1000000) (hC : PC Tryz.prog 31 [dD p] (fun r => r = sl qK L)) : PC Tryz.prog 19 [dD p] (fun r => r = bv (cQ p && L.isEmpty)) := by
 (refine aU Tryz.func19 rfl (by simp [Tryz.ntmps19]) ?_; rw [Tryz.ntmps19])
 repeat' (first|(apply aM;first|((with_reducible apply aJ (k := 31));(case ha => rfl);(case h => exact hC);(case hp => (exact Pur.pf));(case hN => rfl))|(apply aE;rfl;rfl)|(apply aY;rfl;rfl;(exact (rfl:_=[_, _]));rfl;rfl;rfl)|(first|(apply a6;rfl;rfl;rfl;(assumption))|(apply bD;rfl;rfl;rfl;(assumption))|(apply bO;(case hj|hb|hN => rfl);all_goals (intro hg;have hq := hg;(try simp only [cF] at hq);(try (exfalso;omega)))))|(apply aR;rfl;rfl;rfl;rfl)|(apply aC;rfl;rfl)|(first|(apply bR;rfl;(assumption);rfl;rfl)|(apply bF;rfl;(assumption);rfl;rfl))|((with_reducible apply aJ (k := 49));(case ha => rfl);(case h => (apply kO <;> (first|assumption|omega)));(case hp => (exact Pur.pf));(case hN => rfl))|(apply a8;rfl;rfl;rfl)|(apply aF;kernel_rfl)|(apply b0;rfl;rfl;rfl;rfl))|(apply aN;first|apply aI|apply aB|apply aQ)|with_reducible apply aA)
 all_goals refine aP rfl ⟨?_, rfl⟩
 all_goals simp only [b9]
 ·rw [show cQ p = true by assumption]
  cases L with
  | nil => rfl
  | cons a b => simp;omega
 ·rw [show cQ p = false by assumption]; rfl
theorem yT (L : List Int) (hl : L.length ≤ 1000000) : PC Tryz.prog 20 [sl cI L, sl cI L] (fun r => r = bv true) := by
 (refine aU Tryz.func20 rfl (by simp [Tryz.ntmps20]) ?_; rw [Tryz.ntmps20])
 repeat' (first|(apply aM;first|(apply aE;rfl;rfl)|(apply aR;rfl;rfl;rfl;rfl)|(apply aC;rfl;rfl)|(apply a8;rfl;rfl;rfl)|(apply aF;kernel_rfl))|(apply aN;first|apply aI|apply aB|(apply aO;rfl;all_goals intro hc;have hq:=hc;(try simp only [cF] at hq);try exfalso;omega)|apply aK|apply aS|apply aQ)|with_reducible apply aA|with_reducible apply bK)
 ·exact (hq trivial).elim
 refine bC (σ := Nat) [0, 1] [(0, _), (1, _)] [] [] (fun k => [(5, iv (k : Int))]) (fun k => []) (fun k => k ≤ L.length) (fun k => L.length - k) (0) (by omega) rfl rfl (by repeat' (first|exact trivial|refine And.intro rfl ?_)) (by repeat' (exact trivial)) ?_
 rintro k hk
 repeat' (first|(apply aM;first|(apply aE;rfl;rfl)|(apply aL;rfl;rfl;rfl;rfl)|(first|(apply bU;rfl;rfl;omega;rfl)|(apply aR;rfl;rfl;rfl;rfl))|(apply aC;rfl;rfl)|(apply a7;(case hx|hi => rfl);(case hm => (omega));(case hml => (rfl));(case hα | hf|hg => infer_instance);(case hN => rfl))|(apply a8;rfl;rfl;rfl)|(apply aF;kernel_rfl))|(apply aN;first|apply aI|apply aB|(apply b8;kernel_rfl)|(apply aO;rfl;all_goals intro hc;have hq:=hc;(try simp only [cF] at hq);try exfalso;omega)|apply aK|apply aS|apply bI|apply aQ)|with_reducible apply aA|with_reducible apply bK|with_reducible apply bJ|with_reducible apply aX|with_reducible apply cT|with_reducible apply bH)
 ·exfalso
  simp at hq
 ·(apply dW (k + 1); focus (refine Le.ren [] rfl (by decide) ?_ ?_ <;> repeat' (first | exact trivial | refine And.intro ⟨_, rfl, ?_⟩ ?_ | refine Or.inl ⟨?_, (by first | rfl | exact aZ _ _)⟩ | rfl)))
  ·omega
  ·omega
 ·exact aP rfl ⟨rfl, rfl⟩
theorem GC (xs : List Int) (hl : xs.length ≤ 1000000) : PC Tryz.prog 103 [sl cI xs] (fun r => r = sl cI xs) := by
 (refine aU Tryz.func103 rfl (by simp [Tryz.ntmps103]) ?_; rw [Tryz.ntmps103])
 repeat' (first|(apply aM;first|(apply tS;rfl;rfl;(intro b hb))|(apply aE;rfl;rfl)|(apply aC;rfl;rfl)|(apply cH;rfl;rfl;rfl;rfl;rfl;(case hl => (simp [aT]; done));(exact sC (by (rfl)));omega;omega;(exact mH (by (omega)));rfl;rfl)|(apply aF;kernel_rfl)|(apply cG;rfl;rfl;rfl;(rfl);rfl;rfl))|(apply aN;first|apply aI|apply aB|(apply aO;rfl;all_goals intro hc;have hq:=hc;(try simp only [cF] at hq);try exfalso;omega)|apply aS|apply aQ)|with_reducible apply aA|with_reducible apply bK)
 ·have h0 : xs = [] := List.eq_nil_of_length_eq_zero (hb (by assumption))
  subst h0
  (refine cE (Le.nilImm (d := 2) rfl) ?_; refine aP rfl ?_)
  exact ⟨rfl, rfl⟩
 ·(refine cE (Le.frzD (d := 2) (i := 1) rfl rfl) ?_; refine aP rfl ?_)
  refine ⟨?_, (by (exact aZ _ _))⟩
  simp only [b9, sl, Nat.zero_add]
theorem Fe (mm : Nat) (hmm : mm ≤ 1000000) (own_ih : ∀ l, bQ l < mm → PC Tryz.prog 71 [sl aV l] (fun r => r = sl aV l)) (l : List AL.Stmt) (hs : bQ l ≤ mm) : PC Tryz.prog 71 [sl aV l] (fun r => r = sl aV l) := by
 have hlen := dI l
 (refine aU Tryz.func71 rfl (by simp [Tryz.ntmps71]) ?_; rw [Tryz.ntmps71])
 repeat' (first|(apply aM;first|((apply fX (d := 3) (e := 6));(case hM|hN => rfl))|(apply aE;rfl;rfl)|(apply aC;rfl;rfl)|(apply a8;rfl;rfl;rfl)|(apply aF;kernel_rfl))|(apply aN;first|apply aI|apply aB|apply aK)|with_reducible apply aA)
 refine bC (σ := Nat × List AL.Stmt) [6, 7] [(6, _), (7, _)] [] [] (fun k => [(8, iv (k.1 : Int)), (3, .own 0 0 k.1 6)]) (fun k => [(0, some (aH aV k.2))]) (fun k => k.1 ≤ l.length ∧ k.2 = l.take k.1) (fun k => l.length - k.1) (0, []) ⟨by omega, rfl⟩ rfl rfl (by repeat' (first|exact trivial|refine And.intro rfl ?_)) (by repeat' (first|exact trivial|refine And.intro (.inr rfl) ?_)) ?_
 rintro ⟨k, xs⟩ ⟨hk, hxs⟩
 dsimp only at hk hxs ⊢
 have hck := eS l k
 have hct := gB l[k]!
 have hln : xs.length = k := by rw [hxs, List.length_take]; omega
 repeat' (first|(apply aM;first|(apply aE;rfl;rfl)|(first|(apply aL;rfl;rfl;rfl;rfl)|(apply aY;rfl;rfl;(exact (rfl:_=[_, _, _, _, _, _]));rfl;rfl;rfl))|(apply aD;rfl;rfl;rfl)|(first|(apply bU;rfl;rfl;omega;rfl)|(apply aR;rfl;rfl;rfl;rfl))|(apply aC;rfl;rfl)|(apply a7;(case hx|hi => rfl);(case hm => (omega));(case hml => (rfl));(case hα | hf|hg => infer_instance);(case hN => rfl))|((with_reducible apply aJ (k := 71));(case ha => rfl);(case h => (apply own_ih <;> (omega)));(case hp => (exact Pur.pf));(case hN => rfl))|(apply cH;rfl;rfl;rfl;rfl;rfl;(rw [aT]; omega);(rfl);omega;omega;(exact gV (by (omega)));rfl;rfl)|(apply aF;kernel_rfl)|(apply bE;rfl;rfl)|((apply bS (t := _));(case hze|hsm|hl => rfl);(case hfl => (exact (rfl:_=some [_, _, _, _, _, _])));(case hM|hN => rfl))|(apply aW;rfl;rfl;rfl;rfl;rfl;(case hl => (simp;done));(exact (rfl:_=[_, _, _, _, _, _]))))|(apply aN;first|apply aI|apply aB|(apply b8;kernel_rfl)|(apply aO;rfl;all_goals intro hc;have hq:=hc;(try simp only [cF] at hq);try exfalso;omega)|apply aK|apply aS|apply bI|apply aQ)|with_reducible apply aA|with_reducible apply bJ|with_reducible apply aX|with_reducible apply bH)
 ·(apply dW (k + 1, _); focus (refine Le.ren [(0, 3)] rfl (by decide) ?_ ?_ <;> repeat' (first | exact trivial | refine And.intro ⟨_, rfl, ?_⟩ ?_ | refine And.intro ⟨_, _, rfl, rfl, ?_⟩ ?_ | exact Or.inr rfl | refine Or.inl ⟨?_, (by first | rfl | exact aZ _ _)⟩ | rfl)))
  ·exact ⟨by dsimp only;omega, by dsimp only;rw [hxs, cY l k (by omega)]⟩
  ·dsimp only;omega
 ·have hke : k = l.length := by omega
  (refine cE (Le.frzD (d := 2) (i := 0) rfl rfl) ?_; refine aP rfl ?_)
  refine ⟨?_, Pur.pf⟩
  rw [hxs, hke, List.take_length]; rfl
theorem Jf (l : List AL.Stmt) (hb : bQ l ≤ 1000000) : PC Tryz.prog 71 [sl aV l] (fun r => r = sl aV l) := by
 have key : ∀ m, m ≤ 1000000 → ∀ l, bQ l ≤ m → PC Tryz.prog 71 [sl aV l] (fun r => r = sl aV l) := by
  intro m
  induction m with
  | zero => intro hm l hl;exact Fe 0 hm (fun l h => by omega) l hl
  | succ m ih => intro hm l hl;exact Fe (m + 1) hm (fun l h => ih (by omega) l (by omega)) l hl
 exact key (bQ l) hb l (Nat.le_refl _)
theorem F4 (l : List AL.Stmt) (hs : bQ l ≤ 1000000) : MC Tryz.prog 71 [sl aV l] [] 0 (fun _ : Unit => True) (fun _ => .own 0 0 l.length 6) (fun _ => [(0, some (aH aV l))]) := by
 have hlen := dI l
 (refine cD Tryz.func71 rfl (by simp [Tryz.ntmps71]) ?_; rw [Tryz.ntmps71])
 repeat' (first|(apply aM;first|((apply fX (d := 3) (e := 6));(case hM|hN => rfl))|(apply aE;rfl;rfl)|(apply aC;rfl;rfl)|(apply a8;rfl;rfl;rfl)|(apply aF;kernel_rfl))|(apply aN;first|apply aI|apply aB|apply aK)|with_reducible apply aA)
 refine bC (σ := Nat × List AL.Stmt) [6, 7] [(6, _), (7, _)] [] [] (fun k => [(8, iv (k.1 : Int)), (3, .own 0 0 k.1 6)]) (fun k => [(0, some (aH aV k.2))]) (fun k => k.1 ≤ l.length ∧ k.2 = l.take k.1) (fun k => l.length - k.1) (0, []) ⟨by omega, rfl⟩ rfl rfl (by repeat' (first|exact trivial|refine And.intro rfl ?_)) (by repeat' (first|exact trivial|refine And.intro (.inr rfl) ?_)) ?_
 rintro ⟨k, xs⟩ ⟨hk, hxs⟩
 dsimp only at hk hxs ⊢
 have hck := eS l k
 have hct := gB l[k]!
 have hln : xs.length = k := by rw [hxs, List.length_take]; omega
 have o1 := Jf l[k]!.th
 have o2 := Jf l[k]!.el
 repeat' (first|(apply aM;first|((with_reducible apply aJ (k := 71));(case ha => rfl);(case h => exact (o1 (by omega)));(case hp => (exact Pur.pf));(case hN => rfl))|((with_reducible apply aJ (k := 71));(case ha => rfl);(case h => exact (o2 (by omega)));(case hp => (exact Pur.pf));(case hN => rfl))|(apply aE;rfl;rfl)|(first|(apply aL;rfl;rfl;rfl;rfl)|(apply aY;rfl;rfl;(exact (rfl:_=[_, _, _, _, _, _]));rfl;rfl;rfl))|(apply aD;rfl;rfl;rfl)|(first|(apply bU;rfl;rfl;omega;rfl)|(apply aR;rfl;rfl;rfl;rfl))|(apply aC;rfl;rfl)|(apply a7;(case hx|hi => rfl);(case hm => (omega));(case hml => (rfl));(case hα | hf|hg => infer_instance);(case hN => rfl))|(apply cH;rfl;rfl;rfl;rfl;rfl;(rw [aT]; omega);(rfl);omega;omega;(exact gV (by (omega)));rfl;rfl)|(apply aF;kernel_rfl)|(apply bE;rfl;rfl)|((apply bS (t := _));(case hze|hsm|hl => rfl);(case hfl => (exact (rfl:_=some [_, _, _, _, _, _])));(case hM|hN => rfl))|(apply aW;rfl;rfl;rfl;rfl;rfl;(case hl => (simp;done));(exact (rfl:_=[_, _, _, _, _, _]))))|(apply aN;first|apply aI|apply aB|(apply b8;kernel_rfl)|(apply aO;rfl;all_goals intro hc;have hq:=hc;(try simp only [cF] at hq);try exfalso;omega)|apply aK|apply aS|apply bI|apply aQ)|with_reducible apply aA|with_reducible apply bJ|with_reducible apply aX|with_reducible apply bH)
 ·(apply dW (k + 1, _); focus (refine Le.ren [(0, 3)] rfl (by decide) ?_ ?_ <;> repeat' (first | exact trivial | refine And.intro ⟨_, rfl, ?_⟩ ?_ | refine And.intro ⟨_, _, rfl, rfl, ?_⟩ ?_ | exact Or.inr rfl | refine Or.inl ⟨?_, (by first | rfl | exact aZ _ _)⟩ | rfl)))
  ·exact ⟨by dsimp only;omega, by dsimp only;rw [hxs, cY l k (by omega)]⟩
  ·dsimp only;omega
 ·have hke : k = l.length := by omega
  have hxl : xs = l := by rw [hxs, hke, List.take_length]
  subst hke
  (refine aP rfl ?_; refine bY () trivial ?_ ⟨.inr (Eq.trans (b := some _) rfl ?_), trivial⟩)
  ·rfl
  ·rw [hxl]
theorem CZ {l : List AL.Stmt} {N : Nat} {Q : Exit → AS → Prop} {all : Array Oper} {rest : List Oper} {tsl : List (Nat × AV)} {hsl : List (Nat × Option (List AV))} {nidl : Nat} {z0 : Lo} {md : Md} {d : Nat} {ty : TypeId} {pos : String} {af : Array Edge} {tys : Array TypeId} {x0 : Operand} (ha0 : ev (lk tsl) x0 = some (sl aV l)) (hmc : MC Tryz.prog 71 [sl aV l] [] 0 (fun _ : Unit => True) (fun _ => .own 0 0 l.length 6) (fun _ => [(0, some (aH aV l))])) (hM : Nat.ble (nidl + 1) fG = true) (hN : Nat.blt d N = true) {md' : Md} [hmd : MdA md (hG [x0] ++ []) (List.map Sum.inr (List.map Prod.fst ([(nidl, some (aH aV l))] : List (Nat × Option (List AV)))) ++ [.inl d]) md'] (kk : RW Tryz.prog N all Q md' rest ⟨(d, .own nidl 0 l.length 6) :: tsl, jF hsl [(nidl, some (aH aV l))], nidl + 1, z0⟩) : RW Tryz.prog N all Q md (⟨some d, .call ⟨.value (.func 71), #[x0], tys⟩, ty, pos, af, none⟩ :: rest) ⟨tsl, hsl, nidl, z0⟩ := by
 refine cM [] 1 [(nidl, some (aH aV l))] hmc (avs := [sl aV l]) ?_ rfl ?_ rfl ?_ (by simpa using hM) ?_ ?_ ?_ hN (md' := md') (hmd := hmd) kk
 ·show evL (lk tsl) [x0] = _
  simp only [evL, ha0]
 ·exact trivial
 ·(repeat' (exact RnL.purI inferInstance))
 ·(repeat' (exact RnV.own rfl))
 ·simp [eA]
 ·(repeat' (first|exact trivial|(refine And.intro ⟨0, _, rfl, rfl, ?_⟩ ?_)|exact RnL.purI inferInstance))
theorem Ii {q : Prg} {N : Nat} {Q : Exit → AS → Prop} {all : Array Oper} {rest : List Oper} {tsl : List (Nat × AV)} {hsl : List (Nat × Option (List AV))} {nidl : Nat} {z0 : Lo} {md : Md} {d : Nat} {ty : TypeId} {pos : String} {af : Array Edge} {tys : Array TypeId} {x0 : Operand} (ha0 : ev (lk tsl) x0 = some (dD q)) (hmc : MC Tryz.prog 55 [dD q] [] 0 (fun _ : Unit => True) (fun _ => .agg [sl cI q.types, .own 2 0 q.body.length 6]) (fun _ => [(2, some (aH aV q.body))])) (hM : Nat.ble (nidl + 3) fG = true) (hN : Nat.blt d N = true) {md' : Md} [hmd : MdA md (hG [x0] ++ []) (List.map Sum.inr (List.map Prod.fst ([((nidl + 2), some (aH aV q.body))] : List (Nat × Option (List AV)))) ++ [.inl d]) md'] (kk : RW Tryz.prog N all Q md' rest ⟨(d, .agg [sl cI q.types, .own (nidl + 2) 0 q.body.length 6]) :: tsl, jF hsl [((nidl + 2), some (aH aV q.body))], nidl + 3, z0⟩) : RW Tryz.prog N all Q md (⟨some d, .call ⟨.value (.func 55), #[x0], tys⟩, ty, pos, af, none⟩ :: rest) ⟨tsl, hsl, nidl, z0⟩ := by
 refine cM [] 3 [((nidl + 2), some (aH aV q.body))] hmc (avs := [dD q]) ?_ rfl ?_ rfl ?_ (by simpa using hM) ?_ ?_ ?_ hN (md' := md') (hmd := hmd) kk
 ·show evL (lk tsl) [x0] = _
  simp only [evL, ha0]
 ·exact trivial
 ·(repeat' (exact RnL.purI inferInstance))
 ·(repeat' (first|exact RnL.purI inferInstance|exact RnV.purI inferInstance|exact RnV.own rfl|refine RnL.cons ?_ ?_|refine RnV.agg ?_))
 ·simp [eA]
 ·(repeat' (first|exact trivial|(refine And.intro ⟨2, _, rfl, rfl, ?_⟩ ?_)|exact RnL.purI inferInstance))
theorem JU (q : Prg) (hs : bQ q.body ≤ 1000000) (ht : q.types.length ≤ 1000000) : MC Tryz.prog 55 [dD q] [] 0 (fun _ : Unit => True) (fun _ => .agg [sl cI q.types, .own 2 0 q.body.length 6]) (fun _ => [(2, some (aH aV q.body))]) := by
 have h1 := GC q.types ht
 (refine cD Tryz.func55 rfl (by simp [Tryz.ntmps55]) ?_; rw [Tryz.ntmps55])
 repeat' (first|(apply aM;first|((with_reducible apply aJ (k := 103));(case ha => rfl);(case h => exact h1);(case hp => (exact Pur.pf));(case hN => rfl))|(apply CZ;rfl;(apply F4;assumption);rfl;rfl)|(apply aL;rfl;rfl;rfl;rfl)|(apply aD;rfl;rfl;rfl)|(apply aF;kernel_rfl)|(apply bV;rfl;(exact (rfl:_=some [_, _]));(exact (rfl:_=[_, _]));rfl)|(apply b0;rfl;rfl;rfl;rfl)|(apply bE;rfl;rfl)|(apply aW;rfl;rfl;rfl;rfl;rfl;(case hl => (simp;done));(exact (rfl:_=[_, _]))))|(apply aN;first|apply aI|apply aB|(apply b8;kernel_rfl)|apply aQ)|with_reducible apply aA)
 (refine aP rfl ?_; refine bY () trivial ?_ ⟨.inr (Eq.trans (b := some _) rfl ?_), trivial⟩)
 ·rfl
 ·rfl
theorem sO {stk : List Tg} {id : Int} (h : 0 ≤ dP stk id) : ∀ k < (dP stk id).toNat, stk[k]!.id ≠ id := by
 unfold dP at h ⊢
 split
 ·rename_i k hk
  obtain ⟨h1, h2, h3⟩ := List.findIdx?_eq_some_iff_getElem.1 hk
  rw [Int.toNat_natCast]
  intro j hj he
  have := h3 j hj
  rw [cK _ _ (by omega)] at he
  simp [he] at this
 ·rename_i hk;rw [hk] at h;dsimp only at h;omega
theorem C8 {stk : List Tg} {id : Int} {i : Nat} (hi : i < stk.length) (h : stk[i]!.id = id) (hn : ∀ k < i, stk[k]!.id ≠ id) : dP stk id = (i : Int) := by
 have hb := g0 stk id
 by_cases hneg : dP stk id < 0
 ·have := pR.1 hneg stk[i]! (by rw [cK _ _ hi]; exact List.getElem_mem hi)
  exact absurd h this
 ·have ha := Ds (stk := stk) (id := id) (by omega)
  have hf := sO (stk := stk) (id := id) (by omega)
  rcases Nat.lt_trichotomy (dP stk id).toNat i with h1|h1|h1
  ·exact absurd ha (hn _ h1)
  ·omega
  ·exact absurd h (hf _ h1)
theorem Dn (c : Cl) : OkC c ↔ (0 ≤ c.val ∧ c.val ≤ 9) ∧ (1 ≤ c.next ∧ c.next ≤ 1000) ∧ (1 ≤ c.stk.length ∧ c.stk.length ≤ 200) ∧ c.stk[0]!.uq = true ∧ (∀ k < c.stk.length, 0 ≤ c.stk[k]!.id ∧ c.stk[k]!.id < c.next ∧ dP c.stk c.stk[k]!.id = (k : Int)) := by
 constructor
 ·intro h
  refine ⟨h.v, h.n, h.l, h.u, fun k hk => ?_⟩
  have h1 := h.i c.stk[k]! (by rw [cK _ _ hk]; exact List.getElem_mem hk)
  refine ⟨h1.1, h1.2, C8 hk rfl (fun j hj he => ?_)⟩
  have hd := List.nodup_iff_pairwise_ne.1 h.d |> List.pairwise_iff_getElem.1
  have := hd j k (by rw [List.length_map]; omega) (by rw [List.length_map]; omega) hj
  simp only [List.getElem_map] at this
  rw [cK _ _ (by omega), cK _ _ hk] at he
  exact this he
 ·rintro ⟨h1, h2, h3, h4, h5⟩
  refine ⟨h1, h2, h3, h4, fun t ht => ?_, ?_⟩
  ·obtain ⟨k, hk, rfl⟩ := List.getElem_of_mem ht
   have := h5 k hk;rw [cK _ _ hk] at this
   exact ⟨this.1, this.2.1⟩
  ·rw [List.nodup_iff_pairwise_ne, List.pairwise_iff_getElem]
   intro i j hi hj hij he
   rw [List.length_map] at hi hj
   simp only [List.getElem_map] at he
   have a := (h5 i hi).2.2
   have b := (h5 j hj).2.2
   rw [cK _ _ hi] at a;rw [cK _ _ hj, ← he, a] at b
   omega
instance (c : Cl) : Decidable (OkC c) := decidable_of_iff _ (Dn c).symm
theorem iZ (m : List Cl) : OkM m ↔ m.length ≤ 200 ∧ ∀ k < m.length, OkC m[k]! := by
 constructor
 ·exact fun h => ⟨h.l, fun k hk => h.c _ (by rw [cK _ _ hk]; exact List.getElem_mem hk)⟩
 ·exact fun h => ⟨h.1, fun c hc => by obtain ⟨k, hk, rfl⟩ := List.getElem_of_mem hc;have := h.2 k hk;rwa [cK _ _ hk] at this⟩
instance (m : List Cl) : Decidable (OkM m) := decidable_of_iff _ (iZ m).symm
theorem rI (k : Int) : PC Tryz.prog 156 [iv k] (fun r => r = iv (lM k)) := by
 (refine aU Tryz.func156 rfl (by simp [Tryz.ntmps156]) ?_; rw [Tryz.ntmps156])
 repeat' (first|(apply aM;first|(apply aE;rfl;rfl)|(apply aR;rfl;rfl;rfl;rfl)|(apply aC;rfl;rfl)|(apply aF;kernel_rfl))|(apply aN;first|apply aI|apply aB|(apply aO;rfl;all_goals intro hc;have hq:=hc;(try simp only [cF] at hq);try exfalso;omega)|apply aS|apply aQ)|with_reducible apply aA|with_reducible apply bK|((with_reducible apply aP);case hr => rfl))
 all_goals (refine ⟨?_, rfl⟩; simp only [b9, AV.v.injEq, Value.bool.injEq, Value.int.injEq, true_and])
 all_goals grind [lM]
theorem FU {xs : List Tg} {m : Nat} {a : Int} {b : Bool} (hm : m = xs.length) : ((aH eJ xs).drop 0).take (m * 2) ++ [iv a, bv b] = aH eJ (xs ++ [⟨a, b⟩]) := gS hm rfl
theorem EE {α} {p : α → Bool} {a : α} (h : p a = true) : [a].filter p = [a] := by simp [h]
theorem vM {α} {p : α → Bool} {a : α} (h : p a = false) : [a].filter p = [] := by simp [h]
theorem Jp {m : List Cl} {x : Pt} {wr : Bool} (h : x.cell < 0 ∨ (m.length : Int) ≤ x.cell) : dB m x wr = 4 := by
 unfold dB;rw [if_pos (by omega)]
theorem JC {m : List Cl} {x : Pt} {wr : Bool} (h : 0 ≤ x.cell) (h2 : x.cell < m.length) (h3 : m[x.cell.toNat]!.alive = false) : dB m x wr = 1 := by
 unfold dB;rw [if_neg (by omega), if_pos h3]
theorem KD {m : List Cl} {x : Pt} {wr : Bool} (h : 0 ≤ x.cell) (h2 : x.cell < m.length) (h3 : m[x.cell.toNat]!.alive = true) (h4 : dP m[x.cell.toNat]!.stk x.tag < 0) : dB m x wr = 2 := by
 unfold dB;rw [if_neg (by omega), if_neg (by rw [h3]; decide), if_pos h4]
theorem Dr {m : List Cl} {x : Pt} (h : 0 ≤ x.cell) (h2 : x.cell < m.length) (h3 : m[x.cell.toNat]!.alive = true) (h4 : 0 ≤ dP m[x.cell.toNat]!.stk x.tag) : dB m x false = 0 := by
 unfold dB;rw [if_neg (by omega), if_neg (by rw [h3]; decide), if_neg (by omega), if_neg (by intro q;exact absurd q.1 (by decide))]
theorem Iu {m : List Cl} {x : Pt} : dB m x true = if dB m x false = 0 then (if m[x.cell.toNat]!.stk[(dP m[x.cell.toNat]!.stk x.tag).toNat]!.uq = false then 3 else 0) else dB m x false := by
 unfold dB
 split
 ·rw [if_neg (by decide)]
 ·split
  ·rw [if_neg (by decide)]
  ·split
   ·rw [if_neg (by decide)]
   ·rw [if_neg (c := false = true ∧ _) (by intro q; exact absurd q.1 (by decide)), if_pos rfl]
    simp only [true_and]
theorem iV {m : List Cl} {x : Pt} {wr : Bool} (h : dB m x wr = 0) : 0 ≤ x.cell ∧ x.cell < m.length ∧ m[x.cell.toNat]!.alive = true ∧ 0 ≤ dP m[x.cell.toNat]!.stk x.tag ∧ (wr = true → m[x.cell.toNat]!.stk[(dP m[x.cell.toNat]!.stk x.tag).toNat]!.uq = true) := by
 unfold dB at h
 split at h
 ·omega
 ·split at h
  ·omega
  ·split at h
   ·omega
   ·split at h
    ·omega
    ·rename_i a b c d
     refine ⟨by omega, by omega, by simpa using b, by omega, fun hw => ?_⟩
     by_cases q : m[x.cell.toNat]!.stk[(dP m[x.cell.toNat]!.stk x.tag).toNat]!.uq = false
     ·exact absurd ⟨hw, q⟩ d
     ·simpa using q
theorem Jy {xs : List Cl} {k : Nat} {s : List Tg} (hk : k < xs.length) : iJ (aH eG xs) (0 + k * 4 + 3) [sl eJ s] = aH eG (xs.set k { xs[k]! with stk := s }) := fH hk (by simp) rfl
theorem nN {α : Type} {f : α → List AV} {xs : List α} {n : Nat} (h : n = xs.length) : AV.imm n (aH f xs) = sl f xs := by subst h; rfl
theorem y4 {m : List Cl} {x : Pt} {wr : Bool} : (gQ m x wr).length = m.length := by
 unfold gQ;split
 ·rw [List.length_set]
 ·rfl
theorem set_set {α : Type} {l : List α} {i : Nat} {a b : α} : (l.set i a).set i b = l.set i b := by simp
theorem qV {α : Type} [Inhabited α] {l : List α} {i : Nat} {a : α} (h : i < l.length) : (l.set i a)[i]! = a := by rw [cK _ _ (by rw [List.length_set]; exact h), List.getElem_set_self]
def tA (m : List Cl) (j : Nat) (r : List Tg) : Prop := r.length = 200 ∨ m[j]!.next = 1000
instance (m : List Cl) (j : Nat) (r : List Tg) : Decidable (tA m j r) := by unfold tA; infer_instance
def oT (m b : List Cl) (j : Nat) (u : Bool) (r : List Tg) : List Cl := if tA m j r then b else m.set j (psh { m[j]! with stk := r } u)
def qI (m : List Cl) (j : Nat) (r : List Tg) : Pt := if tA m j r then ⟨0, 0⟩ else ⟨j, m[j]!.next⟩
def oZ (m : List Cl) (j : Nat) (r : List Tg) : Int := if tA m j r then 4 else 0
theorem m8 {m : List Cl} {x : Pt} {u : Bool} {r : List Tg} (hk : dB m x u = 0) (hr : r = gW m[x.cell.toNat]!.stk (dP m[x.cell.toNat]!.stk x.tag).toNat u) : uP m x u = oZ m x.cell.toNat r ∧ o7 m x u = oT m m x.cell.toNat u r ∧ CL m x u = qI m x.cell.toNat r := by
 obtain ⟨h1, h2, _⟩ := iV hk
 subst hr
 have e : uP m x u = oZ m x.cell.toNat (gW m[x.cell.toNat]!.stk (dP m[x.cell.toNat]!.stk x.tag).toNat u) := by
  unfold uP;rw [if_pos hk]; rfl
 refine ⟨e, ?_, ?_⟩
 ·unfold o7 oT
  rw [e]; unfold oZ
  split
  ·rw [if_neg (by decide)]
  ·rw [if_pos rfl]; rfl
 ·unfold CL qI
  rw [e]; unfold oZ
  split
  ·rw [if_neg (by decide)]
  ·rw [if_pos rfl, Int.toNat_of_nonneg h1]
theorem Lh {m : List Cl} {x : Pt} {u : Bool} (hk : dB m x u ≠ 0) : uP m x u = dB m x u ∧ o7 m x u = m ∧ CL m x u = ⟨0, 0⟩ := by
 have e : uP m x u = dB m x u := by unfold uP;rw [if_neg hk]
 exact ⟨e, by unfold o7;rw [if_neg (by rw [e]; exact hk)], by unfold CL;rw [if_neg (by rw [e]; exact hk)]⟩
theorem Cq {xs : List Sl} {k : Nat} {a : Bool} {b c d : Int} (hk : k < xs.length) : iJ (aH fD xs) (0 + k * 4) [bv a, iv b, iv c, iv d] = aH fD (xs.set k ⟨a, b, ⟨c, d⟩⟩) := lY hk rfl
theorem Fg {ts : List Int} {n v : Nat} {q : Mc} (h : ¬ (ts[v]! = 2 ∧ q.slots[v]!.set = true)) : eI ts (n + 1) v q = eI ts n (v + 1) q := by
 rw [eI, if_neg h]
theorem JR {ts : List Int} {n v : Nat} {q : Mc} (h : ts[v]! = 2 ∧ q.slots[v]!.set = true) (hk : dB q.cells q.slots[v]!.ptr true = 0) : eI ts (n + 1) v q = eI ts n (v + 1) ⟨q.slots.set v jX, jW q.cells q.slots[v]!.ptr, q.read⟩ := by
 rw [eI, if_pos h, if_pos hk]
theorem JS {ts : List Int} {n v : Nat} {q : Mc} (h : ts[v]! = 2 ∧ q.slots[v]!.set = true) (hk : ¬ dB q.cells q.slots[v]!.ptr true = 0) : eI ts (n + 1) v q = (⟨q.slots, jW q.cells q.slots[v]!.ptr, q.read⟩, lM (dB q.cells q.slots[v]!.ptr true)) := by
 rw [eI, if_pos h, if_neg hk]
def wm (pts : List Pnt) (n a : Nat) (cs : List Int) : List Int × Bool := ((eX pts n a cs).1.map (fun a : Nat => (a : Int)), (eX pts n a cs).2)
theorem K4 {pts : List Pnt} {n a : Nat} {cs : List Int} (h : pts[a]!.op = 11) : wm pts n a cs = ([(a : Int)], true) := by
 have e : eX pts n a cs = ([a], true) := by cases n <;> (unfold eX;rw [if_pos h])
 unfold wm;rw [e]; rfl
theorem J0 {pts : List Pnt} {a : Nat} {cs : List Int} (h : ¬ pts[a]!.op = 11) : wm pts 0 a cs = ([], false) := by
 have e : eX pts 0 a cs = ([], false) := by unfold eX;rw [if_neg h]
 unfold wm;rw [e]; rfl
theorem Lq {pts : List Pnt} {n a : Nat} {cs : List Int} (h : ¬ pts[a]!.op = 11) : wm pts (n + 1) a cs = ((a : Int) :: (wm pts n (fP pts a cs).1 (fP pts a cs).2).1, (wm pts n (fP pts a cs).1 (fP pts a cs).2).2) := by
 unfold wm;rw [eX, if_neg h]; rfl
theorem Ll {pts : List Pnt} {a : Nat} {cs : List Int} (h : ¬ pts[a]!.next.length = 2) : fP pts a cs = ((pts[a]!.next[0]!).toNat, cs) := by
 unfold fP;rw [if_neg h]
theorem IN {pts : List Pnt} {n a : Nat} {out cs cs2 : List Int} {b : Nat} {q : List Int × Bool} (h : ¬ pts[a]!.op = 11) (ho : out.length < n) (hs : fP pts a cs = (b, cs2)) (hq : q = (out ++ (wm pts (n - out.length) a cs).1, (wm pts (n - out.length) a cs).2)) :
  q = ((out ++ [(a : Int)]) ++ (wm pts (n - (out ++ [(a : Int)]).length) b cs2).1, (wm pts (n - (out ++ [(a : Int)]).length) b cs2).2) := by
 rw [hq, show n - out.length = (n - (out.length + 1)) + 1 by omega, Lq h, hs, List.length_append, List.append_assoc]
 rfl
theorem kR {ts : List Int} {s : Mc} {v : Nat} {y : Sl} : (dY ts s v y).1.read = s.read := by unfold dY; split <;> rfl
theorem Fb {ts : List Int} {s : Mc} {x : Pnt} (h : x.op ≠ 11) : (dR ts s x).1.read.length ≤ s.read.length + 1 := by
 unfold dR
 split
 ·rw [kR]; omega
 split
 ·split
  ·dsimp only;omega
  ·rw [kR]; dsimp only;omega
 split
 ·rw [kR]; split <;> (first|omega|(dsimp only;omega))
 split
 ·split
  ·rw [kR]; dsimp only;omega
  ·dsimp only;omega
 split
 ·split
  ·rw [kR]; dsimp only;rw [List.length_append]; simp only [List.length_singleton]; omega
  ·dsimp only;omega
 split
 ·dsimp only;omega
 split
 ·dsimp only;omega
 dsimp only;omega
theorem Ba {ts : List Int} {pts : List Pnt} (w : WG ts pts) (A : WA ts pts) : ∀ n a cs, a < pts.length → ∀ x ∈ (eX pts n a cs).1, x < pts.length
 | 0, a, cs, ha, x, hx => by
  unfold eX at hx
  by_cases e : pts[a]!.op = 11
  ·rw [if_pos e] at hx;rw [List.mem_singleton.1 hx]; exact ha
  ·rw [if_neg e] at hx;exact absurd hx (by simp)
 | n + 1, a, cs, ha, x, hx => by
  rw [eX] at hx
  by_cases e : pts[a]!.op = 11
  ·rw [if_pos e] at hx;rw [List.mem_singleton.1 hx]; exact ha
  ·rw [if_neg e] at hx
   rcases List.mem_cons.1 hx with h|h
   ·rw [h]; exact ha
   ·have he := A3 w A ha e cs
    have := w.nx a ha _ he.2
    exact Ba w A n _ _ (by omega) x h
theorem xF {pts : List Pnt} : ∀ n a cs, (eX pts n a cs).1.length ≤ n + 1
 | 0, a, cs => by unfold eX;split <;> simp
 | n + 1, a, cs => by
  rw [eX]; split
  ·simp
  ·have := xF (pts := pts) n (fP pts a cs).1 (fP pts a cs).2
   dsimp only;rw [List.length_cons]; omega
def Ki (p : Prg) (most : Int) : Bool := cQ p && (decide (0 ≤ most) && decide (most ≤ 150))
theorem Ke {p : Prg} {cs : List Int} {n : Nat} (hv : cQ p = true) : OkS p.types.length (runP p.types (c9 p) cs n).1 := by
 have wa := WA.of_valid hv
 have hp : ∀ a : Nat, PtN (c9 p)[a]! := fun a => by
  by_cases h : a < (c9 p).length
  ·exact ⟨fun e => (wa.a a h).n (.inr e)⟩
  ·refine ⟨fun e => ?_⟩
   rw [E2, dif_neg h] at e
   exact absurd e (by decide)
 exact OkS.run hp _ _ _ (OkS.mc0 _)
theorem zC {ts : List Int} {s : Mc} {x : Pnt} : (dR ts s x).1.read.length ≤ s.read.length + 1 := by
 by_cases h : x.op = 11
 ·rw [v7 h, mI]; omega
 ·exact Fb h
theorem wG (ts : List Int) (pts : List Pnt) : ∀ (l : List Nat) (s : Mc) (last : Nat), (gK ts pts l s last).1.read.length ≤ s.read.length + l.length
 | [], s, last => by unfold gK;simp
 | a :: l, s, last => by
  have h := zC (ts := ts) (s := s) (x := pts[a]!)
  unfold gK;split
  ·dsimp only;omega
  ·split
   ·have := wG ts pts l (dR ts s pts[a]!).1 a
    rw [List.length_cons]; omega
   ·rw [List.length_cons]; dsimp only;omega
theorem nF {ts : List Int} {pts : List Pnt} {cs : List Int} {n : Nat} (hn : n ≤ 150) : (runP ts pts cs n).1.read.length ≤ 151 := by
 have h := wG ts pts (eX pts n 0 cs).1 (mc0 ts.length) 0
 have h2 := xF (pts := pts) n 0 cs
 have h3 : (mc0 ts.length).read.length = 0 := rfl
 unfold runP;omega
theorem Mn : Go.Proofs.Tryz.prog.underlying 223 = some (.map 3 4) := by kernel_rfl
theorem L8 : Go.Proofs.Tryz.prog.underlying 3 = some (.int .i64) := by kernel_rfl
theorem Lk : (Go.Proofs.Tryz.prog.info? 4).bind (·.zero) = some (.bool false) := by kernel_rfl
theorem LM {a b c : Int} (h : a ≤ b ∧ b ≤ c) : (!(decide (a ≤ b) && decide (b ≤ c))) = false := by simp [h.1, h.2]
theorem iD (m : List Cl) (hm : OkM m) : PC Tryz.prog 187 [sl eG m] (fun r => r = bv true) := by
 have hml := hm.l
 (refine aU Tryz.func187 rfl (by simp [Tryz.ntmps187]) ?_; rw [Tryz.ntmps187])
 repeat' (first|(apply aM;first|(apply aE;rfl;rfl)|(apply aR;rfl;rfl;rfl;rfl)|(apply aC;rfl;rfl)|(apply a8;rfl;rfl;rfl)|(apply aF;kernel_rfl))|(apply aN;first|apply aI|apply aB|(apply aO;rfl;all_goals intro hc;have hq:=hc;(try simp only [cF] at hq);try exfalso;omega)|apply aK|apply aS)|with_reducible apply aA)
 all_goals (try (exfalso;omega))
 refine bC (σ := Nat) [11, 12] [(11, _), (12, _)] [] [] (fun i => [(13, iv (i : Int))]) (fun i => []) (fun i => i ≤ m.length) (fun i => m.length - i) (0) (Nat.zero_le _) rfl rfl (by repeat' (first|exact trivial|refine And.intro rfl ?_)) (by repeat' (exact trivial)) ?_
 rintro i hi
 by_cases hin : i < m.length
 ·have hc := (iZ m).1 hm |>.2 i hin
  obtain ⟨h1, h2, h3, h4, h5⟩ := (Dn _).1 hc
  repeat' (first|(apply aM;first|(apply aE;rfl;rfl)|(first|(apply aL;rfl;rfl;rfl;rfl)|(apply aY;rfl;rfl;(exact (rfl:_=[_, _, _, _]));rfl;rfl;rfl))|(apply aD;rfl;rfl;rfl)|(first|(apply a6;rfl;rfl;rfl;(assumption))|(apply bO;(case hj|hb|hN => rfl);all_goals (intro hg;have hq := hg;(try simp only [cF] at hq);(try (exfalso;omega)))))|(apply aR;rfl;rfl;rfl;rfl)|(apply aC;rfl;rfl)|(apply bF;rfl;(assumption);rfl;rfl)|(first|(apply a7;(case hx|hi => rfl);(case hm => (assumption));(case hml => (rfl));(case hα | hf|hg => infer_instance);(case hN => rfl))|(apply dA;(case hx|hi => rfl);(case hm => (omega));(case hml => (rfl));(case hα | hf|hg => infer_instance);(case hN => rfl)))|((with_reducible apply aJ (k := 50));(case ha => rfl);(case h => (apply eD <;> (fail)));(case hp => (rfl));(case hN => rfl))|(apply a8;rfl;rfl;rfl)|(apply aF;kernel_rfl)|(apply cC;rfl;rfl)|(apply bE;rfl;rfl)|(apply aW;rfl;rfl;rfl;rfl;rfl;(case hl => (simp;done));(exact (rfl:_=[_, _, _, _]))))|(apply aN;first|with_reducible apply Ga|apply aI|apply aB|(apply aO;rfl;all_goals intro hc;have hq:=hc;(try simp only [cF] at hq);try exfalso;omega)|apply aK|apply aS|apply aQ)|with_reducible apply aA|with_reducible apply bK|with_reducible apply cT)
  ·exfalso
   have hu : m[i]!.stk[Int.toNat 0]!.uq = false := by assumption
   rw [show Int.toNat 0 = 0 from rfl, h4] at hu;exact absurd hu (by decide)
  ·refine JV (FC rfl (fun r => ?_))
   refine AX ?_
   repeat' (apply aM;first|(apply aC;rfl;rfl)|(apply aF;kernel_rfl))
   refine ⟨rfl, rfl, ?_⟩
   refine lA (oJ ?_)
   repeat' (first|(apply aM;first|(apply aE;rfl;rfl)|(apply aL;rfl;rfl;rfl;rfl)|(apply aD;rfl;rfl;rfl)|(apply a8;rfl;rfl;rfl)|(apply aF;kernel_rfl))|(apply aN;(apply aB)))
   show rQ _ _ _ _ _ _ _
   refine vI ?_
   refine Ek (σ := Nat) [4, 5, 11, 12, 13, 44, 45] [(4, _), (5, _), (11, _), (12, _), (13, _), (44, _), (45, _)] [0] [(0, some _)] (fun k => [(46, iv (k : Int))]) (fun k => []) (fun k => (m[i]!.stk.take k).map (·.id)) (fun k => k ≤ m[i]!.stk.length) (fun k => m[i]!.stk.length - k) (0) (Nat.zero_le _) (rfl) rfl rfl (by repeat' (first|exact trivial|refine And.intro rfl ?_)) (by repeat' (exact trivial)) ?_
   rintro k hk
   refine lA (oJ ?_)
   repeat' (first|(apply aM;first|(apply aR;rfl;rfl;rfl;rfl)|(apply aF;kernel_rfl))|(apply aN;(apply aB)))
   show rQ _ _ _ _ _ _ _
   refine lA (Ao rfl (fun hb => Ay ?_) (fun hb => Gd ?_))
   ·show rQ _ _ _ _ _ _ _
    have hkl : k < m[i]!.stk.length := by have := of_decide_eq_true hb;omega
    obtain ⟨g1, g2, g3⟩ := h5 k hkl
    have hw := LM (a := 0) (b := m[i]!.stk[k]!.id) (c := m[i]!.next - 1) ⟨g1, by omega⟩
    have hni : m[i]!.stk[k]!.id ∉ (m[i]!.stk.take k).map (·.id) := fun q => by
     obtain ⟨t, ht, e⟩ := List.mem_map.1 q
     obtain ⟨j, hj, rfl⟩ := List.getElem_of_mem ht
     rw [List.length_take] at hj
     have f := sO (stk := m[i]!.stk) (id := m[i]!.stk[k]!.id) (by omega) j (by omega)
     rw [cK _ _ (by omega)] at f
     rw [List.getElem_take] at e
     exact f e
    refine lA (vI (lA (oJ ?_)))
    repeat' (first|(apply aM;first|(apply aY;rfl;rfl;(exact (rfl:_=[_, _]));rfl;rfl;rfl)|(apply a7;(case hx|hi => rfl);(case hm => (assumption));(case hml => (rfl));(case hα | hf|hg => infer_instance);(case hN => rfl))|(apply aF;kernel_rfl)|(apply bE;rfl;rfl)|(apply aW;rfl;rfl;rfl;rfl;rfl;(case hl => (simp;done));(exact (rfl:_=[_, _]))))|(apply aN;(apply aB)))
    show rQ _ _ _ _ _ _ _
    refine lA (lA (tX ?_))
    refine y7 (l1 := [_, _, _, _, _, _, _, _, _, _, _]) (l2 := [_, _]) ?_
    repeat' (apply aM;first|(apply aE;rfl;rfl)|(apply aL;rfl;rfl;rfl;rfl)|(apply aD;rfl;rfl;rfl)|(apply a6;rfl;rfl;rfl;(assumption))|(apply fU;rfl;rfl;omega;rfl)|((with_reducible apply aJ (k := 50));(case ha => rfl);(case h => (apply eD <;> (fail)));(case hp => (rfl));(case hN => rfl))|(apply aF;kernel_rfl)|(apply cC;rfl;rfl))
    refine ⟨rfl, ?_⟩
    refine Ex rfl rfl hw ?_
    refine B4 Mn L8 Lk rfl rfl hni rfl ?_
    refine AX ?_
    repeat' (apply aM;first|(apply bF;rfl;(assumption);rfl;rfl)|(apply aF;kernel_rfl))
    refine ⟨rfl, ?_⟩
    show rQ _ _ _ _ _ _ _
    refine Ao rfl (fun h => by cases h) (fun _ => Ay ?_)
    show rQ _ _ _ _ _ _ _
    refine tX ?_
    refine y7 (l1 := [_, _, _]) (l2 := [_]) ?_
    repeat' (apply aM;first|(apply aE;rfl;rfl)|(apply aL;rfl;rfl;rfl;rfl)|(apply aD;rfl;rfl;rfl)|(apply aF;kernel_rfl))
    refine ⟨rfl, ?_⟩
    refine Bz Mn L8 Lk rfl rfl hni ?_
    refine HW ?_
    show rQ _ _ _ _ _ _ _
    refine oJ ?_
    repeat' (first|(apply aM;first|(apply aE;rfl;rfl)|(apply bU;rfl;rfl;omega;rfl)|(apply aF;kernel_rfl))|(apply aN;(apply aB)))
    refine ⟨k + 1, by omega, by omega, ?_, ?_⟩
    ·refine Le.ren [(0, 0)] rfl (by decide) ?_ ?_ <;> repeat' (first|exact trivial|refine And.intro ⟨_, rfl, ?_⟩ ?_|refine And.intro ⟨_, _, rfl, rfl, ?_⟩ ?_|exact Or.inr rfl|refine Or.inl ⟨?_, (by first|rfl|exact aZ _ _|exact Pur.pf)⟩|rfl)
    ·rw [cY _ k hkl, List.map_append]; rfl
   ·have hkl : k = m[i]!.stk.length := by have := of_decide_eq_false hb; omega
    refine FF ?_
    show BH 1 _ _ _
    repeat' (first|(apply aM;first|(apply aE;rfl;rfl)|(apply bU;rfl;rfl;omega;rfl)|(apply aF;kernel_rfl))|(apply aN;(apply aB))|with_reducible apply aA|with_reducible apply aX)
    (apply dW (i + 1);focus (refine Le.ren [] rfl (by decide) ?_ ?_ <;> repeat' (first|exact trivial|refine And.intro ⟨_, rfl, ?_⟩ ?_|refine Or.inl ⟨?_, (by first|rfl|exact aZ _ _)⟩|rfl)))
    ·omega
    ·omega
 ·repeat' (first | (apply aM; first | (apply aR;rfl;rfl;rfl;rfl) | (apply aC;rfl;rfl) | (apply aF;kernel_rfl)) | (apply aN; first | apply aI | apply aB | (apply aO;rfl;all_goals intro hc;have hq:=hc;(try simp only [cF] at hq);try exfalso;omega) | apply bI | apply aQ) | with_reducible apply aA | with_reducible apply bJ | with_reducible apply bH)
  refine aP rfl ⟨rfl, rfl⟩
theorem Le.bump {ts : List (Nat × AV)} {hs : List (Nat × Option (List AV))} {n : Nat} {z0 : Lo} (k : Nat) : Le ⟨ts, hs, n, z0⟩ ⟨ts, hs, n + k, z0⟩ := Le.of (fun _ _ h => h) (fun _ _ h => h) (Nat.le_add_right _ _) rfl
theorem vT {m : List Cl} {N : Nat} {Q : Exit → AS → Prop} {all : Array Oper} {rest : List Oper} {tsl : List (Nat × AV)} {hsl : List (Nat × Option (List AV))} {nidl : Nat} {z0 : Lo} {md : Md} {d : Nat} {ty : TypeId} {pos : String} {af : Array Edge} {tys : Array TypeId} {x0 : Operand} (ha0 : ev (lk tsl) x0 = some (sl eG m)) (hmc : MC Tryz.prog 208 [sl eG m] [] 0 (fun _ : Unit => True) (fun _ => .own 1 0 m.length 4) (fun _ => [(1, some (aH eG m))])) (hM : Nat.ble (nidl + 2) fG = true) (hN : Nat.blt d N = true) {md' : Md} [hmd : MdA md (hG [x0] ++ []) (List.map Sum.inr (List.map Prod.fst ([((nidl + 1), some (aH eG m))] : List (Nat × Option (List AV)))) ++ [.inl d]) md'] (kk : RW Tryz.prog N all Q md' rest ⟨(d, .own (nidl + 1) 0 m.length 4) :: tsl, jF hsl [((nidl + 1), some (aH eG m))], nidl + 2, z0⟩) : RW Tryz.prog N all Q md (⟨some d, .call ⟨.value (.func 208), #[x0], tys⟩, ty, pos, af, none⟩ :: rest) ⟨tsl, hsl, nidl, z0⟩ := by
 refine cM [] 2 [((nidl + 1), some (aH eG m))] hmc (avs := [sl eG m]) ?_ rfl ?_ rfl ?_ (by simpa using hM) ?_ ?_ ?_ hN (md' := md') (hmd := hmd) kk
 ·show evL (lk tsl) [x0] = _
  simp only [evL, ha0]
 ·exact trivial
 ·(repeat' (exact RnL.purI inferInstance))
 ·(repeat' (exact RnV.own rfl))
 ·simp [eA]
 ·(repeat' (first|exact trivial|(refine And.intro ⟨1, _, rfl, rfl, ?_⟩ ?_)|exact RnL.purI inferInstance))
theorem zV (m : List Cl) (hl : m.length ≤ 1000000) : MC Tryz.prog 208 [sl eG m] [] 0 (fun _ : Unit => True) (fun _ => .own 1 0 m.length 4) (fun _ => [(1, some (aH eG m))]) := by
 (refine cD Tryz.func208 rfl (by simp [Tryz.ntmps208]) ?_; rw [Tryz.ntmps208])
 repeat' (first|(apply aM;first|(apply tS;rfl;rfl;(intro b hb))|(apply aE;rfl;rfl)|(apply aC;rfl;rfl)|(apply cH;rfl;rfl;rfl;rfl;rfl;(case hl => (simp [aT]; done));(exact sC (by (rfl)));omega;omega;(exact mH (by (omega)));rfl;rfl)|(apply aF;kernel_rfl)|(apply cG;rfl;rfl;rfl;(rfl);rfl;rfl))|(apply aN;first|apply aI|apply aB|(apply aO;rfl;all_goals intro hc;have hq:=hc;(try simp only [cF] at hq);try exfalso;omega)|apply aS|apply aQ)|with_reducible apply aA|with_reducible apply bK)
 ·have h0 : m = [] := List.eq_nil_of_length_eq_zero (hb (by assumption))
  subst h0
  refine cE (Le.bump 1) ?_
  refine cE (Le.nilOwn (d := 2) 4 rfl (by decide)) ?_
  (refine aP rfl ?_; refine bY () trivial ?_ ⟨.inr (Eq.trans (b := some _) rfl ?_), trivial⟩)
  ·rfl
  ·rfl
 ·(refine aP rfl ?_; refine bY () trivial ?_ ⟨.inr (Eq.trans (b := some _) rfl ?_), trivial⟩)
  ·show AV.own 1 0 (0 + m.length) 4 = _; rw [Nat.zero_add]
  ·rfl
theorem pK {m : List Tg} {N : Nat} {Q : Exit → AS → Prop} {all : Array Oper} {rest : List Oper} {tsl : List (Nat × AV)} {hsl : List (Nat × Option (List AV))} {nidl : Nat} {z0 : Lo} {md : Md} {d : Nat} {ty : TypeId} {pos : String} {af : Array Edge} {tys : Array TypeId} {x0 : Operand} (ha0 : ev (lk tsl) x0 = some (sl eJ m)) (hmc : MC Tryz.prog 209 [sl eJ m] [] 0 (fun _ : Unit => True) (fun _ => .own 1 0 m.length 2) (fun _ => [(1, some (aH eJ m))])) (hM : Nat.ble (nidl + 2) fG = true) (hN : Nat.blt d N = true) {md' : Md} [hmd : MdA md (hG [x0] ++ []) (List.map Sum.inr (List.map Prod.fst ([((nidl + 1), some (aH eJ m))] : List (Nat × Option (List AV)))) ++ [.inl d]) md'] (kk : RW Tryz.prog N all Q md' rest ⟨(d, .own (nidl + 1) 0 m.length 2) :: tsl, jF hsl [((nidl + 1), some (aH eJ m))], nidl + 2, z0⟩) : RW Tryz.prog N all Q md (⟨some d, .call ⟨.value (.func 209), #[x0], tys⟩, ty, pos, af, none⟩ :: rest) ⟨tsl, hsl, nidl, z0⟩ := by
 refine cM [] 2 [((nidl + 1), some (aH eJ m))] hmc (avs := [sl eJ m]) ?_ rfl ?_ rfl ?_ (by simpa using hM) ?_ ?_ ?_ hN (md' := md') (hmd := hmd) kk
 ·show evL (lk tsl) [x0] = _
  simp only [evL, ha0]
 ·exact trivial
 ·(repeat' (exact RnL.purI inferInstance))
 ·(repeat' (exact RnV.own rfl))
 ·simp [eA]
 ·(repeat' (first|exact trivial|(refine And.intro ⟨1, _, rfl, rfl, ?_⟩ ?_)|exact RnL.purI inferInstance))
theorem y8 (m : List Tg) (hl : m.length ≤ 1000000) : MC Tryz.prog 209 [sl eJ m] [] 0 (fun _ : Unit => True) (fun _ => .own 1 0 m.length 2) (fun _ => [(1, some (aH eJ m))]) := by
 (refine cD Tryz.func209 rfl (by simp [Tryz.ntmps209]) ?_; rw [Tryz.ntmps209])
 repeat' (first|(apply aM;first|(apply tS;rfl;rfl;(intro b hb))|(apply aE;rfl;rfl)|(apply aC;rfl;rfl)|(apply cH;rfl;rfl;rfl;rfl;rfl;(case hl => (simp [aT]; done));(exact sC (by (rfl)));omega;omega;(exact mH (by (omega)));rfl;rfl)|(apply aF;kernel_rfl)|(apply cG;rfl;rfl;rfl;(rfl);rfl;rfl))|(apply aN;first|apply aI|apply aB|(apply aO;rfl;all_goals intro hc;have hq:=hc;(try simp only [cF] at hq);try exfalso;omega)|apply aS|apply aQ)|with_reducible apply aA|with_reducible apply bK)
 ·have h0 : m = [] := List.eq_nil_of_length_eq_zero (hb (by assumption))
  subst h0
  refine cE (Le.bump 1) ?_
  refine cE (Le.nilOwn (d := 2) 2 rfl (by decide)) ?_
  (refine aP rfl ?_; refine bY () trivial ?_ ⟨.inr (Eq.trans (b := some _) rfl ?_), trivial⟩)
  ·rfl
  ·rfl
 ·(refine aP rfl ?_; refine bY () trivial ?_ ⟨.inr (Eq.trans (b := some _) rfl ?_), trivial⟩)
  ·show AV.own 1 0 (0 + m.length) 2 = _; rw [Nat.zero_add]
  ·rfl
theorem E3 (t : Tg) (c g : Int) : PC Tryz.prog 211 [MH t, .iptr [iv c, iv g]] (fun r => r = bv (decide (t.id = g))) := by
 (refine aU Tryz.func211 rfl (by simp [Tryz.ntmps211]) ?_; rw [Tryz.ntmps211])
 repeat' (first|(apply aM;first|(apply aL;rfl;rfl;rfl;rfl)|(apply aD;rfl;rfl;rfl)|(apply aR;rfl;rfl;rfl;rfl)|(apply aC;rfl;rfl)|(apply aF;kernel_rfl)|(apply b0;rfl;rfl;rfl;rfl))|(apply aN;first|apply aI|apply aB|apply aQ)|with_reducible apply aA)
 exact aP rfl ⟨rfl, rfl⟩
theorem z4 (t : Tg) : PC Tryz.prog 213 [MH t] (fun r => r = bv t.uq) := by
 (refine aU Tryz.func213 rfl (by simp [Tryz.ntmps213]) ?_; rw [Tryz.ntmps213])
 repeat' (first|(apply aM;first|(apply aL;rfl;rfl;rfl;rfl)|(apply aD;rfl;rfl;rfl)|(apply aC;rfl;rfl)|(apply aF;kernel_rfl)|(apply b0;rfl;rfl;rfl;rfl))|(apply aN;first|apply aI|apply aB|apply aQ)|with_reducible apply aA)
 exact aP rfl ⟨rfl, rfl⟩
theorem xE (stk : List Tg) (c g : Int) (hl : stk.length ≤ 1000000) : PC Tryz.prog 210 [sl eJ stk, .clos (.func 211) [] [.iptr [iv c, iv g]]] (fun r => r = iv (dP stk g)) := by
 (refine aU Tryz.func210 rfl (by simp [Tryz.ntmps210]) ?_; rw [Tryz.ntmps210])
 repeat' (first|(apply aM;first|(apply aE;rfl;rfl)|(apply aC;rfl;rfl)|(apply a8;rfl;rfl;rfl)|(apply aF;kernel_rfl))|(apply aN;first|apply aI|apply aB|apply aK)|with_reducible apply aA)
 refine bC (σ := Nat) [0, 1, 7] [(0, _), (1, _), (7, _)] [] [] (fun k => [(8, iv (k : Int))]) (fun k => []) (fun k => k ≤ stk.length ∧ ∀ j, j < k → stk[j]!.id ≠ g) (fun k => stk.length - k) (0) ⟨by omega, by omega⟩ rfl rfl (by repeat' (first|exact trivial|refine And.intro rfl ?_)) (by repeat' (exact trivial)) ?_
 rintro k ⟨hk, hall⟩
 by_cases hkn : k < stk.length
 ·have hcl := E3 stk[k]! c g
  repeat' (first|(apply aM;first|(apply aE;rfl;rfl)|(apply aY;rfl;rfl;(exact (rfl:_=[_, _]));rfl;rfl;rfl)|(first|(apply bU;rfl;rfl;omega;rfl)|(apply aR;rfl;rfl;rfl;rfl))|(apply aC;rfl;rfl)|(apply a7;(case hx|hi => rfl);(case hm => (assumption));(case hml => (rfl));(case hα | hf|hg => infer_instance);(case hN => rfl))|((with_reducible apply iH);(case hx|hcl => rfl);(case hc => infer_instance);(case ha => rfl);(case h => (apply hcl <;> (fail)));(case hp => (rfl));(case hN => rfl))|(apply aF;kernel_rfl))|(apply aN;first|apply aI|apply aB|(apply aO;rfl;all_goals intro hc;have hq:=hc;(try simp only [cF] at hq);try exfalso;omega)|apply aK|apply aS|apply aQ)|with_reducible apply aA|with_reducible apply bK|with_reducible apply aX|with_reducible apply cT)
  ·refine aP rfl ⟨?_, rfl⟩
   simp only [b9]; rw [C8 hkn (by assumption) hall]
  ·(apply dW (k + 1); focus (refine Le.ren [] rfl (by decide) ?_ ?_ <;> repeat' (first | exact trivial | refine And.intro ⟨_, rfl, ?_⟩ ?_ | refine Or.inl ⟨?_, (by first | rfl | exact aZ _ _)⟩ | rfl)))
   ·refine ⟨by omega, fun j hj => ?_⟩
    by_cases e : j = k
    ·subst e;assumption
    ·exact hall j (by omega)
   ·omega
 ·repeat' (first | (apply aM; first | (apply aR;rfl;rfl;rfl;rfl) | (apply aC;rfl;rfl) | (apply aF;kernel_rfl)) | (apply aN; first | apply aI | apply aB | (apply aO;rfl;all_goals intro hc;have hq:=hc;(try simp only [cF] at hq);try exfalso;omega) | apply bI | apply aQ) | with_reducible apply aA | with_reducible apply bJ | with_reducible apply bH)
  refine aP rfl ⟨?_, rfl⟩
  have h2 : dP stk g < 0 := pR.2 (fun t ht => by obtain ⟨j, hj, rfl⟩ := List.getElem_of_mem ht;have := hall j (by omega);rwa [cK _ _ hj] at this)
  have hb := g0 stk g
  simp only [b9]; rw [show dP stk g = -1 by omega]
def qP (xs : List Tg) : Int := match xs.findIdx? (fun t => t.uq) with | some i => i | none => -1
theorem Ih (stk : List Tg) (hl : stk.length ≤ 1000000) : PC Tryz.prog 210 [sl eJ stk, .v (.func (.func 213) #[] #[])] (fun r => r = iv (qP stk)) := by
 (refine aU Tryz.func210 rfl (by simp [Tryz.ntmps210]) ?_; rw [Tryz.ntmps210])
 repeat' (first|(apply aM;first|(apply aE;rfl;rfl)|(apply aC;rfl;rfl)|(apply a8;rfl;rfl;rfl)|(apply aF;kernel_rfl))|(apply aN;first|apply aI|apply aB|apply aK)|with_reducible apply aA)
 refine bC (σ := Nat) [0, 1, 7] [(0, _), (1, _), (7, _)] [] [] (fun k => [(8, iv (k : Int))]) (fun k => []) (fun k => k ≤ stk.length ∧ ∀ j, j < k → stk[j]!.uq = false) (fun k => stk.length - k) (0) ⟨by omega, by omega⟩ rfl rfl (by repeat' (first|exact trivial|refine And.intro rfl ?_)) (by repeat' (exact trivial)) ?_
 rintro k ⟨hk, hall⟩
 by_cases hkn : k < stk.length
 ·have hcl := z4 stk[k]!
  repeat' (first|(apply aM;first|(apply aE;rfl;rfl)|(apply aY;rfl;rfl;(exact (rfl:_=[_, _]));rfl;rfl;rfl)|(first|(apply bU;rfl;rfl;omega;rfl)|(apply aR;rfl;rfl;rfl;rfl))|(apply aC;rfl;rfl)|(apply a7;(case hx|hi => rfl);(case hm => (assumption));(case hml => (rfl));(case hα | hf|hg => infer_instance);(case hN => rfl))|((with_reducible apply iH);(case hx|hcl => rfl);(case hc => infer_instance);(case ha => rfl);(case h => (apply hcl <;> (fail)));(case hp => (rfl));(case hN => rfl))|(apply aF;kernel_rfl))|(apply aN;first|apply aI|apply aB|(apply aO;rfl;all_goals intro hc;have hq:=hc;(try simp only [cF] at hq);try exfalso;omega)|apply aK|apply aS|apply aQ)|with_reducible apply aA|with_reducible apply bK|with_reducible apply aX|with_reducible apply cT)
  ·refine aP rfl ⟨?_, rfl⟩
   have hu : stk[k]!.uq = true := by assumption
   have : stk.findIdx? (fun t => t.uq) = some k := by
    rw [List.findIdx?_eq_some_iff_getElem]
    refine ⟨hkn, by rw [← cK stk k hkn]; exact hu, fun j hj => ?_⟩
    have := hall j hj;rw [cK stk j (by omega)] at this;rw [this]; decide
   simp only [b9, qP, this]
  ·have hu : stk[k]!.uq = false := by assumption
   (apply dW (k + 1);focus (refine Le.ren [] rfl (by decide) ?_ ?_ <;> repeat' (first|exact trivial|refine And.intro ⟨_, rfl, ?_⟩ ?_|refine Or.inl ⟨?_, (by first|rfl|exact aZ _ _)⟩|rfl)))
   ·refine ⟨by omega, fun j hj => ?_⟩
    by_cases e : j = k
    ·subst e;exact hu
    ·exact hall j (by omega)
   ·omega
 ·repeat' (first | (apply aM; first | (apply aR;rfl;rfl;rfl;rfl) | (apply aC;rfl;rfl) | (apply aF;kernel_rfl)) | (apply aN; first | apply aI | apply aB | (apply aO;rfl;all_goals intro hc;have hq:=hc;(try simp only [cF] at hq);try exfalso;omega) | apply bI | apply aQ) | with_reducible apply aA | with_reducible apply bJ | with_reducible apply bH)
  refine aP rfl ⟨?_, rfl⟩
  have : stk.findIdx? (fun t => t.uq) = none := by
   rw [List.findIdx?_eq_none_iff]
   intro x hx
   obtain ⟨j, hj, rfl⟩ := List.getElem_of_mem hx
   have := hall j (by omega);rw [cK stk j hj] at this;exact this
  simp only [b9, qP, this]
theorem L1 {xs : List Tg} {k : Nat} {a : Int} {b : Bool} (hk : k < xs.length) : iJ (aH eJ xs) (0 + k * 2) [iv a, bv b] = aH eJ (xs.set k ⟨a, b⟩) := lY hk rfl
theorem Fl {cs new : List AV} {k : Nat} (h : k ≤ cs.length) : (iJ cs (0 + k) new).take k = cs.take k := by
 unfold iJ
 rw [Nat.zero_add, List.append_assoc, List.take_left' (by rw [List.length_take]; omega)]
def shr (xs : List Tg) : List Tg := xs.filter (fun t => !t.uq)
theorem DG {xs : List Tg} (h : qP xs = -1) : shr xs = xs := by
 unfold qP at h
 split at h
 ·omega
 ·rename_i hn
  rw [List.findIdx?_eq_none_iff] at hn
  unfold shr
  rw [List.filter_eq_self]
  intro t ht
  have := hn t ht
  simp [this]
theorem EF {xs : List Tg} {i : Nat} (h : qP xs = (i : Int)) : i < xs.length ∧ xs[i]!.uq = true ∧ shr (xs.take (i + 1)) = xs.take i := by
 unfold qP at h
 split at h
 ·rename_i k hk
  obtain ⟨h1, h2, h3⟩ := List.findIdx?_eq_some_iff_getElem.1 hk
  have e : k = i := by omega
  subst e
  have hs : shr (xs.take k) = xs.take k := by
   unfold shr
   rw [List.filter_eq_self]
   intro t ht
   obtain ⟨j, hj, rfl⟩ := List.getElem_of_mem ht
   rw [List.length_take] at hj
   have := h3 j (by omega)
   rw [List.getElem_take]; simpa using this
  refine ⟨h1, by rw [cK _ _ h1]; exact h2, ?_⟩
  rw [cY xs k h1]
  unfold shr at hs ⊢
  rw [List.filter_append, hs, vM (by rw [cK _ _ h1, h2]; rfl), List.append_nil]
 ·omega
theorem IX (xs : List Tg) : -1 ≤ qP xs ∧ qP xs < xs.length := by
 unfold qP
 split
 ·rename_i k hk
  obtain ⟨h1, _⟩ := List.findIdx?_eq_some_iff_getElem.1 hk
  omega
 ·omega
theorem Hl {xs : List Tg} {j : Nat} (hj : j < xs.length) (h : xs[j]!.uq = false) : shr (xs.take (j + 1)) = shr (xs.take j) ++ [xs[j]!] := by
 rw [cY xs j hj]; unfold shr
 rw [List.filter_append, EE (by rw [h]; rfl)]
theorem GI {xs : List Tg} {j : Nat} (hj : j < xs.length) (h : xs[j]!.uq = true) : shr (xs.take (j + 1)) = shr (xs.take j) := by
 rw [cY xs j hj]; unfold shr
 rw [List.filter_append, vM (by rw [h]; rfl), List.append_nil]
theorem Gv {α : Type} [Inhabited α] {L : List α} {i : Nat} {x : α} (h : i < L.length) : (L.set i x).take (i + 1) = L.take i ++ [x] := by
 rw [List.set_eq_take_append_cons_drop, if_pos h]
 have h1 : (L.take i).length = i := by rw [List.length_take]; omega
 rw [List.take_append, h1, show i + 1 - i = 1 by omega, List.take_of_length_le (by omega)]
 rfl
theorem GB {α : Type} [Inhabited α] {L M : List α} {j : Nat} (h : L.drop j = M.drop j) (hl : L.length = M.length) (hj : j < M.length) : L[j]! = M[j]! := by
 rw [cK _ _ (by omega), cK _ _ hj]
 rw [List.drop_eq_getElem_cons (by omega : j < L.length), List.drop_eq_getElem_cons hj] at h
 exact (List.cons.inj h).1
theorem tY {α : Type} {L M : List α} {j : Nat} (h : L.drop j = M.drop j) : L.drop (j + 1) = M.drop (j + 1) := by
 rw [← List.drop_drop, h, List.drop_drop]
theorem IE {xs : List Tg} {m : Nat} {N : Nat} {Q : Exit → AS → Prop} {all : Array Oper} {rest : List Oper} {tsl : List (Nat × AV)} {hsl : List (Nat × Option (List AV))} {nidl : Nat} {z0 : Lo} {md : Md} {d : Nat} {ty : TypeId} {pos : String} {af : Array Edge} {tys : Array TypeId} {x0 x1 : Operand} {i0 : Nat} (ha0 : ev (lk tsl) x0 = some (.own i0 0 m 2)) (ha1 : ev (lk tsl) x1 = some (.v (.func (.func 213) #[] #[]))) (hH0 : cJ hsl i0 = some (aH eJ xs)) (hmc : MC Tryz.prog 212 [.own 0 0 m 2, .v (.func (.func 213) #[] #[])] [(0, some (aH eJ xs))] 1 (fun _ : Unit => True) (fun _ => .own 0 0 (shr xs).length 2) (fun _ => [(0, some (aH eJ (shr xs)))])) (hM : Nat.ble (nidl + 0) fG = true) (hN : Nat.blt d N = true) {md' : Md} [hmd : MdA md (hG [x0, x1] ++ [.inr i0]) (List.map Sum.inr (List.map Prod.fst ([(i0, some (aH eJ (shr xs)))] : List (Nat × Option (List AV)))) ++ [.inl d]) md'] (kk : RW Tryz.prog N all Q md' rest ⟨(d, .own i0 0 (shr xs).length 2) :: tsl, jF hsl [(i0, some (aH eJ (shr xs)))], nidl + 0, z0⟩) : RW Tryz.prog N all Q md (⟨some d, .call ⟨.value (.func 212), #[x0, x1], tys⟩, ty, pos, af, none⟩ :: rest) ⟨tsl, hsl, nidl, z0⟩ := by
 refine cM [i0] 1 [(i0, some (aH eJ (shr xs)))] hmc (avs := [.own i0 0 m 2, .v (.func (.func 213) #[] #[])]) ?_ rfl ?_ rfl ?_ (by simpa using hM) ?_ ?_ ?_ hN (md' := md') (hmd := hmd) kk
 ·show evL (lk tsl) [x0, x1] = _
  simp only [evL, ha0, ha1]
 ·exact ⟨⟨_, _, rfl, hH0, by (repeat' (exact RnL.purI inferInstance))⟩, trivial⟩
 ·(repeat' (first|exact RnL.purI inferInstance|exact RnV.own rfl|refine RnL.cons ?_ ?_))
 ·(repeat' (exact RnV.own rfl))
 ·simp [eA]
 ·(repeat' (first|exact trivial|(refine And.intro ⟨0, _, rfl, rfl, ?_⟩ ?_)|exact RnL.purI inferInstance))
theorem Jj (xs : List Tg) (m : Nat) (hm : m = xs.length) (hl : m ≤ 1000000) : MC Tryz.prog 212 [.own 0 0 m 2, .v (.func (.func 213) #[] #[])] [(0, some (aH eJ xs))] 1 (fun _ : Unit => True) (fun _ => .own 0 0 (shr xs).length 2) (fun _ => [(0, some (aH eJ (shr xs)))]) := by
 subst hm
 have hix := Ih xs hl
 have hbd := IX xs
 by_cases hn : qP xs = -1
 ·rw [hn] at hix
  have hs := DG hn
  (refine cD Tryz.func212 rfl (by simp [Tryz.ntmps212]) ?_; rw [Tryz.ntmps212])
  repeat' (first|(apply aM;first|((with_reducible apply o6 (k := 210));(case ha => rfl);(case hl => (repeat' (first|exact mK|apply k8|exact xD|exact m3 rfl inferInstance)));(case h => exact hix);(case hfr|hN => rfl);(case hmd => infer_instance))|(apply aE;rfl;rfl)|(apply aR;rfl;rfl;rfl;rfl)|(apply aC;rfl;rfl)|(apply aF;kernel_rfl))|(apply aN;first|apply aI|apply aB|(apply bZ;rfl;(rfl))|apply aQ)|with_reducible apply aA|with_reducible apply bK)
  all_goals (
   (refine aP rfl ?_; refine bY () trivial ?_ ⟨.inr (Eq.trans (b := some _) rfl ?_), trivial⟩)
   ·rw [hs]; rfl
   ·rw [hs])
 ·obtain ⟨i0, hi0⟩ := Int.eq_ofNat_of_zero_le (show 0 ≤ qP xs by omega)
  obtain ⟨g1, g2, g3⟩ := EF hi0
  rw [hi0] at hix
  (refine cD Tryz.func212 rfl (by simp [Tryz.ntmps212]) ?_; rw [Tryz.ntmps212])
  repeat' (first|(apply aM;first|((with_reducible apply o6 (k := 210));(case ha => rfl);(case hl => (repeat' (first|exact mK|apply k8|exact xD|exact m3 rfl inferInstance)));(case h => exact hix);(case hfr|hN => rfl);(case hmd => infer_instance))|(apply aE;rfl;rfl)|(first|(apply bU;rfl;rfl;omega;rfl)|(apply aR;rfl;rfl;rfl;rfl))|(apply aC;rfl;rfl)|(apply aF;kernel_rfl))|(apply aN;first|apply aI|apply aB|(apply cS;rfl;(rfl))|apply aK|apply aS)|with_reducible apply aA)
  all_goals (try (exfalso;omega))
  refine bC (σ := List Tg × Nat × Nat) [0, 1] [(0, _), (1, _)] [] [] (fun s => [(5, iv (s.2.1 : Int)), (6, iv (s.2.2 : Int))]) (fun s => [(0, some (aH eJ s.1))]) (fun s => s.1.length = xs.length ∧ s.1.take s.2.1 = shr (xs.take s.2.2) ∧ s.1.drop s.2.2 = xs.drop s.2.2 ∧ s.2.1 < s.2.2 ∧ s.2.2 ≤ xs.length) (fun s => xs.length - s.2.2) (xs, i0, i0 + 1) ⟨rfl, g3.symm, rfl, by dsimp only;omega, by dsimp only;omega⟩ rfl rfl (by repeat' (first|exact trivial|refine And.intro rfl ?_)) (by repeat' (first|exact trivial|refine And.intro (.inr rfl) ?_)) ?_
  rintro ⟨L, i, j⟩ ⟨hL, ht, hd, hij, hj⟩
  dsimp only at hL ht hd hij hj ⊢
  by_cases hjn : j < xs.length
  ·have hcl := z4 L[j]!
   have hg := GB hd hL hjn
   repeat' (first|(apply aM;first|(apply aE;rfl;rfl)|(first|(apply fZ;(case hx|hH => rfl);(case hf|hg|hα => infer_instance);(case hk => omega);(case h0|hN => rfl))|(apply aY;rfl;rfl;(exact (rfl:_=[_, _]));rfl;rfl;rfl))|(first|(apply bU;rfl;rfl;omega;rfl)|(apply aR;rfl;rfl;rfl;rfl))|(apply aC;rfl;rfl)|(apply cL;rfl;rfl;(first|assumption|omega);rfl)|(apply a8;rfl;rfl;rfl)|((with_reducible apply iH);(case hx|hcl => rfl);(case hc => infer_instance);(case ha => rfl);(case h => (apply hcl <;> (fail)));(case hp => (rfl));(case hN => rfl))|(apply aF;kernel_rfl)|(apply cC;rfl;rfl)|(apply bE;rfl;rfl)|(apply aW;rfl;rfl;rfl;rfl;rfl;(case hl => (first|(rw [aT]; simp only [gX] <;> omega)|(simp;done)));(first|exact L1 (by (first|assumption|omega))|exact (rfl:_=[_, _]))))|(apply aN;first|apply aI|apply aB|(apply aO;rfl;all_goals intro hc;have hq:=hc;(try simp only [cF] at hq);try exfalso;omega)|apply aK|apply aS)|with_reducible apply aA|with_reducible apply aX)
   ·have hu : L[j]!.uq = false := by assumption
    (apply dW (_, i + 1, j + 1);focus (refine Le.ren [] rfl (by decide) ?_ ?_ <;> repeat' (first|exact trivial|refine And.intro ⟨_, rfl, ?_⟩ ?_|refine And.intro ⟨_, _, rfl, rfl, ?_⟩ ?_|exact Or.inr rfl|refine Or.inl ⟨?_, (by first|rfl|exact aZ _ _)⟩|rfl)))
    ·refine ⟨by dsimp only; rw [List.length_set]; exact hL, ?_, ?_, by dsimp only; omega, by dsimp only; omega⟩
     ·dsimp only
      rw [Gv (by omega), ht, Hl hjn (by rw [← hg]; exact hu), hg]
     ·dsimp only
      rw [List.drop_set_of_lt (by omega)]
      exact tY hd
    ·dsimp only;omega
   ·have hu : L[j]!.uq = true := by assumption
    (apply dW (L, i, j + 1);focus (refine Le.ren [] rfl (by decide) ?_ ?_ <;> repeat' (first|exact trivial|refine And.intro ⟨_, rfl, ?_⟩ ?_|refine And.intro ⟨_, _, rfl, rfl, ?_⟩ ?_|exact Or.inr rfl|refine Or.inl ⟨?_, (by first|rfl|exact aZ _ _)⟩|rfl)))
    ·refine ⟨hL, ?_, tY hd, by dsimp only; omega, by dsimp only; omega⟩
     dsimp only
     rw [ht, GI hjn (by rw [← hg]; exact hu)]
    ·dsimp only;omega
  ·have hfl : (aH eJ L).length = L.length * 2 := aT eJ L
   repeat' (first|(apply aM;first|((apply iP (d := 38) (l := i) (h := xs.length));(case hx|hn => rfl);(case hl => exact pP rfl (by omega));(case hh => rfl);(case hp => exact if_pos (by omega));(case hN => rfl))|((apply iP (d := 41) (l := 0) (h := i));(case hx|hn|hl => rfl);(case hh => exact pP rfl (by omega));(case hp => exact if_pos (by omega));(case hN => rfl))|(apply E6;rfl;rfl;omega;rfl;(rw [hfl]; omega);rfl)|(apply aE;rfl;rfl)|(apply aR;rfl;rfl;rfl;rfl)|(apply aC;rfl;rfl)|(apply a8;rfl;rfl;rfl)|(apply aF;kernel_rfl))|(apply aN;first|apply aI|apply aB|(apply aO;rfl;all_goals intro hc;have hq:=hc;(try simp only [cF] at hq);try exfalso;omega)|apply bI|apply aQ)|with_reducible apply aA|with_reducible apply bJ|with_reducible apply bH)
   refine cE (Le.cut (i := 0) (i * 2) rfl) ?_
   have hje : j = xs.length := by omega
   have hLt : L.take i = shr xs := by rw [ht, hje, List.take_length]
   have hil : (shr xs).length = i := by rw [← hLt, List.length_take]; omega
   (refine aP rfl ?_; refine bY () trivial ?_ ⟨.inr (Eq.trans (b := some _) rfl ?_), trivial⟩)
   ·show AV.own 0 (0 + 0 * 2) (i - 0) 2 = _
    rw [hil]; rfl
   ·rw [Fl (by omega), fA eJ (e := 2), hLt]
theorem iC {m : List Cl} {N : Nat} {Q : Exit → AS → Prop} {all : Array Oper} {rest : List Oper} {tsl : List (Nat × AV)} {hsl : List (Nat × Option (List AV))} {nidl : Nat} {z0 : Lo} {md : Md} {d : Nat} {ty : TypeId} {pos : String} {af : Array Edge} {tys : Array TypeId} {x0 : Operand} (ha0 : ev (lk tsl) x0 = some (sl eG m)) (hmc : MC Tryz.prog 189 [sl eG m] [] 0 (fun _ : Unit => True) (fun _ => .own 1 0 m.length 4) (fun _ => [(1, some (aH eG m))])) (hM : Nat.ble (nidl + 2) fG = true) (hN : Nat.blt d N = true) {md' : Md} [hmd : MdA md (hG [x0] ++ []) (List.map Sum.inr (List.map Prod.fst ([((nidl + 1), some (aH eG m))] : List (Nat × Option (List AV)))) ++ [.inl d]) md'] (kk : RW Tryz.prog N all Q md' rest ⟨(d, .own (nidl + 1) 0 m.length 4) :: tsl, jF hsl [((nidl + 1), some (aH eG m))], nidl + 2, z0⟩) : RW Tryz.prog N all Q md (⟨some d, .call ⟨.value (.func 189), #[x0], tys⟩, ty, pos, af, none⟩ :: rest) ⟨tsl, hsl, nidl, z0⟩ := by
 refine cM [] 2 [((nidl + 1), some (aH eG m))] hmc (avs := [sl eG m]) ?_ rfl ?_ rfl ?_ (by simpa using hM) ?_ ?_ ?_ hN (md' := md') (hmd := hmd) kk
 ·show evL (lk tsl) [x0] = _
  simp only [evL, ha0]
 ·exact trivial
 ·(repeat' (exact RnL.purI inferInstance))
 ·(repeat' (exact RnV.own rfl))
 ·simp [eA]
 ·(repeat' (first|exact trivial|(refine And.intro ⟨1, _, rfl, rfl, ?_⟩ ?_)|exact RnL.purI inferInstance))
theorem o3 {m : List Cl} {j : Nat} {N : Nat} {Q : Exit → AS → Prop} {all : Array Oper} {rest : List Oper} {tsl : List (Nat × AV)} {hsl : List (Nat × Option (List AV))} {nidl : Nat} {z0 : Lo} {md : Md} {d : Nat} {ty : TypeId} {pos : String} {af : Array Edge} {tys : Array TypeId} {x0 : Operand} (ha0 : ev (lk tsl) x0 = some (sl eG m)) (hmc : MC Tryz.prog 189 [sl eG m] [] 0 (fun _ : Unit => True) (fun _ => .own 1 0 m.length 4) (fun _ => [(1, some (aH gR (e6 m j (.own 2 0 m[j]!.stk.length 2)))), (2, some (aH eJ m[j]!.stk))])) (hM : Nat.ble (nidl + 3) fG = true) (hN : Nat.blt d N = true) {md' : Md} [hmd : MdA md (hG [x0] ++ []) (List.map Sum.inr (List.map Prod.fst ([((nidl + 1), some (aH gR (e6 m j (.own (nidl + 2) 0 m[j]!.stk.length 2)))), ((nidl + 2), some (aH eJ m[j]!.stk))] : List (Nat × Option (List AV)))) ++ [.inl d]) md'] (kk : RW Tryz.prog N all Q md' rest ⟨(d, .own (nidl + 1) 0 m.length 4) :: tsl, jF hsl [((nidl + 1), some (aH gR (e6 m j (.own (nidl + 2) 0 m[j]!.stk.length 2)))), ((nidl + 2), some (aH eJ m[j]!.stk))], nidl + 3, z0⟩) : RW Tryz.prog N all Q md (⟨some d, .call ⟨.value (.func 189), #[x0], tys⟩, ty, pos, af, none⟩ :: rest) ⟨tsl, hsl, nidl, z0⟩ := by
 refine cM [] 3 [((nidl + 1), some (aH gR (e6 m j (.own (nidl + 2) 0 m[j]!.stk.length 2)))), ((nidl + 2), some (aH eJ m[j]!.stk))] hmc (avs := [sl eG m]) ?_ rfl ?_ rfl ?_ (by simpa using hM) ?_ ?_ ?_ hN (md' := md') (hmd := hmd) kk
 ·show evL (lk tsl) [x0] = _
  simp only [evL, ha0]
 ·exact trivial
 ·(repeat' (exact RnL.purI inferInstance))
 ·(repeat' (exact RnV.own rfl))
 ·simp [eA]
 ·(repeat' (first|exact trivial|(refine And.intro ⟨1, _, rfl, rfl, ?_⟩ ?_)|(refine And.intro ⟨2, _, rfl, rfl, ?_⟩ ?_)|exact RnL.purI inferInstance|exact nM rfl))
theorem lV {α : Type} [Inhabited α] (l : List α) (k : Nat) : l.set k l[k]! = l := by
 rcases Nat.lt_or_ge k l.length with h|h
 ·rw [cK _ _ h]; simp
 ·exact List.set_eq_of_length_le h
theorem CA {m : List Cl} {i : Nat} (hi : i < m.length) : iJ (aH eG m) (0 + i * 4 + 3) [sl eJ m[i]!.stk] = aH eG m := by
 have h := Jy (xs := m) (k := i) (s := m[i]!.stk) hi
 rw [show m.set i { m[i]! with stk := m[i]!.stk } = m from lV m i] at h
 exact h
theorem B9 {m : List Cl} {i j : Nat} {X : AV} (hi : i < m.length) (h : i ≠ j) : (e6 m j X)[i]! = qM m[i]! := by
 unfold e6
 rw [cK _ _ (by rw [List.length_set, List.length_map]; exact hi), List.getElem_set_ne (fun e => h e.symm), List.getElem_map, cK _ _ hi]
theorem Hm {m : List Cl} {i j : Nat} {X : AV} (h : i < m.length ∧ i ≠ j) : iJ (aH gR (e6 m j X)) (0 + i * 4 + 3) [sl eJ m[i]!.stk] = aH gR (e6 m j X) := by
 have hl := eT (m := m) (j := j) (X := X)
 have e : (e6 m j X).set i { (e6 m j X)[i]! with av := sl eJ m[i]!.stk } = e6 m j X := by
  rw [B9 h.1 h.2]
  have : ({ qM m[i]! with av := sl eJ m[i]!.stk } : Co) = (e6 m j X)[i]! := by rw [B9 h.1 h.2]; rfl
  rw [this]; exact lV _ _
 rw [← e]
 have := fH (f := gR) (xs := e6 m j X) (k := i) (j := 3) (new := [sl eJ m[i]!.stk]) (y := { (e6 m j X)[i]! with av := sl eJ m[i]!.stk }) (by rw [hl]; exact h.1) (by simp) rfl
 rw [e] at this ⊢
 exact this
theorem oD {mp : List (Nat × Nat)} {lo : Lo} : ∀ {cs : List AV}, dC cs = true → All2 (D3 mp lo) cs cs
 | [], _ => .nil
 | c :: cs, h => by
  simp only [dC, Bool.and_eq_true] at h
  exact .cons (.inl ⟨rfl, h.1⟩) (oD h.2)
theorem sZ {α β : Type} {R : α → β → Prop} : ∀ {a : List α} {b : List β} {c : List α} {d : List β}, All2 R a b → All2 R c d → All2 R (a ++ c) (b ++ d)
 | _, _, _, _, .nil, h => h
 | _, _, _, _, .cons h1 h2, h => .cons h1 (sZ h2 h)
theorem C7 {mp : List (Nat × Nat)} {lo : Lo} {m : List Cl} {j k i i' : Nat} (h : j < m.length) (hr : J1 mp lo (.own i 0 k 2) = some (.own i' 0 k 2)) : All2 (D3 mp lo) (aH gR (e6 m j (.own i 0 k 2))) (aH gR (e6 m j (.own i' 0 k 2))) := by
 rw [jT h, jT h]
 exact sZ (oD (inferInstance : Pur (aH eG _)).pf) (sZ (oD (inferInstance : Pur [iv _, bv _, iv _]).pf) (.cons (.inr hr) (oD (inferInstance : Pur (aH eG _)).pf)))
theorem kK (m : List Cl) (hm : OkM m) : MC Tryz.prog 189 [sl eG m] [] 0 (fun _ : Unit => True) (fun _ => .own 1 0 m.length 4) (fun _ => [(1, some (aH eG m))]) := by
 have hml := hm.l
 have hcc := zV m (by omega)
 (refine cD Tryz.func189 rfl (by simp [Tryz.ntmps189]) ?_; rw [Tryz.ntmps189])
 repeat' (first|(apply aM;first|(apply vT;rfl;exact hcc;rfl;rfl)|(apply aE;rfl;rfl)|(apply aC;rfl;rfl)|(apply a8;rfl;rfl;rfl)|(apply aF;kernel_rfl))|(apply aN;first|apply aI|apply aB|apply aK)|with_reducible apply aA)
 refine bC (σ := Nat) [3, 8, 9] [(3, _), (8, _), (9, _)] [] [] (fun k => [(10, iv (k : Int))]) (fun k => [(1, some (aH eG m))]) (fun k => k ≤ m.length) (fun k => m.length - k) (0) (Nat.zero_le _) rfl rfl (by repeat' (first|exact trivial|refine And.intro rfl ?_)) (by repeat' (first|exact trivial|refine And.intro (.inr rfl) ?_)) ?_
 rintro i hi
 by_cases hin : i < m.length
 ·have hst : m[i]!.stk.length ≤ 200 := (((iZ m).1 hm).2 i hin).l.2
  have hct := y8 m[i]!.stk (by omega)
  repeat' (first|(apply aM;first|(apply pK;rfl;exact hct;rfl;rfl)|(with_reducible apply dE (d := 20))|(apply aE;rfl;rfl)|(first|(apply fZ;(case hx|hH => rfl);(case hf|hg|hα => infer_instance);(case hk => omega);(case h0|hN => rfl))|(apply aL;rfl;rfl;rfl;rfl))|(apply aD;rfl;rfl;rfl)|(apply aR;rfl;rfl;rfl;rfl)|(apply aC;rfl;rfl)|(apply cL;rfl;rfl;(assumption);rfl)|(apply aF;kernel_rfl)|(apply bE;rfl;rfl)|(apply aW;rfl;rfl;rfl;rfl;rfl;(case hl => (simp;done));(exact (rfl:_=[_, _, _, _]))))|(apply aN;first|apply aI|apply aB|(apply aO;rfl;all_goals intro hc;have hq:=hc;(try simp only [cF] at hq);try exfalso;omega)|apply aK|apply aS)|with_reducible apply aA)
  refine eR (iT ?_ (Le.frzD (d := 19) (i := 4) rfl rfl))
  repeat' (first|(apply aM;first|(apply aE;rfl;rfl)|(apply aD;rfl;rfl;rfl)|(apply bU;rfl;rfl;omega;rfl)|(apply cL;rfl;rfl;(assumption);rfl)|(apply aF;kernel_rfl)|(apply aW;rfl;rfl;rfl;rfl;rfl;(rw [aT]; simp only [gX] <;> omega);(exact CA (by (assumption)))))|(apply aN;(apply aB))|with_reducible apply aA|with_reducible apply aX)
  (apply dW (i + 1);focus (refine Le.ren [(1, 1)] rfl (by decide) ?_ ?_ <;> repeat' (first|exact trivial|refine And.intro ⟨_, rfl, ?_⟩ ?_|refine And.intro ⟨_, _, rfl, rfl, ?_⟩ ?_|exact Or.inr rfl|refine Or.inl ⟨?_, (by first|rfl|exact aZ _ _)⟩|rfl)))
  ·omega
  ·omega
 ·repeat' (first | (apply aM; first | (apply aE;rfl;rfl) | (apply aR;rfl;rfl;rfl;rfl) | (apply aC;rfl;rfl) | (apply aF;kernel_rfl)) | (apply aN; first | apply aI | apply aB | (apply aO;rfl;all_goals intro hc;have hq:=hc;(try simp only [cF] at hq);try exfalso;omega) | apply bI | apply aQ) | with_reducible apply aA | with_reducible apply bJ | with_reducible apply bH)
  (refine aP rfl ?_; refine bY () trivial ?_ ⟨.inr (Eq.trans (b := some _) rfl ?_), trivial⟩)
  ·rfl
  ·rfl
theorem tK (m : List Cl) (j : Nat) (hm : OkM m) (hj : j < m.length) : MC Tryz.prog 189 [sl eG m] [] 0 (fun _ : Unit => True) (fun _ => .own 1 0 m.length 4) (fun _ => [(1, some (aH gR (e6 m j (.own 2 0 m[j]!.stk.length 2)))), (2, some (aH eJ m[j]!.stk))]) := by
 have hml := hm.l
 have hcc := zV m (by omega)
 (refine cD Tryz.func189 rfl (by simp [Tryz.ntmps189]) ?_; rw [Tryz.ntmps189])
 repeat' (first|(apply aM;first|(apply vT;rfl;exact hcc;rfl;rfl)|(apply aE;rfl;rfl)|(apply aC;rfl;rfl)|(apply a8;rfl;rfl;rfl)|(apply aF;kernel_rfl))|(apply aN;first|apply aI|apply aB|apply aK)|with_reducible apply aA)
 refine AW.le ?_ (Le.bump 1)
 refine bC (σ := Nat × Bool) [3, 8, 9] [(3, _), (8, _), (9, _)] [] [] (fun k => [(10, iv (k.1 : Int))]) (fun k => [(1, some (cond k.2 (aH gR (e6 m j (.own 2 0 m[j]!.stk.length 2))) (aH eG m))), (2, cond k.2 (some (aH eJ m[j]!.stk)) none)]) (fun k => k.1 ≤ m.length ∧ k.2 = decide (j < k.1)) (fun k => m.length - k.1) (0, false) ⟨Nat.zero_le _, by simp⟩ rfl rfl (by repeat' (first|exact trivial|refine And.intro rfl ?_)) (by repeat' (first|exact trivial|refine And.intro (.inr rfl) ?_)) ?_
 rintro ⟨i, b⟩ ⟨hi, hb⟩
 dsimp only at hi hb ⊢
 by_cases hin : i < m.length
 ·have hst : m[i]!.stk.length ≤ 200 := (((iZ m).1 hm).2 i hin).l.2
  have hct := y8 m[i]!.stk (by omega)
  by_cases hij : j < i
  ·rw [decide_eq_true hij] at hb; subst hb
   simp only [cond_true]
   have hol := eT (m := m) (j := j) (X := .own 2 0 m[j]!.stk.length 2)
   have hon := B9 (m := m) (i := i) (j := j) (X := .own 2 0 m[j]!.stk.length 2) hin (by omega)
   repeat' (first|(apply aM;first|(with_reducible apply dE (d := 5))|(apply aE;rfl;rfl)|(apply fZ;(case hx|hH => rfl);(case hf|hg|hα => infer_instance);(case hk => omega);(case h0|hN => rfl))|(apply aR;rfl;rfl;rfl;rfl)|(apply cL;rfl;rfl;(assumption);rfl)|(apply aF;kernel_rfl))|(apply aN;first|apply aI|apply aB|(apply aO;rfl;all_goals intro hc;have hq:=hc;(try simp only [cF] at hq);try exfalso;omega)|apply aK|apply aS)|with_reducible apply aA)
   refine eR ?_
   rw [hon]
   dsimp only [qM]
   repeat' (first|(apply aM;first|(apply pK;rfl;exact hct;rfl;rfl)|(with_reducible apply dE (d := 20))|(apply aE;rfl;rfl)|(apply aL;rfl;rfl;rfl;rfl)|(apply aD;rfl;rfl;rfl)|(apply aC;rfl;rfl)|(apply aF;kernel_rfl)|(apply bE;rfl;rfl)|(apply aW;rfl;rfl;rfl;rfl;rfl;(case hl => (simp;done));(exact (rfl:_=[_, _, _, _]))))|(apply aN;(apply aB))|with_reducible apply aA)
   refine eR (iT ?_ (Le.frzD (d := 19) (i := 5) rfl rfl))
   repeat' (first|(apply aM;first|(apply aE;rfl;rfl)|(apply aD;rfl;rfl;rfl)|(apply bU;rfl;rfl;omega;rfl)|(apply cL;rfl;rfl;(assumption);rfl)|(apply aF;kernel_rfl)|(apply aW;rfl;rfl;rfl;rfl;rfl;(rw [aT]; simp only [gX] <;> omega);(exact Hm (by (omega)))))|(apply aN;(apply aB))|with_reducible apply aA|with_reducible apply aX)
   (apply dW (i + 1, true);focus (refine Le.ren [(1, 1), (2, 2)] rfl (by decide) ?_ ?_ <;> repeat' (first|exact trivial|refine And.intro ⟨_, rfl, ?_⟩ ?_|refine And.intro ⟨_, _, rfl, rfl, ?_⟩ ?_|exact Or.inr rfl|refine Or.inl ⟨?_, (by first|rfl|exact aZ _ _)⟩|rfl)))
   ·exact Or.inr (C7 hj rfl)
   ·exact ⟨by dsimp only;omega, by dsimp only;rw [decide_eq_true (by omega)]⟩
   ·dsimp only;omega
  ·rw [decide_eq_false hij] at hb; subst hb
   simp only [cond_false]
   repeat' (first|(apply aM;first|(apply pK;rfl;exact hct;rfl;rfl)|(with_reducible apply dE (d := 20))|(apply aE;rfl;rfl)|(first|(apply fZ;(case hx|hH => rfl);(case hf|hg|hα => infer_instance);(case hk => omega);(case h0|hN => rfl))|(apply aL;rfl;rfl;rfl;rfl))|(apply aD;rfl;rfl;rfl)|(apply aR;rfl;rfl;rfl;rfl)|(apply aC;rfl;rfl)|(apply cL;rfl;rfl;(assumption);rfl)|(apply aF;kernel_rfl)|(apply bE;rfl;rfl)|(apply aW;rfl;rfl;rfl;rfl;rfl;(case hl => (simp;done));(exact (rfl:_=[_, _, _, _]))))|(apply aN;first|apply aI|apply aB|(apply aO;rfl;all_goals intro hc;have hq:=hc;(try simp only [cF] at hq);try exfalso;omega)|apply aK|apply aS)|with_reducible apply aA)
   by_cases hie : i = j
   ·subst hie
    refine eR ?_
    repeat' (first|(apply aM;first|(apply aE;rfl;rfl)|(apply aD;rfl;rfl;rfl)|(apply bU;rfl;rfl;omega;rfl)|(apply cL;rfl;rfl;(assumption);rfl)|(apply aF;kernel_rfl)|(apply aW;rfl;rfl;rfl;rfl;rfl;(rw [aT]; simp only [gX] <;> omega);(exact HS (by (assumption)))))|(apply aN;(apply aB))|with_reducible apply aA|with_reducible apply aX)
    (apply dW (i + 1, true);focus (refine Le.ren [(1, 1), (2, 5)] rfl (by decide) ?_ ?_ <;> repeat' (first|exact trivial|refine And.intro ⟨_, rfl, ?_⟩ ?_|refine And.intro ⟨_, _, rfl, rfl, ?_⟩ ?_|exact Or.inr rfl|refine Or.inl ⟨?_, (by first|rfl|exact aZ _ _)⟩|rfl)))
    ·exact Or.inr (C7 hin rfl)
    ·exact ⟨by dsimp only;omega, by dsimp only;rw [decide_eq_true (by omega)]⟩
    ·dsimp only;omega
   ·refine eR (iT ?_ (Le.frzD (d := 19) (i := 5) rfl rfl))
    repeat' (first|(apply aM;first|(apply aE;rfl;rfl)|(apply aD;rfl;rfl;rfl)|(apply bU;rfl;rfl;omega;rfl)|(apply cL;rfl;rfl;(assumption);rfl)|(apply aF;kernel_rfl)|(apply aW;rfl;rfl;rfl;rfl;rfl;(rw [aT]; simp only [gX] <;> omega);(exact CA (by (assumption)))))|(apply aN;(apply aB))|with_reducible apply aA|with_reducible apply aX)
    (apply dW (i + 1, false);focus (refine Le.ren [(1, 1)] rfl (by decide) ?_ ?_ <;> repeat' (first|exact trivial|refine And.intro ⟨_, rfl, ?_⟩ ?_|refine And.intro ⟨_, _, rfl, rfl, ?_⟩ ?_|exact Or.inr rfl|refine Or.inl ⟨?_, (by first|rfl|exact aZ _ _)⟩|rfl)))
    ·exact ⟨by dsimp only;omega, by dsimp only;rw [decide_eq_false (by omega)]⟩
    ·dsimp only;omega
 ·rw [decide_eq_true (by omega)] at hb; subst hb
  simp only [cond_true]
  repeat' (first|(apply aM;first|(apply aE;rfl;rfl)|(apply aR;rfl;rfl;rfl;rfl)|(apply aC;rfl;rfl)|(apply aF;kernel_rfl))|(apply aN;first|apply aI|apply aB|(apply aO;rfl;all_goals intro hc;have hq:=hc;(try simp only [cF] at hq);try exfalso;omega)|apply bI|apply aQ)|with_reducible apply aA|with_reducible apply bJ|with_reducible apply bH)
  (refine aP rfl ?_; refine bY () trivial ?_ ⟨.inr (Eq.trans (b := some _) rfl ?_), ⟨.inr (Eq.trans (b := some _) rfl ?_), trivial⟩⟩)
  ·rfl
  ·rfl
  ·rfl
theorem m5 {m : List Cl} {x : Pt} {wr : Bool} {n : Nat} {N : Nat} {Q : Exit → AS → Prop} {all : Array Oper} {rest : List Oper} {tsl : List (Nat × AV)} {hsl : List (Nat × Option (List AV))} {nidl : Nat} {z0 : Lo} {md : Md} {d : Nat} {ty : TypeId} {pos : String} {af : Array Edge} {tys : Array TypeId} {x0 x1 x2 : Operand} {i0 : Nat} (ha0 : ev (lk tsl) x0 = some (.own i0 0 n 4)) (ha1 : ev (lk tsl) x1 = some (FZ x)) (ha2 : ev (lk tsl) x2 = some (bv wr)) (hH0 : cJ hsl i0 = some (aH eG m)) (hmc : MC Tryz.prog 190 [.own 0 0 n 4, FZ x, bv wr] [(0, some (aH eG m))] 1 (fun _ : Unit => True) (fun _ => iv (dB m x wr)) (fun _ => [(0, some (aH eG m))])) (hM : Nat.ble (nidl + 0) fG = true) (hN : Nat.blt d N = true) {md' : Md} [hmd : MdA md (hG [x0, x1, x2] ++ [.inr i0]) (List.map Sum.inr (List.map Prod.fst ([(i0, some (aH eG m))] : List (Nat × Option (List AV)))) ++ [.inl d]) md'] (kk : RW Tryz.prog N all Q md' rest ⟨(d, iv (dB m x wr)) :: tsl, jF hsl [(i0, some (aH eG m))], nidl + 0, z0⟩) : RW Tryz.prog N all Q md (⟨some d, .call ⟨.value (.func 190), #[x0, x1, x2], tys⟩, ty, pos, af, none⟩ :: rest) ⟨tsl, hsl, nidl, z0⟩ := by
 refine cM [i0] 1 [(i0, some (aH eG m))] hmc (avs := [.own i0 0 n 4, FZ x, bv wr]) ?_ rfl ?_ rfl ?_ (by simpa using hM) ?_ ?_ ?_ hN (md' := md') (hmd := hmd) kk
 ·show evL (lk tsl) [x0, x1, x2] = _
  simp only [evL, ha0, ha1, ha2]
 ·exact ⟨⟨_, _, rfl, hH0, by (repeat' (exact RnL.purI inferInstance))⟩, trivial⟩
 ·(repeat' (first|exact RnL.purI inferInstance|exact RnV.own rfl|refine RnL.cons ?_ ?_))
 ·(repeat' (exact RnV.purI inferInstance))
 ·simp [eA]
 ·(repeat' (first|exact trivial|(refine And.intro ⟨0, _, rfl, rfl, ?_⟩ ?_)|exact RnL.purI inferInstance))
theorem wC {m : List Cl} {j : Nat} {t : Int} {k n : Nat} {N : Nat} {Q : Exit → AS → Prop} {all : Array Oper} {rest : List Oper} {tsl : List (Nat × AV)} {hsl : List (Nat × Option (List AV))} {nidl : Nat} {z0 : Lo} {md : Md} {d : Nat} {ty : TypeId} {pos : String} {af : Array Edge} {tys : Array TypeId} {x0 x1 x2 : Operand} {i0 i1 : Nat} (ha0 : ev (lk tsl) x0 = some (.own i0 0 n 4)) (ha1 : ev (lk tsl) x1 = some (.agg [iv (j : Int), iv t])) (ha2 : ev (lk tsl) x2 = some (bv true)) (hH0 : cJ hsl i0 = some (aH gR (e6 m j (.own i1 0 m[j]!.stk.length 2)))) (hH1 : cJ hsl i1 = some (aH eJ m[j]!.stk)) (hdd : Go.AL.distinct [i0, i1] = true) (hmc : MC Tryz.prog 190 [.own 0 0 n 4, .agg [iv (j : Int), iv t], bv true] [(0, some (aH gR (e6 m j (.own 1 0 m[j]!.stk.length 2)))), (1, some (aH eJ m[j]!.stk))] 2 (fun _ : Unit => True) (fun _ => iv 0) (fun _ => [(0, some (aH gR (e6 m j (.own 1 0 (k + 1) 2)))), (1, some (aH eJ (m[j]!.stk.take (k + 1))))])) (hM : Nat.ble (nidl + 0) fG = true) (hN : Nat.blt d N = true) {md' : Md} [hmd : MdA md (hG [x0, x1, x2] ++ [.inr i0, .inr i1]) (List.map Sum.inr (List.map Prod.fst ([(i0, some (aH gR (e6 m j (.own i1 0 (k + 1) 2)))), (i1, some (aH eJ (m[j]!.stk.take (k + 1))))] : List (Nat × Option (List AV)))) ++ [.inl d]) md'] (kk : RW Tryz.prog N all Q md' rest ⟨(d, iv 0) :: tsl, jF hsl [(i0, some (aH gR (e6 m j (.own i1 0 (k + 1) 2)))), (i1, some (aH eJ (m[j]!.stk.take (k + 1))))], nidl + 0, z0⟩) : RW Tryz.prog N all Q md (⟨some d, .call ⟨.value (.func 190), #[x0, x1, x2], tys⟩, ty, pos, af, none⟩ :: rest) ⟨tsl, hsl, nidl, z0⟩ := by
 refine cM [i0, i1] 2 [(i0, some (aH gR (e6 m j (.own i1 0 (k + 1) 2)))), (i1, some (aH eJ (m[j]!.stk.take (k + 1))))] hmc (avs := [.own i0 0 n 4, .agg [iv (j : Int), iv t], bv true]) ?_ hdd ?_ rfl ?_ (by simpa using hM) ?_ ?_ ?_ hN (md' := md') (hmd := hmd) kk
 ·show evL (lk tsl) [x0, x1, x2] = _
  simp only [evL, ha0, ha1, ha2]
 ·exact ⟨⟨_, _, rfl, hH0, by (repeat' (exact nM rfl))⟩, ⟨⟨_, _, rfl, hH1, by (repeat' (exact RnL.purI inferInstance))⟩, trivial⟩⟩
 ·(repeat' (first|exact RnL.purI inferInstance|exact RnV.own rfl|refine RnL.cons ?_ ?_))
 ·(repeat' (exact RnV.purI inferInstance))
 ·simp [eA]
 ·(repeat' (first|exact trivial|(refine And.intro ⟨0, _, rfl, rfl, ?_⟩ ?_)|(refine And.intro ⟨1, _, rfl, rfl, ?_⟩ ?_)|exact RnL.purI inferInstance|exact nM rfl))
theorem LdL.app {D : List Nat} {H : Nat → Option (List AV)} : ∀ {a b c d : List AV}, LdL D H a b → LdL D H c d → dC a = true → LdL D H (a ++ c) (a ++ d)
 | [], _, _, _, _, h, _ => h
 | x :: a, b, c, d, h1, h, hp => by
  simp only [dC, Bool.and_eq_true] at hp
  exact .cons (.pur hp.1) (LdL.app (a := a) (b := a) (.pur hp.2) h hp.2)
theorem KH {D : List Nat} {H : Nat → Option (List AV)} {m : List Cl} {j i k : Nat} {r : List Tg} (hi : i ∈ D) (hH : H i = some (aH eJ r)) (hk : k = r.length) (hj : j < m.length) : LdL D H (aH gR (e6 m j (.own i 0 k 2))) (aH eG (m.set j { m[j]! with stk := r })) := by
 subst hk
 rw [← zP, jT hj, jT hj]
 have p1 : dC (aH eG (m.take j)) = true := (inferInstance : Pur (aH eG _)).pf
 have p2 : dC [iv m[j]!.val, bv m[j]!.alive, iv m[j]!.next] = true := rfl
 exact LdL.app (.pur p1) (LdL.app (.pur p2) (.cons (.own hi hH (.pur (inferInstance : Pur (aH eJ r)).pf)) (.pur (inferInstance : Pur (aH eG _)).pf)) p2) p1
theorem Dd {D : List Nat} {H : Nat → Option (List AV)} {m : List Cl} {j i : Nat} (hi : i ∈ D) (hH : H i = some (aH eJ m[j]!.stk)) (hj : j < m.length) : LdL D H (aH gR (e6 m j (.own i 0 m[j]!.stk.length 2))) (aH eG m) := by
 have h := KH (m := m) (r := m[j]!.stk) hi hH rfl hj
 rwa [show m.set j { m[j]! with stk := m[j]!.stk } = m from lV m j] at h
theorem Jo {m : List Cl} {x : Pt} {wr : Bool} (h : 0 ≤ x.cell) (h2 : x.cell < m.length) (h3 : m[x.cell.toNat]!.alive = true) (h4 : 0 ≤ dP m[x.cell.toNat]!.stk x.tag) (hw : wr = true) (h5 : m[x.cell.toNat]!.stk[(dP m[x.cell.toNat]!.stk x.tag).toNat]!.uq = false) : dB m x wr = 3 := by
 unfold dB;rw [if_neg (by omega), if_neg (by rw [h3]; decide), if_neg (by omega), if_pos ⟨hw, h5⟩]
theorem oI (m : List Cl) (x : Pt) (wr : Bool) (n : Nat) (hm : OkM m) (hn : n = m.length) (hk : dB m x wr ≠ 0) : MC Tryz.prog 190 [.own 0 0 n 4, FZ x, bv wr] [(0, some (aH eG m))] 1 (fun _ : Unit => True) (fun _ => iv (dB m x wr)) (fun _ => [(0, some (aH eG m))]) := by
 subst hn
 have hml := hm.l
 have hcv := iD m hm
 have hst : 0 ≤ x.cell → x.cell < m.length → m[x.cell.toNat]!.stk.length ≤ 200 := fun h1 h2 => (((iZ m).1 hm).2 x.cell.toNat (by omega)).l.2
 have hbd := g0 m[x.cell.toNat]!.stk x.tag
 have hidx := fun h => xE m[x.cell.toNat]!.stk x.cell x.tag h
 (refine cD Tryz.func190 rfl (by simp [Tryz.ntmps190]) ?_; rw [Tryz.ntmps190])
 repeat' (first|(apply aM;first|((with_reducible apply o6 (k := 187));(case ha => rfl);(case hl => (repeat' (first|exact mK|apply k8|exact m3 rfl inferInstance)));(case h => exact hcv);(case hfr|hN => rfl);(case hmd => infer_instance))|((apply iS 4);(case hx|hH|hc|hN => rfl))|((with_reducible apply aJ (k := 210));(case ha => rfl);(case h => exact (hidx (by have := hst (by omega) (by omega);omega)));(case hp => (exact Pur.pf));(case hN => rfl))|(with_reducible apply dE (d := 75))|(apply aE;rfl;rfl)|(first|(apply cX;(case hx|hH => rfl);(case hf|hg|hα => infer_instance);(case hk => omega);(case hc|hN => rfl))|(apply aL;rfl;rfl;rfl;rfl))|(apply aD;rfl;rfl;rfl)|(first|(apply a6;rfl;rfl;rfl;(first|rfl|assumption))|(apply bD;rfl;rfl;rfl;(assumption))|(apply bO;(case hj|hb|hN => rfl);all_goals (intro hg;have hq := hg;(try simp only [cF] at hq);(try (exfalso;omega)))))|(first|(apply fU;rfl;rfl;omega;rfl)|(apply aR;rfl;rfl;rfl;rfl))|(apply aC;rfl;rfl)|(first|(apply bR;rfl;(assumption);rfl;rfl)|(apply bF;rfl;(first|rfl|assumption);rfl;rfl))|(first|(apply dA;(case hx|hi => rfl);(case hm => (omega));(case hml => (rfl));(case hα | hf|hg => infer_instance);(case hN => rfl))|(apply cP;rfl;rfl;(omega);rfl))|((with_reducible apply aJ (k := 50));(case ha => rfl);(case h => (apply eD <;> (fail)));(case hp => (rfl));(case hN => rfl))|(apply a8;rfl;rfl;rfl)|(apply aF;kernel_rfl)|(apply cC;rfl;rfl)|(apply bW;rfl;rfl;rfl)|(apply b0;rfl;rfl;rfl;rfl))|(apply aN;first|apply aI|apply aB|(apply cS;rfl;(rfl))|(apply aO;rfl;all_goals intro hc;have hq:=hc;(try simp only [cF] at hq);try exfalso;omega)|apply aK|apply aS|apply aQ)|with_reducible apply aA|with_reducible apply bK|with_reducible apply cT)
 ·(refine aP rfl ?_; refine bY () trivial ?_ ⟨.inr (Eq.trans (b := some _) rfl ?_), trivial⟩)
  ·rw [Jp (by omega)]; rfl
  ·rfl
 ·(refine aP rfl ?_; refine bY () trivial ?_ ⟨.inr (Eq.trans (b := some _) rfl ?_), trivial⟩)
  ·rw [JC (by omega) (by omega) (by assumption)]; rfl
  ·rfl
 ·(refine aP rfl ?_; refine bY () trivial ?_ ⟨.inr (Eq.trans (b := some _) rfl ?_), trivial⟩)
  ·rw [KD (by omega) (by omega) (by assumption) (by assumption)]; rfl
  ·rfl
 ·(refine aP rfl ?_; refine bY () trivial ?_ ⟨.inr (Eq.trans (b := some _) rfl ?_), trivial⟩)
  ·rw [Jo (by omega) (by omega) (by assumption) (by assumption) (by assumption) (by assumption)]; rfl
  ·rfl
 ·exfalso
  have hw : wr = true := by assumption
  have hu : m[x.cell.toNat]!.stk[(dP m[x.cell.toNat]!.stk x.tag).toNat]!.uq = true := by assumption
  subst hw
  refine hk ?_
  rw [Iu, if_pos (Dr (by omega) (by omega) (by assumption) (by assumption)), if_neg (by rw [hu]; decide)]
 ·exfalso
  have hw : wr = false := by assumption
  subst hw
  exact hk (Dr (by omega) (by omega) (by assumption) (by assumption))
theorem sT (m : List Cl) (j : Nat) (t : Int) (k n : Nat) (hm : OkM m) (hn : n = m.length) (hj : j < m.length) (hk : dP m[j]!.stk t = (k : Int)) (hal : m[j]!.alive = true) (hu : m[j]!.stk[k]!.uq = true) : MC Tryz.prog 190 [.own 0 0 n 4, .agg [iv (j : Int), iv t], bv true] [(0, some (aH gR (e6 m j (.own 1 0 m[j]!.stk.length 2)))), (1, some (aH eJ m[j]!.stk))] 2 (fun _ : Unit => True) (fun _ => iv 0) (fun _ => [(0, some (aH gR (e6 m j (.own 1 0 (k + 1) 2)))), (1, some (aH eJ (m[j]!.stk.take (k + 1))))]) := by
 subst hn
 have hml := hm.l
 have hcv := iD m hm
 have hst : m[j]!.stk.length ≤ 200 := (((iZ m).1 hm).2 j hj).l.2
 have hbd := g0 m[j]!.stk t
 rw [hk] at hbd
 have hidx := xE m[j]!.stk (j : Int) t (by omega)
 rw [hk] at hidx
 have hog := iY (m := m) (j := j) (X := .own 1 0 m[j]!.stk.length 2) hj
 have hol := eT (m := m) (j := j) (X := .own 1 0 m[j]!.stk.length 2)
 (refine cD Tryz.func190 rfl (by simp [Tryz.ntmps190]) ?_; rw [Tryz.ntmps190])
 repeat' (first|(apply aM;first|((with_reducible apply o4 (k := 187) (D := [0, 1]) (h := hcv));(case ha => rfl);(case hl => exact .cons (.own (by simp) rfl (Dd (by simp) rfl hj)) .nil);(case hfr|hN => rfl))|(with_reducible apply dE (d := 35))|(apply aE;rfl;rfl)|(first|(apply cX;(case hx|hH => rfl);(case hf|hg|hα => infer_instance);(case hk => omega);(case hc|hN => rfl))|(apply aL;rfl;rfl;rfl;rfl))|(apply aD;rfl;rfl;rfl)|(apply a6;rfl;rfl;rfl;(rfl))|(apply fU;rfl;rfl;omega;rfl)|(apply aC;rfl;rfl)|(apply bF;rfl;(rfl);rfl;rfl)|(apply cL;rfl;rfl;(assumption);rfl)|((with_reducible apply aJ (k := 50));(case ha => rfl);(case h => (apply eD <;> (fail)));(case hp => (rfl));(case hN => rfl))|(apply a8;rfl;rfl;rfl)|(apply aF;kernel_rfl)|(apply cC;rfl;rfl)|(apply bW;rfl;rfl;rfl)|(apply b0;rfl;rfl;rfl;rfl))|(apply aN;first|apply aI|apply aB|(apply aO;rfl;all_goals intro hc;have hq:=hc;(try simp only [cF] at hq);try exfalso;omega)|apply aS|apply aQ)|with_reducible apply aA|with_reducible apply bK)
 all_goals (try (exfalso;omega))
 ·exfalso
  have h : (e6 m j (.own 1 0 m[j]!.stk.length 2))[j]!.alive = false := by assumption
  rw [hog] at h;simp only [hal] at h;cases h
 refine eR ?_
 rw [hog]
 dsimp only
 repeat' (first|(apply aM;first|((apply iS 4);(case hx|hH|hc|hN => rfl))|((with_reducible apply o4 (k := 210) (D := [1]) (h := hidx));(case ha => rfl);(case hl => exact .cons (.own (by simp) rfl (.pur (inferInstance : Pur (aH eJ _)).pf)) (.cons (.pur rfl) .nil));(case hfr|hN => rfl))|(with_reducible apply dE (d := 68))|(apply aE;rfl;rfl)|(apply cX;(case hx|hH => rfl);(case hf|hg|hα => infer_instance);(case hk => omega);(case hc|hN => rfl))|(apply aD;rfl;rfl;rfl)|(apply a6;rfl;rfl;rfl;(rfl))|(apply aR;rfl;rfl;rfl;rfl)|(apply aC;rfl;rfl)|(apply aF;kernel_rfl)|(apply bW;rfl;rfl;rfl))|(apply aN;first|apply aI|apply aB|(apply cS;rfl;(rfl))|apply aK)|with_reducible apply aA)
 refine eR ?_
 rw [hog]
 dsimp only
 repeat' (first|(apply aM;first|(with_reducible apply dE (d := 81))|(apply aE;rfl;rfl)|(apply cX;(case hx|hH => rfl);(case hf|hg|hα => infer_instance);(case hk => omega);(case hc|hN => rfl))|(apply aD;rfl;rfl;rfl)|(apply a6;rfl;rfl;rfl;(rfl))|(apply aC;rfl;rfl)|(apply bR;rfl;(rfl);rfl;rfl)|(apply cL;rfl;rfl;(omega);rfl)|(apply aF;kernel_rfl)|(apply cC;rfl;rfl)|(apply bW;rfl;rfl;rfl))|(apply aN;first|apply aI|apply aB|(apply bZ;rfl;(rfl))|(apply aO;rfl;all_goals intro hc;have hq:=hc;(try simp only [cF] at hq);try exfalso;omega)|apply aQ)|with_reducible apply aA|with_reducible apply bK|with_reducible apply cT)
 ·exfalso
  have h : m[j]!.stk[k]!.uq = false := by assumption
  rw [hu] at h;cases h
 refine eR ?_
 rw [hog]
 dsimp only
 repeat' (first|(apply aM;first|((apply iP (d := 83) (l := 0) (h := k + 1));(case hx|hn|hl => rfl);(case hh => exact pP rfl (by omega));(case hp => exact if_pos (by omega));(case hN => rfl))|(apply aE;rfl;rfl)|(apply aD;rfl;rfl;rfl)|(apply bU;rfl;rfl;omega;rfl)|(apply aC;rfl;rfl)|(apply aF;kernel_rfl)|(apply bW;rfl;rfl;rfl)|(apply aW;rfl;rfl;rfl;rfl;rfl;(rw [aT]; simp only [gX] <;> omega);(exact yG (by (assumption)))))|(apply aN;first|apply aI|apply aB|apply aQ)|with_reducible apply aA|with_reducible apply aX)
 refine cE (Le.cut (i := 1) ((k + 1) * 2) rfl) ?_
 (refine aP rfl ?_; refine bY () trivial ?_ ⟨.inr (Eq.trans (b := some _) rfl ?_), ⟨.inr (Eq.trans (b := some _) rfl ?_), trivial⟩⟩)
 ·rfl
 ·rfl
 ·rw [fA eJ (e := 2)]
end Go.Proofs.YtjcpngimjdckmaaGreat
