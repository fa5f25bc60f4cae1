/-
 A part of the proofs over this program: rules and contracts of its functions (the contracts).
-/
import Derived.Test.YtjcpngimjdckmaaGreatQ3B03
set_option linter.unusedVariables false
set_option linter.unusedSimpArgs false
set_option maxHeartbeats 8000000
set_option maxRecDepth 4000
attribute [local irreducible] Go.AL.RW Go.AL.AW Go.AL.Stop
namespace Go.Proofs.YtjcpngimjdckmaaGreat
open Go.AL Go.RowKit
class NumS (cs : List AV) (xs : outParam (List ByteArray)) : Prop where h : cs = aI y8 xs
instance NumS.nil : NumS [] [] := ⟨rfl⟩
instance NumS.cons {n : ByteArray} {cs : List AV} {xs : List ByteArray} [h : NumS cs xs] : NumS (.v (.string n) :: cs) (n :: xs) := ⟨by rw [h.h]; rfl⟩
theorem zI {cs : List AV} {xs : List ByteArray} {m : Nat} (h : NumS cs xs) (hm : m = xs.length) (hs : xs.all (fun s => decide (s.size ≤ 600)) = true) : ∃ ys : List ByteArray, AV.imm m cs = sl y8 ys ∧ ys.length = m ∧ ∀ i : Nat, (ys[i]!).size ≤ 600 := by
 refine ⟨xs, by rw [h.h, hm], hm.symm, fun i => ?_⟩
 by_cases hi : i < xs.length
 ·rw [List.all_eq_true] at hs
  rw [cL _ _ hi]
  simpa using hs _ (List.getElem_mem hi)
 ·rw [getElem!_neg xs i hi]; decide
theorem Dz : PC Tryz.prog 70 [] (fun r => ∃ ys : List ByteArray, r = sl y8 ys ∧ ys.length = 25 ∧ ∀ i : Nat, (ys[i]!).size ≤ 600) := by
 (refine aT Tryz.func70 rfl (by simp [Tryz.ntmps70]) ?_; rw [Tryz.ntmps70])
 repeat' (first|(apply aM;first|((apply bQ (t := _));(case hze|hsm|hl => rfl);(case hfl => exact (rfl:_=some [_, _, _, _, _, _, _, _, _, _, _, _, _, _, _, _, _, _, _, _, _, _, _, _, _]));(case hM|hN => rfl))|(apply aC;rfl;rfl)|(apply aF;kernel_rfl))|(apply aN;first|apply aH|apply aB|apply aQ)|with_reducible apply aA)
 refine sB (l := [.imm 25 [_, _, _, _, _, _, _, _, _, _, _, _, _, _, _, _, _, _, _, _, _, _, _, _, _]]) ?_ rfl ?_
 ·rintro _ ⟨ys, rfl, _⟩; exact aZ _ _
 ·exact zI inferInstance rfl (by decide)
theorem k9 {P : Program} {N : Nat} {Q : Exit → AS → Prop} {all : Array Oper} {rest : List Oper} {ts : List (Nat × AV)} {hs : List (Nat × Option (List AV))} {n : Nat} {z0 : Lo} {ty : TypeId} {pos : String} {af : Array Edge} {d : Nat} {args : Array Operand} {tys : Array TypeId}
  {k : FuncId} {pv : List AV} {p0 : Prg × Nat → Prop} {i p : Nat} {bs : List UInt8} (h : MC P k (.optr 0 0 :: pv) [(0, some (eZ bs p))] 1 p0 (fun x => dS x.1) (fun x => [(0, some (eZ bs x.2))])) [hc : CaT P k] (ha : evL (lk ts) args.toList = some (.optr i 0 :: pv)) (hpv : dD pv = true)
  (hH : cE hs i = some (eZ bs p)) (hM : Nat.ble (n + 0) fD = true) (hN : Nat.blt d N = true) (kk : ∀ x, p0 x → RW P N all Q .txt rest ⟨(d, dS x.1) :: ts, (i, some (eZ bs x.2)) :: hs, n + 0, z0⟩) :
  RW P N all Q .txt (⟨some d, .call ⟨.value (.func k), args, tys⟩, ty, pos, af, none⟩ :: rest) ⟨ts, hs, n, z0⟩ :=
 AD (σ := Prg × Nat) [i] 1 (fun x : Prg × Nat => [(i, some (eZ bs x.2))]) h ha rfl ⟨⟨_, _, rfl, hH, RnL.purI inferInstance⟩, trivial⟩ rfl (RnL.cons (RnV.optr rfl) (RnL.pur hpv)) (by simpa using hM)
  (fun x _ => RnV.purI inferInstance) (fun x _ => by simp [dQ]) (fun x _ => ⟨⟨0, _, rfl, rfl, RnL.purI inferInstance⟩, trivial⟩) hN kk
theorem xI (bs : List UInt8) (p : Nat) (xs : List Int) (lo hi : Int) (h0 : 0 < xs.length) (h : xs.all (fun x => decide (lo ≤ x) && decide (x ≤ hi)) = true) : lo ≤ gX bs p xs ∧ gX bs p xs ≤ hi := by
 have h1 := e9 bs p (xs.length : Int)
 rw [j5] at h
 have := h (cT bs p (xs.length : Int)).toNat (by omega)
 simp only [Bool.and_eq_true, decide_eq_true_eq] at this
 exact this
theorem Fv (bs : List UInt8) (p : Nat) (hb : bs.length ≤ 2000) (hp : p ≤ 1000) : MC Tryz.prog 74 [.optr 0 0] [(0, some (eZ bs p))] 1 (fun x : Prg × Nat => bT x.1.body ≤ 620 ∧ x.1.types.length ≤ 620 ∧ x.2 ≤ 2000) (fun x => dS x.1) (fun x => [(0, some (eZ bs x.2))]) := by
 have h0 := e9 bs p 25
 have hn := xI bs (p + 1 + 1) [5, 4, 7, 3, 8] 0 8 (by decide) (by decide)
 (refine b0 Tryz.func74 rfl (by simp [Tryz.ntmps74]) ?_; rw [Tryz.ntmps74])
 repeat' (first|(apply aM;first|((with_reducible apply gI (k := 70));(case ha => rfl);(case h => exact Dz);(case hp => (rfl));(case hN => rfl);(rintro _ ⟨ys, rfl, hyl, hsz⟩ _);(have hpk := e9 bs p (ys.length : Int)))|((with_reducible apply gI (k := 68));(case ha => rfl);(case h => exact mC _ (Nat.le_trans (hsz _) (by decide)));(case hp => (rfl));(case hN => rfl);(rintro _ ⟨q, b, rfl, hqc, hqt⟩ _))|((apply v7 (ts := [1, 2, 2, 3, 4, 4]));(case ha0|ha1|ha2|ha3|hH0 => rfl);(case hmc => (apply GD <;> (first|assumption|omega)));(case hM|hN => rfl))|(apply aE;rfl;rfl)|(first|(apply aK;rfl;rfl;rfl;rfl)|(apply aX;rfl;rfl;(exact (rfl:_=[_, _]));rfl;rfl;rfl))|(apply aD;rfl;rfl;rfl)|(first|(apply bB;rfl;rfl;rfl;(assumption))|(apply bC;rfl;rfl;rfl;(assumption))|(apply bK;(case hj|hb|hN => rfl);all_goals (intro hg;have hq := hg;(try simp only [cK] at hq);(try (exfalso;omega)))))|(apply aR;rfl;rfl;rfl;rfl)|(apply aC;rfl;rfl)|(first|(apply bS;rfl;(assumption);rfl;rfl)|(apply bI;rfl;(assumption);rfl;rfl))|(apply dA;(case hx|hi => rfl);(case hm => (omega));(case hml => (rfl));(case hα | hf|hg => infer_instance);(case hN => rfl))|(first|(apply iS;rfl;rfl;(rfl);(apply lF <;> (first|assumption|omega));rfl;rfl)|(apply oJ;rfl;rfl;rfl;rfl;infer_instance;rfl;(rfl);assumption;omega;(decide);(decide);rfl;rfl))|(apply a9;rfl;rfl;rfl)|(apply aF;kernel_rfl)|(apply b9;rfl;(exact (rfl:_=some [_, _]));(exact (rfl:_=[_, _]));rfl)|(apply bH;rfl;rfl)|(apply cD;rfl;rfl;rfl)|((apply bQ (t := _));(case hze|hsm|hl => rfl);(case hfl => (exact (rfl:_=some [_, _, _, _, _, _])));(case hM|hN => rfl))|(apply cA;rfl;rfl;rfl;(exact (rfl:_=some [_, _, _, _, _]));rfl;rfl)|(apply aW;rfl;rfl;rfl;rfl;rfl;(case hl => (first|decide|(simp;done)));(exact (rfl:_=[_, _]))))|(apply aN;first|apply aH|apply aB|(apply bZ;kernel_rfl)|(apply b8;rfl;(rfl))|(apply aO;rfl;all_goals intro hc;have hq:=hc;(try simp only [cK] at hq);try exfalso;omega)|apply aS|apply aQ)|with_reducible apply aA|with_reducible apply bJ)
 ·have h9 := hsz (cT bs p (ys.length : Int)).toNat
  refine aP rfl ?_
  exact bV (q, p + 1 + 1) ⟨by dsimp only;omega, by dsimp only;omega, by dsimp only;omega⟩ rfl ⟨.inr rfl, trivial⟩
 ·have h9 := Hv bs (d := 2) (by omega) (gX bs (p + 1 + 1) [5, 4, 7, 3, 8]) (p + 1 + 1 + 1)
  have h10 := wV bs (d := 2) (by omega) (gX bs (p + 1 + 1) [5, 4, 7, 3, 8]) (p + 1 + 1 + 1)
  refine aP rfl ?_
  exact bV ((⟨[1, 2, 2, 3, 4, 4], (eU bs 2 (gX bs (p + 1 + 1) [5, 4, 7, 3, 8]) (p + 1 + 1 + 1)).1⟩ : Prg), (eU bs 2 (gX bs (p + 1 + 1) [5, 4, 7, 3, 8]) (p + 1 + 1 + 1)).2) ⟨by dsimp only;omega, by show 6 ≤ 620;decide, by dsimp only;omega⟩ rfl ⟨.inr rfl, trivial⟩
 ·have h9 := hsz (cT bs p (ys.length : Int)).toNat
  refine aP rfl ?_
  exact bV (q, p + 1 + 1) ⟨by dsimp only;omega, by dsimp only;omega, by dsimp only;omega⟩ rfl ⟨.inr rfl, trivial⟩
theorem nK {bs : List UInt8} {N : Nat} {Q : Exit → AS → Prop} {all : Array Oper} {rest : List Oper} {tsl : List (Nat × AV)} {hsl : List (Nat × Option (List AV))} {nidl : Nat} {z0 : Lo} {md : Md} {d : Nat} {ty : TypeId} {pos : String} {af : Array Edge} {tys : Array TypeId} {x0 : Operand} (ha0 : ev (lk tsl) x0 = some (sl cU bs)) (hmc : MC Tryz.prog 46 [sl cU bs] [] 0 (fun _ : Unit => True) (fun _ => .optr 0 0) (fun _ => [(0, some (eZ (bs.take 2000) 0))])) (hM : Nat.ble (nidl + 1) fD = true) (hN : Nat.blt d N = true) {md' : Md} [hmd : MdA md (gS [x0] ++ []) (List.map Sum.inr (List.map Prod.fst ([(nidl, some (eZ (bs.take 2000) 0))] : List (Nat × Option (List AV)))) ++ [.inl d]) md'] (kk : RW Tryz.prog N all Q md' rest ⟨(d, .optr nidl 0) :: tsl, iK hsl [(nidl, some (eZ (bs.take 2000) 0))], nidl + 1, z0⟩) : RW Tryz.prog N all Q md (⟨some d, .call ⟨.value (.func 46), #[x0], tys⟩, ty, pos, af, none⟩ :: rest) ⟨tsl, hsl, nidl, z0⟩ := by
 refine cJ [] 1 [(nidl, some (eZ (bs.take 2000) 0))] hmc (avs := [sl cU bs]) ?_ rfl ?_ rfl ?_ (by simpa using hM) ?_ ?_ ?_ hN (md' := md') (hmd := hmd) kk
 ·show evL (lk tsl) [x0] = _
  simp only [evL, ha0]
 ·exact trivial
 ·(repeat' (exact RnL.purI inferInstance))
 ·(repeat' (exact RnV.optr rfl))
 ·simp [dQ]
 ·(repeat' (first|exact trivial|(refine And.intro ⟨0, _, rfl, rfl, ?_⟩ ?_)|exact RnL.purI inferInstance))
theorem pG (bs : List UInt8) (hb : bs.length ≤ 1048576) : MC Tryz.prog 46 [sl cU bs] [] 0 (fun _ : Unit => True) (fun _ => .optr 0 0) (fun _ => [(0, some (eZ (bs.take 2000) 0))]) := J7 bs hb
theorem yT (p : Prg) (L : List Iss) (hl : p.types.length ≤ 1000000) (hs : bT p.body ≤ 1000000) (hC : PC Tryz.prog 31 [dS p] (fun r => r = sl qJ L)) : PC Tryz.prog 19 [dS p] (fun r => r = bv (dC p && L.isEmpty)) := by
 (refine aT Tryz.func19 rfl (by simp [Tryz.ntmps19]) ?_; rw [Tryz.ntmps19])
 repeat' (first|(apply aM;first|((with_reducible apply aJ (k := 31));(case ha => rfl);(case h => exact hC);(case hp => (exact Pur.pf));(case hN => rfl))|(apply aE;rfl;rfl)|(apply aX;rfl;rfl;(exact (rfl:_=[_, _]));rfl;rfl;rfl)|(first|(apply bB;rfl;rfl;rfl;(assumption))|(apply bC;rfl;rfl;rfl;(assumption))|(apply bK;(case hj|hb|hN => rfl);all_goals (intro hg;have hq := hg;(try simp only [cK] at hq);(try (exfalso;omega)))))|(apply aR;rfl;rfl;rfl;rfl)|(apply aC;rfl;rfl)|(first|(apply bS;rfl;(assumption);rfl;rfl)|(apply bI;rfl;(assumption);rfl;rfl))|((with_reducible apply aJ (k := 49));(case ha => rfl);(case h => (apply sS <;> (first|assumption|omega)));(case hp => (exact Pur.pf));(case hN => rfl))|(apply a9;rfl;rfl;rfl)|(apply aF;kernel_rfl)|(apply bW;rfl;rfl;rfl;rfl))|(apply aN;first|apply aH|apply aB|apply aQ)|with_reducible apply aA)
 all_goals refine aP rfl ⟨?_, rfl⟩
 all_goals simp only [bX]
 ·rw [show dC p = true by assumption]
  cases L with
  | nil => rfl
  | cons a b => simp;omega
 ·rw [show dC p = false by assumption]; rfl
theorem GO (xs : List Int) (hl : xs.length ≤ 1000000) : PC Tryz.prog 103 [sl cI xs] (fun r => r = sl cI xs) := by
 (refine aT Tryz.func103 rfl (by simp [Tryz.ntmps103]) ?_; rw [Tryz.ntmps103])
 repeat' (first|(apply aM;first|(apply tY;rfl;rfl;(intro b hb))|(apply aE;rfl;rfl)|(apply aC;rfl;rfl)|(apply cF;rfl;rfl;rfl;rfl;rfl;(case hl => (simp [aU]; done));(exact sC (by (rfl)));omega;omega;(exact kH (by (omega)));rfl;rfl)|(apply aF;kernel_rfl)|(apply cA;rfl;rfl;rfl;(rfl);rfl;rfl))|(apply aN;first|apply aH|apply aB|(apply aO;rfl;all_goals intro hc;have hq:=hc;(try simp only [cK] at hq);try exfalso;omega)|apply aS|apply aQ)|with_reducible apply aA|with_reducible apply bJ)
 ·have h0 : xs = [] := List.eq_nil_of_length_eq_zero (hb (by assumption))
  subst h0
  (refine cC (Le.nilImm (d := 2) rfl) ?_; refine aP rfl ?_)
  exact ⟨rfl, rfl⟩
 ·(refine cC (Le.frzD (d := 2) (i := 1) rfl rfl) ?_; refine aP rfl ?_)
  refine ⟨?_, (by (exact aZ _ _))⟩
  simp only [bX, sl, Nat.zero_add]
theorem GI (mm : Nat) (hmm : mm ≤ 1000000) (own_ih : ∀ l, bT l < mm → PC Tryz.prog 71 [sl aY l] (fun r => r = sl aY l)) (l : List AL.Stmt) (hs : bT l ≤ mm) : PC Tryz.prog 71 [sl aY l] (fun r => r = sl aY l) := by
 have hlen := dL l
 (refine aT Tryz.func71 rfl (by simp [Tryz.ntmps71]) ?_; rw [Tryz.ntmps71])
 repeat' (first|(apply aM;first|((apply fU (d := 3) (e := 6));(case hM|hN => rfl))|(apply aE;rfl;rfl)|(apply aC;rfl;rfl)|(apply a9;rfl;rfl;rfl)|(apply aF;kernel_rfl))|(apply aN;first|apply aH|apply aB|apply aL)|with_reducible apply aA)
 refine a7 (σ := Nat × List AL.Stmt) [6, 7] [(6, _), (7, _)] [] [] (fun k => [(8, iv (k.1 : Int)), (3, .own 0 0 k.1 6)]) (fun k => [(0, some (aI aY k.2))]) (fun k => k.1 ≤ l.length ∧ k.2 = l.take k.1) (fun k => l.length - k.1) (0, []) ⟨by omega, rfl⟩ rfl rfl (by repeat' (first|exact trivial|refine And.intro rfl ?_)) (by repeat' (first|exact trivial|refine And.intro (.inr rfl) ?_)) ?_
 rintro ⟨k, xs⟩ ⟨hk, hxs⟩
 dsimp only at hk hxs ⊢
 have hck := fY l k
 have hct := iL l[k]!
 have hln : xs.length = k := by rw [hxs, List.length_take]; omega
 repeat' (first|(apply aM;first|(apply aE;rfl;rfl)|(first|(apply aK;rfl;rfl;rfl;rfl)|(apply aX;rfl;rfl;(exact (rfl:_=[_, _, _, _, _, _]));rfl;rfl;rfl))|(apply aD;rfl;rfl;rfl)|(first|(apply bR;rfl;rfl;omega;rfl)|(apply aR;rfl;rfl;rfl;rfl))|(apply aC;rfl;rfl)|(apply a6;(case hx|hi => rfl);(case hm => (omega));(case hml => (rfl));(case hα | hf|hg => infer_instance);(case hN => rfl))|((with_reducible apply aJ (k := 71));(case ha => rfl);(case h => (apply own_ih <;> (omega)));(case hp => (exact Pur.pf));(case hN => rfl))|(apply cF;rfl;rfl;rfl;rfl;rfl;(rw [aU]; omega);(rfl);omega;omega;(exact gV (by (omega)));rfl;rfl)|(apply aF;kernel_rfl)|(apply bH;rfl;rfl)|((apply bQ (t := _));(case hze|hsm|hl => rfl);(case hfl => (exact (rfl:_=some [_, _, _, _, _, _])));(case hM|hN => rfl))|(apply aW;rfl;rfl;rfl;rfl;rfl;(case hl => (simp;done));(exact (rfl:_=[_, _, _, _, _, _]))))|(apply aN;first|apply aH|apply aB|(apply bZ;kernel_rfl)|(apply aO;rfl;all_goals intro hc;have hq:=hc;(try simp only [cK] at hq);try exfalso;omega)|apply aL|apply aS|apply bF|apply aQ)|with_reducible apply aA|with_reducible apply bE|with_reducible apply aV|with_reducible apply bG)
 ·(apply dV (k + 1, _); focus (refine Le.ren [(0, 3)] rfl (by decide) ?_ ?_ <;> repeat' (first | exact trivial | refine And.intro ⟨_, rfl, ?_⟩ ?_ | refine And.intro ⟨_, _, rfl, rfl, ?_⟩ ?_ | exact Or.inr rfl | refine Or.inl ⟨?_, (by first | rfl | exact aZ _ _)⟩ | rfl)))
  ·exact ⟨by dsimp only;omega, by dsimp only;rw [hxs, c9 l k (by omega)]⟩
  ·dsimp only;omega
 ·have hke : k = l.length := by omega
  (refine cC (Le.frzD (d := 2) (i := 0) rfl rfl) ?_; refine aP rfl ?_)
  refine ⟨?_, Pur.pf⟩
  rw [hxs, hke, List.take_length]; rfl
theorem Jj (l : List AL.Stmt) (hb : bT l ≤ 1000000) : PC Tryz.prog 71 [sl aY l] (fun r => r = sl aY l) := by
 have key : ∀ m, m ≤ 1000000 → ∀ l, bT l ≤ m → PC Tryz.prog 71 [sl aY l] (fun r => r = sl aY l) := by
  intro m
  induction m with
  | zero => intro hm l hl;exact GI 0 hm (fun l h => by omega) l hl
  | succ m ih => intro hm l hl;exact GI (m + 1) hm (fun l h => ih (by omega) l (by omega)) l hl
 exact key (bT l) hb l (Nat.le_refl _)
theorem Kx (l : List AL.Stmt) (hs : bT l ≤ 1000000) : MC Tryz.prog 71 [sl aY l] [] 0 (fun _ : Unit => True) (fun _ => .own 0 0 l.length 6) (fun _ => [(0, some (aI aY l))]) := by
 have hlen := dL l
 (refine b0 Tryz.func71 rfl (by simp [Tryz.ntmps71]) ?_; rw [Tryz.ntmps71])
 repeat' (first|(apply aM;first|((apply fU (d := 3) (e := 6));(case hM|hN => rfl))|(apply aE;rfl;rfl)|(apply aC;rfl;rfl)|(apply a9;rfl;rfl;rfl)|(apply aF;kernel_rfl))|(apply aN;first|apply aH|apply aB|apply aL)|with_reducible apply aA)
 refine a7 (σ := Nat × List AL.Stmt) [6, 7] [(6, _), (7, _)] [] [] (fun k => [(8, iv (k.1 : Int)), (3, .own 0 0 k.1 6)]) (fun k => [(0, some (aI aY k.2))]) (fun k => k.1 ≤ l.length ∧ k.2 = l.take k.1) (fun k => l.length - k.1) (0, []) ⟨by omega, rfl⟩ rfl rfl (by repeat' (first|exact trivial|refine And.intro rfl ?_)) (by repeat' (first|exact trivial|refine And.intro (.inr rfl) ?_)) ?_
 rintro ⟨k, xs⟩ ⟨hk, hxs⟩
 dsimp only at hk hxs ⊢
 have hck := fY l k
 have hct := iL l[k]!
 have hln : xs.length = k := by rw [hxs, List.length_take]; omega
 have o1 := Jj l[k]!.th
 have o2 := Jj l[k]!.el
 repeat' (first|(apply aM;first|((with_reducible apply aJ (k := 71));(case ha => rfl);(case h => exact (o1 (by omega)));(case hp => (exact Pur.pf));(case hN => rfl))|((with_reducible apply aJ (k := 71));(case ha => rfl);(case h => exact (o2 (by omega)));(case hp => (exact Pur.pf));(case hN => rfl))|(apply aE;rfl;rfl)|(first|(apply aK;rfl;rfl;rfl;rfl)|(apply aX;rfl;rfl;(exact (rfl:_=[_, _, _, _, _, _]));rfl;rfl;rfl))|(apply aD;rfl;rfl;rfl)|(first|(apply bR;rfl;rfl;omega;rfl)|(apply aR;rfl;rfl;rfl;rfl))|(apply aC;rfl;rfl)|(apply a6;(case hx|hi => rfl);(case hm => (omega));(case hml => (rfl));(case hα | hf|hg => infer_instance);(case hN => rfl))|(apply cF;rfl;rfl;rfl;rfl;rfl;(rw [aU]; omega);(rfl);omega;omega;(exact gV (by (omega)));rfl;rfl)|(apply aF;kernel_rfl)|(apply bH;rfl;rfl)|((apply bQ (t := _));(case hze|hsm|hl => rfl);(case hfl => (exact (rfl:_=some [_, _, _, _, _, _])));(case hM|hN => rfl))|(apply aW;rfl;rfl;rfl;rfl;rfl;(case hl => (simp;done));(exact (rfl:_=[_, _, _, _, _, _]))))|(apply aN;first|apply aH|apply aB|(apply bZ;kernel_rfl)|(apply aO;rfl;all_goals intro hc;have hq:=hc;(try simp only [cK] at hq);try exfalso;omega)|apply aL|apply aS|apply bF|apply aQ)|with_reducible apply aA|with_reducible apply bE|with_reducible apply aV|with_reducible apply bG)
 ·(apply dV (k + 1, _); focus (refine Le.ren [(0, 3)] rfl (by decide) ?_ ?_ <;> repeat' (first | exact trivial | refine And.intro ⟨_, rfl, ?_⟩ ?_ | refine And.intro ⟨_, _, rfl, rfl, ?_⟩ ?_ | exact Or.inr rfl | refine Or.inl ⟨?_, (by first | rfl | exact aZ _ _)⟩ | rfl)))
  ·exact ⟨by dsimp only;omega, by dsimp only;rw [hxs, c9 l k (by omega)]⟩
  ·dsimp only;omega
 ·have hke : k = l.length := by omega
  have hxl : xs = l := by rw [hxs, hke, List.take_length]
  subst hke
  (refine aP rfl ?_; refine bV () trivial ?_ ⟨.inr (Eq.trans (b := some _) rfl ?_), trivial⟩)
  ·rfl
  ·rw [hxl]
theorem IK {l : List AL.Stmt} {N : Nat} {Q : Exit → AS → Prop} {all : Array Oper} {rest : List Oper} {tsl : List (Nat × AV)} {hsl : List (Nat × Option (List AV))} {nidl : Nat} {z0 : Lo} {md : Md} {d : Nat} {ty : TypeId} {pos : String} {af : Array Edge} {tys : Array TypeId} {x0 : Operand} (ha0 : ev (lk tsl) x0 = some (sl aY l)) (hmc : MC Tryz.prog 71 [sl aY l] [] 0 (fun _ : Unit => True) (fun _ => .own 0 0 l.length 6) (fun _ => [(0, some (aI aY l))])) (hM : Nat.ble (nidl + 1) fD = true) (hN : Nat.blt d N = true) {md' : Md} [hmd : MdA md (gS [x0] ++ []) (List.map Sum.inr (List.map Prod.fst ([(nidl, some (aI aY l))] : List (Nat × Option (List AV)))) ++ [.inl d]) md'] (kk : RW Tryz.prog N all Q md' rest ⟨(d, .own nidl 0 l.length 6) :: tsl, iK hsl [(nidl, some (aI aY l))], nidl + 1, z0⟩) : RW Tryz.prog N all Q md (⟨some d, .call ⟨.value (.func 71), #[x0], tys⟩, ty, pos, af, none⟩ :: rest) ⟨tsl, hsl, nidl, z0⟩ := by
 refine cJ [] 1 [(nidl, some (aI aY l))] hmc (avs := [sl aY l]) ?_ rfl ?_ rfl ?_ (by simpa using hM) ?_ ?_ ?_ hN (md' := md') (hmd := hmd) kk
 ·show evL (lk tsl) [x0] = _
  simp only [evL, ha0]
 ·exact trivial
 ·(repeat' (exact RnL.purI inferInstance))
 ·(repeat' (exact RnV.own rfl))
 ·simp [dQ]
 ·(repeat' (first|exact trivial|(refine And.intro ⟨0, _, rfl, rfl, ?_⟩ ?_)|exact RnL.purI inferInstance))
theorem IW {q : Prg} {N : Nat} {Q : Exit → AS → Prop} {all : Array Oper} {rest : List Oper} {tsl : List (Nat × AV)} {hsl : List (Nat × Option (List AV))} {nidl : Nat} {z0 : Lo} {md : Md} {d : Nat} {ty : TypeId} {pos : String} {af : Array Edge} {tys : Array TypeId} {x0 : Operand} (ha0 : ev (lk tsl) x0 = some (dS q)) (hmc : MC Tryz.prog 55 [dS q] [] 0 (fun _ : Unit => True) (fun _ => .agg [sl cI q.types, .own 2 0 q.body.length 6]) (fun _ => [(2, some (aI aY q.body))])) (hM : Nat.ble (nidl + 3) fD = true) (hN : Nat.blt d N = true) {md' : Md} [hmd : MdA md (gS [x0] ++ []) (List.map Sum.inr (List.map Prod.fst ([((nidl + 2), some (aI aY q.body))] : List (Nat × Option (List AV)))) ++ [.inl d]) md'] (kk : RW Tryz.prog N all Q md' rest ⟨(d, .agg [sl cI q.types, .own (nidl + 2) 0 q.body.length 6]) :: tsl, iK hsl [((nidl + 2), some (aI aY q.body))], nidl + 3, z0⟩) : RW Tryz.prog N all Q md (⟨some d, .call ⟨.value (.func 55), #[x0], tys⟩, ty, pos, af, none⟩ :: rest) ⟨tsl, hsl, nidl, z0⟩ := by
 refine cJ [] 3 [((nidl + 2), some (aI aY q.body))] hmc (avs := [dS q]) ?_ rfl ?_ rfl ?_ (by simpa using hM) ?_ ?_ ?_ hN (md' := md') (hmd := hmd) kk
 ·show evL (lk tsl) [x0] = _
  simp only [evL, ha0]
 ·exact trivial
 ·(repeat' (exact RnL.purI inferInstance))
 ·(repeat' (first|exact RnL.purI inferInstance|exact RnV.purI inferInstance|exact RnV.own rfl|refine RnL.cons ?_ ?_|refine RnV.agg ?_))
 ·simp [dQ]
 ·(repeat' (first|exact trivial|(refine And.intro ⟨2, _, rfl, rfl, ?_⟩ ?_)|exact RnL.purI inferInstance))
theorem Ku (q : Prg) (hs : bT q.body ≤ 1000000) (ht : q.types.length ≤ 1000000) : MC Tryz.prog 55 [dS q] [] 0 (fun _ : Unit => True) (fun _ => .agg [sl cI q.types, .own 2 0 q.body.length 6]) (fun _ => [(2, some (aI aY q.body))]) := by
 have h1 := GO q.types ht
 (refine b0 Tryz.func55 rfl (by simp [Tryz.ntmps55]) ?_; rw [Tryz.ntmps55])
 repeat' (first|(apply aM;first|((with_reducible apply aJ (k := 103));(case ha => rfl);(case h => exact h1);(case hp => (exact Pur.pf));(case hN => rfl))|(apply IK;rfl;(apply Kx;assumption);rfl;rfl)|(apply aK;rfl;rfl;rfl;rfl)|(apply aD;rfl;rfl;rfl)|(apply aF;kernel_rfl)|(apply b9;rfl;(exact (rfl:_=some [_, _]));(exact (rfl:_=[_, _]));rfl)|(apply bW;rfl;rfl;rfl;rfl)|(apply bH;rfl;rfl)|(apply aW;rfl;rfl;rfl;rfl;rfl;(case hl => (simp;done));(exact (rfl:_=[_, _]))))|(apply aN;first|apply aH|apply aB|(apply bZ;kernel_rfl)|apply aQ)|with_reducible apply aA)
 (refine aP rfl ?_; refine bV () trivial ?_ ⟨.inr (Eq.trans (b := some _) rfl ?_), trivial⟩)
 ·rfl
 ·rfl
theorem tO {stk : List Tg} {id : Int} (h : 0 ≤ cP stk id) : ∀ k < (cP stk id).toNat, stk[k]!.id ≠ id := by
 unfold cP at h ⊢
 split
 ·rename_i k hk
  obtain ⟨h1, h2, h3⟩ := List.findIdx?_eq_some_iff_getElem.1 hk
  rw [Int.toNat_natCast]
  intro j hj he
  have := h3 j hj
  rw [cL _ _ (by omega)] at he
  simp [he] at this
 ·rename_i hk;rw [hk] at h;dsimp only at h;omega
theorem Dn {stk : List Tg} {id : Int} {i : Nat} (hi : i < stk.length) (h : stk[i]!.id = id) (hn : ∀ k < i, stk[k]!.id ≠ id) : cP stk id = (i : Int) := by
 have hb := e7 stk id
 by_cases hneg : cP stk id < 0
 ·have := mM.1 hneg stk[i]! (by rw [cL _ _ hi]; exact List.getElem_mem hi)
  exact absurd h this
 ·have ha := kX (stk := stk) (id := id) (by omega)
  have hf := tO (stk := stk) (id := id) (by omega)
  rcases Nat.lt_trichotomy (cP stk id).toNat i with h1|h1|h1
  ·exact absurd ha (hn _ h1)
  ·omega
  ·exact absurd h (hf _ h1)
theorem Dj (c : Cl) : OkC c ↔ (0 ≤ c.val ∧ c.val ≤ 9) ∧ (1 ≤ c.next ∧ c.next ≤ 1000) ∧ (1 ≤ c.stk.length ∧ c.stk.length ≤ 200) ∧ c.stk[0]!.uq = true ∧ (∀ k < c.stk.length, 0 ≤ c.stk[k]!.id ∧ c.stk[k]!.id < c.next ∧ cP c.stk c.stk[k]!.id = (k : Int)) := by
 constructor
 ·intro h
  refine ⟨h.v, h.n, h.l, h.u, fun k hk => ?_⟩
  have h1 := h.i c.stk[k]! (by rw [cL _ _ hk]; exact List.getElem_mem hk)
  refine ⟨h1.1, h1.2, Dn hk rfl (fun j hj he => ?_)⟩
  have hd := List.nodup_iff_pairwise_ne.1 h.d |> List.pairwise_iff_getElem.1
  have := hd j k (by rw [List.length_map]; omega) (by rw [List.length_map]; omega) hj
  simp only [List.getElem_map] at this
  rw [cL _ _ (by omega), cL _ _ hk] at he
  exact this he
 ·rintro ⟨h1, h2, h3, h4, h5⟩
  refine ⟨h1, h2, h3, h4, fun t ht => ?_, ?_⟩
  ·obtain ⟨k, hk, rfl⟩ := List.getElem_of_mem ht
   have := h5 k hk;rw [cL _ _ hk] at this
   exact ⟨this.1, this.2.1⟩
  ·rw [List.nodup_iff_pairwise_ne, List.pairwise_iff_getElem]
   intro i j hi hj hij he
   rw [List.length_map] at hi hj
   simp only [List.getElem_map] at he
   have a := (h5 i hi).2.2
   have b := (h5 j hj).2.2
   rw [cL _ _ hi] at a;rw [cL _ _ hj, ← he, a] at b
   omega
instance (c : Cl) : Decidable (OkC c) := decidable_of_iff _ (Dj c).symm
theorem jC (m : List Cl) : OkM m ↔ m.length ≤ 200 ∧ ∀ k < m.length, OkC m[k]! := by
 constructor
 ·exact fun h => ⟨h.l, fun k hk => h.c _ (by rw [cL _ _ hk]; exact List.getElem_mem hk)⟩
 ·exact fun h => ⟨h.1, fun c hc => by obtain ⟨k, hk, rfl⟩ := List.getElem_of_mem hc;have := h.2 k hk;rwa [cL _ _ hk] at this⟩
instance (m : List Cl) : Decidable (OkM m) := decidable_of_iff _ (jC m).symm
theorem rP (k : Int) : PC Tryz.prog 156 [iv k] (fun r => r = iv (iX k)) := by
 (refine aT Tryz.func156 rfl (by simp [Tryz.ntmps156]) ?_; rw [Tryz.ntmps156])
 repeat' (first|(apply aM;first|(apply aE;rfl;rfl)|(apply aR;rfl;rfl;rfl;rfl)|(apply aC;rfl;rfl)|(apply aF;kernel_rfl))|(apply aN;first|apply aH|apply aB|(apply aO;rfl;all_goals intro hc;have hq:=hc;(try simp only [cK] at hq);try exfalso;omega)|apply aS|apply aQ)|with_reducible apply aA|with_reducible apply bJ|((with_reducible apply aP);case hr => rfl))
 all_goals (refine ⟨?_, rfl⟩; simp only [bX, AV.v.injEq, Value.bool.injEq, Value.int.injEq, true_and])
 all_goals grind [iX]
theorem G1 {xs : List Tg} {m : Nat} {a : Int} {b : Bool} (hm : m = xs.length) : ((aI eF xs).drop 0).take (m * 2) ++ [iv a, bv b] = aI eF (xs ++ [⟨a, b⟩]) := iC hm rfl
theorem D8 {α} {p : α → Bool} {a : α} (h : p a = true) : [a].filter p = [a] := by simp [h]
theorem vC {α} {p : α → Bool} {a : α} (h : p a = false) : [a].filter p = [] := by simp [h]
theorem KM {m : List Cl} {x : Pt} {wr : Bool} (h : x.cell < 0 ∨ (m.length : Int) ≤ x.cell) : cR m x wr = 4 := by
 unfold cR;rw [if_pos (by omega)]
theorem Kv {m : List Cl} {x : Pt} {wr : Bool} (h : 0 ≤ x.cell) (h2 : x.cell < m.length) (h3 : m[x.cell.toNat]!.alive = false) : cR m x wr = 1 := by
 unfold cR;rw [if_neg (by omega), if_pos h3]
theorem J1 {m : List Cl} {x : Pt} {wr : Bool} (h : 0 ≤ x.cell) (h2 : x.cell < m.length) (h3 : m[x.cell.toNat]!.alive = true) (h4 : cP m[x.cell.toNat]!.stk x.tag < 0) : cR m x wr = 2 := by
 unfold cR;rw [if_neg (by omega), if_neg (by rw [h3]; decide), if_pos h4]
theorem De {m : List Cl} {x : Pt} (h : 0 ≤ x.cell) (h2 : x.cell < m.length) (h3 : m[x.cell.toNat]!.alive = true) (h4 : 0 ≤ cP m[x.cell.toNat]!.stk x.tag) : cR m x false = 0 := by
 unfold cR;rw [if_neg (by omega), if_neg (by rw [h3]; decide), if_neg (by omega), if_neg (by intro q;exact absurd q.1 (by decide))]
theorem HU {m : List Cl} {x : Pt} : cR m x true = if cR m x false = 0 then (if m[x.cell.toNat]!.stk[(cP m[x.cell.toNat]!.stk x.tag).toNat]!.uq = false then 3 else 0) else cR m x false := by
 unfold cR
 split
 ·rw [if_neg (by decide)]
 ·split
  ·rw [if_neg (by decide)]
  ·split
   ·rw [if_neg (by decide)]
   ·rw [if_neg (c := false = true ∧ _) (by intro q; exact absurd q.1 (by decide)), if_pos rfl]
    simp only [true_and]
theorem iZ {m : List Cl} {x : Pt} {wr : Bool} (h : cR m x wr = 0) : 0 ≤ x.cell ∧ x.cell < m.length ∧ m[x.cell.toNat]!.alive = true ∧ 0 ≤ cP m[x.cell.toNat]!.stk x.tag ∧ (wr = true → m[x.cell.toNat]!.stk[(cP m[x.cell.toNat]!.stk x.tag).toNat]!.uq = true) := by
 unfold cR at h
 split at h
 ·omega
 ·split at h
  ·omega
  ·split at h
   ·omega
   ·split at h
    ·omega
    ·rename_i a b c d
     refine ⟨by omega, by omega, by simpa using b, by omega, fun hw => ?_⟩
     by_cases q : m[x.cell.toNat]!.stk[(cP m[x.cell.toNat]!.stk x.tag).toNat]!.uq = false
     ·exact absurd ⟨hw, q⟩ d
     ·simpa using q
theorem KO {xs : List Cl} {k : Nat} {s : List Tg} (hk : k < xs.length) : iR (aI eC xs) (0 + k * 4 + 3) [sl eF s] = aI eC (xs.set k { xs[k]! with stk := s }) := fW hk (by simp) rfl
theorem lS {α : Type} {f : α → List AV} {xs : List α} {n : Nat} (h : n = xs.length) : AV.imm n (aI f xs) = sl f xs := by subst h; rfl
theorem l0 {m : List Cl} {x : Pt} {wr : Bool} : (fL m x wr).length = m.length := by
 unfold fL;split
 ·rw [List.length_set]
 ·rfl
theorem set_set {α : Type} {l : List α} {i : Nat} {a b : α} : (l.set i a).set i b = l.set i b := by simp
theorem rE {α : Type} [Inhabited α] {l : List α} {i : Nat} {a : α} (h : i < l.length) : (l.set i a)[i]! = a := by rw [cL _ _ (by rw [List.length_set]; exact h), List.getElem_set_self]
def tH (m : List Cl) (j : Nat) (r : List Tg) : Prop := r.length = 200 ∨ m[j]!.next = 1000
instance (m : List Cl) (j : Nat) (r : List Tg) : Decidable (tH m j r) := by unfold tH; infer_instance
def nY (m b : List Cl) (j : Nat) (u : Bool) (r : List Tg) : List Cl := if tH m j r then b else m.set j (psh { m[j]! with stk := r } u)
def qN (m : List Cl) (j : Nat) (r : List Tg) : Pt := if tH m j r then ⟨0, 0⟩ else ⟨j, m[j]!.next⟩
def oS (m : List Cl) (j : Nat) (r : List Tg) : Int := if tH m j r then 4 else 0
theorem m7 {m : List Cl} {x : Pt} {u : Bool} {r : List Tg} (hk : cR m x u = 0) (hr : r = eQ m[x.cell.toNat]!.stk (cP m[x.cell.toNat]!.stk x.tag).toNat u) : qI m x u = oS m x.cell.toNat r ∧ m8 m x u = nY m m x.cell.toNat u r ∧ zW m x u = qN m x.cell.toNat r := by
 obtain ⟨h1, h2, _⟩ := iZ hk
 subst hr
 have e : qI m x u = oS m x.cell.toNat (eQ m[x.cell.toNat]!.stk (cP m[x.cell.toNat]!.stk x.tag).toNat u) := by
  unfold qI;rw [if_pos hk]; rfl
 refine ⟨e, ?_, ?_⟩
 ·unfold m8 nY
  rw [e]; unfold oS
  split
  ·rw [if_neg (by decide)]
  ·rw [if_pos rfl]; rfl
 ·unfold zW qN
  rw [e]; unfold oS
  split
  ·rw [if_neg (by decide)]
  ·rw [if_pos rfl, Int.toNat_of_nonneg h1]
theorem K4 {m : List Cl} {x : Pt} {u : Bool} (hk : cR m x u ≠ 0) : qI m x u = cR m x u ∧ m8 m x u = m ∧ zW m x u = ⟨0, 0⟩ := by
 have e : qI m x u = cR m x u := by unfold qI;rw [if_neg hk]
 exact ⟨e, by unfold m8;rw [if_neg (by rw [e]; exact hk)], by unfold zW;rw [if_neg (by rw [e]; exact hk)]⟩
theorem C1 {xs : List Sl} {k : Nat} {a : Bool} {b c d : Int} (hk : k < xs.length) : iR (aI eV xs) (0 + k * 4) [bv a, iv b, iv c, iv d] = aI eV (xs.set k ⟨a, b, ⟨c, d⟩⟩) := jP hk rfl
theorem Gh {ts : List Int} {n v : Nat} {q : Mc} (h : ¬ (ts[v]! = 2 ∧ q.slots[v]!.set = true)) : dT ts (n + 1) v q = dT ts n (v + 1) q := by
 rw [dT, if_neg h]
theorem J5 {ts : List Int} {n v : Nat} {q : Mc} (h : ts[v]! = 2 ∧ q.slots[v]!.set = true) (hk : cR q.cells q.slots[v]!.ptr true = 0) : dT ts (n + 1) v q = dT ts n (v + 1) ⟨q.slots.set v iT, jB q.cells q.slots[v]!.ptr, q.read⟩ := by
 rw [dT, if_pos h, if_pos hk]
theorem Jr {ts : List Int} {n v : Nat} {q : Mc} (h : ts[v]! = 2 ∧ q.slots[v]!.set = true) (hk : ¬ cR q.cells q.slots[v]!.ptr true = 0) : dT ts (n + 1) v q = (⟨q.slots, jB q.cells q.slots[v]!.ptr, q.read⟩, iX (cR q.cells q.slots[v]!.ptr true)) := by
 rw [dT, if_pos h, if_neg hk]
def wm (pts : List Pnt) (n a : Nat) (cs : List Int) : List Int × Bool := ((eH pts n a cs).1.map (fun a : Nat => (a : Int)), (eH pts n a cs).2)
theorem JZ {pts : List Pnt} {n a : Nat} {cs : List Int} (h : pts[a]!.op = 11) : wm pts n a cs = ([(a : Int)], true) := by
 have e : eH pts n a cs = ([a], true) := by cases n <;> (unfold eH;rw [if_pos h])
 unfold wm;rw [e]; rfl
theorem KF {pts : List Pnt} {a : Nat} {cs : List Int} (h : ¬ pts[a]!.op = 11) : wm pts 0 a cs = ([], false) := by
 have e : eH pts 0 a cs = ([], false) := by unfold eH;rw [if_neg h]
 unfold wm;rw [e]; rfl
theorem LM {pts : List Pnt} {n a : Nat} {cs : List Int} (h : ¬ pts[a]!.op = 11) : wm pts (n + 1) a cs = ((a : Int) :: (wm pts n (eS pts a cs).1 (eS pts a cs).2).1, (wm pts n (eS pts a cs).1 (eS pts a cs).2).2) := by
 unfold wm;rw [eH, if_neg h]; rfl
theorem K3 {pts : List Pnt} {a : Nat} {cs : List Int} (h : ¬ pts[a]!.next.length = 2) : eS pts a cs = ((pts[a]!.next[0]!).toNat, cs) := by
 unfold eS;rw [if_neg h]
theorem IA {pts : List Pnt} {n a : Nat} {out cs cs2 : List Int} {b : Nat} {q : List Int × Bool} (h : ¬ pts[a]!.op = 11) (ho : out.length < n) (hs : eS pts a cs = (b, cs2)) (hq : q = (out ++ (wm pts (n - out.length) a cs).1, (wm pts (n - out.length) a cs).2)) :
  q = ((out ++ [(a : Int)]) ++ (wm pts (n - (out ++ [(a : Int)]).length) b cs2).1, (wm pts (n - (out ++ [(a : Int)]).length) b cs2).2) := by
 rw [hq, show n - out.length = (n - (out.length + 1)) + 1 by omega, LM h, hs, List.length_append, List.append_assoc]
 rfl
theorem fT {ts : List Int} {s : Mc} {v : Nat} {y : Sl} : (dM ts s v y).1.read = s.read := by unfold dM; split <;> rfl
theorem Gl {ts : List Int} {s : Mc} {x : Pnt} (h : x.op ≠ 11) : (cO ts s x).1.read.length ≤ s.read.length + 1 := by
 unfold cO
 split
 ·rw [fT]; omega
 split
 ·split
  ·dsimp only;omega
  ·rw [fT]; dsimp only;omega
 split
 ·rw [fT]; split <;> (first|omega|(dsimp only;omega))
 split
 ·split
  ·rw [fT]; dsimp only;omega
  ·dsimp only;omega
 split
 ·split
  ·rw [fT]; dsimp only;rw [List.length_append]; simp only [List.length_singleton]; omega
  ·dsimp only;omega
 split
 ·dsimp only;omega
 split
 ·dsimp only;omega
 dsimp only;omega
theorem GP {ts : List Int} {pts : List Pnt} (w : WG ts pts) (A : WA ts pts) : ∀ n a cs, a < pts.length → ∀ x ∈ (eH pts n a cs).1, x < pts.length
 | 0, a, cs, ha, x, hx => by
  unfold eH at hx
  by_cases e : pts[a]!.op = 11
  ·rw [if_pos e] at hx;rw [List.mem_singleton.1 hx]; exact ha
  ·rw [if_neg e] at hx;exact absurd hx (by simp)
 | n + 1, a, cs, ha, x, hx => by
  rw [eH] at hx
  by_cases e : pts[a]!.op = 11
  ·rw [if_pos e] at hx;rw [List.mem_singleton.1 hx]; exact ha
  ·rw [if_neg e] at hx
   rcases List.mem_cons.1 hx with h|h
   ·rw [h]; exact ha
   ·have he := oO w A ha e cs
    have := w.nx a ha _ he.2
    exact GP w A n _ _ (by omega) x h
theorem wT {pts : List Pnt} : ∀ n a cs, (eH pts n a cs).1.length ≤ n + 1
 | 0, a, cs => by unfold eH;split <;> simp
 | n + 1, a, cs => by
  rw [eH]; split
  ·simp
  ·have := wT (pts := pts) n (eS pts a cs).1 (eS pts a cs).2
   dsimp only;rw [List.length_cons]; omega
def KJ (p : Prg) (most : Int) : Bool := dC p && (decide (0 ≤ most) && decide (most ≤ 150))
theorem JU {p : Prg} {cs : List Int} {n : Nat} (hv : dC p = true) : OkS p.types.length (dZ p.types (dF p) cs n).1 := by
 have wa := WA.of_valid hv
 have hp : ∀ a : Nat, PtN (dF p)[a]! := fun a => by
  by_cases h : a < (dF p).length
  ·exact ⟨fun e => (wa.a a h).n (.inr e)⟩
  ·refine ⟨fun e => ?_⟩
   rw [G2, dif_neg h] at e
   exact absurd e (by decide)
 exact OkS.run hp _ _ _ (OkS.mc0 _)
theorem zN {ts : List Int} {s : Mc} {x : Pnt} : (cO ts s x).1.read.length ≤ s.read.length + 1 := by
 by_cases h : x.op = 11
 ·rw [qG h, tG]; omega
 ·exact Gl h
theorem wH (ts : List Int) (pts : List Pnt) : ∀ (l : List Nat) (s : Mc) (last : Nat), (gD ts pts l s last).1.read.length ≤ s.read.length + l.length
 | [], s, last => by unfold gD;simp
 | a :: l, s, last => by
  have h := zN (ts := ts) (s := s) (x := pts[a]!)
  unfold gD;split
  ·dsimp only;omega
  ·split
   ·have := wH ts pts l (cO ts s pts[a]!).1 a
    rw [List.length_cons]; omega
   ·rw [List.length_cons]; dsimp only;omega
theorem Bw {ts : List Int} {pts : List Pnt} {cs : List Int} {n : Nat} (hn : n ≤ 150) : (dZ ts pts cs n).1.read.length ≤ 151 := by
 have h := wH ts pts (eH pts n 0 cs).1 (mc0 ts.length) 0
 have h2 := wT (pts := pts) n 0 cs
 have h3 : (mc0 ts.length).read.length = 0 := rfl
 unfold dZ;omega
theorem K8 : Go.Proofs.Tryz.prog.underlying 223 = some (.map 3 4) := by kernel_rfl
theorem Ly : Go.Proofs.Tryz.prog.underlying 3 = some (.int .i64) := by kernel_rfl
theorem Lr : (Go.Proofs.Tryz.prog.info? 4).bind (·.zero) = some (.bool false) := by kernel_rfl
theorem Lq {a b c : Int} (h : a ≤ b ∧ b ≤ c) : (!(decide (a ≤ b) && decide (b ≤ c))) = false := by simp [h.1, h.2]
theorem hO (m : List Cl) (hm : OkM m) : PC Tryz.prog 187 [sl eC m] (fun r => r = bv true) := by
 have hml := hm.l
 (refine aT Tryz.func187 rfl (by simp [Tryz.ntmps187]) ?_; rw [Tryz.ntmps187])
 repeat' (first|(apply aM;first|(apply aE;rfl;rfl)|(apply aR;rfl;rfl;rfl;rfl)|(apply aC;rfl;rfl)|(apply a9;rfl;rfl;rfl)|(apply aF;kernel_rfl))|(apply aN;first|apply aH|apply aB|(apply aO;rfl;all_goals intro hc;have hq:=hc;(try simp only [cK] at hq);try exfalso;omega)|apply aL|apply aS)|with_reducible apply aA)
 all_goals (try (exfalso;omega))
 refine a7 (σ := Nat) [11, 12] [(11, _), (12, _)] [] [] (fun i => [(13, iv (i : Int))]) (fun i => []) (fun i => i ≤ m.length) (fun i => m.length - i) (0) (Nat.zero_le _) rfl rfl (by repeat' (first|exact trivial|refine And.intro rfl ?_)) (by repeat' (exact trivial)) ?_
 rintro i hi
 by_cases hin : i < m.length
 ·have hc := (jC m).1 hm |>.2 i hin
  obtain ⟨h1, h2, h3, h4, h5⟩ := (Dj _).1 hc
  repeat' (first|(apply aM;first|(apply aE;rfl;rfl)|(first|(apply aK;rfl;rfl;rfl;rfl)|(apply aX;rfl;rfl;(exact (rfl:_=[_, _, _, _]));rfl;rfl;rfl))|(apply aD;rfl;rfl;rfl)|(first|(apply bB;rfl;rfl;rfl;(assumption))|(apply bK;(case hj|hb|hN => rfl);all_goals (intro hg;have hq := hg;(try simp only [cK] at hq);(try (exfalso;omega)))))|(apply aR;rfl;rfl;rfl;rfl)|(apply aC;rfl;rfl)|(apply bI;rfl;(assumption);rfl;rfl)|(first|(apply a6;(case hx|hi => rfl);(case hm => (assumption));(case hml => (rfl));(case hα | hf|hg => infer_instance);(case hN => rfl))|(apply dA;(case hx|hi => rfl);(case hm => (omega));(case hml => (rfl));(case hα | hf|hg => infer_instance);(case hN => rfl)))|((with_reducible apply aJ (k := 50));(case ha => rfl);(case h => (apply dO <;> (fail)));(case hp => (rfl));(case hN => rfl))|(apply a9;rfl;rfl;rfl)|(apply aF;kernel_rfl)|(apply cQ;rfl;rfl)|(apply bH;rfl;rfl)|(apply aW;rfl;rfl;rfl;rfl;rfl;(case hl => (simp;done));(exact (rfl:_=[_, _, _, _]))))|(apply aN;first|with_reducible apply Gf|apply aH|apply aB|(apply aO;rfl;all_goals intro hc;have hq:=hc;(try simp only [cK] at hq);try exfalso;omega)|apply aL|apply aS|apply aQ)|with_reducible apply aA|with_reducible apply bJ|with_reducible apply cY)
  ·exfalso
   have hu : m[i]!.stk[Int.toNat 0]!.uq = false := by assumption
   rw [show Int.toNat 0 = 0 from rfl, h4] at hu;exact absurd hu (by decide)
  ·refine JH (Gi rfl (fun r => ?_))
   refine Ay ?_
   repeat' (apply aM;first|(apply aC;rfl;rfl)|(apply aF;kernel_rfl))
   refine ⟨rfl, rfl, ?_⟩
   refine lG (oA ?_)
   repeat' (first|(apply aM;first|(apply aE;rfl;rfl)|(apply aK;rfl;rfl;rfl;rfl)|(apply aD;rfl;rfl;rfl)|(apply a9;rfl;rfl;rfl)|(apply aF;kernel_rfl))|(apply aN;(apply aB)))
   show rJ _ _ _ _ _ _ _
   refine wQ ?_
   refine DL (σ := Nat) [4, 5, 11, 12, 13, 44, 45] [(4, _), (5, _), (11, _), (12, _), (13, _), (44, _), (45, _)] [0] [(0, some _)] (fun k => [(46, iv (k : Int))]) (fun k => []) (fun k => (m[i]!.stk.take k).map (·.id)) (fun k => k ≤ m[i]!.stk.length) (fun k => m[i]!.stk.length - k) (0) (Nat.zero_le _) (rfl) rfl rfl (by repeat' (first|exact trivial|refine And.intro rfl ?_)) (by repeat' (exact trivial)) ?_
   rintro k hk
   refine lG (oA ?_)
   repeat' (first|(apply aM;first|(apply aR;rfl;rfl;rfl;rfl)|(apply aF;kernel_rfl))|(apply aN;(apply aB)))
   show rJ _ _ _ _ _ _ _
   refine lG (AY rfl (fun hb => zT ?_) (fun hb => FF ?_))
   ·show rJ _ _ _ _ _ _ _
    have hkl : k < m[i]!.stk.length := by have := of_decide_eq_true hb;omega
    obtain ⟨g1, g2, g3⟩ := h5 k hkl
    have hw := Lq (a := 0) (b := m[i]!.stk[k]!.id) (c := m[i]!.next - 1) ⟨g1, by omega⟩
    have hni : m[i]!.stk[k]!.id ∉ (m[i]!.stk.take k).map (·.id) := fun q => by
     obtain ⟨t, ht, e⟩ := List.mem_map.1 q
     obtain ⟨j, hj, rfl⟩ := List.getElem_of_mem ht
     rw [List.length_take] at hj
     have f := tO (stk := m[i]!.stk) (id := m[i]!.stk[k]!.id) (by omega) j (by omega)
     rw [cL _ _ (by omega)] at f
     rw [List.getElem_take] at e
     exact f e
    refine lG (wQ (lG (oA ?_)))
    repeat' (first|(apply aM;first|(apply aX;rfl;rfl;(exact (rfl:_=[_, _]));rfl;rfl;rfl)|(apply a6;(case hx|hi => rfl);(case hm => (assumption));(case hml => (rfl));(case hα | hf|hg => infer_instance);(case hN => rfl))|(apply aF;kernel_rfl)|(apply bH;rfl;rfl)|(apply aW;rfl;rfl;rfl;rfl;rfl;(case hl => (simp;done));(exact (rfl:_=[_, _]))))|(apply aN;(apply aB)))
    show rJ _ _ _ _ _ _ _
    refine lG (lG (rV ?_))
    refine y7 (l1 := [_, _, _, _, _, _, _, _, _, _, _]) (l2 := [_, _]) ?_
    repeat' (apply aM;first|(apply aE;rfl;rfl)|(apply aK;rfl;rfl;rfl;rfl)|(apply aD;rfl;rfl;rfl)|(apply bB;rfl;rfl;rfl;(assumption))|(apply fO;rfl;rfl;omega;rfl)|((with_reducible apply aJ (k := 50));(case ha => rfl);(case h => (apply dO <;> (fail)));(case hp => (rfl));(case hN => rfl))|(apply aF;kernel_rfl)|(apply cQ;rfl;rfl))
    refine ⟨rfl, ?_⟩
    refine Es rfl rfl hw ?_
    refine BX K8 Ly Lr rfl rfl hni rfl ?_
    refine Ay ?_
    repeat' (apply aM;first|(apply bI;rfl;(assumption);rfl;rfl)|(apply aF;kernel_rfl))
    refine ⟨rfl, ?_⟩
    show rJ _ _ _ _ _ _ _
    refine AY rfl (fun h => by cases h) (fun _ => zT ?_)
    show rJ _ _ _ _ _ _ _
    refine rV ?_
    refine y7 (l1 := [_, _, _]) (l2 := [_]) ?_
    repeat' (apply aM;first|(apply aE;rfl;rfl)|(apply aK;rfl;rfl;rfl;rfl)|(apply aD;rfl;rfl;rfl)|(apply aF;kernel_rfl))
    refine ⟨rfl, ?_⟩
    refine BM K8 Ly Lr rfl rfl hni ?_
    refine HY ?_
    show rJ _ _ _ _ _ _ _
    refine oA ?_
    repeat' (first|(apply aM;first|(apply aE;rfl;rfl)|(apply bR;rfl;rfl;omega;rfl)|(apply aF;kernel_rfl))|(apply aN;(apply aB)))
    refine ⟨k + 1, by omega, by omega, ?_, ?_⟩
    ·refine Le.ren [(0, 0)] rfl (by decide) ?_ ?_ <;> repeat' (first|exact trivial|refine And.intro ⟨_, rfl, ?_⟩ ?_|refine And.intro ⟨_, _, rfl, rfl, ?_⟩ ?_|exact Or.inr rfl|refine Or.inl ⟨?_, (by first|rfl|exact aZ _ _|exact Pur.pf)⟩|rfl)
    ·rw [c9 _ k hkl, List.map_append]; rfl
   ·have hkl : k = m[i]!.stk.length := by have := of_decide_eq_false hb; omega
    refine GV ?_
    show BR 1 _ _ _
    repeat' (first|(apply aM;first|(apply aE;rfl;rfl)|(apply bR;rfl;rfl;omega;rfl)|(apply aF;kernel_rfl))|(apply aN;(apply aB))|with_reducible apply aA|with_reducible apply aV)
    (apply dV (i + 1);focus (refine Le.ren [] rfl (by decide) ?_ ?_ <;> repeat' (first|exact trivial|refine And.intro ⟨_, rfl, ?_⟩ ?_|refine Or.inl ⟨?_, (by first|rfl|exact aZ _ _)⟩|rfl)))
    ·omega
    ·omega
 ·repeat' (first | (apply aM; first | (apply aR;rfl;rfl;rfl;rfl) | (apply aC;rfl;rfl) | (apply aF;kernel_rfl)) | (apply aN; first | apply aH | apply aB | (apply aO;rfl;all_goals intro hc;have hq:=hc;(try simp only [cK] at hq);try exfalso;omega) | apply bF | apply aQ) | with_reducible apply aA | with_reducible apply bE | with_reducible apply bG)
  refine aP rfl ⟨rfl, rfl⟩
theorem Le.bump {ts : List (Nat × AV)} {hs : List (Nat × Option (List AV))} {n : Nat} {z0 : Lo} (k : Nat) : Le ⟨ts, hs, n, z0⟩ ⟨ts, hs, n + k, z0⟩ := Le.of (fun _ _ h => h) (fun _ _ h => h) (Nat.le_add_right _ _) rfl
theorem vT {m : List Cl} {N : Nat} {Q : Exit → AS → Prop} {all : Array Oper} {rest : List Oper} {tsl : List (Nat × AV)} {hsl : List (Nat × Option (List AV))} {nidl : Nat} {z0 : Lo} {md : Md} {d : Nat} {ty : TypeId} {pos : String} {af : Array Edge} {tys : Array TypeId} {x0 : Operand} (ha0 : ev (lk tsl) x0 = some (sl eC m)) (hmc : MC Tryz.prog 208 [sl eC m] [] 0 (fun _ : Unit => True) (fun _ => .own 1 0 m.length 4) (fun _ => [(1, some (aI eC m))])) (hM : Nat.ble (nidl + 2) fD = true) (hN : Nat.blt d N = true) {md' : Md} [hmd : MdA md (gS [x0] ++ []) (List.map Sum.inr (List.map Prod.fst ([((nidl + 1), some (aI eC m))] : List (Nat × Option (List AV)))) ++ [.inl d]) md'] (kk : RW Tryz.prog N all Q md' rest ⟨(d, .own (nidl + 1) 0 m.length 4) :: tsl, iK hsl [((nidl + 1), some (aI eC m))], nidl + 2, z0⟩) : RW Tryz.prog N all Q md (⟨some d, .call ⟨.value (.func 208), #[x0], tys⟩, ty, pos, af, none⟩ :: rest) ⟨tsl, hsl, nidl, z0⟩ := by
 refine cJ [] 2 [((nidl + 1), some (aI eC m))] hmc (avs := [sl eC m]) ?_ rfl ?_ rfl ?_ (by simpa using hM) ?_ ?_ ?_ hN (md' := md') (hmd := hmd) kk
 ·show evL (lk tsl) [x0] = _
  simp only [evL, ha0]
 ·exact trivial
 ·(repeat' (exact RnL.purI inferInstance))
 ·(repeat' (exact RnV.own rfl))
 ·simp [dQ]
 ·(repeat' (first|exact trivial|(refine And.intro ⟨1, _, rfl, rfl, ?_⟩ ?_)|exact RnL.purI inferInstance))
theorem Aj (m : List Cl) (hl : m.length ≤ 1000000) : MC Tryz.prog 208 [sl eC m] [] 0 (fun _ : Unit => True) (fun _ => .own 1 0 m.length 4) (fun _ => [(1, some (aI eC m))]) := by
 (refine b0 Tryz.func208 rfl (by simp [Tryz.ntmps208]) ?_; rw [Tryz.ntmps208])
 repeat' (first|(apply aM;first|(apply tY;rfl;rfl;(intro b hb))|(apply aE;rfl;rfl)|(apply aC;rfl;rfl)|(apply cF;rfl;rfl;rfl;rfl;rfl;(case hl => (simp [aU]; done));(exact sC (by (rfl)));omega;omega;(exact kH (by (omega)));rfl;rfl)|(apply aF;kernel_rfl)|(apply cA;rfl;rfl;rfl;(rfl);rfl;rfl))|(apply aN;first|apply aH|apply aB|(apply aO;rfl;all_goals intro hc;have hq:=hc;(try simp only [cK] at hq);try exfalso;omega)|apply aS|apply aQ)|with_reducible apply aA|with_reducible apply bJ)
 ·have h0 : m = [] := List.eq_nil_of_length_eq_zero (hb (by assumption))
  subst h0
  refine cC (Le.bump 1) ?_
  refine cC (Le.nilOwn (d := 2) 4 rfl (by decide)) ?_
  (refine aP rfl ?_; refine bV () trivial ?_ ⟨.inr (Eq.trans (b := some _) rfl ?_), trivial⟩)
  ·rfl
  ·rfl
 ·(refine aP rfl ?_; refine bV () trivial ?_ ⟨.inr (Eq.trans (b := some _) rfl ?_), trivial⟩)
  ·show AV.own 1 0 (0 + m.length) 4 = _; rw [Nat.zero_add]
  ·rfl
theorem o7 {m : List Tg} {N : Nat} {Q : Exit → AS → Prop} {all : Array Oper} {rest : List Oper} {tsl : List (Nat × AV)} {hsl : List (Nat × Option (List AV))} {nidl : Nat} {z0 : Lo} {md : Md} {d : Nat} {ty : TypeId} {pos : String} {af : Array Edge} {tys : Array TypeId} {x0 : Operand} (ha0 : ev (lk tsl) x0 = some (sl eF m)) (hmc : MC Tryz.prog 209 [sl eF m] [] 0 (fun _ : Unit => True) (fun _ => .own 1 0 m.length 2) (fun _ => [(1, some (aI eF m))])) (hM : Nat.ble (nidl + 2) fD = true) (hN : Nat.blt d N = true) {md' : Md} [hmd : MdA md (gS [x0] ++ []) (List.map Sum.inr (List.map Prod.fst ([((nidl + 1), some (aI eF m))] : List (Nat × Option (List AV)))) ++ [.inl d]) md'] (kk : RW Tryz.prog N all Q md' rest ⟨(d, .own (nidl + 1) 0 m.length 2) :: tsl, iK hsl [((nidl + 1), some (aI eF m))], nidl + 2, z0⟩) : RW Tryz.prog N all Q md (⟨some d, .call ⟨.value (.func 209), #[x0], tys⟩, ty, pos, af, none⟩ :: rest) ⟨tsl, hsl, nidl, z0⟩ := by
 refine cJ [] 2 [((nidl + 1), some (aI eF m))] hmc (avs := [sl eF m]) ?_ rfl ?_ rfl ?_ (by simpa using hM) ?_ ?_ ?_ hN (md' := md') (hmd := hmd) kk
 ·show evL (lk tsl) [x0] = _
  simp only [evL, ha0]
 ·exact trivial
 ·(repeat' (exact RnL.purI inferInstance))
 ·(repeat' (exact RnV.own rfl))
 ·simp [dQ]
 ·(repeat' (first|exact trivial|(refine And.intro ⟨1, _, rfl, rfl, ?_⟩ ?_)|exact RnL.purI inferInstance))
theorem zQ (m : List Tg) (hl : m.length ≤ 1000000) : MC Tryz.prog 209 [sl eF m] [] 0 (fun _ : Unit => True) (fun _ => .own 1 0 m.length 2) (fun _ => [(1, some (aI eF m))]) := by
 (refine b0 Tryz.func209 rfl (by simp [Tryz.ntmps209]) ?_; rw [Tryz.ntmps209])
 repeat' (first|(apply aM;first|(apply tY;rfl;rfl;(intro b hb))|(apply aE;rfl;rfl)|(apply aC;rfl;rfl)|(apply cF;rfl;rfl;rfl;rfl;rfl;(case hl => (simp [aU]; done));(exact sC (by (rfl)));omega;omega;(exact kH (by (omega)));rfl;rfl)|(apply aF;kernel_rfl)|(apply cA;rfl;rfl;rfl;(rfl);rfl;rfl))|(apply aN;first|apply aH|apply aB|(apply aO;rfl;all_goals intro hc;have hq:=hc;(try simp only [cK] at hq);try exfalso;omega)|apply aS|apply aQ)|with_reducible apply aA|with_reducible apply bJ)
 ·have h0 : m = [] := List.eq_nil_of_length_eq_zero (hb (by assumption))
  subst h0
  refine cC (Le.bump 1) ?_
  refine cC (Le.nilOwn (d := 2) 2 rfl (by decide)) ?_
  (refine aP rfl ?_; refine bV () trivial ?_ ⟨.inr (Eq.trans (b := some _) rfl ?_), trivial⟩)
  ·rfl
  ·rfl
 ·(refine aP rfl ?_; refine bV () trivial ?_ ⟨.inr (Eq.trans (b := some _) rfl ?_), trivial⟩)
  ·show AV.own 1 0 (0 + m.length) 2 = _; rw [Nat.zero_add]
  ·rfl
theorem Fy (t : Tg) (c g : Int) : PC Tryz.prog 211 [Ml t, .iptr [iv c, iv g]] (fun r => r = bv (decide (t.id = g))) := by
 (refine aT Tryz.func211 rfl (by simp [Tryz.ntmps211]) ?_; rw [Tryz.ntmps211])
 repeat' (first|(apply aM;first|(apply aK;rfl;rfl;rfl;rfl)|(apply aD;rfl;rfl;rfl)|(apply aR;rfl;rfl;rfl;rfl)|(apply aC;rfl;rfl)|(apply aF;kernel_rfl)|(apply bW;rfl;rfl;rfl;rfl))|(apply aN;first|apply aH|apply aB|apply aQ)|with_reducible apply aA)
 exact aP rfl ⟨rfl, rfl⟩
theorem zJ (t : Tg) : PC Tryz.prog 213 [Ml t] (fun r => r = bv t.uq) := by
 (refine aT Tryz.func213 rfl (by simp [Tryz.ntmps213]) ?_; rw [Tryz.ntmps213])
 repeat' (first|(apply aM;first|(apply aK;rfl;rfl;rfl;rfl)|(apply aD;rfl;rfl;rfl)|(apply aC;rfl;rfl)|(apply aF;kernel_rfl)|(apply bW;rfl;rfl;rfl;rfl))|(apply aN;first|apply aH|apply aB|apply aQ)|with_reducible apply aA)
 exact aP rfl ⟨rfl, rfl⟩
theorem w6 (stk : List Tg) (c g : Int) (hl : stk.length ≤ 1000000) : PC Tryz.prog 210 [sl eF stk, .clos (.func 211) [] [.iptr [iv c, iv g]]] (fun r => r = iv (cP stk g)) := by
 (refine aT Tryz.func210 rfl (by simp [Tryz.ntmps210]) ?_; rw [Tryz.ntmps210])
 repeat' (first|(apply aM;first|(apply aE;rfl;rfl)|(apply aC;rfl;rfl)|(apply a9;rfl;rfl;rfl)|(apply aF;kernel_rfl))|(apply aN;first|apply aH|apply aB|apply aL)|with_reducible apply aA)
 refine a7 (σ := Nat) [0, 1, 7] [(0, _), (1, _), (7, _)] [] [] (fun k => [(8, iv (k : Int))]) (fun k => []) (fun k => k ≤ stk.length ∧ ∀ j, j < k → stk[j]!.id ≠ g) (fun k => stk.length - k) (0) ⟨by omega, by omega⟩ rfl rfl (by repeat' (first|exact trivial|refine And.intro rfl ?_)) (by repeat' (exact trivial)) ?_
 rintro k ⟨hk, hall⟩
 by_cases hkn : k < stk.length
 ·have hcl := Fy stk[k]! c g
  repeat' (first|(apply aM;first|(apply aE;rfl;rfl)|(apply aX;rfl;rfl;(exact (rfl:_=[_, _]));rfl;rfl;rfl)|(first|(apply bR;rfl;rfl;omega;rfl)|(apply aR;rfl;rfl;rfl;rfl))|(apply aC;rfl;rfl)|(apply a6;(case hx|hi => rfl);(case hm => (assumption));(case hml => (rfl));(case hα | hf|hg => infer_instance);(case hN => rfl))|((with_reducible apply gF);(case hx|hcl => rfl);(case hc => infer_instance);(case ha => rfl);(case h => (apply hcl <;> (fail)));(case hp => (rfl));(case hN => rfl))|(apply aF;kernel_rfl))|(apply aN;first|apply aH|apply aB|(apply aO;rfl;all_goals intro hc;have hq:=hc;(try simp only [cK] at hq);try exfalso;omega)|apply aL|apply aS|apply aQ)|with_reducible apply aA|with_reducible apply bJ|with_reducible apply aV|with_reducible apply cY)
  ·refine aP rfl ⟨?_, rfl⟩
   simp only [bX]; rw [Dn hkn (by assumption) hall]
  ·(apply dV (k + 1); focus (refine Le.ren [] rfl (by decide) ?_ ?_ <;> repeat' (first | exact trivial | refine And.intro ⟨_, rfl, ?_⟩ ?_ | refine Or.inl ⟨?_, (by first | rfl | exact aZ _ _)⟩ | rfl)))
   ·refine ⟨by omega, fun j hj => ?_⟩
    by_cases e : j = k
    ·subst e;assumption
    ·exact hall j (by omega)
   ·omega
 ·repeat' (first | (apply aM; first | (apply aR;rfl;rfl;rfl;rfl) | (apply aC;rfl;rfl) | (apply aF;kernel_rfl)) | (apply aN; first | apply aH | apply aB | (apply aO;rfl;all_goals intro hc;have hq:=hc;(try simp only [cK] at hq);try exfalso;omega) | apply bF | apply aQ) | with_reducible apply aA | with_reducible apply bE | with_reducible apply bG)
  refine aP rfl ⟨?_, rfl⟩
  have h2 : cP stk g < 0 := mM.2 (fun t ht => by obtain ⟨j, hj, rfl⟩ := List.getElem_of_mem ht;have := hall j (by omega);rwa [cL _ _ hj] at this)
  have hb := e7 stk g
  simp only [bX]; rw [show cP stk g = -1 by omega]
def qM (xs : List Tg) : Int := match xs.findIdx? (fun t => t.uq) with | some i => i | none => -1
theorem IS (stk : List Tg) (hl : stk.length ≤ 1000000) : PC Tryz.prog 210 [sl eF stk, .v (.func (.func 213) #[] #[])] (fun r => r = iv (qM stk)) := by
 (refine aT Tryz.func210 rfl (by simp [Tryz.ntmps210]) ?_; rw [Tryz.ntmps210])
 repeat' (first|(apply aM;first|(apply aE;rfl;rfl)|(apply aC;rfl;rfl)|(apply a9;rfl;rfl;rfl)|(apply aF;kernel_rfl))|(apply aN;first|apply aH|apply aB|apply aL)|with_reducible apply aA)
 refine a7 (σ := Nat) [0, 1, 7] [(0, _), (1, _), (7, _)] [] [] (fun k => [(8, iv (k : Int))]) (fun k => []) (fun k => k ≤ stk.length ∧ ∀ j, j < k → stk[j]!.uq = false) (fun k => stk.length - k) (0) ⟨by omega, by omega⟩ rfl rfl (by repeat' (first|exact trivial|refine And.intro rfl ?_)) (by repeat' (exact trivial)) ?_
 rintro k ⟨hk, hall⟩
 by_cases hkn : k < stk.length
 ·have hcl := zJ stk[k]!
  repeat' (first|(apply aM;first|(apply aE;rfl;rfl)|(apply aX;rfl;rfl;(exact (rfl:_=[_, _]));rfl;rfl;rfl)|(first|(apply bR;rfl;rfl;omega;rfl)|(apply aR;rfl;rfl;rfl;rfl))|(apply aC;rfl;rfl)|(apply a6;(case hx|hi => rfl);(case hm => (assumption));(case hml => (rfl));(case hα | hf|hg => infer_instance);(case hN => rfl))|((with_reducible apply gF);(case hx|hcl => rfl);(case hc => infer_instance);(case ha => rfl);(case h => (apply hcl <;> (fail)));(case hp => (rfl));(case hN => rfl))|(apply aF;kernel_rfl))|(apply aN;first|apply aH|apply aB|(apply aO;rfl;all_goals intro hc;have hq:=hc;(try simp only [cK] at hq);try exfalso;omega)|apply aL|apply aS|apply aQ)|with_reducible apply aA|with_reducible apply bJ|with_reducible apply aV|with_reducible apply cY)
  ·refine aP rfl ⟨?_, rfl⟩
   have hu : stk[k]!.uq = true := by assumption
   have : stk.findIdx? (fun t => t.uq) = some k := by
    rw [List.findIdx?_eq_some_iff_getElem]
    refine ⟨hkn, by rw [← cL stk k hkn]; exact hu, fun j hj => ?_⟩
    have := hall j hj;rw [cL stk j (by omega)] at this;rw [this]; decide
   simp only [bX, qM, this]
  ·have hu : stk[k]!.uq = false := by assumption
   (apply dV (k + 1);focus (refine Le.ren [] rfl (by decide) ?_ ?_ <;> repeat' (first|exact trivial|refine And.intro ⟨_, rfl, ?_⟩ ?_|refine Or.inl ⟨?_, (by first|rfl|exact aZ _ _)⟩|rfl)))
   ·refine ⟨by omega, fun j hj => ?_⟩
    by_cases e : j = k
    ·subst e;exact hu
    ·exact hall j (by omega)
   ·omega
 ·repeat' (first | (apply aM; first | (apply aR;rfl;rfl;rfl;rfl) | (apply aC;rfl;rfl) | (apply aF;kernel_rfl)) | (apply aN; first | apply aH | apply aB | (apply aO;rfl;all_goals intro hc;have hq:=hc;(try simp only [cK] at hq);try exfalso;omega) | apply bF | apply aQ) | with_reducible apply aA | with_reducible apply bE | with_reducible apply bG)
  refine aP rfl ⟨?_, rfl⟩
  have : stk.findIdx? (fun t => t.uq) = none := by
   rw [List.findIdx?_eq_none_iff]
   intro x hx
   obtain ⟨j, hj, rfl⟩ := List.getElem_of_mem hx
   have := hall j (by omega);rw [cL stk j hj] at this;exact this
  simp only [bX, qM, this]
theorem LV {xs : List Tg} {k : Nat} {a : Int} {b : Bool} (hk : k < xs.length) : iR (aI eF xs) (0 + k * 2) [iv a, bv b] = aI eF (xs.set k ⟨a, b⟩) := jP hk rfl
theorem GW {cs new : List AV} {k : Nat} (h : k ≤ cs.length) : (iR cs (0 + k) new).take k = cs.take k := by
 unfold iR
 rw [Nat.zero_add, List.append_assoc, List.take_left' (by rw [List.length_take]; omega)]
def shr (xs : List Tg) : List Tg := xs.filter (fun t => !t.uq)
theorem DS {xs : List Tg} (h : qM xs = -1) : shr xs = xs := by
 unfold qM at h
 split at h
 ·omega
 ·rename_i hn
  rw [List.findIdx?_eq_none_iff] at hn
  unfold shr
  rw [List.filter_eq_self]
  intro t ht
  have := hn t ht
  simp [this]
theorem Ev {xs : List Tg} {i : Nat} (h : qM xs = (i : Int)) : i < xs.length ∧ xs[i]!.uq = true ∧ shr (xs.take (i + 1)) = xs.take i := by
 unfold qM at h
 split at h
 ·rename_i k hk
  obtain ⟨h1, h2, h3⟩ := List.findIdx?_eq_some_iff_getElem.1 hk
  have e : k = i := by omega
  subst e
  have hs : shr (xs.take k) = xs.take k := by
   unfold shr
   rw [List.filter_eq_self]
   intro t ht
   obtain ⟨j, hj, rfl⟩ := List.getElem_of_mem ht
   rw [List.length_take] at hj
   have := h3 j (by omega)
   rw [List.getElem_take]; simpa using this
  refine ⟨h1, by rw [cL _ _ h1]; exact h2, ?_⟩
  rw [c9 xs k h1]
  unfold shr at hs ⊢
  rw [List.filter_append, hs, vC (by rw [cL _ _ h1, h2]; rfl), List.append_nil]
 ·omega
theorem HQ (xs : List Tg) : -1 ≤ qM xs ∧ qM xs < xs.length := by
 unfold qM
 split
 ·rename_i k hk
  obtain ⟨h1, _⟩ := List.findIdx?_eq_some_iff_getElem.1 hk
  omega
 ·omega
theorem Iy {xs : List Tg} {j : Nat} (hj : j < xs.length) (h : xs[j]!.uq = false) : shr (xs.take (j + 1)) = shr (xs.take j) ++ [xs[j]!] := by
 rw [c9 xs j hj]; unfold shr
 rw [List.filter_append, D8 (by rw [h]; rfl)]
theorem FW {xs : List Tg} {j : Nat} (hj : j < xs.length) (h : xs[j]!.uq = true) : shr (xs.take (j + 1)) = shr (xs.take j) := by
 rw [c9 xs j hj]; unfold shr
 rw [List.filter_append, vC (by rw [h]; rfl), List.append_nil]
theorem E1 {α : Type} [Inhabited α] {L : List α} {i : Nat} {x : α} (h : i < L.length) : (L.set i x).take (i + 1) = L.take i ++ [x] := by
 rw [List.set_eq_take_append_cons_drop, if_pos h]
 have h1 : (L.take i).length = i := by rw [List.length_take]; omega
 rw [List.take_append, h1, show i + 1 - i = 1 by omega, List.take_of_length_le (by omega)]
 rfl
theorem Fi {α : Type} [Inhabited α] {L M : List α} {j : Nat} (h : L.drop j = M.drop j) (hl : L.length = M.length) (hj : j < M.length) : L[j]! = M[j]! := by
 rw [cL _ _ (by omega), cL _ _ hj]
 rw [List.drop_eq_getElem_cons (by omega : j < L.length), List.drop_eq_getElem_cons hj] at h
 exact (List.cons.inj h).1
theorem sW {α : Type} {L M : List α} {j : Nat} (h : L.drop j = M.drop j) : L.drop (j + 1) = M.drop (j + 1) := by
 rw [← List.drop_drop, h, List.drop_drop]
theorem Ic {xs : List Tg} {m : Nat} {N : Nat} {Q : Exit → AS → Prop} {all : Array Oper} {rest : List Oper} {tsl : List (Nat × AV)} {hsl : List (Nat × Option (List AV))} {nidl : Nat} {z0 : Lo} {md : Md} {d : Nat} {ty : TypeId} {pos : String} {af : Array Edge} {tys : Array TypeId} {x0 x1 : Operand} {i0 : Nat} (ha0 : ev (lk tsl) x0 = some (.own i0 0 m 2)) (ha1 : ev (lk tsl) x1 = some (.v (.func (.func 213) #[] #[]))) (hH0 : cE hsl i0 = some (aI eF xs)) (hmc : MC Tryz.prog 212 [.own 0 0 m 2, .v (.func (.func 213) #[] #[])] [(0, some (aI eF xs))] 1 (fun _ : Unit => True) (fun _ => .own 0 0 (shr xs).length 2) (fun _ => [(0, some (aI eF (shr xs)))])) (hM : Nat.ble (nidl + 0) fD = true) (hN : Nat.blt d N = true) {md' : Md} [hmd : MdA md (gS [x0, x1] ++ [.inr i0]) (List.map Sum.inr (List.map Prod.fst ([(i0, some (aI eF (shr xs)))] : List (Nat × Option (List AV)))) ++ [.inl d]) md'] (kk : RW Tryz.prog N all Q md' rest ⟨(d, .own i0 0 (shr xs).length 2) :: tsl, iK hsl [(i0, some (aI eF (shr xs)))], nidl + 0, z0⟩) : RW Tryz.prog N all Q md (⟨some d, .call ⟨.value (.func 212), #[x0, x1], tys⟩, ty, pos, af, none⟩ :: rest) ⟨tsl, hsl, nidl, z0⟩ := by
 refine cJ [i0] 1 [(i0, some (aI eF (shr xs)))] hmc (avs := [.own i0 0 m 2, .v (.func (.func 213) #[] #[])]) ?_ rfl ?_ rfl ?_ (by simpa using hM) ?_ ?_ ?_ hN (md' := md') (hmd := hmd) kk
 ·show evL (lk tsl) [x0, x1] = _
  simp only [evL, ha0, ha1]
 ·exact ⟨⟨_, _, rfl, hH0, by (repeat' (exact RnL.purI inferInstance))⟩, trivial⟩
 ·(repeat' (first|exact RnL.purI inferInstance|exact RnV.own rfl|refine RnL.cons ?_ ?_))
 ·(repeat' (exact RnV.own rfl))
 ·simp [dQ]
 ·(repeat' (first|exact trivial|(refine And.intro ⟨0, _, rfl, rfl, ?_⟩ ?_)|exact RnL.purI inferInstance))
theorem Ju (xs : List Tg) (m : Nat) (hm : m = xs.length) (hl : m ≤ 1000000) : MC Tryz.prog 212 [.own 0 0 m 2, .v (.func (.func 213) #[] #[])] [(0, some (aI eF xs))] 1 (fun _ : Unit => True) (fun _ => .own 0 0 (shr xs).length 2) (fun _ => [(0, some (aI eF (shr xs)))]) := by
 subst hm
 have hix := IS xs hl
 have hbd := HQ xs
 by_cases hn : qM xs = -1
 ·rw [hn] at hix
  have hs := DS hn
  (refine b0 Tryz.func212 rfl (by simp [Tryz.ntmps212]) ?_; rw [Tryz.ntmps212])
  repeat' (first|(apply aM;first|((with_reducible apply n7 (k := 210));(case ha => rfl);(case hl => (repeat' (first|exact mR|apply kR|exact xP|exact mP rfl inferInstance)));(case h => exact hix);(case hfr|hN => rfl);(case hmd => infer_instance))|(apply aE;rfl;rfl)|(apply aR;rfl;rfl;rfl;rfl)|(apply aC;rfl;rfl)|(apply aF;kernel_rfl))|(apply aN;first|apply aH|apply aB|(apply b8;rfl;(rfl))|apply aQ)|with_reducible apply aA|with_reducible apply bJ)
  all_goals (
   (refine aP rfl ?_; refine bV () trivial ?_ ⟨.inr (Eq.trans (b := some _) rfl ?_), trivial⟩)
   ·rw [hs]; rfl
   ·rw [hs])
 ·obtain ⟨i0, hi0⟩ := Int.eq_ofNat_of_zero_le (show 0 ≤ qM xs by omega)
  obtain ⟨g1, g2, g3⟩ := Ev hi0
  rw [hi0] at hix
  (refine b0 Tryz.func212 rfl (by simp [Tryz.ntmps212]) ?_; rw [Tryz.ntmps212])
  repeat' (first|(apply aM;first|((with_reducible apply n7 (k := 210));(case ha => rfl);(case hl => (repeat' (first|exact mR|apply kR|exact xP|exact mP rfl inferInstance)));(case h => exact hix);(case hfr|hN => rfl);(case hmd => infer_instance))|(apply aE;rfl;rfl)|(first|(apply bR;rfl;rfl;omega;rfl)|(apply aR;rfl;rfl;rfl;rfl))|(apply aC;rfl;rfl)|(apply aF;kernel_rfl))|(apply aN;first|apply aH|apply aB|(apply cH;rfl;(rfl))|apply aL|apply aS)|with_reducible apply aA)
  all_goals (try (exfalso;omega))
  refine a7 (σ := List Tg × Nat × Nat) [0, 1] [(0, _), (1, _)] [] [] (fun s => [(5, iv (s.2.1 : Int)), (6, iv (s.2.2 : Int))]) (fun s => [(0, some (aI eF s.1))]) (fun s => s.1.length = xs.length ∧ s.1.take s.2.1 = shr (xs.take s.2.2) ∧ s.1.drop s.2.2 = xs.drop s.2.2 ∧ s.2.1 < s.2.2 ∧ s.2.2 ≤ xs.length) (fun s => xs.length - s.2.2) (xs, i0, i0 + 1) ⟨rfl, g3.symm, rfl, by dsimp only;omega, by dsimp only;omega⟩ rfl rfl (by repeat' (first|exact trivial|refine And.intro rfl ?_)) (by repeat' (first|exact trivial|refine And.intro (.inr rfl) ?_)) ?_
  rintro ⟨L, i, j⟩ ⟨hL, ht, hd, hij, hj⟩
  dsimp only at hL ht hd hij hj ⊢
  by_cases hjn : j < xs.length
  ·have hcl := zJ L[j]!
   have hg := Fi hd hL hjn
   repeat' (first|(apply aM;first|(apply aE;rfl;rfl)|(first|(apply gQ;(case hx|hH => rfl);(case hf|hg|hα => infer_instance);(case hk => omega);(case h0|hN => rfl))|(apply aX;rfl;rfl;(exact (rfl:_=[_, _]));rfl;rfl;rfl))|(first|(apply bR;rfl;rfl;omega;rfl)|(apply aR;rfl;rfl;rfl;rfl))|(apply aC;rfl;rfl)|(apply cG;rfl;rfl;(first|assumption|omega);rfl)|(apply a9;rfl;rfl;rfl)|((with_reducible apply gF);(case hx|hcl => rfl);(case hc => infer_instance);(case ha => rfl);(case h => (apply hcl <;> (fail)));(case hp => (rfl));(case hN => rfl))|(apply aF;kernel_rfl)|(apply cQ;rfl;rfl)|(apply bH;rfl;rfl)|(apply aW;rfl;rfl;rfl;rfl;rfl;(case hl => (first|(rw [aU]; simp only [hZ] <;> omega)|(simp;done)));(first|exact LV (by (first|assumption|omega))|exact (rfl:_=[_, _]))))|(apply aN;first|apply aH|apply aB|(apply aO;rfl;all_goals intro hc;have hq:=hc;(try simp only [cK] at hq);try exfalso;omega)|apply aL|apply aS)|with_reducible apply aA|with_reducible apply aV)
   ·have hu : L[j]!.uq = false := by assumption
    (apply dV (_, i + 1, j + 1);focus (refine Le.ren [] rfl (by decide) ?_ ?_ <;> repeat' (first|exact trivial|refine And.intro ⟨_, rfl, ?_⟩ ?_|refine And.intro ⟨_, _, rfl, rfl, ?_⟩ ?_|exact Or.inr rfl|refine Or.inl ⟨?_, (by first|rfl|exact aZ _ _)⟩|rfl)))
    ·refine ⟨by dsimp only; rw [List.length_set]; exact hL, ?_, ?_, by dsimp only; omega, by dsimp only; omega⟩
     ·dsimp only
      rw [E1 (by omega), ht, Iy hjn (by rw [← hg]; exact hu), hg]
     ·dsimp only
      rw [List.drop_set_of_lt (by omega)]
      exact sW hd
    ·dsimp only;omega
   ·have hu : L[j]!.uq = true := by assumption
    (apply dV (L, i, j + 1);focus (refine Le.ren [] rfl (by decide) ?_ ?_ <;> repeat' (first|exact trivial|refine And.intro ⟨_, rfl, ?_⟩ ?_|refine And.intro ⟨_, _, rfl, rfl, ?_⟩ ?_|exact Or.inr rfl|refine Or.inl ⟨?_, (by first|rfl|exact aZ _ _)⟩|rfl)))
    ·refine ⟨hL, ?_, sW hd, by dsimp only; omega, by dsimp only; omega⟩
     dsimp only
     rw [ht, FW hjn (by rw [← hg]; exact hu)]
    ·dsimp only;omega
  ·have hfl : (aI eF L).length = L.length * 2 := aU eF L
   repeat' (first|(apply aM;first|((apply iH (d := 38) (l := i) (h := xs.length));(case hx|hn => rfl);(case hl => exact o9 rfl (by omega));(case hh => rfl);(case hp => exact if_pos (by omega));(case hN => rfl))|((apply iH (d := 41) (l := 0) (h := i));(case hx|hn|hl => rfl);(case hh => exact o9 rfl (by omega));(case hp => exact if_pos (by omega));(case hN => rfl))|(apply Fe;rfl;rfl;omega;rfl;(rw [hfl]; omega);rfl)|(apply aE;rfl;rfl)|(apply aR;rfl;rfl;rfl;rfl)|(apply aC;rfl;rfl)|(apply a9;rfl;rfl;rfl)|(apply aF;kernel_rfl))|(apply aN;first|apply aH|apply aB|(apply aO;rfl;all_goals intro hc;have hq:=hc;(try simp only [cK] at hq);try exfalso;omega)|apply bF|apply aQ)|with_reducible apply aA|with_reducible apply bE|with_reducible apply bG)
   refine cC (Le.cut (i := 0) (i * 2) rfl) ?_
   have hje : j = xs.length := by omega
   have hLt : L.take i = shr xs := by rw [ht, hje, List.take_length]
   have hil : (shr xs).length = i := by rw [← hLt, List.length_take]; omega
   (refine aP rfl ?_; refine bV () trivial ?_ ⟨.inr (Eq.trans (b := some _) rfl ?_), trivial⟩)
   ·show AV.own 0 (0 + 0 * 2) (i - 0) 2 = _
    rw [hil]; rfl
   ·rw [GW (by omega), fB eF (e := 2), hLt]
theorem hU {m : List Cl} {N : Nat} {Q : Exit → AS → Prop} {all : Array Oper} {rest : List Oper} {tsl : List (Nat × AV)} {hsl : List (Nat × Option (List AV))} {nidl : Nat} {z0 : Lo} {md : Md} {d : Nat} {ty : TypeId} {pos : String} {af : Array Edge} {tys : Array TypeId} {x0 : Operand} (ha0 : ev (lk tsl) x0 = some (sl eC m)) (hmc : MC Tryz.prog 189 [sl eC m] [] 0 (fun _ : Unit => True) (fun _ => .own 1 0 m.length 4) (fun _ => [(1, some (aI eC m))])) (hM : Nat.ble (nidl + 2) fD = true) (hN : Nat.blt d N = true) {md' : Md} [hmd : MdA md (gS [x0] ++ []) (List.map Sum.inr (List.map Prod.fst ([((nidl + 1), some (aI eC m))] : List (Nat × Option (List AV)))) ++ [.inl d]) md'] (kk : RW Tryz.prog N all Q md' rest ⟨(d, .own (nidl + 1) 0 m.length 4) :: tsl, iK hsl [((nidl + 1), some (aI eC m))], nidl + 2, z0⟩) : RW Tryz.prog N all Q md (⟨some d, .call ⟨.value (.func 189), #[x0], tys⟩, ty, pos, af, none⟩ :: rest) ⟨tsl, hsl, nidl, z0⟩ := by
 refine cJ [] 2 [((nidl + 1), some (aI eC m))] hmc (avs := [sl eC m]) ?_ rfl ?_ rfl ?_ (by simpa using hM) ?_ ?_ ?_ hN (md' := md') (hmd := hmd) kk
 ·show evL (lk tsl) [x0] = _
  simp only [evL, ha0]
 ·exact trivial
 ·(repeat' (exact RnL.purI inferInstance))
 ·(repeat' (exact RnV.own rfl))
 ·simp [dQ]
 ·(repeat' (first|exact trivial|(refine And.intro ⟨1, _, rfl, rfl, ?_⟩ ?_)|exact RnL.purI inferInstance))
theorem oQ {m : List Cl} {j : Nat} {N : Nat} {Q : Exit → AS → Prop} {all : Array Oper} {rest : List Oper} {tsl : List (Nat × AV)} {hsl : List (Nat × Option (List AV))} {nidl : Nat} {z0 : Lo} {md : Md} {d : Nat} {ty : TypeId} {pos : String} {af : Array Edge} {tys : Array TypeId} {x0 : Operand} (ha0 : ev (lk tsl) x0 = some (sl eC m)) (hmc : MC Tryz.prog 189 [sl eC m] [] 0 (fun _ : Unit => True) (fun _ => .own 1 0 m.length 4) (fun _ => [(1, some (aI gZ (e5 m j (.own 2 0 m[j]!.stk.length 2)))), (2, some (aI eF m[j]!.stk))])) (hM : Nat.ble (nidl + 3) fD = true) (hN : Nat.blt d N = true) {md' : Md} [hmd : MdA md (gS [x0] ++ []) (List.map Sum.inr (List.map Prod.fst ([((nidl + 1), some (aI gZ (e5 m j (.own (nidl + 2) 0 m[j]!.stk.length 2)))), ((nidl + 2), some (aI eF m[j]!.stk))] : List (Nat × Option (List AV)))) ++ [.inl d]) md'] (kk : RW Tryz.prog N all Q md' rest ⟨(d, .own (nidl + 1) 0 m.length 4) :: tsl, iK hsl [((nidl + 1), some (aI gZ (e5 m j (.own (nidl + 2) 0 m[j]!.stk.length 2)))), ((nidl + 2), some (aI eF m[j]!.stk))], nidl + 3, z0⟩) : RW Tryz.prog N all Q md (⟨some d, .call ⟨.value (.func 189), #[x0], tys⟩, ty, pos, af, none⟩ :: rest) ⟨tsl, hsl, nidl, z0⟩ := by
 refine cJ [] 3 [((nidl + 1), some (aI gZ (e5 m j (.own (nidl + 2) 0 m[j]!.stk.length 2)))), ((nidl + 2), some (aI eF m[j]!.stk))] hmc (avs := [sl eC m]) ?_ rfl ?_ rfl ?_ (by simpa using hM) ?_ ?_ ?_ hN (md' := md') (hmd := hmd) kk
 ·show evL (lk tsl) [x0] = _
  simp only [evL, ha0]
 ·exact trivial
 ·(repeat' (exact RnL.purI inferInstance))
 ·(repeat' (exact RnV.own rfl))
 ·simp [dQ]
 ·(repeat' (first|exact trivial|(refine And.intro ⟨1, _, rfl, rfl, ?_⟩ ?_)|(refine And.intro ⟨2, _, rfl, rfl, ?_⟩ ?_)|exact RnL.purI inferInstance|exact nA rfl))
theorem l8 {α : Type} [Inhabited α] (l : List α) (k : Nat) : l.set k l[k]! = l := by
 rcases Nat.lt_or_ge k l.length with h|h
 ·rw [cL _ _ h]; simp
 ·exact List.set_eq_of_length_le h
theorem CQ {m : List Cl} {i : Nat} (hi : i < m.length) : iR (aI eC m) (0 + i * 4 + 3) [sl eF m[i]!.stk] = aI eC m := by
 have h := KO (xs := m) (k := i) (s := m[i]!.stk) hi
 rw [show m.set i { m[i]! with stk := m[i]!.stk } = m from l8 m i] at h
 exact h
theorem Bj {m : List Cl} {i j : Nat} {X : AV} (hi : i < m.length) (h : i ≠ j) : (e5 m j X)[i]! = qL m[i]! := by
 unfold e5
 rw [cL _ _ (by rw [List.length_set, List.length_map]; exact hi), List.getElem_set_ne (fun e => h e.symm), List.getElem_map, cL _ _ hi]
theorem Iq {m : List Cl} {i j : Nat} {X : AV} (h : i < m.length ∧ i ≠ j) : iR (aI gZ (e5 m j X)) (0 + i * 4 + 3) [sl eF m[i]!.stk] = aI gZ (e5 m j X) := by
 have hl := eT (m := m) (j := j) (X := X)
 have e : (e5 m j X).set i { (e5 m j X)[i]! with av := sl eF m[i]!.stk } = e5 m j X := by
  rw [Bj h.1 h.2]
  have : ({ qL m[i]! with av := sl eF m[i]!.stk } : Co) = (e5 m j X)[i]! := by rw [Bj h.1 h.2]; rfl
  rw [this]; exact l8 _ _
 rw [← e]
 have := fW (f := gZ) (xs := e5 m j X) (k := i) (j := 3) (new := [sl eF m[i]!.stk]) (y := { (e5 m j X)[i]! with av := sl eF m[i]!.stk }) (by rw [hl]; exact h.1) (by simp) rfl
 rw [e] at this ⊢
 exact this
theorem oB {mp : List (Nat × Nat)} {lo : Lo} : ∀ {cs : List AV}, dD cs = true → All2 (DO mp lo) cs cs
 | [], _ => .nil
 | c :: cs, h => by
  simp only [dD, Bool.and_eq_true] at h
  exact .cons (.inl ⟨rfl, h.1⟩) (oB h.2)
theorem s8 {α β : Type} {R : α → β → Prop} : ∀ {a : List α} {b : List β} {c : List α} {d : List β}, All2 R a b → All2 R c d → All2 R (a ++ c) (b ++ d)
 | _, _, _, _, .nil, h => h
 | _, _, _, _, .cons h1 h2, h => .cons h1 (s8 h2 h)
theorem C6 {mp : List (Nat × Nat)} {lo : Lo} {m : List Cl} {j k i i' : Nat} (h : j < m.length) (hr : Jx mp lo (.own i 0 k 2) = some (.own i' 0 k 2)) : All2 (DO mp lo) (aI gZ (e5 m j (.own i 0 k 2))) (aI gZ (e5 m j (.own i' 0 k 2))) := by
 rw [jR h, jR h]
 exact s8 (oB (inferInstance : Pur (aI eC _)).pf) (s8 (oB (inferInstance : Pur [iv _, bv _, iv _]).pf) (.cons (.inr hr) (oB (inferInstance : Pur (aI eC _)).pf)))
theorem kC (m : List Cl) (hm : OkM m) : MC Tryz.prog 189 [sl eC m] [] 0 (fun _ : Unit => True) (fun _ => .own 1 0 m.length 4) (fun _ => [(1, some (aI eC m))]) := by
 have hml := hm.l
 have hcc := Aj m (by omega)
 (refine b0 Tryz.func189 rfl (by simp [Tryz.ntmps189]) ?_; rw [Tryz.ntmps189])
 repeat' (first|(apply aM;first|(apply vT;rfl;exact hcc;rfl;rfl)|(apply aE;rfl;rfl)|(apply aC;rfl;rfl)|(apply a9;rfl;rfl;rfl)|(apply aF;kernel_rfl))|(apply aN;first|apply aH|apply aB|apply aL)|with_reducible apply aA)
 refine a7 (σ := Nat) [3, 8, 9] [(3, _), (8, _), (9, _)] [] [] (fun k => [(10, iv (k : Int))]) (fun k => [(1, some (aI eC m))]) (fun k => k ≤ m.length) (fun k => m.length - k) (0) (Nat.zero_le _) rfl rfl (by repeat' (first|exact trivial|refine And.intro rfl ?_)) (by repeat' (first|exact trivial|refine And.intro (.inr rfl) ?_)) ?_
 rintro i hi
 by_cases hin : i < m.length
 ·have hst : m[i]!.stk.length ≤ 200 := (((jC m).1 hm).2 i hin).l.2
  have hct := zQ m[i]!.stk (by omega)
  repeat' (first|(apply aM;first|(apply o7;rfl;exact hct;rfl;rfl)|(with_reducible apply dG (d := 20))|(apply aE;rfl;rfl)|(first|(apply gQ;(case hx|hH => rfl);(case hf|hg|hα => infer_instance);(case hk => omega);(case h0|hN => rfl))|(apply aK;rfl;rfl;rfl;rfl))|(apply aD;rfl;rfl;rfl)|(apply aR;rfl;rfl;rfl;rfl)|(apply aC;rfl;rfl)|(apply cG;rfl;rfl;(assumption);rfl)|(apply aF;kernel_rfl)|(apply bH;rfl;rfl)|(apply aW;rfl;rfl;rfl;rfl;rfl;(case hl => (simp;done));(exact (rfl:_=[_, _, _, _]))))|(apply aN;first|apply aH|apply aB|(apply aO;rfl;all_goals intro hc;have hq:=hc;(try simp only [cK] at hq);try exfalso;omega)|apply aL|apply aS)|with_reducible apply aA)
  refine fA (kI ?_ (Le.frzD (d := 19) (i := 4) rfl rfl))
  repeat' (first|(apply aM;first|(apply aE;rfl;rfl)|(apply aD;rfl;rfl;rfl)|(apply bR;rfl;rfl;omega;rfl)|(apply cG;rfl;rfl;(assumption);rfl)|(apply aF;kernel_rfl)|(apply aW;rfl;rfl;rfl;rfl;rfl;(rw [aU]; simp only [hZ] <;> omega);(exact CQ (by (assumption)))))|(apply aN;(apply aB))|with_reducible apply aA|with_reducible apply aV)
  (apply dV (i + 1);focus (refine Le.ren [(1, 1)] rfl (by decide) ?_ ?_ <;> repeat' (first|exact trivial|refine And.intro ⟨_, rfl, ?_⟩ ?_|refine And.intro ⟨_, _, rfl, rfl, ?_⟩ ?_|exact Or.inr rfl|refine Or.inl ⟨?_, (by first|rfl|exact aZ _ _)⟩|rfl)))
  ·omega
  ·omega
 ·repeat' (first | (apply aM; first | (apply aE;rfl;rfl) | (apply aR;rfl;rfl;rfl;rfl) | (apply aC;rfl;rfl) | (apply aF;kernel_rfl)) | (apply aN; first | apply aH | apply aB | (apply aO;rfl;all_goals intro hc;have hq:=hc;(try simp only [cK] at hq);try exfalso;omega) | apply bF | apply aQ) | with_reducible apply aA | with_reducible apply bE | with_reducible apply bG)
  (refine aP rfl ?_; refine bV () trivial ?_ ⟨.inr (Eq.trans (b := some _) rfl ?_), trivial⟩)
  ·rfl
  ·rfl
theorem tZ (m : List Cl) (j : Nat) (hm : OkM m) (hj : j < m.length) : MC Tryz.prog 189 [sl eC m] [] 0 (fun _ : Unit => True) (fun _ => .own 1 0 m.length 4) (fun _ => [(1, some (aI gZ (e5 m j (.own 2 0 m[j]!.stk.length 2)))), (2, some (aI eF m[j]!.stk))]) := by
 have hml := hm.l
 have hcc := Aj m (by omega)
 (refine b0 Tryz.func189 rfl (by simp [Tryz.ntmps189]) ?_; rw [Tryz.ntmps189])
 repeat' (first|(apply aM;first|(apply vT;rfl;exact hcc;rfl;rfl)|(apply aE;rfl;rfl)|(apply aC;rfl;rfl)|(apply a9;rfl;rfl;rfl)|(apply aF;kernel_rfl))|(apply aN;first|apply aH|apply aB|apply aL)|with_reducible apply aA)
 refine AW.le ?_ (Le.bump 1)
 refine a7 (σ := Nat × Bool) [3, 8, 9] [(3, _), (8, _), (9, _)] [] [] (fun k => [(10, iv (k.1 : Int))]) (fun k => [(1, some (cond k.2 (aI gZ (e5 m j (.own 2 0 m[j]!.stk.length 2))) (aI eC m))), (2, cond k.2 (some (aI eF m[j]!.stk)) none)]) (fun k => k.1 ≤ m.length ∧ k.2 = decide (j < k.1)) (fun k => m.length - k.1) (0, false) ⟨Nat.zero_le _, by simp⟩ rfl rfl (by repeat' (first|exact trivial|refine And.intro rfl ?_)) (by repeat' (first|exact trivial|refine And.intro (.inr rfl) ?_)) ?_
 rintro ⟨i, b⟩ ⟨hi, hb⟩
 dsimp only at hi hb ⊢
 by_cases hin : i < m.length
 ·have hst : m[i]!.stk.length ≤ 200 := (((jC m).1 hm).2 i hin).l.2
  have hct := zQ m[i]!.stk (by omega)
  by_cases hij : j < i
  ·rw [decide_eq_true hij] at hb; subst hb
   simp only [cond_true]
   have hol := eT (m := m) (j := j) (X := .own 2 0 m[j]!.stk.length 2)
   have hon := Bj (m := m) (i := i) (j := j) (X := .own 2 0 m[j]!.stk.length 2) hin (by omega)
   repeat' (first|(apply aM;first|(with_reducible apply dG (d := 5))|(apply aE;rfl;rfl)|(apply gQ;(case hx|hH => rfl);(case hf|hg|hα => infer_instance);(case hk => omega);(case h0|hN => rfl))|(apply aR;rfl;rfl;rfl;rfl)|(apply cG;rfl;rfl;(assumption);rfl)|(apply aF;kernel_rfl))|(apply aN;first|apply aH|apply aB|(apply aO;rfl;all_goals intro hc;have hq:=hc;(try simp only [cK] at hq);try exfalso;omega)|apply aL|apply aS)|with_reducible apply aA)
   refine fA ?_
   rw [hon]
   dsimp only [qL]
   repeat' (first|(apply aM;first|(apply o7;rfl;exact hct;rfl;rfl)|(with_reducible apply dG (d := 20))|(apply aE;rfl;rfl)|(apply aK;rfl;rfl;rfl;rfl)|(apply aD;rfl;rfl;rfl)|(apply aC;rfl;rfl)|(apply aF;kernel_rfl)|(apply bH;rfl;rfl)|(apply aW;rfl;rfl;rfl;rfl;rfl;(case hl => (simp;done));(exact (rfl:_=[_, _, _, _]))))|(apply aN;(apply aB))|with_reducible apply aA)
   refine fA (kI ?_ (Le.frzD (d := 19) (i := 5) rfl rfl))
   repeat' (first|(apply aM;first|(apply aE;rfl;rfl)|(apply aD;rfl;rfl;rfl)|(apply bR;rfl;rfl;omega;rfl)|(apply cG;rfl;rfl;(assumption);rfl)|(apply aF;kernel_rfl)|(apply aW;rfl;rfl;rfl;rfl;rfl;(rw [aU]; simp only [hZ] <;> omega);(exact Iq (by (omega)))))|(apply aN;(apply aB))|with_reducible apply aA|with_reducible apply aV)
   (apply dV (i + 1, true);focus (refine Le.ren [(1, 1), (2, 2)] rfl (by decide) ?_ ?_ <;> repeat' (first|exact trivial|refine And.intro ⟨_, rfl, ?_⟩ ?_|refine And.intro ⟨_, _, rfl, rfl, ?_⟩ ?_|exact Or.inr rfl|refine Or.inl ⟨?_, (by first|rfl|exact aZ _ _)⟩|rfl)))
   ·exact Or.inr (C6 hj rfl)
   ·exact ⟨by dsimp only;omega, by dsimp only;rw [decide_eq_true (by omega)]⟩
   ·dsimp only;omega
  ·rw [decide_eq_false hij] at hb; subst hb
   simp only [cond_false]
   repeat' (first|(apply aM;first|(apply o7;rfl;exact hct;rfl;rfl)|(with_reducible apply dG (d := 20))|(apply aE;rfl;rfl)|(first|(apply gQ;(case hx|hH => rfl);(case hf|hg|hα => infer_instance);(case hk => omega);(case h0|hN => rfl))|(apply aK;rfl;rfl;rfl;rfl))|(apply aD;rfl;rfl;rfl)|(apply aR;rfl;rfl;rfl;rfl)|(apply aC;rfl;rfl)|(apply cG;rfl;rfl;(assumption);rfl)|(apply aF;kernel_rfl)|(apply bH;rfl;rfl)|(apply aW;rfl;rfl;rfl;rfl;rfl;(case hl => (simp;done));(exact (rfl:_=[_, _, _, _]))))|(apply aN;first|apply aH|apply aB|(apply aO;rfl;all_goals intro hc;have hq:=hc;(try simp only [cK] at hq);try exfalso;omega)|apply aL|apply aS)|with_reducible apply aA)
   by_cases hie : i = j
   ·subst hie
    refine fA ?_
    repeat' (first|(apply aM;first|(apply aE;rfl;rfl)|(apply aD;rfl;rfl;rfl)|(apply bR;rfl;rfl;omega;rfl)|(apply cG;rfl;rfl;(assumption);rfl)|(apply aF;kernel_rfl)|(apply aW;rfl;rfl;rfl;rfl;rfl;(rw [aU]; simp only [hZ] <;> omega);(exact IL (by (assumption)))))|(apply aN;(apply aB))|with_reducible apply aA|with_reducible apply aV)
    (apply dV (i + 1, true);focus (refine Le.ren [(1, 1), (2, 5)] rfl (by decide) ?_ ?_ <;> repeat' (first|exact trivial|refine And.intro ⟨_, rfl, ?_⟩ ?_|refine And.intro ⟨_, _, rfl, rfl, ?_⟩ ?_|exact Or.inr rfl|refine Or.inl ⟨?_, (by first|rfl|exact aZ _ _)⟩|rfl)))
    ·exact Or.inr (C6 hin rfl)
    ·exact ⟨by dsimp only;omega, by dsimp only;rw [decide_eq_true (by omega)]⟩
    ·dsimp only;omega
   ·refine fA (kI ?_ (Le.frzD (d := 19) (i := 5) rfl rfl))
    repeat' (first|(apply aM;first|(apply aE;rfl;rfl)|(apply aD;rfl;rfl;rfl)|(apply bR;rfl;rfl;omega;rfl)|(apply cG;rfl;rfl;(assumption);rfl)|(apply aF;kernel_rfl)|(apply aW;rfl;rfl;rfl;rfl;rfl;(rw [aU]; simp only [hZ] <;> omega);(exact CQ (by (assumption)))))|(apply aN;(apply aB))|with_reducible apply aA|with_reducible apply aV)
    (apply dV (i + 1, false);focus (refine Le.ren [(1, 1)] rfl (by decide) ?_ ?_ <;> repeat' (first|exact trivial|refine And.intro ⟨_, rfl, ?_⟩ ?_|refine And.intro ⟨_, _, rfl, rfl, ?_⟩ ?_|exact Or.inr rfl|refine Or.inl ⟨?_, (by first|rfl|exact aZ _ _)⟩|rfl)))
    ·exact ⟨by dsimp only;omega, by dsimp only;rw [decide_eq_false (by omega)]⟩
    ·dsimp only;omega
 ·rw [decide_eq_true (by omega)] at hb; subst hb
  simp only [cond_true]
  repeat' (first|(apply aM;first|(apply aE;rfl;rfl)|(apply aR;rfl;rfl;rfl;rfl)|(apply aC;rfl;rfl)|(apply aF;kernel_rfl))|(apply aN;first|apply aH|apply aB|(apply aO;rfl;all_goals intro hc;have hq:=hc;(try simp only [cK] at hq);try exfalso;omega)|apply bF|apply aQ)|with_reducible apply aA|with_reducible apply bE|with_reducible apply bG)
  (refine aP rfl ?_; refine bV () trivial ?_ ⟨.inr (Eq.trans (b := some _) rfl ?_), ⟨.inr (Eq.trans (b := some _) rfl ?_), trivial⟩⟩)
  ·rfl
  ·rfl
  ·rfl
theorem mH {m : List Cl} {x : Pt} {wr : Bool} {n : Nat} {N : Nat} {Q : Exit → AS → Prop} {all : Array Oper} {rest : List Oper} {tsl : List (Nat × AV)} {hsl : List (Nat × Option (List AV))} {nidl : Nat} {z0 : Lo} {md : Md} {d : Nat} {ty : TypeId} {pos : String} {af : Array Edge} {tys : Array TypeId} {x0 x1 x2 : Operand} {i0 : Nat} (ha0 : ev (lk tsl) x0 = some (.own i0 0 n 4)) (ha1 : ev (lk tsl) x1 = some (Gc x)) (ha2 : ev (lk tsl) x2 = some (bv wr)) (hH0 : cE hsl i0 = some (aI eC m)) (hmc : MC Tryz.prog 190 [.own 0 0 n 4, Gc x, bv wr] [(0, some (aI eC m))] 1 (fun _ : Unit => True) (fun _ => iv (cR m x wr)) (fun _ => [(0, some (aI eC m))])) (hM : Nat.ble (nidl + 0) fD = true) (hN : Nat.blt d N = true) {md' : Md} [hmd : MdA md (gS [x0, x1, x2] ++ [.inr i0]) (List.map Sum.inr (List.map Prod.fst ([(i0, some (aI eC m))] : List (Nat × Option (List AV)))) ++ [.inl d]) md'] (kk : RW Tryz.prog N all Q md' rest ⟨(d, iv (cR m x wr)) :: tsl, iK hsl [(i0, some (aI eC m))], nidl + 0, z0⟩) : RW Tryz.prog N all Q md (⟨some d, .call ⟨.value (.func 190), #[x0, x1, x2], tys⟩, ty, pos, af, none⟩ :: rest) ⟨tsl, hsl, nidl, z0⟩ := by
 refine cJ [i0] 1 [(i0, some (aI eC m))] hmc (avs := [.own i0 0 n 4, Gc x, bv wr]) ?_ rfl ?_ rfl ?_ (by simpa using hM) ?_ ?_ ?_ hN (md' := md') (hmd := hmd) kk
 ·show evL (lk tsl) [x0, x1, x2] = _
  simp only [evL, ha0, ha1, ha2]
 ·exact ⟨⟨_, _, rfl, hH0, by (repeat' (exact RnL.purI inferInstance))⟩, trivial⟩
 ·(repeat' (first|exact RnL.purI inferInstance|exact RnV.own rfl|refine RnL.cons ?_ ?_))
 ·(repeat' (exact RnV.purI inferInstance))
 ·simp [dQ]
 ·(repeat' (first|exact trivial|(refine And.intro ⟨0, _, rfl, rfl, ?_⟩ ?_)|exact RnL.purI inferInstance))
theorem vQ {m : List Cl} {j : Nat} {t : Int} {k n : Nat} {N : Nat} {Q : Exit → AS → Prop} {all : Array Oper} {rest : List Oper} {tsl : List (Nat × AV)} {hsl : List (Nat × Option (List AV))} {nidl : Nat} {z0 : Lo} {md : Md} {d : Nat} {ty : TypeId} {pos : String} {af : Array Edge} {tys : Array TypeId} {x0 x1 x2 : Operand} {i0 i1 : Nat} (ha0 : ev (lk tsl) x0 = some (.own i0 0 n 4)) (ha1 : ev (lk tsl) x1 = some (.agg [iv (j : Int), iv t])) (ha2 : ev (lk tsl) x2 = some (bv true)) (hH0 : cE hsl i0 = some (aI gZ (e5 m j (.own i1 0 m[j]!.stk.length 2)))) (hH1 : cE hsl i1 = some (aI eF m[j]!.stk)) (hdd : Go.AL.distinct [i0, i1] = true) (hmc : MC Tryz.prog 190 [.own 0 0 n 4, .agg [iv (j : Int), iv t], bv true] [(0, some (aI gZ (e5 m j (.own 1 0 m[j]!.stk.length 2)))), (1, some (aI eF m[j]!.stk))] 2 (fun _ : Unit => True) (fun _ => iv 0) (fun _ => [(0, some (aI gZ (e5 m j (.own 1 0 (k + 1) 2)))), (1, some (aI eF (m[j]!.stk.take (k + 1))))])) (hM : Nat.ble (nidl + 0) fD = true) (hN : Nat.blt d N = true) {md' : Md} [hmd : MdA md (gS [x0, x1, x2] ++ [.inr i0, .inr i1]) (List.map Sum.inr (List.map Prod.fst ([(i0, some (aI gZ (e5 m j (.own i1 0 (k + 1) 2)))), (i1, some (aI eF (m[j]!.stk.take (k + 1))))] : List (Nat × Option (List AV)))) ++ [.inl d]) md'] (kk : RW Tryz.prog N all Q md' rest ⟨(d, iv 0) :: tsl, iK hsl [(i0, some (aI gZ (e5 m j (.own i1 0 (k + 1) 2)))), (i1, some (aI eF (m[j]!.stk.take (k + 1))))], nidl + 0, z0⟩) : RW Tryz.prog N all Q md (⟨some d, .call ⟨.value (.func 190), #[x0, x1, x2], tys⟩, ty, pos, af, none⟩ :: rest) ⟨tsl, hsl, nidl, z0⟩ := by
 refine cJ [i0, i1] 2 [(i0, some (aI gZ (e5 m j (.own i1 0 (k + 1) 2)))), (i1, some (aI eF (m[j]!.stk.take (k + 1))))] hmc (avs := [.own i0 0 n 4, .agg [iv (j : Int), iv t], bv true]) ?_ hdd ?_ rfl ?_ (by simpa using hM) ?_ ?_ ?_ hN (md' := md') (hmd := hmd) kk
 ·show evL (lk tsl) [x0, x1, x2] = _
  simp only [evL, ha0, ha1, ha2]
 ·exact ⟨⟨_, _, rfl, hH0, by (repeat' (exact nA rfl))⟩, ⟨⟨_, _, rfl, hH1, by (repeat' (exact RnL.purI inferInstance))⟩, trivial⟩⟩
 ·(repeat' (first|exact RnL.purI inferInstance|exact RnV.own rfl|refine RnL.cons ?_ ?_))
 ·(repeat' (exact RnV.purI inferInstance))
 ·simp [dQ]
 ·(repeat' (first|exact trivial|(refine And.intro ⟨0, _, rfl, rfl, ?_⟩ ?_)|(refine And.intro ⟨1, _, rfl, rfl, ?_⟩ ?_)|exact RnL.purI inferInstance|exact nA rfl))
theorem LdL.app {D : List Nat} {H : Nat → Option (List AV)} : ∀ {a b c d : List AV}, LdL D H a b → LdL D H c d → dD a = true → LdL D H (a ++ c) (a ++ d)
 | [], _, _, _, _, h, _ => h
 | x :: a, b, c, d, h1, h, hp => by
  simp only [dD, Bool.and_eq_true] at hp
  exact .cons (.pur hp.1) (LdL.app (a := a) (b := a) (.pur hp.2) h hp.2)
theorem KN {D : List Nat} {H : Nat → Option (List AV)} {m : List Cl} {j i k : Nat} {r : List Tg} (hi : i ∈ D) (hH : H i = some (aI eF r)) (hk : k = r.length) (hj : j < m.length) : LdL D H (aI gZ (e5 m j (.own i 0 k 2))) (aI eC (m.set j { m[j]! with stk := r })) := by
 subst hk
 rw [← A4, jR hj, jR hj]
 have p1 : dD (aI eC (m.take j)) = true := (inferInstance : Pur (aI eC _)).pf
 have p2 : dD [iv m[j]!.val, bv m[j]!.alive, iv m[j]!.next] = true := rfl
 exact LdL.app (.pur p1) (LdL.app (.pur p2) (.cons (.own hi hH (.pur (inferInstance : Pur (aI eF r)).pf)) (.pur (inferInstance : Pur (aI eC _)).pf)) p2) p1
theorem Dt {D : List Nat} {H : Nat → Option (List AV)} {m : List Cl} {j i : Nat} (hi : i ∈ D) (hH : H i = some (aI eF m[j]!.stk)) (hj : j < m.length) : LdL D H (aI gZ (e5 m j (.own i 0 m[j]!.stk.length 2))) (aI eC m) := by
 have h := KN (m := m) (r := m[j]!.stk) hi hH rfl hj
 rwa [show m.set j { m[j]! with stk := m[j]!.stk } = m from l8 m j] at h
theorem Kr {m : List Cl} {x : Pt} {wr : Bool} (h : 0 ≤ x.cell) (h2 : x.cell < m.length) (h3 : m[x.cell.toNat]!.alive = true) (h4 : 0 ≤ cP m[x.cell.toNat]!.stk x.tag) (hw : wr = true) (h5 : m[x.cell.toNat]!.stk[(cP m[x.cell.toNat]!.stk x.tag).toNat]!.uq = false) : cR m x wr = 3 := by
 unfold cR;rw [if_neg (by omega), if_neg (by rw [h3]; decide), if_neg (by omega), if_pos ⟨hw, h5⟩]
theorem oT (m : List Cl) (x : Pt) (wr : Bool) (n : Nat) (hm : OkM m) (hn : n = m.length) (hk : cR m x wr ≠ 0) : MC Tryz.prog 190 [.own 0 0 n 4, Gc x, bv wr] [(0, some (aI eC m))] 1 (fun _ : Unit => True) (fun _ => iv (cR m x wr)) (fun _ => [(0, some (aI eC m))]) := by
 subst hn
 have hml := hm.l
 have hcv := hO m hm
 have hst : 0 ≤ x.cell → x.cell < m.length → m[x.cell.toNat]!.stk.length ≤ 200 := fun h1 h2 => (((jC m).1 hm).2 x.cell.toNat (by omega)).l.2
 have hbd := e7 m[x.cell.toNat]!.stk x.tag
 have hidx := fun h => w6 m[x.cell.toNat]!.stk x.cell x.tag h
 (refine b0 Tryz.func190 rfl (by simp [Tryz.ntmps190]) ?_; rw [Tryz.ntmps190])
 repeat' (first|(apply aM;first|((with_reducible apply n7 (k := 187));(case ha => rfl);(case hl => (repeat' (first|exact mR|apply kR|exact mP rfl inferInstance)));(case h => exact hcv);(case hfr|hN => rfl);(case hmd => infer_instance))|((apply iN 4);(case hx|hH|hc|hN => rfl))|((with_reducible apply aJ (k := 210));(case ha => rfl);(case h => exact (hidx (by have := hst (by omega) (by omega);omega)));(case hp => (exact Pur.pf));(case hN => rfl))|(with_reducible apply dG (d := 75))|(apply aE;rfl;rfl)|(first|(apply cV;(case hx|hH => rfl);(case hf|hg|hα => infer_instance);(case hk => omega);(case hc|hN => rfl))|(apply aK;rfl;rfl;rfl;rfl))|(apply aD;rfl;rfl;rfl)|(first|(apply bB;rfl;rfl;rfl;(first|rfl|assumption))|(apply bC;rfl;rfl;rfl;(assumption))|(apply bK;(case hj|hb|hN => rfl);all_goals (intro hg;have hq := hg;(try simp only [cK] at hq);(try (exfalso;omega)))))|(first|(apply fO;rfl;rfl;omega;rfl)|(apply aR;rfl;rfl;rfl;rfl))|(apply aC;rfl;rfl)|(first|(apply bS;rfl;(assumption);rfl;rfl)|(apply bI;rfl;(first|rfl|assumption);rfl;rfl))|(first|(apply dA;(case hx|hi => rfl);(case hm => (omega));(case hml => (rfl));(case hα | hf|hg => infer_instance);(case hN => rfl))|(apply cM;rfl;rfl;(omega);rfl))|((with_reducible apply aJ (k := 50));(case ha => rfl);(case h => (apply dO <;> (fail)));(case hp => (rfl));(case hN => rfl))|(apply a9;rfl;rfl;rfl)|(apply aF;kernel_rfl)|(apply cQ;rfl;rfl)|(apply bU;rfl;rfl;rfl)|(apply bW;rfl;rfl;rfl;rfl))|(apply aN;first|apply aH|apply aB|(apply cH;rfl;(rfl))|(apply aO;rfl;all_goals intro hc;have hq:=hc;(try simp only [cK] at hq);try exfalso;omega)|apply aL|apply aS|apply aQ)|with_reducible apply aA|with_reducible apply bJ|with_reducible apply cY)
 ·(refine aP rfl ?_; refine bV () trivial ?_ ⟨.inr (Eq.trans (b := some _) rfl ?_), trivial⟩)
  ·rw [KM (by omega)]; rfl
  ·rfl
 ·(refine aP rfl ?_; refine bV () trivial ?_ ⟨.inr (Eq.trans (b := some _) rfl ?_), trivial⟩)
  ·rw [Kv (by omega) (by omega) (by assumption)]; rfl
  ·rfl
 ·(refine aP rfl ?_; refine bV () trivial ?_ ⟨.inr (Eq.trans (b := some _) rfl ?_), trivial⟩)
  ·rw [J1 (by omega) (by omega) (by assumption) (by assumption)]; rfl
  ·rfl
 ·(refine aP rfl ?_; refine bV () trivial ?_ ⟨.inr (Eq.trans (b := some _) rfl ?_), trivial⟩)
  ·rw [Kr (by omega) (by omega) (by assumption) (by assumption) (by assumption) (by assumption)]; rfl
  ·rfl
 ·exfalso
  have hw : wr = true := by assumption
  have hu : m[x.cell.toNat]!.stk[(cP m[x.cell.toNat]!.stk x.tag).toNat]!.uq = true := by assumption
  subst hw
  refine hk ?_
  rw [HU, if_pos (De (by omega) (by omega) (by assumption) (by assumption)), if_neg (by rw [hu]; decide)]
 ·exfalso
  have hw : wr = false := by assumption
  subst hw
  exact hk (De (by omega) (by omega) (by assumption) (by assumption))
theorem tM (m : List Cl) (j : Nat) (t : Int) (k n : Nat) (hm : OkM m) (hn : n = m.length) (hj : j < m.length) (hk : cP m[j]!.stk t = (k : Int)) (hal : m[j]!.alive = true) (hu : m[j]!.stk[k]!.uq = true) : MC Tryz.prog 190 [.own 0 0 n 4, .agg [iv (j : Int), iv t], bv true] [(0, some (aI gZ (e5 m j (.own 1 0 m[j]!.stk.length 2)))), (1, some (aI eF m[j]!.stk))] 2 (fun _ : Unit => True) (fun _ => iv 0) (fun _ => [(0, some (aI gZ (e5 m j (.own 1 0 (k + 1) 2)))), (1, some (aI eF (m[j]!.stk.take (k + 1))))]) := by
 subst hn
 have hml := hm.l
 have hcv := hO m hm
 have hst : m[j]!.stk.length ≤ 200 := (((jC m).1 hm).2 j hj).l.2
 have hbd := e7 m[j]!.stk t
 rw [hk] at hbd
 have hidx := w6 m[j]!.stk (j : Int) t (by omega)
 rw [hk] at hidx
 have hog := iV (m := m) (j := j) (X := .own 1 0 m[j]!.stk.length 2) hj
 have hol := eT (m := m) (j := j) (X := .own 1 0 m[j]!.stk.length 2)
 (refine b0 Tryz.func190 rfl (by simp [Tryz.ntmps190]) ?_; rw [Tryz.ntmps190])
 repeat' (first|(apply aM;first|((with_reducible apply oH (k := 187) (D := [0, 1]) (h := hcv));(case ha => rfl);(case hl => exact .cons (.own (by simp) rfl (Dt (by simp) rfl hj)) .nil);(case hfr|hN => rfl))|(with_reducible apply dG (d := 35))|(apply aE;rfl;rfl)|(first|(apply cV;(case hx|hH => rfl);(case hf|hg|hα => infer_instance);(case hk => omega);(case hc|hN => rfl))|(apply aK;rfl;rfl;rfl;rfl))|(apply aD;rfl;rfl;rfl)|(apply bB;rfl;rfl;rfl;(rfl))|(apply fO;rfl;rfl;omega;rfl)|(apply aC;rfl;rfl)|(apply bI;rfl;(rfl);rfl;rfl)|(apply cG;rfl;rfl;(assumption);rfl)|((with_reducible apply aJ (k := 50));(case ha => rfl);(case h => (apply dO <;> (fail)));(case hp => (rfl));(case hN => rfl))|(apply a9;rfl;rfl;rfl)|(apply aF;kernel_rfl)|(apply cQ;rfl;rfl)|(apply bU;rfl;rfl;rfl)|(apply bW;rfl;rfl;rfl;rfl))|(apply aN;first|apply aH|apply aB|(apply aO;rfl;all_goals intro hc;have hq:=hc;(try simp only [cK] at hq);try exfalso;omega)|apply aS|apply aQ)|with_reducible apply aA|with_reducible apply bJ)
 all_goals (try (exfalso;omega))
 ·exfalso
  have h : (e5 m j (.own 1 0 m[j]!.stk.length 2))[j]!.alive = false := by assumption
  rw [hog] at h;simp only [hal] at h;cases h
 refine fA ?_
 rw [hog]
 dsimp only
 repeat' (first|(apply aM;first|((apply iN 4);(case hx|hH|hc|hN => rfl))|((with_reducible apply oH (k := 210) (D := [1]) (h := hidx));(case ha => rfl);(case hl => exact .cons (.own (by simp) rfl (.pur (inferInstance : Pur (aI eF _)).pf)) (.cons (.pur rfl) .nil));(case hfr|hN => rfl))|(with_reducible apply dG (d := 68))|(apply aE;rfl;rfl)|(apply cV;(case hx|hH => rfl);(case hf|hg|hα => infer_instance);(case hk => omega);(case hc|hN => rfl))|(apply aD;rfl;rfl;rfl)|(apply bB;rfl;rfl;rfl;(rfl))|(apply aR;rfl;rfl;rfl;rfl)|(apply aC;rfl;rfl)|(apply aF;kernel_rfl)|(apply bU;rfl;rfl;rfl))|(apply aN;first|apply aH|apply aB|(apply cH;rfl;(rfl))|apply aL)|with_reducible apply aA)
 refine fA ?_
 rw [hog]
 dsimp only
 repeat' (first|(apply aM;first|(with_reducible apply dG (d := 81))|(apply aE;rfl;rfl)|(apply cV;(case hx|hH => rfl);(case hf|hg|hα => infer_instance);(case hk => omega);(case hc|hN => rfl))|(apply aD;rfl;rfl;rfl)|(apply bB;rfl;rfl;rfl;(rfl))|(apply aC;rfl;rfl)|(apply bS;rfl;(rfl);rfl;rfl)|(apply cG;rfl;rfl;(omega);rfl)|(apply aF;kernel_rfl)|(apply cQ;rfl;rfl)|(apply bU;rfl;rfl;rfl))|(apply aN;first|apply aH|apply aB|(apply b8;rfl;(rfl))|(apply aO;rfl;all_goals intro hc;have hq:=hc;(try simp only [cK] at hq);try exfalso;omega)|apply aQ)|with_reducible apply aA|with_reducible apply bJ|with_reducible apply cY)
 ·exfalso
  have h : m[j]!.stk[k]!.uq = false := by assumption
  rw [hu] at h;cases h
 refine fA ?_
 rw [hog]
 dsimp only
 repeat' (first|(apply aM;first|((apply iH (d := 83) (l := 0) (h := k + 1));(case hx|hn|hl => rfl);(case hh => exact o9 rfl (by omega));(case hp => exact if_pos (by omega));(case hN => rfl))|(apply aE;rfl;rfl)|(apply aD;rfl;rfl;rfl)|(apply bR;rfl;rfl;omega;rfl)|(apply aC;rfl;rfl)|(apply aF;kernel_rfl)|(apply bU;rfl;rfl;rfl)|(apply aW;rfl;rfl;rfl;rfl;rfl;(rw [aU]; simp only [hZ] <;> omega);(exact xW (by (assumption)))))|(apply aN;first|apply aH|apply aB|apply aQ)|with_reducible apply aA|with_reducible apply aV)
 refine cC (Le.cut (i := 1) ((k + 1) * 2) rfl) ?_
 (refine aP rfl ?_; refine bV () trivial ?_ ⟨.inr (Eq.trans (b := some _) rfl ?_), ⟨.inr (Eq.trans (b := some _) rfl ?_), trivial⟩⟩)
 ·rfl
 ·rfl
 ·rw [fB eF (e := 2)]
theorem D4 {xs : List Tg} {k n : Nat} {N : Nat} {Q : Exit → AS → Prop} {all : Array Oper} {rest : List Oper} {tsl : List (Nat × AV)} {hsl : List (Nat × Option (List AV))} {nidl : Nat} {z0 : Lo} {md : Md} {d : Nat} {ty : TypeId} {pos : String} {af : Array Edge} {tys : Array TypeId} {x0 : Operand} {i0 : Nat} (ha0 : ev (lk tsl) x0 = some (.own i0 (0 + k * 2) n 2)) (hH0 : cE hsl i0 = some (aI eF xs)) (hmc : MC Tryz.prog 209 [.own 0 (0 + k * 2) n 2] [(0, some (aI eF xs))] 1 (fun _ : Unit => True) (fun _ => .own 2 0 n 2) (fun _ => [(0, some (aI eF xs)), (2, some (aI eF (xs.drop k)))])) (hM : Nat.ble (nidl + 2) fD = true) (hN : Nat.blt d N = true) {md' : Md} [hmd : MdA md (gS [x0] ++ [.inr i0]) (List.map Sum.inr (List.map Prod.fst ([(i0, some (aI eF xs)), ((nidl + 1), some (aI eF (xs.drop k)))] : List (Nat × Option (List AV)))) ++ [.inl d]) md'] (kk : RW Tryz.prog N all Q md' rest ⟨(d, .own (nidl + 1) 0 n 2) :: tsl, iK hsl [(i0, some (aI eF xs)), ((nidl + 1), some (aI eF (xs.drop k)))], nidl + 2, z0⟩) : RW Tryz.prog N all Q md (⟨some d, .call ⟨.value (.func 209), #[x0], tys⟩, ty, pos, af, none⟩ :: rest) ⟨tsl, hsl, nidl, z0⟩ := by
 refine cJ [i0] 3 [(i0, some (aI eF xs)), ((nidl + 1), some (aI eF (xs.drop k)))] hmc (avs := [.own i0 (0 + k * 2) n 2]) ?_ rfl ?_ rfl ?_ (by simpa using hM) ?_ ?_ ?_ hN (md' := md') (hmd := hmd) kk
 ·show evL (lk tsl) [x0] = _
  simp only [evL, ha0]
 ·exact ⟨⟨_, _, rfl, hH0, by (repeat' (exact RnL.purI inferInstance))⟩, trivial⟩
 ·(repeat' (first|exact RnL.purI inferInstance|exact RnV.own rfl|refine RnL.cons ?_ ?_))
 ·(repeat' (exact RnV.own rfl))
 ·simp [dQ]
 ·(repeat' (first|exact trivial|(refine And.intro ⟨0, _, rfl, rfl, ?_⟩ ?_)|(refine And.intro ⟨2, _, rfl, rfl, ?_⟩ ?_)|exact RnL.purI inferInstance))
theorem EK (xs : List Tg) (k n : Nat) (hn : n = xs.length - k) (hl : xs.length ≤ 1000000) : MC Tryz.prog 209 [.own 0 (0 + k * 2) n 2] [(0, some (aI eF xs))] 1 (fun _ : Unit => True) (fun _ => .own 2 0 n 2) (fun _ => [(0, some (aI eF xs)), (2, some (aI eF (xs.drop k)))]) := by
 subst hn
 (refine b0 Tryz.func209 rfl (by simp [Tryz.ntmps209]) ?_; rw [Tryz.ntmps209])
 repeat' (first|(apply aM;first|(apply D2;rfl;rfl;(intro b hb))|(apply cF;rfl;rfl;rfl;rfl;rfl;(decide);exact Ck rfl rfl;omega;omega;(exact kH rfl);rfl;rfl)|(apply aE;rfl;rfl)|(apply aC;rfl;rfl)|(apply aF;kernel_rfl)|(apply cA;rfl;rfl;rfl;(rfl);rfl;rfl))|(apply aN;first|apply aH|apply aB|(apply aO;rfl;all_goals intro hc;have hq:=hc;(try simp only [cK] at hq);try exfalso;omega)|apply aS|apply aQ)|with_reducible apply aA|with_reducible apply bJ)
 ·have h0 : xs.length - k = 0 := hb (by assumption)
  have h1 : xs.drop k = [] := List.drop_eq_nil_of_le (by omega)
  refine cC (Le.bump 1) ?_
  refine cC (Le.nilOwn (d := 2) 2 rfl (by decide)) ?_
  (refine aP rfl ?_; refine bV () trivial ?_ ⟨.inr (Eq.trans (b := some _) rfl ?_), ⟨.inr (Eq.trans (b := some _) rfl ?_), trivial⟩⟩)
  ·show AV.own 2 0 0 2 = _; rw [h0]
  ·rfl
  ·rw [h1]; rfl
 ·(refine aP rfl ?_; refine bV () trivial ?_ ⟨.inr (Eq.trans (b := some _) rfl ?_), ⟨.inr (Eq.trans (b := some _) rfl ?_), trivial⟩⟩)
  ·show AV.own 2 0 (0 + (xs.length - k)) 2 = _
   rw [Nat.zero_add]
  ·rfl
  ·rfl
theorem u7 {m : List Cl} {j : Nat} {t : Int} {r : List Tg} {n : Nat} {N : Nat} {Q : Exit → AS → Prop} {all : Array Oper} {rest : List Oper} {tsl : List (Nat × AV)} {hsl : List (Nat × Option (List AV))} {nidl : Nat} {z0 : Lo} {md : Md} {d : Nat} {ty : TypeId} {pos : String} {af : Array Edge} {tys : Array TypeId} {x0 x1 x2 : Operand} {i0 i1 : Nat} (ha0 : ev (lk tsl) x0 = some (.own i0 0 n 4)) (ha1 : ev (lk tsl) x1 = some (.agg [iv (j : Int), iv t])) (ha2 : ev (lk tsl) x2 = some (bv false)) (hH0 : cE hsl i0 = some (aI gZ (e5 m j (.own i1 0 m[j]!.stk.length 2)))) (hH1 : cE hsl i1 = some (aI eF m[j]!.stk)) (hdd : Go.AL.distinct [i0, i1] = true) (hmc : MC Tryz.prog 190 [.own 0 0 n 4, .agg [iv (j : Int), iv t], bv false] [(0, some (aI gZ (e5 m j (.own 1 0 m[j]!.stk.length 2)))), (1, some (aI eF m[j]!.stk))] 2 (fun _ : Unit => True) (fun _ => iv 0) (fun _ => [(0, some (aI gZ (e5 m j (.own 5 0 r.length 2)))), (5, some (aI eF r))])) (hM : Nat.ble (nidl + 4) fD = true) (hN : Nat.blt d N = true) {md' : Md} [hmd : MdA md (gS [x0, x1, x2] ++ [.inr i0, .inr i1]) (List.map Sum.inr (List.map Prod.fst ([(i0, some (aI gZ (e5 m j (.own (nidl + 3) 0 r.length 2)))), ((nidl + 3), some (aI eF r)), (i1, none)] : List (Nat × Option (List AV)))) ++ [.inl d]) md'] (kk : RW Tryz.prog N all Q md' rest ⟨(d, iv 0) :: tsl, iK hsl [(i0, some (aI gZ (e5 m j (.own (nidl + 3) 0 r.length 2)))), ((nidl + 3), some (aI eF r)), (i1, none)], nidl + 4, z0⟩) : RW Tryz.prog N all Q md (⟨some d, .call ⟨.value (.func 190), #[x0, x1, x2], tys⟩, ty, pos, af, none⟩ :: rest) ⟨tsl, hsl, nidl, z0⟩ := by
 refine cJ [i0, i1] 6 [(i0, some (aI gZ (e5 m j (.own (nidl + 3) 0 r.length 2)))), ((nidl + 3), some (aI eF r)), (i1, none)] hmc (avs := [.own i0 0 n 4, .agg [iv (j : Int), iv t], bv false]) ?_ hdd ?_ rfl ?_ (by simpa using hM) ?_ ?_ ?_ hN (md' := md') (hmd := hmd) kk
 ·show evL (lk tsl) [x0, x1, x2] = _
  simp only [evL, ha0, ha1, ha2]
 ·exact ⟨⟨_, _, rfl, hH0, by (repeat' (exact nA rfl))⟩, ⟨⟨_, _, rfl, hH1, by (repeat' (exact RnL.purI inferInstance))⟩, trivial⟩⟩
 ·(repeat' (first|exact RnL.purI inferInstance|exact RnV.own rfl|refine RnL.cons ?_ ?_))
 ·(repeat' (exact RnV.purI inferInstance))
 ·simp [dQ]
 ·(repeat' (first|exact trivial|(refine And.intro ⟨0, _, rfl, rfl, ?_⟩ ?_)|(refine And.intro ⟨5, _, rfl, rfl, ?_⟩ ?_)|exact RnL.purI inferInstance|exact nA rfl))
theorem y3 (m : List Cl) (j : Nat) (t : Int) (r : List Tg) (k n : Nat) (hm : OkM m) (hn : n = m.length) (hj : j < m.length) (hk : cP m[j]!.stk t = (k : Int)) (hal : m[j]!.alive = true) (hr : r = eQ m[j]!.stk k false) : MC Tryz.prog 190 [.own 0 0 n 4, .agg [iv (j : Int), iv t], bv false] [(0, some (aI gZ (e5 m j (.own 1 0 m[j]!.stk.length 2)))), (1, some (aI eF m[j]!.stk))] 2 (fun _ : Unit => True) (fun _ => iv 0) (fun _ => [(0, some (aI gZ (e5 m j (.own 5 0 r.length 2)))), (5, some (aI eF r))]) := by
 subst hn
 have hml := hm.l
 have hcv := hO m hm
 have hst : m[j]!.stk.length ≤ 200 := (((jC m).1 hm).2 j hj).l.2
 have hbd := e7 m[j]!.stk t
 rw [hk] at hbd
 have hidx := w6 m[j]!.stk (j : Int) t (by omega)
 rw [hk] at hidx
 have hog := iV (m := m) (j := j) (X := .own 1 0 m[j]!.stk.length 2) hj
 have hol := eT (m := m) (j := j) (X := .own 1 0 m[j]!.stk.length 2)
 (refine b0 Tryz.func190 rfl (by simp [Tryz.ntmps190]) ?_; rw [Tryz.ntmps190])
 repeat' (first|(apply aM;first|((with_reducible apply oH (k := 187) (D := [0, 1]) (h := hcv));(case ha => rfl);(case hl => exact .cons (.own (by simp) rfl (Dt (by simp) rfl hj)) .nil);(case hfr|hN => rfl))|(with_reducible apply dG (d := 35))|(apply aE;rfl;rfl)|(first|(apply cV;(case hx|hH => rfl);(case hf|hg|hα => infer_instance);(case hk => omega);(case hc|hN => rfl))|(apply aK;rfl;rfl;rfl;rfl))|(apply aD;rfl;rfl;rfl)|(apply bB;rfl;rfl;rfl;(rfl))|(apply fO;rfl;rfl;omega;rfl)|(apply aC;rfl;rfl)|(apply bI;rfl;(rfl);rfl;rfl)|(apply cG;rfl;rfl;(assumption);rfl)|((with_reducible apply aJ (k := 50));(case ha => rfl);(case h => (apply dO <;> (fail)));(case hp => (rfl));(case hN => rfl))|(apply a9;rfl;rfl;rfl)|(apply aF;kernel_rfl)|(apply cQ;rfl;rfl)|(apply bU;rfl;rfl;rfl)|(apply bW;rfl;rfl;rfl;rfl))|(apply aN;first|apply aH|apply aB|(apply aO;rfl;all_goals intro hc;have hq:=hc;(try simp only [cK] at hq);try exfalso;omega)|apply aS|apply aQ)|with_reducible apply aA|with_reducible apply bJ)
 all_goals (try (exfalso;omega))
 ·exfalso
  have h : (e5 m j (.own 1 0 m[j]!.stk.length 2))[j]!.alive = false := by assumption
  rw [hog] at h;simp only [hal] at h;cases h
 refine fA ?_
 rw [hog]
 dsimp only
 repeat' (first|(apply aM;first|((apply iN 4);(case hx|hH|hc|hN => rfl))|((with_reducible apply oH (k := 210) (D := [1]) (h := hidx));(case ha => rfl);(case hl => exact .cons (.own (by simp) rfl (.pur (inferInstance : Pur (aI eF _)).pf)) (.cons (.pur rfl) .nil));(case hfr|hN => rfl))|(with_reducible apply dG (d := 41))|(apply aE;rfl;rfl)|(apply cV;(case hx|hH => rfl);(case hf|hg|hα => infer_instance);(case hk => omega);(case hc|hN => rfl))|(apply aD;rfl;rfl;rfl)|(apply bC;rfl;rfl;rfl;(rfl))|(apply aR;rfl;rfl;rfl;rfl)|(apply aC;rfl;rfl)|(apply bI;rfl;(rfl);rfl;rfl)|(apply aF;kernel_rfl)|(apply bU;rfl;rfl;rfl))|(apply aN;first|apply aH|apply aB|(apply cH;rfl;(rfl))|apply aL)|with_reducible apply aA)
 refine fA ?_
 rw [hog]
 dsimp only
 repeat' (first|(apply aM;first|((apply iH (d := 43) (l := k + 1) (h := m[j]!.stk.length));(case hx|hn => rfl);(case hl => exact o9 rfl (by omega));(case hh => rfl);(case hp => exact if_pos (by omega));(case hN => rfl))|(apply D4;rfl;rfl;exact EK _ _ _ rfl (by omega);rfl;rfl)|(apply Ic;rfl;rfl;rfl;exact Ju _ _ (by rw [List.length_drop]) (by omega);rfl;rfl)|(with_reducible apply dG (d := 51))|(apply aE;rfl;rfl)|(apply cV;(case hx|hH => rfl);(case hf|hg|hα => infer_instance);(case hk => omega);(case hc|hN => rfl))|(apply aD;rfl;rfl;rfl)|(apply bR;rfl;rfl;omega;rfl)|(apply aC;rfl;rfl)|(apply aF;kernel_rfl)|(apply bU;rfl;rfl;rfl))|(apply aN;(apply aB))|with_reducible apply aA)
 refine fA ?_
 rw [hog]
 dsimp only
 have hfl : (aI eF m[j]!.stk).length = m[j]!.stk.length * 2 := aU eF _
 have hsl : (shr (List.drop (k + 1) m[j]!.stk)).length ≤ 200 := Nat.le_trans (List.length_filter_le _ _) (by rw [List.length_drop]; omega)
 repeat' (first|(apply aM;first|((apply iH (d := 53) (l := 0) (h := k + 1));(case hx|hn|hl => rfl);(case hh => exact o9 rfl (by omega));(case hp => exact if_pos (by omega));(case hN => rfl))|(apply cF;rfl;rfl;rfl;rfl;rfl;(rw [hfl]; omega);exact Ck (k := 0) rfl rfl;omega;omega;rfl;rfl;rfl)|(apply aE;rfl;rfl)|(apply aD;rfl;rfl;rfl)|(apply bR;rfl;rfl;omega;rfl)|(apply aC;rfl;rfl)|(apply aF;kernel_rfl)|(apply bU;rfl;rfl;rfl)|(apply aW;rfl;rfl;rfl;rfl;rfl;(rw [aU]; simp only [hZ] <;> omega);(exact xW (by (assumption)))))|(apply aN;first|apply aH|apply aB|apply aQ)|with_reducible apply aA|with_reducible apply aV)
 have hre : r = m[j]!.stk.take (k + 1) ++ shr (m[j]!.stk.drop (k + 1)) := by rw [hr]; rfl
 have hrl : r.length = k + 1 + (shr (List.drop (k + 1) m[j]!.stk)).length := by rw [hre, List.length_append, List.length_take]; omega
 (refine aP rfl ?_; refine bV () trivial ?_ ⟨.inr (Eq.trans (b := some _) rfl ?_), ⟨.inr (Eq.trans (b := some _) rfl ?_), trivial⟩⟩)
 ·rfl
 ·refine congrArg some ?_
  show aI gZ (e5 m j (AV.own 5 0 (k + 1 - 0 + (shr (List.drop (k + 1) m[j]!.stk)).length) 2)) = _
  rw [hrl]; rfl
 ·refine congrArg some ?_
  show (List.drop 0 (aI eF m[j]!.stk)).take ((k + 1) * 2) ++ aI eF (List.drop 0 (shr (List.drop (k + 1) m[j]!.stk))) = _
  rw [List.drop_zero, List.drop_zero, fB eF (e := 2), eE, ← hre]
end Go.Proofs.YtjcpngimjdckmaaGreat
