/-
 A part of the proofs over this program: rules and contracts of its functions (the contracts).
-/
import Derived.Test.YtckihjkcgfphmaaGreatP3B03
set_option linter.unusedVariables false
set_option linter.unusedSimpArgs false
set_option maxHeartbeats 8000000
set_option maxRecDepth 4000
attribute [local irreducible] Go.AL.RW Go.AL.AW Go.AL.Stop
namespace Go.Proofs.YtckihjkcgfphmaaGreat
open Go.AL Go.RowKit
class NumS (cs : List AV) (xs : outParam (List ByteArray)) : Prop where h : cs = aI Cv xs
instance NumS.nil : NumS [] [] := ⟨rfl⟩
instance NumS.cons {n : ByteArray} {cs : List AV} {xs : List ByteArray} [h : NumS cs xs] : NumS (.v (.string n) :: cs) (n :: xs) := ⟨by rw [h.h]; rfl⟩
theorem Gg {cs : List AV} {xs : List ByteArray} {m : Nat} (h : NumS cs xs) (hm : m = xs.length) (hs : xs.all (fun s => decide (s.size ≤ 600)) = true) : ∃ ys : List ByteArray, AV.imm m cs = sl Cv ys ∧ ys.length = m ∧ ∀ i : Nat, (ys[i]!).size ≤ 600 := by
 refine ⟨xs, by rw [h.h, hm], hm.symm, fun i => ?_⟩
 by_cases hi : i < xs.length
 ·rw [List.all_eq_true] at hs
  rw [cT _ _ hi]
  simpa using hs _ (List.getElem_mem hi)
 ·rw [getElem!_neg xs i hi]; decide
theorem Es : PC Tryz.prog 126 [] (fun r => ∃ ys : List ByteArray, r = sl Cv ys ∧ ys.length = 25 ∧ ∀ i : Nat, (ys[i]!).size ≤ 600) := by
 (refine aS Tryz.func126 rfl (by simp [Tryz.ntmps126]) ?_; rw [Tryz.ntmps126])
 repeat' (first|(apply aL;first|((apply bE (t := _));(case hze|hsm|hl => rfl);(case hfl => exact (rfl:_=some [_, _, _, _, _, _, _, _, _, _, _, _, _, _, _, _, _, _, _, _, _, _, _, _, _]));(case hM|hN => rfl))|(apply aC;rfl;rfl)|(apply aF;kernel_rfl))|(apply aM;first|apply aH|apply aB|apply aR)|with_reducible apply aA)
 refine uD (l := [.imm 25 [_, _, _, _, _, _, _, _, _, _, _, _, _, _, _, _, _, _, _, _, _, _, _, _, _]]) ?_ rfl ?_
 ·rintro _ ⟨ys, rfl, _⟩; exact aY _ _
 ·exact Gg inferInstance rfl (by decide)
theorem tQ {P : Program} {N : Nat} {Q : Exit → AS → Prop} {all : Array Oper} {rest : List Oper} {ts : List (Nat × AV)} {hs : List (Nat × Option (List AV))} {n : Nat} {z0 : Lo} {ty : TypeId} {pos : String} {af : Array Edge} {d : Nat} {args : Array Operand} {tys : Array TypeId}
  {k : FuncId} {pv : List AV} {p0 : Prg × Nat → Prop} {i p : Nat} {bs : List UInt8} (h : MC P k (.optr 0 0 :: pv) [(0, some (fS bs p))] 1 p0 (fun x => dF x.1) (fun x => [(0, some (fS bs x.2))])) [hc : CaT P k] (ha : evL (lk ts) args.toList = some (.optr i 0 :: pv)) (hpv : dB pv = true)
  (hH : cO hs i = some (fS bs p)) (hM : Nat.ble (n + 0) eZ = true) (hN : Nat.blt d N = true) (kk : ∀ x, p0 x → RW P N all Q .txt rest ⟨(d, dF x.1) :: ts, (i, some (fS bs x.2)) :: hs, n + 0, z0⟩) :
  RW P N all Q .txt (⟨some d, .call ⟨.value (.func k), args, tys⟩, ty, pos, af, none⟩ :: rest) ⟨ts, hs, n, z0⟩ :=
 FW (σ := Prg × Nat) [i] 1 (fun x : Prg × Nat => [(i, some (fS bs x.2))]) h ha rfl ⟨⟨_, _, rfl, hH, RnL.purI inferInstance⟩, trivial⟩ rfl (RnL.cons (RnV.optr rfl) (RnL.pur hpv)) (by simpa using hM)
  (fun x _ => RnV.purI inferInstance) (fun x _ => by simp [dJ]) (fun x _ => ⟨⟨0, _, rfl, rfl, RnL.purI inferInstance⟩, trivial⟩) hN kk
theorem FX (bs : List UInt8) (p : Nat) (xs : List Int) (lo hi : Int) (h0 : 0 < xs.length) (h : xs.all (fun x => decide (lo ≤ x) && decide (x ≤ hi)) = true) : lo ≤ jI bs p xs ∧ jI bs p xs ≤ hi := by
 have h1 := gO bs p (xs.length : Int)
 rw [kJ] at h
 have := h (cZ bs p (xs.length : Int)).toNat (by omega)
 simp only [Bool.and_eq_true, decide_eq_true_eq] at this
 exact this
theorem Ki (bs : List UInt8) (p : Nat) (hb : bs.length ≤ 2000) (hp : p ≤ 1000) : MC Tryz.prog 81 [.optr 0 0] [(0, some (fS bs p))] 1 (fun x : Prg × Nat => bX x.1.body ≤ 620 ∧ x.1.types.length ≤ 620 ∧ x.2 ≤ 2000) (fun x => dF x.1) (fun x => [(0, some (fS bs x.2))]) := by
 have h0 := gO bs p 25
 have hn := FX bs (p + 1 + 1) [5, 4, 7, 3, 8] 0 8 (by decide) (by decide)
 (refine b9 Tryz.func81 rfl (by simp [Tryz.ntmps81]) ?_; rw [Tryz.ntmps81])
 repeat' (first|(apply aL;first|((with_reducible apply jP (k := 126));(case ha => rfl);(case h => exact Es);(case hp => (rfl));(case hN => rfl);(rintro _ ⟨ys, rfl, hyl, hsz⟩ _);(have hpk := gO bs p (ys.length : Int)))|((with_reducible apply jP (k := 127));(case ha => rfl);(case h => exact tL _ (Nat.le_trans (hsz _) (by decide)));(case hp => (rfl));(case hN => rfl);(rintro _ ⟨q, b, rfl, hqc, hqt⟩ _))|((apply wV (ts := [1, 2, 2, 3, 4, 4]));(case ha0|ha1|ha2|ha3|hH0 => rfl);(case hmc => (apply EV <;> (first|assumption|omega)));(case hM|hN => rfl))|(apply aE;rfl;rfl)|(first|(apply aN;rfl;rfl;rfl;rfl)|(apply aV;rfl;rfl;(exact (rfl:_=[_, _]));rfl;rfl;rfl))|(apply aD;rfl;rfl;rfl)|(first|(apply a8;rfl;rfl;rfl;(assumption))|(apply bC;rfl;rfl;rfl;(assumption))|(apply bR;(case hj|hb|hN => rfl);all_goals (intro hg;have hq := hg;(try simp only [cJ] at hq);(try (exfalso;omega)))))|(apply aU;rfl;rfl;rfl;rfl)|(apply aC;rfl;rfl)|(first|(apply bY;rfl;(assumption);rfl;rfl)|(apply bQ;rfl;(assumption);rfl;rfl))|(apply cL;(case hx|hi => rfl);(case hm => (omega));(case hml => (rfl));(case hα | hf|hg => infer_instance);(case hN => rfl))|(first|(apply x5;rfl;rfl;rfl;rfl;infer_instance;rfl;(rfl);assumption;omega;(decide);(decide);rfl;rfl)|(apply mW;rfl;rfl;(rfl);(apply pW <;> (first|assumption|omega));rfl;rfl))|(apply bI;rfl;rfl;rfl)|(apply aF;kernel_rfl)|(apply b8;rfl;(exact (rfl:_=some [_, _]));(exact (rfl:_=[_, _]));rfl)|(apply a6;rfl;rfl)|(apply bD;rfl;rfl;rfl)|((apply bE (t := _));(case hze|hsm|hl => rfl);(case hfl => (exact (rfl:_=some [_, _, _, _, _, _])));(case hM|hN => rfl))|(apply bZ;rfl;rfl;rfl;(exact (rfl:_=some [_, _, _, _, _]));rfl;rfl)|(apply aW;rfl;rfl;rfl;rfl;rfl;(case hl => (first|decide|(simp;done)));(exact (rfl:_=[_, _]))))|(apply aM;first|apply aH|apply aB|(apply bV;kernel_rfl)|(apply cB;rfl;(rfl))|(apply aQ;rfl;all_goals intro hc;have hq:=hc;(try simp only [cJ] at hq);try exfalso;omega)|apply aT|apply aR)|with_reducible apply aA|with_reducible apply bG)
 ·have h9 := hsz (cZ bs p (ys.length : Int)).toNat
  refine aO rfl ?_
  exact bU (q, p + 1 + 1) ⟨by dsimp only;omega, by dsimp only;omega, by dsimp only;omega⟩ rfl ⟨.inr rfl, trivial⟩
 ·have h9 := IF bs (d := 2) (by omega) (jI bs (p + 1 + 1) [5, 4, 7, 3, 8]) (p + 1 + 1 + 1)
  have h10 := yX bs (d := 2) (by omega) (jI bs (p + 1 + 1) [5, 4, 7, 3, 8]) (p + 1 + 1 + 1)
  refine aO rfl ?_
  exact bU ((⟨[1, 2, 2, 3, 4, 4], (eV bs 2 (jI bs (p + 1 + 1) [5, 4, 7, 3, 8]) (p + 1 + 1 + 1)).1⟩ : Prg), (eV bs 2 (jI bs (p + 1 + 1) [5, 4, 7, 3, 8]) (p + 1 + 1 + 1)).2) ⟨by dsimp only;omega, by show 6 ≤ 620;decide, by dsimp only;omega⟩ rfl ⟨.inr rfl, trivial⟩
 ·have h9 := hsz (cZ bs p (ys.length : Int)).toNat
  refine aO rfl ?_
  exact bU (q, p + 1 + 1) ⟨by dsimp only;omega, by dsimp only;omega, by dsimp only;omega⟩ rfl ⟨.inr rfl, trivial⟩
theorem BY {bs : List UInt8} {N : Nat} {Q : Exit → AS → Prop} {all : Array Oper} {rest : List Oper} {tsl : List (Nat × AV)} {hsl : List (Nat × Option (List AV))} {nidl : Nat} {z0 : Lo} {md : Md} {d : Nat} {ty : TypeId} {pos : String} {af : Array Edge} {tys : Array TypeId} {x0 : Operand} (ha0 : ev (lk tsl) x0 = some (sl cU bs)) (hmc : MC Tryz.prog 79 [sl cU bs] [] 0 (fun _ : Unit => True) (fun _ => .optr 0 0) (fun _ => [(0, some (fS (bs.take 2000) 0))])) (hM : Nat.ble (nidl + 1) eZ = true) (hN : Nat.blt d N = true) {md' : Md} [hmd : MdA md (gK [x0] ++ []) (List.map Sum.inr (List.map Prod.fst ([(nidl, some (fS (bs.take 2000) 0))] : List (Nat × Option (List AV)))) ++ [.inl d]) md'] (kk : RW Tryz.prog N all Q md' rest ⟨(d, .optr nidl 0) :: tsl, iD hsl [(nidl, some (fS (bs.take 2000) 0))], nidl + 1, z0⟩) : RW Tryz.prog N all Q md (⟨some d, .call ⟨.value (.func 79), #[x0], tys⟩, ty, pos, af, none⟩ :: rest) ⟨tsl, hsl, nidl, z0⟩ := by
 refine cE [] 1 [(nidl, some (fS (bs.take 2000) 0))] hmc (avs := [sl cU bs]) ?_ rfl ?_ rfl ?_ (by simpa using hM) ?_ ?_ ?_ hN (md' := md') (hmd := hmd) kk
 ·show evL (lk tsl) [x0] = _
  simp only [evL, ha0]
 ·exact trivial
 ·(repeat' (exact RnL.purI inferInstance))
 ·(repeat' (exact RnV.optr rfl))
 ·simp [dJ]
 ·(repeat' (first|exact trivial|(refine And.intro ⟨0, _, rfl, rfl, ?_⟩ ?_)|exact RnL.purI inferInstance))
theorem D9 (bs : List UInt8) (hb : bs.length ≤ 1048576) : MC Tryz.prog 79 [sl cU bs] [] 0 (fun _ : Unit => True) (fun _ => .optr 0 0) (fun _ => [(0, some (fS (bs.take 2000) 0))]) := KY bs hb
theorem wY (p : Prg) (L : List Iss) (hC : PC Tryz.prog 32 [dF p] (fun r => r = sl pK L)) : PC Tryz.prog 66 [dF p] (fun r => r = .tup [Ma (Mt L).1, bv (Mt L).2]) := by
 (refine aS Tryz.func66 rfl (by simp [Tryz.ntmps66]) ?_; rw [Tryz.ntmps66])
 repeat' (first|(apply aL;first|((with_reducible apply aJ (k := 32));(case ha => rfl);(case h => exact hC);(case hp => (exact Pur.pf));(case hN => rfl))|(apply aE;rfl;rfl)|(apply aV;rfl;rfl;(first|exact (rfl:_=[_, _])|exact (rfl:_=[_, _, _]));rfl;rfl;rfl)|(apply aU;rfl;rfl;rfl;rfl)|(apply aC;rfl;rfl)|(apply cL;(case hx|hi => rfl);(case hm => (omega));(case hml => (rfl));(case hα | hf|hg => infer_instance);(case hN => rfl))|(apply bI;rfl;rfl;rfl)|(apply aF;kernel_rfl)|(apply b8;rfl;(exact (rfl:_=some [_, _, _]));(exact (rfl:_=[_, _, _]));rfl)|(apply bH;rfl;rfl;rfl;rfl)|(apply a6;rfl;rfl)|(apply aW;rfl;rfl;rfl;rfl;rfl;(case hl => (first|decide|(simp;done)));(exact (rfl:_=[_, _, _]))))|(apply aM;first|apply aH|apply aB|(apply aQ;rfl;all_goals intro hc;have hq:=hc;(try simp only [cJ] at hq);try exfalso;omega)|apply aT|apply aR)|with_reducible apply aA|with_reducible apply bG)
 ·cases L with
  | cons a b => simp only [List.length_cons] at hq;omega
  | nil => exact aO (l := [.agg [iv 0, iv 0, iv 0], bv false]) rfl ⟨rfl, rfl⟩
 ·cases L with
  | nil => simp at hq
  | cons a b => exact aO (l := [.agg [iv a.point, iv a.kind, iv a.with_], bv true]) rfl ⟨rfl, rfl⟩
theorem y7 (xs : List Int) (hl : xs.length ≤ 1000000) : PC Tryz.prog 105 [sl cI xs] (fun r => r = sl cI xs) := by
 (refine aS Tryz.func105 rfl (by simp [Tryz.ntmps105]) ?_; rw [Tryz.ntmps105])
 repeat' (first|(apply aL;first|(apply tR;rfl;rfl;(intro b hb))|(apply aE;rfl;rfl)|(apply aC;rfl;rfl)|(apply bW;rfl;rfl;rfl;rfl;rfl;(case hl => (simp [aP]; done));(exact iQ (by (rfl)));omega;omega;(exact eY (by (omega)));rfl;rfl)|(apply aF;kernel_rfl)|(apply bZ;rfl;rfl;rfl;(rfl);rfl;rfl))|(apply aM;first|apply aH|apply aB|(apply aQ;rfl;all_goals intro hc;have hq:=hc;(try simp only [cJ] at hq);try exfalso;omega)|apply aT|apply aR)|with_reducible apply aA|with_reducible apply bG)
 ·have h0 : xs = [] := List.eq_nil_of_length_eq_zero (hb (by assumption))
  subst h0
  (refine cD (Le.nilImm (d := 2) rfl) ?_; refine aO rfl ?_)
  exact ⟨rfl, rfl⟩
 ·(refine cD (Le.frzD (d := 2) (i := 1) rfl rfl) ?_; refine aO rfl ?_)
  refine ⟨?_, (by (exact aY _ _))⟩
  simp only [b0, sl, Nat.zero_add]
theorem EX (mm : Nat) (hmm : mm ≤ 1000000) (own_ih : ∀ l, bX l < mm → PC Tryz.prog 106 [sl aZ l] (fun r => r = sl aZ l)) (l : List AL.Stmt) (hs : bX l ≤ mm) : PC Tryz.prog 106 [sl aZ l] (fun r => r = sl aZ l) := by
 have hlen := dM l
 (refine aS Tryz.func106 rfl (by simp [Tryz.ntmps106]) ?_; rw [Tryz.ntmps106])
 repeat' (first|(apply aL;first|((apply fM (d := 3) (e := 6));(case hM|hN => rfl))|(apply aE;rfl;rfl)|(apply aC;rfl;rfl)|(apply bI;rfl;rfl;rfl)|(apply aF;kernel_rfl))|(apply aM;first|apply aH|apply aB|apply aK)|with_reducible apply aA)
 refine bB (σ := Nat × List AL.Stmt) [6, 7] [(6, _), (7, _)] [] [] (fun k => [(8, iv (k.1 : Int)), (3, .own 0 0 k.1 6)]) (fun k => [(0, some (aI aZ k.2))]) (fun k => k.1 ≤ l.length ∧ k.2 = l.take k.1) (fun k => l.length - k.1) (0, []) ⟨by omega, rfl⟩ rfl rfl (by repeat' (first|exact trivial|refine And.intro rfl ?_)) (by repeat' (first|exact trivial|refine And.intro (.inr rfl) ?_)) ?_
 rintro ⟨k, xs⟩ ⟨hk, hxs⟩
 dsimp only at hk hxs ⊢
 have hck := gF l k
 have hct := jX l[k]!
 have hln : xs.length = k := by rw [hxs, List.length_take]; omega
 repeat' (first|(apply aL;first|(apply aE;rfl;rfl)|(first|(apply aN;rfl;rfl;rfl;rfl)|(apply aV;rfl;rfl;(exact (rfl:_=[_, _, _, _, _, _]));rfl;rfl;rfl))|(apply aD;rfl;rfl;rfl)|(first|(apply bS;rfl;rfl;omega;rfl)|(apply aU;rfl;rfl;rfl;rfl))|(apply aC;rfl;rfl)|(apply a7;(case hx|hi => rfl);(case hm => (omega));(case hml => (rfl));(case hα | hf|hg => infer_instance);(case hN => rfl))|((with_reducible apply aJ (k := 106));(case ha => rfl);(case h => (apply own_ih <;> (omega)));(case hp => (exact Pur.pf));(case hN => rfl))|(apply bW;rfl;rfl;rfl;rfl;rfl;(rw [aP]; omega);(rfl);omega;omega;(exact jB (by (omega)));rfl;rfl)|(apply aF;kernel_rfl)|(apply a6;rfl;rfl)|((apply bE (t := _));(case hze|hsm|hl => rfl);(case hfl => (exact (rfl:_=some [_, _, _, _, _, _])));(case hM|hN => rfl))|(apply aW;rfl;rfl;rfl;rfl;rfl;(case hl => (simp;done));(exact (rfl:_=[_, _, _, _, _, _]))))|(apply aM;first|apply aH|apply aB|(apply bV;kernel_rfl)|(apply aQ;rfl;all_goals intro hc;have hq:=hc;(try simp only [cJ] at hq);try exfalso;omega)|apply aK|apply aT|apply bK|apply aR)|with_reducible apply aA|with_reducible apply bJ|with_reducible apply aX|with_reducible apply bO)
 ·(apply dK (k + 1, _); focus (refine Le.ren [(0, 3)] rfl (by decide) ?_ ?_ <;> repeat' (first | exact trivial | refine And.intro ⟨_, rfl, ?_⟩ ?_ | refine And.intro ⟨_, _, rfl, rfl, ?_⟩ ?_ | exact Or.inr rfl | refine Or.inl ⟨?_, (by first | rfl | exact aY _ _)⟩ | rfl)))
  ·exact ⟨by dsimp only;omega, by dsimp only;rw [hxs, cX l k (by omega)]⟩
  ·dsimp only;omega
 ·have hke : k = l.length := by omega
  (refine cD (Le.frzD (d := 2) (i := 0) rfl rfl) ?_; refine aO rfl ?_)
  refine ⟨?_, Pur.pf⟩
  rw [hxs, hke, List.take_length]; rfl
theorem GR (l : List AL.Stmt) (hb : bX l ≤ 1000000) : PC Tryz.prog 106 [sl aZ l] (fun r => r = sl aZ l) := by
 have key : ∀ m, m ≤ 1000000 → ∀ l, bX l ≤ m → PC Tryz.prog 106 [sl aZ l] (fun r => r = sl aZ l) := by
  intro m
  induction m with
  | zero => intro hm l hl;exact EX 0 hm (fun l h => by omega) l hl
  | succ m ih => intro hm l hl;exact EX (m + 1) hm (fun l h => ih (by omega) l (by omega)) l hl
 exact key (bX l) hb l (Nat.le_refl _)
theorem Km (l : List AL.Stmt) (hs : bX l ≤ 1000000) : MC Tryz.prog 106 [sl aZ l] [] 0 (fun _ : Unit => True) (fun _ => .own 0 0 l.length 6) (fun _ => [(0, some (aI aZ l))]) := by
 have hlen := dM l
 (refine b9 Tryz.func106 rfl (by simp [Tryz.ntmps106]) ?_; rw [Tryz.ntmps106])
 repeat' (first|(apply aL;first|((apply fM (d := 3) (e := 6));(case hM|hN => rfl))|(apply aE;rfl;rfl)|(apply aC;rfl;rfl)|(apply bI;rfl;rfl;rfl)|(apply aF;kernel_rfl))|(apply aM;first|apply aH|apply aB|apply aK)|with_reducible apply aA)
 refine bB (σ := Nat × List AL.Stmt) [6, 7] [(6, _), (7, _)] [] [] (fun k => [(8, iv (k.1 : Int)), (3, .own 0 0 k.1 6)]) (fun k => [(0, some (aI aZ k.2))]) (fun k => k.1 ≤ l.length ∧ k.2 = l.take k.1) (fun k => l.length - k.1) (0, []) ⟨by omega, rfl⟩ rfl rfl (by repeat' (first|exact trivial|refine And.intro rfl ?_)) (by repeat' (first|exact trivial|refine And.intro (.inr rfl) ?_)) ?_
 rintro ⟨k, xs⟩ ⟨hk, hxs⟩
 dsimp only at hk hxs ⊢
 have hck := gF l k
 have hct := jX l[k]!
 have hln : xs.length = k := by rw [hxs, List.length_take]; omega
 have o1 := GR l[k]!.th
 have o2 := GR l[k]!.el
 repeat' (first|(apply aL;first|((with_reducible apply aJ (k := 106));(case ha => rfl);(case h => exact (o1 (by omega)));(case hp => (exact Pur.pf));(case hN => rfl))|((with_reducible apply aJ (k := 106));(case ha => rfl);(case h => exact (o2 (by omega)));(case hp => (exact Pur.pf));(case hN => rfl))|(apply aE;rfl;rfl)|(first|(apply aN;rfl;rfl;rfl;rfl)|(apply aV;rfl;rfl;(exact (rfl:_=[_, _, _, _, _, _]));rfl;rfl;rfl))|(apply aD;rfl;rfl;rfl)|(first|(apply bS;rfl;rfl;omega;rfl)|(apply aU;rfl;rfl;rfl;rfl))|(apply aC;rfl;rfl)|(apply a7;(case hx|hi => rfl);(case hm => (omega));(case hml => (rfl));(case hα | hf|hg => infer_instance);(case hN => rfl))|(apply bW;rfl;rfl;rfl;rfl;rfl;(rw [aP]; omega);(rfl);omega;omega;(exact jB (by (omega)));rfl;rfl)|(apply aF;kernel_rfl)|(apply a6;rfl;rfl)|((apply bE (t := _));(case hze|hsm|hl => rfl);(case hfl => (exact (rfl:_=some [_, _, _, _, _, _])));(case hM|hN => rfl))|(apply aW;rfl;rfl;rfl;rfl;rfl;(case hl => (simp;done));(exact (rfl:_=[_, _, _, _, _, _]))))|(apply aM;first|apply aH|apply aB|(apply bV;kernel_rfl)|(apply aQ;rfl;all_goals intro hc;have hq:=hc;(try simp only [cJ] at hq);try exfalso;omega)|apply aK|apply aT|apply bK|apply aR)|with_reducible apply aA|with_reducible apply bJ|with_reducible apply aX|with_reducible apply bO)
 ·(apply dK (k + 1, _); focus (refine Le.ren [(0, 3)] rfl (by decide) ?_ ?_ <;> repeat' (first | exact trivial | refine And.intro ⟨_, rfl, ?_⟩ ?_ | refine And.intro ⟨_, _, rfl, rfl, ?_⟩ ?_ | exact Or.inr rfl | refine Or.inl ⟨?_, (by first | rfl | exact aY _ _)⟩ | rfl)))
  ·exact ⟨by dsimp only;omega, by dsimp only;rw [hxs, cX l k (by omega)]⟩
  ·dsimp only;omega
 ·have hke : k = l.length := by omega
  have hxl : xs = l := by rw [hxs, hke, List.take_length]
  subst hke
  (refine aO rfl ?_; refine bU () trivial ?_ ⟨.inr (Eq.trans (b := some _) rfl ?_), trivial⟩)
  ·rfl
  ·rw [hxl]
theorem KT (q : Prg) (hs : bX q.body ≤ 1000000) (ht : q.types.length ≤ 1000000) : PC Tryz.prog 65 [dF q] (fun r => r = dF q) := by
 have h1 := y7 q.types ht
 have h2 := GR q.body hs
 (refine aS Tryz.func65 rfl (by simp [Tryz.ntmps65]) ?_; rw [Tryz.ntmps65])
 repeat' (first|(apply aL;first|((with_reducible apply aJ (k := 105));(case ha => rfl);(case h => exact h1);(case hp => (exact Pur.pf));(case hN => rfl))|((with_reducible apply aJ (k := 106));(case ha => rfl);(case h => exact h2);(case hp => (exact Pur.pf));(case hN => rfl))|(apply aN;rfl;rfl;rfl;rfl)|(apply aD;rfl;rfl;rfl)|(apply aF;kernel_rfl)|(apply b8;rfl;(exact (rfl:_=some [_, _]));(exact (rfl:_=[_, _]));rfl)|(apply bH;rfl;rfl;rfl;rfl)|(apply a6;rfl;rfl)|(apply aW;rfl;rfl;rfl;rfl;rfl;(case hl => (simp;done));(exact (rfl:_=[_, _]))))|(apply aM;first|apply aH|apply aB|(apply bV;kernel_rfl)|apply aR)|with_reducible apply aA)
 exact aO (l := [dF q]) rfl ⟨rfl, Pur.pf⟩
theorem HS {l : List AL.Stmt} {N : Nat} {Q : Exit → AS → Prop} {all : Array Oper} {rest : List Oper} {tsl : List (Nat × AV)} {hsl : List (Nat × Option (List AV))} {nidl : Nat} {z0 : Lo} {md : Md} {d : Nat} {ty : TypeId} {pos : String} {af : Array Edge} {tys : Array TypeId} {x0 : Operand} (ha0 : ev (lk tsl) x0 = some (sl aZ l)) (hmc : MC Tryz.prog 106 [sl aZ l] [] 0 (fun _ : Unit => True) (fun _ => .own 0 0 l.length 6) (fun _ => [(0, some (aI aZ l))])) (hM : Nat.ble (nidl + 1) eZ = true) (hN : Nat.blt d N = true) {md' : Md} [hmd : MdA md (gK [x0] ++ []) (List.map Sum.inr (List.map Prod.fst ([(nidl, some (aI aZ l))] : List (Nat × Option (List AV)))) ++ [.inl d]) md'] (kk : RW Tryz.prog N all Q md' rest ⟨(d, .own nidl 0 l.length 6) :: tsl, iD hsl [(nidl, some (aI aZ l))], nidl + 1, z0⟩) : RW Tryz.prog N all Q md (⟨some d, .call ⟨.value (.func 106), #[x0], tys⟩, ty, pos, af, none⟩ :: rest) ⟨tsl, hsl, nidl, z0⟩ := by
 refine cE [] 1 [(nidl, some (aI aZ l))] hmc (avs := [sl aZ l]) ?_ rfl ?_ rfl ?_ (by simpa using hM) ?_ ?_ ?_ hN (md' := md') (hmd := hmd) kk
 ·show evL (lk tsl) [x0] = _
  simp only [evL, ha0]
 ·exact trivial
 ·(repeat' (exact RnL.purI inferInstance))
 ·(repeat' (exact RnV.own rfl))
 ·simp [dJ]
 ·(repeat' (first|exact trivial|(refine And.intro ⟨0, _, rfl, rfl, ?_⟩ ?_)|exact RnL.purI inferInstance))
theorem Jn {q : Prg} {N : Nat} {Q : Exit → AS → Prop} {all : Array Oper} {rest : List Oper} {tsl : List (Nat × AV)} {hsl : List (Nat × Option (List AV))} {nidl : Nat} {z0 : Lo} {md : Md} {d : Nat} {ty : TypeId} {pos : String} {af : Array Edge} {tys : Array TypeId} {x0 : Operand} (ha0 : ev (lk tsl) x0 = some (dF q)) (hmc : MC Tryz.prog 65 [dF q] [] 0 (fun _ : Unit => True) (fun _ => .agg [sl cI q.types, .own 2 0 q.body.length 6]) (fun _ => [(2, some (aI aZ q.body))])) (hM : Nat.ble (nidl + 3) eZ = true) (hN : Nat.blt d N = true) {md' : Md} [hmd : MdA md (gK [x0] ++ []) (List.map Sum.inr (List.map Prod.fst ([((nidl + 2), some (aI aZ q.body))] : List (Nat × Option (List AV)))) ++ [.inl d]) md'] (kk : RW Tryz.prog N all Q md' rest ⟨(d, .agg [sl cI q.types, .own (nidl + 2) 0 q.body.length 6]) :: tsl, iD hsl [((nidl + 2), some (aI aZ q.body))], nidl + 3, z0⟩) : RW Tryz.prog N all Q md (⟨some d, .call ⟨.value (.func 65), #[x0], tys⟩, ty, pos, af, none⟩ :: rest) ⟨tsl, hsl, nidl, z0⟩ := by
 refine cE [] 3 [((nidl + 2), some (aI aZ q.body))] hmc (avs := [dF q]) ?_ rfl ?_ rfl ?_ (by simpa using hM) ?_ ?_ ?_ hN (md' := md') (hmd := hmd) kk
 ·show evL (lk tsl) [x0] = _
  simp only [evL, ha0]
 ·exact trivial
 ·(repeat' (exact RnL.purI inferInstance))
 ·(repeat' (first|exact RnL.purI inferInstance|exact RnV.purI inferInstance|exact RnV.own rfl|refine RnL.cons ?_ ?_|refine RnV.agg ?_))
 ·simp [dJ]
 ·(repeat' (first|exact trivial|(refine And.intro ⟨2, _, rfl, rfl, ?_⟩ ?_)|exact RnL.purI inferInstance))
theorem Kn (q : Prg) (hs : bX q.body ≤ 1000000) (ht : q.types.length ≤ 1000000) : MC Tryz.prog 65 [dF q] [] 0 (fun _ : Unit => True) (fun _ => .agg [sl cI q.types, .own 2 0 q.body.length 6]) (fun _ => [(2, some (aI aZ q.body))]) := by
 have h1 := y7 q.types ht
 (refine b9 Tryz.func65 rfl (by simp [Tryz.ntmps65]) ?_; rw [Tryz.ntmps65])
 repeat' (first|(apply aL;first|((with_reducible apply aJ (k := 105));(case ha => rfl);(case h => exact h1);(case hp => (exact Pur.pf));(case hN => rfl))|(apply HS;rfl;(apply Km;assumption);rfl;rfl)|(apply aN;rfl;rfl;rfl;rfl)|(apply aD;rfl;rfl;rfl)|(apply aF;kernel_rfl)|(apply b8;rfl;(exact (rfl:_=some [_, _]));(exact (rfl:_=[_, _]));rfl)|(apply bH;rfl;rfl;rfl;rfl)|(apply a6;rfl;rfl)|(apply aW;rfl;rfl;rfl;rfl;rfl;(case hl => (simp;done));(exact (rfl:_=[_, _]))))|(apply aM;first|apply aH|apply aB|(apply bV;kernel_rfl)|apply aR)|with_reducible apply aA)
 (refine aO rfl ?_; refine bU () trivial ?_ ⟨.inr (Eq.trans (b := some _) rfl ?_), trivial⟩)
 ·rfl
 ·rfl
theorem Dq {xs : List Int} {m k : Nat} {N : Nat} {Q : Exit → AS → Prop} {all : Array Oper} {rest : List Oper} {tsl : List (Nat × AV)} {hsl : List (Nat × Option (List AV))} {nidl : Nat} {z0 : Lo} {md : Md} {d : Nat} {ty : TypeId} {pos : String} {af : Array Edge} {tys : Array TypeId} {x0 x1 x2 : Operand} {i0 : Nat} (ha0 : ev (lk tsl) x0 = some (.own i0 0 m 1)) (ha1 : ev (lk tsl) x1 = some (iv (k : Int))) (ha2 : ev (lk tsl) x2 = some (iv ((k : Int) + 1))) (hH0 : cO hsl i0 = some (aI cI xs)) (hmc : MC Tryz.prog 68 [.own 0 0 m 1, iv (k : Int), iv ((k : Int) + 1)] [(0, some (aI cI xs))] 1 (fun _ : Unit => True) (fun _ => .own 0 0 (m - 1) 1) (fun _ => [(0, some (aI cI (fF k xs)))])) (hM : Nat.ble (nidl + 0) eZ = true) (hN : Nat.blt d N = true) {md' : Md} [hmd : MdA md (gK [x0, x1, x2] ++ [.inr i0]) (List.map Sum.inr (List.map Prod.fst ([(i0, some (aI cI (fF k xs)))] : List (Nat × Option (List AV)))) ++ [.inl d]) md'] (kk : RW Tryz.prog N all Q md' rest ⟨(d, .own i0 0 (m - 1) 1) :: tsl, iD hsl [(i0, some (aI cI (fF k xs)))], nidl + 0, z0⟩) : RW Tryz.prog N all Q md (⟨some d, .call ⟨.value (.func 68), #[x0, x1, x2], tys⟩, ty, pos, af, none⟩ :: rest) ⟨tsl, hsl, nidl, z0⟩ := by
 refine cE [i0] 1 [(i0, some (aI cI (fF k xs)))] hmc (avs := [.own i0 0 m 1, iv (k : Int), iv ((k : Int) + 1)]) ?_ rfl ?_ rfl ?_ (by simpa using hM) ?_ ?_ ?_ hN (md' := md') (hmd := hmd) kk
 ·show evL (lk tsl) [x0, x1, x2] = _
  simp only [evL, ha0, ha1, ha2]
 ·exact ⟨⟨_, _, rfl, hH0, by (repeat' (exact RnL.purI inferInstance))⟩, trivial⟩
 ·(repeat' (first|exact RnL.purI inferInstance|exact RnV.own rfl|refine RnL.cons ?_ ?_))
 ·(repeat' (exact RnV.own rfl))
 ·simp [dJ]
 ·(repeat' (first|exact trivial|(refine And.intro ⟨0, _, rfl, rfl, ?_⟩ ?_)|exact RnL.purI inferInstance))
theorem GB (xs : List Int) (m k : Nat) (hm : m = xs.length) (hk : k < m) (hl : m ≤ 1000000) : MC Tryz.prog 68 [.own 0 0 m 1, iv (k : Int), iv ((k : Int) + 1)] [(0, some (aI cI xs))] 1 (fun _ : Unit => True) (fun _ => .own 0 0 (m - 1) 1) (fun _ => [(0, some (aI cI (fF k xs)))]) := by
 subst hm
 (refine b9 Tryz.func68 rfl (by simp [Tryz.ntmps68]) ?_; rw [Tryz.ntmps68])
 repeat' (first|(apply aL;first|((apply w6 (l := k) (h := k + 1) (k := xs.length));(case hx => rfl);(case hl => exact fE rfl (by omega));(case hh => exact fE rfl (by omega));(case hm => exact fE rfl (by omega));(case hc => omega);(case hN => rfl))|((apply wP (d := 22) (h := k));(case hx => rfl);(case hh => exact fE rfl (by omega));(case hc => omega);(case h0 => omega);(case hN => rfl))|((apply gN (d := 25) (l := k + 1) (h := xs.length));(case hx|hn => rfl);(case hl => exact fE rfl (by omega));(case hh => rfl);(case hp => exact if_pos (by omega));(case hN => rfl))|((apply qI (d := 26));(case hx|hy|hH => rfl);(case hs' => exact rY rfl rfl);(case hk => omega);(case hl => (rw [aP cI (e := 1), aP cI (e := 1), List.length_drop]; omega));(case hcs => exact CM hk);(case hN => rfl))|(apply CX;rfl;rfl)|((apply uB (d := 31) (l := xs.length - 1) (h := xs.length));(case hx => rfl);(case hl => exact fE rfl (by omega));(case hh => exact fE rfl (by omega));(case hc => omega);(case hN => rfl))|(apply tN;rfl;rfl;omega;rfl;(rw [List.length_append, aP cI (e := 1), aP cI (e := 1), List.length_drop]; have := eO hk;omega);exact zP hk (by omega) rfl)|(apply aE;rfl;rfl)|(apply aU;rfl;rfl;rfl;rfl)|(apply aC;rfl;rfl)|(apply bI;rfl;rfl;rfl)|(apply aF;kernel_rfl))|(apply aM;first|apply aH|apply aB|(apply bV;kernel_rfl)|(apply aQ;rfl;all_goals intro hc;have hq:=hc;(try simp only [cJ] at hq);try exfalso;omega)|apply aT|apply aR)|with_reducible apply aA)
 refine cD (Le.noroom (d := 6) rfl) ?_
 refine cD (Le.cut (i := 0) ((xs.length - 1) * 1) rfl) ?_
 (refine aO rfl ?_; refine bU () trivial ?_ ⟨.inr (Eq.trans (b := some _) rfl ?_), trivial⟩)
 ·show AV.own 0 0 (k + (xs.length - (k + 1))) 1 = _
  rw [show k + (xs.length - (k + 1)) = xs.length - 1 by omega]
 ·rw [List.take_left' (by rw [aP cI (e := 1)]; have := eO hk;omega)]
theorem I0 {xs : List AL.Stmt} {m k : Nat} {N : Nat} {Q : Exit → AS → Prop} {all : Array Oper} {rest : List Oper} {tsl : List (Nat × AV)} {hsl : List (Nat × Option (List AV))} {nidl : Nat} {z0 : Lo} {md : Md} {d : Nat} {ty : TypeId} {pos : String} {af : Array Edge} {tys : Array TypeId} {x0 x1 x2 : Operand} {i0 : Nat} (ha0 : ev (lk tsl) x0 = some (.own i0 0 m 6)) (ha1 : ev (lk tsl) x1 = some (iv (k : Int))) (ha2 : ev (lk tsl) x2 = some (iv ((k : Int) + 1))) (hH0 : cO hsl i0 = some (aI aZ xs)) (hmc : MC Tryz.prog 108 [.own 0 0 m 6, iv (k : Int), iv ((k : Int) + 1)] [(0, some (aI aZ xs))] 1 (fun _ : Unit => True) (fun _ => .own 0 0 (m - 1) 6) (fun _ => [(0, some (aI aZ (fF k xs)))])) (hM : Nat.ble (nidl + 0) eZ = true) (hN : Nat.blt d N = true) {md' : Md} [hmd : MdA md (gK [x0, x1, x2] ++ [.inr i0]) (List.map Sum.inr (List.map Prod.fst ([(i0, some (aI aZ (fF k xs)))] : List (Nat × Option (List AV)))) ++ [.inl d]) md'] (kk : RW Tryz.prog N all Q md' rest ⟨(d, .own i0 0 (m - 1) 6) :: tsl, iD hsl [(i0, some (aI aZ (fF k xs)))], nidl + 0, z0⟩) : RW Tryz.prog N all Q md (⟨some d, .call ⟨.value (.func 108), #[x0, x1, x2], tys⟩, ty, pos, af, none⟩ :: rest) ⟨tsl, hsl, nidl, z0⟩ := by
 refine cE [i0] 1 [(i0, some (aI aZ (fF k xs)))] hmc (avs := [.own i0 0 m 6, iv (k : Int), iv ((k : Int) + 1)]) ?_ rfl ?_ rfl ?_ (by simpa using hM) ?_ ?_ ?_ hN (md' := md') (hmd := hmd) kk
 ·show evL (lk tsl) [x0, x1, x2] = _
  simp only [evL, ha0, ha1, ha2]
 ·exact ⟨⟨_, _, rfl, hH0, by (repeat' (exact RnL.purI inferInstance))⟩, trivial⟩
 ·(repeat' (first|exact RnL.purI inferInstance|exact RnV.own rfl|refine RnL.cons ?_ ?_))
 ·(repeat' (exact RnV.own rfl))
 ·simp [dJ]
 ·(repeat' (first|exact trivial|(refine And.intro ⟨0, _, rfl, rfl, ?_⟩ ?_)|exact RnL.purI inferInstance))
theorem Ks (xs : List AL.Stmt) (m k : Nat) (hm : m = xs.length) (hk : k < m) (hl : m ≤ 1000000) : MC Tryz.prog 108 [.own 0 0 m 6, iv (k : Int), iv ((k : Int) + 1)] [(0, some (aI aZ xs))] 1 (fun _ : Unit => True) (fun _ => .own 0 0 (m - 1) 6) (fun _ => [(0, some (aI aZ (fF k xs)))]) := by
 subst hm
 (refine b9 Tryz.func108 rfl (by simp [Tryz.ntmps108]) ?_; rw [Tryz.ntmps108])
 repeat' (first|(apply aL;first|((apply w6 (l := k) (h := k + 1) (k := xs.length));(case hx => rfl);(case hl => exact fE rfl (by omega));(case hh => exact fE rfl (by omega));(case hm => exact fE rfl (by omega));(case hc => omega);(case hN => rfl))|((apply wP (d := 22) (h := k));(case hx => rfl);(case hh => exact fE rfl (by omega));(case hc => omega);(case h0 => omega);(case hN => rfl))|((apply gN (d := 25) (l := k + 1) (h := xs.length));(case hx|hn => rfl);(case hl => exact fE rfl (by omega));(case hh => rfl);(case hp => exact if_pos (by omega));(case hN => rfl))|((apply qI (d := 26));(case hx|hy|hH => rfl);(case hs' => exact rY rfl rfl);(case hk => omega);(case hl => (rw [aP aZ (e := 6), aP aZ (e := 6), List.length_drop]; omega));(case hcs => exact CM hk);(case hN => rfl))|(apply CX;rfl;rfl)|((apply uB (d := 31) (l := xs.length - 1) (h := xs.length));(case hx => rfl);(case hl => exact fE rfl (by omega));(case hh => exact fE rfl (by omega));(case hc => omega);(case hN => rfl))|(apply tN;rfl;rfl;omega;rfl;(rw [List.length_append, aP aZ (e := 6), aP aZ (e := 6), List.length_drop]; have := eO hk;omega);exact zP hk (by omega) rfl)|(apply aE;rfl;rfl)|(apply aU;rfl;rfl;rfl;rfl)|(apply aC;rfl;rfl)|(apply bI;rfl;rfl;rfl)|(apply aF;kernel_rfl))|(apply aM;first|apply aH|apply aB|(apply bV;kernel_rfl)|(apply aQ;rfl;all_goals intro hc;have hq:=hc;(try simp only [cJ] at hq);try exfalso;omega)|apply aT|apply aR)|with_reducible apply aA)
 refine cD (Le.noroom (d := 6) rfl) ?_
 refine cD (Le.cut (i := 0) ((xs.length - 1) * 6) rfl) ?_
 (refine aO rfl ?_; refine bU () trivial ?_ ⟨.inr (Eq.trans (b := some _) rfl ?_), trivial⟩)
 ·show AV.own 0 0 (k + (xs.length - (k + 1))) 6 = _
  rw [show k + (xs.length - (k + 1)) = xs.length - 1 by omega]
 ·rw [List.take_left' (by rw [aP aZ (e := 6)]; have := eO hk;omega)]
theorem x9 (q : Prg) (k : Nat) (hk : k ≤ q.body.length) (hs : bX q.body ≤ 1000000) : PC Tryz.prog 67 [dF q, iv (k : Int)] (fun r => r = iv (eC (q.body.take k) : Int)) := by
 have hlen := dM q.body
 have hc : bX (List.take ((k : Int).toNat - 0) (List.drop 0 q.body)) ≤ bX q.body := by
  have h := gA (q.body.take k) (q.body.drop k)
  rw [List.take_append_drop] at h
  rw [List.drop_zero, Nat.sub_zero, Int.toNat_natCast]; omega
 have hn := lO (List.take ((k : Int).toNat - 0) (List.drop 0 q.body))
 (refine aS Tryz.func67 rfl (by simp [Tryz.ntmps67]) ?_; rw [Tryz.ntmps67])
 repeat' (first|(apply aL;first|(apply aE;rfl;rfl)|(apply aN;rfl;rfl;rfl;rfl)|(apply aD;rfl;rfl;rfl)|(apply aC;rfl;rfl)|(apply pG;rfl;rfl;(apply qR <;> (omega));rfl;rfl)|(apply bI;rfl;rfl;rfl)|(apply aF;kernel_rfl)|(apply iN;rfl;infer_instance;rfl;rfl;(omega);rfl)|(apply bH;rfl;rfl;rfl;rfl))|(apply aM;first|apply aH|apply aB|apply aR)|with_reducible apply aA)
 refine aO rfl ⟨?_, rfl⟩
 simp only [b0, List.drop_zero, Nat.sub_zero, Int.toNat_natCast]
theorem ED (q : Prg) (k : Nat) (hk : k < q.body.length) (hs : bX q.body ≤ 1000000) (ht : q.types.length ≤ 1000000) : PC Tryz.prog 69 [dF q, iv (k : Int)] (fun r => r = dF (nM q k)) := by
 have hlen := dM q.body
 (refine aS Tryz.func69 rfl (by simp [Tryz.ntmps69]) ?_; rw [Tryz.ntmps69])
 repeat' (first|(apply aL;first|(apply Jn;rfl;(apply Kn <;> omega);rfl;rfl)|(apply aE;rfl;rfl)|(first|(apply aN;rfl;rfl;rfl;rfl)|(apply aV;rfl;rfl;(exact (rfl:_=[_, _]));rfl;rfl;rfl))|(apply aD;rfl;rfl;rfl)|(apply bS;rfl;rfl;omega;rfl)|(apply I0;rfl;rfl;rfl;(rfl);(apply Ks <;> (first|assumption|omega));rfl;rfl)|(apply aF;kernel_rfl)|(apply bH;rfl;rfl;rfl;rfl)|(apply a6;rfl;rfl)|(apply aW;rfl;rfl;rfl;rfl;rfl;(case hl => (simp;done));(exact (rfl:_=[_, _]))))|(apply aM;first|apply aH|apply aB|apply aR)|with_reducible apply aA)
 refine cD (Le.frzC (j := 1) (i := 4) [sl cI q.types] rfl rfl (by decide)) ?_
 have e : AV.agg [sl cI q.types, .imm (q.body.length - 1) (aI aZ (fF k q.body))] = dF (nM q k) := by
  have := eO hk
  unfold nM
  dsimp only [dF]
  unfold sl
  rw [show (fF k q.body).length = q.body.length - 1 by omega]
 rw [← e]
 exact aO (l := [AV.agg [sl cI q.types, .imm (q.body.length - 1) (aI aZ (fF k q.body))]]) rfl ⟨rfl, by rw [e]; exact Pur.pf⟩
theorem uP {stk : List Tg} {id : Int} (h : 0 ≤ dD stk id) : ∀ k < (dD stk id).toNat, stk[k]!.id ≠ id := by
 unfold dD at h ⊢
 split
 ·rename_i k hk
  obtain ⟨h1, h2, h3⟩ := List.findIdx?_eq_some_iff_getElem.1 hk
  rw [Int.toNat_natCast]
  intro j hj he
  have := h3 j hj
  rw [cT _ _ (by omega)] at he
  simp [he] at this
 ·rename_i hk;rw [hk] at h;dsimp only at h;omega
theorem x6 {stk : List Tg} {id : Int} {i : Nat} (hi : i < stk.length) (h : stk[i]!.id = id) (hn : ∀ k < i, stk[k]!.id ≠ id) : dD stk id = (i : Int) := by
 have hb := e9 stk id
 by_cases hneg : dD stk id < 0
 ·have := m9.1 hneg stk[i]! (by rw [cT _ _ hi]; exact List.getElem_mem hi)
  exact absurd h this
 ·have ha := Df (stk := stk) (id := id) (by omega)
  have hf := uP (stk := stk) (id := id) (by omega)
  rcases Nat.lt_trichotomy (dD stk id).toNat i with h1|h1|h1
  ·exact absurd ha (hn _ h1)
  ·omega
  ·exact absurd h (hf _ h1)
theorem CW (stk : List Tg) (id : Int) (hl : stk.length ≤ 1000000) : PC Tryz.prog 237 [sl dL stk, iv id] (fun r => r = iv (dD stk id)) := by
 (refine aS Tryz.func237 rfl (by simp [Tryz.ntmps237]) ?_; rw [Tryz.ntmps237])
 repeat' (first|(apply aL;first|(apply aC;rfl;rfl)|(apply aF;kernel_rfl))|(apply aM;first|apply aH|apply aB|apply aK)|with_reducible apply aA)
 refine bB (σ := Nat) [0, 1] [(0, _), (1, _)] [] [] (fun i => [(5, iv (i : Int))]) (fun i => []) (fun i => i ≤ stk.length ∧ (∀ k < i, stk[k]!.id ≠ id)) (fun i => stk.length - i) (0) ⟨Nat.zero_le _, fun k hk => absurd hk (by omega)⟩ rfl rfl (by repeat' (first|exact trivial|refine And.intro rfl ?_)) (by repeat' (exact trivial)) ?_
 rintro i ⟨hi, hn⟩
 try dsimp only at hi hn
 repeat' (first|(apply aL;first|(apply aE;rfl;rfl)|(apply aN;rfl;rfl;rfl;rfl)|(apply aD;rfl;rfl;rfl)|(first|(apply bS;rfl;rfl;omega;rfl)|(apply aU;rfl;rfl;rfl;rfl))|(apply aC;rfl;rfl)|(apply a7;(case hx|hi => rfl);(case hm => (omega));(case hml => (rfl));(case hα | hf|hg => infer_instance);(case hN => rfl))|(apply bI;rfl;rfl;rfl)|(apply aF;kernel_rfl))|(apply aM;first|apply aH|apply aB|(apply aQ;rfl;all_goals intro hc;have hq:=hc;(try simp only [cJ] at hq);try exfalso;omega)|apply aK|apply aT|apply bK|apply aR)|with_reducible apply aA|with_reducible apply bG|with_reducible apply bJ|with_reducible apply aX|with_reducible apply cP|with_reducible apply bO)
 ·refine aO rfl ⟨?_, rfl⟩
  simp only [b0]; rw [x6 (i := i) (by omega) (by assumption) hn]
 ·(apply dK (i + 1); focus (refine Le.ren [] rfl (by decide) ?_ ?_ <;> repeat' (first | exact trivial | refine And.intro ⟨_, rfl, ?_⟩ ?_ | refine Or.inl ⟨?_, (by first | rfl | exact aY _ _)⟩ | rfl)))
  ·refine ⟨by omega, fun k hk => ?_⟩
   rcases Nat.lt_or_ge k i with h|h
   ·exact hn k h
   ·rw [show k = i by omega]; assumption
  ·show stk.length - (i + 1) < stk.length - i;omega
 ·refine aO rfl ⟨?_, rfl⟩
  have := m9 (stk := stk) (id := id)
  have hb := e9 stk id
  have : dD stk id < 0 := this.2 (fun t ht => by obtain ⟨k, hk, rfl⟩ := List.getElem_of_mem ht;have := hn k (by omega);rwa [cT _ _ hk] at this)
  simp only [b0]; rw [show dD stk id = -1 by omega]
theorem o5 (c : Cl) : OkC c ↔ (0 ≤ c.val ∧ c.val ≤ 9) ∧ (1 ≤ c.next ∧ c.next ≤ 1000) ∧ (1 ≤ c.stk.length ∧ c.stk.length ≤ 200) ∧ c.stk[0]!.uq = true ∧ (∀ k < c.stk.length, 0 ≤ c.stk[k]!.id ∧ c.stk[k]!.id < c.next ∧ dD c.stk c.stk[k]!.id = (k : Int)) := by
 constructor
 ·intro h
  refine ⟨h.v, h.n, h.l, h.u, fun k hk => ?_⟩
  have h1 := h.i c.stk[k]! (by rw [cT _ _ hk]; exact List.getElem_mem hk)
  refine ⟨h1.1, h1.2, x6 hk rfl (fun j hj he => ?_)⟩
  have hd := List.nodup_iff_pairwise_ne.1 h.d |> List.pairwise_iff_getElem.1
  have := hd j k (by rw [List.length_map]; omega) (by rw [List.length_map]; omega) hj
  simp only [List.getElem_map] at this
  rw [cT _ _ (by omega), cT _ _ hk] at he
  exact this he
 ·rintro ⟨h1, h2, h3, h4, h5⟩
  refine ⟨h1, h2, h3, h4, fun t ht => ?_, ?_⟩
  ·obtain ⟨k, hk, rfl⟩ := List.getElem_of_mem ht
   have := h5 k hk;rw [cT _ _ hk] at this
   exact ⟨this.1, this.2.1⟩
  ·rw [List.nodup_iff_pairwise_ne, List.pairwise_iff_getElem]
   intro i j hi hj hij he
   rw [List.length_map] at hi hj
   simp only [List.getElem_map] at he
   have a := (h5 i hi).2.2
   have b := (h5 j hj).2.2
   rw [cT _ _ hi] at a;rw [cT _ _ hj, ← he, a] at b
   omega
instance (c : Cl) : Decidable (OkC c) := decidable_of_iff _ (o5 c).symm
theorem dY (m : List Cl) : OkM m ↔ m.length ≤ 200 ∧ ∀ k < m.length, OkC m[k]! := by
 constructor
 ·exact fun h => ⟨h.l, fun k hk => h.c _ (by rw [cT _ _ hk]; exact List.getElem_mem hk)⟩
 ·exact fun h => ⟨h.1, fun c hc => by obtain ⟨k, hk, rfl⟩ := List.getElem_of_mem hc;have := h.2 k hk;rwa [cT _ _ hk] at this⟩
instance (m : List Cl) : Decidable (OkM m) := decidable_of_iff _ (dY m).symm
theorem Fs (c : Cl) : PC Tryz.prog 235 [MP c] (fun r => r = bv (decide (OkC c))) := by
 (refine aS Tryz.func235 rfl (by simp [Tryz.ntmps235]) ?_; rw [Tryz.ntmps235])
 repeat' (first|(apply aL;first|(apply aE;rfl;rfl)|(apply aN;rfl;rfl;rfl;rfl)|(apply aD;rfl;rfl;rfl)|(first|(apply a8;rfl;rfl;rfl;(assumption))|(apply bC;rfl;rfl;rfl;(first|rfl|assumption))|(apply bR;(case hj|hb|hN => rfl);all_goals (intro hg;have hq := hg;(try simp only [cJ] at hq);(try (exfalso;omega)))))|(apply aU;rfl;rfl;rfl;rfl)|(apply aC;rfl;rfl)|(first|(apply bY;rfl;(first|rfl|assumption);rfl;rfl)|(apply bQ;rfl;(assumption);rfl;rfl))|(apply cL;(case hx|hi => rfl);(case hm => (omega));(case hml => (rfl));(case hα | hf|hg => infer_instance);(case hN => rfl))|(apply bI;rfl;rfl;rfl)|(apply aF;kernel_rfl)|(apply cF;rfl;rfl)|(apply bH;rfl;rfl;rfl;rfl))|(apply aM;first|apply aH|apply aB|(apply cB;rfl;(rfl))|(apply aQ;rfl;all_goals intro hc;have hq:=hc;(try simp only [cJ] at hq);try exfalso;omega)|apply aK|apply aT|apply aR)|with_reducible apply aA|with_reducible apply bG)
 all_goals try (refine aO rfl ⟨?_, rfl⟩; simp only [b0]; rw [show decide (OkC c) = false from decide_eq_false (fun h => by
  obtain ⟨h1, h2, h3, h4, h5⟩ := (o5 c).1 h
  first|omega|exact absurd (by assumption : c.stk[Int.toNat 0]!.uq = false) (by rw [show Int.toNat 0 = 0 from rfl, h4]; decide))]; done)
 have hu : c.stk[0]!.uq = true := by assumption
 refine bB (σ := Nat) [1] [(1, _)] [0] [(0, some _)] (fun i => [(3, iv (i : Int))]) (fun i => []) (fun i => i ≤ c.stk.length ∧ (∀ k < i, 0 ≤ c.stk[k]!.id ∧ c.stk[k]!.id < c.next ∧ dD c.stk c.stk[k]!.id = (k : Int))) (fun i => c.stk.length - i) (0) ⟨Nat.zero_le _, fun k hk => absurd hk (by omega)⟩ rfl rfl (by repeat' (first|exact trivial|refine And.intro rfl ?_)) (by repeat' (exact trivial)) ?_
 rintro i ⟨hi, hn⟩
 try dsimp only at hi hn
 repeat' (first|(apply aL;first|((with_reducible apply aJ (k := 237));(case ha => rfl);(case h => exact CW c.stk c.stk[i]!.id (by omega));(case hp => (exact Pur.pf));(case hN => rfl))|(apply aE;rfl;rfl)|(apply aN;rfl;rfl;rfl;rfl)|(apply aD;rfl;rfl;rfl)|(first|(apply a8;rfl;rfl;rfl;(assumption))|(apply bC;rfl;rfl;rfl;(first|rfl|assumption))|(apply bR;(case hj|hb|hN => rfl);all_goals (intro hg;have hq := hg;(try simp only [cJ] at hq);(try (exfalso;omega)))))|(first|(apply bS;rfl;rfl;omega;rfl)|(apply aU;rfl;rfl;rfl;rfl))|(apply aC;rfl;rfl)|(first|(apply bY;rfl;(first|rfl|assumption);rfl;rfl)|(apply bQ;rfl;(assumption);rfl;rfl))|(apply a7;(case hx|hi => rfl);(case hm => (omega));(case hml => (rfl));(case hα | hf|hg => infer_instance);(case hN => rfl))|(apply bI;rfl;rfl;rfl)|(apply aF;kernel_rfl))|(apply aM;first|apply aH|apply aB|(apply bV;kernel_rfl)|(apply cB;rfl;(rfl))|(apply aQ;rfl;all_goals intro hc;have hq:=hc;(try simp only [cJ] at hq);try exfalso;omega)|apply aK|apply aT|apply bK|apply aR)|with_reducible apply aA|with_reducible apply bG|with_reducible apply bJ|with_reducible apply aX|with_reducible apply cP|with_reducible apply bO)
 all_goals try (refine aO rfl ⟨?_, rfl⟩; simp only [b0]; rw [show decide (OkC c) = false from decide_eq_false (fun h => by
  obtain ⟨h1, h2, h3, h4, h5⟩ := (o5 c).1 h
  exact absurd (h5 i (by omega)) (by omega))]; done)
 ·(apply dK (i + 1); focus (refine Le.ren [(0, 0)] rfl (by decide) ?_ ?_ <;> repeat' (first | exact trivial | refine And.intro ⟨_, rfl, ?_⟩ ?_ | refine And.intro ⟨_, _, rfl, rfl, ?_⟩ ?_ | exact Or.inr rfl | refine Or.inl ⟨?_, (by first | rfl | exact Pur.pf)⟩ | rfl)))
  ·refine ⟨by omega, fun k hk => ?_⟩
   rcases Nat.lt_or_ge k i with h|h
   ·exact hn k h
   ·rw [show k = i by omega]; exact ⟨by assumption, by assumption, by assumption⟩
  ·show c.stk.length - (i + 1) < c.stk.length - i;omega
 ·refine aO rfl ⟨?_, rfl⟩
  simp only [b0]
  rw [show decide (OkC c) = true from decide_eq_true ((o5 c).2 ⟨by omega, by omega, by omega, hu, fun k hk => hn k (by omega)⟩)]
theorem nK (m : List Cl) (hl : m.length ≤ 1000000) : PC Tryz.prog 191 [sl c6 m] (fun r => r = bv (decide (OkM m))) := by
 (refine aS Tryz.func191 rfl (by simp [Tryz.ntmps191]) ?_; rw [Tryz.ntmps191])
 repeat' (first|(apply aL;first|(apply aC;rfl;rfl)|(apply aF;kernel_rfl))|(apply aM;first|apply aH|apply aB|apply aK)|with_reducible apply aA)
 refine bB (σ := Nat) [0] [(0, _)] [] [] (fun i => [(3, iv (i : Int))]) (fun i => []) (fun i => i ≤ m.length ∧ i ≤ 201 ∧ (∀ k < i, OkC m[k]!)) (fun i => m.length - i) (0) ⟨Nat.zero_le _, by omega, fun k hk => absurd hk (by omega)⟩ rfl rfl (by repeat' (first|exact trivial|refine And.intro rfl ?_)) (by repeat' (exact trivial)) ?_
 rintro i ⟨hi, hi2, hn⟩
 try dsimp only at hi hi2 hn
 repeat' (first|(apply aL;first|((with_reducible apply aJ (k := 235));(case ha => rfl);(case h => exact Fs m[i]!);(case hp => (exact Pur.pf));(case hN => rfl))|(apply aE;rfl;rfl)|(apply aV;rfl;rfl;(exact (rfl:_=[_, _, _, _]));rfl;rfl;rfl)|(first|(apply a8;rfl;rfl;rfl;(assumption))|(apply bC;rfl;rfl;rfl;(assumption))|(apply bR;(case hj|hb|hN => rfl);all_goals (intro hg;have hq := hg;(try simp only [cJ] at hq);(try (exfalso;omega)))))|(first|(apply bS;rfl;rfl;omega;rfl)|(apply aU;rfl;rfl;rfl;rfl))|(apply aC;rfl;rfl)|(first|(apply bY;rfl;(assumption);rfl;rfl)|(apply bQ;rfl;(assumption);rfl;rfl))|(apply a7;(case hx|hi => rfl);(case hm => (omega));(case hml => (rfl));(case hα | hf|hg => infer_instance);(case hN => rfl))|(apply bI;rfl;rfl;rfl)|(apply aF;kernel_rfl)|(apply cF;rfl;rfl))|(apply aM;first|apply aH|apply aB|(apply cG;rfl;(rfl))|(apply aQ;rfl;all_goals intro hc;have hq:=hc;(try simp only [cJ] at hq);try exfalso;omega)|apply aK|apply aT|apply bK|apply aR)|with_reducible apply aA|with_reducible apply bG|with_reducible apply bJ|with_reducible apply aX|with_reducible apply cP|with_reducible apply bO)
 ·refine aO rfl ⟨?_, rfl⟩
  simp only [b0]; rw [show decide (OkM m) = false from decide_eq_false (fun h => by
   have h1 := ((dY m).1 h).2 i (by omega)
   have h2 : ¬ OkC m[i]! := by assumption
   exact h2 h1)]
 ·(apply dK (i + 1); focus (refine Le.ren [] rfl (by decide) ?_ ?_ <;> repeat' (first | exact trivial | refine And.intro ⟨_, rfl, ?_⟩ ?_ | refine Or.inl ⟨?_, (by first | rfl | exact aY _ _)⟩ | rfl)))
  ·refine ⟨by omega, by omega, fun k hk => ?_⟩
   rcases Nat.lt_or_ge k i with h|h
   ·exact hn k h
   ·rw [show k = i by omega]; assumption
  ·show m.length - (i + 1) < m.length - i;omega
 ·refine aO rfl ⟨?_, rfl⟩
  simp only [b0]
  rw [show decide ((m.length : Int) ≤ 200) = false from decide_eq_false (by omega), show decide (OkM m) = false from decide_eq_false (fun h => by have := h.l;omega)]
 ·refine aO rfl ⟨?_, rfl⟩
  simp only [b0]
  rw [show decide ((m.length : Int) ≤ 200) = decide (OkM m) from decide_eq_decide.2 ⟨fun h => (dY m).2 ⟨by omega, fun k hk => hn k (by omega)⟩, fun h => by have := h.l;omega⟩]
theorem lE (k : Int) : PC Tryz.prog 142 [iv k] (fun r => r = iv (if k = 1 then 3 else if k = 0 then 0 else 4)) := by
 (refine aS Tryz.func142 rfl (by simp [Tryz.ntmps142]) ?_; rw [Tryz.ntmps142])
 repeat' (first|(apply aL;first|(apply aE;rfl;rfl)|(apply aU;rfl;rfl;rfl;rfl)|(apply aC;rfl;rfl)|(apply aF;kernel_rfl))|(apply aM;first|apply aH|apply aB|(apply aQ;rfl;all_goals intro hc;have hq:=hc;(try simp only [cJ] at hq);try exfalso;omega)|apply aK|apply aT|apply aR)|with_reducible apply aA|with_reducible apply bG|with_reducible apply aX|with_reducible apply cP|((with_reducible apply aO);case hr => rfl))
 all_goals (refine ⟨?_, rfl⟩; simp only [b0, AV.v.injEq, Value.bool.injEq, Value.int.injEq, true_and])
 all_goals grind
theorem rV (k : Int) : PC Tryz.prog 133 [iv k] (fun r => r = iv (fB k)) := by
 (refine aS Tryz.func133 rfl (by simp [Tryz.ntmps133]) ?_; rw [Tryz.ntmps133])
 repeat' (first|(apply aL;first|(apply aE;rfl;rfl)|(apply aU;rfl;rfl;rfl;rfl)|(apply aC;rfl;rfl)|(apply aF;kernel_rfl))|(apply aM;first|apply aH|apply aB|(apply aQ;rfl;all_goals intro hc;have hq:=hc;(try simp only [cJ] at hq);try exfalso;omega)|apply aT|apply aR)|with_reducible apply aA|with_reducible apply bG|((with_reducible apply aO);case hr => rfl))
 all_goals (refine ⟨?_, rfl⟩; simp only [b0, AV.v.injEq, Value.bool.injEq, Value.int.injEq, true_and])
 all_goals grind [fB]
theorem uG {xs : List Tg} {m : Nat} {a : Int} {b : Bool} (hm : m = xs.length) : ((aI dL xs).drop 0).take (m * 2) ++ [iv a, bv b] = aI dL (xs ++ [⟨a, b⟩]) := gP hm rfl
theorem F3 {xs : List Cl} {m : Nat} {a c : Int} {b : Bool} {s : List Tg} (hm : m = xs.length) : ((aI c6 xs).drop 0).take (m * 4) ++ [iv a, bv b, iv c, sl dL s] = aI c6 (xs ++ [⟨a, b, c, s⟩]) := gP hm rfl
theorem kM {α : Type} [Inhabited α] (l : List α) {k i : Nat} (h : k ≤ i) (hi : i < l.length) : (l.drop k).take (i + 1 - k) = (l.drop k).take (i - k) ++ [l[i]!] := by
 have hl : i - k < (l.drop k).length := by rw [List.length_drop]; omega
 have h1 := cX (l.drop k) (i - k) hl
 rw [show i + 1 - k = i - k + 1 by omega, h1]
 congr 2
 rw [cT (l.drop k) (i - k) hl, List.getElem_drop, cT l i hi]
 congr 1;omega
theorem p8 {α} {p : α → Bool} {a : α} (h : p a = true) : [a].filter p = [a] := by simp [h]
theorem nE {α} {p : α → Bool} {a : α} (h : p a = false) : [a].filter p = [] := by simp [h]
theorem Gy (stk : List Tg) (k : Nat) (hk : k < stk.length) (hl : stk.length ≤ 1000000) : PC Tryz.prog 196 [sl dL stk, iv (k : Int)] (fun r => r = sl dL (fT stk k false)) := by
 have e1 : List.take (((k : Int) + 1).toNat - 0) (List.drop 0 stk) = stk.take (k + 1) := by rw [List.drop_zero]; congr 1
 have e2 : (stk.take (k + 1)).length = k + 1 := by rw [List.length_take]; omega
 (refine aS Tryz.func196 rfl (by simp [Tryz.ntmps196]) ?_; rw [Tryz.ntmps196])
 repeat' (first|(apply aL;first|(with_reducible apply cV (d := 12))|(apply aE;rfl;rfl)|(apply bS;rfl;rfl;omega;rfl)|(apply aC;rfl;rfl)|(apply aF;kernel_rfl)|(apply iN;rfl;infer_instance;rfl;rfl;(omega);rfl)|(apply bZ;rfl;rfl;rfl;(rfl);rfl;rfl))|(apply aM;first|apply aH|apply aB)|with_reducible apply aA)
 refine dX ?_
 rw [e1]
 repeat' (first|(apply aL;first|(apply aE;rfl;rfl)|(apply bS;rfl;rfl;omega;rfl)|(apply aC;rfl;rfl)|(apply bW;rfl;rfl;rfl;rfl;rfl;(case hl => (simp [aP]; done));(exact iQ (by (rfl)));omega;omega;(exact eY (by (omega)));rfl;rfl)|(apply aF;kernel_rfl))|(apply aM;first|apply aH|apply aB|apply aK)|with_reducible apply aA)
 refine bB (σ := Nat × List Tg × Nat) [0] [(0, _)] [] [] (fun s => [(6, iv (s.1 : Int)), (5, .own 1 0 s.2.2 2)]) (fun s => [(1, some (aI dL s.2.1))]) (fun s => k + 1 ≤ s.1 ∧ s.1 ≤ stk.length ∧ s.2.1 = stk.take (k + 1) ++ ((stk.drop (k + 1)).take (s.1 - (k + 1))).filter (fun t => !t.uq) ∧ s.2.2 = s.2.1.length ∧ s.2.2 ≤ s.1) (fun s => stk.length - s.1) (k + 1, stk.take (k + 1), 0 + (stk.take (k + 1)).length) ⟨Nat.le_refl _, by dsimp only;omega, by simp, by dsimp only;omega, by dsimp only;omega⟩ rfl rfl (by repeat' (first|exact trivial|refine And.intro rfl ?_)) (by repeat' (first|exact trivial|refine And.intro (.inr rfl) ?_)) ?_
 rintro ⟨i, xs, n⟩ ⟨hki, hi, hxs, hn, hni⟩
 dsimp only at hki hi hxs hn hni ⊢
 repeat' (first|(apply aL;first|(apply aE;rfl;rfl)|(first|(apply aN;rfl;rfl;rfl;rfl)|(apply aV;rfl;rfl;(exact (rfl:_=[_, _]));rfl;rfl;rfl))|(apply aD;rfl;rfl;rfl)|(first|(apply bS;rfl;rfl;omega;rfl)|(apply aU;rfl;rfl;rfl;rfl))|(apply aC;rfl;rfl)|(apply a7;(case hx|hi => rfl);(case hm => (omega));(case hml => (rfl));(case hα | hf|hg => infer_instance);(case hN => rfl))|(first|(apply bI;rfl;rfl;rfl)|(apply bW;rfl;rfl;rfl;rfl;rfl;(rw [aP]; omega);(rfl);omega;omega;(exact uG (by (assumption)));rfl;rfl))|(apply aF;kernel_rfl)|(apply cF;rfl;rfl)|((apply bE (t := _));(case hze|hsm|hl => rfl);(case hfl => (exact (rfl:_=some [_, _])));(case hM|hN => rfl)))|(apply aM;first|apply aH|apply aB|(apply aQ;rfl;all_goals intro hc;have hq:=hc;(try simp only [cJ] at hq);try exfalso;omega)|apply aK|apply aT|apply bK|apply aR)|with_reducible apply aA|with_reducible apply bJ|with_reducible apply aX|with_reducible apply bO)
 ·(apply dK (i + 1, _, _); focus (refine Le.ren [(1, 3)] rfl (by decide) ?_ ?_ <;> repeat' (first | exact trivial | refine And.intro ⟨_, rfl, ?_⟩ ?_ | refine And.intro ⟨_, _, rfl, rfl, ?_⟩ ?_ | exact Or.inr rfl | refine Or.inl ⟨?_, (by first | rfl | exact aY _ _)⟩ | rfl)))
  ·refine ⟨by dsimp only; omega, by dsimp only; omega, ?_, by dsimp only; rw [List.length_append, hn]; rfl, by dsimp only; omega⟩
   dsimp only
   rw [hxs, kM stk hki (by omega), List.filter_append, List.append_assoc]
   congr 2
   have hu : stk[i]!.uq = false := by assumption
   rw [p8 (by rw [hu]; rfl)]
  ·dsimp only;omega
 ·(apply dK (i + 1, xs, n); focus (refine Le.ren [(1, 1)] rfl (by decide) ?_ ?_ <;> repeat' (first | exact trivial | refine And.intro ⟨_, rfl, ?_⟩ ?_ | refine And.intro ⟨_, _, rfl, rfl, ?_⟩ ?_ | exact Or.inr rfl | refine Or.inl ⟨?_, (by first | rfl | exact aY _ _)⟩ | rfl)))
  ·refine ⟨by dsimp only; omega, by dsimp only; omega, ?_, hn, by dsimp only; omega⟩
   dsimp only
   have hu : stk[i]!.uq = true := by assumption
   rw [hxs, kM stk hki (by omega), List.filter_append, nE (by rw [hu]; rfl), List.append_nil]
  ·dsimp only;omega
 ·(refine cD (Le.frzD (d := 4) (i := 1) rfl rfl) ?_; refine aO rfl ?_)
  refine ⟨?_, (by (exact aY _ _))⟩
  have hie : i = stk.length := by omega
  simp only [b0, sl]
  have hd : (stk.drop (k + 1)).take (stk.length - (k + 1)) = stk.drop (k + 1) := List.take_of_length_le (by rw [List.length_drop]; exact Nat.le_refl _)
  rw [hn, hxs, hie, hd]
  rfl
theorem Fb (m : List Cl) (hm : OkM m) : PC Tryz.prog 192 [sl c6 m] (fun r => r = sl c6 m) := by
 have hml := hm.l
 (refine aS Tryz.func192 rfl (by simp [Tryz.ntmps192]) ?_; rw [Tryz.ntmps192])
 repeat' (first|(apply aL;first|(apply aC;rfl;rfl)|(apply aF;kernel_rfl)|(apply bZ;rfl;rfl;rfl;(rfl);rfl;rfl))|(apply aM;first|apply aH|apply aB|apply aK)|with_reducible apply aA)
 refine bB (σ := Nat × List Cl) [0] [(0, _)] [] [] (fun k => [(4, iv (k.1 : Int)), (3, .own 0 0 k.1 4)]) (fun k => [(0, some (aI c6 k.2))]) (fun k => k.1 ≤ m.length ∧ k.2 = m.take k.1) (fun k => m.length - k.1) (0, []) ⟨by omega, rfl⟩ rfl rfl (by repeat' (first|exact trivial|refine And.intro rfl ?_)) (by repeat' (first|exact trivial|refine And.intro (.inr rfl) ?_)) ?_
 rintro ⟨i, xs⟩ ⟨hi, hxs⟩
 dsimp only at hi hxs ⊢
 have hln : xs.length = i := by rw [hxs, List.length_take]; exact Nat.min_eq_left hi
 have hst : i < m.length → m[i]!.stk.length ≤ 200 := fun h => (((dY m).1 hm).2 i h).l.2
 repeat' (first|(apply aL;first|(with_reducible apply cV (d := 21))|(apply aE;rfl;rfl)|(first|(apply aN;rfl;rfl;rfl;rfl)|(apply aV;rfl;rfl;(exact (rfl:_=[_, _, _, _]));rfl;rfl;rfl))|(apply aD;rfl;rfl;rfl)|(apply aU;rfl;rfl;rfl;rfl)|(apply aC;rfl;rfl)|(apply a7;(case hx|hi => rfl);(case hm => (omega));(case hml => (rfl));(case hα | hf|hg => infer_instance);(case hN => rfl))|(first|(apply bI;rfl;rfl;rfl)|(apply bW;rfl;rfl;rfl;rfl;rfl;(case hl => (simp [aP]; done));(exact iQ (by (rfl)));omega;omega;(exact eY (by (omega)));rfl;rfl))|(apply aF;kernel_rfl)|(apply a6;rfl;rfl)|(apply bZ;rfl;rfl;rfl;(rfl);rfl;rfl)|(apply aW;rfl;rfl;rfl;rfl;rfl;(case hl => (simp;done));(exact (rfl:_=[_, _, _, _]))))|(apply aM;first|apply aH|apply aB|(apply aQ;rfl;all_goals intro hc;have hq:=hc;(try simp only [cJ] at hq);try exfalso;omega)|apply aK|apply aT|apply bK|apply aR)|with_reducible apply aA|with_reducible apply bJ|with_reducible apply bO)
 ·refine dX (jM ?_ (Le.frzD (d := 20) (i := 3) rfl rfl))
  rw [Nat.zero_add m[i]!.stk.length]
  repeat' (first|(apply aL;first|(apply aE;rfl;rfl)|(apply aV;rfl;rfl;(exact (rfl:_=[_, _, _, _]));rfl;rfl;rfl)|(apply aD;rfl;rfl;rfl)|(apply bS;rfl;rfl;omega;rfl)|(apply aC;rfl;rfl)|(apply bW;rfl;rfl;rfl;rfl;rfl;(rw [aP]; omega);(rfl);omega;omega;(exact F3 (by (omega)));rfl;rfl)|(apply aF;kernel_rfl)|((apply bE (t := _));(case hze|hsm|hl => rfl);(case hfl => (exact (rfl:_=some [_, _, _, _])));(case hM|hN => rfl))|(apply aW;rfl;rfl;rfl;rfl;rfl;(case hl => (simp;done));(exact (rfl:_=[_, _, _, _]))))|(apply aM;(apply aB))|with_reducible apply aA|with_reducible apply aX)
  (apply dK (i + 1, _);focus (refine Le.ren [(0, 5)] rfl (by decide) ?_ ?_ <;> repeat' (first|exact trivial|refine And.intro ⟨_, rfl, ?_⟩ ?_|refine And.intro ⟨_, _, rfl, rfl, ?_⟩ ?_|exact Or.inr rfl|refine Or.inl ⟨?_, (by first|rfl|exact aY _ _)⟩|rfl)))
  ·exact ⟨by dsimp only;omega, by dsimp only;rw [hxs, cX m i (by omega)]⟩
  ·dsimp only;omega
 ·(refine cD (Le.frzD (d := 2) (i := 0) rfl rfl) ?_; refine aO rfl ?_)
  refine ⟨?_, (by (exact aY _ _))⟩
  have hie : i = m.length := by omega
  simp only [b0, sl]
  rw [hxs, hie, List.take_length]
theorem B7 {m : List Cl} {x : Pt} {wr : Bool} (h : x.cell < 0 ∨ (m.length : Int) ≤ x.cell) : cK m x wr = 4 := by
 unfold cK;rw [if_pos (by omega)]
theorem Hr {m : List Cl} {x : Pt} {wr : Bool} (h : 0 ≤ x.cell) (h2 : x.cell < m.length) (h3 : m[x.cell.toNat]!.alive = false) : cK m x wr = 1 := by
 unfold cK;rw [if_neg (by omega), if_pos h3]
theorem Ge {m : List Cl} {x : Pt} {wr : Bool} (h : 0 ≤ x.cell) (h2 : x.cell < m.length) (h3 : m[x.cell.toNat]!.alive = true) (h4 : dD m[x.cell.toNat]!.stk x.tag < 0) : cK m x wr = 2 := by
 unfold cK;rw [if_neg (by omega), if_neg (by rw [h3]; decide), if_pos h4]
theorem rR {m : List Cl} {x : Pt} (h : 0 ≤ x.cell) (h2 : x.cell < m.length) (h3 : m[x.cell.toNat]!.alive = true) (h4 : 0 ≤ dD m[x.cell.toNat]!.stk x.tag) : cK m x false = 0 := by
 unfold cK;rw [if_neg (by omega), if_neg (by rw [h3]; decide), if_neg (by omega), if_neg (by intro q;exact absurd q.1 (by decide))]
theorem y4 {m : List Cl} {x : Pt} : cK m x true = if cK m x false = 0 then (if m[x.cell.toNat]!.stk[(dD m[x.cell.toNat]!.stk x.tag).toNat]!.uq = false then 3 else 0) else cK m x false := by
 unfold cK
 split
 ·rw [if_neg (by decide)]
 ·split
  ·rw [if_neg (by decide)]
  ·split
   ·rw [if_neg (by decide)]
   ·rw [if_neg (c := false = true ∧ _) (by intro q; exact absurd q.1 (by decide)), if_pos rfl]
    simp only [true_and]
theorem eW {m : List Cl} {x : Pt} {wr : Bool} (h : cK m x wr = 0) : 0 ≤ x.cell ∧ x.cell < m.length ∧ m[x.cell.toNat]!.alive = true ∧ 0 ≤ dD m[x.cell.toNat]!.stk x.tag ∧ (wr = true → m[x.cell.toNat]!.stk[(dD m[x.cell.toNat]!.stk x.tag).toNat]!.uq = true) := by
 unfold cK at h
 split at h
 ·omega
 ·split at h
  ·omega
  ·split at h
   ·omega
   ·split at h
    ·omega
    ·rename_i a b c d
     refine ⟨by omega, by omega, by simpa using b, by omega, fun hw => ?_⟩
     by_cases q : m[x.cell.toNat]!.stk[(dD m[x.cell.toNat]!.stk x.tag).toNat]!.uq = false
     ·exact absurd ⟨hw, q⟩ d
     ·simpa using q
theorem fX {m : List Cl} {N : Nat} {Q : Exit → AS → Prop} {all : Array Oper} {rest : List Oper} {tsl : List (Nat × AV)} {hsl : List (Nat × Option (List AV))} {nidl : Nat} {z0 : Lo} {md : Md} {d : Nat} {ty : TypeId} {pos : String} {af : Array Edge} {tys : Array TypeId} {x0 : Operand} (ha0 : ev (lk tsl) x0 = some (sl c6 m)) (hmc : MC Tryz.prog 192 [sl c6 m] [] 0 (fun _ : Unit => True) (fun _ => .own 0 0 m.length 4) (fun _ => [(0, some (aI c6 m))])) (hM : Nat.ble (nidl + 1) eZ = true) (hN : Nat.blt d N = true) {md' : Md} [hmd : MdA md (gK [x0] ++ []) (List.map Sum.inr (List.map Prod.fst ([(nidl, some (aI c6 m))] : List (Nat × Option (List AV)))) ++ [.inl d]) md'] (kk : RW Tryz.prog N all Q md' rest ⟨(d, .own nidl 0 m.length 4) :: tsl, iD hsl [(nidl, some (aI c6 m))], nidl + 1, z0⟩) : RW Tryz.prog N all Q md (⟨some d, .call ⟨.value (.func 192), #[x0], tys⟩, ty, pos, af, none⟩ :: rest) ⟨tsl, hsl, nidl, z0⟩ := by
 refine cE [] 1 [(nidl, some (aI c6 m))] hmc (avs := [sl c6 m]) ?_ rfl ?_ rfl ?_ (by simpa using hM) ?_ ?_ ?_ hN (md' := md') (hmd := hmd) kk
 ·show evL (lk tsl) [x0] = _
  simp only [evL, ha0]
 ·exact trivial
 ·(repeat' (exact RnL.purI inferInstance))
 ·(repeat' (exact RnV.own rfl))
 ·simp [dJ]
 ·(repeat' (first|exact trivial|(refine And.intro ⟨0, _, rfl, rfl, ?_⟩ ?_)|exact RnL.purI inferInstance))
theorem gU (m : List Cl) (hm : OkM m) : MC Tryz.prog 192 [sl c6 m] [] 0 (fun _ : Unit => True) (fun _ => .own 0 0 m.length 4) (fun _ => [(0, some (aI c6 m))]) := by
 have hml := hm.l
 (refine b9 Tryz.func192 rfl (by simp [Tryz.ntmps192]) ?_; rw [Tryz.ntmps192])
 repeat' (first|(apply aL;first|(apply aC;rfl;rfl)|(apply aF;kernel_rfl)|(apply bZ;rfl;rfl;rfl;(rfl);rfl;rfl))|(apply aM;first|apply aH|apply aB|apply aK)|with_reducible apply aA)
 refine bB (σ := Nat × List Cl) [0] [(0, _)] [] [] (fun k => [(4, iv (k.1 : Int)), (3, .own 0 0 k.1 4)]) (fun k => [(0, some (aI c6 k.2))]) (fun k => k.1 ≤ m.length ∧ k.2 = m.take k.1) (fun k => m.length - k.1) (0, []) ⟨by omega, rfl⟩ rfl rfl (by repeat' (first|exact trivial|refine And.intro rfl ?_)) (by repeat' (first|exact trivial|refine And.intro (.inr rfl) ?_)) ?_
 rintro ⟨i, xs⟩ ⟨hi, hxs⟩
 dsimp only at hi hxs ⊢
 have hln : xs.length = i := by rw [hxs, List.length_take]; exact Nat.min_eq_left hi
 have hst : i < m.length → m[i]!.stk.length ≤ 200 := fun h => (((dY m).1 hm).2 i h).l.2
 repeat' (first|(apply aL;first|(with_reducible apply cV (d := 21))|(apply aE;rfl;rfl)|(first|(apply aN;rfl;rfl;rfl;rfl)|(apply aV;rfl;rfl;(exact (rfl:_=[_, _, _, _]));rfl;rfl;rfl))|(apply aD;rfl;rfl;rfl)|(apply aU;rfl;rfl;rfl;rfl)|(apply aC;rfl;rfl)|(apply a7;(case hx|hi => rfl);(case hm => (omega));(case hml => (rfl));(case hα | hf|hg => infer_instance);(case hN => rfl))|(first|(apply bI;rfl;rfl;rfl)|(apply bW;rfl;rfl;rfl;rfl;rfl;(case hl => (simp [aP]; done));(exact iQ (by (rfl)));omega;omega;(exact eY (by (omega)));rfl;rfl))|(apply aF;kernel_rfl)|(apply a6;rfl;rfl)|(apply bZ;rfl;rfl;rfl;(rfl);rfl;rfl)|(apply aW;rfl;rfl;rfl;rfl;rfl;(case hl => (simp;done));(exact (rfl:_=[_, _, _, _]))))|(apply aM;first|apply aH|apply aB|(apply aQ;rfl;all_goals intro hc;have hq:=hc;(try simp only [cJ] at hq);try exfalso;omega)|apply aK|apply aT|apply bK|apply aR)|with_reducible apply aA|with_reducible apply bJ|with_reducible apply bO)
 ·refine dX (jM ?_ (Le.frzD (d := 20) (i := 3) rfl rfl))
  rw [Nat.zero_add m[i]!.stk.length]
  repeat' (first|(apply aL;first|(apply aE;rfl;rfl)|(apply aV;rfl;rfl;(exact (rfl:_=[_, _, _, _]));rfl;rfl;rfl)|(apply aD;rfl;rfl;rfl)|(apply bS;rfl;rfl;omega;rfl)|(apply aC;rfl;rfl)|(apply bW;rfl;rfl;rfl;rfl;rfl;(rw [aP]; omega);(rfl);omega;omega;(exact F3 (by (omega)));rfl;rfl)|(apply aF;kernel_rfl)|((apply bE (t := _));(case hze|hsm|hl => rfl);(case hfl => (exact (rfl:_=some [_, _, _, _])));(case hM|hN => rfl))|(apply aW;rfl;rfl;rfl;rfl;rfl;(case hl => (simp;done));(exact (rfl:_=[_, _, _, _]))))|(apply aM;(apply aB))|with_reducible apply aA|with_reducible apply aX)
  (apply dK (i + 1, _);focus (refine Le.ren [(0, 5)] rfl (by decide) ?_ ?_ <;> repeat' (first|exact trivial|refine And.intro ⟨_, rfl, ?_⟩ ?_|refine And.intro ⟨_, _, rfl, rfl, ?_⟩ ?_|exact Or.inr rfl|refine Or.inl ⟨?_, (by first|rfl|exact aY _ _)⟩|rfl)))
  ·exact ⟨by dsimp only;omega, by dsimp only;rw [hxs, cX m i (by omega)]⟩
  ·dsimp only;omega
 ·have hie : i = m.length := by omega
  (refine aO rfl ?_; refine bU () trivial ?_ ⟨.inr (Eq.trans (b := some _) rfl ?_), trivial⟩)
  ·rw [hie]; rfl
  ·rw [hxs, hie, List.take_length]
theorem k7 (m : List Cl) (hm : OkM m) (x : Pt) : PC Tryz.prog 195 [sl c6 m, nB x] (fun r => r = .tup [iv (if cK m x false = 0 then dD m[x.cell.toNat]!.stk x.tag else 0), iv (cK m x false)]) := by
 have hml := hm.l
 have hcv := nK m (by omega)
 rw [decide_eq_true hm] at hcv
 have hst : 0 ≤ x.cell → x.cell < m.length → m[x.cell.toNat]!.stk.length ≤ 1000000 := fun h1 h2 => Nat.le_trans (((dY m).1 hm).2 x.cell.toNat (by omega)).l.2 (by decide)
 (refine aS Tryz.func195 rfl (by simp [Tryz.ntmps195]) ?_; rw [Tryz.ntmps195])
 repeat' (first|(apply aL;first|((with_reducible apply aJ (k := 191));(case ha => rfl);(case h => exact hcv);(case hp => (exact Pur.pf));(case hN => rfl))|((with_reducible apply aJ (k := 237));(case ha => rfl);(case h => exact CW m[x.cell.toNat]!.stk x.tag (hst (by assumption) (by assumption)));(case hp => (exact Pur.pf));(case hN => rfl))|(apply aE;rfl;rfl)|(apply aN;rfl;rfl;rfl;rfl)|(apply aD;rfl;rfl;rfl)|(first|(apply a8;rfl;rfl;rfl;(first|rfl|assumption))|(apply bC;rfl;rfl;rfl;(assumption))|(apply bR;(case hj|hb|hN => rfl);all_goals (intro hg;have hq := hg;(try simp only [cJ] at hq);(try (exfalso;omega)))))|(apply aU;rfl;rfl;rfl;rfl)|(apply aC;rfl;rfl)|(first|(apply bY;rfl;(assumption);rfl;rfl)|(apply bQ;rfl;(first|rfl|assumption);rfl;rfl))|(apply cL;(case hx|hi => rfl);(case hm => (omega));(case hml => (rfl));(case hα | hf|hg => infer_instance);(case hN => rfl))|(apply bI;rfl;rfl;rfl)|(apply aF;kernel_rfl)|(apply cF;rfl;rfl)|(apply bH;rfl;rfl;rfl;rfl))|(apply aM;first|apply aH|apply aB|(apply bV;kernel_rfl)|(apply cB;rfl;(rfl))|(apply aQ;rfl;all_goals intro hc;have hq:=hc;(try simp only [cJ] at hq);try exfalso;omega)|apply aT|apply aR)|with_reducible apply aA|with_reducible apply bG)
 all_goals (refine aO rfl ⟨?_, rfl⟩; simp only [b0])
 ·rw [B7 (by omega)]; rfl
 ·rw [Hr (by assumption) (by assumption) (by assumption)]; rfl
 ·rw [Ge (by assumption) (by assumption) (by assumption) (by assumption)]; rfl
 ·rw [rR (by assumption) (by assumption) (by assumption) (by assumption)]; rfl
 ·rw [B7 (by omega)]; rfl
theorem Bt {xs : List Cl} {k : Nat} {s : List Tg} (hk : k < xs.length) : hO (aI c6 xs) (0 + k * 4 + 3) [sl dL s] = aI c6 (xs.set k { xs[k]! with stk := s }) := fK hk (by simp) rfl
theorem Kr {xs : List Cl} {k : Nat} {v : Int} (hk : k < xs.length) : hO (aI c6 xs) (0 + k * 4 + 0) [iv v] = aI c6 (xs.set k { xs[k]! with val := v }) := fK hk (by simp) rfl
theorem J6 {xs : List Cl} {k : Nat} {b : Bool} (hk : k < xs.length) : hO (aI c6 xs) (0 + k * 4 + 1) [.v (.bool b)] = aI c6 (xs.set k { xs[k]! with alive := b }) := fK hk (by simp) rfl
theorem fU {α : Type} {f : α → List AV} {xs : List α} {n : Nat} (h : n = xs.length) : AV.imm n (aI f xs) = sl f xs := by subst h; rfl
theorem qL (m : List Cl) (hm : OkM m) (x : Pt) : PC Tryz.prog 148 [sl c6 m, nB x] (fun r => r = .tup [sl c6 (dU m x false), iv (nL m x), iv (cK m x false)]) := by
 have hml := hm.l
 have hst : 0 ≤ x.cell → x.cell < m.length → m[x.cell.toNat]!.stk.length ≤ 1000000 := fun h1 h2 => Nat.le_trans (((dY m).1 hm).2 x.cell.toNat (by omega)).l.2 (by decide)
 by_cases hk : cK m x false = 0
 ·have hpl := k7 m hm x
  rw [if_pos hk, hk] at hpl
  obtain ⟨h1, h2, h3, h4, _⟩ := eW hk
  have hbd := e9 m[x.cell.toNat]!.stk x.tag
  have hrd := Gy m[x.cell.toNat]!.stk (dD m[x.cell.toNat]!.stk x.tag).toNat (by omega) (hst h1 h2)
  rw [Int.toNat_of_nonneg h4] at hrd
  (refine aS Tryz.func148 rfl (by simp [Tryz.ntmps148]) ?_; rw [Tryz.ntmps148])
  repeat' (first|(apply aL;first|(apply fX;rfl;exact gU m hm;rfl;rfl)|((with_reducible apply aJ (k := 195));(case ha => rfl);(case h => exact hpl);(case hp => (exact Pur.pf));(case hN => rfl))|((with_reducible apply aJ (k := 196));(case ha => rfl);(case h => exact hrd);(case hp => (exact Pur.pf));(case hN => rfl))|(apply aE;rfl;rfl)|(first|(apply aN;rfl;rfl;rfl;rfl)|(apply aV;rfl;rfl;(exact (rfl:_=[_, _]));rfl;rfl;rfl))|(apply aD;rfl;rfl;rfl)|(apply aU;rfl;rfl;rfl;rfl)|(apply aC;rfl;rfl)|(first|(apply cL;(case hx|hi => rfl);(case hm => (omega));(case hml => (rfl));(case hα | hf|hg => infer_instance);(case hN => rfl))|(apply cQ;rfl;rfl;(omega);rfl))|(apply aF;kernel_rfl)|(apply bH;rfl;rfl;rfl;rfl)|(apply bD;rfl;rfl;rfl)|(apply aW;rfl;rfl;rfl;rfl;rfl;(rw [aP]; simp only [gH] <;> omega);(exact Bt (by (omega)))))|(apply aM;first|apply aH|apply aB|(apply bV;kernel_rfl)|(apply cG;rfl;(rfl))|apply aT|apply aR)|with_reducible apply aA)
  (refine cD (Le.frzD (d := 4) (i := 1) rfl rfl) ?_; refine aO rfl ?_)
  refine ⟨?_, by (exact Pur.pf)⟩
  simp only [b0]
  rw [fU (by rw [List.length_set]), hk]
  unfold dU nL;rw [if_pos hk, if_pos hk]; rfl
 ·have hpl := k7 m hm x
  rw [if_neg hk] at hpl
  (refine aS Tryz.func148 rfl (by simp [Tryz.ntmps148]) ?_; rw [Tryz.ntmps148])
  repeat' (first|(apply aL;first|(apply fX;rfl;exact gU m hm;rfl;rfl)|((with_reducible apply aJ (k := 195));(case ha => rfl);(case h => exact hpl);(case hp => (exact Pur.pf));(case hN => rfl))|(apply aE;rfl;rfl)|(apply aV;rfl;rfl;(exact (rfl:_=[_, _]));rfl;rfl;rfl)|(apply aU;rfl;rfl;rfl;rfl)|(apply aC;rfl;rfl)|(apply aF;kernel_rfl)|(apply bH;rfl;rfl;rfl;rfl)|(apply bD;rfl;rfl;rfl))|(apply aM;first|apply aH|apply aB|(apply aQ;rfl;all_goals intro hc;have hq:=hc;(try simp only [cJ] at hq);try exfalso;omega)|apply aR)|with_reducible apply aA|with_reducible apply bG)
  (refine cD (Le.frzD (d := 4) (i := 1) rfl rfl) ?_; refine aO rfl ?_)
  refine ⟨?_, by (exact Pur.pf)⟩
  simp only [b0]
  unfold dU nL;rw [if_neg hk, if_neg hk]
theorem Kh {cs : List AV} {i : Nat} {c : AV} : hO cs i [c] = cs.take i ++ c :: cs.drop (i + 1) := by
 have := Ir (cs := cs) (v := i) (c := c)
 rwa [Nat.zero_add, Nat.mul_one] at this
theorem Le.frzCl {ts : List (Nat × AV)} {hs : List (Nat × Option (List AV))} {n : Nat} {z0 : Lo} {j q v m : Nat} {u : List Cl} {r : List Tg} (hj : cO hs j = some (hO (aI c6 u) (0 + v * 4 + 3) [.own q 0 m 2])) (hq : cO hs q = some (aI dL r)) (hm : m = r.length) (hv : v < u.length) (hjq : j ≠ q) :
  Le ⟨ts, hs, n, z0⟩ ⟨ts, (j, some (aI c6 (u.set v { u[v]! with stk := r }))) :: (q, none) :: hs, n, z0⟩ := by
 subst hm
 have hl : (aI c6 u).length = u.length * 4 := aP c6 u
 have e := Bt (s := r) hv
 rw [Kh] at hj e
 have h := Le.frzC (ts := ts) (n := n) (z0 := z0) ((aI c6 u).take (0 + v * 4 + 3)) hj hq hjq
 rw [← e]; exact h
theorem mA {m : List Cl} {x : Pt} {wr : Bool} : (dU m x wr).length = m.length := by
 unfold dU;split
 ·rw [List.length_set]
 ·rfl
theorem iX {m : List Cl} {x : Pt} {N : Nat} {Q : Exit → AS → Prop} {all : Array Oper} {rest : List Oper} {tsl : List (Nat × AV)} {hsl : List (Nat × Option (List AV))} {nidl : Nat} {z0 : Lo} {md : Md} {d : Nat} {ty : TypeId} {pos : String} {af : Array Edge} {tys : Array TypeId} {x0 x1 : Operand} (ha0 : ev (lk tsl) x0 = some (sl c6 m)) (ha1 : ev (lk tsl) x1 = some (nB x)) (hmc : MC Tryz.prog 190 [sl c6 m, nB x] [] 0 (fun _ : Unit => True) (fun _ => .tup [.own 1 0 m.length 4, iv (cK m x true)]) (fun _ => [(1, some (aI c6 (dU m x true)))])) (hM : Nat.ble (nidl + 2) eZ = true) (hN : Nat.blt d N = true) {md' : Md} [hmd : MdA md (gK [x0, x1] ++ []) (List.map Sum.inr (List.map Prod.fst ([((nidl + 1), some (aI c6 (dU m x true)))] : List (Nat × Option (List AV)))) ++ [.inl d]) md'] (kk : RW Tryz.prog N all Q md' rest ⟨(d, .tup [.own (nidl + 1) 0 m.length 4, iv (cK m x true)]) :: tsl, iD hsl [((nidl + 1), some (aI c6 (dU m x true)))], nidl + 2, z0⟩) : RW Tryz.prog N all Q md (⟨some d, .call ⟨.value (.func 190), #[x0, x1], tys⟩, ty, pos, af, none⟩ :: rest) ⟨tsl, hsl, nidl, z0⟩ := by
 refine cE [] 2 [((nidl + 1), some (aI c6 (dU m x true)))] hmc (avs := [sl c6 m, nB x]) ?_ rfl ?_ rfl ?_ (by simpa using hM) ?_ ?_ ?_ hN (md' := md') (hmd := hmd) kk
 ·show evL (lk tsl) [x0, x1] = _
  simp only [evL, ha0, ha1]
 ·exact trivial
 ·(repeat' (exact RnL.purI inferInstance))
 ·(repeat' (first|exact RnL.purI inferInstance|exact RnV.own rfl|refine RnL.cons ?_ ?_|refine RnV.tup ?_))
 ·simp [dJ]
 ·(repeat' (first|exact trivial|(refine And.intro ⟨1, _, rfl, rfl, ?_⟩ ?_)|exact RnL.purI inferInstance))
theorem kB (m : List Cl) (x : Pt) (hm : OkM m) : MC Tryz.prog 190 [sl c6 m, nB x] [] 0 (fun _ : Unit => True) (fun _ => .tup [.own 1 0 m.length 4, iv (cK m x true)]) (fun _ => [(1, some (aI c6 (dU m x true)))]) := by
 have hml := hm.l
 have hst : 0 ≤ x.cell → x.cell < m.length → m[x.cell.toNat]!.stk.length ≤ 200 := fun h1 h2 => (((dY m).1 hm).2 x.cell.toNat (by omega)).l.2
 have hpl := k7 m hm x
 by_cases hk : cK m x false = 0
 ·rw [if_pos hk, hk] at hpl
  obtain ⟨h1, h2, h3, h4, _⟩ := eW hk
  have hbd := e9 m[x.cell.toNat]!.stk x.tag
  have hs2 := hst h1 h2
  obtain ⟨k, hkk⟩ := Int.eq_ofNat_of_zero_le h4
  rw [hkk] at hpl
  have hkn : k < m[x.cell.toNat]!.stk.length := by omega
  have hkt : (dD m[x.cell.toNat]!.stk x.tag).toNat = k := by omega
  have hwr := y4 (m := m) (x := x)
  rw [if_pos hk, hkt] at hwr
  have e1 : List.take (((k : Int) + 1).toNat - 0) (List.drop 0 m[x.cell.toNat]!.stk) = m[x.cell.toNat]!.stk.take (k + 1) := by rw [List.drop_zero]; congr 1
  have e2 : (m[x.cell.toNat]!.stk.take (k + 1)).length = k + 1 := by rw [List.length_take]; omega
  (refine b9 Tryz.func190 rfl (by simp [Tryz.ntmps190]) ?_; rw [Tryz.ntmps190])
  repeat' (first|(apply aL;first|(apply fX;rfl;exact gU m hm;rfl;rfl)|((with_reducible apply aJ (k := 195));(case ha => rfl);(case h => exact hpl);(case hp => (exact Pur.pf));(case hN => rfl))|(with_reducible apply cV (d := 46))|(apply aE;rfl;rfl)|(first|(apply aN;rfl;rfl;rfl;rfl)|(apply aV;rfl;rfl;(exact (rfl:_=[_, _]));rfl;rfl;rfl))|(apply aD;rfl;rfl;rfl)|(first|(apply bS;rfl;rfl;omega;rfl)|(apply aU;rfl;rfl;rfl;rfl))|(apply aC;rfl;rfl)|(first|(apply a7;(case hx|hi => rfl);(case hm => (assumption));(case hml => (rfl));(case hα | hf|hg => infer_instance);(case hN => rfl))|(apply cL;(case hx|hi => rfl);(case hm => (omega));(case hml => (rfl));(case hα | hf|hg => infer_instance);(case hN => rfl)))|(apply aF;kernel_rfl)|(apply iN;rfl;infer_instance;rfl;rfl;(omega);rfl)|(apply cF;rfl;rfl)|(apply bH;rfl;rfl;rfl;rfl)|(apply bD;rfl;rfl;rfl)|(apply bZ;rfl;rfl;rfl;(rfl);rfl;rfl))|(apply aM;first|apply aH|apply aB|(apply bV;kernel_rfl)|(apply cG;rfl;(rfl))|(apply aQ;rfl;all_goals intro hc;have hq:=hc;(try simp only [cJ] at hq);try exfalso;omega)|apply aT|apply aR)|with_reducible apply aA|with_reducible apply bG)
  ·have hu : m[x.cell.toNat]!.stk[k]!.uq = false := by assumption
   rw [if_pos hu] at hwr
   (refine aO rfl ?_; refine bU () trivial ?_ ⟨.inr (Eq.trans (b := some _) rfl ?_), trivial⟩)
   ·rw [hwr]; rfl
   ·unfold dU;rw [if_neg (by rw [hwr]; decide)]
  ·have hu : m[x.cell.toNat]!.stk[k]!.uq = true := by assumption
   rw [if_neg (by rw [hu]; decide)] at hwr
   refine dX ?_
   rw [e1]
   repeat' (first|(apply aL;first|(with_reducible apply cV (d := 49))|(apply aD;rfl;rfl;rfl)|(apply cQ;rfl;rfl;(omega);rfl)|(apply bW;rfl;rfl;rfl;rfl;rfl;(case hl => (simp [aP]; done));(exact iQ (by (rfl)));omega;omega;(exact eY (by (omega)));rfl;rfl)|(apply aF;kernel_rfl)|(apply aW;rfl;rfl;rfl;rfl;rfl;(rw [aP]; simp only [gH] <;> omega);(rfl)))|(apply aM;first|apply aH|apply aB)|with_reducible apply aA)
   refine dX (jM ?_ (Le.frzCl (j := 1) (q := 3) (v := x.cell.toNat) (u := m) (r := m[x.cell.toNat]!.stk.take (k + 1)) rfl rfl (Nat.zero_add _) (by omega) (by decide)))
   repeat' (first|(apply aL;first|(apply aE;rfl;rfl)|(apply aC;rfl;rfl)|(apply aF;kernel_rfl))|(apply aM;(apply aR))|with_reducible apply aA)
   (refine aO rfl ?_; refine bU () trivial ?_ ⟨.inr (Eq.trans (b := some _) rfl ?_), trivial⟩)
   ·rw [hwr]; rfl
   ·unfold dU jE fT;rw [if_pos hwr, hkt, if_pos rfl]
 ·rw [if_neg hk] at hpl
  have hk2 : cK m x true = cK m x false := by rw [y4, if_neg hk]
  (refine b9 Tryz.func190 rfl (by simp [Tryz.ntmps190]) ?_; rw [Tryz.ntmps190])
  repeat' (first|(apply aL;first|(apply fX;rfl;exact gU m hm;rfl;rfl)|((with_reducible apply aJ (k := 195));(case ha => rfl);(case h => exact hpl);(case hp => (exact Pur.pf));(case hN => rfl))|(apply aE;rfl;rfl)|(apply aV;rfl;rfl;(exact (rfl:_=[_, _]));rfl;rfl;rfl)|(apply aU;rfl;rfl;rfl;rfl)|(apply aC;rfl;rfl)|(apply aF;kernel_rfl)|(apply bH;rfl;rfl;rfl;rfl)|(apply bD;rfl;rfl;rfl))|(apply aM;first|apply aH|apply aB|(apply aQ;rfl;all_goals intro hc;have hq:=hc;(try simp only [cJ] at hq);try exfalso;omega)|apply aR)|with_reducible apply aA|with_reducible apply bG)
  (refine aO rfl ?_; refine bU () trivial ?_ ⟨.inr (Eq.trans (b := some _) rfl ?_), trivial⟩)
  ·rw [hk2]; rfl
  ·unfold dU;rw [if_neg (by rw [hk2]; exact hk)]
theorem set_set {α : Type} {l : List α} {i : Nat} {a b : α} : (l.set i a).set i b = l.set i b := by simp
theorem lU {α : Type} [Inhabited α] {l : List α} {i : Nat} {a : α} (h : i < l.length) : (l.set i a)[i]! = a := by rw [cT _ _ (by rw [List.length_set]; exact h), List.getElem_set_self]
theorem yN (m : List Cl) (hm : OkM m) (x : Pt) (v : Int) : PC Tryz.prog 149 [sl c6 m, nB x, iv v] (fun r => r = .tup [sl c6 (nT m x v), iv (oO m x v)]) := by
 have hml := hm.l
 have hlt := mA (m := m) (x := x) (wr := true)
 have hin := eW (m := m) (x := x) (wr := true)
 by_cases hv : 0 ≤ v ∧ v ≤ 9
 ·have hwk : oO m x v = cK m x true := by unfold oO; rw [if_pos hv]
  by_cases hk : cK m x true = 0
  ·obtain ⟨h1, h2, _⟩ := hin hk
   (refine aS Tryz.func149 rfl (by simp [Tryz.ntmps149]) ?_; rw [Tryz.ntmps149])
   repeat' (first|(apply aL;first|(apply iX;rfl;rfl;exact kB m x hm;rfl;rfl)|(apply aE;rfl;rfl)|(first|(apply aN;rfl;rfl;rfl;rfl)|(apply aV;rfl;rfl;(exact (rfl:_=[_, _]));rfl;rfl;rfl))|(apply aD;rfl;rfl;rfl)|(first|(apply a8;rfl;rfl;rfl;(assumption))|(apply bR;(case hj|hb|hN => rfl);all_goals (intro hg;have hq := hg;(try simp only [cJ] at hq);(try (exfalso;omega)))))|(apply aU;rfl;rfl;rfl;rfl)|(apply aC;rfl;rfl)|(apply bQ;rfl;(assumption);rfl;rfl)|(apply cQ;rfl;rfl;(omega);rfl)|(apply aF;kernel_rfl)|(apply bH;rfl;rfl;rfl;rfl)|(apply bD;rfl;rfl;rfl)|(apply aW;rfl;rfl;rfl;rfl;rfl;(rw [aP]; simp only [gH] <;> omega);(exact Kr (by (omega)))))|(apply aM;first|apply aH|apply aB|(apply aQ;rfl;all_goals intro hc;have hq:=hc;(try simp only [cJ] at hq);try exfalso;omega)|apply aT|apply aR)|with_reducible apply aA)
   (refine cD (Le.frzD (d := 6) (i := 2) rfl rfl) ?_; refine aO rfl ?_)
   refine ⟨?_, by (exact Pur.pf)⟩
   simp only [b0]
   rw [fU (by rw [List.length_set, hlt]), hwk]
   unfold nT dU;rw [if_pos hk, if_pos (by rw [hwk]; exact hk), lU (by omega), set_set]
  ·(refine aS Tryz.func149 rfl (by simp [Tryz.ntmps149]) ?_; rw [Tryz.ntmps149])
   repeat' (first|(apply aL;first|(apply iX;rfl;rfl;exact kB m x hm;rfl;rfl)|(apply aE;rfl;rfl)|(apply aV;rfl;rfl;(exact (rfl:_=[_, _]));rfl;rfl;rfl)|(first|(apply a8;rfl;rfl;rfl;(assumption))|(apply bR;(case hj|hb|hN => rfl);all_goals (intro hg;have hq := hg;(try simp only [cJ] at hq);(try (exfalso;omega)))))|(apply aU;rfl;rfl;rfl;rfl)|(apply aC;rfl;rfl)|(apply bQ;rfl;(assumption);rfl;rfl)|(apply aF;kernel_rfl)|(apply bH;rfl;rfl;rfl;rfl)|(apply bD;rfl;rfl;rfl))|(apply aM;first|apply aH|apply aB|(apply aQ;rfl;all_goals intro hc;have hq:=hc;(try simp only [cJ] at hq);try exfalso;omega)|apply aT|apply aR)|with_reducible apply aA)
   (refine cD (Le.frzD (d := 6) (i := 2) rfl rfl) ?_; refine aO rfl ?_)
   refine ⟨?_, by (exact Pur.pf)⟩
   simp only [b0]
   rw [fU (by rw [hlt]), hwk]
   unfold nT dU;rw [if_neg hk, if_neg (by rw [hwk]; exact hk)]
 ·have hwk : oO m x v = 4 := by unfold oO; rw [if_neg hv]
  have e : nT m x v = m := by unfold nT;rw [if_neg (by rw [hwk]; decide)]
  (refine aS Tryz.func149 rfl (by simp [Tryz.ntmps149]) ?_; rw [Tryz.ntmps149])
  repeat' (first|(apply aL;first|(apply fX;rfl;exact gU m hm;rfl;rfl)|(apply aE;rfl;rfl)|(first|(apply a8;rfl;rfl;rfl;(assumption))|(apply bC;rfl;rfl;rfl;(assumption))|(apply bR;(case hj|hb|hN => rfl);all_goals (intro hg;have hq := hg;(try simp only [cJ] at hq);(try (exfalso;omega)))))|(apply aU;rfl;rfl;rfl;rfl)|(apply aC;rfl;rfl)|(first|(apply bY;rfl;(assumption);rfl;rfl)|(apply bQ;rfl;(assumption);rfl;rfl))|(apply aF;kernel_rfl)|(apply bH;rfl;rfl;rfl;rfl))|(apply aM;first|apply aH|apply aB|(apply cB;rfl;(rfl))|(apply aQ;rfl;all_goals intro hc;have hq:=hc;(try simp only [cJ] at hq);try exfalso;omega)|apply aR)|with_reducible apply aA|with_reducible apply bG)
  all_goals (try (exfalso;omega))
  all_goals (
   (refine cD (Le.frzD (d := 6) (i := 1) rfl rfl) ?_; refine aO rfl ?_)
   refine ⟨?_, by (exact Pur.pf)⟩
   simp only [b0]
   rw [e, hwk])
theorem mI (m : List Cl) (hm : OkM m) (x : Pt) : PC Tryz.prog 141 [sl c6 m, nB x] (fun r => r = .tup [sl c6 (iL m x), iv (cK m x true)]) := by
 have hml := hm.l
 have hlt := mA (m := m) (x := x) (wr := true)
 have hin := eW (m := m) (x := x) (wr := true)
 by_cases hk : cK m x true = 0
 ·obtain ⟨h1, h2, _⟩ := hin hk
  (refine aS Tryz.func141 rfl (by simp [Tryz.ntmps141]) ?_; rw [Tryz.ntmps141])
  repeat' (first|(apply aL;first|(apply iX;rfl;rfl;exact kB m x hm;rfl;rfl)|(apply aE;rfl;rfl)|(first|(apply aN;rfl;rfl;rfl;rfl)|(apply aV;rfl;rfl;(exact (rfl:_=[_, _]));rfl;rfl;rfl))|(apply aD;rfl;rfl;rfl)|(apply aU;rfl;rfl;rfl;rfl)|(apply aC;rfl;rfl)|(apply cQ;rfl;rfl;(omega);rfl)|(apply aF;kernel_rfl)|(apply bH;rfl;rfl;rfl;rfl)|(apply bD;rfl;rfl;rfl)|(apply aW;rfl;rfl;rfl;rfl;rfl;(rw [aP]; simp only [gH] <;> omega);(exact J6 (by (omega)))))|(apply aM;first|apply aH|apply aB|(apply aQ;rfl;all_goals intro hc;have hq:=hc;(try simp only [cJ] at hq);try exfalso;omega)|apply aR)|with_reducible apply aA)
  (refine cD (Le.frzD (d := 4) (i := 2) rfl rfl) ?_; refine aO rfl ?_)
  refine ⟨?_, by (exact Pur.pf)⟩
  simp only [b0]
  rw [fU (by rw [List.length_set, hlt])]
  unfold iL dU;rw [if_pos hk, if_pos hk, lU (by omega), set_set]
 ·(refine aS Tryz.func141 rfl (by simp [Tryz.ntmps141]) ?_; rw [Tryz.ntmps141])
  repeat' (first|(apply aL;first|(apply iX;rfl;rfl;exact kB m x hm;rfl;rfl)|(apply aE;rfl;rfl)|(apply aV;rfl;rfl;(exact (rfl:_=[_, _]));rfl;rfl;rfl)|(apply aU;rfl;rfl;rfl;rfl)|(apply aC;rfl;rfl)|(apply aF;kernel_rfl)|(apply bH;rfl;rfl;rfl;rfl)|(apply bD;rfl;rfl;rfl))|(apply aM;first|apply aH|apply aB|(apply aQ;rfl;all_goals intro hc;have hq:=hc;(try simp only [cJ] at hq);try exfalso;omega)|apply aT|apply aR)|with_reducible apply aA)
  (refine cD (Le.frzD (d := 4) (i := 2) rfl rfl) ?_; refine aO rfl ?_)
  refine ⟨?_, by (exact Pur.pf)⟩
  simp only [b0]
  rw [fU (by rw [hlt])]
  unfold iL dU;rw [if_neg hk, if_neg hk]
theorem Cg (m : List Cl) (hm : OkM m) (v : Int) : PC Tryz.prog 145 [sl c6 m, iv v] (fun r => r = .tup (if 0 ≤ v ∧ v ≤ 9 ∧ m.length < 200 then [sl c6 (m ++ [n7 v]), .agg [iv m.length, iv 0], bv true] else [sl c6 [], .agg [iv 0, iv 0], bv false])) := by
 have hml := hm.l
 have hcv := nK m (by omega)
 rw [decide_eq_true hm] at hcv
 (refine aS Tryz.func145 rfl (by simp [Tryz.ntmps145]) ?_; rw [Tryz.ntmps145])
 repeat' (first|(apply aL;first|(apply fX;rfl;exact gU m hm;rfl;rfl)|((with_reducible apply aJ (k := 191));(case ha => rfl);(case h => exact hcv);(case hp => (exact Pur.pf));(case hN => rfl))|(apply aE;rfl;rfl)|(first|(apply a8;rfl;rfl;rfl;(first|rfl|assumption))|(apply bC;rfl;rfl;rfl;(first|rfl|assumption))|(apply bR;(case hj|hb|hN => rfl);all_goals (intro hg;have hq := hg;(try simp only [cJ] at hq);(try (exfalso;omega)))))|(apply aU;rfl;rfl;rfl;rfl)|(apply aC;rfl;rfl)|(first|(apply bY;rfl;(first|rfl|assumption);rfl;rfl)|(apply bQ;rfl;(first|rfl|assumption);rfl;rfl))|(first|(apply bI;rfl;rfl;rfl)|(apply bW;rfl;rfl;rfl;rfl;rfl;(rw [aP]; omega);(rfl);omega;omega;(rfl);rfl;rfl))|(apply aF;kernel_rfl)|(apply b8;rfl;(first|exact (rfl:_=some [_, _])|exact (rfl:_=some [_, _, _, _]));(first|exact (rfl:_=[_, _])|exact (rfl:_=[_, _, _, _]));rfl)|(apply cF;rfl;rfl)|(apply a6;rfl;rfl)|((apply bE (t := _));(case hze|hsm|hl => rfl);(case hfl => (first|exact (rfl:_=some [_, _])|exact (rfl:_=some [_, _, _, _])|rfl));(case hM|hN => rfl))|(apply aW;rfl;rfl;rfl;rfl;rfl;(case hl => (first|decide|(simp;done)));(exact (rfl:_=[_, _]))))|(apply aM;first|apply aH|apply aB|(apply cB;rfl;(rfl))|(apply aQ;rfl;all_goals intro hc;have hq:=hc;(try simp only [cJ] at hq);try exfalso;omega)|apply aT|apply aR)|with_reducible apply aA|with_reducible apply bG)
 all_goals try exact aO (l := [sl c6 [], .agg [iv 0, iv 0], bv false]) rfl ⟨by rw [if_neg (by omega)]; rfl, rfl⟩
 have e : ((aI c6 m).drop 0).take (m.length * 4) ++ [iv v, bv true, iv 1, .imm 1 [iv 0, bv true]] = aI c6 (m ++ [n7 v]) := gP rfl rfl
 have e2 : AV.imm (m.length + 1) (((aI c6 m).drop 0).take (m.length * 4) ++ [iv v, bv true, iv 1, .imm 1 [iv 0, bv true]]) = sl c6 (m ++ [n7 v]) := by
  rw [e]; exact fU (by rw [List.length_append]; rfl)
 refine cD (Le.frzD (d := 4) (i := 4) rfl rfl) ?_
 refine aO (l := [AV.imm (m.length + 1) (((aI c6 m).drop 0).take (m.length * 4) ++ [iv v, bv true, iv 1, .imm 1 [iv 0, bv true]]), .agg [iv m.length, iv 0], bv true]) rfl ?_
 rw [e2, if_pos (by omega)]
 exact ⟨rfl, by (exact Pur.pf)⟩
def nS (m : List Cl) (j : Nat) (r : List Tg) : Prop := r.length = 200 ∨ m[j]!.next = 1000
instance (m : List Cl) (j : Nat) (r : List Tg) : Decidable (nS m j r) := by unfold nS; infer_instance
def kG (m b : List Cl) (j : Nat) (u : Bool) (r : List Tg) : List Cl := if nS m j r then b else m.set j (psh { m[j]! with stk := r } u)
def kD (m : List Cl) (j : Nat) (r : List Tg) : Pt := if nS m j r then ⟨0, 0⟩ else ⟨j, m[j]!.next⟩
def kF (m : List Cl) (j : Nat) (r : List Tg) : Int := if nS m j r then 4 else 0
theorem vY {m b : List Cl} {j : Nat} {u : Bool} {r : List Tg} {n k : Nat} {N : Nat} {Q : Exit → AS → Prop} {all : Array Oper} {rest : List Oper} {tsl : List (Nat × AV)} {hsl : List (Nat × Option (List AV))} {nidl : Nat} {z0 : Lo} {md : Md} {d : Nat} {ty : TypeId} {pos : String} {af : Array Edge} {tys : Array TypeId} {x0 x1 x2 x3 : Operand} {i0 i1 : Nat} (ha0 : ev (lk tsl) x0 = some (.own i0 0 n 4)) (ha1 : ev (lk tsl) x1 = some (sl c6 b)) (ha2 : ev (lk tsl) x2 = some (iv (j : Int))) (ha3 : ev (lk tsl) x3 = some (bv u)) (hH0 : cO hsl i0 = some (aI fW (eE m j (.own i1 0 k 2)))) (hH1 : cO hsl i1 = some (aI dL r)) (hdd : Go.AL.distinct [i0, i1] = true) (hmc : MC Tryz.prog 236 [.own 0 0 n 4, sl c6 b, iv (j : Int), bv u] [(0, some (aI fW (eE m j (.own 1 0 k 2)))), (1, some (aI dL r))] 2 (fun _ : Unit => True) (fun _ => .tup [sl c6 (kG m b j u r), nB (kD m j r), iv (kF m j r)]) (fun _ => [])) (hM : Nat.ble (nidl + 0) eZ = true) (hN : Nat.blt d N = true) {md' : Md} [hmd : MdA md (gK [x0, x1, x2, x3] ++ [.inr i0, .inr i1]) (List.map Sum.inr (List.map Prod.fst ([(i0, none), (i1, none)] : List (Nat × Option (List AV)))) ++ [.inl d]) md'] (kk : RW Tryz.prog N all Q md' rest ⟨(d, .tup [sl c6 (kG m b j u r), nB (kD m j r), iv (kF m j r)]) :: tsl, iD hsl [(i0, none), (i1, none)], nidl + 0, z0⟩) : RW Tryz.prog N all Q md (⟨some d, .call ⟨.value (.func 236), #[x0, x1, x2, x3], tys⟩, ty, pos, af, none⟩ :: rest) ⟨tsl, hsl, nidl, z0⟩ := by
 refine cE [i0, i1] 2 [(i0, none), (i1, none)] hmc (avs := [.own i0 0 n 4, sl c6 b, iv (j : Int), bv u]) ?_ hdd ?_ rfl ?_ (by simpa using hM) ?_ ?_ ?_ hN (md' := md') (hmd := hmd) kk
 ·show evL (lk tsl) [x0, x1, x2, x3] = _
  simp only [evL, ha0, ha1, ha2, ha3]
 ·exact ⟨⟨_, _, rfl, hH0, by (repeat' (exact kU rfl))⟩, ⟨⟨_, _, rfl, hH1, by (repeat' (exact RnL.purI inferInstance))⟩, trivial⟩⟩
 ·(repeat' (first|exact RnL.purI inferInstance|exact RnV.own rfl|refine RnL.cons ?_ ?_))
 ·(repeat' (exact RnV.purI inferInstance))
 ·simp [dJ]
 ·(repeat' (exact trivial))
theorem Ae (m b : List Cl) (j : Nat) (u : Bool) (r : List Tg) (n k : Nat) (hb : OkM b) (hn : n = m.length) (hk : k = r.length) (hj : j < m.length) (hnx : 0 ≤ m[j]!.next ∧ m[j]!.next ≤ 1000) (hr : r.length ≤ 200) (hml : m.length ≤ 200) : MC Tryz.prog 236 [.own 0 0 n 4, sl c6 b, iv (j : Int), bv u] [(0, some (aI fW (eE m j (.own 1 0 k 2)))), (1, some (aI dL r))] 2 (fun _ : Unit => True) (fun _ => .tup [sl c6 (kG m b j u r), nB (kD m j r), iv (kF m j r)]) (fun _ => []) := by
 have hol := eB (m := m) (j := j) (X := .own 1 0 k 2)
 have hog := iR (m := m) (j := j) (X := .own 1 0 k 2) hj
 have hol2 := eB (m := m) (j := j) (X := .own (2 + 1 + 1 + 1) 0 (r.length + 1) 2)
 subst hn hk
 (refine b9 Tryz.func236 rfl (by simp [Tryz.ntmps236]) ?_; rw [Tryz.ntmps236])
 repeat' (first|(apply aL;first|(with_reducible apply cV (d := 11))|(apply aE;rfl;rfl)|(apply gT;(case hx|hH => rfl);(case hf|hg|hα => infer_instance);(case hk => omega);(case h0|hN => rfl))|(apply aC;rfl;rfl)|(apply cH;rfl;rfl;(assumption);rfl)|(apply aF;kernel_rfl)|(apply a6;rfl;rfl))|(apply aM;first|apply aH|apply aB)|with_reducible apply aA)
 refine dX ?_
 rw [hog]
 dsimp only
 repeat' (first|(apply aL;first|((with_reducible apply aJ (k := 192));(case ha => rfl);(case h => exact Fb b hb);(case hp => (exact Pur.pf));(case hN => rfl))|(apply aE;rfl;rfl)|(apply aN;rfl;rfl;rfl;rfl)|(apply aD;rfl;rfl;rfl)|(first|(apply a8;rfl;rfl;rfl;(assumption))|(apply bC;rfl;rfl;rfl;(assumption))|(apply bR;(case hj|hb|hN => rfl);all_goals (intro hg;have hq := hg;(try simp only [cJ] at hq);(try (exfalso;omega)))))|(first|(apply bS;rfl;rfl;omega;rfl)|(apply aU;rfl;rfl;rfl;rfl))|(apply aC;rfl;rfl)|(first|(apply bY;rfl;(assumption);rfl;rfl)|(apply bQ;rfl;(assumption);rfl;rfl))|(apply cH;rfl;rfl;(assumption);rfl)|(first|(apply bI;rfl;rfl;rfl)|(apply bW;rfl;rfl;rfl;rfl;rfl;(rw [aP]; omega);(rfl);omega;omega;(exact uG (by (omega)));rfl;rfl))|(apply aF;kernel_rfl)|(apply b8;rfl;(exact (rfl:_=some [_, _]));(exact (rfl:_=[_, _]));rfl)|(apply a6;rfl;rfl)|((apply bE (t := _));(case hze|hsm|hl => rfl);(case hfl => (exact (rfl:_=some [_, _])));(case hM|hN => rfl))|(apply aW;rfl;rfl;rfl;rfl;rfl;(case hl => (first|decide|(rw [aP]; simp only [gH] <;> omega)|(simp;done)));(first|exact uA (by (assumption))|exact yB (by (assumption))|exact (rfl:_=[_, _])|exact (rfl:_=[_, _, _, _]))))|(apply aM;first|apply aH|apply aB|(apply cB;rfl;(rfl))|(apply aQ;rfl;all_goals intro hc;have hq:=hc;(try simp only [cJ] at hq);try exfalso;omega)|apply aT|apply aR)|with_reducible apply aA|with_reducible apply bG)
 ·have hf : nS m j r := .inr (by assumption)
  refine aO (l := [sl c6 b, .agg [iv 0, iv 0], iv 4]) rfl ?_
  refine bU () trivial ?_ trivial
  unfold kG kD kF;rw [if_pos hf, if_pos hf, if_pos hf]; rfl
 ·have hf : ¬ nS m j r := by unfold nS; omega
  have hm2 : (m.set j { m[j]! with next := m[j]!.next + 1 }).length = m.length := List.length_set
  refine cD (Le.cls (o := 0) (q := 5) (j := j) (k := r.length + 1) (m := m.set j { m[j]! with next := m[j]!.next + 1 }) (r := r ++ [⟨m[j]!.next, u⟩]) rfl rfl (by rw [List.length_append]; rfl) (by omega) (by decide)) ?_
  refine cD (Le.frzD (d := 8) (i := 0) rfl rfl) ?_
  have e : (m.set j { m[j]! with next := m[j]!.next + 1 }).set j { (m.set j { m[j]! with next := m[j]!.next + 1 })[j]! with stk := r ++ [⟨m[j]!.next, u⟩] } = m.set j (psh { m[j]! with stk := r } u) := by
   rw [lU hj, set_set]; rfl
  rw [e]
  refine aO (l := [.imm m.length (aI c6 (m.set j (psh { m[j]! with stk := r } u))), .agg [iv (j : Int), iv m[j]!.next], iv 0]) rfl ?_
  refine bU () trivial ?_ trivial
  unfold kG kD kF;rw [if_neg hf, if_neg hf, if_neg hf, fU (by rw [List.length_set])]; rfl
 ·have hf : nS m j r := .inl (by omega)
  refine aO (l := [sl c6 b, .agg [iv 0, iv 0], iv 4]) rfl ?_
  refine bU () trivial ?_ trivial
  unfold kG kD kF;rw [if_pos hf, if_pos hf, if_pos hf]; rfl
end Go.Proofs.YtckihjkcgfphmaaGreat
