/-
 A part of the proofs over this program: rules and contracts of its functions (the contracts).
-/
import Derived.Test.YtckihjkcgfphmaaGreatP4B03
set_option linter.unusedVariables false
set_option linter.unusedSimpArgs false
set_option maxHeartbeats 8000000
set_option maxRecDepth 4000
attribute [local irreducible] Go.AL.RW Go.AL.AW Go.AL.Stop
namespace Go.Proofs.YtckihjkcgfphmaaGreat
open Go.AL Go.RowKit
class NumS (cs : List AV) (xs : outParam (List ByteArray)) : Prop where h : cs = aI Br xs
instance NumS.nil : NumS [] [] := ⟨rfl⟩
instance NumS.cons {n : ByteArray} {cs : List AV} {xs : List ByteArray} [h : NumS cs xs] : NumS (.v (.string n) :: cs) (n :: xs) := ⟨by rw [h.h]; rfl⟩
theorem G2 {cs : List AV} {xs : List ByteArray} {m : Nat} (h : NumS cs xs) (hm : m = xs.length) (hs : xs.all (fun s => decide (s.size ≤ 600)) = true) : ∃ ys : List ByteArray, AV.imm m cs = sl Br ys ∧ ys.length = m ∧ ∀ i : Nat, (ys[i]!).size ≤ 600 := by
 refine ⟨xs, by rw [h.h, hm], hm.symm, fun i => ?_⟩
 by_cases hi : i < xs.length
 ·rw [List.all_eq_true] at hs
  rw [cT _ _ hi]
  simpa using hs _ (List.getElem_mem hi)
 ·rw [getElem!_neg xs i hi]; decide
theorem DE : PC Tryz.prog 126 [] (fun r => ∃ ys : List ByteArray, r = sl Br ys ∧ ys.length = 25 ∧ ∀ i : Nat, (ys[i]!).size ≤ 600) := by
 (refine aS Tryz.func126 rfl (by simp [Tryz.ntmps126]) ?_; rw [Tryz.ntmps126])
 repeat' (first|(apply aK;first|((apply bF (t := _));(case hze|hsm|hl => rfl);(case hfl => exact (rfl:_=some [_, _, _, _, _, _, _, _, _, _, _, _, _, _, _, _, _, _, _, _, _, _, _, _, _]));(case hM|hN => rfl))|(apply aC;rfl;rfl)|(apply aF;kernel_rfl))|(apply aL;first|apply aH|apply aB|apply aQ)|with_reducible apply aA)
 refine uD (l := [.imm 25 [_, _, _, _, _, _, _, _, _, _, _, _, _, _, _, _, _, _, _, _, _, _, _, _, _]]) ?_ rfl ?_
 ·rintro _ ⟨ys, rfl, _⟩; exact aY _ _
 ·exact G2 inferInstance rfl (by decide)
theorem sJ {P : Program} {N : Nat} {Q : Exit → AS → Prop} {all : Array Oper} {rest : List Oper} {ts : List (Nat × AV)} {hs : List (Nat × Option (List AV))} {n : Nat} {z0 : Lo} {ty : TypeId} {pos : String} {af : Array Edge} {d : Nat} {args : Array Operand} {tys : Array TypeId}
  {k : FuncId} {pv : List AV} {p0 : Prg × Nat → Prop} {i p : Nat} {bs : List UInt8} (h : MC P k (.optr 0 0 :: pv) [(0, some (fN bs p))] 1 p0 (fun x => dM x.1) (fun x => [(0, some (fN bs x.2))])) [hc : CaT P k] (ha : evL (lk ts) args.toList = some (.optr i 0 :: pv)) (hpv : c9 pv = true)
  (hH : cK hs i = some (fN bs p)) (hM : Nat.ble (n + 0) eR = true) (hN : Nat.blt d N = true) (kk : ∀ x, p0 x → RW P N all Q .txt rest ⟨(d, dM x.1) :: ts, (i, some (fN bs x.2)) :: hs, n + 0, z0⟩) :
  RW P N all Q .txt (⟨some d, .call ⟨.value (.func k), args, tys⟩, ty, pos, af, none⟩ :: rest) ⟨ts, hs, n, z0⟩ :=
 Gn (σ := Prg × Nat) [i] 1 (fun x : Prg × Nat => [(i, some (fN bs x.2))]) h ha rfl ⟨⟨_, _, rfl, hH, RnL.purI inferInstance⟩, trivial⟩ rfl (RnL.cons (RnV.optr rfl) (RnL.pur hpv)) (by simpa using hM)
  (fun x _ => RnV.purI inferInstance) (fun x _ => by simp [dI]) (fun x _ => ⟨⟨0, _, rfl, rfl, RnL.purI inferInstance⟩, trivial⟩) hN kk
theorem EN (bs : List UInt8) (p : Nat) (xs : List Int) (lo hi : Int) (h0 : 0 < xs.length) (h : xs.all (fun x => decide (lo ≤ x) && decide (x ≤ hi)) = true) : lo ≤ jE bs p xs ∧ jE bs p xs ≤ hi := by
 have h1 := gH bs p (xs.length : Int)
 rw [kJ] at h
 have := h (cX bs p (xs.length : Int)).toNat (by omega)
 simp only [Bool.and_eq_true, decide_eq_true_eq] at this
 exact this
theorem KO (bs : List UInt8) (p : Nat) (hb : bs.length ≤ 2000) (hp : p ≤ 1000) : MC Tryz.prog 81 [.optr 0 0] [(0, some (fN bs p))] 1 (fun x : Prg × Nat => cA x.1.body ≤ 620 ∧ x.1.types.length ≤ 620 ∧ x.2 ≤ 2000) (fun x => dM x.1) (fun x => [(0, some (fN bs x.2))]) := by
 have h0 := gH bs p 25
 have hn := EN bs (p + 1 + 1) [5, 4, 7, 3, 8] 0 8 (by decide) (by decide)
 (refine bX Tryz.func81 rfl (by simp [Tryz.ntmps81]) ?_; rw [Tryz.ntmps81])
 repeat' (first|(apply aK;first|((with_reducible apply jL (k := 126));(case ha => rfl);(case h => exact DE);(case hp => (rfl));(case hN => rfl);(rintro _ ⟨ys, rfl, hyl, hsz⟩ _);(have hpk := gH bs p (ys.length : Int)))|((with_reducible apply jL (k := 127));(case ha => rfl);(case h => exact uI _ (Nat.le_trans (hsz _) (by decide)));(case hp => (rfl));(case hN => rfl);(rintro _ ⟨q, b, rfl, hqc, hqt⟩ _))|((apply v8 (ts := [1, 2, 2, 3, 4, 4]));(case ha0|ha1|ha2|ha3|hH0 => rfl);(case hmc => (apply Fw <;> (first|assumption|omega)));(case hM|hN => rfl))|(apply aE;rfl;rfl)|(first|(apply aN;rfl;rfl;rfl;rfl)|(apply aV;rfl;rfl;(exact (rfl:_=[_, _]));rfl;rfl;rfl))|(apply aD;rfl;rfl;rfl)|(first|(apply a6;rfl;rfl;rfl;(assumption))|(apply bB;rfl;rfl;rfl;(assumption))|(apply bR;(case hj|hb|hN => rfl);all_goals (intro hg;have hq := hg;(try simp only [cH] at hq);(try (exfalso;omega)))))|(apply aU;rfl;rfl;rfl;rfl)|(apply aC;rfl;rfl)|(first|(apply bU;rfl;(assumption);rfl;rfl)|(apply bG;rfl;(assumption);rfl;rfl))|(apply cP;(case hx|hi => rfl);(case hm => (omega));(case hml => (rfl));(case hα | hf|hg => infer_instance);(case hN => rfl))|(first|(apply xU;rfl;rfl;rfl;rfl;infer_instance;rfl;(rfl);assumption;omega;(decide);(decide);rfl;rfl)|(apply m5;rfl;rfl;(rfl);(apply pV <;> (first|assumption|omega));rfl;rfl))|(apply bQ;rfl;rfl;rfl)|(apply aF;kernel_rfl)|(apply cC;rfl;(exact (rfl:_=some [_, _]));(exact (rfl:_=[_, _]));rfl)|(apply bD;rfl;rfl)|(apply bC;rfl;rfl;rfl)|((apply bF (t := _));(case hze|hsm|hl => rfl);(case hfl => (exact (rfl:_=some [_, _, _, _, _, _])));(case hM|hN => rfl))|(apply b0;rfl;rfl;rfl;(exact (rfl:_=some [_, _, _, _, _]));rfl;rfl)|(apply aW;rfl;rfl;rfl;rfl;rfl;(case hl => (first|decide|(simp;done)));(exact (rfl:_=[_, _]))))|(apply aL;first|apply aH|apply aB|(apply b9;kernel_rfl)|(apply bZ;rfl;(rfl))|(apply aP;rfl;all_goals intro hc;have hq:=hc;(try simp only [cH] at hq);try exfalso;omega)|apply aT|apply aQ)|with_reducible apply aA|with_reducible apply bE)
 ·have h9 := hsz (cX bs p (ys.length : Int)).toNat
  refine aO rfl ?_
  exact bV (q, p + 1 + 1) ⟨by dsimp only;omega, by dsimp only;omega, by dsimp only;omega⟩ rfl ⟨.inr rfl, trivial⟩
 ·have h9 := H5 bs (d := 2) (by omega) (jE bs (p + 1 + 1) [5, 4, 7, 3, 8]) (p + 1 + 1 + 1)
  have h10 := xG bs (d := 2) (by omega) (jE bs (p + 1 + 1) [5, 4, 7, 3, 8]) (p + 1 + 1 + 1)
  refine aO rfl ?_
  exact bV ((⟨[1, 2, 2, 3, 4, 4], (eO bs 2 (jE bs (p + 1 + 1) [5, 4, 7, 3, 8]) (p + 1 + 1 + 1)).1⟩ : Prg), (eO bs 2 (jE bs (p + 1 + 1) [5, 4, 7, 3, 8]) (p + 1 + 1 + 1)).2) ⟨by dsimp only;omega, by show 6 ≤ 620;decide, by dsimp only;omega⟩ rfl ⟨.inr rfl, trivial⟩
 ·have h9 := hsz (cX bs p (ys.length : Int)).toNat
  refine aO rfl ?_
  exact bV (q, p + 1 + 1) ⟨by dsimp only;omega, by dsimp only;omega, by dsimp only;omega⟩ rfl ⟨.inr rfl, trivial⟩
theorem Ca {bs : List UInt8} {N : Nat} {Q : Exit → AS → Prop} {all : Array Oper} {rest : List Oper} {tsl : List (Nat × AV)} {hsl : List (Nat × Option (List AV))} {nidl : Nat} {z0 : Lo} {md : Md} {d : Nat} {ty : TypeId} {pos : String} {af : Array Edge} {tys : Array TypeId} {x0 : Operand} (ha0 : ev (lk tsl) x0 = some (sl cU bs)) (hmc : MC Tryz.prog 79 [sl cU bs] [] 0 (fun _ : Unit => True) (fun _ => .optr 0 0) (fun _ => [(0, some (fN (bs.take 2000) 0))])) (hM : Nat.ble (nidl + 1) eR = true) (hN : Nat.blt d N = true) {md' : Md} [hmd : MdA md (gL [x0] ++ []) (List.map Sum.inr (List.map Prod.fst ([(nidl, some (fN (bs.take 2000) 0))] : List (Nat × Option (List AV)))) ++ [.inl d]) md'] (kk : RW Tryz.prog N all Q md' rest ⟨(d, .optr nidl 0) :: tsl, iF hsl [(nidl, some (fN (bs.take 2000) 0))], nidl + 1, z0⟩) : RW Tryz.prog N all Q md (⟨some d, .call ⟨.value (.func 79), #[x0], tys⟩, ty, pos, af, none⟩ :: rest) ⟨tsl, hsl, nidl, z0⟩ := by
 refine cB [] 1 [(nidl, some (fN (bs.take 2000) 0))] hmc (avs := [sl cU bs]) ?_ rfl ?_ rfl ?_ (by simpa using hM) ?_ ?_ ?_ hN (md' := md') (hmd := hmd) kk
 ·show evL (lk tsl) [x0] = _
  simp only [evL, ha0]
 ·exact trivial
 ·(repeat' (exact RnL.purI inferInstance))
 ·(repeat' (exact RnV.optr rfl))
 ·simp [dI]
 ·(repeat' (first|exact trivial|(refine And.intro ⟨0, _, rfl, rfl, ?_⟩ ?_)|exact RnL.purI inferInstance))
theorem EA (bs : List UInt8) (hb : bs.length ≤ 1048576) : MC Tryz.prog 79 [sl cU bs] [] 0 (fun _ : Unit => True) (fun _ => .optr 0 0) (fun _ => [(0, some (fN (bs.take 2000) 0))]) := KS bs hb
theorem Ex (p : Prg) (hv : c8 p = false) (hl : p.types.length ≤ 1000000) (hs : cA p.body ≤ 1000000) : PC Tryz.prog 32 [dM p] (fun r => r = sl pG []) := by
 (refine aS Tryz.func32 rfl (by simp [Tryz.ntmps32]) ?_; rw [Tryz.ntmps32])
 repeat' (first|(apply aK;first|((with_reducible apply aJ (k := 62));(case ha => rfl);(case h => exact (by have := kW p hl hs;rw [if_neg (by simp [hv])] at this;exact this));(case hp => (exact Pur.pf));(case hN => rfl))|(apply aE;rfl;rfl)|(apply aV;rfl;rfl;(exact (rfl:_=[_, _]));rfl;rfl;rfl)|(apply aC;rfl;rfl)|(apply aF;kernel_rfl)|(apply cF;rfl;rfl)|(apply bH;rfl;rfl;rfl;rfl)|(apply bC;rfl;rfl;rfl))|(apply aL;first|apply aH|apply aB|(apply bZ;rfl;(rfl))|apply aQ)|with_reducible apply aA|with_reducible apply bE)
 (refine cE (Le.nilImm (d := 2) rfl) ?_; refine aO rfl ?_)
 exact ⟨rfl, rfl⟩
theorem qF (p : Prg) (L : List Iss) (hl : p.types.length ≤ 1000000) (hs : cA p.body ≤ 1000000) (hC : PC Tryz.prog 32 [dM p] (fun r => r = sl pG L)) : PC Tryz.prog 15 [dM p] (fun r => r = bv (c8 p && L.isEmpty)) := by
 (refine aS Tryz.func15 rfl (by simp [Tryz.ntmps15]) ?_; rw [Tryz.ntmps15])
 repeat' (first|(apply aK;first|((with_reducible apply aJ (k := 32));(case ha => rfl);(case h => exact hC);(case hp => (exact Pur.pf));(case hN => rfl))|(apply aE;rfl;rfl)|(apply aV;rfl;rfl;(exact (rfl:_=[_, _]));rfl;rfl;rfl)|(first|(apply a6;rfl;rfl;rfl;(assumption))|(apply bB;rfl;rfl;rfl;(assumption))|(apply bR;(case hj|hb|hN => rfl);all_goals (intro hg;have hq := hg;(try simp only [cH] at hq);(try (exfalso;omega)))))|(apply aU;rfl;rfl;rfl;rfl)|(apply aC;rfl;rfl)|(first|(apply bU;rfl;(assumption);rfl;rfl)|(apply bG;rfl;(assumption);rfl;rfl))|((with_reducible apply aJ (k := 25));(case ha => rfl);(case h => (apply l5 <;> (first|assumption|omega)));(case hp => (exact Pur.pf));(case hN => rfl))|(apply bQ;rfl;rfl;rfl)|(apply aF;kernel_rfl)|(apply bH;rfl;rfl;rfl;rfl))|(apply aL;first|apply aH|apply aB|apply aQ)|with_reducible apply aA)
 all_goals refine aO rfl ⟨?_, rfl⟩
 all_goals simp only [bW]
 ·rw [show c8 p = true by assumption]
  cases L with
  | nil => rfl
  | cons a b => simp;omega
 ·rw [show c8 p = false by assumption]; rfl
theorem AK (L : List Int) (hl : L.length ≤ 1000000) : PC Tryz.prog 28 [sl cI L, sl cI L] (fun r => r = bv true) := by
 (refine aS Tryz.func28 rfl (by simp [Tryz.ntmps28]) ?_; rw [Tryz.ntmps28])
 repeat' (first|(apply aK;first|(apply aE;rfl;rfl)|(apply aU;rfl;rfl;rfl;rfl)|(apply aC;rfl;rfl)|(apply bQ;rfl;rfl;rfl)|(apply aF;kernel_rfl))|(apply aL;first|apply aH|apply aB|(apply aP;rfl;all_goals intro hc;have hq:=hc;(try simp only [cH] at hq);try exfalso;omega)|apply aM|apply aT|apply aQ)|with_reducible apply aA|with_reducible apply bE)
 ·exact (hq trivial).elim
 refine a8 (σ := Nat) [0, 1] [(0, _), (1, _)] [] [] (fun k => [(5, iv (k : Int))]) (fun k => []) (fun k => k ≤ L.length) (fun k => L.length - k) (0) (by omega) rfl rfl (by repeat' (first|exact trivial|refine And.intro rfl ?_)) (by repeat' (exact trivial)) ?_
 rintro k hk
 repeat' (first|(apply aK;first|(apply aE;rfl;rfl)|(apply aN;rfl;rfl;rfl;rfl)|(first|(apply bS;rfl;rfl;omega;rfl)|(apply aU;rfl;rfl;rfl;rfl))|(apply aC;rfl;rfl)|(apply aZ;(case hx|hi => rfl);(case hm => (omega));(case hml => (rfl));(case hα | hf|hg => infer_instance);(case hN => rfl))|(apply bQ;rfl;rfl;rfl)|(apply aF;kernel_rfl))|(apply aL;first|apply aH|apply aB|(apply b9;kernel_rfl)|(apply aP;rfl;all_goals intro hc;have hq:=hc;(try simp only [cH] at hq);try exfalso;omega)|apply aM|apply aT|apply bK|apply aQ)|with_reducible apply aA|with_reducible apply bE|with_reducible apply bI|with_reducible apply aX|with_reducible apply cO|with_reducible apply bJ)
 ·exfalso
  simp at hq
 ·(apply dJ (k + 1); focus (refine Le.ren [] rfl (by decide) ?_ ?_ <;> repeat' (first | exact trivial | refine And.intro ⟨_, rfl, ?_⟩ ?_ | refine Or.inl ⟨?_, (by first | rfl | exact aY _ _)⟩ | rfl)))
  ·omega
  ·omega
 ·exact aO rfl ⟨rfl, rfl⟩
theorem Kw (L : List Int) (n : Int) (hl : L.length ≤ 1000000) : PC Tryz.prog 29 [sl cI L, iv n] (fun r => r = bv (decide (n ∈ L))) := by
 (refine aS Tryz.func29 rfl (by simp [Tryz.ntmps29]) ?_; rw [Tryz.ntmps29])
 repeat' (first|(apply aK;first|(apply aC;rfl;rfl)|(apply aF;kernel_rfl))|(apply aL;first|apply aH|apply aB|apply aM)|with_reducible apply aA)
 refine a8 (σ := Nat) [0, 1] [(0, _), (1, _)] [] [] (fun k => [(5, iv (k : Int))]) (fun k => []) (fun k => k ≤ L.length ∧ ∀ j, j < k → L[j]! ≠ n) (fun k => L.length - k) (0) ⟨by omega, by omega⟩ rfl rfl (by repeat' (first|exact trivial|refine And.intro rfl ?_)) (by repeat' (exact trivial)) ?_
 rintro k ⟨hk, hall⟩
 repeat' (first|(apply aK;first|(apply aE;rfl;rfl)|(apply aN;rfl;rfl;rfl;rfl)|(first|(apply bS;rfl;rfl;omega;rfl)|(apply aU;rfl;rfl;rfl;rfl))|(apply aC;rfl;rfl)|(apply aZ;(case hx|hi => rfl);(case hm => (omega));(case hml => (rfl));(case hα | hf|hg => infer_instance);(case hN => rfl))|(apply bQ;rfl;rfl;rfl)|(apply aF;kernel_rfl))|(apply aL;first|apply aH|apply aB|(apply aP;rfl;all_goals intro hc;have hq:=hc;(try simp only [cH] at hq);try exfalso;omega)|apply aM|apply aT|apply bK|apply aQ)|with_reducible apply aA|with_reducible apply bE|with_reducible apply bI|with_reducible apply aX|with_reducible apply cO|with_reducible apply bJ)
 ·refine aO rfl ⟨?_, rfl⟩
  simp only [bW]
  rw [decide_eq_true (by have h := cJ L k (by omega);rw [hq] at h;exact h)]
 ·(apply dJ (k + 1); focus (refine Le.ren [] rfl (by decide) ?_ ?_ <;> repeat' (first | exact trivial | refine And.intro ⟨_, rfl, ?_⟩ ?_ | refine Or.inl ⟨?_, (by first | rfl | exact aY _ _)⟩ | rfl)))
  ·exact ⟨by omega, fun j hj => by
    by_cases e : j = k
    ·subst e;exact hq
    ·exact hall j (by omega)⟩
  ·omega
 ·refine aO rfl ⟨?_, rfl⟩
  simp only [bW]
  rw [decide_eq_false (fun h => by
   obtain ⟨j, hj, e⟩ := List.getElem_of_mem h
   exact hall j (by omega) (by rw [cT _ _ hj]; exact e))]
def u1 (Af : List Nat) (i loan : Int) (v : Int) : Bool := (fG Af i.toNat)[v.toNat]!.testBit loan.toNat
theorem rY {stk : List Tg} {id : Int} (h : 0 ≤ dC stk id) : ∀ k < (dC stk id).toNat, stk[k]!.id ≠ id := by
 unfold dC at h ⊢
 split
 ·rename_i k hk
  obtain ⟨h1, h2, h3⟩ := List.findIdx?_eq_some_iff_getElem.1 hk
  rw [Int.toNat_natCast]
  intro j hj he
  have := h3 j hj
  rw [cT _ _ (by omega)] at he
  simp [he] at this
 ·rename_i hk;rw [hk] at h;dsimp only at h;omega
theorem xI {stk : List Tg} {id : Int} {i : Nat} (hi : i < stk.length) (h : stk[i]!.id = id) (hn : ∀ k < i, stk[k]!.id ≠ id) : dC stk id = (i : Int) := by
 have hb := eW stk id
 by_cases hneg : dC stk id < 0
 ·have := m7.1 hneg stk[i]! (by rw [cT _ _ hi]; exact List.getElem_mem hi)
  exact absurd h this
 ·have ha := Cv (stk := stk) (id := id) (by omega)
  have hf := rY (stk := stk) (id := id) (by omega)
  rcases Nat.lt_trichotomy (dC stk id).toNat i with h1|h1|h1
  ·exact absurd ha (hn _ h1)
  ·omega
  ·exact absurd h (hf _ h1)
theorem De (stk : List Tg) (id : Int) (hl : stk.length ≤ 1000000) : PC Tryz.prog 237 [sl dK stk, iv id] (fun r => r = iv (dC stk id)) := by
 (refine aS Tryz.func237 rfl (by simp [Tryz.ntmps237]) ?_; rw [Tryz.ntmps237])
 repeat' (first|(apply aK;first|(apply aC;rfl;rfl)|(apply aF;kernel_rfl))|(apply aL;first|apply aH|apply aB|apply aM)|with_reducible apply aA)
 refine a8 (σ := Nat) [0, 1] [(0, _), (1, _)] [] [] (fun i => [(5, iv (i : Int))]) (fun i => []) (fun i => i ≤ stk.length ∧ (∀ k < i, stk[k]!.id ≠ id)) (fun i => stk.length - i) (0) ⟨Nat.zero_le _, fun k hk => absurd hk (by omega)⟩ rfl rfl (by repeat' (first|exact trivial|refine And.intro rfl ?_)) (by repeat' (exact trivial)) ?_
 rintro i ⟨hi, hn⟩
 try dsimp only at hi hn
 repeat' (first|(apply aK;first|(apply aE;rfl;rfl)|(apply aN;rfl;rfl;rfl;rfl)|(apply aD;rfl;rfl;rfl)|(first|(apply bS;rfl;rfl;omega;rfl)|(apply aU;rfl;rfl;rfl;rfl))|(apply aC;rfl;rfl)|(apply aZ;(case hx|hi => rfl);(case hm => (omega));(case hml => (rfl));(case hα | hf|hg => infer_instance);(case hN => rfl))|(apply bQ;rfl;rfl;rfl)|(apply aF;kernel_rfl))|(apply aL;first|apply aH|apply aB|(apply aP;rfl;all_goals intro hc;have hq:=hc;(try simp only [cH] at hq);try exfalso;omega)|apply aM|apply aT|apply bK|apply aQ)|with_reducible apply aA|with_reducible apply bE|with_reducible apply bI|with_reducible apply aX|with_reducible apply cO|with_reducible apply bJ)
 ·refine aO rfl ⟨?_, rfl⟩
  simp only [bW]; rw [xI (i := i) (by omega) (by assumption) hn]
 ·(apply dJ (i + 1); focus (refine Le.ren [] rfl (by decide) ?_ ?_ <;> repeat' (first | exact trivial | refine And.intro ⟨_, rfl, ?_⟩ ?_ | refine Or.inl ⟨?_, (by first | rfl | exact aY _ _)⟩ | rfl)))
  ·refine ⟨by omega, fun k hk => ?_⟩
   rcases Nat.lt_or_ge k i with h|h
   ·exact hn k h
   ·rw [show k = i by omega]; assumption
  ·show stk.length - (i + 1) < stk.length - i;omega
 ·refine aO rfl ⟨?_, rfl⟩
  have := m7 (stk := stk) (id := id)
  have hb := eW stk id
  have : dC stk id < 0 := this.2 (fun t ht => by obtain ⟨k, hk, rfl⟩ := List.getElem_of_mem ht;have := hn k (by omega);rwa [cT _ _ hk] at this)
  simp only [bW]; rw [show dC stk id = -1 by omega]
theorem o4 (c : Cl) : OkC c ↔ (0 ≤ c.val ∧ c.val ≤ 9) ∧ (1 ≤ c.next ∧ c.next ≤ 1000) ∧ (1 ≤ c.stk.length ∧ c.stk.length ≤ 200) ∧ c.stk[0]!.uq = true ∧ (∀ k < c.stk.length, 0 ≤ c.stk[k]!.id ∧ c.stk[k]!.id < c.next ∧ dC c.stk c.stk[k]!.id = (k : Int)) := by
 constructor
 ·intro h
  refine ⟨h.v, h.n, h.l, h.u, fun k hk => ?_⟩
  have h1 := h.i c.stk[k]! (by rw [cT _ _ hk]; exact List.getElem_mem hk)
  refine ⟨h1.1, h1.2, xI hk rfl (fun j hj he => ?_)⟩
  have hd := List.nodup_iff_pairwise_ne.1 h.d |> List.pairwise_iff_getElem.1
  have := hd j k (by rw [List.length_map]; omega) (by rw [List.length_map]; omega) hj
  simp only [List.getElem_map] at this
  rw [cT _ _ (by omega), cT _ _ hk] at he
  exact this he
 ·rintro ⟨h1, h2, h3, h4, h5⟩
  refine ⟨h1, h2, h3, h4, fun t ht => ?_, ?_⟩
  ·obtain ⟨k, hk, rfl⟩ := List.getElem_of_mem ht
   have := h5 k hk;rw [cT _ _ hk] at this
   exact ⟨this.1, this.2.1⟩
  ·rw [List.nodup_iff_pairwise_ne, List.pairwise_iff_getElem]
   intro i j hi hj hij he
   rw [List.length_map] at hi hj
   simp only [List.getElem_map] at he
   have a := (h5 i hi).2.2
   have b := (h5 j hj).2.2
   rw [cT _ _ hi] at a;rw [cT _ _ hj, ← he, a] at b
   omega
instance (c : Cl) : Decidable (OkC c) := decidable_of_iff _ (o4 c).symm
theorem dX (m : List Cl) : OkM m ↔ m.length ≤ 200 ∧ ∀ k < m.length, OkC m[k]! := by
 constructor
 ·exact fun h => ⟨h.l, fun k hk => h.c _ (by rw [cT _ _ hk]; exact List.getElem_mem hk)⟩
 ·exact fun h => ⟨h.1, fun c hc => by obtain ⟨k, hk, rfl⟩ := List.getElem_of_mem hc;have := h.2 k hk;rwa [cT _ _ hk] at this⟩
instance (m : List Cl) : Decidable (OkM m) := decidable_of_iff _ (dX m).symm
theorem F4 (c : Cl) : PC Tryz.prog 235 [Ml c] (fun r => r = bv (decide (OkC c))) := by
 (refine aS Tryz.func235 rfl (by simp [Tryz.ntmps235]) ?_; rw [Tryz.ntmps235])
 repeat' (first|(apply aK;first|(apply aE;rfl;rfl)|(apply aN;rfl;rfl;rfl;rfl)|(apply aD;rfl;rfl;rfl)|(first|(apply a6;rfl;rfl;rfl;(assumption))|(apply bB;rfl;rfl;rfl;(first|rfl|assumption))|(apply bR;(case hj|hb|hN => rfl);all_goals (intro hg;have hq := hg;(try simp only [cH] at hq);(try (exfalso;omega)))))|(apply aU;rfl;rfl;rfl;rfl)|(apply aC;rfl;rfl)|(first|(apply bU;rfl;(first|rfl|assumption);rfl;rfl)|(apply bG;rfl;(assumption);rfl;rfl))|(apply cP;(case hx|hi => rfl);(case hm => (omega));(case hml => (rfl));(case hα | hf|hg => infer_instance);(case hN => rfl))|(apply bQ;rfl;rfl;rfl)|(apply aF;kernel_rfl)|(apply cF;rfl;rfl)|(apply bH;rfl;rfl;rfl;rfl))|(apply aL;first|apply aH|apply aB|(apply bZ;rfl;(rfl))|(apply aP;rfl;all_goals intro hc;have hq:=hc;(try simp only [cH] at hq);try exfalso;omega)|apply aM|apply aT|apply aQ)|with_reducible apply aA|with_reducible apply bE)
 all_goals try (refine aO rfl ⟨?_, rfl⟩; simp only [bW]; rw [show decide (OkC c) = false from decide_eq_false (fun h => by
  obtain ⟨h1, h2, h3, h4, h5⟩ := (o4 c).1 h
  first|omega|exact absurd (by assumption : c.stk[Int.toNat 0]!.uq = false) (by rw [show Int.toNat 0 = 0 from rfl, h4]; decide))]; done)
 have hu : c.stk[0]!.uq = true := by assumption
 refine a8 (σ := Nat) [1] [(1, _)] [0] [(0, some _)] (fun i => [(3, iv (i : Int))]) (fun i => []) (fun i => i ≤ c.stk.length ∧ (∀ k < i, 0 ≤ c.stk[k]!.id ∧ c.stk[k]!.id < c.next ∧ dC c.stk c.stk[k]!.id = (k : Int))) (fun i => c.stk.length - i) (0) ⟨Nat.zero_le _, fun k hk => absurd hk (by omega)⟩ rfl rfl (by repeat' (first|exact trivial|refine And.intro rfl ?_)) (by repeat' (exact trivial)) ?_
 rintro i ⟨hi, hn⟩
 try dsimp only at hi hn
 repeat' (first|(apply aK;first|((with_reducible apply aJ (k := 237));(case ha => rfl);(case h => exact De c.stk c.stk[i]!.id (by omega));(case hp => (exact Pur.pf));(case hN => rfl))|(apply aE;rfl;rfl)|(apply aN;rfl;rfl;rfl;rfl)|(apply aD;rfl;rfl;rfl)|(first|(apply a6;rfl;rfl;rfl;(assumption))|(apply bB;rfl;rfl;rfl;(first|rfl|assumption))|(apply bR;(case hj|hb|hN => rfl);all_goals (intro hg;have hq := hg;(try simp only [cH] at hq);(try (exfalso;omega)))))|(first|(apply bS;rfl;rfl;omega;rfl)|(apply aU;rfl;rfl;rfl;rfl))|(apply aC;rfl;rfl)|(first|(apply bU;rfl;(first|rfl|assumption);rfl;rfl)|(apply bG;rfl;(assumption);rfl;rfl))|(apply aZ;(case hx|hi => rfl);(case hm => (omega));(case hml => (rfl));(case hα | hf|hg => infer_instance);(case hN => rfl))|(apply bQ;rfl;rfl;rfl)|(apply aF;kernel_rfl))|(apply aL;first|apply aH|apply aB|(apply b9;kernel_rfl)|(apply bZ;rfl;(rfl))|(apply aP;rfl;all_goals intro hc;have hq:=hc;(try simp only [cH] at hq);try exfalso;omega)|apply aM|apply aT|apply bK|apply aQ)|with_reducible apply aA|with_reducible apply bE|with_reducible apply bI|with_reducible apply aX|with_reducible apply cO|with_reducible apply bJ)
 all_goals try (refine aO rfl ⟨?_, rfl⟩; simp only [bW]; rw [show decide (OkC c) = false from decide_eq_false (fun h => by
  obtain ⟨h1, h2, h3, h4, h5⟩ := (o4 c).1 h
  exact absurd (h5 i (by omega)) (by omega))]; done)
 ·(apply dJ (i + 1); focus (refine Le.ren [(0, 0)] rfl (by decide) ?_ ?_ <;> repeat' (first | exact trivial | refine And.intro ⟨_, rfl, ?_⟩ ?_ | refine And.intro ⟨_, _, rfl, rfl, ?_⟩ ?_ | exact Or.inr rfl | refine Or.inl ⟨?_, (by first | rfl | exact Pur.pf)⟩ | rfl)))
  ·refine ⟨by omega, fun k hk => ?_⟩
   rcases Nat.lt_or_ge k i with h|h
   ·exact hn k h
   ·rw [show k = i by omega]; exact ⟨by assumption, by assumption, by assumption⟩
  ·show c.stk.length - (i + 1) < c.stk.length - i;omega
 ·refine aO rfl ⟨?_, rfl⟩
  simp only [bW]
  rw [show decide (OkC c) = true from decide_eq_true ((o4 c).2 ⟨by omega, by omega, by omega, hu, fun k hk => hn k (by omega)⟩)]
theorem nJ (m : List Cl) (hl : m.length ≤ 1000000) : PC Tryz.prog 191 [sl cZ m] (fun r => r = bv (decide (OkM m))) := by
 (refine aS Tryz.func191 rfl (by simp [Tryz.ntmps191]) ?_; rw [Tryz.ntmps191])
 repeat' (first|(apply aK;first|(apply aC;rfl;rfl)|(apply aF;kernel_rfl))|(apply aL;first|apply aH|apply aB|apply aM)|with_reducible apply aA)
 refine a8 (σ := Nat) [0] [(0, _)] [] [] (fun i => [(3, iv (i : Int))]) (fun i => []) (fun i => i ≤ m.length ∧ i ≤ 201 ∧ (∀ k < i, OkC m[k]!)) (fun i => m.length - i) (0) ⟨Nat.zero_le _, by omega, fun k hk => absurd hk (by omega)⟩ rfl rfl (by repeat' (first|exact trivial|refine And.intro rfl ?_)) (by repeat' (exact trivial)) ?_
 rintro i ⟨hi, hi2, hn⟩
 try dsimp only at hi hi2 hn
 repeat' (first|(apply aK;first|((with_reducible apply aJ (k := 235));(case ha => rfl);(case h => exact F4 m[i]!);(case hp => (exact Pur.pf));(case hN => rfl))|(apply aE;rfl;rfl)|(apply aV;rfl;rfl;(exact (rfl:_=[_, _, _, _]));rfl;rfl;rfl)|(first|(apply a6;rfl;rfl;rfl;(assumption))|(apply bB;rfl;rfl;rfl;(assumption))|(apply bR;(case hj|hb|hN => rfl);all_goals (intro hg;have hq := hg;(try simp only [cH] at hq);(try (exfalso;omega)))))|(first|(apply bS;rfl;rfl;omega;rfl)|(apply aU;rfl;rfl;rfl;rfl))|(apply aC;rfl;rfl)|(first|(apply bU;rfl;(assumption);rfl;rfl)|(apply bG;rfl;(assumption);rfl;rfl))|(apply aZ;(case hx|hi => rfl);(case hm => (omega));(case hml => (rfl));(case hα | hf|hg => infer_instance);(case hN => rfl))|(apply bQ;rfl;rfl;rfl)|(apply aF;kernel_rfl)|(apply cF;rfl;rfl))|(apply aL;first|apply aH|apply aB|(apply cG;rfl;(rfl))|(apply aP;rfl;all_goals intro hc;have hq:=hc;(try simp only [cH] at hq);try exfalso;omega)|apply aM|apply aT|apply bK|apply aQ)|with_reducible apply aA|with_reducible apply bE|with_reducible apply bI|with_reducible apply aX|with_reducible apply cO|with_reducible apply bJ)
 ·refine aO rfl ⟨?_, rfl⟩
  simp only [bW]; rw [show decide (OkM m) = false from decide_eq_false (fun h => by
   have h1 := ((dX m).1 h).2 i (by omega)
   have h2 : ¬ OkC m[i]! := by assumption
   exact h2 h1)]
 ·(apply dJ (i + 1); focus (refine Le.ren [] rfl (by decide) ?_ ?_ <;> repeat' (first | exact trivial | refine And.intro ⟨_, rfl, ?_⟩ ?_ | refine Or.inl ⟨?_, (by first | rfl | exact aY _ _)⟩ | rfl)))
  ·refine ⟨by omega, by omega, fun k hk => ?_⟩
   rcases Nat.lt_or_ge k i with h|h
   ·exact hn k h
   ·rw [show k = i by omega]; assumption
  ·show m.length - (i + 1) < m.length - i;omega
 ·refine aO rfl ⟨?_, rfl⟩
  simp only [bW]
  rw [show decide ((m.length : Int) ≤ 200) = false from decide_eq_false (by omega), show decide (OkM m) = false from decide_eq_false (fun h => by have := h.l;omega)]
 ·refine aO rfl ⟨?_, rfl⟩
  simp only [bW]
  rw [show decide ((m.length : Int) ≤ 200) = decide (OkM m) from decide_eq_decide.2 ⟨fun h => (dX m).2 ⟨by omega, fun k hk => hn k (by omega)⟩, fun h => by have := h.l;omega⟩]
theorem kY (k : Int) : PC Tryz.prog 142 [iv k] (fun r => r = iv (if k = 1 then 3 else if k = 0 then 0 else 4)) := by
 (refine aS Tryz.func142 rfl (by simp [Tryz.ntmps142]) ?_; rw [Tryz.ntmps142])
 repeat' (first|(apply aK;first|(apply aE;rfl;rfl)|(apply aU;rfl;rfl;rfl;rfl)|(apply aC;rfl;rfl)|(apply aF;kernel_rfl))|(apply aL;first|apply aH|apply aB|(apply aP;rfl;all_goals intro hc;have hq:=hc;(try simp only [cH] at hq);try exfalso;omega)|apply aM|apply aT|apply aQ)|with_reducible apply aA|with_reducible apply bE|with_reducible apply aX|with_reducible apply cO|((with_reducible apply aO);case hr => rfl))
 all_goals (refine ⟨?_, rfl⟩; simp only [bW, AV.v.injEq, Value.bool.injEq, Value.int.injEq, true_and])
 all_goals grind
theorem qU (k : Int) : PC Tryz.prog 133 [iv k] (fun r => r = iv (e5 k)) := by
 (refine aS Tryz.func133 rfl (by simp [Tryz.ntmps133]) ?_; rw [Tryz.ntmps133])
 repeat' (first|(apply aK;first|(apply aE;rfl;rfl)|(apply aU;rfl;rfl;rfl;rfl)|(apply aC;rfl;rfl)|(apply aF;kernel_rfl))|(apply aL;first|apply aH|apply aB|(apply aP;rfl;all_goals intro hc;have hq:=hc;(try simp only [cH] at hq);try exfalso;omega)|apply aT|apply aQ)|with_reducible apply aA|with_reducible apply bE|((with_reducible apply aO);case hr => rfl))
 all_goals (refine ⟨?_, rfl⟩; simp only [bW, AV.v.injEq, Value.bool.injEq, Value.int.injEq, true_and])
 all_goals grind [e5]
theorem uK {xs : List Tg} {m : Nat} {a : Int} {b : Bool} (hm : m = xs.length) : ((aI dK xs).drop 0).take (m * 2) ++ [iv a, bv b] = aI dK (xs ++ [⟨a, b⟩]) := gI hm rfl
theorem Ht {xs : List Cl} {m : Nat} {a c : Int} {b : Bool} {s : List Tg} (hm : m = xs.length) : ((aI cZ xs).drop 0).take (m * 4) ++ [iv a, bv b, iv c, sl dK s] = aI cZ (xs ++ [⟨a, b, c, s⟩]) := gI hm rfl
theorem kC {α : Type} [Inhabited α] (l : List α) {k i : Nat} (h : k ≤ i) (hi : i < l.length) : (l.drop k).take (i + 1 - k) = (l.drop k).take (i - k) ++ [l[i]!] := by
 have hl : i - k < (l.drop k).length := by rw [List.length_drop]; omega
 have h1 := c6 (l.drop k) (i - k) hl
 rw [show i + 1 - k = i - k + 1 by omega, h1]
 congr 2
 rw [cT (l.drop k) (i - k) hl, List.getElem_drop, cT l i hi]
 congr 1;omega
theorem pM {α} {p : α → Bool} {a : α} (h : p a = true) : [a].filter p = [a] := by simp [h]
theorem nE {α} {p : α → Bool} {a : α} (h : p a = false) : [a].filter p = [] := by simp [h]
theorem G5 (stk : List Tg) (k : Nat) (hk : k < stk.length) (hl : stk.length ≤ 1000000) : PC Tryz.prog 196 [sl dK stk, iv (k : Int)] (fun r => r = sl dK (fP stk k false)) := by
 have e1 : List.take (((k : Int) + 1).toNat - 0) (List.drop 0 stk) = stk.take (k + 1) := by rw [List.drop_zero]; congr 1
 have e2 : (stk.take (k + 1)).length = k + 1 := by rw [List.length_take]; omega
 (refine aS Tryz.func196 rfl (by simp [Tryz.ntmps196]) ?_; rw [Tryz.ntmps196])
 repeat' (first|(apply aK;first|(with_reducible apply cS (d := 12))|(apply aE;rfl;rfl)|(apply bS;rfl;rfl;omega;rfl)|(apply aC;rfl;rfl)|(apply aF;kernel_rfl)|(apply jP;rfl;infer_instance;rfl;rfl;(omega);rfl)|(apply b0;rfl;rfl;rfl;(rfl);rfl;rfl))|(apply aL;first|apply aH|apply aB)|with_reducible apply aA)
 refine dV ?_
 rw [e1]
 repeat' (first|(apply aK;first|(apply aE;rfl;rfl)|(apply bS;rfl;rfl;omega;rfl)|(apply aC;rfl;rfl)|(apply bY;rfl;rfl;rfl;rfl;rfl;(case hl => (simp [aR]; done));(exact jC (by (rfl)));omega;omega;(exact e7 (by (omega)));rfl;rfl)|(apply aF;kernel_rfl))|(apply aL;first|apply aH|apply aB|apply aM)|with_reducible apply aA)
 refine a8 (σ := Nat × List Tg × Nat) [0] [(0, _)] [] [] (fun s => [(6, iv (s.1 : Int)), (5, .own 1 0 s.2.2 2)]) (fun s => [(1, some (aI dK s.2.1))]) (fun s => k + 1 ≤ s.1 ∧ s.1 ≤ stk.length ∧ s.2.1 = stk.take (k + 1) ++ ((stk.drop (k + 1)).take (s.1 - (k + 1))).filter (fun t => !t.uq) ∧ s.2.2 = s.2.1.length ∧ s.2.2 ≤ s.1) (fun s => stk.length - s.1) (k + 1, stk.take (k + 1), 0 + (stk.take (k + 1)).length) ⟨Nat.le_refl _, by dsimp only;omega, by simp, by dsimp only;omega, by dsimp only;omega⟩ rfl rfl (by repeat' (first|exact trivial|refine And.intro rfl ?_)) (by repeat' (first|exact trivial|refine And.intro (.inr rfl) ?_)) ?_
 rintro ⟨i, xs, n⟩ ⟨hki, hi, hxs, hn, hni⟩
 dsimp only at hki hi hxs hn hni ⊢
 repeat' (first|(apply aK;first|(apply aE;rfl;rfl)|(first|(apply aN;rfl;rfl;rfl;rfl)|(apply aV;rfl;rfl;(exact (rfl:_=[_, _]));rfl;rfl;rfl))|(apply aD;rfl;rfl;rfl)|(first|(apply bS;rfl;rfl;omega;rfl)|(apply aU;rfl;rfl;rfl;rfl))|(apply aC;rfl;rfl)|(apply aZ;(case hx|hi => rfl);(case hm => (omega));(case hml => (rfl));(case hα | hf|hg => infer_instance);(case hN => rfl))|(first|(apply bQ;rfl;rfl;rfl)|(apply bY;rfl;rfl;rfl;rfl;rfl;(rw [aR]; omega);(rfl);omega;omega;(exact uK (by (assumption)));rfl;rfl))|(apply aF;kernel_rfl)|(apply cF;rfl;rfl)|((apply bF (t := _));(case hze|hsm|hl => rfl);(case hfl => (exact (rfl:_=some [_, _])));(case hM|hN => rfl)))|(apply aL;first|apply aH|apply aB|(apply aP;rfl;all_goals intro hc;have hq:=hc;(try simp only [cH] at hq);try exfalso;omega)|apply aM|apply aT|apply bK|apply aQ)|with_reducible apply aA|with_reducible apply bI|with_reducible apply aX|with_reducible apply bJ)
 ·(apply dJ (i + 1, _, _); focus (refine Le.ren [(1, 3)] rfl (by decide) ?_ ?_ <;> repeat' (first | exact trivial | refine And.intro ⟨_, rfl, ?_⟩ ?_ | refine And.intro ⟨_, _, rfl, rfl, ?_⟩ ?_ | exact Or.inr rfl | refine Or.inl ⟨?_, (by first | rfl | exact aY _ _)⟩ | rfl)))
  ·refine ⟨by dsimp only; omega, by dsimp only; omega, ?_, by dsimp only; rw [List.length_append, hn]; rfl, by dsimp only; omega⟩
   dsimp only
   rw [hxs, kC stk hki (by omega), List.filter_append, List.append_assoc]
   congr 2
   have hu : stk[i]!.uq = false := by assumption
   rw [pM (by rw [hu]; rfl)]
  ·dsimp only;omega
 ·(apply dJ (i + 1, xs, n); focus (refine Le.ren [(1, 1)] rfl (by decide) ?_ ?_ <;> repeat' (first | exact trivial | refine And.intro ⟨_, rfl, ?_⟩ ?_ | refine And.intro ⟨_, _, rfl, rfl, ?_⟩ ?_ | exact Or.inr rfl | refine Or.inl ⟨?_, (by first | rfl | exact aY _ _)⟩ | rfl)))
  ·refine ⟨by dsimp only; omega, by dsimp only; omega, ?_, hn, by dsimp only; omega⟩
   dsimp only
   have hu : stk[i]!.uq = true := by assumption
   rw [hxs, kC stk hki (by omega), List.filter_append, nE (by rw [hu]; rfl), List.append_nil]
  ·dsimp only;omega
 ·(refine cE (Le.frzD (d := 4) (i := 1) rfl rfl) ?_; refine aO rfl ?_)
  refine ⟨?_, (by (exact aY _ _))⟩
  have hie : i = stk.length := by omega
  simp only [bW, sl]
  have hd : (stk.drop (k + 1)).take (stk.length - (k + 1)) = stk.drop (k + 1) := List.take_of_length_le (by rw [List.length_drop]; exact Nat.le_refl _)
  rw [hn, hxs, hie, hd]
  rfl
theorem Fm (m : List Cl) (hm : OkM m) : PC Tryz.prog 192 [sl cZ m] (fun r => r = sl cZ m) := by
 have hml := hm.l
 (refine aS Tryz.func192 rfl (by simp [Tryz.ntmps192]) ?_; rw [Tryz.ntmps192])
 repeat' (first|(apply aK;first|(apply aC;rfl;rfl)|(apply aF;kernel_rfl)|(apply b0;rfl;rfl;rfl;(rfl);rfl;rfl))|(apply aL;first|apply aH|apply aB|apply aM)|with_reducible apply aA)
 refine a8 (σ := Nat × List Cl) [0] [(0, _)] [] [] (fun k => [(4, iv (k.1 : Int)), (3, .own 0 0 k.1 4)]) (fun k => [(0, some (aI cZ k.2))]) (fun k => k.1 ≤ m.length ∧ k.2 = m.take k.1) (fun k => m.length - k.1) (0, []) ⟨by omega, rfl⟩ rfl rfl (by repeat' (first|exact trivial|refine And.intro rfl ?_)) (by repeat' (first|exact trivial|refine And.intro (.inr rfl) ?_)) ?_
 rintro ⟨i, xs⟩ ⟨hi, hxs⟩
 dsimp only at hi hxs ⊢
 have hln : xs.length = i := by rw [hxs, List.length_take]; exact Nat.min_eq_left hi
 have hst : i < m.length → m[i]!.stk.length ≤ 200 := fun h => (((dX m).1 hm).2 i h).l.2
 repeat' (first|(apply aK;first|(with_reducible apply cS (d := 21))|(apply aE;rfl;rfl)|(first|(apply aN;rfl;rfl;rfl;rfl)|(apply aV;rfl;rfl;(exact (rfl:_=[_, _, _, _]));rfl;rfl;rfl))|(apply aD;rfl;rfl;rfl)|(apply aU;rfl;rfl;rfl;rfl)|(apply aC;rfl;rfl)|(apply aZ;(case hx|hi => rfl);(case hm => (omega));(case hml => (rfl));(case hα | hf|hg => infer_instance);(case hN => rfl))|(first|(apply bQ;rfl;rfl;rfl)|(apply bY;rfl;rfl;rfl;rfl;rfl;(case hl => (simp [aR]; done));(exact jC (by (rfl)));omega;omega;(exact e7 (by (omega)));rfl;rfl))|(apply aF;kernel_rfl)|(apply bD;rfl;rfl)|(apply b0;rfl;rfl;rfl;(rfl);rfl;rfl)|(apply aW;rfl;rfl;rfl;rfl;rfl;(case hl => (simp;done));(exact (rfl:_=[_, _, _, _]))))|(apply aL;first|apply aH|apply aB|(apply aP;rfl;all_goals intro hc;have hq:=hc;(try simp only [cH] at hq);try exfalso;omega)|apply aM|apply aT|apply bK|apply aQ)|with_reducible apply aA|with_reducible apply bI|with_reducible apply bJ)
 ·refine dV (iO ?_ (Le.frzD (d := 20) (i := 3) rfl rfl))
  rw [Nat.zero_add m[i]!.stk.length]
  repeat' (first|(apply aK;first|(apply aE;rfl;rfl)|(apply aV;rfl;rfl;(exact (rfl:_=[_, _, _, _]));rfl;rfl;rfl)|(apply aD;rfl;rfl;rfl)|(apply bS;rfl;rfl;omega;rfl)|(apply aC;rfl;rfl)|(apply bY;rfl;rfl;rfl;rfl;rfl;(rw [aR]; omega);(rfl);omega;omega;(exact Ht (by (omega)));rfl;rfl)|(apply aF;kernel_rfl)|((apply bF (t := _));(case hze|hsm|hl => rfl);(case hfl => (exact (rfl:_=some [_, _, _, _])));(case hM|hN => rfl))|(apply aW;rfl;rfl;rfl;rfl;rfl;(case hl => (simp;done));(exact (rfl:_=[_, _, _, _]))))|(apply aL;(apply aB))|with_reducible apply aA|with_reducible apply aX)
  (apply dJ (i + 1, _);focus (refine Le.ren [(0, 5)] rfl (by decide) ?_ ?_ <;> repeat' (first|exact trivial|refine And.intro ⟨_, rfl, ?_⟩ ?_|refine And.intro ⟨_, _, rfl, rfl, ?_⟩ ?_|exact Or.inr rfl|refine Or.inl ⟨?_, (by first|rfl|exact aY _ _)⟩|rfl)))
  ·exact ⟨by dsimp only;omega, by dsimp only;rw [hxs, c6 m i (by omega)]⟩
  ·dsimp only;omega
 ·(refine cE (Le.frzD (d := 2) (i := 0) rfl rfl) ?_; refine aO rfl ?_)
  refine ⟨?_, (by (exact aY _ _))⟩
  have hie : i = m.length := by omega
  simp only [bW, sl]
  rw [hxs, hie, List.take_length]
theorem BB {m : List Cl} {x : Pt} {wr : Bool} (h : x.cell < 0 ∨ (m.length : Int) ≤ x.cell) : cL m x wr = 4 := by
 unfold cL;rw [if_pos (by omega)]
theorem Gf {m : List Cl} {x : Pt} {wr : Bool} (h : 0 ≤ x.cell) (h2 : x.cell < m.length) (h3 : m[x.cell.toNat]!.alive = false) : cL m x wr = 1 := by
 unfold cL;rw [if_neg (by omega), if_pos h3]
theorem E3 {m : List Cl} {x : Pt} {wr : Bool} (h : 0 ≤ x.cell) (h2 : x.cell < m.length) (h3 : m[x.cell.toNat]!.alive = true) (h4 : dC m[x.cell.toNat]!.stk x.tag < 0) : cL m x wr = 2 := by
 unfold cL;rw [if_neg (by omega), if_neg (by rw [h3]; decide), if_pos h4]
theorem rJ {m : List Cl} {x : Pt} (h : 0 ≤ x.cell) (h2 : x.cell < m.length) (h3 : m[x.cell.toNat]!.alive = true) (h4 : 0 ≤ dC m[x.cell.toNat]!.stk x.tag) : cL m x false = 0 := by
 unfold cL;rw [if_neg (by omega), if_neg (by rw [h3]; decide), if_neg (by omega), if_neg (by intro q;exact absurd q.1 (by decide))]
theorem x8 {m : List Cl} {x : Pt} : cL m x true = if cL m x false = 0 then (if m[x.cell.toNat]!.stk[(dC m[x.cell.toNat]!.stk x.tag).toNat]!.uq = false then 3 else 0) else cL m x false := by
 unfold cL
 split
 ·rw [if_neg (by decide)]
 ·split
  ·rw [if_neg (by decide)]
  ·split
   ·rw [if_neg (by decide)]
   ·rw [if_neg (c := false = true ∧ _) (by intro q; exact absurd q.1 (by decide)), if_pos rfl]
    simp only [true_and]
theorem eL {m : List Cl} {x : Pt} {wr : Bool} (h : cL m x wr = 0) : 0 ≤ x.cell ∧ x.cell < m.length ∧ m[x.cell.toNat]!.alive = true ∧ 0 ≤ dC m[x.cell.toNat]!.stk x.tag ∧ (wr = true → m[x.cell.toNat]!.stk[(dC m[x.cell.toNat]!.stk x.tag).toNat]!.uq = true) := by
 unfold cL at h
 split at h
 ·omega
 ·split at h
  ·omega
  ·split at h
   ·omega
   ·split at h
    ·omega
    ·rename_i a b c d
     refine ⟨by omega, by omega, by simpa using b, by omega, fun hw => ?_⟩
     by_cases q : m[x.cell.toNat]!.stk[(dC m[x.cell.toNat]!.stk x.tag).toNat]!.uq = false
     ·exact absurd ⟨hw, q⟩ d
     ·simpa using q
theorem fW {m : List Cl} {N : Nat} {Q : Exit → AS → Prop} {all : Array Oper} {rest : List Oper} {tsl : List (Nat × AV)} {hsl : List (Nat × Option (List AV))} {nidl : Nat} {z0 : Lo} {md : Md} {d : Nat} {ty : TypeId} {pos : String} {af : Array Edge} {tys : Array TypeId} {x0 : Operand} (ha0 : ev (lk tsl) x0 = some (sl cZ m)) (hmc : MC Tryz.prog 192 [sl cZ m] [] 0 (fun _ : Unit => True) (fun _ => .own 0 0 m.length 4) (fun _ => [(0, some (aI cZ m))])) (hM : Nat.ble (nidl + 1) eR = true) (hN : Nat.blt d N = true) {md' : Md} [hmd : MdA md (gL [x0] ++ []) (List.map Sum.inr (List.map Prod.fst ([(nidl, some (aI cZ m))] : List (Nat × Option (List AV)))) ++ [.inl d]) md'] (kk : RW Tryz.prog N all Q md' rest ⟨(d, .own nidl 0 m.length 4) :: tsl, iF hsl [(nidl, some (aI cZ m))], nidl + 1, z0⟩) : RW Tryz.prog N all Q md (⟨some d, .call ⟨.value (.func 192), #[x0], tys⟩, ty, pos, af, none⟩ :: rest) ⟨tsl, hsl, nidl, z0⟩ := by
 refine cB [] 1 [(nidl, some (aI cZ m))] hmc (avs := [sl cZ m]) ?_ rfl ?_ rfl ?_ (by simpa using hM) ?_ ?_ ?_ hN (md' := md') (hmd := hmd) kk
 ·show evL (lk tsl) [x0] = _
  simp only [evL, ha0]
 ·exact trivial
 ·(repeat' (exact RnL.purI inferInstance))
 ·(repeat' (exact RnV.own rfl))
 ·simp [dI]
 ·(repeat' (first|exact trivial|(refine And.intro ⟨0, _, rfl, rfl, ?_⟩ ?_)|exact RnL.purI inferInstance))
theorem gN (m : List Cl) (hm : OkM m) : MC Tryz.prog 192 [sl cZ m] [] 0 (fun _ : Unit => True) (fun _ => .own 0 0 m.length 4) (fun _ => [(0, some (aI cZ m))]) := by
 have hml := hm.l
 (refine bX Tryz.func192 rfl (by simp [Tryz.ntmps192]) ?_; rw [Tryz.ntmps192])
 repeat' (first|(apply aK;first|(apply aC;rfl;rfl)|(apply aF;kernel_rfl)|(apply b0;rfl;rfl;rfl;(rfl);rfl;rfl))|(apply aL;first|apply aH|apply aB|apply aM)|with_reducible apply aA)
 refine a8 (σ := Nat × List Cl) [0] [(0, _)] [] [] (fun k => [(4, iv (k.1 : Int)), (3, .own 0 0 k.1 4)]) (fun k => [(0, some (aI cZ k.2))]) (fun k => k.1 ≤ m.length ∧ k.2 = m.take k.1) (fun k => m.length - k.1) (0, []) ⟨by omega, rfl⟩ rfl rfl (by repeat' (first|exact trivial|refine And.intro rfl ?_)) (by repeat' (first|exact trivial|refine And.intro (.inr rfl) ?_)) ?_
 rintro ⟨i, xs⟩ ⟨hi, hxs⟩
 dsimp only at hi hxs ⊢
 have hln : xs.length = i := by rw [hxs, List.length_take]; exact Nat.min_eq_left hi
 have hst : i < m.length → m[i]!.stk.length ≤ 200 := fun h => (((dX m).1 hm).2 i h).l.2
 repeat' (first|(apply aK;first|(with_reducible apply cS (d := 21))|(apply aE;rfl;rfl)|(first|(apply aN;rfl;rfl;rfl;rfl)|(apply aV;rfl;rfl;(exact (rfl:_=[_, _, _, _]));rfl;rfl;rfl))|(apply aD;rfl;rfl;rfl)|(apply aU;rfl;rfl;rfl;rfl)|(apply aC;rfl;rfl)|(apply aZ;(case hx|hi => rfl);(case hm => (omega));(case hml => (rfl));(case hα | hf|hg => infer_instance);(case hN => rfl))|(first|(apply bQ;rfl;rfl;rfl)|(apply bY;rfl;rfl;rfl;rfl;rfl;(case hl => (simp [aR]; done));(exact jC (by (rfl)));omega;omega;(exact e7 (by (omega)));rfl;rfl))|(apply aF;kernel_rfl)|(apply bD;rfl;rfl)|(apply b0;rfl;rfl;rfl;(rfl);rfl;rfl)|(apply aW;rfl;rfl;rfl;rfl;rfl;(case hl => (simp;done));(exact (rfl:_=[_, _, _, _]))))|(apply aL;first|apply aH|apply aB|(apply aP;rfl;all_goals intro hc;have hq:=hc;(try simp only [cH] at hq);try exfalso;omega)|apply aM|apply aT|apply bK|apply aQ)|with_reducible apply aA|with_reducible apply bI|with_reducible apply bJ)
 ·refine dV (iO ?_ (Le.frzD (d := 20) (i := 3) rfl rfl))
  rw [Nat.zero_add m[i]!.stk.length]
  repeat' (first|(apply aK;first|(apply aE;rfl;rfl)|(apply aV;rfl;rfl;(exact (rfl:_=[_, _, _, _]));rfl;rfl;rfl)|(apply aD;rfl;rfl;rfl)|(apply bS;rfl;rfl;omega;rfl)|(apply aC;rfl;rfl)|(apply bY;rfl;rfl;rfl;rfl;rfl;(rw [aR]; omega);(rfl);omega;omega;(exact Ht (by (omega)));rfl;rfl)|(apply aF;kernel_rfl)|((apply bF (t := _));(case hze|hsm|hl => rfl);(case hfl => (exact (rfl:_=some [_, _, _, _])));(case hM|hN => rfl))|(apply aW;rfl;rfl;rfl;rfl;rfl;(case hl => (simp;done));(exact (rfl:_=[_, _, _, _]))))|(apply aL;(apply aB))|with_reducible apply aA|with_reducible apply aX)
  (apply dJ (i + 1, _);focus (refine Le.ren [(0, 5)] rfl (by decide) ?_ ?_ <;> repeat' (first|exact trivial|refine And.intro ⟨_, rfl, ?_⟩ ?_|refine And.intro ⟨_, _, rfl, rfl, ?_⟩ ?_|exact Or.inr rfl|refine Or.inl ⟨?_, (by first|rfl|exact aY _ _)⟩|rfl)))
  ·exact ⟨by dsimp only;omega, by dsimp only;rw [hxs, c6 m i (by omega)]⟩
  ·dsimp only;omega
 ·have hie : i = m.length := by omega
  (refine aO rfl ?_; refine bV () trivial ?_ ⟨.inr (Eq.trans (b := some _) rfl ?_), trivial⟩)
  ·rw [hie]; rfl
  ·rw [hxs, hie, List.take_length]
theorem k4 (m : List Cl) (hm : OkM m) (x : Pt) : PC Tryz.prog 195 [sl cZ m, nB x] (fun r => r = .tup [iv (if cL m x false = 0 then dC m[x.cell.toNat]!.stk x.tag else 0), iv (cL m x false)]) := by
 have hml := hm.l
 have hcv := nJ m (by omega)
 rw [decide_eq_true hm] at hcv
 have hst : 0 ≤ x.cell → x.cell < m.length → m[x.cell.toNat]!.stk.length ≤ 1000000 := fun h1 h2 => Nat.le_trans (((dX m).1 hm).2 x.cell.toNat (by omega)).l.2 (by decide)
 (refine aS Tryz.func195 rfl (by simp [Tryz.ntmps195]) ?_; rw [Tryz.ntmps195])
 repeat' (first|(apply aK;first|((with_reducible apply aJ (k := 191));(case ha => rfl);(case h => exact hcv);(case hp => (exact Pur.pf));(case hN => rfl))|((with_reducible apply aJ (k := 237));(case ha => rfl);(case h => exact De m[x.cell.toNat]!.stk x.tag (hst (by assumption) (by assumption)));(case hp => (exact Pur.pf));(case hN => rfl))|(apply aE;rfl;rfl)|(apply aN;rfl;rfl;rfl;rfl)|(apply aD;rfl;rfl;rfl)|(first|(apply a6;rfl;rfl;rfl;(first|rfl|assumption))|(apply bB;rfl;rfl;rfl;(assumption))|(apply bR;(case hj|hb|hN => rfl);all_goals (intro hg;have hq := hg;(try simp only [cH] at hq);(try (exfalso;omega)))))|(apply aU;rfl;rfl;rfl;rfl)|(apply aC;rfl;rfl)|(first|(apply bU;rfl;(assumption);rfl;rfl)|(apply bG;rfl;(first|rfl|assumption);rfl;rfl))|(apply cP;(case hx|hi => rfl);(case hm => (omega));(case hml => (rfl));(case hα | hf|hg => infer_instance);(case hN => rfl))|(apply bQ;rfl;rfl;rfl)|(apply aF;kernel_rfl)|(apply cF;rfl;rfl)|(apply bH;rfl;rfl;rfl;rfl))|(apply aL;first|apply aH|apply aB|(apply b9;kernel_rfl)|(apply bZ;rfl;(rfl))|(apply aP;rfl;all_goals intro hc;have hq:=hc;(try simp only [cH] at hq);try exfalso;omega)|apply aT|apply aQ)|with_reducible apply aA|with_reducible apply bE)
 all_goals (refine aO rfl ⟨?_, rfl⟩; simp only [bW])
 ·rw [BB (by omega)]; rfl
 ·rw [Gf (by assumption) (by assumption) (by assumption)]; rfl
 ·rw [E3 (by assumption) (by assumption) (by assumption) (by assumption)]; rfl
 ·rw [rJ (by assumption) (by assumption) (by assumption) (by assumption)]; rfl
 ·rw [BB (by omega)]; rfl
theorem BL {xs : List Cl} {k : Nat} {s : List Tg} (hk : k < xs.length) : iV (aI cZ xs) (0 + k * 4 + 3) [sl dK s] = aI cZ (xs.set k { xs[k]! with stk := s }) := fI hk (by simp) rfl
theorem KH {xs : List Cl} {k : Nat} {v : Int} (hk : k < xs.length) : iV (aI cZ xs) (0 + k * 4 + 0) [iv v] = aI cZ (xs.set k { xs[k]! with val := v }) := fI hk (by simp) rfl
theorem Ky {xs : List Cl} {k : Nat} {b : Bool} (hk : k < xs.length) : iV (aI cZ xs) (0 + k * 4 + 1) [.v (.bool b)] = aI cZ (xs.set k { xs[k]! with alive := b }) := fI hk (by simp) rfl
theorem fO {α : Type} {f : α → List AV} {xs : List α} {n : Nat} (h : n = xs.length) : AV.imm n (aI f xs) = sl f xs := by subst h; rfl
theorem qN (m : List Cl) (hm : OkM m) (x : Pt) : PC Tryz.prog 148 [sl cZ m, nB x] (fun r => r = .tup [sl cZ (dR m x false), iv (nK m x), iv (cL m x false)]) := by
 have hml := hm.l
 have hst : 0 ≤ x.cell → x.cell < m.length → m[x.cell.toNat]!.stk.length ≤ 1000000 := fun h1 h2 => Nat.le_trans (((dX m).1 hm).2 x.cell.toNat (by omega)).l.2 (by decide)
 by_cases hk : cL m x false = 0
 ·have hpl := k4 m hm x
  rw [if_pos hk, hk] at hpl
  obtain ⟨h1, h2, h3, h4, _⟩ := eL hk
  have hbd := eW m[x.cell.toNat]!.stk x.tag
  have hrd := G5 m[x.cell.toNat]!.stk (dC m[x.cell.toNat]!.stk x.tag).toNat (by omega) (hst h1 h2)
  rw [Int.toNat_of_nonneg h4] at hrd
  (refine aS Tryz.func148 rfl (by simp [Tryz.ntmps148]) ?_; rw [Tryz.ntmps148])
  repeat' (first|(apply aK;first|(apply fW;rfl;exact gN m hm;rfl;rfl)|((with_reducible apply aJ (k := 195));(case ha => rfl);(case h => exact hpl);(case hp => (exact Pur.pf));(case hN => rfl))|((with_reducible apply aJ (k := 196));(case ha => rfl);(case h => exact hrd);(case hp => (exact Pur.pf));(case hN => rfl))|(apply aE;rfl;rfl)|(first|(apply aN;rfl;rfl;rfl;rfl)|(apply aV;rfl;rfl;(exact (rfl:_=[_, _]));rfl;rfl;rfl))|(apply aD;rfl;rfl;rfl)|(apply aU;rfl;rfl;rfl;rfl)|(apply aC;rfl;rfl)|(first|(apply cP;(case hx|hi => rfl);(case hm => (omega));(case hml => (rfl));(case hα | hf|hg => infer_instance);(case hN => rfl))|(apply cQ;rfl;rfl;(omega);rfl))|(apply aF;kernel_rfl)|(apply bH;rfl;rfl;rfl;rfl)|(apply bC;rfl;rfl;rfl)|(apply aW;rfl;rfl;rfl;rfl;rfl;(rw [aR]; simp only [gA] <;> omega);(exact BL (by (omega)))))|(apply aL;first|apply aH|apply aB|(apply b9;kernel_rfl)|(apply cG;rfl;(rfl))|apply aT|apply aQ)|with_reducible apply aA)
  (refine cE (Le.frzD (d := 4) (i := 1) rfl rfl) ?_; refine aO rfl ?_)
  refine ⟨?_, by (exact Pur.pf)⟩
  simp only [bW]
  rw [fO (by rw [List.length_set]), hk]
  unfold dR nK;rw [if_pos hk, if_pos hk]; rfl
 ·have hpl := k4 m hm x
  rw [if_neg hk] at hpl
  (refine aS Tryz.func148 rfl (by simp [Tryz.ntmps148]) ?_; rw [Tryz.ntmps148])
  repeat' (first|(apply aK;first|(apply fW;rfl;exact gN m hm;rfl;rfl)|((with_reducible apply aJ (k := 195));(case ha => rfl);(case h => exact hpl);(case hp => (exact Pur.pf));(case hN => rfl))|(apply aE;rfl;rfl)|(apply aV;rfl;rfl;(exact (rfl:_=[_, _]));rfl;rfl;rfl)|(apply aU;rfl;rfl;rfl;rfl)|(apply aC;rfl;rfl)|(apply aF;kernel_rfl)|(apply bH;rfl;rfl;rfl;rfl)|(apply bC;rfl;rfl;rfl))|(apply aL;first|apply aH|apply aB|(apply aP;rfl;all_goals intro hc;have hq:=hc;(try simp only [cH] at hq);try exfalso;omega)|apply aQ)|with_reducible apply aA|with_reducible apply bE)
  (refine cE (Le.frzD (d := 4) (i := 1) rfl rfl) ?_; refine aO rfl ?_)
  refine ⟨?_, by (exact Pur.pf)⟩
  simp only [bW]
  unfold dR nK;rw [if_neg hk, if_neg hk]
theorem JH {cs : List AV} {i : Nat} {c : AV} : iV cs i [c] = cs.take i ++ c :: cs.drop (i + 1) := by
 have := HN (cs := cs) (v := i) (c := c)
 rwa [Nat.zero_add, Nat.mul_one] at this
theorem Le.frzCl {ts : List (Nat × AV)} {hs : List (Nat × Option (List AV))} {n : Nat} {z0 : Lo} {j q v m : Nat} {u : List Cl} {r : List Tg} (hj : cK hs j = some (iV (aI cZ u) (0 + v * 4 + 3) [.own q 0 m 2])) (hq : cK hs q = some (aI dK r)) (hm : m = r.length) (hv : v < u.length) (hjq : j ≠ q) :
  Le ⟨ts, hs, n, z0⟩ ⟨ts, (j, some (aI cZ (u.set v { u[v]! with stk := r }))) :: (q, none) :: hs, n, z0⟩ := by
 subst hm
 have hl : (aI cZ u).length = u.length * 4 := aR cZ u
 have e := BL (s := r) hv
 rw [JH] at hj e
 have h := Le.frzC (ts := ts) (n := n) (z0 := z0) ((aI cZ u).take (0 + v * 4 + 3)) hj hq hjq
 rw [← e]; exact h
theorem mN {m : List Cl} {x : Pt} {wr : Bool} : (dR m x wr).length = m.length := by
 unfold dR;split
 ·rw [List.length_set]
 ·rfl
theorem iY {m : List Cl} {x : Pt} {N : Nat} {Q : Exit → AS → Prop} {all : Array Oper} {rest : List Oper} {tsl : List (Nat × AV)} {hsl : List (Nat × Option (List AV))} {nidl : Nat} {z0 : Lo} {md : Md} {d : Nat} {ty : TypeId} {pos : String} {af : Array Edge} {tys : Array TypeId} {x0 x1 : Operand} (ha0 : ev (lk tsl) x0 = some (sl cZ m)) (ha1 : ev (lk tsl) x1 = some (nB x)) (hmc : MC Tryz.prog 190 [sl cZ m, nB x] [] 0 (fun _ : Unit => True) (fun _ => .tup [.own 1 0 m.length 4, iv (cL m x true)]) (fun _ => [(1, some (aI cZ (dR m x true)))])) (hM : Nat.ble (nidl + 2) eR = true) (hN : Nat.blt d N = true) {md' : Md} [hmd : MdA md (gL [x0, x1] ++ []) (List.map Sum.inr (List.map Prod.fst ([((nidl + 1), some (aI cZ (dR m x true)))] : List (Nat × Option (List AV)))) ++ [.inl d]) md'] (kk : RW Tryz.prog N all Q md' rest ⟨(d, .tup [.own (nidl + 1) 0 m.length 4, iv (cL m x true)]) :: tsl, iF hsl [((nidl + 1), some (aI cZ (dR m x true)))], nidl + 2, z0⟩) : RW Tryz.prog N all Q md (⟨some d, .call ⟨.value (.func 190), #[x0, x1], tys⟩, ty, pos, af, none⟩ :: rest) ⟨tsl, hsl, nidl, z0⟩ := by
 refine cB [] 2 [((nidl + 1), some (aI cZ (dR m x true)))] hmc (avs := [sl cZ m, nB x]) ?_ rfl ?_ rfl ?_ (by simpa using hM) ?_ ?_ ?_ hN (md' := md') (hmd := hmd) kk
 ·show evL (lk tsl) [x0, x1] = _
  simp only [evL, ha0, ha1]
 ·exact trivial
 ·(repeat' (exact RnL.purI inferInstance))
 ·(repeat' (first|exact RnL.purI inferInstance|exact RnV.own rfl|refine RnL.cons ?_ ?_|refine RnV.tup ?_))
 ·simp [dI]
 ·(repeat' (first|exact trivial|(refine And.intro ⟨1, _, rfl, rfl, ?_⟩ ?_)|exact RnL.purI inferInstance))
theorem j3 (m : List Cl) (x : Pt) (hm : OkM m) : MC Tryz.prog 190 [sl cZ m, nB x] [] 0 (fun _ : Unit => True) (fun _ => .tup [.own 1 0 m.length 4, iv (cL m x true)]) (fun _ => [(1, some (aI cZ (dR m x true)))]) := by
 have hml := hm.l
 have hst : 0 ≤ x.cell → x.cell < m.length → m[x.cell.toNat]!.stk.length ≤ 200 := fun h1 h2 => (((dX m).1 hm).2 x.cell.toNat (by omega)).l.2
 have hpl := k4 m hm x
 by_cases hk : cL m x false = 0
 ·rw [if_pos hk, hk] at hpl
  obtain ⟨h1, h2, h3, h4, _⟩ := eL hk
  have hbd := eW m[x.cell.toNat]!.stk x.tag
  have hs2 := hst h1 h2
  obtain ⟨k, hkk⟩ := Int.eq_ofNat_of_zero_le h4
  rw [hkk] at hpl
  have hkn : k < m[x.cell.toNat]!.stk.length := by omega
  have hkt : (dC m[x.cell.toNat]!.stk x.tag).toNat = k := by omega
  have hwr := x8 (m := m) (x := x)
  rw [if_pos hk, hkt] at hwr
  have e1 : List.take (((k : Int) + 1).toNat - 0) (List.drop 0 m[x.cell.toNat]!.stk) = m[x.cell.toNat]!.stk.take (k + 1) := by rw [List.drop_zero]; congr 1
  have e2 : (m[x.cell.toNat]!.stk.take (k + 1)).length = k + 1 := by rw [List.length_take]; omega
  (refine bX Tryz.func190 rfl (by simp [Tryz.ntmps190]) ?_; rw [Tryz.ntmps190])
  repeat' (first|(apply aK;first|(apply fW;rfl;exact gN m hm;rfl;rfl)|((with_reducible apply aJ (k := 195));(case ha => rfl);(case h => exact hpl);(case hp => (exact Pur.pf));(case hN => rfl))|(with_reducible apply cS (d := 46))|(apply aE;rfl;rfl)|(first|(apply aN;rfl;rfl;rfl;rfl)|(apply aV;rfl;rfl;(exact (rfl:_=[_, _]));rfl;rfl;rfl))|(apply aD;rfl;rfl;rfl)|(first|(apply bS;rfl;rfl;omega;rfl)|(apply aU;rfl;rfl;rfl;rfl))|(apply aC;rfl;rfl)|(first|(apply aZ;(case hx|hi => rfl);(case hm => (assumption));(case hml => (rfl));(case hα | hf|hg => infer_instance);(case hN => rfl))|(apply cP;(case hx|hi => rfl);(case hm => (omega));(case hml => (rfl));(case hα | hf|hg => infer_instance);(case hN => rfl)))|(apply aF;kernel_rfl)|(apply jP;rfl;infer_instance;rfl;rfl;(omega);rfl)|(apply cF;rfl;rfl)|(apply bH;rfl;rfl;rfl;rfl)|(apply bC;rfl;rfl;rfl)|(apply b0;rfl;rfl;rfl;(rfl);rfl;rfl))|(apply aL;first|apply aH|apply aB|(apply b9;kernel_rfl)|(apply cG;rfl;(rfl))|(apply aP;rfl;all_goals intro hc;have hq:=hc;(try simp only [cH] at hq);try exfalso;omega)|apply aT|apply aQ)|with_reducible apply aA|with_reducible apply bE)
  ·have hu : m[x.cell.toNat]!.stk[k]!.uq = false := by assumption
   rw [if_pos hu] at hwr
   (refine aO rfl ?_; refine bV () trivial ?_ ⟨.inr (Eq.trans (b := some _) rfl ?_), trivial⟩)
   ·rw [hwr]; rfl
   ·unfold dR;rw [if_neg (by rw [hwr]; decide)]
  ·have hu : m[x.cell.toNat]!.stk[k]!.uq = true := by assumption
   rw [if_neg (by rw [hu]; decide)] at hwr
   refine dV ?_
   rw [e1]
   repeat' (first|(apply aK;first|(with_reducible apply cS (d := 49))|(apply aD;rfl;rfl;rfl)|(apply cQ;rfl;rfl;(omega);rfl)|(apply bY;rfl;rfl;rfl;rfl;rfl;(case hl => (simp [aR]; done));(exact jC (by (rfl)));omega;omega;(exact e7 (by (omega)));rfl;rfl)|(apply aF;kernel_rfl)|(apply aW;rfl;rfl;rfl;rfl;rfl;(rw [aR]; simp only [gA] <;> omega);(rfl)))|(apply aL;first|apply aH|apply aB)|with_reducible apply aA)
   refine dV (iO ?_ (Le.frzCl (j := 1) (q := 3) (v := x.cell.toNat) (u := m) (r := m[x.cell.toNat]!.stk.take (k + 1)) rfl rfl (Nat.zero_add _) (by omega) (by decide)))
   repeat' (first|(apply aK;first|(apply aE;rfl;rfl)|(apply aC;rfl;rfl)|(apply aF;kernel_rfl))|(apply aL;(apply aQ))|with_reducible apply aA)
   (refine aO rfl ?_; refine bV () trivial ?_ ⟨.inr (Eq.trans (b := some _) rfl ?_), trivial⟩)
   ·rw [hwr]; rfl
   ·unfold dR iZ fP;rw [if_pos hwr, hkt, if_pos rfl]
 ·rw [if_neg hk] at hpl
  have hk2 : cL m x true = cL m x false := by rw [x8, if_neg hk]
  (refine bX Tryz.func190 rfl (by simp [Tryz.ntmps190]) ?_; rw [Tryz.ntmps190])
  repeat' (first|(apply aK;first|(apply fW;rfl;exact gN m hm;rfl;rfl)|((with_reducible apply aJ (k := 195));(case ha => rfl);(case h => exact hpl);(case hp => (exact Pur.pf));(case hN => rfl))|(apply aE;rfl;rfl)|(apply aV;rfl;rfl;(exact (rfl:_=[_, _]));rfl;rfl;rfl)|(apply aU;rfl;rfl;rfl;rfl)|(apply aC;rfl;rfl)|(apply aF;kernel_rfl)|(apply bH;rfl;rfl;rfl;rfl)|(apply bC;rfl;rfl;rfl))|(apply aL;first|apply aH|apply aB|(apply aP;rfl;all_goals intro hc;have hq:=hc;(try simp only [cH] at hq);try exfalso;omega)|apply aQ)|with_reducible apply aA|with_reducible apply bE)
  (refine aO rfl ?_; refine bV () trivial ?_ ⟨.inr (Eq.trans (b := some _) rfl ?_), trivial⟩)
  ·rw [hk2]; rfl
  ·unfold dR;rw [if_neg (by rw [hk2]; exact hk)]
theorem set_set {α : Type} {l : List α} {i : Nat} {a b : α} : (l.set i a).set i b = l.set i b := by simp
theorem lS {α : Type} [Inhabited α] {l : List α} {i : Nat} {a : α} (h : i < l.length) : (l.set i a)[i]! = a := by rw [cT _ _ (by rw [List.length_set]; exact h), List.getElem_set_self]
theorem x5 (m : List Cl) (hm : OkM m) (x : Pt) (v : Int) : PC Tryz.prog 149 [sl cZ m, nB x, iv v] (fun r => r = .tup [sl cZ (nQ m x v), iv (o5 m x v)]) := by
 have hml := hm.l
 have hlt := mN (m := m) (x := x) (wr := true)
 have hin := eL (m := m) (x := x) (wr := true)
 by_cases hv : 0 ≤ v ∧ v ≤ 9
 ·have hwk : o5 m x v = cL m x true := by unfold o5; rw [if_pos hv]
  by_cases hk : cL m x true = 0
  ·obtain ⟨h1, h2, _⟩ := hin hk
   (refine aS Tryz.func149 rfl (by simp [Tryz.ntmps149]) ?_; rw [Tryz.ntmps149])
   repeat' (first|(apply aK;first|(apply iY;rfl;rfl;exact j3 m x hm;rfl;rfl)|(apply aE;rfl;rfl)|(first|(apply aN;rfl;rfl;rfl;rfl)|(apply aV;rfl;rfl;(exact (rfl:_=[_, _]));rfl;rfl;rfl))|(apply aD;rfl;rfl;rfl)|(first|(apply a6;rfl;rfl;rfl;(assumption))|(apply bR;(case hj|hb|hN => rfl);all_goals (intro hg;have hq := hg;(try simp only [cH] at hq);(try (exfalso;omega)))))|(apply aU;rfl;rfl;rfl;rfl)|(apply aC;rfl;rfl)|(apply bG;rfl;(assumption);rfl;rfl)|(apply cQ;rfl;rfl;(omega);rfl)|(apply aF;kernel_rfl)|(apply bH;rfl;rfl;rfl;rfl)|(apply bC;rfl;rfl;rfl)|(apply aW;rfl;rfl;rfl;rfl;rfl;(rw [aR]; simp only [gA] <;> omega);(exact KH (by (omega)))))|(apply aL;first|apply aH|apply aB|(apply aP;rfl;all_goals intro hc;have hq:=hc;(try simp only [cH] at hq);try exfalso;omega)|apply aT|apply aQ)|with_reducible apply aA)
   (refine cE (Le.frzD (d := 6) (i := 2) rfl rfl) ?_; refine aO rfl ?_)
   refine ⟨?_, by (exact Pur.pf)⟩
   simp only [bW]
   rw [fO (by rw [List.length_set, hlt]), hwk]
   unfold nQ dR;rw [if_pos hk, if_pos (by rw [hwk]; exact hk), lS (by omega), set_set]
  ·(refine aS Tryz.func149 rfl (by simp [Tryz.ntmps149]) ?_; rw [Tryz.ntmps149])
   repeat' (first|(apply aK;first|(apply iY;rfl;rfl;exact j3 m x hm;rfl;rfl)|(apply aE;rfl;rfl)|(apply aV;rfl;rfl;(exact (rfl:_=[_, _]));rfl;rfl;rfl)|(first|(apply a6;rfl;rfl;rfl;(assumption))|(apply bR;(case hj|hb|hN => rfl);all_goals (intro hg;have hq := hg;(try simp only [cH] at hq);(try (exfalso;omega)))))|(apply aU;rfl;rfl;rfl;rfl)|(apply aC;rfl;rfl)|(apply bG;rfl;(assumption);rfl;rfl)|(apply aF;kernel_rfl)|(apply bH;rfl;rfl;rfl;rfl)|(apply bC;rfl;rfl;rfl))|(apply aL;first|apply aH|apply aB|(apply aP;rfl;all_goals intro hc;have hq:=hc;(try simp only [cH] at hq);try exfalso;omega)|apply aT|apply aQ)|with_reducible apply aA)
   (refine cE (Le.frzD (d := 6) (i := 2) rfl rfl) ?_; refine aO rfl ?_)
   refine ⟨?_, by (exact Pur.pf)⟩
   simp only [bW]
   rw [fO (by rw [hlt]), hwk]
   unfold nQ dR;rw [if_neg hk, if_neg (by rw [hwk]; exact hk)]
 ·have hwk : o5 m x v = 4 := by unfold o5; rw [if_neg hv]
  have e : nQ m x v = m := by unfold nQ;rw [if_neg (by rw [hwk]; decide)]
  (refine aS Tryz.func149 rfl (by simp [Tryz.ntmps149]) ?_; rw [Tryz.ntmps149])
  repeat' (first|(apply aK;first|(apply fW;rfl;exact gN m hm;rfl;rfl)|(apply aE;rfl;rfl)|(first|(apply a6;rfl;rfl;rfl;(assumption))|(apply bB;rfl;rfl;rfl;(assumption))|(apply bR;(case hj|hb|hN => rfl);all_goals (intro hg;have hq := hg;(try simp only [cH] at hq);(try (exfalso;omega)))))|(apply aU;rfl;rfl;rfl;rfl)|(apply aC;rfl;rfl)|(first|(apply bU;rfl;(assumption);rfl;rfl)|(apply bG;rfl;(assumption);rfl;rfl))|(apply aF;kernel_rfl)|(apply bH;rfl;rfl;rfl;rfl))|(apply aL;first|apply aH|apply aB|(apply bZ;rfl;(rfl))|(apply aP;rfl;all_goals intro hc;have hq:=hc;(try simp only [cH] at hq);try exfalso;omega)|apply aQ)|with_reducible apply aA|with_reducible apply bE)
  all_goals (try (exfalso;omega))
  all_goals (
   (refine cE (Le.frzD (d := 6) (i := 1) rfl rfl) ?_; refine aO rfl ?_)
   refine ⟨?_, by (exact Pur.pf)⟩
   simp only [bW]
   rw [e, hwk])
theorem l7 (m : List Cl) (hm : OkM m) (x : Pt) : PC Tryz.prog 141 [sl cZ m, nB x] (fun r => r = .tup [sl cZ (hZ m x), iv (cL m x true)]) := by
 have hml := hm.l
 have hlt := mN (m := m) (x := x) (wr := true)
 have hin := eL (m := m) (x := x) (wr := true)
 by_cases hk : cL m x true = 0
 ·obtain ⟨h1, h2, _⟩ := hin hk
  (refine aS Tryz.func141 rfl (by simp [Tryz.ntmps141]) ?_; rw [Tryz.ntmps141])
  repeat' (first|(apply aK;first|(apply iY;rfl;rfl;exact j3 m x hm;rfl;rfl)|(apply aE;rfl;rfl)|(first|(apply aN;rfl;rfl;rfl;rfl)|(apply aV;rfl;rfl;(exact (rfl:_=[_, _]));rfl;rfl;rfl))|(apply aD;rfl;rfl;rfl)|(apply aU;rfl;rfl;rfl;rfl)|(apply aC;rfl;rfl)|(apply cQ;rfl;rfl;(omega);rfl)|(apply aF;kernel_rfl)|(apply bH;rfl;rfl;rfl;rfl)|(apply bC;rfl;rfl;rfl)|(apply aW;rfl;rfl;rfl;rfl;rfl;(rw [aR]; simp only [gA] <;> omega);(exact Ky (by (omega)))))|(apply aL;first|apply aH|apply aB|(apply aP;rfl;all_goals intro hc;have hq:=hc;(try simp only [cH] at hq);try exfalso;omega)|apply aQ)|with_reducible apply aA)
  (refine cE (Le.frzD (d := 4) (i := 2) rfl rfl) ?_; refine aO rfl ?_)
  refine ⟨?_, by (exact Pur.pf)⟩
  simp only [bW]
  rw [fO (by rw [List.length_set, hlt])]
  unfold hZ dR;rw [if_pos hk, if_pos hk, lS (by omega), set_set]
 ·(refine aS Tryz.func141 rfl (by simp [Tryz.ntmps141]) ?_; rw [Tryz.ntmps141])
  repeat' (first|(apply aK;first|(apply iY;rfl;rfl;exact j3 m x hm;rfl;rfl)|(apply aE;rfl;rfl)|(apply aV;rfl;rfl;(exact (rfl:_=[_, _]));rfl;rfl;rfl)|(apply aU;rfl;rfl;rfl;rfl)|(apply aC;rfl;rfl)|(apply aF;kernel_rfl)|(apply bH;rfl;rfl;rfl;rfl)|(apply bC;rfl;rfl;rfl))|(apply aL;first|apply aH|apply aB|(apply aP;rfl;all_goals intro hc;have hq:=hc;(try simp only [cH] at hq);try exfalso;omega)|apply aT|apply aQ)|with_reducible apply aA)
  (refine cE (Le.frzD (d := 4) (i := 2) rfl rfl) ?_; refine aO rfl ?_)
  refine ⟨?_, by (exact Pur.pf)⟩
  simp only [bW]
  rw [fO (by rw [hlt])]
  unfold hZ dR;rw [if_neg hk, if_neg hk]
theorem Cp (m : List Cl) (hm : OkM m) (v : Int) : PC Tryz.prog 145 [sl cZ m, iv v] (fun r => r = .tup (if 0 ≤ v ∧ v ≤ 9 ∧ m.length < 200 then [sl cZ (m ++ [nN v]), .agg [iv m.length, iv 0], bv true] else [sl cZ [], .agg [iv 0, iv 0], bv false])) := by
 have hml := hm.l
 have hcv := nJ m (by omega)
 rw [decide_eq_true hm] at hcv
 (refine aS Tryz.func145 rfl (by simp [Tryz.ntmps145]) ?_; rw [Tryz.ntmps145])
 repeat' (first|(apply aK;first|(apply fW;rfl;exact gN m hm;rfl;rfl)|((with_reducible apply aJ (k := 191));(case ha => rfl);(case h => exact hcv);(case hp => (exact Pur.pf));(case hN => rfl))|(apply aE;rfl;rfl)|(first|(apply a6;rfl;rfl;rfl;(first|rfl|assumption))|(apply bB;rfl;rfl;rfl;(first|rfl|assumption))|(apply bR;(case hj|hb|hN => rfl);all_goals (intro hg;have hq := hg;(try simp only [cH] at hq);(try (exfalso;omega)))))|(apply aU;rfl;rfl;rfl;rfl)|(apply aC;rfl;rfl)|(first|(apply bU;rfl;(first|rfl|assumption);rfl;rfl)|(apply bG;rfl;(first|rfl|assumption);rfl;rfl))|(first|(apply bQ;rfl;rfl;rfl)|(apply bY;rfl;rfl;rfl;rfl;rfl;(rw [aR]; omega);(rfl);omega;omega;(rfl);rfl;rfl))|(apply aF;kernel_rfl)|(apply cC;rfl;(first|exact (rfl:_=some [_, _])|exact (rfl:_=some [_, _, _, _]));(first|exact (rfl:_=[_, _])|exact (rfl:_=[_, _, _, _]));rfl)|(apply cF;rfl;rfl)|(apply bD;rfl;rfl)|((apply bF (t := _));(case hze|hsm|hl => rfl);(case hfl => (first|exact (rfl:_=some [_, _])|exact (rfl:_=some [_, _, _, _])|rfl));(case hM|hN => rfl))|(apply aW;rfl;rfl;rfl;rfl;rfl;(case hl => (first|decide|(simp;done)));(exact (rfl:_=[_, _]))))|(apply aL;first|apply aH|apply aB|(apply bZ;rfl;(rfl))|(apply aP;rfl;all_goals intro hc;have hq:=hc;(try simp only [cH] at hq);try exfalso;omega)|apply aT|apply aQ)|with_reducible apply aA|with_reducible apply bE)
 all_goals try exact aO (l := [sl cZ [], .agg [iv 0, iv 0], bv false]) rfl ⟨by rw [if_neg (by omega)]; rfl, rfl⟩
 have e : ((aI cZ m).drop 0).take (m.length * 4) ++ [iv v, bv true, iv 1, .imm 1 [iv 0, bv true]] = aI cZ (m ++ [nN v]) := gI rfl rfl
 have e2 : AV.imm (m.length + 1) (((aI cZ m).drop 0).take (m.length * 4) ++ [iv v, bv true, iv 1, .imm 1 [iv 0, bv true]]) = sl cZ (m ++ [nN v]) := by
  rw [e]; exact fO (by rw [List.length_append]; rfl)
 refine cE (Le.frzD (d := 4) (i := 4) rfl rfl) ?_
 refine aO (l := [AV.imm (m.length + 1) (((aI cZ m).drop 0).take (m.length * 4) ++ [iv v, bv true, iv 1, .imm 1 [iv 0, bv true]]), .agg [iv m.length, iv 0], bv true]) rfl ?_
 rw [e2, if_pos (by omega)]
 exact ⟨rfl, by (exact Pur.pf)⟩
def nV (m : List Cl) (j : Nat) (r : List Tg) : Prop := r.length = 200 ∨ m[j]!.next = 1000
instance (m : List Cl) (j : Nat) (r : List Tg) : Decidable (nV m j r) := by unfold nV; infer_instance
def j9 (m b : List Cl) (j : Nat) (u : Bool) (r : List Tg) : List Cl := if nV m j r then b else m.set j (psh { m[j]! with stk := r } u)
def j7 (m : List Cl) (j : Nat) (r : List Tg) : Pt := if nV m j r then ⟨0, 0⟩ else ⟨j, m[j]!.next⟩
def j8 (m : List Cl) (j : Nat) (r : List Tg) : Int := if nV m j r then 4 else 0
theorem wX {m b : List Cl} {j : Nat} {u : Bool} {r : List Tg} {n k : Nat} {N : Nat} {Q : Exit → AS → Prop} {all : Array Oper} {rest : List Oper} {tsl : List (Nat × AV)} {hsl : List (Nat × Option (List AV))} {nidl : Nat} {z0 : Lo} {md : Md} {d : Nat} {ty : TypeId} {pos : String} {af : Array Edge} {tys : Array TypeId} {x0 x1 x2 x3 : Operand} {i0 i1 : Nat} (ha0 : ev (lk tsl) x0 = some (.own i0 0 n 4)) (ha1 : ev (lk tsl) x1 = some (sl cZ b)) (ha2 : ev (lk tsl) x2 = some (iv (j : Int))) (ha3 : ev (lk tsl) x3 = some (bv u)) (hH0 : cK hsl i0 = some (aI fR (eB m j (.own i1 0 k 2)))) (hH1 : cK hsl i1 = some (aI dK r)) (hdd : Go.AL.distinct [i0, i1] = true) (hmc : MC Tryz.prog 236 [.own 0 0 n 4, sl cZ b, iv (j : Int), bv u] [(0, some (aI fR (eB m j (.own 1 0 k 2)))), (1, some (aI dK r))] 2 (fun _ : Unit => True) (fun _ => .tup [sl cZ (j9 m b j u r), nB (j7 m j r), iv (j8 m j r)]) (fun _ => [])) (hM : Nat.ble (nidl + 0) eR = true) (hN : Nat.blt d N = true) {md' : Md} [hmd : MdA md (gL [x0, x1, x2, x3] ++ [.inr i0, .inr i1]) (List.map Sum.inr (List.map Prod.fst ([(i0, none), (i1, none)] : List (Nat × Option (List AV)))) ++ [.inl d]) md'] (kk : RW Tryz.prog N all Q md' rest ⟨(d, .tup [sl cZ (j9 m b j u r), nB (j7 m j r), iv (j8 m j r)]) :: tsl, iF hsl [(i0, none), (i1, none)], nidl + 0, z0⟩) : RW Tryz.prog N all Q md (⟨some d, .call ⟨.value (.func 236), #[x0, x1, x2, x3], tys⟩, ty, pos, af, none⟩ :: rest) ⟨tsl, hsl, nidl, z0⟩ := by
 refine cB [i0, i1] 2 [(i0, none), (i1, none)] hmc (avs := [.own i0 0 n 4, sl cZ b, iv (j : Int), bv u]) ?_ hdd ?_ rfl ?_ (by simpa using hM) ?_ ?_ ?_ hN (md' := md') (hmd := hmd) kk
 ·show evL (lk tsl) [x0, x1, x2, x3] = _
  simp only [evL, ha0, ha1, ha2, ha3]
 ·exact ⟨⟨_, _, rfl, hH0, by (repeat' (exact kQ rfl))⟩, ⟨⟨_, _, rfl, hH1, by (repeat' (exact RnL.purI inferInstance))⟩, trivial⟩⟩
 ·(repeat' (first|exact RnL.purI inferInstance|exact RnV.own rfl|refine RnL.cons ?_ ?_))
 ·(repeat' (exact RnV.purI inferInstance))
 ·simp [dI]
 ·(repeat' (exact trivial))
theorem zL (m b : List Cl) (j : Nat) (u : Bool) (r : List Tg) (n k : Nat) (hb : OkM b) (hn : n = m.length) (hk : k = r.length) (hj : j < m.length) (hnx : 0 ≤ m[j]!.next ∧ m[j]!.next ≤ 1000) (hr : r.length ≤ 200) (hml : m.length ≤ 200) : MC Tryz.prog 236 [.own 0 0 n 4, sl cZ b, iv (j : Int), bv u] [(0, some (aI fR (eB m j (.own 1 0 k 2)))), (1, some (aI dK r))] 2 (fun _ : Unit => True) (fun _ => .tup [sl cZ (j9 m b j u r), nB (j7 m j r), iv (j8 m j r)]) (fun _ => []) := by
 have hol := eA (m := m) (j := j) (X := .own 1 0 k 2)
 have hog := iI (m := m) (j := j) (X := .own 1 0 k 2) hj
 have hol2 := eA (m := m) (j := j) (X := .own (2 + 1 + 1 + 1) 0 (r.length + 1) 2)
 subst hn hk
 (refine bX Tryz.func236 rfl (by simp [Tryz.ntmps236]) ?_; rw [Tryz.ntmps236])
 repeat' (first|(apply aK;first|(with_reducible apply cS (d := 11))|(apply aE;rfl;rfl)|(apply gS;(case hx|hH => rfl);(case hf|hg|hα => infer_instance);(case hk => omega);(case h0|hN => rfl))|(apply aC;rfl;rfl)|(apply cM;rfl;rfl;(assumption);rfl)|(apply aF;kernel_rfl)|(apply bD;rfl;rfl))|(apply aL;first|apply aH|apply aB)|with_reducible apply aA)
 refine dV ?_
 rw [hog]
 dsimp only
 repeat' (first|(apply aK;first|((with_reducible apply aJ (k := 192));(case ha => rfl);(case h => exact Fm b hb);(case hp => (exact Pur.pf));(case hN => rfl))|(apply aE;rfl;rfl)|(apply aN;rfl;rfl;rfl;rfl)|(apply aD;rfl;rfl;rfl)|(first|(apply a6;rfl;rfl;rfl;(assumption))|(apply bB;rfl;rfl;rfl;(assumption))|(apply bR;(case hj|hb|hN => rfl);all_goals (intro hg;have hq := hg;(try simp only [cH] at hq);(try (exfalso;omega)))))|(first|(apply bS;rfl;rfl;omega;rfl)|(apply aU;rfl;rfl;rfl;rfl))|(apply aC;rfl;rfl)|(first|(apply bU;rfl;(assumption);rfl;rfl)|(apply bG;rfl;(assumption);rfl;rfl))|(apply cM;rfl;rfl;(assumption);rfl)|(first|(apply bQ;rfl;rfl;rfl)|(apply bY;rfl;rfl;rfl;rfl;rfl;(rw [aR]; omega);(rfl);omega;omega;(exact uK (by (omega)));rfl;rfl))|(apply aF;kernel_rfl)|(apply cC;rfl;(exact (rfl:_=some [_, _]));(exact (rfl:_=[_, _]));rfl)|(apply bD;rfl;rfl)|((apply bF (t := _));(case hze|hsm|hl => rfl);(case hfl => (exact (rfl:_=some [_, _])));(case hM|hN => rfl))|(apply aW;rfl;rfl;rfl;rfl;rfl;(case hl => (first|decide|(rw [aR]; simp only [gA] <;> omega)|(simp;done)));(first|exact tB (by (assumption))|exact yL (by (assumption))|exact (rfl:_=[_, _])|exact (rfl:_=[_, _, _, _]))))|(apply aL;first|apply aH|apply aB|(apply bZ;rfl;(rfl))|(apply aP;rfl;all_goals intro hc;have hq:=hc;(try simp only [cH] at hq);try exfalso;omega)|apply aT|apply aQ)|with_reducible apply aA|with_reducible apply bE)
 ·have hf : nV m j r := .inr (by assumption)
  refine aO (l := [sl cZ b, .agg [iv 0, iv 0], iv 4]) rfl ?_
  refine bV () trivial ?_ trivial
  unfold j9 j7 j8;rw [if_pos hf, if_pos hf, if_pos hf]; rfl
 ·have hf : ¬ nV m j r := by unfold nV; omega
  have hm2 : (m.set j { m[j]! with next := m[j]!.next + 1 }).length = m.length := List.length_set
  refine cE (Le.cls (o := 0) (q := 5) (j := j) (k := r.length + 1) (m := m.set j { m[j]! with next := m[j]!.next + 1 }) (r := r ++ [⟨m[j]!.next, u⟩]) rfl rfl (by rw [List.length_append]; rfl) (by omega) (by decide)) ?_
  refine cE (Le.frzD (d := 8) (i := 0) rfl rfl) ?_
  have e : (m.set j { m[j]! with next := m[j]!.next + 1 }).set j { (m.set j { m[j]! with next := m[j]!.next + 1 })[j]! with stk := r ++ [⟨m[j]!.next, u⟩] } = m.set j (psh { m[j]! with stk := r } u) := by
   rw [lS hj, set_set]; rfl
  rw [e]
  refine aO (l := [.imm m.length (aI cZ (m.set j (psh { m[j]! with stk := r } u))), .agg [iv (j : Int), iv m[j]!.next], iv 0]) rfl ?_
  refine bV () trivial ?_ trivial
  unfold j9 j7 j8;rw [if_neg hf, if_neg hf, if_neg hf, fO (by rw [List.length_set])]; rfl
 ·have hf : nV m j r := .inl (by omega)
  refine aO (l := [sl cZ b, .agg [iv 0, iv 0], iv 4]) rfl ?_
  refine bV () trivial ?_ trivial
  unfold j9 j7 j8;rw [if_pos hf, if_pos hf, if_pos hf]; rfl
theorem Ck {stk r : List Tg} {k : Nat} {N : Nat} {Q : Exit → AS → Prop} {all : Array Oper} {rest : List Oper} {tsl : List (Nat × AV)} {hsl : List (Nat × Option (List AV))} {nidl : Nat} {z0 : Lo} {md : Md} {d : Nat} {ty : TypeId} {pos : String} {af : Array Edge} {tys : Array TypeId} {x0 x1 : Operand} (ha0 : ev (lk tsl) x0 = some (sl dK stk)) (ha1 : ev (lk tsl) x1 = some (iv (k : Int))) (hmc : MC Tryz.prog 196 [sl dK stk, iv (k : Int)] [] 0 (fun _ : Unit => True) (fun _ => .own 1 0 r.length 2) (fun _ => [(1, some (aI dK r))])) (hM : Nat.ble (nidl + 2) eR = true) (hN : Nat.blt d N = true) {md' : Md} [hmd : MdA md (gL [x0, x1] ++ []) (List.map Sum.inr (List.map Prod.fst ([((nidl + 1), some (aI dK r))] : List (Nat × Option (List AV)))) ++ [.inl d]) md'] (kk : RW Tryz.prog N all Q md' rest ⟨(d, .own (nidl + 1) 0 r.length 2) :: tsl, iF hsl [((nidl + 1), some (aI dK r))], nidl + 2, z0⟩) : RW Tryz.prog N all Q md (⟨some d, .call ⟨.value (.func 196), #[x0, x1], tys⟩, ty, pos, af, none⟩ :: rest) ⟨tsl, hsl, nidl, z0⟩ := by
 refine cB [] 2 [((nidl + 1), some (aI dK r))] hmc (avs := [sl dK stk, iv (k : Int)]) ?_ rfl ?_ rfl ?_ (by simpa using hM) ?_ ?_ ?_ hN (md' := md') (hmd := hmd) kk
 ·show evL (lk tsl) [x0, x1] = _
  simp only [evL, ha0, ha1]
 ·exact trivial
 ·(repeat' (exact RnL.purI inferInstance))
 ·(repeat' (exact RnV.own rfl))
 ·simp [dI]
 ·(repeat' (first|exact trivial|(refine And.intro ⟨1, _, rfl, rfl, ?_⟩ ?_)|exact RnL.purI inferInstance))
theorem D0 (stk r : List Tg) (k : Nat) (hr : r = fP stk k false) (hk : k < stk.length) (hl : stk.length ≤ 1000000) : MC Tryz.prog 196 [sl dK stk, iv (k : Int)] [] 0 (fun _ : Unit => True) (fun _ => .own 1 0 r.length 2) (fun _ => [(1, some (aI dK r))]) := by
 have e1 : List.take (((k : Int) + 1).toNat - 0) (List.drop 0 stk) = stk.take (k + 1) := by rw [List.drop_zero]; congr 1
 have e2 : (stk.take (k + 1)).length = k + 1 := by rw [List.length_take]; omega
 (refine bX Tryz.func196 rfl (by simp [Tryz.ntmps196]) ?_; rw [Tryz.ntmps196])
 repeat' (first|(apply aK;first|(with_reducible apply cS (d := 12))|(apply aE;rfl;rfl)|(apply bS;rfl;rfl;omega;rfl)|(apply aC;rfl;rfl)|(apply aF;kernel_rfl)|(apply jP;rfl;infer_instance;rfl;rfl;(omega);rfl)|(apply b0;rfl;rfl;rfl;(rfl);rfl;rfl))|(apply aL;first|apply aH|apply aB)|with_reducible apply aA)
 refine dV ?_
 rw [e1]
 repeat' (first|(apply aK;first|(apply aE;rfl;rfl)|(apply bS;rfl;rfl;omega;rfl)|(apply aC;rfl;rfl)|(apply bY;rfl;rfl;rfl;rfl;rfl;(case hl => (simp [aR]; done));(exact jC (by (rfl)));omega;omega;(exact e7 (by (omega)));rfl;rfl)|(apply aF;kernel_rfl))|(apply aL;first|apply aH|apply aB|apply aM)|with_reducible apply aA)
 refine a8 (σ := Nat × List Tg × Nat) [0] [(0, _)] [] [] (fun s => [(6, iv (s.1 : Int)), (5, .own 1 0 s.2.2 2)]) (fun s => [(1, some (aI dK s.2.1))]) (fun s => k + 1 ≤ s.1 ∧ s.1 ≤ stk.length ∧ s.2.1 = stk.take (k + 1) ++ ((stk.drop (k + 1)).take (s.1 - (k + 1))).filter (fun t => !t.uq) ∧ s.2.2 = s.2.1.length ∧ s.2.2 ≤ s.1) (fun s => stk.length - s.1) (k + 1, stk.take (k + 1), 0 + (stk.take (k + 1)).length) ⟨Nat.le_refl _, by dsimp only;omega, by simp, by dsimp only;omega, by dsimp only;omega⟩ rfl rfl (by repeat' (first|exact trivial|refine And.intro rfl ?_)) (by repeat' (first|exact trivial|refine And.intro (.inr rfl) ?_)) ?_
 rintro ⟨i, xs, n⟩ ⟨hki, hi, hxs, hn, hni⟩
 dsimp only at hki hi hxs hn hni ⊢
 repeat' (first|(apply aK;first|(apply aE;rfl;rfl)|(first|(apply aN;rfl;rfl;rfl;rfl)|(apply aV;rfl;rfl;(exact (rfl:_=[_, _]));rfl;rfl;rfl))|(apply aD;rfl;rfl;rfl)|(first|(apply bS;rfl;rfl;omega;rfl)|(apply aU;rfl;rfl;rfl;rfl))|(apply aC;rfl;rfl)|(apply aZ;(case hx|hi => rfl);(case hm => (omega));(case hml => (rfl));(case hα | hf|hg => infer_instance);(case hN => rfl))|(first|(apply bQ;rfl;rfl;rfl)|(apply bY;rfl;rfl;rfl;rfl;rfl;(rw [aR]; omega);(rfl);omega;omega;(exact uK (by (assumption)));rfl;rfl))|(apply aF;kernel_rfl)|(apply cF;rfl;rfl)|((apply bF (t := _));(case hze|hsm|hl => rfl);(case hfl => (exact (rfl:_=some [_, _])));(case hM|hN => rfl)))|(apply aL;first|apply aH|apply aB|(apply aP;rfl;all_goals intro hc;have hq:=hc;(try simp only [cH] at hq);try exfalso;omega)|apply aM|apply aT|apply bK|apply aQ)|with_reducible apply aA|with_reducible apply bI|with_reducible apply aX|with_reducible apply bJ)
 ·(apply dJ (i + 1, _, _); focus (refine Le.ren [(1, 3)] rfl (by decide) ?_ ?_ <;> repeat' (first | exact trivial | refine And.intro ⟨_, rfl, ?_⟩ ?_ | refine And.intro ⟨_, _, rfl, rfl, ?_⟩ ?_ | exact Or.inr rfl | refine Or.inl ⟨?_, (by first | rfl | exact aY _ _)⟩ | rfl)))
  ·refine ⟨by dsimp only; omega, by dsimp only; omega, ?_, by dsimp only; rw [List.length_append, hn]; rfl, by dsimp only; omega⟩
   dsimp only
   rw [hxs, kC stk hki (by omega), List.filter_append, List.append_assoc]
   congr 2
   have hu : stk[i]!.uq = false := by assumption
   rw [pM (by rw [hu]; rfl)]
  ·dsimp only;omega
 ·(apply dJ (i + 1, xs, n); focus (refine Le.ren [(1, 1)] rfl (by decide) ?_ ?_ <;> repeat' (first | exact trivial | refine And.intro ⟨_, rfl, ?_⟩ ?_ | refine And.intro ⟨_, _, rfl, rfl, ?_⟩ ?_ | exact Or.inr rfl | refine Or.inl ⟨?_, (by first | rfl | exact aY _ _)⟩ | rfl)))
  ·refine ⟨by dsimp only; omega, by dsimp only; omega, ?_, hn, by dsimp only; omega⟩
   dsimp only
   have hu : stk[i]!.uq = true := by assumption
   rw [hxs, kC stk hki (by omega), List.filter_append, nE (by rw [hu]; rfl), List.append_nil]
  ·dsimp only;omega
 ·have hie : i = stk.length := by omega
  have hd : (stk.drop (k + 1)).take (stk.length - (k + 1)) = stk.drop (k + 1) := List.take_of_length_le (by rw [List.length_drop]; exact Nat.le_refl _)
  have hxr : xs = r := by rw [hxs, hie, hd, hr]; rfl
  subst hxr
  (refine aO rfl ?_; refine bV () trivial ?_ ⟨.inr (Eq.trans (b := some _) rfl ?_), trivial⟩)
  ·rw [hn]; rfl
  ·rfl
theorem FK {m : List Cl} {x : Pt} {j : Nat} {r : List Tg} {v : Int} {N : Nat} {Q : Exit → AS → Prop} {all : Array Oper} {rest : List Oper} {tsl : List (Nat × AV)} {hsl : List (Nat × Option (List AV))} {nidl : Nat} {z0 : Lo} {md : Md} {d : Nat} {ty : TypeId} {pos : String} {af : Array Edge} {tys : Array TypeId} {x0 x1 : Operand} (ha0 : ev (lk tsl) x0 = some (sl cZ m)) (ha1 : ev (lk tsl) x1 = some (nB x)) (hmc : MC Tryz.prog 148 [sl cZ m, nB x] [] 0 (fun _ : Unit => True) (fun _ => .tup [.own 1 0 m.length 4, iv v, iv 0]) (fun _ => [(1, some (aI fR (eB m j (.own 3 0 r.length 2)))), (3, some (aI dK r))])) (hM : Nat.ble (nidl + 4) eR = true) (hN : Nat.blt d N = true) {md' : Md} [hmd : MdA md (gL [x0, x1] ++ []) (List.map Sum.inr (List.map Prod.fst ([((nidl + 1), some (aI fR (eB m j (.own (nidl + 3) 0 r.length 2)))), ((nidl + 3), some (aI dK r))] : List (Nat × Option (List AV)))) ++ [.inl d]) md'] (kk : RW Tryz.prog N all Q md' rest ⟨(d, .tup [.own (nidl + 1) 0 m.length 4, iv v, iv 0]) :: tsl, iF hsl [((nidl + 1), some (aI fR (eB m j (.own (nidl + 3) 0 r.length 2)))), ((nidl + 3), some (aI dK r))], nidl + 4, z0⟩) : RW Tryz.prog N all Q md (⟨some d, .call ⟨.value (.func 148), #[x0, x1], tys⟩, ty, pos, af, none⟩ :: rest) ⟨tsl, hsl, nidl, z0⟩ := by
 refine cB [] 4 [((nidl + 1), some (aI fR (eB m j (.own (nidl + 3) 0 r.length 2)))), ((nidl + 3), some (aI dK r))] hmc (avs := [sl cZ m, nB x]) ?_ rfl ?_ rfl ?_ (by simpa using hM) ?_ ?_ ?_ hN (md' := md') (hmd := hmd) kk
 ·show evL (lk tsl) [x0, x1] = _
  simp only [evL, ha0, ha1]
 ·exact trivial
 ·(repeat' (exact RnL.purI inferInstance))
 ·(repeat' (first|exact RnL.purI inferInstance|exact RnV.own rfl|refine RnL.cons ?_ ?_|refine RnV.tup ?_))
 ·simp [dI]
 ·(repeat' (first|exact trivial|(refine And.intro ⟨1, _, rfl, rfl, ?_⟩ ?_)|(refine And.intro ⟨3, _, rfl, rfl, ?_⟩ ?_)|exact RnL.purI inferInstance|exact kQ rfl))
theorem IB (m : List Cl) (x : Pt) (j : Nat) (r : List Tg) (v : Int) (hm : OkM m) (hk : cL m x false = 0) (hj : j = x.cell.toNat) (hr : r = fP m[j]!.stk (dC m[j]!.stk x.tag).toNat false) (hv : v = m[j]!.val) : MC Tryz.prog 148 [sl cZ m, nB x] [] 0 (fun _ : Unit => True) (fun _ => .tup [.own 1 0 m.length 4, iv v, iv 0]) (fun _ => [(1, some (aI fR (eB m j (.own 3 0 r.length 2)))), (3, some (aI dK r))]) := by
 subst hj
 have hml := hm.l
 have hst : 0 ≤ x.cell → x.cell < m.length → m[x.cell.toNat]!.stk.length ≤ 1000000 := fun h1 h2 => Nat.le_trans (((dX m).1 hm).2 x.cell.toNat (by omega)).l.2 (by decide)
 have hpl := k4 m hm x
 rw [if_pos hk, hk] at hpl
 obtain ⟨h1, h2, h3, h4, _⟩ := eL hk
 have hbd := eW m[x.cell.toNat]!.stk x.tag
 have hrd := D0 m[x.cell.toNat]!.stk r (dC m[x.cell.toNat]!.stk x.tag).toNat hr (by omega) (hst h1 h2)
 rw [Int.toNat_of_nonneg h4] at hrd
 obtain ⟨k, hkk⟩ := Int.eq_ofNat_of_zero_le h4
 rw [hkk] at hpl hrd
 (refine bX Tryz.func148 rfl (by simp [Tryz.ntmps148]) ?_; rw [Tryz.ntmps148])
 repeat' (first|(apply aK;first|(apply fW;rfl;exact gN m hm;rfl;rfl)|((with_reducible apply aJ (k := 195));(case ha => rfl);(case h => exact hpl);(case hp => (exact Pur.pf));(case hN => rfl))|(apply Ck;rfl;rfl;exact hrd;rfl;rfl)|(apply aE;rfl;rfl)|(first|(apply aN;rfl;rfl;rfl;rfl)|(apply aV;rfl;rfl;(exact (rfl:_=[_, _]));rfl;rfl;rfl))|(apply aD;rfl;rfl;rfl)|(apply aU;rfl;rfl;rfl;rfl)|(apply aC;rfl;rfl)|(first|(apply cP;(case hx|hi => rfl);(case hm => (omega));(case hml => (rfl));(case hα | hf|hg => infer_instance);(case hN => rfl))|(apply cQ;rfl;rfl;(omega);rfl))|(apply aF;kernel_rfl)|(apply bH;rfl;rfl;rfl;rfl)|(apply bC;rfl;rfl;rfl)|(apply aW;rfl;rfl;rfl;rfl;rfl;(rw [aR]; simp only [gA] <;> omega);(exact yU (by (omega)))))|(apply aL;first|apply aH|apply aB|(apply b9;kernel_rfl)|(apply cG;rfl;(rfl))|apply aT|apply aQ)|with_reducible apply aA)
 (refine aO rfl ?_; refine bV () trivial ?_ ⟨.inr (Eq.trans (b := some _) rfl ?_), ⟨.inr (Eq.trans (b := some _) rfl ?_), trivial⟩⟩)
 ·rw [hv]; rfl
 ·rfl
 ·rfl
theorem D6 {m : List Cl} {x : Pt} {j : Nat} {r : List Tg} {N : Nat} {Q : Exit → AS → Prop} {all : Array Oper} {rest : List Oper} {tsl : List (Nat × AV)} {hsl : List (Nat × Option (List AV))} {nidl : Nat} {z0 : Lo} {md : Md} {d : Nat} {ty : TypeId} {pos : String} {af : Array Edge} {tys : Array TypeId} {x0 x1 : Operand} (ha0 : ev (lk tsl) x0 = some (sl cZ m)) (ha1 : ev (lk tsl) x1 = some (nB x)) (hmc : MC Tryz.prog 190 [sl cZ m, nB x] [] 0 (fun _ : Unit => True) (fun _ => .tup [.own 1 0 m.length 4, iv 0]) (fun _ => [(1, some (aI fR (eB m j (.own 3 0 r.length 2)))), (3, some (aI dK r))])) (hM : Nat.ble (nidl + 4) eR = true) (hN : Nat.blt d N = true) {md' : Md} [hmd : MdA md (gL [x0, x1] ++ []) (List.map Sum.inr (List.map Prod.fst ([((nidl + 1), some (aI fR (eB m j (.own (nidl + 3) 0 r.length 2)))), ((nidl + 3), some (aI dK r))] : List (Nat × Option (List AV)))) ++ [.inl d]) md'] (kk : RW Tryz.prog N all Q md' rest ⟨(d, .tup [.own (nidl + 1) 0 m.length 4, iv 0]) :: tsl, iF hsl [((nidl + 1), some (aI fR (eB m j (.own (nidl + 3) 0 r.length 2)))), ((nidl + 3), some (aI dK r))], nidl + 4, z0⟩) : RW Tryz.prog N all Q md (⟨some d, .call ⟨.value (.func 190), #[x0, x1], tys⟩, ty, pos, af, none⟩ :: rest) ⟨tsl, hsl, nidl, z0⟩ := by
 refine cB [] 4 [((nidl + 1), some (aI fR (eB m j (.own (nidl + 3) 0 r.length 2)))), ((nidl + 3), some (aI dK r))] hmc (avs := [sl cZ m, nB x]) ?_ rfl ?_ rfl ?_ (by simpa using hM) ?_ ?_ ?_ hN (md' := md') (hmd := hmd) kk
 ·show evL (lk tsl) [x0, x1] = _
  simp only [evL, ha0, ha1]
 ·exact trivial
 ·(repeat' (exact RnL.purI inferInstance))
 ·(repeat' (first|exact RnL.purI inferInstance|exact RnV.own rfl|refine RnL.cons ?_ ?_|refine RnV.tup ?_))
 ·simp [dI]
 ·(repeat' (first|exact trivial|(refine And.intro ⟨1, _, rfl, rfl, ?_⟩ ?_)|(refine And.intro ⟨3, _, rfl, rfl, ?_⟩ ?_)|exact RnL.purI inferInstance|exact kQ rfl))
theorem Hk (m : List Cl) (x : Pt) (j : Nat) (r : List Tg) (hm : OkM m) (hk : cL m x true = 0) (hj : j = x.cell.toNat) (hr : r = fP m[j]!.stk (dC m[j]!.stk x.tag).toNat true) : MC Tryz.prog 190 [sl cZ m, nB x] [] 0 (fun _ : Unit => True) (fun _ => .tup [.own 1 0 m.length 4, iv 0]) (fun _ => [(1, some (aI fR (eB m j (.own 3 0 r.length 2)))), (3, some (aI dK r))]) := by
 subst hj
 have hml := hm.l
 obtain ⟨h1, h2, h3, h4, hu⟩ := eL hk
 have hk0 : cL m x false = 0 := rJ h1 h2 h3 h4
 have hs2 : m[x.cell.toNat]!.stk.length ≤ 200 := (((dX m).1 hm).2 x.cell.toNat (by omega)).l.2
 have hpl := k4 m hm x
 rw [if_pos hk0, hk0] at hpl
 have hbd := eW m[x.cell.toNat]!.stk x.tag
 obtain ⟨k, hkk⟩ := Int.eq_ofNat_of_zero_le h4
 have hkt : (dC m[x.cell.toNat]!.stk x.tag).toNat = k := by omega
 rw [hkk] at hpl
 rw [hkt] at hr hu
 have hkn : k < m[x.cell.toNat]!.stk.length := by omega
 have e1 : List.take (((k : Int) + 1).toNat - 0) (List.drop 0 m[x.cell.toNat]!.stk) = r := by rw [List.drop_zero, hr]; unfold fP;rw [if_pos rfl]; congr 1
 have e2 : r.length = k + 1 := by rw [← e1, List.drop_zero, List.length_take]; omega
 have hut := hu rfl
 (refine bX Tryz.func190 rfl (by simp [Tryz.ntmps190]) ?_; rw [Tryz.ntmps190])
 repeat' (first|(apply aK;first|(apply fW;rfl;exact gN m hm;rfl;rfl)|((with_reducible apply aJ (k := 195));(case ha => rfl);(case h => exact hpl);(case hp => (exact Pur.pf));(case hN => rfl))|(with_reducible apply cS (d := 46))|(apply aE;rfl;rfl)|(first|(apply aN;rfl;rfl;rfl;rfl)|(apply aV;rfl;rfl;(exact (rfl:_=[_, _]));rfl;rfl;rfl))|(apply aD;rfl;rfl;rfl)|(first|(apply bS;rfl;rfl;omega;rfl)|(apply aU;rfl;rfl;rfl;rfl))|(apply aC;rfl;rfl)|(first|(apply aZ;(case hx|hi => rfl);(case hm => (assumption));(case hml => (rfl));(case hα | hf|hg => infer_instance);(case hN => rfl))|(apply cP;(case hx|hi => rfl);(case hm => (omega));(case hml => (rfl));(case hα | hf|hg => infer_instance);(case hN => rfl)))|(apply aF;kernel_rfl)|(apply jP;rfl;infer_instance;rfl;rfl;(omega);rfl)|(apply cF;rfl;rfl)|(apply bH;rfl;rfl;rfl;rfl)|(apply bC;rfl;rfl;rfl)|(apply b0;rfl;rfl;rfl;(rfl);rfl;rfl))|(apply aL;first|apply aH|apply aB|(apply b9;kernel_rfl)|(apply cG;rfl;(rfl))|(apply aP;rfl;all_goals intro hc;have hq:=hc;(try simp only [cH] at hq);try exfalso;omega)|apply aT|apply aQ)|with_reducible apply aA|with_reducible apply bE)
 ·exfalso; have hf : m[x.cell.toNat]!.stk[k]!.uq = false := by assumption
  rw [hut] at hf;exact absurd hf (by decide)
 refine dV ?_
 rw [e1]
 repeat' (first|(apply aK;first|(apply aE;rfl;rfl)|(apply aD;rfl;rfl;rfl)|(apply aC;rfl;rfl)|(apply cQ;rfl;rfl;(omega);rfl)|(apply bY;rfl;rfl;rfl;rfl;rfl;(case hl => (simp [aR]; done));(exact jC (by (rfl)));omega;omega;(exact e7 (by (omega)));rfl;rfl)|(apply aF;kernel_rfl)|(apply aW;rfl;rfl;rfl;rfl;rfl;(rw [aR]; simp only [gA] <;> omega);(exact yU (by (omega)))))|(apply aL;first|apply aH|apply aB|apply aQ)|with_reducible apply aA)
 (refine aO rfl ?_; refine bV () trivial ?_ ⟨.inr (Eq.trans (b := some _) rfl ?_), ⟨.inr (Eq.trans (b := some _) rfl ?_), trivial⟩⟩)
 ·rfl
 ·rw [Nat.zero_add r.length]
 ·rfl
theorem lU {m : List Cl} {x : Pt} {u : Bool} {r : List Tg} (hk : cL m x u = 0) (hr : r = fP m[x.cell.toNat]!.stk (dC m[x.cell.toNat]!.stk x.tag).toNat u) : kU m x u = j8 m x.cell.toNat r ∧ j1 m x u = j9 m m x.cell.toNat u r ∧ oS m x u = j7 m x.cell.toNat r := by
 obtain ⟨h1, h2, _⟩ := eL hk
 subst hr
 have e : kU m x u = j8 m x.cell.toNat (fP m[x.cell.toNat]!.stk (dC m[x.cell.toNat]!.stk x.tag).toNat u) := by
  unfold kU;rw [if_pos hk]; rfl
 refine ⟨e, ?_, ?_⟩
 ·unfold j1 j9
  rw [e]; unfold j8
  split
  ·rw [if_neg (by decide)]
  ·rw [if_pos rfl]; rfl
 ·unfold oS j7
  rw [e]; unfold j8
  split
  ·rw [if_neg (by decide)]
  ·rw [if_pos rfl, Int.toNat_of_nonneg h1]
theorem GP {m : List Cl} {x : Pt} {u : Bool} (hk : cL m x u ≠ 0) : kU m x u = cL m x u ∧ j1 m x u = m ∧ oS m x u = ⟨0, 0⟩ := by
 have e : kU m x u = cL m x u := by unfold kU;rw [if_neg hk]
 exact ⟨e, by unfold j1;rw [if_neg (by rw [e]; exact hk)], by unfold oS;rw [if_neg (by rw [e]; exact hk)]⟩
theorem xF (m : List Cl) (hm : OkM m) (x : Pt) : PC Tryz.prog 193 [sl cZ m, nB x] (fun r => r = .tup [sl cZ (j1 m x false), nB (oS m x false), iv (kU m x false)]) := by
 have hml := hm.l
 by_cases hk : cL m x false = 0
 ·obtain ⟨c, t⟩ := x
  obtain ⟨h1, h2, _⟩ := eL hk
  have h1' : 0 ≤ c := h1
  obtain ⟨j, rfl⟩ := Int.eq_ofNat_of_zero_le h1'
  have h2' : (j : Int) < m.length := h2
  have hc := ((dX m).1 hm).2 j (by omega)
  obtain ⟨r, hr⟩ : ∃ r, r = fP m[j]!.stk (dC m[j]!.stk t).toNat false := ⟨_, rfl⟩
  have hrl : r.length ≤ 200 := by rw [hr]; exact Nat.le_trans tchS_sub.length_le hc.l.2
  obtain ⟨e1, e2, e3⟩ := lU hk hr
  have hpu := zL m m j false r m.length r.length hm rfl rfl (by omega) (by have := hc.n;omega) hrl hml
  rw [e1, e2, e3]
  (refine aS Tryz.func193 rfl (by simp [Tryz.ntmps193]) ?_; rw [Tryz.ntmps193])
  repeat' (first|(apply aK;first|((apply FK (j := j) (r := r) (v := m[j]!.val));(case ha0|ha1 => rfl);(case hmc => exact IB m _ _ r _ hm hk rfl hr rfl);(case hM|hN => rfl))|((apply wX (m := m) (b := m) (j := j) (u := false) (r := r) (n := m.length) (k := r.length));(case ha0|ha1|ha2|ha3|hH0|hH1|hdd => rfl);(case hmc => exact hpu);(case hM|hN => rfl))|(apply aE;rfl;rfl)|(first|(apply aN;rfl;rfl;rfl;rfl)|(apply aV;rfl;rfl;(exact (rfl:_=[_, _]));rfl;rfl;rfl))|(apply aD;rfl;rfl;rfl)|(apply aU;rfl;rfl;rfl;rfl)|(apply aC;rfl;rfl)|(apply aF;kernel_rfl)|(apply bH;rfl;rfl;rfl;rfl)|(apply bD;rfl;rfl)|(apply bC;rfl;rfl;rfl)|(apply aW;rfl;rfl;rfl;rfl;rfl;(case hl => (simp;done));(exact (rfl:_=[_, _]))))|(apply aL;first|apply aH|apply aB|(apply cG;rfl;(rfl))|apply aT|apply aQ)|with_reducible apply aA)
  exact aO (l := [sl cZ (j9 m m j false r), .agg [iv (j7 m j r).cell, iv (j7 m j r).tag], iv (j8 m j r)]) rfl ⟨rfl, by (exact Pur.pf)⟩
 ·obtain ⟨e1, e2, e3⟩ := GP hk
  have hrd := qN m hm x
  have e4 : dR m x false = m := by unfold dR;rw [if_neg hk]
  rw [e4] at hrd
  rw [e1, e2, e3]
  (refine aS Tryz.func193 rfl (by simp [Tryz.ntmps193]) ?_; rw [Tryz.ntmps193])
  repeat' (first|(apply aK;first|((with_reducible apply aJ (k := 148));(case ha => rfl);(case h => exact hrd);(case hp => (exact Pur.pf));(case hN => rfl))|(apply aE;rfl;rfl)|(apply aV;rfl;rfl;(exact (rfl:_=[_, _]));rfl;rfl;rfl)|(apply aU;rfl;rfl;rfl;rfl)|(apply aC;rfl;rfl)|(apply aF;kernel_rfl)|(apply cC;rfl;(exact (rfl:_=some [_, _]));(exact (rfl:_=[_, _]));rfl)|(apply bH;rfl;rfl;rfl;rfl)|(apply bD;rfl;rfl)|(apply bC;rfl;rfl;rfl)|(apply aW;rfl;rfl;rfl;rfl;rfl;(decide);(exact (rfl:_=[_, _]))))|(apply aL;first|apply aH|apply aB|(apply aP;rfl;all_goals intro hc;have hq:=hc;(try simp only [cH] at hq);try exfalso;omega)|apply aQ)|with_reducible apply aA|with_reducible apply bE)
  skip
  exact aO (l := [sl cZ m, .agg [iv 0, iv 0], iv (cL m x false)]) rfl ⟨rfl, by (exact Pur.pf)⟩
theorem uU (m : List Cl) (hm : OkM m) (x : Pt) : PC Tryz.prog 194 [sl cZ m, nB x] (fun r => r = .tup [sl cZ (j1 m x true), nB (oS m x true), iv (kU m x true)]) := by
 have hml := hm.l
 by_cases hk : cL m x true = 0
 ·obtain ⟨c, t⟩ := x
  obtain ⟨h1, h2, _⟩ := eL hk
  have h1' : 0 ≤ c := h1
  obtain ⟨j, rfl⟩ := Int.eq_ofNat_of_zero_le h1'
  have h2' : (j : Int) < m.length := h2
  have hc := ((dX m).1 hm).2 j (by omega)
  obtain ⟨r, hr⟩ : ∃ r, r = fP m[j]!.stk (dC m[j]!.stk t).toNat true := ⟨_, rfl⟩
  have hrl : r.length ≤ 200 := by rw [hr]; exact Nat.le_trans tchS_sub.length_le hc.l.2
  obtain ⟨e1, e2, e3⟩ := lU hk hr
  have hpu := zL m m j true r m.length r.length hm rfl rfl (by omega) (by have := hc.n;omega) hrl hml
  rw [e1, e2, e3]
  (refine aS Tryz.func194 rfl (by simp [Tryz.ntmps194]) ?_; rw [Tryz.ntmps194])
  repeat' (first|(apply aK;first|((apply D6 (j := j) (r := r));(case ha0|ha1 => rfl);(case hmc => exact Hk m _ _ r hm hk rfl hr);(case hM|hN => rfl))|((apply wX (m := m) (b := m) (j := j) (u := true) (r := r) (n := m.length) (k := r.length));(case ha0|ha1|ha2|ha3|hH0|hH1|hdd => rfl);(case hmc => exact hpu);(case hM|hN => rfl))|(apply aE;rfl;rfl)|(first|(apply aN;rfl;rfl;rfl;rfl)|(apply aV;rfl;rfl;(exact (rfl:_=[_, _]));rfl;rfl;rfl))|(apply aD;rfl;rfl;rfl)|(apply aU;rfl;rfl;rfl;rfl)|(apply aC;rfl;rfl)|(apply aF;kernel_rfl)|(apply bH;rfl;rfl;rfl;rfl)|(apply bD;rfl;rfl)|(apply bC;rfl;rfl;rfl)|(apply aW;rfl;rfl;rfl;rfl;rfl;(case hl => (simp;done));(exact (rfl:_=[_, _]))))|(apply aL;first|apply aH|apply aB|(apply cG;rfl;(rfl))|apply aT|apply aQ)|with_reducible apply aA)
  exact aO (l := [sl cZ (j9 m m j true r), .agg [iv (j7 m j r).cell, iv (j7 m j r).tag], iv (j8 m j r)]) rfl ⟨rfl, by (exact Pur.pf)⟩
 ·obtain ⟨e1, e2, e3⟩ := GP hk
  have hwr := j3 m x hm
  have e4 : dR m x true = m := by unfold dR;rw [if_neg hk]
  rw [e1, e2, e3]
  (refine aS Tryz.func194 rfl (by simp [Tryz.ntmps194]) ?_; rw [Tryz.ntmps194])
  repeat' (first|(apply aK;first|(apply iY;rfl;rfl;exact hwr;rfl;rfl)|(apply aE;rfl;rfl)|(apply aV;rfl;rfl;(exact (rfl:_=[_, _]));rfl;rfl;rfl)|(apply aU;rfl;rfl;rfl;rfl)|(apply aC;rfl;rfl)|(apply aF;kernel_rfl)|(apply cC;rfl;(exact (rfl:_=some [_, _]));(exact (rfl:_=[_, _]));rfl)|(apply bH;rfl;rfl;rfl;rfl)|(apply bD;rfl;rfl)|(apply bC;rfl;rfl;rfl)|(apply aW;rfl;rfl;rfl;rfl;rfl;(decide);(exact (rfl:_=[_, _]))))|(apply aL;first|apply aH|apply aB|(apply aP;rfl;all_goals intro hc;have hq:=hc;(try simp only [cH] at hq);try exfalso;omega)|apply aQ)|with_reducible apply aA|with_reducible apply bE)
  refine cE (Le.frzD (d := 4) (i := 3) (m := m.length) (cs := aI cZ (dR m x true)) rfl rfl) ?_
  rw [e4]
  exact aO (l := [sl cZ m, .agg [iv 0, iv 0], iv (cL m x true)]) rfl ⟨rfl, by (exact Pur.pf)⟩
abbrev gR (s : Mc) : AV := .agg [sl eD s.slots, sl cZ s.cells, sl cI s.read]
theorem vT {xs : List Sl} {k : Nat} {a : Bool} {b c d : Int} (hk : k < xs.length) : iV (aI eD xs) (0 + k * 4) [bv a, iv b, iv c, iv d] = aI eD (xs.set k ⟨a, b, ⟨c, d⟩⟩) := o7 hk rfl
theorem pI (s : Mc) (v : Nat) (hv : v < s.slots.length) (hl : s.slots.length ≤ 1000000) : PC Tryz.prog 143 [gR s, iv (v : Int)] (fun r => r = gR ⟨s.slots.set v gT, s.cells, s.read⟩) := by
 (refine aS Tryz.func143 rfl (by simp [Tryz.ntmps143]) ?_; rw [Tryz.ntmps143])
 repeat' (first|(apply aK;first|(apply aE;rfl;rfl)|(first|(apply aN;rfl;rfl;rfl;rfl)|(apply aV;rfl;rfl;(exact (rfl:_=[_, _, _]));rfl;rfl;rfl))|(apply aD;rfl;rfl;rfl)|(apply cM;rfl;rfl;(omega);rfl)|(apply bY;rfl;rfl;rfl;rfl;rfl;(case hl => (simp [aR]; done));(exact jC (by (rfl)));omega;omega;(exact e7 (by (omega)));rfl;rfl)|(apply aF;kernel_rfl)|(apply cC;rfl;(exact (rfl:_=some [_, _, _, _]));(exact (rfl:_=[_, _, _, _]));rfl)|(apply bH;rfl;rfl;rfl;rfl)|(apply bD;rfl;rfl)|(apply b0;rfl;rfl;rfl;(rfl);rfl;rfl)|(apply aW;rfl;rfl;rfl;rfl;rfl;(case hl => (first|(rw [aR]; simp only [gA] <;> omega)|(simp;done)));(first|exact vT (by (assumption))|exact (rfl:_=[_, _, _]))))|(apply aL;first|apply aH|apply aB|apply aQ)|with_reducible apply aA)
 refine cE (Le.frzC (j := 1) (i := 3) [] rfl rfl (by decide)) ?_
 have e : AV.imm (0 + s.slots.length) (aI eD (s.slots.set v gT)) = sl eD (s.slots.set v gT) := fO (by rw [List.length_set, Nat.zero_add])
 refine aO (l := [.agg [.imm (0 + s.slots.length) (aI eD (s.slots.set v gT)), sl cZ s.cells, sl cI s.read]]) rfl ?_
 rw [e]
 exact ⟨rfl, by (exact Pur.pf)⟩
theorem F2 (k : Int) : (if kK k = -1 then (0 : Int) else kK k) = if k = 1 then 3 else if k = 0 then 0 else 4 := by
 unfold kK e5
 by_cases h : k = 0
 ·subst h;rfl
 ·rw [if_neg h, if_neg h]
  by_cases h1 : k = 1
  ·rw [if_pos h1]; rfl
  ·rw [if_neg h1]; rfl
theorem lO (ts : List Int) (s : Mc) (v : Nat) (y : Sl) (hm : OkM s.cells) (hv : v < s.slots.length) (hvt : v < ts.length) (hl : s.slots.length ≤ 1000000) : PC Tryz.prog 144 [sl cI ts, gR s, iv (v : Int), GA y] (fun r => r = .tup [gR (cY ts s v y).1, iv (if (cY ts s v y).2 = -1 then 0 else (cY ts s v y).2)]) := by
 have hfc := l7 s.cells hm s.slots[v]!.ptr
 (refine aS Tryz.func144 rfl (by simp [Tryz.ntmps144]) ?_; rw [Tryz.ntmps144])
 repeat' (first|(apply aK;first|((with_reducible apply aJ (k := 141));(case ha => rfl);(case h => exact hfc);(case hp => (exact Pur.pf));(case hN => rfl))|(apply aE;rfl;rfl)|(first|(apply aN;rfl;rfl;rfl;rfl)|(apply aV;rfl;rfl;(first|exact (rfl:_=[_, _])|exact (rfl:_=[_, _, _])|exact (rfl:_=[_, _, _, _]));rfl;rfl;rfl))|(apply aD;rfl;rfl;rfl)|(first|(apply a6;rfl;rfl;rfl;(assumption))|(apply bB;rfl;rfl;rfl;(assumption))|(apply bR;(case hj|hb|hN => rfl);all_goals (intro hg;have hq := hg;(try simp only [cH] at hq);(try (exfalso;omega)))))|(apply aU;rfl;rfl;rfl;rfl)|(apply aC;rfl;rfl)|(first|(apply bU;rfl;(assumption);rfl;rfl)|(apply bG;rfl;(assumption);rfl;rfl))|(first|(apply aZ;(case hx|hi => rfl);(case hm => (assumption));(case hml => (rfl));(case hα | hf|hg => infer_instance);(case hN => rfl))|(apply cM;rfl;rfl;(omega);rfl))|((with_reducible apply aJ (k := 142));(case ha => rfl);(case h => (apply kY <;> (fail)));(case hp => (rfl));(case hN => rfl))|(apply bY;rfl;rfl;rfl;rfl;rfl;(case hl => (simp [aR]; done));(exact jC (by (rfl)));omega;omega;(exact e7 (by (omega)));rfl;rfl)|(apply aF;kernel_rfl)|(apply bH;rfl;rfl;rfl;rfl)|(apply bD;rfl;rfl)|(apply bC;rfl;rfl;rfl)|(apply b0;rfl;rfl;rfl;(rfl);rfl;rfl)|(apply aW;rfl;rfl;rfl;rfl;rfl;(case hl => (first|(rw [aR]; simp only [gA] <;> omega)|(simp;done)));(first|exact vT (by (assumption))|exact (rfl:_=[_, _, _]))))|(apply aL;first|apply aH|apply aB|(apply b9;kernel_rfl)|(apply cG;rfl;(rfl))|(apply aP;rfl;all_goals intro hc;have hq:=hc;(try simp only [cH] at hq);try exfalso;omega)|apply aT|apply aQ)|with_reducible apply aA)
 all_goals (
  refine cE (Le.frzC (j := 2) (i := 4) [] rfl rfl (by decide)) ?_
  have e : AV.imm (0 + s.slots.length) (aI eD (s.slots.set v y)) = sl eD (s.slots.set v y) := fO (by rw [List.length_set, Nat.zero_add]))
 ·have hp : cY ts s v y = (⟨s.slots.set v y, hZ s.cells s.slots[v]!.ptr, s.read⟩, kK (cL s.cells s.slots[v]!.ptr true)) := if_pos ⟨by assumption, by assumption⟩
  refine aO (l := [.agg [.imm (0 + s.slots.length) (aI eD (s.slots.set v y)), sl cZ (hZ s.cells s.slots[v]!.ptr), sl cI s.read], iv (if cL s.cells s.slots[v]!.ptr true = 1 then 3 else if cL s.cells s.slots[v]!.ptr true = 0 then 0 else 4)]) rfl ?_
  rw [e, hp]
  dsimp only
  rw [F2]
  exact ⟨rfl, by (exact Pur.pf)⟩
 all_goals (
  have hp : cY ts s v y = (⟨s.slots.set v y, s.cells, s.read⟩, -1) := if_neg (by
   rintro ⟨q1, q2⟩
   first|(exact (by assumption : ¬ ts[v]! = 2) q1)|(rw [(by assumption : s.slots[v]!.set = false)] at q2;exact absurd q2 (by decide)))
  refine aO (l := [.agg [.imm (0 + s.slots.length) (aI eD (s.slots.set v y)), sl cZ s.cells, sl cI s.read], iv 0]) rfl ?_
  rw [e, hp]
  exact ⟨rfl, by (exact Pur.pf)⟩)
end Go.Proofs.YtckihjkcgfphmaaGreat
