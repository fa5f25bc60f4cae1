/-
 A part of the proofs over this program: rules and contracts of its functions (the contracts).
-/
import Derived.Test.YtckihjkcgfphmaaGreatP1B07
import Derived.Test.YtckihjkcgfphmaaGreatRows
import Derived.WalkKit
import Derived.ProofKit
import Derived.OpenShut
import Derived.Carry
import Derived.ChangeSlices
set_option linter.unusedVariables false
set_option linter.unusedSimpArgs false
set_option maxHeartbeats 8000000
set_option maxRecDepth 4000
attribute [local irreducible] Go.AL.RW Go.AL.AW Go.AL.Stop
namespace Go.Proofs.YtckihjkcgfphmaaGreat
open Go.AL Go.RowKit
theorem IP {p : Prg} {cs : List Int} {n : Int} {N : Nat} {Q : Exit → AS → Prop} {all : Array Oper} {rest : List Oper} {tsl : List (Nat × AV)} {hsl : List (Nat × Option (List AV))} {nidl : Nat} {z0 : Lo} {md : Md} {d : Nat} {ty : TypeId} {pos : String} {af : Array Edge} {tys : Array TypeId} {x0 x1 x2 : Operand} (ha0 : ev (lk tsl) x0 = some (dM p)) (ha1 : ev (lk tsl) x1 = some (sl cI cs)) (ha2 : ev (lk tsl) x2 = some (iv n)) (hmc : MC Tryz.prog 41 [dM p, sl cI cs, iv n] [] 0 (fun _ : Unit => True) (fun _ => .tup [.optr 1 0, iv 5, iv 0]) (fun _ => [(1, some ([.v (.pointer none), .imm 0 [], .imm 0 [], .imm 0 []]))])) (hM : Nat.ble (nidl + 2) eX = true) (hN : Nat.blt d N = true) {md' : Md} [hmd : MdA md (gJ [x0, x1, x2] ++ []) (List.map Sum.inr (List.map Prod.fst ([((nidl + 1), some ([.v (.pointer none), .imm 0 [], .imm 0 [], .imm 0 []]))] : List (Nat × Option (List AV)))) ++ [.inl d]) md'] (kk : RW Tryz.prog N all Q md' rest ⟨(d, .tup [.optr (nidl + 1) 0, iv 5, iv 0]) :: tsl, iJ hsl [((nidl + 1), some ([.v (.pointer none), .imm 0 [], .imm 0 [], .imm 0 []]))], nidl + 2, z0⟩) : RW Tryz.prog N all Q md (⟨some d, .call ⟨.value (.func 41), #[x0, x1, x2], tys⟩, ty, pos, af, none⟩ :: rest) ⟨tsl, hsl, nidl, z0⟩ := by
 refine cJ [] 2 [((nidl + 1), some ([.v (.pointer none), .imm 0 [], .imm 0 [], .imm 0 []]))] hmc (avs := [dM p, sl cI cs, iv n]) ?_ rfl ?_ rfl ?_ (by simpa using hM) ?_ ?_ ?_ hN (md' := md') (hmd := hmd) kk
 ·show evL (lk tsl) [x0, x1, x2] = _
  simp only [evL, ha0, ha1, ha2]
 ·exact trivial
 ·(repeat' (exact RnL.purI inferInstance))
 ·(repeat' (first|exact RnL.purI inferInstance|exact RnV.optr rfl|refine RnL.cons ?_ ?_|refine RnV.tup ?_))
 ·simp [dJ]
 ·(repeat' (first|exact trivial|(refine And.intro ⟨1, _, rfl, rfl, ?_⟩ ?_)|exact RnL.purI inferInstance))
theorem Le.nilMid {ts : List (Nat × AV)} {hs : List (Nat × Option (List AV))} {n : Nat} {z0 : Lo} {i : Nat} (c1 : List AV) {c2 : List AV} (hi : cQ hs i = some (c1 ++ .v (.slice none 0 0) :: c2)) :
  Le ⟨ts, hs, n, z0⟩ ⟨ts, (i, some (c1 ++ .imm 0 [] :: c2)) :: hs, n, z0⟩ :=
 Le.cells hi (by simp) fun w bad ι b β h => rS (fun y hy => by have := nW (av := .v (.slice none 0 0)) hy;exact this) c1 c2 b β h
theorem Kr {ts : List Int} {pts : List Pnt} {a last : Nat} {l : List Nat} {s : Mc} : iE ts pts (a :: l) s last = if (eW ts s pts[a]!).2 = -1 then iE ts pts l (eW ts s pts[a]!).1 a else ((eW ts s pts[a]!).1, (eW ts s pts[a]!).2, a) := by
 rw [iE]
 by_cases h : dI ts s pts[a]! = true
 ·rw [if_pos h, uZ h, if_neg (show ¬ (2 : Int) = -1 by decide)]
 ·have h2 : dI ts s pts[a]! = false := by simpa using h
  rw [if_neg h, qU h2]
theorem Mi {ts : List Int} {nt : Nat} {s : Mc} (h : OkS nt s) {x : Pnt} (hx : PtN x) : OkS nt (eW ts s x).1 := by
 unfold eW;split
 ·exact h
 ·exact h.do hx
theorem Jm {ts : List Int} {s : Mc} {x : Pnt} : (eW ts s x).1.read.length ≤ s.read.length + 1 := by
 unfold eW;split
 ·dsimp only;omega
 ·exact zC
theorem Mw {ts : List Int} {s : Mc} {x : Pnt} (ho : x.op = 6) (hz : cM s.cells s.slots[x.y.toNat]!.ptr false = 0) (hu : dI ts s x = false) (ht : ts[x.x.toNat]! = 1) : (eW ts s x).2 = -1 := by
 rw [qU hu]
 unfold dA
 rw [if_neg (show ¬ x.op = 1 by omega), if_neg (show ¬ x.op = 2 by omega), if_neg (show ¬ x.op = 3 by omega), if_neg (show ¬ (x.op = 4 ∨ x.op = 5) by omega), if_pos ho, if_pos hz]
 unfold c6
 rw [if_neg (fun h => by have := h.1;omega)]
theorem J9 (p : Prg) (cs : List Int) (n : Int) (hl : p.types.length ≤ 1000000) (hs : b9 p.body ≤ 1000000) (hr : yW p n = false) : MC Tryz.prog 41 [dM p, sl cI cs, iv n] [] 0 (fun _ : Unit => True) (fun _ => .tup [.optr 1 0, iv 5, iv 0]) (fun _ => [(1, some ([.v (.pointer none), .imm 0 [], .imm 0 [], .imm 0 []]))]) := by
 have hg := kR p hl hs
 unfold yW at hr
 by_cases hv : cZ p = true
 ·rw [if_pos hv] at hg
  rw [hv] at hr
  have hnn : ¬ (0 ≤ n ∧ n ≤ 150) := fun h => by rw [decide_eq_true h.1, decide_eq_true h.2] at hr;cases hr
  (refine cA Tryz.func41 rfl (by simp [Tryz.ntmps41]) ?_; rw [Tryz.ntmps41])
  repeat' (first|(apply aL;first|((with_reducible apply aI (k := 62));(case ha => rfl);(case h => exact hg);(case hp => (exact Pur.pf));(case hN => rfl))|(apply aE;rfl;rfl)|(apply aV;rfl;rfl;(exact (rfl:_=[_, _]));rfl;rfl;rfl)|(apply a6;rfl;rfl;rfl;(rfl))|(apply aC;rfl;rfl)|(apply bH;rfl;(rfl);rfl;rfl)|((with_reducible apply aI (k := 84));(case ha => rfl);(case h => (apply eA <;> (fail)));(case hp => (rfl));(case hN => rfl))|(apply aF;kernel_rfl)|(apply cC;rfl;(exact (rfl:_=some [_, _, _, _]));(exact (rfl:_=[_, _, _, _]));rfl)|(apply cG;rfl;rfl)|(apply bQ;rfl;rfl;rfl;rfl)|(apply a8;rfl;rfl;rfl))|(apply aM;first|apply aH|apply aB|(apply aP;rfl;all_goals intro hc;have hq:=hc;(try simp only [cH] at hq);try exfalso;omega)|apply aQ)|with_reducible apply aA|with_reducible apply bD)
  ·(refine aO rfl ?_; refine bW () trivial ?_ ⟨.inr (Eq.trans (b := some _) rfl ?_), trivial⟩)
   ·rfl
   ·rfl
 ·rw [if_neg hv] at hg
  (refine cA Tryz.func41 rfl (by simp [Tryz.ntmps41]) ?_; rw [Tryz.ntmps41])
  repeat' (first|(apply aL;first|((with_reducible apply aI (k := 62));(case ha => rfl);(case h => exact hg);(case hp => (exact Pur.pf));(case hN => rfl))|(apply aE;rfl;rfl)|(apply aV;rfl;rfl;(exact (rfl:_=[_, _]));rfl;rfl;rfl)|(apply a7;rfl;rfl;rfl;(rfl))|(apply aC;rfl;rfl)|(apply bT;rfl;(rfl);rfl;rfl)|(apply aF;kernel_rfl)|(apply cC;rfl;(exact (rfl:_=some [_, _, _, _]));(exact (rfl:_=[_, _, _, _]));rfl)|(apply cG;rfl;rfl)|(apply bQ;rfl;rfl;rfl;rfl)|(apply a8;rfl;rfl;rfl))|(apply aM;first|apply aH|apply aB|(apply b8;rfl;(rfl))|apply aQ)|with_reducible apply aA|with_reducible apply bD)
  (refine aO rfl ?_; refine bW () trivial ?_ ⟨.inr (Eq.trans (b := some _) rfl ?_), trivial⟩)
  ·rfl
  ·rfl
theorem Kx (p : Prg) (cs : List Int) (n : Nat) (q : Mc × Int × Nat) (hqq : q = eJ p.types (cX p) cs n) (hv : cZ p = true) (hl : p.types.length ≤ 1000000) (hs : b9 p.body ≤ 1000000) (hn : n ≤ 150) (hcl : cs.length ≤ 1000000) : MC Tryz.prog 41 [dM p, sl cI cs, iv (n : Int)] [] 0 (fun _ : Unit => True) (fun _ => .tup [.optr 2 0, iv q.2.1, iv (q.2.2 : Int)]) (fun _ => [(2, some (mO p.types p.body (cX p) 1 3 q.1)), (1, some (aJ eH q.1.slots)), (3, some (aJ cI q.1.read))]) := by
 have hg := kR p hl hs
 rw [if_pos hv] at hg
 have w := WG.of_valid hv
 have wa := WA.of_valid hv
 have hru := Ky p.types p.body (cX p) cs n w wa (by omega) hcl
 have htl := w.tl
 have hpl := w.pl
 have hL := Bv w wa n 0 cs w.p0
 have hLl := rG (pts := cX p) n 0 cs
 unfold eJ at hqq
 unfold wm at hru
 obtain ⟨L, hLe⟩ : ∃ L, L = (eL (cX p) n 0 cs).1 := ⟨_, rfl⟩
 obtain ⟨dn, hdn⟩ : ∃ dn, dn = (eL (cX p) n 0 cs).2 := ⟨_, rfl⟩
 rw [← hLe, ← hdn] at hru
 rw [← hLe] at hqq hL hLl
 have hgx : ∀ i, i < L.length → (L.map (fun a : Nat => (a : Int)))[i]! = (L[i]! : Int) := fun i h => by rw [cT _ _ (by rw [List.length_map]; exact h), List.getElem_map, cT _ _ h]
 have hml : (L.map (fun a : Nat => (a : Int))).length = L.length := List.length_map _
 generalize (L.map (fun a : Nat => (a : Int))) = LI at *
 generalize hP : cX p = pts at *
 (refine cA Tryz.func41 rfl (by simp [Tryz.ntmps41]) ?_; rw [Tryz.ntmps41])
 repeat' (first|(apply aL;first|((with_reducible apply aI (k := 62));(case ha => rfl);(case h => exact hg);(case hp => (exact Pur.pf));(case hN => rfl))|(with_reducible apply cS (d := 40))|(apply aE;rfl;rfl)|(first|(apply aN;rfl;rfl;rfl;rfl)|(apply aV;rfl;rfl;(exact (rfl:_=[_, _]));rfl;rfl;rfl))|(apply aD;rfl;rfl;rfl)|(apply a6;rfl;rfl;rfl;(rfl))|(apply aC;rfl;rfl)|(apply bH;rfl;(rfl);rfl;rfl)|((with_reducible apply aI (k := 84));(case ha => rfl);(case h => (apply eA <;> (fail)));(case hp => (rfl));(case hN => rfl))|(apply bF;rfl;rfl;rfl)|(apply aF;kernel_rfl)|(apply cG;rfl;rfl)|(apply bZ;rfl;rfl;rfl)|(apply bQ;rfl;rfl;rfl;rfl)|(apply a8;rfl;rfl;rfl)|(apply eC;rfl;rfl;rfl;omega;omega;(rfl);rfl;rfl))|(apply aM;first|apply aH|apply aB|(apply aP;rfl;all_goals intro hc;have hq:=hc;(try simp only [cH] at hq);try exfalso;omega)|apply aR)|with_reducible apply aA)
 refine dP ?_
 rw [show (List.replicate p.types.length ([Value.bool false, Value.int .i64 0, Value.int .i64 0, Value.int .i64 0].map AV.v)).flatten = aJ eH (List.replicate p.types.length gY) from r9 rfl]
 apply AI
 case hl => rfl
 case hf => exact (rfl:_=some [_, _, AV.v (.slice none 0 0), AV.v (.slice none 0 0)])
 case hN => rfl
 repeat' (first|(apply aL;first|(with_reducible apply cS (d := 43))|(apply aC;rfl;rfl)|(apply aF;kernel_rfl)|(apply bQ;rfl;rfl;rfl;rfl))|(apply aM;first|apply aH|apply aB)|with_reducible apply aA)
 refine dP (jH ?_ (Le.nilMid (i := 2) [_, _] rfl))
 refine jH ?_ (Le.nilCell (i := 2) 1 [_, _, _] rfl (by decide) (by decide))
 repeat' (first|(apply aL;first|((with_reducible apply aI (k := 85));(case ha => rfl);(case h => exact hru);(case hp => (exact Pur.pf));(case hN => rfl))|(apply aE;rfl;rfl)|(apply aC;rfl;rfl)|(apply bF;rfl;rfl;rfl)|(apply aF;kernel_rfl)|(apply a8;rfl;rfl;rfl))|(apply aM;first|apply aH|apply aB|apply aK)|with_reducible apply aA)
 refine bB (σ := Nat × Mc × Nat) [9, 11, 49, 50] [(9, _), (11, _), (49, _), (50, _)] [] [] (fun k => [(51, iv (k.1 : Int)), (14, iv (k.2.2 : Int))]) (fun k => [(2, some (mO p.types p.body pts 1 3 k.2.1)), (1, some (aJ eH k.2.1.slots)), (3, some (aJ cI k.2.1.read))]) (fun k => k.1 ≤ L.length ∧ iE p.types pts (L.drop k.1) k.2.1 k.2.2 = q ∧ OkS p.types.length k.2.1 ∧ k.2.1.read.length ≤ k.1) (fun k => L.length - k.1) (0, mc0 p.types.length, 0) ⟨Nat.zero_le _, hqq.symm, OkS.mc0 _, Nat.le_refl _⟩ rfl rfl (by repeat' (first|exact trivial|refine And.intro rfl ?_)) (by repeat' (first|exact trivial|refine And.intro (.inr rfl) ?_)) ?_
 rintro ⟨i, s, last⟩ ⟨hi, hf, hok, hrd⟩
 dsimp only at hi hf hok hrd ⊢
 by_cases hiL : i < L.length
 ·have hap := hL L[i]! (cO _ _ hiL)
  have hop := w.op L[i]! hap
  have hwx := w.x L[i]! hap
  have hwy := w.y L[i]! hap
  have hA := wa.a L[i]! hap
  have hg2 := hgx i hiL
  have hdr : L.drop i = L[i]! :: L.drop (i + 1) := by rw [List.drop_eq_getElem_cons hiL, cT _ _ hiL]
  rw [hdr, Kr] at hf
  have hpt : PtN pts[L[i]!]! := ⟨fun h => hA.n (.inr h)⟩
  have hdo := Mi (ts := p.types) hok hpt
  have hdr2 := Jm (ts := p.types) (s := s) (x := pts[L[i]!]!)
  by_cases h6 : pts[L[i]!]!.op = 6 ∧ cM s.cells s.slots[(pts[L[i]!]!).y.toNat]!.ptr false = 0 ∧ dI p.types s pts[L[i]!]! = false
  ·have hm6 := JW p.types p.body pts s pts[L[i]!]! htl hok.m hok.l h6.1 (by omega) (by omega) (by omega) h6.2.1 h6.2.2
   repeat' (first|(apply aL;first|(with_reducible apply cS (d := 16))|(apply aN;rfl;rfl;rfl;rfl)|(apply aT;rfl;rfl;rfl;rfl)|(apply aZ;(case hx|hi => rfl);(case hm => (omega));(case hml => (rfl));(case hα | hf|hg => infer_instance);(case hN => rfl))|(apply aF;kernel_rfl))|(apply aM;first|apply aH|apply aB|(apply aP;rfl;all_goals intro hc;have hq:=hc;(try simp only [cH] at hq);try exfalso;omega)|apply aK|apply aR)|with_reducible apply aA)
   refine dP ?_
   rw [hg2]
   repeat' (first|(apply aL;first|((apply Iz (ts := p.types) (bd := p.body) (pts := pts) (s := s) (x := pts[L[i]!]!));(case ha0|ha1|hH0|hH1|hH2|hdd => rfl);(case hmc => exact hm6);(case hM|hN => rfl))|(apply aE;rfl;rfl)|(first|(apply aN;rfl;rfl;rfl;rfl)|(apply aV;rfl;rfl;(exact (rfl:_=[_, _, _, _, _]));rfl;rfl;rfl))|(apply aD;rfl;rfl;rfl)|(first|(apply bS;rfl;rfl;omega;rfl)|(apply aT;rfl;rfl;rfl;rfl))|(apply aC;rfl;rfl)|(apply aZ;(case hx|hi => rfl);(case hm => (assumption));(case hml => (rfl));(case hα | hf|hg => infer_instance);(case hN => rfl))|(apply aF;kernel_rfl)|(apply bZ;rfl;rfl;rfl))|(apply aM;first|apply aH|apply aB|(apply aP;rfl;all_goals intro hc;have hq:=hc;(try simp only [cH] at hq);try exfalso;omega)|apply aR|apply aQ)|with_reducible apply aA|with_reducible apply bD|with_reducible apply aX|with_reducible apply cL)
   ·exfalso
    have h9 : ¬ (eW p.types s pts[L[i]!]!).2 = -1 := by assumption
    exact h9 (Mw h6.1 h6.2.1 h6.2.2 (hA.t6 h6.1).1)
   ·(apply dK (i + 1, (eW p.types s pts[L[i]!]!).1, L[i]!); focus (refine Le.ren [(1, 1), (2, 2), (3, 6)] rfl (by decide) ?_ ?_ <;> repeat' (first | exact trivial | refine And.intro ⟨_, rfl, ?_⟩ ?_ | refine And.intro ⟨_, _, rfl, rfl, ?_⟩ ?_ | exact Or.inr rfl | refine Or.inl ⟨?_, (by first | rfl | exact aY _ _ | exact Pur.pf)⟩ | refine Or.inr (All2.cons ?_ ?_) | refine All2.cons ?_ ?_ | exact All2.nil | rfl)))
    ·refine ⟨by dsimp only; omega, ?_, hdo, by dsimp only; omega⟩
     dsimp only
     rw [if_pos (by assumption)] at hf
     exact hf
    ·dsimp only;omega
  ·have hmd := Lr p.types p.body pts s pts[L[i]!]! htl hok.m hok.l hop (by omega) (fun h => by omega) (fun h h2 => by omega) (fun h => hA.n (.inr h)) h6
   repeat' (first|(apply aL;first|(with_reducible apply cS (d := 16))|(apply aN;rfl;rfl;rfl;rfl)|(apply aT;rfl;rfl;rfl;rfl)|(apply aZ;(case hx|hi => rfl);(case hm => (omega));(case hml => (rfl));(case hα | hf|hg => infer_instance);(case hN => rfl))|(apply aF;kernel_rfl))|(apply aM;first|apply aH|apply aB|(apply aP;rfl;all_goals intro hc;have hq:=hc;(try simp only [cH] at hq);try exfalso;omega)|apply aK|apply aR)|with_reducible apply aA)
   refine dP ?_
   rw [hg2]
   repeat' (first|(apply aL;first|((apply Kg (ts := p.types) (bd := p.body) (pts := pts) (s := s) (x := pts[L[i]!]!));(case ha0|ha1|hH0|hH1|hH2|hdd => rfl);(case hmc => exact hmd);(case hM|hN => rfl))|(apply aE;rfl;rfl)|(first|(apply aN;rfl;rfl;rfl;rfl)|(apply aV;rfl;rfl;(exact (rfl:_=[_, _, _, _, _]));rfl;rfl;rfl))|(apply aD;rfl;rfl;rfl)|(first|(apply bS;rfl;rfl;omega;rfl)|(apply aT;rfl;rfl;rfl;rfl))|(apply aC;rfl;rfl)|(apply aZ;(case hx|hi => rfl);(case hm => (assumption));(case hml => (rfl));(case hα | hf|hg => infer_instance);(case hN => rfl))|(apply aF;kernel_rfl)|(apply bZ;rfl;rfl;rfl))|(apply aM;first|apply aH|apply aB|(apply aP;rfl;all_goals intro hc;have hq:=hc;(try simp only [cH] at hq);try exfalso;omega)|apply aR|apply aQ)|with_reducible apply aA|with_reducible apply bD|with_reducible apply aX|with_reducible apply cL)
   ·have h9 : ¬ (eW p.types s pts[L[i]!]!).2 = -1 := by assumption
    rw [if_neg h9] at hf
    rw [← hf]
    (refine aO rfl ?_; refine bW () trivial ?_ ⟨.inr (Eq.trans (b := some _) rfl ?_), ⟨.inr (Eq.trans (b := some _) rfl ?_), ⟨.inr (Eq.trans (b := some _) rfl ?_), trivial⟩⟩⟩)
    ·rfl
    ·rfl
    ·rfl
    ·rfl
   ·(apply dK (i + 1, (eW p.types s pts[L[i]!]!).1, L[i]!); focus (refine Le.ren [(1, 1), (2, 2), (3, 3)] rfl (by decide) ?_ ?_ <;> repeat' (first | exact trivial | refine And.intro ⟨_, rfl, ?_⟩ ?_ | refine And.intro ⟨_, _, rfl, rfl, ?_⟩ ?_ | exact Or.inr rfl | refine Or.inl ⟨?_, (by first | rfl | exact aY _ _ | exact Pur.pf)⟩ | refine Or.inr (All2.cons ?_ ?_) | refine All2.cons ?_ ?_ | exact All2.nil | rfl)))
    ·refine ⟨by dsimp only; omega, ?_, hdo, by dsimp only; omega⟩
     dsimp only
     rw [if_pos (by assumption)] at hf
     exact hf
    ·dsimp only;omega
 ·repeat' (first | (apply aL; first | (apply aE;rfl;rfl) | (apply aT;rfl;rfl;rfl;rfl) | (apply aC;rfl;rfl) | (apply aF;kernel_rfl)) | (apply aM; first | apply aH | apply aB | (apply aP;rfl;all_goals intro hc;have hq:=hc;(try simp only [cH] at hq);try exfalso;omega) | apply bJ | apply aQ) | with_reducible apply aA | with_reducible apply bO | with_reducible apply bK)
  have hie : i = L.length := by omega
  have hq2 : q = (s, 1, last) := by rw [← hf, hie, List.drop_length]; rfl
  rw [hq2]
  (refine aO rfl ?_; refine bW () trivial ?_ ⟨.inr (Eq.trans (b := some _) rfl ?_), ⟨.inr (Eq.trans (b := some _) rfl ?_), ⟨.inr (Eq.trans (b := some _) rfl ?_), trivial⟩⟩⟩)
  ·rfl
  ·rfl
  ·rfl
  ·rfl
theorem FZ {p : Prg} {cs : List Int} {n : Int} {q : Mc × Int × Nat} {N : Nat} {Q : Exit → AS → Prop} {all : Array Oper} {rest : List Oper} {tsl : List (Nat × AV)} {hsl : List (Nat × Option (List AV))} {nidl : Nat} {z0 : Lo} {md : Md} {d : Nat} {ty : TypeId} {pos : String} {af : Array Edge} {tys : Array TypeId} {x0 x1 x2 : Operand} (ha0 : ev (lk tsl) x0 = some (dM p)) (ha1 : ev (lk tsl) x1 = some (sl cI cs)) (ha2 : ev (lk tsl) x2 = some (iv n)) (hmc : MC Tryz.prog 41 [dM p, sl cI cs, iv n] [] 0 (fun _ : Unit => True) (fun _ => .tup [.optr 2 0, iv q.2.1, iv (q.2.2 : Int)]) (fun _ => [(2, some (mO p.types p.body (cX p) 1 3 q.1)), (1, some (aJ eH q.1.slots)), (3, some (aJ cI q.1.read))])) (hM : Nat.ble (nidl + 4) eX = true) (hN : Nat.blt d N = true) {md' : Md} [hmd : MdA md (gJ [x0, x1, x2] ++ []) (List.map Sum.inr (List.map Prod.fst ([((nidl + 2), some (mO p.types p.body (cX p) (nidl + 1) (nidl + 3) q.1)), ((nidl + 1), some (aJ eH q.1.slots)), ((nidl + 3), some (aJ cI q.1.read))] : List (Nat × Option (List AV)))) ++ [.inl d]) md'] (kk : RW Tryz.prog N all Q md' rest ⟨(d, .tup [.optr (nidl + 2) 0, iv q.2.1, iv (q.2.2 : Int)]) :: tsl, iJ hsl [((nidl + 2), some (mO p.types p.body (cX p) (nidl + 1) (nidl + 3) q.1)), ((nidl + 1), some (aJ eH q.1.slots)), ((nidl + 3), some (aJ cI q.1.read))], nidl + 4, z0⟩) : RW Tryz.prog N all Q md (⟨some d, .call ⟨.value (.func 41), #[x0, x1, x2], tys⟩, ty, pos, af, none⟩ :: rest) ⟨tsl, hsl, nidl, z0⟩ := by
 refine cJ [] 4 [((nidl + 2), some (mO p.types p.body (cX p) (nidl + 1) (nidl + 3) q.1)), ((nidl + 1), some (aJ eH q.1.slots)), ((nidl + 3), some (aJ cI q.1.read))] hmc (avs := [dM p, sl cI cs, iv n]) ?_ rfl ?_ rfl ?_ (by simpa using hM) ?_ ?_ ?_ hN (md' := md') (hmd := hmd) kk
 ·show evL (lk tsl) [x0, x1, x2] = _
  simp only [evL, ha0, ha1, ha2]
 ·exact trivial
 ·(repeat' (exact RnL.purI inferInstance))
 ·(repeat' (first|exact RnL.purI inferInstance|exact RnV.optr rfl|refine RnL.cons ?_ ?_|refine RnV.tup ?_))
 ·simp [dJ]
 ·(repeat' (first|exact trivial|(refine And.intro ⟨1, _, rfl, rfl, ?_⟩ ?_)|(refine And.intro ⟨2, _, rfl, rfl, ?_⟩ ?_)|(refine And.intro ⟨3, _, rfl, rfl, ?_⟩ ?_)|exact RnL.purI inferInstance|exact RnV.purI inferInstance|exact RnV.own rfl|refine RnL.cons ?_ ?_))
theorem vD (p : Prg) (cs : List Int) (most : Int) (hl : p.types.length ≤ 1000000) (hs : b9 p.body ≤ 1000000) (hcl : cs.length ≤ 1000000) : PC Tryz.prog 13 [dM p, sl cI cs, iv most] (fun r => r = .tup (if yW p most = true then [iv (eJ p.types (cX p) cs most.toNat).2.1, iv (eJ p.types (cX p) cs most.toNat).2.2] else [iv 5, iv 0])) := by
 by_cases h : yW p most = true
 ·have h' := h
  unfold yW at h'
  simp only [Bool.and_eq_true, decide_eq_true_eq] at h'
  obtain ⟨hv, h0, h1⟩ := h'
  have hru := Kx p cs most.toNat _ rfl hv hl hs (by omega) hcl
  have hok := KA (cs := cs) (n := most.toNat) hv
  have hrl := B3 (ts := p.types) (pts := cX p) (cs := cs) (n := most.toNat) (by omega)
  have htl := (WG.of_valid hv).tl
  rw [Int.toNat_of_nonneg h0] at hru
  rw [if_pos h]
  have hon := Int.toNat_of_nonneg h0
  have hm := hok.m
  have hml := hm.l
  have hsl := hok.l
  generalize eJ p.types (cX p) cs most.toNat = q at *
  (refine aS Tryz.func13 rfl (by simp [Tryz.ntmps13]) ?_; rw [Tryz.ntmps13])
  repeat' (first|(apply aL;first|((apply FZ (p := p) (cs := cs) (n := most) (q := q));(case ha0|ha1|ha2 => rfl);(case hmc => exact hru);(case hM|hN => rfl))|(apply aE;rfl;rfl)|(apply aV;rfl;rfl;(exact (rfl:_=[_, _]));rfl;rfl;rfl)|(apply aC;rfl;rfl)|(apply aF;kernel_rfl)|(apply bQ;rfl;rfl;rfl;rfl)|(apply a8;rfl;rfl;rfl))|(apply aM;first|apply aH|apply aB|apply aQ)|with_reducible apply aA)
  exact aO (l := [iv q.2.1, iv q.2.2]) rfl ⟨rfl, rfl⟩
 ·rw [if_neg h]
  have h2 : yW p most = false := by simpa using h
  (refine aS Tryz.func13 rfl (by simp [Tryz.ntmps13]) ?_; rw [Tryz.ntmps13])
  repeat' (first|(apply aL;first|((apply IP (p := p) (cs := cs) (n := most));(case ha0|ha1|ha2 => rfl);(case hmc => exact J9 p cs most hl hs h2);(case hM|hN => rfl))|(apply aE;rfl;rfl)|(apply aV;rfl;rfl;(exact (rfl:_=[_, _]));rfl;rfl;rfl)|(apply aC;rfl;rfl)|(apply aF;kernel_rfl)|(apply bQ;rfl;rfl;rfl;rfl)|(apply a8;rfl;rfl;rfl))|(apply aM;first|apply aH|apply aB|apply aQ)|with_reducible apply aA)
  exact aO (l := [iv 5, iv 0]) rfl ⟨rfl, rfl⟩
theorem EF (bs : List UInt8) (p : Nat) (hb : bs.length ≤ 2000) (hp : p ≤ 10000) : MC Tryz.prog 82 [.optr 0 0] [(0, some (e5 bs p))] 1 (fun x : List Int × Nat => x.1.length ≤ 8 ∧ x.2 ≤ 20000) (fun x => sl cI x.1) (fun x => [(0, some (e5 bs x.2))]) := by
 have hn := xS bs p [4, 2, 6, 0, 8] 0 8 (by decide) (by decide)
 (refine cA Tryz.func82 rfl (by simp [Tryz.ntmps82]) ?_; rw [Tryz.ntmps82])
 repeat' (first|(apply aL;first|(apply aE;rfl;rfl)|(apply aC;rfl;rfl)|(apply o8;rfl;rfl;rfl;rfl;infer_instance;rfl;(rfl);assumption;omega;(decide);(decide);rfl;rfl)|(apply aF;kernel_rfl)|(apply bX;rfl;rfl;rfl;(first|exact (rfl:_=some [_, _, _, _, _])|rfl);rfl;rfl))|(apply aM;first|apply aH|apply aB|apply aK)|with_reducible apply aA)
 refine bB (σ := Int × List Int × Nat × Nat) [0] [(0, _)] [] [] (fun k => [(4, iv k.1), (3, .own 1 0 k.2.2.1 1)]) (fun k => [(0, some (e5 bs k.2.2.2)), (1, some (aJ cI k.2.1))]) (fun k => (0 ≤ k.1 ∧ k.1 + k.2.1.length ≤ 8) ∧ k.2.2.1 = k.2.1.length ∧ k.2.2.2 ≤ 10001 + k.2.1.length) (fun k => k.1.toNat) (iD bs p [4, 2, 6, 0, 8], [], 0, p + 1) ⟨⟨hn.1, by show _ + ((0 : Nat) : Int) ≤ 8;omega⟩, rfl, by dsimp only;omega⟩ rfl rfl (by repeat' (first|exact trivial|refine And.intro rfl ?_)) (by repeat' (first|exact trivial|refine And.intro (.inr rfl) ?_)) ?_
 rintro ⟨i, xs, m, p'⟩ ⟨⟨hi, hx⟩, hm, hp'⟩
 dsimp only at hi hx hm hp' ⊢
 repeat' (first|(apply aL;first|(apply aE;rfl;rfl)|(first|(apply fU;rfl;rfl;omega;rfl)|(apply aT;rfl;rfl;rfl;rfl))|(apply aC;rfl;rfl)|(apply Gr;rfl;rfl;infer_instance;rfl;(rfl);assumption;omega;(decide);(decide);rfl;rfl)|(apply bY;rfl;rfl;rfl;rfl;rfl;(rw [aU]; omega);(rfl);omega;omega;(exact gL (by (assumption)));rfl;rfl)|(apply aF;kernel_rfl)|((apply bC (t := _));(case hze|hsm|hl => rfl);(case hfl => (first|exact (rfl:_=some [_])|exact (rfl:_=some [_, _, _, _, _, _])));(case hM|hN => rfl)))|(apply aM;first|apply aH|apply aB|(apply aP;rfl;all_goals intro hc;have hq:=hc;(try simp only [cH] at hq);try exfalso;omega)|apply aK|apply aR|apply bJ|apply aQ)|with_reducible apply aA|with_reducible apply bO|with_reducible apply aX|with_reducible apply bK)
 ·(apply dK (i - 1, xs ++ [iD bs p' [0, 1, 0, 1, -1, 2]], m + 1, p' + 1); focus (refine Le.ren [(1, 5)] rfl (by decide) ?_ ?_ <;> repeat' (first | exact trivial | refine And.intro ⟨_, rfl, ?_⟩ ?_ | refine And.intro ⟨_, _, rfl, rfl, ?_⟩ ?_ | exact Or.inr rfl | refine Or.inl ⟨?_, (by first | rfl | exact aY _ _ | exact Pur.pf)⟩ | rfl)))
  ·refine ⟨⟨by dsimp only; omega, ?_⟩, by dsimp only; rw [List.length_append, hm]; rfl, ?_⟩
   ·dsimp only;rw [List.length_append]; simp only [List.length_singleton]; omega
   ·dsimp only;rw [List.length_append]; simp only [List.length_singleton]; omega
  ·dsimp only;omega
 ·refine cE (Le.frzD (d := 2) (i := 1) rfl rfl) ?_
  refine aO rfl ?_
  refine bW (xs, p') ⟨by dsimp only;omega, by dsimp only;omega⟩ ?_ ⟨.inr rfl, trivial⟩
  show AV.imm m (aJ cI xs) = sl cI xs
  rw [hm]
theorem Dr {P : Program} {N : Nat} {Q : Exit → AS → Prop} {all : Array Oper} {rest : List Oper} {ts : List (Nat × AV)} {hs : List (Nat × Option (List AV))} {n : Nat} {z0 : Lo} {ty : TypeId} {pos : String} {af : Array Edge} {d : Nat} {args : Array Operand} {tys : Array TypeId}
  {k : FuncId} {p0 : List Int × Nat → Prop} {i p : Nat} {bs : List UInt8} (h : MC P k [.optr 0 0] [(0, some (e5 bs p))] 1 p0 (fun x => sl cI x.1) (fun x => [(0, some (e5 bs x.2))])) [hc : CaT P k] (ha : evL (lk ts) args.toList = some [.optr i 0])
  (hH : cQ hs i = some (e5 bs p)) (hM : Nat.ble (n + 0) eX = true) (hN : Nat.blt d N = true) (kk : ∀ x, p0 x → RW P N all Q .txt rest ⟨(d, sl cI x.1) :: ts, (i, some (e5 bs x.2)) :: hs, n + 0, z0⟩) :
  RW P N all Q .txt (⟨some d, .call ⟨.value (.func k), args, tys⟩, ty, pos, af, none⟩ :: rest) ⟨ts, hs, n, z0⟩ :=
 AP (σ := List Int × Nat) [i] 1 (fun x : List Int × Nat => [(i, some (e5 bs x.2))]) h ha rfl ⟨⟨_, _, rfl, hH, RnL.purI inferInstance⟩, trivial⟩ rfl (RnL.cons (RnV.optr rfl) .nil) (by simpa using hM)
  (fun x _ => RnV.purI inferInstance) (fun x _ => by simp [dJ]) (fun x _ => ⟨⟨0, _, rfl, rfl, RnL.purI inferInstance⟩, trivial⟩) hN kk
theorem IA (bs : List UInt8) (hb : bs.length ≤ 1048576) : PC Tryz.prog 40 [sl cU bs] (fun r => ∃ (q : Prg) (cs : List Int) (n : Int), r = .tup [dM q, sl cI cs, iv n] ∧ b9 q.body ≤ 20000 ∧ q.types.length ≤ 1000 ∧ cs.length ≤ 8 ∧ -1 ≤ n ∧ n ≤ 151) := by
 have hb2 : (bs.take 2000).length ≤ 2000 := by rw [List.length_take]; omega
 (refine aS Tryz.func40 rfl (by simp [Tryz.ntmps40]) ?_; rw [Tryz.ntmps40])
 repeat' (first|(apply aL;first|((with_reducible apply lI (k := 81));(case h => exact Ga (bs.take 2000) 0 hb2 (by decide));(case ha|hpv|hH|hM|hN => rfl);(rintro ⟨q, p1⟩ ⟨hq1, hq2, hq3⟩);(dsimp only at hq1 hq2 hq3))|((with_reducible apply lI (k := 80));(case h => exact AR (bs.take 2000) p1 q hb2 (by omega) (by omega) (by omega));(case ha => rfl);(case hpv => exact Pur.pf);(case hH|hM|hN => rfl);(rintro ⟨q2, p2⟩ ⟨hr1, hr2, hr3⟩);(dsimp only at hr1 hr2 hr3))|((apply Dr (k := 82));(case h => exact EF (bs.take 2000) p2 hb2 (by omega));(case ha|hH|hM|hN => rfl);(rintro ⟨cs, p3⟩ ⟨hc1, hc2⟩);(dsimp only at hc1 hc2);(have hn9 := xS (bs.take 2000) p3 [100, 150, 60, 5, 0, 151, -1] (-1) 151 (by decide) (by decide)))|(apply aE;rfl;rfl)|(apply aV;rfl;rfl;(exact (rfl:_=[_, _]));rfl;rfl;rfl)|(apply aC;rfl;rfl)|(first|(apply sG;rfl;(apply wG <;> (assumption));rfl;rfl)|(apply o8;rfl;rfl;rfl;rfl;infer_instance;rfl;(rfl);assumption;omega;(decide);(decide);rfl;rfl))|(apply aF;kernel_rfl)|(apply bE;rfl;rfl)|(apply bX;rfl;rfl;rfl;(exact (rfl:_=some [_, _, _, _, _, _, _]));rfl;rfl)|(apply aW;rfl;rfl;rfl;rfl;rfl;(case hl => (simp;done));(exact (rfl:_=[_, _]))))|(apply aM;first|apply aH|apply aB|(apply b0;kernel_rfl)|apply aQ)|with_reducible apply aA)
 exact aO (l := [dM q2, sl cI cs, iv (iD (bs.take 2000) p3 [100, 150, 60, 5, 0, 151, -1])]) rfl ⟨⟨q2, cs, _, rfl, by omega, by omega, hc1, hn9.1, hn9.2⟩, Pur.pf⟩
theorem vQ (bs : List UInt8) (hb : bs.length ≤ 1048576) : PC Tryz.prog 12 [sl cU bs] (fun r => ∃ (q : Prg) (cs : List Int) (n : Int), r = .tup [dM q, sl cI cs, iv n] ∧ b9 q.body ≤ 20000 ∧ q.types.length ≤ 1000 ∧ cs.length ≤ 8 ∧ -1 ≤ n ∧ n ≤ 151) := by
 (refine aS Tryz.func12 rfl (by simp [Tryz.ntmps12]) ?_; rw [Tryz.ntmps12])
 repeat' (first|(apply aL;first|((with_reducible apply gK (k := 40));(case ha => rfl);(case h => exact IA bs hb);(case hp => (exact Pur.pf));(case hN => rfl);(rintro _ ⟨q, cs, n, rfl, h1, h2, h3, h4, h5⟩ _))|(apply aE;rfl;rfl)|(apply aC;rfl;rfl)|(apply aF;kernel_rfl)|(apply bE;rfl;rfl)|(apply a8;rfl;rfl;rfl)|(apply aW;rfl;rfl;rfl;rfl;rfl;(case hl => (simp;done));(exact (rfl:_=[_, _]))))|(apply aM;first|apply aH|apply aB|apply aQ)|with_reducible apply aA)
 exact aO (l := [dM q, sl cI cs, iv n]) rfl ⟨⟨q, cs, n, rfl, h1, h2, h3, h4, h5⟩, Pur.pf⟩
def sS (p : Prg) (cs : List Int) (n : Int) : Int := if yW p n = true then (eJ p.types (cX p) cs n.toNat).2.1 else 5
def GG (p : Prg) (cs : List Int) (n : Int) : Int := if yW p n = true then ((eJ p.types (cX p) cs n.toNat).2.2 : Int) else 0
theorem Cc (p : Prg) (cs : List Int) (n : Int) (hl : p.types.length ≤ 1000000) (hs : b9 p.body ≤ 1000000) (hcl : cs.length ≤ 1000000) : PC Tryz.prog 13 [dM p, sl cI cs, iv n] (fun r => r = .tup [iv (sS p cs n), iv (GG p cs n)]) := by
 have h := vD p cs n hl hs hcl
 unfold sS GG
 split
 ·rename_i h2;rw [if_pos h2] at h;exact h
 ·rename_i h2;rw [if_neg h2] at h;exact h
theorem Bn (p : Prg) (cs : List Int) (n : Int) (hl : p.types.length ≤ 1000000) (hs : b9 p.body ≤ 1000000) (hcl : cs.length ≤ 1000000) : PC Tryz.prog 14 [dM p, sl cI cs, iv n] (fun r => r = .tup [iv (sS p cs n), iv (GG p cs n)]) := by
 have h := u6 p cs n hl hs hcl
 unfold sS GG
 split
 ·rename_i h2;rw [if_pos h2] at h;exact h
 ·rename_i h2;rw [if_neg h2] at h;exact h
theorem tK {p : Prg} {n : Int} : yW p n = true ↔ cZ p = true ∧ 0 ≤ n ∧ n ≤ 150 := by
 unfold yW;simp only [Bool.and_eq_true, decide_eq_true_eq]
def vC (n l : Nat) : List Int := (List.range l).map fun i => ((n / 2 ^ i % 2 : Nat) : Int)
theorem qX (n l : Nat) : (vC n l).length = l := by unfold vC; rw [List.length_map, List.length_range]
theorem y0 (n l : Nat) : vC n (l + 1) = vC n l ++ [((n / 2 ^ l % 2 : Nat) : Int)] := by
 unfold vC;rw [List.range_succ, List.map_append]; rfl
def nD (p : Prg) (l n : Nat) : Bool := decide (sS p (vC n l) 80 ≠ 0) && decide (sS p (vC n l) 80 ≠ 1)
def B7 (p : Prg) (l k : Nat) : Nat := ((List.range k).filter (nD p l)).length
theorem IS {p : Prg} {l k : Nat} (h : nD p l k = true) : B7 p l (k + 1) = B7 p l k + 1 := by
 unfold B7;rw [List.range_succ, List.filter_append, List.length_append]; simp [h]
theorem FV {p : Prg} {l k : Nat} (h : nD p l k = false) : B7 p l (k + 1) = B7 p l k := by
 unfold B7;rw [List.range_succ, List.filter_append, List.length_append]; simp [h]
theorem J1 {p : Prg} {l k : Nat} : B7 p l k ≤ k := by
 unfold B7;exact Nat.le_trans (List.length_filter_le _ _) (by rw [List.length_range]; exact Nat.le_refl _)
theorem Aj (n l : Nat) (hl : l ≤ 100) (hn : n ≤ 1000000) : PC Tryz.prog 50 [iv (n : Int), iv (l : Int)] (fun r => r = sl cI (vC n l)) := by
 (refine aS Tryz.func50 rfl (by simp [Tryz.ntmps50]) ?_; rw [Tryz.ntmps50])
 repeat' (first|(apply aL;first|(apply aC;rfl;rfl)|(apply aF;kernel_rfl)|(apply bX;rfl;rfl;rfl;(rfl);rfl;rfl))|(apply aM;first|apply aH|apply aB|apply aK)|with_reducible apply aA)
 refine bB (σ := Nat × Nat × List Int × Nat) [1] [(1, _)] [] [] (fun k => [(6, iv (k.1 : Int)), (0, iv (k.2.1 : Int)), (5, .own 0 0 k.2.2.2 1)]) (fun k => [(0, some (aJ cI k.2.2.1))]) (fun k => k.1 ≤ l ∧ k.2.1 = n / 2 ^ k.1 ∧ k.2.2.1 = vC n k.1 ∧ k.2.2.2 = k.1) (fun k => l - k.1) (0, n, [], 0) ⟨Nat.zero_le _, by simp, rfl, rfl⟩ rfl rfl (by repeat' (first|exact trivial|refine And.intro rfl ?_)) (by repeat' (first|exact trivial|refine And.intro (.inr rfl) ?_)) ?_
 rintro ⟨i, n', xs, m⟩ ⟨hi, hn', hxs, hm⟩
 dsimp only at hi hn' hxs hm ⊢
 have hnl : n' ≤ 1000000 := by rw [hn']; exact Nat.le_trans (Nat.div_le_self _ _) hn
 have hxl : xs.length = m := by rw [hxs, qX, hm]
 repeat' (first|(apply aL;first|(apply aE;rfl;rfl)|(first|(apply bS;rfl;rfl;omega;rfl)|(apply GR;rfl;rfl;omega;rfl)|(apply Fo;rfl;rfl;omega;rfl)|(apply aT;rfl;rfl;rfl;rfl))|(apply aC;rfl;rfl)|(apply bY;rfl;rfl;rfl;rfl;rfl;(rw [aU]; omega);(rfl);omega;omega;(exact gL (by (omega)));rfl;rfl)|(apply aF;kernel_rfl)|((apply bC (t := _));(case hze|hsm|hl => rfl);(case hfl => exact (rfl:_=some [_]));(case hM|hN => rfl)))|(apply aM;first|apply aH|apply aB|(apply aP;rfl;all_goals intro hc;have hq:=hc;(try simp only [cH] at hq);try exfalso;omega)|apply aK|apply aR|apply bJ|apply aQ)|with_reducible apply aA|with_reducible apply bO|with_reducible apply aX|with_reducible apply bK)
 ·(apply dK (i + 1, n' / 2, _, m + 1); focus (refine Le.ren [(0, 2)] rfl (by decide) ?_ ?_ <;> repeat' (first | exact trivial | refine And.intro ⟨_, rfl, ?_⟩ ?_ | refine And.intro ⟨_, _, rfl, rfl, ?_⟩ ?_ | exact Or.inr rfl | refine Or.inl ⟨?_, (by first | rfl | exact aY _ _)⟩ | rfl)))
  ·refine ⟨by dsimp only; omega, ?_, ?_, by dsimp only; omega⟩
   ·dsimp only;rw [hn', Nat.pow_succ, Nat.div_div_eq_div_mul]
   ·dsimp only;rw [y0, ← hxs, ← hn']; rfl
  ·dsimp only;omega
 ·(refine cE (Le.frzD (d := 4) (i := 0) rfl rfl) ?_; refine aO rfl ?_)
  refine ⟨?_, (by (exact aY _ _))⟩
  have hie : i = l := by omega
  simp only [bV, sl]
  rw [← hxl, hxs, hie]
theorem GX (l : Nat) (hl : l ≤ 10) : PC Tryz.prog 48 [iv (l : Int)] (fun r => r = iv ((2 ^ l : Nat) : Int)) := by
 (refine aS Tryz.func48 rfl (by simp [Tryz.ntmps48]) ?_; rw [Tryz.ntmps48])
 repeat' (first|(apply aL;first|(apply aC;rfl;rfl)|(apply aF;kernel_rfl))|(apply aM;first|apply aH|apply aB|apply aK)|with_reducible apply aA)
 refine bB (σ := Nat) [0] [(0, _)] [] [] (fun k => [(4, iv (k : Int)), (3, iv ((2 ^ k : Nat) : Int))]) (fun k => []) (fun k => k ≤ l) (fun k => l - k) (0) (Nat.zero_le _) rfl rfl (by repeat' (first|exact trivial|refine And.intro rfl ?_)) (by repeat' (exact trivial)) ?_
 rintro k hk
 have hp : 2 ^ k ≤ 2 ^ 10 := Nat.pow_le_pow_right (by decide) (by omega)
 repeat' (first|(apply aL;first|(apply aE;rfl;rfl)|(first|(apply bS;rfl;rfl;omega;rfl)|(apply aT;rfl;rfl;rfl;rfl))|(apply aC;rfl;rfl)|(apply aF;kernel_rfl))|(apply aM;first|apply aH|apply aB|(apply aP;rfl;all_goals intro hc;have hq:=hc;(try simp only [cH] at hq);try exfalso;omega)|apply aK|apply aR|apply bJ|apply aQ)|with_reducible apply aA|with_reducible apply bO|with_reducible apply aX|with_reducible apply bK)
 ·have hw : IntKind.i64.wrap (((2 ^ k : Nat) : Int) * 2) = ((2 ^ (k + 1) : Nat) : Int) := by
   rw [show (((2 ^ k : Nat) : Int) * 2) = ((2 ^ (k + 1) : Nat) : Int) by rw [Nat.pow_succ, Int.natCast_mul]; rfl]
   exact oZ (Sm.pow (by omega)).pf
  rw [hw]
  (apply dK (k + 1);focus (refine Le.ren [] rfl (by decide) ?_ ?_ <;> repeat' (first|exact trivial|refine And.intro ⟨_, rfl, ?_⟩ ?_|refine Or.inl ⟨?_, (by (rfl))⟩|rfl)))
  ·omega
  ·omega
 ·refine aO rfl ⟨?_, rfl⟩
  rw [show l = k by omega]; rfl
def qR (p : Prg) (l : Int) : Bool := cZ p && (decide (0 ≤ l) && decide (l ≤ 6))
theorem oF {p : Prg} {l : Int} : qR p l = true ↔ cZ p = true ∧ 0 ≤ l ∧ l ≤ 6 := by unfold qR; simp only [Bool.and_eq_true, decide_eq_true_eq]
theorem vS (p : Prg) (l : Int) (hl : p.types.length ≤ 1000000) (hs : b9 p.body ≤ 1000000) : PC Tryz.prog 47 [dM p, iv l] (fun r => r = bv (qR p l)) := by
 have hval := oO p hl (by omega)
 (refine aS Tryz.func47 rfl (by simp [Tryz.ntmps47]) ?_; rw [Tryz.ntmps47])
 repeat' (first|(apply aL;first|((with_reducible apply aI (k := 87));(case ha => rfl);(case h => exact hval);(case hp => (exact Pur.pf));(case hN => rfl))|(apply aE;rfl;rfl)|(apply aV;rfl;rfl;(exact (rfl:_=[_, _]));rfl;rfl;rfl)|(first|(apply a6;rfl;rfl;rfl;(assumption))|(apply a7;rfl;rfl;rfl;(first|rfl|assumption))|(apply bI;(case hj|hb|hN => rfl);all_goals (intro hg;have hq := hg;(try simp only [cH] at hq);(try (exfalso;omega)))))|(apply aT;rfl;rfl;rfl;rfl)|(apply aC;rfl;rfl)|(first|(apply bT;rfl;(assumption);rfl;rfl)|(apply bH;rfl;(first|rfl|assumption);rfl;rfl))|(apply aF;kernel_rfl)|(apply bQ;rfl;rfl;rfl;rfl))|(apply aM;first|apply aH|apply aB|apply aQ)|with_reducible apply aA)
 all_goals (refine aO rfl ⟨?_, rfl⟩; simp only [bV, AV.v.injEq, Value.bool.injEq]; unfold qR;grind)
theorem Hl : PC Tryz.prog 93 [] (fun r => r = iv 80) := by
 (refine aS Tryz.func93 rfl (by simp [Tryz.ntmps93]) ?_; rw [Tryz.ntmps93])
 repeat' (first|(apply aL;first|(apply aC;rfl;rfl)|(apply aF;kernel_rfl))|(apply aM;first|apply aH|apply aB|apply aQ)|with_reducible apply aA)
 exact aO rfl ⟨rfl, rfl⟩
theorem Ee (p : Prg) (cs : List Int) (hl : p.types.length ≤ 1000000) (hs : b9 p.body ≤ 1000000) (hcl : cs.length ≤ 1000000) : PC Tryz.prog 49 [dM p, sl cI cs] (fun r => r = .tup [bv (decide (sS p cs 80 ≠ 0) && decide (sS p cs 80 ≠ 1)), iv (GG p cs 80)]) := by
 have h := Bn p cs 80 hl hs hcl
 have hm := Hl
 generalize sS p cs 80 = e at *
 generalize GG p cs 80 = a at *
 (refine aS Tryz.func49 rfl (by simp [Tryz.ntmps49]) ?_; rw [Tryz.ntmps49])
 repeat' (first|(apply aL;first|((with_reducible apply aI (k := 14));(case ha => rfl);(case h => exact h);(case hp => (exact Pur.pf));(case hN => rfl))|((with_reducible apply aI (k := 93));(case ha => rfl);(case h => exact hm);(case hp => (rfl));(case hN => rfl))|(apply aE;rfl;rfl)|(apply aV;rfl;rfl;(exact (rfl:_=[_, _]));rfl;rfl;rfl)|(first|(apply a6;rfl;rfl;rfl;(assumption))|(apply a7;rfl;rfl;rfl;(assumption))|(apply bI;(case hj|hb|hN => rfl);all_goals (intro hg;have hq := hg;(try simp only [cH] at hq);(try (exfalso;omega)))))|(apply aT;rfl;rfl;rfl;rfl)|(apply aC;rfl;rfl)|(first|(apply bT;rfl;(assumption);rfl;rfl)|(apply bH;rfl;(assumption);rfl;rfl))|(apply aF;kernel_rfl)|(apply bQ;rfl;rfl;rfl;rfl)|(apply a8;rfl;rfl;rfl))|(apply aM;first|apply aH|apply aB|(apply b0;kernel_rfl)|apply aQ)|with_reducible apply aA)
 ·refine aO (l := [bv _, iv a]) ?_ ⟨rfl, rfl⟩
  have hd : (decide (e ≠ 0) && decide (e ≠ 1)) = !decide (e = 1) := by simp_all
  rw [hd]; rfl
 ·refine aO (l := [bv _, iv a]) ?_ ⟨rfl, rfl⟩
  have hd : (decide (e ≠ 0) && decide (e ≠ 1)) = false := by simp_all
  rw [hd]; rfl
theorem BU (l : Int) : PC Tryz.prog 92 [iv l] (fun r => r = bv (decide (0 ≤ l) && decide (l ≤ 6))) := by
 have hw := eA l 0 6
 (refine aS Tryz.func92 rfl (by simp [Tryz.ntmps92]) ?_; rw [Tryz.ntmps92])
 repeat' (first|(apply aL;first|((with_reducible apply aI (k := 84));(case ha => rfl);(case h => exact hw);(case hp => (rfl));(case hN => rfl))|(apply aE;rfl;rfl)|(apply aC;rfl;rfl)|(apply aF;kernel_rfl))|(apply aM;first|apply aH|apply aB|apply aQ)|with_reducible apply aA)
 exact aO rfl ⟨rfl, rfl⟩
theorem Ax (n l : Nat) (hl : l ≤ 60) (hn : n ≤ 1000000) : PC Tryz.prog 52 [iv (n : Int), iv (l : Int)] (fun r => r = sl cI (vC n l)) := by
 have : Sm n := ⟨by omega⟩
 (refine aS Tryz.func52 rfl (by simp [Tryz.ntmps52]) ?_; rw [Tryz.ntmps52])
 repeat' (first|(apply aL;first|(apply aE;rfl;rfl)|(apply aC;rfl;rfl)|(apply aF;kernel_rfl))|(apply aM;first|apply aH|apply aB|apply aK)|with_reducible apply aA)
 refine AW.le ?_ (Le.nilOwn (d := 5) 1 rfl (by decide))
 refine bB (σ := Nat × List Int × Nat) [0, 7] [(0, _), (7, _)] [] [] (fun k => [(8, iv (k.1 : Int)), (5, .own 0 0 k.2.2 1)]) (fun k => [(0, some (aJ cI k.2.1))]) (fun k => k.1 ≤ l ∧ k.2.1 = vC n k.1 ∧ k.2.2 = k.1) (fun k => l - k.1) (0, [], 0) ⟨Nat.zero_le _, rfl, rfl⟩ rfl rfl (by repeat' (first|exact trivial|refine And.intro rfl ?_)) (by repeat' (first|exact trivial|refine And.intro (.inr rfl) ?_)) ?_
 rintro ⟨i, xs, m⟩ ⟨hi, hxs, hm⟩
 dsimp only at hi hxs hm ⊢
 have hxl : xs.length = m := by rw [hxs, qX, hm]
 repeat' (first|(apply aL;first|(apply aE;rfl;rfl)|(first|(apply oQ;rfl;rfl;infer_instance;infer_instance;rfl)|(apply o6;rfl;rfl;infer_instance;infer_instance;omega;rfl)|(apply bS;rfl;rfl;omega;rfl)|(apply aT;rfl;rfl;rfl;rfl))|(apply aC;rfl;rfl)|(apply bY;rfl;rfl;rfl;rfl;rfl;(rw [aU]; omega);(rfl);omega;omega;(exact gL (by (omega)));rfl;rfl)|(apply aF;kernel_rfl)|((apply bC (t := _));(case hze|hsm|hl => rfl);(case hfl => exact (rfl:_=some [_]));(case hM|hN => rfl)))|(apply aM;first|apply aH|apply aB|(apply aP;rfl;all_goals intro hc;have hq:=hc;(try simp only [cH] at hq);try exfalso;omega)|apply aK|apply aR|apply bJ|apply aQ)|with_reducible apply aA|with_reducible apply bO|with_reducible apply aX|with_reducible apply bK)
 ·(apply dK (i + 1, _, m + 1); focus (refine Le.ren [(0, 2)] rfl (by decide) ?_ ?_ <;> repeat' (first | exact trivial | refine And.intro ⟨_, rfl, ?_⟩ ?_ | refine And.intro ⟨_, _, rfl, rfl, ?_⟩ ?_ | exact Or.inr rfl | refine Or.inl ⟨?_, (by first | rfl | exact aY _ _)⟩ | rfl)))
  ·refine ⟨by dsimp only; omega, ?_, by dsimp only; omega⟩
   have hz : n >>> (i : Int).toNat &&& 1 = n / 2 ^ i % 2 := by rw [Int.toNat_natCast, Nat.shiftRight_eq_div_pow]; exact Nat.and_one_is_mod _
   dsimp only;rw [y0, ← hxs, ← hz]
  ·dsimp only;omega
 ·refine cE (Le.frzD (d := 4) (i := 0) rfl rfl) ?_
  refine aO rfl ⟨?_, (by (exact aY _ _))⟩
  have hie : i = l := by omega
  simp only [bV, sl]
  rw [← hxl, hxs, hie]
theorem HU (bs : List UInt8) (hb : bs.length ≤ 1048576) : PC Tryz.prog 44 [sl cU bs] (fun r => ∃ (q : Prg) (n : Int), r = .tup [dM q, iv n] ∧ b9 q.body ≤ 20000 ∧ q.types.length ≤ 1000 ∧ -1 ≤ n ∧ n ≤ 7) := by
 have hb2 : (bs.take 2000).length ≤ 2000 := by rw [List.length_take]; omega
 (refine aS Tryz.func44 rfl (by simp [Tryz.ntmps44]) ?_; rw [Tryz.ntmps44])
 repeat' (first|(apply aL;first|((with_reducible apply lI (k := 81));(case h => exact Ga (bs.take 2000) 0 hb2 (by decide));(case ha|hpv|hH|hM|hN => rfl);(rintro ⟨q, p1⟩ ⟨hq1, hq2, hq3⟩);(dsimp only at hq1 hq2 hq3))|((with_reducible apply lI (k := 80));(case h => exact AR (bs.take 2000) p1 q hb2 (by omega) (by omega) (by omega));(case ha => rfl);(case hpv => exact Pur.pf);(case hH|hM|hN => rfl);(rintro ⟨q2, p2⟩ ⟨hr1, hr2, hr3⟩);(dsimp only at hr1 hr2 hr3);(have hn9 := xS (bs.take 2000) p2 [3, 2, 1, 4, 0, 7, -1] (-1) 7 (by decide) (by decide)))|(apply aE;rfl;rfl)|(apply aV;rfl;rfl;(exact (rfl:_=[_, _]));rfl;rfl;rfl)|(apply aC;rfl;rfl)|(first|(apply sG;rfl;(apply wG <;> (assumption));rfl;rfl)|(apply o8;rfl;rfl;rfl;rfl;infer_instance;rfl;(rfl);assumption;omega;(decide);(decide);rfl;rfl))|(apply aF;kernel_rfl)|(apply bE;rfl;rfl)|(apply bX;rfl;rfl;rfl;(exact (rfl:_=some [_, _, _, _, _, _, _]));rfl;rfl)|(apply aW;rfl;rfl;rfl;rfl;rfl;(case hl => (simp;done));(exact (rfl:_=[_, _]))))|(apply aM;first|apply aH|apply aB|(apply b0;kernel_rfl)|apply aQ)|with_reducible apply aA)
 exact aO (l := [dM q2, iv (iD (bs.take 2000) p2 [3, 2, 1, 4, 0, 7, -1])]) rfl ⟨⟨q2, _, rfl, by omega, by omega, hn9.1, hn9.2⟩, Pur.pf⟩
theorem Kf (a b c : Int) (h0 : 0 ≤ c) (h1 : c ≤ 100) : MC Tryz.prog 46 [iv a, iv b, .optr 0 0] [(0, some [iv c])] 1 (fun _ : Unit => True) (fun _ => .tup []) (fun _ => [(0, some [iv (c + 1)])]) := by
 (refine cA Tryz.func46 rfl (by simp [Tryz.ntmps46]) ?_; rw [Tryz.ntmps46])
 repeat' (first|(apply aL;first|(apply aN;rfl;rfl;rfl;rfl)|(apply bS;rfl;rfl;omega;rfl)|(apply aF;kernel_rfl)|(apply aW;rfl;rfl;rfl;rfl;rfl;(case hl => (simp;done));(exact (rfl:_=[_]))))|(apply aM;(apply aB)))
 refine J0 (l := []) rfl ?_
 exact bW () trivial rfl ⟨.inr rfl, trivial⟩
theorem Fu (p : Prg) (l : Int) (hl : p.types.length ≤ 1000000) (hs : b9 p.body ≤ 1000000) : MC Tryz.prog 45 [dM p, iv l, .clos (.func 46) [] [.optr 0 0]] [(0, some [iv 0])] 1 (fun _ : Unit => True) (fun _ => bv (qR p l)) (fun _ => [(0, some [iv (if qR p l = true then (B7 p l.toNat (2 ^ l.toNat) : Int) else 0)])]) := by
 have hv0 := l5 p hl (by omega)
 have hil := BU l
 by_cases h : qR p l = true
 ·obtain ⟨hv, h0, h1⟩ := oF.1 h
  rw [hv] at hv0
  rw [h, if_pos rfl]
  obtain ⟨L, rfl⟩ := Int.eq_ofNat_of_zero_le h0
  rw [show (decide (0 ≤ (L : Int)) && decide ((L : Int) ≤ 6)) = true by rw [decide_eq_true h0, decide_eq_true h1]; rfl] at hil
  have hp : 2 ^ L ≤ 2 ^ 6 := Nat.pow_le_pow_right (by decide) (by omega)
  rw [Int.toNat_natCast]
  (refine cA Tryz.func45 rfl (by simp [Tryz.ntmps45]) ?_; rw [Tryz.ntmps45])
  repeat' (first|(apply aL;first|((with_reducible apply aI (k := 25));(case ha => rfl);(case h => exact hv0);(case hp => (exact Pur.pf));(case hN => rfl))|((with_reducible apply aI (k := 92));(case ha => rfl);(case h => exact hil);(case hp => (rfl));(case hN => rfl))|(apply aE;rfl;rfl)|(apply aV;rfl;rfl;(exact (rfl:_=[_, _]));rfl;rfl;rfl)|(apply a6;rfl;rfl;rfl;(rfl))|(apply iP;rfl;rfl;infer_instance;omega;rfl;(case' kk => intro hsm))|(apply aC;rfl;rfl)|(apply bH;rfl;(rfl);rfl;rfl)|(apply aF;kernel_rfl)|(apply cG;rfl;rfl)|(apply bQ;rfl;rfl;rfl;rfl))|(apply aM;first|apply aH|apply aB|(apply cF;rfl;(rfl))|apply aK|apply aR)|with_reducible apply aA)
  rw [Int.toNat_natCast]
  generalize hT : 2 ^ L = T at *
  refine bB (σ := Nat × Nat) [1, 2, 3, 19] [(1, _), (2, _), (3, _), (19, _)] [] [] (fun s => [(20, iv (s.1 : Int))]) (fun s => [(0, some [iv (s.2 : Int)]), (1, some [sl cI p.types, sl bR p.body])]) (fun s => s.1 ≤ T ∧ s.2 = B7 p L s.1) (fun s => T - s.1) (0, 0) ⟨Nat.zero_le _, rfl⟩ rfl rfl (by repeat' (first|exact trivial|refine And.intro rfl ?_)) (by repeat' (first|exact trivial|refine And.intro (.inr rfl) ?_)) ?_
  rintro ⟨k, c⟩ ⟨hk, hc⟩
  dsimp only at hk hc ⊢
  have hcb := J1 (p := p) (l := L) (k := k)
  have hch1 := IS (p := p) (l := L) (k := k)
  have hcs1 := FV (p := p) (l := L) (k := k)
  rw [← hc] at hcb hch1 hcs1
  have hch := Ax k L (by omega) (by omega)
  have hru := Cc p (vC k L) 80 hl hs (by rw [qX]; omega)
  have hbd : nD p L k = (decide (sS p (vC k L) 80 ≠ 0) && decide (sS p (vC k L) 80 ≠ 1)) := rfl
  generalize sS p (vC k L) 80 = e at hru hbd
  generalize GG p (vC k L) 80 = a at hru
  repeat' (first|(apply aL;first|((with_reducible apply aI (k := 52));(case ha => rfl);(case h => exact hch);(case hp => (rfl));(case hN => rfl))|((with_reducible apply aI (k := 13));(case ha => rfl);(case h => exact hru);(case hp => (exact Pur.pf));(case hN => rfl))|(apply aE;rfl;rfl)|(apply aV;rfl;rfl;(exact (rfl:_=[_, _]));rfl;rfl;rfl)|(first|(apply a6;rfl;rfl;rfl;(assumption))|(apply a7;rfl;rfl;rfl;(assumption))|(apply bI;(case hj|hb|hN => rfl);all_goals (intro hg;have hq := hg;(try simp only [cH] at hq);(try (exfalso;omega)))))|(first|(apply bS;rfl;rfl;omega;rfl)|(apply aT;rfl;rfl;rfl;rfl))|(apply aC;rfl;rfl)|(first|(apply bT;rfl;(assumption);rfl;rfl)|(apply bH;rfl;(assumption);rfl;rfl))|(apply aF;kernel_rfl)|(apply a8;rfl;rfl;rfl))|(apply aM;first|apply aH|apply aB|(apply b0;kernel_rfl)|(apply cF;rfl;(rfl))|(apply aP;rfl;all_goals intro hc;have hq:=hc;(try simp only [cH] at hq);try exfalso;omega)|apply aK|apply aR|apply bJ|apply aQ)|with_reducible apply aA|with_reducible apply bO|with_reducible apply aX|with_reducible apply bK)
  ·have hbt : nD p L k = true := by rw [hbd]; simp_all
   refine Eu (k := 46) (avs := [iv (k : Int), iv a]) (avs0 := [iv (k : Int), iv a, .optr 0 0]) (rr' := .tup []) [0] 1 [(0, some [iv ((c : Int) + 1)])] (Kf (k : Int) a (c : Int) (by omega) (by omega)) rfl rfl rfl rfl ⟨⟨_, _, rfl, rfl, RnL.purI inferInstance⟩, trivial⟩ rfl (RnL.cons (RnV.purI inferInstance) (RnL.cons (RnV.purI inferInstance) (RnL.cons (RnV.optr rfl) .nil))) rfl (RnV.purI inferInstance) rfl ⟨⟨0, _, rfl, rfl, RnL.purI inferInstance⟩, trivial⟩ rfl ?_
   repeat' (first|(apply aL;first|(apply aE;rfl;rfl)|(apply bS;rfl;rfl;omega;rfl)|(apply aF;kernel_rfl))|(apply aM;(apply aB))|with_reducible apply aA|with_reducible apply aX)
   (apply dK (k + 1, c + 1);focus (refine Le.of (oY ?_) (nC ?_) (Nat.le_refl 2) rfl <;> repeat' (first|exact trivial|refine And.intro rfl ?_|refine And.intro (.inr rfl) ?_)))
   ·exact ⟨by dsimp only;omega, (hch1 hbt).symm⟩
   ·dsimp only;omega
  ·have hbf : nD p L k = false := by rw [hbd]; simp_all
   (apply dK (k + 1, c);focus (refine Le.of (oY ?_) (nC ?_) (Nat.le_refl 2) rfl <;> repeat' (first|exact trivial|refine And.intro rfl ?_|refine And.intro (.inr rfl) ?_)))
   ·exact ⟨by dsimp only;omega, (hcs1 hbf).symm⟩
   ·dsimp only;omega
  ·have hbf : nD p L k = false := by rw [hbd]; simp_all
   (apply dK (k + 1, c);focus (refine Le.of (oY ?_) (nC ?_) (Nat.le_refl 2) rfl <;> repeat' (first|exact trivial|refine And.intro rfl ?_|refine And.intro (.inr rfl) ?_)))
   ·exact ⟨by dsimp only;omega, (hcs1 hbf).symm⟩
   ·dsimp only;omega
  all_goals
   obtain rfl : k = T := by omega
   obtain rfl : c = B7 p L k := by assumption
   refine aO rfl ?_
   exact bW () trivial rfl ⟨.inr rfl, trivial⟩
 ·have h2 : qR p l = false := by simpa using h
  rw [h2, if_neg (by decide)]
  by_cases hv : cZ p = true
  ·have hil2 : (decide (0 ≤ l) && decide (l ≤ 6)) = false := by unfold qR at h2; rw [hv] at h2; simpa using h2
   rw [hv] at hv0
   rw [hil2] at hil
   (refine cA Tryz.func45 rfl (by simp [Tryz.ntmps45]) ?_; rw [Tryz.ntmps45])
   repeat' (first|(apply aL;first|((with_reducible apply aI (k := 25));(case ha => rfl);(case h => exact hv0);(case hp => (exact Pur.pf));(case hN => rfl))|((with_reducible apply aI (k := 92));(case ha => rfl);(case h => exact hil);(case hp => (rfl));(case hN => rfl))|(apply aE;rfl;rfl)|(apply aV;rfl;rfl;(exact (rfl:_=[_, _]));rfl;rfl;rfl)|(apply a6;rfl;rfl;rfl;(rfl))|(apply aC;rfl;rfl)|(apply bH;rfl;(rfl);rfl;rfl)|(apply aF;kernel_rfl)|(apply cG;rfl;rfl)|(apply bQ;rfl;rfl;rfl;rfl))|(apply aM;first|apply aH|apply aB|(apply b8;rfl;(rfl))|apply aQ)|with_reducible apply aA|with_reducible apply bD)
   refine aO rfl ?_
   exact bW () trivial rfl ⟨.inr rfl, trivial⟩
  ·have hv2 : cZ p = false := by simpa using hv
   rw [hv2] at hv0
   (refine cA Tryz.func45 rfl (by simp [Tryz.ntmps45]) ?_; rw [Tryz.ntmps45])
   repeat' (first|(apply aL;first|((with_reducible apply aI (k := 25));(case ha => rfl);(case h => exact hv0);(case hp => (exact Pur.pf));(case hN => rfl))|(apply aE;rfl;rfl)|(apply aV;rfl;rfl;(exact (rfl:_=[_, _]));rfl;rfl;rfl)|(apply a7;rfl;rfl;rfl;(rfl))|(apply aC;rfl;rfl)|(apply bT;rfl;(rfl);rfl;rfl)|(apply aF;kernel_rfl)|(apply cG;rfl;rfl)|(apply bQ;rfl;rfl;rfl;rfl))|(apply aM;first|apply aH|apply aB|(apply b8;rfl;(rfl))|apply aQ)|with_reducible apply aA|with_reducible apply bD)
   refine aO rfl ?_
   exact bW () trivial rfl ⟨.inr rfl, trivial⟩
theorem u7 (p : Prg) (l : Int) (hl : p.types.length ≤ 1000000) (hs : b9 p.body ≤ 1000000) : PC Tryz.prog 17 [dM p, iv l] (fun r => r = .tup (if qR p l = true then [iv (B7 p l.toNat (2 ^ l.toNat)), iv ((2 ^ l.toNat : Nat) : Int)] else [iv 0, iv 0])) := by
 have hw := Fu p l hl hs
 have harg : RnL (([1] : List Nat)[·]?) [dM p, iv l, .clos (.func 46) [] [.optr 0 0]] [dM p, iv l, .clos (.func 46) [] [.optr 1 0]] := RnL.cons (RnV.purI inferInstance) (RnL.cons (RnV.purI inferInstance) (RnL.cons (RnV.clos .nil (RnL.cons (RnV.optr rfl) .nil)) .nil))
 by_cases h : qR p l = true
 ·obtain ⟨hv, h0, h1⟩ := oF.1 h
  rw [h, if_pos rfl] at hw
  rw [h, if_pos rfl]
  obtain ⟨L, rfl⟩ := Int.eq_ofNat_of_zero_le h0
  have hp : 2 ^ L ≤ 2 ^ 6 := Nat.pow_le_pow_right (by decide) (by omega)
  rw [Int.toNat_natCast] at *
  (refine aS Tryz.func17 rfl (by simp [Tryz.ntmps17]) ?_; rw [Tryz.ntmps17])
  repeat' (first|(apply aL;first|(apply aE;rfl;rfl)|(apply aV;rfl;rfl;(exact (rfl:_=[_, _]));rfl;rfl;rfl)|(apply aC;rfl;rfl)|(apply aF;kernel_rfl)|(apply gT;rfl;rfl;rfl)|(apply bQ;rfl;rfl;rfl;rfl)|(apply bE;rfl;rfl)|(apply aW;rfl;rfl;rfl;rfl;rfl;(decide);(exact (rfl:_=[_]))))|(apply aM;first|apply aH|apply aB)|with_reducible apply aA)
  refine cJ (k := 45) (avs := [dM p, iv (L : Int), .clos (.func 46) [] [.optr 1 0]]) (rr' := bv true) [1] 1 [(1, some [iv (B7 p L (2 ^ L) : Int)])] hw rfl rfl ⟨⟨_, _, rfl, rfl, RnL.purI inferInstance⟩, trivial⟩ rfl harg rfl (RnV.purI inferInstance) rfl ⟨⟨0, _, rfl, rfl, RnL.purI inferInstance⟩, trivial⟩ rfl ?_
  repeat' (first|(apply aL;first|(apply aE;rfl;rfl)|(apply aN;rfl;rfl;rfl;rfl)|(apply iP;rfl;rfl;infer_instance;omega;rfl;(case' kk => intro hsm))|(apply aC;rfl;rfl)|(apply aF;kernel_rfl)|(apply cG;rfl;rfl))|(apply aM;first|apply aH|(apply b0;kernel_rfl)|(apply cF;rfl;(rfl))|apply aR|apply aQ)|with_reducible apply aA)
  exact aO (l := [iv _, iv _]) rfl ⟨rfl, rfl⟩
 ·have h2 : qR p l = false := by simpa using h
  rw [h2, if_neg (by decide)] at hw
  rw [if_neg h]
  (refine aS Tryz.func17 rfl (by simp [Tryz.ntmps17]) ?_; rw [Tryz.ntmps17])
  repeat' (first|(apply aL;first|(apply aE;rfl;rfl)|(apply aV;rfl;rfl;(exact (rfl:_=[_, _]));rfl;rfl;rfl)|(apply aC;rfl;rfl)|(apply aF;kernel_rfl)|(apply gT;rfl;rfl;rfl)|(apply bQ;rfl;rfl;rfl;rfl)|(apply bE;rfl;rfl)|(apply aW;rfl;rfl;rfl;rfl;rfl;(decide);(exact (rfl:_=[_]))))|(apply aM;first|apply aH|apply aB)|with_reducible apply aA)
  refine cJ (k := 45) (avs := [dM p, iv l, .clos (.func 46) [] [.optr 1 0]]) (rr' := bv false) [1] 1 [(1, some [iv 0])] hw rfl rfl ⟨⟨_, _, rfl, rfl, RnL.purI inferInstance⟩, trivial⟩ rfl harg rfl (RnV.purI inferInstance) rfl ⟨⟨0, _, rfl, rfl, RnL.purI inferInstance⟩, trivial⟩ rfl ?_
  repeat' (first|(apply aL;first|(apply aC;rfl;rfl)|(apply aF;kernel_rfl)|(apply cG;rfl;rfl))|(apply aM;first|apply aH|apply aB|(apply b8;rfl;(rfl))|apply aQ)|with_reducible apply aA|with_reducible apply bD)
  exact aO (l := [iv 0, iv 0]) rfl ⟨rfl, rfl⟩
def Lu (p : Prg) (l : Int) : Int := if qR p l = true then (B7 p l.toNat (2 ^ l.toNat) : Int) else 0
def JH (p : Prg) (l : Int) : Int := if qR p l = true then ((2 ^ l.toNat : Nat) : Int) else 0
theorem L9 (p : Prg) (l : Int) (hl : p.types.length ≤ 1000000) (hs : b9 p.body ≤ 1000000) : PC Tryz.prog 17 [dM p, iv l] (fun r => r = .tup [iv (Lu p l), iv (JH p l)]) := by
 have h := u7 p l hl hs
 unfold Lu JH
 split
 ·rename_i h2;rw [if_pos h2] at h;exact h
 ·rename_i h2;rw [if_neg h2] at h;exact h
theorem JX (p : Prg) (l : Int) : 0 ≤ JH p l ∧ JH p l ≤ 64 := by
 unfold JH
 split
 ·rename_i h
  obtain ⟨_, h0, h1⟩ := oF.1 h
  have hp : 2 ^ l.toNat ≤ 2 ^ 6 := Nat.pow_le_pow_right (by decide) (by omega)
  have h64 : (2 ^ 6 : Nat) = 64 := rfl
  rw [h64] at hp
  exact ⟨Int.natCast_nonneg _, by exact_mod_cast hp⟩
 ·omega
theorem yL (p : Prg) (hl : p.types.length ≤ 1000000) (hs : b9 p.body ≤ 1000000) : ∃ L : List Iss, PC Tryz.prog 32 [dM p] (fun r => r = sl oD L) ∧ PC Tryz.prog 15 [dM p] (fun r => r = bv (cZ p && L.isEmpty)) ∧
  L.length ≤ 1000000 ∧ (cZ p = true → ∃ f : Flows p.types (cX p), L = f.iss) := by
 cases hv : cZ p
 ·have h := DH p hv hl hs
  have h2 := qD p [] hl hs h
  rw [hv] at h2
  exact ⟨[], h, h2, by simp, fun q => Bool.noConfusion q⟩
 ·have w := WG.of_valid hv
  obtain ⟨f⟩ := Flows.ex w
  have e : KZ p f = f.iss := if_pos hv
  have h := Ff p f hl hs
  rw [e] at h
  have h2 := qD p f.iss hl hs h
  rw [hv] at h2
  exact ⟨f.iss, h, h2, Nat.le_trans (GK w f) (by decide), fun _ => ⟨f, rfl⟩⟩
theorem wL {p : Prg} {cs : List Int} {n : Int} {L : List Iss} (hL : cZ p = true → ∃ f : Flows p.types (cX p), L = f.iss) (ha : (cZ p && L.isEmpty) = true) : sS p cs n = 0 ∨ sS p cs n = 1 ∨ (sS p cs n = 5 ∧ (n < 0 ∨ 150 < n)) := by
 rw [Bool.and_eq_true] at ha
 obtain ⟨f, e⟩ := hL ha.1
 have h0 : f.iss = [] := by rw [← e]; exact List.isEmpty_iff.1 ha.2
 unfold sS
 by_cases h : yW p n = true
 ·obtain ⟨hv, h1, h2⟩ := tK.1 h
  rw [if_pos h]
  rcases Ex (WG.of_valid hv) (WA.of_valid hv) f cs n.toNat (by omega) h0 with q|q
  ·exact .inl q
  ·exact .inr (.inl q)
 ·rw [if_neg h]
  refine .inr (.inr ⟨rfl, ?_⟩)
  apply Classical.byContradiction;intro q
  exact h (tK.2 ⟨ha.1, by omega, by omega⟩)
theorem D7 (bs : List UInt8) : PC Tryz.prog 3 [sl cU bs] (fun r => r = bv true) := by
 rcases Nat.lt_or_ge 1048576 bs.length with hb|hb
 ·(refine aS Tryz.func3 rfl (by simp [Tryz.ntmps3]) ?_; rw [Tryz.ntmps3])
  repeat' (first|(apply aL;first|(apply aE;rfl;rfl)|(apply aT;rfl;rfl;rfl;rfl)|(apply aC;rfl;rfl)|(apply bF;rfl;rfl;rfl)|(apply aF;kernel_rfl))|(apply aM;first|apply aH|apply aB|(apply aP;rfl;all_goals intro hc;have hq:=hc;(try simp only [cH] at hq);try exfalso;omega)|apply aQ)|with_reducible apply aA|with_reducible apply bD)
  exact aO rfl ⟨rfl, rfl⟩
 (refine aS Tryz.func3 rfl (by simp [Tryz.ntmps3]) ?_; rw [Tryz.ntmps3])
 repeat' (first|(apply aL;first|((with_reducible apply gK (k := 12));(case ha => rfl);(case h => exact vQ bs hb);(case hp => (exact Pur.pf));(case hN => rfl);(rintro _ ⟨q, cs, n, rfl, hq1, hq2, hq3, hq4, hq5⟩ _))|(with_reducible apply cS (d := 20))|(apply aE;rfl;rfl)|(apply aT;rfl;rfl;rfl;rfl)|(apply aC;rfl;rfl)|(apply bF;rfl;rfl;rfl)|(apply aF;kernel_rfl)|(apply bE;rfl;rfl)|(apply a8;rfl;rfl;rfl)|(apply aW;rfl;rfl;rfl;rfl;rfl;(case hl => (simp;done));(exact (rfl:_=[_, _]))))|(apply aM;first|apply aH|apply aB|(apply aP;rfl;all_goals intro hc;have hq:=hc;(try simp only [cH] at hq);try exfalso;omega)|apply aR)|with_reducible apply aA)
 refine dP ?_
 have h1 := Cc q cs n (by omega) (by omega) (by omega)
 have h2 := Bn q cs n (by omega) (by omega) (by omega)
 obtain ⟨L, _, hA, _, hL⟩ := yL q (by omega) (by omega)
 have hs := wL (p := q) (cs := cs) (n := n) hL
 generalize (cZ q && L.isEmpty) = ac at *
 generalize sS q cs n = e at *
 generalize GG q cs n = a at *
 repeat' (first|(apply aL;first|((with_reducible apply aI (k := 13));(case ha => rfl);(case h => exact h1);(case hp => (exact Pur.pf));(case hN => rfl))|((with_reducible apply aI (k := 14));(case ha => rfl);(case h => exact h2);(case hp => (exact Pur.pf));(case hN => rfl))|((with_reducible apply aI (k := 15));(case ha => rfl);(case h => exact hA);(case hp => (exact Pur.pf));(case hN => rfl))|(apply aE;rfl;rfl)|(apply aV;rfl;rfl;(exact (rfl:_=[_, _]));rfl;rfl;rfl)|(first|(apply fZ;rfl;rfl;rfl)|(apply a6;rfl;rfl;rfl;(assumption))|(apply a7;rfl;rfl;rfl;(first|rfl|assumption))|(apply bI;(case hj|hb|hN => rfl);all_goals (intro hg;have hq := hg;(try simp only [cH] at hq);(try (exfalso;omega)))))|(apply aT;rfl;rfl;rfl;rfl)|(apply aC;rfl;rfl)|(first|(apply bT;rfl;(first|rfl|assumption);rfl;rfl)|(apply bH;rfl;(assumption);rfl;rfl))|(apply aF;kernel_rfl)|(apply cG;rfl;rfl)|(apply a8;rfl;rfl;rfl))|(apply aM;first|apply aH|apply aB|(apply b8;rfl;(rfl))|(apply aP;rfl;all_goals intro hc;have hq:=hc;(try simp only [cH] at hq);try exfalso;omega)|apply aR|apply aQ)|with_reducible apply aA|with_reducible apply bD)
 all_goals first
  | (exfalso;exact (by assumption : ¬ True) trivial)
  | (refine aO rfl ⟨?_, rfl⟩; simp only [bV, decide_true]; done)
  | (refine aO rfl ⟨?_, rfl⟩; have hs' := hs (by assumption);simp only [bV]; grind)
theorem Fe (bs : List UInt8) (hb : bs.length ≤ 1048576) : PC Tryz.prog 22 [sl cU bs] (fun r => ∃ (q : Prg) (n : Int), r = .tup [dM q, iv n] ∧ b9 q.body ≤ 20000 ∧ q.types.length ≤ 1000 ∧ -1 ≤ n ∧ n ≤ 7) := by
 (refine aS Tryz.func22 rfl (by simp [Tryz.ntmps22]) ?_; rw [Tryz.ntmps22])
 repeat' (first|(apply aL;first|((with_reducible apply gK (k := 44));(case ha => rfl);(case h => exact HU bs hb);(case hp => (exact Pur.pf));(case hN => rfl);(rintro _ ⟨q, n, rfl, h1, h2, h3, h4⟩ _))|(apply aE;rfl;rfl)|(apply aC;rfl;rfl)|(apply aF;kernel_rfl)|(apply bE;rfl;rfl)|(apply a8;rfl;rfl;rfl)|(apply aW;rfl;rfl;rfl;rfl;rfl;(case hl => (simp;done));(exact (rfl:_=[_, _]))))|(apply aM;first|apply aH|apply aB|apply aQ)|with_reducible apply aA)
 exact aO (l := [dM q, iv n]) rfl ⟨⟨q, n, rfl, h1, h2, h3, h4⟩, Pur.pf⟩
def A1 (p : Prg) (l : Int) : Option Nat := if qR p l = true then (List.range (2 ^ l.toNat)).find? (nD p l.toNat) else none
def L5 (p : Prg) (l : Int) : List Int := match A1 p l with | some n => vC n l.toNat | none => []
theorem Hz {P : Nat → Bool} {k T : Nat} (hk : k < T) (h : P k = true) (hb : ∀ j, j < k → P j = false) : (List.range T).find? P = some k := by
 rw [List.find?_range_eq_some]
 exact ⟨h, List.mem_range.2 hk, fun j hj => by rw [hb j hj]; rfl⟩
theorem Dm {P : Nat → Bool} {T : Nat} (hb : ∀ j, j < T → P j = false) : (List.range T).find? P = none := by
 rw [List.find?_eq_none]; intro x hx;rw [hb x (List.mem_range.1 hx)]; decide
theorem uU (p : Prg) (l : Int) (hl : p.types.length ≤ 1000000) (hs : b9 p.body ≤ 1000000) : PC Tryz.prog 27 [dM p, iv l] (fun r => r = .tup [sl cI (L5 p l), bv (A1 p l).isSome]) := by
 have hr := vS p l hl hs
 by_cases h : qR p l = true
 ·obtain ⟨hv, h0, h1⟩ := oF.1 h
  rw [h] at hr
  obtain ⟨L, rfl⟩ := Int.eq_ofNat_of_zero_le h0
  have e : A1 p (L : Int) = (List.range (2 ^ L)).find? (nD p L) := by unfold A1;rw [if_pos h, Int.toNat_natCast]
  have e2 : L5 p (L : Int) = match (List.range (2 ^ L)).find? (nD p L) with|some n => vC n L|none => [] := by unfold L5;rw [e, Int.toNat_natCast]
  rw [e, e2]
  have hru := GX L (by omega)
  have hp : 2 ^ L ≤ 2 ^ 6 := Nat.pow_le_pow_right (by decide) (by omega)
  generalize hT : 2 ^ L = T at *
  (refine aS Tryz.func27 rfl (by simp [Tryz.ntmps27]) ?_; rw [Tryz.ntmps27])
  repeat' (first|(apply aL;first|((with_reducible apply aI (k := 47));(case ha => rfl);(case h => exact hr);(case hp => (exact Pur.pf));(case hN => rfl))|(apply aE;rfl;rfl)|(apply aV;rfl;rfl;(exact (rfl:_=[_, _]));rfl;rfl;rfl)|(apply aC;rfl;rfl)|(apply aF;kernel_rfl)|(apply cG;rfl;rfl)|(apply bQ;rfl;rfl;rfl;rfl))|(apply aM;first|apply aH|apply aB|(apply cF;rfl;(rfl))|apply aK|apply aR)|with_reducible apply aA)
  refine bB (σ := Nat) [1, 2] [(1, _), (2, _)] [0] [(0, some _)] (fun k => [(6, iv (k : Int))]) (fun k => []) (fun k => k ≤ T ∧ ∀ j, j < k → nD p L j = false) (fun k => T - k) (0) ⟨Nat.zero_le _, fun j hj => by omega⟩ rfl rfl (by repeat' (first|exact trivial|refine And.intro rfl ?_)) (by repeat' (exact trivial)) ?_
  rintro k ⟨hk, hb⟩
  have hch := Aj k L (by omega) (by omega)
  have hwr := Ee p (vC k L) hl hs (by rw [qX]; omega)
  change PC _ _ _ (fun r => r = .tup [bv (nD p L k), _]) at hwr
  repeat' (first|(apply aL;first|((with_reducible apply aI (k := 50));(case ha => rfl);(case h => exact hch);(case hp => (rfl));(case hN => rfl))|((with_reducible apply aI (k := 49));(case ha => rfl);(case h => exact hwr);(case hp => (exact Pur.pf));(case hN => rfl))|((with_reducible apply aI (k := 48));(case ha => rfl);(case h => exact hru);(case hp => (rfl));(case hN => rfl))|(apply aE;rfl;rfl)|(apply aV;rfl;rfl;(exact (rfl:_=[_, _]));rfl;rfl;rfl)|(first|(apply bS;rfl;rfl;omega;rfl)|(apply aT;rfl;rfl;rfl;rfl))|(apply aC;rfl;rfl)|(apply aF;kernel_rfl)|(apply a8;rfl;rfl;rfl)|((apply bC (t := _));(case hze|hsm|hl => rfl);(case hfl => (rfl));(case hM|hN => rfl)))|(apply aM;first|apply aH|apply aB|(apply b0;kernel_rfl)|(apply aP;rfl;all_goals intro hc;have hq:=hc;(try simp only [cH] at hq);try exfalso;omega)|apply aK|apply aR|apply bJ|apply aQ)|with_reducible apply aA|with_reducible apply bD|with_reducible apply bO|with_reducible apply aX|with_reducible apply cL|with_reducible apply bK)
  ·rw [Hz (by omega) (by assumption) hb]
   exact aO (l := [sl cI (vC k L), bv true]) rfl ⟨rfl, Pur.pf⟩
  ·(apply dK (k + 1); focus (refine Le.ren [(0, 0)] rfl (by decide) ?_ ?_ <;> repeat' (first | exact trivial | refine And.intro ⟨_, rfl, ?_⟩ ?_ | refine And.intro ⟨_, _, rfl, rfl, ?_⟩ ?_ | exact Or.inr rfl | refine Or.inl ⟨?_, (by first | rfl | exact Pur.pf)⟩ | rfl)))
   ·refine ⟨by omega, fun j hj => ?_⟩
    by_cases q : j = k
    ·subst q;assumption
    ·exact hb j (by omega)
   ·omega
  ·obtain rfl : k = T := by omega
   rw [Dm hb]
   exact aO (l := [.imm 0 [], bv false]) rfl ⟨rfl, rfl⟩
 ·have h2 : qR p l = false := by simpa using h
  rw [h2] at hr
  have e : A1 p l = none := by unfold A1;rw [if_neg h]
  have e2 : L5 p l = [] := by unfold L5;rw [e]
  rw [e, e2]
  (refine aS Tryz.func27 rfl (by simp [Tryz.ntmps27]) ?_; rw [Tryz.ntmps27])
  repeat' (first|(apply aL;first|((with_reducible apply aI (k := 47));(case ha => rfl);(case h => exact hr);(case hp => (exact Pur.pf));(case hN => rfl))|(apply aE;rfl;rfl)|(apply aV;rfl;rfl;(exact (rfl:_=[_, _]));rfl;rfl;rfl)|(apply aC;rfl;rfl)|(apply aF;kernel_rfl)|(apply cG;rfl;rfl)|(apply bQ;rfl;rfl;rfl;rfl)|((apply bC (t := _));(case hze|hsm|hl => rfl);(case hfl => (rfl));(case hM|hN => rfl)))|(apply aM;first|apply aH|apply aB|(apply b8;rfl;(rfl))|apply aQ)|with_reducible apply aA|with_reducible apply bD)
  exact aO (l := [.imm 0 [], bv false]) rfl ⟨rfl, rfl⟩
theorem HS (p : Prg) (l : Int) (hl : p.types.length ≤ 1000000) (hs : b9 p.body ≤ 1000000) : PC Tryz.prog 23 [dM p, iv l] (fun r => r = bv (qR p l && (A1 p l).isNone)) := by
 have h1 := uU p l hl hs
 have h2 := vS p l hl hs
 have e : (A1 p l).isNone = !(A1 p l).isSome := by cases A1 p l <;> rfl
 rw [e]
 generalize (A1 p l).isSome = b at *
 (refine aS Tryz.func23 rfl (by simp [Tryz.ntmps23]) ?_; rw [Tryz.ntmps23])
 repeat' (first|(apply aL;first|((with_reducible apply aI (k := 27));(case ha => rfl);(case h => exact h1);(case hp => (exact Pur.pf));(case hN => rfl))|((with_reducible apply aI (k := 47));(case ha => rfl);(case h => exact h2);(case hp => (exact Pur.pf));(case hN => rfl))|(apply aE;rfl;rfl)|(apply aV;rfl;rfl;(exact (rfl:_=[_, _]));rfl;rfl;rfl)|(first|(apply a6;rfl;rfl;rfl;(assumption))|(apply a7;rfl;rfl;rfl;(assumption))|(apply bI;(case hj|hb|hN => rfl);all_goals (intro hg;have hq := hg;(try simp only [cH] at hq);(try (exfalso;omega)))))|(apply aC;rfl;rfl)|(first|(apply bT;rfl;(assumption);rfl;rfl)|(apply bH;rfl;(assumption);rfl;rfl))|(apply aF;kernel_rfl)|(apply cG;rfl;rfl)|(apply bQ;rfl;rfl;rfl;rfl)|(apply a8;rfl;rfl;rfl))|(apply aM;first|apply aH|apply aB|apply aQ)|with_reducible apply aA)
 all_goals (refine aO rfl ⟨?_, rfl⟩; simp only [bV]; simp_all)
theorem IG (p : Prg) (l : Int) : (decide (0 < JH p l) && decide (Lu p l = 0)) = (qR p l && (A1 p l).isNone) := by
 unfold JH Lu A1
 by_cases h : qR p l = true
 ·rw [if_pos h, if_pos h, if_pos h, h]
  have hp : 0 < 2 ^ l.toNat := Nat.pow_pos (by decide)
  rw [decide_eq_true (by omega : (0 : Int) < ((2 ^ l.toNat : Nat) : Int)), Bool.true_and, Bool.true_and, Bool.eq_iff_iff, decide_eq_true_eq, Option.isNone_iff_eq_none, List.find?_eq_none]
  unfold B7
  constructor
  ·intro q x hx hb
   have : (List.range (2 ^ l.toNat)).filter (nD p l.toNat) = [] := List.length_eq_zero_iff.1 (by omega)
   have hm : x ∈ (List.range (2 ^ l.toNat)).filter (nD p l.toNat) := List.mem_filter.2 ⟨hx, hb⟩
   rw [this] at hm;cases hm
  ·intro q
   have : (List.range (2 ^ l.toNat)).filter (nD p l.toNat) = [] := List.filter_eq_nil_iff.2 q
   rw [this]; rfl
 ·rw [if_neg h, if_neg h, if_neg h]
  have h2 : qR p l = false := by simpa using h
  rw [h2]; rfl
theorem I0 (p : Prg) (l : Int) (hl : p.types.length ≤ 1000000) (hs : b9 p.body ≤ 1000000) : PC Tryz.prog 20 [dM p, iv l] (fun r => r = bv (qR p l && (A1 p l).isNone)) := by
 have h1 := L9 p l hl hs
 rw [← IG]
 have hb := JX p l
 generalize JH p l = a at *
 generalize Lu p l = c at *
 (refine aS Tryz.func20 rfl (by simp [Tryz.ntmps20]) ?_; rw [Tryz.ntmps20])
 repeat' (first|(apply aL;first|((with_reducible apply aI (k := 17));(case ha => rfl);(case h => exact h1);(case hp => (exact Pur.pf));(case hN => rfl))|(apply aE;rfl;rfl)|(apply aV;rfl;rfl;(exact (rfl:_=[_, _]));rfl;rfl;rfl)|(first|(apply a6;rfl;rfl;rfl;(assumption))|(apply a7;rfl;rfl;rfl;(assumption))|(apply bI;(case hj|hb|hN => rfl);all_goals (intro hg;have hq := hg;(try simp only [cH] at hq);(try (exfalso;omega)))))|(apply aT;rfl;rfl;rfl;rfl)|(apply aC;rfl;rfl)|(first|(apply bT;rfl;(assumption);rfl;rfl)|(apply bH;rfl;(assumption);rfl;rfl))|(apply aF;kernel_rfl)|(apply bQ;rfl;rfl;rfl;rfl)|(apply a8;rfl;rfl;rfl))|(apply aM;first|apply aH|apply aB|apply aQ)|with_reducible apply aA)
 all_goals (refine aO rfl ⟨?_, rfl⟩; simp only [bV]; first|(simp_all;done)|(simp_all;omega))
theorem Hs {p : Prg} {l : Int} {L : List Iss} (hL : cZ p = true → ∃ f : Flows p.types (cX p), L = f.iss) (ha : (cZ p && L.isEmpty) = true) (h0 : 0 ≤ l) (h6 : l ≤ 6) : (qR p l && (A1 p l).isNone) = true := by
 have hv := (Bool.and_eq_true _ _ ▸ ha).1
 have h8 : qR p l = true := oF.2 ⟨hv, h0, h6⟩
 rw [h8, Bool.true_and, Option.isNone_iff_eq_none]
 unfold A1
 rw [if_pos h8]
 refine Dm fun j _ => ?_
 unfold nD
 rcases wL (cs := vC j l.toNat) (n := 80) hL ha with q|q | ⟨_, q⟩
 ·rw [q]; rfl
 ·rw [q]; rfl
 ·omega
theorem xT (bs : List UInt8) : PC Tryz.prog 6 [sl cU bs] (fun r => r = bv true) := by
 rcases Nat.lt_or_ge 1048576 bs.length with hb|hb
 ·(refine aS Tryz.func6 rfl (by simp [Tryz.ntmps6]) ?_; rw [Tryz.ntmps6])
  repeat' (first|(apply aL;first|(apply aE;rfl;rfl)|(apply aT;rfl;rfl;rfl;rfl)|(apply aC;rfl;rfl)|(apply bF;rfl;rfl;rfl)|(apply aF;kernel_rfl))|(apply aM;first|apply aH|apply aB|(apply aP;rfl;all_goals intro hc;have hq:=hc;(try simp only [cH] at hq);try exfalso;omega)|apply aQ)|with_reducible apply aA|with_reducible apply bD)
  exact aO rfl ⟨rfl, rfl⟩
 (refine aS Tryz.func6 rfl (by simp [Tryz.ntmps6]) ?_; rw [Tryz.ntmps6])
 repeat' (first|(apply aL;first|((with_reducible apply gK (k := 22));(case ha => rfl);(case h => exact Fe bs hb);(case hp => (exact Pur.pf));(case hN => rfl);(rintro _ ⟨q, n, rfl, hq1, hq2, hq3, hq4⟩ _))|(with_reducible apply cS (d := 15))|(apply aE;rfl;rfl)|(apply aT;rfl;rfl;rfl;rfl)|(apply aC;rfl;rfl)|(apply bF;rfl;rfl;rfl)|(apply aF;kernel_rfl)|(apply bE;rfl;rfl)|(apply a8;rfl;rfl;rfl)|(apply aW;rfl;rfl;rfl;rfl;rfl;(case hl => (simp;done));(exact (rfl:_=[_, _]))))|(apply aM;first|apply aH|apply aB|(apply aP;rfl;all_goals intro hc;have hq:=hc;(try simp only [cH] at hq);try exfalso;omega)|apply aR)|with_reducible apply aA)
 refine dP ?_
 have h1 := I0 q n (by omega) (by omega)
 have h2 := HS q n (by omega) (by omega)
 have h3 := l5 q (by omega) (by omega)
 obtain ⟨L, _, hA, _, hL⟩ := yL q (by omega) (by omega)
 have hs := Hs (p := q) (l := n) hL
 have hv : (cZ q && L.isEmpty) = true → cZ q = true := fun h => (Bool.and_eq_true _ _ ▸ h).1
 generalize (cZ q && L.isEmpty) = ac at *
 generalize (qR q n && (A1 q n).isNone) = sf at *
 generalize cZ q = vd at *
 repeat' (first|(apply aL;first|((with_reducible apply aI (k := 20));(case ha => rfl);(case h => exact h1);(case hp => (exact Pur.pf));(case hN => rfl))|((with_reducible apply aI (k := 23));(case ha => rfl);(case h => exact h2);(case hp => (exact Pur.pf));(case hN => rfl))|((with_reducible apply aI (k := 15));(case ha => rfl);(case h => exact hA);(case hp => (exact Pur.pf));(case hN => rfl))|((with_reducible apply aI (k := 25));(case ha => rfl);(case h => exact h3);(case hp => (exact Pur.pf));(case hN => rfl))|(apply aE;rfl;rfl)|(apply aV;rfl;rfl;(exact (rfl:_=[_, _]));rfl;rfl;rfl)|(first|(apply fZ;rfl;rfl;rfl)|(apply a6;rfl;rfl;rfl;(assumption))|(apply a7;rfl;rfl;rfl;(first|rfl|assumption))|(apply bI;(case hj|hb|hN => rfl);all_goals (intro hg;have hq := hg;(try simp only [cH] at hq);(try (exfalso;omega)))))|(first|(apply IY;rfl;rfl;rfl;rfl)|(apply aT;rfl;rfl;rfl;rfl))|(apply aC;rfl;rfl)|(first|(apply bT;rfl;(first|rfl|assumption);rfl;rfl)|(apply bH;rfl;(first|rfl|assumption);rfl;rfl))|(apply aF;kernel_rfl)|(apply cG;rfl;rfl))|(apply aM;first|apply aH|apply aB|apply aQ)|with_reducible apply aA)
 all_goals first
  | (exfalso;exact (by assumption : ¬ True) trivial)
  | (refine aO rfl ⟨?_, rfl⟩; simp only [bV, decide_true]; done)
  | (refine aO rfl ⟨?_, rfl⟩; simp only [bV]; grind)
def nE (F : Nat → List Bool) (b k : Nat) : List Int := ((List.range k).filter fun i => (F i)[b]!).map fun (i : Nat) => (i : Int)
theorem Fl {F : Nat → List Bool} {b k : Nat} (h : (F k)[b]! = true) : nE F b (k + 1) = nE F b k ++ [(k : Int)] := by
 unfold nE;rw [List.range_succ, List.filter_append, List.map_append, List.filter_cons_of_pos (p := fun i => (F i)[b]!) h]; rfl
theorem D5 {F : Nat → List Bool} {b k : Nat} (h : (F k)[b]! = false) : nE F b (k + 1) = nE F b k := by
 unfold nE;rw [List.range_succ, List.filter_append, List.map_append, List.filter_cons_of_neg (p := fun i => (F i)[b]!) (by rw [h]; decide)]; simp
theorem AJ {F : Nat → List Bool} {b k : Nat} : (nE F b k).length ≤ k := by
 unfold nE;rw [List.length_map]; exact Nat.le_trans (List.length_filter_le _ _) (by rw [List.length_range]; exact Nat.le_refl _)
theorem Ez (p : Prg) (b : Nat) (F : Nat → List Bool) (hv : cZ p = true) (hb : b < (cX p).length) (hF : ∀ i, i < (cX p).length → GoodR (cX p) i (F i)) (hl : p.types.length ≤ 1000000) (hs : b9 p.body ≤ 1000000) : PC Tryz.prog 33 [dM p, iv (b : Int)] (fun r => r = sl cI (nE F b (cX p).length)) := by
 have w := WG.of_valid hv
 have hpl := w.pl
 have hg := Dw p b hl hs ⟨hv, by omega, by omega⟩
 (refine aS Tryz.func33 rfl (by simp [Tryz.ntmps33]) ?_; rw [Tryz.ntmps33])
 repeat' (first|(apply aL;first|((with_reducible apply aI (k := 62));(case ha => rfl);(case h => exact hg);(case hp => (exact Pur.pf));(case hN => rfl))|(apply aE;rfl;rfl)|(first|(apply aN;rfl;rfl;rfl;rfl)|(apply aV;rfl;rfl;(exact (rfl:_=[_, _]));rfl;rfl;rfl))|(apply aD;rfl;rfl;rfl)|(apply aC;rfl;rfl)|(apply bF;rfl;rfl;rfl)|(apply aF;kernel_rfl)|(apply cG;rfl;rfl)|(apply bZ;rfl;rfl;rfl)|(apply bQ;rfl;rfl;rfl;rfl)|(apply a8;rfl;rfl;rfl)|((apply bC (t := _));(case hze|hsm|hl => rfl);(case hfl => exact (rfl:_=some [_]));(case hM|hN => rfl)))|(apply aM;first|apply aH|apply aB|(apply cF;rfl;(rfl))|apply aK|apply aR)|with_reducible apply aA)
 refine AW.le ?_ (Le.nilOwn (d := 7) 1 rfl (by decide))
 refine bB (σ := Nat × List Int × Nat) [1, 5, 22] [(1, _), (5, _), (22, _)] [0] [(0, some _)] (fun k => [(23, iv (k.1 : Int)), (7, .own 2 0 k.2.2 1)]) (fun k => [(2, some (aJ cI k.2.1))]) (fun k => k.1 ≤ (cX p).length ∧ k.2.1 = nE F b k.1 ∧ k.2.2 = k.2.1.length) (fun k => (cX p).length - k.1) (0, [], 0) ⟨Nat.zero_le _, rfl, rfl⟩ rfl rfl (by repeat' (first|exact trivial|refine And.intro rfl ?_)) (by repeat' (first|exact trivial|refine And.intro (.inr rfl) ?_)) ?_
 rintro ⟨k, xs, m⟩ ⟨hk, hxs, hm⟩
 dsimp only at hk hxs hm
 try dsimp only
 have hxl := AJ (F := F) (b := b) (k := k)
 have hh := Fl (F := F) (b := b) (k := k)
 have hk2 := D5 (F := F) (b := b) (k := k)
 rw [← hxs] at hxl hh hk2
 by_cases hkn : k < (cX p).length
 ·have hfr := J6 p.types p.body (cX p) k (F k) w hkn (hF k hkn)
  have hFl := (hF k hkn).l
  generalize F k = G at *
  repeat' (first|(apply aL;first|((with_reducible apply aI (k := 64));(case ha => rfl);(case h => exact hfr);(case hp => (exact Pur.pf));(case hN => rfl))|(apply aE;rfl;rfl)|(apply aN;rfl;rfl;rfl;rfl)|(first|(apply bS;rfl;rfl;omega;rfl)|(apply aT;rfl;rfl;rfl;rfl))|(apply aC;rfl;rfl)|(apply aZ;(case hx|hi => rfl);(case hm => (omega));(case hml => (rfl));(case hα | hf|hg => infer_instance);(case hN => rfl))|(apply bY;rfl;rfl;rfl;rfl;rfl;(rw [aU]; omega);(rfl);omega;omega;(exact gL (by (assumption)));rfl;rfl)|(apply aF;kernel_rfl)|((apply bC (t := _));(case hze|hsm|hl => rfl);(case hfl => exact (rfl:_=some [_]));(case hM|hN => rfl)))|(apply aM;first|apply aH|apply aB|(apply aP;rfl;all_goals intro hc;have hq:=hc;(try simp only [cH] at hq);try exfalso;omega)|apply aK|apply aR)|with_reducible apply aA|with_reducible apply aX)
  ·(apply dK (k + 1, _, m + 1); focus (refine Le.ren [(0, 0), (2, 4)] rfl (by decide) ?_ ?_ <;> repeat' (first | exact trivial | refine And.intro ⟨_, rfl, ?_⟩ ?_ | refine And.intro ⟨_, _, rfl, rfl, ?_⟩ ?_ | exact Or.inr rfl | refine Or.inl ⟨?_, (by first | rfl | exact aY _ _ | exact Pur.pf)⟩ | rfl)))
   ·exact ⟨by dsimp only;omega, (hh (by assumption)).symm, by simp [hm]⟩
   ·dsimp only;omega
  ·(apply dK (k + 1, xs, m); focus (refine Le.ren [(0, 0), (2, 2)] rfl (by decide) ?_ ?_ <;> repeat' (first | exact trivial | refine And.intro ⟨_, rfl, ?_⟩ ?_ | refine And.intro ⟨_, _, rfl, rfl, ?_⟩ ?_ | exact Or.inr rfl | refine Or.inl ⟨?_, (by first | rfl | exact aY _ _ | exact Pur.pf)⟩ | rfl)))
   ·exact ⟨by dsimp only;omega, (hk2 (by assumption)).symm, hm⟩
   ·dsimp only;omega
 ·obtain rfl : k = (cX p).length := by omega
  repeat' (first|(apply aL;first|(apply aE;rfl;rfl)|(apply aT;rfl;rfl;rfl;rfl)|(apply aC;rfl;rfl)|(apply aF;kernel_rfl))|(apply aM;first|apply aH|apply aB|(apply aP;rfl;all_goals intro hc;have hq:=hc;(try simp only [cH] at hq);try exfalso;omega)|apply bJ|apply aQ)|with_reducible apply aA|with_reducible apply bO|with_reducible apply bK)
  refine cE (Le.frzD (d := 4) (i := 2) rfl rfl) ?_
  refine aO rfl ⟨?_, (by (exact aY _ _))⟩
  subst hm;rw [hxs]; rfl
theorem Gj {F : Nat → List Bool} {b k c : Nat} (hc : c < k) (h : (F c)[b]! = true) : (c : Int) ∈ nE F b k := by
 unfold nE
 exact List.mem_map.2 ⟨c, List.mem_filter.2 ⟨List.mem_range.2 hc, h⟩, rfl⟩
theorem Gx {p : Prg} {cs : List Int} {n : Int} {L : List Iss} (hL : cZ p = true → ∃ f : Flows p.types (cX p), L = f.iss) (h : sS p cs n = 3 ∨ sS p cs n = 4) : cZ p = true ∧ ∃ b : Nat, GG p cs n = (b : Int) ∧ b < (cX p).length ∧
  ∀ F, (∀ i, i < (cX p).length → GoodR (cX p) i (F i)) → ∃ j, j < L.length ∧ L[j]!.kind ≠ 1 ∧ L[j]!.point ∈ nE F b (cX p).length := by
 unfold sS at h
 by_cases hr : yW p n = true
 ·rw [if_pos hr] at h
  obtain ⟨hv, h1, h2⟩ := tK.1 hr
  have w := WG.of_valid hv
  obtain ⟨f, e⟩ := hL hv
  obtain ⟨c, i, hi, hc, hcl, h3⟩ := Cx w (WA.of_valid hv) f cs n.toNat (by omega) ⟨by omega, by omega⟩
  rcases h3 with ⟨h3, _⟩ | ⟨_, h3, h4⟩
  ·omega
  ·have hw : Wy (cX p) c (eJ p.types (cX p) cs n.toNat).2.2 := h4
   have hb := hw.lt w.nx
   refine ⟨hv, _, by unfold GG;rw [if_pos hr], hb, fun F hF => ?_⟩
   rw [← e] at hi
   obtain ⟨j, hj, he⟩ := List.getElem_of_mem hi
   refine ⟨j, hj, ?_, ?_⟩
   ·rw [cT _ _ hj, he]; exact h3
   ·rw [cT _ _ hj, he, hc]; exact Gj hcl (((hF c hcl).g _ hb).2 hw)
 ·rw [if_neg hr] at h;omega
theorem yQ (bs : List UInt8) : PC Tryz.prog 9 [sl cU bs] (fun r => r = bv true) := by
 rcases Nat.lt_or_ge 1048576 bs.length with hb|hb
 ·(refine aS Tryz.func9 rfl (by simp [Tryz.ntmps9]) ?_; rw [Tryz.ntmps9])
  repeat' (first|(apply aL;first|(apply aE;rfl;rfl)|(apply aT;rfl;rfl;rfl;rfl)|(apply aC;rfl;rfl)|(apply bF;rfl;rfl;rfl)|(apply aF;kernel_rfl))|(apply aM;first|apply aH|apply aB|(apply aP;rfl;all_goals intro hc;have hq:=hc;(try simp only [cH] at hq);try exfalso;omega)|apply aQ)|with_reducible apply aA|with_reducible apply bD)
  exact aO rfl ⟨rfl, rfl⟩
 (refine aS Tryz.func9 rfl (by simp [Tryz.ntmps9]) ?_; rw [Tryz.ntmps9])
 repeat' (first|(apply aL;first|((with_reducible apply gK (k := 12));(case ha => rfl);(case h => exact vQ bs hb);(case hp => (exact Pur.pf));(case hN => rfl);(rintro _ ⟨q, cs, n, rfl, hq1, hq2, hq3, hq4, hq5⟩ _))|(with_reducible apply cS (d := 22))|(apply aE;rfl;rfl)|(apply aT;rfl;rfl;rfl;rfl)|(apply aC;rfl;rfl)|(apply bF;rfl;rfl;rfl)|(apply aF;kernel_rfl)|(apply bE;rfl;rfl)|(apply a8;rfl;rfl;rfl)|(apply aW;rfl;rfl;rfl;rfl;rfl;(case hl => (simp;done));(exact (rfl:_=[_, _]))))|(apply aM;first|apply aH|apply aB|(apply aP;rfl;all_goals intro hc;have hq:=hc;(try simp only [cH] at hq);try exfalso;omega)|apply aR)|with_reducible apply aA)
 refine dP ?_
 have h1 := Cc q cs n (by omega) (by omega) (by omega)
 have h2 := Bn q cs n (by omega) (by omega) (by omega)
 obtain ⟨L, hC, _, hLl, hL⟩ := yL q (by omega) (by omega)
 have hlo := Gx (p := q) (cs := cs) (n := n) hL
 by_cases hE : sS q cs n = 3 ∨ sS q cs n = 4
 ·obtain ⟨hv, b, ha, hbl, hF⟩ := hlo hE
  rw [ha] at h1 h2
  obtain ⟨F, hFg⟩ : ∃ F : Nat → List Bool, ∀ i, i < (cX q).length → GoodR (cX q) i (F i) := ⟨fun i => Classical.choose (GoodR.exist (cX q) i), fun i _ => Classical.choose_spec (GoodR.exist (cX q) i)⟩
  have hpt := Ez q b F hv hbl hFg (by omega) (by omega)
  have hin : ∀ z : Int, PC Tryz.prog 29 [sl cI (nE F b (cX q).length), iv z] (fun r => r = bv (decide (z ∈ nE F b (cX q).length))) := fun z => Lc _ z (by have := AJ (F := F) (b := b) (k := (cX q).length);have := (WG.of_valid hv).pl;omega)
  obtain ⟨j0, hj0, hj1, hj2⟩ := hF F hFg
  generalize nE F b (cX q).length = T at *
  rcases hE with hE|hE
  ·rw [hE] at h1 h2
   repeat' (first|(apply aL;first|((with_reducible apply aI (k := 13));(case ha => rfl);(case h => exact h1);(case hp => (exact Pur.pf));(case hN => rfl))|((with_reducible apply aI (k := 14));(case ha => rfl);(case h => exact h2);(case hp => (exact Pur.pf));(case hN => rfl))|((with_reducible apply aI (k := 32));(case ha => rfl);(case h => exact hC);(case hp => (exact Pur.pf));(case hN => rfl))|(apply aE;rfl;rfl)|(apply aV;rfl;rfl;(exact (rfl:_=[_, _]));rfl;rfl;rfl)|(first|(apply fZ;rfl;rfl;rfl)|(apply a6;rfl;rfl;rfl;(first|rfl|assumption))|(apply a7;rfl;rfl;rfl;(first|rfl|assumption))|(apply bI;(case hj|hb|hN => rfl);all_goals (intro hg;have hq := hg;(try simp only [cH] at hq);(try (exfalso;omega)))))|(apply aT;rfl;rfl;rfl;rfl)|(apply aC;rfl;rfl)|(first|(apply bT;rfl;(first|rfl|assumption);rfl;rfl)|(apply bH;rfl;(first|rfl|assumption);rfl;rfl))|(apply aF;kernel_rfl)|(apply a8;rfl;rfl;rfl))|(apply aM;first|apply aH|apply aB|(apply b8;rfl;(rfl))|(apply cF;rfl;(rfl))|apply aK|apply aR|apply aQ)|with_reducible apply aA|with_reducible apply bD)
   all_goals try (exfalso;exact (by assumption : ¬ True) trivial)
   refine bB (σ := Nat) [3, 7, 10] [(3, _), (7, _), (10, _)] [0] [(0, some _)] (fun k => [(11, iv (k : Int))]) (fun k => []) (fun k => k ≤ L.length ∧ ∀ j, j < k → ¬ (L[j]!.kind ≠ 1 ∧ L[j]!.point ∈ T)) (fun k => L.length - k) (0) ⟨Nat.zero_le _, fun j hj => by omega⟩ rfl rfl (by repeat' (first|exact trivial|refine And.intro rfl ?_)) (by repeat' (exact trivial)) ?_
   rintro k ⟨hk, hall⟩
   repeat' (first|(apply aL;first|((with_reducible apply aI (k := 33));(case ha => rfl);(case h => exact hpt);(case hp => (exact Pur.pf));(case hN => rfl))|((with_reducible apply aI (k := 29));(case ha => rfl);(case h => exact hin _);(case hp => (exact Pur.pf));(case hN => rfl))|(apply aE;rfl;rfl)|(first|(apply aN;rfl;rfl;rfl;rfl)|(apply aV;rfl;rfl;(exact (rfl:_=[_, _]));rfl;rfl;rfl))|(apply aD;rfl;rfl;rfl)|(first|(apply a6;rfl;rfl;rfl;(assumption))|(apply a7;rfl;rfl;rfl;(assumption))|(apply bI;(case hj|hb|hN => rfl);all_goals (intro hg;have hq := hg;(try simp only [cH] at hq);(try (exfalso;omega)))))|(first|(apply bS;rfl;rfl;omega;rfl)|(apply aT;rfl;rfl;rfl;rfl))|(apply aC;rfl;rfl)|(first|(apply bT;rfl;(assumption);rfl;rfl)|(apply bH;rfl;(assumption);rfl;rfl))|(apply aZ;(case hx|hi => rfl);(case hm => (omega));(case hml => (rfl));(case hα | hf|hg => infer_instance);(case hN => rfl))|(apply bF;rfl;rfl;rfl)|(apply aF;kernel_rfl))|(apply aM;first|apply aH|apply aB|(apply b0;kernel_rfl)|(apply cF;rfl;(rfl))|(apply aP;rfl;all_goals intro hc;have hq:=hc;(try simp only [cH] at hq);try exfalso;omega)|apply aK|apply aR|apply bJ|apply aQ)|with_reducible apply aA|with_reducible apply bD|with_reducible apply bO|with_reducible apply aX|with_reducible apply cL|with_reducible apply bK)
   ·exact aO rfl ⟨rfl, rfl⟩
   ·(apply dK (k + 1); focus (refine Le.ren [(0, 0)] rfl (by decide) ?_ ?_ <;> repeat' (first | exact trivial | refine And.intro ⟨_, rfl, ?_⟩ ?_ | refine And.intro ⟨_, _, rfl, rfl, ?_⟩ ?_ | exact Or.inr rfl | refine Or.inl ⟨?_, (by first | rfl | exact aY _ _ | exact Pur.pf)⟩ | rfl)))
    ·exact ⟨by omega, fun j hj h => by
      by_cases q : j = k
      ·subst q;exact (by assumption : ¬ L[j]!.point ∈ T) h.2
      ·exact hall j (by omega) h⟩
    ·omega
   ·(apply dK (k + 1); focus (refine Le.ren [(0, 0)] rfl (by decide) ?_ ?_ <;> repeat' (first | exact trivial | refine And.intro ⟨_, rfl, ?_⟩ ?_ | refine And.intro ⟨_, _, rfl, rfl, ?_⟩ ?_ | exact Or.inr rfl | refine Or.inl ⟨?_, (by first | rfl | exact aY _ _ | exact Pur.pf)⟩ | rfl)))
    ·exact ⟨by omega, fun j hj h => by
      by_cases q : j = k
      ·subst q;exact h.1 (by assumption)
      ·exact hall j (by omega) h⟩
    ·omega
   ·exact (hall j0 (by omega) ⟨hj1, hj2⟩).elim
  ·rw [hE] at h1 h2
   repeat' (first|(apply aL;first|((with_reducible apply aI (k := 13));(case ha => rfl);(case h => exact h1);(case hp => (exact Pur.pf));(case hN => rfl))|((with_reducible apply aI (k := 14));(case ha => rfl);(case h => exact h2);(case hp => (exact Pur.pf));(case hN => rfl))|((with_reducible apply aI (k := 32));(case ha => rfl);(case h => exact hC);(case hp => (exact Pur.pf));(case hN => rfl))|(apply aE;rfl;rfl)|(apply aV;rfl;rfl;(exact (rfl:_=[_, _]));rfl;rfl;rfl)|(first|(apply fZ;rfl;rfl;rfl)|(apply a6;rfl;rfl;rfl;(first|rfl|assumption))|(apply a7;rfl;rfl;rfl;(assumption))|(apply bI;(case hj|hb|hN => rfl);all_goals (intro hg;have hq := hg;(try simp only [cH] at hq);(try (exfalso;omega)))))|(apply aT;rfl;rfl;rfl;rfl)|(apply aC;rfl;rfl)|(first|(apply bT;rfl;(first|rfl|assumption);rfl;rfl)|(apply bH;rfl;(first|rfl|assumption);rfl;rfl))|(apply aF;kernel_rfl)|(apply a8;rfl;rfl;rfl))|(apply aM;first|apply aH|apply aB|(apply b8;rfl;(rfl))|(apply cF;rfl;(rfl))|apply aK|apply aR|apply aQ)|with_reducible apply aA|with_reducible apply bD)
   all_goals try (exfalso;exact (by assumption : ¬ True) trivial)
   refine bB (σ := Nat) [3, 7, 10] [(3, _), (7, _), (10, _)] [0] [(0, some _)] (fun k => [(11, iv (k : Int))]) (fun k => []) (fun k => k ≤ L.length ∧ ∀ j, j < k → ¬ (L[j]!.kind ≠ 1 ∧ L[j]!.point ∈ T)) (fun k => L.length - k) (0) ⟨Nat.zero_le _, fun j hj => by omega⟩ rfl rfl (by repeat' (first|exact trivial|refine And.intro rfl ?_)) (by repeat' (exact trivial)) ?_
   rintro k ⟨hk, hall⟩
   repeat' (first|(apply aL;first|((with_reducible apply aI (k := 33));(case ha => rfl);(case h => exact hpt);(case hp => (exact Pur.pf));(case hN => rfl))|((with_reducible apply aI (k := 29));(case ha => rfl);(case h => exact hin _);(case hp => (exact Pur.pf));(case hN => rfl))|(apply aE;rfl;rfl)|(first|(apply aN;rfl;rfl;rfl;rfl)|(apply aV;rfl;rfl;(exact (rfl:_=[_, _]));rfl;rfl;rfl))|(apply aD;rfl;rfl;rfl)|(first|(apply a6;rfl;rfl;rfl;(assumption))|(apply a7;rfl;rfl;rfl;(assumption))|(apply bI;(case hj|hb|hN => rfl);all_goals (intro hg;have hq := hg;(try simp only [cH] at hq);(try (exfalso;omega)))))|(first|(apply bS;rfl;rfl;omega;rfl)|(apply aT;rfl;rfl;rfl;rfl))|(apply aC;rfl;rfl)|(first|(apply bT;rfl;(assumption);rfl;rfl)|(apply bH;rfl;(assumption);rfl;rfl))|(apply aZ;(case hx|hi => rfl);(case hm => (omega));(case hml => (rfl));(case hα | hf|hg => infer_instance);(case hN => rfl))|(apply bF;rfl;rfl;rfl)|(apply aF;kernel_rfl))|(apply aM;first|apply aH|apply aB|(apply b0;kernel_rfl)|(apply cF;rfl;(rfl))|(apply aP;rfl;all_goals intro hc;have hq:=hc;(try simp only [cH] at hq);try exfalso;omega)|apply aK|apply aR|apply bJ|apply aQ)|with_reducible apply aA|with_reducible apply bD|with_reducible apply bO|with_reducible apply aX|with_reducible apply cL|with_reducible apply bK)
   ·exact aO rfl ⟨rfl, rfl⟩
   ·(apply dK (k + 1); focus (refine Le.ren [(0, 0)] rfl (by decide) ?_ ?_ <;> repeat' (first | exact trivial | refine And.intro ⟨_, rfl, ?_⟩ ?_ | refine And.intro ⟨_, _, rfl, rfl, ?_⟩ ?_ | exact Or.inr rfl | refine Or.inl ⟨?_, (by first | rfl | exact aY _ _ | exact Pur.pf)⟩ | rfl)))
    ·exact ⟨by omega, fun j hj h => by
      by_cases q : j = k
      ·subst q;exact (by assumption : ¬ L[j]!.point ∈ T) h.2
      ·exact hall j (by omega) h⟩
    ·omega
   ·(apply dK (k + 1); focus (refine Le.ren [(0, 0)] rfl (by decide) ?_ ?_ <;> repeat' (first | exact trivial | refine And.intro ⟨_, rfl, ?_⟩ ?_ | refine And.intro ⟨_, _, rfl, rfl, ?_⟩ ?_ | exact Or.inr rfl | refine Or.inl ⟨?_, (by first | rfl | exact aY _ _ | exact Pur.pf)⟩ | rfl)))
    ·exact ⟨by omega, fun j hj h => by
      by_cases q : j = k
      ·subst q;exact h.1 (by assumption)
      ·exact hall j (by omega) h⟩
    ·omega
   ·exact (hall j0 (by omega) ⟨hj1, hj2⟩).elim
 ·generalize sS q cs n = e at *
  generalize GG q cs n = a at *
  repeat' (first|(apply aL;first|((with_reducible apply aI (k := 13));(case ha => rfl);(case h => exact h1);(case hp => (exact Pur.pf));(case hN => rfl))|((with_reducible apply aI (k := 14));(case ha => rfl);(case h => exact h2);(case hp => (exact Pur.pf));(case hN => rfl))|(apply aE;rfl;rfl)|(apply aV;rfl;rfl;(exact (rfl:_=[_, _]));rfl;rfl;rfl)|(first|(apply fZ;rfl;rfl;rfl)|(apply a6;rfl;rfl;rfl;(assumption))|(apply a7;rfl;rfl;rfl;(first|rfl|assumption))|(apply bI;(case hj|hb|hN => rfl);all_goals (intro hg;have hq := hg;(try simp only [cH] at hq);(try (exfalso;omega)))))|(apply aT;rfl;rfl;rfl;rfl)|(apply aC;rfl;rfl)|(first|(apply bT;rfl;(first|rfl|assumption);rfl;rfl)|(apply bH;rfl;(assumption);rfl;rfl))|(apply aF;kernel_rfl)|(apply a8;rfl;rfl;rfl))|(apply aM;first|apply aH|apply aB|(apply b8;rfl;(rfl))|(apply aP;rfl;all_goals intro hc;have hq:=hc;(try simp only [cH] at hq);try exfalso;omega)|apply aQ)|with_reducible apply aA|with_reducible apply bD)
  all_goals first
   | (exfalso;exact (by assumption : ¬ True) trivial)
   | (refine aO rfl ⟨?_, rfl⟩; simp only [bV, decide_true]; done)
   | (exfalso;grind)
end Go.Proofs.YtckihjkcgfphmaaGreat
namespace Go.Proofs.YtckihjkcgfphmaaGreat
open Go.AL Go.ChangeShapes Go.WideShapes Go.ChangeAt Go.RowKit
theorem wC {w : World} {bad : Nat → Prop} {ι : Pl} {b : Nat} : ∀ (bs : List UInt8) (o : Nat), ¬ bad b → (∀ j, j < bs.length → w.cell? ⟨b, o + j, none⟩ = some (.int .u8 ((bs[j]!).toNat : Int))) → RdC w bad ι (aJ cU bs) b o
 | [], _, _, _ => by simp only [aJ, List.flatMap_nil, RdC]
 | x :: bs, o, hb, h => by
  have h0 := h 0 (by simp)
  have e : aJ cU (x :: bs) = .v (.int .u8 (x.toNat : Int)) :: aJ cU bs := rfl
  rw [e]
  simp only [RdC]
  refine ⟨⟨.int .u8 (x.toNat : Int), by simpa using h0, rfl, by simp only [Rd]⟩, wC bs (o + 1) hb fun j hj => ?_⟩
  have := h (j + 1) (by simpa using hj)
  rw [show o + 1 + j = o + (j + 1) from by omega]
  simpa using this
theorem mM {P : Program} {k : FuncId} {bs : List UInt8} (h : PC P k [sl cU bs] (fun r => r = bv true)) {W : World} {v : Value} (hv : Rd W (fun _ => False) (fun _ => none) (sl cU bs) v) :
  Calls P k #[v] W fun e W' => e = .returned (.bool true) ∧ Below W.heap.size W W' := by
 let C : Ctx := { N := 0, w0 := W, W0 := fun _ => False, X := fun _ => False, ι0 := fun _ => none, xlt := fun _ h => h.elim }
 have hbad : ∀ b, ¬ bG C.X (fun _ => none) (cQ []) b := by
  rintro b (h | ⟨id, cs, β, h1, h2⟩)
  ·exact h
  ·cases h2
 have g : HG C (fun _ => none) (fun j => 0 ≤ j) (cQ []) W :=
  ⟨fun id cs h => by simp [cQ] at h, fun id id' cs cs' b β β' h => by simp [cQ] at h, Fr.refl _ _, fun _ _ h => h, fun _ _ => rfl⟩
 have hcar : Carry W (fun _ => False) (fun _ => none) W (bG C.X (fun _ => none) (cQ [])) (fun _ => none) := ⟨fun b o x _ h2 => ⟨hbad b, h2⟩, fun _ _ h => h, fun _ => Nat.le_refl _⟩
 have ha : RdV W (bG C.X (fun _ => none) (cQ [])) (fun _ => none) [sl cU bs] [v] := by
  simp only [RdV]
  exact ⟨v, [], rfl, Rd.carry hcar _ _ hv, rfl⟩
 refine (h C _ W [v] rfl rfl g ha).mono ?_
 rintro e W' ⟨v', r, H', ι', rfl, ⟨rfl, _⟩, h4, h5⟩
 simp only [Rd] at h4
 subst h4
 have f := h5.fr
 exact ⟨rfl, f.os, f.tape, f.output, f.size, fun b hb => f.block b hb (fun h => h)⟩
theorem J8 : laidOutB Tryz.prog = true := by kernel_rfl
theorem JP : Tryz.prog.cellsOf 5 = 1 := by kernel_rfl
theorem sI {H : Type} {enc : TypeId × Value → H} {W : World} {base : Nat} {v0 : Value} {d0 : DataW H} {p : List MemPlace} (hval : Value.okWide Tryz.prog W .any base 22 v0) (h0 : DataW.Trod enc Tryz.prog W 0 (fun _ => true) true 22 v0 d0 p) :
  ∃ bs : List UInt8, Rd W (fun _ => False) (fun _ => none) (sl cU bs) v0 := by
 obtain ⟨a0, len, cap, rfl⟩ := okWide_slice Tryz.underlying22 hval
 obtain ⟨fuel, hf⟩ := h0
 rcases open_ints Tryz.underlying22 Tryz.underlying5 JP hf with ⟨hcs, hx⟩ | ⟨a, len', cap', zs, hcs, _, hl, hm, hz, hx, hcell, hwz⟩
 ·simp [Value.cells] at hcs
  obtain ⟨rfl, rfl, rfl⟩ := hcs
  refine ⟨[], ?_⟩
  simp only [Rd]
  exact ⟨none, 0, rfl, .inl rfl⟩
 ·simp [Value.cells] at hcs
  obtain ⟨rfl, rfl, rfl⟩ := hcs
  simp only [if_true] at hz
  refine ⟨(zs.take len).map fun n => UInt8.ofNat n.toNat, ?_⟩
  have hlen : ((zs.take len).map fun n => UInt8.ofNat n.toNat).length = len := by simp;omega
  simp only [Rd]
  refine ⟨some a, cap, by rw [hlen], ?_⟩
  by_cases h00 : len = 0
  ·exact .inl (by rw [hlen]; exact h00)
  ·obtain ⟨b, off, spot⟩ := a
   have hspot : spot = none := by simpa [Addr.add] using World.cell?_spot (hcell 0 (by omega))
   subst hspot
   refine .inr ⟨b, off, by rw [hlen]; exact hl, rfl, .inr ⟨fun h => h, wC _ _ (fun h => h) fun j hj => ?_⟩⟩
   rw [hlen] at hj
   have hcj := hcell j (by omega)
   rw [Addr.add_lit] at hcj
   rw [hcj]
   have e : zs.getD j 0 = zs[j]'(by omega) := by simp [List.getD, List.getElem?_eq_getElem (show j < zs.length by omega)]
   have hw := hwz (zs[j]'(by omega)) (List.getElem_mem _)
   have hr : 0 ≤ zs[j]'(by omega) ∧ zs[j]'(by omega) ≤ 255 := by simpa [Lit.wf, IntKind.min, IntKind.max, IntKind.signed, IntKind.bits] using hw
   rw [e, cT _ _ (by rw [hlen]; exact hj)]
   simp only [List.getElem_map, List.getElem_take]
   congr 2
   simp only [UInt8.toNat_ofNat']
   omega
end Go.Proofs.YtckihjkcgfphmaaGreat
