/-
 A part of the proofs over this program: rules and contracts of its functions (the contracts).
-/
import Derived.Test.YtckihjkcgfphmaaGreatP3B07
import Derived.Test.YtckihjkcgfphmaaGreatRows
import Derived.WalkKit
import Derived.ProofKit
import Derived.OpenShut
import Derived.Carry
import Derived.ChangeSlices
set_option linter.unusedVariables false
set_option linter.unusedSimpArgs false
set_option maxHeartbeats 8000000
set_option maxRecDepth 4000
attribute [local irreducible] Go.AL.RW Go.AL.AW Go.AL.Stop
namespace Go.Proofs.YtckihjkcgfphmaaGreat
open Go.AL Go.RowKit
theorem I9 {p : Prg} {cs : List Int} {n : Int} {N : Nat} {Q : Exit → AS → Prop} {all : Array Oper} {rest : List Oper} {tsl : List (Nat × AV)} {hsl : List (Nat × Option (List AV))} {nidl : Nat} {z0 : Lo} {md : Md} {d : Nat} {ty : TypeId} {pos : String} {af : Array Edge} {tys : Array TypeId} {x0 x1 x2 : Operand} (ha0 : ev (lk tsl) x0 = some (dF p)) (ha1 : ev (lk tsl) x1 = some (sl cI cs)) (ha2 : ev (lk tsl) x2 = some (iv n)) (hmc : MC Tryz.prog 41 [dF p, sl cI cs, iv n] [] 0 (fun _ : Unit => True) (fun _ => .tup [.optr 1 0, iv 5, iv 0]) (fun _ => [(1, some ([.v (.pointer none), .imm 0 [], .imm 0 [], .imm 0 []]))])) (hM : Nat.ble (nidl + 2) eZ = true) (hN : Nat.blt d N = true) {md' : Md} [hmd : MdA md (gK [x0, x1, x2] ++ []) (List.map Sum.inr (List.map Prod.fst ([((nidl + 1), some ([.v (.pointer none), .imm 0 [], .imm 0 [], .imm 0 []]))] : List (Nat × Option (List AV)))) ++ [.inl d]) md'] (kk : RW Tryz.prog N all Q md' rest ⟨(d, .tup [.optr (nidl + 1) 0, iv 5, iv 0]) :: tsl, iD hsl [((nidl + 1), some ([.v (.pointer none), .imm 0 [], .imm 0 [], .imm 0 []]))], nidl + 2, z0⟩) : RW Tryz.prog N all Q md (⟨some d, .call ⟨.value (.func 41), #[x0, x1, x2], tys⟩, ty, pos, af, none⟩ :: rest) ⟨tsl, hsl, nidl, z0⟩ := by
 refine cE [] 2 [((nidl + 1), some ([.v (.pointer none), .imm 0 [], .imm 0 [], .imm 0 []]))] hmc (avs := [dF p, sl cI cs, iv n]) ?_ rfl ?_ rfl ?_ (by simpa using hM) ?_ ?_ ?_ hN (md' := md') (hmd := hmd) kk
 ·show evL (lk tsl) [x0, x1, x2] = _
  simp only [evL, ha0, ha1, ha2]
 ·exact trivial
 ·(repeat' (exact RnL.purI inferInstance))
 ·(repeat' (first|exact RnL.purI inferInstance|exact RnV.optr rfl|refine RnL.cons ?_ ?_|refine RnV.tup ?_))
 ·simp [dJ]
 ·(repeat' (first|exact trivial|(refine And.intro ⟨1, _, rfl, rfl, ?_⟩ ?_)|exact RnL.purI inferInstance))
theorem Le.nilMid {ts : List (Nat × AV)} {hs : List (Nat × Option (List AV))} {n : Nat} {z0 : Lo} {i : Nat} (c1 : List AV) {c2 : List AV} (hi : cO hs i = some (c1 ++ .v (.slice none 0 0) :: c2)) :
  Le ⟨ts, hs, n, z0⟩ ⟨ts, (i, some (c1 ++ .imm 0 [] :: c2)) :: hs, n, z0⟩ :=
 Le.cells hi (by simp) fun w bad ι b β h => rK (fun y hy => by have := l0 (av := .v (.slice none 0 0)) hy;exact this) c1 c2 b β h
theorem Lt {ts : List Int} {pts : List Pnt} {a last : Nat} {l : List Nat} {s : Mc} : iK ts pts (a :: l) s last = if (e5 ts s pts[a]!).2 = -1 then iK ts pts l (e5 ts s pts[a]!).1 a else ((e5 ts s pts[a]!).1, (e5 ts s pts[a]!).2, a) := by
 rw [iK]
 by_cases h : dI ts s pts[a]! = true
 ·rw [if_pos h, vJ h, if_neg (show ¬ (2 : Int) = -1 by decide)]
 ·have h2 : dI ts s pts[a]! = false := by simpa using h
  rw [if_neg h, qU h2]
theorem LV {ts : List Int} {nt : Nat} {s : Mc} (h : OkS nt s) {x : Pnt} (hx : PtN x) : OkS nt (e5 ts s x).1 := by
 unfold e5;split
 ·exact h
 ·exact h.do hx
theorem HA {ts : List Int} {s : Mc} {x : Pnt} : (e5 ts s x).1.read.length ≤ s.read.length + 1 := by
 unfold e5;split
 ·dsimp only;omega
 ·exact Be
theorem ME {ts : List Int} {s : Mc} {x : Pnt} (ho : x.op = 6) (hz : cK s.cells s.slots[x.y.toNat]!.ptr false = 0) (hu : dI ts s x = false) (ht : ts[x.x.toNat]! = 1) : (e5 ts s x).2 = -1 := by
 rw [qU hu]
 unfold dA
 rw [if_neg (show ¬ x.op = 1 by omega), if_neg (show ¬ x.op = 2 by omega), if_neg (show ¬ x.op = 3 by omega), if_neg (show ¬ (x.op = 4 ∨ x.op = 5) by omega), if_pos ho, if_pos hz]
 unfold c5
 rw [if_neg (fun h => by have := h.1;omega)]
theorem K9 (p : Prg) (cs : List Int) (n : Int) (hl : p.types.length ≤ 1000000) (hs : bX p.body ≤ 1000000) (hr : zS p n = false) : MC Tryz.prog 41 [dF p, sl cI cs, iv n] [] 0 (fun _ : Unit => True) (fun _ => .tup [.optr 1 0, iv 5, iv 0]) (fun _ => [(1, some ([.v (.pointer none), .imm 0 [], .imm 0 [], .imm 0 []]))]) := by
 have hg := mR p hl hs
 unfold zS at hr
 by_cases hv : cS p = true
 ·rw [if_pos hv] at hg
  rw [hv] at hr
  have hnn : ¬ (0 ≤ n ∧ n ≤ 150) := fun h => by rw [decide_eq_true h.1, decide_eq_true h.2] at hr;cases hr
  (refine b9 Tryz.func41 rfl (by simp [Tryz.ntmps41]) ?_; rw [Tryz.ntmps41])
  repeat' (first|(apply aL;first|((with_reducible apply aJ (k := 62));(case ha => rfl);(case h => exact hg);(case hp => (exact Pur.pf));(case hN => rfl))|(apply aE;rfl;rfl)|(apply aV;rfl;rfl;(exact (rfl:_=[_, _]));rfl;rfl;rfl)|(apply a8;rfl;rfl;rfl;(rfl))|(apply aC;rfl;rfl)|(apply bQ;rfl;(rfl);rfl;rfl)|((with_reducible apply aJ (k := 84));(case ha => rfl);(case h => (apply eL <;> (fail)));(case hp => (rfl));(case hN => rfl))|(apply aF;kernel_rfl)|(apply b8;rfl;(exact (rfl:_=some [_, _, _, _]));(exact (rfl:_=[_, _, _, _]));rfl)|(apply cF;rfl;rfl)|(apply bH;rfl;rfl;rfl;rfl)|(apply bD;rfl;rfl;rfl))|(apply aM;first|apply aH|apply aB|(apply aQ;rfl;all_goals intro hc;have hq:=hc;(try simp only [cJ] at hq);try exfalso;omega)|apply aR)|with_reducible apply aA|with_reducible apply bG)
  ·(refine aO rfl ?_; refine bU () trivial ?_ ⟨.inr (Eq.trans (b := some _) rfl ?_), trivial⟩)
   ·rfl
   ·rfl
 ·rw [if_neg hv] at hg
  (refine b9 Tryz.func41 rfl (by simp [Tryz.ntmps41]) ?_; rw [Tryz.ntmps41])
  repeat' (first|(apply aL;first|((with_reducible apply aJ (k := 62));(case ha => rfl);(case h => exact hg);(case hp => (exact Pur.pf));(case hN => rfl))|(apply aE;rfl;rfl)|(apply aV;rfl;rfl;(exact (rfl:_=[_, _]));rfl;rfl;rfl)|(apply bC;rfl;rfl;rfl;(rfl))|(apply aC;rfl;rfl)|(apply bY;rfl;(rfl);rfl;rfl)|(apply aF;kernel_rfl)|(apply b8;rfl;(exact (rfl:_=some [_, _, _, _]));(exact (rfl:_=[_, _, _, _]));rfl)|(apply cF;rfl;rfl)|(apply bH;rfl;rfl;rfl;rfl)|(apply bD;rfl;rfl;rfl))|(apply aM;first|apply aH|apply aB|(apply cB;rfl;(rfl))|apply aR)|with_reducible apply aA|with_reducible apply bG)
  (refine aO rfl ?_; refine bU () trivial ?_ ⟨.inr (Eq.trans (b := some _) rfl ?_), trivial⟩)
  ·rfl
  ·rfl
theorem Ka (p : Prg) (cs : List Int) (n : Nat) (q : Mc × Int × Nat) (hqq : q = eR p.types (dC p) cs n) (hv : cS p = true) (hl : p.types.length ≤ 1000000) (hs : bX p.body ≤ 1000000) (hn : n ≤ 150) (hcl : cs.length ≤ 1000000) : MC Tryz.prog 41 [dF p, sl cI cs, iv (n : Int)] [] 0 (fun _ : Unit => True) (fun _ => .tup [.optr 2 0, iv q.2.1, iv (q.2.2 : Int)]) (fun _ => [(2, some (mO p.types p.body (dC p) 1 3 q.1)), (1, some (aI eG q.1.slots)), (3, some (aI cI q.1.read))]) := by
 have hg := mR p hl hs
 rw [if_pos hv] at hg
 have w := WG.of_valid hv
 have wa := WA.of_valid hv
 have hru := KC p.types p.body (dC p) cs n w wa (by omega) hcl
 have htl := w.tl
 have hpl := w.pl
 have hL := Bp w wa n 0 cs w.p0
 have hLl := rE (pts := dC p) n 0 cs
 unfold eR at hqq
 unfold wm at hru
 obtain ⟨L, hLe⟩ : ∃ L, L = (eJ (dC p) n 0 cs).1 := ⟨_, rfl⟩
 obtain ⟨dn, hdn⟩ : ∃ dn, dn = (eJ (dC p) n 0 cs).2 := ⟨_, rfl⟩
 rw [← hLe, ← hdn] at hru
 rw [← hLe] at hqq hL hLl
 have hgx : ∀ i, i < L.length → (L.map (fun a : Nat => (a : Int)))[i]! = (L[i]! : Int) := fun i h => by rw [cT _ _ (by rw [List.length_map]; exact h), List.getElem_map, cT _ _ h]
 have hml : (L.map (fun a : Nat => (a : Int))).length = L.length := List.length_map _
 generalize (L.map (fun a : Nat => (a : Int))) = LI at *
 generalize hP : dC p = pts at *
 (refine b9 Tryz.func41 rfl (by simp [Tryz.ntmps41]) ?_; rw [Tryz.ntmps41])
 repeat' (first|(apply aL;first|((with_reducible apply aJ (k := 62));(case ha => rfl);(case h => exact hg);(case hp => (exact Pur.pf));(case hN => rfl))|(with_reducible apply cV (d := 40))|(apply aE;rfl;rfl)|(first|(apply aN;rfl;rfl;rfl;rfl)|(apply aV;rfl;rfl;(exact (rfl:_=[_, _]));rfl;rfl;rfl))|(apply aD;rfl;rfl;rfl)|(apply a8;rfl;rfl;rfl;(rfl))|(apply aC;rfl;rfl)|(apply bQ;rfl;(rfl);rfl;rfl)|((with_reducible apply aJ (k := 84));(case ha => rfl);(case h => (apply eL <;> (fail)));(case hp => (rfl));(case hN => rfl))|(apply bI;rfl;rfl;rfl)|(apply aF;kernel_rfl)|(apply cF;rfl;rfl)|(apply cA;rfl;rfl;rfl)|(apply bH;rfl;rfl;rfl;rfl)|(apply bD;rfl;rfl;rfl)|(apply e7;rfl;rfl;rfl;omega;omega;(rfl);rfl;rfl))|(apply aM;first|apply aH|apply aB|(apply aQ;rfl;all_goals intro hc;have hq:=hc;(try simp only [cJ] at hq);try exfalso;omega)|apply aT)|with_reducible apply aA)
 refine dX ?_
 rw [show (List.replicate p.types.length ([Value.bool false, Value.int .i64 0, Value.int .i64 0, Value.int .i64 0].map AV.v)).flatten = aI eG (List.replicate p.types.length hU) from xQ rfl]
 apply Aw
 case hl => rfl
 case hf => exact (rfl:_=some [_, _, AV.v (.slice none 0 0), AV.v (.slice none 0 0)])
 case hN => rfl
 repeat' (first|(apply aL;first|(with_reducible apply cV (d := 43))|(apply aC;rfl;rfl)|(apply aF;kernel_rfl)|(apply bH;rfl;rfl;rfl;rfl))|(apply aM;first|apply aH|apply aB)|with_reducible apply aA)
 refine dX (jM ?_ (Le.nilMid (i := 2) [_, _] rfl))
 refine jM ?_ (Le.nilCell (i := 2) 1 [_, _, _] rfl (by decide) (by decide))
 repeat' (first|(apply aL;first|((with_reducible apply aJ (k := 85));(case ha => rfl);(case h => exact hru);(case hp => (exact Pur.pf));(case hN => rfl))|(apply aE;rfl;rfl)|(apply aC;rfl;rfl)|(apply bI;rfl;rfl;rfl)|(apply aF;kernel_rfl)|(apply bD;rfl;rfl;rfl))|(apply aM;first|apply aH|apply aB|apply aK)|with_reducible apply aA)
 refine bB (σ := Nat × Mc × Nat) [9, 11, 49, 50] [(9, _), (11, _), (49, _), (50, _)] [] [] (fun k => [(51, iv (k.1 : Int)), (14, iv (k.2.2 : Int))]) (fun k => [(2, some (mO p.types p.body pts 1 3 k.2.1)), (1, some (aI eG k.2.1.slots)), (3, some (aI cI k.2.1.read))]) (fun k => k.1 ≤ L.length ∧ iK p.types pts (L.drop k.1) k.2.1 k.2.2 = q ∧ OkS p.types.length k.2.1 ∧ k.2.1.read.length ≤ k.1) (fun k => L.length - k.1) (0, mc0 p.types.length, 0) ⟨Nat.zero_le _, hqq.symm, OkS.mc0 _, Nat.le_refl _⟩ rfl rfl (by repeat' (first|exact trivial|refine And.intro rfl ?_)) (by repeat' (first|exact trivial|refine And.intro (.inr rfl) ?_)) ?_
 rintro ⟨i, s, last⟩ ⟨hi, hf, hok, hrd⟩
 dsimp only at hi hf hok hrd ⊢
 by_cases hiL : i < L.length
 ·have hap := hL L[i]! (cM _ _ hiL)
  have hop := w.op L[i]! hap
  have hwx := w.x L[i]! hap
  have hwy := w.y L[i]! hap
  have hA := wa.a L[i]! hap
  have hg2 := hgx i hiL
  have hdr : L.drop i = L[i]! :: L.drop (i + 1) := by rw [List.drop_eq_getElem_cons hiL, cT _ _ hiL]
  rw [hdr, Lt] at hf
  have hpt : PtN pts[L[i]!]! := ⟨fun h => hA.n (.inr h)⟩
  have hdo := LV (ts := p.types) hok hpt
  have hdr2 := HA (ts := p.types) (s := s) (x := pts[L[i]!]!)
  by_cases h6 : pts[L[i]!]!.op = 6 ∧ cK s.cells s.slots[(pts[L[i]!]!).y.toNat]!.ptr false = 0 ∧ dI p.types s pts[L[i]!]! = false
  ·have hm6 := JR p.types p.body pts s pts[L[i]!]! htl hok.m hok.l h6.1 (by omega) (by omega) (by omega) h6.2.1 h6.2.2
   repeat' (first|(apply aL;first|(with_reducible apply cV (d := 16))|(apply aN;rfl;rfl;rfl;rfl)|(apply aU;rfl;rfl;rfl;rfl)|(apply a7;(case hx|hi => rfl);(case hm => (omega));(case hml => (rfl));(case hα | hf|hg => infer_instance);(case hN => rfl))|(apply aF;kernel_rfl))|(apply aM;first|apply aH|apply aB|(apply aQ;rfl;all_goals intro hc;have hq:=hc;(try simp only [cJ] at hq);try exfalso;omega)|apply aK|apply aT)|with_reducible apply aA)
   refine dX ?_
   rw [hg2]
   repeat' (first|(apply aL;first|((apply Jo (ts := p.types) (bd := p.body) (pts := pts) (s := s) (x := pts[L[i]!]!));(case ha0|ha1|hH0|hH1|hH2|hdd => rfl);(case hmc => exact hm6);(case hM|hN => rfl))|(apply aE;rfl;rfl)|(first|(apply aN;rfl;rfl;rfl;rfl)|(apply aV;rfl;rfl;(exact (rfl:_=[_, _, _, _, _]));rfl;rfl;rfl))|(apply aD;rfl;rfl;rfl)|(first|(apply bS;rfl;rfl;omega;rfl)|(apply aU;rfl;rfl;rfl;rfl))|(apply aC;rfl;rfl)|(apply a7;(case hx|hi => rfl);(case hm => (assumption));(case hml => (rfl));(case hα | hf|hg => infer_instance);(case hN => rfl))|(apply aF;kernel_rfl)|(apply cA;rfl;rfl;rfl))|(apply aM;first|apply aH|apply aB|(apply aQ;rfl;all_goals intro hc;have hq:=hc;(try simp only [cJ] at hq);try exfalso;omega)|apply aT|apply aR)|with_reducible apply aA|with_reducible apply bG|with_reducible apply aX|with_reducible apply cP)
   ·exfalso
    have h9 : ¬ (e5 p.types s pts[L[i]!]!).2 = -1 := by assumption
    exact h9 (ME h6.1 h6.2.1 h6.2.2 (hA.t6 h6.1).1)
   ·(apply dK (i + 1, (e5 p.types s pts[L[i]!]!).1, L[i]!); focus (refine Le.ren [(1, 1), (2, 2), (3, 6)] rfl (by decide) ?_ ?_ <;> repeat' (first | exact trivial | refine And.intro ⟨_, rfl, ?_⟩ ?_ | refine And.intro ⟨_, _, rfl, rfl, ?_⟩ ?_ | exact Or.inr rfl | refine Or.inl ⟨?_, (by first | rfl | exact aY _ _ | exact Pur.pf)⟩ | refine Or.inr (All2.cons ?_ ?_) | refine All2.cons ?_ ?_ | exact All2.nil | rfl)))
    ·refine ⟨by dsimp only; omega, ?_, hdo, by dsimp only; omega⟩
     dsimp only
     rw [if_pos (by assumption)] at hf
     exact hf
    ·dsimp only;omega
  ·have hmd := LN p.types p.body pts s pts[L[i]!]! htl hok.m hok.l hop (by omega) (fun h => by omega) (fun h h2 => by omega) (fun h => hA.n (.inr h)) h6
   repeat' (first|(apply aL;first|(with_reducible apply cV (d := 16))|(apply aN;rfl;rfl;rfl;rfl)|(apply aU;rfl;rfl;rfl;rfl)|(apply a7;(case hx|hi => rfl);(case hm => (omega));(case hml => (rfl));(case hα | hf|hg => infer_instance);(case hN => rfl))|(apply aF;kernel_rfl))|(apply aM;first|apply aH|apply aB|(apply aQ;rfl;all_goals intro hc;have hq:=hc;(try simp only [cJ] at hq);try exfalso;omega)|apply aK|apply aT)|with_reducible apply aA)
   refine dX ?_
   rw [hg2]
   repeat' (first|(apply aL;first|((apply JP (ts := p.types) (bd := p.body) (pts := pts) (s := s) (x := pts[L[i]!]!));(case ha0|ha1|hH0|hH1|hH2|hdd => rfl);(case hmc => exact hmd);(case hM|hN => rfl))|(apply aE;rfl;rfl)|(first|(apply aN;rfl;rfl;rfl;rfl)|(apply aV;rfl;rfl;(exact (rfl:_=[_, _, _, _, _]));rfl;rfl;rfl))|(apply aD;rfl;rfl;rfl)|(first|(apply bS;rfl;rfl;omega;rfl)|(apply aU;rfl;rfl;rfl;rfl))|(apply aC;rfl;rfl)|(apply a7;(case hx|hi => rfl);(case hm => (assumption));(case hml => (rfl));(case hα | hf|hg => infer_instance);(case hN => rfl))|(apply aF;kernel_rfl)|(apply cA;rfl;rfl;rfl))|(apply aM;first|apply aH|apply aB|(apply aQ;rfl;all_goals intro hc;have hq:=hc;(try simp only [cJ] at hq);try exfalso;omega)|apply aT|apply aR)|with_reducible apply aA|with_reducible apply bG|with_reducible apply aX|with_reducible apply cP)
   ·have h9 : ¬ (e5 p.types s pts[L[i]!]!).2 = -1 := by assumption
    rw [if_neg h9] at hf
    rw [← hf]
    (refine aO rfl ?_; refine bU () trivial ?_ ⟨.inr (Eq.trans (b := some _) rfl ?_), ⟨.inr (Eq.trans (b := some _) rfl ?_), ⟨.inr (Eq.trans (b := some _) rfl ?_), trivial⟩⟩⟩)
    ·rfl
    ·rfl
    ·rfl
    ·rfl
   ·(apply dK (i + 1, (e5 p.types s pts[L[i]!]!).1, L[i]!); focus (refine Le.ren [(1, 1), (2, 2), (3, 3)] rfl (by decide) ?_ ?_ <;> repeat' (first | exact trivial | refine And.intro ⟨_, rfl, ?_⟩ ?_ | refine And.intro ⟨_, _, rfl, rfl, ?_⟩ ?_ | exact Or.inr rfl | refine Or.inl ⟨?_, (by first | rfl | exact aY _ _ | exact Pur.pf)⟩ | refine Or.inr (All2.cons ?_ ?_) | refine All2.cons ?_ ?_ | exact All2.nil | rfl)))
    ·refine ⟨by dsimp only; omega, ?_, hdo, by dsimp only; omega⟩
     dsimp only
     rw [if_pos (by assumption)] at hf
     exact hf
    ·dsimp only;omega
 ·repeat' (first | (apply aL; first | (apply aE;rfl;rfl) | (apply aU;rfl;rfl;rfl;rfl) | (apply aC;rfl;rfl) | (apply aF;kernel_rfl)) | (apply aM; first | apply aH | apply aB | (apply aQ;rfl;all_goals intro hc;have hq:=hc;(try simp only [cJ] at hq);try exfalso;omega) | apply bK | apply aR) | with_reducible apply aA | with_reducible apply bJ | with_reducible apply bO)
  have hie : i = L.length := by omega
  have hq2 : q = (s, 1, last) := by rw [← hf, hie, List.drop_length]; rfl
  rw [hq2]
  (refine aO rfl ?_; refine bU () trivial ?_ ⟨.inr (Eq.trans (b := some _) rfl ?_), ⟨.inr (Eq.trans (b := some _) rfl ?_), ⟨.inr (Eq.trans (b := some _) rfl ?_), trivial⟩⟩⟩)
  ·rfl
  ·rfl
  ·rfl
  ·rfl
theorem E0 {p : Prg} {cs : List Int} {n : Int} {q : Mc × Int × Nat} {N : Nat} {Q : Exit → AS → Prop} {all : Array Oper} {rest : List Oper} {tsl : List (Nat × AV)} {hsl : List (Nat × Option (List AV))} {nidl : Nat} {z0 : Lo} {md : Md} {d : Nat} {ty : TypeId} {pos : String} {af : Array Edge} {tys : Array TypeId} {x0 x1 x2 : Operand} (ha0 : ev (lk tsl) x0 = some (dF p)) (ha1 : ev (lk tsl) x1 = some (sl cI cs)) (ha2 : ev (lk tsl) x2 = some (iv n)) (hmc : MC Tryz.prog 41 [dF p, sl cI cs, iv n] [] 0 (fun _ : Unit => True) (fun _ => .tup [.optr 2 0, iv q.2.1, iv (q.2.2 : Int)]) (fun _ => [(2, some (mO p.types p.body (dC p) 1 3 q.1)), (1, some (aI eG q.1.slots)), (3, some (aI cI q.1.read))])) (hM : Nat.ble (nidl + 4) eZ = true) (hN : Nat.blt d N = true) {md' : Md} [hmd : MdA md (gK [x0, x1, x2] ++ []) (List.map Sum.inr (List.map Prod.fst ([((nidl + 2), some (mO p.types p.body (dC p) (nidl + 1) (nidl + 3) q.1)), ((nidl + 1), some (aI eG q.1.slots)), ((nidl + 3), some (aI cI q.1.read))] : List (Nat × Option (List AV)))) ++ [.inl d]) md'] (kk : RW Tryz.prog N all Q md' rest ⟨(d, .tup [.optr (nidl + 2) 0, iv q.2.1, iv (q.2.2 : Int)]) :: tsl, iD hsl [((nidl + 2), some (mO p.types p.body (dC p) (nidl + 1) (nidl + 3) q.1)), ((nidl + 1), some (aI eG q.1.slots)), ((nidl + 3), some (aI cI q.1.read))], nidl + 4, z0⟩) : RW Tryz.prog N all Q md (⟨some d, .call ⟨.value (.func 41), #[x0, x1, x2], tys⟩, ty, pos, af, none⟩ :: rest) ⟨tsl, hsl, nidl, z0⟩ := by
 refine cE [] 4 [((nidl + 2), some (mO p.types p.body (dC p) (nidl + 1) (nidl + 3) q.1)), ((nidl + 1), some (aI eG q.1.slots)), ((nidl + 3), some (aI cI q.1.read))] hmc (avs := [dF p, sl cI cs, iv n]) ?_ rfl ?_ rfl ?_ (by simpa using hM) ?_ ?_ ?_ hN (md' := md') (hmd := hmd) kk
 ·show evL (lk tsl) [x0, x1, x2] = _
  simp only [evL, ha0, ha1, ha2]
 ·exact trivial
 ·(repeat' (exact RnL.purI inferInstance))
 ·(repeat' (first|exact RnL.purI inferInstance|exact RnV.optr rfl|refine RnL.cons ?_ ?_|refine RnV.tup ?_))
 ·simp [dJ]
 ·(repeat' (first|exact trivial|(refine And.intro ⟨1, _, rfl, rfl, ?_⟩ ?_)|(refine And.intro ⟨2, _, rfl, rfl, ?_⟩ ?_)|(refine And.intro ⟨3, _, rfl, rfl, ?_⟩ ?_)|exact RnL.purI inferInstance|exact RnV.purI inferInstance|exact RnV.own rfl|refine RnL.cons ?_ ?_))
theorem vI (p : Prg) (cs : List Int) (most : Int) (hl : p.types.length ≤ 1000000) (hs : bX p.body ≤ 1000000) (hcl : cs.length ≤ 1000000) : PC Tryz.prog 13 [dF p, sl cI cs, iv most] (fun r => r = .tup (if zS p most = true then [iv (eR p.types (dC p) cs most.toNat).2.1, iv (eR p.types (dC p) cs most.toNat).2.2] else [iv 5, iv 0])) := by
 by_cases h : zS p most = true
 ·have h' := h
  unfold zS at h'
  simp only [Bool.and_eq_true, decide_eq_true_eq] at h'
  obtain ⟨hv, h0, h1⟩ := h'
  have hru := Ka p cs most.toNat _ rfl hv hl hs (by omega) hcl
  have hok := KW (cs := cs) (n := most.toNat) hv
  have hrl := Br (ts := p.types) (pts := dC p) (cs := cs) (n := most.toNat) (by omega)
  have htl := (WG.of_valid hv).tl
  rw [Int.toNat_of_nonneg h0] at hru
  rw [if_pos h]
  have hon := Int.toNat_of_nonneg h0
  have hm := hok.m
  have hml := hm.l
  have hsl := hok.l
  generalize eR p.types (dC p) cs most.toNat = q at *
  (refine aS Tryz.func13 rfl (by simp [Tryz.ntmps13]) ?_; rw [Tryz.ntmps13])
  repeat' (first|(apply aL;first|((apply E0 (p := p) (cs := cs) (n := most) (q := q));(case ha0|ha1|ha2 => rfl);(case hmc => exact hru);(case hM|hN => rfl))|(apply aE;rfl;rfl)|(apply aV;rfl;rfl;(exact (rfl:_=[_, _]));rfl;rfl;rfl)|(apply aC;rfl;rfl)|(apply aF;kernel_rfl)|(apply bH;rfl;rfl;rfl;rfl)|(apply bD;rfl;rfl;rfl))|(apply aM;first|apply aH|apply aB|apply aR)|with_reducible apply aA)
  exact aO (l := [iv q.2.1, iv q.2.2]) rfl ⟨rfl, rfl⟩
 ·rw [if_neg h]
  have h2 : zS p most = false := by simpa using h
  (refine aS Tryz.func13 rfl (by simp [Tryz.ntmps13]) ?_; rw [Tryz.ntmps13])
  repeat' (first|(apply aL;first|((apply I9 (p := p) (cs := cs) (n := most));(case ha0|ha1|ha2 => rfl);(case hmc => exact K9 p cs most hl hs h2);(case hM|hN => rfl))|(apply aE;rfl;rfl)|(apply aV;rfl;rfl;(exact (rfl:_=[_, _]));rfl;rfl;rfl)|(apply aC;rfl;rfl)|(apply aF;kernel_rfl)|(apply bH;rfl;rfl;rfl;rfl)|(apply bD;rfl;rfl;rfl))|(apply aM;first|apply aH|apply aB|apply aR)|with_reducible apply aA)
  exact aO (l := [iv 5, iv 0]) rfl ⟨rfl, rfl⟩
def Bh (p : Prg) (cs : List Int) (n : Int) : Int := if zS p n = true then (eR p.types (dC p) cs n.toNat).2.1 else 5
def KP (p : Prg) (cs : List Int) (n : Int) : Int := if zS p n = true then ((eR p.types (dC p) cs n.toNat).2.2 : Int) else 0
theorem KL (p : Prg) (cs : List Int) (n : Int) (hl : p.types.length ≤ 1000000) (hs : bX p.body ≤ 1000000) (hcl : cs.length ≤ 1000000) : PC Tryz.prog 13 [dF p, sl cI cs, iv n] (fun r => r = .tup [iv (Bh p cs n), iv (KP p cs n)]) := by
 have h := vI p cs n hl hs hcl
 unfold Bh KP
 split
 ·rename_i h2;rw [if_pos h2] at h;exact h
 ·rename_i h2;rw [if_neg h2] at h;exact h
theorem J0 (p : Prg) (cs : List Int) (n : Int) (hl : p.types.length ≤ 1000000) (hs : bX p.body ≤ 1000000) (hcl : cs.length ≤ 1000000) : PC Tryz.prog 14 [dF p, sl cI cs, iv n] (fun r => r = .tup [iv (Bh p cs n), iv (KP p cs n)]) := by
 have h := vL p cs n hl hs hcl
 unfold Bh KP
 split
 ·rename_i h2;rw [if_pos h2] at h;exact h
 ·rename_i h2;rw [if_neg h2] at h;exact h
theorem zV {p : Prg} {n : Int} : zS p n = true ↔ cS p = true ∧ 0 ≤ n ∧ n ≤ 150 := by
 unfold zS;simp only [Bool.and_eq_true, decide_eq_true_eq]
def vH (n l : Nat) : List Int := (List.range l).map fun i => ((n / 2 ^ i % 2 : Nat) : Int)
theorem rQ (n l : Nat) : (vH n l).length = l := by unfold vH; rw [List.length_map, List.length_range]
theorem zE (n l : Nat) : vH n (l + 1) = vH n l ++ [((n / 2 ^ l % 2 : Nat) : Int)] := by
 unfold vH;rw [List.range_succ, List.map_append]; rfl
def nH (p : Prg) (l n : Nat) : Bool := decide (Bh p (vH n l) 80 ≠ 0) && decide (Bh p (vH n l) 80 ≠ 1)
def Bj (p : Prg) (l k : Nat) : Nat := ((List.range k).filter (nH p l)).length
theorem IG {p : Prg} {l k : Nat} (h : nH p l k = true) : Bj p l (k + 1) = Bj p l k + 1 := by
 unfold Bj;rw [List.range_succ, List.filter_append, List.length_append]; simp [h]
theorem G3 {p : Prg} {l k : Nat} (h : nH p l k = false) : Bj p l (k + 1) = Bj p l k := by
 unfold Bj;rw [List.range_succ, List.filter_append, List.length_append]; simp [h]
theorem Kx {p : Prg} {l k : Nat} : Bj p l k ≤ k := by
 unfold Bj;exact Nat.le_trans (List.length_filter_le _ _) (by rw [List.length_range]; exact Nat.le_refl _)
theorem y9 (n l : Nat) (hl : l ≤ 100) (hn : n ≤ 1000000) : PC Tryz.prog 50 [iv (n : Int), iv (l : Int)] (fun r => r = sl cI (vH n l)) := by
 (refine aS Tryz.func50 rfl (by simp [Tryz.ntmps50]) ?_; rw [Tryz.ntmps50])
 repeat' (first|(apply aL;first|(apply aC;rfl;rfl)|(apply aF;kernel_rfl)|(apply bZ;rfl;rfl;rfl;(rfl);rfl;rfl))|(apply aM;first|apply aH|apply aB|apply aK)|with_reducible apply aA)
 refine bB (σ := Nat × Nat × List Int × Nat) [1] [(1, _)] [] [] (fun k => [(6, iv (k.1 : Int)), (0, iv (k.2.1 : Int)), (5, .own 0 0 k.2.2.2 1)]) (fun k => [(0, some (aI cI k.2.2.1))]) (fun k => k.1 ≤ l ∧ k.2.1 = n / 2 ^ k.1 ∧ k.2.2.1 = vH n k.1 ∧ k.2.2.2 = k.1) (fun k => l - k.1) (0, n, [], 0) ⟨Nat.zero_le _, by simp, rfl, rfl⟩ rfl rfl (by repeat' (first|exact trivial|refine And.intro rfl ?_)) (by repeat' (first|exact trivial|refine And.intro (.inr rfl) ?_)) ?_
 rintro ⟨i, n', xs, m⟩ ⟨hi, hn', hxs, hm⟩
 dsimp only at hi hn' hxs hm ⊢
 have hnl : n' ≤ 1000000 := by rw [hn']; exact Nat.le_trans (Nat.div_le_self _ _) hn
 have hxl : xs.length = m := by rw [hxs, rQ, hm]
 repeat' (first|(apply aL;first|(apply aE;rfl;rfl)|(first|(apply bS;rfl;rfl;omega;rfl)|(apply Ga;rfl;rfl;omega;rfl)|(apply FL;rfl;rfl;omega;rfl)|(apply aU;rfl;rfl;rfl;rfl))|(apply aC;rfl;rfl)|(apply bW;rfl;rfl;rfl;rfl;rfl;(rw [aP]; omega);(rfl);omega;omega;(exact gD (by (omega)));rfl;rfl)|(apply aF;kernel_rfl)|((apply bE (t := _));(case hze|hsm|hl => rfl);(case hfl => exact (rfl:_=some [_]));(case hM|hN => rfl)))|(apply aM;first|apply aH|apply aB|(apply aQ;rfl;all_goals intro hc;have hq:=hc;(try simp only [cJ] at hq);try exfalso;omega)|apply aK|apply aT|apply bK|apply aR)|with_reducible apply aA|with_reducible apply bJ|with_reducible apply aX|with_reducible apply bO)
 ·(apply dK (i + 1, n' / 2, _, m + 1); focus (refine Le.ren [(0, 2)] rfl (by decide) ?_ ?_ <;> repeat' (first | exact trivial | refine And.intro ⟨_, rfl, ?_⟩ ?_ | refine And.intro ⟨_, _, rfl, rfl, ?_⟩ ?_ | exact Or.inr rfl | refine Or.inl ⟨?_, (by first | rfl | exact aY _ _)⟩ | rfl)))
  ·refine ⟨by dsimp only; omega, ?_, ?_, by dsimp only; omega⟩
   ·dsimp only;rw [hn', Nat.pow_succ, Nat.div_div_eq_div_mul]
   ·dsimp only;rw [zE, ← hxs, ← hn']; rfl
  ·dsimp only;omega
 ·(refine cD (Le.frzD (d := 4) (i := 0) rfl rfl) ?_; refine aO rfl ?_)
  refine ⟨?_, (by (exact aY _ _))⟩
  have hie : i = l := by omega
  simp only [b0, sl]
  rw [← hxl, hxs, hie]
theorem FU (l : Nat) (hl : l ≤ 10) : PC Tryz.prog 48 [iv (l : Int)] (fun r => r = iv ((2 ^ l : Nat) : Int)) := by
 (refine aS Tryz.func48 rfl (by simp [Tryz.ntmps48]) ?_; rw [Tryz.ntmps48])
 repeat' (first|(apply aL;first|(apply aC;rfl;rfl)|(apply aF;kernel_rfl))|(apply aM;first|apply aH|apply aB|apply aK)|with_reducible apply aA)
 refine bB (σ := Nat) [0] [(0, _)] [] [] (fun k => [(4, iv (k : Int)), (3, iv ((2 ^ k : Nat) : Int))]) (fun k => []) (fun k => k ≤ l) (fun k => l - k) (0) (Nat.zero_le _) rfl rfl (by repeat' (first|exact trivial|refine And.intro rfl ?_)) (by repeat' (exact trivial)) ?_
 rintro k hk
 have hp : 2 ^ k ≤ 2 ^ 10 := Nat.pow_le_pow_right (by decide) (by omega)
 repeat' (first|(apply aL;first|(apply aE;rfl;rfl)|(first|(apply bS;rfl;rfl;omega;rfl)|(apply aU;rfl;rfl;rfl;rfl))|(apply aC;rfl;rfl)|(apply aF;kernel_rfl))|(apply aM;first|apply aH|apply aB|(apply aQ;rfl;all_goals intro hc;have hq:=hc;(try simp only [cJ] at hq);try exfalso;omega)|apply aK|apply aT|apply bK|apply aR)|with_reducible apply aA|with_reducible apply bJ|with_reducible apply aX|with_reducible apply bO)
 ·have hw : IntKind.i64.wrap (((2 ^ k : Nat) : Int) * 2) = ((2 ^ (k + 1) : Nat) : Int) := by
   rw [show (((2 ^ k : Nat) : Int) * 2) = ((2 ^ (k + 1) : Nat) : Int) by rw [Nat.pow_succ, Int.natCast_mul]; rfl]
   exact oG (Sm.pow (by omega)).pf
  rw [hw]
  (apply dK (k + 1);focus (refine Le.ren [] rfl (by decide) ?_ ?_ <;> repeat' (first|exact trivial|refine And.intro ⟨_, rfl, ?_⟩ ?_|refine Or.inl ⟨?_, (by (rfl))⟩|rfl)))
  ·omega
  ·omega
 ·refine aO rfl ⟨?_, rfl⟩
  rw [show l = k by omega]; rfl
def pS (p : Prg) (l : Int) : Bool := cS p && (decide (0 ≤ l) && decide (l ≤ 6))
theorem oS {p : Prg} {l : Int} : pS p l = true ↔ cS p = true ∧ 0 ≤ l ∧ l ≤ 6 := by unfold pS; simp only [Bool.and_eq_true, decide_eq_true_eq]
theorem vT (p : Prg) (l : Int) (hl : p.types.length ≤ 1000000) (hs : bX p.body ≤ 1000000) : PC Tryz.prog 47 [dF p, iv l] (fun r => r = bv (pS p l)) := by
 have hval := pH p hl (by omega)
 (refine aS Tryz.func47 rfl (by simp [Tryz.ntmps47]) ?_; rw [Tryz.ntmps47])
 repeat' (first|(apply aL;first|((with_reducible apply aJ (k := 87));(case ha => rfl);(case h => exact hval);(case hp => (exact Pur.pf));(case hN => rfl))|(apply aE;rfl;rfl)|(apply aV;rfl;rfl;(exact (rfl:_=[_, _]));rfl;rfl;rfl)|(first|(apply a8;rfl;rfl;rfl;(assumption))|(apply bC;rfl;rfl;rfl;(first|rfl|assumption))|(apply bR;(case hj|hb|hN => rfl);all_goals (intro hg;have hq := hg;(try simp only [cJ] at hq);(try (exfalso;omega)))))|(apply aU;rfl;rfl;rfl;rfl)|(apply aC;rfl;rfl)|(first|(apply bY;rfl;(assumption);rfl;rfl)|(apply bQ;rfl;(first|rfl|assumption);rfl;rfl))|(apply aF;kernel_rfl)|(apply bH;rfl;rfl;rfl;rfl))|(apply aM;first|apply aH|apply aB|apply aR)|with_reducible apply aA)
 all_goals (refine aO rfl ⟨?_, rfl⟩; simp only [b0, AV.v.injEq, Value.bool.injEq]; unfold pS;grind)
theorem GI : PC Tryz.prog 93 [] (fun r => r = iv 80) := by
 (refine aS Tryz.func93 rfl (by simp [Tryz.ntmps93]) ?_; rw [Tryz.ntmps93])
 repeat' (first|(apply aL;first|(apply aC;rfl;rfl)|(apply aF;kernel_rfl))|(apply aM;first|apply aH|apply aB|apply aR)|with_reducible apply aA)
 exact aO rfl ⟨rfl, rfl⟩
theorem DS (p : Prg) (cs : List Int) (hl : p.types.length ≤ 1000000) (hs : bX p.body ≤ 1000000) (hcl : cs.length ≤ 1000000) : PC Tryz.prog 49 [dF p, sl cI cs] (fun r => r = .tup [bv (decide (Bh p cs 80 ≠ 0) && decide (Bh p cs 80 ≠ 1)), iv (KP p cs 80)]) := by
 have h := J0 p cs 80 hl hs hcl
 have hm := GI
 generalize Bh p cs 80 = e at *
 generalize KP p cs 80 = a at *
 (refine aS Tryz.func49 rfl (by simp [Tryz.ntmps49]) ?_; rw [Tryz.ntmps49])
 repeat' (first|(apply aL;first|((with_reducible apply aJ (k := 14));(case ha => rfl);(case h => exact h);(case hp => (exact Pur.pf));(case hN => rfl))|((with_reducible apply aJ (k := 93));(case ha => rfl);(case h => exact hm);(case hp => (rfl));(case hN => rfl))|(apply aE;rfl;rfl)|(apply aV;rfl;rfl;(exact (rfl:_=[_, _]));rfl;rfl;rfl)|(first|(apply a8;rfl;rfl;rfl;(assumption))|(apply bC;rfl;rfl;rfl;(assumption))|(apply bR;(case hj|hb|hN => rfl);all_goals (intro hg;have hq := hg;(try simp only [cJ] at hq);(try (exfalso;omega)))))|(apply aU;rfl;rfl;rfl;rfl)|(apply aC;rfl;rfl)|(first|(apply bY;rfl;(assumption);rfl;rfl)|(apply bQ;rfl;(assumption);rfl;rfl))|(apply aF;kernel_rfl)|(apply bH;rfl;rfl;rfl;rfl)|(apply bD;rfl;rfl;rfl))|(apply aM;first|apply aH|apply aB|(apply bV;kernel_rfl)|apply aR)|with_reducible apply aA)
 ·refine aO (l := [bv _, iv a]) ?_ ⟨rfl, rfl⟩
  have hd : (decide (e ≠ 0) && decide (e ≠ 1)) = !decide (e = 1) := by simp_all
  rw [hd]; rfl
 ·refine aO (l := [bv _, iv a]) ?_ ⟨rfl, rfl⟩
  have hd : (decide (e ≠ 0) && decide (e ≠ 1)) = false := by simp_all
  rw [hd]; rfl
theorem BI (l : Int) : PC Tryz.prog 92 [iv l] (fun r => r = bv (decide (0 ≤ l) && decide (l ≤ 6))) := by
 have hw := eL l 0 6
 (refine aS Tryz.func92 rfl (by simp [Tryz.ntmps92]) ?_; rw [Tryz.ntmps92])
 repeat' (first|(apply aL;first|((with_reducible apply aJ (k := 84));(case ha => rfl);(case h => exact hw);(case hp => (rfl));(case hN => rfl))|(apply aE;rfl;rfl)|(apply aC;rfl;rfl)|(apply aF;kernel_rfl))|(apply aM;first|apply aH|apply aB|apply aR)|with_reducible apply aA)
 exact aO rfl ⟨rfl, rfl⟩
theorem zK (n l : Nat) (hl : l ≤ 60) (hn : n ≤ 1000000) : PC Tryz.prog 52 [iv (n : Int), iv (l : Int)] (fun r => r = sl cI (vH n l)) := by
 have : Sm n := ⟨by omega⟩
 (refine aS Tryz.func52 rfl (by simp [Tryz.ntmps52]) ?_; rw [Tryz.ntmps52])
 repeat' (first|(apply aL;first|(apply aE;rfl;rfl)|(apply aC;rfl;rfl)|(apply aF;kernel_rfl))|(apply aM;first|apply aH|apply aB|apply aK)|with_reducible apply aA)
 refine AW.le ?_ (Le.nilOwn (d := 5) 1 rfl (by decide))
 refine bB (σ := Nat × List Int × Nat) [0, 7] [(0, _), (7, _)] [] [] (fun k => [(8, iv (k.1 : Int)), (5, .own 0 0 k.2.2 1)]) (fun k => [(0, some (aI cI k.2.1))]) (fun k => k.1 ≤ l ∧ k.2.1 = vH n k.1 ∧ k.2.2 = k.1) (fun k => l - k.1) (0, [], 0) ⟨Nat.zero_le _, rfl, rfl⟩ rfl rfl (by repeat' (first|exact trivial|refine And.intro rfl ?_)) (by repeat' (first|exact trivial|refine And.intro (.inr rfl) ?_)) ?_
 rintro ⟨i, xs, m⟩ ⟨hi, hxs, hm⟩
 dsimp only at hi hxs hm ⊢
 have hxl : xs.length = m := by rw [hxs, rQ, hm]
 repeat' (first|(apply aL;first|(apply aE;rfl;rfl)|(first|(apply o6;rfl;rfl;infer_instance;infer_instance;rfl)|(apply oW;rfl;rfl;infer_instance;infer_instance;omega;rfl)|(apply bS;rfl;rfl;omega;rfl)|(apply aU;rfl;rfl;rfl;rfl))|(apply aC;rfl;rfl)|(apply bW;rfl;rfl;rfl;rfl;rfl;(rw [aP]; omega);(rfl);omega;omega;(exact gD (by (omega)));rfl;rfl)|(apply aF;kernel_rfl)|((apply bE (t := _));(case hze|hsm|hl => rfl);(case hfl => exact (rfl:_=some [_]));(case hM|hN => rfl)))|(apply aM;first|apply aH|apply aB|(apply aQ;rfl;all_goals intro hc;have hq:=hc;(try simp only [cJ] at hq);try exfalso;omega)|apply aK|apply aT|apply bK|apply aR)|with_reducible apply aA|with_reducible apply bJ|with_reducible apply aX|with_reducible apply bO)
 ·(apply dK (i + 1, _, m + 1); focus (refine Le.ren [(0, 2)] rfl (by decide) ?_ ?_ <;> repeat' (first | exact trivial | refine And.intro ⟨_, rfl, ?_⟩ ?_ | refine And.intro ⟨_, _, rfl, rfl, ?_⟩ ?_ | exact Or.inr rfl | refine Or.inl ⟨?_, (by first | rfl | exact aY _ _)⟩ | rfl)))
  ·refine ⟨by dsimp only; omega, ?_, by dsimp only; omega⟩
   have hz : n >>> (i : Int).toNat &&& 1 = n / 2 ^ i % 2 := by rw [Int.toNat_natCast, Nat.shiftRight_eq_div_pow]; exact Nat.and_one_is_mod _
   dsimp only;rw [zE, ← hxs, ← hz]
  ·dsimp only;omega
 ·refine cD (Le.frzD (d := 4) (i := 0) rfl rfl) ?_
  refine aO rfl ⟨?_, (by (exact aY _ _))⟩
  have hie : i = l := by omega
  simp only [b0, sl]
  rw [← hxl, hxs, hie]
theorem H9 (bs : List UInt8) (hb : bs.length ≤ 1048576) : PC Tryz.prog 44 [sl cU bs] (fun r => ∃ (q : Prg) (n : Int), r = .tup [dF q, iv n] ∧ bX q.body ≤ 20000 ∧ q.types.length ≤ 1000 ∧ -1 ≤ n ∧ n ≤ 7) := by
 have hb2 : (bs.take 2000).length ≤ 2000 := by rw [List.length_take]; omega
 (refine aS Tryz.func44 rfl (by simp [Tryz.ntmps44]) ?_; rw [Tryz.ntmps44])
 repeat' (first|(apply aL;first|((with_reducible apply tQ (k := 81));(case h => exact Ki (bs.take 2000) 0 hb2 (by decide));(case ha|hpv|hH|hM|hN => rfl);(rintro ⟨q, p1⟩ ⟨hq1, hq2, hq3⟩);(dsimp only at hq1 hq2 hq3))|((with_reducible apply tQ (k := 80));(case h => exact E2 (bs.take 2000) p1 q hb2 (by omega) (by omega) (by omega));(case ha => rfl);(case hpv => exact Pur.pf);(case hH|hM|hN => rfl);(rintro ⟨q2, p2⟩ ⟨hr1, hr2, hr3⟩);(dsimp only at hr1 hr2 hr3);(have hn9 := FX (bs.take 2000) p2 [3, 2, 1, 4, 0, 7, -1] (-1) 7 (by decide) (by decide)))|(apply aE;rfl;rfl)|(apply aV;rfl;rfl;(exact (rfl:_=[_, _]));rfl;rfl;rfl)|(apply aC;rfl;rfl)|(first|(apply BY;rfl;(apply D9 <;> (assumption));rfl;rfl)|(apply x5;rfl;rfl;rfl;rfl;infer_instance;rfl;(rfl);assumption;omega;(decide);(decide);rfl;rfl))|(apply aF;kernel_rfl)|(apply a6;rfl;rfl)|(apply bZ;rfl;rfl;rfl;(exact (rfl:_=some [_, _, _, _, _, _, _]));rfl;rfl)|(apply aW;rfl;rfl;rfl;rfl;rfl;(case hl => (simp;done));(exact (rfl:_=[_, _]))))|(apply aM;first|apply aH|apply aB|(apply bV;kernel_rfl)|apply aR)|with_reducible apply aA)
 exact aO (l := [dF q2, iv (jI (bs.take 2000) p2 [3, 2, 1, 4, 0, 7, -1])]) rfl ⟨⟨q2, _, rfl, by omega, by omega, hn9.1, hn9.2⟩, Pur.pf⟩
theorem KQ (a b c : Int) (h0 : 0 ≤ c) (h1 : c ≤ 100) : MC Tryz.prog 46 [iv a, iv b, .optr 0 0] [(0, some [iv c])] 1 (fun _ : Unit => True) (fun _ => .tup []) (fun _ => [(0, some [iv (c + 1)])]) := by
 (refine b9 Tryz.func46 rfl (by simp [Tryz.ntmps46]) ?_; rw [Tryz.ntmps46])
 repeat' (first|(apply aL;first|(apply aN;rfl;rfl;rfl;rfl)|(apply bS;rfl;rfl;omega;rfl)|(apply aF;kernel_rfl)|(apply aW;rfl;rfl;rfl;rfl;rfl;(case hl => (simp;done));(exact (rfl:_=[_]))))|(apply aM;(apply aB)))
 refine Kj (l := []) rfl ?_
 exact bU () trivial rfl ⟨.inr rfl, trivial⟩
theorem Hi (p : Prg) (l : Int) (hl : p.types.length ≤ 1000000) (hs : bX p.body ≤ 1000000) : MC Tryz.prog 45 [dF p, iv l, .clos (.func 46) [] [.optr 0 0]] [(0, some [iv 0])] 1 (fun _ : Unit => True) (fun _ => bv (pS p l)) (fun _ => [(0, some [iv (if pS p l = true then (Bj p l.toNat (2 ^ l.toNat) : Int) else 0)])]) := by
 have hv0 := mL p hl (by omega)
 have hil := BI l
 by_cases h : pS p l = true
 ·obtain ⟨hv, h0, h1⟩ := oS.1 h
  rw [hv] at hv0
  rw [h, if_pos rfl]
  obtain ⟨L, rfl⟩ := Int.eq_ofNat_of_zero_le h0
  rw [show (decide (0 ≤ (L : Int)) && decide ((L : Int) ≤ 6)) = true by rw [decide_eq_true h0, decide_eq_true h1]; rfl] at hil
  have hp : 2 ^ L ≤ 2 ^ 6 := Nat.pow_le_pow_right (by decide) (by omega)
  rw [Int.toNat_natCast]
  (refine b9 Tryz.func45 rfl (by simp [Tryz.ntmps45]) ?_; rw [Tryz.ntmps45])
  repeat' (first|(apply aL;first|((with_reducible apply aJ (k := 25));(case ha => rfl);(case h => exact hv0);(case hp => (exact Pur.pf));(case hN => rfl))|((with_reducible apply aJ (k := 92));(case ha => rfl);(case h => exact hil);(case hp => (rfl));(case hN => rfl))|(apply aE;rfl;rfl)|(apply aV;rfl;rfl;(exact (rfl:_=[_, _]));rfl;rfl;rfl)|(apply a8;rfl;rfl;rfl;(rfl))|(apply iU;rfl;rfl;infer_instance;omega;rfl;(case' kk => intro hsm))|(apply aC;rfl;rfl)|(apply bQ;rfl;(rfl);rfl;rfl)|(apply aF;kernel_rfl)|(apply cF;rfl;rfl)|(apply bH;rfl;rfl;rfl;rfl))|(apply aM;first|apply aH|apply aB|(apply cG;rfl;(rfl))|apply aK|apply aT)|with_reducible apply aA)
  rw [Int.toNat_natCast]
  generalize hT : 2 ^ L = T at *
  refine bB (σ := Nat × Nat) [1, 2, 3, 19] [(1, _), (2, _), (3, _), (19, _)] [] [] (fun s => [(20, iv (s.1 : Int))]) (fun s => [(0, some [iv (s.2 : Int)]), (1, some [sl cI p.types, sl aZ p.body])]) (fun s => s.1 ≤ T ∧ s.2 = Bj p L s.1) (fun s => T - s.1) (0, 0) ⟨Nat.zero_le _, rfl⟩ rfl rfl (by repeat' (first|exact trivial|refine And.intro rfl ?_)) (by repeat' (first|exact trivial|refine And.intro (.inr rfl) ?_)) ?_
  rintro ⟨k, c⟩ ⟨hk, hc⟩
  dsimp only at hk hc ⊢
  have hcb := Kx (p := p) (l := L) (k := k)
  have hch1 := IG (p := p) (l := L) (k := k)
  have hcs1 := G3 (p := p) (l := L) (k := k)
  rw [← hc] at hcb hch1 hcs1
  have hch := zK k L (by omega) (by omega)
  have hru := KL p (vH k L) 80 hl hs (by rw [rQ]; omega)
  have hbd : nH p L k = (decide (Bh p (vH k L) 80 ≠ 0) && decide (Bh p (vH k L) 80 ≠ 1)) := rfl
  generalize Bh p (vH k L) 80 = e at hru hbd
  generalize KP p (vH k L) 80 = a at hru
  repeat' (first|(apply aL;first|((with_reducible apply aJ (k := 52));(case ha => rfl);(case h => exact hch);(case hp => (rfl));(case hN => rfl))|((with_reducible apply aJ (k := 13));(case ha => rfl);(case h => exact hru);(case hp => (exact Pur.pf));(case hN => rfl))|(apply aE;rfl;rfl)|(apply aV;rfl;rfl;(exact (rfl:_=[_, _]));rfl;rfl;rfl)|(first|(apply a8;rfl;rfl;rfl;(assumption))|(apply bC;rfl;rfl;rfl;(assumption))|(apply bR;(case hj|hb|hN => rfl);all_goals (intro hg;have hq := hg;(try simp only [cJ] at hq);(try (exfalso;omega)))))|(first|(apply bS;rfl;rfl;omega;rfl)|(apply aU;rfl;rfl;rfl;rfl))|(apply aC;rfl;rfl)|(first|(apply bY;rfl;(assumption);rfl;rfl)|(apply bQ;rfl;(assumption);rfl;rfl))|(apply aF;kernel_rfl)|(apply bD;rfl;rfl;rfl))|(apply aM;first|apply aH|apply aB|(apply bV;kernel_rfl)|(apply cG;rfl;(rfl))|(apply aQ;rfl;all_goals intro hc;have hq:=hc;(try simp only [cJ] at hq);try exfalso;omega)|apply aK|apply aT|apply bK|apply aR)|with_reducible apply aA|with_reducible apply bJ|with_reducible apply aX|with_reducible apply bO)
  ·have hbt : nH p L k = true := by rw [hbd]; simp_all
   refine Em (k := 46) (avs := [iv (k : Int), iv a]) (avs0 := [iv (k : Int), iv a, .optr 0 0]) (rr' := .tup []) [0] 1 [(0, some [iv ((c : Int) + 1)])] (KQ (k : Int) a (c : Int) (by omega) (by omega)) rfl rfl rfl rfl ⟨⟨_, _, rfl, rfl, RnL.purI inferInstance⟩, trivial⟩ rfl (RnL.cons (RnV.purI inferInstance) (RnL.cons (RnV.purI inferInstance) (RnL.cons (RnV.optr rfl) .nil))) rfl (RnV.purI inferInstance) rfl ⟨⟨0, _, rfl, rfl, RnL.purI inferInstance⟩, trivial⟩ rfl ?_
   repeat' (first|(apply aL;first|(apply aE;rfl;rfl)|(apply bS;rfl;rfl;omega;rfl)|(apply aF;kernel_rfl))|(apply aM;(apply aB))|with_reducible apply aA|with_reducible apply aX)
   (apply dK (k + 1, c + 1);focus (refine Le.of (oF ?_) (mY ?_) (Nat.le_refl 2) rfl <;> repeat' (first|exact trivial|refine And.intro rfl ?_|refine And.intro (.inr rfl) ?_)))
   ·exact ⟨by dsimp only;omega, (hch1 hbt).symm⟩
   ·dsimp only;omega
  ·have hbf : nH p L k = false := by rw [hbd]; simp_all
   (apply dK (k + 1, c);focus (refine Le.of (oF ?_) (mY ?_) (Nat.le_refl 2) rfl <;> repeat' (first|exact trivial|refine And.intro rfl ?_|refine And.intro (.inr rfl) ?_)))
   ·exact ⟨by dsimp only;omega, (hcs1 hbf).symm⟩
   ·dsimp only;omega
  ·have hbf : nH p L k = false := by rw [hbd]; simp_all
   (apply dK (k + 1, c);focus (refine Le.of (oF ?_) (mY ?_) (Nat.le_refl 2) rfl <;> repeat' (first|exact trivial|refine And.intro rfl ?_|refine And.intro (.inr rfl) ?_)))
   ·exact ⟨by dsimp only;omega, (hcs1 hbf).symm⟩
   ·dsimp only;omega
  all_goals
   obtain rfl : k = T := by omega
   obtain rfl : c = Bj p L k := by assumption
   refine aO rfl ?_
   exact bU () trivial rfl ⟨.inr rfl, trivial⟩
 ·have h2 : pS p l = false := by simpa using h
  rw [h2, if_neg (by decide)]
  by_cases hv : cS p = true
  ·have hil2 : (decide (0 ≤ l) && decide (l ≤ 6)) = false := by unfold pS at h2; rw [hv] at h2; simpa using h2
   rw [hv] at hv0
   rw [hil2] at hil
   (refine b9 Tryz.func45 rfl (by simp [Tryz.ntmps45]) ?_; rw [Tryz.ntmps45])
   repeat' (first|(apply aL;first|((with_reducible apply aJ (k := 25));(case ha => rfl);(case h => exact hv0);(case hp => (exact Pur.pf));(case hN => rfl))|((with_reducible apply aJ (k := 92));(case ha => rfl);(case h => exact hil);(case hp => (rfl));(case hN => rfl))|(apply aE;rfl;rfl)|(apply aV;rfl;rfl;(exact (rfl:_=[_, _]));rfl;rfl;rfl)|(apply a8;rfl;rfl;rfl;(rfl))|(apply aC;rfl;rfl)|(apply bQ;rfl;(rfl);rfl;rfl)|(apply aF;kernel_rfl)|(apply cF;rfl;rfl)|(apply bH;rfl;rfl;rfl;rfl))|(apply aM;first|apply aH|apply aB|(apply cB;rfl;(rfl))|apply aR)|with_reducible apply aA|with_reducible apply bG)
   refine aO rfl ?_
   exact bU () trivial rfl ⟨.inr rfl, trivial⟩
  ·have hv2 : cS p = false := by simpa using hv
   rw [hv2] at hv0
   (refine b9 Tryz.func45 rfl (by simp [Tryz.ntmps45]) ?_; rw [Tryz.ntmps45])
   repeat' (first|(apply aL;first|((with_reducible apply aJ (k := 25));(case ha => rfl);(case h => exact hv0);(case hp => (exact Pur.pf));(case hN => rfl))|(apply aE;rfl;rfl)|(apply aV;rfl;rfl;(exact (rfl:_=[_, _]));rfl;rfl;rfl)|(apply bC;rfl;rfl;rfl;(rfl))|(apply aC;rfl;rfl)|(apply bY;rfl;(rfl);rfl;rfl)|(apply aF;kernel_rfl)|(apply cF;rfl;rfl)|(apply bH;rfl;rfl;rfl;rfl))|(apply aM;first|apply aH|apply aB|(apply cB;rfl;(rfl))|apply aR)|with_reducible apply aA|with_reducible apply bG)
   refine aO rfl ?_
   exact bU () trivial rfl ⟨.inr rfl, trivial⟩
theorem vD (p : Prg) (l : Int) (hl : p.types.length ≤ 1000000) (hs : bX p.body ≤ 1000000) : PC Tryz.prog 17 [dF p, iv l] (fun r => r = .tup (if pS p l = true then [iv (Bj p l.toNat (2 ^ l.toNat)), iv ((2 ^ l.toNat : Nat) : Int)] else [iv 0, iv 0])) := by
 have hw := Hi p l hl hs
 have harg : RnL (([1] : List Nat)[·]?) [dF p, iv l, .clos (.func 46) [] [.optr 0 0]] [dF p, iv l, .clos (.func 46) [] [.optr 1 0]] := RnL.cons (RnV.purI inferInstance) (RnL.cons (RnV.purI inferInstance) (RnL.cons (RnV.clos .nil (RnL.cons (RnV.optr rfl) .nil)) .nil))
 by_cases h : pS p l = true
 ·obtain ⟨hv, h0, h1⟩ := oS.1 h
  rw [h, if_pos rfl] at hw
  rw [h, if_pos rfl]
  obtain ⟨L, rfl⟩ := Int.eq_ofNat_of_zero_le h0
  have hp : 2 ^ L ≤ 2 ^ 6 := Nat.pow_le_pow_right (by decide) (by omega)
  rw [Int.toNat_natCast] at *
  (refine aS Tryz.func17 rfl (by simp [Tryz.ntmps17]) ?_; rw [Tryz.ntmps17])
  repeat' (first|(apply aL;first|(apply aE;rfl;rfl)|(apply aV;rfl;rfl;(exact (rfl:_=[_, _]));rfl;rfl;rfl)|(apply aC;rfl;rfl)|(apply aF;kernel_rfl)|(apply gZ;rfl;rfl;rfl)|(apply bH;rfl;rfl;rfl;rfl)|(apply a6;rfl;rfl)|(apply aW;rfl;rfl;rfl;rfl;rfl;(decide);(exact (rfl:_=[_]))))|(apply aM;first|apply aH|apply aB)|with_reducible apply aA)
  refine cE (k := 45) (avs := [dF p, iv (L : Int), .clos (.func 46) [] [.optr 1 0]]) (rr' := bv true) [1] 1 [(1, some [iv (Bj p L (2 ^ L) : Int)])] hw rfl rfl ⟨⟨_, _, rfl, rfl, RnL.purI inferInstance⟩, trivial⟩ rfl harg rfl (RnV.purI inferInstance) rfl ⟨⟨0, _, rfl, rfl, RnL.purI inferInstance⟩, trivial⟩ rfl ?_
  repeat' (first|(apply aL;first|(apply aE;rfl;rfl)|(apply aN;rfl;rfl;rfl;rfl)|(apply iU;rfl;rfl;infer_instance;omega;rfl;(case' kk => intro hsm))|(apply aC;rfl;rfl)|(apply aF;kernel_rfl)|(apply cF;rfl;rfl))|(apply aM;first|apply aH|(apply bV;kernel_rfl)|(apply cG;rfl;(rfl))|apply aT|apply aR)|with_reducible apply aA)
  exact aO (l := [iv _, iv _]) rfl ⟨rfl, rfl⟩
 ·have h2 : pS p l = false := by simpa using h
  rw [h2, if_neg (by decide)] at hw
  rw [if_neg h]
  (refine aS Tryz.func17 rfl (by simp [Tryz.ntmps17]) ?_; rw [Tryz.ntmps17])
  repeat' (first|(apply aL;first|(apply aE;rfl;rfl)|(apply aV;rfl;rfl;(exact (rfl:_=[_, _]));rfl;rfl;rfl)|(apply aC;rfl;rfl)|(apply aF;kernel_rfl)|(apply gZ;rfl;rfl;rfl)|(apply bH;rfl;rfl;rfl;rfl)|(apply a6;rfl;rfl)|(apply aW;rfl;rfl;rfl;rfl;rfl;(decide);(exact (rfl:_=[_]))))|(apply aM;first|apply aH|apply aB)|with_reducible apply aA)
  refine cE (k := 45) (avs := [dF p, iv l, .clos (.func 46) [] [.optr 1 0]]) (rr' := bv false) [1] 1 [(1, some [iv 0])] hw rfl rfl ⟨⟨_, _, rfl, rfl, RnL.purI inferInstance⟩, trivial⟩ rfl harg rfl (RnV.purI inferInstance) rfl ⟨⟨0, _, rfl, rfl, RnL.purI inferInstance⟩, trivial⟩ rfl ?_
  repeat' (first|(apply aL;first|(apply aC;rfl;rfl)|(apply aF;kernel_rfl)|(apply cF;rfl;rfl))|(apply aM;first|apply aH|apply aB|(apply cB;rfl;(rfl))|apply aR)|with_reducible apply aA|with_reducible apply bG)
  exact aO (l := [iv 0, iv 0]) rfl ⟨rfl, rfl⟩
def LB (p : Prg) (l : Int) : Int := if pS p l = true then (Bj p l.toNat (2 ^ l.toNat) : Int) else 0
def JB (p : Prg) (l : Int) : Int := if pS p l = true then ((2 ^ l.toNat : Nat) : Int) else 0
theorem Mh (p : Prg) (l : Int) (hl : p.types.length ≤ 1000000) (hs : bX p.body ≤ 1000000) : PC Tryz.prog 17 [dF p, iv l] (fun r => r = .tup [iv (LB p l), iv (JB p l)]) := by
 have h := vD p l hl hs
 unfold LB JB
 split
 ·rename_i h2;rw [if_pos h2] at h;exact h
 ·rename_i h2;rw [if_neg h2] at h;exact h
theorem Li (p : Prg) (l : Int) : 0 ≤ JB p l ∧ JB p l ≤ 64 := by
 unfold JB
 split
 ·rename_i h
  obtain ⟨_, h0, h1⟩ := oS.1 h
  have hp : 2 ^ l.toNat ≤ 2 ^ 6 := Nat.pow_le_pow_right (by decide) (by omega)
  have h64 : (2 ^ 6 : Nat) = 64 := rfl
  rw [h64] at hp
  exact ⟨Int.natCast_nonneg _, by exact_mod_cast hp⟩
 ·omega
theorem EL {p : Prg} {cs : List Int} {n : Int} {L : List Iss} (hL : cS p = true → ∃ f : Flows p.types (dC p), L = f.iss) (ha : (cS p && L.isEmpty) = true) : Bh p cs n = 0 ∨ Bh p cs n = 1 ∨ (Bh p cs n = 5 ∧ (n < 0 ∨ 150 < n)) := by
 rw [Bool.and_eq_true] at ha
 obtain ⟨f, e⟩ := hL ha.1
 have h0 : f.iss = [] := by rw [← e]; exact List.isEmpty_iff.1 ha.2
 unfold Bh
 by_cases h : zS p n = true
 ·obtain ⟨hv, h1, h2⟩ := zV.1 h
  rw [if_pos h]
  rcases En (WG.of_valid hv) (WA.of_valid hv) f cs n.toNat (by omega) h0 with q|q
  ·exact .inl q
  ·exact .inr (.inl q)
 ·rw [if_neg h]
  refine .inr (.inr ⟨rfl, ?_⟩)
  apply Classical.byContradiction;intro q
  exact h (zV.2 ⟨ha.1, by omega, by omega⟩)
theorem FN (bs : List UInt8) (hb : bs.length ≤ 1048576) : PC Tryz.prog 22 [sl cU bs] (fun r => ∃ (q : Prg) (n : Int), r = .tup [dF q, iv n] ∧ bX q.body ≤ 20000 ∧ q.types.length ≤ 1000 ∧ -1 ≤ n ∧ n ≤ 7) := by
 (refine aS Tryz.func22 rfl (by simp [Tryz.ntmps22]) ?_; rw [Tryz.ntmps22])
 repeat' (first|(apply aL;first|((with_reducible apply jP (k := 44));(case ha => rfl);(case h => exact H9 bs hb);(case hp => (exact Pur.pf));(case hN => rfl);(rintro _ ⟨q, n, rfl, h1, h2, h3, h4⟩ _))|(apply aE;rfl;rfl)|(apply aC;rfl;rfl)|(apply aF;kernel_rfl)|(apply a6;rfl;rfl)|(apply bD;rfl;rfl;rfl)|(apply aW;rfl;rfl;rfl;rfl;rfl;(case hl => (simp;done));(exact (rfl:_=[_, _]))))|(apply aM;first|apply aH|apply aB|apply aR)|with_reducible apply aA)
 exact aO (l := [dF q, iv n]) rfl ⟨⟨q, n, rfl, h1, h2, h3, h4⟩, Pur.pf⟩
def xW (p : Prg) (l : Int) : Option Nat := if pS p l = true then (List.range (2 ^ l.toNat)).find? (nH p l.toNat) else none
def LU (p : Prg) (l : Int) : List Int := match xW p l with | some n => vH n l.toNat | none => []
theorem II {P : Nat → Bool} {k T : Nat} (hk : k < T) (h : P k = true) (hb : ∀ j, j < k → P j = false) : (List.range T).find? P = some k := by
 rw [List.find?_range_eq_some]
 exact ⟨h, List.mem_range.2 hk, fun j hj => by rw [hb j hj]; rfl⟩
theorem Dm {P : Nat → Bool} {T : Nat} (hb : ∀ j, j < T → P j = false) : (List.range T).find? P = none := by
 rw [List.find?_eq_none]; intro x hx;rw [hb x (List.mem_range.1 hx)]; decide
theorem vF (p : Prg) (l : Int) (hl : p.types.length ≤ 1000000) (hs : bX p.body ≤ 1000000) : PC Tryz.prog 27 [dF p, iv l] (fun r => r = .tup [sl cI (LU p l), bv (xW p l).isSome]) := by
 have hr := vT p l hl hs
 by_cases h : pS p l = true
 ·obtain ⟨hv, h0, h1⟩ := oS.1 h
  rw [h] at hr
  obtain ⟨L, rfl⟩ := Int.eq_ofNat_of_zero_le h0
  have e : xW p (L : Int) = (List.range (2 ^ L)).find? (nH p L) := by unfold xW;rw [if_pos h, Int.toNat_natCast]
  have e2 : LU p (L : Int) = match (List.range (2 ^ L)).find? (nH p L) with|some n => vH n L|none => [] := by unfold LU;rw [e, Int.toNat_natCast]
  rw [e, e2]
  have hru := FU L (by omega)
  have hp : 2 ^ L ≤ 2 ^ 6 := Nat.pow_le_pow_right (by decide) (by omega)
  generalize hT : 2 ^ L = T at *
  (refine aS Tryz.func27 rfl (by simp [Tryz.ntmps27]) ?_; rw [Tryz.ntmps27])
  repeat' (first|(apply aL;first|((with_reducible apply aJ (k := 47));(case ha => rfl);(case h => exact hr);(case hp => (exact Pur.pf));(case hN => rfl))|(apply aE;rfl;rfl)|(apply aV;rfl;rfl;(exact (rfl:_=[_, _]));rfl;rfl;rfl)|(apply aC;rfl;rfl)|(apply aF;kernel_rfl)|(apply cF;rfl;rfl)|(apply bH;rfl;rfl;rfl;rfl))|(apply aM;first|apply aH|apply aB|(apply cG;rfl;(rfl))|apply aK|apply aT)|with_reducible apply aA)
  refine bB (σ := Nat) [1, 2] [(1, _), (2, _)] [0] [(0, some _)] (fun k => [(6, iv (k : Int))]) (fun k => []) (fun k => k ≤ T ∧ ∀ j, j < k → nH p L j = false) (fun k => T - k) (0) ⟨Nat.zero_le _, fun j hj => by omega⟩ rfl rfl (by repeat' (first|exact trivial|refine And.intro rfl ?_)) (by repeat' (exact trivial)) ?_
  rintro k ⟨hk, hb⟩
  have hch := y9 k L (by omega) (by omega)
  have hwr := DS p (vH k L) hl hs (by rw [rQ]; omega)
  change PC _ _ _ (fun r => r = .tup [bv (nH p L k), _]) at hwr
  repeat' (first|(apply aL;first|((with_reducible apply aJ (k := 50));(case ha => rfl);(case h => exact hch);(case hp => (rfl));(case hN => rfl))|((with_reducible apply aJ (k := 49));(case ha => rfl);(case h => exact hwr);(case hp => (exact Pur.pf));(case hN => rfl))|((with_reducible apply aJ (k := 48));(case ha => rfl);(case h => exact hru);(case hp => (rfl));(case hN => rfl))|(apply aE;rfl;rfl)|(apply aV;rfl;rfl;(exact (rfl:_=[_, _]));rfl;rfl;rfl)|(first|(apply bS;rfl;rfl;omega;rfl)|(apply aU;rfl;rfl;rfl;rfl))|(apply aC;rfl;rfl)|(apply aF;kernel_rfl)|(apply bD;rfl;rfl;rfl)|((apply bE (t := _));(case hze|hsm|hl => rfl);(case hfl => (rfl));(case hM|hN => rfl)))|(apply aM;first|apply aH|apply aB|(apply bV;kernel_rfl)|(apply aQ;rfl;all_goals intro hc;have hq:=hc;(try simp only [cJ] at hq);try exfalso;omega)|apply aK|apply aT|apply bK|apply aR)|with_reducible apply aA|with_reducible apply bG|with_reducible apply bJ|with_reducible apply aX|with_reducible apply cP|with_reducible apply bO)
  ·rw [II (by omega) (by assumption) hb]
   exact aO (l := [sl cI (vH k L), bv true]) rfl ⟨rfl, Pur.pf⟩
  ·(apply dK (k + 1); focus (refine Le.ren [(0, 0)] rfl (by decide) ?_ ?_ <;> repeat' (first | exact trivial | refine And.intro ⟨_, rfl, ?_⟩ ?_ | refine And.intro ⟨_, _, rfl, rfl, ?_⟩ ?_ | exact Or.inr rfl | refine Or.inl ⟨?_, (by first | rfl | exact Pur.pf)⟩ | rfl)))
   ·refine ⟨by omega, fun j hj => ?_⟩
    by_cases q : j = k
    ·subst q;assumption
    ·exact hb j (by omega)
   ·omega
  ·obtain rfl : k = T := by omega
   rw [Dm hb]
   exact aO (l := [.imm 0 [], bv false]) rfl ⟨rfl, rfl⟩
 ·have h2 : pS p l = false := by simpa using h
  rw [h2] at hr
  have e : xW p l = none := by unfold xW;rw [if_neg h]
  have e2 : LU p l = [] := by unfold LU;rw [e]
  rw [e, e2]
  (refine aS Tryz.func27 rfl (by simp [Tryz.ntmps27]) ?_; rw [Tryz.ntmps27])
  repeat' (first|(apply aL;first|((with_reducible apply aJ (k := 47));(case ha => rfl);(case h => exact hr);(case hp => (exact Pur.pf));(case hN => rfl))|(apply aE;rfl;rfl)|(apply aV;rfl;rfl;(exact (rfl:_=[_, _]));rfl;rfl;rfl)|(apply aC;rfl;rfl)|(apply aF;kernel_rfl)|(apply cF;rfl;rfl)|(apply bH;rfl;rfl;rfl;rfl)|((apply bE (t := _));(case hze|hsm|hl => rfl);(case hfl => (rfl));(case hM|hN => rfl)))|(apply aM;first|apply aH|apply aB|(apply cB;rfl;(rfl))|apply aR)|with_reducible apply aA|with_reducible apply bG)
  exact aO (l := [.imm 0 [], bv false]) rfl ⟨rfl, rfl⟩
theorem HK (p : Prg) (l : Int) (hl : p.types.length ≤ 1000000) (hs : bX p.body ≤ 1000000) : PC Tryz.prog 23 [dF p, iv l] (fun r => r = bv (pS p l && (xW p l).isNone)) := by
 have h1 := vF p l hl hs
 have h2 := vT p l hl hs
 have e : (xW p l).isNone = !(xW p l).isSome := by cases xW p l <;> rfl
 rw [e]
 generalize (xW p l).isSome = b at *
 (refine aS Tryz.func23 rfl (by simp [Tryz.ntmps23]) ?_; rw [Tryz.ntmps23])
 repeat' (first|(apply aL;first|((with_reducible apply aJ (k := 27));(case ha => rfl);(case h => exact h1);(case hp => (exact Pur.pf));(case hN => rfl))|((with_reducible apply aJ (k := 47));(case ha => rfl);(case h => exact h2);(case hp => (exact Pur.pf));(case hN => rfl))|(apply aE;rfl;rfl)|(apply aV;rfl;rfl;(exact (rfl:_=[_, _]));rfl;rfl;rfl)|(first|(apply a8;rfl;rfl;rfl;(assumption))|(apply bC;rfl;rfl;rfl;(assumption))|(apply bR;(case hj|hb|hN => rfl);all_goals (intro hg;have hq := hg;(try simp only [cJ] at hq);(try (exfalso;omega)))))|(apply aC;rfl;rfl)|(first|(apply bY;rfl;(assumption);rfl;rfl)|(apply bQ;rfl;(assumption);rfl;rfl))|(apply aF;kernel_rfl)|(apply cF;rfl;rfl)|(apply bH;rfl;rfl;rfl;rfl)|(apply bD;rfl;rfl;rfl))|(apply aM;first|apply aH|apply aB|apply aR)|with_reducible apply aA)
 all_goals (refine aO rfl ⟨?_, rfl⟩; simp only [b0]; simp_all)
theorem IS (p : Prg) (l : Int) : (decide (0 < JB p l) && decide (LB p l = 0)) = (pS p l && (xW p l).isNone) := by
 unfold JB LB xW
 by_cases h : pS p l = true
 ·rw [if_pos h, if_pos h, if_pos h, h]
  have hp : 0 < 2 ^ l.toNat := Nat.pow_pos (by decide)
  rw [decide_eq_true (by omega : (0 : Int) < ((2 ^ l.toNat : Nat) : Int)), Bool.true_and, Bool.true_and, Bool.eq_iff_iff, decide_eq_true_eq, Option.isNone_iff_eq_none, List.find?_eq_none]
  unfold Bj
  constructor
  ·intro q x hx hb
   have : (List.range (2 ^ l.toNat)).filter (nH p l.toNat) = [] := List.length_eq_zero_iff.1 (by omega)
   have hm : x ∈ (List.range (2 ^ l.toNat)).filter (nH p l.toNat) := List.mem_filter.2 ⟨hx, hb⟩
   rw [this] at hm;cases hm
  ·intro q
   have : (List.range (2 ^ l.toNat)).filter (nH p l.toNat) = [] := List.filter_eq_nil_iff.2 q
   rw [this]; rfl
 ·rw [if_neg h, if_neg h, if_neg h]
  have h2 : pS p l = false := by simpa using h
  rw [h2]; rfl
theorem C0 (p : Prg) (l : Int) (hl : p.types.length ≤ 1000000) (hs : bX p.body ≤ 1000000) : PC Tryz.prog 20 [dF p, iv l] (fun r => r = bv (pS p l && (xW p l).isNone)) := by
 have h1 := Mh p l hl hs
 rw [← IS]
 have hb := Li p l
 generalize JB p l = a at *
 generalize LB p l = c at *
 (refine aS Tryz.func20 rfl (by simp [Tryz.ntmps20]) ?_; rw [Tryz.ntmps20])
 repeat' (first|(apply aL;first|((with_reducible apply aJ (k := 17));(case ha => rfl);(case h => exact h1);(case hp => (exact Pur.pf));(case hN => rfl))|(apply aE;rfl;rfl)|(apply aV;rfl;rfl;(exact (rfl:_=[_, _]));rfl;rfl;rfl)|(first|(apply a8;rfl;rfl;rfl;(assumption))|(apply bC;rfl;rfl;rfl;(assumption))|(apply bR;(case hj|hb|hN => rfl);all_goals (intro hg;have hq := hg;(try simp only [cJ] at hq);(try (exfalso;omega)))))|(apply aU;rfl;rfl;rfl;rfl)|(apply aC;rfl;rfl)|(first|(apply bY;rfl;(assumption);rfl;rfl)|(apply bQ;rfl;(assumption);rfl;rfl))|(apply aF;kernel_rfl)|(apply bH;rfl;rfl;rfl;rfl)|(apply bD;rfl;rfl;rfl))|(apply aM;first|apply aH|apply aB|apply aR)|with_reducible apply aA)
 all_goals (refine aO rfl ⟨?_, rfl⟩; simp only [b0]; first|(simp_all;done)|(simp_all;omega))
theorem Fp {p : Prg} {l : Int} {L : List Iss} (hL : cS p = true → ∃ f : Flows p.types (dC p), L = f.iss) (ha : (cS p && L.isEmpty) = true) (h0 : 0 ≤ l) (h6 : l ≤ 6) : (pS p l && (xW p l).isNone) = true := by
 have hv := (Bool.and_eq_true _ _ ▸ ha).1
 have h8 : pS p l = true := oS.2 ⟨hv, h0, h6⟩
 rw [h8, Bool.true_and, Option.isNone_iff_eq_none]
 unfold xW
 rw [if_pos h8]
 refine Dm fun j _ => ?_
 unfold nH
 rcases EL (cs := vH j l.toNat) (n := 80) hL ha with q|q | ⟨_, q⟩
 ·rw [q]; rfl
 ·rw [q]; rfl
 ·omega
def FI (q : Prg) (L : List Iss) : Prop := PC Tryz.prog 32 [dF q] (fun r => r = sl pK L) ∧ (∃ f : Flows q.types (dC q), L = f.iss) ∧ L.length ≤ 1000000
theorem FI.ex (q : Prg) (hs : bX q.body ≤ 1000000) (hl : q.types.length ≤ 1000000) (hv : cS q = true) : ∃ L, FI q L ∧ (∀ x ∈ L, 0 ≤ x.point) ∧ (q.body = [] → L = []) := by
 have w := WG.of_valid hv
 obtain ⟨f⟩ := Flows.ex w
 have e : KK q f = f.iss := if_pos hv
 refine ⟨f.iss, ⟨by rw [← e]; exact Fx q f hl hs, ⟨f, rfl⟩, Nat.le_trans (FD w f) (by decide)⟩, fun x hx => ?_, fun hb => Ee hb f⟩
 obtain ⟨k, hk, e2⟩ := List.getElem_of_mem hx
 have h := (Kl w f).1 k hk
 rw [cT _ _ hk, e2] at h
 exact h.1
def I4 (n : Nat) : List Int := (List.range n).map (fun (i : Nat) => (i : Int))
theorem Fz (n : Nat) : I4 (n + 1) = I4 n ++ [(n : Int)] := by unfold I4; rw [List.range_succ, List.map_append]; rfl
theorem HY (n : Nat) : (I4 n).length = n := by simp [I4]
theorem Kw (n : Nat) : I4 n = Mz n [] := by
 unfold I4 Mz;rw [List.filter_eq_self.2 (fun i _ => by simp)]
theorem BZ (p : Prg) (hv : cS p = false) (hl : p.types.length ≤ 1000000) (hs : bX p.body ≤ 1000000) : PC Tryz.prog 34 [dF p] (fun r => r = .tup [dF ⟨[], []⟩, sl cI []]) := by
 have hval := mL p hl (by omega)
 rw [hv] at hval
 (refine aS Tryz.func34 rfl (by simp [Tryz.ntmps34]) ?_; rw [Tryz.ntmps34])
 repeat' (first|(apply aL;first|((with_reducible apply aJ (k := 25));(case ha => rfl);(case h => exact hval);(case hp => (exact Pur.pf));(case hN => rfl))|(apply aV;rfl;rfl;(exact (rfl:_=[_, _]));rfl;rfl;rfl)|(apply aC;rfl;rfl)|(apply aF;kernel_rfl)|(apply b8;rfl;(exact (rfl:_=some [_, _]));(exact (rfl:_=[_, _]));rfl)|(apply cF;rfl;rfl)|(apply bH;rfl;rfl;rfl;rfl)|(apply a6;rfl;rfl)|(apply aW;rfl;rfl;rfl;rfl;rfl;(decide);(exact (rfl:_=[_, _]))))|(apply aM;first|apply aH|apply aB|(apply cB;rfl;(rfl))|apply aR)|with_reducible apply aA|with_reducible apply bG)
 refine cD (Le.nilImm (d := 3) rfl) ?_
 exact aO (l := [.agg [.imm 0 [], .imm 0 []], .imm 0 []]) rfl ⟨rfl, rfl⟩
theorem DF (p : Prg) (hv : cS p = true) (hl : p.types.length ≤ 1000000) (hs : bX p.body ≤ 1000000) (Q : Prg) (M : List Int) (hR : RepS FI p (Mz p.body.length []) [] Q M) : PC Tryz.prog 34 [dF p] (fun r => r = .tup [dF Q, sl cI M]) := by
 have hval := mL p hl (by omega)
 rw [hv] at hval
 have hown := KT p hs hl
 have hlen := dM p.body
 (refine aS Tryz.func34 rfl (by simp [Tryz.ntmps34]) ?_; rw [Tryz.ntmps34])
 repeat' (first|(apply aL;first|((with_reducible apply aJ (k := 25));(case ha => rfl);(case h => exact hval);(case hp => (exact Pur.pf));(case hN => rfl))|((with_reducible apply aJ (k := 65));(case ha => rfl);(case h => exact hown);(case hp => (exact Pur.pf));(case hN => rfl))|((apply fM (d := 5) (e := 1));(case hM|hN => rfl))|((apply fM (d := 6) (e := 1));(case hM|hN => rfl))|(apply aE;rfl;rfl)|(first|(apply aN;rfl;rfl;rfl;rfl)|(apply aV;rfl;rfl;(exact (rfl:_=[_, _]));rfl;rfl;rfl))|(apply aD;rfl;rfl;rfl)|(apply aC;rfl;rfl)|(apply bI;rfl;rfl;rfl)|(apply aF;kernel_rfl)|(apply cF;rfl;rfl)|(apply bH;rfl;rfl;rfl;rfl)|(apply a6;rfl;rfl)|(apply aW;rfl;rfl;rfl;rfl;rfl;(case hl => (simp;done));(exact (rfl:_=[_, _]))))|(apply aM;first|apply aH|apply aB|(apply cG;rfl;(rfl))|apply aK|apply aT)|with_reducible apply aA)
 refine bB (σ := Nat × List Int) [2, 4, 6, 19] [(2, _), (4, _), (6, _), (19, _)] [4, 2, 1, 0] [(4, some _), (2, some _), (1, some _), (0, some _)] (fun k => [(20, iv (k.1 : Int)), (5, .own 3 0 k.1 1)]) (fun k => [(3, some (aI cI k.2))]) (fun k => k.1 ≤ p.body.length ∧ k.2 = I4 k.1) (fun k => p.body.length - k.1) (0, []) ⟨Nat.zero_le _, rfl⟩ rfl rfl (by repeat' (first|exact trivial|refine And.intro rfl ?_)) (by repeat' (first|exact trivial|refine And.intro (.inr rfl) ?_)) ?_
 rintro ⟨k, u⟩ ⟨hk, hu⟩
 dsimp only at hk hu
 try dsimp only
 have hrn := HY k
 rw [← hu] at hrn
 have hrs := Fz k
 by_cases hkn : k < p.body.length
 ·repeat' (first | (apply aL; first | (apply aE;rfl;rfl) | (first | (apply bS;rfl;rfl;omega;rfl) | (apply aU;rfl;rfl;rfl;rfl)) | (apply aC;rfl;rfl) | (apply bW;rfl;rfl;rfl;rfl;rfl;(rw [aP]; omega);(rfl);omega;omega;(exact gD (by (omega)));rfl;rfl) | (apply aF;kernel_rfl) | ((apply bE (t := _)); (case hze | hsm | hl => rfl); (case hfl => exact (rfl:_=some [_])); (case hM | hN => rfl))) | (apply aM; first | apply aH | apply aB | (apply aQ;rfl;all_goals intro hc;have hq:=hc;(try simp only [cJ] at hq);try exfalso;omega) | apply aK | apply aT) | with_reducible apply aA | with_reducible apply aX)
  (apply dK (k + 1, _);focus (refine Le.ren [(0, 0), (1, 1), (2, 2), (4, 4), (3, 6)] rfl (by decide) ?_ ?_ <;> repeat' (first|exact trivial|refine And.intro ⟨_, rfl, ?_⟩ ?_|refine And.intro ⟨_, _, rfl, rfl, ?_⟩ ?_|exact Or.inr rfl|refine Or.inl ⟨?_, (by first|rfl|exact aY _ _|exact Pur.pf)⟩|rfl)))
  ·exact ⟨hkn, by dsimp only;rw [hrs, hu]⟩
  ·show p.body.length - (k + 1) < p.body.length - k;omega
 ·obtain rfl : k = p.body.length := by omega
  subst hu
  repeat' (first|(apply aL;first|(apply aU;rfl;rfl;rfl;rfl)|(apply aF;kernel_rfl))|(apply aM;first|apply aH|apply aB|(apply aQ;rfl;all_goals intro hc;have hq:=hc;(try simp only [cJ] at hq);try exfalso;omega)|apply aK|apply bK)|with_reducible apply aA|with_reducible apply bJ|with_reducible apply bO)
  refine bB (σ := List AL.Stmt × List Int × List Int × Nat × Nat) [2, 4] [(2, _), (4, _)] [1, 0] [(1, some _), (0, some _)] (fun s => [(5, .own 3 0 s.2.2.2.1 1), (6, .own 4 0 s.2.2.2.2 1)]) (fun s => [(2, some [sl cI p.types, sl aZ s.1]), (3, some (aI cI s.2.1)), (4, some (aI cI s.2.2.1))]) (fun s => RepS FI ⟨p.types, s.1⟩ s.2.1 s.2.2.1 Q M ∧ s.2.1.length = s.1.length ∧ cS ⟨p.types, s.1⟩ = true ∧ bX s.1 ≤ bX p.body ∧ s.2.2.2.1 = s.2.1.length ∧ s.2.2.2.2 = s.2.2.1.length ∧ s.2.2.1.length + s.1.length = p.body.length) (fun s => s.1.length) (p.body, I4 p.body.length, [], p.body.length, 0) ⟨by rw [Kw]; exact hR, hrn, hv, Nat.le_refl _, hrn.symm, rfl, Nat.zero_add _⟩ rfl rfl (by repeat' (first|exact trivial|refine And.intro rfl ?_)) (by repeat' (first|exact trivial|refine And.intro (.inr rfl) ?_)) ?_
  rintro ⟨b, l, m, ln, mn⟩ ⟨hR1, h1, h2, h3, h4, h5, h6⟩
  dsimp only at hR1 h1 h2 h3 h4 h5 h6
  try dsimp only
  rcases hR1.inv with ⟨hF, rfl, rfl⟩ | ⟨x, L, k, hF, hk, hr⟩
  ·have hfi := wY ⟨p.types, b⟩ [] hF.1
   repeat' (first|(apply aL;first|((with_reducible apply aJ (k := 66));(case ha => rfl);(case h => exact hfi);(case hp => (exact Pur.pf));(case hN => rfl))|(apply aE;rfl;rfl)|(apply aV;rfl;rfl;(exact (rfl:_=[_, _]));rfl;rfl;rfl)|(apply aC;rfl;rfl)|(apply aF;kernel_rfl)|(apply cF;rfl;rfl)|(apply a6;rfl;rfl)|(apply bD;rfl;rfl;rfl)|(apply aW;rfl;rfl;rfl;rfl;rfl;(case hl => (first|decide|(simp;done)));(first|exact (rfl:_=[_, _])|exact (rfl:_=[_, _, _]))))|(apply aM;first|apply aH|apply aB|(apply cB;rfl;(rfl))|apply aK|apply aR)|with_reducible apply aA|with_reducible apply bG|with_reducible apply cP)
   refine cD (Le.frzD (d := 3) (i := 4) rfl rfl) ?_
   refine aO (l := [.agg [sl cI p.types, sl aZ b], .imm mn (aI cI M)]) rfl ⟨?_, (by (exact Pur.pf))⟩
   simp only [b0, sl, h5]
  ·have hfi : PC Tryz.prog 66 [dF ⟨p.types, b⟩] (fun r => r = .tup [Ma x, bv true]) := wY ⟨p.types, b⟩ (x :: L) hF.1
   have hkl := hk.lt
   dsimp only at hkl
   have hx0 : 0 ≤ x.point := by have := hk.lo;omega
   have hbl := dM b
   repeat' (first|(apply aL;first|((with_reducible apply aJ (k := 66));(case ha => rfl);(case h => exact hfi);(case hp => (exact Pur.pf));(case hN => rfl))|(apply aE;rfl;rfl)|(apply aV;rfl;rfl;(exact (rfl:_=[_, _]));rfl;rfl;rfl)|(apply aC;rfl;rfl)|(apply aF;kernel_rfl)|(apply cF;rfl;rfl)|(apply a6;rfl;rfl)|(apply bD;rfl;rfl;rfl)|(apply aW;rfl;rfl;rfl;rfl;rfl;(case hl => (simp;done));(exact (rfl:_=[_, _, _]))))|(apply aM;first|apply aH|apply aB|(apply cG;rfl;(rfl))|apply aK|apply aT)|with_reducible apply aA)
   refine bB (σ := Nat) [2, 4, 5, 6, 8] [(2, _), (4, _), (5, _), (6, _), (8, _)] [5, 4, 3, 2, 1, 0] [(5, some _), (4, some _), (3, some _), (2, some _), (1, some _), (0, some _)] (fun j => [(10, iv (j : Int))]) (fun j => []) (fun j => j < b.length ∧ (eC (b.take j) : Int) ≤ x.point) (fun j => b.length - j) (0) ⟨by omega, by simpa [eC] using hx0⟩ rfl rfl (by repeat' (first|exact trivial|refine And.intro rfl ?_)) (by repeat' (exact trivial)) ?_
   intro j ⟨hj, hjx⟩
   have hdr : PC Tryz.prog 69 [dF ⟨p.types, b⟩, iv (j : Int)] (fun r => r = .agg [sl cI p.types, sl aZ (fF j b)]) := ED ⟨p.types, b⟩ j hj (by show bX b ≤ _; omega) hl
   by_cases hjn : j + 1 < b.length
   ·have hfp : PC Tryz.prog 67 [dF ⟨p.types, b⟩, iv ((j : Int) + 1)] (fun r => r = iv (eC (b.take (j + 1)) : Int)) := x9 ⟨p.types, b⟩ (j + 1) (by show j + 1 ≤ b.length; omega) (by show bX b ≤ _; omega)
    repeat' (first|(apply aL;first|((with_reducible apply aJ (k := 67));(case ha => rfl);(case h => exact hfp);(case hp => (exact Pur.pf));(case hN => rfl))|((with_reducible apply aJ (k := 69));(case ha => rfl);(case h => exact hdr);(case hp => (exact Pur.pf));(case hN => rfl))|(apply aE;rfl;rfl)|(first|(apply eF;(case hx|hH => rfl);(case hf|hg|hα => infer_instance);(case hk => omega);(case hc|hN => rfl))|(apply aN;rfl;rfl;rfl;rfl)|(apply aV;rfl;rfl;(exact (rfl:_=[_, _]));rfl;rfl;rfl))|(apply aD;rfl;rfl;rfl)|(first|(apply a8;rfl;rfl;rfl;(assumption))|(apply bR;(case hj|hb|hN => rfl);all_goals (intro hg;have hq := hg;(try simp only [cJ] at hq);(try (exfalso;omega)))))|(first|(apply bS;rfl;rfl;omega;rfl)|(apply aU;rfl;rfl;rfl;rfl))|(apply aC;rfl;rfl)|(apply bY;rfl;(assumption);rfl;rfl)|(apply cH;rfl;rfl;(omega);rfl)|(apply Dq;rfl;rfl;rfl;(rfl);(apply GB <;> (first|assumption|omega));rfl;rfl)|(first|(apply bI;rfl;rfl;rfl)|(apply bW;rfl;rfl;rfl;rfl;rfl;(rw [aP]; omega);(rfl);omega;omega;(exact gD (by (assumption)));rfl;rfl))|(apply aF;kernel_rfl)|(apply bZ;rfl;rfl;rfl;exact (rfl:_=some [_]);rfl;rfl)|(apply aW;rfl;rfl;rfl;rfl;rfl;(case hl => (simp;done));(exact (rfl:_=[_, _]))))|(apply aM;first|apply aH|apply aB|(apply bV;kernel_rfl)|(apply aQ;rfl;all_goals intro hc;have hq:=hc;(try simp only [cJ] at hq);try exfalso;omega)|apply aK|apply aT|apply bK)|with_reducible apply aA|with_reducible apply bJ|with_reducible apply aX|with_reducible apply bO)
    ·(apply dK (j + 1); focus (refine Le.ren [(0, 0), (1, 1), (2, 2), (3, 3), (4, 4), (5, 5)] rfl (by decide) ?_ ?_ <;> repeat' (first | exact trivial | refine And.intro ⟨_, rfl, ?_⟩ ?_ | refine And.intro ⟨_, _, rfl, rfl, ?_⟩ ?_ | exact Or.inr rfl | refine Or.inl ⟨?_, (by first | rfl | exact aY _ _ | exact Pur.pf)⟩ | rfl)))
     ·exact ⟨hjn, by assumption⟩
     ·omega
    ·have e : j = k := AtS.uniq ⟨hj, hjx, fun _ => by assumption⟩ hk
     subst e
     (apply dK (fF j b, fF j l, m ++ [l[j]!], ln - 1, mn + 1);focus (refine Le.ren [(0, 0), (1, 1), (2, 2), (3, 3), (4, 7)] rfl (by decide) ?_ ?_ <;> repeat' (first|exact trivial|refine And.intro ⟨_, rfl, ?_⟩ ?_|refine And.intro ⟨_, _, rfl, rfl, ?_⟩ ?_|exact Or.inr rfl|refine Or.inl ⟨?_, (by first|rfl|exact aY _ _|exact Pur.pf)⟩|rfl)))
     ·have d1 := eO (k := j) (xs := b) hj
      have d2 := eO (k := j) (xs := l) (by omega)
      have d3 := kZ b j
      exact ⟨hr, by dsimp only;omega, jH h2, by dsimp only;omega, by dsimp only;omega, by simp [h5], by simp;omega⟩
     ·have d1 := eO (k := j) (xs := b) hj
      dsimp only;omega
   ·repeat' (first | (apply aL; first | ((with_reducible apply aJ (k := 69)); (case ha => rfl); (case h => exact hdr); (case hp => (exact Pur.pf)); (case hN => rfl)) | (apply aE;rfl;rfl) | (first | (apply eF; (case hx | hH => rfl); (case hf | hg | hα => infer_instance); (case hk => omega); (case hc | hN => rfl)) | (apply aN;rfl;rfl;rfl;rfl) | (apply aV;rfl;rfl;(exact (rfl:_=[_, _]));rfl;rfl;rfl)) | (apply aD;rfl;rfl;rfl) | (first | (apply bC;rfl;rfl;rfl;(assumption)) | (apply bR; (case hj | hb | hN => rfl); all_goals (intro hg; have hq := hg; (try simp only [cJ] at hq); (try (exfalso; omega))))) | (first | (apply bS;rfl;rfl;omega;rfl) | (apply aU;rfl;rfl;rfl;rfl)) | (apply aC;rfl;rfl) | (apply bQ;rfl;(assumption);rfl;rfl) | (apply cH;rfl;rfl;(omega);rfl) | (apply Dq;rfl;rfl;rfl;(rfl);(apply GB <;> (first | assumption | omega));rfl;rfl) | (first | (apply bI;rfl;rfl;rfl) | (apply bW;rfl;rfl;rfl;rfl;rfl;(rw [aP]; omega);(rfl);omega;omega;(exact gD (by (assumption)));rfl;rfl)) | (apply aF;kernel_rfl) | (apply bZ;rfl;rfl;rfl;exact (rfl:_=some [_]);rfl;rfl) | (apply aW;rfl;rfl;rfl;rfl;rfl;(case hl => (simp;done));(exact (rfl:_=[_, _])))) | (apply aM; first | apply aH | apply aB | (apply bV;kernel_rfl) | (apply cG;rfl;(rfl)) | apply bK) | with_reducible apply aA | with_reducible apply bJ | with_reducible apply aX | with_reducible apply bO)
    have e : j = k := AtS.uniq ⟨hj, hjx, fun h => absurd h hjn⟩ hk
    subst e
    (apply dK (fF j b, fF j l, m ++ [l[j]!], ln - 1, mn + 1);focus (refine Le.ren [(0, 0), (1, 1), (2, 2), (3, 3), (4, 7)] rfl (by decide) ?_ ?_ <;> repeat' (first|exact trivial|refine And.intro ⟨_, rfl, ?_⟩ ?_|refine And.intro ⟨_, _, rfl, rfl, ?_⟩ ?_|exact Or.inr rfl|refine Or.inl ⟨?_, (by first|rfl|exact aY _ _|exact Pur.pf)⟩|rfl)))
    ·have d1 := eO (k := j) (xs := b) hj
     have d2 := eO (k := j) (xs := l) (by omega)
     have d3 := kZ b j
     exact ⟨hr, by dsimp only;omega, jH h2, by dsimp only;omega, by dsimp only;omega, by simp [h5], by simp;omega⟩
    ·have d1 := eO (k := j) (xs := b) hj
     dsimp only;omega
theorem Gc (p : Prg) (hl : p.types.length ≤ 1000000) (hs : bX p.body ≤ 20000) : ∃ (Q : Prg) (M : List Int), PC Tryz.prog 34 [dF p] (fun r => r = .tup [dF Q, sl cI M]) ∧ bX Q.body ≤ 20000 ∧ Q.types.length ≤ 1000000 ∧
  (cS p = true → cS Q = true ∧ ∃ f : Flows Q.types (dC Q), [] = f.iss) := by
 cases hv : cS p
 ·exact ⟨⟨[], []⟩, [], BZ p hv hl (by omega), by simp [bX], by simp, fun h => by cases h⟩
 ·have hex := fun (q : Prg) (hq : cS q = true) => FI.ex q (by
   unfold cS at hq;simp only [Bool.and_eq_true, decide_eq_true_eq] at hq;omega) (by
   unfold cS at hq;simp only [Bool.and_eq_true, decide_eq_true_eq] at hq;have := gX hq.1.1;omega) hq
  obtain ⟨Q, M, hR⟩ := RepS.ex hex p.body.length p (Mz p.body.length []) [] (Nat.le_refl _) hv
  obtain ⟨f1, f2, f3, f4, f5⟩ := hR.fin hv
  have hlen := dM p.body
  exact ⟨Q, M, DF p hv hl (by omega) Q M hR, by omega, by rw [f3]; exact hl, fun _ => ⟨f2, f1.2.1⟩⟩
theorem tJ (bs : List UInt8) : PC Tryz.prog 10 [sl cU bs] (fun r => r = bv true) := by
 rcases Nat.lt_or_ge 1048576 bs.length with hb|hb
 ·(refine aS Tryz.func10 rfl (by simp [Tryz.ntmps10]) ?_; rw [Tryz.ntmps10])
  repeat' (first|(apply aL;first|(apply aE;rfl;rfl)|(apply aU;rfl;rfl;rfl;rfl)|(apply aC;rfl;rfl)|(apply bI;rfl;rfl;rfl)|(apply aF;kernel_rfl))|(apply aM;first|apply aH|apply aB|(apply aQ;rfl;all_goals intro hc;have hq:=hc;(try simp only [cJ] at hq);try exfalso;omega)|apply aR)|with_reducible apply aA|with_reducible apply bG)
  exact aO rfl ⟨rfl, rfl⟩
 (refine aS Tryz.func10 rfl (by simp [Tryz.ntmps10]) ?_; rw [Tryz.ntmps10])
 repeat' (first|(apply aL;first|((with_reducible apply jP (k := 22));(case ha => rfl);(case h => exact FN bs hb);(case hp => (exact Pur.pf));(case hN => rfl);(rintro _ ⟨q, n, rfl, hq1, hq2, hq3, hq4⟩ _))|(with_reducible apply cV (d := 15))|(apply aE;rfl;rfl)|(apply aU;rfl;rfl;rfl;rfl)|(apply aC;rfl;rfl)|(apply bI;rfl;rfl;rfl)|(apply aF;kernel_rfl)|(apply a6;rfl;rfl)|(apply bD;rfl;rfl;rfl)|(apply aW;rfl;rfl;rfl;rfl;rfl;(case hl => (simp;done));(exact (rfl:_=[_, _]))))|(apply aM;first|apply aH|apply aB|(apply bV;kernel_rfl)|(apply aQ;rfl;all_goals intro hc;have hq:=hc;(try simp only [cJ] at hq);try exfalso;omega)|apply aT)|with_reducible apply aA)
 refine dX ?_
 have h1 := C0 q n (by omega) (by omega)
 have h2 := HK q n (by omega) (by omega)
 have h3 := mL q (by omega) (by omega)
 obtain ⟨Q, M, hr, hQ1, hQ2, hQ⟩ := Gc q (by omega) (by omega)
 have h4 := C0 Q n (by omega) (by omega)
 have hs : cS q = true → 0 ≤ n → n ≤ 6 → (pS Q n && (xW Q n).isNone) = true := fun hv h0 h6 => by
  obtain ⟨g1, g2⟩ := hQ hv
  exact Fp (L := []) (fun _ => g2) (by rw [g1]; rfl) h0 h6
 generalize (pS q n && (xW q n).isNone) = sf at *
 generalize (pS Q n && (xW Q n).isNone) = sQ at *
 generalize cS q = vd at *
 repeat' (first|(apply aL;first|((with_reducible apply aJ (k := 20) (d := 49));(case ha => rfl);(case h => exact h4);(case hp => (exact Pur.pf));(case hN => rfl))|((with_reducible apply aJ (k := 20));(case ha => rfl);(case h => exact h1);(case hp => (exact Pur.pf));(case hN => rfl))|((with_reducible apply aJ (k := 23));(case ha => rfl);(case h => exact h2);(case hp => (exact Pur.pf));(case hN => rfl))|((with_reducible apply aJ (k := 34));(case ha => rfl);(case h => exact hr);(case hp => (exact Pur.pf));(case hN => rfl))|((with_reducible apply aJ (k := 25));(case ha => rfl);(case h => exact h3);(case hp => (exact Pur.pf));(case hN => rfl))|(apply aE;rfl;rfl)|(apply aV;rfl;rfl;(exact (rfl:_=[_, _]));rfl;rfl;rfl)|(first|(apply a8;rfl;rfl;rfl;(assumption))|(apply bC;rfl;rfl;rfl;(first|rfl|assumption))|(apply bR;(case hj|hb|hN => rfl);all_goals (intro hg;have hq := hg;(try simp only [cJ] at hq);(try (exfalso;omega)))))|(first|(apply Jk;rfl;rfl;rfl;rfl)|(apply aU;rfl;rfl;rfl;rfl))|(apply aC;rfl;rfl)|(first|(apply bY;rfl;(first|rfl|assumption);rfl;rfl)|(apply bQ;rfl;(assumption);rfl;rfl))|(apply aF;kernel_rfl)|(apply cF;rfl;rfl)|(apply a6;rfl;rfl)|(apply bD;rfl;rfl;rfl)|(apply aW;rfl;rfl;rfl;rfl;rfl;(case hl => (simp;done));(exact (rfl:_=[_, _]))))|(apply aM;first|apply aH|apply aB|(apply bV;kernel_rfl)|(apply cB;rfl;(rfl))|(apply aQ;rfl;all_goals intro hc;have hq:=hc;(try simp only [cJ] at hq);try exfalso;omega)|apply aT|apply aR)|with_reducible apply aA|with_reducible apply bG)
 all_goals first
  | (exfalso;exact (by assumption : ¬ True) trivial)
  | (refine aO rfl ⟨?_, rfl⟩; simp only [b0, decide_true]; done)
  | (refine aO rfl ⟨?_, rfl⟩; simp only [b0]; have hs' := hs (by assumption) (by omega) (by omega);grind)
end Go.Proofs.YtckihjkcgfphmaaGreat
namespace Go.Proofs.YtckihjkcgfphmaaGreat
open Go.AL Go.ChangeShapes Go.WideShapes Go.ChangeAt Go.RowKit
theorem wC {w : World} {bad : Nat → Prop} {ι : Pl} {b : Nat} : ∀ (bs : List UInt8) (o : Nat), ¬ bad b → (∀ j, j < bs.length → w.cell? ⟨b, o + j, none⟩ = some (.int .u8 ((bs[j]!).toNat : Int))) → RdC w bad ι (aI cU bs) b o
 | [], _, _, _ => by simp only [aI, List.flatMap_nil, RdC]
 | x :: bs, o, hb, h => by
  have h0 := h 0 (by simp)
  have e : aI cU (x :: bs) = .v (.int .u8 (x.toNat : Int)) :: aI cU bs := rfl
  rw [e]
  simp only [RdC]
  refine ⟨⟨.int .u8 (x.toNat : Int), by simpa using h0, rfl, by simp only [Rd]⟩, wC bs (o + 1) hb fun j hj => ?_⟩
  have := h (j + 1) (by simpa using hj)
  rw [show o + 1 + j = o + (j + 1) from by omega]
  simpa using this
theorem zN {P : Program} {k : FuncId} {bs : List UInt8} (h : PC P k [sl cU bs] (fun r => r = bv true)) {W : World} {v : Value} (hv : Rd W (fun _ => False) (fun _ => none) (sl cU bs) v) :
  Calls P k #[v] W fun e W' => e = .returned (.bool true) ∧ Below W.heap.size W W' := by
 let C : Ctx := { N := 0, w0 := W, W0 := fun _ => False, X := fun _ => False, ι0 := fun _ => none, xlt := fun _ h => h.elim }
 have hbad : ∀ b, ¬ bF C.X (fun _ => none) (cO []) b := by
  rintro b (h | ⟨id, cs, β, h1, h2⟩)
  ·exact h
  ·cases h2
 have g : HG C (fun _ => none) (fun j => 0 ≤ j) (cO []) W :=
  ⟨fun id cs h => by simp [cO] at h, fun id id' cs cs' b β β' h => by simp [cO] at h, Fr.refl _ _, fun _ _ h => h, fun _ _ => rfl⟩
 have hcar : Carry W (fun _ => False) (fun _ => none) W (bF C.X (fun _ => none) (cO [])) (fun _ => none) := ⟨fun b o x _ h2 => ⟨hbad b, h2⟩, fun _ _ h => h, fun _ => Nat.le_refl _⟩
 have ha : RdV W (bF C.X (fun _ => none) (cO [])) (fun _ => none) [sl cU bs] [v] := by
  simp only [RdV]
  exact ⟨v, [], rfl, Rd.carry hcar _ _ hv, rfl⟩
 refine (h C _ W [v] rfl rfl g ha).mono ?_
 rintro e W' ⟨v', r, H', ι', rfl, ⟨rfl, _⟩, h4, h5⟩
 simp only [Rd] at h4
 subst h4
 have f := h5.fr
 exact ⟨rfl, f.os, f.tape, f.output, f.size, fun b hb => f.block b hb (fun h => h)⟩
theorem MG : laidOutB Tryz.prog = true := by kernel_rfl
theorem Kt : Tryz.prog.cellsOf 5 = 1 := by kernel_rfl
theorem Hj {H : Type} {enc : TypeId × Value → H} {W : World} {base : Nat} {v0 : Value} {d0 : DataW H} {p : List MemPlace} (hval : Value.okWide Tryz.prog W .any base 22 v0) (h0 : DataW.Trod enc Tryz.prog W 0 (fun _ => true) true 22 v0 d0 p) :
  ∃ bs : List UInt8, Rd W (fun _ => False) (fun _ => none) (sl cU bs) v0 := by
 obtain ⟨a0, len, cap, rfl⟩ := okWide_slice Tryz.underlying22 hval
 obtain ⟨fuel, hf⟩ := h0
 rcases open_ints Tryz.underlying22 Tryz.underlying5 Kt hf with ⟨hcs, hx⟩ | ⟨a, len', cap', zs, hcs, _, hl, hm, hz, hx, hcell, hwz⟩
 ·simp [Value.cells] at hcs
  obtain ⟨rfl, rfl, rfl⟩ := hcs
  refine ⟨[], ?_⟩
  simp only [Rd]
  exact ⟨none, 0, rfl, .inl rfl⟩
 ·simp [Value.cells] at hcs
  obtain ⟨rfl, rfl, rfl⟩ := hcs
  simp only [if_true] at hz
  refine ⟨(zs.take len).map fun n => UInt8.ofNat n.toNat, ?_⟩
  have hlen : ((zs.take len).map fun n => UInt8.ofNat n.toNat).length = len := by simp;omega
  simp only [Rd]
  refine ⟨some a, cap, by rw [hlen], ?_⟩
  by_cases h00 : len = 0
  ·exact .inl (by rw [hlen]; exact h00)
  ·obtain ⟨b, off, spot⟩ := a
   have hspot : spot = none := by simpa [Addr.add] using World.cell?_spot (hcell 0 (by omega))
   subst hspot
   refine .inr ⟨b, off, by rw [hlen]; exact hl, rfl, .inr ⟨fun h => h, wC _ _ (fun h => h) fun j hj => ?_⟩⟩
   rw [hlen] at hj
   have hcj := hcell j (by omega)
   rw [Addr.add_lit] at hcj
   rw [hcj]
   have e : zs.getD j 0 = zs[j]'(by omega) := by simp [List.getD, List.getElem?_eq_getElem (show j < zs.length by omega)]
   have hw := hwz (zs[j]'(by omega)) (List.getElem_mem _)
   have hr : 0 ≤ zs[j]'(by omega) ∧ zs[j]'(by omega) ≤ 255 := by simpa [Lit.wf, IntKind.min, IntKind.max, IntKind.signed, IntKind.bits] using hw
   rw [e, cT _ _ (by rw [hlen]; exact hj)]
   simp only [List.getElem_map, List.getElem_take]
   congr 2
   simp only [UInt8.toNat_ofNat']
   omega
end Go.Proofs.YtckihjkcgfphmaaGreat
