/-
 A part of the proofs over this program: rules and contracts of its functions (the contracts).
-/
import Derived.Test.YtckihjkcgfphmaaGreatP5B07
import Derived.Test.YtckihjkcgfphmaaGreatRows
import Derived.WalkKit
import Derived.ProofKit
import Derived.OpenShut
import Derived.Carry
import Derived.ChangeSlices
set_option linter.unusedVariables false
set_option linter.unusedSimpArgs false
set_option maxHeartbeats 8000000
set_option maxRecDepth 4000
attribute [local irreducible] Go.AL.RW Go.AL.AW Go.AL.Stop
namespace Go.Proofs.YtckihjkcgfphmaaGreat
open Go.AL Go.RowKit
theorem IB {p:Prg}{cs:List Int}{n:Int}{N:Nat}{Q:Exit → AS → Prop}{all:Array Oper}{rest:List Oper}{tsl:List (Nat × AV)}{hsl:List (Nat × Option (List AV))}{nidl:Nat}{z0:Lo}{md:Md}{d:Nat}{ty:TypeId}{pos:String}{af:Array Edge}{tys:Array TypeId}{x0 x1 x2:Operand}(ha0:ev (lk tsl) x0 = some (dT p)) (ha1:ev (lk tsl) x1 = some (sl cI cs)) (ha2:ev (lk tsl) x2 = some (iv n)) (hmc:MC Tryz.prog 41 [dT p,sl cI cs,iv n] [] 0 (fun _:Unit => True) (fun _ => .tup [.optr 1 0,iv 5,iv 0]) (fun _ => [(1,some ([.v (.pointer none),.imm 0 [],.imm 0 [],.imm 0 []]))])) (hM:Nat.ble (nidl + 2) eS = true) (hN:Nat.blt d N = true){md':Md}[hmd:MdA md (gL [x0,x1,x2] ++ []) (List.map Sum.inr (List.map Prod.fst ([((nidl + 1),some ([.v (.pointer none),.imm 0 [],.imm 0 [],.imm 0 []]))]:List (Nat × Option (List AV)))) ++ [.inl d]) md'] (kk:RW Tryz.prog N all Q md' rest ⟨(d,.tup [.optr (nidl + 1) 0,iv 5,iv 0]) :: tsl,iH hsl [((nidl + 1),some ([.v (.pointer none),.imm 0 [],.imm 0 [],.imm 0 []]))],nidl + 2,z0⟩):RW Tryz.prog N all Q md (⟨some d,.call ⟨.value (.func 41),#[x0,x1,x2],tys⟩,ty,pos,af,none⟩ :: rest) ⟨tsl,hsl,nidl,z0⟩ := by
 refine cE [] 2 [((nidl + 1), some ([.v (.pointer none), .imm 0 [], .imm 0 [], .imm 0 []]))] hmc (avs := [dT p, sl cI cs, iv n]) ?_ rfl ?_ rfl ?_ (by simpa using hM) ?_ ?_ ?_ hN (md' := md') (hmd := hmd) kk
 ·show evL (lk tsl) [x0, x1, x2] = _
  simp only [evL, ha0, ha1, ha2]
 ·exact trivial
 ·(repeat' (exact RnL.purI inferInstance))
 ·(repeat' (first|exact RnL.purI inferInstance|exact RnV.optr rfl|refine RnL.cons ?_ ?_|refine RnV.tup ?_))
 ·simp [dL]
 ·(repeat' (first|exact trivial|(refine And.intro ⟨1, _, rfl, rfl, ?_⟩ ?_)|exact RnL.purI inferInstance))
theorem Le.nilMid {ts:List (Nat × AV)}{hs:List (Nat × Option (List AV))}{n:Nat}{z0:Lo}{i:Nat}(c1:List AV){c2:List AV}(hi:cO hs i = some (c1 ++ .v (.slice none 0 0) :: c2)) :
  Le ⟨ts, hs, n, z0⟩ ⟨ts, (i, some (c1 ++ .imm 0 [] :: c2)) :: hs, n, z0⟩ :=
 Le.cells hi (by simp) fun w bad ι b β h => rM (fun y hy => by have := oC (av := .v (.slice none 0 0)) hy;exact this) c1 c2 b β h
theorem Ki {ts:List Int}{pts:List Pnt}{a last:Nat}{l:List Nat}{s:Mc}:iG ts pts (a :: l) s last = if (eW ts s pts[a]!).2 = -1 then iG ts pts l (eW ts s pts[a]!).1 a else ((eW ts s pts[a]!).1,(eW ts s pts[a]!).2,a) := by
 rw [iG]
 by_cases h : dI ts s pts[a]! = true
 ·rw [if_pos h, vA h, if_neg (show ¬ (2 : Int) = -1 by decide)]
 ·have h2 : dI ts s pts[a]! = false := by simpa using h
  rw [if_neg h, qZ h2]
theorem Mm {ts:List Int}{nt:Nat}{s:Mc}(h:OkS nt s){x:Pnt}(hx:PtN x):OkS nt (eW ts s x).1 := by
 unfold eW;split
 ·exact h
 ·exact h.do hx
theorem JF {ts:List Int}{s:Mc}{x:Pnt}:(eW ts s x).1.read.length ≤ s.read.length + 1 := by
 unfold eW;split
 ·dsimp only;omega
 ·exact AI
theorem MD {ts:List Int}{s:Mc}{x:Pnt}(ho:x.op = 6) (hz:cP s.cells s.slots[x.y.toNat]!.ptr false = 0) (hu:dI ts s x = false) (ht:ts[x.x.toNat]! = 1):(eW ts s x).2 = -1 := by
 rw [qZ hu]
 unfold c9
 rw [if_neg (show ¬ x.op = 1 by omega), if_neg (show ¬ x.op = 2 by omega), if_neg (show ¬ x.op = 3 by omega), if_neg (show ¬ (x.op = 4 ∨ x.op = 5) by omega), if_pos ho, if_pos hz]
 unfold c6
 rw [if_neg (fun h => by have := h.1;omega)]
theorem KC (p:Prg) (cs:List Int) (n:Int) (hl:p.types.length ≤ 1000000) (hs:b9 p.body ≤ 1000000) (hr:y1 p n = false):MC Tryz.prog 41 [dT p,sl cI cs,iv n] [] 0 (fun _:Unit => True) (fun _ => .tup [.optr 1 0,iv 5,iv 0]) (fun _ => [(1,some ([.v (.pointer none),.imm 0 [],.imm 0 [],.imm 0 []]))]) := by
 have hg := kW p hl hs
 unfold y1 at hr
 by_cases hv : dF p = true
 ·rw [if_pos hv] at hg
  rw [hv] at hr
  have hnn : ¬ (0 ≤ n ∧ n ≤ 150) := fun h => by rw [decide_eq_true h.1, decide_eq_true h.2] at hr;cases hr
  (refine cC Tryz.func41 rfl (by simp [Tryz.ntmps41]) ?_; rw [Tryz.ntmps41])
  repeat' (first|(apply aL;first|((with_reducible apply aJ (k := 62));(case ha => rfl);(case h => exact hg);(case hp => (exact Pur.pf));(case hN => rfl))|(apply aE;rfl;rfl)|(apply aV;rfl;rfl;(exact (rfl:_=[_, _]));rfl;rfl;rfl)|(apply bB;rfl;rfl;rfl;(rfl))|(apply aC;rfl;rfl)|(apply bQ;rfl;(rfl);rfl;rfl)|((with_reducible apply aJ (k := 84));(case ha => rfl);(case h => (apply eC <;> (fail)));(case hp => (rfl));(case hN => rfl))|(apply aF;kernel_rfl)|(apply b8;rfl;(exact (rfl:_=some [_, _, _, _]));(exact (rfl:_=[_, _, _, _]));rfl)|(apply cG;rfl;rfl)|(apply bK;rfl;rfl;rfl;rfl)|(apply bE;rfl;rfl;rfl))|(apply aM;first|apply aH|apply aB|(apply aO;rfl;all_goals intro hc;have hq:=hc;(try simp only [cJ] at hq);try exfalso;omega)|apply aR)|with_reducible apply aA|with_reducible apply bJ)
  ·(refine aP rfl ?_; refine bU () trivial ?_ ⟨.inr (Eq.trans (b := some _) rfl ?_), trivial⟩)
   ·rfl
   ·rfl
 ·rw [if_neg hv] at hg
  (refine cC Tryz.func41 rfl (by simp [Tryz.ntmps41]) ?_; rw [Tryz.ntmps41])
  repeat' (first|(apply aL;first|((with_reducible apply aJ (k := 62));(case ha => rfl);(case h => exact hg);(case hp => (exact Pur.pf));(case hN => rfl))|(apply aE;rfl;rfl)|(apply aV;rfl;rfl;(exact (rfl:_=[_, _]));rfl;rfl;rfl)|(apply bD;rfl;rfl;rfl;(rfl))|(apply aC;rfl;rfl)|(apply bV;rfl;(rfl);rfl;rfl)|(apply aF;kernel_rfl)|(apply b8;rfl;(exact (rfl:_=some [_, _, _, _]));(exact (rfl:_=[_, _, _, _]));rfl)|(apply cG;rfl;rfl)|(apply bK;rfl;rfl;rfl;rfl)|(apply bE;rfl;rfl;rfl))|(apply aM;first|apply aH|apply aB|(apply cA;rfl;(rfl))|apply aR)|with_reducible apply aA|with_reducible apply bJ)
  (refine aP rfl ?_; refine bU () trivial ?_ ⟨.inr (Eq.trans (b := some _) rfl ?_), trivial⟩)
  ·rfl
  ·rfl
theorem Ll (p:Prg) (cs:List Int) (n:Nat) (q:Mc × Int × Nat) (hqq:q = eJ p.types (cT p) cs n) (hv:dF p = true) (hl:p.types.length ≤ 1000000) (hs:b9 p.body ≤ 1000000) (hn:n ≤ 150) (hcl:cs.length ≤ 1000000):MC Tryz.prog 41 [dT p,sl cI cs,iv (n:Int)] [] 0 (fun _:Unit => True) (fun _ => .tup [.optr 2 0,iv q.2.1,iv (q.2.2:Int)]) (fun _ => [(2,some (mO p.types p.body (cT p) 1 3 q.1)),(1,some (aI eH q.1.slots)),(3,some (aI cI q.1.read))]) := by
 have hg := kW p hl hs
 rw [if_pos hv] at hg
 have w := WG.of_valid hv
 have wa := WA.of_valid hv
 have hru := Lk p.types p.body (cT p) cs n w wa (by omega) hcl
 have htl := w.tl
 have hpl := w.pl
 have hL := Bw w wa n 0 cs w.p0
 have hLl := rQ (pts := cT p) n 0 cs
 unfold eJ at hqq
 unfold wm at hru
 obtain ⟨L, hLe⟩ : ∃ L, L = (eL (cT p) n 0 cs).1 := ⟨_, rfl⟩
 obtain ⟨dn, hdn⟩ : ∃ dn, dn = (eL (cT p) n 0 cs).2 := ⟨_, rfl⟩
 rw [← hLe, ← hdn] at hru
 rw [← hLe] at hqq hL hLl
 have hgx : ∀ i, i < L.length → (L.map (fun a : Nat => (a : Int)))[i]! = (L[i]! : Int) := fun i h => by rw [cV _ _ (by rw [List.length_map]; exact h), List.getElem_map, cV _ _ h]
 have hml : (L.map (fun a : Nat => (a : Int))).length = L.length := List.length_map _
 generalize (L.map (fun a : Nat => (a : Int))) = LI at *
 generalize hP : cT p = pts at *
 (refine cC Tryz.func41 rfl (by simp [Tryz.ntmps41]) ?_; rw [Tryz.ntmps41])
 repeat' (first|(apply aL;first|((with_reducible apply aJ (k := 62));(case ha => rfl);(case h => exact hg);(case hp => (exact Pur.pf));(case hN => rfl))|(with_reducible apply cS (d := 40))|(apply aE;rfl;rfl)|(first|(apply aN;rfl;rfl;rfl;rfl)|(apply aV;rfl;rfl;(exact (rfl:_=[_, _]));rfl;rfl;rfl))|(apply aD;rfl;rfl;rfl)|(apply bB;rfl;rfl;rfl;(rfl))|(apply aC;rfl;rfl)|(apply bQ;rfl;(rfl);rfl;rfl)|((with_reducible apply aJ (k := 84));(case ha => rfl);(case h => (apply eC <;> (fail)));(case hp => (rfl));(case hN => rfl))|(apply bC;rfl;rfl;rfl)|(apply aF;kernel_rfl)|(apply cG;rfl;rfl)|(apply bY;rfl;rfl;rfl)|(apply bK;rfl;rfl;rfl;rfl)|(apply bE;rfl;rfl;rfl)|(apply dX;rfl;rfl;rfl;omega;omega;(rfl);rfl;rfl))|(apply aM;first|apply aH|apply aB|(apply aO;rfl;all_goals intro hc;have hq:=hc;(try simp only [cJ] at hq);try exfalso;omega)|apply aS)|with_reducible apply aA)
 refine dO ?_
 rw [show (List.replicate p.types.length ([Value.bool false, Value.int .i64 0, Value.int .i64 0, Value.int .i64 0].map AV.v)).flatten = aI eH (List.replicate p.types.length gW) from sI rfl]
 apply zI
 case hl => rfl
 case hf => exact (rfl:_=some [_, _, AV.v (.slice none 0 0), AV.v (.slice none 0 0)])
 case hN => rfl
 repeat' (first|(apply aL;first|(with_reducible apply cS (d := 43))|(apply aC;rfl;rfl)|(apply aF;kernel_rfl)|(apply bK;rfl;rfl;rfl;rfl))|(apply aM;first|apply aH|apply aB)|with_reducible apply aA)
 refine dO (hO ?_ (Le.nilMid (i := 2) [_, _] rfl))
 refine hO ?_ (Le.nilCell (i := 2) 1 [_, _, _] rfl (by decide) (by decide))
 repeat' (first|(apply aL;first|((with_reducible apply aJ (k := 85));(case ha => rfl);(case h => exact hru);(case hp => (exact Pur.pf));(case hN => rfl))|(apply aE;rfl;rfl)|(apply aC;rfl;rfl)|(apply bC;rfl;rfl;rfl)|(apply aF;kernel_rfl)|(apply bE;rfl;rfl;rfl))|(apply aM;first|apply aH|apply aB|apply aK)|with_reducible apply aA)
 refine a6 (σ := Nat × Mc × Nat) [9, 11, 49, 50] [(9, _), (11, _), (49, _), (50, _)] [] [] (fun k => [(51, iv (k.1 : Int)), (14, iv (k.2.2 : Int))]) (fun k => [(2, some (mO p.types p.body pts 1 3 k.2.1)), (1, some (aI eH k.2.1.slots)), (3, some (aI cI k.2.1.read))]) (fun k => k.1 ≤ L.length ∧ iG p.types pts (L.drop k.1) k.2.1 k.2.2 = q ∧ OkS p.types.length k.2.1 ∧ k.2.1.read.length ≤ k.1) (fun k => L.length - k.1) (0, mc0 p.types.length, 0) ⟨Nat.zero_le _, hqq.symm, OkS.mc0 _, Nat.le_refl _⟩ rfl rfl (by repeat' (first|exact trivial|refine And.intro rfl ?_)) (by repeat' (first|exact trivial|refine And.intro (.inr rfl) ?_)) ?_
 rintro ⟨i, s, last⟩ ⟨hi, hf, hok, hrd⟩
 dsimp only at hi hf hok hrd ⊢
 by_cases hiL : i < L.length
 ·have hap := hL L[i]! (cK _ _ hiL)
  have hop := w.op L[i]! hap
  have hwx := w.x L[i]! hap
  have hwy := w.y L[i]! hap
  have hA := wa.a L[i]! hap
  have hg2 := hgx i hiL
  have hdr : L.drop i = L[i]! :: L.drop (i + 1) := by rw [List.drop_eq_getElem_cons hiL, cV _ _ hiL]
  rw [hdr, Ki] at hf
  have hpt : PtN pts[L[i]!]! := ⟨fun h => hA.n (.inr h)⟩
  have hdo := Mm (ts := p.types) hok hpt
  have hdr2 := JF (ts := p.types) (s := s) (x := pts[L[i]!]!)
  by_cases h6 : pts[L[i]!]!.op = 6 ∧ cP s.cells s.slots[(pts[L[i]!]!).y.toNat]!.ptr false = 0 ∧ dI p.types s pts[L[i]!]! = false
  ·have hm6 := KJ p.types p.body pts s pts[L[i]!]! htl hok.m hok.l h6.1 (by omega) (by omega) (by omega) h6.2.1 h6.2.2
   repeat' (first|(apply aL;first|(with_reducible apply cS (d := 16))|(apply aN;rfl;rfl;rfl;rfl)|(apply aT;rfl;rfl;rfl;rfl)|(apply aZ;(case hx|hi => rfl);(case hm => (omega));(case hml => (rfl));(case hα | hf|hg => infer_instance);(case hN => rfl))|(apply aF;kernel_rfl))|(apply aM;first|apply aH|apply aB|(apply aO;rfl;all_goals intro hc;have hq:=hc;(try simp only [cJ] at hq);try exfalso;omega)|apply aK|apply aS)|with_reducible apply aA)
   refine dO ?_
   rw [hg2]
   repeat' (first|(apply aL;first|((apply Iw (ts := p.types) (bd := p.body) (pts := pts) (s := s) (x := pts[L[i]!]!));(case ha0|ha1|hH0|hH1|hH2|hdd => rfl);(case hmc => exact hm6);(case hM|hN => rfl))|(apply aE;rfl;rfl)|(first|(apply aN;rfl;rfl;rfl;rfl)|(apply aV;rfl;rfl;(exact (rfl:_=[_, _, _, _, _]));rfl;rfl;rfl))|(apply aD;rfl;rfl;rfl)|(first|(apply bR;rfl;rfl;omega;rfl)|(apply aT;rfl;rfl;rfl;rfl))|(apply aC;rfl;rfl)|(apply aZ;(case hx|hi => rfl);(case hm => (assumption));(case hml => (rfl));(case hα | hf|hg => infer_instance);(case hN => rfl))|(apply aF;kernel_rfl)|(apply bY;rfl;rfl;rfl))|(apply aM;first|apply aH|apply aB|(apply aO;rfl;all_goals intro hc;have hq:=hc;(try simp only [cJ] at hq);try exfalso;omega)|apply aS|apply aR)|with_reducible apply aA|with_reducible apply bJ|with_reducible apply aW|with_reducible apply cQ)
   ·exfalso
    have h9 : ¬ (eW p.types s pts[L[i]!]!).2 = -1 := by assumption
    exact h9 (MD h6.1 h6.2.1 h6.2.2 (hA.t6 h6.1).1)
   ·(apply dJ (i + 1, (eW p.types s pts[L[i]!]!).1, L[i]!); focus (refine Le.ren [(1, 1), (2, 2), (3, 6)] rfl (by decide) ?_ ?_ <;> repeat' (first | exact trivial | refine And.intro ⟨_, rfl, ?_⟩ ?_ | refine And.intro ⟨_, _, rfl, rfl, ?_⟩ ?_ | exact Or.inr rfl | refine Or.inl ⟨?_, (by first | rfl | exact aY _ _ | exact Pur.pf)⟩ | refine Or.inr (All2.cons ?_ ?_) | refine All2.cons ?_ ?_ | exact All2.nil | rfl)))
    ·refine ⟨by dsimp only; omega, ?_, hdo, by dsimp only; omega⟩
     dsimp only
     rw [if_pos (by assumption)] at hf
     exact hf
    ·dsimp only;omega
  ·have hmd := L4 p.types p.body pts s pts[L[i]!]! htl hok.m hok.l hop (by omega) (fun h => by omega) (fun h h2 => by omega) (fun h => hA.n (.inr h)) h6
   repeat' (first|(apply aL;first|(with_reducible apply cS (d := 16))|(apply aN;rfl;rfl;rfl;rfl)|(apply aT;rfl;rfl;rfl;rfl)|(apply aZ;(case hx|hi => rfl);(case hm => (omega));(case hml => (rfl));(case hα | hf|hg => infer_instance);(case hN => rfl))|(apply aF;kernel_rfl))|(apply aM;first|apply aH|apply aB|(apply aO;rfl;all_goals intro hc;have hq:=hc;(try simp only [cJ] at hq);try exfalso;omega)|apply aK|apply aS)|with_reducible apply aA)
   refine dO ?_
   rw [hg2]
   repeat' (first|(apply aL;first|((apply K4 (ts := p.types) (bd := p.body) (pts := pts) (s := s) (x := pts[L[i]!]!));(case ha0|ha1|hH0|hH1|hH2|hdd => rfl);(case hmc => exact hmd);(case hM|hN => rfl))|(apply aE;rfl;rfl)|(first|(apply aN;rfl;rfl;rfl;rfl)|(apply aV;rfl;rfl;(exact (rfl:_=[_, _, _, _, _]));rfl;rfl;rfl))|(apply aD;rfl;rfl;rfl)|(first|(apply bR;rfl;rfl;omega;rfl)|(apply aT;rfl;rfl;rfl;rfl))|(apply aC;rfl;rfl)|(apply aZ;(case hx|hi => rfl);(case hm => (assumption));(case hml => (rfl));(case hα | hf|hg => infer_instance);(case hN => rfl))|(apply aF;kernel_rfl)|(apply bY;rfl;rfl;rfl))|(apply aM;first|apply aH|apply aB|(apply aO;rfl;all_goals intro hc;have hq:=hc;(try simp only [cJ] at hq);try exfalso;omega)|apply aS|apply aR)|with_reducible apply aA|with_reducible apply bJ|with_reducible apply aW|with_reducible apply cQ)
   ·have h9 : ¬ (eW p.types s pts[L[i]!]!).2 = -1 := by assumption
    rw [if_neg h9] at hf
    rw [← hf]
    (refine aP rfl ?_; refine bU () trivial ?_ ⟨.inr (Eq.trans (b := some _) rfl ?_), ⟨.inr (Eq.trans (b := some _) rfl ?_), ⟨.inr (Eq.trans (b := some _) rfl ?_), trivial⟩⟩⟩)
    ·rfl
    ·rfl
    ·rfl
    ·rfl
   ·(apply dJ (i + 1, (eW p.types s pts[L[i]!]!).1, L[i]!); focus (refine Le.ren [(1, 1), (2, 2), (3, 3)] rfl (by decide) ?_ ?_ <;> repeat' (first | exact trivial | refine And.intro ⟨_, rfl, ?_⟩ ?_ | refine And.intro ⟨_, _, rfl, rfl, ?_⟩ ?_ | exact Or.inr rfl | refine Or.inl ⟨?_, (by first | rfl | exact aY _ _ | exact Pur.pf)⟩ | refine Or.inr (All2.cons ?_ ?_) | refine All2.cons ?_ ?_ | exact All2.nil | rfl)))
    ·refine ⟨by dsimp only; omega, ?_, hdo, by dsimp only; omega⟩
     dsimp only
     rw [if_pos (by assumption)] at hf
     exact hf
    ·dsimp only;omega
 ·repeat' (first | (apply aL; first | (apply aE;rfl;rfl) | (apply aT;rfl;rfl;rfl;rfl) | (apply aC;rfl;rfl) | (apply aF;kernel_rfl)) | (apply aM; first | apply aH | apply aB | (apply aO;rfl;all_goals intro hc;have hq:=hc;(try simp only [cJ] at hq);try exfalso;omega) | apply bG | apply aR) | with_reducible apply aA | with_reducible apply bH | with_reducible apply bF)
  have hie : i = L.length := by omega
  have hq2 : q = (s, 1, last) := by rw [← hf, hie, List.drop_length]; rfl
  rw [hq2]
  (refine aP rfl ?_; refine bU () trivial ?_ ⟨.inr (Eq.trans (b := some _) rfl ?_), ⟨.inr (Eq.trans (b := some _) rfl ?_), ⟨.inr (Eq.trans (b := some _) rfl ?_), trivial⟩⟩⟩)
  ·rfl
  ·rfl
  ·rfl
  ·rfl
theorem Hf {p:Prg}{cs:List Int}{n:Int}{q:Mc × Int × Nat}{N:Nat}{Q:Exit → AS → Prop}{all:Array Oper}{rest:List Oper}{tsl:List (Nat × AV)}{hsl:List (Nat × Option (List AV))}{nidl:Nat}{z0:Lo}{md:Md}{d:Nat}{ty:TypeId}{pos:String}{af:Array Edge}{tys:Array TypeId}{x0 x1 x2:Operand}(ha0:ev (lk tsl) x0 = some (dT p)) (ha1:ev (lk tsl) x1 = some (sl cI cs)) (ha2:ev (lk tsl) x2 = some (iv n)) (hmc:MC Tryz.prog 41 [dT p,sl cI cs,iv n] [] 0 (fun _:Unit => True) (fun _ => .tup [.optr 2 0,iv q.2.1,iv (q.2.2:Int)]) (fun _ => [(2,some (mO p.types p.body (cT p) 1 3 q.1)),(1,some (aI eH q.1.slots)),(3,some (aI cI q.1.read))])) (hM:Nat.ble (nidl + 4) eS = true) (hN:Nat.blt d N = true){md':Md}[hmd:MdA md (gL [x0,x1,x2] ++ []) (List.map Sum.inr (List.map Prod.fst ([((nidl + 2),some (mO p.types p.body (cT p) (nidl + 1) (nidl + 3) q.1)),((nidl + 1),some (aI eH q.1.slots)),((nidl + 3),some (aI cI q.1.read))]:List (Nat × Option (List AV)))) ++ [.inl d]) md'] (kk:RW Tryz.prog N all Q md' rest ⟨(d,.tup [.optr (nidl + 2) 0,iv q.2.1,iv (q.2.2:Int)]) :: tsl,iH hsl [((nidl + 2),some (mO p.types p.body (cT p) (nidl + 1) (nidl + 3) q.1)),((nidl + 1),some (aI eH q.1.slots)),((nidl + 3),some (aI cI q.1.read))],nidl + 4,z0⟩):RW Tryz.prog N all Q md (⟨some d,.call ⟨.value (.func 41),#[x0,x1,x2],tys⟩,ty,pos,af,none⟩ :: rest) ⟨tsl,hsl,nidl,z0⟩ := by
 refine cE [] 4 [((nidl + 2), some (mO p.types p.body (cT p) (nidl + 1) (nidl + 3) q.1)), ((nidl + 1), some (aI eH q.1.slots)), ((nidl + 3), some (aI cI q.1.read))] hmc (avs := [dT p, sl cI cs, iv n]) ?_ rfl ?_ rfl ?_ (by simpa using hM) ?_ ?_ ?_ hN (md' := md') (hmd := hmd) kk
 ·show evL (lk tsl) [x0, x1, x2] = _
  simp only [evL, ha0, ha1, ha2]
 ·exact trivial
 ·(repeat' (exact RnL.purI inferInstance))
 ·(repeat' (first|exact RnL.purI inferInstance|exact RnV.optr rfl|refine RnL.cons ?_ ?_|refine RnV.tup ?_))
 ·simp [dL]
 ·(repeat' (first|exact trivial|(refine And.intro ⟨1, _, rfl, rfl, ?_⟩ ?_)|(refine And.intro ⟨2, _, rfl, rfl, ?_⟩ ?_)|(refine And.intro ⟨3, _, rfl, rfl, ?_⟩ ?_)|exact RnL.purI inferInstance|exact RnV.purI inferInstance|exact RnV.own rfl|refine RnL.cons ?_ ?_))
theorem vI (p:Prg) (cs:List Int) (most:Int) (hl:p.types.length ≤ 1000000) (hs:b9 p.body ≤ 1000000) (hcl:cs.length ≤ 1000000):PC Tryz.prog 13 [dT p,sl cI cs,iv most] (fun r => r = .tup (if y1 p most = true then [iv (eJ p.types (cT p) cs most.toNat).2.1,iv (eJ p.types (cT p) cs most.toNat).2.2] else [iv 5,iv 0])) := by
 by_cases h : y1 p most = true
 ·have h' := h
  unfold y1 at h'
  simp only [Bool.and_eq_true, decide_eq_true_eq] at h'
  obtain ⟨hv, h0, h1⟩ := h'
  have hru := Ll p cs most.toNat _ rfl hv hl hs (by omega) hcl
  have hok := Kb (cs := cs) (n := most.toNat) hv
  have hrl := Bt (ts := p.types) (pts := cT p) (cs := cs) (n := most.toNat) (by omega)
  have htl := (WG.of_valid hv).tl
  rw [Int.toNat_of_nonneg h0] at hru
  rw [if_pos h]
  have hon := Int.toNat_of_nonneg h0
  have hm := hok.m
  have hml := hm.l
  have hsl := hok.l
  generalize eJ p.types (cT p) cs most.toNat = q at *
  (refine aU Tryz.func13 rfl (by simp [Tryz.ntmps13]) ?_; rw [Tryz.ntmps13])
  repeat' (first|(apply aL;first|((apply Hf (p := p) (cs := cs) (n := most) (q := q));(case ha0|ha1|ha2 => rfl);(case hmc => exact hru);(case hM|hN => rfl))|(apply aE;rfl;rfl)|(apply aV;rfl;rfl;(exact (rfl:_=[_, _]));rfl;rfl;rfl)|(apply aC;rfl;rfl)|(apply aF;kernel_rfl)|(apply bK;rfl;rfl;rfl;rfl)|(apply bE;rfl;rfl;rfl))|(apply aM;first|apply aH|apply aB|apply aR)|with_reducible apply aA)
  exact aP (l := [iv q.2.1, iv q.2.2]) rfl ⟨rfl, rfl⟩
 ·rw [if_neg h]
  have h2 : y1 p most = false := by simpa using h
  (refine aU Tryz.func13 rfl (by simp [Tryz.ntmps13]) ?_; rw [Tryz.ntmps13])
  repeat' (first|(apply aL;first|((apply IB (p := p) (cs := cs) (n := most));(case ha0|ha1|ha2 => rfl);(case hmc => exact KC p cs most hl hs h2);(case hM|hN => rfl))|(apply aE;rfl;rfl)|(apply aV;rfl;rfl;(exact (rfl:_=[_, _]));rfl;rfl;rfl)|(apply aC;rfl;rfl)|(apply aF;kernel_rfl)|(apply bK;rfl;rfl;rfl;rfl)|(apply bE;rfl;rfl;rfl))|(apply aM;first|apply aH|apply aB|apply aR)|with_reducible apply aA)
  exact aP (l := [iv 5, iv 0]) rfl ⟨rfl, rfl⟩
def Dx (p : Prg) (cs : List Int) (n : Int) : Int := if y1 p n = true then (eJ p.types (cT p) cs n.toNat).2.1 else 5
def nR (p : Prg) (cs : List Int) (n : Int) : Int := if y1 p n = true then ((eJ p.types (cT p) cs n.toNat).2.2 : Int) else 0
theorem K9 (p:Prg) (cs:List Int) (n:Int) (hl:p.types.length ≤ 1000000) (hs:b9 p.body ≤ 1000000) (hcl:cs.length ≤ 1000000):PC Tryz.prog 13 [dT p,sl cI cs,iv n] (fun r => r = .tup [iv (Dx p cs n),iv (nR p cs n)]) := by
 have h := vI p cs n hl hs hcl
 unfold Dx nR
 split
 ·rename_i h2;rw [if_pos h2] at h;exact h
 ·rename_i h2;rw [if_neg h2] at h;exact h
theorem K8 (p:Prg) (cs:List Int) (n:Int) (hl:p.types.length ≤ 1000000) (hs:b9 p.body ≤ 1000000) (hcl:cs.length ≤ 1000000):PC Tryz.prog 14 [dT p,sl cI cs,iv n] (fun r => r = .tup [iv (Dx p cs n),iv (nR p cs n)]) := by
 have h := u6 p cs n hl hs hcl
 unfold Dx nR
 split
 ·rename_i h2;rw [if_pos h2] at h;exact h
 ·rename_i h2;rw [if_neg h2] at h;exact h
theorem AG {p:Prg}{n:Int}:y1 p n = true ↔ dF p = true ∧ 0 ≤ n ∧ n ≤ 150 := by
 unfold y1;simp only [Bool.and_eq_true, decide_eq_true_eq]
def kD (n l : Nat) : List Int := (List.range l).map fun i => ((n / 2 ^ i % 2 : Nat) : Int)
theorem rG (n l:Nat):(kD n l).length = l := by unfold kD; rw [List.length_map,List.length_range]
theorem y4 (n l:Nat):kD n (l + 1) = kD n l ++ [((n / 2 ^ l % 2:Nat):Int)] := by
 unfold kD;rw [List.range_succ, List.map_append]; rfl
def jG (p : Prg) (l n : Nat) : Bool := decide (Dx p (kD n l) 80 ≠ 0) && decide (Dx p (kD n l) 80 ≠ 1)
theorem A5 (n l:Nat) (hl:l ≤ 100) (hn:n ≤ 1000000):PC Tryz.prog 50 [iv (n:Int),iv (l:Int)] (fun r => r = sl cI (kD n l)) := by
 (refine aU Tryz.func50 rfl (by simp [Tryz.ntmps50]) ?_; rw [Tryz.ntmps50])
 repeat' (first|(apply aL;first|(apply aC;rfl;rfl)|(apply aF;kernel_rfl)|(apply bZ;rfl;rfl;rfl;(rfl);rfl;rfl))|(apply aM;first|apply aH|apply aB|apply aK)|with_reducible apply aA)
 refine a6 (σ := Nat × Nat × List Int × Nat) [1] [(1, _)] [] [] (fun k => [(6, iv (k.1 : Int)), (0, iv (k.2.1 : Int)), (5, .own 0 0 k.2.2.2 1)]) (fun k => [(0, some (aI cI k.2.2.1))]) (fun k => k.1 ≤ l ∧ k.2.1 = n / 2 ^ k.1 ∧ k.2.2.1 = kD n k.1 ∧ k.2.2.2 = k.1) (fun k => l - k.1) (0, n, [], 0) ⟨Nat.zero_le _, by simp, rfl, rfl⟩ rfl rfl (by repeat' (first|exact trivial|refine And.intro rfl ?_)) (by repeat' (first|exact trivial|refine And.intro (.inr rfl) ?_)) ?_
 rintro ⟨i, n', xs, m⟩ ⟨hi, hn', hxs, hm⟩
 dsimp only at hi hn' hxs hm ⊢
 have hnl : n' ≤ 1000000 := by rw [hn']; exact Nat.le_trans (Nat.div_le_self _ _) hn
 have hxl : xs.length = m := by rw [hxs, rG, hm]
 repeat' (first|(apply aL;first|(apply aE;rfl;rfl)|(first|(apply bR;rfl;rfl;omega;rfl)|(apply Hu;rfl;rfl;omega;rfl)|(apply G8;rfl;rfl;omega;rfl)|(apply aT;rfl;rfl;rfl;rfl))|(apply aC;rfl;rfl)|(apply bW;rfl;rfl;rfl;rfl;rfl;(rw [aQ]; omega);(rfl);omega;omega;(exact gA (by (omega)));rfl;rfl)|(apply aF;kernel_rfl)|((apply a7 (t := _));(case hze|hsm|hl => rfl);(case hfl => exact (rfl:_=some [_]));(case hM|hN => rfl)))|(apply aM;first|apply aH|apply aB|(apply aO;rfl;all_goals intro hc;have hq:=hc;(try simp only [cJ] at hq);try exfalso;omega)|apply aK|apply aS|apply bG|apply aR)|with_reducible apply aA|with_reducible apply bH|with_reducible apply aW|with_reducible apply bF)
 ·(apply dJ (i + 1, n' / 2, _, m + 1); focus (refine Le.ren [(0, 2)] rfl (by decide) ?_ ?_ <;> repeat' (first | exact trivial | refine And.intro ⟨_, rfl, ?_⟩ ?_ | refine And.intro ⟨_, _, rfl, rfl, ?_⟩ ?_ | exact Or.inr rfl | refine Or.inl ⟨?_, (by first | rfl | exact aY _ _)⟩ | rfl)))
  ·refine ⟨by dsimp only; omega, ?_, ?_, by dsimp only; omega⟩
   ·dsimp only;rw [hn', Nat.pow_succ, Nat.div_div_eq_div_mul]
   ·dsimp only;rw [y4, ← hxs, ← hn']; rfl
  ·dsimp only;omega
 ·(refine cD (Le.frzD (d := 4) (i := 0) rfl rfl) ?_; refine aP rfl ?_)
  refine ⟨?_, (by (exact aY _ _))⟩
  have hie : i = l := by omega
  simp only [bX, sl]
  rw [← hxl, hxs, hie]
theorem Ht (l:Nat) (hl:l ≤ 10):PC Tryz.prog 48 [iv (l:Int)] (fun r => r = iv ((2 ^ l:Nat):Int)) := by
 (refine aU Tryz.func48 rfl (by simp [Tryz.ntmps48]) ?_; rw [Tryz.ntmps48])
 repeat' (first|(apply aL;first|(apply aC;rfl;rfl)|(apply aF;kernel_rfl))|(apply aM;first|apply aH|apply aB|apply aK)|with_reducible apply aA)
 refine a6 (σ := Nat) [0] [(0, _)] [] [] (fun k => [(4, iv (k : Int)), (3, iv ((2 ^ k : Nat) : Int))]) (fun k => []) (fun k => k ≤ l) (fun k => l - k) (0) (Nat.zero_le _) rfl rfl (by repeat' (first|exact trivial|refine And.intro rfl ?_)) (by repeat' (exact trivial)) ?_
 rintro k hk
 have hp : 2 ^ k ≤ 2 ^ 10 := Nat.pow_le_pow_right (by decide) (by omega)
 repeat' (first|(apply aL;first|(apply aE;rfl;rfl)|(first|(apply bR;rfl;rfl;omega;rfl)|(apply aT;rfl;rfl;rfl;rfl))|(apply aC;rfl;rfl)|(apply aF;kernel_rfl))|(apply aM;first|apply aH|apply aB|(apply aO;rfl;all_goals intro hc;have hq:=hc;(try simp only [cJ] at hq);try exfalso;omega)|apply aK|apply aS|apply bG|apply aR)|with_reducible apply aA|with_reducible apply bH|with_reducible apply aW|with_reducible apply bF)
 ·have hw : IntKind.i64.wrap (((2 ^ k : Nat) : Int) * 2) = ((2 ^ (k + 1) : Nat) : Int) := by
   rw [show (((2 ^ k : Nat) : Int) * 2) = ((2 ^ (k + 1) : Nat) : Int) by rw [Nat.pow_succ, Int.natCast_mul]; rfl]
   exact o4 (Sm.pow (by omega)).pf
  rw [hw]
  (apply dJ (k + 1);focus (refine Le.ren [] rfl (by decide) ?_ ?_ <;> repeat' (first|exact trivial|refine And.intro ⟨_, rfl, ?_⟩ ?_|refine Or.inl ⟨?_, (by (rfl))⟩|rfl)))
  ·omega
  ·omega
 ·refine aP rfl ⟨?_, rfl⟩
  rw [show l = k by omega]; rfl
def Dj (p : Prg) (l : Int) : Bool := dF p && (decide (0 ≤ l) && decide (l ≤ 6))
theorem o8 {p:Prg}{l:Int}:Dj p l = true ↔ dF p = true ∧ 0 ≤ l ∧ l ≤ 6 := by unfold Dj; simp only [Bool.and_eq_true,decide_eq_true_eq]
theorem D4 (p:Prg) (l:Int) (hl:p.types.length ≤ 1000000) (hs:b9 p.body ≤ 1000000):PC Tryz.prog 47 [dT p,iv l] (fun r => r = bv (Dj p l)) := by
 have hval := oP p hl (by omega)
 (refine aU Tryz.func47 rfl (by simp [Tryz.ntmps47]) ?_; rw [Tryz.ntmps47])
 repeat' (first|(apply aL;first|((with_reducible apply aJ (k := 87));(case ha => rfl);(case h => exact hval);(case hp => (exact Pur.pf));(case hN => rfl))|(apply aE;rfl;rfl)|(apply aV;rfl;rfl;(exact (rfl:_=[_, _]));rfl;rfl;rfl)|(first|(apply bB;rfl;rfl;rfl;(assumption))|(apply bD;rfl;rfl;rfl;(first|rfl|assumption))|(apply bS;(case hj|hb|hN => rfl);all_goals (intro hg;have hq := hg;(try simp only [cJ] at hq);(try (exfalso;omega)))))|(apply aT;rfl;rfl;rfl;rfl)|(apply aC;rfl;rfl)|(first|(apply bV;rfl;(assumption);rfl;rfl)|(apply bQ;rfl;(first|rfl|assumption);rfl;rfl))|(apply aF;kernel_rfl)|(apply bK;rfl;rfl;rfl;rfl))|(apply aM;first|apply aH|apply aB|apply aR)|with_reducible apply aA)
 all_goals (refine aP rfl ⟨?_, rfl⟩; simp only [bX, AV.v.injEq, Value.bool.injEq]; unfold Dj;grind)
theorem Hk:PC Tryz.prog 93 [] (fun r => r = iv 80) := by
 (refine aU Tryz.func93 rfl (by simp [Tryz.ntmps93]) ?_; rw [Tryz.ntmps93])
 repeat' (first|(apply aL;first|(apply aC;rfl;rfl)|(apply aF;kernel_rfl))|(apply aM;first|apply aH|apply aB|apply aR)|with_reducible apply aA)
 exact aP rfl ⟨rfl, rfl⟩
theorem EY (p:Prg) (cs:List Int) (hl:p.types.length ≤ 1000000) (hs:b9 p.body ≤ 1000000) (hcl:cs.length ≤ 1000000):PC Tryz.prog 49 [dT p,sl cI cs] (fun r => r = .tup [bv (decide (Dx p cs 80 ≠ 0) && decide (Dx p cs 80 ≠ 1)),iv (nR p cs 80)]) := by
 have h := K8 p cs 80 hl hs hcl
 have hm := Hk
 generalize Dx p cs 80 = e at *
 generalize nR p cs 80 = a at *
 (refine aU Tryz.func49 rfl (by simp [Tryz.ntmps49]) ?_; rw [Tryz.ntmps49])
 repeat' (first|(apply aL;first|((with_reducible apply aJ (k := 14));(case ha => rfl);(case h => exact h);(case hp => (exact Pur.pf));(case hN => rfl))|((with_reducible apply aJ (k := 93));(case ha => rfl);(case h => exact hm);(case hp => (rfl));(case hN => rfl))|(apply aE;rfl;rfl)|(apply aV;rfl;rfl;(exact (rfl:_=[_, _]));rfl;rfl;rfl)|(first|(apply bB;rfl;rfl;rfl;(assumption))|(apply bD;rfl;rfl;rfl;(assumption))|(apply bS;(case hj|hb|hN => rfl);all_goals (intro hg;have hq := hg;(try simp only [cJ] at hq);(try (exfalso;omega)))))|(apply aT;rfl;rfl;rfl;rfl)|(apply aC;rfl;rfl)|(first|(apply bV;rfl;(assumption);rfl;rfl)|(apply bQ;rfl;(assumption);rfl;rfl))|(apply aF;kernel_rfl)|(apply bK;rfl;rfl;rfl;rfl)|(apply bE;rfl;rfl;rfl))|(apply aM;first|apply aH|apply aB|(apply b0;kernel_rfl)|apply aR)|with_reducible apply aA)
 ·refine aP (l := [bv _, iv a]) ?_ ⟨rfl, rfl⟩
  have hd : (decide (e ≠ 0) && decide (e ≠ 1)) = !decide (e = 1) := by simp_all
  rw [hd]; rfl
 ·refine aP (l := [bv _, iv a]) ?_ ⟨rfl, rfl⟩
  have hd : (decide (e ≠ 0) && decide (e ≠ 1)) = false := by simp_all
  rw [hd]; rfl
theorem r8 (l:Int):PC Tryz.prog 92 [iv l] (fun r => r = bv (decide (0 ≤ l) && decide (l ≤ 6))) := by
 have hw := eC l 0 6
 (refine aU Tryz.func92 rfl (by simp [Tryz.ntmps92]) ?_; rw [Tryz.ntmps92])
 repeat' (first|(apply aL;first|((with_reducible apply aJ (k := 84));(case ha => rfl);(case h => exact hw);(case hp => (rfl));(case hN => rfl))|(apply aE;rfl;rfl)|(apply aC;rfl;rfl)|(apply aF;kernel_rfl))|(apply aM;first|apply aH|apply aB|apply aR)|with_reducible apply aA)
 exact aP rfl ⟨rfl, rfl⟩
theorem A3 (n l:Nat) (hl:l ≤ 60) (hn:n ≤ 1000000):PC Tryz.prog 52 [iv (n:Int),iv (l:Int)] (fun r => r = sl cI (kD n l)) := by
 have : Sm n := ⟨by omega⟩
 (refine aU Tryz.func52 rfl (by simp [Tryz.ntmps52]) ?_; rw [Tryz.ntmps52])
 repeat' (first|(apply aL;first|(apply aE;rfl;rfl)|(apply aC;rfl;rfl)|(apply aF;kernel_rfl))|(apply aM;first|apply aH|apply aB|apply aK)|with_reducible apply aA)
 refine AW.le ?_ (Le.nilOwn (d := 5) 1 rfl (by decide))
 refine a6 (σ := Nat × List Int × Nat) [0, 7] [(0, _), (7, _)] [] [] (fun k => [(8, iv (k.1 : Int)), (5, .own 0 0 k.2.2 1)]) (fun k => [(0, some (aI cI k.2.1))]) (fun k => k.1 ≤ l ∧ k.2.1 = kD n k.1 ∧ k.2.2 = k.1) (fun k => l - k.1) (0, [], 0) ⟨Nat.zero_le _, rfl, rfl⟩ rfl rfl (by repeat' (first|exact trivial|refine And.intro rfl ?_)) (by repeat' (first|exact trivial|refine And.intro (.inr rfl) ?_)) ?_
 rintro ⟨i, xs, m⟩ ⟨hi, hxs, hm⟩
 dsimp only at hi hxs hm ⊢
 have hxl : xs.length = m := by rw [hxs, rG, hm]
 repeat' (first|(apply aL;first|(apply aE;rfl;rfl)|(first|(apply oM;rfl;rfl;infer_instance;infer_instance;rfl)|(apply oZ;rfl;rfl;infer_instance;infer_instance;omega;rfl)|(apply bR;rfl;rfl;omega;rfl)|(apply aT;rfl;rfl;rfl;rfl))|(apply aC;rfl;rfl)|(apply bW;rfl;rfl;rfl;rfl;rfl;(rw [aQ]; omega);(rfl);omega;omega;(exact gA (by (omega)));rfl;rfl)|(apply aF;kernel_rfl)|((apply a7 (t := _));(case hze|hsm|hl => rfl);(case hfl => exact (rfl:_=some [_]));(case hM|hN => rfl)))|(apply aM;first|apply aH|apply aB|(apply aO;rfl;all_goals intro hc;have hq:=hc;(try simp only [cJ] at hq);try exfalso;omega)|apply aK|apply aS|apply bG|apply aR)|with_reducible apply aA|with_reducible apply bH|with_reducible apply aW|with_reducible apply bF)
 ·(apply dJ (i + 1, _, m + 1); focus (refine Le.ren [(0, 2)] rfl (by decide) ?_ ?_ <;> repeat' (first | exact trivial | refine And.intro ⟨_, rfl, ?_⟩ ?_ | refine And.intro ⟨_, _, rfl, rfl, ?_⟩ ?_ | exact Or.inr rfl | refine Or.inl ⟨?_, (by first | rfl | exact aY _ _)⟩ | rfl)))
  ·refine ⟨by dsimp only; omega, ?_, by dsimp only; omega⟩
   have hz : n >>> (i : Int).toNat &&& 1 = n / 2 ^ i % 2 := by rw [Int.toNat_natCast, Nat.shiftRight_eq_div_pow]; exact Nat.and_one_is_mod _
   dsimp only;rw [y4, ← hxs, ← hz]
  ·dsimp only;omega
 ·refine cD (Le.frzD (d := 4) (i := 0) rfl rfl) ?_
  refine aP rfl ⟨?_, (by (exact aY _ _))⟩
  have hie : i = l := by omega
  simp only [bX, sl]
  rw [← hxl, hxs, hie]
theorem Jf (bs:List UInt8) (hb:bs.length ≤ 1048576):PC Tryz.prog 44 [sl cU bs] (fun r => ∃ (q:Prg) (n:Int),r = .tup [dT q,iv n] ∧ b9 q.body ≤ 20000 ∧ q.types.length ≤ 1000 ∧ -1 ≤ n ∧ n ≤ 7) := by
 have hb2 : (bs.take 2000).length ≤ 2000 := by rw [List.length_take]; omega
 (refine aU Tryz.func44 rfl (by simp [Tryz.ntmps44]) ?_; rw [Tryz.ntmps44])
 repeat' (first|(apply aL;first|((with_reducible apply sE (k := 81));(case h => exact K7 (bs.take 2000) 0 hb2 (by decide));(case ha|hpv|hH|hM|hN => rfl);(rintro ⟨q, p1⟩ ⟨hq1, hq2, hq3⟩);(dsimp only at hq1 hq2 hq3))|((with_reducible apply sE (k := 80));(case h => exact F3 (bs.take 2000) p1 q hb2 (by omega) (by omega) (by omega));(case ha => rfl);(case hpv => exact Pur.pf);(case hH|hM|hN => rfl);(rintro ⟨q2, p2⟩ ⟨hr1, hr2, hr3⟩);(dsimp only at hr1 hr2 hr3);(have hn9 := HF (bs.take 2000) p2 [3, 2, 1, 4, 0, 7, -1] (-1) 7 (by decide) (by decide)))|(apply aE;rfl;rfl)|(apply aV;rfl;rfl;(exact (rfl:_=[_, _]));rfl;rfl;rfl)|(apply aC;rfl;rfl)|(first|(apply Bx;rfl;(apply Ey <;> (assumption));rfl;rfl)|(apply yD;rfl;rfl;rfl;rfl;infer_instance;rfl;(rfl);assumption;omega;(decide);(decide);rfl;rfl))|(apply aF;kernel_rfl)|(apply bI;rfl;rfl)|(apply bZ;rfl;rfl;rfl;(exact (rfl:_=some [_, _, _, _, _, _, _]));rfl;rfl)|(apply aX;rfl;rfl;rfl;rfl;rfl;(case hl => (simp;done));(exact (rfl:_=[_, _]))))|(apply aM;first|apply aH|apply aB|(apply b0;kernel_rfl)|apply aR)|with_reducible apply aA)
 exact aP (l := [dT q2, iv (jF (bs.take 2000) p2 [3, 2, 1, 4, 0, 7, -1])]) rfl ⟨⟨q2, _, rfl, by omega, by omega, hn9.1, hn9.2⟩, Pur.pf⟩
theorem Jc (p:Prg) (hl:p.types.length ≤ 1000000) (hs:b9 p.body ≤ 1000000):∃ L:List Iss,PC Tryz.prog 32 [dT p] (fun r => r = sl pB L) ∧ PC Tryz.prog 15 [dT p] (fun r => r = bv (dF p && L.isEmpty)) ∧
  L.length ≤ 1000000 ∧ (dF p = true → ∃ f : Flows p.types (cT p), L = f.iss) := by
 cases hv : dF p
 ·have h := EW p hv hl hs
  have h2 := qT p [] hl hs h
  rw [hv] at h2
  exact ⟨[], h, h2, by simp, fun q => Bool.noConfusion q⟩
 ·have w := WG.of_valid hv
  obtain ⟨f⟩ := Flows.ex w
  have e : KS p f = f.iss := if_pos hv
  have h := FO p f hl hs
  rw [e] at h
  have h2 := qT p f.iss hl hs h
  rw [hv] at h2
  exact ⟨f.iss, h, h2, Nat.le_trans (E8 w f) (by decide), fun _ => ⟨f, rfl⟩⟩
theorem Gi (bs:List UInt8) (hb:bs.length ≤ 1048576):PC Tryz.prog 30 [sl cU bs] (fun r => ∃ (q:Prg) (n:Int),r = .tup [dT q,iv n] ∧ b9 q.body ≤ 20000 ∧ q.types.length ≤ 1000 ∧ -1 ≤ n ∧ n ≤ 7) := by
 (refine aU Tryz.func30 rfl (by simp [Tryz.ntmps30]) ?_; rw [Tryz.ntmps30])
 repeat' (first|(apply aL;first|((with_reducible apply jN (k := 44));(case ha => rfl);(case h => exact Jf bs hb);(case hp => (exact Pur.pf));(case hN => rfl);(rintro _ ⟨q, n, rfl, h1, h2, h3, h4⟩ _))|(apply aE;rfl;rfl)|(apply aC;rfl;rfl)|(apply aF;kernel_rfl)|(apply bI;rfl;rfl)|(apply bE;rfl;rfl;rfl)|(apply aX;rfl;rfl;rfl;rfl;rfl;(case hl => (simp;done));(exact (rfl:_=[_, _]))))|(apply aM;first|apply aH|apply aB|apply aR)|with_reducible apply aA)
 exact aP (l := [dT q, iv n]) rfl ⟨⟨q, n, rfl, h1, h2, h3, h4⟩, Pur.pf⟩
def nI (F : Nat → List Bool) (b k : Nat) : List Int := ((List.range k).filter fun i => (F i)[b]!).map fun (i : Nat) => (i : Int)
theorem Fy {F:Nat → List Bool}{b k:Nat}(h:(F k)[b]! = true):nI F b (k + 1) = nI F b k ++ [(k:Int)] := by
 unfold nI;rw [List.range_succ, List.filter_append, List.map_append, List.filter_cons_of_pos (p := fun i => (F i)[b]!) h]; rfl
theorem DF {F:Nat → List Bool}{b k:Nat}(h:(F k)[b]! = false):nI F b (k + 1) = nI F b k := by
 unfold nI;rw [List.range_succ, List.filter_append, List.map_append, List.filter_cons_of_neg (p := fun i => (F i)[b]!) (by rw [h]; decide)]; simp
theorem y6 {F:Nat → List Bool}{b k:Nat}:(nI F b k).length ≤ k := by
 unfold nI;rw [List.length_map]; exact Nat.le_trans (List.length_filter_le _ _) (by rw [List.length_range]; exact Nat.le_refl _)
theorem ET (p:Prg) (b:Nat) (F:Nat → List Bool) (hv:dF p = true) (hb:b < (cT p).length) (hF:∀ i,i < (cT p).length → GoodR (cT p) i (F i)) (hl:p.types.length ≤ 1000000) (hs:b9 p.body ≤ 1000000):PC Tryz.prog 33 [dT p,iv (b:Int)] (fun r => r = sl cI (nI F b (cT p).length)) := by
 have w := WG.of_valid hv
 have hpl := w.pl
 have hg := D5 p b hl hs ⟨hv, by omega, by omega⟩
 (refine aU Tryz.func33 rfl (by simp [Tryz.ntmps33]) ?_; rw [Tryz.ntmps33])
 repeat' (first|(apply aL;first|((with_reducible apply aJ (k := 62));(case ha => rfl);(case h => exact hg);(case hp => (exact Pur.pf));(case hN => rfl))|(apply aE;rfl;rfl)|(first|(apply aN;rfl;rfl;rfl;rfl)|(apply aV;rfl;rfl;(exact (rfl:_=[_, _]));rfl;rfl;rfl))|(apply aD;rfl;rfl;rfl)|(apply aC;rfl;rfl)|(apply bC;rfl;rfl;rfl)|(apply aF;kernel_rfl)|(apply cG;rfl;rfl)|(apply bY;rfl;rfl;rfl)|(apply bK;rfl;rfl;rfl;rfl)|(apply bE;rfl;rfl;rfl)|((apply a7 (t := _));(case hze|hsm|hl => rfl);(case hfl => exact (rfl:_=some [_]));(case hM|hN => rfl)))|(apply aM;first|apply aH|apply aB|(apply cH;rfl;(rfl))|apply aK|apply aS)|with_reducible apply aA)
 refine AW.le ?_ (Le.nilOwn (d := 7) 1 rfl (by decide))
 refine a6 (σ := Nat × List Int × Nat) [1, 5, 22] [(1, _), (5, _), (22, _)] [0] [(0, some _)] (fun k => [(23, iv (k.1 : Int)), (7, .own 2 0 k.2.2 1)]) (fun k => [(2, some (aI cI k.2.1))]) (fun k => k.1 ≤ (cT p).length ∧ k.2.1 = nI F b k.1 ∧ k.2.2 = k.2.1.length) (fun k => (cT p).length - k.1) (0, [], 0) ⟨Nat.zero_le _, rfl, rfl⟩ rfl rfl (by repeat' (first|exact trivial|refine And.intro rfl ?_)) (by repeat' (first|exact trivial|refine And.intro (.inr rfl) ?_)) ?_
 rintro ⟨k, xs, m⟩ ⟨hk, hxs, hm⟩
 dsimp only at hk hxs hm
 try dsimp only
 have hxl := y6 (F := F) (b := b) (k := k)
 have hh := Fy (F := F) (b := b) (k := k)
 have hk2 := DF (F := F) (b := b) (k := k)
 rw [← hxs] at hxl hh hk2
 by_cases hkn : k < (cT p).length
 ·have hfr := Lq p.types p.body (cT p) k (F k) w hkn (hF k hkn)
  have hFl := (hF k hkn).l
  generalize F k = G at *
  repeat' (first|(apply aL;first|((with_reducible apply aJ (k := 64));(case ha => rfl);(case h => exact hfr);(case hp => (exact Pur.pf));(case hN => rfl))|(apply aE;rfl;rfl)|(apply aN;rfl;rfl;rfl;rfl)|(first|(apply bR;rfl;rfl;omega;rfl)|(apply aT;rfl;rfl;rfl;rfl))|(apply aC;rfl;rfl)|(apply aZ;(case hx|hi => rfl);(case hm => (omega));(case hml => (rfl));(case hα | hf|hg => infer_instance);(case hN => rfl))|(apply bW;rfl;rfl;rfl;rfl;rfl;(rw [aQ]; omega);(rfl);omega;omega;(exact gA (by (assumption)));rfl;rfl)|(apply aF;kernel_rfl)|((apply a7 (t := _));(case hze|hsm|hl => rfl);(case hfl => exact (rfl:_=some [_]));(case hM|hN => rfl)))|(apply aM;first|apply aH|apply aB|(apply aO;rfl;all_goals intro hc;have hq:=hc;(try simp only [cJ] at hq);try exfalso;omega)|apply aK|apply aS)|with_reducible apply aA|with_reducible apply aW)
  ·(apply dJ (k + 1, _, m + 1); focus (refine Le.ren [(0, 0), (2, 4)] rfl (by decide) ?_ ?_ <;> repeat' (first | exact trivial | refine And.intro ⟨_, rfl, ?_⟩ ?_ | refine And.intro ⟨_, _, rfl, rfl, ?_⟩ ?_ | exact Or.inr rfl | refine Or.inl ⟨?_, (by first | rfl | exact aY _ _ | exact Pur.pf)⟩ | rfl)))
   ·exact ⟨by dsimp only;omega, (hh (by assumption)).symm, by simp [hm]⟩
   ·dsimp only;omega
  ·(apply dJ (k + 1, xs, m); focus (refine Le.ren [(0, 0), (2, 2)] rfl (by decide) ?_ ?_ <;> repeat' (first | exact trivial | refine And.intro ⟨_, rfl, ?_⟩ ?_ | refine And.intro ⟨_, _, rfl, rfl, ?_⟩ ?_ | exact Or.inr rfl | refine Or.inl ⟨?_, (by first | rfl | exact aY _ _ | exact Pur.pf)⟩ | rfl)))
   ·exact ⟨by dsimp only;omega, (hk2 (by assumption)).symm, hm⟩
   ·dsimp only;omega
 ·obtain rfl : k = (cT p).length := by omega
  repeat' (first|(apply aL;first|(apply aE;rfl;rfl)|(apply aT;rfl;rfl;rfl;rfl)|(apply aC;rfl;rfl)|(apply aF;kernel_rfl))|(apply aM;first|apply aH|apply aB|(apply aO;rfl;all_goals intro hc;have hq:=hc;(try simp only [cJ] at hq);try exfalso;omega)|apply bG|apply aR)|with_reducible apply aA|with_reducible apply bH|with_reducible apply bF)
  refine cD (Le.frzD (d := 4) (i := 2) rfl rfl) ?_
  refine aP rfl ⟨?_, (by (exact aY _ _))⟩
  subst hm;rw [hxs]; rfl
theorem GA {F:Nat → List Bool}{b k c:Nat}(hc:c < k) (h:(F c)[b]! = true):(c:Int) ∈ nI F b k := by
 unfold nI
 exact List.mem_map.2 ⟨c, List.mem_filter.2 ⟨List.mem_range.2 hc, h⟩, rfl⟩
theorem Dr {w:World}{bad:Nat → Prop}{ι:Pl}{b:Nat}:∀ (cs cs':List AV) (o:Nat),RdC w bad ι (cs ++ cs') b o → RdC w bad ι cs b o
 | [], _, _, _ => by simp only [RdC]
 | c :: cs, cs', o, h => by
  rw [List.cons_append] at h
  simp only [RdC] at h ⊢
  exact ⟨h.1, Dr cs cs' (o + 1) h.2⟩
theorem Le.immPre {ts:List (Nat × AV)}{hs:List (Nat × Option (List AV))}{n:Nat}{z0:Lo}{d k:Nat}{cs cs':List AV}(h:lk ts d = some (.imm k (cs ++ cs'))):Le ⟨ts,hs,n,z0⟩ ⟨(d,.imm k cs) :: ts,hs,n,z0⟩ :=
 Le.slot h fun w bad ι y hy => by
  simp only [Rd] at hy ⊢
  obtain ⟨a, c, rfl, hy⟩ := hy
  refine ⟨a, c, rfl, ?_⟩
  rcases hy with hy | ⟨b, o, h1, h2, h3⟩
  ·exact .inl hy
  ·refine .inr ⟨b, o, h1, h2, ?_⟩
   rcases h3 with h3 | ⟨h3, h4⟩
   ·exact .inl (List.append_eq_nil_iff.1 h3).1
   ·exact .inr ⟨h3, Dr cs cs' o h4⟩
theorem Fv (zs:List Int) (h:zs.length ≤ 1000000):MC Tryz.prog 54 [.own 0 0 zs.length 1] [(0,some (aI cI zs))] 1 (fun _:Unit => True) (fun _ => .tup []) (fun _ => [(0,some (aI cI (pL zs)))]) := by
 have hr : ∀ (w : World) (bad : Nat → Prop) (ι : Pl), Rd w bad ι (.tup []) (.tuple #[]) := fun w bad ι => by
  simp only [Rd]; exact ⟨[], rfl, by simp only [RdV]⟩
 refine GL (lP zs) (fun _ a cap w => (Tryz.slices_Sort_int_none a cap w).mono ?_) (fun blk off cap w hH hb _ => (Tryz.slices_Sort_int blk off cap zs w hH hb (by omega)).mono ?_)
 ·rintro e w' ⟨rfl, rfl⟩
  exact ⟨_, rfl, rfl, fun ι bad _ => hr _ _ _⟩
 ·rintro e w' ⟨rfl, n, os, rfl⟩
  exact ⟨_, n, os, rfl, rfl, fun ι bad _ _ => hr _ _ _⟩
theorem vR (zs:List Int) (h:zs.length ≤ 1000000):MC Tryz.prog 55 [.own 0 0 zs.length 1] [(0,some (aI cI zs))] 1 (fun _:Unit => True) (fun _ => .own 0 0 (Lib.compact zs).length 1) (fun _ => [(0,some (aI cI (Lib.compact zs ++ List.replicate (zs.length - (Lib.compact zs).length) 0)))]) := by
 have hc := iZ zs
 refine GL (by rw [List.length_append, List.length_replicate]; omega) (fun hz a cap w => (Tryz.slices_Compact_int_empty a cap w).mono ?_) (fun blk off cap w hH hb hcap => (Tryz.slices_Compact_int blk off cap zs w hH (by omega) hcap).mono ?_)
 ·rintro e w' ⟨rfl, rfl⟩
  refine ⟨_, rfl, rfl, fun ι bad h => ?_⟩
  have h0 : (Lib.compact zs).length = 0 := by omega
  rw [h0]
  simp only [Rd]
  rcases h with ⟨h1, rfl | ⟨b, β, h2, rfl, h3⟩⟩
  ·exact .inl ⟨h1, trivial, a, rfl⟩
  ·exact .inr ⟨b, β, cap, h2, rfl, Nat.zero_le _, by omega⟩
 ·rintro e w' ⟨rfl, n, rfl⟩
  refine ⟨_, n, #[], rfl, by rw [Sort.grow_empty], fun ι bad h1 h2 => ?_⟩
  simp only [Rd]
  exact .inr ⟨blk, off, cap, h1, rfl, by omega, by omega⟩
theorem IH (a b:Int) (xs:List Int) (m:Nat) (hm:m = xs.length) (hx:m ≤ 1000):MC Tryz.prog 53 [iv a,iv b,.optr 0 0] [(0,some [.own 1 0 m 1]),(1,some (aI cI xs))] 2 (fun _:Unit => True) (fun _ => .tup []) (fun _ => [(0,some [.own 3 0 (m + 1) 1]),(3,some (aI cI (xs ++ [b])))]) := by
 (refine cC Tryz.func53 rfl (by simp [Tryz.ntmps53]) ?_; rw [Tryz.ntmps53])
 repeat' (first|(apply aL;first|(apply aE;rfl;rfl)|(apply aN;rfl;rfl;rfl;rfl)|(apply bW;rfl;rfl;rfl;rfl;rfl;(rw [aQ]; omega);(rfl);omega;omega;(exact gA (by (assumption)));rfl;rfl)|(apply aF;kernel_rfl)|((apply a7 (t := _));(case hze|hsm|hl => rfl);(case hfl => exact (rfl:_=some [_]));(case hM|hN => rfl))|(apply aX;rfl;rfl;rfl;rfl;rfl;(case hl => (simp;done));(exact (rfl:_=[_]))))|(apply aM;(apply aB)))
 refine J3 (l := []) rfl ?_
 exact bU () trivial rfl ⟨.inr rfl, .inr rfl, trivial⟩
theorem FV (p:Prg) (l:Int) (h:Dj p l = true) (hl:p.types.length ≤ 1000000) (hs:b9 p.body ≤ 1000000):MC Tryz.prog 45 [dT p,iv l,.clos (.func 53) [] [.optr 0 0]] [(0,some [.v (.slice none 0 0)])] 1 (fun _:Unit => True) (fun _ => bv true)
  (fun _ => [(0, some [.own 2 0 (vB (jG p l.toNat) (fun j => nR p (kD j l.toNat) 80) (2 ^ l.toNat)).length 1]), (2, some (aI cI (vB (jG p l.toNat) (fun j => nR p (kD j l.toNat) 80) (2 ^ l.toNat))))]) := by
 have hv0 := mC p hl (by omega)
 have hil := r8 l
 obtain ⟨hv, h0, h1⟩ := o8.1 h
 rw [hv] at hv0
 obtain ⟨L, rfl⟩ := Int.eq_ofNat_of_zero_le h0
 rw [show (decide (0 ≤ (L : Int)) && decide ((L : Int) ≤ 6)) = true by rw [decide_eq_true h0, decide_eq_true h1]; rfl] at hil
 have hp : 2 ^ L ≤ 2 ^ 6 := Nat.pow_le_pow_right (by decide) (by omega)
 rw [Int.toNat_natCast]
 (refine cC Tryz.func45 rfl (by simp [Tryz.ntmps45]) ?_; rw [Tryz.ntmps45])
 repeat' (first|(apply aL;first|((with_reducible apply aJ (k := 25));(case ha => rfl);(case h => exact hv0);(case hp => (exact Pur.pf));(case hN => rfl))|((with_reducible apply aJ (k := 92));(case ha => rfl);(case h => exact hil);(case hp => (rfl));(case hN => rfl))|(apply aE;rfl;rfl)|(apply aV;rfl;rfl;(exact (rfl:_=[_, _]));rfl;rfl;rfl)|(apply bB;rfl;rfl;rfl;(rfl))|(apply jK;rfl;rfl;infer_instance;omega;rfl;(case' kk => intro hsm))|(apply aC;rfl;rfl)|(apply bQ;rfl;(rfl);rfl;rfl)|(apply aF;kernel_rfl)|(apply cG;rfl;rfl)|(apply bK;rfl;rfl;rfl;rfl))|(apply aM;first|apply aH|apply aB|(apply cH;rfl;(rfl))|apply aK|apply aS)|with_reducible apply aA)
 rw [Int.toNat_natCast]
 generalize hT : 2 ^ L = T at *
 refine AW.le ?_ (Le.nilCell (i := 0) 1 [] rfl (by decide) (by decide))
 refine a6 (σ := Nat × List Int × Nat) [1, 2, 3, 19] [(1, _), (2, _), (3, _), (19, _)] [] [] (fun s => [(20, iv (s.1 : Int))]) (fun s => [(0, some [.own 2 0 s.2.2 1]), (1, some [sl cI p.types, sl bO p.body]), (2, some (aI cI s.2.1))]) (fun s => s.1 ≤ T ∧ s.2.1 = vB (jG p L) (fun j => nR p (kD j L) 80) s.1 ∧ s.2.2 = s.2.1.length) (fun s => T - s.1) (0, [], 0) ⟨Nat.zero_le _, rfl, rfl⟩ rfl rfl (by repeat' (first|exact trivial|refine And.intro rfl ?_)) (by repeat' (first|exact trivial|refine And.intro (.inr rfl) ?_)) ?_
 rintro ⟨k, xs, m⟩ ⟨hk, hxs, hm⟩
 dsimp only at hk hxs hm
 try dsimp only
 have hxl := C5 (B := jG p L) (A := fun j => nR p (kD j L) 80) (k := k)
 have hch1 := Dt (B := jG p L) (A := fun j => nR p (kD j L) 80) (k := k)
 have hcs1 := z1 (B := jG p L) (A := fun j => nR p (kD j L) 80) (k := k)
 rw [← hxs] at hxl hch1 hcs1
 try dsimp only at hch1
 have hch := A3 k L (by omega) (by omega)
 have hru := K9 p (kD k L) 80 hl hs (by rw [rG]; omega)
 have hto := IH (k : Int) (nR p (kD k L) 80) xs m hm (by omega)
 have hbd : jG p L k = (decide (Dx p (kD k L) 80 ≠ 0) && decide (Dx p (kD k L) 80 ≠ 1)) := rfl
 generalize Dx p (kD k L) 80 = e at hru hbd
 generalize nR p (kD k L) 80 = a at hru hch1 hto
 repeat' (first|(apply aL;first|((with_reducible apply aJ (k := 52));(case ha => rfl);(case h => exact hch);(case hp => (rfl));(case hN => rfl))|((with_reducible apply aJ (k := 13));(case ha => rfl);(case h => exact hru);(case hp => (exact Pur.pf));(case hN => rfl))|(apply aE;rfl;rfl)|(apply aV;rfl;rfl;(exact (rfl:_=[_, _]));rfl;rfl;rfl)|(first|(apply bB;rfl;rfl;rfl;(assumption))|(apply bD;rfl;rfl;rfl;(assumption))|(apply bS;(case hj|hb|hN => rfl);all_goals (intro hg;have hq := hg;(try simp only [cJ] at hq);(try (exfalso;omega)))))|(first|(apply bR;rfl;rfl;omega;rfl)|(apply aT;rfl;rfl;rfl;rfl))|(apply aC;rfl;rfl)|(first|(apply bV;rfl;(assumption);rfl;rfl)|(apply bQ;rfl;(assumption);rfl;rfl))|(apply aF;kernel_rfl)|(apply bE;rfl;rfl;rfl))|(apply aM;first|apply aH|apply aB|(apply b0;kernel_rfl)|(apply cH;rfl;(rfl))|(apply aO;rfl;all_goals intro hc;have hq:=hc;(try simp only [cJ] at hq);try exfalso;omega)|apply aK|apply aS|apply bG|apply aR)|with_reducible apply aA|with_reducible apply bH|with_reducible apply aW|with_reducible apply bF)
 ·have hbt : jG p L k = true := by rw [hbd]; simp_all
  refine Ej (k := 53) (avs := [iv (k : Int), iv a]) (avs0 := [iv (k : Int), iv a, .optr 0 0]) (rr' := .tup []) [0, 2] 4 [(0, some [.own 4 0 (m + 1) 1]), (4, some (aI cI (xs ++ [a]))), (2, none)] hto rfl rfl rfl rfl ⟨⟨_, _, rfl, rfl, RnL.cons (RnV.own rfl) .nil⟩, ⟨_, _, rfl, rfl, RnL.purI inferInstance⟩, trivial⟩ rfl (RnL.cons (RnV.purI inferInstance) (RnL.cons (RnV.purI inferInstance) (RnL.cons (RnV.optr rfl) .nil))) rfl (RnV.purI inferInstance) rfl ⟨⟨0, _, rfl, rfl, RnL.cons (RnV.own rfl) .nil⟩, ⟨3, _, rfl, rfl, RnL.purI inferInstance⟩, trivial⟩ rfl ?_
  repeat' (first|(apply aL;first|(apply aE;rfl;rfl)|(apply bR;rfl;rfl;omega;rfl)|(apply aF;kernel_rfl))|(apply aM;(apply aB))|with_reducible apply aA|with_reducible apply aW)
  (apply dJ (k + 1, xs ++ [a], m + 1);focus (refine Le.renK [(1, 1), (2, 4)] rfl (by decide) ?_ ?_ <;> repeat' (first|exact trivial|refine And.intro ⟨_, rfl, .inr ⟨rfl, _, _, _, rfl, by decide⟩⟩ ?_|refine And.intro ⟨_, rfl, .inl ?_⟩ ?_|refine And.intro ⟨_, _, rfl, rfl, ?_⟩ ?_|exact Or.inr rfl|exact Or.inl ⟨rfl, rfl⟩|exact Or.inl ⟨rfl, Pur.pf⟩|refine Or.inr (All2.cons ?_ ?_)|exact All2.nil)))
  ·exact ⟨by dsimp only;omega, (hch1 hbt).symm, by simp [hm]⟩
  ·dsimp only;omega
 ·have hbf : jG p L k = false := by rw [hbd]; simp_all
  (apply dJ (k + 1, xs, m);focus (refine Le.renK [(1, 1), (2, 2)] rfl (by decide) ?_ ?_ <;> repeat' (first|exact trivial|refine And.intro ⟨_, rfl, .inr ⟨rfl, _, _, _, rfl, by decide⟩⟩ ?_|refine And.intro ⟨_, rfl, .inl ?_⟩ ?_|refine And.intro ⟨_, _, rfl, rfl, ?_⟩ ?_|exact Or.inr rfl|exact Or.inl ⟨rfl, rfl⟩|exact Or.inl ⟨rfl, Pur.pf⟩|refine Or.inr (All2.cons ?_ ?_)|exact All2.nil)))
  ·exact ⟨by dsimp only;omega, (hcs1 hbf).symm, hm⟩
  ·dsimp only;omega
 ·have hbf : jG p L k = false := by rw [hbd]; simp_all
  (apply dJ (k + 1, xs, m);focus (refine Le.renK [(1, 1), (2, 2)] rfl (by decide) ?_ ?_ <;> repeat' (first|exact trivial|refine And.intro ⟨_, rfl, .inr ⟨rfl, _, _, _, rfl, by decide⟩⟩ ?_|refine And.intro ⟨_, rfl, .inl ?_⟩ ?_|refine And.intro ⟨_, _, rfl, rfl, ?_⟩ ?_|exact Or.inr rfl|exact Or.inl ⟨rfl, rfl⟩|exact Or.inl ⟨rfl, Pur.pf⟩|refine Or.inr (All2.cons ?_ ?_)|exact All2.nil)))
  ·exact ⟨by dsimp only;omega, (hcs1 hbf).symm, hm⟩
  ·dsimp only;omega
 ·obtain rfl : k = T := by omega
  refine aP rfl ?_
  rw [← hxs, ← hm]
  exact bU () trivial rfl ⟨.inr rfl, .inr rfl, trivial⟩
theorem EO (p:Prg) (l:Int) (h:Dj p l = false) (hl:p.types.length ≤ 1000000) (hs:b9 p.body ≤ 1000000):MC Tryz.prog 45 [dT p,iv l,.clos (.func 53) [] [.optr 0 0]] [(0,some [.v (.slice none 0 0)])] 1 (fun _:Unit => True) (fun _ => bv false) (fun _ => [(0,some [.v (.slice none 0 0)])]) := by
 have hv0 := mC p hl (by omega)
 have hil := r8 l
 by_cases hv : dF p = true
 ·have hil2 : (decide (0 ≤ l) && decide (l ≤ 6)) = false := by unfold Dj at h; rw [hv] at h; simpa using h
  rw [hv] at hv0
  rw [hil2] at hil
  (refine cC Tryz.func45 rfl (by simp [Tryz.ntmps45]) ?_; rw [Tryz.ntmps45])
  repeat' (first|(apply aL;first|((with_reducible apply aJ (k := 25));(case ha => rfl);(case h => exact hv0);(case hp => (exact Pur.pf));(case hN => rfl))|((with_reducible apply aJ (k := 92));(case ha => rfl);(case h => exact hil);(case hp => (rfl));(case hN => rfl))|(apply aE;rfl;rfl)|(apply aV;rfl;rfl;(exact (rfl:_=[_, _]));rfl;rfl;rfl)|(apply bB;rfl;rfl;rfl;(rfl))|(apply aC;rfl;rfl)|(apply bQ;rfl;(rfl);rfl;rfl)|(apply aF;kernel_rfl)|(apply cG;rfl;rfl)|(apply bK;rfl;rfl;rfl;rfl))|(apply aM;first|apply aH|apply aB|(apply cA;rfl;(rfl))|apply aR)|with_reducible apply aA|with_reducible apply bJ)
  refine aP rfl ?_
  exact bU () trivial rfl ⟨.inr rfl, trivial⟩
 ·have hv2 : dF p = false := by simpa using hv
  rw [hv2] at hv0
  (refine cC Tryz.func45 rfl (by simp [Tryz.ntmps45]) ?_; rw [Tryz.ntmps45])
  repeat' (first|(apply aL;first|((with_reducible apply aJ (k := 25));(case ha => rfl);(case h => exact hv0);(case hp => (exact Pur.pf));(case hN => rfl))|(apply aE;rfl;rfl)|(apply aV;rfl;rfl;(exact (rfl:_=[_, _]));rfl;rfl;rfl)|(apply bD;rfl;rfl;rfl;(rfl))|(apply aC;rfl;rfl)|(apply bV;rfl;(rfl);rfl;rfl)|(apply aF;kernel_rfl)|(apply cG;rfl;rfl)|(apply bK;rfl;rfl;rfl;rfl))|(apply aM;first|apply aH|apply aB|(apply cA;rfl;(rfl))|apply aR)|with_reducible apply aA|with_reducible apply bJ)
  refine aP rfl ?_
  exact bU () trivial rfl ⟨.inr rfl, trivial⟩
def CG (p : Prg) (l : Int) : List Int := if Dj p l = true then vB (jG p l.toNat) (fun j => nR p (kD j l.toNat) 80) (2 ^ l.toNat) else []
theorem Dc (p:Prg) (l:Int):(CG p l).length ≤ 64 := by
 unfold CG
 split
 ·rename_i h
  obtain ⟨_, h0, h1⟩ := o8.1 h
  have hp : 2 ^ l.toNat ≤ 2 ^ 6 := Nat.pow_le_pow_right (by decide) (by omega)
  exact Nat.le_trans C5 hp
 ·simp
theorem uM (p:Prg) (l:Int) (hl:p.types.length ≤ 1000000) (hs:b9 p.body ≤ 1000000):PC Tryz.prog 21 [dT p,iv l] (fun r => r = sl cI (Lib.compact (pL (CG p l)))) := by
 have harg : RnL (([1] : List Nat)[·]?) [dT p, iv l, .clos (.func 53) [] [.optr 0 0]] [dT p, iv l, .clos (.func 53) [] [.optr 1 0]] := RnL.cons (RnV.purI inferInstance) (RnL.cons (RnV.purI inferInstance) (RnL.cons (RnV.clos .nil (RnL.cons (RnV.optr rfl) .nil)) .nil))
 have hlen := Dc p l
 by_cases h : Dj p l = true
 ·have hw := FV p l h hl hs
  have e : CG p l = vB (jG p l.toNat) (fun j => nR p (kD j l.toNat) 80) (2 ^ l.toNat) := if_pos h
  rw [← e] at hw
  generalize CG p l = U at *
  have h1 := Fv U (by omega)
  have h2 := vR (pL U) (by rw [lP]; omega)
  have hcl := iZ (pL U)
  rw [lP] at hcl h2
  (refine aU Tryz.func21 rfl (by simp [Tryz.ntmps21]) ?_; rw [Tryz.ntmps21])
  repeat' (first|(apply aL;first|(apply aE;rfl;rfl)|(apply aV;rfl;rfl;(exact (rfl:_=[_, _]));rfl;rfl;rfl)|(apply aC;rfl;rfl)|(apply aF;kernel_rfl)|(apply gU;rfl;rfl;rfl)|(apply bK;rfl;rfl;rfl;rfl)|(apply bI;rfl;rfl))|(apply aM;first|apply aH|apply aB)|with_reducible apply aA)
  refine cE (k := 45) (avs := [dT p, iv l, .clos (.func 53) [] [.optr 1 0]]) (rr' := bv true) [1] 3 [(1, some [.own 3 0 U.length 1]), (3, some (aI cI U))] hw rfl rfl ⟨⟨_, _, rfl, rfl, RnL.purI inferInstance⟩, trivial⟩ rfl harg rfl (RnV.purI inferInstance) rfl ⟨⟨0, _, rfl, rfl, RnL.cons (RnV.own rfl) .nil⟩, ⟨2, _, rfl, rfl, RnL.purI inferInstance⟩, trivial⟩ rfl ?_
  repeat' (first|(apply aL;first|(apply aN;rfl;rfl;rfl;rfl)|(apply aF;kernel_rfl))|(apply aM;first|apply aH|apply aB)|with_reducible apply aA)
  refine cE (k := 54) (avs := [.own 3 0 U.length 1]) (rr' := .tup []) [3] 1 [(3, some (aI cI (pL U)))] h1 rfl rfl ⟨⟨_, _, rfl, rfl, RnL.purI inferInstance⟩, trivial⟩ rfl (RnL.cons (RnV.own rfl) .nil) rfl (RnV.purI inferInstance) rfl ⟨⟨0, _, rfl, rfl, RnL.purI inferInstance⟩, trivial⟩ rfl ?_
  repeat' (first|(apply aL;first|(apply aN;rfl;rfl;rfl;rfl)|(apply aF;kernel_rfl))|(apply aM;first|apply aH|apply aB)|with_reducible apply aA)
  refine cE (k := 55) (avs := [.own 3 0 U.length 1]) (rr' := .own 3 0 (Lib.compact (pL U)).length 1) [3] 1 [(3, some (aI cI (Lib.compact (pL U) ++ List.replicate (U.length - (Lib.compact (pL U)).length) 0)))] h2 rfl rfl ⟨⟨_, _, rfl, rfl, RnL.purI inferInstance⟩, trivial⟩ rfl (RnL.cons (RnV.own rfl) .nil) rfl (RnV.own rfl) rfl ⟨⟨0, _, rfl, rfl, RnL.purI inferInstance⟩, trivial⟩ rfl ?_
  repeat' (first|(apply aL;first|(apply aC;rfl;rfl)|(apply aF;kernel_rfl))|(apply aM;(apply aR))|with_reducible apply aA)
  refine cD (Le.frzD (d := 4) (i := 3) rfl rfl) ?_
  refine cD (Le.immPre (d := 4) (cs := aI cI (Lib.compact (pL U))) (by rw [← dR]; rfl)) ?_
  exact aP rfl ⟨rfl, (show (sl cI (Lib.compact (pL U))).pur = true from PurV.pf)⟩
 ·have h' : Dj p l = false := by simpa using h
  have hw := EO p l h' hl hs
  have e : CG p l = [] := if_neg h
  rw [e]
  have h1 := Fv [] (by simp)
  have h2 := vR (pL []) (by rw [lP]; simp)
  have hcl := iZ (pL [])
  rw [lP] at hcl h2
  (refine aU Tryz.func21 rfl (by simp [Tryz.ntmps21]) ?_; rw [Tryz.ntmps21])
  repeat' (first|(apply aL;first|(apply aE;rfl;rfl)|(apply aV;rfl;rfl;(exact (rfl:_=[_, _]));rfl;rfl;rfl)|(apply aC;rfl;rfl)|(apply aF;kernel_rfl)|(apply gU;rfl;rfl;rfl)|(apply bK;rfl;rfl;rfl;rfl)|(apply bI;rfl;rfl))|(apply aM;first|apply aH|apply aB)|with_reducible apply aA)
  refine cE (k := 45) (avs := [dT p, iv l, .clos (.func 53) [] [.optr 1 0]]) (rr' := bv false) [1] 1 [(1, some [.v (.slice none 0 0)])] hw rfl rfl ⟨⟨_, _, rfl, rfl, RnL.purI inferInstance⟩, trivial⟩ rfl harg rfl (RnV.purI inferInstance) rfl ⟨⟨0, _, rfl, rfl, RnL.purI inferInstance⟩, trivial⟩ rfl ?_
  repeat' (first|(apply aL;first|(with_reducible apply cS (d := 10))|(apply aF;kernel_rfl))|(apply aM;first|apply aH|apply aB)|with_reducible apply aA)
  refine dO (hO ?_ (Le.nilCell (i := 1) 1 [] rfl (by decide) (by decide)))
  repeat' (apply aL;(apply aN;rfl;rfl;rfl;rfl))
  refine cE (k := 54) (avs := [.own 2 0 0 1]) (rr' := .tup []) [2] 1 [(2, some (aI cI (pL [])))] h1 rfl rfl ⟨⟨_, _, rfl, rfl, RnL.purI inferInstance⟩, trivial⟩ rfl (RnL.cons (RnV.own rfl) .nil) rfl (RnV.purI inferInstance) rfl ⟨⟨0, _, rfl, rfl, RnL.purI inferInstance⟩, trivial⟩ rfl ?_
  repeat' (first|(apply aL;first|(apply aN;rfl;rfl;rfl;rfl)|(apply aF;kernel_rfl))|(apply aM;first|apply aH|apply aB)|with_reducible apply aA)
  refine cE (k := 55) (avs := [.own 2 0 0 1]) (rr' := .own 2 0 (Lib.compact (pL [])).length 1) [2] 1 [(2, some (aI cI (Lib.compact (pL []) ++ List.replicate (([] : List Int).length - (Lib.compact (pL [])).length) 0)))] h2 rfl rfl ⟨⟨_, _, rfl, rfl, RnL.purI inferInstance⟩, trivial⟩ rfl (RnL.cons (RnV.own rfl) .nil) rfl (RnV.own rfl) rfl ⟨⟨0, _, rfl, rfl, RnL.purI inferInstance⟩, trivial⟩ rfl ?_
  repeat' (first|(apply aL;first|(apply aC;rfl;rfl)|(apply aF;kernel_rfl))|(apply aM;(apply aR))|with_reducible apply aA)
  refine cD (Le.frzD (d := 4) (i := 2) rfl rfl) ?_
  refine cD (Le.immPre (d := 4) (cs := aI cI (Lib.compact (pL []))) (by rw [← dR]; rfl)) ?_
  exact aP rfl ⟨rfl, (show (sl cI (Lib.compact (pL []))).pur = true from PurV.pf)⟩
theorem KG {p:Prg}{l:Int}{j:Nat}(h:Dj p l = true) (hb:jG p l.toNat j = true):∃ a:Nat,nR p (kD j l.toNat) 80 = (a:Int) ∧ a < (cT p).length := by
 obtain ⟨hv, h0, h1⟩ := o8.1 h
 have hr : y1 p 80 = true := AG.2 ⟨hv, by decide, by decide⟩
 have w := WG.of_valid hv
 obtain ⟨f⟩ := Flows.ex w
 unfold jG Dx at hb
 rw [if_pos hr] at hb
 unfold nR
 rw [if_pos hr]
 simp only [Bool.and_eq_true, decide_eq_true_eq] at hb
 refine ⟨_, rfl, ?_⟩
 obtain ⟨c, i, _, _, hc, h3⟩ := CR w (WA.of_valid hv) f (kD j l.toNat) (80 : Int).toNat (by decide) hb
 rcases h3 with ⟨_, h4⟩ | ⟨_, _, h4⟩
 ·rw [← h4]; exact hc
 ·have hw : Wy (cT p) c (eJ p.types (cT p) (kD j l.toNat) (80 : Int).toNat).2.2 := h4
  exact hw.lt w.nx
theorem tK (p:Prg) (l:Int) (hl:p.types.length ≤ 1000000) (hs:b9 p.body ≤ 1000000):PC Tryz.prog 31 [dT p,iv l] (fun r => r = sl cI (Lib.compact (pL (CG p l)))) := by
 have hr := D4 p l hl hs
 by_cases h : Dj p l = true
 ·have hba := fun j => KG (p := p) (l := l) (j := j) h
  obtain ⟨hv, h0, h1⟩ := o8.1 h
  have hpl := (WG.of_valid hv).pl
  rw [h] at hr
  obtain ⟨L, rfl⟩ := Int.eq_ofNat_of_zero_le h0
  rw [Int.toNat_natCast] at hba
  have e : CG p (L : Int) = vB (jG p L) (fun j => nR p (kD j L) 80) (2 ^ L) := by unfold CG;rw [if_pos h, Int.toNat_natCast]
  rw [e]
  have hfl : ∀ x ∈ vB (jG p L) (fun j => nR p (kD j L) 80) (2 ^ L), 0 ≤ x ∧ x < ((cT p).length : Int) := fun x hx => by
   obtain ⟨j, _, h2, h3⟩ := Cy.1 hx
   obtain ⟨a, h4, h5⟩ := hba j h2
   rw [← h3]; show 0 ≤ nR p (kD j L) 80 ∧ nR p (kD j L) 80 < _; rw [h4]; omega
  rw [← ED hfl]
  have hru := Ht L (by omega)
  have hp : 2 ^ L ≤ 2 ^ 6 := Nat.pow_le_pow_right (by decide) (by omega)
  have hpt := nV p hs
  generalize hT : 2 ^ L = T at *
  (refine aU Tryz.func31 rfl (by simp [Tryz.ntmps31]) ?_; rw [Tryz.ntmps31])
  repeat' (first|(apply aL;first|((with_reducible apply aJ (k := 47));(case ha => rfl);(case h => exact hr);(case hp => (exact Pur.pf));(case hN => rfl))|((with_reducible apply aJ (k := 60));(case ha => rfl);(case h => exact hpt);(case hp => (exact Pur.pf));(case hN => rfl))|(apply aE;rfl;rfl)|(apply aV;rfl;rfl;(exact (rfl:_=[_, _]));rfl;rfl;rfl)|(apply aC;rfl;rfl)|(apply bC;rfl;rfl;rfl)|(apply aF;kernel_rfl)|(apply cG;rfl;rfl)|(apply bK;rfl;rfl;rfl;rfl)|(apply dX;rfl;rfl;rfl;omega;omega;(exact C3);rfl;rfl))|(apply aM;first|apply aH|apply aB|(apply cH;rfl;(rfl))|apply aK|apply aS)|with_reducible apply aA)
  refine a6 (σ := Nat × List Bool) [1, 2, 5] [(1, _), (2, _), (5, _)] [0] [(0, some _)] (fun s => [(6, iv (s.1 : Int))]) (fun s => [(1, some (aI cB s.2))]) (fun s => s.1 ≤ T ∧ s.2 = E0 (cT p).length (vB (jG p L) (fun j => nR p (kD j L) 80) s.1)) (fun s => T - s.1) (0, List.replicate (cT p).length false) ⟨Nat.zero_le _, (JB _).symm⟩ rfl rfl (by repeat' (first|exact trivial|refine And.intro rfl ?_)) (by repeat' (first|exact trivial|refine And.intro (.inr rfl) ?_)) ?_
  rintro ⟨k, xs⟩ ⟨hk, hxs⟩
  dsimp only at hk hxs
  try dsimp only
  have hxl : xs.length = (cT p).length := by rw [hxs, oR]
  have hch1 := Dt (B := jG p L) (A := fun j => nR p (kD j L) 80) (k := k)
  have hcs1 := z1 (B := jG p L) (A := fun j => nR p (kD j L) 80) (k := k)
  try dsimp only at hch1
  have hch := A5 k L (by omega) (by omega)
  have hwr := EY p (kD k L) hl hs (by rw [rG]; omega)
  change PC _ _ _ (fun r => r = .tup [bv (jG p L k), _]) at hwr
  cases hb : jG p L k with
  | true =>
   obtain ⟨a, ha1, ha2⟩ := hba k hb
   have hst := JE (L := vB (jG p L) (fun j => nR p (kD j L) 80) k) ha2
   rw [← hxs, ← ha1, ← hch1 hb] at hst
   rw [hb, ha1] at hwr
   repeat' (first|(apply aL;first|((with_reducible apply aJ (k := 50));(case ha => rfl);(case h => exact hch);(case hp => (rfl));(case hN => rfl))|((with_reducible apply aJ (k := 49));(case ha => rfl);(case h => exact hwr);(case hp => (exact Pur.pf));(case hN => rfl))|((with_reducible apply aJ (k := 48));(case ha => rfl);(case h => exact hru);(case hp => (rfl));(case hN => rfl))|(with_reducible apply cS (d := 36))|(apply aE;rfl;rfl)|(apply aV;rfl;rfl;(exact (rfl:_=[_, _]));rfl;rfl;rfl)|(first|(apply bR;rfl;rfl;omega;rfl)|(apply aT;rfl;rfl;rfl;rfl))|(apply aC;rfl;rfl)|(apply cM;rfl;rfl;(assumption);rfl)|(apply aF;kernel_rfl)|(apply bE;rfl;rfl;rfl)|(apply aX;rfl;rfl;rfl;rfl;rfl;(rw [aQ]; simp only [fY] <;> omega);(exact y0 (by (omega)))))|(apply aM;first|apply aH|apply aB|(apply b0;kernel_rfl)|(apply cA;rfl;(rfl))|(apply aO;rfl;all_goals intro hc;have hq:=hc;(try simp only [cJ] at hq);try exfalso;omega)|apply aK|apply aS|apply bG)|with_reducible apply aA|with_reducible apply bH|with_reducible apply aW|with_reducible apply bF)
   ·(apply dJ (k + 1, _); focus (refine Le.ren [(0, 0), (1, 1)] rfl (by decide) ?_ ?_ <;> repeat' (first | exact trivial | refine And.intro ⟨_, rfl, ?_⟩ ?_ | refine And.intro ⟨_, _, rfl, rfl, ?_⟩ ?_ | exact Or.inr rfl | refine Or.inl ⟨?_, (by first | rfl | exact aY _ _ | exact Pur.pf)⟩ | rfl)))
    ·exact ⟨by dsimp only;omega, hst⟩
    ·dsimp only;omega
   ·obtain rfl : k = T := by omega
    refine dO (hO ?_ (Le.frzD (d := 5) (i := 1) rfl rfl))
    rw [← hxl]
    repeat' (first|(apply aL;first|((with_reducible apply aJ (k := 61));(case ha => rfl);(case h => exact qM xs (by omega));(case hp => (exact Pur.pf));(case hN => rfl))|(apply aE;rfl;rfl)|(apply aC;rfl;rfl)|(apply aF;kernel_rfl))|(apply aM;(apply aR))|with_reducible apply aA)
    refine aP rfl ⟨?_, Pur.pf⟩
    have hx2 : E0 xs.length (vB (jG p L) (fun j => nR p (kD j L) 80) k) = xs := by rw [hxl]; exact hxs.symm
    rw [hx2]; rfl
  | false =>
   rw [hb] at hwr
   generalize nR p (kD k L) 80 = a at hwr
   repeat' (first|(apply aL;first|((with_reducible apply aJ (k := 50));(case ha => rfl);(case h => exact hch);(case hp => (rfl));(case hN => rfl))|((with_reducible apply aJ (k := 49));(case ha => rfl);(case h => exact hwr);(case hp => (exact Pur.pf));(case hN => rfl))|((with_reducible apply aJ (k := 48));(case ha => rfl);(case h => exact hru);(case hp => (rfl));(case hN => rfl))|(with_reducible apply cS (d := 36))|(apply aE;rfl;rfl)|(apply aV;rfl;rfl;(exact (rfl:_=[_, _]));rfl;rfl;rfl)|(first|(apply bR;rfl;rfl;omega;rfl)|(apply aT;rfl;rfl;rfl;rfl))|(apply aC;rfl;rfl)|(apply aF;kernel_rfl)|(apply bE;rfl;rfl;rfl))|(apply aM;first|apply aH|apply aB|(apply b0;kernel_rfl)|(apply cH;rfl;(rfl))|(apply aO;rfl;all_goals intro hc;have hq:=hc;(try simp only [cJ] at hq);try exfalso;omega)|apply aK|apply aS|apply bG)|with_reducible apply aA|with_reducible apply bH|with_reducible apply aW|with_reducible apply bF)
   ·(apply dJ (k + 1, xs); focus (refine Le.ren [(0, 0), (1, 1)] rfl (by decide) ?_ ?_ <;> repeat' (first | exact trivial | refine And.intro ⟨_, rfl, ?_⟩ ?_ | refine And.intro ⟨_, _, rfl, rfl, ?_⟩ ?_ | exact Or.inr rfl | refine Or.inl ⟨?_, (by first | rfl | exact aY _ _ | exact Pur.pf)⟩ | rfl)))
    ·exact ⟨by dsimp only;omega, by dsimp only;rw [hcs1 hb]; exact hxs⟩
    ·dsimp only;omega
   ·obtain rfl : k = T := by omega
    refine dO (hO ?_ (Le.frzD (d := 5) (i := 1) rfl rfl))
    rw [← hxl]
    repeat' (first|(apply aL;first|((with_reducible apply aJ (k := 61));(case ha => rfl);(case h => exact qM xs (by omega));(case hp => (exact Pur.pf));(case hN => rfl))|(apply aE;rfl;rfl)|(apply aC;rfl;rfl)|(apply aF;kernel_rfl))|(apply aM;(apply aR))|with_reducible apply aA)
    refine aP rfl ⟨?_, Pur.pf⟩
    have hx2 : E0 xs.length (vB (jG p L) (fun j => nR p (kD j L) 80) k) = xs := by rw [hxl]; exact hxs.symm
    rw [hx2]; rfl
 ·have h2 : Dj p l = false := by simpa using h
  rw [h2] at hr
  have e : CG p l = [] := if_neg h
  have e0 : Lib.compact (pL []) = [] := by
   have := iZ (pL [])
   rw [lP] at this
   exact List.eq_nil_of_length_eq_zero (by simpa using this)
  rw [e, e0]
  (refine aU Tryz.func31 rfl (by simp [Tryz.ntmps31]) ?_; rw [Tryz.ntmps31])
  repeat' (first|(apply aL;first|((with_reducible apply aJ (k := 47));(case ha => rfl);(case h => exact hr);(case hp => (exact Pur.pf));(case hN => rfl))|(apply aE;rfl;rfl)|(apply aV;rfl;rfl;(exact (rfl:_=[_, _]));rfl;rfl;rfl)|(apply aC;rfl;rfl)|(apply aF;kernel_rfl)|(apply cG;rfl;rfl)|(apply bK;rfl;rfl;rfl;rfl)|((apply a7 (t := _));(case hze|hsm|hl => rfl);(case hfl => (rfl));(case hM|hN => rfl)))|(apply aM;first|apply aH|apply aB|(apply cA;rfl;(rfl))|apply aR)|with_reducible apply aA|with_reducible apply bJ)
  exact aP (l := [.imm 0 []]) rfl ⟨rfl, rfl⟩
theorem DO {p:Prg}{l:Int}{L:List Iss}(hL:dF p = true → ∃ f:Flows p.types (cT p),L = f.iss){x:Int}(hx:x ∈ Lib.compact (pL (CG p l))):dF p = true ∧ ∃ b:Nat,x = (b:Int) ∧ b < (cT p).length ∧
  ∀ F, (∀ i, i < (cT p).length → GoodR (cT p) i (F i)) → ∃ j, j < L.length ∧ (L[j]!.point = x ∨ L[j]!.point ∈ nI F b (cT p).length) := by
 rw [qJ, C0] at hx
 unfold CG at hx
 by_cases h8 : Dj p l = true
 ·rw [if_pos h8] at hx
  obtain ⟨j, _, hb, hj⟩ := Cy.1 hx
  obtain ⟨hv, h0, h6⟩ := o8.1 h8
  have hr : y1 p 80 = true := AG.2 ⟨hv, by decide, by decide⟩
  have w := WG.of_valid hv
  obtain ⟨f, e⟩ := hL hv
  unfold jG Dx at hb
  rw [if_pos hr] at hb
  have hj : nR p (kD j l.toNat) 80 = x := hj
  unfold nR at hj
  rw [if_pos hr] at hj
  simp only [Bool.and_eq_true, decide_eq_true_eq] at hb
  obtain ⟨c, i, hi, hp, hc, h3⟩ := CR w (WA.of_valid hv) f (kD j l.toNat) (80 : Int).toNat (by decide) hb
  rw [← e] at hi
  obtain ⟨m, hm, he⟩ := List.getElem_of_mem hi
  refine ⟨hv, _, hj.symm, ?_, fun F hF => ⟨m, hm, ?_⟩⟩
  ·rcases h3 with ⟨_, h4⟩ | ⟨_, _, h4⟩
   ·rw [← h4]; exact hc
   ·have hw : Wy (cT p) c (eJ p.types (cT p) (kD j l.toNat) (80 : Int).toNat).2.2 := h4
    exact hw.lt w.nx
  ·rw [cV _ _ hm, he, hp]
   rcases h3 with ⟨_, h4⟩ | ⟨_, _, h4⟩
   ·left;rw [← hj, h4]
   ·right
    have hw : Wy (cT p) c (eJ p.types (cT p) (kD j l.toNat) (80 : Int).toNat).2.2 := h4
    exact GA hc (((hF c hc).g _ (hw.lt w.nx)).2 hw)
 ·rw [if_neg h8] at hx;cases hx
theorem qX (bs:List UInt8):PC Tryz.prog 8 [sl cU bs] (fun r => r = bv true) := by
 rcases Nat.lt_or_ge 1048576 bs.length with hb|hb
 ·(refine aU Tryz.func8 rfl (by simp [Tryz.ntmps8]) ?_; rw [Tryz.ntmps8])
  repeat' (first|(apply aL;first|(apply aE;rfl;rfl)|(apply aT;rfl;rfl;rfl;rfl)|(apply aC;rfl;rfl)|(apply bC;rfl;rfl;rfl)|(apply aF;kernel_rfl))|(apply aM;first|apply aH|apply aB|(apply aO;rfl;all_goals intro hc;have hq:=hc;(try simp only [cJ] at hq);try exfalso;omega)|apply aR)|with_reducible apply aA|with_reducible apply bJ)
  exact aP rfl ⟨rfl, rfl⟩
 (refine aU Tryz.func8 rfl (by simp [Tryz.ntmps8]) ?_; rw [Tryz.ntmps8])
 repeat' (first|(apply aL;first|((with_reducible apply jN (k := 30));(case ha => rfl);(case h => exact Gi bs hb);(case hp => (exact Pur.pf));(case hN => rfl);(rintro _ ⟨q, n, rfl, hq1, hq2, hq3, hq4⟩ _))|(with_reducible apply cS (d := 18))|(apply aE;rfl;rfl)|(apply aT;rfl;rfl;rfl;rfl)|(apply aC;rfl;rfl)|(apply bC;rfl;rfl;rfl)|(apply aF;kernel_rfl)|(apply bI;rfl;rfl)|(apply bE;rfl;rfl;rfl)|(apply aX;rfl;rfl;rfl;rfl;rfl;(case hl => (simp;done));(exact (rfl:_=[_, _]))))|(apply aM;first|apply aH|apply aB|(apply aO;rfl;all_goals intro hc;have hq:=hc;(try simp only [cJ] at hq);try exfalso;omega)|apply aS)|with_reducible apply aA)
 refine dO ?_
 have h1 := uM q n (by omega) (by omega)
 have h2 := tK q n (by omega) (by omega)
 obtain ⟨L, hC, _, hLl, hL⟩ := Jc q (by omega) (by omega)
 have hUl := iZ (pL (CG q n))
 have hUl2 := Dc q n
 rw [lP] at hUl
 have hlaw := fun x => DO (p := q) (l := n) (x := x) hL
 generalize Lib.compact (pL (CG q n)) = U at *
 have h3 := G3 U (by omega)
 repeat' (first|(apply aL;first|((with_reducible apply aJ (k := 21));(case ha => rfl);(case h => exact h1);(case hp => (exact Pur.pf));(case hN => rfl))|((with_reducible apply aJ (k := 31));(case ha => rfl);(case h => exact h2);(case hp => (exact Pur.pf));(case hN => rfl))|((with_reducible apply aJ (k := 28));(case ha => rfl);(case h => exact h3);(case hp => (exact Pur.pf));(case hN => rfl))|((with_reducible apply aJ (k := 32));(case ha => rfl);(case h => exact hC);(case hp => (exact Pur.pf));(case hN => rfl))|(apply aE;rfl;rfl)|(apply aV;rfl;rfl;(exact (rfl:_=[_, _]));rfl;rfl;rfl)|(apply aC;rfl;rfl)|(apply aF;kernel_rfl)|(apply cG;rfl;rfl))|(apply aM;first|apply aH|apply aB|(apply cH;rfl;(rfl))|apply aK|apply aS)|with_reducible apply aA)
 all_goals try (exfalso;exact (by assumption : ¬ True) trivial)
 refine a6 (σ := Nat) [3, 5, 6] [(3, _), (5, _), (6, _)] [0] [(0, some _)] (fun i => [(7, iv (i : Int))]) (fun i => []) (fun i => i ≤ U.length) (fun i => U.length - i) (0) (Nat.zero_le _) rfl rfl (by repeat' (first|exact trivial|refine And.intro rfl ?_)) (by repeat' (exact trivial)) ?_
 rintro i hi
 by_cases hiu : i < U.length
 ·obtain ⟨hv, b, hxb, hbl, hF⟩ := hlaw U[i]! (cK _ _ hiu)
  obtain ⟨F, hFg⟩ : ∃ F : Nat → List Bool, ∀ i, i < (cT q).length → GoodR (cT q) i (F i) := ⟨fun i => Classical.choose (GoodR.exist (cT q) i), fun i _ => Classical.choose_spec (GoodR.exist (cT q) i)⟩
  have hpt := ET q b F hv hbl hFg (by omega) (by omega)
  rw [← hxb] at hpt
  have hin : ∀ z : Int, PC Tryz.prog 29 [sl cI (nI F b (cT q).length), iv z] (fun r => r = bv (decide (z ∈ nI F b (cT q).length))) := fun z => KW _ z (by have := y6 (F := F) (b := b) (k := (cT q).length);have := (WG.of_valid hv).pl;omega)
  obtain ⟨j0, hj0, hj1⟩ := hF F hFg
  generalize nI F b (cT q).length = T at *
  repeat' (first|(apply aL;first|(apply aE;rfl;rfl)|(apply aT;rfl;rfl;rfl;rfl)|(apply aC;rfl;rfl)|(apply bC;rfl;rfl;rfl)|(apply aF;kernel_rfl))|(apply aM;first|apply aH|apply aB|(apply aO;rfl;all_goals intro hc;have hq:=hc;(try simp only [cJ] at hq);try exfalso;omega)|apply aK|apply aS)|with_reducible apply aA)
  refine a6 (σ := Nat × Bool) [3, 5, 6, 7] [(3, _), (5, _), (6, _), (7, _)] [0] [(0, some _)] (fun s => [(9, iv (s.1 : Int)), (8, bv s.2)]) (fun s => []) (fun s => s.1 ≤ L.length ∧ (s.2 = true ↔ ∃ j, j < s.1 ∧ (L[j]!.point = U[i]! ∨ L[j]!.point ∈ T))) (fun s => L.length - s.1) (0, false) ⟨Nat.zero_le _, by simp⟩ rfl rfl (by repeat' (first|exact trivial|refine And.intro rfl ?_)) (by repeat' (exact trivial)) ?_
  rintro ⟨k, fd⟩ ⟨hk, hfd⟩
  dsimp only at hk hfd
  try dsimp only
  repeat' (first|(apply aL;first|((with_reducible apply aJ (k := 33));(case ha => rfl);(case h => exact hpt);(case hp => (exact Pur.pf));(case hN => rfl))|((with_reducible apply aJ (k := 29));(case ha => rfl);(case h => exact hin _);(case hp => (exact Pur.pf));(case hN => rfl))|(apply aE;rfl;rfl)|(first|(apply aN;rfl;rfl;rfl;rfl)|(apply aV;rfl;rfl;(exact (rfl:_=[_, _]));rfl;rfl;rfl))|(apply aD;rfl;rfl;rfl)|(first|(apply bB;rfl;rfl;rfl;(assumption))|(apply bD;rfl;rfl;rfl;(first|rfl|assumption))|(apply bS;(case hj|hb|hN => rfl);all_goals (intro hg;have hq := hg;(try simp only [cJ] at hq);(try (exfalso;omega)))))|(first|(apply bR;rfl;rfl;omega;rfl)|(apply aT;rfl;rfl;rfl;rfl))|(apply aC;rfl;rfl)|(first|(apply bV;rfl;(first|rfl|assumption);rfl;rfl)|(apply bQ;rfl;(assumption);rfl;rfl))|(apply aZ;(case hx|hi => rfl);(case hm => (first|assumption|omega));(case hml => (rfl));(case hα | hf|hg => infer_instance);(case hN => rfl))|(apply bC;rfl;rfl;rfl)|(apply aF;kernel_rfl)|(apply cG;rfl;rfl))|(apply aM;first|apply aH|apply aB|(apply b0;kernel_rfl)|(apply aO;rfl;all_goals intro hc;have hq:=hc;(try simp only [cJ] at hq);try exfalso;omega)|apply aK|apply aS|apply bG|apply aR)|with_reducible apply aA|with_reducible apply bJ|with_reducible apply bH|with_reducible apply aW|with_reducible apply cQ|with_reducible apply bF)
  ·have hq0 : fd = false := by assumption
   have hp0 : ¬ L[k]!.point = U[i]! := by assumption
   (apply dJ (k + 1, _);focus (refine Le.ren [(0, 0)] rfl (by decide) ?_ ?_ <;> repeat' (first|exact trivial|refine And.intro ⟨_, rfl, ?_⟩ ?_|refine And.intro ⟨_, _, rfl, rfl, ?_⟩ ?_|exact Or.inr rfl|refine Or.inl ⟨?_, (by first|rfl|exact aY _ _|exact Pur.pf)⟩|rfl)))
   ·refine ⟨by dsimp only; omega, ?_⟩
    show decide (L[k]!.point ∈ T) = true ↔ ∃ j, j < k + 1 ∧ (L[j]!.point = U[i]! ∨ L[j]!.point ∈ T)
    rw [decide_eq_true_eq]
    constructor
    ·exact fun h => ⟨k, by omega, .inr h⟩
    ·rintro ⟨j, hj, h⟩
     by_cases e : j = k
     ·subst e;exact h.resolve_left hp0
     ·have := hfd.2 ⟨j, by omega, h⟩
      rw [hq0] at this;cases this
   ·dsimp only;omega
  ·have hp0 : L[k]!.point = U[i]! := by assumption
   (apply dJ (k + 1, true);focus (refine Le.ren [(0, 0)] rfl (by decide) ?_ ?_ <;> repeat' (first|exact trivial|refine And.intro ⟨_, rfl, ?_⟩ ?_|refine And.intro ⟨_, _, rfl, rfl, ?_⟩ ?_|exact Or.inr rfl|refine Or.inl ⟨?_, (by first|rfl|exact aY _ _|exact Pur.pf)⟩|rfl)))
   ·exact ⟨by dsimp only;omega, fun _ => ⟨k, by dsimp only;omega, .inl hp0⟩, fun _ => rfl⟩
   ·dsimp only;omega
  ·have hq0 : fd = true := by assumption
   obtain ⟨j, hj, h⟩ := hfd.1 hq0
   (apply dJ (k + 1, true);focus (refine Le.ren [(0, 0)] rfl (by decide) ?_ ?_ <;> repeat' (first|exact trivial|refine And.intro ⟨_, rfl, ?_⟩ ?_|refine And.intro ⟨_, _, rfl, rfl, ?_⟩ ?_|exact Or.inr rfl|refine Or.inl ⟨?_, (by first|rfl|exact aY _ _|exact Pur.pf)⟩|rfl)))
   ·exact ⟨by dsimp only;omega, fun _ => ⟨j, by dsimp only;omega, h⟩, fun _ => rfl⟩
   ·dsimp only;omega
  ·exfalso
   have hq0 : fd = false := by assumption
   have := hfd.2 ⟨j0, by omega, hj1⟩
   rw [hq0] at this;cases this
  ·(apply dJ (i + 1); focus (refine Le.ren [(0, 0)] rfl (by decide) ?_ ?_ <;> repeat' (first | exact trivial | refine And.intro ⟨_, rfl, ?_⟩ ?_ | refine And.intro ⟨_, _, rfl, rfl, ?_⟩ ?_ | exact Or.inr rfl | refine Or.inl ⟨?_, (by first | rfl | exact aY _ _ | exact Pur.pf)⟩ | rfl)))
   ·omega
   ·omega
 ·obtain rfl : i = U.length := by omega
  repeat' (first|(apply aL;first|(apply aE;rfl;rfl)|(apply aT;rfl;rfl;rfl;rfl)|(apply aC;rfl;rfl)|(apply bC;rfl;rfl;rfl)|(apply aF;kernel_rfl))|(apply aM;first|apply aH|apply aB|(apply aO;rfl;all_goals intro hc;have hq:=hc;(try simp only [cJ] at hq);try exfalso;omega)|apply bG|apply aR)|with_reducible apply aA|with_reducible apply bH|with_reducible apply bF)
  exact aP rfl ⟨rfl, rfl⟩
end Go.Proofs.YtckihjkcgfphmaaGreat
namespace Go.Proofs.YtckihjkcgfphmaaGreat
open Go.AL Go.ChangeShapes Go.WideShapes Go.ChangeAt Go.RowKit
theorem vX {w:World}{bad:Nat → Prop}{ι:Pl}{b:Nat}:∀ (bs:List UInt8) (o:Nat),¬ bad b → (∀ j,j < bs.length → w.cell? ⟨b,o + j,none⟩ = some (.int .u8 ((bs[j]!).toNat:Int))) → RdC w bad ι (aI cU bs) b o
 | [], _, _, _ => by simp only [aI, List.flatMap_nil, RdC]
 | x :: bs, o, hb, h => by
  have h0 := h 0 (by simp)
  have e : aI cU (x :: bs) = .v (.int .u8 (x.toNat : Int)) :: aI cU bs := rfl
  rw [e]
  simp only [RdC]
  refine ⟨⟨.int .u8 (x.toNat : Int), by simpa using h0, rfl, by simp only [Rd]⟩, vX bs (o + 1) hb fun j hj => ?_⟩
  have := h (j + 1) (by simpa using hj)
  rw [show o + 1 + j = o + (j + 1) from by omega]
  simpa using this
theorem Ah {P:Program}{k:FuncId}{bs:List UInt8}(h:PC P k [sl cU bs] (fun r => r = bv true)){W:World}{v:Value}(hv:Rd W (fun _ => False) (fun _ => none) (sl cU bs) v) :
  Calls P k #[v] W fun e W' => e = .returned (.bool true) ∧ Below W.heap.size W W' := by
 let C : Ctx := { N := 0, w0 := W, W0 := fun _ => False, X := fun _ => False, ι0 := fun _ => none, xlt := fun _ h => h.elim }
 have hbad : ∀ b, ¬ a8 C.X (fun _ => none) (cO []) b := by
  rintro b (h | ⟨id, cs, β, h1, h2⟩)
  ·exact h
  ·cases h2
 have g : HG C (fun _ => none) (fun j => 0 ≤ j) (cO []) W :=
  ⟨fun id cs h => by simp [cO] at h, fun id id' cs cs' b β β' h => by simp [cO] at h, Fr.refl _ _, fun _ _ h => h, fun _ _ => rfl⟩
 have hcar : Carry W (fun _ => False) (fun _ => none) W (a8 C.X (fun _ => none) (cO [])) (fun _ => none) := ⟨fun b o x _ h2 => ⟨hbad b, h2⟩, fun _ _ h => h, fun _ => Nat.le_refl _⟩
 have ha : RdV W (a8 C.X (fun _ => none) (cO [])) (fun _ => none) [sl cU bs] [v] := by
  simp only [RdV]
  exact ⟨v, [], rfl, Rd.carry hcar _ _ hv, rfl⟩
 refine (h C _ W [v] rfl rfl g ha).mono ?_
 rintro e W' ⟨v', r, H', ι', rfl, ⟨rfl, _⟩, h4, h5⟩
 simp only [Rd] at h4
 subst h4
 have f := h5.fr
 exact ⟨rfl, f.os, f.tape, f.output, f.size, fun b hb => f.block b hb (fun h => h)⟩
theorem MI:laidOutB Tryz.prog = true := by kernel_rfl
theorem Ke:Tryz.prog.cellsOf 5 = 1 := by kernel_rfl
theorem Fw {H:Type}{enc:TypeId × Value → H}{W:World}{base:Nat}{v0:Value}{d0:DataW H}{p:List MemPlace}(hval:Value.okWide Tryz.prog W .any base 22 v0) (h0:DataW.Trod enc Tryz.prog W 0 (fun _ => true) true 22 v0 d0 p) :
  ∃ bs : List UInt8, Rd W (fun _ => False) (fun _ => none) (sl cU bs) v0 := by
 obtain ⟨a0, len, cap, rfl⟩ := okWide_slice Tryz.underlying22 hval
 obtain ⟨fuel, hf⟩ := h0
 rcases open_ints Tryz.underlying22 Tryz.underlying5 Ke hf with ⟨hcs, hx⟩ | ⟨a, len', cap', zs, hcs, _, hl, hm, hz, hx, hcell, hwz⟩
 ·simp [Value.cells] at hcs
  obtain ⟨rfl, rfl, rfl⟩ := hcs
  refine ⟨[], ?_⟩
  simp only [Rd]
  exact ⟨none, 0, rfl, .inl rfl⟩
 ·simp [Value.cells] at hcs
  obtain ⟨rfl, rfl, rfl⟩ := hcs
  simp only [if_true] at hz
  refine ⟨(zs.take len).map fun n => UInt8.ofNat n.toNat, ?_⟩
  have hlen : ((zs.take len).map fun n => UInt8.ofNat n.toNat).length = len := by simp;omega
  simp only [Rd]
  refine ⟨some a, cap, by rw [hlen], ?_⟩
  by_cases h00 : len = 0
  ·exact .inl (by rw [hlen]; exact h00)
  ·obtain ⟨b, off, spot⟩ := a
   have hspot : spot = none := by simpa [Addr.add] using World.cell?_spot (hcell 0 (by omega))
   subst hspot
   refine .inr ⟨b, off, by rw [hlen]; exact hl, rfl, .inr ⟨fun h => h, vX _ _ (fun h => h) fun j hj => ?_⟩⟩
   rw [hlen] at hj
   have hcj := hcell j (by omega)
   rw [Addr.add_lit] at hcj
   rw [hcj]
   have e : zs.getD j 0 = zs[j]'(by omega) := by simp [List.getD, List.getElem?_eq_getElem (show j < zs.length by omega)]
   have hw := hwz (zs[j]'(by omega)) (List.getElem_mem _)
   have hr : 0 ≤ zs[j]'(by omega) ∧ zs[j]'(by omega) ≤ 255 := by simpa [Lit.wf, IntKind.min, IntKind.max, IntKind.signed, IntKind.bits] using hw
   rw [e, cV _ _ (by rw [hlen]; exact hj)]
   simp only [List.getElem_map, List.getElem_take]
   congr 2
   simp only [UInt8.toNat_ofNat']
   omega
end Go.Proofs.YtckihjkcgfphmaaGreat
