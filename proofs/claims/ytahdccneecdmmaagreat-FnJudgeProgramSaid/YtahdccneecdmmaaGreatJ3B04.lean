/-
 A part of the proofs over this program: rules and contracts of its functions (the contracts).
-/
import Derived.Test.YtahdccneecdmmaaGreatJ3B03
set_option linter.unusedVariables false
set_option linter.unusedSimpArgs false
set_option maxHeartbeats 8000000
set_option maxRecDepth 4000
attribute [local irreducible] Go.AL.RW Go.AL.AW Go.AL.Stop
namespace Go.Proofs.YtahdccneecdmmaaGreat
open Go.AL Go.RowKit
variable {N : Nat} {Q : Exit → AS → Prop} {all : Array Oper} {rest : List Oper} {tsl : List (Nat × AV)} {hsl : List (Nat × Option (List AV))} {nidl : Nat} {z0 : Lo} {md : Md} {d : Nat} {ty : TypeId} {pos : String} {af : Array Edge} {tys : Array TypeId}
class NumS (cs : List AV) (xs : outParam (List ByteArray)) : Prop where h : cs = flat D1 xs
instance NumS.nil : NumS [] []:=⟨rfl⟩
instance NumS.cons {n : ByteArray} {cs : List AV} {xs : List ByteArray} [h : NumS cs xs] : NumS (.v (.string n) :: cs) (n :: xs):=⟨by rw [h.h]; rfl⟩
theorem Ji {cs:List AV}{xs:List ByteArray}{m:Nat}(h:NumS cs xs) (hm:m = xs.length) (hs:xs.all (fun s => decide (s.size ≤ 600)) = true):∃ ys:List ByteArray,AV.imm m cs = sl D1 ys ∧ ys.length = m ∧ ∀ i:Nat,(ys[i]!).size ≤ 600:=by
 refine ⟨xs,by rw [h.h,hm],hm.symm,fun i => ?_⟩
 by_cases hi : i < xs.length
 ·rw [List.all_eq_true] at hs
  rw [bC _ _ hi]
  simpa using hs _ (List.getElem_mem hi)
 ·rw [getElem!_neg xs i hi]; decide
theorem F8:PC Tryz.prog 165 [] (fun r => ∃ ys:List ByteArray,r = sl D1 ys ∧ ys.length = 25 ∧ ∀ i:Nat,(ys[i]!).size ≤ 600):=by
 refine aC Tryz.func165 Tryz.ntmps165 ?_
 repeat' (first|(apply aF;(apply aJ (t := _);rfl;rfl;rfl;exact (rfl:_=some [_,_,_,_,_,_,_,_,_,_,_,_,_,_,_,_,_,_,_,_,_,_,_,_,_]);rfl;rfl))|refine aE ?_|fail)
 refine wO (l := [.imm 25 [_,_,_,_,_,_,_,_,_,_,_,_,_,_,_,_,_,_,_,_,_,_,_,_,_]]) ?_ rfl ?_
 ·rintro _ ⟨ys,rfl,_⟩; exact bB _ _
 ·exact Ji inferInstance rfl (by decide)
theorem vK {P:Program}{N:Nat}{Q:Exit → AS → Prop}{all:Array Oper}{rest:List Oper}{ts:List (Nat × AV)}{hs:List (Nat × Option (List AV))}{n:Nat}{z0:Lo}{ty:TypeId}{pos:String}{af:Array Edge}{d:Nat}{args:Array Operand}{tys:Array TypeId}
  {k : FuncId} {pv : List AV} {p0 : Prg × Nat → Prop} {i p : Nat} {bs : List UInt8} (h : MC P k (.optr 0 0 :: pv) [(0,some (fC bs p))] 1 p0 (fun x => b8 x.1) (fun x => [(0,some (fC bs x.2))])) [hc : CaT P k] (ha : evL (lk ts) args.toList = some (.optr i 0 :: pv)) (hpv : bR pv = true)
  (hH : aU hs i = some (fC bs p)) (hM : Nat.ble (n + 0) aX = true) (hN : Nat.blt d N = true) (kk : ∀ x,p0 x → RW P N all Q .txt rest ⟨(d,b8 x.1) :: ts,(i,some (fC bs x.2)) :: hs,n + 0,z0⟩) :
  RW P N all Q .txt (⟨some d,.call ⟨.value (.func k),args,tys⟩,ty,pos,af,none⟩ :: rest) ⟨ts,hs,n,z0⟩ :=
 Kv (σ := Prg × Nat) [i] 1 (fun x : Prg × Nat => [(i, some (fC bs x.2))]) h ha rfl ⟨⟨_, _, rfl, hH, RnL.purI inferInstance⟩, trivial⟩ rfl (RnL.cons (RnV.optr rfl) (RnL.pur hpv)) (by simpa using hM)
  (fun x _ => RnV.purI inferInstance) (fun x _ => by simp [sQ]) (fun x _ => ⟨⟨0,_,rfl,rfl,RnL.purI inferInstance⟩,trivial⟩) hN kk
theorem PS (bs:List UInt8) (p:Nat) (xs:List Int) (lo hi:Int) (h0:0 < xs.length) (h:xs.all (fun x => decide (lo ≤ x) && decide (x ≤ hi)) = true):lo ≤ jH bs p xs ∧ jH bs p xs ≤ hi:=by
 have h1 := fA bs p (xs.length : Int)
 rw [kK] at h
 have := h (bI bs p (xs.length : Int)).toNat (by omega)
 simp only [Bool.and_eq_true,decide_eq_true_eq] at this
 exact this
theorem Po (bs:List UInt8) (p:Nat) (hb:bs.length ≤ 2000) (hp:p ≤ 1000):MC Tryz.prog 94 [.optr 0 0] [(0,some (fC bs p))] 1 (fun x:Prg × Nat => aT x.1.body ≤ 620 ∧ x.1.types.length ≤ 620 ∧ x.2 ≤ 2000) (fun x => b8 x.1) (fun x => [(0,some (fC bs x.2))]):=by
 have h0 := fA bs p 25
 have hn := PS bs (p + 1 + 1) [5,4,7,3,8] 0 8 (by decide) (by decide)
 refine aV Tryz.func94 Tryz.ntmps94 ?_
 repeat' (first|(apply aF;first|(apply kN (k := 165);rfl;exact F8;(rfl);rfl;(rintro _ ⟨ys,rfl,hyl,hsz⟩ _);(have hpk := fA bs p (ys.length : Int)))|(apply kN (k := 166);rfl;exact vI _ (Nat.le_trans (hsz _) (by decide));(rfl);rfl;(rintro _ ⟨q,b,rfl,hqc,hqt⟩ _))|(apply yE (ts := [1,2,2,3,4,4]);rfl;rfl;rfl;rfl;rfl;(apply Ky <;> (first|assumption|omega));rfl;rfl)|(apply aJ (t := _);rfl;rfl;rfl;(exact (rfl:_=some [_,_,_,_,_,_]));rfl;rfl)|(first|(apply l5;rfl;rfl;(rfl);(apply oU <;> (first|assumption|omega));rfl;rfl)|(apply E1;rfl;rfl;rfl;rfl;infer_instance;rfl;(rfl);assumption;omega;(decide);(decide);rfl;rfl)))|refine aE ?_|(refine aK ?_ ?_ <;> intro hc hq <;> try (exfalso;omega))|(refine bS ?_ ?_ <;> intro hg hq <;> try (exfalso;omega))|refine bQ ?_|fail)
 ·have h9 := hsz (bI bs p (ys.length : Int)).toNat
  refine aD rfl ?_
  exact aR (q,p + 1 + 1) ⟨by dsimp only;omega,by dsimp only;omega,by dsimp only;omega⟩ rfl ⟨.inr rfl,trivial⟩
 ·have h9 := KX bs (d := 2) (by omega) (jH bs (p + 1 + 1) [5, 4, 7, 3, 8]) (p + 1 + 1 + 1)
  have h10 := Ad bs (d := 2) (by omega) (jH bs (p + 1 + 1) [5,4,7,3,8]) (p + 1 + 1 + 1)
  refine aD rfl ?_
  exact aR ((⟨[1,2,2,3,4,4],(dX bs 2 (jH bs (p + 1 + 1) [5,4,7,3,8]) (p + 1 + 1 + 1)).1⟩ : Prg),(dX bs 2 (jH bs (p + 1 + 1) [5,4,7,3,8]) (p + 1 + 1 + 1)).2) ⟨by dsimp only;omega,by show 6 ≤ 620;decide,by dsimp only;omega⟩ rfl ⟨.inr rfl,trivial⟩
 ·have h9 := hsz (bI bs p (ys.length : Int)).toNat
  refine aD rfl ?_
  exact aR (q,p + 1 + 1) ⟨by dsimp only;omega,by dsimp only;omega,by dsimp only;omega⟩ rfl ⟨.inr rfl,trivial⟩
theorem DQ {bs:List UInt8}{x0:Operand}(ha0:ev (lk tsl) x0 = some (sl cU bs)) (hmc:MC Tryz.prog 51 [sl cU bs] [] 0 (fun _:Unit => True) (fun _ => .optr 0 0) (fun _ => [(0,some (fC (bs.take 2000) 0))])) (hM:Nat.ble (nidl + 1) aX = true) (hN:Nat.blt d N = true){md':Md}[hmd:MdA md (fP [x0] ++ []) (List.map Sum.inr (List.map Prod.fst ([(nidl,some (fC (bs.take 2000) 0))]:List (Nat × Option (List AV)))) ++ [.inl d]) md'] (kk:RW Tryz.prog N all Q md' rest ⟨(d,.optr nidl 0) :: tsl,gR hsl [(nidl,some (fC (bs.take 2000) 0))],nidl + 1,z0⟩):RW Tryz.prog N all Q md (⟨some d,.call ⟨.value (.func 51),#[x0],tys⟩,ty,pos,af,none⟩ :: rest) ⟨tsl,hsl,nidl,z0⟩:=by
 exact aZ (l := [x0]) [] 1 [(nidl,some (fC (bs.take 2000) 0))] hmc (avs := [sl cU bs]) (by simp only [evL,ha0]) rfl hM hN (md' := md') (hmd := hmd) kk
theorem F9 (bs:List UInt8) (hb:bs.length ≤ 1048576):MC Tryz.prog 51 [sl cU bs] [] 0 (fun _:Unit => True) (fun _ => .optr 0 0) (fun _ => [(0,some (fC (bs.take 2000) 0))]) := Ph bs hb
theorem FP (ts:List Int) (bd:List AL.Stmt) (pts:List Pnt) (w:WG ts pts):PC Tryz.prog 187 [aG ts bd pts] (fun r => r = sl Bc (kW ts pts pts.length)):=by
 have hpl := w.pl
 have htl := w.tl
 refine aC Tryz.func187 Tryz.ntmps187 ?_
 repeat' (first|(apply aF;((apply fT (d := 3) (e := 3));(case hM|hN => rfl)))|refine aE ?_|fail)
 refine aH (σ := Nat × List Bnd × Nat) [0,9,10] [] (fun s => [(11,iv (s.1 : Int)),(3,.own 0 0 s.2.2 3)]) (fun s => [(0,some (flat Bc s.2.1))]) (fun s => s.1 ≤ pts.length ∧ s.2.1 = kW ts pts s.1 ∧ s.2.2 = s.2.1.length ∧ s.2.2 ≤ 2 * s.1) (fun s => pts.length - s.1) (0,[],0) ⟨by omega,rfl,rfl,Nat.le_refl _⟩ ?_
 rintro ⟨k,u,m⟩ ⟨hk,hu,hm,hmk⟩
 dsimp only at hk hu hm hmk
 try dsimp only
 by_cases hkn : k < pts.length
 ·have hy := w.y k hkn
  have hsu := vM ts pts k
  rw [← hu] at hsu
  unfold KU at hsu
  by_cases hln : bW pts[k]! = true
  ·have hop := fZ hln
   repeat' (first|(apply aF;first|(apply bX;rfl;rfl;rfl;rfl;rfl;(first|(rw [aI]; omega)|(rw [aI]; simp only [gE] <;> omega));(rfl);omega;omega;(exact uC (by (first|assumption|(simp only [gE] <;> omega))));rfl;rfl)|((apply aJ (t := _));(case hze|hsm|hl => rfl);(case hfl => (exact (rfl:_=some [_,_,_])));(case hM|hN => rfl))|(first|((with_reducible apply aA (k := 233));(case ha => rfl);(case h => (apply jW <;> (fail)));(case hp => (exact Pur.pf));(case hN => rfl))|((with_reducible apply aA (k := 234));(case ha => rfl);(case h => (apply qQ <;> (fail)));(case hp => (rfl));(case hN => rfl))))|refine aE ?_|(refine aK ?_ ?_ <;> intro hc hq <;> try (exfalso;omega))|refine bQ ?_|fail)
   all_goals try exact absurd (hln.symm.trans (by assumption : bW pts[k]! = false)) (by decide)
   ·(refine bE (k + 1, _, _) (Le.renA [(0, 5)]) ?_ ?_)
    ·exact ⟨by dsimp only;omega,by dsimp only;rw [hsu,if_pos hln,if_pos ⟨.inl hln,by assumption⟩]; simp,by dsimp only;simp;omega,by dsimp only;omega⟩
    ·dsimp only;omega
   ·(refine bE (k + 1, _, _) (Le.renA [(0, 3)]) ?_ ?_)
    ·exact ⟨by dsimp only;omega,by dsimp only;rw [hsu,if_pos hln,if_neg (fun h => by rw [(by assumption : eF ts[pts[k]!.y.toNat]! = false)] at h;cases h.2)]; simp,by dsimp only;simp;omega,by dsimp only;omega⟩
    ·dsimp only;omega
  ·rw [Bool.not_eq_true] at hln
   have hln2 : ¬ bW pts[k]! = true := by rw [hln]; decide
   repeat' (first|(apply aF;first|(apply bX;rfl;rfl;rfl;rfl;rfl;(rw [aI]; omega);(rfl);omega;omega;(exact uC (by (assumption)));rfl;rfl)|((apply aJ (t := _));(case hze|hsm|hl => rfl);(case hfl => (exact (rfl:_=some [_,_,_])));(case hM|hN => rfl))|(first|((with_reducible apply aA (k := 233));(case ha => rfl);(case h => (apply jW <;> (fail)));(case hp => (exact Pur.pf));(case hN => rfl))|((with_reducible apply aA (k := 234));(case ha => rfl);(case h => (apply qQ <;> (fail)));(case hp => (rfl));(case hN => rfl))))|refine aE ?_|(refine aK ?_ ?_ <;> intro hc hq <;> try (exfalso;omega))|(refine bS ?_ ?_ <;> intro hg hq <;> try (exfalso;omega))|refine bQ ?_|fail)
   all_goals try exact absurd (hln.symm.trans (by assumption : bW pts[k]! = true)) (by decide)
   ·(refine bE (k + 1, _, _) (Le.renA [(0, 3)]) ?_ ?_)
    ·exact ⟨by dsimp only;omega,by dsimp only;rw [hsu,if_neg hln2,if_pos ⟨.inr (by assumption),by assumption⟩]; simp,by dsimp only;simp;omega,by dsimp only;omega⟩
    ·dsimp only;omega
   ·(refine bE (k + 1, u, m) (Le.renA [(0, 0)]) ?_ ?_)
    ·exact ⟨by dsimp only;omega,by dsimp only;rw [hsu,if_neg hln2,if_neg (fun h => by rw [(by assumption : eF ts[pts[k]!.y.toNat]! = false)] at h;cases h.2)]; simp,hm,by dsimp only;omega⟩
    ·dsimp only;omega
   ·(refine bE (k + 1, u, m) (Le.renA [(0, 0)]) ?_ ?_)
    ·exact ⟨by dsimp only;omega,by dsimp only;rw [hsu,if_neg hln2,if_neg (fun h => h.1.elim hln2 (by assumption))]; simp,hm,by dsimp only;omega⟩
    ·dsimp only;omega
 ·repeat' (first | refine aE ?_ | (refine aK ?_ ?_ <;> intro hc hq <;> try (exfalso; omega))|fail)
  refine aS (Le.frzD (d := 2) (i := 0) rfl rfl) ?_
  refine aD rfl ⟨?_,(by (exact bB _ _))⟩
  rw [show pts.length = k by omega,← hu]
  simp only [aO,sl,hm]
theorem Ea (ts:List Int) (bd:List AL.Stmt) (pts:List Pnt) (A:List Nat) (w:WG ts pts) (t:WT ts pts) (hA:GoodG ts pts A):PC Tryz.prog 107 [aG ts bd pts] (fun r => r = .agg (flat cW A)):=by
 have hpl := w.pl
 have htl := w.tl
 have hbl := Ah ts pts pts.length
 have hbo := FP ts bd pts w
 have hbok : ∀ b,b ∈ kW ts pts pts.length → BOk ts.length pts.length b := fun b hb => qP w t hb
 have hlawT := fun A c b hb S => Ew w t A c b hb S
 have hlawF := fun A c S => LN w t A c S
 generalize hL : kW ts pts pts.length = L at hbl hbo hbok hlawT hlawF
 refine aC Tryz.func107 Tryz.ntmps107 ?_
 repeat' (first|refine aE ?_|fail)
 refine aH (σ := List Nat × Bool) [0,2,3] [0] (fun s => [(4,bv s.2)]) (fun s => [(1,some (flat cW s.1))]) (fun s => SRg ts pts s.1 ∧ (s.2 = false → RT ts pts s.1)) (fun s => 2 * eZ (s.1.map (fun x => 2 ^ pts.length - x)) + s.2.toNat) (List.replicate 6 0,true) ⟨SRg.rep ts pts,fun h => by cases h⟩ ?_
 rintro ⟨s,b⟩ ⟨hS,hC⟩
 dsimp only at hS hC
 try dsimp only
 have hsl := hS.l
 repeat' (first|(apply aF;((with_reducible apply aA (k := 187));(case ha => rfl);(case h => exact hbo);(case hp => (exact Pur.pf));(case hN => rfl)))|refine aE ?_|(refine aK ?_ ?_ <;> intro hc hq <;> try (exfalso;omega))|fail)
 ·refine aH (σ := Nat × (List Nat × Bool)) [0, 2, 3, 10, 11] [0] (fun k => [(12, iv (k.1 : Int)), (4, bv k.2.2)]) (fun k => [(1, some (flat cW k.2.1))]) (fun k => k.1 ≤ L.length ∧ k.2 = (L.take k.1).foldl Fv (s, false) ∧ SRg ts pts k.2.1) (fun k => L.length - k.1) (0, (s, false)) ⟨by omega, rfl, hS⟩ ?_
  rintro ⟨k,u,c⟩ ⟨hk,hf,hS2⟩
  dsimp only at hk hf hS2
  try dsimp only
  have hul := hS2.l
  have hsm : ∀ z : Nat,Sm u[z]! := fun z => ⟨Nat.lt_of_lt_of_le (hS2.b z) (Nat.pow_le_pow_right (by decide) (by omega))⟩
  by_cases hkn : k < L.length
  ·have hmb := aW _ k hkn
   have ok := hbok _ hmb
   have hft := dR Fv L (s,false) k hkn
   rw [← hf] at hft
   have hlaw := hlawT u c _ hmb hS2
   have hst : Fv (u,c) L[k]! = if B9 u L[k]! ≠ u[L[k]!.var.toNat]! then (u.set L[k]!.var.toNat (B9 u L[k]!),true) else (u,c) := rfl
   have hs1 : B9 u L[k]! = if L[k]!.src < 0 then u[L[k]!.var.toNat]! ||| 2 ^ L[k]!.loan.toNat else u[L[k]!.var.toNat]! ||| u[L[k]!.src.toNat]! := rfl
   have hv := ok.v
   rcases ok.k with ⟨h1,h2,h3⟩ | ⟨h1,h2,h3,h4⟩
   ·rw [if_pos (by omega : L[k]!.src < 0)] at hs1
    rw [hs1] at hst
    repeat' (first|(apply aF;first|(apply bF;rfl;rfl;rfl;rfl;rfl;(case hl => (simp;done));exact (rfl:_=[_,_,_]))|(apply g6;rfl;rfl;infer_instance;omega;rfl;(case' kk => intro hsm)))|refine aE ?_|(refine aK ?_ ?_ <;> intro hc hq <;> try (exfalso;omega))|fail)
    ·rw [if_pos (fun h => (by assumption : ¬ (_ : Int) = _) (by rw [h]))] at hst
     (refine bE (k + 1,(_,true)) (Le.renA [(0,0),(1,1)]) ?_ ?_)
     ·exact ⟨by dsimp only;omega,(hft.trans hst).symm,by have h9 := hlaw.1;rw [hst] at h9;exact h9⟩
     ·dsimp only;omega
    ·rw [if_neg (fun h => h (by have := (by assumption : ((_ : Nat) : Int) = ((_ : Nat) : Int)); omega))] at hst
     (refine bE (k + 1,(u,c)) (Le.renA [(0,0),(1,1)]) ?_ ?_)
     ·exact ⟨by dsimp only;omega,(hft.trans hst).symm,hS2⟩
     ·dsimp only;omega
   ·rw [if_neg (by omega : ¬ L[k]!.src < 0)] at hs1
    rw [hs1] at hst
    repeat' (first|(apply aF;(apply bF;rfl;rfl;rfl;rfl;rfl;(case hl => (simp;done));exact (rfl:_=[_,_,_])))|refine aE ?_|(refine aK ?_ ?_ <;> intro hc hq <;> try (exfalso;omega))|fail)
    ·rw [if_pos (fun h => (by assumption : ¬ (_ : Int) = _) (by rw [h]))] at hst
     (refine bE (k + 1,(_,true)) (Le.renA [(0,0),(1,1)]) ?_ ?_)
     ·exact ⟨by dsimp only;omega,(hft.trans hst).symm,by have h9 := hlaw.1;rw [hst] at h9;exact h9⟩
     ·dsimp only;omega
    ·rw [if_neg (fun h => h (by have := (by assumption : ((_ : Nat) : Int) = ((_ : Nat) : Int)); omega))] at hst
     (refine bE (k + 1,(u,c)) (Le.renA [(0,0),(1,1)]) ?_ ?_)
     ·exact ⟨by dsimp only;omega,(hft.trans hst).symm,hS2⟩
     ·dsimp only;omega
  ·repeat' (first | refine aE ?_ | (refine aK ?_ ?_ <;> intro hc hq <;> try (exfalso; omega))|fail)
   have hfu : L.foldl Fv (s,false) = (u,c) := by rw [hf,List.take_of_length_le (by omega)]
   have hlaw := hlawF s false hS
   rw [hfu] at hlaw
   (refine bE (u,c) (Le.renA [(0,0),(1,1)]) ?_ ?_)
   ·refine ⟨hS2, fun hc0 => ?_⟩
    dsimp only at hc0
    rcases hlaw.2 with ⟨e1,e2⟩ | ⟨e1,_⟩
    ·cases e1;exact e2
    ·dsimp only at e1;rw [e1] at hc0;cases hc0
   ·dsimp only
    rcases hlaw.2 with ⟨e1,e2⟩ | ⟨e1,e2⟩
    ·cases e1;rw [(by assumption : b = true)]; simp
    ·dsimp only at e1 e2;rw [e1,(by assumption : b = true)]; simp;omega
 ·have e := GD (Jw w t hS (hC (by assumption))) hA
  subst e
  refine aD (iB (z := 6) rfl rfl hsl (by decide)) ⟨rfl,(by (exact bB _ _))⟩
theorem M3 (A:List Nat) (i:Int) (hA:A.length = 6):PC Tryz.prog 109 [iv i,.iptr (flat cW A)] (fun r => r = .agg (flat cW A)):=by
 refine aC Tryz.func109 Tryz.ntmps109 ?_
 repeat' (first|refine aE ?_|fail)
 have e6 : A.take 6 = A := List.take_of_length_le (by omega)
 refine aD (iB (z := 6) rfl rfl (by rw [e6]; exact hA) (by decide)) ⟨by rw [e6]; rfl,(by (exact bB _ _))⟩
theorem HN (A:List Nat) (ts:List Int) (bd:List AL.Stmt) (pts:List Pnt) (Aa Am Al Af Ap:List Nat) (n:Nat) (w:WG ts pts) (ga:oL ts pts Aa) (gm:nJ ts pts Am) (gl:qC ts pts Al) (hA6:A.length = 6) (hlf:Af.length = pts.length * 6) (hrow:∀ i,i < pts.length → cH Af i = A) (hbit:∀ q:Nat,∀ v,A[q]!.testBit v = true → v < pts.length) (gp:oK ts pts Ap) (hn:n = pts.length) :
  PC Tryz.prog 105 [aG ts bd pts,.imm n (flat cN Al),.clos (.func 109) [] [.iptr (flat cW A)]] (fun r => r = sl dW (iX ts pts Aa Am Al Af Ap pts.length)) := by
 subst hn
 have hpl := w.pl
 have htl := w.tl
 have hla := ga.1
 have hlm := gm.1
 have hll := gl.1
 have hlp := gp.1
 refine aC Tryz.func105 Tryz.ntmps105 ?_
 repeat' (first|(apply aF;first|(apply fT (d := 10) (e := 3);rfl;rfl)|(first|(apply aA (k := 102);rfl;(apply tI <;> (assumption));exact Pur.pf;rfl)|(apply aA (k := 121);rfl;(apply vZ <;> (assumption));exact Pur.pf;rfl)|(apply aA (k := 184);rfl;(apply wY <;> (assumption));exact Pur.pf;rfl)))|refine aE ?_|fail)
 refine aH (σ := Nat × List Iss × Nat) [0,1,2,7,8,9,27,28] [] (fun k => [(29,iv (k.1 : Int)),(10,.own 0 0 k.2.2 3)]) (fun k => [(0,some (flat dW k.2.1))]) (fun k => k.1 ≤ pts.length ∧ k.2.1 = iX ts pts Aa Am Al Af Ap k.1 ∧ k.2.2 = k.2.1.length ∧ k.2.2 ≤ k.1 * 124) (fun k => pts.length - k.1) (0,[],0) ⟨by omega,rfl,rfl,Nat.le_refl _⟩ ?_
 rintro ⟨i,u,m⟩ ⟨hk,hu,hm,hmk⟩
 dsimp only at hk hu hm hmk ⊢
 by_cases hin : i < pts.length
 ·have hst := w.set i hin
  have hsU : Sm (wS ts pts[i]! [1,2,3]) := bY (by omega)
  have bl : ∀ {A : Nat} {n : Nat}, n ≤ 62 → (∀ v, A.testBit v = true → v < n) → A < 2 ^ n := fun _ hv => Nat.lt_pow_two_of_testBit _ fun v h => by
   cases hq : Nat.testBit _ v with
   | false => rfl
   | true => have := hv v hq;omega
  have hAa : Sm Aa[i]! := ⟨bl (n := 62) (by omega) fun v hv => by have := ((ga.2 i hin v).1 hv).1;omega⟩
  have hAm : Sm Am[i]! := ⟨bl (n := 62) (by omega) fun v hv => by have := sX w ((gm.2 i hin v).1 hv);dsimp only at this;omega⟩
  have hAl : Al[i]! < 2 ^ ts.length := bl (by omega) fun v hv => by obtain ⟨k,_,h⟩ := (gl.2 i hin v).1 hv;exact qM w h
  have hAl2 : Sm Al[i]! := ⟨Nat.lt_of_lt_of_le hAl (Nat.pow_le_pow_right (by decide) (by omega))⟩
  have hAp : Ap[i]! < 2 ^ pts.length := bl (by omega) fun v hv => (mD ((gp.2 i hin v).1 hv)).1
  have hAp2 : Sm Ap[i]! := ⟨Nat.lt_of_lt_of_le hAp (Nat.pow_le_pow_right (by decide) (by omega))⟩
  have hrl := eQ hlf hin
  have hrs : ∀ z : Nat, Sm (cH Af i)[z]! := by
   intro z
   rw [hrow i hin]
   exact ⟨bl (n := 62) (by omega) fun v hv => by have := hbit z v hv;omega⟩
  have hkp : k8 ts pts[(i : Int).toNat]! Al[i]! (cH Af (i : Int).toNat) < 2 ^ pts.length := by
   refine bl (by omega) fun v hv => ?_
   unfold k8 at hv
   rw [dI] at hv
   rcases hv with hv | ⟨z,hz,hv⟩
   ·simp at hv
   ·obtain ⟨q, h1, h2, rfl⟩ := bU.1 hz
    rw [b9,Bool.and_eq_true] at h2
    have h3 := cK hAl h2.1
    have h4 : q < 6 := by omega
    have h5 : (cH Af i)[q]!.testBit v = true := hv
    rw [hrow i hin] at h5
    exact hbit q v h5
  have hkp2 : Sm (k8 ts pts[(i : Int).toNat]! Al[i]! (cH Af (i : Int).toNat)) := ⟨Nat.lt_of_lt_of_le hkp (Nat.pow_le_pow_right (by decide) (by omega))⟩
  have hlo : k8 ts pts[(i : Int).toNat]! Al[i]! (cH Af (i : Int).toNat) &&& Ap[i]! < 2 ^ pts.length := Nat.and_lt_two_pow _ hAp
  have hcf := rP w (Am := Am) (Al := Al) (Af := Af) (i := i) hAp
  have hcf2 : Sm (tB ts pts Am Al Af Ap i) := ⟨Nat.lt_of_lt_of_le hcf (Nat.pow_le_pow_right (by decide) (by omega))⟩
  have hcf3 : Sm (Fu pts (k8 ts pts[(i : Int).toNat]! Al[i]! (cH Af (i : Int).toNat) &&& Ap[i]!) (fS ts pts[(i : Int).toNat]! (Am[i]!.testBit (aM pts[(i : Int).toNat]!).toNat)) 0) := hcf2
  have hb1 := cJ (iW (wS ts pts[i]! [1,2,3]) Aa[i]!)
  have hb2 := cJ (tB ts pts Am Al Af Ap i)
  repeat' (first|(apply aF;(first|(apply aA (k := 120);rfl;(apply gD <;> (infer_instance));(rfl);rfl)|(apply aA (k := 158);rfl;(apply g0 <;> (assumption));exact Pur.pf;rfl)))|refine aE ?_|(refine aK ?_ ?_ <;> intro hc hq <;> try (exfalso;omega))|refine bQ ?_|fail)
  have hb1b : ∀ j,j < (a8 (iW (wS ts pts[i]! [1,2,3]) Aa[i]!)).length → 0 ≤ (a8 (iW (wS ts pts[i]! [1,2,3]) Aa[i]!))[j]! := fun j h => (gY (inferInstance : Sm (iW (wS ts pts[i]! [1,2,3]) Aa[i]!)).pf h).1
  refine aH (σ := Nat × List Iss × Nat) [0,1,2,7,8,9,11,27,28,29,42,43] [] (fun j => [(44,iv (j.1 : Int)),(10,.own 0 0 j.2.2 3)]) (fun j => [(0,some (flat dW j.2.1))]) (fun j => j.1 ≤ (a8 (iW (wS ts pts[i]! [1,2,3]) Aa[i]!)).length ∧ j.2.1 = u ++ oX i ((a8 (iW (wS ts pts[i]! [1,2,3]) Aa[i]!)).take j.1) ∧ j.2.2 = j.2.1.length ∧ j.2.2 ≤ i * 124 + j.1) (fun j => (a8 (iW (wS ts pts[i]! [1,2,3]) Aa[i]!)).length - j.1) (0,u,m) ⟨by omega,by simp [oX],hm,by omega⟩ ?_
  rintro ⟨j,u2,m2⟩ ⟨hj,hu2,hm2,hmk2⟩
  dsimp only at hj hu2 hm2 hmk2 ⊢
  by_cases hjn : j < (a8 (iW (wS ts pts[i]! [1,2,3]) Aa[i]!)).length
  ·repeat' (first | (apply aF; (apply aJ (t := _);rfl;rfl;rfl;(exact (rfl:_=some [_, _, _]));rfl;rfl)) | refine aE ?_ | (refine aK ?_ ?_ <;> intro hc hq <;> try (exfalso; omega))|fail)
   (refine bE (j + 1,_,_) (Le.renA [(0,3)]) ?_ ?_)
   ·dsimp only
    refine ⟨by omega,?_,by simp;omega,by omega⟩
    rw [hu2]; unfold oX;rw [c6 _ _ _ hjn,List.append_assoc]
   ·dsimp only;omega
  ·have hu3 : u2 = u ++ oX i (a8 (iW (wS ts pts[i]! [1, 2, 3]) Aa[i]!)) := by rw [hu2, List.take_of_length_le (by omega)]
   have hcl := M3 A (i : Int) hA6
   rw [show (fun r : AV => r = .agg (flat cW A)) = (fun r : AV => r = .agg (flat cW (cH Af (i : Int).toNat))) from by rw [show cH Af (i : Int).toNat = A from hrow i hin]] at hcl
   repeat' (first|(apply aF;first|(first|(apply aA (k := 76);rfl;(apply lT <;> (assumption));(rfl);rfl)|(apply aA (k := 185);rfl;(apply rY <;> (first|assumption|omega));exact Pur.pf;rfl)|(apply aA (k := 186);rfl;(apply Dv <;> (first|assumption|omega));exact Pur.pf;rfl))|(apply gW;rfl;rfl;infer_instance;rfl;(apply hcl);exact Pur.pf;rfl))|refine aE ?_|(refine aK ?_ ?_ <;> intro hc hq <;> try (exfalso;omega))|refine bQ ?_|fail)
   generalize hL : a8 (Fu pts (k8 ts pts[(i : Int).toNat]! Al[i]! (cH Af (i : Int).toNat) &&& Ap[i]!) (fS ts pts[(i : Int).toNat]! (Am[i]!.testBit (aM pts[(i : Int).toNat]!).toNat)) 0) = L2
   have hL2 : a8 (tB ts pts Am Al Af Ap i) = L2 := hL
   have hbd : ∀ j,j < L2.length → 0 ≤ L2[j]! ∧ L2[j]! < pts.length := fun j h => by rw [← hL2] at h ⊢; exact gY hcf h
   rw [hL2] at hb2
   refine aH (σ := Nat × List Iss × Nat) [0,1,2,7,8,9,11,27,28,29,77,78] [] (fun l => [(79,iv (l.1 : Int)),(10,.own 0 0 l.2.2 3)]) (fun l => [(0,some (flat dW l.2.1))]) (fun l => l.1 ≤ L2.length ∧ l.2.1 = u2 ++ o8 pts i (L2.take l.1) ∧ l.2.2 = l.2.1.length ∧ l.2.2 ≤ i * 124 + 62 + l.1) (fun l => L2.length - l.1) (0,u2,m2) ⟨by omega,by simp [o8],hm2,Nat.le_trans hmk2 (by omega)⟩ ?_
   rintro ⟨l,u4,m4⟩ ⟨hl,hu4,hm4,hmk4⟩
   dsimp only at hl hu4 hm4 hmk4 ⊢
   by_cases hln : l < L2.length
   ·have hbl := hbd l hln
    repeat' (first|(apply aF;(apply aJ (t := _);rfl;rfl;rfl;(exact (rfl:_=some [_,_,_]));rfl;rfl))|refine aE ?_|(refine aK ?_ ?_ <;> intro hc hq <;> try (exfalso;omega))|fail)
    ·(refine bE (l + 1, _, _) (Le.renA [(0, 3)]) ?_ ?_)
     ·dsimp only
      refine ⟨by omega,?_,by simp;omega,by omega⟩
      rw [hu4]; unfold o8;rw [c6 _ _ _ hln,List.append_assoc,if_pos hq]
     ·dsimp only;omega
    ·(refine bE (l + 1, _, _) (Le.renA [(0, 3)]) ?_ ?_)
     ·dsimp only
      refine ⟨by omega,?_,by simp;omega,by omega⟩
      rw [hu4]; unfold o8;rw [c6 _ _ _ hln,List.append_assoc,if_neg hq]
     ·dsimp only;omega
   ·repeat' (first | refine aE ?_ | (refine aK ?_ ?_ <;> intro hc hq <;> try (exfalso; omega))|fail)
    (refine bE (i + 1,u4,m4) (Le.renA [(0,0)]) ?_ ?_)
    ·dsimp only
     refine ⟨by omega,?_,hm4,by omega⟩
     rw [jJ,hu4,List.take_of_length_le (by omega),hu3,← hL2,hu,List.append_assoc]; rfl
    ·dsimp only;omega
 ·repeat' (first | refine aE ?_ | (refine aK ?_ ?_ <;> intro hc hq <;> try (exfalso; omega))|fail)
  (refine aS (Le.frzD (d := 6) (i := 0) rfl rfl) ?_; refine aD rfl ?_)
  refine ⟨?_,(by (exact bB _ _))⟩
  simp only [aO,sl]
  rw [hm,hu,show i = pts.length by omega]
theorem GI (p:Prg) (f:Flows p.types (aB p)) (A:List Nat) (hA:GoodG p.types (aB p) A) (hv:bD p = true) (hl:p.types.length ≤ 1000000) (hs:aT p.body ≤ 1000000):PC Tryz.prog 41 [b8 p] (fun r => r = sl dW (zO p f A)):=by
 have w := WG.of_valid hv
 have t := WT.of_valid hv
 have hg := jL p hl hs
 rw [if_pos hv] at hg
 have hr := Ea p.types p.body (aB p) A w t hA
 have hA6 := hA.1
 have hlv := sY p.types p.body (aB p) f.An f.Al w f.gn f.gl
 have hbit : ∀ q : Nat, ∀ v, A[q]!.testBit v = true → v < (aB p).length := fun q v h => by
  by_cases hq : q < 6
  ·exact (NJ w t ((hA.2 q hq v).1 h)).2
  ·rw [getElem!_neg _ q (by omega)] at h;simp at h
 have hck := HN A p.types p.body (aB p) f.Aa f.Am f.Al (oH (aB p).length A) f.Ap (aB p).length w f.ga f.gm f.gl hA6 (qS A hA6 _) (pE A hA6 _) hbit f.gp rfl
 refine aC Tryz.func41 Tryz.ntmps41 ?_
 repeat' (first|(apply aF;first|((apply gA 5);(case hx|hH|hc|hN => rfl))|(apply aA (k := 72);rfl;exact hg;exact Pur.pf;rfl)|(apply aA (k := 107);rfl;exact hr;exact Pur.pf;rfl)|(apply aA (k := 108);rfl;exact hlv;exact Pur.pf;rfl)|(apply aA (k := 105);rfl;exact hck;exact Pur.pf;rfl))|refine aE ?_|fail)
 exact aD rfl ⟨rfl,(by (exact bB _ _))⟩
theorem Gc (p:Prg) (hs:aT p.body ≤ 1000000) (w:WG p.types (aB p)):PC Tryz.prog 226 [b8 p] (fun r => r = sl Bc (kW p.types (aB p) (aB p).length)):=by
 have hpl := w.pl
 have htl := w.tl
 have hp := dP p hs
 refine aC Tryz.func226 Tryz.ntmps226 ?_
 repeat' (first|(apply aF;(apply aA (k := 132);rfl;exact hp;exact Pur.pf;rfl))|refine aE ?_|fail)
 refine aH (σ := Nat × List Bnd × Nat) [1,4] [0] (fun s => [(5,iv (s.1 : Int)),(3,.own 1 0 s.2.2 3)]) (fun s => [(1,some (flat Bc s.2.1))]) (fun s => s.1 ≤ (aB p).length ∧ s.2.1 = kW p.types (aB p) s.1 ∧ s.2.2 = s.2.1.length ∧ s.2.2 ≤ 2 * s.1) (fun s => (aB p).length - s.1) (0,[],0) ⟨by omega,rfl,rfl,Nat.le_refl _⟩ ?_
 rintro ⟨k,u,m⟩ ⟨hk,hu,hm,hmk⟩
 dsimp only at hk hu hm hmk
 try dsimp only
 by_cases hkn : k < (aB p).length
 ·have hy := w.y k hkn
  have hsu := vM p.types (aB p) k
  rw [← hu] at hsu
  unfold KU at hsu
  by_cases h4 : (aB p)[k]!.op = 4 ∨ (aB p)[k]!.op = 5
  ·have hln : bW (aB p)[k]! = true := by unfold bW; rcases h4 with h | h <;> rw [h] <;> rfl
   repeat' (first|(apply aF;first|(apply bX;rfl;rfl;rfl;rfl;rfl;(first|(rw [aI]; omega)|(rw [aI]; simp only [gE] <;> omega));(rfl);omega;omega;(exact uC (by (first|assumption|(simp only [gE] <;> omega))));rfl;rfl)|(apply aJ (t := _);rfl;rfl;rfl;(exact (rfl:_=some [_,_,_]));rfl;rfl)|(apply aA (k := 260);rfl;(apply uT);(rfl);rfl))|refine aE ?_|(refine aK ?_ ?_ <;> intro hc hq <;> try (exfalso;omega))|(refine bS ?_ ?_ <;> intro hg hq <;> try (exfalso;omega))|fail)
   ·(refine bE (k + 1, _, _) (Le.renA [(0, 0), (1, 6)]) ?_ ?_)
    ·exact ⟨by dsimp only;omega,by dsimp only;rw [hsu,if_pos hln,if_pos ⟨.inl hln,by assumption⟩]; simp,by dsimp only;simp;omega,by dsimp only;omega⟩
    ·dsimp only;omega
   ·(refine bE (k + 1, _, _) (Le.renA [(0, 0), (1, 4)]) ?_ ?_)
    ·exact ⟨by dsimp only;omega,by dsimp only;rw [hsu,if_pos hln,if_neg (fun h => by rw [(by assumption : eF p.types[(aB p)[k]!.y.toNat]! = false)] at h;cases h.2)]; simp,by dsimp only;simp;omega,by dsimp only;omega⟩
    ·dsimp only;omega
   ·(refine bE (k + 1, _, _) (Le.renA [(0, 0), (1, 6)]) ?_ ?_)
    ·exact ⟨by dsimp only;omega,by dsimp only;rw [hsu,if_pos hln,if_pos ⟨.inl hln,by assumption⟩]; simp,by dsimp only;simp;omega,by dsimp only;omega⟩
    ·dsimp only;omega
   ·(refine bE (k + 1, _, _) (Le.renA [(0, 0), (1, 4)]) ?_ ?_)
    ·exact ⟨by dsimp only;omega,by dsimp only;rw [hsu,if_pos hln,if_neg (fun h => by rw [(by assumption : eF p.types[(aB p)[k]!.y.toNat]! = false)] at h;cases h.2)]; simp,by dsimp only;simp;omega,by dsimp only;omega⟩
    ·dsimp only;omega
  ·have hln2 : ¬ bW (aB p)[k]! = true := fun h => h4 (fZ h)
   repeat' (first|(apply aF;first|(apply bX;rfl;rfl;rfl;rfl;rfl;(rw [aI]; omega);(rfl);omega;omega;(exact uC (by (assumption)));rfl;rfl)|(apply aJ (t := _);rfl;rfl;rfl;(exact (rfl:_=some [_,_,_]));rfl;rfl)|(apply aA (k := 260);rfl;(apply uT);(rfl);rfl))|refine aE ?_|(refine aK ?_ ?_ <;> intro hc hq <;> try (exfalso;omega))|(refine bS ?_ ?_ <;> intro hg hq <;> try (exfalso;omega))|fail)
   ·(refine bE (k + 1, _, _) (Le.renA [(0, 0), (1, 4)]) ?_ ?_)
    ·exact ⟨by dsimp only;omega,by dsimp only;rw [hsu,if_neg hln2,if_pos ⟨.inr (by assumption),by assumption⟩]; simp,by dsimp only;simp;omega,by dsimp only;omega⟩
    ·dsimp only;omega
   ·(refine bE (k + 1, u, m) (Le.renA [(0, 0), (1, 1)]) ?_ ?_)
    ·exact ⟨by dsimp only;omega,by dsimp only;rw [hsu,if_neg hln2,if_neg (fun h => by rw [(by assumption : eF p.types[(aB p)[k]!.y.toNat]! = false)] at h;cases h.2)]; simp,hm,by dsimp only;omega⟩
    ·dsimp only;omega
   ·(refine bE (k + 1, u, m) (Le.renA [(0, 0), (1, 1)]) ?_ ?_)
    ·exact ⟨by dsimp only;omega,by dsimp only;rw [hsu,if_neg hln2,if_neg (fun h => h.1.elim hln2 (by assumption))]; simp,hm,by dsimp only;omega⟩
    ·dsimp only;omega
 ·repeat' (first | refine aE ?_ | (refine aK ?_ ?_ <;> intro hc hq <;> try (exfalso; omega))|fail)
  refine aS (Le.frzD (d := 2) (i := 1) rfl rfl) ?_
  refine aD rfl ⟨?_,(by (exact bB _ _))⟩
  rw [show (aB p).length = k by omega,← hu]
  simp only [aO,sl,hm]
theorem C1 {R:List (List Bool)}{k j m m2:Nat}{x0 x1:Operand}(ha0:ev (lk tsl) x0 = some (.own (k + aX) 0 m 1)) (ha1:ev (lk tsl) x1 = some (.own (j + aX) 0 m2 1))
  (hF : FamR R R hsl hsl) (hk : k < R.length) (hj : j < R.length) (hkj : k ≠ j) (hm : m = R[k]!.length) (hm2 : m2 = R[j]!.length) (hab : R[j]!.length ≤ R[k]!.length) (hl : R[k]!.length ≤ 1000000) (hM : Nat.ble (nidl + 0) aX = true) (hN : Nat.blt d N = true)
  {md' : Md} [hmd : MdA md (fP [x0,x1] ++ [.inr (k + aX),.inr (j + aX)]) [.inr (k + aX),.inr (j + aX),.inl d] md']
  (kk : RW Tryz.prog N all Q md' rest ⟨(d,.tup []) :: tsl,(j + aX,some (flat cB R[j]!)) :: (k + aX,some (flat cB (gO R[k]! R[j]!))) :: hsl,nidl + 0,z0⟩) : RW Tryz.prog N all Q md (⟨some d,.call ⟨.value (.func 225),#[x0,x1],tys⟩,ty,pos,af,none⟩ :: rest) ⟨tsl,hsl,nidl,z0⟩ :=
 yH (a := R[k]!) (b := R[j]!) (i0 := k + aX) (i1 := j + aX) ha0 ha1 (hF.get hk) (hF.get hj) (QH hkj) (Cg R[k]! R[j]! m m2 hm hm2 hab hl) hM hN (md' := md') (hmd := hmd) kk
theorem Dn {P:Program}{N:Nat}{Q:Exit → AS → Prop}{all:Array Oper}{rest:List Oper}{ts:List (Nat × AV)}{hs:List (Nat × Option (List AV))}{n:Nat}{z0:Lo}{md:Md}{ty:TypeId}{pos:String}{af:Array Edge}{t:TypeId}{x y:Operand}{k v:Nat}{b:Bool}{R:List (List Bool)}[hz:SzT P t 1] (hx:ev (lk ts) x = some (.optr (k + aX) (0 + v * 1))) (hy:ev (lk ts) y = some (.v (.bool b)))
  (hF : FamR R R hs hs) (hk : k < R.length) (hv : v < R[k]!.length) {md' : Md} [hmd : MdA md (rO x ++ (rO y ++ [.inr (k + aX)])) [.inr (k + aX)] md']
  (kk : RW P N all Q md' rest ⟨ts,(k + aX,some (flat cB (R[k]!.set v b))) :: hs,n,z0⟩) : RW P N all Q md (⟨none,.store t x y,ty,pos,af,none⟩ :: rest) ⟨ts,hs,n,z0⟩ := by
 refine bF (md' := md') (hmd := hmd) (cs := flat cB R[k]!) (new := [.v (.bool b)]) (cs' := flat cB (R[k]!.set v b)) hx hy rfl rfl (hF.get hk) ?_ ?_ kk
 ·rw [aI cB (e := 1),List.length_singleton]; omega
 ·exact iR hv rfl
theorem Dg (p:Prg) (A:List Nat) (hs:aT p.body ≤ 1000000) (w:WG p.types (aB p)) (t:WT p.types (aB p)) (hA:GoodG p.types (aB p) A):PC Tryz.prog 172 [b8 p] (fun r => r = sl gQ (B6 p.types.length (aB p).length A)):=by
 have hpl := w.pl
 have hp0 := w.p0
 have htl := w.tl
 have hpt := dP p hs
 have hbo := Gc p hs w
 have hbl := Ah p.types (aB p) (aB p).length
 have hbok : ∀ b,b ∈ kW p.types (aB p) (aB p).length → BOk p.types.length (aB p).length b := fun b hb => qP w t hb
 have hre := Dd w t _ (SRr.rep p.types (aB p)) hA
 have hs1 : ∀ k R,SRr p.types (aB p) R → SRr p.types (aB p) (((kW p.types (aB p) (aB p).length).take k).foldl uW R) := fun k R S => (r7 w t _ (fun b hb => List.mem_of_mem_take hb) R S).1
 have hs2 := fun k => (rU w t _ (SRr.rep p.types (aB p)) k).1
 generalize hL : kW p.types (aB p) (aB p).length = L at hbo hbl hbok hre hs1 hs2
 refine aC Tryz.func172 Tryz.ntmps172 ?_
 repeat' (first|(apply aF;first|(apply aA (k := 132);rfl;exact hpt;exact Pur.pf;rfl)|(apply aA (k := 226);rfl;exact hbo;exact Pur.pf;rfl))|refine aE ?_|fail)
 refine dM (σ := Nat) (fun k => List.replicate k (List.replicate (aB p).length false)) [1,3,4] [0] (fun k => [(6,iv (k : Int)),(5,.own 1 0 k 1)]) (fun k => [(1,some (flat (Ak 0 (aB p).length) (List.range k)))]) (fun k => k ≤ p.types.length) (fun k => p.types.length - k) (0) (Nat.zero_le _) ?_
 intro k hk
 try dsimp only
 by_cases hkn : k < p.types.length
 ·repeat' (first | (apply aF; (apply bX;rfl;rfl;rfl;rfl;rfl;(case hl => (simp [aI]; done));(rfl);omega;omega;(rfl);rfl;rfl)) | refine aE ?_ | (refine aK ?_ ?_ <;> intro hc hq <;> try (exfalso; omega))|fail)
  (apply bE (k + 1);focus (refine Le.renF1 [(0,0),(1,4)] 2 (R := ?qA1) (r := ?qB1) (hF := ?qF1) (hz := ?qz1) (hm := ?qm1) (hn := ?qn1) (hlb := ?qlb1) (hb := ?qb1) (hr := ?qr1) (hR := ?qR1) (h1 := ?q11) (h2 := ?q21);(case qF1 => (repeat' (first|exact FamR.here|(apply FamR.cons;focus rfl))));(case qz1 => (rfl));(case qm1 => rfl);(case qn1 => decide);(case qlb1 => decide);(case qb1 => decide);(case qr1 => rfl);(case qR1 => (exact List.replicate_succ'));all_goals (repeat' (first|exact trivial|refine And.intro ⟨_,rfl,?_⟩ ?_|refine And.intro ⟨_,_,rfl,rfl,?_⟩ ?_|exact RnL.purI inferInstance|exact RnV.purI inferInstance|exact RnV.own rfl|exact RnV.optr rfl|exact AE (by decide) (by simp)))))
  ·show k + 1 ≤ p.types.length;omega
  ·show p.types.length - (k + 1) < p.types.length - k;omega
 ·have hkN : k = p.types.length := by omega
  subst hkN
  repeat' (first|(apply aF;(with_reducible apply aY (d := 7)))|refine aE ?_|(refine aK ?_ ?_ <;> intro hc hq <;> try (exfalso;omega))|fail)
  refine bZ (c8 ?_ (Le.frzD (d := 5) (i := 1) rfl rfl))
  repeat' (first|refine aE ?_|fail)
  refine dM (σ := Nat × List (List Bool)) (fun s => s.2) [1,4,5] [0] (fun s => [(7,iv (s.1 : Int))]) (fun s => []) (fun s => s.1 ≤ p.types.length + 1 ∧ s.2 = HI L (List.replicate p.types.length (List.replicate (aB p).length false)) s.1) (fun s => p.types.length + 1 - s.1) (0,List.replicate p.types.length (List.replicate (aB p).length false)) ⟨Nat.zero_le _,rfl⟩ ?_
  rintro ⟨r,R⟩ ⟨hr,hR⟩
  dsimp only at hr hR
  have hSR : SRr p.types (aB p) R := by rw [hR]; exact hs2 r
  have hRl := hSR.l
  try dsimp only
  by_cases hrn : r ≤ p.types.length
  ·repeat' (first | refine aE ?_ | (refine aK ?_ ?_ <;> intro hc hq <;> try (exfalso; omega))|fail)
   refine dM (σ := Nat × List (List Bool)) (fun s => s.2) [1,4,5,7] [0] (fun s => [(8,iv (s.1 : Int))]) (fun s => []) (fun s => s.1 ≤ L.length ∧ s.2 = (L.take s.1).foldl uW R) (fun s => L.length - s.1) (0,R) ⟨Nat.zero_le _,rfl⟩ ?_
   rintro ⟨i,R2⟩ ⟨hi,hR2⟩
   dsimp only at hi hR2
   have hS2 : SRr p.types (aB p) R2 := by rw [hR2]; exact hs1 i R hSR
   have hl2 := hS2.l
   try dsimp only
   by_cases hin : i < L.length
   ·have ok := hbok _ (aW _ i hin)
    have hft := dR uW L R i hin
    rw [← hR2] at hft
    have hv := ok.v
    have hrv := hS2.r L[i]!.var.toNat (by omega)
    have hst : uW R2 L[i]! = if 0 ≤ L[i]!.loan then R2.set L[i]!.var.toNat (R2[L[i]!.var.toNat]!.set L[i]!.loan.toNat true) else R2.set L[i]!.var.toNat (gO R2[L[i]!.var.toNat]! R2[L[i]!.src.toNat]!) := rfl
    rcases ok.k with ⟨h1,h2,h3⟩ | ⟨h1,h2,h3,h4⟩
    ·rw [if_pos h1] at hst
     repeat' (first|(apply aF;first|(apply bF;rfl;rfl;rfl;rfl;rfl;(case hl => (simp;done));exact (rfl:_=[_,_,_]))|(apply Dn (R := R2);rfl;rfl;(case hF => (repeat' (first|exact FamR.here|(apply FamR.cons;focus rfl))));(simp only [Nat.zero_add]; omega);(simp only [Nat.zero_add]; omega))|(with_reducible apply aY (d := 39))|(apply gH;rfl;rfl;(assumption);rfl;infer_instance;infer_instance;rfl))|refine aE ?_|(refine aK ?_ ?_ <;> intro hc hq <;> try (exfalso;omega))|refine bQ ?_|fail)
     refine bZ ?_
     apply c8
     case k =>
      apply Le.fset (R := R2) (hk := by omega)
      (repeat' (first|exact FamR.here|(apply FamR.cons;focus rfl)))
     repeat' (first|refine aE ?_|fail)
     (apply bE (i + 1,_);focus (refine Le.renF0 [(0,0)] (R := ?qA2) (hF := ?qF2) (hz := ?qz2) (hm := ?qm2) (hn := ?qn2) (h1 := ?q12) (h2 := ?q22);(case qF2 => (repeat' (first|exact FamR.here|(apply FamR.cons;focus rfl))));(case qz2 => (simp only [List.length_set]));(case qm2 => rfl);(case qn2 => decide);all_goals (repeat' (first|exact trivial|refine And.intro ⟨_,rfl,?_⟩ ?_|refine And.intro ⟨_,_,rfl,rfl,?_⟩ ?_|exact RnL.purI inferInstance|exact RnV.purI inferInstance|exact RnV.optr rfl|exact RnV.imm (cX (by (simp only [List.length_replicate,List.length_set,List.length_append,List.length_singleton] at * <;> omega)))))))
     ·refine ⟨by show i + 1 ≤ L.length; omega, ?_⟩
      show R2.set _ _ = _
      rw [hft,hst]; simp only [Nat.zero_add]
     ·show L.length - (i + 1) < L.length - i;omega
    ·rw [if_neg (by omega)] at hst
     have hrs := hS2.r L[i]!.src.toNat (by omega)
     repeat' (first|(apply aF;first|(apply bF;rfl;rfl;rfl;rfl;rfl;(case hl => (simp;done));exact (rfl:_=[_,_,_]))|(apply C1 (R := R2);rfl;rfl;(case hF => (repeat' (first|exact FamR.here|(apply FamR.cons;focus rfl))));(simp only [Nat.zero_add]; omega);(simp only [Nat.zero_add]; omega);(simp only [Nat.zero_add]; omega);(simp only [Nat.zero_add]; omega);(simp only [Nat.zero_add]; omega);(simp only [Nat.zero_add]; omega);(simp only [Nat.zero_add]; omega);rfl;rfl)|(with_reducible apply aY (d := 39))|(apply gH;rfl;rfl;(first|assumption|omega);rfl;infer_instance;infer_instance;rfl))|refine aE ?_|(refine aK ?_ ?_ <;> intro hc hq <;> try (exfalso;omega))|refine bQ ?_|fail)
     refine bZ ?_
     apply c8
     case k =>
      apply Le.fset2 (R := R2) (hk := by omega) (hj := by omega) (hkj := by omega)
      (repeat' (first|exact FamR.here|(apply FamR.cons;focus rfl)))
     repeat' (first|refine aE ?_|fail)
     (apply bE (i + 1,_);focus (refine Le.renF0 [(0,0)] (R := ?qA3) (hF := ?qF3) (hz := ?qz3) (hm := ?qm3) (hn := ?qn3) (h1 := ?q13) (h2 := ?q23);(case qF3 => (repeat' (first|exact FamR.here|(apply FamR.cons;focus rfl))));(case qz3 => (simp only [List.length_set]));(case qm3 => rfl);(case qn3 => decide);all_goals (repeat' (first|exact trivial|refine And.intro ⟨_,rfl,?_⟩ ?_|refine And.intro ⟨_,_,rfl,rfl,?_⟩ ?_|exact RnL.purI inferInstance|exact RnV.purI inferInstance|exact RnV.optr rfl|exact RnV.imm (cX (by (simp only [List.length_replicate,List.length_set,List.length_append,List.length_singleton] at * <;> omega)))))))
     ·refine ⟨by show i + 1 ≤ L.length; omega, ?_⟩
      show R2.set _ _ = _
      rw [hft,hst]; simp only [Nat.zero_add]
     ·show L.length - (i + 1) < L.length - i;omega
   ·repeat' (first | refine aE ?_ | (refine aK ?_ ?_ <;> intro hc hq <;> try (exfalso; omega))|fail)
    (apply bE (r + 1,R2);focus (refine Le.renF0 [(0,0)] (R := ?qA4) (hF := ?qF4) (hz := ?qz4) (hm := ?qm4) (hn := ?qn4) (h1 := ?q14) (h2 := ?q24);(case qF4 => (repeat' (first|exact FamR.here|(apply FamR.cons;focus rfl))));(case qz4 => (rfl));(case qm4 => rfl);(case qn4 => decide);all_goals (repeat' (first|exact trivial|refine And.intro ⟨_,rfl,?_⟩ ?_|refine And.intro ⟨_,_,rfl,rfl,?_⟩ ?_|exact RnL.purI inferInstance|exact RnV.purI inferInstance|exact RnV.optr rfl|exact RnV.imm (cX (by (simp only [List.length_replicate,List.length_set,List.length_append,List.length_singleton] at * <;> omega)))))))
    ·refine ⟨by show r + 1 ≤ _; omega, ?_⟩
     show R2 = _
     rw [hR2,List.take_of_length_le (by omega),hR]; rfl
    ·show p.types.length + 1 - (r + 1) < p.types.length + 1 - r;omega
  ·repeat' (first | refine aE ?_ | (refine aK ?_ ?_ <;> intro hc hq <;> try (exfalso; omega))|fail)
   have hrt : r = p.types.length + 1 := by omega
   subst hrt
   refine aS (Le.frzAll (d := 2) (D := (List.range R.length).map fun k => 0 + k + aX) rfl (.imm (LdL.rows (b := 0) (R := R) (by (repeat' (first|exact FamR.here|(apply FamR.cons;focus rfl)))) (fun k hk => List.mem_map.2 ⟨k,by rw [List.mem_range]; omega,rfl⟩) (by omega) (fun k hk => by rw [Nat.zero_add]; exact hSR.r k hk)))) ?_
   refine aD rfl ⟨?_,(by (exact bB _ _))⟩
   simp only [aO]
   rw [List.drop_zero,List.take_of_length_le (by omega),hR,hre]
   simp [sl,B6]
theorem Gi (p:Prg) (f:Flows p.types (aB p)) (A:List Nat) (hA:GoodG p.types (aB p) A) (hv:bD p = true) (hl:p.types.length ≤ 1000000) (hs:aT p.body ≤ 1000000):PC Tryz.prog 97 [b8 p] (fun r => r = sl dW (zO p f A)):=by
 have w := WG.of_valid hv
 have t := WT.of_valid hv
 have hr := Rch.of p
 have hval := fX p hl (by omega)
 rw [hv] at hval
 have hpl := w.pl
 have hp0 := w.p0
 have htl := w.tl
 have hpt := dP p hs
 have hfa := fL p true f.Aa hs w hr (by unfold kO;exact f.ga)
 have hfm := fL p false f.Am hs w hr (by unfold kO;exact f.gm)
 have hfl := uK p f.Af f.Ap hs w f.gf f.gp
 have hlv := Br p f.Al hs w f.gl
 have hrg := Dg p A hs w t hA
 have hA6 := hA.1
 have hra := cZ p.types.length (aB p).length f.Aa
 have hrm := cZ p.types.length (aB p).length f.Am
 have hrl := cZ p.types.length (aB p).length f.Al
 have hfll : ((List.range (aB p).length).map (e7 p.types.length (aB p).length f.Af f.Ap)).length = (aB p).length := by simp
 refine aC Tryz.func97 Tryz.ntmps97 ?_
 repeat' (first|(apply aF;first|(apply aA (k := 61);rfl;exact hval;exact Pur.pf;rfl)|(apply aA (k := 132);rfl;exact hpt;exact Pur.pf;rfl)|(apply aA (k := 64) (d := 23);rfl;exact hfa;exact Pur.pf;rfl)|(apply aA (k := 64) (d := 25);rfl;exact hfm;exact Pur.pf;rfl)|(apply aA (k := 170);rfl;exact hlv;exact Pur.pf;rfl)|(apply aA (k := 171);rfl;exact hfl;exact Pur.pf;rfl)|(apply aA (k := 172);rfl;exact hrg;exact Pur.pf;rfl))|refine aE ?_|fail)
 refine aH (σ := Nat × List Iss × Nat) [1,4,5,6,7,8,9] [0] (fun s => [(10,iv (s.1 : Int)),(3,.own 1 0 s.2.2 3)]) (fun s => [(1,some (flat dW s.2.1))]) (fun s => s.1 ≤ (aB p).length ∧ s.2.1 = iX p.types (aB p) f.Aa f.Am f.Al (oH (aB p).length A) f.Ap s.1 ∧ s.2.2 = s.2.1.length ∧ s.2.2 ≤ 67 * s.1) (fun s => (aB p).length - s.1) (0,[],0) ⟨Nat.zero_le _,rfl,rfl,Nat.le_refl _⟩ ?_
 rintro ⟨i,L,m⟩ ⟨hi,hL,hm,hmb⟩
 dsimp only at hi hL hm hmb
 try dsimp only
 by_cases hin : i < (aB p).length
 ·repeat' (first | refine aE ?_ | (refine aK ?_ ?_ <;> intro hc hq <;> try (exfalso; omega))|fail)
  refine aH (σ := Nat × List Iss × Nat) [1,4,5,6,7,8,9,10] [0] (fun s => [(11,iv (s.1 : Int)),(3,.own 1 0 s.2.2 3)]) (fun s => [(1,some (flat dW s.2.1))]) (fun s => s.1 ≤ p.types.length ∧ s.2.1 = L ++ L6 p.types (aB p) f.Aa i s.1 ∧ s.2.2 = s.2.1.length ∧ s.2.2 ≤ 67 * i + s.1) (fun s => p.types.length - s.1) (0,L,m) ⟨Nat.zero_le _,(List.append_nil L).symm,hm,hmb⟩ ?_
  rintro ⟨v,L2,m2⟩ ⟨hv,hL2,hm2,hmb2⟩
  dsimp only at hv hL2 hm2 hmb2
  try dsimp only
  by_cases hvn : v < p.types.length
  ·have hga := iC p.types.length (aB p).length f.Aa i v hin hvn
   have hgl : (bH p.types.length (aB p).length f.Aa)[i]!.length = p.types.length := by rw [cQ _ _ _ _ hin]; simp
   repeat' (first|(apply aF;(apply aA (k := 173);rfl;(apply kF <;> (omega));exact Pur.pf;rfl))|refine aE ?_|(refine aK ?_ ?_ <;> intro hc hq <;> try (exfalso;omega))|(refine bS ?_ ?_ <;> intro hg hq <;> try (exfalso;omega))|refine bQ ?_|fail)
   ·(refine bE (v + 1, L2 ++ [⟨i, 1, v⟩], m2 + 1) (Le.renA [(0, 0), (1, 3)]) ?_ ?_)
    ·have hu : sV p.types (aB p) f.Aa i v = true := by
      unfold sV;rw [← hga,decide_eq_false (by assumption),(by assumption : (bH p.types.length (aB p).length f.Aa)[i]![v]! = false)]; rfl
     exact ⟨(by show v + 1 ≤ p.types.length;omega),(by show L2 ++ [⟨i,1,v⟩] = _; rw [hL2,List.append_assoc,← AJ hu]),(by show m2 + 1 = (L2 ++ [_]).length;rw [List.length_append,List.length_singleton,hm2]),(by show m2 + 1 ≤ 67 * i + (v + 1);omega)⟩
    ·show p.types.length - (v + 1) < p.types.length - v;omega
   ·(refine bE (v + 1, L2, m2) (Le.renA [(0, 0), (1, 1)]) ?_ ?_)
    ·have hu : sV p.types (aB p) f.Aa i v = false := by
      unfold sV;rw [← hga,(by assumption : (bH p.types.length (aB p).length f.Aa)[i]![v]! = true)]; simp
     exact ⟨(by show v + 1 ≤ p.types.length;omega),(by show L2 = _; rw [lE hu]; exact hL2),hm2,(by show m2 ≤ 67 * i + (v + 1);omega)⟩
    ·show p.types.length - (v + 1) < p.types.length - v;omega
   ·(refine bE (v + 1, L2, m2) (Le.renA [(0, 0), (1, 1)]) ?_ ?_)
    ·have hu : sV p.types (aB p) f.Aa i v = false := by
      unfold sV;rw [decide_eq_true (by assumption)]; rfl
     exact ⟨(by show v + 1 ≤ p.types.length;omega),(by show L2 = _; rw [lE hu]; exact hL2),hm2,(by show m2 ≤ 67 * i + (v + 1);omega)⟩
    ·show p.types.length - (v + 1) < p.types.length - v;omega
  ·have hvN : v = p.types.length := by omega
   have hset := w.set i hin
   have hy := w.y i hin
   have hfi : ((List.range (aB p).length).map (e7 p.types.length (aB p).length f.Af f.Ap))[i]! = e7 p.types.length (aB p).length f.Af f.Ap i := a6 _ _ _ hin
   have hgm : (bH p.types.length (aB p).length f.Am)[i]!.length = p.types.length := by rw [cQ _ _ _ _ hin]; simp
   have hgl : (bH p.types.length (aB p).length f.Al)[i]!.length = p.types.length := by rw [cQ _ _ _ _ hin]; simp
   have hf2 : (e7 p.types.length (aB p).length f.Af f.Ap i).2.length = (aB p).length := by simp [e7]
   have hf4 : (((List.range (aB p).length).map (e7 p.types.length (aB p).length f.Af f.Ap))[i]!.2).length = (aB p).length := by rw [hfi]; exact hf2
   have hacc := l7 p.types (aB p)[i]! (bH p.types.length (aB p).length f.Am)[i]! htl hgm hset.1 hy
   have hlv := vC p.types (aB p)[i]! (B6 p.types.length (aB p).length A) ((List.range (aB p).length).map (e7 p.types.length (aB p).length f.Af f.Ap))[i]!.2 (bH p.types.length (aB p).length f.Al)[i]! htl (by rw [hf4]; exact hpl) hgl (LM _ _ _) (fun v hv => by rw [hf4]; exact LO _ _ _ hv)
   have hlvl : (wV p.types (aB p)[i]! (B6 p.types.length (aB p).length A) (bH p.types.length (aB p).length f.Al)[i]! ((List.range (aB p).length).map (e7 p.types.length (aB p).length f.Af f.Ap))[i]!.2.length).length = (aB p).length := by unfold wV;rw [List.length_map,List.length_range,hf4]
   have hcn := kR (aB p) (fS p.types (aB p)[i]! (bH p.types.length (aB p).length f.Am)[i]![(aM (aB p)[i]!).toNat]!) (B6 p.types.length (aB p).length A) ((List.range (aB p).length).map (e7 p.types.length (aB p).length f.Af f.Ap))[i]!.2 (wV p.types (aB p)[i]! (B6 p.types.length (aB p).length A) (bH p.types.length (aB p).length f.Al)[i]! ((List.range (aB p).length).map (e7 p.types.length (aB p).length f.Af f.Ap))[i]!.2.length) hpl (by have := pP p.types (aB p)[i]! (bH p.types.length (aB p).length f.Am)[i]![(aM (aB p)[i]!).toNat]!; omega) hf4 hlvl
   have hcf : Lt (aB p) (fS p.types (aB p)[i]! (bH p.types.length (aB p).length f.Am)[i]![(aM (aB p)[i]!).toNat]!) ((List.range (aB p).length).map (e7 p.types.length (aB p).length f.Af f.Ap))[i]!.2 (wV p.types (aB p)[i]! (B6 p.types.length (aB p).length A) (bH p.types.length (aB p).length f.Al)[i]! ((List.range (aB p).length).map (e7 p.types.length (aB p).length f.Af f.Ap))[i]!.2.length) = AI p.types (aB p) f.Am f.Al (oH (aB p).length A) f.Ap i := by
    rw [hfi,hf2,← Np p.types.length (aB p).length A f.Ap hA6 htl hin]; rfl
   have hcl : (AI p.types (aB p) f.Am f.Al (oH (aB p).length A) f.Ap i).length = (aB p).length := by unfold AI;rw [qJ]
   repeat' (first|(apply aF;first|(apply aA (k := 175);rfl;exact hacc;exact Pur.pf;rfl)|(apply aA (k := 176);rfl;exact hlv;exact Pur.pf;rfl)|(apply aA (k := 174);rfl;exact hcn;exact Pur.pf;rfl)|(apply bF;rfl;rfl;rfl;rfl;rfl;(case hl => (simp;done));exact (rfl:_=[sl gQ (B6 p.types.length (aB p).length A),sl cB ((List.range (aB p).length).map (e7 p.types.length (aB p).length f.Af f.Ap))[i]!.2]))|(with_reducible apply aY (d := 14)))|refine aE ?_|(refine aK ?_ ?_ <;> intro hc hq <;> try (exfalso;omega))|refine bQ ?_|fail)
   refine bZ ?_
   rw [hcf]
   repeat' (first|refine aE ?_|fail)
   refine aH (σ := Nat × List Iss × Nat) [1,4,5,6,7,8,9,10,13] [0] (fun s => [(14,iv (s.1 : Int)),(3,.own 1 0 s.2.2 3)]) (fun s => [(1,some (flat dW s.2.1))]) (fun s => s.1 ≤ (aB p).length ∧ s.2.1 = L2 ++ Nl (aB p) (AI p.types (aB p) f.Am f.Al (oH (aB p).length A) f.Ap i) i s.1 ∧ s.2.2 = s.2.1.length ∧ s.2.2 ≤ 67 * i + 6 + s.1) (fun s => (aB p).length - s.1) (0,L2,m2) ⟨Nat.zero_le _,(List.append_nil L2).symm,hm2,by show m2 ≤ 67 * i + 6 + 0;omega⟩ ?_
   rintro ⟨l,L3,m3⟩ ⟨hl,hL3,hm3,hmb3⟩
   dsimp only at hl hL3 hm3 hmb3
   try dsimp only
   by_cases hln : l < (aB p).length
   ·repeat' (first | refine aE ?_ | (refine aK ?_ ?_ <;> intro hc hq <;> try (exfalso; omega)) | (refine bS ?_ ?_ <;> intro hg hq <;> try (exfalso; omega))|fail)
    ·(refine bE (l + 1, L3 ++ [⟨i, 3, l⟩], m3 + 1) (Le.renA [(0, 0), (1, 4)]) ?_ ?_)
     ·have hk : DM (aB p) l = 3 := by unfold DM; rw [if_pos (by assumption)]
      exact ⟨(by show l + 1 ≤ (aB p).length;omega),(by show L3 ++ [⟨i,3,l⟩] = _; rw [hL3,List.append_assoc,← hk,← oC (by assumption)]),(by show m3 + 1 = (L3 ++ [_]).length;rw [List.length_append,List.length_singleton,hm3]),(by show m3 + 1 ≤ 67 * i + 6 + (l + 1);omega)⟩
     ·show (aB p).length - (l + 1) < (aB p).length - l;omega
    ·(refine bE (l + 1, L3 ++ [⟨i, 2, l⟩], m3 + 1) (Le.renA [(0, 0), (1, 4)]) ?_ ?_)
     ·have hk : DM (aB p) l = 2 := by unfold DM; rw [if_neg (by assumption)]
      exact ⟨(by show l + 1 ≤ (aB p).length;omega),(by show L3 ++ [⟨i,2,l⟩] = _; rw [hL3,List.append_assoc,← hk,← oC (by assumption)]),(by show m3 + 1 = (L3 ++ [_]).length;rw [List.length_append,List.length_singleton,hm3]),(by show m3 + 1 ≤ 67 * i + 6 + (l + 1);omega)⟩
     ·show (aB p).length - (l + 1) < (aB p).length - l;omega
    ·(refine bE (l + 1, L3, m3) (Le.renA [(0, 0), (1, 1)]) ?_ ?_)
     ·exact ⟨(by show l + 1 ≤ (aB p).length;omega),(by show L3 = _; rw [uM (by assumption)]; exact hL3),hm3,(by show m3 ≤ 67 * i + 6 + (l + 1);omega)⟩
     ·show (aB p).length - (l + 1) < (aB p).length - l;omega
   ·repeat' (first | refine aE ?_ | (refine aK ?_ ?_ <;> intro hc hq <;> try (exfalso; omega))|fail)
    (refine bE (i + 1,L3,m3) (Le.renA [(0,0),(1,1)]) ?_ ?_)
    ·refine ⟨(by show i + 1 ≤ (aB p).length; omega), ?_, hm3, (by show m3 ≤ 67 * (i + 1); omega)⟩
     show L3 = iX p.types (aB p) f.Aa f.Am f.Al (oH (aB p).length A) f.Ap (i + 1)
     rw [jJ,← FA w f (qS A hA6 _) hin,hL3,hL2,hL,hvN,show l = (aB p).length by omega,List.append_assoc]
     rfl
    ·show (aB p).length - (i + 1) < (aB p).length - i;omega
 ·repeat' (first | refine aE ?_ | (refine aK ?_ ?_ <;> intro hc hq <;> try (exfalso; omega))|fail)
  have hiN : i = (aB p).length := by omega
  refine aS (Le.frzD (d := 2) (i := 1) rfl rfl) ?_
  refine aD rfl ⟨?_,(by (exact bB _ _))⟩
  simp only [aO]
  rw [hm,hL,hiN]; rfl
theorem wJ {stk:List Tg}{id:Int}(h:0 ≤ cD stk id):∀ k < (cD stk id).toNat,stk[k]!.id ≠ id:=by
 unfold cD at h ⊢
 split
 ·rename_i k hk
  obtain ⟨h1,h2,h3⟩ := List.findIdx?_eq_some_iff_getElem.1 hk
  rw [Int.toNat_natCast]
  intro j hj he
  have := h3 j hj
  rw [bC _ _ (by omega)] at he
  simp [he] at this
 ·rename_i hk;rw [hk] at h;dsimp only at h;omega
theorem zZ {stk:List Tg}{id:Int}{i:Nat}(hi:i < stk.length) (h:stk[i]!.id = id) (hn:∀ k < i,stk[k]!.id ≠ id):cD stk id = (i:Int):=by
 have hb := eG stk id
 by_cases hneg : cD stk id < 0
 ·have := oB.1 hneg stk[i]! (by rw [bC _ _ hi]; exact List.getElem_mem hi)
  exact absurd h this
 ·have ha := Eu (stk := stk) (id := id) (by omega)
  have hf := wJ (stk := stk) (id := id) (by omega)
  rcases Nat.lt_trichotomy (cD stk id).toNat i with h1|h1|h1
  ·exact absurd ha (hn _ h1)
  ·omega
  ·exact absurd h (hf _ h1)
theorem Fp (stk:List Tg) (id:Int) (hl:stk.length ≤ 1000000):PC Tryz.prog 284 [sl cL stk,iv id] (fun r => r = iv (cD stk id)):=by
 refine aC Tryz.func284 Tryz.ntmps284 ?_
 repeat' (first|refine aE ?_|fail)
 refine aH (σ := Nat) [0,1] [] (fun i => [(5,iv (i : Int))]) (fun i => []) (fun i => i ≤ stk.length ∧ (∀ k < i,stk[k]!.id ≠ id)) (fun i => stk.length - i) (0) ⟨Nat.zero_le _,fun k hk => absurd hk (by omega)⟩ ?_
 rintro i ⟨hi,hn⟩
 try dsimp only at hi hn
 repeat' (first|refine aE ?_|(refine aK ?_ ?_ <;> intro hc hq <;> try (exfalso;omega))|fail)
 ·refine aD rfl ⟨?_, rfl⟩
  simp only [aO]; rw [zZ (i := i) (by omega) (by assumption) hn]
 ·(refine bE (i + 1) (Le.renA []) ?_ ?_)
  ·refine ⟨by omega, fun k hk => ?_⟩
   rcases Nat.lt_or_ge k i with h|h
   ·exact hn k h
   ·rw [show k = i by omega]; assumption
  ·show stk.length - (i + 1) < stk.length - i;omega
 ·refine aD rfl ⟨?_, rfl⟩
  have := oB (stk := stk) (id := id)
  have hb := eG stk id
  have : cD stk id < 0 := this.2 (fun t ht => by obtain ⟨k,hk,rfl⟩ := List.getElem_of_mem ht;have := hn k (by omega);rwa [bC _ _ hk] at this)
  simp only [aO]; rw [show cD stk id = -1 by omega]
theorem pS (c:Cl):OkC c ↔ (0 ≤ c.val ∧ c.val ≤ 9) ∧ (1 ≤ c.next ∧ c.next ≤ 1000) ∧ (1 ≤ c.stk.length ∧ c.stk.length ≤ 200) ∧ c.stk[0]!.uq = true ∧ (∀ k < c.stk.length,0 ≤ c.stk[k]!.id ∧ c.stk[k]!.id < c.next ∧ cD c.stk c.stk[k]!.id = (k:Int)):=by
 constructor
 ·intro h
  refine ⟨h.v,h.n,h.l,h.u,fun k hk => ?_⟩
  have h1 := h.i c.stk[k]! (by rw [bC _ _ hk]; exact List.getElem_mem hk)
  refine ⟨h1.1,h1.2,zZ hk rfl (fun j hj he => ?_)⟩
  have hd := List.nodup_iff_pairwise_ne.1 h.d |> List.pairwise_iff_getElem.1
  have := hd j k (by rw [List.length_map]; omega) (by rw [List.length_map]; omega) hj
  simp only [List.getElem_map] at this
  rw [bC _ _ (by omega),bC _ _ hk] at he
  exact this he
 ·rintro ⟨h1, h2, h3, h4, h5⟩
  refine ⟨h1,h2,h3,h4,fun t ht => ?_,?_⟩
  ·obtain ⟨k, hk, rfl⟩ := List.getElem_of_mem ht
   have := h5 k hk;rw [bC _ _ hk] at this
   exact ⟨this.1,this.2.1⟩
  ·rw [List.nodup_iff_pairwise_ne, List.pairwise_iff_getElem]
   intro i j hi hj hij he
   rw [List.length_map] at hi hj
   simp only [List.getElem_map] at he
   have a := (h5 i hi).2.2
   have b := (h5 j hj).2.2
   rw [bC _ _ hi] at a;rw [bC _ _ hj,← he,a] at b
   omega
instance (c : Cl) : Decidable (OkC c) := decidable_of_iff _ (pS c).symm
theorem c7 (m:List Cl):OkM m ↔ m.length ≤ 200 ∧ ∀ k < m.length,OkC m[k]!:=by
 constructor
 ·exact fun h => ⟨h.l,fun k hk => h.c _ (by rw [bC _ _ hk]; exact List.getElem_mem hk)⟩
 ·exact fun h => ⟨h.1,fun c hc => by obtain ⟨k,hk,rfl⟩ := List.getElem_of_mem hc;have := h.2 k hk;rwa [bC _ _ hk] at this⟩
instance (m : List Cl) : Decidable (OkM m) := decidable_of_iff _ (c7 m).symm
theorem IP (c:Cl):PC Tryz.prog 282 [Sc c] (fun r => r = bv (decide (OkC c))):=by
 refine aC Tryz.func282 Tryz.ntmps282 ?_
 repeat' (first|refine aE ?_|(refine aK ?_ ?_ <;> intro hc hq <;> try (exfalso;omega))|(refine bS ?_ ?_ <;> intro hg hq <;> try (exfalso;omega))|fail)
 all_goals try (refine aD rfl ⟨?_, rfl⟩; simp only [aO]; rw [show decide (OkC c) = false from decide_eq_false (fun h => by
  obtain ⟨h1,h2,h3,h4,h5⟩ := (pS c).1 h
  first|omega|exact absurd (by assumption : c.stk[Int.toNat 0]!.uq = false) (by rw [show Int.toNat 0 = 0 from rfl,h4]; decide))]; done)
 have hu : c.stk[0]!.uq = true := by assumption
 refine aH (σ := Nat) [1] [0] (fun i => [(3,iv (i : Int))]) (fun i => []) (fun i => i ≤ c.stk.length ∧ (∀ k < i,0 ≤ c.stk[k]!.id ∧ c.stk[k]!.id < c.next ∧ cD c.stk c.stk[k]!.id = (k : Int))) (fun i => c.stk.length - i) (0) ⟨Nat.zero_le _,fun k hk => absurd hk (by omega)⟩ ?_
 rintro i ⟨hi,hn⟩
 try dsimp only at hi hn
 repeat' (first|(apply aF;(apply aA (k := 284);rfl;exact Fp c.stk c.stk[i]!.id (by omega);exact Pur.pf;rfl))|refine aE ?_|(refine aK ?_ ?_ <;> intro hc hq <;> try (exfalso;omega))|(refine bS ?_ ?_ <;> intro hg hq <;> try (exfalso;omega))|refine bQ ?_|fail)
 all_goals try (refine aD rfl ⟨?_, rfl⟩; simp only [aO]; rw [show decide (OkC c) = false from decide_eq_false (fun h => by
  obtain ⟨h1,h2,h3,h4,h5⟩ := (pS c).1 h
  exact absurd (h5 i (by omega)) (by omega))]; done)
 ·(refine bE (i + 1) (Le.renA [(0, 0)]) ?_ ?_)
  ·refine ⟨by omega, fun k hk => ?_⟩
   rcases Nat.lt_or_ge k i with h|h
   ·exact hn k h
   ·rw [show k = i by omega]; exact ⟨by assumption,by assumption,by assumption⟩
  ·show c.stk.length - (i + 1) < c.stk.length - i;omega
 ·refine aD rfl ⟨?_, rfl⟩
  simp only [aO]
  rw [show decide (OkC c) = true from decide_eq_true ((pS c).2 ⟨by omega,by omega,by omega,hu,fun k hk => hn k (by omega)⟩)]
theorem oM (m:List Cl) (hl:m.length ≤ 1000000):PC Tryz.prog 272 [sl bO m] (fun r => r = bv (decide (OkM m))):=by
 refine aC Tryz.func272 Tryz.ntmps272 ?_
 repeat' (first|refine aE ?_|fail)
 refine aH (σ := Nat) [0] [] (fun i => [(3,iv (i : Int))]) (fun i => []) (fun i => i ≤ m.length ∧ i ≤ 201 ∧ (∀ k < i,OkC m[k]!)) (fun i => m.length - i) (0) ⟨Nat.zero_le _,by omega,fun k hk => absurd hk (by omega)⟩ ?_
 rintro i ⟨hi,hi2,hn⟩
 try dsimp only at hi hi2 hn
 repeat' (first|(apply aF;(apply aA (k := 282);rfl;exact IP m[i]!;exact Pur.pf;rfl))|refine aE ?_|(refine aK ?_ ?_ <;> intro hc hq <;> try (exfalso;omega))|(refine bS ?_ ?_ <;> intro hg hq <;> try (exfalso;omega))|fail)
 ·refine aD rfl ⟨?_, rfl⟩
  simp only [aO]; rw [show decide (OkM m) = false from decide_eq_false (fun h => by
   have h1 := ((c7 m).1 h).2 i (by omega)
   have h2 : ¬ OkC m[i]! := by assumption
   exact h2 h1)]
 ·(refine bE (i + 1) (Le.renA []) ?_ ?_)
  ·refine ⟨by omega, by omega, fun k hk => ?_⟩
   rcases Nat.lt_or_ge k i with h|h
   ·exact hn k h
   ·rw [show k = i by omega]; assumption
  ·show m.length - (i + 1) < m.length - i;omega
 ·refine aD rfl ⟨?_, rfl⟩
  simp only [aO]
  rw [show decide ((m.length : Int) ≤ 200) = false from decide_eq_false (by omega),show decide (OkM m) = false from decide_eq_false (fun h => by have := h.l;omega)]
 ·refine aD rfl ⟨?_, rfl⟩
  simp only [aO]
  rw [show decide ((m.length : Int) ≤ 200) = decide (OkM m) from decide_eq_decide.2 ⟨fun h => (c7 m).2 ⟨by omega,fun k hk => hn k (by omega)⟩,fun h => by have := h.l;omega⟩]
theorem k5 (k:Int):PC Tryz.prog 246 [iv k] (fun r => r = iv (if k = 1 then 3 else if k = 0 then 0 else 4)):=by
 refine aC Tryz.func246 Tryz.ntmps246 ?_
 repeat' (first|refine aE ?_|(refine aK ?_ ?_ <;> intro hc hq <;> try (exfalso;omega))|refine dC ?_|fail)
 all_goals (refine ⟨?_,rfl⟩; simp only [aO,AV.v.injEq,Value.bool.injEq,Value.int.injEq,true_and])
 all_goals grind
theorem tR (k:Int):PC Tryz.prog 201 [iv k] (fun r => r = iv (eJ k)):=by
 refine aC Tryz.func201 Tryz.ntmps201 ?_
 repeat' (first|refine aE ?_|(refine aK ?_ ?_ <;> intro hc hq <;> try (exfalso;omega))|refine dC ?_|fail)
 all_goals (refine ⟨?_,rfl⟩; simp only [aO,AV.v.injEq,Value.bool.injEq,Value.int.injEq,true_and])
 all_goals grind [eJ]
theorem vD {xs:List Tg}{m:Nat}{a:Int}{b:Bool}(hm:m = xs.length):((flat cL xs).drop 0).take (m * 2) ++ [iv a,bv b] = flat cL (xs ++ [⟨a,b⟩]) := eO hm rfl
theorem H7 {xs:List Cl}{m:Nat}{a c:Int}{b:Bool}{s:List Tg}(hm:m = xs.length):((flat bO xs).drop 0).take (m * 4) ++ [iv a,bv b,iv c,sl cL s] = flat bO (xs ++ [⟨a,b,c,s⟩]) := eO hm rfl
theorem kC {α:Type}[Inhabited α] (l:List α){k i:Nat}(h:k ≤ i) (hi:i < l.length):(l.drop k).take (i + 1 - k) = (l.drop k).take (i - k) ++ [l[i]!]:=by
 have hl : i - k < (l.drop k).length := by rw [List.length_drop]; omega
 have h1 := bG (l.drop k) (i - k) hl
 rw [show i + 1 - k = i - k + 1 by omega,h1]
 congr 2
 rw [bC (l.drop k) (i - k) hl,List.getElem_drop,bC l i hi]
 congr 1;omega
theorem rK {α}{p:α → Bool}{a:α}(h:p a = true):[a].filter p = [a] := by simp [h]
theorem nW {α}{p:α → Bool}{a:α}(h:p a = false):[a].filter p = [] := by simp [h]
theorem JL (stk:List Tg) (k:Nat) (hk:k < stk.length) (hl:stk.length ≤ 1000000):PC Tryz.prog 277 [sl cL stk,iv (k:Int)] (fun r => r = sl cL (fE stk k false)):=by
 have e1 : List.take (((k : Int) + 1).toNat - 0) (List.drop 0 stk) = stk.take (k + 1) := by rw [List.drop_zero]; congr 1
 have e2 : (stk.take (k + 1)).length = k + 1 := by rw [List.length_take]; omega
 refine aC Tryz.func277 Tryz.ntmps277 ?_
 repeat' (first|(apply aF;(with_reducible apply aY (d := 12)))|refine aE ?_|fail)
 refine bZ ?_
 rw [e1]
 repeat' (first|refine aE ?_|fail)
 refine aH (σ := Nat × List Tg × Nat) [0] [] (fun s => [(6,iv (s.1 : Int)),(5,.own 1 0 s.2.2 2)]) (fun s => [(1,some (flat cL s.2.1))]) (fun s => k + 1 ≤ s.1 ∧ s.1 ≤ stk.length ∧ s.2.1 = stk.take (k + 1) ++ ((stk.drop (k + 1)).take (s.1 - (k + 1))).filter (fun t => !t.uq) ∧ s.2.2 = s.2.1.length ∧ s.2.2 ≤ s.1) (fun s => stk.length - s.1) (k + 1,stk.take (k + 1),0 + (stk.take (k + 1)).length) ⟨Nat.le_refl _,by dsimp only;omega,by simp,by dsimp only;omega,by dsimp only;omega⟩ ?_
 rintro ⟨i,xs,n⟩ ⟨hki,hi,hxs,hn,hni⟩
 dsimp only at hki hi hxs hn hni ⊢
 repeat' (first|(apply aF;first|(apply bX;rfl;rfl;rfl;rfl;rfl;(rw [aI]; omega);(rfl);omega;omega;(exact vD (by (assumption)));rfl;rfl)|(apply aJ (t := _);rfl;rfl;rfl;(exact (rfl:_=some [_,_]));rfl;rfl))|refine aE ?_|(refine aK ?_ ?_ <;> intro hc hq <;> try (exfalso;omega))|fail)
 ·(refine bE (i + 1, _, _) (Le.renA [(1, 3)]) ?_ ?_)
  ·refine ⟨by dsimp only; omega, by dsimp only; omega, ?_, by dsimp only; rw [List.length_append, hn]; rfl, by dsimp only; omega⟩
   dsimp only
   rw [hxs,kC stk hki (by omega),List.filter_append,List.append_assoc]
   congr 2
   have hu : stk[i]!.uq = false := by assumption
   rw [rK (by rw [hu]; rfl)]
  ·dsimp only;omega
 ·(refine bE (i + 1, xs, n) (Le.renA [(1, 1)]) ?_ ?_)
  ·refine ⟨by dsimp only; omega, by dsimp only; omega, ?_, hn, by dsimp only; omega⟩
   dsimp only
   have hu : stk[i]!.uq = true := by assumption
   rw [hxs,kC stk hki (by omega),List.filter_append,nW (by rw [hu]; rfl),List.append_nil]
  ·dsimp only;omega
 ·(refine aS (Le.frzD (d := 4) (i := 1) rfl rfl) ?_; refine aD rfl ?_)
  refine ⟨?_,(by (exact bB _ _))⟩
  have hie : i = stk.length := by omega
  simp only [aO,sl]
  have hd : (stk.drop (k + 1)).take (stk.length - (k + 1)) = stk.drop (k + 1) := List.take_of_length_le (by rw [List.length_drop]; exact Nat.le_refl _)
  rw [hn,hxs,hie,hd]
  rfl
theorem Iz (m:List Cl) (hm:OkM m):PC Tryz.prog 273 [sl bO m] (fun r => r = sl bO m):=by
 have hml := hm.l
 refine aC Tryz.func273 Tryz.ntmps273 ?_
 repeat' (first|refine aE ?_|fail)
 refine aH (σ := Nat × List Cl) [0] [] (fun k => [(4,iv (k.1 : Int)),(3,.own 0 0 k.1 4)]) (fun k => [(0,some (flat bO k.2))]) (fun k => k.1 ≤ m.length ∧ k.2 = m.take k.1) (fun k => m.length - k.1) (0,[]) ⟨by omega,rfl⟩ ?_
 rintro ⟨i,xs⟩ ⟨hi,hxs⟩
 dsimp only at hi hxs ⊢
 have hln : xs.length = i := by rw [hxs,List.length_take]; exact Nat.min_eq_left hi
 have hst : i < m.length → m[i]!.stk.length ≤ 200 := fun h => (((c7 m).1 hm).2 i h).l.2
 repeat' (first|(apply aF;(with_reducible apply aY (d := 21)))|refine aE ?_|(refine aK ?_ ?_ <;> intro hc hq <;> try (exfalso;omega))|fail)
 ·refine bZ (c8 ?_ (Le.frzD (d := 20) (i := 3) rfl rfl))
  rw [Nat.zero_add m[i]!.stk.length]
  repeat' (first|(apply aF;first|(apply bX;rfl;rfl;rfl;rfl;rfl;(rw [aI]; omega);(rfl);omega;omega;(exact H7 (by (omega)));rfl;rfl)|(apply aJ (t := _);rfl;rfl;rfl;(exact (rfl:_=some [_,_,_,_]));rfl;rfl))|refine aE ?_|fail)
  (refine bE (i + 1,_) (Le.renA [(0,5)]) ?_ ?_)
  ·exact ⟨by dsimp only;omega,by dsimp only;rw [hxs,bG m i (by omega)]⟩
  ·dsimp only;omega
 ·(refine aS (Le.frzD (d := 2) (i := 0) rfl rfl) ?_; refine aD rfl ?_)
  refine ⟨?_,(by (exact bB _ _))⟩
  have hie : i = m.length := by omega
  simp only [aO,sl]
  rw [hxs,hie,List.take_length]
theorem Ed {m:List Cl}{x:Pt}{wr:Bool}(h:x.cell < 0 ∨ (m.length:Int) ≤ x.cell):a7 m x wr = 4:=by
 unfold a7;rw [if_pos (by omega)]
theorem JU {m:List Cl}{x:Pt}{wr:Bool}(h:0 ≤ x.cell) (h2:x.cell < m.length) (h3:m[x.cell.toNat]!.alive = false):a7 m x wr = 1:=by
 unfold a7;rw [if_neg (by omega),if_pos h3]
theorem HF {m:List Cl}{x:Pt}{wr:Bool}(h:0 ≤ x.cell) (h2:x.cell < m.length) (h3:m[x.cell.toNat]!.alive = true) (h4:cD m[x.cell.toNat]!.stk x.tag < 0):a7 m x wr = 2:=by
 unfold a7;rw [if_neg (by omega),if_neg (by rw [h3]; decide),if_pos h4]
theorem tH {m:List Cl}{x:Pt}(h:0 ≤ x.cell) (h2:x.cell < m.length) (h3:m[x.cell.toNat]!.alive = true) (h4:0 ≤ cD m[x.cell.toNat]!.stk x.tag):a7 m x false = 0:=by
 unfold a7;rw [if_neg (by omega),if_neg (by rw [h3]; decide),if_neg (by omega),if_neg (by intro q;exact absurd q.1 (by decide))]
theorem A7 {m:List Cl}{x:Pt}:a7 m x true = if a7 m x false = 0 then (if m[x.cell.toNat]!.stk[(cD m[x.cell.toNat]!.stk x.tag).toNat]!.uq = false then 3 else 0) else a7 m x false:=by
 unfold a7
 split
 ·rw [if_neg (by decide)]
 ·split
  ·rw [if_neg (by decide)]
  ·split
   ·rw [if_neg (by decide)]
   ·rw [if_neg (c := false = true ∧ _) (by intro q; exact absurd q.1 (by decide)), if_pos rfl]
    simp only [true_and]
theorem dV {m:List Cl}{x:Pt}{wr:Bool}(h:a7 m x wr = 0):0 ≤ x.cell ∧ x.cell < m.length ∧ m[x.cell.toNat]!.alive = true ∧ 0 ≤ cD m[x.cell.toNat]!.stk x.tag ∧ (wr = true → m[x.cell.toNat]!.stk[(cD m[x.cell.toNat]!.stk x.tag).toNat]!.uq = true):=by
 unfold a7 at h
 split at h
 ·omega
 ·split at h
  ·omega
  ·split at h
   ·omega
   ·split at h
    ·omega
    ·rename_i a b c d
     refine ⟨by omega,by omega,by simpa using b,by omega,fun hw => ?_⟩
     by_cases q : m[x.cell.toNat]!.stk[(cD m[x.cell.toNat]!.stk x.tag).toNat]!.uq = false
     ·exact absurd ⟨hw,q⟩ d
     ·simpa using q
theorem fQ {m:List Cl}{x0:Operand}(ha0:ev (lk tsl) x0 = some (sl bO m)) (hmc:MC Tryz.prog 273 [sl bO m] [] 0 (fun _:Unit => True) (fun _ => .own 0 0 m.length 4) (fun _ => [(0,some (flat bO m))])) (hM:Nat.ble (nidl + 1) aX = true) (hN:Nat.blt d N = true){md':Md}[hmd:MdA md (fP [x0] ++ []) (List.map Sum.inr (List.map Prod.fst ([(nidl,some (flat bO m))]:List (Nat × Option (List AV)))) ++ [.inl d]) md'] (kk:RW Tryz.prog N all Q md' rest ⟨(d,.own nidl 0 m.length 4) :: tsl,gR hsl [(nidl,some (flat bO m))],nidl + 1,z0⟩):RW Tryz.prog N all Q md (⟨some d,.call ⟨.value (.func 273),#[x0],tys⟩,ty,pos,af,none⟩ :: rest) ⟨tsl,hsl,nidl,z0⟩:=by
 exact aZ (l := [x0]) [] 1 [(nidl,some (flat bO m))] hmc (avs := [sl bO m]) (by simp only [evL,ha0]) rfl hM hN (md' := md') (hmd := hmd) kk
theorem gN (m:List Cl) (hm:OkM m):MC Tryz.prog 273 [sl bO m] [] 0 (fun _:Unit => True) (fun _ => .own 0 0 m.length 4) (fun _ => [(0,some (flat bO m))]):=by
 have hml := hm.l
 refine aV Tryz.func273 Tryz.ntmps273 ?_
 repeat' (first|refine aE ?_|fail)
 refine aH (σ := Nat × List Cl) [0] [] (fun k => [(4,iv (k.1 : Int)),(3,.own 0 0 k.1 4)]) (fun k => [(0,some (flat bO k.2))]) (fun k => k.1 ≤ m.length ∧ k.2 = m.take k.1) (fun k => m.length - k.1) (0,[]) ⟨by omega,rfl⟩ ?_
 rintro ⟨i,xs⟩ ⟨hi,hxs⟩
 dsimp only at hi hxs ⊢
 have hln : xs.length = i := by rw [hxs,List.length_take]; exact Nat.min_eq_left hi
 have hst : i < m.length → m[i]!.stk.length ≤ 200 := fun h => (((c7 m).1 hm).2 i h).l.2
 repeat' (first|(apply aF;(with_reducible apply aY (d := 21)))|refine aE ?_|(refine aK ?_ ?_ <;> intro hc hq <;> try (exfalso;omega))|fail)
 ·refine bZ (c8 ?_ (Le.frzD (d := 20) (i := 3) rfl rfl))
  rw [Nat.zero_add m[i]!.stk.length]
  repeat' (first|(apply aF;first|(apply bX;rfl;rfl;rfl;rfl;rfl;(rw [aI]; omega);(rfl);omega;omega;(exact H7 (by (omega)));rfl;rfl)|(apply aJ (t := _);rfl;rfl;rfl;(exact (rfl:_=some [_,_,_,_]));rfl;rfl))|refine aE ?_|fail)
  (refine bE (i + 1,_) (Le.renA [(0,5)]) ?_ ?_)
  ·exact ⟨by dsimp only;omega,by dsimp only;rw [hxs,bG m i (by omega)]⟩
  ·dsimp only;omega
 ·have hie : i = m.length := by omega
  (refine aD rfl ?_; refine aR () trivial ?_ ⟨sE ?_,trivial⟩)
  ·rw [hie]; rfl
  ·rw [hxs,hie,List.take_length]
theorem k4 (m:List Cl) (hm:OkM m) (x:Pt):PC Tryz.prog 276 [sl bO m,nZ x] (fun r => r = .tup [iv (if a7 m x false = 0 then cD m[x.cell.toNat]!.stk x.tag else 0),iv (a7 m x false)]):=by
 have hml := hm.l
 have hcv := oM m (by omega)
 rw [decide_eq_true hm] at hcv
 have hst : 0 ≤ x.cell → x.cell < m.length → m[x.cell.toNat]!.stk.length ≤ 1000000 := fun h1 h2 => Nat.le_trans (((c7 m).1 hm).2 x.cell.toNat (by omega)).l.2 (by decide)
 refine aC Tryz.func276 Tryz.ntmps276 ?_
 repeat' (first|(apply aF;first|(apply aA (k := 272);rfl;exact hcv;exact Pur.pf;rfl)|(apply aA (k := 284);rfl;exact Fp m[x.cell.toNat]!.stk x.tag (hst (by assumption) (by assumption));exact Pur.pf;rfl))|refine aE ?_|(refine aK ?_ ?_ <;> intro hc hq <;> try (exfalso;omega))|(refine bS ?_ ?_ <;> intro hg hq <;> try (exfalso;omega))|refine bQ ?_|fail)
 all_goals (refine aD rfl ⟨?_,rfl⟩; simp only [aO])
 ·rw [Ed (by omega)]; rfl
 ·rw [JU (by assumption) (by assumption) (by assumption)]; rfl
 ·rw [HF (by assumption) (by assumption) (by assumption) (by assumption)]; rfl
 ·rw [tH (by assumption) (by assumption) (by assumption) (by assumption)]; rfl
 ·rw [Ed (by omega)]; rfl
theorem Eh {xs:List Cl}{k:Nat}{s:List Tg}(hk:k < xs.length):hZ (flat bO xs) (0 + k * 4 + 3) [sl cL s] = flat bO (xs.set k { xs[k]! with stk := s }) := eY hk (by simp) rfl
theorem O5 {xs:List Cl}{k:Nat}{v:Int}(hk:k < xs.length):hZ (flat bO xs) (0 + k * 4 + 0) [iv v] = flat bO (xs.set k { xs[k]! with val := v }) := eY hk (by simp) rfl
theorem N7 {xs:List Cl}{k:Nat}{b:Bool}(hk:k < xs.length):hZ (flat bO xs) (0 + k * 4 + 1) [.v (.bool b)] = flat bO (xs.set k { xs[k]! with alive := b }) := eY hk (by simp) rfl
theorem fF {α:Type}{f:α → List AV}{xs:List α}{n:Nat}(h:n = xs.length):AV.imm n (flat f xs) = sl f xs := by subst h;rfl
theorem sR (m:List Cl) (hm:OkM m) (x:Pt):PC Tryz.prog 252 [sl bO m,nZ x] (fun r => r = .tup [sl bO (cV m x false),iv (oN m x),iv (a7 m x false)]):=by
 have hml := hm.l
 have hst : 0 ≤ x.cell → x.cell < m.length → m[x.cell.toNat]!.stk.length ≤ 1000000 := fun h1 h2 => Nat.le_trans (((c7 m).1 hm).2 x.cell.toNat (by omega)).l.2 (by decide)
 by_cases hk : a7 m x false = 0
 ·have hpl := k4 m hm x
  rw [if_pos hk,hk] at hpl
  obtain ⟨h1,h2,h3,h4,_⟩ := dV hk
  have hbd := eG m[x.cell.toNat]!.stk x.tag
  have hrd := JL m[x.cell.toNat]!.stk (cD m[x.cell.toNat]!.stk x.tag).toNat (by omega) (hst h1 h2)
  rw [Int.toNat_of_nonneg h4] at hrd
  refine aC Tryz.func252 Tryz.ntmps252 ?_
  repeat' (first|(apply aF;first|(apply fQ;rfl;exact gN m hm;rfl;rfl)|(apply aA (k := 276);rfl;exact hpl;exact Pur.pf;rfl)|(apply aA (k := 277);rfl;exact hrd;exact Pur.pf;rfl)|(apply bF;rfl;rfl;rfl;rfl;rfl;(rw [aI]; simp only [gE] <;> omega);(exact Eh (by (omega)))))|refine aE ?_|refine bQ ?_|fail)
  (refine aS (Le.frzD (d := 4) (i := 1) rfl rfl) ?_; refine aD rfl ?_)
  refine ⟨?_,by exact Pur.pf⟩
  simp only [aO]
  rw [fF (by rw [List.length_set]),hk]
  unfold cV oN;rw [if_pos hk,if_pos hk]; rfl
 ·have hpl := k4 m hm x
  rw [if_neg hk] at hpl
  refine aC Tryz.func252 Tryz.ntmps252 ?_
  repeat' (first|(apply aF;first|(apply fQ;rfl;exact gN m hm;rfl;rfl)|(apply aA (k := 276);rfl;exact hpl;exact Pur.pf;rfl))|refine aE ?_|(refine aK ?_ ?_ <;> intro hc hq <;> try (exfalso;omega))|fail)
  (refine aS (Le.frzD (d := 4) (i := 1) rfl rfl) ?_; refine aD rfl ?_)
  refine ⟨?_,by exact Pur.pf⟩
  simp only [aO]
  unfold cV oN;rw [if_neg hk,if_neg hk]
theorem Ps {cs:List AV}{i:Nat}{c:AV}:hZ cs i [c] = cs.take i ++ c :: cs.drop (i + 1):=by
 have := zF (cs := cs) (v := i) (c := c)
 rwa [Nat.zero_add,Nat.mul_one] at this
theorem Le.frzCl {ts:List (Nat × AV)}{hs:List (Nat × Option (List AV))}{n:Nat}{z0:Lo}{j q v m:Nat}{u:List Cl}{r:List Tg}(hj:aU hs j = some (hZ (flat bO u) (0 + v * 4 + 3) [.own q 0 m 2])) (hq:aU hs q = some (flat cL r)) (hm:m = r.length) (hv:v < u.length) (hjq:j ≠ q) :
  Le ⟨ts,hs,n,z0⟩ ⟨ts,(j,some (flat bO (u.set v { u[v]! with stk := r }))) :: (q,none) :: hs,n,z0⟩ := by
 subst hm
 have hl : (flat bO u).length = u.length * 4 := aI bO u
 have e := Eh (s := r) hv
 rw [Ps] at hj e
 have h := Le.frzC (ts := ts) (n := n) (z0 := z0) ((flat bO u).take (0 + v * 4 + 3)) hj hq hjq
 rw [← e]; exact h
theorem mM {m:List Cl}{x:Pt}{wr:Bool}:(cV m x wr).length = m.length:=by
 unfold cV;split
 ·rw [List.length_set]
 ·rfl
theorem iS {m:List Cl}{x:Pt}{x0 x1:Operand}(ha0:ev (lk tsl) x0 = some (sl bO m)) (ha1:ev (lk tsl) x1 = some (nZ x)) (hmc:MC Tryz.prog 271 [sl bO m,nZ x] [] 0 (fun _:Unit => True) (fun _ => .tup [.own 1 0 m.length 4,iv (a7 m x true)]) (fun _ => [(1,some (flat bO (cV m x true)))])) (hM:Nat.ble (nidl + 2) aX = true) (hN:Nat.blt d N = true){md':Md}[hmd:MdA md (fP [x0,x1] ++ []) (List.map Sum.inr (List.map Prod.fst ([((nidl + 1),some (flat bO (cV m x true)))]:List (Nat × Option (List AV)))) ++ [.inl d]) md'] (kk:RW Tryz.prog N all Q md' rest ⟨(d,.tup [.own (nidl + 1) 0 m.length 4,iv (a7 m x true)]) :: tsl,gR hsl [((nidl + 1),some (flat bO (cV m x true)))],nidl + 2,z0⟩):RW Tryz.prog N all Q md (⟨some d,.call ⟨.value (.func 271),#[x0,x1],tys⟩,ty,pos,af,none⟩ :: rest) ⟨tsl,hsl,nidl,z0⟩:=by
 exact aZ (l := [x0,x1]) [] 2 [((nidl + 1),some (flat bO (cV m x true)))] hmc (avs := [sl bO m,nZ x]) (by simp only [evL,ha0,ha1]) rfl hM hN (md' := md') (hmd := hmd) kk
theorem j5 (m:List Cl) (x:Pt) (hm:OkM m):MC Tryz.prog 271 [sl bO m,nZ x] [] 0 (fun _:Unit => True) (fun _ => .tup [.own 1 0 m.length 4,iv (a7 m x true)]) (fun _ => [(1,some (flat bO (cV m x true)))]):=by
 have hml := hm.l
 have hst : 0 ≤ x.cell → x.cell < m.length → m[x.cell.toNat]!.stk.length ≤ 200 := fun h1 h2 => (((c7 m).1 hm).2 x.cell.toNat (by omega)).l.2
 have hpl := k4 m hm x
 by_cases hk : a7 m x false = 0
 ·rw [if_pos hk, hk] at hpl
  obtain ⟨h1,h2,h3,h4,_⟩ := dV hk
  have hbd := eG m[x.cell.toNat]!.stk x.tag
  have hs2 := hst h1 h2
  obtain ⟨k,hkk⟩ := Int.eq_ofNat_of_zero_le h4
  rw [hkk] at hpl
  have hkn : k < m[x.cell.toNat]!.stk.length := by omega
  have hkt : (cD m[x.cell.toNat]!.stk x.tag).toNat = k := by omega
  have hwr := A7 (m := m) (x := x)
  rw [if_pos hk,hkt] at hwr
  have e1 : List.take (((k : Int) + 1).toNat - 0) (List.drop 0 m[x.cell.toNat]!.stk) = m[x.cell.toNat]!.stk.take (k + 1) := by rw [List.drop_zero]; congr 1
  have e2 : (m[x.cell.toNat]!.stk.take (k + 1)).length = k + 1 := by rw [List.length_take]; omega
  refine aV Tryz.func271 Tryz.ntmps271 ?_
  repeat' (first|(apply aF;first|(apply fQ;rfl;exact gN m hm;rfl;rfl)|(apply aA (k := 276);rfl;exact hpl;exact Pur.pf;rfl)|(with_reducible apply aY (d := 46)))|refine aE ?_|(refine aK ?_ ?_ <;> intro hc hq <;> try (exfalso;omega))|refine bQ ?_|fail)
  ·have hu : m[x.cell.toNat]!.stk[k]!.uq = false := by assumption
   rw [if_pos hu] at hwr
   (refine aD rfl ?_; refine aR () trivial ?_ ⟨sE ?_,trivial⟩)
   ·rw [hwr]; rfl
   ·unfold cV;rw [if_neg (by rw [hwr]; decide)]
  ·have hu : m[x.cell.toNat]!.stk[k]!.uq = true := by assumption
   rw [if_neg (by rw [hu]; decide)] at hwr
   refine bZ ?_
   rw [e1]
   repeat' (first|(apply aF;(with_reducible apply aY (d := 49)))|refine aE ?_|fail)
   refine bZ (c8 ?_ (Le.frzCl (j := 1) (q := 3) (v := x.cell.toNat) (u := m) (r := m[x.cell.toNat]!.stk.take (k + 1)) rfl rfl (Nat.zero_add _) (by omega) (by decide)))
   repeat' (first|refine aE ?_|fail)
   (refine aD rfl ?_; refine aR () trivial ?_ ⟨sE ?_,trivial⟩)
   ·rw [hwr]; rfl
   ·unfold cV iV fE;rw [if_pos hwr,hkt,if_pos rfl]
 ·rw [if_neg hk] at hpl
  have hk2 : a7 m x true = a7 m x false := by rw [A7,if_neg hk]
  refine aV Tryz.func271 Tryz.ntmps271 ?_
  repeat' (first|(apply aF;first|(apply fQ;rfl;exact gN m hm;rfl;rfl)|(apply aA (k := 276);rfl;exact hpl;exact Pur.pf;rfl))|refine aE ?_|(refine aK ?_ ?_ <;> intro hc hq <;> try (exfalso;omega))|fail)
  (refine aD rfl ?_; refine aR () trivial ?_ ⟨sE ?_,trivial⟩)
  ·rw [hk2]; rfl
  ·unfold cV;rw [if_neg (by rw [hk2]; exact hk)]
theorem set_set {α:Type}{l:List α}{i:Nat}{a b:α}:(l.set i a).set i b = l.set i b := by simp
theorem lN {α:Type}[Inhabited α] {l:List α}{i:Nat}{a:α}(h:i < l.length):(l.set i a)[i]! = a := by rw [bC _ _ (by rw [List.length_set]; exact h),List.getElem_set_self]
theorem Ai (m:List Cl) (hm:OkM m) (x:Pt) (v:Int):PC Tryz.prog 253 [sl bO m,nZ x,iv v] (fun r => r = .tup [sl bO (oQ m x v),iv (qU m x v)]):=by
 have hml := hm.l
 have hlt := mM (m := m) (x := x) (wr := true)
 have hin := dV (m := m) (x := x) (wr := true)
 by_cases hv : 0 ≤ v ∧ v ≤ 9
 ·have hwk : qU m x v = a7 m x true := by unfold qU; rw [if_pos hv]
  by_cases hk : a7 m x true = 0
  ·obtain ⟨h1, h2, _⟩ := hin hk
   refine aC Tryz.func253 Tryz.ntmps253 ?_
   repeat' (first|(apply aF;first|(apply iS;rfl;rfl;exact j5 m x hm;rfl;rfl)|(apply bF;rfl;rfl;rfl;rfl;rfl;(rw [aI]; simp only [gE] <;> omega);(exact O5 (by (omega)))))|refine aE ?_|(refine aK ?_ ?_ <;> intro hc hq <;> try (exfalso;omega))|(refine bS ?_ ?_ <;> intro hg hq <;> try (exfalso;omega))|fail)
   (refine aS (Le.frzD (d := 6) (i := 2) rfl rfl) ?_; refine aD rfl ?_)
   refine ⟨?_,by exact Pur.pf⟩
   simp only [aO]
   rw [fF (by rw [List.length_set,hlt]),hwk]
   unfold oQ cV;rw [if_pos hk,if_pos (by rw [hwk]; exact hk),lN (by omega),set_set]
  ·refine aC Tryz.func253 Tryz.ntmps253 ?_
   repeat' (first|(apply aF;(apply iS;rfl;rfl;exact j5 m x hm;rfl;rfl))|refine aE ?_|(refine aK ?_ ?_ <;> intro hc hq <;> try (exfalso;omega))|(refine bS ?_ ?_ <;> intro hg hq <;> try (exfalso;omega))|fail)
   (refine aS (Le.frzD (d := 6) (i := 2) rfl rfl) ?_; refine aD rfl ?_)
   refine ⟨?_,by exact Pur.pf⟩
   simp only [aO]
   rw [fF (by rw [hlt]),hwk]
   unfold oQ cV;rw [if_neg hk,if_neg (by rw [hwk]; exact hk)]
 ·have hwk : qU m x v = 4 := by unfold qU; rw [if_neg hv]
  have e : oQ m x v = m := by unfold oQ;rw [if_neg (by rw [hwk]; decide)]
  refine aC Tryz.func253 Tryz.ntmps253 ?_
  repeat' (first|(apply aF;(apply fQ;rfl;exact gN m hm;rfl;rfl))|refine aE ?_|(refine aK ?_ ?_ <;> intro hc hq <;> try (exfalso;omega))|(refine bS ?_ ?_ <;> intro hg hq <;> try (exfalso;omega))|fail)
  all_goals (try (exfalso;omega))
  all_goals (
   (refine aS (Le.frzD (d := 6) (i := 1) rfl rfl) ?_; refine aD rfl ?_)
   refine ⟨?_,by exact Pur.pf⟩
   simp only [aO]
   rw [e,hwk])
theorem nA (m:List Cl) (hm:OkM m) (x:Pt):PC Tryz.prog 245 [sl bO m,nZ x] (fun r => r = .tup [sl bO (g8 m x),iv (a7 m x true)]):=by
 have hml := hm.l
 have hlt := mM (m := m) (x := x) (wr := true)
 have hin := dV (m := m) (x := x) (wr := true)
 by_cases hk : a7 m x true = 0
 ·obtain ⟨h1, h2, _⟩ := hin hk
  refine aC Tryz.func245 Tryz.ntmps245 ?_
  repeat' (first|(apply aF;first|(apply iS;rfl;rfl;exact j5 m x hm;rfl;rfl)|(apply bF;rfl;rfl;rfl;rfl;rfl;(rw [aI]; simp only [gE] <;> omega);(exact N7 (by (omega)))))|refine aE ?_|(refine aK ?_ ?_ <;> intro hc hq <;> try (exfalso;omega))|fail)
  (refine aS (Le.frzD (d := 4) (i := 2) rfl rfl) ?_; refine aD rfl ?_)
  refine ⟨?_,by exact Pur.pf⟩
  simp only [aO]
  rw [fF (by rw [List.length_set,hlt])]
  unfold g8 cV;rw [if_pos hk,if_pos hk,lN (by omega),set_set]
 ·refine aC Tryz.func245 Tryz.ntmps245 ?_
  repeat' (first|(apply aF;(apply iS;rfl;rfl;exact j5 m x hm;rfl;rfl))|refine aE ?_|(refine aK ?_ ?_ <;> intro hc hq <;> try (exfalso;omega))|fail)
  (refine aS (Le.frzD (d := 4) (i := 2) rfl rfl) ?_; refine aD rfl ?_)
  refine ⟨?_,by exact Pur.pf⟩
  simp only [aO]
  rw [fF (by rw [hlt])]
  unfold g8 cV;rw [if_neg hk,if_neg hk]
theorem CZ (m:List Cl) (hm:OkM m) (v:Int):PC Tryz.prog 249 [sl bO m,iv v] (fun r => r = .tup (if 0 ≤ v ∧ v ≤ 9 ∧ m.length < 200 then [sl bO (m ++ [oT v]),.agg [iv m.length,iv 0],bv true] else [sl bO [],.agg [iv 0,iv 0],bv false])):=by
 have hml := hm.l
 have hcv := oM m (by omega)
 rw [decide_eq_true hm] at hcv
 refine aC Tryz.func249 Tryz.ntmps249 ?_
 repeat' (first|(apply aF;first|(apply fQ;rfl;exact gN m hm;rfl;rfl)|(apply aA (k := 272);rfl;exact hcv;exact Pur.pf;rfl)|(apply aJ (t := _);rfl;rfl;rfl;(first|exact (rfl:_=some [_,_])|exact (rfl:_=some [_,_,_,_])|rfl);rfl;rfl))|refine aE ?_|(refine aK ?_ ?_ <;> intro hc hq <;> try (exfalso;omega))|(refine bS ?_ ?_ <;> intro hg hq <;> try (exfalso;omega))|fail)
 all_goals try exact aD (l := [sl bO [],.agg [iv 0,iv 0],bv false]) rfl ⟨by rw [if_neg (by omega)]; rfl,rfl⟩
 have e : ((flat bO m).drop 0).take (m.length * 4) ++ [iv v,bv true,iv 1,.imm 1 [iv 0,bv true]] = flat bO (m ++ [oT v]) := eO rfl rfl
 have e2 : AV.imm (m.length + 1) (((flat bO m).drop 0).take (m.length * 4) ++ [iv v, bv true, iv 1, .imm 1 [iv 0, bv true]]) = sl bO (m ++ [oT v]) := by
  rw [e]; exact fF (by rw [List.length_append]; rfl)
 refine aS (Le.frzD (d := 4) (i := 4) rfl rfl) ?_
 refine aD (l := [AV.imm (m.length + 1) (((flat bO m).drop 0).take (m.length * 4) ++ [iv v,bv true,iv 1,.imm 1 [iv 0,bv true]]),.agg [iv m.length,iv 0],bv true]) rfl ?_
 rw [e2,if_pos (by omega)]
 exact ⟨rfl,by exact Pur.pf⟩
def o6 (m : List Cl) (j : Nat) (r : List Tg) : Prop := r.length = 200 ∨ m[j]!.next = 1000
instance (m : List Cl) (j : Nat) (r : List Tg) : Decidable (o6 m j r) := by unfold o6;infer_instance
def kB (m b : List Cl) (j : Nat) (u : Bool) (r : List Tg) : List Cl := if o6 m j r then b else m.set j (psh { m[j]! with stk := r } u)
def j9 (m : List Cl) (j : Nat) (r : List Tg) : Pt := if o6 m j r then ⟨0,0⟩ else ⟨j,m[j]!.next⟩
def kA (m : List Cl) (j : Nat) (r : List Tg) : Int := if o6 m j r then 4 else 0
theorem xZ {m b:List Cl}{j:Nat}{u:Bool}{r:List Tg}{n k:Nat}{x0 x1 x2 x3:Operand}{i0 i1:Nat}(ha0:ev (lk tsl) x0 = some (.own i0 0 n 4)) (ha1:ev (lk tsl) x1 = some (sl bO b)) (ha2:ev (lk tsl) x2 = some (iv (j:Int))) (ha3:ev (lk tsl) x3 = some (bv u)) (hH0:aU hsl i0 = some (flat fH (dJ m j (.own i1 0 k 2)))) (hH1:aU hsl i1 = some (flat cL r)) (hdd:Go.AL.distinct [i0,i1] = true) (hmc:MC Tryz.prog 283 [.own 0 0 n 4,sl bO b,iv (j:Int),bv u] [(0,some (flat fH (dJ m j (.own 1 0 k 2)))),(1,some (flat cL r))] 2 (fun _:Unit => True) (fun _ => .tup [sl bO (kB m b j u r),nZ (j9 m j r),iv (kA m j r)]) (fun _ => [])) (hM:Nat.ble (nidl + 0) aX = true) (hN:Nat.blt d N = true){md':Md}[hmd:MdA md (fP [x0,x1,x2,x3] ++ [.inr i0,.inr i1]) (List.map Sum.inr (List.map Prod.fst ([(i0,none),(i1,none)]:List (Nat × Option (List AV)))) ++ [.inl d]) md'] (kk:RW Tryz.prog N all Q md' rest ⟨(d,.tup [sl bO (kB m b j u r),nZ (j9 m j r),iv (kA m j r)]) :: tsl,gR hsl [(i0,none),(i1,none)],nidl + 0,z0⟩):RW Tryz.prog N all Q md (⟨some d,.call ⟨.value (.func 283),#[x0,x1,x2,x3],tys⟩,ty,pos,af,none⟩ :: rest) ⟨tsl,hsl,nidl,z0⟩:=by
 exact aZ (l := [x0,x1,x2,x3]) [i0,i1] 2 [(i0,none),(i1,none)] hmc (avs := [.own i0 0 n 4,sl bO b,iv (j : Int),bv u]) (by simp only [evL,ha0,ha1,ha2,ha3]) hdd hM hN (md' := md') (hmd := hmd) kk
theorem BH (m b:List Cl) (j:Nat) (u:Bool) (r:List Tg) (n k:Nat) (hb:OkM b) (hn:n = m.length) (hk:k = r.length) (hj:j < m.length) (hnx:0 ≤ m[j]!.next ∧ m[j]!.next ≤ 1000) (hr:r.length ≤ 200) (hml:m.length ≤ 200):MC Tryz.prog 283 [.own 0 0 n 4,sl bO b,iv (j:Int),bv u] [(0,some (flat fH (dJ m j (.own 1 0 k 2)))),(1,some (flat cL r))] 2 (fun _:Unit => True) (fun _ => .tup [sl bO (kB m b j u r),nZ (j9 m j r),iv (kA m j r)]) (fun _ => []):=by
 have hol := dF (m := m) (j := j) (X := .own 1 0 k 2)
 have hog := iF (m := m) (j := j) (X := .own 1 0 k 2) hj
 have hol2 := dF (m := m) (j := j) (X := .own (2 + 1 + 1 + 1) 0 (r.length + 1) 2)
 subst hn hk
 refine aV Tryz.func283 Tryz.ntmps283 ?_
 repeat' (first|(apply aF;(with_reducible apply aY (d := 11)))|refine aE ?_|fail)
 refine bZ ?_
 rw [hog]
 dsimp only
 repeat' (first|(apply aF;first|(apply aA (k := 273);rfl;exact Iz b hb;exact Pur.pf;rfl)|(apply bX;rfl;rfl;rfl;rfl;rfl;(rw [aI]; omega);(rfl);omega;omega;(exact vD (by (omega)));rfl;rfl)|(apply bF;rfl;rfl;rfl;rfl;rfl;(case hl => (first|decide|(rw [aI]; simp only [gE] <;> omega)|(simp;done)));(first|exact uE (by (assumption))|exact Au (by (assumption))))|(apply aJ (t := _);rfl;rfl;rfl;(exact (rfl:_=some [_,_]));rfl;rfl))|refine aE ?_|(refine aK ?_ ?_ <;> intro hc hq <;> try (exfalso;omega))|(refine bS ?_ ?_ <;> intro hg hq <;> try (exfalso;omega))|fail)
 ·have hf : o6 m j r := .inr (by assumption)
  refine aD (l := [sl bO b,.agg [iv 0,iv 0],iv 4]) rfl ?_
  refine aR () trivial ?_ trivial
  unfold kB j9 kA;rw [if_pos hf,if_pos hf,if_pos hf]; rfl
 ·have hf : ¬ o6 m j r := by unfold o6; omega
  have hm2 : (m.set j { m[j]! with next := m[j]!.next + 1 }).length = m.length := List.length_set
  refine aS (Le.cls (o := 0) (q := 5) (j := j) (k := r.length + 1) (m := m.set j { m[j]! with next := m[j]!.next + 1 }) (r := r ++ [⟨m[j]!.next,u⟩]) rfl rfl (by rw [List.length_append]; rfl) (by omega) (by decide)) ?_
  refine aS (Le.frzD (d := 8) (i := 0) rfl rfl) ?_
  have e : (m.set j { m[j]! with next := m[j]!.next + 1 }).set j { (m.set j { m[j]! with next := m[j]!.next + 1 })[j]! with stk := r ++ [⟨m[j]!.next, u⟩] } = m.set j (psh { m[j]! with stk := r } u) := by
   rw [lN hj,set_set]; rfl
  rw [e]
  refine aD (l := [.imm m.length (flat bO (m.set j (psh { m[j]! with stk := r } u))),.agg [iv (j : Int),iv m[j]!.next],iv 0]) rfl ?_
  refine aR () trivial ?_ trivial
  unfold kB j9 kA;rw [if_neg hf,if_neg hf,if_neg hf,fF (by rw [List.length_set])]; rfl
 ·have hf : o6 m j r := .inl (by omega)
  refine aD (l := [sl bO b,.agg [iv 0,iv 0],iv 4]) rfl ?_
  refine aR () trivial ?_ trivial
  unfold kB j9 kA;rw [if_pos hf,if_pos hf,if_pos hf]; rfl
theorem D9 {stk r:List Tg}{k:Nat}{x0 x1:Operand}(ha0:ev (lk tsl) x0 = some (sl cL stk)) (ha1:ev (lk tsl) x1 = some (iv (k:Int))) (hmc:MC Tryz.prog 277 [sl cL stk,iv (k:Int)] [] 0 (fun _:Unit => True) (fun _ => .own 1 0 r.length 2) (fun _ => [(1,some (flat cL r))])) (hM:Nat.ble (nidl + 2) aX = true) (hN:Nat.blt d N = true){md':Md}[hmd:MdA md (fP [x0,x1] ++ []) (List.map Sum.inr (List.map Prod.fst ([((nidl + 1),some (flat cL r))]:List (Nat × Option (List AV)))) ++ [.inl d]) md'] (kk:RW Tryz.prog N all Q md' rest ⟨(d,.own (nidl + 1) 0 r.length 2) :: tsl,gR hsl [((nidl + 1),some (flat cL r))],nidl + 2,z0⟩):RW Tryz.prog N all Q md (⟨some d,.call ⟨.value (.func 277),#[x0,x1],tys⟩,ty,pos,af,none⟩ :: rest) ⟨tsl,hsl,nidl,z0⟩:=by
 exact aZ (l := [x0,x1]) [] 2 [((nidl + 1),some (flat cL r))] hmc (avs := [sl cL stk,iv (k : Int)]) (by simp only [evL,ha0,ha1]) rfl hM hN (md' := md') (hmd := hmd) kk
theorem Hn (stk r:List Tg) (k:Nat) (hr:r = fE stk k false) (hk:k < stk.length) (hl:stk.length ≤ 1000000):MC Tryz.prog 277 [sl cL stk,iv (k:Int)] [] 0 (fun _:Unit => True) (fun _ => .own 1 0 r.length 2) (fun _ => [(1,some (flat cL r))]):=by
 have e1 : List.take (((k : Int) + 1).toNat - 0) (List.drop 0 stk) = stk.take (k + 1) := by rw [List.drop_zero]; congr 1
 have e2 : (stk.take (k + 1)).length = k + 1 := by rw [List.length_take]; omega
 refine aV Tryz.func277 Tryz.ntmps277 ?_
 repeat' (first|(apply aF;(with_reducible apply aY (d := 12)))|refine aE ?_|fail)
 refine bZ ?_
 rw [e1]
 repeat' (first|refine aE ?_|fail)
 refine aH (σ := Nat × List Tg × Nat) [0] [] (fun s => [(6,iv (s.1 : Int)),(5,.own 1 0 s.2.2 2)]) (fun s => [(1,some (flat cL s.2.1))]) (fun s => k + 1 ≤ s.1 ∧ s.1 ≤ stk.length ∧ s.2.1 = stk.take (k + 1) ++ ((stk.drop (k + 1)).take (s.1 - (k + 1))).filter (fun t => !t.uq) ∧ s.2.2 = s.2.1.length ∧ s.2.2 ≤ s.1) (fun s => stk.length - s.1) (k + 1,stk.take (k + 1),0 + (stk.take (k + 1)).length) ⟨Nat.le_refl _,by dsimp only;omega,by simp,by dsimp only;omega,by dsimp only;omega⟩ ?_
 rintro ⟨i,xs,n⟩ ⟨hki,hi,hxs,hn,hni⟩
 dsimp only at hki hi hxs hn hni ⊢
 repeat' (first|(apply aF;first|(apply bX;rfl;rfl;rfl;rfl;rfl;(rw [aI]; omega);(rfl);omega;omega;(exact vD (by (assumption)));rfl;rfl)|(apply aJ (t := _);rfl;rfl;rfl;(exact (rfl:_=some [_,_]));rfl;rfl))|refine aE ?_|(refine aK ?_ ?_ <;> intro hc hq <;> try (exfalso;omega))|fail)
 ·(refine bE (i + 1, _, _) (Le.renA [(1, 3)]) ?_ ?_)
  ·refine ⟨by dsimp only; omega, by dsimp only; omega, ?_, by dsimp only; rw [List.length_append, hn]; rfl, by dsimp only; omega⟩
   dsimp only
   rw [hxs,kC stk hki (by omega),List.filter_append,List.append_assoc]
   congr 2
   have hu : stk[i]!.uq = false := by assumption
   rw [rK (by rw [hu]; rfl)]
  ·dsimp only;omega
 ·(refine bE (i + 1, xs, n) (Le.renA [(1, 1)]) ?_ ?_)
  ·refine ⟨by dsimp only; omega, by dsimp only; omega, ?_, hn, by dsimp only; omega⟩
   dsimp only
   have hu : stk[i]!.uq = true := by assumption
   rw [hxs,kC stk hki (by omega),List.filter_append,nW (by rw [hu]; rfl),List.append_nil]
  ·dsimp only;omega
 ·have hie : i = stk.length := by omega
  have hd : (stk.drop (k + 1)).take (stk.length - (k + 1)) = stk.drop (k + 1) := List.take_of_length_le (by rw [List.length_drop]; exact Nat.le_refl _)
  have hxr : xs = r := by rw [hxs,hie,hd,hr]; rfl
  subst hxr
  (refine aD rfl ?_; refine aR () trivial ?_ ⟨sE ?_,trivial⟩)
  ·rw [hn]; rfl
  ·rfl
theorem Kw {m:List Cl}{x:Pt}{j:Nat}{r:List Tg}{v:Int}{x0 x1:Operand}(ha0:ev (lk tsl) x0 = some (sl bO m)) (ha1:ev (lk tsl) x1 = some (nZ x)) (hmc:MC Tryz.prog 252 [sl bO m,nZ x] [] 0 (fun _:Unit => True) (fun _ => .tup [.own 1 0 m.length 4,iv v,iv 0]) (fun _ => [(1,some (flat fH (dJ m j (.own 3 0 r.length 2)))),(3,some (flat cL r))])) (hM:Nat.ble (nidl + 4) aX = true) (hN:Nat.blt d N = true){md':Md}[hmd:MdA md (fP [x0,x1] ++ []) (List.map Sum.inr (List.map Prod.fst ([((nidl + 1),some (flat fH (dJ m j (.own (nidl + 3) 0 r.length 2)))),((nidl + 3),some (flat cL r))]:List (Nat × Option (List AV)))) ++ [.inl d]) md'] (kk:RW Tryz.prog N all Q md' rest ⟨(d,.tup [.own (nidl + 1) 0 m.length 4,iv v,iv 0]) :: tsl,gR hsl [((nidl + 1),some (flat fH (dJ m j (.own (nidl + 3) 0 r.length 2)))),((nidl + 3),some (flat cL r))],nidl + 4,z0⟩):RW Tryz.prog N all Q md (⟨some d,.call ⟨.value (.func 252),#[x0,x1],tys⟩,ty,pos,af,none⟩ :: rest) ⟨tsl,hsl,nidl,z0⟩:=by
 exact aZ (l := [x0,x1]) [] 4 [((nidl + 1),some (flat fH (dJ m j (.own (nidl + 3) 0 r.length 2)))),((nidl + 3),some (flat cL r))] hmc (avs := [sl bO m,nZ x]) (by simp only [evL,ha0,ha1]) rfl hM hN (md' := md') (hmd := hmd) kk
theorem Mz (m:List Cl) (x:Pt) (j:Nat) (r:List Tg) (v:Int) (hm:OkM m) (hk:a7 m x false = 0) (hj:j = x.cell.toNat) (hr:r = fE m[j]!.stk (cD m[j]!.stk x.tag).toNat false) (hv:v = m[j]!.val):MC Tryz.prog 252 [sl bO m,nZ x] [] 0 (fun _:Unit => True) (fun _ => .tup [.own 1 0 m.length 4,iv v,iv 0]) (fun _ => [(1,some (flat fH (dJ m j (.own 3 0 r.length 2)))),(3,some (flat cL r))]):=by
 subst hj
 have hml := hm.l
 have hst : 0 ≤ x.cell → x.cell < m.length → m[x.cell.toNat]!.stk.length ≤ 1000000 := fun h1 h2 => Nat.le_trans (((c7 m).1 hm).2 x.cell.toNat (by omega)).l.2 (by decide)
 have hpl := k4 m hm x
 rw [if_pos hk,hk] at hpl
 obtain ⟨h1,h2,h3,h4,_⟩ := dV hk
 have hbd := eG m[x.cell.toNat]!.stk x.tag
 have hrd := Hn m[x.cell.toNat]!.stk r (cD m[x.cell.toNat]!.stk x.tag).toNat hr (by omega) (hst h1 h2)
 rw [Int.toNat_of_nonneg h4] at hrd
 obtain ⟨k,hkk⟩ := Int.eq_ofNat_of_zero_le h4
 rw [hkk] at hpl hrd
 refine aV Tryz.func252 Tryz.ntmps252 ?_
 repeat' (first|(apply aF;first|(apply fQ;rfl;exact gN m hm;rfl;rfl)|(apply aA (k := 276);rfl;exact hpl;exact Pur.pf;rfl)|(apply D9;rfl;rfl;exact hrd;rfl;rfl)|(apply bF;rfl;rfl;rfl;rfl;rfl;(rw [aI]; simp only [gE] <;> omega);(exact A2 (by (omega)))))|refine aE ?_|refine bQ ?_|fail)
 (refine aD rfl ?_; refine aR () trivial ?_ ⟨sE ?_,⟨sE ?_,trivial⟩⟩)
 ·rw [hv]; rfl
 ·rfl
 ·rfl
theorem He {m:List Cl}{x:Pt}{j:Nat}{r:List Tg}{x0 x1:Operand}(ha0:ev (lk tsl) x0 = some (sl bO m)) (ha1:ev (lk tsl) x1 = some (nZ x)) (hmc:MC Tryz.prog 271 [sl bO m,nZ x] [] 0 (fun _:Unit => True) (fun _ => .tup [.own 1 0 m.length 4,iv 0]) (fun _ => [(1,some (flat fH (dJ m j (.own 3 0 r.length 2)))),(3,some (flat cL r))])) (hM:Nat.ble (nidl + 4) aX = true) (hN:Nat.blt d N = true){md':Md}[hmd:MdA md (fP [x0,x1] ++ []) (List.map Sum.inr (List.map Prod.fst ([((nidl + 1),some (flat fH (dJ m j (.own (nidl + 3) 0 r.length 2)))),((nidl + 3),some (flat cL r))]:List (Nat × Option (List AV)))) ++ [.inl d]) md'] (kk:RW Tryz.prog N all Q md' rest ⟨(d,.tup [.own (nidl + 1) 0 m.length 4,iv 0]) :: tsl,gR hsl [((nidl + 1),some (flat fH (dJ m j (.own (nidl + 3) 0 r.length 2)))),((nidl + 3),some (flat cL r))],nidl + 4,z0⟩):RW Tryz.prog N all Q md (⟨some d,.call ⟨.value (.func 271),#[x0,x1],tys⟩,ty,pos,af,none⟩ :: rest) ⟨tsl,hsl,nidl,z0⟩:=by
 exact aZ (l := [x0,x1]) [] 4 [((nidl + 1),some (flat fH (dJ m j (.own (nidl + 3) 0 r.length 2)))),((nidl + 3),some (flat cL r))] hmc (avs := [sl bO m,nZ x]) (by simp only [evL,ha0,ha1]) rfl hM hN (md' := md') (hmd := hmd) kk
theorem J4 (m:List Cl) (x:Pt) (j:Nat) (r:List Tg) (hm:OkM m) (hk:a7 m x true = 0) (hj:j = x.cell.toNat) (hr:r = fE m[j]!.stk (cD m[j]!.stk x.tag).toNat true):MC Tryz.prog 271 [sl bO m,nZ x] [] 0 (fun _:Unit => True) (fun _ => .tup [.own 1 0 m.length 4,iv 0]) (fun _ => [(1,some (flat fH (dJ m j (.own 3 0 r.length 2)))),(3,some (flat cL r))]):=by
 subst hj
 have hml := hm.l
 obtain ⟨h1,h2,h3,h4,hu⟩ := dV hk
 have hk0 : a7 m x false = 0 := tH h1 h2 h3 h4
 have hs2 : m[x.cell.toNat]!.stk.length ≤ 200 := (((c7 m).1 hm).2 x.cell.toNat (by omega)).l.2
 have hpl := k4 m hm x
 rw [if_pos hk0,hk0] at hpl
 have hbd := eG m[x.cell.toNat]!.stk x.tag
 obtain ⟨k,hkk⟩ := Int.eq_ofNat_of_zero_le h4
 have hkt : (cD m[x.cell.toNat]!.stk x.tag).toNat = k := by omega
 rw [hkk] at hpl
 rw [hkt] at hr hu
 have hkn : k < m[x.cell.toNat]!.stk.length := by omega
 have e1 : List.take (((k : Int) + 1).toNat - 0) (List.drop 0 m[x.cell.toNat]!.stk) = r := by rw [List.drop_zero,hr]; unfold fE;rw [if_pos rfl]; congr 1
 have e2 : r.length = k + 1 := by rw [← e1,List.drop_zero,List.length_take]; omega
 have hut := hu rfl
 refine aV Tryz.func271 Tryz.ntmps271 ?_
 repeat' (first|(apply aF;first|(apply fQ;rfl;exact gN m hm;rfl;rfl)|(apply aA (k := 276);rfl;exact hpl;exact Pur.pf;rfl)|(with_reducible apply aY (d := 46)))|refine aE ?_|(refine aK ?_ ?_ <;> intro hc hq <;> try (exfalso;omega))|refine bQ ?_|fail)
 ·exfalso; have hf : m[x.cell.toNat]!.stk[k]!.uq = false := by assumption
  rw [hut] at hf;exact absurd hf (by decide)
 refine bZ ?_
 rw [e1]
 repeat' (first|(apply aF;(apply bF;rfl;rfl;rfl;rfl;rfl;(rw [aI]; simp only [gE] <;> omega);(exact A2 (by (omega)))))|refine aE ?_|fail)
 (refine aD rfl ?_; refine aR () trivial ?_ ⟨sE ?_,⟨sE ?_,trivial⟩⟩)
 ·rfl
 ·rw [Nat.zero_add r.length]
 ·rfl
theorem mB {m:List Cl}{x:Pt}{u:Bool}{r:List Tg}(hk:a7 m x u = 0) (hr:r = fE m[x.cell.toNat]!.stk (cD m[x.cell.toNat]!.stk x.tag).toNat u):kV m x u = kA m x.cell.toNat r ∧ jT m x u = kB m m x.cell.toNat u r ∧ qI m x u = j9 m x.cell.toNat r:=by
 obtain ⟨h1,h2,_⟩ := dV hk
 subst hr
 have e : kV m x u = kA m x.cell.toNat (fE m[x.cell.toNat]!.stk (cD m[x.cell.toNat]!.stk x.tag).toNat u) := by
  unfold kV;rw [if_pos hk]; rfl
 refine ⟨e,?_,?_⟩
 ·unfold jT kB
  rw [e]; unfold kA
  split
  ·rw [if_neg (by decide)]
  ·rw [if_pos rfl]; rfl
 ·unfold qI j9
  rw [e]; unfold kA
  split
  ·rw [if_neg (by decide)]
  ·rw [if_pos rfl,Int.toNat_of_nonneg h1]
theorem JR {m:List Cl}{x:Pt}{u:Bool}(hk:a7 m x u ≠ 0):kV m x u = a7 m x u ∧ jT m x u = m ∧ qI m x u = ⟨0,0⟩:=by
 have e : kV m x u = a7 m x u := by unfold kV;rw [if_neg hk]
 exact ⟨e,by unfold jT;rw [if_neg (by rw [e]; exact hk)],by unfold qI;rw [if_neg (by rw [e]; exact hk)]⟩
theorem AP (m:List Cl) (hm:OkM m) (x:Pt):PC Tryz.prog 274 [sl bO m,nZ x] (fun r => r = .tup [sl bO (jT m x false),nZ (qI m x false),iv (kV m x false)]):=by
 have hml := hm.l
 by_cases hk : a7 m x false = 0
 ·obtain ⟨c, t⟩ := x
  obtain ⟨h1,h2,_⟩ := dV hk
  have h1' : 0 ≤ c := h1
  obtain ⟨j,rfl⟩ := Int.eq_ofNat_of_zero_le h1'
  have h2' : (j : Int) < m.length := h2
  have hc := ((c7 m).1 hm).2 j (by omega)
  obtain ⟨r,hr⟩ : ∃ r,r = fE m[j]!.stk (cD m[j]!.stk t).toNat false := ⟨_,rfl⟩
  have hrl : r.length ≤ 200 := by rw [hr]; exact Nat.le_trans tchS_sub.length_le hc.l.2
  obtain ⟨e1,e2,e3⟩ := mB hk hr
  have hpu := BH m m j false r m.length r.length hm rfl rfl (by omega) (by have := hc.n;omega) hrl hml
  rw [e1,e2,e3]
  refine aC Tryz.func274 Tryz.ntmps274 ?_
  repeat' (first|(apply aF;first|(apply Kw (j := j) (r := r) (v := m[j]!.val);rfl;rfl;exact Mz m _ _ r _ hm hk rfl hr rfl;rfl;rfl)|(apply xZ (m := m) (b := m) (j := j) (u := false) (r := r) (n := m.length) (k := r.length);rfl;rfl;rfl;rfl;rfl;rfl;rfl;exact hpu;rfl;rfl))|refine aE ?_|fail)
  exact aD (l := [sl bO (kB m m j false r),.agg [iv (j9 m j r).cell,iv (j9 m j r).tag],iv (kA m j r)]) rfl ⟨rfl,by exact Pur.pf⟩
 ·obtain ⟨e1, e2, e3⟩ := JR hk
  have hrd := sR m hm x
  have e4 : cV m x false = m := by unfold cV;rw [if_neg hk]
  rw [e4] at hrd
  rw [e1,e2,e3]
  refine aC Tryz.func274 Tryz.ntmps274 ?_
  repeat' (first|(apply aF;(apply aA (k := 252);rfl;exact hrd;exact Pur.pf;rfl))|refine aE ?_|(refine aK ?_ ?_ <;> intro hc hq <;> try (exfalso;omega))|fail)
  skip
  exact aD (l := [sl bO m,.agg [iv 0,iv 0],iv (a7 m x false)]) rfl ⟨rfl,by exact Pur.pf⟩
theorem xF (m:List Cl) (hm:OkM m) (x:Pt):PC Tryz.prog 275 [sl bO m,nZ x] (fun r => r = .tup [sl bO (jT m x true),nZ (qI m x true),iv (kV m x true)]):=by
 have hml := hm.l
 by_cases hk : a7 m x true = 0
 ·obtain ⟨c, t⟩ := x
  obtain ⟨h1,h2,_⟩ := dV hk
  have h1' : 0 ≤ c := h1
  obtain ⟨j,rfl⟩ := Int.eq_ofNat_of_zero_le h1'
  have h2' : (j : Int) < m.length := h2
  have hc := ((c7 m).1 hm).2 j (by omega)
  obtain ⟨r,hr⟩ : ∃ r,r = fE m[j]!.stk (cD m[j]!.stk t).toNat true := ⟨_,rfl⟩
  have hrl : r.length ≤ 200 := by rw [hr]; exact Nat.le_trans tchS_sub.length_le hc.l.2
  obtain ⟨e1,e2,e3⟩ := mB hk hr
  have hpu := BH m m j true r m.length r.length hm rfl rfl (by omega) (by have := hc.n;omega) hrl hml
  rw [e1,e2,e3]
  refine aC Tryz.func275 Tryz.ntmps275 ?_
  repeat' (first|(apply aF;first|(apply He (j := j) (r := r);rfl;rfl;exact J4 m _ _ r hm hk rfl hr;rfl;rfl)|(apply xZ (m := m) (b := m) (j := j) (u := true) (r := r) (n := m.length) (k := r.length);rfl;rfl;rfl;rfl;rfl;rfl;rfl;exact hpu;rfl;rfl))|refine aE ?_|fail)
  exact aD (l := [sl bO (kB m m j true r),.agg [iv (j9 m j r).cell,iv (j9 m j r).tag],iv (kA m j r)]) rfl ⟨rfl,by exact Pur.pf⟩
 ·obtain ⟨e1, e2, e3⟩ := JR hk
  have hwr := j5 m x hm
  have e4 : cV m x true = m := by unfold cV;rw [if_neg hk]
  rw [e1,e2,e3]
  refine aC Tryz.func275 Tryz.ntmps275 ?_
  repeat' (first|(apply aF;(apply iS;rfl;rfl;exact hwr;rfl;rfl))|refine aE ?_|(refine aK ?_ ?_ <;> intro hc hq <;> try (exfalso;omega))|fail)
  refine aS (Le.frzD (d := 4) (i := 3) (m := m.length) (cs := flat bO (cV m x true)) rfl rfl) ?_
  rw [e4]
  exact aD (l := [sl bO m,.agg [iv 0,iv 0],iv (a7 m x true)]) rfl ⟨rfl,by exact Pur.pf⟩
abbrev gG (s : Mc) : AV := .agg [sl dK s.slots,sl bO s.cells,sl cI s.read]
theorem yT {xs:List Sl}{k:Nat}{a:Bool}{b c d:Int}(hk:k < xs.length):hZ (flat dK xs) (0 + k * 4) [bv a,iv b,iv c,iv d] = flat dK (xs.set k ⟨a,b,⟨c,d⟩⟩) := iR hk rfl
theorem r9 (s:Mc) (v:Nat) (hv:v < s.slots.length) (hl:s.slots.length ≤ 1000000):PC Tryz.prog 247 [gG s,iv (v:Int)] (fun r => r = gG ⟨s.slots.set v gP,s.cells,s.read⟩):=by
 refine aC Tryz.func247 Tryz.ntmps247 ?_
 repeat' (first|(apply aF;(apply bF;rfl;rfl;rfl;rfl;rfl;(case hl => (first|(rw [aI]; simp only [gE] <;> omega)|(simp;done)));(exact yT (by (assumption)))))|refine aE ?_|fail)
 refine aS (Le.frzC (j := 1) (i := 3) [] rfl rfl (by decide)) ?_
 have e : AV.imm (0 + s.slots.length) (flat dK (s.slots.set v gP)) = sl dK (s.slots.set v gP) := fF (by rw [List.length_set,Nat.zero_add])
 refine aD (l := [.agg [.imm (0 + s.slots.length) (flat dK (s.slots.set v gP)),sl bO s.cells,sl cI s.read]]) rfl ?_
 rw [e]
 exact ⟨rfl,by exact Pur.pf⟩
theorem Ia (k:Int):(if kI k = -1 then (0:Int) else kI k) = if k = 1 then 3 else if k = 0 then 0 else 4:=by
 unfold kI eJ
 by_cases h : k = 0
 ·subst h;rfl
 ·rw [if_neg h, if_neg h]
  by_cases h1 : k = 1
  ·rw [if_pos h1]; rfl
  ·rw [if_neg h1]; rfl
theorem lU (ts:List Int) (s:Mc) (v:Nat) (y:Sl) (hm:OkM s.cells) (hv:v < s.slots.length) (hvt:v < ts.length) (hl:s.slots.length ≤ 1000000):PC Tryz.prog 248 [sl cI ts,gG s,iv (v:Int),JA y] (fun r => r = .tup [gG (bK ts s v y).1,iv (if (bK ts s v y).2 = -1 then 0 else (bK ts s v y).2)]):=by
 have hfc := nA s.cells hm s.slots[v]!.ptr
 refine aC Tryz.func248 Tryz.ntmps248 ?_
 repeat' (first|(apply aF;first|(apply aA (k := 245);rfl;exact hfc;exact Pur.pf;rfl)|(apply bF;rfl;rfl;rfl;rfl;rfl;(case hl => (first|(rw [aI]; simp only [gE] <;> omega)|(simp;done)));(exact yT (by (assumption))))|(apply aA (k := 246);rfl;(apply k5);(rfl);rfl))|refine aE ?_|(refine aK ?_ ?_ <;> intro hc hq <;> try (exfalso;omega))|(refine bS ?_ ?_ <;> intro hg hq <;> try (exfalso;omega))|refine bQ ?_|fail)
 all_goals (
  refine aS (Le.frzC (j := 2) (i := 4) [] rfl rfl (by decide)) ?_
  have e : AV.imm (0 + s.slots.length) (flat dK (s.slots.set v y)) = sl dK (s.slots.set v y) := fF (by rw [List.length_set,Nat.zero_add]))
 ·have hp : bK ts s v y = (⟨s.slots.set v y, g8 s.cells s.slots[v]!.ptr, s.read⟩, kI (a7 s.cells s.slots[v]!.ptr true)) := if_pos ⟨by assumption, by assumption⟩
  refine aD (l := [.agg [.imm (0 + s.slots.length) (flat dK (s.slots.set v y)),sl bO (g8 s.cells s.slots[v]!.ptr),sl cI s.read],iv (if a7 s.cells s.slots[v]!.ptr true = 1 then 3 else if a7 s.cells s.slots[v]!.ptr true = 0 then 0 else 4)]) rfl ?_
  rw [e,hp]
  dsimp only
  rw [Ia]
  exact ⟨rfl,by exact Pur.pf⟩
 all_goals (
  have hp : bK ts s v y = (⟨s.slots.set v y, s.cells, s.read⟩, -1) := if_neg (by
   rintro ⟨q1,q2⟩
   first|(exact (by assumption : ¬ ts[v]! = 2) q1)|(rw [(by assumption : s.slots[v]!.set = false)] at q2;exact absurd q2 (by decide)))
  refine aD (l := [.agg [.imm (0 + s.slots.length) (flat dK (s.slots.set v y)),sl bO s.cells,sl cI s.read],iv 0]) rfl ?_
  rw [e,hp]
  exact ⟨rfl,by exact Pur.pf⟩)
end Go.Proofs.YtahdccneecdmmaaGreat
