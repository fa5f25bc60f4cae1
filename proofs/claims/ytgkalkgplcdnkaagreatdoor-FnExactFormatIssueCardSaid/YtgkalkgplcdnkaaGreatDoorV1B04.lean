/-
 A part of the proofs over this program: rules and contracts of its functions (the contracts).
-/
import Derived.Test.YtgkalkgplcdnkaaGreatDoorV1B03
import Derived.Test.YtgkalkgplcdnkaaGreatDoorRows
import Derived.WalkKit
import Derived.ProofKit
import Derived.OpenShut
import Derived.Carry
import Derived.ChangeSlices
set_option linter.unusedVariables false
set_option linter.unusedSimpArgs false
set_option maxHeartbeats 8000000
set_option maxRecDepth 4000
attribute [local irreducible] Go.AL.RW Go.AL.AW Go.AL.Stop
namespace Go.Proofs.YtgkalkgplcdnkaaGreatDoor
open Go.AL Go.RowKit
class NumS (cs : List AV) (xs : outParam (List ByteArray)) : Prop where h : cs = flat yQ xs
instance NumS.nil : NumS [] []:=⟨rfl⟩
instance NumS.cons {n : ByteArray} {cs : List AV} {xs : List ByteArray} [h : NumS cs xs] : NumS (.v (.string n) :: cs) (n :: xs):=⟨by rw [h.h]; rfl⟩
theorem EJ {cs:List AV}{xs:List ByteArray}{m:Nat}(h:NumS cs xs) (hm:m = xs.length) (hs:xs.all (fun s => decide (s.size ≤ 600)) = true):∃ ys:List ByteArray,AV.imm m cs = sl yQ ys ∧ ys.length = m ∧ ∀ i:Nat,(ys[i]!).size ≤ 600:=by
 refine ⟨xs,by rw [h.h,hm],hm.symm,fun i => ?_⟩
 by_cases hi : i < xs.length
 ·rw [List.all_eq_true] at hs
  rw [bE _ _ hi]
  simpa using hs _ (List.getElem_mem hi)
 ·rw [getElem!_neg xs i hi]; decide
theorem B0:PC Tryz.prog 71 [] (fun r => ∃ ys:List ByteArray,r = sl yQ ys ∧ ys.length = 25 ∧ ∀ i:Nat,(ys[i]!).size ≤ 600):=by
 refine aB Tryz.func71 Tryz.ntmps71 ?_
 repeat' (first|(apply aI;(apply aO (t := _);rfl;rfl;rfl;exact (rfl:_=some [_,_,_,_,_,_,_,_,_,_,_,_,_,_,_,_,_,_,_,_,_,_,_,_,_]);rfl;rfl))|refine aD ?_|fail)
 refine pO (l := [.imm 25 [_,_,_,_,_,_,_,_,_,_,_,_,_,_,_,_,_,_,_,_,_,_,_,_,_]]) ?_ rfl ?_
 ·rintro _ ⟨ys,rfl,_⟩; exact bC _ _
 ·exact EJ inferInstance rfl (by decide)
theorem o6 {P:Program}{N:Nat}{Q:Exit → AS → Prop}{all:Array Oper}{rest:List Oper}{ts:List (Nat × AV)}{hs:List (Nat × Option (List AV))}{n:Nat}{z0:Lo}{ty:TypeId}{pos:String}{af:Array Edge}{d:Nat}{args:Array Operand}{tys:Array TypeId}
  {k : FuncId} {pv : List AV} {p0 : Prg × Nat → Prop} {i p : Nat} {bs : List UInt8} (h : MC P k (.optr 0 0 :: pv) [(0,some (dD bs p))] 1 p0 (fun x => bZ x.1) (fun x => [(0,some (dD bs x.2))])) [hc : CaT P k] (ha : evL (lk ts) args.toList = some (.optr i 0 :: pv)) (hpv : aZ pv = true)
  (hH : aP hs i = some (dD bs p)) (hM : Nat.ble (n + 0) aS = true) (hN : Nat.blt d N = true) (kk : ∀ x,p0 x → RW P N all Q .txt rest ⟨(d,bZ x.1) :: ts,(i,some (dD bs x.2)) :: hs,n + 0,z0⟩) :
  RW P N all Q .txt (⟨some d,.call ⟨.value (.func k),args,tys⟩,ty,pos,af,none⟩ :: rest) ⟨ts,hs,n,z0⟩ :=
 Fb (σ := Prg × Nat) [i] 1 (fun x : Prg × Nat => [(i, some (dD bs x.2))]) h ha rfl ⟨⟨_, _, rfl, hH, RnL.purI inferInstance⟩, trivial⟩ rfl (RnL.cons (RnV.optr rfl) (RnL.pur hpv)) (by simpa using hM)
  (fun x _ => RnV.purI inferInstance) (fun x _ => by simp [qA]) (fun x _ => ⟨⟨0,_,rfl,rfl,RnL.purI inferInstance⟩,trivial⟩) hN kk
theorem IG (bs:List UInt8) (p:Nat) (xs:List Int) (lo hi:Int) (h0:0 < xs.length) (h:xs.all (fun x => decide (lo ≤ x) && decide (x ≤ hi)) = true):lo ≤ fR bs p xs ∧ fR bs p xs ≤ hi:=by
 have h1 := cL bs p (xs.length : Int)
 rw [hG] at h
 have := h (aV bs p (xs.length : Int)).toNat (by omega)
 simp only [Bool.and_eq_true,decide_eq_true_eq] at this
 exact this
theorem HZ (bs:List UInt8) (p:Nat) (hb:bs.length ≤ 2000) (hp:p ≤ 1000):MC Tryz.prog 37 [.optr 0 0] [(0,some (dD bs p))] 1 (fun x:Prg × Nat => aK x.1.body ≤ 620 ∧ x.1.types.length ≤ 620 ∧ x.2 ≤ 2000) (fun x => bZ x.1) (fun x => [(0,some (dD bs x.2))]):=by
 have h0 := cL bs p 25
 have hn := IG bs (p + 1 + 1) [5,4,7,3,8] 0 8 (by decide) (by decide)
 refine bU Tryz.func37 Tryz.ntmps37 ?_
 repeat' (first|(apply aI;first|(apply gT (k := 71);rfl;exact B0;(rfl);rfl;(rintro _ ⟨ys,rfl,hyl,hsz⟩ _);(have hpk := cL bs p (ys.length : Int)))|(apply gT (k := 72);rfl;exact pW _ (Nat.le_trans (hsz _) (by decide));(rfl);rfl;(rintro _ ⟨q,b,rfl,hqc,hqt⟩ _))|(apply rV (ts := [1,2,2,3,4,4]);rfl;rfl;rfl;rfl;rfl;(apply Dj <;> (first|assumption|omega));rfl;rfl)|(apply aO (t := _);rfl;rfl;rfl;(exact (rfl:_=some [_,_,_,_,_,_]));rfl;rfl)|(first|(apply iX;rfl;rfl;(rfl);(apply lA <;> (first|assumption|omega));rfl;rfl)|(apply Bf;rfl;rfl;rfl;rfl;infer_instance;rfl;(rfl);assumption;omega;(decide);(decide);rfl;rfl)))|refine aD ?_|(refine aL ?_ ?_ <;> intro hc hq <;> try (exfalso;omega))|(refine bT ?_ ?_ <;> intro hg hq <;> try (exfalso;omega))|refine bV ?_|fail)
 ·have h9 := hsz (aV bs p (ys.length : Int)).toNat
  refine aH rfl ?_
  exact bQ (q,p + 1 + 1) ⟨by dsimp only;omega,by dsimp only;omega,by dsimp only;omega⟩ rfl ⟨.inr rfl,trivial⟩
 ·have h9 := Gg bs (d := 2) (by omega) (fR bs (p + 1 + 1) [5, 4, 7, 3, 8]) (p + 1 + 1 + 1)
  have h10 := sZ bs (d := 2) (by omega) (fR bs (p + 1 + 1) [5,4,7,3,8]) (p + 1 + 1 + 1)
  refine aH rfl ?_
  exact bQ ((⟨[1,2,2,3,4,4],(cM bs 2 (fR bs (p + 1 + 1) [5,4,7,3,8]) (p + 1 + 1 + 1)).1⟩ : Prg),(cM bs 2 (fR bs (p + 1 + 1) [5,4,7,3,8]) (p + 1 + 1 + 1)).2) ⟨by dsimp only;omega,by show 6 ≤ 620;decide,by dsimp only;omega⟩ rfl ⟨.inr rfl,trivial⟩
 ·have h9 := hsz (aV bs p (ys.length : Int)).toNat
  refine aH rfl ?_
  exact bQ (q,p + 1 + 1) ⟨by dsimp only;omega,by dsimp only;omega,by dsimp only;omega⟩ rfl ⟨.inr rfl,trivial⟩
theorem zJ {bs:List UInt8}{N:Nat}{Q:Exit → AS → Prop}{all:Array Oper}{rest:List Oper}{tsl:List (Nat × AV)}{hsl:List (Nat × Option (List AV))}{nidl:Nat}{z0:Lo}{md:Md}{d:Nat}{ty:TypeId}{pos:String}{af:Array Edge}{tys:Array TypeId}{x0:Operand}(ha0:ev (lk tsl) x0 = some (sl cU bs)) (hmc:MC Tryz.prog 35 [sl cU bs] [] 0 (fun _:Unit => True) (fun _ => .optr 0 0) (fun _ => [(0,some (dD (bs.take 2000) 0))])) (hM:Nat.ble (nidl + 1) aS = true) (hN:Nat.blt d N = true){md':Md}[hmd:MdA md (iD [x0] ++ []) (List.map Sum.inr (List.map Prod.fst ([(nidl,some (dD (bs.take 2000) 0))]:List (Nat × Option (List AV)))) ++ [.inl d]) md'] (kk:RW Tryz.prog N all Q md' rest ⟨(d,.optr nidl 0) :: tsl,kO hsl [(nidl,some (dD (bs.take 2000) 0))],nidl + 1,z0⟩):RW Tryz.prog N all Q md (⟨some d,.call ⟨.value (.func 35),#[x0],tys⟩,ty,pos,af,none⟩ :: rest) ⟨tsl,hsl,nidl,z0⟩:=by
 exact bR (l := [x0]) [] 1 [(nidl,some (dD (bs.take 2000) 0))] hmc (avs := [sl cU bs]) (by simp only [evL,ha0]) rfl hM hN (md' := md') (hmd := hmd) kk
theorem Bv (bs:List UInt8) (hb:bs.length ≤ 1048576):MC Tryz.prog 35 [sl cU bs] [] 0 (fun _:Unit => True) (fun _ => .optr 0 0) (fun _ => [(0,some (dD (bs.take 2000) 0))]) := IK bs hb
theorem rX (p:Prg) (hv:b0 p = false) (hl:p.types.length ≤ 1048576) (hs:aK p.body ≤ 1048576):PC Tryz.prog 13 [bZ p] (fun r => r = sl eJ []):=by
 refine aB Tryz.func13 Tryz.ntmps13 ?_
 repeat' (first|(apply aI;(apply aA (k := 29);rfl;(exact (by have := gA p hl hs;rw [if_neg (by simp [hv])] at this;exact this));exact Pur.pf;rfl))|refine aD ?_|fail)
 (refine aT (Le.nilImm (d := 2) rfl) ?_; refine aH rfl ?_)
 exact ⟨rfl,rfl⟩
theorem rZ (p:Prg) (hv:b0 p = false) (hl:p.types.length ≤ 1048576) (hs:aK p.body ≤ 1048576):PC Tryz.prog 22 [bZ p] (fun r => r = sl eJ []):=by
 have hval := l7 p hl (by omega)
 rw [hv] at hval
 refine aB Tryz.func22 Tryz.ntmps22 ?_
 repeat' (first|(apply aI;first|(apply aA (k := 51);rfl;exact hval;exact Pur.pf;rfl)|(apply aO (t := _);rfl;rfl;rfl;(rfl);rfl;rfl))|refine aD ?_|fail)
 exact aH rfl ⟨rfl,rfl⟩
theorem yJ (p:Prg) (hl:p.types.length ≤ 1048576) (hs:aK p.body ≤ 1048576):∃ L:List Iss,PC Tryz.prog 13 [bZ p] (fun r => r = sl eJ L) ∧ PC Tryz.prog 22 [bZ p] (fun r => r = sl eJ L) ∧ (b0 p = false → L = []) ∧
  (∀ k,k < L.length → IsOk p.types.length (if b0 p = true then aC p else []).length L[k]!) ∧ (∀ k,k + 1 < L.length → L[k]!.point ≤ L[k + 1]!.point) ∧ L.length ≤ 1048576 := by
 cases hv : b0 p
 ·exact ⟨[],rX p hv hl hs,rZ p hv hl hs,fun _ => rfl,fun k h => by simp at h,fun k h => by simp at h,by simp⟩
 ·have w := WG.of_valid hv
  obtain ⟨f⟩ := Flows.ex w
  obtain ⟨h1,h2⟩ := EZ w f
  have e : zY p f = f.iss := if_pos hv
  refine ⟨f.iss,?_,?_,fun h => Bool.noConfusion h,?_,h2,?_⟩
  ·rw [← e]; exact xI p f hl hs
  ·rw [← e]; exact w7 p f hl hs
  ·exact h1
  ·exact Nat.le_trans (kD w f) (by decide)
instance : Eq3 Tryz.prog 34 where
 g := Tryz.eqGuardType34
 e := fun a b c a' b' c' w => by
  have u3 := Tryz.underlying3
  have a3 := Tryz.isAgg3
  have z3 := Tryz.sizeOf3
  have hS : Tryz.prog.underlying 34 = some (.struct (Tryz.prog.fieldsOf 34)) := by kernel_rfl
  have hp : Tryz.prog.stoodInHeld 34 = false := by kernel_rfl
  rw [show (10000 : Nat) = 9999 + 1 from rfl,run_equalIn_agg w 9999 34 _ _ hS hp]
  simp only [Program.fieldsOf,Tryz.underlying34]
  go_simp
  by_cases h1 : a = a' <;> by_cases h2 : b = b' <;> by_cases h3 : c = c' <;> simp [h1,h2,h3]
def u1 (Af : List Nat) (i loan : Int) (v : Int) : Bool := (dC Af i.toNat)[v.toNat]!.testBit loan.toNat
theorem B5 (bs:List UInt8) (hb:bs.length ≤ 1048576):PC Tryz.prog 12 [sl cU bs] (fun r => ∃ (q:Prg) (x:Iss),r = .tup [bZ q,iR x] ∧ aK q.body ≤ 20000 ∧ q.types.length ≤ 1000):=by
 have hb2 : (bs.take 2000).length ≤ 2000 := by rw [List.length_take]; omega
 refine aB Tryz.func12 Tryz.ntmps12 ?_
 repeat' (first|(apply aI;first|(apply o6 (k := 37);exact HZ (bs.take 2000) 0 hb2 (by decide);rfl;rfl;rfl;rfl;rfl;(rintro ⟨q,p1⟩ ⟨hq1,hq2,hq3⟩);(dsimp only at hq1 hq2 hq3))|(apply o6 (k := 36);exact Ds (bs.take 2000) p1 q hb2 (by omega) (by omega) (by omega);rfl;exact Pur.pf;rfl;rfl;rfl;(rintro ⟨q2,p2⟩ ⟨hr1,hr2,hr3⟩);(dsimp only at hr1 hr2 hr3))|(with_reducible apply cF (d := 14))|(apply zJ;rfl;(apply Bv <;> (assumption));rfl;rfl))|refine aD ?_|fail)
 refine eQ ?_
 obtain ⟨L,_,hC,_,_,_,hLl⟩ := yJ q2 (by omega) (by omega)
 have h1 := cL (bs.take 2000) (q2,p2).2 5
 have h2 := cL (bs.take 2000) ((q2,p2).2 + 1) 3
 have h3 := cL (bs.take 2000) ((q2,p2).2 + 1 + 1) 3
 have h4 := cL (bs.take 2000) ((q2,p2).2 + 1 + 1 + 1 + 1) L.length
 repeat' (first|(apply aI;first|(apply cS;rfl;rfl;rfl;rfl;rfl;(case hl => (simp;done));exact (rfl:_=[_,_,_]))|(apply aA (k := 22);rfl;exact hC;exact Pur.pf;rfl)|(apply iX;rfl;rfl;(rfl);(apply lA <;> (first|assumption|omega));rfl;rfl))|refine aD ?_|(refine aL ?_ ?_ <;> intro hc hq <;> try (exfalso;omega))|(refine bT ?_ ?_ <;> intro hg hq <;> try (exfalso;omega))|refine bV ?_|fail)
 all_goals exact aH (l := [bZ q2,iR ⟨_,_,_⟩]) rfl ⟨⟨q2,_,rfl,by omega,by omega⟩,Pur.pf⟩
def ET (x : Iss) (L : List Iss) : Int := match L.findIdx? (nV x) with | some i => i | none => -1
theorem I4 (L:List Iss) (x:Iss) (hl:L.length ≤ 1048576):PC Tryz.prog 60 [sl eJ L,iR x] (fun r => r = iv (ET x L)):=by
 refine aB Tryz.func60 Tryz.ntmps60 ?_
 repeat' (first|refine aD ?_|fail)
 refine aJ (σ := Nat) [0,3,7] [0] (fun k => [(8,iv (k : Int))]) (fun k => []) (fun k => k ≤ L.length ∧ ∀ j,j < k → nV x L[j]! = false) (fun k => L.length - k) (0) ⟨by omega,by omega⟩ ?_
 intro k ⟨hk,hall⟩
 have heq : (x.point == L[k]!.point && (x.kind == L[k]!.kind && x.with_ == L[k]!.with_)) = nV x L[k]! := rfl
 by_cases hkn : k < L.length
 ·cases hb : nV x L[k]!
  ·rw [hb] at heq
   repeat' (first|(apply aI;(apply iU;rfl;rfl;(rw [heq]; rfl);rfl))|refine aD ?_|(refine aL ?_ ?_ <;> intro hc hq <;> try (exfalso;omega))|refine bV ?_|fail)
   (refine a7 (k + 1) (Le.renA [(0,0)]) ?_ ?_)
   ·refine ⟨by omega, fun j hj => ?_⟩
    by_cases e : j = k
    ·subst e;exact hb
    ·exact hall j (by omega)
   ·omega
  ·rw [hb] at heq
   repeat' (first|(apply aI;(apply iU;rfl;rfl;(rw [heq]; rfl);rfl))|refine aD ?_|(refine aL ?_ ?_ <;> intro hc hq <;> try (exfalso;omega))|refine bV ?_|fail)
   refine aH rfl ⟨?_,rfl⟩
   have : L.findIdx? (nV x) = some k := by
    rw [List.findIdx?_eq_some_iff_getElem]
    refine ⟨hkn,by rw [← bE L k hkn]; exact hb,fun j hj => ?_⟩
    have := hall j hj;rw [bE L j (by omega)] at this;rw [this]; decide
   simp only [ET,this]; rfl
 ·repeat' (first | refine aD ?_ | (refine aL ?_ ?_ <;> intro hc hq <;> try (exfalso; omega))|fail)
  refine aH rfl ⟨?_,rfl⟩
  have : L.findIdx? (nV x) = none := by
   rw [List.findIdx?_eq_none_iff]
   intro y hy
   obtain ⟨j,hj,rfl⟩ := List.getElem_of_mem hy
   have := hall j (by omega);rw [bE L j hj] at this;exact this
  simp only [ET,this]; rfl
theorem GF (x:Iss) (L:List Iss):decide (0 ≤ ET x L) = decide (x ∈ L):=by
 unfold ET
 split
 ·rename_i i h
  obtain ⟨h1,h2,_⟩ := List.findIdx?_eq_some_iff_getElem.1 h
  rw [decide_eq_true (by rw [(iQ _ _).1 h2]; exact List.getElem_mem h1 : x ∈ L)]; simp
 ·rename_i h
  rw [List.findIdx?_eq_none_iff] at h
  have : ¬ x ∈ L := fun hx => by have := h x hx;rw [(iQ x x).2 rfl] at this;cases this
  rw [decide_eq_false this]; rfl
theorem A4 (L:List Iss) (x:Iss) (hl:L.length ≤ 1048576):PC Tryz.prog 30 [sl eJ L,iR x] (fun r => r = bv (decide (x ∈ L))):=by
 have hi := I4 L x hl
 refine aB Tryz.func30 Tryz.ntmps30 ?_
 repeat' (first|(apply aI;(apply aA (k := 60);rfl;exact hi;exact Pur.pf;rfl))|refine aD ?_|fail)
 refine aH rfl ⟨?_,rfl⟩
 exact congrArg bv (GF x L)
end Go.Proofs.YtgkalkgplcdnkaaGreatDoor
namespace Go.Proofs.YtgkalkgplcdnkaaGreatDoor
open Go.AL Go.ChangeShapes Go.WideShapes Go.ChangeAt Go.RowKit
theorem rN {w:World}{bad:Nat → Prop}{ι:Pl}{b:Nat}:∀ (bs:List UInt8) (o:Nat),¬ bad b → (∀ j,j < bs.length → w.cell? ⟨b,o + j,none⟩ = some (.int .u8 ((bs[j]!).toNat:Int))) → RdC w bad ι (flat cU bs) b o
 | [],_,_,_ => by simp only [flat,List.flatMap_nil,RdC]
 | x :: bs, o, hb, h => by
  have h0 := h 0 (by simp)
  have e : flat cU (x :: bs) = .v (.int .u8 (x.toNat : Int)) :: flat cU bs := rfl
  rw [e]
  simp only [RdC]
  refine ⟨⟨.int .u8 (x.toNat : Int),by simpa using h0,rfl,by simp only [Rd]⟩,rN bs (o + 1) hb fun j hj => ?_⟩
  have := h (j + 1) (by simpa using hj)
  rw [show o + 1 + j = o + (j + 1) from by omega]
  simpa using this
theorem IV:laidOutB Tryz.prog = true := by kernel_rfl
theorem Il:Tryz.prog.cellsOf 5 = 1 := by kernel_rfl
theorem Fa {H:Type}{enc:TypeId × Value → H}{W:World}{base:Nat}{v0:Value}{d0:DataW H}{p:List MemPlace}(hval:Value.okWide Tryz.prog W .any base 38 v0) (h0:DataW.Trod enc Tryz.prog W 0 (fun _ => true) true 38 v0 d0 p) :
  ∃ bs : List UInt8,Rd W (fun _ => False) (fun _ => none) (sl cU bs) v0 := by
 obtain ⟨a0,len,cap,rfl⟩ := okWide_slice Tryz.underlying38 hval
 obtain ⟨fuel,hf⟩ := h0
 rcases open_ints Tryz.underlying38 Tryz.underlying5 Il hf with ⟨hcs,hx⟩ | ⟨a,len',cap',zs,hcs,_,hl,hm,hz,hx,hcell,hwz⟩
 ·simp [Value.cells] at hcs
  obtain ⟨rfl,rfl,rfl⟩ := hcs
  refine ⟨[],?_⟩
  simp only [Rd]
  exact ⟨none,0,rfl,.inl rfl⟩
 ·simp [Value.cells] at hcs
  obtain ⟨rfl,rfl,rfl⟩ := hcs
  simp only [if_true] at hz
  refine ⟨(zs.take len).map fun n => UInt8.ofNat n.toNat,?_⟩
  have hlen : ((zs.take len).map fun n => UInt8.ofNat n.toNat).length = len := by simp;omega
  simp only [Rd]
  refine ⟨some a,cap,by rw [hlen],?_⟩
  by_cases h00 : len = 0
  ·exact .inl (by rw [hlen]; exact h00)
  ·obtain ⟨b, off, spot⟩ := a
   have hspot : spot = none := by simpa [Addr.add] using World.cell?_spot (hcell 0 (by omega))
   subst hspot
   refine .inr ⟨b,off,by rw [hlen]; exact hl,rfl,.inr ⟨fun h => h,rN _ _ (fun h => h) fun j hj => ?_⟩⟩
   rw [hlen] at hj
   have hcj := hcell j (by omega)
   rw [Addr.add_lit] at hcj
   rw [hcj]
   have e : zs.getD j 0 = zs[j]'(by omega) := by simp [List.getD,List.getElem?_eq_getElem (show j < zs.length by omega)]
   have hw := hwz (zs[j]'(by omega)) (List.getElem_mem _)
   have hr : 0 ≤ zs[j]'(by omega) ∧ zs[j]'(by omega) ≤ 255 := by simpa [Lit.wf,IntKind.min,IntKind.max,IntKind.signed,IntKind.bits] using hw
   rw [e,bE _ _ (by rw [hlen]; exact hj)]
   simp only [List.getElem_map,List.getElem_take]
   congr 2
   simp only [UInt8.toNat_ofNat']
   omega
theorem lP {P:Program}{k:FuncId}{avs:List AV}(h:PC P k avs (fun r => r = bv true)){W:World}{vs:List Value}(hv:RdV W (fun _ => False) (fun _ => none) avs vs) :
  Calls P k vs.toArray W fun e W' => e = .returned (.bool true) ∧ Below W.heap.size W W' := by
 let C : Ctx := { N := 0,w0 := W,W0 := fun _ => False,X := fun _ => False,ι0 := fun _ => none,xlt := fun _ h => h.elim }
 have hbad : ∀ b, ¬ aE C.X (fun _ => none) (aP []) b := by
  rintro b (h | ⟨id,cs,β,h1,h2⟩)
  ·exact h
  ·cases h2
 have g : HG C (fun _ => none) (fun j => 0 ≤ j) (aP []) W :=
  ⟨fun id cs h => by simp [aP] at h,fun id id' cs cs' b β β' h => by simp [aP] at h,Fr.refl _ _,fun _ _ h => h,fun _ _ => rfl⟩
 have hcar : Carry W (fun _ => False) (fun _ => none) W (aE C.X (fun _ => none) (aP [])) (fun _ => none) := ⟨fun b o x _ h2 => ⟨hbad b,h2⟩,fun _ _ h => h,fun _ => Nat.le_refl _⟩
 refine (h C _ W vs rfl rfl g (RdV.carry hcar _ _ hv)).mono ?_
 rintro e W' ⟨v'',r,H',ι',rfl,⟨rfl,_⟩,h4,h5⟩
 simp only [Rd] at h4
 subst h4
 have f := h5.fr
 exact ⟨rfl,f.os,f.tape,f.output,f.size,fun b hb => f.block b hb (fun h => h)⟩
end Go.Proofs.YtgkalkgplcdnkaaGreatDoor
namespace Go.Proofs.YtgkalkgplcdnkaaGreatDoor
open Go.AL Go.RowKit
theorem kX {c left:Int}(h:c ≤ left):DR c left = left - c := if_pos h
theorem iI {c left:Int}(h:¬ c ≤ left):DR c left = -1 := if_neg h
theorem DE (l:List Int) (left:Int) (h0:0 ≤ left) (h1:left ≤ 1048576) (hl:l.length ≤ 9223372036854775807):PC Tryz.prog 20 [sl cI l,iv left] (fun r => r = iv (DR l.length left)):=by
 refine aB Tryz.func20 Tryz.ntmps20 ?_
 repeat' (first|refine aD ?_|(refine aL ?_ ?_ <;> intro hc hq <;> try (exfalso;omega))|fail)
 all_goals (refine aH rfl ⟨?_,rfl⟩; simp only [aM]; first|rw [kX (by omega)]|rw [iI (by omega)])
theorem Ch (m:Nat) (ih:∀ l (left:Int),aK l < m → Fv l → 0 ≤ left → left ≤ 1048576 → PC Tryz.prog 21 [sl aF l,iv left] (fun r => r = iv (DR (aK l) left))) (s:AL.Stmt) (left:Int) (hs:bF s ≤ m) (hln:Cu s) (h0:0 ≤ left) (h1:left ≤ 1048576) :
  PC Tryz.prog 50 [bG s,iv left] (fun r => r = iv (DR (aK s.th + aK s.el : Nat) left)) := by
 have hct := fO s
 obtain ⟨l1,l2⟩ := I2 hln
 have c1 := ih s.th left (by omega) l1 h0 h1
 by_cases q1 : (aK s.th : Int) ≤ left
 ·rw [kX q1] at c1
  have c2 := ih s.el (left - aK s.th) (by omega) l2 (by omega) (by omega)
  by_cases q2 : (aK s.el : Int) ≤ left - aK s.th
  ·rw [kX q2] at c2
   rw [kX (by omega)]
   refine aB Tryz.func50 Tryz.ntmps50 ?_
   repeat' (first|(apply aI;(apply aA (k := 21);rfl;(first|exact c1|exact c2);exact Pur.pf;rfl))|refine aD ?_|(refine aL ?_ ?_ <;> intro hc hq <;> try (exfalso;omega))|fail)
   all_goals first
    | (exfalso;omega)
    | (refine aH rfl ⟨?_,rfl⟩; simp only [aM]; refine congrArg (fun z => AV.v (Value.int .i64 z)) ?_; omega)
  ·rw [iI q2] at c2
   rw [iI (by omega)]
   refine aB Tryz.func50 Tryz.ntmps50 ?_
   repeat' (first|(apply aI;(apply aA (k := 21);rfl;(first|exact c1|exact c2);exact Pur.pf;rfl))|refine aD ?_|(refine aL ?_ ?_ <;> intro hc hq <;> try (exfalso;omega))|fail)
   all_goals first
    | (exfalso;omega)
    | (refine aH rfl ⟨?_,rfl⟩; rfl)
 ·rw [iI q1] at c1
  rw [iI (by omega)]
  refine aB Tryz.func50 Tryz.ntmps50 ?_
  repeat' (first|(apply aI;(apply aA (k := 21);rfl;exact c1;exact Pur.pf;rfl))|refine aD ?_|fail)
  all_goals first
   | (exfalso;omega)
   | (refine aH rfl ⟨?_,rfl⟩; rfl)
theorem z8 (m:Nat) (ih:∀ s (left:Int),bF s ≤ m → Cu s → 0 ≤ left → left ≤ 1048576 → PC Tryz.prog 50 [bG s,iv left] (fun r => r = iv (DR (aK s.th + aK s.el:Nat) left))) (l:List AL.Stmt) (left:Int) (hs:aK l ≤ m) (hln:Fv l) (h0:0 ≤ left) (h1:left ≤ 1048576) :
  PC Tryz.prog 21 [sl aF l,iv left] (fun r => r = iv (DR (aK l) left)) := by
 have hX := Es l
 have hl := hln.1
 by_cases q0 : (l.length : Int) ≤ left
 ·refine aB Tryz.func21 Tryz.ntmps21 ?_
  repeat' (first|refine aD ?_|(refine aL ?_ ?_ <;> intro hc hq <;> try (exfalso;omega))|fail)
  refine aJ (σ := Nat × Int) [0] [] (fun k => [(5,iv (k.1 : Int)),(1,iv k.2)]) (fun k => []) (fun k => k.1 ≤ l.length ∧ 0 ≤ k.2 ∧ k.2 + l.length + kV (l.take k.1) = left) (fun k => l.length - k.1) (0,left - l.length) ⟨by omega,by dsimp only;omega,by simp [kV]⟩ ?_
  rintro ⟨k,z⟩ ⟨hk,hz0,hz⟩
  dsimp only at hk hz0 hz ⊢
  by_cases hkl : k < l.length
  ·have hck := dI l k hkl
   have hsx := BI hkl
   have hle := FQ l (k + 1)
   have c1 := ih l[k]! z (by omega) (I1 hln hkl) hz0 (by omega)
   by_cases q1 : ((aK l[k]!.th + aK l[k]!.el : Nat) : Int) ≤ z
   ·rw [kX q1] at c1
    repeat' (first|(apply aI;(apply aA (k := 50);rfl;exact c1;exact Pur.pf;rfl))|refine aD ?_|(refine aL ?_ ?_ <;> intro hc hq <;> try (exfalso;omega))|fail)
    all_goals first
     | (exfalso;omega)
     | ((refine a7 (k + 1, z - (aK l[k]!.th + aK l[k]!.el : Nat)) (Le.renA []) ?_ ?_)
        ·exact ⟨by dsimp only;omega,by dsimp only;omega,by dsimp only;rw [hsx]; omega⟩
        ·dsimp only;omega)
   ·rw [iI q1] at c1
    repeat' (first|(apply aI;(apply aA (k := 50);rfl;exact c1;exact Pur.pf;rfl))|refine aD ?_|(refine aL ?_ ?_ <;> intro hc hq <;> try (exfalso;omega))|fail)
    all_goals first
     | (exfalso;omega)
     | (refine aH rfl ⟨?_,rfl⟩; simp only [aM]; rw [iI (by omega)])
  ·have hke : k = l.length := by omega
   subst hke
   rw [List.take_length] at hz
   repeat' (first|refine aD ?_|(refine aL ?_ ?_ <;> intro hc hq <;> try (exfalso;omega))|fail)
   refine aH rfl ⟨?_,rfl⟩; simp only [aM]; rw [kX (by omega)]
   refine congrArg (fun z => AV.v (Value.int .i64 z)) ?_; omega
 ·refine aB Tryz.func21 Tryz.ntmps21 ?_
  repeat' (first|refine aD ?_|(refine aL ?_ ?_ <;> intro hc hq <;> try (exfalso;omega))|fail)
  all_goals first
   | (exfalso;omega)
   | (refine aH rfl ⟨?_,rfl⟩; simp only [aM]; rw [iI (by omega)])
theorem Gw:∀ (m:Nat),(∀ s (left:Int),bF s ≤ m → Cu s → 0 ≤ left → left ≤ 1048576 → PC Tryz.prog 50 [bG s,iv left] (fun r => r = iv (DR (aK s.th + aK s.el:Nat) left))) ∧
  (∀ l (left : Int),aK l ≤ m → Fv l → 0 ≤ left → left ≤ 1048576 → PC Tryz.prog 21 [sl aF l,iv left] (fun r => r = iv (DR (aK l) left))) := by
 intro m
 induction m using Nat.strongRecOn with
 | ind m ih =>
  have h1 : ∀ s (left : Int), bF s ≤ m → Cu s → 0 ≤ left → left ≤ 1048576 → PC Tryz.prog 50 [bG s, iv left] (fun r => r = iv (DR (aK s.th + aK s.el : Nat) left)) :=
   fun s left a1 a2 a3 a4 => Ch m (fun l left' g1 g2 g3 g4 => (ih (aK l) g1).2 l left' (Nat.le_refl _) g2 g3 g4) s left a1 a2 a3 a4
  exact ⟨h1,fun l left g1 g2 g3 g4 => z8 m h1 l left g1 g2 g3 g4⟩
theorem u5 (p:Prg) (left:Int) (h0:0 ≤ left) (h1:left ≤ 1048576) (hl:p.types.length ≤ 9223372036854775807) (hln:Fv p.body):PC Tryz.prog 6 [bZ p,iv left] (fun r => r = iv (DR (p.types.length + aK p.body:Nat) left)):=by
 have c1 := DE p.types left h0 h1 hl
 by_cases q1 : (p.types.length : Int) ≤ left
 ·rw [kX q1] at c1
  have c2 := (Gw _).2 p.body (left - p.types.length) (Nat.le_refl _) hln (by omega) (by omega)
  by_cases q2 : (aK p.body : Int) ≤ left - p.types.length
  ·rw [kX q2] at c2
   rw [kX (by omega)]
   refine aB Tryz.func6 Tryz.ntmps6 ?_
   repeat' (first|(apply aI;first|(apply aA (k := 20);rfl;exact c1;exact Pur.pf;rfl)|(apply aA (k := 21);rfl;exact c2;exact Pur.pf;rfl))|refine aD ?_|(refine aL ?_ ?_ <;> intro hc hq <;> try (exfalso;omega))|fail)
   all_goals first
    | (exfalso;omega)
    | (refine aH rfl ⟨?_,rfl⟩; simp only [aM]; refine congrArg (fun z => AV.v (Value.int .i64 z)) ?_; omega)
  ·rw [iI q2] at c2
   rw [iI (by omega)]
   refine aB Tryz.func6 Tryz.ntmps6 ?_
   repeat' (first|(apply aI;first|(apply aA (k := 20);rfl;exact c1;exact Pur.pf;rfl)|(apply aA (k := 21);rfl;exact c2;exact Pur.pf;rfl))|refine aD ?_|(refine aL ?_ ?_ <;> intro hc hq <;> try (exfalso;omega))|fail)
   all_goals first
    | (exfalso;omega)
    | (refine aH rfl ⟨?_,rfl⟩; rfl)
 ·rw [iI q1] at c1
  rw [iI (by omega)]
  refine aB Tryz.func6 Tryz.ntmps6 ?_
  repeat' (first|(apply aI;(apply aA (k := 20);rfl;exact c1;exact Pur.pf;rfl))|refine aD ?_|fail)
  all_goals first
   | (exfalso;omega)
   | (refine aH rfl ⟨?_,rfl⟩; rfl)
theorem H3 {xs:List AL.Stmt}{k:Nat}(s:AL.Stmt) (hk:k < xs.length):jH (flat aF xs) (0 + k * 6) [iv s.op,iv s.x,iv s.y,iv s.n,sl aF s.th,sl aF s.el] = flat aF (xs.set k s) := gJ hk (bS s).symm
theorem HI:∀ n:Nat,flat cN (List.replicate n 0) = flat cI (List.replicate n 0)
 | 0 => rfl
 | n + 1 => by rw [List.replicate_succ,List.replicate_succ]; show cN 0 ++ flat cN (List.replicate n 0) = cI 0 ++ flat cI (List.replicate n 0);rw [HI n]; rfl
theorem Fl (l:List Int) (hl:l.length ≤ 1048576):PC Tryz.prog 27 [sl cI l] (fun r => r = sl cI l):=by
 refine aB Tryz.func27 Tryz.ntmps27 ?_
 repeat' (first|refine aD ?_|fail)
 rw [HI]
 refine aJ (σ := Nat × List Int) [0,3] [] (fun k => [(4,iv (k.1 : Int))]) (fun k => [(0,some (flat cI k.2))]) (fun k => k.1 ≤ l.length ∧ k.2.length = l.length ∧ (∀ j,j < k.1 → k.2[j]! = l[j]!)) (fun k => l.length - k.1) (0,List.replicate l.length 0) ⟨by omega,by simp,by omega⟩ ?_
 rintro ⟨k,u⟩ ⟨hk,hul,hu⟩
 dsimp only at hk hul hu ⊢
 repeat' (first|refine aD ?_|(refine aL ?_ ?_ <;> intro hc hq <;> try (exfalso;omega))|fail)
 ·(refine a7 (k + 1, u.set k l[k]!) (Le.renA [(0, 0)]) ?_ ?_)
  ·refine ⟨by dsimp only; omega, by dsimp only; rw [List.length_set]; exact hul, fun j hj => ?_⟩
   dsimp only at hj ⊢
   rw [aR]
   by_cases e : k = j
   ·subst e;rw [if_pos ⟨rfl,by omega⟩]
   ·rw [if_neg (fun q => e q.1)]; exact hu j (by omega)
  ·dsimp only;omega
 ·refine aT (Le.frzD (d := 2) (i := 0) rfl rfl) ?_
  have e : u = l := a8 hul fun j hj => hu j (by omega)
  subst e
  exact aH rfl ⟨rfl,(by (exact bC _ _))⟩
theorem CE (m:Nat) (ih:∀ l,aK l < m → PC Tryz.prog 28 [sl aF l] (fun r => r = sl aF l)) (s:AL.Stmt) (hs:bF s ≤ m):PC Tryz.prog 56 [bG s] (fun r => r = bG s):=by
 have hct := fO s
 have c1 := ih s.th (by omega)
 have c2 := ih s.el (by omega)
 refine aB Tryz.func56 Tryz.ntmps56 ?_
 repeat' (first|(apply aI;(apply aA (k := 28);rfl;(first|exact c1|exact c2);exact Pur.pf;rfl))|refine aD ?_|fail)
 exact aH (l := [bG s]) rfl ⟨rfl,Pur.pf⟩
theorem yO (m:Nat) (hm:m ≤ 1048576) (ih:∀ s,bF s ≤ m → PC Tryz.prog 56 [bG s] (fun r => r = bG s)) (l:List AL.Stmt) (hs:aK l ≤ m):PC Tryz.prog 28 [sl aF l] (fun r => r = sl aF l):=by
 have hlen := cD l
 refine aB Tryz.func28 Tryz.ntmps28 ?_
 repeat' (first|refine aD ?_|fail)
 refine Jt (Le.zeroS (i := 0) (m := l.length) rfl) ?_
 refine aJ (σ := Nat × List AL.Stmt) [0,3] [] (fun k => [(4,iv (k.1 : Int))]) (fun k => [(0,some (flat aF k.2))]) (fun k => k.1 ≤ l.length ∧ k.2.length = l.length ∧ (∀ j,j < k.1 → k.2[j]! = l[j]!)) (fun k => l.length - k.1) (0,List.replicate l.length J8) ⟨by omega,by simp,by omega⟩ ?_
 rintro ⟨k,u⟩ ⟨hk,hul,hu⟩
 dsimp only at hk hul hu ⊢
 by_cases hkl : k < l.length
 ·have hck := dI l k hkl
  have c1 := ih l[k]! (by omega)
  repeat' (first|(apply aI;first|(apply aA (k := 56);rfl;exact c1;exact Pur.pf;rfl)|(apply cS;rfl;rfl;rfl;rfl;rfl;(rw [aQ aF (e := 6)]; (show _ + 6 ≤ _);omega);exact H3 _ (by omega)))|refine aD ?_|(refine aL ?_ ?_ <;> intro hc hq <;> try (exfalso;omega))|fail)
  (refine a7 (k + 1,u.set k l[k]!) (Le.renA [(0,0)]) ?_ ?_)
  ·refine ⟨by dsimp only; omega, by dsimp only; rw [List.length_set]; exact hul, fun j hj => ?_⟩
   dsimp only at hj ⊢
   rw [aR]
   by_cases e : k = j
   ·subst e;rw [if_pos ⟨rfl,by omega⟩]
   ·rw [if_neg (fun q => e q.1)]; exact hu j (by omega)
  ·dsimp only;omega
 ·repeat' (first | refine aD ?_ | (refine aL ?_ ?_ <;> intro hc hq <;> try (exfalso; omega))|fail)
  refine aT (Le.frzD (d := 2) (i := 0) rfl rfl) ?_
  have e : u = l := a8 hul fun j hj => hu j (by omega)
  subst e
  exact aH rfl ⟨rfl,(by (exact bC _ _))⟩
theorem G7:∀ (m:Nat),m ≤ 1048576 → (∀ s,bF s ≤ m → PC Tryz.prog 56 [bG s] (fun r => r = bG s)) ∧ (∀ l,aK l ≤ m → PC Tryz.prog 28 [sl aF l] (fun r => r = sl aF l)):=by
 intro m
 induction m using Nat.strongRecOn with
 | ind m ih =>
  intro hm
  have h1 : ∀ s,bF s ≤ m → PC Tryz.prog 56 [bG s] (fun r => r = bG s) := fun s a1 => CE m (fun l g1 => (ih (aK l) g1 (by omega)).2 l (Nat.le_refl _)) s a1
  exact ⟨h1,fun l g1 => yO m hm h1 l g1⟩
theorem vS (p:Prg) (hl:p.types.length ≤ 1048576) (hs:aK p.body ≤ 1048576):PC Tryz.prog 8 [bZ p] (fun r => r = bZ p):=by
 have c1 := Fl p.types hl
 have c2 := (G7 _ hs).2 p.body (Nat.le_refl _)
 refine aB Tryz.func8 Tryz.ntmps8 ?_
 repeat' (first|(apply aI;first|(apply aA (k := 27);rfl;exact c1;exact Pur.pf;rfl)|(apply aA (k := 28);rfl;exact c2;exact Pur.pf;rfl))|refine aD ?_|fail)
 exact aH (l := [bZ p]) rfl ⟨rfl,Pur.pf⟩
theorem BG (x:Iss):PC Tryz.prog 9 [.agg (eJ x)] (fun r => r = .agg (eJ x)):=by
 refine aB Tryz.func9 Tryz.ntmps9 ?_
 repeat' (first|refine aD ?_|fail)
 exact aH (l := [.agg (eJ x)]) rfl ⟨rfl,Pur.pf⟩
theorem D7 (L:List Int) (hl:L.length ≤ 1048576):PC Tryz.prog 33 [sl cI L,sl cI L] (fun r => r = bv true):=by
 refine aB Tryz.func33 Tryz.ntmps33 ?_
 repeat' (first|refine aD ?_|(refine aL ?_ ?_ <;> intro hc hq <;> try (exfalso;omega))|fail)
 ·exact (hq trivial).elim
 refine aJ (σ := Nat) [0,1] [] (fun k => [(5,iv (k : Int))]) (fun k => []) (fun k => k ≤ L.length) (fun k => L.length - k) (0) (by omega) ?_
 rintro k hk
 repeat' (first|refine aD ?_|(refine aL ?_ ?_ <;> intro hc hq <;> try (exfalso;omega))|refine bV ?_|fail)
 ·exfalso
  simp at hq
 ·(refine a7 (k + 1) (Le.renA []) ?_ ?_)
  ·omega
  ·omega
 ·exact aH rfl ⟨rfl,rfl⟩
theorem CG (m:Nat) (ih:∀ l,aK l < m → PC Tryz.prog 34 [sl aF l,sl aF l] (fun r => r = bv true)) (s:AL.Stmt) (hs:bF s ≤ m):PC Tryz.prog 68 [bG s,bG s] (fun r => r = bv true):=by
 have hct := fO s
 have c1 := ih s.th (by omega)
 have c2 := ih s.el (by omega)
 refine aB Tryz.func68 Tryz.ntmps68 ?_
 repeat' (first|(apply aI;(apply aA (k := 34);rfl;(first|exact c1|exact c2);exact Pur.pf;rfl))|refine aD ?_|(refine aL ?_ ?_ <;> intro hc hq <;> try (exfalso;omega))|fail)
 all_goals first
  | (exfalso;exact (by assumption : ¬ True) trivial)
  | exact aH rfl ⟨rfl,rfl⟩
theorem yY (m:Nat) (hm:m ≤ 1048576) (ih:∀ s,bF s ≤ m → PC Tryz.prog 68 [bG s,bG s] (fun r => r = bv true)) (l:List AL.Stmt) (hs:aK l ≤ m):PC Tryz.prog 34 [sl aF l,sl aF l] (fun r => r = bv true):=by
 have hlen := cD l
 refine aB Tryz.func34 Tryz.ntmps34 ?_
 repeat' (first|refine aD ?_|(refine aL ?_ ?_ <;> intro hc hq <;> try (exfalso;omega))|fail)
 ·exact (hq trivial).elim
 refine aJ (σ := Nat) [0,1] [] (fun k => [(5,iv (k : Int))]) (fun k => []) (fun k => k ≤ l.length) (fun k => l.length - k) (0) (by omega) ?_
 rintro k hk
 by_cases hkl : k < l.length
 ·have hck := dI l k hkl
  have c1 := ih l[k]! (by omega)
  repeat' (first|(apply aI;(apply aA (k := 68);rfl;exact c1;exact Pur.pf;rfl))|refine aD ?_|(refine aL ?_ ?_ <;> intro hc hq <;> try (exfalso;omega))|refine bV ?_|fail)
  all_goals first
   | (exfalso;exact (by assumption : ¬ True) trivial)
   | ((refine a7 (k + 1) (Le.renA []) ?_ ?_)
      ·omega
      ·omega)
 ·repeat' (first | refine aD ?_ | (refine aL ?_ ?_ <;> intro hc hq <;> try (exfalso; omega))|fail)
  exact aH rfl ⟨rfl,rfl⟩
theorem Hc:∀ (m:Nat),m ≤ 1048576 → (∀ s,bF s ≤ m → PC Tryz.prog 68 [bG s,bG s] (fun r => r = bv true)) ∧ (∀ l,aK l ≤ m → PC Tryz.prog 34 [sl aF l,sl aF l] (fun r => r = bv true)):=by
 intro m
 induction m using Nat.strongRecOn with
 | ind m ih =>
  intro hm
  have h1 : ∀ s,bF s ≤ m → PC Tryz.prog 68 [bG s,bG s] (fun r => r = bv true) := fun s a1 => CG m (fun l g1 => (ih (aK l) g1 (by omega)).2 l (Nat.le_refl _)) s a1
  exact ⟨h1,fun l g1 => yY m hm h1 l g1⟩
theorem xW (p:Prg) (hl:p.types.length ≤ 1048576) (hs:aK p.body ≤ 1048576):PC Tryz.prog 11 [bZ p,bZ p] (fun r => r = bv true):=by
 have c1 := D7 p.types hl
 have c2 := (Hc _ hs).2 p.body (Nat.le_refl _)
 refine aB Tryz.func11 Tryz.ntmps11 ?_
 repeat' (first|(apply aI;first|(apply aA (k := 33);rfl;exact c1;exact Pur.pf;rfl)|(apply aA (k := 34);rfl;exact c2;exact Pur.pf;rfl))|refine aD ?_|fail)
 all_goals first
  | (exfalso;exact (by assumption : ¬ True) trivial)
  | exact aH rfl ⟨rfl,rfl⟩
end Go.Proofs.YtgkalkgplcdnkaaGreatDoor
namespace Go.Proofs.YtgkalkgplcdnkaaGreatDoor
open Go.AL Go.ChangeShapes Go.WideShapes Go.ChangeAt Go.RowKit
theorem vI {w:World}{b:Nat}:∀ (cs:List AV) (l:List Value) (o:Nat),RdL w (fun _ => False) (fun _ => none) cs l → (∀ j,j < l.length → w.cell? ⟨b,o + j,none⟩ = l[j]?) → RdC w (fun _ => False) (fun _ => none) cs b o
 | [],_,_,_,_ => by simp only [RdC]
 | c :: cs, l, o, h, hc => by
  simp only [RdL] at h
  obtain ⟨x,l',rfl,h1,h2,h3⟩ := h
  simp only [RdC]
  refine ⟨⟨x,by simpa using hc 0 (by simp),h1,h2⟩,vI cs l' (o + 1) h3 fun j hj => ?_⟩
  have := hc (j + 1) (by simpa using hj)
  rw [show o + 1 + j = o + (j + 1) from by omega,this]; rfl
theorem vJ {w:World}{bad:Nat → Prop}{ι:Pl}{b:Nat}:∀ (cs ds:List AV) (o:Nat),RdC w bad ι cs b o → RdC w bad ι ds b (o + cs.length) → RdC w bad ι (cs ++ ds) b o
 | [],ds,o,_,h => by simpa using h
 | c :: cs, ds, o, h, h2 => by
  simp only [List.cons_append,RdC] at h ⊢
  exact ⟨h.1,vJ cs ds (o + 1) h.2 (by rw [List.length_cons] at h2;rwa [show o + 1 + cs.length = o + (cs.length + 1) from by omega])⟩
theorem RdC_stmts {w:World}{b:Nat}:∀ (l:List AL.Stmt) (o:Nat),(∀ i,i < l.length → RdC w (fun _ => False) (fun _ => none) (aF l[i]!) b (o + i * 6)) → RdC w (fun _ => False) (fun _ => none) (flat aF l) b o
 | [],_,_ => by simp only [flat,List.flatMap_nil,RdC]
 | s :: l, o, h => by
  have e : flat aF (s :: l) = aF s ++ flat aF l := by simp only [flat,List.flatMap_cons]
  rw [e]
  have h0 := h 0 (by simp)
  refine vJ _ _ o (by simpa using h0) (RdC_stmts l _ fun i hi => ?_)
  have hi' := h (i + 1) (by simpa using hi)
  have e6 : (aF s).length = 6 := by rw [bS]; rfl
  rw [e6,show o + 6 + i * 6 = o + (i + 1) * 6 from by omega]
  simpa using hi'
theorem u9 {w:World}{b:Nat}:∀ (zs:List Int) (o:Nat),(∀ j,j < zs.length → w.cell? ⟨b,o + j,none⟩ = some (.int .i64 zs[j]!)) → RdC w (fun _ => False) (fun _ => none) (flat cI zs) b o
 | [],_,_ => by simp only [flat,List.flatMap_nil,RdC]
 | x :: zs, o, h => by
  have h0 := h 0 (by simp)
  have e : flat cI (x :: zs) = iv x :: flat cI zs := rfl
  rw [e]
  simp only [RdC]
  refine ⟨⟨.int .i64 x,by simpa using h0,rfl,by simp only [Rd]⟩,u9 zs (o + 1) fun j hj => ?_⟩
  have := h (j + 1) (by simpa using hj)
  rw [show o + 1 + j = o + (j + 1) from by omega]
  simpa using this
theorem Ao:Tryz.prog.cellsOf 3 = 1 := by kernel_rfl
theorem AD:Tryz.prog.cellsOf 23 = 1 := by kernel_rfl
theorem Gu:Tryz.prog.cellsOf 22 = 1 := by kernel_rfl
theorem xY:Tryz.prog.cellsOf 86 = 6 := by kernel_rfl
theorem GH:Tryz.prog.cellsOf 25 = 2 := by kernel_rfl
theorem GS:Tryz.prog.cellsOf 27 = 3 := by kernel_rfl
theorem wX {α:Type}[Inhabited α] {P:Nat → α → Prop}(n:Nat) (h:∀ i,i < n → ∃ x,P i x):∃ l:List α,l.length = n ∧ ∀ i,i < n → P i l[i]!:=by
 induction n with
 | zero => exact ⟨[],rfl,by omega⟩
 | succ n ih =>
  obtain ⟨l,h1,h2⟩ := ih fun i hi => h i (by omega)
  obtain ⟨x,hx⟩ := h n (by omega)
  refine ⟨l ++ [x],by simp [h1],fun i hi => ?_⟩
  by_cases e : i < n
  ·rw [bE _ _ (by simp;omega),List.getElem_append_left (by omega),← bE l i (by omega)]; exact h2 i e
  ·have : i = n := by omega
   subst this
   rw [bE _ _ (by simp;omega),List.getElem_append_right (by omega)]
   simp only [h1,Nat.sub_self,List.getElem_cons_zero]; exact hx
section
variable {H : Type} {enc : TypeId × Value → H} {W : World}
theorem GL {fuel:Nat}{v:Value}{x:DataW H × List MemPlace}(hf:DataW.trod enc Tryz.prog W 0 (fun _ => true) true fuel 22 [v] = some x):∃ l:List Int,l.length ≤ 9223372036854775807 ∧ Rd W (fun _ => False) (fun _ => none) (sl cI l) v ∧ v.oneCell' = true:=by
 rcases open_ints Tryz.underlying22 Tryz.underlying3 Ao hf with ⟨hcs,hx⟩ | ⟨a,len,cap,zs,hcs,_,hl,hm,hz,hx,hcell,hwz⟩
 ·simp at hcs
  subst hcs
  refine ⟨[],by decide,?_,rfl⟩
  simp only [Rd]
  exact ⟨none,0,rfl,.inl rfl⟩
 ·simp at hcs
  subst hcs
  simp only [if_true] at hz
  have hlen : (zs.take len).length = len := by simp;omega
  have hmx : maxLen = 9223372036854775807 := by decide
  refine ⟨zs.take len,by omega,?_,rfl⟩
  simp only [Rd]
  refine ⟨some a,cap,by rw [hlen],?_⟩
  by_cases h00 : len = 0
  ·exact .inl (by rw [hlen]; exact h00)
  ·obtain ⟨b, off, spot⟩ := a
   have hspot : spot = none := by simpa [Addr.add] using World.cell?_spot (hcell 0 (by omega))
   subst hspot
   refine .inr ⟨b,off,by rw [hlen]; exact hl,rfl,.inr ⟨fun h => h,u9 _ _ fun j hj => ?_⟩⟩
   rw [hlen] at hj
   have hcj := hcell j (by omega)
   rw [Addr.add_lit] at hcj
   rw [hcj,bE _ _ (by rw [hlen]; exact hj),List.getElem_take]
   simp [List.getD,List.getElem?_eq_getElem (show j < zs.length by omega)]
theorem Kq {cs:List Value}(h:cs.length = 6):∃ a b c d e f,cs = [a,b,c,d,e,f]:=by
 match cs,h with
 | [a,b,c,d,e,f],_ => exact ⟨a,b,c,d,e,f,rfl⟩
theorem EP:∀ fuel:Nat,(∀ cs x,DataW.trod enc Tryz.prog W 0 (fun _ => true) true fuel 86 cs = some x → ∃ s:AL.Stmt,Cu s ∧ cs.length = 6 ∧ RdL W (fun _ => False) (fun _ => none) (aF s) cs) ∧
  (∀ v x,DataW.trod enc Tryz.prog W 0 (fun _ => true) true fuel 23 [v] = some x → ∃ l : List AL.Stmt,Fv l ∧ Rd W (fun _ => False) (fun _ => none) (sl aF l) v ∧ v.oneCell' = true) := by
 intro fuel
 induction fuel using Nat.strongRecOn with
 | ind fuel ih =>
  constructor
  ·intro cs x h
   obtain ⟨xs,n,hn,_,hl,hlen,hf⟩ := DataW.trod_struct Tryz.underlying86 h
   rw [xY] at hl
   obtain ⟨v0,v1,v2,v3,v4,v5,rfl⟩ := Kq hl
   have f0 := hf 0 _ rfl
   have f1 := hf 1 _ rfl
   have f2 := hf 2 _ rfl
   have f3 := hf 3 _ rfl
   have f4 := hf 4 _ rfl
   have f5 := hf 5 _ rfl
   have g : ∀ i,i < 6 → ∃ y,xs[i]? = some y := fun i hi => ⟨xs[i]'(by rw [hlen]; exact hi),List.getElem?_eq_getElem (by rw [hlen]; exact hi)⟩
   obtain ⟨y0,e0⟩ := g 0 (by decide)
   obtain ⟨y1,e1⟩ := g 1 (by decide)
   obtain ⟨y2,e2⟩ := g 2 (by decide)
   obtain ⟨y3,e3⟩ := g 3 (by decide)
   obtain ⟨y4,e4⟩ := g 4 (by decide)
   obtain ⟨y5,e5⟩ := g 5 (by decide)
   rw [e0] at f0
   rw [e1] at f1
   rw [e2] at f2
   rw [e3] at f3
   rw [e4] at f4
   rw [e5] at f5
   change DataW.trod _ _ _ _ _ _ n 3 (([v0,v1,v2,v3,v4,v5].drop 0).take (Tryz.prog.cellsOf 3)) = _ at f0
   change DataW.trod _ _ _ _ _ _ n 3 (([v0,v1,v2,v3,v4,v5].drop 1).take (Tryz.prog.cellsOf 3)) = _ at f1
   change DataW.trod _ _ _ _ _ _ n 3 (([v0,v1,v2,v3,v4,v5].drop 2).take (Tryz.prog.cellsOf 3)) = _ at f2
   change DataW.trod _ _ _ _ _ _ n 3 (([v0,v1,v2,v3,v4,v5].drop 3).take (Tryz.prog.cellsOf 3)) = _ at f3
   change DataW.trod _ _ _ _ _ _ n 23 (([v0,v1,v2,v3,v4,v5].drop 4).take (Tryz.prog.cellsOf 23)) = _ at f4
   change DataW.trod _ _ _ _ _ _ n 23 (([v0,v1,v2,v3,v4,v5].drop 5).take (Tryz.prog.cellsOf 23)) = _ at f5
   rw [Ao] at f0 f1 f2 f3
   rw [AD] at f4 f5
   obtain ⟨n0,q0,_,_⟩ := DataW.trod_int Tryz.underlying3 f0
   obtain ⟨n1,q1,_,_⟩ := DataW.trod_int Tryz.underlying3 f1
   obtain ⟨n2,q2,_,_⟩ := DataW.trod_int Tryz.underlying3 f2
   obtain ⟨n3,q3,_,_⟩ := DataW.trod_int Tryz.underlying3 f3
   have ih' := ih n (by omega)
   obtain ⟨l4,a4,b4,c4⟩ := ih'.2 v4 _ f4
   obtain ⟨l5,a5,b5,c5⟩ := ih'.2 v5 _ f5
   simp at q0 q1 q2 q3
   subst q0 q1 q2 q3
   refine ⟨.mk n0 n1 n2 n3 l4 l5,by simp only [Cu]; exact ⟨a4,a5⟩,rfl,?_⟩
   rw [bS]
   simp only [RdL]
   exact ⟨_,_,rfl,rfl,(by simp only [Rd]; rfl),_,_,rfl,rfl,(by simp only [Rd]; rfl),_,_,rfl,rfl,(by simp only [Rd]; rfl),_,_,rfl,rfl,(by simp only [Rd]; rfl),_,_,rfl,c4,b4,_,_,rfl,c5,b5,rfl⟩
  ·intro v x h
   rcases DataW.trod_slice Tryz.underlying23 h with ⟨hcs,_⟩ | ⟨a,len,cap,elems,rest,n,hn,hcs,_,hb,hl,hm,hlen,hel,hsp,hns⟩
   ·simp at hcs
    subst hcs
    refine ⟨[],⟨by decide,by simp only [FA]⟩,?_,rfl⟩
    simp only [Rd]
    exact ⟨none,0,rfl,.inl rfl⟩
   ·simp at hcs
    subst hcs
    rw [xY] at hel
    have hmx : maxLen = 9223372036854775807 := by decide
    have key : ∀ i, i < len → ∃ s : AL.Stmt, Cu s ∧ ∃ cs : List Value, cs.length = 6 ∧ RdL W (fun _ => False) (fun _ => none) (aF s) cs ∧ ∀ j, j < 6 → W.cell? ((a.add (i * 6)).add j) = cs[j]? := fun i hi => by
     have h1 := hel i hi
     rw [List.getElem?_eq_getElem (by omega),Option.bind_eq_some_iff] at h1
     obtain ⟨cs,h2,h3⟩ := h1
     obtain ⟨s,s1,s2,s3⟩ := (ih n (by omega)).1 cs _ h3
     exact ⟨s,s1,cs,s2,s3,(World.cells?_some h2).2.2⟩
    obtain ⟨l,k1,k2⟩ := wX len key
    refine ⟨l,⟨by omega,D3 fun s hs => ?_⟩,?_,rfl⟩
    ·obtain ⟨i, hi, e⟩ := List.getElem_of_mem hs
     have := (k2 i (by omega)).1
     rw [bE _ _ hi,e] at this;exact this
    ·simp only [Rd]
     refine ⟨some a,cap,by rw [k1],?_⟩
     by_cases h00 : len = 0
     ·exact .inl (by rw [k1]; exact h00)
     ·obtain ⟨b, off, spot⟩ := a
      have hspot : spot = none := by
       obtain ⟨_,cs,c1,_,c3⟩ := k2 0 (by omega)
       have := c3 0 (by decide)
       rw [List.getElem?_eq_getElem (by omega)] at this
       simpa [Addr.add] using World.cell?_spot this
      subst hspot
      refine .inr ⟨b,off,by rw [k1]; exact hl,rfl,.inr ⟨fun h => h,RdC_stmts _ _ fun i hi => ?_⟩⟩
      rw [k1] at hi
      obtain ⟨_,cs,c1,c2,c3⟩ := k2 i hi
      refine vI _ cs _ c2 fun j hj => ?_
      have := c3 j (by omega)
      rw [Addr.add_lit,Addr.add_lit] at this
      exact this
theorem Hm {base:Nat}{v0:Value}{d0:DataW H}{p:List MemPlace}(hval:Value.okWide Tryz.prog W .any base 25 v0) (h0:DataW.Trod enc Tryz.prog W 0 (fun _ => true) true 25 v0 d0 p) :
  ∃ q : Prg,q.types.length ≤ 9223372036854775807 ∧ Fv q.body ∧ Rd W (fun _ => False) (fun _ => none) (bZ q) v0 := by
 obtain ⟨cs,rfl,hsz⟩ := okWide_struct Tryz.underlying25 hval
 obtain ⟨fuel,hf⟩ := h0
 obtain ⟨xs,n,hn,_,hl,hlen,hg⟩ := DataW.trod_struct Tryz.underlying25 hf
 have f0 := hg 0 _ rfl
 have f1 := hg 1 _ rfl
 have g : ∀ i,i < 2 → ∃ y,xs[i]? = some y := fun i hi => ⟨xs[i]'(by rw [hlen]; exact hi),List.getElem?_eq_getElem (by rw [hlen]; exact hi)⟩
 obtain ⟨y0,e0⟩ := g 0 (by decide)
 obtain ⟨y1,e1⟩ := g 1 (by decide)
 rw [e0] at f0
 rw [e1] at f1
 change DataW.trod _ _ _ _ _ _ n 22 (((Value.agg cs).cells.toList.drop 0).take (Tryz.prog.cellsOf 22)) = _ at f0
 change DataW.trod _ _ _ _ _ _ n 23 (((Value.agg cs).cells.toList.drop 1).take (Tryz.prog.cellsOf 23)) = _ at f1
 rw [Gu] at f0
 rw [AD] at f1
 have hcs : (Value.agg cs).cells.toList = cs.toList := rfl
 rw [GH] at hl
 rw [hcs] at hl f0 f1
 obtain ⟨a, b, hab⟩ : ∃ a b, cs.toList = [a, b] := by
  match h : cs.toList,hl with
  | [a,b],_ => exact ⟨a,b,rfl⟩
 rw [hab] at f0 f1
 obtain ⟨ts,t1,t2,t3⟩ := GL f0
 obtain ⟨body,b1,b2,b3⟩ := (EP n).2 _ _ f1
 refine ⟨⟨ts,body⟩,t1,b1,?_⟩
 simp only [Rd]
 refine ⟨[a,b],by rw [← hab],?_⟩
 simp only [RdL]
 exact ⟨_,_,rfl,t3,t2,_,_,rfl,b3,b2,rfl⟩
theorem IP {base:Nat}{v0:Value}{d0:DataW H}{p:List MemPlace}(hval:Value.okWide Tryz.prog W .any base 27 v0) (h0:DataW.Trod enc Tryz.prog W 0 (fun _ => true) true 27 v0 d0 p) :
  ∃ x : Iss,Rd W (fun _ => False) (fun _ => none) (iR x) v0 := by
 obtain ⟨cs,rfl,hsz⟩ := okWide_struct Tryz.underlying27 hval
 obtain ⟨fuel,hf⟩ := h0
 obtain ⟨xs,n,hn,_,hl,hlen,hg⟩ := DataW.trod_struct Tryz.underlying27 hf
 have f0 := hg 0 _ rfl
 have f1 := hg 1 _ rfl
 have f2 := hg 2 _ rfl
 have g : ∀ i,i < 3 → ∃ y,xs[i]? = some y := fun i hi => ⟨xs[i]'(by rw [hlen]; exact hi),List.getElem?_eq_getElem (by rw [hlen]; exact hi)⟩
 obtain ⟨y0,e0⟩ := g 0 (by decide)
 obtain ⟨y1,e1⟩ := g 1 (by decide)
 obtain ⟨y2,e2⟩ := g 2 (by decide)
 rw [e0] at f0
 rw [e1] at f1
 rw [e2] at f2
 change DataW.trod _ _ _ _ _ _ n 3 (((Value.agg cs).cells.toList.drop 0).take (Tryz.prog.cellsOf 3)) = _ at f0
 change DataW.trod _ _ _ _ _ _ n 3 (((Value.agg cs).cells.toList.drop 1).take (Tryz.prog.cellsOf 3)) = _ at f1
 change DataW.trod _ _ _ _ _ _ n 3 (((Value.agg cs).cells.toList.drop 2).take (Tryz.prog.cellsOf 3)) = _ at f2
 rw [Ao] at f0 f1 f2
 have hcs : (Value.agg cs).cells.toList = cs.toList := rfl
 rw [GS] at hl
 rw [hcs] at hl f0 f1 f2
 obtain ⟨a, b, c, hab⟩ : ∃ a b c, cs.toList = [a, b, c] := by
  match h : cs.toList,hl with
  | [a,b,c],_ => exact ⟨a,b,c,rfl⟩
 rw [hab] at f0 f1 f2
 obtain ⟨n0,q0,_,_⟩ := DataW.trod_int Tryz.underlying3 f0
 obtain ⟨n1,q1,_,_⟩ := DataW.trod_int Tryz.underlying3 f1
 obtain ⟨n2,q2,_,_⟩ := DataW.trod_int Tryz.underlying3 f2
 simp at q0 q1 q2
 subst q0 q1 q2
 refine ⟨⟨n0,n1,n2⟩,?_⟩
 simp only [Rd]
 refine ⟨[.int .i64 n0,.int .i64 n1,.int .i64 n2],by rw [← hab],?_⟩
 simp only [RdL]
 exact ⟨_,_,rfl,rfl,(by simp only [Rd]),_,_,rfl,rfl,(by simp only [Rd]),_,_,rfl,rfl,(by simp only [Rd]),rfl⟩
end
end Go.Proofs.YtgkalkgplcdnkaaGreatDoor
namespace Go.Proofs.YtgkalkgplcdnkaaGreatDoor
open Go.AL Go.RowKit
theorem uE (n:Int) (h0:0 ≤ n) (h1:n ≤ 99):PC Tryz.prog 24 [iv n] (fun r => r = sv (dO n)):=by
 refine aB Tryz.func24 Tryz.ntmps24 ?_
 repeat' (first|refine aD ?_|(refine aL ?_ ?_ <;> intro hc hq <;> try (exfalso;omega))|fail)
 refine aJ (σ := Int × ByteArray) [] [] (fun s => [(0,iv s.1),(3,sv s.2)]) (fun s => []) (fun s => (s = (n,⟨#[]⟩)) ∨ (9 < n ∧ s = (n / 10,k4 [48 + n % 10] ++ ⟨#[]⟩))) (fun s => s.1.toNat) (n,⟨#[]⟩) (.inl rfl) ?_
 rintro ⟨m,t⟩ hm
 dsimp only at hm ⊢
 rcases hm with hm | ⟨h9,hm⟩
 ·cases hm
  repeat' (first|(apply aI;first|(apply cJ;rfl;rfl;(rfl);rfl)|(apply pP (ns := [_]);rfl;rfl;rfl)|(apply jS;rfl;omega;rfl))|refine aD ?_|(refine aL ?_ ?_ <;> intro hc hq <;> try (exfalso;omega))|fail)
  ·(refine a7 (n / 10, k4 [48 + n % 10] ++ ⟨#[]⟩) (Le.renA []) ?_ ?_)
   ·exact .inr ⟨by assumption,rfl⟩
   ·dsimp only;omega
  ·refine aH rfl ⟨?_, rfl⟩
   rw [show dO n = qQ n from if_pos (by omega)]; rfl
 ·cases hm
  repeat' (first|(apply aI;first|(apply cJ;rfl;rfl;(rfl);rfl)|(apply pP (ns := [_]);rfl;rfl;rfl)|(apply jS;rfl;omega;rfl))|refine aD ?_|(refine aL ?_ ?_ <;> intro hc hq <;> try (exfalso;omega))|fail)
  all_goals first
   | (exfalso;omega)
   | (refine aH rfl ⟨?_, rfl⟩
      rw [show dO n = k4 [48 + n / 10] ++ (k4 [48 + n % 10] ++ .empty) from if_neg (by omega)]; rfl)
def smD : ByteArray := ⟨#[48,49,50,51,52,53,54,55,56,57,97,98,99,100,101,102,103,104,105,106,107,108,109,110,111,112,113,114,115,116,117,118,119,120,121,122]⟩
def smS : ByteArray := ⟨((List.range 100).flatMap fun k => [UInt8.ofNat (48 + k / 10),UInt8.ofNat (48 + k % 10)]).toArray⟩
theorem Ke:∀ k:Nat,k < 10 → smD.extract (k:Int).toNat ((k:Int) + 1).toNat = dO k := by decide +kernel
theorem J7:∀ k:Nat,k < 100 → 10 ≤ k → smS.extract ((k:Int) * 2).toNat ((k:Int) * 2 + 2).toNat = dO k := by decide +kernel
theorem Ks {C:ByteArray}(hC:C = smD) (n:Int) (h0:0 ≤ n) (h1:n < 10):C.extract n.toNat (n + 1).toNat = dO n:=by
 subst hC
 obtain ⟨k,rfl⟩ := Int.eq_ofNat_of_zero_le h0
 exact Ke k (by omega)
theorem Kp {C:ByteArray}(hC:C = smS) (n:Int) (h0:10 ≤ n) (h1:n ≤ 99):C.extract (n * 2).toNat (n * 2 + 2).toNat = dO n:=by
 subst hC
 obtain ⟨k,rfl⟩ := Int.eq_ofNat_of_zero_le (by omega : 0 ≤ n)
 exact J7 k (by omega) (by omega)
instance : CaT Tryz.prog 147:=⟨by kernel_rfl⟩
instance : CaT Tryz.prog 135:=⟨by kernel_rfl⟩
instance : CaT Tryz.prog 108:=⟨by kernel_rfl⟩
theorem F5 (n:Int) (h0:0 ≤ n) (h1:n ≤ 99):PC Tryz.prog 147 [iv n] (fun r => r = sv (dO n)):=by
 refine aB Tryz.func147 Tryz.ntmps147 ?_
 repeat' (first|(apply aI;first|(apply mS (d := 8);rfl;exact gY rfl (by omega);exact gY rfl (by omega);exact ⟨by omega,Nat.le_trans (m := 36) (by omega) (by decide)⟩;rfl)|(apply mS (d := 14);rfl;exact gY rfl (by omega);exact gY rfl (by omega);exact ⟨by omega,Nat.le_trans (m := 200) (by omega) (by decide +kernel)⟩;rfl))|refine aD ?_|(refine aL ?_ ?_ <;> intro hc hq <;> try (exfalso;omega))|fail)
 ·refine aH rfl ⟨?_, rfl⟩
  exact congrArg (fun b => AV.v (.string b)) (Ks rfl n h0 (by omega))
 ·refine aH rfl ⟨?_, rfl⟩
  exact congrArg (fun b => AV.v (.string b)) (Kp (by decide +kernel) n (by omega) h1)
theorem mX (v:Int) (h0:0 ≤ v) (h1:v ≤ 25):PC Tryz.prog 67 [iv v] (fun r => r = sv (dV v)):=by
 refine aB Tryz.func67 Tryz.ntmps67 ?_
 repeat' (first|(apply aI;first|(apply pP (ns := [_]);rfl;rfl;rfl)|(apply jS;rfl;omega;rfl))|refine aD ?_|refine b9 ?_|fail)
 exact ⟨rfl,rfl⟩
theorem DV (n:Int) (h0:0 ≤ n) (h1:n ≤ 99):PC Tryz.prog 135 [iv n,iv 10] (fun r => r = sv (dO n)):=by
 have hs := F5 n h0 h1
 refine aB Tryz.func135 Tryz.ntmps135 ?_
 repeat' (first|(apply aI;(apply aA (k := 147);rfl;exact hs;(rfl);rfl))|refine aD ?_|(refine aL ?_ ?_ <;> intro hc hq <;> try (exfalso;omega))|(refine bT ?_ ?_ <;> intro hg hq <;> try (exfalso;omega))|fail)
 all_goals first
  | exact aH rfl ⟨rfl,rfl⟩
  | (exfalso;omega)
  | (exfalso;exact (by assumption : ¬ True) trivial)
theorem Gx (n:Int) (h0:0 ≤ n) (h1:n ≤ 99):PC Tryz.prog 108 [iv n] (fun r => r = sv (dO n)):=by
 have hs := DV n h0 h1
 refine aB Tryz.func108 Tryz.ntmps108 ?_
 repeat' (first|(apply aI;(apply aA (k := 135);rfl;exact hs;(rfl);rfl))|refine aD ?_|fail)
 exact aH rfl ⟨rfl,rfl⟩
theorem sY (n:Int) (h0:0 ≤ n) (h1:n ≤ 99):PC Tryz.prog 65 [iv n] (fun r => r = sv (dO n)):=by
 have hs := Gx n h0 h1
 refine aB Tryz.func65 Tryz.ntmps65 ?_
 repeat' (first|(apply aI;(apply aA (k := 108);rfl;exact hs;(rfl);rfl))|refine aD ?_|fail)
 exact aH rfl ⟨rfl,rfl⟩
theorem tJ (o x y n:Int) (ho:1 ≤ o ∧ o ≤ 8) (hx:0 ≤ x ∧ x ≤ 5) (hy:0 ≤ y ∧ y ≤ 5) (hn:0 ≤ n ∧ n ≤ 9):PC Tryz.prog 109 [bG (.mk o x y n [] [])] (fun r => r = sv (fI (.mk o x y n [] []))):=by
 have hi := sY n hn.1 (by omega)
 have hlx := mX x hx.1 (by omega)
 have hly := mX y hy.1 (by omega)
 rw [show dO n = qQ n from if_pos hn.2] at hi
 have hd := dE n
 refine aB Tryz.func109 Tryz.ntmps109 ?_
 repeat' (first|(apply aI;first|(apply aA (k := 65);rfl;exact hi;(rfl);rfl)|(apply aA (k := 67);rfl;exact hlx;(rfl);rfl)|(apply aA (k := 67);rfl;exact hly;(rfl);rfl)|(apply cJ;rfl;rfl;(rfl);rfl))|refine aD ?_|(refine aL ?_ ?_ <;> intro hc hq <;> try (exfalso;omega))|refine bV ?_|fail)
 all_goals (refine aH rfl ⟨?_,rfl⟩; rw [rP]; (repeat' split))
 all_goals (first|rfl|(simp only [AL.Stmt.op] at *; omega))
theorem Fk (x:Pnt) (h:Dg x):PC Tryz.prog 66 [lL x] (fun r => r = sv (mN x)):=by
 rcases h with h|h|h | ⟨h1,h2,h3,h4,h5,h6,h7,h8⟩
 ·have e : mN x = ⟨#[105, 102]⟩ := by unfold mN; rw [if_neg (by omega), if_pos h]
  rw [e]
  refine aB Tryz.func66 Tryz.ntmps66 ?_
  repeat' (first|refine aD ?_|(refine aL ?_ ?_ <;> intro hc hq <;> try (exfalso;omega))|fail)
  all_goals first|exact aH rfl ⟨rfl,rfl⟩|(exfalso;omega)
 ·have e : mN x = if x.n = 1 then ⟨#[103, 111]⟩ else ⟨#[108, 111, 111, 112]⟩ := by unfold mN; rw [if_neg (by omega), if_neg (by omega), if_pos h]
  rw [e]
  refine aB Tryz.func66 Tryz.ntmps66 ?_
  repeat' (first|refine aD ?_|(refine aL ?_ ?_ <;> intro hc hq <;> try (exfalso;omega))|(refine bT ?_ ?_ <;> intro hg hq <;> try (exfalso;omega))|fail)
  all_goals first|(refine aH rfl ⟨?_,rfl⟩; rw [if_pos (by omega)]; rfl)|(refine aH rfl ⟨?_,rfl⟩; rw [if_neg (by omega)]; rfl)|(exfalso;omega)
 ·have e : mN x = ⟨#[101, 110, 100]⟩ := by unfold mN; rw [if_pos h]
  rw [e]
  refine aB Tryz.func66 Tryz.ntmps66 ?_
  repeat' (first|refine aD ?_|(refine aL ?_ ?_ <;> intro hc hq <;> try (exfalso;omega))|fail)
  all_goals first|exact aH rfl ⟨rfl,rfl⟩|(exfalso;omega)
 ·have e : mN x = fI (.mk x.op x.x x.y x.n [] []) := by unfold mN; rw [if_neg (by omega), if_neg (by omega), if_neg (by omega)]
  rw [e]
  have hs := tJ x.op x.x x.y x.n ⟨h1,h2⟩ ⟨h3,h4⟩ ⟨h5,h6⟩ ⟨h7,h8⟩
  refine aB Tryz.func66 Tryz.ntmps66 ?_
  repeat' (first|(apply aI;first|(apply aA (k := 109);rfl;exact hs;(rfl);rfl)|(apply aA (k := 59);rfl;(apply l8);(rfl);rfl))|refine aD ?_|(refine aL ?_ ?_ <;> intro hc hq <;> try (exfalso;omega))|(refine bT ?_ ?_ <;> intro hg hq <;> try (exfalso;omega))|fail)
  all_goals first|exact aH rfl ⟨rfl,rfl⟩|(exfalso;omega)
theorem Fq (x:Pnt) (h:Dg x):PC Tryz.prog 25 [lL x] (fun r => r = sv (mN x)):=by
 rcases h with h|h|h | ⟨h1,h2,h3,h4,h5,h6,h7,h8⟩
 ·have e : mN x = ⟨#[105, 102]⟩ := by unfold mN; rw [if_neg (by omega), if_pos h]
  rw [e]
  refine aB Tryz.func25 Tryz.ntmps25 ?_
  repeat' (first|refine aD ?_|(refine aL ?_ ?_ <;> intro hc hq <;> try (exfalso;omega))|fail)
  all_goals first|exact aH rfl ⟨rfl,rfl⟩|(exfalso;omega)
 ·have e : mN x = if x.n = 1 then ⟨#[103, 111]⟩ else ⟨#[108, 111, 111, 112]⟩ := by unfold mN; rw [if_neg (by omega), if_neg (by omega), if_pos h]
  rw [e]
  refine aB Tryz.func25 Tryz.ntmps25 ?_
  repeat' (first|refine aD ?_|(refine aL ?_ ?_ <;> intro hc hq <;> try (exfalso;omega))|(refine bT ?_ ?_ <;> intro hg hq <;> try (exfalso;omega))|fail)
  all_goals first|(refine aH rfl ⟨?_,rfl⟩; rw [if_pos (by omega)]; rfl)|(refine aH rfl ⟨?_,rfl⟩; rw [if_neg (by omega)]; rfl)|(exfalso;omega)
 ·have e : mN x = ⟨#[101, 110, 100]⟩ := by unfold mN; rw [if_pos h]
  rw [e]
  refine aB Tryz.func25 Tryz.ntmps25 ?_
  repeat' (first|refine aD ?_|(refine aL ?_ ?_ <;> intro hc hq <;> try (exfalso;omega))|fail)
  all_goals first|exact aH rfl ⟨rfl,rfl⟩|(exfalso;omega)
 ·have e : mN x = fI (.mk x.op x.x x.y x.n [] []) := by unfold mN; rw [if_neg (by omega), if_neg (by omega), if_neg (by omega)]
  rw [e]
  have hs : PC Tryz.prog 55 [bG (.mk x.op x.x x.y x.n [] [])] (fun r => r = sv (fI (.mk x.op x.x x.y x.n [] []))) :=
   tO (.mk x.op x.x x.y x.n [] []) (by simp [bF,aK]) (.inr ⟨h1,h2,h3,h4,h5,h6,fun _ => ⟨h7,h8⟩⟩) (fun h => by simp only [AL.Stmt.op] at h;omega) (fun h => by simp only [AL.Stmt.op] at h;omega)
  refine aB Tryz.func25 Tryz.ntmps25 ?_
  repeat' (first|(apply aI;(apply aA (k := 55);rfl;exact hs;(rfl);rfl))|refine aD ?_|(refine aL ?_ ?_ <;> intro hc hq <;> try (exfalso;omega))|(refine bT ?_ ?_ <;> intro hg hq <;> try (exfalso;omega))|fail)
  all_goals first|exact aH rfl ⟨rfl,rfl⟩|(exfalso;omega)
theorem uH (ts:List Int) (bd:List AL.Stmt) (pts:List Pnt) (a:Nat) (w:Int) (ha:a < pts.length) (hl:pts.length ≤ 99) (hp:Dg pts[a]!) (hw:0 ≤ w ∧ w ≤ 25):PC Tryz.prog 32 [aG ts bd pts,iR ⟨(a:Int),1,w⟩] (fun r => r = sv (mC pts ⟨(a:Int),1,w⟩)):=by
 have h1 := sY (a : Int) (by omega) (by omega)
 have h2 := Fk pts[a]! hp
 have h3 := mX w hw.1 hw.2
 have z1 := e8 (a : Int)
 have z2 := iF pts[a]!
 have z3 := dF w
 refine aB Tryz.func32 Tryz.ntmps32 ?_
 repeat' (first|(apply aI;first|(apply aA (k := 65);rfl;exact h1;(rfl);rfl)|(apply aA (k := 66);rfl;exact h2;exact Pur.pf;rfl)|(apply aA (k := 67);rfl;exact h3;(rfl);rfl)|(apply cJ;rfl;rfl;(exact hO (by (simp only [ByteArray.size_append,eM,List.length_cons,List.length_nil,dF,dE,e7] <;> omega)));rfl))|refine aD ?_|refine bV ?_|fail)
 all_goals first
  | exact aH rfl ⟨rfl,rfl⟩
  | (exfalso;omega)
  | (exfalso;exact (by assumption : ¬ True) trivial)
theorem uT (ts:List Int) (bd:List AL.Stmt) (pts:List Pnt) (a l:Nat) (k:Int) (hk:k ≠ 1) (ha:a < pts.length) (hll:l < pts.length) (hl:pts.length ≤ 99) (hp:Dg pts[a]!) (hq:Dg pts[l]!):PC Tryz.prog 32 [aG ts bd pts,iR ⟨(a:Int),k,(l:Int)⟩] (fun r => r = sv (mC pts ⟨(a:Int),k,(l:Int)⟩)):=by
 have h1 := sY (a : Int) (by omega) (by omega)
 have h2 := Fk pts[a]! hp
 have h3 := sY (l : Int) (by omega) (by omega)
 have h4 := Fk pts[l]! hq
 have z1 := e8 (a : Int)
 have z2 := iF pts[a]!
 have z3 := e8 (l : Int)
 have z4 := iF pts[l]!
 have e : mC pts ⟨(a : Int),k,(l : Int)⟩ = ((((((dO (a : Int) ++ ⟨#[32]⟩) ++ mN pts[a]!) ++ ⟨#[58,32]⟩) ++ ⟨#[108,111,97,110,32,111,102,32]⟩) ++ dO (l : Int)) ++ ⟨#[32]⟩) ++ mN pts[l]! := if_neg hk
 rw [e]
 refine aB Tryz.func32 Tryz.ntmps32 ?_
 repeat' (first|(apply aI;first|(apply aA (k := 65);rfl;exact h1;(rfl);rfl)|(apply aA (k := 66);rfl;exact h2;exact Pur.pf;rfl)|(apply aA (k := 65);rfl;exact h3;(rfl);rfl)|(apply aA (k := 66);rfl;exact h4;exact Pur.pf;rfl)|(apply cJ;rfl;rfl;(exact hO (by (simp only [ByteArray.size_append,eM,List.length_cons,List.length_nil,dF,dE,e7] <;> omega)));rfl))|refine aD ?_|(refine aL ?_ ?_ <;> intro hc hq <;> try (exfalso;omega))|refine bV ?_|fail)
 all_goals first
  | exact aH rfl ⟨rfl,rfl⟩
  | (exfalso;omega)
  | (exfalso;exact (by assumption : ¬ True) trivial)
theorem Bk (p:Prg) (x:Iss) (L:List Iss) (hC:PC Tryz.prog 22 [bZ p] (fun r => r = sl eJ L)) (hl:L.length ≤ 1048576) (hx:x ∉ L):PC Tryz.prog 7 [bZ p,iR x] (fun r => r = sv ⟨#[]⟩):=by
 refine aB Tryz.func7 Tryz.ntmps7 ?_
 repeat' (first|(apply aI;(apply aA (k := 22);rfl;exact hC;exact Pur.pf;rfl))|refine aD ?_|fail)
 refine aJ (σ := Nat) [2,3,5] [0,1] (fun k => [(7,iv (k : Int)),(6,bv false)]) (fun k => []) (fun k => k ≤ L.length) (fun k => L.length - k) (0) (by omega) ?_
 intro k hk
 have heq : (L[k]!.point == x.point && (L[k]!.kind == x.kind && L[k]!.with_ == x.with_)) = nV L[k]! x := rfl
 by_cases hkn : k < L.length
 ·have hb : nV L[k]! x = false := by
   cases hb : nV L[k]! x with
   | false => rfl
   | true => have := bD L k hkn;rw [(iQ _ _).1 hb] at this;exact absurd this hx
  rw [hb] at heq
  repeat' (first|(apply aI;(apply iU;rfl;rfl;(rw [heq]; rfl);rfl))|refine aD ?_|(refine aL ?_ ?_ <;> intro hc hq <;> try (exfalso;omega))|refine bV ?_|fail)
  all_goals first
   | (exfalso;exact (by assumption : ¬ True) trivial)
   | ((refine a7 (k + 1) (Le.renA [(0, 0), (1, 1)]) ?_ ?_)
      ·omega
      ·omega)
 ·repeat' (first | refine aD ?_ | (refine aL ?_ ?_ <;> intro hc hq <;> try (exfalso; omega))|fail)
  all_goals first
   | exact aH rfl ⟨rfl,rfl⟩
   | (exfalso;omega)
   | (exfalso;exact (by assumption : ¬ True) trivial)
theorem FO (p:Prg) (L:List Iss) (a:Nat) (w:Int) (hC:PC Tryz.prog 22 [bZ p] (fun r => r = sl eJ L)) (hl:L.length ≤ 1048576) (hs:aK p.body ≤ 1048576) (hx:(⟨(a:Int),1,w⟩:Iss) ∈ L) (ha:a < (aC p).length) (hpl:(aC p).length ≤ 99) (hp:Dg (aC p)[a]!) (hw:0 ≤ w ∧ w ≤ 25) :
  PC Tryz.prog 7 [bZ p,iR ⟨(a : Int),1,w⟩] (fun r => r = sv (mC (aC p) ⟨(a : Int),1,w⟩)) := by
 have hP := fB p hs
 have h1 := uE (a : Int) (by omega) (by omega)
 have h2 := Fq (aC p)[a]! hp
 have h3 := qC w hw.1 hw.2
 have z1 := e8 (a : Int)
 have z2 := iF (aC p)[a]!
 have z3 := dF w
 have e : mC (aC p) ⟨(a : Int),1,w⟩ = ((((dO (a : Int) ++ ⟨#[32]⟩) ++ mN (aC p)[a]!) ++ ⟨#[58,32]⟩) ++ ⟨#[110,111,32,118,97,108,117,101,32,111,102,32]⟩) ++ dV w := if_pos rfl
 rw [e]
 generalize hxx : (⟨(a : Int),1,w⟩ : Iss) = x at *
 have x1 : x.point = (a : Int) := by rw [← hxx]
 have x2 : x.kind = 1 := by rw [← hxx]
 have x3 : x.with_ = w := by rw [← hxx]
 refine aB Tryz.func7 Tryz.ntmps7 ?_
 repeat' (first|(apply aI;(apply aA (k := 22);rfl;exact hC;exact Pur.pf;rfl))|refine aD ?_|fail)
 refine aJ (σ := Nat × Bool) [2,3,5] [0,1] (fun k => [(7,iv (k.1 : Int)),(6,bv k.2)]) (fun k => []) (fun k => k.1 ≤ L.length ∧ (k.2 = true ↔ ∃ j,j < k.1 ∧ nV L[j]! x = true)) (fun k => L.length - k.1) (0,false) ⟨by omega,by simp⟩ ?_
 rintro ⟨k,b⟩ ⟨hk,hbb⟩
 dsimp only at hk hbb ⊢
 have heq : (L[k]!.point == x.point && (L[k]!.kind == x.kind && L[k]!.with_ == x.with_)) = nV L[k]! x := rfl
 by_cases hkn : k < L.length
 ·cases b with
  | true =>
   repeat' (first|refine aD ?_|(refine aL ?_ ?_ <;> intro hc hq <;> try (exfalso;omega))|refine bV ?_|fail)
   all_goals first
    | (exfalso;exact (by assumption : ¬ True) trivial)
    | (exfalso;cases (by assumption : true = false);done)
    | ((refine a7 (k + 1, true) (Le.renA [(0, 0), (1, 1)]) ?_ ?_)
       ·refine ⟨by dsimp only; omega, fun _ => ?_, fun _ => rfl⟩
        obtain ⟨j,h1,h2⟩ := hbb.1 rfl
        exact ⟨j,by dsimp only;omega,h2⟩
       ·dsimp only;omega)
  | false =>
   have hno : ∀ j, j < k → nV L[j]! x = false := fun j hj => by
    cases hq : nV L[j]! x with
    | false => rfl
    | true => exact absurd (hbb.2 ⟨j,hj,hq⟩) (by simp)
   cases hb : nV L[k]! x with
   | true =>
    rw [hb] at heq
    repeat' (first|(apply aI;(apply iU;rfl;rfl;(rw [heq]; rfl);rfl))|refine aD ?_|(refine aL ?_ ?_ <;> intro hc hq <;> try (exfalso;omega))|refine bV ?_|fail)
    all_goals first
     | (exfalso;exact (by assumption : ¬ True) trivial)
     | ((refine a7 (k + 1, true) (Le.renA [(0, 0), (1, 1)]) ?_ ?_)
        ·exact ⟨by dsimp only;omega,fun _ => ⟨k,by dsimp only;omega,hb⟩,fun _ => rfl⟩
        ·dsimp only;omega)
   | false =>
    rw [hb] at heq
    repeat' (first|(apply aI;(apply iU;rfl;rfl;(rw [heq]; rfl);rfl))|refine aD ?_|(refine aL ?_ ?_ <;> intro hc hq <;> try (exfalso;omega))|refine bV ?_|fail)
    all_goals first
     | (exfalso;exact (by assumption : ¬ True) trivial)
     | ((refine a7 (k + 1, false) (Le.renA [(0, 0), (1, 1)]) ?_ ?_)
        ·refine ⟨by dsimp only; omega, Iff.intro (fun h => by cases h) (fun ⟨j, h1, h2⟩ => ?_)⟩
         dsimp only at h1
         by_cases e : j = k
         ·subst e;rw [hb] at h2;cases h2
         ·rw [hno j (by omega)] at h2;cases h2
        ·dsimp only;omega)
 ·have hb : b = true := by
   obtain ⟨j,hj,e⟩ := List.getElem_of_mem hx
   refine hbb.2 ⟨j,by omega,?_⟩
   rw [bE L j hj,e]; exact (iQ x x).2 rfl
  subst hb
  subst hxx
  repeat' (first|(apply aI;first|(apply aA (k := 23);rfl;exact hP;exact Pur.pf;rfl)|(apply aA (k := 24);rfl;exact h1;(rfl);rfl)|(apply aA (k := 25);rfl;exact h2;exact Pur.pf;rfl)|(apply aA (k := 26);rfl;exact h3;(rfl);rfl)|(apply cJ;rfl;rfl;(exact hO (by (simp only [ByteArray.size_append,eM,List.length_cons,List.length_nil,dF,dE,e7] <;> omega)));rfl))|refine aD ?_|(refine aL ?_ ?_ <;> intro hc hq <;> try (exfalso;omega))|refine bV ?_|fail)
  all_goals first
   | exact aH rfl ⟨rfl,rfl⟩
   | (exfalso;omega)
   | (exfalso;exact (by assumption : ¬ True) trivial)
theorem F9 (p:Prg) (L:List Iss) (a l:Nat) (k:Int) (hk1:k ≠ 1) (hC:PC Tryz.prog 22 [bZ p] (fun r => r = sl eJ L)) (hl:L.length ≤ 1048576) (hs:aK p.body ≤ 1048576) (hx:(⟨(a:Int),k,(l:Int)⟩:Iss) ∈ L) (ha:a < (aC p).length) (hll:l < (aC p).length) (hpl:(aC p).length ≤ 99) (hp:Dg (aC p)[a]!) (hq:Dg (aC p)[l]!) :
  PC Tryz.prog 7 [bZ p,iR ⟨(a : Int),k,(l : Int)⟩] (fun r => r = sv (mC (aC p) ⟨(a : Int),k,(l : Int)⟩)) := by
 have hP := fB p hs
 have h1 := uE (a : Int) (by omega) (by omega)
 have h2 := Fq (aC p)[a]! hp
 have h3 := uE (l : Int) (by omega) (by omega)
 have h4 := Fq (aC p)[l]! hq
 have z1 := e8 (a : Int)
 have z2 := iF (aC p)[a]!
 have z3 := e8 (l : Int)
 have z4 := iF (aC p)[l]!
 have e : mC (aC p) ⟨(a : Int),k,(l : Int)⟩ = ((((((dO (a : Int) ++ ⟨#[32]⟩) ++ mN (aC p)[a]!) ++ ⟨#[58,32]⟩) ++ ⟨#[108,111,97,110,32,111,102,32]⟩) ++ dO (l : Int)) ++ ⟨#[32]⟩) ++ mN (aC p)[l]! := if_neg hk1
 rw [e]
 generalize hxx : (⟨(a : Int),k,(l : Int)⟩ : Iss) = x at *
 clear e
 refine aB Tryz.func7 Tryz.ntmps7 ?_
 repeat' (first|(apply aI;(apply aA (k := 22);rfl;exact hC;exact Pur.pf;rfl))|refine aD ?_|fail)
 refine aJ (σ := Nat × Bool) [2,3,5] [0,1] (fun q => [(7,iv (q.1 : Int)),(6,bv q.2)]) (fun q => []) (fun q => q.1 ≤ L.length ∧ (q.2 = true ↔ ∃ j,j < q.1 ∧ nV L[j]! x = true)) (fun q => L.length - q.1) (0,false) ⟨by omega,by simp⟩ ?_
 rintro ⟨n,b⟩ ⟨hk,hbb⟩
 dsimp only at hk hbb ⊢
 have heq : (L[n]!.point == x.point && (L[n]!.kind == x.kind && L[n]!.with_ == x.with_)) = nV L[n]! x := rfl
 by_cases hkn : n < L.length
 ·cases b with
  | true =>
   repeat' (first|refine aD ?_|(refine aL ?_ ?_ <;> intro hc hq <;> try (exfalso;omega))|refine bV ?_|fail)
   all_goals first
    | (exfalso;exact (by assumption : ¬ True) trivial)
    | (exfalso;cases (by assumption : true = false);done)
    | ((refine a7 (n + 1, true) (Le.renA [(0, 0), (1, 1)]) ?_ ?_)
       ·refine ⟨by dsimp only; omega, fun _ => ?_, fun _ => rfl⟩
        obtain ⟨j,h1,h2⟩ := hbb.1 rfl
        exact ⟨j,by dsimp only;omega,h2⟩
       ·dsimp only;omega)
  | false =>
   have hno : ∀ j, j < n → nV L[j]! x = false := fun j hj => by
    cases hq : nV L[j]! x with
    | false => rfl
    | true => exact absurd (hbb.2 ⟨j,hj,hq⟩) (by simp)
   cases hb : nV L[n]! x with
   | true =>
    rw [hb] at heq
    repeat' (first|(apply aI;(apply iU;rfl;rfl;(rw [heq]; rfl);rfl))|refine aD ?_|(refine aL ?_ ?_ <;> intro hc hq <;> try (exfalso;omega))|refine bV ?_|fail)
    all_goals first
     | (exfalso;exact (by assumption : ¬ True) trivial)
     | ((refine a7 (n + 1, true) (Le.renA [(0, 0), (1, 1)]) ?_ ?_)
        ·exact ⟨by dsimp only;omega,fun _ => ⟨n,by dsimp only;omega,hb⟩,fun _ => rfl⟩
        ·dsimp only;omega)
   | false =>
    rw [hb] at heq
    repeat' (first|(apply aI;(apply iU;rfl;rfl;(rw [heq]; rfl);rfl))|refine aD ?_|(refine aL ?_ ?_ <;> intro hc hq <;> try (exfalso;omega))|refine bV ?_|fail)
    all_goals first
     | (exfalso;exact (by assumption : ¬ True) trivial)
     | ((refine a7 (n + 1, false) (Le.renA [(0, 0), (1, 1)]) ?_ ?_)
        ·refine ⟨by dsimp only; omega, Iff.intro (fun h => by cases h) (fun ⟨j, h1, h2⟩ => ?_)⟩
         dsimp only at h1
         by_cases e : j = n
         ·subst e;rw [hb] at h2;cases h2
         ·rw [hno j (by omega)] at h2;cases h2
        ·dsimp only;omega)
 ·have hb : b = true := by
   obtain ⟨j,hj,e⟩ := List.getElem_of_mem hx
   refine hbb.2 ⟨j,by omega,?_⟩
   rw [bE L j hj,e]; exact (iQ x x).2 rfl
  subst hb
  subst hxx
  repeat' (first|(apply aI;first|(apply aA (k := 23);rfl;exact hP;exact Pur.pf;rfl)|(apply aA (k := 24);rfl;exact h1;(rfl);rfl)|(apply aA (k := 25);rfl;exact h2;exact Pur.pf;rfl)|(apply aA (k := 24);rfl;exact h3;(rfl);rfl)|(apply aA (k := 25);rfl;exact h4;exact Pur.pf;rfl)|(apply cJ;rfl;rfl;(exact hO (by (simp only [ByteArray.size_append,eM,List.length_cons,List.length_nil,dF,dE,e7] <;> omega)));rfl))|refine aD ?_|(refine aL ?_ ?_ <;> intro hc hq <;> try (exfalso;omega))|refine bV ?_|fail)
  all_goals first
   | exact aH rfl ⟨rfl,rfl⟩
   | (exfalso;omega)
   | (exfalso;exact (by assumption : ¬ True) trivial)
theorem HC (p:Prg) (x:Iss) (hv:b0 p = false) (hl:p.types.length ≤ 1048576) (hs:aK p.body ≤ 1048576):PC Tryz.prog 10 [bZ p,iR x] (fun r => r = sv ⟨#[]⟩):=by
 have hg := gA p hl hs
 rw [if_neg (by simp [hv])] at hg
 refine aB Tryz.func10 Tryz.ntmps10 ?_
 repeat' (first|(apply aI;(apply aA (k := 29);rfl;exact hg;exact Pur.pf;rfl))|refine aD ?_|refine bV ?_|fail)
 all_goals exact aH rfl ⟨rfl,rfl⟩
theorem FX (p:Prg) (f:Flows p.types (aC p)) (x:Iss) (hv:b0 p = true) (hx:x ∉ f.iss) (hl:p.types.length ≤ 1048576) (hs:aK p.body ≤ 1048576):PC Tryz.prog 10 [bZ p,iR x] (fun r => r = sv ⟨#[]⟩):=by
 have w := WG.of_valid hv
 have hg := gA p hl hs
 rw [if_pos hv] at hg
 have hi := mU p.types p.body (aC p) w f
 have hc := A4 f.iss x (Nat.le_trans (kD w f) (by decide))
 rw [decide_eq_false hx] at hc
 refine aB Tryz.func10 Tryz.ntmps10 ?_
 repeat' (first|(apply aI;first|(apply aA (k := 29);rfl;exact hg;exact Pur.pf;rfl)|(apply aA (k := 31);rfl;exact hi;exact Pur.pf;rfl)|(apply aA (k := 30);rfl;exact hc;exact Pur.pf;rfl))|refine aD ?_|refine bV ?_|fail)
 all_goals exact aH rfl ⟨rfl,rfl⟩
theorem FR (p:Prg) (f:Flows p.types (aC p)) (x:Iss) (hv:b0 p = true) (hx:x ∈ f.iss) (hl:p.types.length ≤ 1048576) (hs:aK p.body ≤ 1048576) (h:PC Tryz.prog 32 [aG p.types p.body (aC p),iR x] (fun r => r = sv (mC (aC p) x))):PC Tryz.prog 10 [bZ p,iR x] (fun r => r = sv (mC (aC p) x)):=by
 have w := WG.of_valid hv
 have hg := gA p hl hs
 rw [if_pos hv] at hg
 have hi := mU p.types p.body (aC p) w f
 have hc := A4 f.iss x (Nat.le_trans (kD w f) (by decide))
 rw [decide_eq_true hx] at hc
 refine aB Tryz.func10 Tryz.ntmps10 ?_
 repeat' (first|(apply aI;first|(apply aA (k := 29);rfl;exact hg;exact Pur.pf;rfl)|(apply aA (k := 31);rfl;exact hi;exact Pur.pf;rfl)|(apply aA (k := 30);rfl;exact hc;exact Pur.pf;rfl)|(apply aA (k := 32);rfl;exact h;exact Pur.pf;rfl))|refine aD ?_|refine bV ?_|fail)
 all_goals exact aH rfl ⟨rfl,rfl⟩
theorem Hx (p:Prg) (x:Iss) (f:Flows p.types (aC p)) (hv:b0 p = true) (hl:p.types.length ≤ 1048576) (hs:aK p.body ≤ 1048576):∃ s:ByteArray,PC Tryz.prog 10 [bZ p,iR x] (fun r => r = sv s) ∧ PC Tryz.prog 7 [bZ p,iR x] (fun r => r = sv s) ∧
  (s.toList == (⟨#[]⟩ : ByteArray).toList) = !decide (x ∈ f.iss) := by
 have w := WG.of_valid hv
 have e : zY p f = f.iss := if_pos hv
 have hC := w7 p f hl hs
 rw [e] at hC
 have hLl : f.iss.length ≤ 1048576 := Nat.le_trans (kD w f) (by decide)
 by_cases hx : x ∈ f.iss
 ·obtain ⟨j, hj, hje⟩ := List.getElem_of_mem hx
  have hok := (EZ w f).1 j hj
  rw [bE _ _ hj,hje] at hok
  obtain ⟨pt,k,wi⟩ := x
  obtain ⟨a,rfl⟩ := Int.eq_ofNat_of_zero_le hok.p0
  have ha : a < (aC p).length := by have := hok.p1;dsimp only at this;omega
  have hpl := w.pl
  have htl := w.tl
  have hpa := yM hv ha
  refine ⟨mC (aC p) ⟨(a : Int),k,wi⟩,?_,?_,by rw [G0,decide_eq_true hx]; rfl⟩
  ·refine FR p f _ hv hx hl hs ?_
   rcases hok.k with ⟨h1,h2⟩ | ⟨h1,h2⟩
   ·dsimp only at h1 h2
    subst h1
    exact uH p.types p.body (aC p) a wi ha (by omega) hpa (by omega)
   ·dsimp only at h1 h2
    obtain ⟨l,rfl⟩ := Int.eq_ofNat_of_zero_le h2.1
    exact uT p.types p.body (aC p) a l k (by omega) ha (by omega) (by omega) hpa (yM hv (by omega))
  ·rcases hok.k with ⟨h1, h2⟩ | ⟨h1, h2⟩
   ·dsimp only at h1 h2
    subst h1
    exact FO p f.iss a wi hC hLl hs hx ha (by omega) hpa (by omega)
   ·dsimp only at h1 h2
    obtain ⟨l,rfl⟩ := Int.eq_ofNat_of_zero_le h2.1
    exact F9 p f.iss a l k (by omega) hC hLl hs hx ha (by omega) (by omega) hpa (yM hv (by omega))
 ·exact ⟨⟨#[]⟩,FX p f x hv hx hl hs,Bk p x f.iss hC hLl hx,by rw [decide_eq_false hx]; simp⟩
theorem AU (p:Prg) (x:Iss) (hl:p.types.length ≤ 1048576) (hs:aK p.body ≤ 1048576):∃ (L:List Iss) (s:ByteArray),PC Tryz.prog 13 [bZ p] (fun r => r = sl eJ L) ∧ PC Tryz.prog 10 [bZ p,iR x] (fun r => r = sv s) ∧ PC Tryz.prog 7 [bZ p,iR x] (fun r => r = sv s) ∧
  L.length ≤ 1048576 ∧ (s.toList == (⟨#[]⟩ : ByteArray).toList) = !decide (x ∈ L) := by
 cases hv : b0 p with
 | false => exact ⟨[],⟨#[]⟩,rX p hv hl hs,HC p x hv hl hs,Bk p x [] (rZ p hv hl hs) (by simp) (by simp),by simp,by simp⟩
 | true =>
  have w := WG.of_valid hv
  obtain ⟨f⟩ := Flows.ex w
  have e : zY p f = f.iss := if_pos hv
  have hCI := xI p f hl hs
  rw [e] at hCI
  obtain ⟨s,h1,h2,h3⟩ := Hx p x f hv hl hs
  exact ⟨f.iss,s,hCI,h1,h2,Nat.le_trans (kD w f) (by decide),h3⟩
theorem Ct (s:ByteArray):qU .eql s s = some (.bool true) := by simp [qU]
theorem yS (s:ByteArray):qU .neq s s = some (.bool false) := by simp [qU]
theorem Hn {s:ByteArray}{b:Bool}(h:(s.toList == (⟨#[]⟩:ByteArray).toList) = !b):qU .neq s ⟨#[]⟩ = some (.bool b) := by simp only [qU,h,Bool.not_not]
theorem n5 (bs:List UInt8):PC Tryz.prog 4 [sl cU bs] (fun r => r = bv true):=by
 rcases Nat.lt_or_ge 1048576 bs.length with hb|hb
 ·refine aB Tryz.func4 Tryz.ntmps4 ?_
  repeat' (first|refine aD ?_|(refine aL ?_ ?_ <;> intro hc hq <;> try (exfalso;omega))|fail)
  exact aH rfl ⟨rfl,rfl⟩
 refine aB Tryz.func4 Tryz.ntmps4 ?_
 repeat' (first|(apply aI;first|(apply cS;rfl;rfl;rfl;rfl;rfl;(case hl => (simp;done));exact (rfl:_=[_,_,_]))|(apply gT (k := 12);rfl;exact B5 bs hb;exact Pur.pf;rfl;(rintro _ ⟨q,x,rfl,hq1,hq2⟩ _))|(with_reducible apply cF (d := 17)))|refine aD ?_|(refine aL ?_ ?_ <;> intro hc hq <;> try (exfalso;omega))|fail)
 refine eQ ?_
 obtain ⟨L,s,h1,h2,h3,hLl,he⟩ := AU q x (by omega) (by omega)
 repeat' (first|(apply aI;first|(apply aA (k := 10);rfl;exact h2;exact Pur.pf;rfl)|(apply aA (k := 13);rfl;exact h1;exact Pur.pf;rfl))|refine aD ?_|fail)
 refine aJ (σ := Nat × Bool) [3,4,5,6] [0,1] (fun q => [(8,iv (q.1 : Int)),(7,bv q.2)]) (fun q => []) (fun q => q.1 ≤ L.length ∧ (q.2 = true ↔ ∃ j,j < q.1 ∧ nV L[j]! x = true)) (fun q => L.length - q.1) (0,false) ⟨by omega,by simp⟩ ?_
 rintro ⟨n,b⟩ ⟨hk,hbb⟩
 dsimp only at hk hbb ⊢
 have heq : (L[n]!.point == x.point && (L[n]!.kind == x.kind && L[n]!.with_ == x.with_)) = nV L[n]! x := rfl
 by_cases hkn : n < L.length
 ·cases b with
  | true =>
   repeat' (first|refine aD ?_|(refine aL ?_ ?_ <;> intro hc hq <;> try (exfalso;omega))|refine bV ?_|fail)
   all_goals first
    | (exfalso;exact (by assumption : ¬ True) trivial)
    | ((refine a7 (n + 1, true) (Le.renA [(0, 0), (1, 1)]) ?_ ?_)
       ·refine ⟨by dsimp only; omega, fun _ => ?_, fun _ => rfl⟩
        obtain ⟨j,h1,h2⟩ := hbb.1 rfl
        exact ⟨j,by dsimp only;omega,h2⟩
       ·dsimp only;omega)
  | false =>
   have hno : ∀ j, j < n → nV L[j]! x = false := fun j hj => by
    cases hq : nV L[j]! x with
    | false => rfl
    | true => exact absurd (hbb.2 ⟨j,hj,hq⟩) (by simp)
   cases hb : nV L[n]! x with
   | true =>
    rw [hb] at heq
    repeat' (first|(apply aI;(apply iU;rfl;rfl;(rw [heq]; rfl);rfl))|refine aD ?_|(refine aL ?_ ?_ <;> intro hc hq <;> try (exfalso;omega))|refine bV ?_|fail)
    all_goals first
     | (exfalso;exact (by assumption : ¬ True) trivial)
     | ((refine a7 (n + 1, true) (Le.renA [(0, 0), (1, 1)]) ?_ ?_)
        ·exact ⟨by dsimp only;omega,fun _ => ⟨n,by dsimp only;omega,hb⟩,fun _ => rfl⟩
        ·dsimp only;omega)
   | false =>
    rw [hb] at heq
    repeat' (first|(apply aI;(apply iU;rfl;rfl;(rw [heq]; rfl);rfl))|refine aD ?_|(refine aL ?_ ?_ <;> intro hc hq <;> try (exfalso;omega))|refine bV ?_|fail)
    all_goals first
     | (exfalso;exact (by assumption : ¬ True) trivial)
     | ((refine a7 (n + 1, false) (Le.renA [(0, 0), (1, 1)]) ?_ ?_)
        ·refine ⟨by dsimp only; omega, Iff.intro (fun h => by cases h) (fun ⟨j, h1, h2⟩ => ?_)⟩
         dsimp only at h1
         by_cases e : j = n
         ·subst e;rw [hb] at h2;cases h2
         ·rw [hno j (by omega)] at h2;cases h2
        ·dsimp only;omega)
 ·have hfb : b = decide (x ∈ L) := by
   cases b with
   | true =>
    obtain ⟨j,hj,e⟩ := hbb.1 rfl
    exact (decide_eq_true (by have := bD L j (by omega);rw [(iQ _ _).1 e] at this;exact this)).symm
   | false =>
    refine (decide_eq_false fun hx => ?_).symm
    obtain ⟨j,hj,e⟩ := List.getElem_of_mem hx
    exact absurd (hbb.2 ⟨j,by omega,by rw [bE L j hj,e]; exact (iQ x x).2 rfl⟩) (by simp)
  rw [← hfb] at he
  repeat' (first|(apply aI;first|(apply cJ (d := 41);rfl;rfl;exact Ct s;rfl)|(apply cJ (d := 44);rfl;rfl;exact Hn he;rfl)|(apply aA (k := 7);rfl;exact h3;exact Pur.pf;rfl))|refine aD ?_|(refine aL ?_ ?_ <;> intro hc hq <;> try (exfalso;omega))|fail)
  all_goals first
   | exact aH rfl ⟨congrArg bv (decide_eq_true rfl),rfl⟩
   | (exfalso;exact (by assumption : ¬ True) trivial)
   | (exfalso;omega)
theorem jY (p:Prg) (x:Iss) (hl:p.types.length ≤ 9223372036854775807) (hln:Fv p.body):PC Tryz.prog 3 [bZ p,iR x] (fun r => r = bv true):=by
 have c0 := u5 p 1048576 (by decide) (by decide) hl hln
 by_cases q : ((p.types.length + aK p.body : Nat) : Int) ≤ 1048576
 ·rw [kX q] at c0
  have h1 := vS p (by omega) (by omega)
  have h2 := xW p (by omega) (by omega)
  obtain ⟨L,s,_,h3,h4,_,_⟩ := AU p x (by omega) (by omega)
  have h5 := BG x
  refine aB Tryz.func3 Tryz.ntmps3 ?_
  repeat' (first|(apply aI;first|(apply cJ (d := 27);rfl;rfl;exact yS s;rfl)|(apply aA (k := 6);rfl;exact c0;exact Pur.pf;rfl)|(apply aA (k := 8);rfl;exact h1;exact Pur.pf;rfl)|(apply aA (k := 11);rfl;exact h2;exact Pur.pf;rfl)|(apply aA (k := 10);rfl;exact h3;exact Pur.pf;rfl)|(apply aA (k := 7);rfl;exact h4;exact Pur.pf;rfl)|(apply aA (k := 9);rfl;exact h5;(rfl);rfl))|refine aD ?_|(refine aL ?_ ?_ <;> intro hc hq <;> try (exfalso;omega))|refine bV ?_|fail)
  all_goals first
   | (exfalso;exact (by assumption : ¬ True) trivial)
   | (exfalso;omega)
   | (refine aH rfl ⟨?_,rfl⟩; simp only [aM,decide_true]; done)
   | exact aH rfl ⟨rfl,rfl⟩
 ·rw [iI q] at c0
  refine aB Tryz.func3 Tryz.ntmps3 ?_
  repeat' (first|(apply aI;(apply aA (k := 6);rfl;exact c0;exact Pur.pf;rfl))|refine aD ?_|fail)
  all_goals first
   | exact aH rfl ⟨rfl,rfl⟩
   | (exfalso;omega)
end Go.Proofs.YtgkalkgplcdnkaaGreatDoor
