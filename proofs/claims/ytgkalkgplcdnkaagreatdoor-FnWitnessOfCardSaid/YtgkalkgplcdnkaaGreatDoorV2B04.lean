/-
 A part of the proofs over this program: rules and contracts of its functions (the contracts).
-/
import Derived.Test.YtgkalkgplcdnkaaGreatDoorV2B03
import Derived.Test.YtgkalkgplcdnkaaGreatDoorRows
import Derived.WalkKit
import Derived.ProofKit
import Derived.OpenShut
import Derived.Carry
import Derived.ChangeSlices
set_option linter.unusedVariables false
set_option linter.unusedSimpArgs false
set_option maxHeartbeats 8000000
set_option maxRecDepth 4000
attribute [local irreducible] Go.AL.RW Go.AL.AW Go.AL.Stop
namespace Go.Proofs.YtgkalkgplcdnkaaGreatDoor
open Go.AL Go.RowKit
variable {N : Nat} {Q : Exit → AS → Prop} {all : Array Oper} {rest : List Oper} {tsl : List (Nat × AV)} {hsl : List (Nat × Option (List AV))} {nidl : Nat} {z0 : Lo} {md : Md} {d : Nat} {ty : TypeId} {pos : String} {af : Array Edge} {tys : Array TypeId}
class NumS (cs : List AV) (xs : outParam (List ByteArray)) : Prop where h : cs = flat Az xs
instance NumS.nil : NumS [] []:=⟨rfl⟩
instance NumS.cons {n : ByteArray} {cs : List AV} {xs : List ByteArray} [h : NumS cs xs] : NumS (.v (.string n) :: cs) (n :: xs):=⟨by rw [h.h]; rfl⟩
theorem E7 {cs:List AV}{xs:List ByteArray}{m:Nat}(h:NumS cs xs) (hm:m = xs.length) (hs:xs.all (fun s => decide (s.size ≤ 600)) = true):∃ ys:List ByteArray,AV.imm m cs = sl Az ys ∧ ys.length = m ∧ ∀ i:Nat,(ys[i]!).size ≤ 600:=by
 refine ⟨xs,by rw [h.h,hm],hm.symm,fun i => ?_⟩
 by_cases hi : i < xs.length
 ·rw [List.all_eq_true] at hs
  rw [a8 _ _ hi]
  simpa using hs _ (List.getElem_mem hi)
 ·rw [getElem!_neg xs i hi]; decide
theorem C3:PC Tryz.prog 71 [] (fun r => ∃ ys:List ByteArray,r = sl Az ys ∧ ys.length = 25 ∧ ∀ i:Nat,(ys[i]!).size ≤ 600):=by
 refine aC Tryz.func71 Tryz.ntmps71 ?_
 repeat' (first|(apply aF;(apply aL (t := _);rfl;rfl;rfl;exact (rfl:_=some [_,_,_,_,_,_,_,_,_,_,_,_,_,_,_,_,_,_,_,_,_,_,_,_,_]);rfl;rfl))|refine aD ?_|fail)
 refine qI (l := [.imm 25 [_,_,_,_,_,_,_,_,_,_,_,_,_,_,_,_,_,_,_,_,_,_,_,_,_]]) ?_ rfl ?_
 ·rintro _ ⟨ys,rfl,_⟩; exact a7 _ _
 ·exact E7 inferInstance rfl (by decide)
theorem qF {P:Program}{N:Nat}{Q:Exit → AS → Prop}{all:Array Oper}{rest:List Oper}{ts:List (Nat × AV)}{hs:List (Nat × Option (List AV))}{n:Nat}{z0:Lo}{ty:TypeId}{pos:String}{af:Array Edge}{d:Nat}{args:Array Operand}{tys:Array TypeId}
  {k : FuncId} {pv : List AV} {p0 : Prg × Nat → Prop} {i p : Nat} {bs : List UInt8} (h : MC P k (.optr 0 0 :: pv) [(0,some (dK bs p))] 1 p0 (fun x => bU x.1) (fun x => [(0,some (dK bs x.2))])) [hc : CaT P k] (ha : evL (lk ts) args.toList = some (.optr i 0 :: pv)) (hpv : bD pv = true)
  (hH : aR hs i = some (dK bs p)) (hM : Nat.ble (n + 0) aS = true) (hN : Nat.blt d N = true) (kk : ∀ x,p0 x → RW P N all Q .txt rest ⟨(d,bU x.1) :: ts,(i,some (dK bs x.2)) :: hs,n + 0,z0⟩) :
  RW P N all Q .txt (⟨some d,.call ⟨.value (.func k),args,tys⟩,ty,pos,af,none⟩ :: rest) ⟨ts,hs,n,z0⟩ :=
 F1 (σ := Prg × Nat) [i] 1 (fun x : Prg × Nat => [(i, some (dK bs x.2))]) h ha rfl ⟨⟨_, _, rfl, hH, RnL.purI inferInstance⟩, trivial⟩ rfl (RnL.cons (RnV.optr rfl) (RnL.pur hpv)) (by simpa using hM)
  (fun x _ => RnV.purI inferInstance) (fun x _ => by simp [qJ]) (fun x _ => ⟨⟨0,_,rfl,rfl,RnL.purI inferInstance⟩,trivial⟩) hN kk
theorem Jg (bs:List UInt8) (p:Nat) (xs:List Int) (lo hi:Int) (h0:0 < xs.length) (h:xs.all (fun x => decide (lo ≤ x) && decide (x ≤ hi)) = true):lo ≤ gJ bs p xs ∧ gJ bs p xs ≤ hi:=by
 have h1 := cQ bs p (xs.length : Int)
 rw [iK] at h
 have := h (aW bs p (xs.length : Int)).toNat (by omega)
 simp only [Bool.and_eq_true,decide_eq_true_eq] at this
 exact this
theorem JI (bs:List UInt8) (p:Nat) (hb:bs.length ≤ 2000) (hp:p ≤ 1000):MC Tryz.prog 37 [.optr 0 0] [(0,some (dK bs p))] 1 (fun x:Prg × Nat => aN x.1.body ≤ 620 ∧ x.1.types.length ≤ 620 ∧ x.2 ≤ 2000) (fun x => bU x.1) (fun x => [(0,some (dK bs x.2))]):=by
 have h0 := cQ bs p 25
 have hn := Jg bs (p + 1 + 1) [5,4,7,3,8] 0 8 (by decide) (by decide)
 refine bS Tryz.func37 Tryz.ntmps37 ?_
 repeat' (first|(apply aF;first|(apply gI (k := 71);rfl;exact C3;(rfl);rfl;(rintro _ ⟨ys,rfl,hyl,hsz⟩ _);(have hpk := cQ bs p (ys.length : Int)))|(apply gI (k := 72);rfl;exact rU _ (Nat.le_trans (hsz _) (by decide));(rfl);rfl;(rintro _ ⟨q,b,rfl,hqc,hqt⟩ _))|(apply tF (ts := [1,2,2,3,4,4]);rfl;rfl;rfl;rfl;rfl;(apply Fu <;> (first|assumption|omega));rfl;rfl)|(apply aL (t := _);rfl;rfl;rfl;(exact (rfl:_=some [_,_,_,_,_,_]));rfl;rfl)|(first|(apply j4;rfl;rfl;(rfl);(apply mB <;> (first|assumption|omega));rfl;rfl)|(apply BP;rfl;rfl;rfl;rfl;infer_instance;rfl;(rfl);assumption;omega;(decide);(decide);rfl;rfl)))|refine aD ?_|(refine aK ?_ ?_ <;> intro hc hq <;> try (exfalso;omega))|(refine bR ?_ ?_ <;> intro hg hq <;> try (exfalso;omega))|refine bT ?_|fail)
 ·have h9 := hsz (aW bs p (ys.length : Int)).toNat
  refine aE rfl ?_
  exact bJ (q,p + 1 + 1) ⟨by dsimp only;omega,by dsimp only;omega,by dsimp only;omega⟩ rfl ⟨.inr rfl,trivial⟩
 ·have h9 := ID bs (d := 2) (by omega) (gJ bs (p + 1 + 1) [5, 4, 7, 3, 8]) (p + 1 + 1 + 1)
  have h10 := wK bs (d := 2) (by omega) (gJ bs (p + 1 + 1) [5,4,7,3,8]) (p + 1 + 1 + 1)
  refine aE rfl ?_
  exact bJ ((⟨[1,2,2,3,4,4],(cS bs 2 (gJ bs (p + 1 + 1) [5,4,7,3,8]) (p + 1 + 1 + 1)).1⟩ : Prg),(cS bs 2 (gJ bs (p + 1 + 1) [5,4,7,3,8]) (p + 1 + 1 + 1)).2) ⟨by dsimp only;omega,by show 6 ≤ 620;decide,by dsimp only;omega⟩ rfl ⟨.inr rfl,trivial⟩
 ·have h9 := hsz (aW bs p (ys.length : Int)).toNat
  refine aE rfl ?_
  exact bJ (q,p + 1 + 1) ⟨by dsimp only;omega,by dsimp only;omega,by dsimp only;omega⟩ rfl ⟨.inr rfl,trivial⟩
theorem AD {bs:List UInt8}{x0:Operand}(ha0:ev (lk tsl) x0 = some (sl cU bs)) (hmc:MC Tryz.prog 35 [sl cU bs] [] 0 (fun _:Unit => True) (fun _ => .optr 0 0) (fun _ => [(0,some (dK (bs.take 2000) 0))])) (hM:Nat.ble (nidl + 1) aS = true) (hN:Nat.blt d N = true){md':Md}[hmd:MdA md (iA [x0] ++ []) (List.map Sum.inr (List.map Prod.fst ([(nidl,some (dK (bs.take 2000) 0))]:List (Nat × Option (List AV)))) ++ [.inl d]) md'] (kk:RW Tryz.prog N all Q md' rest ⟨(d,.optr nidl 0) :: tsl,kB hsl [(nidl,some (dK (bs.take 2000) 0))],nidl + 1,z0⟩):RW Tryz.prog N all Q md (⟨some d,.call ⟨.value (.func 35),#[x0],tys⟩,ty,pos,af,none⟩ :: rest) ⟨tsl,hsl,nidl,z0⟩:=by
 exact bQ (l := [x0]) [] 1 [(nidl,some (dK (bs.take 2000) 0))] hmc (avs := [sl cU bs]) (by simp only [evL,ha0]) rfl hM hN (md' := md') (hmd := hmd) kk
theorem Cu (bs:List UInt8) (hb:bs.length ≤ 1048576):MC Tryz.prog 35 [sl cU bs] [] 0 (fun _:Unit => True) (fun _ => .optr 0 0) (fun _ => [(0,some (dK (bs.take 2000) 0))]) := Kv bs hb
theorem Dr (p:Prg) (hv:bH p = false) (hl:p.types.length ≤ 1048576) (hs:aN p.body ≤ 1048576):PC Tryz.prog 13 [bU p] (fun r => r = sl eV []):=by
 refine aC Tryz.func13 Tryz.ntmps13 ?_
 repeat' (first|(apply aF;(apply aA (k := 29);rfl;(exact (by have := c6 p hl hs;rw [if_neg (by simp [hv])] at this;exact this));exact Pur.pf;rfl))|refine aD ?_|fail)
 (refine aT (Le.nilImm (d := 2) rfl) ?_; refine aE rfl ?_)
 exact ⟨rfl,rfl⟩
theorem tL (p:Prg) (hv:bH p = false) (hl:p.types.length ≤ 1048576) (hs:aN p.body ≤ 1048576):PC Tryz.prog 22 [bU p] (fun r => r = sl eV []):=by
 have hval := kR p hl (by omega)
 rw [hv] at hval
 refine aC Tryz.func22 Tryz.ntmps22 ?_
 repeat' (first|(apply aF;first|(apply aA (k := 51);rfl;exact hval;exact Pur.pf;rfl)|(apply aL (t := _);rfl;rfl;rfl;(rfl);rfl;rfl))|refine aD ?_|fail)
 exact aE rfl ⟨rfl,rfl⟩
theorem AI (p:Prg) (hl:p.types.length ≤ 1048576) (hs:aN p.body ≤ 1048576):∃ L:List Iss,PC Tryz.prog 13 [bU p] (fun r => r = sl eV L) ∧ PC Tryz.prog 22 [bU p] (fun r => r = sl eV L) ∧ (bH p = false → L = []) ∧
  (∀ k,k < L.length → IsOk p.types.length (if bH p = true then aB p else []).length L[k]!) ∧ (∀ k,k + 1 < L.length → L[k]!.point ≤ L[k + 1]!.point) ∧ L.length ≤ 1048576 := by
 cases hv : bH p
 ·exact ⟨[],Dr p hv hl hs,tL p hv hl hs,fun _ => rfl,fun k h => by simp at h,fun k h => by simp at h,by simp⟩
 ·have w := WG.of_valid hv
  obtain ⟨f⟩ := Flows.ex w
  obtain ⟨h1,h2⟩ := Bb w f
  have e : AF p f = f.iss := if_pos hv
  refine ⟨f.iss,?_,?_,fun h => Bool.noConfusion h,?_,h2,?_⟩
  ·rw [← e]; exact E1 p f hl hs
  ·rw [← e]; exact pJ p f hl hs
  ·exact h1
  ·exact Nat.le_trans (fX w f) (by decide)
instance : Eq3 Tryz.prog 34 where
 g := Tryz.eqGuardType34
 e := fun a b c a' b' c' w => by
  have u3 := Tryz.underlying3
  have a3 := Tryz.isAgg3
  have z3 := Tryz.sizeOf3
  have hS : Tryz.prog.underlying 34 = some (.struct (Tryz.prog.fieldsOf 34)) := by kernel_rfl
  have hp : Tryz.prog.stoodInHeld 34 = false := by kernel_rfl
  rw [show (10000 : Nat) = 9999 + 1 from rfl,run_equalIn_agg w 9999 34 _ _ hS hp]
  simp only [Program.fieldsOf,Tryz.underlying34]
  go_simp
  by_cases h1 : a = a' <;> by_cases h2 : b = b' <;> by_cases h3 : c = c' <;> simp [h1,h2,h3]
theorem xI (p:Prg) (hl:p.types.length ≤ 1048576) (hs:aN p.body ≤ 1048576):PC Tryz.prog 81 [bU p] (fun r => r = sl bK (if bH p = true then aB p else [])):=by
 have hval := kR p hl (by omega)
 have h2 := dD p hs
 refine aC Tryz.func81 Tryz.ntmps81 ?_
 repeat' (first|(apply aF;first|(apply aA (k := 51);rfl;exact hval;exact Pur.pf;rfl)|(apply aA (k := 23);rfl;exact h2;exact Pur.pf;rfl)|(apply aL (t := _);rfl;rfl;rfl;(rfl);rfl;rfl))|refine aD ?_|(refine aK ?_ ?_ <;> intro hc hq <;> try (exfalso;omega))|fail)
 ·refine aE rfl ⟨?_, (by (rfl))⟩
  rw [if_neg (by simp [hq])]; rfl
 ·refine aE rfl ⟨?_, (by (exact a7 _ _))⟩
  rw [if_pos hq]; rfl
theorem FK (L:List Int) (hl:L.length ≤ 1048576):PC Tryz.prog 17 [sl cI L,sl cI L] (fun r => r = bv true):=by
 refine aC Tryz.func17 Tryz.ntmps17 ?_
 repeat' (first|refine aD ?_|(refine aK ?_ ?_ <;> intro hc hq <;> try (exfalso;omega))|fail)
 ·exact (hq trivial).elim
 refine aI (σ := Nat) [0,1] [] (fun k => [(5,iv (k : Int))]) (fun k => []) (fun k => k ≤ L.length) (fun k => L.length - k) (0) (by omega) ?_
 rintro k hk
 repeat' (first|refine aD ?_|(refine aK ?_ ?_ <;> intro hc hq <;> try (exfalso;omega))|refine bT ?_|fail)
 ·exfalso
  simp at hq
 ·(refine aY (k + 1) (Le.renA []) ?_ ?_)
  ·omega
  ·omega
 ·exact aE rfl ⟨rfl,rfl⟩
theorem GA (L:List Int) (n:Int) (hl:L.length ≤ 1048576):PC Tryz.prog 19 [sl cI L,iv n] (fun r => r = bv (decide (n ∈ L))):=by
 refine aC Tryz.func19 Tryz.ntmps19 ?_
 repeat' (first|refine aD ?_|fail)
 refine aI (σ := Nat) [0,1] [] (fun k => [(5,iv (k : Int))]) (fun k => []) (fun k => k ≤ L.length ∧ ∀ j,j < k → L[j]! ≠ n) (fun k => L.length - k) (0) ⟨by omega,by omega⟩ ?_
 rintro k ⟨hk,hall⟩
 repeat' (first|refine aD ?_|(refine aK ?_ ?_ <;> intro hc hq <;> try (exfalso;omega))|fail)
 ·refine aE rfl ⟨?_, rfl⟩
  simp only [aO]
  rw [decide_eq_true (by have h := aZ L k (by omega);rw [hq] at h;exact h)]
 ·(refine aY (k + 1) (Le.renA []) ?_ ?_)
  ·exact ⟨by omega, fun j hj => by
    by_cases e : j = k
    ·subst e;exact hq
    ·exact hall j (by omega)⟩
  ·omega
 ·refine aE rfl ⟨?_, rfl⟩
  simp only [aO]
  rw [decide_eq_false (fun h => by
   obtain ⟨j,hj,e⟩ := List.getElem_of_mem h
   exact hall j (by omega) (by rw [a8 _ _ hj]; exact e))]
theorem JP {xs:List Int}{m:Nat}{x0:Operand}{i0:Nat}(ha0:ev (lk tsl) x0 = some (.own i0 0 m 1)) (hH0:aR hsl i0 = some (flat cI xs)) (hmc:MC Tryz.prog 78 [.own 0 0 m 1] [(0,some (flat cI xs))] 1 (fun _:Unit => True) (fun _ => .tup []) (fun _ => [(0,some (flat cI xs.reverse))])) (hM:Nat.ble (nidl + 0) aS = true) (hN:Nat.blt d N = true){md':Md}[hmd:MdA md (iA [x0] ++ [.inr i0]) (List.map Sum.inr (List.map Prod.fst ([(i0,some (flat cI xs.reverse))]:List (Nat × Option (List AV)))) ++ [.inl d]) md'] (kk:RW Tryz.prog N all Q md' rest ⟨(d,.tup []) :: tsl,kB hsl [(i0,some (flat cI xs.reverse))],nidl + 0,z0⟩):RW Tryz.prog N all Q md (⟨some d,.call ⟨.value (.func 78),#[x0],tys⟩,ty,pos,af,none⟩ :: rest) ⟨tsl,hsl,nidl,z0⟩:=by
 exact bQ (l := [x0]) [i0] 1 [(i0,some (flat cI xs.reverse))] hmc (avs := [.own i0 0 m 1]) (by simp only [evL,ha0]) rfl hM hN (md' := md') (hmd := hmd) kk
theorem KU (xs:List Int) (m:Nat) (hm:m = xs.length) (hl:xs.length ≤ 1048576):MC Tryz.prog 78 [.own 0 0 m 1] [(0,some (flat cI xs))] 1 (fun _:Unit => True) (fun _ => .tup []) (fun _ => [(0,some (flat cI xs.reverse))]):=by
 subst hm
 refine bS Tryz.func78 Tryz.ntmps78 ?_
 repeat' (first|refine aD ?_|fail)
 refine aI (σ := Nat × List Int × Int) [0] [] (fun k => [(2,iv (k.1 : Int)),(3,iv k.2.2)]) (fun k => [(0,some (flat cI k.2.1))]) (fun k => 2 * k.1 ≤ xs.length ∧ k.2.1.length = xs.length ∧ (∀ l,l < xs.length → k.2.1[l]! = if l < k.1 ∨ xs.length ≤ l + k.1 then xs[xs.length - 1 - l]! else xs[l]!) ∧ k.2.2 = (xs.length : Int) - 1 - (k.1 : Int)) (fun k => xs.length - k.1) (0,xs,(xs.length : Int) - 1) ⟨by omega,rfl,fun l hl => by rw [if_neg (by omega)],by simp⟩ ?_
 rintro ⟨k,u,z⟩ ⟨hk,hul,hu,hz⟩
 dsimp only at hk hul hu hz
 try dsimp only
 repeat' (first|refine aD ?_|(refine aK ?_ ?_ <;> intro hc hq <;> try (exfalso;omega))|refine bT ?_|fail)
 ·(refine aY (k + 1, _, _) (Le.renA []) ?_ ?_)
  ·dsimp only
   refine ⟨by omega,by rw [List.length_set,List.length_set]; exact hul,fun l hl => ?_,by omega⟩
   have h1 := hu l hl
   have h2 := hu k (by omega)
   have h3 := hu z.toNat (by omega)
   have e1 : xs.length - 1 - k = z.toNat := by omega
   have e2 : xs.length - 1 - z.toNat = k := by omega
   rw [if_neg (by omega)] at h2 h3
   rw [aQ,aQ,List.length_set]
   by_cases q1 : z.toNat = l
   ·rw [if_pos ⟨q1,by omega⟩,if_pos (by omega),h2,← q1,e2]
   ·rw [if_neg (by omega)]
    by_cases q2 : k = l
    ·rw [if_pos ⟨q2,by omega⟩,if_pos (by omega),h3,← q2,e1]
    ·rw [if_neg (by omega), h1]
     by_cases q3 : l < k ∨ xs.length ≤ l + k
     ·rw [if_pos q3,if_pos (by omega)]
     ·rw [if_neg q3,if_neg (by omega)]
  ·dsimp only;omega
 ·refine uQ (l := []) rfl ?_
  refine bJ () trivial rfl ⟨sE ?_,trivial⟩
  have e : u = xs.reverse := bB (by rw [List.length_reverse, hul]) fun l hl => by
   rw [hul] at hl
   rw [hu l hl,a8 xs.reverse l (by simpa using hl),List.getElem_reverse,← a8]
   split
   ·rfl
   ·congr 1;omega
  rw [e]
theorem IW {m:Nat}{x0 x1:Operand}(ha0:ev (lk tsl) x0 = some (.v (.slice none 0 0))) (ha1:ev (lk tsl) x1 = some (iv (m:Int))) (hmc:MC Tryz.prog 79 [.v (.slice none 0 0),iv (m:Int)] [] 0 (fun _:Unit => True) (fun _ => .own 0 0 0 1) (fun _ => [(0,some (flat cI ([]:List Int)))])) (hM:Nat.ble (nidl + 1) aS = true) (hN:Nat.blt d N = true){md':Md}[hmd:MdA md (iA [x0,x1] ++ []) (List.map Sum.inr (List.map Prod.fst ([(nidl,some (flat cI ([]:List Int)))]:List (Nat × Option (List AV)))) ++ [.inl d]) md'] (kk:RW Tryz.prog N all Q md' rest ⟨(d,.own nidl 0 0 1) :: tsl,kB hsl [(nidl,some (flat cI ([]:List Int)))],nidl + 1,z0⟩):RW Tryz.prog N all Q md (⟨some d,.call ⟨.value (.func 79),#[x0,x1],tys⟩,ty,pos,af,none⟩ :: rest) ⟨tsl,hsl,nidl,z0⟩:=by
 exact bQ (l := [x0,x1]) [] 1 [(nidl,some (flat cI ([] : List Int)))] hmc (avs := [.v (.slice none 0 0),iv (m : Int)]) (by simp only [evL,ha0,ha1]) rfl hM hN (md' := md') (hmd := hmd) kk
theorem JV (m:Nat) (hm:m ≤ 1048576):MC Tryz.prog 79 [.v (.slice none 0 0),iv (m:Int)] [] 0 (fun _:Unit => True) (fun _ => .own 0 0 0 1) (fun _ => [(0,some (flat cI ([]:List Int)))]):=by
 refine bS Tryz.func79 Tryz.ntmps79 ?_
 repeat' (first|(apply aF;first|(apply Dz;rfl;rfl)|(apply FU (m := m) (k' := .i64);kernel_rfl;rfl;rfl;omega;rfl;rfl;omega;omega;omega;rfl;rfl)|(apply qY (h := 0);rfl;rfl;(rfl);omega;rfl)|(apply y3;rfl;rfl;rfl))|refine aD ?_|(refine aK ?_ ?_ <;> intro hc hq <;> try (exfalso;omega))|fail)
 ·
  refine aT (Le.cut (i := 0) 0 rfl) ?_
  refine aE rfl ?_
  refine bJ () trivial ?_ ⟨sE ?_,trivial⟩
  all_goals first|rfl|exact congrArg some (List.take_zero)
 ·refine aT (Le.nilOwn (d := 4) 1 ?_ ?_) ?_
  ·rfl
  ·decide
  refine aE rfl ?_
  refine bJ () trivial ?_ ⟨sE ?_,trivial⟩
  all_goals rfl
theorem F4 (Ls:List (List Int)) (hn:Ls.length ≤ 1000) (hl:Ls.flatten.length ≤ 1048576):PC Tryz.prog 42 [sl LA Ls] (fun r => r = sl cI Ls.flatten):=by
 have hpre : ∀ k, (Ls.take k).flatten.length ≤ 1048576 := fun k => by
  have : Ls.flatten = (Ls.take k).flatten ++ (Ls.drop k).flatten := by rw [← List.flatten_append,List.take_append_drop]
  rw [this,List.length_append] at hl;omega
 have hst : ∀ k,k < Ls.length → (Ls.take (k + 1)).flatten = (Ls.take k).flatten ++ Ls[k]! := fun k hk => by rw [bI _ _ hk]; simp
 refine aC Tryz.func42 Tryz.ntmps42 ?_
 repeat' (first|refine aD ?_|fail)
 refine aI (σ := Nat × Int) [0,9,10] [] (fun k => [(11,iv (k.1 : Int)),(3,iv k.2)]) (fun k => []) (fun k => k.1 ≤ Ls.length ∧ k.2 = ((Ls.take k.1).flatten.length : Int)) (fun k => Ls.length - k.1) (0,0) ⟨by omega,rfl⟩ ?_
 rintro ⟨k,z⟩ ⟨hk,hz⟩
 dsimp only at hk hz
 try dsimp only
 have hz2 := hpre k
 by_cases hkn : k < Ls.length
 ·have h1 := hst k hkn
  have h2 := hpre (k + 1)
  rw [h1,List.length_append] at h2
  repeat' (first|refine aD ?_|(refine aK ?_ ?_ <;> intro hc hq <;> try (exfalso;omega))|fail)
  (refine aY (k + 1,_) (Le.renA []) ?_ ?_)
  ·exact ⟨by dsimp only;omega,by dsimp only;rw [h1,List.length_append]; omega⟩
  ·dsimp only;omega
 ·obtain ⟨z', rfl⟩ : ∃ z' : Nat, z = (z' : Int) := ⟨_, hz⟩
  repeat' (first|(apply aF;(apply IW;rfl;rfl;(apply JV <;> (omega));rfl;rfl))|refine aD ?_|(refine aK ?_ ?_ <;> intro hc hq <;> try (exfalso;omega))|fail)
  refine aI (σ := Nat × List Int × Nat) [25,26] [] (fun k => [(27,iv (k.1 : Int)),(6,.own 0 0 k.2.2 1)]) (fun k => [(0,some (flat cI k.2.1))]) (fun k => k.1 ≤ Ls.length ∧ k.2.1 = (Ls.take k.1).flatten ∧ k.2.2 = k.2.1.length) (fun k => Ls.length - k.1) (0,[],0) ⟨by omega,rfl,rfl⟩ ?_
  rintro ⟨k,u,m⟩ ⟨hk,hu,hm⟩
  dsimp only at hk hu hm
  try dsimp only
  have hu2 := hpre k
  rw [← hu] at hu2
  by_cases hkn : k < Ls.length
  ·have h1 := hst k hkn
   have h2 := hpre (k + 1)
   rw [h1,List.length_append,← hu] at h2
   repeat' (first|(apply aF;(apply cH;rfl;rfl;rfl;rfl;rfl;(rw [aM]; omega);(exact qN (by (rfl)));omega;omega;(exact mW (by (assumption)));rfl;rfl))|refine aD ?_|(refine aK ?_ ?_ <;> intro hc hq <;> try (exfalso;omega))|fail)
   (refine aY (k + 1,_,_) (Le.renA [(0,1)]) ?_ ?_)
   ·exact ⟨by dsimp only;omega,by dsimp only;rw [h1,hu],by dsimp only;rw [List.length_append]; omega⟩
   ·dsimp only;omega
  ·repeat' (first | refine aD ?_ | (refine aK ?_ ?_ <;> intro hc hq <;> try (exfalso; omega))|fail)
   refine aT (Le.frzD (d := 2) (i := 0) rfl rfl) ?_
   refine aE rfl ⟨?_,(by (exact a7 _ _))⟩
   have e : u = Ls.flatten := by rw [hu,show k = Ls.length by omega,List.take_length]
   rw [← e]
   simp only [aO,sl,hm]
theorem HD (A l:Nat):decide (((A >>> l &&& 1:Nat):Int) = 1) = A.testBit l:=by
 rw [Nat.testBit,Nat.and_comm]
 by_cases h : 1 &&& A >>> l = 1
 ·rw [h]; rfl
 ·have := Nat.and_le_left (n := 1) (m := A >>> l)
  have h0 : 1 &&& A >>> l = 0 := by omega
  rw [h0]; rfl
theorem Kj {Af:List Nat}{n i v:Nat}(hA:Af.length = n * 6) (hi:i < n) (hv:v < 6):(List.drop (v * 1) (flat cW (Af.drop (i * 6))))[0]? = some (.v (.int .u64 ((cE Af i)[v]!:Nat))):=by
 rw [dO hA hi hv,Nat.mul_one]
 have e : flat cW (Af.drop (i * 6)) = (Af.drop (i * 6)).map (fun (x : Nat) => AV.v (.int .u64 (x : Int))) := by
  generalize Af.drop (i * 6) = l
  induction l with
  | nil => rfl
  | cons a l ih => rw [List.map_cons,← ih]; rfl
 rw [e,List.getElem?_drop,List.getElem?_map,List.getElem?_drop,Nat.add_zero,List.getElem?_eq_getElem (by omega),a8 Af _ (by omega)]; rfl
theorem w7 (v:Int) (n:Nat) (Af:List Nat) (i loan:Int) (hA:Af.length = n * 6) (hv:0 ≤ v ∧ v < 6) (hi:0 ≤ i ∧ i < n) (hl:0 ≤ loan ∧ loan < 62) (hs:∀ z:Nat,Sm (cE Af i.toNat)[z]!) :
  PC Tryz.prog 77 [iv v,.iptr [.imm n (flat cW Af)],.iptr [iv i],.iptr [iv loan]] (fun r => r = bv ((cE Af i.toNat)[v.toNat]!.testBit loan.toNat)) := by
 have hsv := hs v.toNat
 refine aC Tryz.func77 Tryz.ntmps77 ?_
 repeat' (first|(apply aF;(apply x8;rfl;rfl;exact Kj hA (by omega) (by omega);rfl))|refine aD ?_|refine bT ?_|fail)
 refine aE rfl ⟨?_,rfl⟩
 exact congrArg bv (HD _ _)
def Lf (U : Int → Bool) (xs : List Int) : Int := match xs.findIdx? U with | some i => i | none => -1
def u1 (Af : List Nat) (i loan : Int) (v : Int) : Bool := (cE Af i.toNat)[v.toNat]!.testBit loan.toNat
theorem Kl (xs:List Int) (n:Nat) (Af:List Nat) (i loan:Int) (hxl:xs.length ≤ 1000) (hx:∀ v ∈ xs,0 ≤ v ∧ v < 6) (hA:Af.length = n * 6) (hi:0 ≤ i ∧ i < n) (hl:0 ≤ loan ∧ loan < 62) (hs:∀ z:Nat,Sm (cE Af i.toNat)[z]!) :
  PC Tryz.prog 114 [sl cI xs,.clos (.func 77) [] [.iptr [.imm n (flat cW Af)],.iptr [iv i],.iptr [iv loan]]] (fun r => r = iv (Lf (u1 Af i loan) xs)) := by
 refine aC Tryz.func114 Tryz.ntmps114 ?_
 repeat' (first|refine aD ?_|fail)
 refine aI (σ := Nat) [0,1,7] [] (fun k => [(8,iv (k : Int))]) (fun k => []) (fun k => k ≤ xs.length ∧ ∀ j,j < k → u1 Af i loan xs[j]! = false) (fun k => xs.length - k) (0) ⟨by omega,by omega⟩ ?_
 intro k ⟨hk,hall⟩
 by_cases hkn : k < xs.length
 ·have hv := hx _ (aZ xs k hkn)
  have hcl := w7 xs[k]! n Af i loan hA hv hi hl hs
  have hu : (cE Af i.toNat)[(xs[k]!).toNat]!.testBit loan.toNat = u1 Af i loan xs[k]! := rfl
  rw [hu] at hcl
  cases hb : u1 Af i loan xs[k]!
  ·rw [hb] at hcl
   repeat' (first|(apply aF;(apply jJ;rfl;rfl;infer_instance;rfl;(apply hcl);exact Pur.pf;rfl))|refine aD ?_|(refine aK ?_ ?_ <;> intro hc hq <;> try (exfalso;omega))|fail)
   (refine aY (k + 1) (Le.renA []) ?_ ?_)
   ·refine ⟨by omega, fun j hj => ?_⟩
    by_cases e : j = k
    ·subst e;exact hb
    ·exact hall j (by omega)
   ·omega
  ·rw [hb] at hcl
   repeat' (first|(apply aF;(apply jJ;rfl;rfl;infer_instance;rfl;(apply hcl);exact Pur.pf;rfl))|refine aD ?_|(refine aK ?_ ?_ <;> intro hc hq <;> try (exfalso;omega))|fail)
   refine aE rfl ⟨?_,rfl⟩
   have : xs.findIdx? (u1 Af i loan) = some k := by
    rw [List.findIdx?_eq_some_iff_getElem]
    refine ⟨hkn,by rw [← a8 xs k hkn]; exact hb,fun j hj => ?_⟩
    have := hall j hj;rw [a8 xs j (by omega)] at this;rw [this]; decide
   simp only [Lf,this]; rfl
 ·repeat' (first | refine aD ?_ | (refine aK ?_ ?_ <;> intro hc hq <;> try (exfalso; omega))|fail)
  refine aE rfl ⟨?_,rfl⟩
  have : xs.findIdx? (u1 Af i loan) = none := by
   rw [List.findIdx?_eq_none_iff]
   intro x hx
   obtain ⟨j,hj,rfl⟩ := List.getElem_of_mem hx
   have := hall j (by omega);rw [a8 xs j hj] at this;exact this
  simp only [Lf,this]; rfl
theorem Kt (U:Int → Bool) (xs:List Int):decide (0 ≤ Lf U xs) = xs.any U:=by
 unfold Lf
 split
 ·rename_i i h
  obtain ⟨h1,h2,_⟩ := List.findIdx?_eq_some_iff_getElem.1 h
  rw [List.any_eq_true.2 ⟨xs[i],List.getElem_mem h1,h2⟩]; simp
 ·rename_i h
  rw [List.findIdx?_eq_none_iff] at h
  have : xs.any U = false := by rw [List.any_eq_false]; intro x hx;rw [h x hx]; decide
  rw [this]; rfl
theorem HP (xs:List Int) (n:Nat) (Af:List Nat) (i loan:Int) (hxl:xs.length ≤ 1000) (hx:∀ v ∈ xs,0 ≤ v ∧ v < 6) (hA:Af.length = n * 6) (hi:0 ≤ i ∧ i < n) (hl:0 ≤ loan ∧ loan < 62) (hs:∀ z:Nat,Sm (cE Af i.toNat)[z]!) :
  PC Tryz.prog 74 [sl cI xs,.clos (.func 77) [] [.iptr [.imm n (flat cW Af)],.iptr [iv i],.iptr [iv loan]]] (fun r => r = bv (xs.any (u1 Af i loan))) := by
 have hix := Kl xs n Af i loan hxl hx hA hi hl hs
 refine aC Tryz.func74 Tryz.ntmps74 ?_
 repeat' (first|(apply aF;(apply aA (k := 114);rfl;exact hix;exact Pur.pf;rfl))|refine aD ?_|fail)
 refine aE rfl ⟨?_,rfl⟩
 exact congrArg bv (Kt _ _)
theorem I9 (n:Nat):flat cN (List.replicate n 0) = flat cI (List.replicate n (0:Int)):=by
 induction n with
 | zero => rfl
 | succ n ih => rw [List.replicate_succ,List.replicate_succ]; show cN 0 ++ flat cN _ = cI 0 ++ flat cI _; rw [ih]; rfl
theorem jZ (ts:List Int) (bd:List AL.Stmt) (pts:List Pnt) (f t:Nat) (w:WG ts pts) (hf:f < pts.length) (ht:t < pts.length) :
  PC Tryz.prog 41 [aG ts bd pts,iv (f : Int),iv (t : Int)] (fun r => r = .tup [sl cI (eR (dJ pts f t)),bv (decide (0 ≤ fU (k6 pts f) t))]) := by
 have hpl := w.pl
 have hbe : ∀ h,BI pts f (iG pts f h) := lP w.nx hf
 refine aC Tryz.func41 Tryz.ntmps41 ?_
 repeat' (first|refine aD ?_|fail)
 rw [I9]
 refine aI (σ := Nat × List Int) [0,1,2,8,23] [] (fun k => [(24,iv (k.1 : Int))]) (fun k => [(0,some (flat cI k.2))]) (fun k => k.1 ≤ pts.length ∧ k.2.length = pts.length ∧ (∀ l,l < k.1 → k.2[l]! = -1)) (fun k => pts.length - k.1) (0,List.replicate pts.length 0) ⟨by omega,by simp,by omega⟩ ?_
 rintro ⟨k,u⟩ ⟨hk,hul,hu⟩
 dsimp only at hk hul hu
 try dsimp only
 by_cases hkn : k < pts.length
 ·repeat' (first | refine aD ?_ | (refine aK ?_ ?_ <;> intro hc hq <;> try (exfalso; omega))|fail)
  (refine aY (k + 1,_) (Le.renA [(0,0)]) ?_ ?_)
  ·refine ⟨by omega, by dsimp only; rw [List.length_set]; exact hul, fun l hl => ?_⟩
   dsimp only at hl ⊢
   rw [aQ]
   by_cases e : k = l
   ·rw [if_pos ⟨e,by omega⟩]
   ·rw [if_neg (by omega)]; exact hu l (by omega)
  ·dsimp only;omega
 ·repeat' (first | refine aD ?_ | (refine aK ?_ ?_ <;> intro hc hq <;> try (exfalso; omega))|fail)
  have hbk0 : u = rZ pts.length [] := bB (by rw [eS,hul]) fun l hl => by rw [hu l (by omega),fP (by omega)]; rfl
  subst hbk0
  refine aI (σ := Nat × List (Nat × Nat) × List Int × Nat) [0,1,2,8] [] (fun s => [(10,.own 1 0 s.2.2.2 1)]) (fun s => [(0,some (flat cI (rZ pts.length s.2.1))),(1,some (flat cI s.2.2.1))]) (fun s => s.2.1 = iG pts f s.1 ∧ s.2.2.1 = eO f s.2.1 s.1 ∧ s.2.2.2 = s.2.2.1.length ∧ s.1 ≤ s.2.1.length + 1 ∧ (0 ≤ fU s.2.1 t → 0 < s.2.2.2)) (fun s => pts.length + 1 - s.1) (0,[],[(f : Int)],1) ⟨rfl,rfl,rfl,by dsimp only;omega,fun h => by dsimp only;omega⟩ ?_
  rintro ⟨h,E,T,m⟩ ⟨hE,hT,hm,hh,hmt⟩
  dsimp only at hE hT hm hh hmt
  try dsimp only
  have I := hbe h
  rw [← hE] at I
  have hle := I.le w.nx
  have hbt : (rZ pts.length E)[t]! = fU E t := fP ht
  have hbl := eS pts.length E
  by_cases hlk : fU E t < 0
  by_cases hgo : 0 < T.length
  ·have hlt : h < (jH f E).length := by
    have := lD f E h;rw [e7]; rw [← hT] at this;omega
   have hcons := qS hlt
   have hqo := Au hlt
   obtain ⟨a,ha⟩ : ∃ a,a = (jH f E)[h]! := ⟨_,rfl⟩
   rw [← ha] at hcons hqo
   have hal : a < pts.length := by
    rcases hqo with e|e
    ·rw [e]; exact hf
    ·obtain ⟨x,hx,e⟩ := List.mem_map.1 e;rw [← e]; exact (hle.2 x hx).1
   rw [hcons] at hT
   subst hT
   simp only [List.length_cons] at hm
   repeat' (first|(apply aF;first|(with_reducible apply bW (d := 10))|(apply j3;rfl;rfl;omega;rfl))|refine aD ?_|(refine aK ?_ ?_ <;> intro hc hq <;> try (exfalso;omega))|(refine bR ?_ ?_ <;> intro hg hq <;> try (exfalso;omega))|fail)
   refine dQ (dR ?_ (Le.mvO (d := 47) (i := 1) rfl rfl (by simp [aM]) (by decide)))
   have hnl := w.nl a hal
   have hpop : eO f E (h + 1) = eO f (gY E a (pts[a]!.next.take 0)) (h + 1) := rfl
   have hnk := w.nx a hal
   have hek : ∀ k,BI pts f (gY E a (pts[a]!.next.take k)) := fun k => vX _ _ I hqo (fun z hz => ⟨hal,by have := hnk z (List.mem_of_mem_take hz);rw [Int.toNat_of_nonneg this.1]; exact List.mem_of_mem_take hz⟩)
   repeat' (first|refine aD ?_|fail)
   refine aI (σ := Nat × List (Nat × Nat) × List Int × Nat) [0,1,2,8,55,56] [] (fun s => [(57,iv (s.1 : Int)),(11,iv (a : Int)),(10,.own 2 0 s.2.2.2 1)]) (fun s => [(0,some (flat cI (rZ pts.length s.2.1))),(2,some (flat cI s.2.2.1))]) (fun s => s.1 ≤ pts[a]!.next.length ∧ s.2.1 = gY E a (pts[a]!.next.take s.1) ∧ s.2.2.1 = eO f s.2.1 (h + 1) ∧ s.2.2.2 = s.2.2.1.length) (fun s => pts[a]!.next.length - s.1) (0,E,eO f E (h + 1),m - 1) ⟨by omega,rfl,hpop,by dsimp only;omega⟩ ?_
   rintro ⟨k,E2,T2,m2⟩ ⟨hk,hE2,hT2,hm2⟩
   dsimp only at hk hE2 hT2 hm2
   try dsimp only
   have I2 := hek k
   rw [← hE2] at I2
   have hle2 := I2.le w.nx
   have hbl2 := eS pts.length E2
   have htl2 := lD f E2 (h + 1)
   rw [← hT2] at htl2
   by_cases hkn : k < pts[a]!.next.length
   ·have hz := hnk _ (aZ _ _ hkn)
    have hbz : (rZ pts.length E2)[(pts[a]!.next[k]!).toNat]! = fU E2 (pts[a]!.next[k]!).toNat := fP (by omega)
    have hsu := sY E a pts[a]!.next k hkn
    rw [← hE2] at hsu
    have hql : h + 1 ≤ (jH f E2).length := by
     have h1 := fZ a (pts[a]!.next.take k) E
     rw [← hE2] at h1
     have := h1.length_le
     rw [e7] at hlt ⊢; omega
    by_cases hlz : fU E2 (pts[a]!.next[k]!).toNat < 0
    ·repeat' (first | (apply aF; (apply aL (t := _);rfl;rfl;rfl;exact (rfl:_=some [_]);rfl;rfl)) | refine aD ?_ | (refine aK ?_ ?_ <;> intro hc hq <;> try (exfalso; omega))|fail)
     rw [wQ hlz (by omega)]
     (refine aY (k + 1,_,_,_) (Le.renA [(0,0),(2,4)]) ?_ ?_)
     ·refine ⟨by dsimp only;omega,by dsimp only;rw [hsu,vW hlz],by dsimp only;rw [tD hql,hT2,Int.toNat_of_nonneg hz.1],by dsimp only;rw [List.length_append]; simp;omega⟩
     ·dsimp only;omega
    ·repeat' (first | refine aD ?_ | (refine aK ?_ ?_ <;> intro hc hq <;> try (exfalso; omega))|fail)
     (refine aY (k + 1,E2,T2,m2) (Le.renA [(0,0),(2,2)]) ?_ ?_)
     ·refine ⟨by dsimp only;omega,by dsimp only;rw [hsu,Bz (by omega)],hT2,hm2⟩
     ·dsimp only;omega
   ·repeat' (first | refine aD ?_ | (refine aK ?_ ?_ <;> intro hc hq <;> try (exfalso; omega))|fail)
    have hkl : k = pts[a]!.next.length := by omega
    rw [hkl,List.take_length] at hE2
    have hpre : E <+: E2 := by rw [hE2]; exact fZ _ _ _
    have hple := hpre.length_le
    rw [e7] at hlt
    (refine aY (h + 1,E2,T2,m2) (Le.renA [(0,0),(1,2)]) ?_ ?_)
    ·refine ⟨?_, hT2, hm2, by dsimp only; omega, fun hl => ?_⟩
     ·dsimp only;rw [hE2,iG,← hE,if_pos (by rw [e7]; exact hlt),← ha]
     ·dsimp only at hl ⊢
      have : E.length ≠ E2.length := fun e => by
       have := hpre.eq_of_length e
       rw [this] at hlk;omega
      omega
    ·dsimp only;omega
  ·have hT0 : T = [] := List.eq_nil_of_length_eq_zero (by omega)
   have hee : E = k6 pts f := by
    rw [hE]; exact Br w.nx hf (by rw [← hE]; rw [hT] at hT0;exact tR.1 hT0)
   have hm0 : m = 0 := by omega
   repeat' (first|refine aD ?_|(refine aK ?_ ?_ <;> intro hc hq <;> try (exfalso;omega))|(refine bR ?_ ?_ <;> intro hg hq <;> try (exfalso;omega))|fail)
   (refine aT (Le.nilImm (d := 6) rfl) ?_; refine aE rfl ?_)
   refine ⟨?_,(by (rfl))⟩
   have e1 : dJ pts f t = [] := by unfold dJ;rw [← hee,if_neg (by omega)]
   rw [e1,← hee,decide_eq_false (by omega)]
   rfl
  ·have hm1 := hmt (by omega)
   repeat' (first|refine aD ?_|(refine aK ?_ ?_ <;> intro hc hq <;> try (exfalso;omega))|(refine bR ?_ ?_ <;> intro hg hq <;> try (exfalso;omega))|fail)
   have hwt : pts.length ≤ 61 := hpl
   have hlk0 : 0 ≤ fU E t := by omega
   have hpre : E <+: k6 pts f := by rw [hE]; exact BA (h := h) (by omega)
   obtain ⟨_,a0,R0,hx0,hcs0⟩ := CS.start w.nx hf hpre hlk0
   have hen : fU (k6 pts f) t = fU E t := (vI (f := f) hpre (hbe _).nd (dW.1 hlk0)).2
   have hbt0 : (rZ pts.length E)[t]! = (a0 : Int) := by rw [hbt,hx0]
   rw [hbt0]
   refine aI (σ := Nat × List (Nat × Nat) × List Int × Nat) [1,8] [0] (fun s => [(15,iv (s.1 : Int)),(14,.own 2 0 s.2.2.2 1)]) (fun s => [(2,some (flat cI s.2.2.1))]) (fun s => CS pts f t E s.1 s.2.1 s.2.2.1.reverse ∧ s.2.2.2 = s.2.2.1.length) (fun s => s.2.1.length) (a0,R0,[(t : Int)],1) ⟨hcs0,rfl⟩ ?_
   rintro ⟨x,R,u,m3⟩ ⟨hcs,hm3⟩
   dsimp only at hcs hm3
   try dsimp only
   have hcl := hcs.len
   rw [List.length_reverse] at hcl
   have hxl := hcs.xl
   have hbx : (rZ pts.length E)[x]! = fU E x := fP hxl
   by_cases hxf : x = f
   ·have hcs2 := hcs
    rw [hxf] at hcs2
    have hfin := hcs2.fin
    repeat' (first|(apply aF;first|(apply aL (t := _);rfl;rfl;rfl;exact (rfl:_=some [_]);rfl;rfl)|(apply JP;rfl;(rfl);(apply KU <;> (simp only [iX] <;> omega));rfl;rfl))|refine aD ?_|(refine aK ?_ ?_ <;> intro hc hq <;> try (exfalso;omega))|fail)
    refine aT (Le.frzD (d := 6) (i := 4) rfl rfl) ?_
    refine aE rfl ⟨?_,(by exact Pur.pf)⟩
    rw [hfin,hen,decide_eq_true hlk0,List.reverse_append,hxf,hm3]
    simp [aO,sl]
   ·obtain ⟨a, R', h1, h2, h3⟩ := hcs.step w.nx hf I hxf
    rw [h1] at hbx
    repeat' (first|(apply aF;(apply aL (t := _);rfl;rfl;rfl;exact (rfl:_=some [_]);rfl;rfl))|refine aD ?_|(refine aK ?_ ?_ <;> intro hc hq <;> try (exfalso;omega))|fail)
    rw [hbx]
    (refine aY (a,R',_,_) (Le.renA [(0,0),(2,4)]) ?_ ?_)
    ·exact ⟨by dsimp only;rw [List.reverse_append]; exact h2,by dsimp only;rw [List.length_append,hm3]; rfl⟩
    ·dsimp only;omega
theorem Aw (ts:List Int) (bd:List AL.Stmt) (pts:List Pnt) (f:Flows ts pts) (w:WG ts pts) (a l:Nat) (ha:a < pts.length) (hl:l < pts.length) :
  PC Tryz.prog 40 [aG ts bd pts,iv (a : Int),iv (l : Int)] (fun r => r = .tup [iv (jG (dJ pts a) (dP ts pts f.Af l) pts.length).1,bv (decide (0 ≤ (jG (dJ pts a) (dP ts pts f.Af l) pts.length).1))]) := by
 have hpl := w.pl
 have htl := w.tl
 have b := f.bnd w
 have hli := sR ts bd pts f.Af w f.gf
 refine aC Tryz.func40 Tryz.ntmps40 ?_
 repeat' (first|(apply aF;(apply aA (k := 61);rfl;exact hli;exact Pur.pf;rfl))|refine aD ?_|fail)
 refine AW.le ?_ (Le.frzP (d := 5) (i := 0) rfl rfl)
 refine AW.le ?_ (Le.frzP (d := 8) (i := 1) rfl rfl)
 refine aI (σ := Nat × Int × Nat) [0,1,5,8,21,22] [] (fun s => [(23,iv (s.1 : Int)),(9,iv s.2.1),(10,iv (s.2.2 : Int))]) (fun s => []) (fun s => s.1 ≤ pts.length ∧ s.2.1 = (jG (dJ pts a) (dP ts pts f.Af l) s.1).1 ∧ s.2.2 = (jG (dJ pts a) (dP ts pts f.Af l) s.1).2.length) (fun s => pts.length - s.1) (0,-1,0) ⟨by omega,rfl,rfl⟩ ?_
 rintro ⟨i,bi,li⟩ ⟨hi,hbi,hli2⟩
 dsimp only at hi hbi hli2
 try dsimp only
 by_cases hin : i < pts.length
 ·have hus := uD ts bd pts pts[i]! htl
  have hsm : Sm (wS ts pts[i]! [1,2,3]) := c9 (by omega)
  have hmem : ∀ v ∈ aX (wS ts pts[i]! [1, 2, 3]), 0 ≤ v ∧ v < 6 := fun v hv => by
   obtain ⟨v',h3,h4,rfl⟩ := cF.1 hv
   rw [cA,Bool.and_eq_true,decide_eq_true_eq] at h4
   omega
  have hco := HP (aX (wS ts pts[i]! [1,2,3])) pts.length f.Af (i : Int) (l : Int) (by unfold aX;rw [List.length_map]; exact Nat.le_trans (List.length_filter_le _ _) (by simp)) hmem f.gf.1 (by omega) (by omega) (b.rs i hin)
  have hU : (aX (wS ts pts[i]! [1,2,3])).any (u1 f.Af (i : Int) (l : Int)) = dP ts pts f.Af l i := F9 ts pts f.Af l i htl
  rw [hU] at hco
  have hsw := jZ ts bd pts a i w ha hin
  have hwl := fO (x := i) w.nx ha
  rw [← b0] at hwl
  repeat' (first|(apply aF;first|((apply oV 11);(case hx|hH|hc|hN => rfl))|(apply aA (k := 74);rfl;exact hco;exact Pur.pf;rfl)|(apply aA (k := 41);rfl;exact hsw;exact Pur.pf;rfl)|(first|(apply aA (k := 75);rfl;(apply vG <;> (assumption));(rfl);rfl)|(apply aA (k := 76);rfl;(apply uD <;> (assumption));exact Pur.pf;rfl)))|refine aD ?_|(refine aK ?_ ?_ <;> intro hc hq <;> try (exfalso;omega))|(refine bR ?_ ?_ <;> intro hg hq <;> try (exfalso;omega))|fail)
  ·have hb := vU (W := dJ pts a) (U := dP ts pts f.Af l) (i := i) (.inl (by assumption))
   (refine aY (i + 1,bi,li) (Le.renA []) ?_ ?_)
   ·exact ⟨by dsimp only;omega,by dsimp only;rw [hb,hbi],by dsimp only;rw [hb,hli2]⟩
   ·dsimp only;omega
  ·have hu : dP ts pts f.Af l i = true := by assumption
   have hW := BL w.nx ha (by assumption : 0 ≤ fU (k6 pts a) i)
   have hb := pG (W := dJ pts a) (U := dP ts pts f.Af l) hu hW (by rw [b0] at *; omega)
   (refine aY (i + 1,_,_) (Le.renA []) ?_ ?_)
   ·exact ⟨by dsimp only;omega,by dsimp only;rw [hb],by dsimp only;rw [hb,b0]⟩
   ·dsimp only;omega
  ·have hb := Bv (W := dJ pts a) (U := dP ts pts f.Af l) (i := i) (by omega) (by rw [b0] at *; omega)
   (refine aY (i + 1,bi,li) (Le.renA []) ?_ ?_)
   ·exact ⟨by dsimp only;omega,by dsimp only;rw [hb,hbi],by dsimp only;rw [hb,hli2]⟩
   ·dsimp only;omega
  ·have hu : dP ts pts f.Af l i = true := by assumption
   have hW := BL w.nx ha (by assumption : 0 ≤ fU (k6 pts a) i)
   have hb := pG (W := dJ pts a) (U := dP ts pts f.Af l) hu hW (by rw [b0] at *; omega)
   (refine aY (i + 1,_,_) (Le.renA []) ?_ ?_)
   ·exact ⟨by dsimp only;omega,by dsimp only;rw [hb],by dsimp only;rw [hb,b0]⟩
   ·dsimp only;omega
  ·have hb := vU (W := dJ pts a) (U := dP ts pts f.Af l) (i := i) (.inr (BG (by assumption)))
   (refine aY (i + 1,bi,li) (Le.renA []) ?_ ?_)
   ·exact ⟨by dsimp only;omega,by dsimp only;rw [hb,hbi],by dsimp only;rw [hb,hli2]⟩
   ·dsimp only;omega
 ·repeat' (first | refine aD ?_ | (refine aK ?_ ?_ <;> intro hc hq <;> try (exfalso; omega))|fail)
  refine aE rfl ⟨?_,rfl⟩
  rw [show pts.length = i by omega,← hbi]; rfl
theorem Dv (ts:List Int) (pts:List Pnt) (f t:Nat) (E:List (Nat × Nat)) (w:WG ts pts) (hf:f < pts.length) (ht:t < pts.length) (hE:E <+: k6 pts f) (hlk:0 ≤ fU E t) :
  PC Tryz.prog 80 [sl cI (rZ pts.length E),iv (f : Int),iv (t : Int)] (fun r => r = sl cI (eR (dJ pts f t))) := by
 have hpl := w.pl
 have hbl := eS pts.length E
 have hbt : (rZ pts.length E)[t]! = fU E t := fP ht
 obtain ⟨I,a0,R0,hx0,hcs0⟩ := CS.start w.nx hf hE hlk
 have hle := I.le w.nx
 rw [hx0] at hbt
 refine aC Tryz.func80 Tryz.ntmps80 ?_
 repeat' (first|refine aD ?_|fail)
 rw [hbt]
 refine aI (σ := Nat × List (Nat × Nat) × List Int × Nat) [0,1] [] (fun s => [(8,iv (s.1 : Int)),(7,.own 0 0 s.2.2.2 1)]) (fun s => [(0,some (flat cI s.2.2.1))]) (fun s => CS pts f t E s.1 s.2.1 s.2.2.1 ∧ s.2.2.2 = s.2.2.1.length) (fun s => s.2.1.length) (a0,R0,[(t : Int)],1) ⟨hcs0,rfl⟩ ?_
 rintro ⟨x,R,u,m⟩ ⟨hcs,hm⟩
 dsimp only at hcs hm
 try dsimp only
 have hcl := hcs.len
 have hxl := hcs.xl
 have hbx : (rZ pts.length E)[x]! = fU E x := fP hxl
 by_cases hxf : x = f
 ·have hcs2 := hcs
  rw [hxf] at hcs2
  have hfin := hcs2.fin
  repeat' (first|(apply aF;(apply cH;rfl;rfl;rfl;rfl;rfl;exact Nat.le_refl _;exact Eg rfl hm;omega;omega;exact (rfl:_=flat cI (_ :: u));rfl;rfl))|refine aD ?_|(refine aK ?_ ?_ <;> intro hc hq <;> try (exfalso;omega))|fail)
  refine aT (Le.frzD (d := 6) (i := 2) rfl rfl) ?_
  refine aE rfl ⟨?_,(by (exact a7 _ _))⟩
  rw [hfin,hm,Nat.add_comm]
  rfl
 ·obtain ⟨a, R', h1, h2, h3⟩ := hcs.step w.nx hf I hxf
  rw [h1] at hbx
  repeat' (first|(apply aF;(apply cH;rfl;rfl;rfl;rfl;rfl;exact Nat.le_refl _;exact Eg rfl hm;omega;omega;exact (rfl:_=flat cI (_ :: u));rfl;rfl))|refine aD ?_|(refine aK ?_ ?_ <;> intro hc hq <;> try (exfalso;omega))|fail)
  rw [hbx]
  (refine aY (a,R',_,_) (Le.renA [(0,2)]) ?_ ?_)
  ·exact ⟨h2,by dsimp only;rw [List.length_cons]; omega⟩
  ·dsimp only;omega
theorem mM (ts:List Int) (pts:List Pnt) (f t:Nat) (w:WG ts pts) (hf:f < pts.length) (ht:t < pts.length) :
  PC Tryz.prog 45 [sl bK pts,iv (f : Int),iv (t : Int)] (fun r => r = .tup [sl cI (eR (dJ pts f t)),bv (decide (0 ≤ fU (k6 pts f) t))]) := by
 have hpl := w.pl
 have hbe : ∀ h,BI pts f (iG pts f h) := lP w.nx hf
 refine aC Tryz.func45 Tryz.ntmps45 ?_
 repeat' (first|refine aD ?_|fail)
 rw [I9]
 refine aI (σ := Nat × List Int) [0,1,2,8] [] (fun k => [(9,iv (k.1 : Int))]) (fun k => [(0,some (flat cI k.2))]) (fun k => k.1 ≤ pts.length ∧ k.2.length = pts.length ∧ (∀ l,l < k.1 → k.2[l]! = -1)) (fun k => pts.length - k.1) (0,List.replicate pts.length 0) ⟨by omega,by simp,by omega⟩ ?_
 rintro ⟨k,u⟩ ⟨hk,hul,hu⟩
 dsimp only at hk hul hu
 try dsimp only
 by_cases hkn : k < pts.length
 ·repeat' (first | refine aD ?_ | (refine aK ?_ ?_ <;> intro hc hq <;> try (exfalso; omega))|fail)
  (refine aY (k + 1,_) (Le.renA [(0,0)]) ?_ ?_)
  ·refine ⟨by omega, by dsimp only; rw [List.length_set]; exact hul, fun l hl => ?_⟩
   dsimp only at hl ⊢
   rw [aQ]
   by_cases e : k = l
   ·rw [if_pos ⟨e,by omega⟩]
   ·rw [if_neg (by omega)]; exact hu l (by omega)
  ·dsimp only;omega
 ·repeat' (first | refine aD ?_ | (refine aK ?_ ?_ <;> intro hc hq <;> try (exfalso; omega))|fail)
  have hbk0 : u = rZ pts.length [] := bB (by rw [eS,hul]) fun l hl => by rw [hu l (by omega),fP (by omega)]; rfl
  subst hbk0
  refine aI (σ := Nat × List (Nat × Nat) × List Int × Nat) [0,1,2,8] [] (fun s => [(10,.own 1 0 s.2.2.2 1)]) (fun s => [(0,some (flat cI (rZ pts.length s.2.1))),(1,some (flat cI s.2.2.1))]) (fun s => s.2.1 = iG pts f s.1 ∧ s.2.2.1 = eO f s.2.1 s.1 ∧ s.2.2.2 = s.2.2.1.length ∧ s.1 ≤ s.2.1.length + 1 ∧ fU s.2.1 t < 0) (fun s => pts.length + 1 - s.1) (0,[],[(f : Int)],1) ⟨rfl,rfl,rfl,by dsimp only;omega,(by show (-1 : Int) < 0;decide)⟩ ?_
  rintro ⟨h,E,T,m⟩ ⟨hE,hT,hm,hh,hlk⟩
  dsimp only at hE hT hm hh hlk
  try dsimp only
  have I := hbe h
  rw [← hE] at I
  have hle := I.le w.nx
  have hbl := eS pts.length E
  by_cases hgo : 0 < T.length
  ·have hlt : h < (jH f E).length := by
    have := lD f E h;rw [e7]; rw [← hT] at this;omega
   have hcons := qS hlt
   have hqo := Au hlt
   obtain ⟨a,ha⟩ : ∃ a,a = (jH f E)[h]! := ⟨_,rfl⟩
   rw [← ha] at hcons hqo
   have hal : a < pts.length := by
    rcases hqo with e|e
    ·rw [e]; exact hf
    ·obtain ⟨x,hx,e⟩ := List.mem_map.1 e;rw [← e]; exact (hle.2 x hx).1
   have hbs : iG pts f (h + 1) = gY E a pts[a]!.next := by rw [hE] at hlt ha ⊢; exact GJ hlt ha
   rw [hcons] at hT
   subst hT
   simp only [List.length_cons] at hm
   repeat' (first|(apply aF;first|(with_reducible apply bW (d := 10))|(apply j3;rfl;rfl;omega;rfl))|refine aD ?_|(refine aK ?_ ?_ <;> intro hc hq <;> try (exfalso;omega))|fail)
   refine dQ (dR ?_ (Le.mvO (d := 35) (i := 1) rfl rfl (by simp [aM]) (by decide)))
   have hnl := w.nl a hal
   have hpop : eO f E (h + 1) = eO f (gY E a (pts[a]!.next.take 0)) (h + 1) := rfl
   have hnk := w.nx a hal
   have hek : ∀ k,BI pts f (gY E a (pts[a]!.next.take k)) := fun k => vX _ _ I hqo (fun z hz => ⟨hal,by have := hnk z (List.mem_of_mem_take hz);rw [Int.toNat_of_nonneg this.1]; exact List.mem_of_mem_take hz⟩)
   repeat' (first|refine aD ?_|fail)
   refine aI (σ := Nat × List (Nat × Nat) × List Int × Nat) [0,1,2,8] [] (fun s => [(12,iv (s.1 : Int)),(11,iv (a : Int)),(10,.own 2 0 s.2.2.2 1)]) (fun s => [(0,some (flat cI (rZ pts.length s.2.1))),(2,some (flat cI s.2.2.1))]) (fun s => s.1 ≤ pts[a]!.next.length ∧ s.2.1 = gY E a (pts[a]!.next.take s.1) ∧ s.2.2.1 = eO f s.2.1 (h + 1) ∧ s.2.2.2 = s.2.2.1.length ∧ fU s.2.1 t < 0) (fun s => pts[a]!.next.length - s.1) (0,E,eO f E (h + 1),m - 1) ⟨by omega,rfl,hpop,by dsimp only;omega,hlk⟩ ?_
   rintro ⟨k,E2,T2,m2⟩ ⟨hk,hE2,hT2,hm2,hlk2⟩
   dsimp only at hk hE2 hT2 hm2 hlk2
   try dsimp only
   have I2 := hek k
   rw [← hE2] at I2
   have hle2 := I2.le w.nx
   have hbl2 := eS pts.length E2
   have htl2 := lD f E2 (h + 1)
   rw [← hT2] at htl2
   by_cases hkn : k < pts[a]!.next.length
   ·have hz := hnk _ (aZ _ _ hkn)
    have hbz : (rZ pts.length E2)[(pts[a]!.next[k]!).toNat]! = fU E2 (pts[a]!.next[k]!).toNat := fP (by omega)
    have hsu := sY E a pts[a]!.next k hkn
    rw [← hE2] at hsu
    have hql : h + 1 ≤ (jH f E2).length := by
     have h1 := fZ a (pts[a]!.next.take k) E
     rw [← hE2] at h1
     have := h1.length_le
     rw [e7] at hlt ⊢; omega
    by_cases hlz : fU E2 (pts[a]!.next[k]!).toNat < 0
    ·have hnew := vW (a := a) hlz
     by_cases hzt : pts[a]!.next[k]! = (t : Int)
     ·have hE3 : E2 ++ [((pts[a]!.next[k]!).toNat, a)] <+: k6 pts f := by
       rw [← hnew,← hsu]
       exact (C8 _ _ _ _).trans (by rw [← hbs]; exact BA (h := h + 1) (by have := e7 f E;omega))
      have hl3 : 0 ≤ fU (E2 ++ [((pts[a]!.next[k]!).toNat, a)]) t := by
       rw [wT hlz,if_pos (by omega)]; omega
      have hbk := Dv ts pts f t _ w hf ht hE3 hl3
      have hl4 : 0 ≤ fU (k6 pts f) t := by rw [(vI (f := f) hE3 (hbe _).nd (dW.1 hl3)).2]; exact hl3
      rw [← wQ hlz (by omega),show sl cI ((rZ pts.length E2).set (pts[a]!.next[k]!).toNat (a : Int)) = AV.imm pts.length (flat cI ((rZ pts.length E2).set (pts[a]!.next[k]!).toNat (a : Int))) from by unfold sl;rw [List.length_set,eS]] at hbk
      repeat' (first|(apply aF;(with_reducible apply bW (d := 66)))|refine aD ?_|(refine aK ?_ ?_ <;> intro hc hq <;> try (exfalso;omega))|fail)
      refine dQ (dR ?_ (Le.frzD (d := 8) (i := 0) rfl rfl))
      repeat' (first|(apply aF;(apply aA (k := 80);rfl;exact hbk;exact Pur.pf;rfl))|refine aD ?_|fail)
      refine aE rfl ⟨?_,(by exact Pur.pf)⟩
      rw [decide_eq_true hl4]
      rfl
     ·repeat' (first | (apply aF; (apply aL (t := _);rfl;rfl;rfl;exact (rfl:_=some [_]);rfl;rfl)) | refine aD ?_ | (refine aK ?_ ?_ <;> intro hc hq <;> try (exfalso; omega))|fail)
      rw [wQ hlz (by omega)]
      (refine aY (k + 1,_,_,_) (Le.renA [(0,0),(2,4)]) ?_ ?_)
      ·refine ⟨by dsimp only; omega, by dsimp only; rw [hsu, vW hlz], by dsimp only; rw [tD hql, hT2, Int.toNat_of_nonneg hz.1], by dsimp only; rw [List.length_append]; simp; omega, ?_⟩
       dsimp only;rw [wT hlz,if_neg (by omega)]; exact hlk2
      ·dsimp only;omega
    ·repeat' (first | refine aD ?_ | (refine aK ?_ ?_ <;> intro hc hq <;> try (exfalso; omega))|fail)
     (refine aY (k + 1,E2,T2,m2) (Le.renA [(0,0),(2,2)]) ?_ ?_)
     ·refine ⟨by dsimp only;omega,by dsimp only;rw [hsu,Bz (by omega)],hT2,hm2,hlk2⟩
     ·dsimp only;omega
   ·repeat' (first | refine aD ?_ | (refine aK ?_ ?_ <;> intro hc hq <;> try (exfalso; omega))|fail)
    have hkl : k = pts[a]!.next.length := by omega
    rw [hkl,List.take_length] at hE2
    have hpre : E <+: E2 := by rw [hE2]; exact fZ _ _ _
    have hple := hpre.length_le
    rw [e7] at hlt
    (refine aY (h + 1,E2,T2,m2) (Le.renA [(0,0),(1,2)]) ?_ ?_)
    ·exact ⟨by dsimp only;rw [hbs,hE2],hT2,hm2,by dsimp only;omega,hlk2⟩
    ·dsimp only;omega
  ·have hT0 : T = [] := List.eq_nil_of_length_eq_zero (by omega)
   have hee : E = k6 pts f := by
    rw [hE]; exact Br w.nx hf (by rw [← hE]; rw [hT] at hT0;exact tR.1 hT0)
   have hm0 : m = 0 := by omega
   repeat' (first|(apply aF;(apply aL (t := _);rfl;rfl;rfl;(rfl);rfl;rfl))|refine aD ?_|(refine aK ?_ ?_ <;> intro hc hq <;> try (exfalso;omega))|fail)
   refine aE rfl ⟨?_,(by (rfl))⟩
   rw [BG (by rw [← hee]; exact hlk),← hee,decide_eq_false (by omega)]
   rfl
theorem GI (ts:List Int) (pts:List Pnt) (a:Nat) (F0:List Bool) (w:WG ts pts) (ha:a < pts.length) (hF0:GoodR pts a F0):PC Tryz.prog 83 [sl bK pts,iv (a:Int)] (fun r => r = sl cB F0):=by
 have hpl := w.pl
 have hnl := w.nl a ha
 have hst := RI.start w.nx ha
 have hmu := Dj hpl hnl
 refine aC Tryz.func83 Tryz.ntmps83 ?_
 repeat' (first|refine aD ?_|fail)
 refine aI (σ := List Bool × List Int × Nat) [0,5] [] (fun s => [(6,.own 2 0 s.2.2 1)]) (fun s => [(0,some (flat cB s.1)),(2,some (flat cI s.2.1))]) (fun s => RI pts a s.1 s.2.1 ∧ Be s.1 s.2.1 ≤ 200 ∧ s.2.2 = s.2.1.length) (fun s => Be s.1 s.2.1) (List.replicate pts.length false,pts[a]!.next,0 + pts[a]!.next.length) ⟨hst,hmu,Nat.zero_add _⟩ ?_
 rintro ⟨F,T,m⟩ ⟨I,hm,hml⟩
 dsimp only at I hm hml
 try dsimp only
 have hFl := I.len
 have hTl := HV F T
 by_cases hT : 0 < m
 ·repeat' (first | (apply aF; first | (with_reducible apply bW (d := 6)) | (apply qY (h := m - 1);rfl;rfl;omega;omega;rfl)) | refine aD ?_ | (refine aK ?_ ?_ <;> intro hc hq <;> try (exfalso; omega))|fail)
  rw [show ((m : Int) - 1).toNat = m - 1 by omega]
  refine dQ (dR ?_ (Le.cut (i := 2) (m - 1) rfl))
  rw [D4]
  obtain ⟨hkm,hks⟩ := Ge hml hT
  obtain ⟨k,hkk⟩ : ∃ k,k = T[m - 1]! := ⟨_,rfl⟩
  rw [← hkk] at hkm hks ⊢
  have hk := I.tw k hkm
  have hnk := w.nl k.toNat (by omega)
  have hk1 : 0 ≤ k ∧ k < pts.length := ⟨hk.1,hk.2.1⟩
  have htk : (T.take (m - 1)).length = m - 1 := by rw [List.length_take]; omega
  have htl : ∀ G,Be G (T.take (m - 1)) + 1 = Be G T := fun G => by unfold Be;rw [htk]; omega
  have htF := htl F
  by_cases hv : F[k.toNat]! = true
  ·repeat' (first | (apply aF; (apply cH;rfl;rfl;rfl;rfl;rfl;(rw [aM]; omega);(exact qN (by (rfl)));omega;omega;(exact mW (by (omega)));rfl;rfl)) | refine aD ?_ | (refine aK ?_ ?_ <;> intro hc hq <;> try (exfalso; omega))|fail)
   all_goals try exact absurd (hv.symm.trans (by assumption : F[k.toNat]! = false)) (by decide)
   (refine aY (F,_,_) (Le.renA [(0,0),(2,2)]) ?_ ?_)
   ·exact ⟨I.vis hks (fun x hx => List.mem_of_mem_take hx) hv,by dsimp only;omega,by dsimp only;omega⟩
   ·dsimp only;omega
  ·rw [Bool.not_eq_true] at hv
   have hms := Ia (F := F) (k := k.toNat) (by omega) hv (T.take (m - 1))
   have hma := IM (F.set k.toNat true) (T.take (m - 1)) pts[k.toNat]!.next
   repeat' (first|(apply aF;(apply cH;rfl;rfl;rfl;rfl;rfl;(rw [aM]; omega);(exact qN (by (rfl)));omega;omega;(exact mW (by (omega)));rfl;rfl))|refine aD ?_|(refine aK ?_ ?_ <;> intro hc hq <;> try (exfalso;omega))|fail)
   all_goals try exact absurd (hv.symm.trans (by assumption : F[k.toNat]! = true)) (by decide)
   (refine aY (F.set k.toNat true,_,_) (Le.renA [(0,0),(2,3)]) ?_ ?_)
   ·exact ⟨I.new w.nx hkm (fun x hx => by
     rcases hks x hx with h|h
     ·exact .inl h
     ·exact .inr (List.mem_append_left _ h)) (fun x hx => List.mem_append_right _ hx) (fun x hx => by
     rcases List.mem_append.1 hx with h|h
     ·exact .inl (List.mem_of_mem_take h)
     ·exact .inr h),by dsimp only;omega,by dsimp only;rw [List.length_append]; omega⟩
   ·dsimp only;omega
 ·have hT0 : T = [] := List.eq_nil_of_length_eq_zero (by omega)
  rw [hT0] at I
  repeat' (first|refine aD ?_|(refine aK ?_ ?_ <;> intro hc hq <;> try (exfalso;omega))|fail)
  refine aT (Le.frzD (d := 4) (i := 0) rfl rfl) ?_
  refine aE rfl ⟨?_,(by (exact a7 _ _))⟩
  have e := I.fin hF0 w.nx
  rw [← e]
  simp only [aO,sl,hFl]
def DV (ts : List Int) (x : Pnt) (fr : List (List Bool)) (loan v : Nat) : Bool := fr[v]![loan]! && decide (aU ts x v ≠ 0)
theorem DH (ts:List Int) (x:Pnt) (fr:List (List Bool)) (pl:List Bool) (loan:Nat) (hn:ts.length ≤ 6) (h1:fr.length = ts.length) (h2:∀ v,v < ts.length → loan < fr[v]!.length) :
  PC Tryz.prog 84 [sl cI ts,kN x,.agg [sl fQ fr,sl cB pl],iv (loan : Int)] (fun r => r = bv ((List.range ts.length).any (DV ts x fr loan))) := by
 refine aC Tryz.func84 Tryz.ntmps84 ?_
 repeat' (first|refine aD ?_|fail)
 refine aI (σ := Nat) [0,3,5,6] [0,1] (fun k => [(9,iv (k : Int))]) (fun k => []) (fun k => k ≤ ts.length ∧ ∀ v,v < k → DV ts x fr loan v = false) (fun k => ts.length - k) (0) ⟨by omega,by omega⟩ ?_
 rintro k ⟨hk,hall⟩
 try dsimp only
 by_cases hkn : k < ts.length
 ·have hlo := h2 k hkn
  have hnx : DV ts x fr loan k = false → ∀ v, v < k + 1 → DV ts x fr loan v = false := fun h v hv => by
   by_cases e : v = k
   ·rw [e]; exact h
   ·exact hall v (by omega)
  have hyes : DV ts x fr loan k = true → (List.range ts.length).any (DV ts x fr loan) = true := fun h => List.any_eq_true.2 ⟨k,List.mem_range.2 hkn,h⟩
  have hus : DV ts x fr loan k = (fr[k]![loan]! && decide (aU ts x k ≠ 0)) := rfl
  repeat' (first|(apply aF;(apply aA (k := 90);rfl;(apply jW <;> (omega));exact Pur.pf;rfl))|refine aD ?_|(refine aK ?_ ?_ <;> intro hc hq <;> try (exfalso;omega))|(refine bR ?_ ?_ <;> intro hg hq <;> try (exfalso;omega))|fail)
  ·refine aE rfl ⟨?_, rfl⟩
   rw [hyes (by rw [hus,(by assumption : fr[k]![loan]! = true),decide_eq_true (by assumption)]; rfl)]; rfl
  ·(refine aY (k + 1) (Le.renA [(0, 0), (1, 1)]) ?_ ?_)
   ·exact ⟨by omega,hnx (by rw [hus,decide_eq_false (fun h => h (by assumption)),Bool.and_false])⟩
   ·omega
  ·(refine aY (k + 1) (Le.renA [(0, 0), (1, 1)]) ?_ ?_)
   ·exact ⟨by omega,hnx (by rw [hus,(by assumption : fr[k]![loan]! = false),Bool.false_and])⟩
   ·omega
 ·repeat' (first | refine aD ?_ | (refine aK ?_ ?_ <;> intro hc hq <;> try (exfalso; omega))|fail)
  refine aE rfl ⟨?_,rfl⟩
  have : (List.range ts.length).any (DV ts x fr loan) = false := by
   rw [List.any_eq_false]; intro v hv;rw [hall v (by rw [List.mem_range] at hv;omega)]; decide
  rw [this]; rfl
theorem Hl (ts:List Int) (pts:List Pnt) (Af Ap:List Nat) (loan i:Nat) (hA:Af.length = pts.length * 6) (hn:ts.length ≤ 6) (hi:i < pts.length) (hl:loan < pts.length):(List.range ts.length).any (DV ts pts[i]! (gH ts.length pts.length Af Ap i).1 loan) = dP ts pts Af loan i:=by
 unfold dP
 rw [Bool.eq_iff_iff,List.any_eq_true,List.any_eq_true]
 have key : ∀ v, v < ts.length → DV ts pts[i]! (gH ts.length pts.length Af Ap i).1 loan v = (decide (aU ts pts[i]! v ≠ 0) && (cE Af i)[v]!.testBit loan) := fun v hv => by
  unfold DV gH
  dsimp only
  rw [a6 _ _ _ hv,a6 _ _ _ hl,dO hA hi (by omega),Bool.and_comm]
 constructor
 ·rintro ⟨v,hv,h⟩; exact ⟨v,hv,by rw [← key v (List.mem_range.1 hv)]; exact h⟩
 ·rintro ⟨v,hv,h⟩; exact ⟨v,hv,by rw [key v (List.mem_range.1 hv)]; exact h⟩
theorem uS (p:Prg) (a l:Nat) (f:Flows p.types (aB p)) (F0:List Bool) (hl:p.types.length ≤ 1048576) (hs:aN p.body ≤ 1048576) (hv:bH p = true) (ha:a < (aB p).length) (hll:l < (aB p).length) (hF0:GoodR (aB p) a F0) :
  PC Tryz.prog 46 [bU p,iv (a : Int),iv (l : Int)] (fun r => r = if 0 ≤ (jG (dJ (aB p) a) (dP p.types (aB p) f.Af l) (aB p).length).1 then .tup [iv (jG (dJ (aB p) a) (dP p.types (aB p) f.Af l) (aB p).length).1,bv true] else .tup [iv 0,bv false]) := by
 have w := WG.of_valid hv
 have hpl := w.pl
 have htl := w.tl
 have hPP := xI p hl hs
 rw [if_pos hv] at hPP
 have hfl := y7 p f.Af f.Ap hs w f.gf f.gp
 have hfll : ((List.range (aB p).length).map (gH p.types.length (aB p).length f.Af f.Ap)).length = (aB p).length := by simp
 have hfi : ∀ i,i < (aB p).length → ((List.range (aB p).length).map (gH p.types.length (aB p).length f.Af f.Ap))[i]! = gH p.types.length (aB p).length f.Af f.Ap i := fun i hi => a6 _ _ _ hi
 have hf1 : ∀ i,(gH p.types.length (aB p).length f.Af f.Ap i).1.length = p.types.length := fun i => by simp [gH]
 have hf2 : ∀ i v, v < p.types.length → l < (gH p.types.length (aB p).length f.Af f.Ap i).1[v]!.length := fun i v hv => by
  unfold gH;dsimp only;rw [a6 _ _ _ hv]; simpa using hll
 have hus := fun (i : Nat) (hi : i < (aB p).length) => DH p.types (aB p)[i]! ((List.range (aB p).length).map (gH p.types.length (aB p).length f.Af f.Ap))[i]!.1 ((List.range (aB p).length).map (gH p.types.length (aB p).length f.Af f.Ap))[i]!.2 l htl (by rw [hfi i hi]; exact hf1 i) (by rw [hfi i hi]; exact hf2 i)
 have hU : ∀ i,i < (aB p).length → (List.range p.types.length).any (DV p.types (aB p)[i]! ((List.range (aB p).length).map (gH p.types.length (aB p).length f.Af f.Ap))[i]!.1 l) = dP p.types (aB p) f.Af l i := fun i hi => by rw [hfi i hi]; exact Hl _ _ _ _ _ _ f.gf.1 htl hi hll
 clear hfi hf1 hf2
 generalize (List.range (aB p).length).map (gH p.types.length (aB p).length f.Af f.Ap) = FL at hfl hfll hus hU
 have hfr := GI p.types (aB p) a F0 w ha hF0
 have hF0l := hF0.l
 have hUt := p.types.length
 refine aC Tryz.func46 Tryz.ntmps46 ?_
 repeat' (first|(apply aF;first|(apply aA (k := 81);rfl;exact hPP;exact Pur.pf;rfl)|(apply aA (k := 82);rfl;exact hfl;exact Pur.pf;rfl)|(apply aA (k := 83);rfl;exact hfr;exact Pur.pf;rfl)|(apply aL (t := _);rfl;rfl;rfl;(rfl);rfl;rfl))|refine aD ?_|(refine aK ?_ ?_ <;> intro hc hq <;> try (exfalso;omega))|(refine bR ?_ ?_ <;> intro hg hq <;> try (exfalso;omega))|fail)
 refine aI (σ := Nat × List Int) [1,2,3,8,9,10] [0] (fun s => [(12,iv (s.1 : Int)),(11,sl cI s.2)]) (fun s => []) (fun s => s.1 ≤ (aB p).length ∧ s.2 = eR (jG (dJ (aB p) a) (dP p.types (aB p) f.Af l) s.1).2) (fun s => (aB p).length - s.1) (0,[]) ⟨by omega,rfl⟩ ?_
 rintro ⟨i,bl⟩ ⟨hi,hbl⟩
 dsimp only at hi hbl
 try dsimp only
 have hbp := Hk (W := dJ (aB p) a) (U := dP p.types (aB p) f.Af l) (i := i)
 have hbln := Ha (W := dJ (aB p) a) (U := dP p.types (aB p) f.Af l) (fun j => fO (x := j) w.nx ha) i
 have hbll : bl.length = (jG (dJ (aB p) a) (dP p.types (aB p) f.Af l) i).2.length := by rw [hbl,b0]
 by_cases hin : i < (aB p).length
 ·have hu := hus i hin
  rw [hU i hin] at hu
  have hw := mM p.types (aB p) a i w ha hin
  have hwl := fO (x := i) w.nx ha
  rw [← b0] at hwl
  repeat' (first|(apply aF;first|(apply aA (k := 84);rfl;exact hu;exact Pur.pf;rfl)|(apply aA (k := 45);rfl;exact hw;exact Pur.pf;rfl))|refine aD ?_|(refine aK ?_ ?_ <;> intro hc hq <;> try (exfalso;omega))|(refine bR ?_ ?_ <;> intro hg hq <;> try (exfalso;omega))|refine bT ?_|fail)
  ·have hb := vU (W := dJ (aB p) a) (U := dP p.types (aB p) f.Af l) (i := i) (.inl (by assumption))
   (refine aY (i + 1,bl) (Le.renA [(0,0)]) ?_ ?_)
   ·exact ⟨by dsimp only;omega,by dsimp only;rw [hb,hbl]⟩
   ·dsimp only;omega
  ·have hu2 : dP p.types (aB p) f.Af l i = true := by assumption
   have hW := (gB w.nx ha).2 ((hF0.g i hin).1 (by assumption))
   have hb := pG (W := dJ (aB p) a) (U := dP p.types (aB p) f.Af l) hu2 hW (by rw [b0] at *; omega)
   (refine aY (i + 1,_) (Le.renA [(0,0)]) ?_ ?_)
   ·exact ⟨by dsimp only;omega,by dsimp only;rw [hb]; rfl⟩
   ·dsimp only;omega
  ·have hb := Bv (W := dJ (aB p) a) (U := dP p.types (aB p) f.Af l) (i := i) (by omega) (by rw [b0] at *; omega)
   (refine aY (i + 1,bl) (Le.renA [(0,0)]) ?_ ?_)
   ·exact ⟨by dsimp only;omega,by dsimp only;rw [hb,hbl]⟩
   ·dsimp only;omega
  ·have hu2 : dP p.types (aB p) f.Af l i = true := by assumption
   have hW := (gB w.nx ha).2 ((hF0.g i hin).1 (by assumption))
   have hb := pG (W := dJ (aB p) a) (U := dP p.types (aB p) f.Af l) hu2 hW (by rw [b0] at *; omega)
   (refine aY (i + 1,_) (Le.renA [(0,0)]) ?_ ?_)
   ·exact ⟨by dsimp only;omega,by dsimp only;rw [hb]; rfl⟩
   ·dsimp only;omega
  ·have hb := vU (W := dJ (aB p) a) (U := dP p.types (aB p) f.Af l) (i := i) (.inr (Classical.byContradiction fun h => by have h2 := (hF0.g i hin).2 ((gB w.nx ha).1 h); rw [(by assumption : F0[i]! = false)] at h2; cases h2))
   (refine aY (i + 1,bl) (Le.renA [(0,0)]) ?_ ?_)
   ·exact ⟨by dsimp only;omega,by dsimp only;rw [hb,hbl]⟩
   ·dsimp only;omega
 ·have hin2 : (aB p).length = i := by omega
  repeat' (first|refine aD ?_|(refine aK ?_ ?_ <;> intro hc hq <;> try (exfalso;omega))|fail)
  ·exact aE rfl ⟨by rw [hin2,if_neg (by omega)]; rfl,rfl⟩
  ·have hla := GG w.nx ha hbl (by omega)
   refine aE rfl ⟨?_,rfl⟩
   rw [hla.1,hin2,if_pos hla.2]; rfl
theorem DP (bs:List UInt8) (hb:bs.length ≤ 1048576):PC Tryz.prog 12 [sl cU bs] (fun r => ∃ (q:Prg) (x:Iss),r = .tup [bU q,fC x] ∧ aN q.body ≤ 20000 ∧ q.types.length ≤ 1000):=by
 have hb2 : (bs.take 2000).length ≤ 2000 := by rw [List.length_take]; omega
 refine aC Tryz.func12 Tryz.ntmps12 ?_
 repeat' (first|(apply aF;first|(apply qF (k := 37);exact JI (bs.take 2000) 0 hb2 (by decide);rfl;rfl;rfl;rfl;rfl;(rintro ⟨q,p1⟩ ⟨hq1,hq2,hq3⟩);(dsimp only at hq1 hq2 hq3))|(apply qF (k := 36);exact EH (bs.take 2000) p1 q hb2 (by omega) (by omega) (by omega);rfl;exact Pur.pf;rfl;rfl;rfl;(rintro ⟨q2,p2⟩ ⟨hr1,hr2,hr3⟩);(dsimp only at hr1 hr2 hr3))|(with_reducible apply bW (d := 14))|(apply AD;rfl;(apply Cu <;> (assumption));rfl;rfl))|refine aD ?_|fail)
 refine dQ ?_
 obtain ⟨L,_,hC,_,_,_,hLl⟩ := AI q2 (by omega) (by omega)
 have h1 := cQ (bs.take 2000) (q2,p2).2 5
 have h2 := cQ (bs.take 2000) ((q2,p2).2 + 1) 3
 have h3 := cQ (bs.take 2000) ((q2,p2).2 + 1 + 1) 3
 have h4 := cQ (bs.take 2000) ((q2,p2).2 + 1 + 1 + 1 + 1) L.length
 repeat' (first|(apply aF;first|(apply c7;rfl;rfl;rfl;rfl;rfl;(case hl => (simp;done));exact (rfl:_=[_,_,_]))|(apply aA (k := 22);rfl;exact hC;exact Pur.pf;rfl)|(apply j4;rfl;rfl;(rfl);(apply mB <;> (first|assumption|omega));rfl;rfl))|refine aD ?_|(refine aK ?_ ?_ <;> intro hc hq <;> try (exfalso;omega))|(refine bR ?_ ?_ <;> intro hg hq <;> try (exfalso;omega))|refine bT ?_|fail)
 all_goals exact aE (l := [bU q2,fC ⟨_,_,_⟩]) rfl ⟨⟨q2,_,rfl,by omega,by omega⟩,Pur.pf⟩
def Em (x : Iss) (L : List Iss) : Int := match L.findIdx? (o6 x) with | some i => i | none => -1
theorem KF (L:List Iss) (x:Iss) (hl:L.length ≤ 1048576):PC Tryz.prog 60 [sl eV L,fC x] (fun r => r = iv (Em x L)):=by
 refine aC Tryz.func60 Tryz.ntmps60 ?_
 repeat' (first|refine aD ?_|fail)
 refine aI (σ := Nat) [0,3,7] [0] (fun k => [(8,iv (k : Int))]) (fun k => []) (fun k => k ≤ L.length ∧ ∀ j,j < k → o6 x L[j]! = false) (fun k => L.length - k) (0) ⟨by omega,by omega⟩ ?_
 intro k ⟨hk,hall⟩
 have heq : (x.point == L[k]!.point && (x.kind == L[k]!.kind && x.with_ == L[k]!.with_)) = o6 x L[k]! := rfl
 by_cases hkn : k < L.length
 ·cases hb : o6 x L[k]!
  ·rw [hb] at heq
   repeat' (first|(apply aF;(apply jS;rfl;rfl;(rw [heq]; rfl);rfl))|refine aD ?_|(refine aK ?_ ?_ <;> intro hc hq <;> try (exfalso;omega))|refine bT ?_|fail)
   (refine aY (k + 1) (Le.renA [(0,0)]) ?_ ?_)
   ·refine ⟨by omega, fun j hj => ?_⟩
    by_cases e : j = k
    ·subst e;exact hb
    ·exact hall j (by omega)
   ·omega
  ·rw [hb] at heq
   repeat' (first|(apply aF;(apply jS;rfl;rfl;(rw [heq]; rfl);rfl))|refine aD ?_|(refine aK ?_ ?_ <;> intro hc hq <;> try (exfalso;omega))|refine bT ?_|fail)
   refine aE rfl ⟨?_,rfl⟩
   have : L.findIdx? (o6 x) = some k := by
    rw [List.findIdx?_eq_some_iff_getElem]
    refine ⟨hkn,by rw [← a8 L k hkn]; exact hb,fun j hj => ?_⟩
    have := hall j hj;rw [a8 L j (by omega)] at this;rw [this]; decide
   simp only [Em,this]; rfl
 ·repeat' (first | refine aD ?_ | (refine aK ?_ ?_ <;> intro hc hq <;> try (exfalso; omega))|fail)
  refine aE rfl ⟨?_,rfl⟩
  have : L.findIdx? (o6 x) = none := by
   rw [List.findIdx?_eq_none_iff]
   intro y hy
   obtain ⟨j,hj,rfl⟩ := List.getElem_of_mem hy
   have := hall j (by omega);rw [a8 L j hj] at this;exact this
  simp only [Em,this]; rfl
theorem HU (x:Iss) (L:List Iss):decide (0 ≤ Em x L) = decide (x ∈ L):=by
 unfold Em
 split
 ·rename_i i h
  obtain ⟨h1,h2,_⟩ := List.findIdx?_eq_some_iff_getElem.1 h
  rw [decide_eq_true (by rw [(jU _ _).1 h2]; exact List.getElem_mem h1 : x ∈ L)]; simp
 ·rename_i h
  rw [List.findIdx?_eq_none_iff] at h
  have : ¬ x ∈ L := fun hx => by have := h x hx;rw [(jU x x).2 rfl] at this;cases this
  rw [decide_eq_false this]; rfl
theorem m5 (L:List Iss) (x:Iss) (hl:L.length ≤ 1048576):PC Tryz.prog 30 [sl eV L,fC x] (fun r => r = bv (decide (x ∈ L))):=by
 have hi := KF L x hl
 refine aC Tryz.func30 Tryz.ntmps30 ?_
 repeat' (first|(apply aF;(apply aA (k := 60);rfl;exact hi;exact Pur.pf;rfl))|refine aD ?_|fail)
 refine aE rfl ⟨?_,rfl⟩
 exact congrArg bv (HU x L)
theorem rV (p:Prg) (L:List Iss) (x:Iss) (hC:PC Tryz.prog 22 [bU p] (fun r => r = sl eV L)) (hl:L.length ≤ 1048576):PC Tryz.prog 43 [bU p,fC x] (fun r => r = bv (decide (x ∈ L))):=by
 refine aC Tryz.func43 Tryz.ntmps43 ?_
 repeat' (first|(apply aF;(apply aA (k := 22);rfl;exact hC;exact Pur.pf;rfl))|refine aD ?_|fail)
 refine aI (σ := Nat) [3,5] [0,1] (fun k => [(6,iv (k : Int))]) (fun k => []) (fun k => k ≤ L.length ∧ ∀ j,j < k → o6 L[j]! x = false) (fun k => L.length - k) (0) ⟨by omega,by omega⟩ ?_
 intro k ⟨hk,hall⟩
 have heq : (L[k]!.point == x.point && (L[k]!.kind == x.kind && L[k]!.with_ == x.with_)) = o6 L[k]! x := rfl
 by_cases hkn : k < L.length
 ·cases hb : o6 L[k]! x
  ·rw [hb] at heq
   repeat' (first|(apply aF;(apply jS;rfl;rfl;(rw [heq]; rfl);rfl))|refine aD ?_|(refine aK ?_ ?_ <;> intro hc hq <;> try (exfalso;omega))|refine bT ?_|fail)
   (refine aY (k + 1) (Le.renA [(0,0),(1,1)]) ?_ ?_)
   ·refine ⟨by omega, fun j hj => ?_⟩
    by_cases e : j = k
    ·subst e;exact hb
    ·exact hall j (by omega)
   ·omega
  ·rw [hb] at heq
   repeat' (first|(apply aF;(apply jS;rfl;rfl;(rw [heq]; rfl);rfl))|refine aD ?_|(refine aK ?_ ?_ <;> intro hc hq <;> try (exfalso;omega))|refine bT ?_|fail)
   refine aE rfl ⟨?_,rfl⟩
   rw [decide_eq_true (by have := aZ L k hkn;rw [(jU _ _).1 hb] at this;exact this : x ∈ L)]; rfl
 ·repeat' (first | refine aD ?_ | (refine aK ?_ ?_ <;> intro hc hq <;> try (exfalso; omega))|fail)
  refine aE rfl ⟨?_,rfl⟩
  rw [decide_eq_false (fun h => by
   obtain ⟨j,hj,e⟩ := List.getElem_of_mem h
   have := hall j (by omega)
   rw [a8 L j hj,e,(jU x x).2 rfl] at this;cases this)]; rfl
theorem Cc (ts:List Int) (bd:List AL.Stmt) (pts:List Pnt) (t:Nat) (w:WG ts pts) (hr:Rch pts) (ht:t < pts.length):PC Tryz.prog 39 [aG ts bd pts,iv (t:Int)] (fun r => r = .tup [sl cI (eR (sF pts t)),bv true]):=by
 have h0 := w.p0
 by_cases hz : t = 0
 ·subst hz
  refine aC Tryz.func39 Tryz.ntmps39 ?_
  repeat' (first|(apply aF;(apply aL (t := _);rfl;rfl;rfl;exact (rfl:_=some [_]);rfl;rfl))|refine aD ?_|fail)
  all_goals first|exact aE rfl ⟨rfl,(by (rfl))⟩|exact absurd trivial (by assumption : ¬ True)
 ·have hsw := jZ ts bd pts 0 t w h0 ht
  rw [decide_eq_true ((gK w.nx h0 t).2 (hr.wy t t (Nat.le_refl _) (by omega) ht))] at hsw
  have e : sF pts t = dJ pts 0 t := if_neg hz
  rw [← e] at hsw
  refine aC Tryz.func39 Tryz.ntmps39 ?_
  repeat' (first|(apply aF;(apply aA (k := 41);rfl;exact hsw;exact Pur.pf;rfl))|refine aD ?_|(refine aK ?_ ?_ <;> intro hc hq <;> try (exfalso;omega))|fail)
  exact aE rfl ⟨rfl,(by exact Pur.pf)⟩
theorem Bk (ts:List Int) (pts:List Pnt) (t:Nat) (w:WG ts pts) (ht:t < pts.length):PC Tryz.prog 44 [sl bK pts,iv (t:Int)] (fun r => r = sl cI (eR (sF pts t))):=by
 have h0 := w.p0
 by_cases hz : t = 0
 ·subst hz
  refine aC Tryz.func44 Tryz.ntmps44 ?_
  repeat' (first|(apply aF;(apply aL (t := _);rfl;rfl;rfl;exact (rfl:_=some [_]);rfl;rfl))|refine aD ?_|fail)
  all_goals first|exact aE rfl ⟨rfl,(by (rfl))⟩|exact absurd trivial (by assumption : ¬ True)
 ·have hsw := mM ts pts 0 t w h0 ht
  have e : sF pts t = dJ pts 0 t := if_neg hz
  rw [← e] at hsw
  refine aC Tryz.func44 Tryz.ntmps44 ?_
  repeat' (first|(apply aF;(apply aA (k := 45);rfl;exact hsw;exact Pur.pf;rfl))|refine aD ?_|(refine aK ?_ ?_ <;> intro hc hq <;> try (exfalso;omega))|fail)
  exact aE rfl ⟨rfl,(by (exact a7 _ _))⟩
theorem tM (a b:List Int) (ha:a.length ≤ 1000) (hb:b.length ≤ 1000) (h1:0 < b.length):PC Tryz.prog 47 [sl cI a,sl cI b] (fun r => r = sl cI (a ++ b.drop 1)):=by
 have htl : (List.take (b.length - Int.toNat 1) (List.drop (Int.toNat 1) b)).length = b.length - 1 := by
  show (List.take (b.length - 1) (List.drop 1 b)).length = _
  rw [List.length_take,List.length_drop]; omega
 refine aC Tryz.func47 Tryz.ntmps47 ?_
 repeat' (first|(apply aF;(apply cH;rfl;rfl;rfl;rfl;rfl;(case hl => first|(rw [aM]; omega)|(simp [aM]; done));(exact qN (by (rfl)));omega;omega;(exact mW (by (omega)));rfl;rfl))|refine aD ?_|refine bT ?_|fail)
 refine aT (Le.frzD (d := 4) (i := 2) rfl rfl) ?_
 refine aE rfl ⟨?_,(by (exact a7 _ _))⟩
 have e : List.take (b.length - Int.toNat 1) (List.drop (Int.toNat 1) b) = b.drop 1 := by
  show List.take (b.length - 1) (List.drop 1 b) = _
  exact List.take_of_length_le (by rw [List.length_drop]; omega)
 rw [e]
 simp only [aO,sl,List.length_append,Nat.zero_add]
theorem Hv (p:Prg) (x:Iss) (hv:bH p = false) (hl:p.types.length ≤ 1048576) (hs:aN p.body ≤ 1048576):PC Tryz.prog 15 [bU p,fC x] (fun r => r = .tup [sl cI [],bv false]):=by
 have hg := c6 p hl hs
 rw [if_neg (by simp [hv])] at hg
 refine aC Tryz.func15 Tryz.ntmps15 ?_
 repeat' (first|(apply aF;(apply aA (k := 29);rfl;exact hg;exact Pur.pf;rfl))|refine aD ?_|refine bT ?_|fail)
 (refine aT (Le.nilImm (d := 4) rfl) ?_; refine aE rfl ?_)
 exact ⟨rfl,rfl⟩
theorem Hf (p:Prg) (f:Flows p.types (aB p)) (x:Iss) (hv:bH p = true) (hx:x ∉ f.iss) (hl:p.types.length ≤ 1048576) (hs:aN p.body ≤ 1048576):PC Tryz.prog 15 [bU p,fC x] (fun r => r = .tup [sl cI [],bv false]):=by
 have w := WG.of_valid hv
 have hg := c6 p hl hs
 rw [if_pos hv] at hg
 have hi := gQ p.types p.body (aB p) w f
 have hc := m5 f.iss x (Nat.le_trans (fX w f) (by decide))
 rw [decide_eq_false hx] at hc
 refine aC Tryz.func15 Tryz.ntmps15 ?_
 repeat' (first|(apply aF;first|(apply aA (k := 29);rfl;exact hg;exact Pur.pf;rfl)|(apply aA (k := 31);rfl;exact hi;exact Pur.pf;rfl)|(apply aA (k := 30);rfl;exact hc;exact Pur.pf;rfl))|refine aD ?_|refine bT ?_|fail)
 (refine aT (Le.nilImm (d := 4) rfl) ?_; refine aE rfl ?_)
 exact ⟨rfl,rfl⟩
theorem GV (p:Prg) (f:Flows p.types (aB p)) (a:Nat) (k wi:Int) (hk:k = 1) (ha:a < (aB p).length) (hv:bH p = true) (hx:(⟨(a:Int),k,wi⟩:Iss) ∈ f.iss) (hl:p.types.length ≤ 1048576) (hs:aN p.body ≤ 1048576) :
  PC Tryz.prog 15 [bU p,fC ⟨(a : Int),k,wi⟩] (fun r => r = .tup [sl cI (eR (sF (aB p) a)),bv true]) := by
 have w := WG.of_valid hv
 have hg := c6 p hl hs
 rw [if_pos hv] at hg
 have hi := gQ p.types p.body (aB p) w f
 have hc := m5 f.iss ⟨(a : Int),k,wi⟩ (Nat.le_trans (fX w f) (by decide))
 rw [decide_eq_true hx] at hc
 have hb := Cc p.types p.body (aB p) a w (Rch.of p) ha
 subst hk
 refine aC Tryz.func15 Tryz.ntmps15 ?_
 repeat' (first|(apply aF;first|(apply aA (k := 29);rfl;exact hg;exact Pur.pf;rfl)|(apply aA (k := 31);rfl;exact hi;exact Pur.pf;rfl)|(apply aA (k := 30);rfl;exact hc;exact Pur.pf;rfl)|(apply aA (k := 39);rfl;exact hb;exact Pur.pf;rfl))|refine aD ?_|refine bT ?_|fail)
 all_goals first|exact aE rfl ⟨rfl,(by exact Pur.pf)⟩
theorem IB (p:Prg) (f:Flows p.types (aB p)) (a l:Nat) (k:Int) (hk:k ≠ 1) (ha:a < (aB p).length) (hll:l < (aB p).length) (hv:bH p = true) (hx:(⟨(a:Int),k,(l:Int)⟩:Iss) ∈ f.iss) (hl:p.types.length ≤ 1048576) (hs:aN p.body ≤ 1048576) (u:Nat)
  (hu : (jG (dJ (aB p) a) (dP p.types (aB p) f.Af l) (aB p).length).1 = (u : Int)) (hun : u < (aB p).length) (h2 : dJ (aB p) l a ≠ []) (h3 : dJ (aB p) a u ≠ []) :
  PC Tryz.prog 15 [bU p,fC ⟨(a : Int),k,(l : Int)⟩] (fun r => r = .tup [sl cI (eR (sF (aB p) l) ++ (eR (dJ (aB p) l a)).drop 1 ++ (eR (dJ (aB p) a u)).drop 1),bv true]) := by
 have w := WG.of_valid hv
 have hg := c6 p hl hs
 rw [if_pos hv] at hg
 have hi := gQ p.types p.body (aB p) w f
 have hc := m5 f.iss ⟨(a : Int),k,(l : Int)⟩ (Nat.le_trans (fX w f) (by decide))
 rw [decide_eq_true hx] at hc
 have hua := Aw p.types p.body (aB p) f w a l ha hll
 rw [hu,decide_eq_true (by omega)] at hua
 have hb := Cc p.types p.body (aB p) l w (Rch.of p) hll
 have hs1 := jZ p.types p.body (aB p) l a w hll ha
 rw [decide_eq_true ((gK w.nx hll a).2 ((gB w.nx hll).1 h2))] at hs1
 have hs2 := jZ p.types p.body (aB p) a u w ha hun
 rw [decide_eq_true ((gK w.nx ha u).2 ((gB w.nx ha).1 h3))] at hs2
 have hl1 := fO (x := a) w.nx hll
 have hl2 := fO (x := u) w.nx ha
 have hl0 := mK w.nx w.p0 l
 have hpl := w.pl
 rw [← b0] at hl0 hl1 hl2
 have hp1 : 0 < (eR (dJ (aB p) l a)).length := by rw [b0]; exact List.length_pos_iff.2 h2
 have hp2 : 0 < (eR (dJ (aB p) a u)).length := by rw [b0]; exact List.length_pos_iff.2 h3
 generalize eR (sF (aB p) l) = A at *
 generalize eR (dJ (aB p) l a) = B at *
 generalize eR (dJ (aB p) a u) = D at *
 have hco := F4 [A,List.take (B.length - Int.toNat 1) (List.drop (Int.toNat 1) B),List.take (D.length - Int.toNat 1) (List.drop (Int.toNat 1) D)] (by simp) (by simp;omega)
 refine aC Tryz.func15 Tryz.ntmps15 ?_
 repeat' (first|(apply aF;first|(apply rP (t := 122);rfl;rfl;rfl;exact (rfl:_=some [_,_,_]);rfl;rfl)|(apply aA (k := 29);rfl;exact hg;exact Pur.pf;rfl)|(apply aA (k := 31);rfl;exact hi;exact Pur.pf;rfl)|(apply aA (k := 30);rfl;exact hc;exact Pur.pf;rfl)|(apply aA (k := 40);rfl;exact hua;exact Pur.pf;rfl)|(apply aA (k := 39);rfl;exact hb;exact Pur.pf;rfl)|(apply aA (k := 41);rfl;exact hs1;exact Pur.pf;rfl)|(apply aA (k := 41);rfl;exact hs2;exact Pur.pf;rfl)|(apply aA (k := 42);rfl;exact hco;exact Pur.pf;rfl))|refine aD ?_|(refine aK ?_ ?_ <;> intro hc hq <;> try (exfalso;omega))|refine bT ?_|fail)
 refine aE rfl ⟨?_,(by exact Pur.pf)⟩
 have eB : List.take (B.length - Int.toNat 1) (List.drop (Int.toNat 1) B) = B.drop 1 := by
  show List.take (B.length - 1) (List.drop 1 B) = _
  exact List.take_of_length_le (by rw [List.length_drop]; omega)
 have eD : List.take (D.length - Int.toNat 1) (List.drop (Int.toNat 1) D) = D.drop 1 := by
  show List.take (D.length - 1) (List.drop 1 D) = _
  exact List.take_of_length_le (by rw [List.length_drop]; omega)
 rw [eB,eD]
 simp [aO]
theorem Bl (p:Prg) (L:List Iss) (x:Iss) (hC:PC Tryz.prog 22 [bU p] (fun r => r = sl eV L)) (hLl:L.length ≤ 1048576) (hx:x ∉ L):PC Tryz.prog 16 [bU p,fC x] (fun r => r = .tup [sl cI [],bv false]):=by
 have hh := rV p L x hC hLl
 rw [decide_eq_false hx] at hh
 refine aC Tryz.func16 Tryz.ntmps16 ?_
 repeat' (first|(apply aF;first|(apply aA (k := 43);rfl;exact hh;exact Pur.pf;rfl)|(apply aL (t := _);rfl;rfl;rfl;(rfl);rfl;rfl))|refine aD ?_|fail)
 exact aE rfl ⟨rfl,(by (rfl))⟩
theorem IX (p:Prg) (L:List Iss) (a:Nat) (k wi:Int) (hC:PC Tryz.prog 22 [bU p] (fun r => r = sl eV L)) (hLl:L.length ≤ 1048576) (hk:k = 1) (ha:a < (aB p).length) (hv:bH p = true) (hx:(⟨(a:Int),k,wi⟩:Iss) ∈ L) (hs:aN p.body ≤ 1048576) :
  PC Tryz.prog 16 [bU p,fC ⟨(a : Int),k,wi⟩] (fun r => r = .tup [sl cI (eR (sF (aB p) a)),bv true]) := by
 have w := WG.of_valid hv
 have hh := rV p L ⟨(a : Int),k,wi⟩ hC hLl
 rw [decide_eq_true hx] at hh
 have hp := dD p hs
 have hb := Bk p.types (aB p) a w ha
 subst hk
 refine aC Tryz.func16 Tryz.ntmps16 ?_
 repeat' (first|(apply aF;first|(apply aA (k := 43);rfl;exact hh;exact Pur.pf;rfl)|(apply aA (k := 23);rfl;exact hp;exact Pur.pf;rfl)|(apply aA (k := 44);rfl;exact hb;exact Pur.pf;rfl))|refine aD ?_|fail)
 all_goals first|exact aE rfl ⟨rfl,(by exact Pur.pf)⟩
theorem HW (p:Prg) (f:Flows p.types (aB p)) (L:List Iss) (a l:Nat) (k:Int) (hC:PC Tryz.prog 22 [bU p] (fun r => r = sl eV L)) (hLl:L.length ≤ 1048576) (hk:k ≠ 1) (ha:a < (aB p).length) (hll:l < (aB p).length) (hv:bH p = true) (hx:(⟨(a:Int),k,(l:Int)⟩:Iss) ∈ L) (hl:p.types.length ≤ 1048576) (hs:aN p.body ≤ 1048576) (u:Nat)
  (hu : (jG (dJ (aB p) a) (dP p.types (aB p) f.Af l) (aB p).length).1 = (u : Int)) (hun : u < (aB p).length) (h2 : dJ (aB p) l a ≠ []) (h3 : dJ (aB p) a u ≠ []) :
  PC Tryz.prog 16 [bU p,fC ⟨(a : Int),k,(l : Int)⟩] (fun r => r = .tup [sl cI (eR (sF (aB p) l) ++ (eR (dJ (aB p) l a)).drop 1 ++ (eR (dJ (aB p) a u)).drop 1),bv true]) := by
 have w := WG.of_valid hv
 have hh := rV p L ⟨(a : Int),k,(l : Int)⟩ hC hLl
 rw [decide_eq_true hx] at hh
 have hp := dD p hs
 have hb := Bk p.types (aB p) l w hll
 obtain ⟨F0,hF0⟩ := GoodR.exist (aB p) a
 have hua := uS p a l f F0 hl hs hv ha hll hF0
 rw [hu,if_pos (by omega)] at hua
 have hs1 := mM p.types (aB p) l a w hll ha
 rw [decide_eq_true ((gK w.nx hll a).2 ((gB w.nx hll).1 h2))] at hs1
 have hs2 := mM p.types (aB p) a u w ha hun
 have hl1 := fO (x := a) w.nx hll
 have hl2 := fO (x := u) w.nx ha
 have hl0 := mK w.nx w.p0 l
 have hpl := w.pl
 rw [← b0] at hl0 hl1 hl2
 have hp1 : 0 < (eR (dJ (aB p) l a)).length := by rw [b0]; exact List.length_pos_iff.2 h2
 have hp2 : 0 < (eR (dJ (aB p) a u)).length := by rw [b0]; exact List.length_pos_iff.2 h3
 generalize eR (sF (aB p) l) = A at *
 generalize eR (dJ (aB p) l a) = B at *
 generalize eR (dJ (aB p) a u) = D at *
 have hj1 := tM A B (by omega) (by omega) hp1
 have hj2 := tM (A ++ B.drop 1) D (by rw [List.length_append,List.length_drop]; omega) (by omega) hp2
 refine aC Tryz.func16 Tryz.ntmps16 ?_
 repeat' (first|(apply aF;first|(apply aA (k := 43);rfl;exact hh;exact Pur.pf;rfl)|(apply aA (k := 23);rfl;exact hp;exact Pur.pf;rfl)|(apply aA (k := 44);rfl;exact hb;exact Pur.pf;rfl)|(apply aA (k := 46);rfl;exact hua;exact Pur.pf;rfl)|(apply aA (k := 45);rfl;exact hs1;exact Pur.pf;rfl)|(apply aA (k := 45);rfl;exact hs2;exact Pur.pf;rfl)|(apply aA (k := 47);rfl;exact hj1;exact Pur.pf;rfl)|(apply aA (k := 47);rfl;exact hj2;exact Pur.pf;rfl))|refine aD ?_|(refine aK ?_ ?_ <;> intro hc hq <;> try (exfalso;omega))|fail)
 all_goals first|exact aE rfl ⟨rfl,(by exact Pur.pf)⟩
end Go.Proofs.YtgkalkgplcdnkaaGreatDoor
namespace Go.Proofs.YtgkalkgplcdnkaaGreatDoor
open Go.AL Go.ChangeShapes Go.WideShapes Go.ChangeAt Go.RowKit
theorem tV {w:World}{bad:Nat → Prop}{ι:Pl}{b:Nat}:∀ (bs:List UInt8) (o:Nat),¬ bad b → (∀ j,j < bs.length → w.cell? ⟨b,o + j,none⟩ = some (.int .u8 ((bs[j]!).toNat:Int))) → RdC w bad ι (flat cU bs) b o
 | [],_,_,_ => by simp only [flat,List.flatMap_nil,RdC]
 | x :: bs, o, hb, h => by
  have h0 := h 0 (by simp)
  have e : flat cU (x :: bs) = .v (.int .u8 (x.toNat : Int)) :: flat cU bs := rfl
  rw [e]
  simp only [RdC]
  refine ⟨⟨.int .u8 (x.toNat : Int),by simpa using h0,rfl,by simp only [Rd]⟩,tV bs (o + 1) hb fun j hj => ?_⟩
  have := h (j + 1) (by simpa using hj)
  rw [show o + 1 + j = o + (j + 1) from by omega]
  simpa using this
theorem L5:laidOutB Tryz.prog = true := by kernel_rfl
theorem Kd:Tryz.prog.cellsOf 5 = 1 := by kernel_rfl
theorem ES {H:Type}{enc:TypeId × Value → H}{W:World}{base:Nat}{v0:Value}{d0:DataW H}{p:List MemPlace}(hval:Value.okWide Tryz.prog W .any base 38 v0) (h0:DataW.Trod enc Tryz.prog W 0 (fun _ => true) true 38 v0 d0 p) :
  ∃ bs : List UInt8,Rd W (fun _ => False) (fun _ => none) (sl cU bs) v0 := by
 obtain ⟨a0,len,cap,rfl⟩ := okWide_slice Tryz.underlying38 hval
 obtain ⟨fuel,hf⟩ := h0
 rcases open_ints Tryz.underlying38 Tryz.underlying5 Kd hf with ⟨hcs,hx⟩ | ⟨a,len',cap',zs,hcs,_,hl,hm,hz,hx,hcell,hwz⟩
 ·simp [Value.cells] at hcs
  obtain ⟨rfl,rfl,rfl⟩ := hcs
  refine ⟨[],?_⟩
  simp only [Rd]
  exact ⟨none,0,rfl,.inl rfl⟩
 ·simp [Value.cells] at hcs
  obtain ⟨rfl,rfl,rfl⟩ := hcs
  simp only [if_true] at hz
  refine ⟨(zs.take len).map fun n => UInt8.ofNat n.toNat,?_⟩
  have hlen : ((zs.take len).map fun n => UInt8.ofNat n.toNat).length = len := by simp;omega
  simp only [Rd]
  refine ⟨some a,cap,by rw [hlen],?_⟩
  by_cases h00 : len = 0
  ·exact .inl (by rw [hlen]; exact h00)
  ·obtain ⟨b, off, spot⟩ := a
   have hspot : spot = none := by simpa [Addr.add] using World.cell?_spot (hcell 0 (by omega))
   subst hspot
   refine .inr ⟨b,off,by rw [hlen]; exact hl,rfl,.inr ⟨fun h => h,tV _ _ (fun h => h) fun j hj => ?_⟩⟩
   rw [hlen] at hj
   have hcj := hcell j (by omega)
   rw [Addr.add_lit] at hcj
   rw [hcj]
   have e : zs.getD j 0 = zs[j]'(by omega) := by simp [List.getD,List.getElem?_eq_getElem (show j < zs.length by omega)]
   have hw := hwz (zs[j]'(by omega)) (List.getElem_mem _)
   have hr : 0 ≤ zs[j]'(by omega) ∧ zs[j]'(by omega) ≤ 255 := by simpa [Lit.wf,IntKind.min,IntKind.max,IntKind.signed,IntKind.bits] using hw
   rw [e,a8 _ _ (by rw [hlen]; exact hj)]
   simp only [List.getElem_map,List.getElem_take]
   congr 2
   simp only [UInt8.toNat_ofNat']
   omega
theorem vT {P:Program}{k:FuncId}{avs:List AV}(h:PC P k avs (fun r => r = bv true)){W:World}{vs:List Value}(hv:RdV W (fun _ => False) (fun _ => none) avs vs) :
  Calls P k vs.toArray W fun e W' => e = .returned (.bool true) ∧ Below W.heap.size W W' := by
 let C : Ctx := { N := 0,w0 := W,W0 := fun _ => False,X := fun _ => False,ι0 := fun _ => none,xlt := fun _ h => h.elim }
 have hbad : ∀ b, ¬ aH C.X (fun _ => none) (aR []) b := by
  rintro b (h | ⟨id,cs,β,h1,h2⟩)
  ·exact h
  ·cases h2
 have g : HG C (fun _ => none) (fun j => 0 ≤ j) (aR []) W :=
  ⟨fun id cs h => by simp [aR] at h,fun id id' cs cs' b β β' h => by simp [aR] at h,Fr.refl _ _,fun _ _ h => h,fun _ _ => rfl⟩
 have hcar : Carry W (fun _ => False) (fun _ => none) W (aH C.X (fun _ => none) (aR [])) (fun _ => none) := ⟨fun b o x _ h2 => ⟨hbad b,h2⟩,fun _ _ h => h,fun _ => Nat.le_refl _⟩
 refine (h C _ W vs rfl rfl g (RdV.carry hcar _ _ hv)).mono ?_
 rintro e W' ⟨v'',r,H',ι',rfl,⟨rfl,_⟩,h4,h5⟩
 simp only [Rd] at h4
 subst h4
 have f := h5.fr
 exact ⟨rfl,f.os,f.tape,f.output,f.size,fun b hb => f.block b hb (fun h => h)⟩
end Go.Proofs.YtgkalkgplcdnkaaGreatDoor
namespace Go.Proofs.YtgkalkgplcdnkaaGreatDoor
open Go.AL Go.RowKit
theorem Ba (x:Pnt) (h:x.next.length ≤ 1048576):PC Tryz.prog 49 [kN x] (fun r => r = bv (decide (x.next.length = 2))):=by
 refine aC Tryz.func49 Tryz.ntmps49 ?_
 repeat' (first|refine aD ?_|fail)
 refine aE rfl ⟨?_,rfl⟩
 simp only [aO,AV.v.injEq,Value.bool.injEq,decide_eq_decide]; omega
def L1 (pts : List Pnt) (W : List Nat) (i : Nat) : List Int := if pts[W[i]!]!.next.length = 2 then [if pts[W[i]!]!.next[0]! = (W[i + 1]! : Int) then 0 else 1] else []
def GN (pts : List Pnt) (W : List Nat) (k : Nat) : List Int := (List.range k).flatMap (L1 pts W)
theorem Jd {pts:List Pnt}{W:List Nat}{k:Nat}(h:pts[W[k]!]!.next.length = 2):GN pts W (k + 1) = GN pts W k ++ [if pts[W[k]!]!.next[0]! = (W[k + 1]!:Int) then 0 else 1]:=by
 unfold GN;rw [List.range_succ,List.flatMap_append]; simp only [List.flatMap_cons,List.flatMap_nil,List.append_nil]; unfold L1;rw [if_pos h]
theorem I6 {pts:List Pnt}{W:List Nat}{k:Nat}(h:¬ pts[W[k]!]!.next.length = 2):GN pts W (k + 1) = GN pts W k:=by
 unfold GN;rw [List.range_succ,List.flatMap_append]; simp only [List.flatMap_cons,List.flatMap_nil,List.append_nil]; unfold L1;rw [if_neg h,List.append_nil]
theorem Ca {pts:List Pnt}{W:List Nat}:∀ k,(GN pts W k).length ≤ k
 | 0 => by simp [GN]
 | k + 1 => by
  have := Ca (pts := pts) (W := W) k
  by_cases h : pts[W[k]!]!.next.length = 2
  ·rw [Jd h,List.length_append]; simp;exact this
  ·rw [I6 h]; omega
structure Wok (pts : List Pnt) (W : List Nat) : Prop where
 c : Chn pts W
 z : ∃ T,W = 0 :: T
 l : W.length ≤ 1000
theorem Bt {W:List Nat}{i:Nat}(h:i < W.length):(eR W)[i]! = (W[i]!:Int):=by
 unfold eR;rw [a8 _ _ (by simpa using h),List.getElem_map,a8 _ _ h]
theorem Wok.at {ts:List Int}{pts:List Pnt}{W:List Nat}(w:WG ts pts) (h:Wok pts W){i:Nat}(hi:i + 1 < W.length):W[i]! < pts.length ∧ (eR W)[i]! = (W[i]!:Int) ∧ (eR W)[i + 1]! = (W[i + 1]!:Int) ∧ (W[i + 1]!:Int) ∈ pts[W[i]!]!.next ∧ pts[W[i]!]!.next.length ≤ 2:=by
 have he := Chn.at W i h.c hi
 exact ⟨he.1,Bt (by omega),Bt hi,he.2,w.nl _ he.1⟩
theorem JG (p:Prg) (W:List Nat) (hW:Wok (aB p) W) (hv:bH p = true) (hl:p.types.length ≤ 1048576) (hs:aN p.body ≤ 1048576):PC Tryz.prog 18 [bU p,sl cI (eR W)] (fun r => r = .tup [sl cI (GN (aB p) W (W.length - 1)),bv true]):=by
 have w := WG.of_valid hv
 have hpl := w.pl
 have hg := c6 p hl hs
 rw [if_pos hv] at hg
 have hWl := hW.l
 obtain ⟨T,hT⟩ := hW.z
 have hcl : (eR W).length = W.length := b0 _
 have h0 : (eR W)[0]! = 0 := by rw [hT]; rfl
 have hlen : 0 < W.length := by rw [hT]; simp
 have hbn : (if (0 : Int) ≤ ((eR W).length : Int) - 1 then some (((eR W).length : Int) - 1).toNat else none) = some (W.length - 1) := by
  rw [if_pos (by omega)]; congr 1;omega
 have hbb : 0 ≤ W.length - 1 ∧ W.length - 1 ≤ (eR W).length := ⟨Nat.zero_le _,by omega⟩
 have hV : (((eR W).drop 0).take (W.length - 1 - 0)).length = W.length - 1 := by rw [List.length_take,List.length_drop]; omega
 have hVg : ∀ k, k < W.length - 1 → (((eR W).drop 0).take (W.length - 1 - 0))[k]! = (eR W)[k]! := fun k hk => by
  rw [List.drop_zero,Nat.sub_zero,a8 _ _ (by rw [List.length_take]; omega),a8 _ _ (by omega),List.getElem_take]
 generalize hVe : ((eR W).drop 0).take (W.length - 1 - 0) = V at *
 refine aC Tryz.func18 Tryz.ntmps18 ?_
 repeat' (first|(apply aF;first|(apply aA (k := 29);rfl;exact hg;exact Pur.pf;rfl)|(apply s8 (l := 0) (h := W.length - 1);rfl;infer_instance;rfl;exact hbn;exact hbb;rfl);rw [hVe])|refine aD ?_|(refine aK ?_ ?_ <;> intro hc hq <;> try (exfalso;omega))|(refine bR ?_ ?_ <;> intro hg hq <;> try (exfalso;omega))|fail)
 ·exfalso;exact (by assumption : ¬ (eR W)[Int.toNat 0]! = 0) h0
 refine AW.le ?_ (Le.nilOwn (d := 8) 1 rfl (by decide))
 refine aI (σ := Nat × List Int × Nat) [1,6,35,36] [0] (fun k => [(37,iv (k.1 : Int)),(8,.own 1 0 k.2.2 1)]) (fun k => [(1,some (flat cI k.2.1))]) (fun k => k.1 ≤ W.length - 1 ∧ k.2.1 = GN (aB p) W k.1 ∧ k.2.2 = k.2.1.length) (fun k => W.length - 1 - k.1) (0,[],0) ⟨Nat.zero_le _,rfl,rfl⟩ ?_
 rintro ⟨k,xs,m⟩ ⟨hk,hxs,hm⟩
 dsimp only at hk hxs hm
 try dsimp only
 have hxl := Ca (pts := aB p) (W := W) k
 rw [← hxs] at hxl
 by_cases hkn : k < W.length - 1
 ·obtain ⟨a1, a2, a3, a4, a5⟩ := hW.at w (i := k) (by omega)
  have hVk : V[((k : Nat) : Int).toNat]! = (W[k]! : Int) := (hVg k hkn).trans a2
  have hct := lZ (aB p)[W[k]!]!.next (W[k + 1]! : Int) (by omega)
  rw [decide_eq_true a4] at hct
  have hw2 := Jd (pts := aB p) (W := W) (k := k)
  have hw1 := I6 (pts := aB p) (W := W) (k := k)
  rw [← hxs] at hw2 hw1
  generalize W[k]! = a at *
  generalize W[k + 1]! = b at *
  repeat' (first|(apply aF;(with_reducible apply bW (d := 42)))|refine aD ?_|(refine aK ?_ ?_ <;> intro hc hq <;> try (exfalso;omega))|fail)
  refine dQ ?_
  first|rw [hVk]|rw [show V[k]! = (a : Int) from hVk]
  have hch := Ba (aB p)[a]! (by omega)
  have a3' : (eR W)[((k : Int) + 1).toNat]! = (b : Int) := a3
  repeat' (first|(apply aF;first|(apply aA (k := 49);rfl;exact hch;exact Pur.pf;rfl)|(apply aL (t := _);rfl;rfl;rfl;exact (rfl:_=some [_]);rfl;rfl)|(apply aA (k := 48);rfl;(apply lZ <;> (omega));exact Pur.pf;rfl))|refine aD ?_|(refine aK ?_ ?_ <;> intro hc hq <;> try (exfalso;omega))|refine bT ?_|fail)
  ·exfalso
   exact (by assumption : ¬ (eR W)[((k : Int) + 1).toNat]! ∈ (aB p)[a]!.next) (by rw [a3']; exact a4)
  all_goals try simp only [a3'] at *
  ·have e1 := hw2 (by assumption)
   have e0 : (aB p)[a]!.next[0]! = (b : Int) := Eq.symm (by assumption)
   rw [if_pos e0] at e1
   (refine aY (k + 1,_,m + 1) (Le.renA [(0,0),(1,4)]) ?_ ?_)
   ·exact ⟨by dsimp only;omega,e1.symm,by simp [hm]⟩
   ·dsimp only;omega
  ·have e1 := hw2 (by assumption)
   have e0 : ¬ (aB p)[a]!.next[0]! = (b : Int) := fun q => (by assumption : ¬ (b : Int) = (aB p)[a]!.next[Int.toNat 0]!) q.symm
   rw [if_neg e0] at e1
   (refine aY (k + 1,_,m + 1) (Le.renA [(0,0),(1,4)]) ?_ ?_)
   ·exact ⟨by dsimp only;omega,e1.symm,by simp [hm]⟩
   ·dsimp only;omega
  ·have e1 := hw1 (by assumption)
   (refine aY (k + 1,xs,m) (Le.renA [(0,0),(1,1)]) ?_ ?_)
   ·exact ⟨by dsimp only;omega,e1.symm,hm⟩
   ·dsimp only;omega
 ·obtain rfl : k = W.length - 1 := by omega
  repeat' (first|refine aD ?_|(refine aK ?_ ?_ <;> intro hc hq <;> try (exfalso;omega))|fail)
  refine aT (Le.frzD (d := 4) (i := 1) rfl rfl) ?_
  refine aE (l := [_,bv true]) rfl ⟨?_,(by exact Pur.pf)⟩
  subst hm;rw [hxs]; rfl
theorem CC (bs:List UInt8) (hb:bs.length ≤ 1048576):PC Tryz.prog 14 [sl cU bs] (fun r => ∃ (q:Prg) (x:Iss),r = .tup [bU q,fC x] ∧ aN q.body ≤ 20000 ∧ q.types.length ≤ 1000):=by
 refine aC Tryz.func14 Tryz.ntmps14 ?_
 repeat' (first|(apply aF;first|(apply c7;rfl;rfl;rfl;rfl;rfl;(case hl => (simp;done));exact (rfl:_=[_,_,_]))|(apply gI (k := 12);rfl;exact DP bs hb;exact Pur.pf;rfl;(rintro _ ⟨q,x,rfl,hq1,hq2⟩ _)))|refine aD ?_|fail)
 exact aE (l := [bU q,fC x]) rfl ⟨⟨q,x,rfl,hq1,hq2⟩,Pur.pf⟩
theorem u6 (n:Int) (h0:0 ≤ n) (h1:n ≤ 99):PC Tryz.prog 24 [iv n] (fun r => r = sv (dY n)):=by
 refine aC Tryz.func24 Tryz.ntmps24 ?_
 repeat' (first|refine aD ?_|(refine aK ?_ ?_ <;> intro hc hq <;> try (exfalso;omega))|fail)
 refine aI (σ := Int × ByteArray) [] [] (fun s => [(0,iv s.1),(3,sv s.2)]) (fun s => []) (fun s => (s = (n,⟨#[]⟩)) ∨ (9 < n ∧ s = (n / 10,lT [48 + n % 10] ++ ⟨#[]⟩))) (fun s => s.1.toNat) (n,⟨#[]⟩) (.inl rfl) ?_
 rintro ⟨m,t⟩ hm
 dsimp only at hm ⊢
 rcases hm with hm | ⟨h9,hm⟩
 ·cases hm
  repeat' (first|(apply aF;first|(apply cX;rfl;rfl;(rfl);rfl)|(apply rJ (ns := [_]);rfl;rfl;rfl)|(apply kX;rfl;omega;rfl))|refine aD ?_|(refine aK ?_ ?_ <;> intro hc hq <;> try (exfalso;omega))|fail)
  ·(refine aY (n / 10, lT [48 + n % 10] ++ ⟨#[]⟩) (Le.renA []) ?_ ?_)
   ·exact .inr ⟨by assumption,rfl⟩
   ·dsimp only;omega
  ·refine aE rfl ⟨?_, rfl⟩
   rw [show dY n = sB n from if_pos (by omega)]; rfl
 ·cases hm
  repeat' (first|(apply aF;first|(apply cX;rfl;rfl;(rfl);rfl)|(apply rJ (ns := [_]);rfl;rfl;rfl)|(apply kX;rfl;omega;rfl))|refine aD ?_|(refine aK ?_ ?_ <;> intro hc hq <;> try (exfalso;omega))|fail)
  all_goals first
   | (exfalso;omega)
   | (refine aE rfl ⟨?_, rfl⟩
      rw [show dY n = lT [48 + n / 10] ++ (lT [48 + n % 10] ++ .empty) from if_neg (by omega)]; rfl)
def smD : ByteArray := ⟨#[48,49,50,51,52,53,54,55,56,57,97,98,99,100,101,102,103,104,105,106,107,108,109,110,111,112,113,114,115,116,117,118,119,120,121,122]⟩
def smS : ByteArray := ⟨((List.range 100).flatMap fun k => [UInt8.ofNat (48 + k / 10),UInt8.ofNat (48 + k % 10)]).toArray⟩
theorem LY:∀ k:Nat,k < 10 → smD.extract (k:Int).toNat ((k:Int) + 1).toNat = dY k := by decide +kernel
theorem LW:∀ k:Nat,k < 100 → 10 ≤ k → smS.extract ((k:Int) * 2).toNat ((k:Int) * 2 + 2).toNat = dY k := by decide +kernel
theorem Me {C:ByteArray}(hC:C = smD) (n:Int) (h0:0 ≤ n) (h1:n < 10):C.extract n.toNat (n + 1).toNat = dY n:=by
 subst hC
 obtain ⟨k,rfl⟩ := Int.eq_ofNat_of_zero_le h0
 exact LY k (by omega)
theorem Mc {C:ByteArray}(hC:C = smS) (n:Int) (h0:10 ≤ n) (h1:n ≤ 99):C.extract (n * 2).toNat (n * 2 + 2).toNat = dY n:=by
 subst hC
 obtain ⟨k,rfl⟩ := Int.eq_ofNat_of_zero_le (by omega : 0 ≤ n)
 exact LW k (by omega) (by omega)
instance : CaT Tryz.prog 147:=⟨by kernel_rfl⟩
instance : CaT Tryz.prog 135:=⟨by kernel_rfl⟩
instance : CaT Tryz.prog 108:=⟨by kernel_rfl⟩
theorem Ic (n:Int) (h0:0 ≤ n) (h1:n ≤ 99):PC Tryz.prog 147 [iv n] (fun r => r = sv (dY n)):=by
 refine aC Tryz.func147 Tryz.ntmps147 ?_
 repeat' (first|(apply aF;first|(apply nL (d := 8);rfl;exact iD rfl (by omega);exact iD rfl (by omega);exact ⟨by omega,Nat.le_trans (m := 36) (by omega) (by decide)⟩;rfl)|(apply nL (d := 14);rfl;exact iD rfl (by omega);exact iD rfl (by omega);exact ⟨by omega,Nat.le_trans (m := 200) (by omega) (by decide +kernel)⟩;rfl))|refine aD ?_|(refine aK ?_ ?_ <;> intro hc hq <;> try (exfalso;omega))|fail)
 ·refine aE rfl ⟨?_, rfl⟩
  exact congrArg (fun b => AV.v (.string b)) (Me rfl n h0 (by omega))
 ·refine aE rfl ⟨?_, rfl⟩
  exact congrArg (fun b => AV.v (.string b)) (Mc (by decide +kernel) n (by omega) h1)
theorem oA (v:Int) (h0:0 ≤ v) (h1:v ≤ 25):PC Tryz.prog 67 [iv v] (fun r => r = sv (eI v)):=by
 refine aC Tryz.func67 Tryz.ntmps67 ?_
 repeat' (first|(apply aF;first|(apply rJ (ns := [_]);rfl;rfl;rfl)|(apply kX;rfl;omega;rfl))|refine aD ?_|refine cC ?_|fail)
 exact ⟨rfl,rfl⟩
theorem E8 (n:Int) (h0:0 ≤ n) (h1:n ≤ 99):PC Tryz.prog 135 [iv n,iv 10] (fun r => r = sv (dY n)):=by
 have hs := Ic n h0 h1
 refine aC Tryz.func135 Tryz.ntmps135 ?_
 repeat' (first|(apply aF;(apply aA (k := 147);rfl;exact hs;(rfl);rfl))|refine aD ?_|(refine aK ?_ ?_ <;> intro hc hq <;> try (exfalso;omega))|(refine bR ?_ ?_ <;> intro hg hq <;> try (exfalso;omega))|fail)
 all_goals first
  | exact aE rfl ⟨rfl,rfl⟩
  | (exfalso;omega)
  | (exfalso;exact (by assumption : ¬ True) trivial)
theorem Hd (n:Int) (h0:0 ≤ n) (h1:n ≤ 99):PC Tryz.prog 108 [iv n] (fun r => r = sv (dY n)):=by
 have hs := E8 n h0 h1
 refine aC Tryz.func108 Tryz.ntmps108 ?_
 repeat' (first|(apply aF;(apply aA (k := 135);rfl;exact hs;(rfl);rfl))|refine aD ?_|fail)
 exact aE rfl ⟨rfl,rfl⟩
theorem v8 (n:Int) (h0:0 ≤ n) (h1:n ≤ 99):PC Tryz.prog 65 [iv n] (fun r => r = sv (dY n)):=by
 have hs := Hd n h0 h1
 refine aC Tryz.func65 Tryz.ntmps65 ?_
 repeat' (first|(apply aF;(apply aA (k := 108);rfl;exact hs;(rfl);rfl))|refine aD ?_|fail)
 exact aE rfl ⟨rfl,rfl⟩
theorem vJ (o x y n:Int) (ho:1 ≤ o ∧ o ≤ 8) (hx:0 ≤ x ∧ x ≤ 5) (hy:0 ≤ y ∧ y ≤ 5) (hn:0 ≤ n ∧ n ≤ 9):PC Tryz.prog 109 [dB (.mk o x y n [] [])] (fun r => r = sv (fV (.mk o x y n [] []))):=by
 have hi := v8 n hn.1 (by omega)
 have hlx := oA x hx.1 (by omega)
 have hly := oA y hy.1 (by omega)
 rw [show dY n = sB n from if_pos hn.2] at hi
 have hd := dL n
 refine aC Tryz.func109 Tryz.ntmps109 ?_
 repeat' (first|(apply aF;first|(apply aA (k := 65);rfl;exact hi;(rfl);rfl)|(apply aA (k := 67);rfl;exact hlx;(rfl);rfl)|(apply aA (k := 67);rfl;exact hly;(rfl);rfl)|(apply cX;rfl;rfl;(rfl);rfl))|refine aD ?_|(refine aK ?_ ?_ <;> intro hc hq <;> try (exfalso;omega))|refine bT ?_|fail)
 all_goals (refine aE rfl ⟨?_,rfl⟩; rw [sU]; (repeat' split))
 all_goals (first|rfl|(simp only [AL.Stmt.op] at *; omega))
theorem Ga (x:Pnt) (h:EL x):PC Tryz.prog 66 [kN x] (fun r => r = sv (nK x)):=by
 rcases h with h|h|h | ⟨h1,h2,h3,h4,h5,h6,h7,h8⟩
 ·have e : nK x = ⟨#[105, 102]⟩ := by unfold nK; rw [if_neg (by omega), if_pos h]
  rw [e]
  refine aC Tryz.func66 Tryz.ntmps66 ?_
  repeat' (first|refine aD ?_|(refine aK ?_ ?_ <;> intro hc hq <;> try (exfalso;omega))|fail)
  all_goals first|exact aE rfl ⟨rfl,rfl⟩|(exfalso;omega)
 ·have e : nK x = if x.n = 1 then ⟨#[103, 111]⟩ else ⟨#[108, 111, 111, 112]⟩ := by unfold nK; rw [if_neg (by omega), if_neg (by omega), if_pos h]
  rw [e]
  refine aC Tryz.func66 Tryz.ntmps66 ?_
  repeat' (first|refine aD ?_|(refine aK ?_ ?_ <;> intro hc hq <;> try (exfalso;omega))|(refine bR ?_ ?_ <;> intro hg hq <;> try (exfalso;omega))|fail)
  all_goals first|(refine aE rfl ⟨?_,rfl⟩; rw [if_pos (by omega)]; rfl)|(refine aE rfl ⟨?_,rfl⟩; rw [if_neg (by omega)]; rfl)|(exfalso;omega)
 ·have e : nK x = ⟨#[101, 110, 100]⟩ := by unfold nK; rw [if_pos h]
  rw [e]
  refine aC Tryz.func66 Tryz.ntmps66 ?_
  repeat' (first|refine aD ?_|(refine aK ?_ ?_ <;> intro hc hq <;> try (exfalso;omega))|fail)
  all_goals first|exact aE rfl ⟨rfl,rfl⟩|(exfalso;omega)
 ·have e : nK x = fV (.mk x.op x.x x.y x.n [] []) := by unfold nK; rw [if_neg (by omega), if_neg (by omega), if_neg (by omega)]
  rw [e]
  have hs := vJ x.op x.x x.y x.n ⟨h1,h2⟩ ⟨h3,h4⟩ ⟨h5,h6⟩ ⟨h7,h8⟩
  refine aC Tryz.func66 Tryz.ntmps66 ?_
  repeat' (first|(apply aF;first|(apply aA (k := 109);rfl;exact hs;(rfl);rfl)|(apply aA (k := 59);rfl;(apply nD);(rfl);rfl))|refine aD ?_|(refine aK ?_ ?_ <;> intro hc hq <;> try (exfalso;omega))|(refine bR ?_ ?_ <;> intro hg hq <;> try (exfalso;omega))|fail)
  all_goals first|exact aE rfl ⟨rfl,rfl⟩|(exfalso;omega)
theorem Fc (x:Pnt) (h:EL x):PC Tryz.prog 25 [kN x] (fun r => r = sv (nK x)):=by
 rcases h with h|h|h | ⟨h1,h2,h3,h4,h5,h6,h7,h8⟩
 ·have e : nK x = ⟨#[105, 102]⟩ := by unfold nK; rw [if_neg (by omega), if_pos h]
  rw [e]
  refine aC Tryz.func25 Tryz.ntmps25 ?_
  repeat' (first|refine aD ?_|(refine aK ?_ ?_ <;> intro hc hq <;> try (exfalso;omega))|fail)
  all_goals first|exact aE rfl ⟨rfl,rfl⟩|(exfalso;omega)
 ·have e : nK x = if x.n = 1 then ⟨#[103, 111]⟩ else ⟨#[108, 111, 111, 112]⟩ := by unfold nK; rw [if_neg (by omega), if_neg (by omega), if_pos h]
  rw [e]
  refine aC Tryz.func25 Tryz.ntmps25 ?_
  repeat' (first|refine aD ?_|(refine aK ?_ ?_ <;> intro hc hq <;> try (exfalso;omega))|(refine bR ?_ ?_ <;> intro hg hq <;> try (exfalso;omega))|fail)
  all_goals first|(refine aE rfl ⟨?_,rfl⟩; rw [if_pos (by omega)]; rfl)|(refine aE rfl ⟨?_,rfl⟩; rw [if_neg (by omega)]; rfl)|(exfalso;omega)
 ·have e : nK x = ⟨#[101, 110, 100]⟩ := by unfold nK; rw [if_pos h]
  rw [e]
  refine aC Tryz.func25 Tryz.ntmps25 ?_
  repeat' (first|refine aD ?_|(refine aK ?_ ?_ <;> intro hc hq <;> try (exfalso;omega))|fail)
  all_goals first|exact aE rfl ⟨rfl,rfl⟩|(exfalso;omega)
 ·have e : nK x = fV (.mk x.op x.x x.y x.n [] []) := by unfold nK; rw [if_neg (by omega), if_neg (by omega), if_neg (by omega)]
  rw [e]
  have hs : PC Tryz.prog 55 [dB (.mk x.op x.x x.y x.n [] [])] (fun r => r = sv (fV (.mk x.op x.x x.y x.n [] []))) :=
   wP (.mk x.op x.x x.y x.n [] []) (by simp [bV,aN]) (.inr ⟨h1,h2,h3,h4,h5,h6,fun _ => ⟨h7,h8⟩⟩) (fun h => by simp only [AL.Stmt.op] at h;omega) (fun h => by simp only [AL.Stmt.op] at h;omega)
  refine aC Tryz.func25 Tryz.ntmps25 ?_
  repeat' (first|(apply aF;(apply aA (k := 55);rfl;exact hs;(rfl);rfl))|refine aD ?_|(refine aK ?_ ?_ <;> intro hc hq <;> try (exfalso;omega))|(refine bR ?_ ?_ <;> intro hg hq <;> try (exfalso;omega))|fail)
  all_goals first|exact aE rfl ⟨rfl,rfl⟩|(exfalso;omega)
end Go.Proofs.YtgkalkgplcdnkaaGreatDoor
