/-
 A part of the proofs over this program: rules and contracts of its functions (the contracts).
-/
import Derived.Test.YtahdccneecdmmaaGreatE1B03
set_option linter.unusedVariables false
set_option linter.unusedSimpArgs false
set_option maxHeartbeats 8000000
set_option maxRecDepth 4000
attribute [local irreducible] Go.AL.RW Go.AL.AW Go.AL.Stop
namespace Go.Proofs.YtahdccneecdmmaaGreat
open Go.AL Go.RowKit
variable {N : Nat} {Q : Exit → AS → Prop} {all : Array Oper} {rest : List Oper} {tsl : List (Nat × AV)} {hsl : List (Nat × Option (List AV))} {nidl : Nat} {z0 : Lo} {md : Md} {d : Nat} {ty : TypeId} {pos : String} {af : Array Edge} {tys : Array TypeId}
theorem KX {cs:List AV}{i:Nat}{c:AV}:gQ cs i [c] = cs.take i ++ c :: cs.drop (i + 1):=by
 have := x6 (cs := cs) (v := i) (c := c)
 rwa [Nat.zero_add,Nat.mul_one] at this
theorem Le.frzCl {ts:List (Nat × AV)}{hs:List (Nat × Option (List AV))}{n:Nat}{z0:Lo}{j q v m:Nat}{u:List Cl}{r:List Tg}(hj:aO hs j = some (gQ (flat bG u) (0 + v * 4 + 3) [.own q 0 m 2])) (hq:aO hs q = some (flat b8 r)) (hm:m = r.length) (hv:v < u.length) (hjq:j ≠ q) :
  Le ⟨ts,hs,n,z0⟩ ⟨ts,(j,some (flat bG (u.set v { u[v]! with stk := r }))) :: (q,none) :: hs,n,z0⟩ := by
 subst hm
 have hl : (flat bG u).length = u.length * 4 := aI bG u
 have e := Bl (s := r) hv
 rw [KX] at hj e
 have h := Le.frzC (ts := ts) (n := n) (z0 := z0) ((flat bG u).take (0 + v * 4 + 3)) hj hq hjq
 rw [← e]; exact h
theorem tO {m:List Cl}{x:Pt}{wr:Bool}:(dO m x wr).length = m.length:=by
 unfold dO;split
 ·rw [List.length_set]
 ·rfl
theorem gW {m:List Cl}{x:Pt}{x0 x1:Operand}(ha0:ev (lk tsl) x0 = some (sl bG m)) (ha1:ev (lk tsl) x1 = some (mQ x)) (hmc:MC Tryz.prog 271 [sl bG m,mQ x] [] 0 (fun _:Unit => True) (fun _ => .tup [.own 1 0 m.length 4,iv (bC m x true)]) (fun _ => [(1,some (flat bG (dO m x true)))])) (hM:Nat.ble (nidl + 2) aQ = true) (hN:Nat.blt d N = true){md':Md}[hmd:MdA md (fR [x0,x1] ++ []) (List.map Sum.inr (List.map Prod.fst ([((nidl + 1),some (flat bG (dO m x true)))]:List (Nat × Option (List AV)))) ++ [.inl d]) md'] (kk:RW Tryz.prog N all Q md' rest ⟨(d,.tup [.own (nidl + 1) 0 m.length 4,iv (bC m x true)]) :: tsl,iB hsl [((nidl + 1),some (flat bG (dO m x true)))],nidl + 2,z0⟩):RW Tryz.prog N all Q md (⟨some d,.call ⟨.value (.func 271),#[x0,x1],tys⟩,ty,pos,af,none⟩ :: rest) ⟨tsl,hsl,nidl,z0⟩:=by
 exact bB (l := [x0,x1]) [] 2 [((nidl + 1),some (flat bG (dO m x true)))] hmc (avs := [sl bG m,mQ x]) (by simp only [evL,ha0,ha1]) rfl hM hN (md' := md') (hmd := hmd) kk
theorem iP (m:List Cl) (x:Pt) (hm:OkM m):MC Tryz.prog 271 [sl bG m,mQ x] [] 0 (fun _:Unit => True) (fun _ => .tup [.own 1 0 m.length 4,iv (bC m x true)]) (fun _ => [(1,some (flat bG (dO m x true)))]):=by
 have hml := hm.l
 have hst : 0 ≤ x.cell → x.cell < m.length → m[x.cell.toNat]!.stk.length ≤ 200 := fun h1 h2 => (((cS m).1 hm).2 x.cell.toNat (by omega)).l.2
 have hpl := j7 m hm x
 by_cases hk : bC m x false = 0
 ·rw [if_pos hk, hk] at hpl
  obtain ⟨h1,h2,h3,h4,_⟩ := dH hk
  have hbd := eG m[x.cell.toNat]!.stk x.tag
  have hs2 := hst h1 h2
  obtain ⟨k,hkk⟩ := Int.eq_ofNat_of_zero_le h4
  rw [hkk] at hpl
  have hkn : k < m[x.cell.toNat]!.stk.length := by omega
  have hkt : (cA m[x.cell.toNat]!.stk x.tag).toNat = k := by omega
  have hwr := xO (m := m) (x := x)
  rw [if_pos hk,hkt] at hwr
  have e1 : List.take (((k : Int) + 1).toNat - 0) (List.drop 0 m[x.cell.toNat]!.stk) = m[x.cell.toNat]!.stk.take (k + 1) := by rw [List.drop_zero]; congr 1
  have e2 : (m[x.cell.toNat]!.stk.take (k + 1)).length = k + 1 := by rw [List.length_take]; omega
  refine aW Tryz.func271 Tryz.ntmps271 ?_
  repeat' (first|(apply aF;first|(apply eJ;rfl;exact fN m hm;rfl;rfl)|(apply aA (k := 276);rfl;exact hpl;exact Pur.pf;rfl)|(with_reducible apply aV (d := 46)))|refine aE ?_|(refine aJ ?_ ?_ <;> intro hc hq <;> try (exfalso;omega))|refine bJ ?_|fail)
  ·have hu : m[x.cell.toNat]!.stk[k]!.uq = false := by assumption
   rw [if_pos hu] at hwr
   (refine aD rfl ?_; refine aR () trivial ?_ ⟨sE ?_,trivial⟩)
   ·rw [hwr]; rfl
   ·unfold dO;rw [if_neg (by rw [hwr]; decide)]
  ·have hu : m[x.cell.toNat]!.stk[k]!.uq = true := by assumption
   rw [if_neg (by rw [hu]; decide)] at hwr
   refine bR ?_
   rw [e1]
   repeat' (first|(apply aF;(with_reducible apply aV (d := 49)))|refine aE ?_|fail)
   refine bR (cY ?_ (Le.frzCl (j := 1) (q := 3) (v := x.cell.toNat) (u := m) (r := m[x.cell.toNat]!.stk.take (k + 1)) rfl rfl (Nat.zero_add _) (by omega) (by decide)))
   repeat' (first|refine aE ?_|fail)
   (refine aD rfl ?_; refine aR () trivial ?_ ⟨sE ?_,trivial⟩)
   ·rw [hwr]; rfl
   ·unfold dO sB gE;rw [if_pos hwr,hkt,if_pos rfl]
 ·rw [if_neg hk] at hpl
  have hk2 : bC m x true = bC m x false := by rw [xO,if_neg hk]
  refine aW Tryz.func271 Tryz.ntmps271 ?_
  repeat' (first|(apply aF;first|(apply eJ;rfl;exact fN m hm;rfl;rfl)|(apply aA (k := 276);rfl;exact hpl;exact Pur.pf;rfl))|refine aE ?_|(refine aJ ?_ ?_ <;> intro hc hq <;> try (exfalso;omega))|fail)
  (refine aD rfl ?_; refine aR () trivial ?_ ⟨sE ?_,trivial⟩)
  ·rw [hk2]; rfl
  ·unfold dO;rw [if_neg (by rw [hk2]; exact hk)]
theorem set_set {α:Type}{l:List α}{i:Nat}{a b:α}:(l.set i a).set i b = l.set i b := by simp
theorem kO {α:Type}[Inhabited α] {l:List α}{i:Nat}{a:α}(h:i < l.length):(l.set i a)[i]! = a := by rw [a8 _ _ (by rw [List.length_set]; exact h),List.getElem_set_self]
theorem xE (m:List Cl) (hm:OkM m) (x:Pt) (v:Int):PC Tryz.prog 253 [sl bG m,mQ x,iv v] (fun r => r = .tup [sl bG (Az m x v),iv (uZ m x v)]):=by
 have hml := hm.l
 have hlt := tO (m := m) (x := x) (wr := true)
 have hin := dH (m := m) (x := x) (wr := true)
 by_cases hv : 0 ≤ v ∧ v ≤ 9
 ·have hwk : uZ m x v = bC m x true := by unfold uZ; rw [if_pos hv]
  by_cases hk : bC m x true = 0
  ·obtain ⟨h1, h2, _⟩ := hin hk
   refine aC Tryz.func253 Tryz.ntmps253 ?_
   repeat' (first|(apply aF;first|(apply gW;rfl;rfl;exact iP m x hm;rfl;rfl)|(apply a7;rfl;rfl;rfl;rfl;rfl;(rw [aI]; simp only [fT] <;> omega);(exact Kz (by (omega)))))|refine aE ?_|(refine aJ ?_ ?_ <;> intro hc hq <;> try (exfalso;omega))|(refine bS ?_ ?_ <;> intro hg hq <;> try (exfalso;omega))|fail)
   (refine aT (Le.frzD (d := 6) (i := 2) rfl rfl) ?_; refine aD rfl ?_)
   refine ⟨?_,by exact Pur.pf⟩
   simp only [aM]
   rw [eF (by rw [List.length_set,hlt]),hwk]
   unfold Az dO;rw [if_pos hk,if_pos (by rw [hwk]; exact hk),kO (by omega),set_set]
  ·refine aC Tryz.func253 Tryz.ntmps253 ?_
   repeat' (first|(apply aF;(apply gW;rfl;rfl;exact iP m x hm;rfl;rfl))|refine aE ?_|(refine aJ ?_ ?_ <;> intro hc hq <;> try (exfalso;omega))|(refine bS ?_ ?_ <;> intro hg hq <;> try (exfalso;omega))|fail)
   (refine aT (Le.frzD (d := 6) (i := 2) rfl rfl) ?_; refine aD rfl ?_)
   refine ⟨?_,by exact Pur.pf⟩
   simp only [aM]
   rw [eF (by rw [hlt]),hwk]
   unfold Az dO;rw [if_neg hk,if_neg (by rw [hwk]; exact hk)]
 ·have hwk : uZ m x v = 4 := by unfold uZ; rw [if_neg hv]
  have e : Az m x v = m := by unfold Az;rw [if_neg (by rw [hwk]; decide)]
  refine aC Tryz.func253 Tryz.ntmps253 ?_
  repeat' (first|(apply aF;(apply eJ;rfl;exact fN m hm;rfl;rfl))|refine aE ?_|(refine aJ ?_ ?_ <;> intro hc hq <;> try (exfalso;omega))|(refine bS ?_ ?_ <;> intro hg hq <;> try (exfalso;omega))|fail)
  all_goals (try (exfalso;omega))
  all_goals (
   (refine aT (Le.frzD (d := 6) (i := 1) rfl rfl) ?_; refine aD rfl ?_)
   refine ⟨?_,by exact Pur.pf⟩
   simp only [aM]
   rw [e,hwk])
theorem k6 (m:List Cl) (hm:OkM m) (x:Pt):PC Tryz.prog 245 [sl bG m,mQ x] (fun r => r = .tup [sl bG (kZ m x),iv (bC m x true)]):=by
 have hml := hm.l
 have hlt := tO (m := m) (x := x) (wr := true)
 have hin := dH (m := m) (x := x) (wr := true)
 by_cases hk : bC m x true = 0
 ·obtain ⟨h1, h2, _⟩ := hin hk
  refine aC Tryz.func245 Tryz.ntmps245 ?_
  repeat' (first|(apply aF;first|(apply gW;rfl;rfl;exact iP m x hm;rfl;rfl)|(apply a7;rfl;rfl;rfl;rfl;rfl;(rw [aI]; simp only [fT] <;> omega);(exact K5 (by (omega)))))|refine aE ?_|(refine aJ ?_ ?_ <;> intro hc hq <;> try (exfalso;omega))|fail)
  (refine aT (Le.frzD (d := 4) (i := 2) rfl rfl) ?_; refine aD rfl ?_)
  refine ⟨?_,by exact Pur.pf⟩
  simp only [aM]
  rw [eF (by rw [List.length_set,hlt])]
  unfold kZ dO;rw [if_pos hk,if_pos hk,kO (by omega),set_set]
 ·refine aC Tryz.func245 Tryz.ntmps245 ?_
  repeat' (first|(apply aF;(apply gW;rfl;rfl;exact iP m x hm;rfl;rfl))|refine aE ?_|(refine aJ ?_ ?_ <;> intro hc hq <;> try (exfalso;omega))|fail)
  (refine aT (Le.frzD (d := 4) (i := 2) rfl rfl) ?_; refine aD rfl ?_)
  refine ⟨?_,by exact Pur.pf⟩
  simp only [aM]
  rw [eF (by rw [hlt])]
  unfold kZ dO;rw [if_neg hk,if_neg hk]
theorem Bt (m:List Cl) (hm:OkM m) (v:Int):PC Tryz.prog 249 [sl bG m,iv v] (fun r => r = .tup (if 0 ≤ v ∧ v ≤ 9 ∧ m.length < 200 then [sl bG (m ++ [uP v]),.agg [iv m.length,iv 0],bv true] else [sl bG [],.agg [iv 0,iv 0],bv false])):=by
 have hml := hm.l
 have hcv := nB m (by omega)
 rw [decide_eq_true hm] at hcv
 refine aC Tryz.func249 Tryz.ntmps249 ?_
 repeat' (first|(apply aF;first|(apply eJ;rfl;exact fN m hm;rfl;rfl)|(apply aA (k := 272);rfl;exact hcv;exact Pur.pf;rfl)|(apply aL (t := _);rfl;rfl;rfl;(first|exact (rfl:_=some [_,_])|exact (rfl:_=some [_,_,_,_])|rfl);rfl;rfl))|refine aE ?_|(refine aJ ?_ ?_ <;> intro hc hq <;> try (exfalso;omega))|(refine bS ?_ ?_ <;> intro hg hq <;> try (exfalso;omega))|fail)
 all_goals try exact aD (l := [sl bG [],.agg [iv 0,iv 0],bv false]) rfl ⟨by rw [if_neg (by omega)]; rfl,rfl⟩
 have e : ((flat bG m).drop 0).take (m.length * 4) ++ [iv v,bv true,iv 1,.imm 1 [iv 0,bv true]] = flat bG (m ++ [uP v]) := eV rfl rfl
 have e2 : AV.imm (m.length + 1) (((flat bG m).drop 0).take (m.length * 4) ++ [iv v, bv true, iv 1, .imm 1 [iv 0, bv true]]) = sl bG (m ++ [uP v]) := by
  rw [e]; exact eF (by rw [List.length_append]; rfl)
 refine aT (Le.frzD (d := 4) (i := 4) rfl rfl) ?_
 refine aD (l := [AV.imm (m.length + 1) (((flat bG m).drop 0).take (m.length * 4) ++ [iv v,bv true,iv 1,.imm 1 [iv 0,bv true]]),.agg [iv m.length,iv 0],bv true]) rfl ?_
 rw [e2,if_pos (by omega)]
 exact ⟨rfl,by exact Pur.pf⟩
def nK (m : List Cl) (j : Nat) (r : List Tg) : Prop := r.length = 200 ∨ m[j]!.next = 1000
instance (m : List Cl) (j : Nat) (r : List Tg) : Decidable (nK m j r) := by unfold nK;infer_instance
def jE (m b : List Cl) (j : Nat) (u : Bool) (r : List Tg) : List Cl := if nK m j r then b else m.set j (psh { m[j]! with stk := r } u)
def jC (m : List Cl) (j : Nat) (r : List Tg) : Pt := if nK m j r then ⟨0,0⟩ else ⟨j,m[j]!.next⟩
def jD (m : List Cl) (j : Nat) (r : List Tg) : Int := if nK m j r then 4 else 0
theorem u7 {m b:List Cl}{j:Nat}{u:Bool}{r:List Tg}{n k:Nat}{x0 x1 x2 x3:Operand}{i0 i1:Nat}(ha0:ev (lk tsl) x0 = some (.own i0 0 n 4)) (ha1:ev (lk tsl) x1 = some (sl bG b)) (ha2:ev (lk tsl) x2 = some (iv (j:Int))) (ha3:ev (lk tsl) x3 = some (bv u)) (hH0:aO hsl i0 = some (flat eI (cZ m j (.own i1 0 k 2)))) (hH1:aO hsl i1 = some (flat b8 r)) (hdd:Go.AL.distinct [i0,i1] = true) (hmc:MC Tryz.prog 283 [.own 0 0 n 4,sl bG b,iv (j:Int),bv u] [(0,some (flat eI (cZ m j (.own 1 0 k 2)))),(1,some (flat b8 r))] 2 (fun _:Unit => True) (fun _ => .tup [sl bG (jE m b j u r),mQ (jC m j r),iv (jD m j r)]) (fun _ => [])) (hM:Nat.ble (nidl + 0) aQ = true) (hN:Nat.blt d N = true){md':Md}[hmd:MdA md (fR [x0,x1,x2,x3] ++ [.inr i0,.inr i1]) (List.map Sum.inr (List.map Prod.fst ([(i0,none),(i1,none)]:List (Nat × Option (List AV)))) ++ [.inl d]) md'] (kk:RW Tryz.prog N all Q md' rest ⟨(d,.tup [sl bG (jE m b j u r),mQ (jC m j r),iv (jD m j r)]) :: tsl,iB hsl [(i0,none),(i1,none)],nidl + 0,z0⟩):RW Tryz.prog N all Q md (⟨some d,.call ⟨.value (.func 283),#[x0,x1,x2,x3],tys⟩,ty,pos,af,none⟩ :: rest) ⟨tsl,hsl,nidl,z0⟩:=by
 exact bB (l := [x0,x1,x2,x3]) [i0,i1] 2 [(i0,none),(i1,none)] hmc (avs := [.own i0 0 n 4,sl bG b,iv (j : Int),bv u]) (by simp only [evL,ha0,ha1,ha2,ha3]) hdd hM hN (md' := md') (hmd := hmd) kk
theorem zN (m b:List Cl) (j:Nat) (u:Bool) (r:List Tg) (n k:Nat) (hb:OkM b) (hn:n = m.length) (hk:k = r.length) (hj:j < m.length) (hnx:0 ≤ m[j]!.next ∧ m[j]!.next ≤ 1000) (hr:r.length ≤ 200) (hml:m.length ≤ 200):MC Tryz.prog 283 [.own 0 0 n 4,sl bG b,iv (j:Int),bv u] [(0,some (flat eI (cZ m j (.own 1 0 k 2)))),(1,some (flat b8 r))] 2 (fun _:Unit => True) (fun _ => .tup [sl bG (jE m b j u r),mQ (jC m j r),iv (jD m j r)]) (fun _ => []):=by
 have hol := cV (m := m) (j := j) (X := .own 1 0 k 2)
 have hog := gM (m := m) (j := j) (X := .own 1 0 k 2) hj
 have hol2 := cV (m := m) (j := j) (X := .own (2 + 1 + 1 + 1) 0 (r.length + 1) 2)
 subst hn hk
 refine aW Tryz.func283 Tryz.ntmps283 ?_
 repeat' (first|(apply aF;(with_reducible apply aV (d := 11)))|refine aE ?_|fail)
 refine bR ?_
 rw [hog]
 dsimp only
 repeat' (first|(apply aF;first|(apply aA (k := 273);rfl;exact Fl b hb;exact Pur.pf;rfl)|(apply bT;rfl;rfl;rfl;rfl;rfl;(rw [aI]; omega);(rfl);omega;omega;(exact sG (by (omega)));rfl;rfl)|(apply a7;rfl;rfl;rfl;rfl;rfl;(case hl => (first|decide|(rw [aI]; simp only [fT] <;> omega)|(simp;done)));(first|exact tZ (by (assumption))|exact wE (by (assumption))))|(apply aL (t := _);rfl;rfl;rfl;(exact (rfl:_=some [_,_]));rfl;rfl))|refine aE ?_|(refine aJ ?_ ?_ <;> intro hc hq <;> try (exfalso;omega))|(refine bS ?_ ?_ <;> intro hg hq <;> try (exfalso;omega))|fail)
 ·have hf : nK m j r := .inr (by assumption)
  refine aD (l := [sl bG b,.agg [iv 0,iv 0],iv 4]) rfl ?_
  refine aR () trivial ?_ trivial
  unfold jE jC jD;rw [if_pos hf,if_pos hf,if_pos hf]; rfl
 ·have hf : ¬ nK m j r := by unfold nK; omega
  have hm2 : (m.set j { m[j]! with next := m[j]!.next + 1 }).length = m.length := List.length_set
  refine aT (Le.cls (o := 0) (q := 5) (j := j) (k := r.length + 1) (m := m.set j { m[j]! with next := m[j]!.next + 1 }) (r := r ++ [⟨m[j]!.next,u⟩]) rfl rfl (by rw [List.length_append]; rfl) (by omega) (by decide)) ?_
  refine aT (Le.frzD (d := 8) (i := 0) rfl rfl) ?_
  have e : (m.set j { m[j]! with next := m[j]!.next + 1 }).set j { (m.set j { m[j]! with next := m[j]!.next + 1 })[j]! with stk := r ++ [⟨m[j]!.next, u⟩] } = m.set j (psh { m[j]! with stk := r } u) := by
   rw [kO hj,set_set]; rfl
  rw [e]
  refine aD (l := [.imm m.length (flat bG (m.set j (psh { m[j]! with stk := r } u))),.agg [iv (j : Int),iv m[j]!.next],iv 0]) rfl ?_
  refine aR () trivial ?_ trivial
  unfold jE jC jD;rw [if_neg hf,if_neg hf,if_neg hf,eF (by rw [List.length_set])]; rfl
 ·have hf : nK m j r := .inl (by omega)
  refine aD (l := [sl bG b,.agg [iv 0,iv 0],iv 4]) rfl ?_
  refine aR () trivial ?_ trivial
  unfold jE jC jD;rw [if_pos hf,if_pos hf,if_pos hf]; rfl
theorem B2 {stk r:List Tg}{k:Nat}{x0 x1:Operand}(ha0:ev (lk tsl) x0 = some (sl b8 stk)) (ha1:ev (lk tsl) x1 = some (iv (k:Int))) (hmc:MC Tryz.prog 277 [sl b8 stk,iv (k:Int)] [] 0 (fun _:Unit => True) (fun _ => .own 1 0 r.length 2) (fun _ => [(1,some (flat b8 r))])) (hM:Nat.ble (nidl + 2) aQ = true) (hN:Nat.blt d N = true){md':Md}[hmd:MdA md (fR [x0,x1] ++ []) (List.map Sum.inr (List.map Prod.fst ([((nidl + 1),some (flat b8 r))]:List (Nat × Option (List AV)))) ++ [.inl d]) md'] (kk:RW Tryz.prog N all Q md' rest ⟨(d,.own (nidl + 1) 0 r.length 2) :: tsl,iB hsl [((nidl + 1),some (flat b8 r))],nidl + 2,z0⟩):RW Tryz.prog N all Q md (⟨some d,.call ⟨.value (.func 277),#[x0,x1],tys⟩,ty,pos,af,none⟩ :: rest) ⟨tsl,hsl,nidl,z0⟩:=by
 exact bB (l := [x0,x1]) [] 2 [((nidl + 1),some (flat b8 r))] hmc (avs := [sl b8 stk,iv (k : Int)]) (by simp only [evL,ha0,ha1]) rfl hM hN (md' := md') (hmd := hmd) kk
theorem EV (stk r:List Tg) (k:Nat) (hr:r = gE stk k false) (hk:k < stk.length) (hl:stk.length ≤ 1048576):MC Tryz.prog 277 [sl b8 stk,iv (k:Int)] [] 0 (fun _:Unit => True) (fun _ => .own 1 0 r.length 2) (fun _ => [(1,some (flat b8 r))]):=by
 have e1 : List.take (((k : Int) + 1).toNat - 0) (List.drop 0 stk) = stk.take (k + 1) := by rw [List.drop_zero]; congr 1
 have e2 : (stk.take (k + 1)).length = k + 1 := by rw [List.length_take]; omega
 refine aW Tryz.func277 Tryz.ntmps277 ?_
 repeat' (first|(apply aF;(with_reducible apply aV (d := 12)))|refine aE ?_|fail)
 refine bR ?_
 rw [e1]
 repeat' (first|refine aE ?_|fail)
 refine aH (σ := Nat × List Tg × Nat) [0] [] (fun s => [(6,iv (s.1 : Int)),(5,.own 1 0 s.2.2 2)]) (fun s => [(1,some (flat b8 s.2.1))]) (fun s => k + 1 ≤ s.1 ∧ s.1 ≤ stk.length ∧ s.2.1 = stk.take (k + 1) ++ ((stk.drop (k + 1)).take (s.1 - (k + 1))).filter (fun t => !t.uq) ∧ s.2.2 = s.2.1.length ∧ s.2.2 ≤ s.1) (fun s => stk.length - s.1) (k + 1,stk.take (k + 1),0 + (stk.take (k + 1)).length) ⟨Nat.le_refl _,by dsimp only;omega,by simp,by dsimp only;omega,by dsimp only;omega⟩ ?_
 rintro ⟨i,xs,n⟩ ⟨hki,hi,hxs,hn,hni⟩
 dsimp only at hki hi hxs hn hni ⊢
 repeat' (first|(apply aF;first|(apply bT;rfl;rfl;rfl;rfl;rfl;(rw [aI]; omega);(rfl);omega;omega;(exact sG (by (assumption)));rfl;rfl)|(apply aL (t := _);rfl;rfl;rfl;(exact (rfl:_=some [_,_]));rfl;rfl))|refine aE ?_|(refine aJ ?_ ?_ <;> intro hc hq <;> try (exfalso;omega))|fail)
 ·(refine bD (i + 1, _, _) (Le.renA [(1, 3)]) ?_ ?_)
  ·refine ⟨by dsimp only; omega, by dsimp only; omega, ?_, by dsimp only; rw [List.length_append, hn]; rfl, by dsimp only; omega⟩
   dsimp only
   rw [hxs,jG stk hki (by omega),List.filter_append,List.append_assoc]
   congr 2
   have hu : stk[i]!.uq = false := by assumption
   rw [pN (by rw [hu]; rfl)]
  ·dsimp only;omega
 ·(refine bD (i + 1, xs, n) (Le.renA [(1, 1)]) ?_ ?_)
  ·refine ⟨by dsimp only; omega, by dsimp only; omega, ?_, hn, by dsimp only; omega⟩
   dsimp only
   have hu : stk[i]!.uq = true := by assumption
   rw [hxs,jG stk hki (by omega),List.filter_append,mC (by rw [hu]; rfl),List.append_nil]
  ·dsimp only;omega
 ·have hie : i = stk.length := by omega
  have hd : (stk.drop (k + 1)).take (stk.length - (k + 1)) = stk.drop (k + 1) := List.take_of_length_le (by rw [List.length_drop]; exact Nat.le_refl _)
  have hxr : xs = r := by rw [hxs,hie,hd,hr]; rfl
  subst hxr
  (refine aD rfl ?_; refine aR () trivial ?_ ⟨sE ?_,trivial⟩)
  ·rw [hn]; rfl
  ·rfl
theorem Hq {m:List Cl}{x:Pt}{j:Nat}{r:List Tg}{v:Int}{x0 x1:Operand}(ha0:ev (lk tsl) x0 = some (sl bG m)) (ha1:ev (lk tsl) x1 = some (mQ x)) (hmc:MC Tryz.prog 252 [sl bG m,mQ x] [] 0 (fun _:Unit => True) (fun _ => .tup [.own 1 0 m.length 4,iv v,iv 0]) (fun _ => [(1,some (flat eI (cZ m j (.own 3 0 r.length 2)))),(3,some (flat b8 r))])) (hM:Nat.ble (nidl + 4) aQ = true) (hN:Nat.blt d N = true){md':Md}[hmd:MdA md (fR [x0,x1] ++ []) (List.map Sum.inr (List.map Prod.fst ([((nidl + 1),some (flat eI (cZ m j (.own (nidl + 3) 0 r.length 2)))),((nidl + 3),some (flat b8 r))]:List (Nat × Option (List AV)))) ++ [.inl d]) md'] (kk:RW Tryz.prog N all Q md' rest ⟨(d,.tup [.own (nidl + 1) 0 m.length 4,iv v,iv 0]) :: tsl,iB hsl [((nidl + 1),some (flat eI (cZ m j (.own (nidl + 3) 0 r.length 2)))),((nidl + 3),some (flat b8 r))],nidl + 4,z0⟩):RW Tryz.prog N all Q md (⟨some d,.call ⟨.value (.func 252),#[x0,x1],tys⟩,ty,pos,af,none⟩ :: rest) ⟨tsl,hsl,nidl,z0⟩:=by
 exact bB (l := [x0,x1]) [] 4 [((nidl + 1),some (flat eI (cZ m j (.own (nidl + 3) 0 r.length 2)))),((nidl + 3),some (flat b8 r))] hmc (avs := [sl bG m,mQ x]) (by simp only [evL,ha0,ha1]) rfl hM hN (md' := md') (hmd := hmd) kk
theorem I4 (m:List Cl) (x:Pt) (j:Nat) (r:List Tg) (v:Int) (hm:OkM m) (hk:bC m x false = 0) (hj:j = x.cell.toNat) (hr:r = gE m[j]!.stk (cA m[j]!.stk x.tag).toNat false) (hv:v = m[j]!.val):MC Tryz.prog 252 [sl bG m,mQ x] [] 0 (fun _:Unit => True) (fun _ => .tup [.own 1 0 m.length 4,iv v,iv 0]) (fun _ => [(1,some (flat eI (cZ m j (.own 3 0 r.length 2)))),(3,some (flat b8 r))]):=by
 subst hj
 have hml := hm.l
 have hst : 0 ≤ x.cell → x.cell < m.length → m[x.cell.toNat]!.stk.length ≤ 1048576 := fun h1 h2 => Nat.le_trans (((cS m).1 hm).2 x.cell.toNat (by omega)).l.2 (by decide)
 have hpl := j7 m hm x
 rw [if_pos hk,hk] at hpl
 obtain ⟨h1,h2,h3,h4,_⟩ := dH hk
 have hbd := eG m[x.cell.toNat]!.stk x.tag
 have hrd := EV m[x.cell.toNat]!.stk r (cA m[x.cell.toNat]!.stk x.tag).toNat hr (by omega) (hst h1 h2)
 rw [Int.toNat_of_nonneg h4] at hrd
 obtain ⟨k,hkk⟩ := Int.eq_ofNat_of_zero_le h4
 rw [hkk] at hpl hrd
 refine aW Tryz.func252 Tryz.ntmps252 ?_
 repeat' (first|(apply aF;first|(apply eJ;rfl;exact fN m hm;rfl;rfl)|(apply aA (k := 276);rfl;exact hpl;exact Pur.pf;rfl)|(apply B2;rfl;rfl;exact hrd;rfl;rfl)|(apply a7;rfl;rfl;rfl;rfl;rfl;(rw [aI]; simp only [fT] <;> omega);(exact xP (by (omega)))))|refine aE ?_|refine bJ ?_|fail)
 (refine aD rfl ?_; refine aR () trivial ?_ ⟨sE ?_,⟨sE ?_,trivial⟩⟩)
 ·rw [hv]; rfl
 ·rfl
 ·rfl
theorem DI {m:List Cl}{x:Pt}{j:Nat}{r:List Tg}{x0 x1:Operand}(ha0:ev (lk tsl) x0 = some (sl bG m)) (ha1:ev (lk tsl) x1 = some (mQ x)) (hmc:MC Tryz.prog 271 [sl bG m,mQ x] [] 0 (fun _:Unit => True) (fun _ => .tup [.own 1 0 m.length 4,iv 0]) (fun _ => [(1,some (flat eI (cZ m j (.own 3 0 r.length 2)))),(3,some (flat b8 r))])) (hM:Nat.ble (nidl + 4) aQ = true) (hN:Nat.blt d N = true){md':Md}[hmd:MdA md (fR [x0,x1] ++ []) (List.map Sum.inr (List.map Prod.fst ([((nidl + 1),some (flat eI (cZ m j (.own (nidl + 3) 0 r.length 2)))),((nidl + 3),some (flat b8 r))]:List (Nat × Option (List AV)))) ++ [.inl d]) md'] (kk:RW Tryz.prog N all Q md' rest ⟨(d,.tup [.own (nidl + 1) 0 m.length 4,iv 0]) :: tsl,iB hsl [((nidl + 1),some (flat eI (cZ m j (.own (nidl + 3) 0 r.length 2)))),((nidl + 3),some (flat b8 r))],nidl + 4,z0⟩):RW Tryz.prog N all Q md (⟨some d,.call ⟨.value (.func 271),#[x0,x1],tys⟩,ty,pos,af,none⟩ :: rest) ⟨tsl,hsl,nidl,z0⟩:=by
 exact bB (l := [x0,x1]) [] 4 [((nidl + 1),some (flat eI (cZ m j (.own (nidl + 3) 0 r.length 2)))),((nidl + 3),some (flat b8 r))] hmc (avs := [sl bG m,mQ x]) (by simp only [evL,ha0,ha1]) rfl hM hN (md' := md') (hmd := hmd) kk
theorem F2 (m:List Cl) (x:Pt) (j:Nat) (r:List Tg) (hm:OkM m) (hk:bC m x true = 0) (hj:j = x.cell.toNat) (hr:r = gE m[j]!.stk (cA m[j]!.stk x.tag).toNat true):MC Tryz.prog 271 [sl bG m,mQ x] [] 0 (fun _:Unit => True) (fun _ => .tup [.own 1 0 m.length 4,iv 0]) (fun _ => [(1,some (flat eI (cZ m j (.own 3 0 r.length 2)))),(3,some (flat b8 r))]):=by
 subst hj
 have hml := hm.l
 obtain ⟨h1,h2,h3,h4,hu⟩ := dH hk
 have hk0 : bC m x false = 0 := qU h1 h2 h3 h4
 have hs2 : m[x.cell.toNat]!.stk.length ≤ 200 := (((cS m).1 hm).2 x.cell.toNat (by omega)).l.2
 have hpl := j7 m hm x
 rw [if_pos hk0,hk0] at hpl
 have hbd := eG m[x.cell.toNat]!.stk x.tag
 obtain ⟨k,hkk⟩ := Int.eq_ofNat_of_zero_le h4
 have hkt : (cA m[x.cell.toNat]!.stk x.tag).toNat = k := by omega
 rw [hkk] at hpl
 rw [hkt] at hr hu
 have hkn : k < m[x.cell.toNat]!.stk.length := by omega
 have e1 : List.take (((k : Int) + 1).toNat - 0) (List.drop 0 m[x.cell.toNat]!.stk) = r := by rw [List.drop_zero,hr]; unfold gE;rw [if_pos rfl]; congr 1
 have e2 : r.length = k + 1 := by rw [← e1,List.drop_zero,List.length_take]; omega
 have hut := hu rfl
 refine aW Tryz.func271 Tryz.ntmps271 ?_
 repeat' (first|(apply aF;first|(apply eJ;rfl;exact fN m hm;rfl;rfl)|(apply aA (k := 276);rfl;exact hpl;exact Pur.pf;rfl)|(with_reducible apply aV (d := 46)))|refine aE ?_|(refine aJ ?_ ?_ <;> intro hc hq <;> try (exfalso;omega))|refine bJ ?_|fail)
 ·exfalso; have hf : m[x.cell.toNat]!.stk[k]!.uq = false := by assumption
  rw [hut] at hf;exact absurd hf (by decide)
 refine bR ?_
 rw [e1]
 repeat' (first|(apply aF;(apply a7;rfl;rfl;rfl;rfl;rfl;(rw [aI]; simp only [fT] <;> omega);(exact xP (by (omega)))))|refine aE ?_|fail)
 (refine aD rfl ?_; refine aR () trivial ?_ ⟨sE ?_,⟨sE ?_,trivial⟩⟩)
 ·rfl
 ·rw [Nat.zero_add r.length]
 ·rfl
theorem vT {m:List Cl}{x:Pt}{u:Bool}{r:List Tg}(hk:bC m x u = 0) (hr:r = gE m[x.cell.toNat]!.stk (cA m[x.cell.toNat]!.stk x.tag).toNat u):lT m x u = jD m x.cell.toNat r ∧ nA m x u = jE m m x.cell.toNat u r ∧ qV m x u = jC m x.cell.toNat r:=by
 obtain ⟨h1,h2,_⟩ := dH hk
 subst hr
 have e : lT m x u = jD m x.cell.toNat (gE m[x.cell.toNat]!.stk (cA m[x.cell.toNat]!.stk x.tag).toNat u) := by
  unfold lT;rw [if_pos hk]; rfl
 refine ⟨e,?_,?_⟩
 ·unfold nA jE
  rw [e]; unfold jD
  split
  ·rw [if_neg (by decide)]
  ·rw [if_pos rfl]; rfl
 ·unfold qV jC
  rw [e]; unfold jD
  split
  ·rw [if_neg (by decide)]
  ·rw [if_pos rfl,Int.toNat_of_nonneg h1]
theorem F7 {m:List Cl}{x:Pt}{u:Bool}(hk:bC m x u ≠ 0):lT m x u = bC m x u ∧ nA m x u = m ∧ qV m x u = ⟨0,0⟩:=by
 have e : lT m x u = bC m x u := by unfold lT;rw [if_neg hk]
 exact ⟨e,by unfold nA;rw [if_neg (by rw [e]; exact hk)],by unfold qV;rw [if_neg (by rw [e]; exact hk)]⟩
theorem xM (m:List Cl) (hm:OkM m) (x:Pt):PC Tryz.prog 274 [sl bG m,mQ x] (fun r => r = .tup [sl bG (nA m x false),mQ (qV m x false),iv (lT m x false)]):=by
 have hml := hm.l
 by_cases hk : bC m x false = 0
 ·obtain ⟨c, t⟩ := x
  obtain ⟨h1,h2,_⟩ := dH hk
  have h1' : 0 ≤ c := h1
  obtain ⟨j,rfl⟩ := Int.eq_ofNat_of_zero_le h1'
  have h2' : (j : Int) < m.length := h2
  have hc := ((cS m).1 hm).2 j (by omega)
  obtain ⟨r,hr⟩ : ∃ r,r = gE m[j]!.stk (cA m[j]!.stk t).toNat false := ⟨_,rfl⟩
  have hrl : r.length ≤ 200 := by rw [hr]; exact Nat.le_trans tchS_sub.length_le hc.l.2
  obtain ⟨e1,e2,e3⟩ := vT hk hr
  have hpu := zN m m j false r m.length r.length hm rfl rfl (by omega) (by have := hc.n;omega) hrl hml
  rw [e1,e2,e3]
  refine aC Tryz.func274 Tryz.ntmps274 ?_
  repeat' (first|(apply aF;first|(apply Hq (j := j) (r := r) (v := m[j]!.val);rfl;rfl;exact I4 m _ _ r _ hm hk rfl hr rfl;rfl;rfl)|(apply u7 (m := m) (b := m) (j := j) (u := false) (r := r) (n := m.length) (k := r.length);rfl;rfl;rfl;rfl;rfl;rfl;rfl;exact hpu;rfl;rfl))|refine aE ?_|fail)
  exact aD (l := [sl bG (jE m m j false r),.agg [iv (jC m j r).cell,iv (jC m j r).tag],iv (jD m j r)]) rfl ⟨rfl,by exact Pur.pf⟩
 ·obtain ⟨e1, e2, e3⟩ := F7 hk
  have hrd := p9 m hm x
  have e4 : dO m x false = m := by unfold dO;rw [if_neg hk]
  rw [e4] at hrd
  rw [e1,e2,e3]
  refine aC Tryz.func274 Tryz.ntmps274 ?_
  repeat' (first|(apply aF;(apply aA (k := 252);rfl;exact hrd;exact Pur.pf;rfl))|refine aE ?_|(refine aJ ?_ ?_ <;> intro hc hq <;> try (exfalso;omega))|fail)
  skip
  exact aD (l := [sl bG m,.agg [iv 0,iv 0],iv (bC m x false)]) rfl ⟨rfl,by exact Pur.pf⟩
theorem uL (m:List Cl) (hm:OkM m) (x:Pt):PC Tryz.prog 275 [sl bG m,mQ x] (fun r => r = .tup [sl bG (nA m x true),mQ (qV m x true),iv (lT m x true)]):=by
 have hml := hm.l
 by_cases hk : bC m x true = 0
 ·obtain ⟨c, t⟩ := x
  obtain ⟨h1,h2,_⟩ := dH hk
  have h1' : 0 ≤ c := h1
  obtain ⟨j,rfl⟩ := Int.eq_ofNat_of_zero_le h1'
  have h2' : (j : Int) < m.length := h2
  have hc := ((cS m).1 hm).2 j (by omega)
  obtain ⟨r,hr⟩ : ∃ r,r = gE m[j]!.stk (cA m[j]!.stk t).toNat true := ⟨_,rfl⟩
  have hrl : r.length ≤ 200 := by rw [hr]; exact Nat.le_trans tchS_sub.length_le hc.l.2
  obtain ⟨e1,e2,e3⟩ := vT hk hr
  have hpu := zN m m j true r m.length r.length hm rfl rfl (by omega) (by have := hc.n;omega) hrl hml
  rw [e1,e2,e3]
  refine aC Tryz.func275 Tryz.ntmps275 ?_
  repeat' (first|(apply aF;first|(apply DI (j := j) (r := r);rfl;rfl;exact F2 m _ _ r hm hk rfl hr;rfl;rfl)|(apply u7 (m := m) (b := m) (j := j) (u := true) (r := r) (n := m.length) (k := r.length);rfl;rfl;rfl;rfl;rfl;rfl;rfl;exact hpu;rfl;rfl))|refine aE ?_|fail)
  exact aD (l := [sl bG (jE m m j true r),.agg [iv (jC m j r).cell,iv (jC m j r).tag],iv (jD m j r)]) rfl ⟨rfl,by exact Pur.pf⟩
 ·obtain ⟨e1, e2, e3⟩ := F7 hk
  have hwr := iP m x hm
  have e4 : dO m x true = m := by unfold dO;rw [if_neg hk]
  rw [e1,e2,e3]
  refine aC Tryz.func275 Tryz.ntmps275 ?_
  repeat' (first|(apply aF;(apply gW;rfl;rfl;exact hwr;rfl;rfl))|refine aE ?_|(refine aJ ?_ ?_ <;> intro hc hq <;> try (exfalso;omega))|fail)
  refine aT (Le.frzD (d := 4) (i := 3) (m := m.length) (cs := flat bG (dO m x true)) rfl rfl) ?_
  rw [e4]
  exact aD (l := [sl bG m,.agg [iv 0,iv 0],iv (bC m x true)]) rfl ⟨rfl,by exact Pur.pf⟩
abbrev fL (s : Mc) : AV := .agg [sl c6 s.slots,sl bG s.cells,sl cI s.read]
theorem vW {xs:List Sl}{k:Nat}{a:Bool}{b c d:Int}(hk:k < xs.length):gQ (flat c6 xs) (0 + k * 4) [bv a,iv b,iv c,iv d] = flat c6 (xs.set k ⟨a,b,⟨c,d⟩⟩) := fD hk rfl
theorem pY (s:Mc) (v:Nat) (hv:v < s.slots.length) (hl:s.slots.length ≤ 1048576):PC Tryz.prog 247 [fL s,iv (v:Int)] (fun r => r = fL ⟨s.slots.set v mA,s.cells,s.read⟩):=by
 refine aC Tryz.func247 Tryz.ntmps247 ?_
 repeat' (first|(apply aF;(apply a7;rfl;rfl;rfl;rfl;rfl;(case hl => (first|(rw [aI]; simp only [fT] <;> omega)|(simp;done)));(exact vW (by (assumption)))))|refine aE ?_|fail)
 refine aT (Le.frzC (j := 1) (i := 3) [] rfl rfl (by decide)) ?_
 have e : AV.imm (0 + s.slots.length) (flat c6 (s.slots.set v mA)) = sl c6 (s.slots.set v mA) := eF (by rw [List.length_set,Nat.zero_add])
 refine aD (l := [.agg [.imm (0 + s.slots.length) (flat c6 (s.slots.set v mA)),sl bG s.cells,sl cI s.read]]) rfl ?_
 rw [e]
 exact ⟨rfl,by exact Pur.pf⟩
theorem Ge (k:Int):(if nV k = -1 then (0:Int) else nV k) = if k = 1 then 3 else if k = 0 then 0 else 4:=by
 unfold nV eZ
 by_cases h : k = 0
 ·subst h;rfl
 ·rw [if_neg h, if_neg h]
  by_cases h1 : k = 1
  ·rw [if_pos h1]; rfl
  ·rw [if_neg h1]; rfl
theorem kJ (ts:List Int) (s:Mc) (v:Nat) (y:Sl) (hm:OkM s.cells) (hv:v < s.slots.length) (hvt:v < ts.length) (hl:s.slots.length ≤ 1048576):PC Tryz.prog 248 [sl cI ts,fL s,iv (v:Int),GG y] (fun r => r = .tup [fL (bV ts s v y).1,iv (if (bV ts s v y).2 = -1 then 0 else (bV ts s v y).2)]):=by
 have hfc := k6 s.cells hm s.slots[v]!.ptr
 refine aC Tryz.func248 Tryz.ntmps248 ?_
 repeat' (first|(apply aF;first|(apply aA (k := 245);rfl;exact hfc;exact Pur.pf;rfl)|(apply a7;rfl;rfl;rfl;rfl;rfl;(case hl => (first|(rw [aI]; simp only [fT] <;> omega)|(simp;done)));(exact vW (by (assumption))))|(apply aA (k := 246);rfl;(apply jW);(rfl);rfl))|refine aE ?_|(refine aJ ?_ ?_ <;> intro hc hq <;> try (exfalso;omega))|(refine bS ?_ ?_ <;> intro hg hq <;> try (exfalso;omega))|refine bJ ?_|fail)
 all_goals (
  refine aT (Le.frzC (j := 2) (i := 4) [] rfl rfl (by decide)) ?_
  have e : AV.imm (0 + s.slots.length) (flat c6 (s.slots.set v y)) = sl c6 (s.slots.set v y) := eF (by rw [List.length_set,Nat.zero_add]))
 ·have hp : bV ts s v y = (⟨s.slots.set v y, kZ s.cells s.slots[v]!.ptr, s.read⟩, nV (bC s.cells s.slots[v]!.ptr true)) := if_pos ⟨by assumption, by assumption⟩
  refine aD (l := [.agg [.imm (0 + s.slots.length) (flat c6 (s.slots.set v y)),sl bG (kZ s.cells s.slots[v]!.ptr),sl cI s.read],iv (if bC s.cells s.slots[v]!.ptr true = 1 then 3 else if bC s.cells s.slots[v]!.ptr true = 0 then 0 else 4)]) rfl ?_
  rw [e,hp]
  dsimp only
  rw [Ge]
  exact ⟨rfl,by exact Pur.pf⟩
 all_goals (
  have hp : bV ts s v y = (⟨s.slots.set v y, s.cells, s.read⟩, -1) := if_neg (by
   rintro ⟨q1,q2⟩
   first|(exact (by assumption : ¬ ts[v]! = 2) q1)|(rw [(by assumption : s.slots[v]!.set = false)] at q2;exact absurd q2 (by decide)))
  refine aD (l := [.agg [.imm (0 + s.slots.length) (flat c6 (s.slots.set v y)),sl bG s.cells,sl cI s.read],iv 0]) rfl ?_
  rw [e,hp]
  exact ⟨rfl,by exact Pur.pf⟩)
def gk (e : Int) : Int := if e = -1 then 0 else e
theorem Kj {t:Int}(h:t = 2 ∨ t = 4):yS t = true:=by
 unfold yS;rcases h with h|h <;> subst h <;> rfl
theorem M6 {t:Int}(h:¬ t = 2) (h2:¬ t = 4):¬ yS t = true:=by
 unfold yS;rw [decide_eq_false h,decide_eq_false h2]; decide
theorem wU {k:Int}(h:¬ k = 0):(if k = 1 then (3:Int) else if k = 0 then 0 else 4) = eZ k:=by
 unfold eZ;rw [if_neg h]
theorem J7 {m:List Cl}{x:Pt}{u:Bool}(h:¬ lT m x u = 0):nA m x u = m := by unfold nA;rw [if_neg h]
theorem Hx (ts:List Int) (s:Mc) (x:Pnt) (hm:OkM s.cells) (hsl:s.slots.length = ts.length) (hx:0 ≤ x.x ∧ x.x < ts.length) (hy:0 ≤ x.y ∧ x.y < ts.length) (hl:ts.length ≤ 1048576):PC Tryz.prog 250 [sl cI ts,fL s,dJ x] (fun r => r = .tup [fL (bV ts (if yS ts[x.y.toNat]! = true then ⟨s.slots.set x.y.toNat mA,s.cells,s.read⟩ else s) x.x.toNat s.slots[x.y.toNat]!).1,iv (gk (bV ts (if yS ts[x.y.toNat]! = true then ⟨s.slots.set x.y.toNat mA,s.cells,s.read⟩ else s) x.x.toNat s.slots[x.y.toNat]!).2)]):=by
 have hcl := pY s x.y.toNat (by omega) (by omega)
 have hp1 := kJ ts ⟨s.slots.set x.y.toNat mA,s.cells,s.read⟩ x.x.toNat s.slots[x.y.toNat]! hm (by show _ < (s.slots.set x.y.toNat mA).length;rw [List.length_set]; omega) (by omega) (by show (s.slots.set x.y.toNat mA).length ≤ _; rw [List.length_set]; omega)
 have hp2 := kJ ts s x.x.toNat s.slots[x.y.toNat]! hm (by omega) (by omega) (by omega)
 rw [Int.toNat_of_nonneg hy.1] at hcl
 rw [Int.toNat_of_nonneg hx.1] at hp1 hp2
 refine aC Tryz.func250 Tryz.ntmps250 ?_
 repeat' (first|(apply aF;first|(apply aA (k := 247);rfl;exact hcl;exact Pur.pf;rfl)|(apply aA (k := 248);rfl;(first|exact hp1|exact hp2);exact Pur.pf;rfl))|refine aE ?_|(refine aJ ?_ ?_ <;> intro hc hq <;> try (exfalso;omega))|(refine bS ?_ ?_ <;> intro hg hq <;> try (exfalso;omega))|fail)
 ·refine aD (l := [fL (bV ts ⟨s.slots.set x.y.toNat mA, s.cells, s.read⟩ x.x.toNat s.slots[x.y.toNat]!).1, iv (gk (bV ts ⟨s.slots.set x.y.toNat mA, s.cells, s.read⟩ x.x.toNat s.slots[x.y.toNat]!).2)]) rfl ⟨?_, by exact Pur.pf⟩
  rw [if_pos (Kj (.inr (by assumption)))]; rfl
 ·refine aD (l := [fL (bV ts s x.x.toNat s.slots[x.y.toNat]!).1, iv (gk (bV ts s x.x.toNat s.slots[x.y.toNat]!).2)]) rfl ⟨?_, by exact Pur.pf⟩
  rw [if_neg (M6 (by assumption) (by assumption))]; rfl
 ·refine aD (l := [fL (bV ts ⟨s.slots.set x.y.toNat mA, s.cells, s.read⟩ x.x.toNat s.slots[x.y.toNat]!).1, iv (gk (bV ts ⟨s.slots.set x.y.toNat mA, s.cells, s.read⟩ x.x.toNat s.slots[x.y.toNat]!).2)]) rfl ⟨?_, by exact Pur.pf⟩
  rw [if_pos (Kj (.inl (by assumption)))]; rfl
theorem Gy (ts:List Int) (s:Mc) (x:Pnt) (u:Bool) (hu:u = decide (x.op = 5)) (hm:OkM s.cells) (hsl:s.slots.length = ts.length) (hx:0 ≤ x.x ∧ x.x < ts.length) (hy:0 ≤ x.y ∧ x.y < ts.length) (hl:ts.length ≤ 1048576):PC Tryz.prog 251 [sl cI ts,fL s,dJ x] (fun r => r = if lT s.cells s.slots[x.y.toNat]!.ptr u = 0 then
  .tup [fL (bV ts ⟨s.slots,nA s.cells s.slots[x.y.toNat]!.ptr u,s.read⟩ x.x.toNat ⟨true,0,qV s.cells s.slots[x.y.toNat]!.ptr u⟩).1,iv (gk (bV ts ⟨s.slots,nA s.cells s.slots[x.y.toNat]!.ptr u,s.read⟩ x.x.toNat ⟨true,0,qV s.cells s.slots[x.y.toNat]!.ptr u⟩).2)]
  else .tup [fL s,iv (eZ (lT s.cells s.slots[x.y.toNat]!.ptr u))]) := by
 have hsh := xM s.cells hm s.slots[x.y.toNat]!.ptr
 have hbo := uL s.cells hm s.slots[x.y.toNat]!.ptr
 have hp1 := kJ ts ⟨s.slots,nA s.cells s.slots[x.y.toNat]!.ptr false,s.read⟩ x.x.toNat ⟨true,0,qV s.cells s.slots[x.y.toNat]!.ptr false⟩ (hm.ln _ _) (by show _ < s.slots.length;omega) (by omega) (by show s.slots.length ≤ _; omega)
 have hp2 := kJ ts ⟨s.slots,nA s.cells s.slots[x.y.toNat]!.ptr true,s.read⟩ x.x.toNat ⟨true,0,qV s.cells s.slots[x.y.toNat]!.ptr true⟩ (hm.ln _ _) (by show _ < s.slots.length;omega) (by omega) (by show s.slots.length ≤ _; omega)
 rw [Int.toNat_of_nonneg hx.1] at hp1 hp2
 refine aC Tryz.func251 Tryz.ntmps251 ?_
 repeat' (first|(apply aF;first|(apply aA (k := 274);rfl;exact hsh;exact Pur.pf;rfl)|(apply aA (k := 275);rfl;exact hbo;exact Pur.pf;rfl)|(apply aA (k := 248) (avs := [sl cI ts,fL ⟨s.slots,nA s.cells s.slots[x.y.toNat]!.ptr false,s.read⟩,iv x.x,GG ⟨true,0,qV s.cells s.slots[x.y.toNat]!.ptr false⟩]);rfl;exact hp1;exact Pur.pf;rfl)|(apply aA (k := 248) (avs := [sl cI ts,fL ⟨s.slots,nA s.cells s.slots[x.y.toNat]!.ptr true,s.read⟩,iv x.x,GG ⟨true,0,qV s.cells s.slots[x.y.toNat]!.ptr true⟩]);rfl;exact hp2;exact Pur.pf;rfl)|(apply aA (k := 246);rfl;(apply jW);(rfl);rfl))|refine aE ?_|(refine aJ ?_ ?_ <;> intro hc hq <;> try (exfalso;omega))|refine bJ ?_|fail)
 ·have hk : ¬ lT s.cells s.slots[x.y.toNat]!.ptr true = 0 := by assumption
  have hu2 : u = true := by rw [hu]; exact decide_eq_true (by assumption)
  subst hu2
  refine aD (l := [.agg [sl c6 s.slots,sl bG (nA s.cells s.slots[x.y.toNat]!.ptr true),sl cI s.read],iv (if lT s.cells s.slots[x.y.toNat]!.ptr true = 1 then 3 else if lT s.cells s.slots[x.y.toNat]!.ptr true = 0 then 0 else 4)]) rfl ?_
  rw [wU hk,if_neg hk,J7 hk]
  exact ⟨rfl,by exact Pur.pf⟩
 ·have hk : lT s.cells s.slots[x.y.toNat]!.ptr true = 0 := by assumption
  have hu2 : u = true := by rw [hu]; exact decide_eq_true (by assumption)
  subst hu2
  refine aD (l := [fL (bV ts ⟨s.slots,nA s.cells s.slots[x.y.toNat]!.ptr true,s.read⟩ x.x.toNat ⟨true,0,qV s.cells s.slots[x.y.toNat]!.ptr true⟩).1,iv (gk (bV ts ⟨s.slots,nA s.cells s.slots[x.y.toNat]!.ptr true,s.read⟩ x.x.toNat ⟨true,0,qV s.cells s.slots[x.y.toNat]!.ptr true⟩).2)]) rfl ⟨?_,by exact Pur.pf⟩
  rw [if_pos hk]; rfl
 ·have hk : ¬ lT s.cells s.slots[x.y.toNat]!.ptr false = 0 := by assumption
  have hu2 : u = false := by rw [hu]; exact decide_eq_false (by assumption)
  subst hu2
  refine aD (l := [.agg [sl c6 s.slots,sl bG (nA s.cells s.slots[x.y.toNat]!.ptr false),sl cI s.read],iv (if lT s.cells s.slots[x.y.toNat]!.ptr false = 1 then 3 else if lT s.cells s.slots[x.y.toNat]!.ptr false = 0 then 0 else 4)]) rfl ?_
  rw [wU hk,if_neg hk,J7 hk]
  exact ⟨rfl,by exact Pur.pf⟩
 ·have hk : lT s.cells s.slots[x.y.toNat]!.ptr false = 0 := by assumption
  have hu2 : u = false := by rw [hu]; exact decide_eq_false (by assumption)
  subst hu2
  refine aD (l := [fL (bV ts ⟨s.slots,nA s.cells s.slots[x.y.toNat]!.ptr false,s.read⟩ x.x.toNat ⟨true,0,qV s.cells s.slots[x.y.toNat]!.ptr false⟩).1,iv (gk (bV ts ⟨s.slots,nA s.cells s.slots[x.y.toNat]!.ptr false,s.read⟩ x.x.toNat ⟨true,0,qV s.cells s.slots[x.y.toNat]!.ptr false⟩).2)]) rfl ⟨?_,by exact Pur.pf⟩
  rw [if_pos hk]; rfl
theorem LP (ts:List Int) (s:Mc) (x:Pnt) (ho:x.op = 1) (hm:OkM s.cells) (hsl:s.slots.length = ts.length) (hx:0 ≤ x.x ∧ x.x < ts.length) (hl:ts.length ≤ 1048576):PC Tryz.prog 215 [sl cI ts,fL s,dJ x] (fun r => r = .tup [fL (dE ts s x).1,iv (gk (dE ts s x).2)]):=by
 have hp := kJ ts s x.x.toNat ⟨true,x.n,⟨0,0⟩⟩ hm (by omega) (by omega) (by omega)
 rw [Int.toNat_of_nonneg hx.1] at hp
 have hd : dE ts s x = bV ts s x.x.toNat ⟨true,x.n,⟨0,0⟩⟩ := by unfold dE;rw [if_pos ho]
 rw [hd]
 refine aC Tryz.func215 Tryz.ntmps215 ?_
 repeat' (first|(apply aF;(apply aA (k := 248) (avs := [sl cI ts,fL s,iv x.x,GG ⟨true,x.n,⟨0,0⟩⟩]);rfl;exact hp;exact Pur.pf;rfl))|refine aE ?_|(refine aJ ?_ ?_ <;> intro hc hq <;> try (exfalso;omega))|fail)
 exact aD (l := [fL (bV ts s x.x.toNat ⟨true,x.n,⟨0,0⟩⟩).1,iv (gk (bV ts s x.x.toNat ⟨true,x.n,⟨0,0⟩⟩).2)]) rfl ⟨rfl,by exact Pur.pf⟩
theorem LK (ts:List Int) (s:Mc) (x:Pnt) (ho:x.op = 2) (hm:OkM s.cells) (hsl:s.slots.length = ts.length) (hx:0 ≤ x.x ∧ x.x < ts.length) (hn:0 ≤ x.n ∧ x.n ≤ 9) (hl:ts.length ≤ 1048576):PC Tryz.prog 215 [sl cI ts,fL s,dJ x] (fun r => r = .tup [fL (dE ts s x).1,iv (gk (dE ts s x).2)]):=by
 have hml := hm.l
 have hnc := Bt s.cells hm x.n
 by_cases h2 : s.cells.length = 200
 ·rw [if_neg (by omega)] at hnc
  have hd : dE ts s x = (s,1) := by unfold dE;rw [if_neg (by omega),if_pos ho,if_pos h2]
  rw [hd]
  refine aC Tryz.func215 Tryz.ntmps215 ?_
  repeat' (first|(apply aF;(apply aA (k := 249);rfl;exact hnc;exact Pur.pf;rfl))|refine aE ?_|(refine aJ ?_ ?_ <;> intro hc hq <;> try (exfalso;omega))|fail)
  exact aD (l := [fL s,iv 1]) rfl ⟨rfl,by exact Pur.pf⟩
 ·rw [if_pos (by omega)] at hnc
  have hp := kJ ts ⟨s.slots,s.cells ++ [uP x.n],s.read⟩ x.x.toNat ⟨true,0,⟨s.cells.length,0⟩⟩ (hm.nw hn (by omega)) (by show _ < s.slots.length;omega) (by omega) (by show s.slots.length ≤ _; omega)
  rw [Int.toNat_of_nonneg hx.1] at hp
  have hd : dE ts s x = bV ts ⟨s.slots,s.cells ++ [uP x.n],s.read⟩ x.x.toNat ⟨true,0,⟨s.cells.length,0⟩⟩ := by unfold dE;rw [if_neg (by omega),if_pos ho,if_neg h2]
  rw [hd]
  refine aC Tryz.func215 Tryz.ntmps215 ?_
  repeat' (first|(apply aF;first|(apply aA (k := 249);rfl;exact hnc;exact Pur.pf;rfl)|(apply aA (k := 248) (avs := [sl cI ts,fL ⟨s.slots,s.cells ++ [uP x.n],s.read⟩,iv x.x,GG ⟨true,0,⟨s.cells.length,0⟩⟩]);rfl;exact hp;exact Pur.pf;rfl))|refine aE ?_|(refine aJ ?_ ?_ <;> intro hc hq <;> try (exfalso;omega))|fail)
  exact aD (l := [fL (bV ts ⟨s.slots,s.cells ++ [uP x.n],s.read⟩ x.x.toNat ⟨true,0,⟨s.cells.length,0⟩⟩).1,iv (gk (bV ts ⟨s.slots,s.cells ++ [uP x.n],s.read⟩ x.x.toNat ⟨true,0,⟨s.cells.length,0⟩⟩).2)]) rfl ⟨rfl,by exact Pur.pf⟩
theorem KV (ts:List Int) (s:Mc) (x:Pnt) (ho:x.op = 3) (hm:OkM s.cells) (hsl:s.slots.length = ts.length) (hx:0 ≤ x.x ∧ x.x < ts.length) (hy:0 ≤ x.y ∧ x.y < ts.length) (hl:ts.length ≤ 1048576):PC Tryz.prog 215 [sl cI ts,fL s,dJ x] (fun r => r = .tup [fL (dE ts s x).1,iv (gk (dE ts s x).2)]):=by
 have hmv := Hx ts s x hm hsl hx hy hl
 have hd : dE ts s x = bV ts (if yS ts[x.y.toNat]! = true then ⟨s.slots.set x.y.toNat mA,s.cells,s.read⟩ else s) x.x.toNat s.slots[x.y.toNat]! := by unfold dE;rw [if_neg (by omega),if_neg (by omega),if_pos ho]
 rw [← hd] at hmv
 refine aC Tryz.func215 Tryz.ntmps215 ?_
 repeat' (first|(apply aF;(apply aA (k := 250);rfl;exact hmv;exact Pur.pf;rfl))|refine aE ?_|(refine aJ ?_ ?_ <;> intro hc hq <;> try (exfalso;omega))|fail)
 exact aD (l := [fL (dE ts s x).1,iv (gk (dE ts s x).2)]) rfl ⟨rfl,by exact Pur.pf⟩
theorem Iw (ts:List Int) (s:Mc) (x:Pnt) (ho:x.op = 4 ∨ x.op = 5) (hm:OkM s.cells) (hsl:s.slots.length = ts.length) (hx:0 ≤ x.x ∧ x.x < ts.length) (hy:0 ≤ x.y ∧ x.y < ts.length) (hl:ts.length ≤ 1048576):PC Tryz.prog 215 [sl cI ts,fL s,dJ x] (fun r => r = .tup [fL (dE ts s x).1,iv (gk (dE ts s x).2)]):=by
 have hmk := Gy ts s x (decide (x.op = 5)) rfl hm hsl hx hy hl
 have h0 : dE ts s x = (if lT s.cells s.slots[x.y.toNat]!.ptr (decide (x.op = 5)) = 0 then bV ts ⟨s.slots, nA s.cells s.slots[x.y.toNat]!.ptr (decide (x.op = 5)), s.read⟩ x.x.toNat ⟨true, 0, qV s.cells s.slots[x.y.toNat]!.ptr (decide (x.op = 5))⟩
   else (s,eZ (lT s.cells s.slots[x.y.toNat]!.ptr (decide (x.op = 5))))) := by
  unfold dE;rw [if_neg (show ¬ x.op = 1 by omega),if_neg (show ¬ x.op = 2 by omega),if_neg (show ¬ x.op = 3 by omega),if_pos ho]
 have hd : ∀ r, (r = if lT s.cells s.slots[x.y.toNat]!.ptr (decide (x.op = 5)) = 0 then
   AV.tup [fL (bV ts ⟨s.slots,nA s.cells s.slots[x.y.toNat]!.ptr (decide (x.op = 5)),s.read⟩ x.x.toNat ⟨true,0,qV s.cells s.slots[x.y.toNat]!.ptr (decide (x.op = 5))⟩).1,iv (gk (bV ts ⟨s.slots,nA s.cells s.slots[x.y.toNat]!.ptr (decide (x.op = 5)),s.read⟩ x.x.toNat ⟨true,0,qV s.cells s.slots[x.y.toNat]!.ptr (decide (x.op = 5))⟩).2)]
   else AV.tup [fL s,iv (eZ (lT s.cells s.slots[x.y.toNat]!.ptr (decide (x.op = 5))))]) = (r = AV.tup [fL (dE ts s x).1,iv (gk (dE ts s x).2)]) := by
  intro r
  rw [h0]
  by_cases hk : lT s.cells s.slots[x.y.toNat]!.ptr (decide (x.op = 5)) = 0
  ·rw [if_pos hk,if_pos hk]
  ·rw [if_neg hk, if_neg hk]
   have : ∀ k,gk (eZ k) = eZ k := fun k => by unfold gk eZ;split <;> rfl
   dsimp only
   rw [this]
 simp only [hd] at hmk
 refine aC Tryz.func215 Tryz.ntmps215 ?_
 repeat' (first|(apply aF;(apply aA (k := 251);rfl;exact hmk;exact Pur.pf;rfl))|refine aE ?_|(refine aJ ?_ ?_ <;> intro hc hq <;> try (exfalso;omega))|fail)
 all_goals exact aD (l := [fL (dE ts s x).1,iv (gk (dE ts s x).2)]) rfl ⟨rfl,by exact Pur.pf⟩
theorem L5 (ts:List Int) (s:Mc) (x:Pnt) (ho:x.op = 6) (hm:OkM s.cells) (hsl:s.slots.length = ts.length) (hx:0 ≤ x.x ∧ x.x < ts.length) (hy:0 ≤ x.y ∧ x.y < ts.length) (hl:ts.length ≤ 1048576) (hrl:s.read.length ≤ 1048576):PC Tryz.prog 215 [sl cI ts,fL s,dJ x] (fun r => r = .tup [fL (dE ts s x).1,iv (gk (dE ts s x).2)]):=by
 have hrd := p9 s.cells hm s.slots[x.y.toNat]!.ptr
 have h0 : dE ts s x = (if bC s.cells s.slots[x.y.toNat]!.ptr false = 0 then bV ts ⟨s.slots, dO s.cells s.slots[x.y.toNat]!.ptr false, s.read ++ [nS s.cells s.slots[x.y.toNat]!.ptr]⟩ x.x.toNat ⟨true, nS s.cells s.slots[x.y.toNat]!.ptr, ⟨0, 0⟩⟩
   else (s,eZ (bC s.cells s.slots[x.y.toNat]!.ptr false))) := by
  unfold dE;rw [if_neg (show ¬ x.op = 1 by omega),if_neg (show ¬ x.op = 2 by omega),if_neg (show ¬ x.op = 3 by omega),if_neg (show ¬ (x.op = 4 ∨ x.op = 5) by omega),if_pos ho]
 have hp := kJ ts ⟨s.slots,dO s.cells s.slots[x.y.toNat]!.ptr false,s.read ++ [nS s.cells s.slots[x.y.toNat]!.ptr]⟩ x.x.toNat ⟨true,nS s.cells s.slots[x.y.toNat]!.ptr,⟨0,0⟩⟩ (hm.tch _ _) (by show _ < s.slots.length;omega) (by omega) (by show s.slots.length ≤ _; omega)
 rw [Int.toNat_of_nonneg hx.1] at hp
 by_cases hk : bC s.cells s.slots[x.y.toNat]!.ptr false = 0
 ·rw [if_pos hk] at h0
  rw [h0]
  refine aC Tryz.func215 Tryz.ntmps215 ?_
  repeat' (first|(apply aF;first|(apply aA (k := 252);rfl;exact hrd;exact Pur.pf;rfl)|(with_reducible apply aV (d := 105)))|refine aE ?_|(refine aJ ?_ ?_ <;> intro hc hq <;> try (exfalso;omega))|refine bJ ?_|fail)
  refine bR (cY ?_ (Le.frzC (j := 0) (i := 6) [sl c6 s.slots,sl bG (dO s.cells s.slots[x.y.toNat]!.ptr false)] (m := 0 + s.read.length + 1) (d := flat cI (s.read ++ [nS s.cells s.slots[x.y.toNat]!.ptr])) rfl rfl (by decide)))
  have e : AV.imm (0 + s.read.length + 1) (flat cI (s.read ++ [nS s.cells s.slots[x.y.toNat]!.ptr])) = sl cI (s.read ++ [nS s.cells s.slots[x.y.toNat]!.ptr]) := eF (by rw [Nat.zero_add,List.length_append]; rfl)
  rw [e]
  repeat' (first|(apply aF;(apply aA (k := 248) (avs := [sl cI ts,fL ⟨s.slots,dO s.cells s.slots[x.y.toNat]!.ptr false,s.read ++ [nS s.cells s.slots[x.y.toNat]!.ptr]⟩,iv x.x,GG ⟨true,nS s.cells s.slots[x.y.toNat]!.ptr,⟨0,0⟩⟩]);rfl;exact hp;exact Pur.pf;rfl))|refine aE ?_|fail)
  exact aD (l := [fL (bV ts ⟨s.slots,dO s.cells s.slots[x.y.toNat]!.ptr false,s.read ++ [nS s.cells s.slots[x.y.toNat]!.ptr]⟩ x.x.toNat ⟨true,nS s.cells s.slots[x.y.toNat]!.ptr,⟨0,0⟩⟩).1,iv (gk (bV ts ⟨s.slots,dO s.cells s.slots[x.y.toNat]!.ptr false,s.read ++ [nS s.cells s.slots[x.y.toNat]!.ptr]⟩ x.x.toNat ⟨true,nS s.cells s.slots[x.y.toNat]!.ptr,⟨0,0⟩⟩).2)]) rfl ⟨rfl,by exact Pur.pf⟩
 ·rw [if_neg hk] at h0
  rw [h0]
  have e4 : dO s.cells s.slots[x.y.toNat]!.ptr false = s.cells := by unfold dO;rw [if_neg hk]
  rw [e4] at hrd
  refine aC Tryz.func215 Tryz.ntmps215 ?_
  repeat' (first|(apply aF;first|(apply aA (k := 252);rfl;exact hrd;exact Pur.pf;rfl)|(apply aA (k := 246);rfl;(apply jW);(rfl);rfl))|refine aE ?_|(refine aJ ?_ ?_ <;> intro hc hq <;> try (exfalso;omega))|refine bJ ?_|fail)
  refine aD (l := [fL s,iv (if bC s.cells s.slots[x.y.toNat]!.ptr false = 1 then 3 else if bC s.cells s.slots[x.y.toNat]!.ptr false = 0 then 0 else 4)]) rfl ?_
  rw [wU hk]
  have : ∀ k,gk (eZ k) = eZ k := fun k => by unfold gk eZ;split <;> rfl
  dsimp only
  rw [this]
  exact ⟨rfl,by exact Pur.pf⟩
theorem LY (ts:List Int) (s:Mc) (x:Pnt) (ho:x.op = 7) (hm:OkM s.cells) (hsl:s.slots.length = ts.length) (hx:0 ≤ x.x ∧ x.x < ts.length) (hy:0 ≤ x.y ∧ x.y < ts.length) (hl:ts.length ≤ 1048576):PC Tryz.prog 215 [sl cI ts,fL s,dJ x] (fun r => r = .tup [fL (dE ts s x).1,iv (gk (dE ts s x).2)]):=by
 have hwr := xE s.cells hm s.slots[x.x.toNat]!.ptr s.slots[x.y.toNat]!.num
 have h0 : dE ts s x = (⟨s.slots, Az s.cells s.slots[x.x.toNat]!.ptr s.slots[x.y.toNat]!.num, s.read⟩, nV (uZ s.cells s.slots[x.x.toNat]!.ptr s.slots[x.y.toNat]!.num)) := by
  unfold dE;rw [if_neg (show ¬ x.op = 1 by omega),if_neg (show ¬ x.op = 2 by omega),if_neg (show ¬ x.op = 3 by omega),if_neg (show ¬ (x.op = 4 ∨ x.op = 5) by omega),if_neg (show ¬ x.op = 6 by omega),if_pos ho]
 rw [h0]
 refine aC Tryz.func215 Tryz.ntmps215 ?_
 repeat' (first|(apply aF;first|(apply aA (k := 253);rfl;exact hwr;exact Pur.pf;rfl)|(apply aA (k := 246);rfl;(apply jW);(rfl);rfl))|refine aE ?_|(refine aJ ?_ ?_ <;> intro hc hq <;> try (exfalso;omega))|refine bJ ?_|fail)
 refine aD (l := [fL ⟨s.slots,Az s.cells s.slots[x.x.toNat]!.ptr s.slots[x.y.toNat]!.num,s.read⟩,iv (if uZ s.cells s.slots[x.x.toNat]!.ptr s.slots[x.y.toNat]!.num = 1 then 3 else if uZ s.cells s.slots[x.x.toNat]!.ptr s.slots[x.y.toNat]!.num = 0 then 0 else 4)]) rfl ?_
 rw [← Ge]
 exact ⟨rfl,by exact Pur.pf⟩
theorem Lj (ts:List Int) (s:Mc) (x:Pnt) (ho:x.op = 8) (hm:OkM s.cells) (hsl:s.slots.length = ts.length) (hx:0 ≤ x.x ∧ x.x < ts.length) (hl:ts.length ≤ 1048576):PC Tryz.prog 215 [sl cI ts,fL s,dJ x] (fun r => r = .tup [fL (dE ts s x).1,iv (gk (dE ts s x).2)]):=by
 have hfr := k6 s.cells hm s.slots[x.x.toNat]!.ptr
 have hcl := pY ⟨s.slots,kZ s.cells s.slots[x.x.toNat]!.ptr,s.read⟩ x.x.toNat (by show _ < s.slots.length;omega) (by show s.slots.length ≤ _; omega)
 rw [Int.toNat_of_nonneg hx.1] at hcl
 have h0 : dE ts s x = (⟨s.slots.set x.x.toNat mA, kZ s.cells s.slots[x.x.toNat]!.ptr, s.read⟩, nV (bC s.cells s.slots[x.x.toNat]!.ptr true)) := by
  unfold dE;rw [if_neg (show ¬ x.op = 1 by omega),if_neg (show ¬ x.op = 2 by omega),if_neg (show ¬ x.op = 3 by omega),if_neg (show ¬ (x.op = 4 ∨ x.op = 5) by omega),if_neg (show ¬ x.op = 6 by omega),if_neg (show ¬ x.op = 7 by omega),if_pos ho]
 rw [h0]
 refine aC Tryz.func215 Tryz.ntmps215 ?_
 repeat' (first|(apply aF;first|(apply aA (k := 245);rfl;exact hfr;exact Pur.pf;rfl)|(apply aA (k := 247);rfl;exact hcl;exact Pur.pf;rfl)|(apply aA (k := 246);rfl;(apply jW);(rfl);rfl))|refine aE ?_|(refine aJ ?_ ?_ <;> intro hc hq <;> try (exfalso;omega))|refine bJ ?_|fail)
 refine aD (l := [fL ⟨s.slots.set x.x.toNat mA,kZ s.cells s.slots[x.x.toNat]!.ptr,s.read⟩,iv (if bC s.cells s.slots[x.x.toNat]!.ptr true = 1 then 3 else if bC s.cells s.slots[x.x.toNat]!.ptr true = 0 then 0 else 4)]) rfl ?_
 rw [← Ge]
 exact ⟨rfl,by exact Pur.pf⟩
def KM (s : Mc) (x : Pnt) : Bool :=
 if x.op = 3 ∨ x.op = 4 ∨ x.op = 5 ∨ x.op = 6 then !s.slots[x.y.toNat]!.set
 else if x.op = 7 then !s.slots[x.x.toNat]!.set || !s.slots[x.y.toNat]!.set
 else if x.op = 8 then !s.slots[x.x.toNat]!.set else false
theorem DS (s:Mc) (x:Pnt) (hx:(x.op = 7 ∨ x.op = 8) → 0 ≤ x.x ∧ x.x < s.slots.length) (hy:(x.op = 3 ∨ x.op = 4 ∨ x.op = 5 ∨ x.op = 6 ∨ x.op = 7) → 0 ≤ x.y ∧ x.y < s.slots.length):PC Tryz.prog 214 [dJ x,fL s] (fun r => r = bv (KM s x)):=by
 refine aC Tryz.func214 Tryz.ntmps214 ?_
 repeat' (first|refine aE ?_|(refine aJ ?_ ?_ <;> intro hc hq <;> try (exfalso;omega))|(refine bS ?_ ?_ <;> intro hg hq <;> try (exfalso;omega))|fail)
 all_goals (refine aD rfl ⟨?_,rfl⟩; simp only [aM,AV.v.injEq,Value.bool.injEq]; unfold KM;grind)
theorem w5 {ts:List Int}{n v:Nat}{q:Mc}(h:¬ (ts[v]! = 2 ∧ q.slots[v]!.set = true)):cQ ts (n + 1) v q = cQ ts n (v + 1) q:=by
 rw [cQ,if_neg h]
theorem Fu {ts:List Int}{n v:Nat}{q:Mc}(h:ts[v]! = 2 ∧ q.slots[v]!.set = true) (hk:bC q.cells q.slots[v]!.ptr true = 0):cQ ts (n + 1) v q = cQ ts n (v + 1) ⟨q.slots.set v mA,kZ q.cells q.slots[v]!.ptr,q.read⟩:=by
 rw [cQ,if_pos h,if_pos hk]
theorem HV {ts:List Int}{n v:Nat}{q:Mc}(h:ts[v]! = 2 ∧ q.slots[v]!.set = true) (hk:¬ bC q.cells q.slots[v]!.ptr true = 0):cQ ts (n + 1) v q = (⟨q.slots,kZ q.cells q.slots[v]!.ptr,q.read⟩,eZ (bC q.cells q.slots[v]!.ptr true)):=by
 rw [cQ,if_pos h,if_neg hk]
theorem IF (ts:List Int) (s:Mc) (hm:OkM s.cells) (hsl:s.slots.length = ts.length) (hl:ts.length ≤ 1048576):PC Tryz.prog 213 [sl cI ts,fL s] (fun r => r = .tup [fL (cQ ts ts.length 0 s).1,iv (cQ ts ts.length 0 s).2]):=by
 refine aC Tryz.func213 Tryz.ntmps213 ?_
 repeat' (first|refine aE ?_|fail)
 refine aH (σ := Nat × Mc) [0,3,4] [1] (fun k => [(6,iv (k.1 : Int))]) (fun k => [(0,some [sl c6 k.2.slots,sl bG k.2.cells,sl cI k.2.read])]) (fun k => k.1 ≤ ts.length ∧ cQ ts (ts.length - k.1) k.1 k.2 = cQ ts ts.length 0 s ∧ OkM k.2.cells ∧ k.2.slots.length = ts.length) (fun k => ts.length - k.1) (0,s) ⟨Nat.zero_le _,rfl,hm,hsl⟩ ?_
 rintro ⟨v,q⟩ ⟨hv,hf,hmq,hlq⟩
 dsimp only at hv hf hmq hlq ⊢
 have hfr := k6 q.cells hmq q.slots[v]!.ptr
 have hcl := fun h => pY ⟨q.slots,kZ q.cells q.slots[v]!.ptr,q.read⟩ v h (by show q.slots.length ≤ _; omega)
 repeat' (first|(apply aF;first|(apply aA (k := 245);rfl;exact hfr;exact Pur.pf;rfl)|(apply aA (k := 247);rfl;(exact hcl (by show v < q.slots.length;omega));exact Pur.pf;rfl)|(apply aA (k := 246);rfl;(apply jW);(rfl);rfl))|refine aE ?_|(refine aJ ?_ ?_ <;> intro hc hq <;> try (exfalso;omega))|(refine bS ?_ ?_ <;> intro hg hq <;> try (exfalso;omega))|refine bJ ?_|fail)
 ·(refine bD (v + 1, q) (Le.renA [(0, 0), (1, 1)]) ?_ ?_)
  ·refine ⟨by omega, ?_, hmq, hlq⟩
   dsimp only
   rw [← hf, show ts.length - v = (ts.length - (v + 1)) + 1 by omega, w5 (fun h => by
    have h2 : q.slots[v]!.set = false := by assumption
    rw [h2] at h;exact absurd h.2 (by decide))]
  ·dsimp only;omega
 ·have hk : ¬ bC q.cells q.slots[v]!.ptr true = 0 := by assumption
  have hq2 : cQ ts ts.length 0 s = (⟨q.slots, kZ q.cells q.slots[v]!.ptr, q.read⟩, eZ (bC q.cells q.slots[v]!.ptr true)) := by
   rw [← hf,show ts.length - v = (ts.length - (v + 1)) + 1 by omega,HV ⟨by assumption,by assumption⟩ hk]
  rw [hq2]
  refine aD (l := [fL ⟨q.slots,kZ q.cells q.slots[v]!.ptr,q.read⟩,iv (if bC q.cells q.slots[v]!.ptr true = 1 then 3 else if bC q.cells q.slots[v]!.ptr true = 0 then 0 else 4)]) rfl ?_
  rw [wU hk]
  exact ⟨rfl,by exact Pur.pf⟩
 ·(refine bD (v + 1, ⟨q.slots.set v mA, kZ q.cells q.slots[v]!.ptr, q.read⟩) (Le.renA [(0, 0), (1, 1)]) ?_ ?_)
  ·refine ⟨by omega, ?_, hmq.fr _, by show (q.slots.set v mA).length = _; rw [List.length_set]; exact hlq⟩
   dsimp only
   rw [← hf,show ts.length - v = (ts.length - (v + 1)) + 1 by omega,Fu ⟨by assumption,by assumption⟩ (by assumption)]
  ·dsimp only;omega
 ·(refine bD (v + 1, q) (Le.renA [(0, 0), (1, 1)]) ?_ ?_)
  ·refine ⟨by omega, ?_, hmq, hlq⟩
   dsimp only
   rw [← hf, show ts.length - v = (ts.length - (v + 1)) + 1 by omega, w5 (fun h => by
    have h2 : ¬ ts[v]! = 2 := by assumption
    exact h2 h.1)]
  ·dsimp only;omega
 ·have hve : v = ts.length := by omega
  have hq2 : cQ ts ts.length 0 s = (q,0) := by rw [← hf,hve,Nat.sub_self]; rfl
  rw [hq2]
  exact aD (l := [fL q,iv 0]) rfl ⟨rfl,by exact Pur.pf⟩
theorem yN (p:Prg) (hl:p.types.length ≤ 1048576) (hs:aU p.body ≤ 1048576):PC Tryz.prog 151 [bY p] (fun r => r = sl cC (if bI p = true then aB p else [])):=by
 have hval := fW p hl (by omega)
 have h2 := dB p hs
 refine aC Tryz.func151 Tryz.ntmps151 ?_
 repeat' (first|(apply aF;first|(apply aA (k := 61);rfl;exact hval;exact Pur.pf;rfl)|(apply aA (k := 132);rfl;exact h2;exact Pur.pf;rfl)|(apply aL (t := _);rfl;rfl;rfl;(rfl);rfl;rfl))|refine aE ?_|(refine aJ ?_ ?_ <;> intro hc hq <;> try (exfalso;omega))|fail)
 ·refine aD rfl ⟨?_, (by (rfl))⟩
  rw [if_neg (by simp [hq])]; rfl
 ·refine aD rfl ⟨?_, (by (exact a6 _ _))⟩
  rw [if_pos hq]; rfl
def wm (pts : List Pnt) (n a : Nat) (cs : List Int) : List Int × Bool := ((gK pts n a cs).1.map (fun a : Nat => (a : Int)),(gK pts n a cs).2)
theorem FR {pts:List Pnt}{n a:Nat}{cs:List Int}(h:pts[a]!.op = 11):wm pts n a cs = ([(a:Int)],true):=by
 have e : gK pts n a cs = ([a],true) := by cases n <;> (unfold gK;rw [if_pos h])
 unfold wm;rw [e]; rfl
theorem HU {pts:List Pnt}{a:Nat}{cs:List Int}(h:¬ pts[a]!.op = 11):wm pts 0 a cs = ([],false):=by
 have e : gK pts 0 a cs = ([],false) := by unfold gK;rw [if_neg h]
 unfold wm;rw [e]; rfl
theorem MT {pts:List Pnt}{n a:Nat}{cs:List Int}(h:¬ pts[a]!.op = 11):wm pts (n + 1) a cs = ((a:Int) :: (wm pts n (iA pts a cs).1 (iA pts a cs).2).1,(wm pts n (iA pts a cs).1 (iA pts a cs).2).2):=by
 unfold wm;rw [gK,if_neg h]; rfl
theorem Kl {pts:List Pnt}{a:Nat}{cs:List Int}(h:¬ pts[a]!.next.length = 2):iA pts a cs = ((pts[a]!.next[0]!).toNat,cs):=by
 unfold iA;rw [if_neg h]
theorem M7 {pts:List Pnt}{a u:Nat}{cs:List Int}(h:pts[a]!.next.length = 2) (hu:cs.length ≤ u):iA pts a (cs.drop u) = ((pts[a]!.next[1]!).toNat,cs.drop (u + 1)):=by
 unfold iA;rw [if_pos h,List.drop_eq_nil_of_le hu,List.drop_eq_nil_of_le (by omega)]
theorem Kb {pts:List Pnt}{a u:Nat}{cs:List Int}(h:pts[a]!.next.length = 2) (hu:u < cs.length):iA pts a (cs.drop u) = ((pts[a]!.next[if cs[u]!.tmod 2 = 0 then 0 else 1]!).toNat,cs.drop (u + 1)):=by
 have e : (cs[u]! % 2).toNat = if cs[u]!.tmod 2 = 0 then 0 else 1 := by
  by_cases q : cs[u]!.tmod 2 = 0
  ·rw [if_pos q,Int.emod_eq_zero_of_dvd (Int.dvd_of_tmod_eq_zero q)]; rfl
  ·rw [if_neg q]
   have : ¬ cs[u]! % 2 = 0 := fun q2 => q (Int.tmod_eq_zero_of_dvd (Int.dvd_of_emod_eq_zero q2))
   omega
 have e2 : cs.drop u = cs[u]! :: cs.drop (u + 1) := by rw [List.drop_eq_getElem_cons hu,a8 _ _ hu]
 unfold iA
 rw [if_pos h,e2]
 dsimp only
 rw [e]
theorem oK {pts:List Pnt}{n a:Nat}{out cs cs2:List Int}{b:Nat}{q:List Int × Bool}(h:¬ pts[a]!.op = 11) (ho:out.length < n) (hs:iA pts a cs = (b,cs2)) (hq:q = (out ++ (wm pts (n - out.length) a cs).1,(wm pts (n - out.length) a cs).2)) :
  q = ((out ++ [(a : Int)]) ++ (wm pts (n - (out ++ [(a : Int)]).length) b cs2).1,(wm pts (n - (out ++ [(a : Int)]).length) b cs2).2) := by
 rw [hq,show n - out.length = (n - (out.length + 1)) + 1 by omega,MT h,hs,List.length_append,List.append_assoc]
 rfl
theorem BM (p:Prg) (cs:List Int) (n:Nat) (hv:bI p = true) (hl:p.types.length ≤ 1048576) (hs:aU p.body ≤ 1048576) (hn:n ≤ 1000) (hcl:cs.length ≤ 1048576):PC Tryz.prog 212 [bY p,sl cI cs,iv (n:Int)] (fun r => r = .tup [sl cI (wm (aB p) n 0 cs).1,bv (wm (aB p) n 0 cs).2]):=by
 have hpo := yN p hl hs
 rw [if_pos hv] at hpo
 have w := WG.of_valid hv
 have wa := WA.of_valid hv
 obtain ⟨pts,hpts⟩ : ∃ pts,pts = aB p := ⟨_,rfl⟩
 rw [← hpts] at hpo w wa ⊢
 have hpl := w.pl
 have hp0 := w.p0
 refine aC Tryz.func212 Tryz.ntmps212 ?_
 repeat' (first|(apply aF;(apply aA (k := 151);rfl;exact hpo;exact Pur.pf;rfl))|refine aE ?_|(refine aJ ?_ ?_ <;> intro hc hq <;> try (exfalso;omega))|(refine bS ?_ ?_ <;> intro hg hq <;> try (exfalso;omega))|fail)
 refine aH (σ := Int × Nat × List Int × Nat) [1,2,9] [] (fun k => [(10,iv k.1),(11,iv (k.2.1 : Int)),(8,.own 1 0 k.2.2.2 1)]) (fun k => [(1,some (flat cI k.2.2.1))]) (fun k => (0 ≤ k.1 ∧ k.1 < pts.length) ∧ k.2.1 ≤ k.2.2.1.length ∧ k.2.2.1.length ≤ n ∧ k.2.2.2 = k.2.2.1.length ∧ wm pts n 0 cs = (k.2.2.1 ++ (wm pts (n - k.2.2.1.length) k.1.toNat (cs.drop k.2.1)).1,(wm pts (n - k.2.2.1.length) k.1.toNat (cs.drop k.2.1)).2)) (fun k => n + 1 - k.2.2.1.length) (0,0,[],0) ⟨⟨Int.le_refl _,by show (0 : Int) < _; omega⟩,Nat.le_refl _,Nat.zero_le _,rfl,rfl⟩ ?_
 rintro ⟨a,u,out,m⟩ ⟨⟨ha0,ha⟩,hu,ho,hm,hw⟩
 dsimp only at ha0 ha hu ho hm hw ⊢
 have hat : (a.toNat : Int) = a := Int.toNat_of_nonneg ha0
 have hnx := w.nx a.toNat (by omega)
 have hnl := w.nl a.toNat (by omega)
 have hn1 := wa.n a.toNat (by omega)
 have hk : ∀ k,k < pts[a.toNat]!.next.length → 0 ≤ pts[a.toNat]!.next[k]! ∧ pts[a.toNat]!.next[k]! < pts.length := fun k h => hnx _ (aP _ _ h)
 repeat' (first|(apply aF;(apply aL (t := _);rfl;rfl;rfl;exact (rfl:_=some [_]);rfl;rfl))|refine aE ?_|(refine aJ ?_ ?_ <;> intro hc hq <;> try (exfalso;omega))|(refine bS ?_ ?_ <;> intro hg hq <;> try (exfalso;omega))|fail)
 ·have hop : ¬ pts[a.toNat]!.op = 11 := by assumption
  have e : wm pts n 0 cs = (out,false) := by rw [hw,show n - out.length = 0 by omega,HU hop,List.append_nil]
  rw [e]
  (refine aT (Le.frzD (d := 6) (i := 1) rfl rfl) ?_; refine aD rfl ?_)
  refine ⟨?_,(by exact Pur.pf)⟩
  simp only [aM,sl]
  rw [hm]
 ·have hop : ¬ pts[a.toNat]!.op = 11 := by assumption
  have hst := oK hop (by omega) ((Kb (by omega) (by omega)).trans (by rw [if_pos (by assumption)])) hw
  rw [hat] at hst
  have hk := hk 0 (by omega)
  (refine bD (pts[a.toNat]!.next[0]!,u + 1,_,_) (Le.renA [(1,3)]) ?_ ?_)
  ·refine ⟨hk,?_,?_,?_,hst⟩ <;> (dsimp only;rw [List.length_append]; simp only [List.length_singleton]; omega)
  ·dsimp only;rw [List.length_append]; simp only [List.length_singleton]; omega
 ·have hop : ¬ pts[a.toNat]!.op = 11 := by assumption
  have hst := oK hop (by omega) ((Kb (by omega) (by omega)).trans (by rw [if_neg (by assumption)])) hw
  rw [hat] at hst
  have hk := hk 1 (by omega)
  (refine bD (pts[a.toNat]!.next[1]!,u + 1,_,_) (Le.renA [(1,3)]) ?_ ?_)
  ·refine ⟨hk,?_,?_,?_,hst⟩ <;> (dsimp only;rw [List.length_append]; simp only [List.length_singleton]; omega)
  ·dsimp only;rw [List.length_append]; simp only [List.length_singleton]; omega
 ·have hop : ¬ pts[a.toNat]!.op = 11 := by assumption
  have hst := oK hop (by omega) (M7 (by omega) (by omega)) hw
  rw [hat] at hst
  have hk := hk 1 (by omega)
  (refine bD (pts[a.toNat]!.next[1]!,u + 1,_,_) (Le.renA [(1,3)]) ?_ ?_)
  ·refine ⟨hk,?_,?_,?_,hst⟩ <;> (dsimp only;rw [List.length_append]; simp only [List.length_singleton]; omega)
  ·dsimp only;rw [List.length_append]; simp only [List.length_singleton]; omega
 ·have hop : ¬ pts[a.toNat]!.op = 11 := by assumption
  have hst := oK hop (by omega) (Kl (by omega)) hw
  rw [hat] at hst
  have hk := hk 0 (by omega)
  (refine bD (pts[a.toNat]!.next[0]!,u,_,_) (Le.renA [(1,3)]) ?_ ?_)
  ·refine ⟨hk,?_,?_,?_,hst⟩ <;> (dsimp only;rw [List.length_append]; simp only [List.length_singleton]; omega)
  ·dsimp only;rw [List.length_append]; simp only [List.length_singleton]; omega
 ·have hop : pts[a.toNat]!.op = 11 := by assumption
  have e : wm pts n 0 cs = (out ++ [a],true) := by rw [hw,FR hop,hat]
  rw [e]
  (refine aT (Le.frzD (d := 6) (i := 3) rfl rfl) ?_; refine aD rfl ?_)
  refine ⟨?_,(by exact Pur.pf)⟩
  simp only [aM,sl]
  rw [hm,List.length_append]; rfl
theorem KA {ts:List Int}{s:Mc}{x:Pnt}(hx:(x.op = 7 ∨ x.op = 8) → 0 ≤ x.x ∧ x.x < ts.length) (hy:(x.op = 3 ∨ x.op = 4 ∨ x.op = 5 ∨ x.op = 6 ∨ x.op = 7) → 0 ≤ x.y ∧ x.y < ts.length):KM s x = cR ts s x:=by
 have hX : ∀ v : Nat,(v : Int) = x.x → v = x.x.toNat := fun v h => by omega
 have hY : ∀ v : Nat,(v : Int) = x.y → v = x.y.toNat := fun v h => by omega
 cases hu : cR ts s x with
 | true =>
  obtain ⟨v,hv,hne,hs⟩ := zZ hu
  unfold a9 at hne
  unfold KM
  by_cases h3 : x.op = 3
  ·rw [if_pos h3] at hne
   by_cases e : (v : Int) = x.y
   ·rw [if_pos (.inl h3),← hY v e,hs]; rfl
   ·rw [if_neg e] at hne;exact absurd rfl hne
  ·rw [if_neg h3] at hne
   by_cases h4 : x.op = 4 ∨ x.op = 5 ∨ x.op = 6
   ·rw [if_pos h4] at hne
    by_cases e : (v : Int) = x.y
    ·rw [if_pos (by omega),← hY v e,hs]; rfl
    ·rw [if_neg e] at hne;exact absurd rfl hne
   ·rw [if_neg h4] at hne
    rw [if_neg (by omega)]
    by_cases h7 : x.op = 7
    ·rw [if_pos h7] at hne ⊢
     by_cases e : (v : Int) = x.x
     ·rw [← hX v e,hs]; rfl
     ·rw [if_neg e] at hne
      by_cases e2 : (v : Int) = x.y
      ·rw [← hY v e2,hs]; simp
      ·rw [if_neg e2] at hne;exact absurd rfl hne
    ·rw [if_neg h7] at hne ⊢
     by_cases h8 : x.op = 8
     ·rw [if_pos h8] at hne ⊢
      by_cases e : (v : Int) = x.x
      ·rw [← hX v e,hs]; rfl
      ·rw [if_neg e] at hne;exact absurd rfl hne
     ·rw [if_neg h8] at hne;exact absurd rfl hne
 | false =>
  have hS : ∀ v : Nat,v < ts.length → a9 ts x v ≠ 0 → s.slots[v]!.set = true := fun v hv h => IK hu hv h
  unfold KM
  by_cases h3 : x.op = 3
  ·have := hy (.inl h3)
   rw [if_pos (.inl h3),hS x.y.toNat (by omega) (by unfold a9;rw [if_pos h3,if_pos (by omega)]; split <;> decide)]; rfl
  ·by_cases h4 : x.op = 4 ∨ x.op = 5 ∨ x.op = 6
   ·have := hy (by omega)
    rw [if_pos (by omega),hS x.y.toNat (by omega) (by unfold a9;rw [if_neg h3,if_pos h4,if_pos (by omega)]; decide)]; rfl
   ·rw [if_neg (by omega)]
    by_cases h7 : x.op = 7
    ·have hy7 := hy (by omega)
     have hx7 := hx (.inl h7)
     rw [if_pos h7, hS x.x.toNat (by omega) (by unfold a9; rw [if_neg h3, if_neg h4, if_pos h7, if_pos (by omega)]; decide),
      hS x.y.toNat (by omega) (by unfold a9;rw [if_neg h3,if_neg h4,if_pos h7]; split;decide;rw [if_pos (by omega)]; decide)]; rfl
    ·rw [if_neg h7]
     by_cases h8 : x.op = 8
     ·have hx8 := hx (.inr h8)
      rw [if_pos h8,hS x.x.toNat (by omega) (by unfold a9;rw [if_neg h3,if_neg h4,if_neg h7,if_pos h8,if_pos (by omega)]; decide)]; rfl
     ·rw [if_neg h8]
theorem BQ (k:Int):nV k ≠ 0:=by
 unfold nV eZ;split
 ·decide
 ·split <;> decide
theorem CQ (k:Int):eZ k ≠ 0 := by unfold eZ;split <;> decide
theorem oU {ts:List Int}{s:Mc}{v:Nat}{y:Sl}:(bV ts s v y).2 ≠ 0:=by
 unfold bV;split
 ·exact BQ _
 ·show (-1 : Int) ≠ 0;decide
theorem LU {ts:List Int}{s:Mc}{x:Pnt}(h:x.op ≠ 11):(dE ts s x).2 ≠ 0:=by
 unfold dE
 split
 ·exact oU
 split
 ·split
  ·show (1 : Int) ≠ 0;decide
  ·exact oU
 split
 ·exact oU
 split
 ·split
  ·exact oU
  ·exact CQ _
 split
 ·split
  ·exact oU
  ·exact CQ _
 split
 ·exact BQ _
 split
 ·exact BQ _
 show (-1 : Int) ≠ 0;decide
theorem ML {ts:List Int}{s:Mc}{x:Pnt}(h:x.op ≠ 11):gk (dE ts s x).2 = 0 ↔ (dE ts s x).2 = -1:=by
 have := LU (ts := ts) (s := s) h
 unfold gk;split
 ·simp [*]
 ·constructor <;> (intro q;contradiction)
theorem KD (ts:List Int) (s:Mc) (x:Pnt) (ho:x.op = 9 ∨ x.op = 10):PC Tryz.prog 215 [sl cI ts,fL s,dJ x] (fun r => r = .tup [fL (dE ts s x).1,iv (gk (dE ts s x).2)]):=by
 have h0 : dE ts s x = (s, -1) := by
  unfold dE;rw [if_neg (show ¬ x.op = 1 by omega),if_neg (show ¬ x.op = 2 by omega),if_neg (show ¬ x.op = 3 by omega),if_neg (show ¬ (x.op = 4 ∨ x.op = 5) by omega),if_neg (show ¬ x.op = 6 by omega),if_neg (show ¬ x.op = 7 by omega),if_neg (show ¬ x.op = 8 by omega),if_neg (show ¬ x.op = 11 by omega)]
 rw [h0]
 refine aC Tryz.func215 Tryz.ntmps215 ?_
 repeat' (first|refine aE ?_|(refine aJ ?_ ?_ <;> intro hc hq <;> try (exfalso;omega))|fail)
 exact aD (l := [fL s,iv 0]) rfl ⟨rfl,by exact Pur.pf⟩
theorem Ly (ts:List Int) (s:Mc) (x:Pnt) (h11:x.op ≠ 11) (hop:1 ≤ x.op ∧ x.op ≤ 11) (hm:OkM s.cells) (hsl:s.slots.length = ts.length) (hx:x.op ≤ 8 → 0 ≤ x.x ∧ x.x < ts.length) (hy:3 ≤ x.op → x.op ≤ 7 → 0 ≤ x.y ∧ x.y < ts.length) (hn:x.op = 2 → 0 ≤ x.n ∧ x.n ≤ 9) (hl:ts.length ≤ 1048576) (hrl:s.read.length ≤ 1048576):PC Tryz.prog 215 [sl cI ts,fL s,dJ x] (fun r => r = .tup [fL (dE ts s x).1,iv (gk (dE ts s x).2)]):=by
 by_cases h1 : x.op = 1
 ·exact LP ts s x h1 hm hsl (hx (by omega)) hl
 by_cases h2 : x.op = 2
 ·exact LK ts s x h2 hm hsl (hx (by omega)) (hn h2) hl
 by_cases h3 : x.op = 3
 ·exact KV ts s x h3 hm hsl (hx (by omega)) (hy (by omega) (by omega)) hl
 by_cases h4 : x.op = 4 ∨ x.op = 5
 ·exact Iw ts s x h4 hm hsl (hx (by omega)) (hy (by omega) (by omega)) hl
 by_cases h6 : x.op = 6
 ·exact L5 ts s x h6 hm hsl (hx (by omega)) (hy (by omega) (by omega)) hl hrl
 by_cases h7 : x.op = 7
 ·exact LY ts s x h7 hm hsl (hx (by omega)) (hy (by omega) (by omega)) hl
 by_cases h8 : x.op = 8
 ·exact Lj ts s x h8 hm hsl (hx (by omega)) hl
 ·exact KD ts s x (by omega)
theorem j6 {ts:List Int}{s:Mc}{v:Nat}{y:Sl}:(bV ts s v y).1.read = s.read := by unfold bV;split <;> rfl
theorem AP {ts:List Int}{s:Mc}{x:Pnt}(h:x.op ≠ 11):(dE ts s x).1.read.length ≤ s.read.length + 1:=by
 unfold dE
 split
 ·rw [j6]; omega
 split
 ·split
  ·dsimp only;omega
  ·rw [j6]; dsimp only;omega
 split
 ·rw [j6]; split <;> (first|omega|(dsimp only;omega))
 split
 ·split
  ·rw [j6]; dsimp only;omega
  ·dsimp only;omega
 split
 ·split
  ·rw [j6]; dsimp only;rw [List.length_append]; simp only [List.length_singleton]; omega
  ·dsimp only;omega
 split
 ·dsimp only;omega
 split
 ·dsimp only;omega
 dsimp only;omega
theorem CN (pts:List Pnt):∀ n a cs,(gK pts n a cs).2 = true → ∃ l b,(gK pts n a cs).1 = l ++ [b] ∧ pts[b]!.op = 11
 | 0, a, cs, h => by
  unfold gK at h ⊢
  by_cases e : pts[a]!.op = 11
  ·rw [if_pos e]; exact ⟨[],a,rfl,e⟩
  ·rw [if_neg e] at h;exact absurd h (by decide)
 | n + 1, a, cs, h => by
  rw [gK] at h ⊢
  by_cases e : pts[a]!.op = 11
  ·rw [if_pos e]; exact ⟨[],a,rfl,e⟩
  ·rw [if_neg e] at h ⊢
   obtain ⟨l,b,h1,h2⟩ := CN pts n _ _ h
   exact ⟨a :: l,b,by dsimp only;rw [h1]; rfl,h2⟩
theorem L4 {s:Mc}{x:Pnt}(h:x.op = 11):KM s x = false:=by
 unfold KM;rw [if_neg (by omega),if_neg (by omega),if_neg (by omega)]
theorem JW (p:Prg) (cs:List Int) (n:Nat) (hv:bI p = true) (hl:p.types.length ≤ 1048576) (hs:aU p.body ≤ 1048576) (hn:n ≤ 150) (hcl:cs.length ≤ 1048576) (hL:∀ a ∈ (gK (aB p) n 0 cs).1,a < (aB p).length) (hLl:(gK (aB p) n 0 cs).1.length ≤ 151):PC Tryz.prog 154 [bY p,sl cI cs,iv (n:Int)] (fun r => r = .tup [fL (jF p.types (aB p) cs n).1,iv (jF p.types (aB p) cs n).2.1,iv (jF p.types (aB p) cs n).2.2]):=by
 have hpo := dB p hs
 have hru := BM p cs n hv hl hs (by omega) hcl
 have w := WG.of_valid hv
 have wa := WA.of_valid hv
 obtain ⟨q,hq⟩ : ∃ q,q = jF p.types (aB p) cs n := ⟨_,rfl⟩
 rw [← hq]
 unfold jF at hq
 unfold wm at hru
 obtain ⟨L,hLe⟩ : ∃ L,L = (gK (aB p) n 0 cs).1 := ⟨_,rfl⟩
 obtain ⟨dn,hdn⟩ : ∃ dn,dn = (gK (aB p) n 0 cs).2 := ⟨_,rfl⟩
 rw [← hLe,← hdn] at hru
 rw [← hLe] at hq hL hLl
 have hgx : ∀ i,i < L.length → (L.map (fun a : Nat => (a : Int)))[i]! = (L[i]! : Int) := fun i h => by rw [a8 _ _ (by rw [List.length_map]; exact h),List.getElem_map,a8 _ _ h]
 have hml : (L.map (fun a : Nat => (a : Int))).length = L.length := List.length_map _
 generalize (L.map (fun a : Nat => (a : Int))) = LI at *
 generalize hP : aB p = pts at *
 have e1 : AV.imm p.types.length ((List.replicate p.types.length ([Value.bool false, Value.int .i64 0, Value.int .i64 0, Value.int .i64 0].map AV.v)).flatten) = sl c6 (List.replicate p.types.length mA) := by
  rw [sZ (f := c6) (x := mA) (l := [Value.bool false,Value.int .i64 0,Value.int .i64 0,Value.int .i64 0].map AV.v) rfl]; exact eF (by simp)
 refine aC Tryz.func154 Tryz.ntmps154 ?_
 repeat' (first|(apply aF;first|(apply aA (k := 132);rfl;exact hpo;exact Pur.pf;rfl)|(with_reducible apply aV (d := 27))|(apply aL (t := _);rfl;rfl;rfl;(rfl);rfl;rfl))|refine aE ?_|fail)
 refine bR (cY ?_ (Le.frzD (d := 24) (i := 2) rfl rfl))
 rw [e1]
 repeat' (first|(apply aF;(apply aA (k := 212);rfl;exact hru;exact Pur.pf;rfl))|refine aE ?_|fail)
 refine aH (σ := Nat × Mc) [3,6,9,10,11,12] [0,1] (fun k => [(13,iv (k.1 : Int))]) (fun k => [(5,some [sl c6 k.2.slots,sl bG k.2.cells,sl cI k.2.read])]) (fun k => k.1 ≤ L.length ∧ mV p.types pts (L.drop k.1) k.2 (if k.1 = 0 then 0 else L[k.1 - 1]!) = q ∧ OkS p.types.length k.2 ∧ k.2.read.length ≤ k.1 ∧ (∀ j,j < k.1 → pts[L[j]!]!.op ≠ 11)) (fun k => L.length - k.1) (0,mc0 p.types.length) ⟨Nat.zero_le _,by rw [hq]; rfl,OkS.mc0 _,Nat.le_refl _,fun j h => absurd h (by omega)⟩ ?_
 rintro ⟨i,s⟩ ⟨hi,hf,hok,hrd,h11⟩
 dsimp only at hi hf hok hrd h11 ⊢
 have hil : i < L.length → L[i]! < pts.length := fun h => hL _ (aP _ _ h)
 have hex := fun h => IF p.types s hok.m hok.l h
 by_cases hiL : i < L.length
 ·have hap := hil hiL
  have hop := w.op L[i]! hap
  have hwx := w.x L[i]! hap
  have hwy := w.y L[i]! hap
  have hA := wa.a L[i]! hap
  have hg := hgx i hiL
  have hen := hex hl
  have hun := DS s pts[L[i]!]! (fun h => by have := hok.l;omega) (fun h => by have := hok.l;omega)
  have hun2 := KA (ts := p.types) (s := s) (x := pts[L[i]!]!) (fun h => by omega) (fun h => by omega)
  rw [hun2] at hun
  have hdo := fun h => Ly p.types s pts[L[i]!]! h hop hok.m hok.l (fun h => by omega) (fun h h2 => by omega) (fun h => hA.n (.inr h)) hl (by omega)
  repeat' (first|(apply aF;(with_reducible apply aV (d := 46)))|refine aE ?_|(refine aJ ?_ ?_ <;> intro hc hq <;> try (exfalso;omega))|fail)
  refine bR ?_
  rw [hg]
  repeat' (first|(apply aF;first|(apply aA (k := 213);rfl;exact hen;exact Pur.pf;rfl)|(apply aA (k := 214);rfl;exact hun;exact Pur.pf;rfl)|(apply aA (k := 215);rfl;exact hdo (by assumption);exact Pur.pf;rfl))|refine aE ?_|(refine aJ ?_ ?_ <;> intro hc hq <;> try (exfalso;omega))|refine bJ ?_|fail)
  all_goals have hdr : L.drop i = L[i]! :: L.drop (i + 1) := by rw [List.drop_eq_getElem_cons hiL,a8 _ _ hiL]
  all_goals rw [hdr] at hf
  ·have ho : pts[L[i]!]!.op = 11 := by assumption
   have hqq : q = ((cQ p.types p.types.length 0 s).1, (cQ p.types p.types.length 0 s).2, L[i]!) := by
    rw [← hf,mV,if_neg (by rw [← hun2,L4 ho]; decide),FN ho,if_neg (by have := xS p.types p.types.length 0 s;omega)]
   rw [hqq]
   refine aD (l := [fL (cQ p.types p.types.length 0 s).1,iv (cQ p.types p.types.length 0 s).2,iv LI[i]!]) rfl ?_
   rw [hg]
   exact ⟨rfl,by exact Pur.pf⟩
  ·have hu : cR p.types s pts[L[i]!]! = true := by assumption
   have hqq : q = (s,2,L[i]!) := by rw [← hf,mV,if_pos hu]
   rw [hqq]
   refine aD (l := [fL s,iv 2,iv LI[i]!]) rfl ?_
   rw [hg]
   exact ⟨rfl,by exact Pur.pf⟩
  ·have ho : ¬ pts[L[i]!]!.op = 11 := by assumption
   have hu : cR p.types s pts[L[i]!]! = false := by assumption
   have hk : ¬ gk (dE p.types s pts[L[i]!]!).2 = 0 := by assumption
   have hk2 : ¬ (dE p.types s pts[L[i]!]!).2 = -1 := fun e => hk ((ML ho).2 e)
   have hqq : q = ((dE p.types s pts[L[i]!]!).1,(dE p.types s pts[L[i]!]!).2,L[i]!) := by rw [← hf,mV,if_neg (by rw [hu]; decide),if_neg hk2]
   rw [hqq]
   refine aD (l := [fL (dE p.types s pts[L[i]!]!).1,iv (gk (dE p.types s pts[L[i]!]!).2),iv LI[i]!]) rfl ?_
   rw [hg,show gk (dE p.types s pts[L[i]!]!).2 = (dE p.types s pts[L[i]!]!).2 by unfold gk;rw [if_neg hk2]]
   exact ⟨rfl,by exact Pur.pf⟩
  ·have ho : ¬ pts[L[i]!]!.op = 11 := by assumption
   have hu : cR p.types s pts[L[i]!]! = false := by assumption
   have hk2 : (dE p.types s pts[L[i]!]!).2 = -1 := (ML ho).1 (by assumption)
   (refine bD (i + 1,(dE p.types s pts[L[i]!]!).1) (Le.renA [(0,0),(1,1),(5,5)]) ?_ ?_)
   ·refine ⟨by dsimp only; omega, ?_, hok.do ⟨fun h => hA.n (.inr h)⟩, ?_, ?_⟩
    ·dsimp only
     rw [← hf,if_neg (by omega),show i + 1 - 1 = i by omega,mV,if_neg (by rw [hu]; decide),if_pos hk2]
    ·dsimp only;have := AP (ts := p.types) (s := s) ho;omega
    ·intro j hj
     rcases Nat.lt_or_ge j i with h|h
     ·exact h11 j h
     ·rw [show j = i by omega]; exact ho
   ·dsimp only;omega
 ·repeat' (first | refine aE ?_ | (refine aJ ?_ ?_ <;> intro hc hq <;> try (exfalso; omega)) | (refine bS ?_ ?_ <;> intro hg hq <;> try (exfalso; omega)) | refine bJ ?_|fail)
  all_goals have hie : i = L.length := by omega
  all_goals have hqq : q = (s,1,if i = 0 then 0 else L[i - 1]!) := by rw [← hf,hie,List.drop_length]; rfl
  ·rw [hqq, if_neg (by omega)]
   refine aD (l := [fL s,iv 1,iv LI[((LI.length : Int) - 1).toNat]!]) rfl ?_
   rw [show ((LI.length : Int) - 1).toNat = i - 1 by omega,hgx (i - 1) (by omega)]
   exact ⟨rfl,by exact Pur.pf⟩
  ·rw [hqq, if_pos (by omega)]
   exact aD (l := [fL s,iv 1,iv 0]) rfl ⟨rfl,by exact Pur.pf⟩
  ·exfalso
   have hd1 : dn = true := by assumption
   obtain ⟨l,b,e1,e2⟩ := CN pts n 0 cs (by rw [← hdn]; exact hd1)
   rw [← hLe] at e1
   have hlen : L.length = l.length + 1 := by rw [e1,List.length_append]; rfl
   have hb : L[l.length]! = b := by rw [a8 _ _ (by omega)]; simp [e1]
   have := h11 l.length (by omega)
   rw [hb] at this
   exact this e2
theorem BJ {ts:List Int}{pts:List Pnt}(w:WG ts pts) (A:WA ts pts):∀ n a cs,a < pts.length → ∀ x ∈ (gK pts n a cs).1,x < pts.length
 | 0, a, cs, ha, x, hx => by
  unfold gK at hx
  by_cases e : pts[a]!.op = 11
  ·rw [if_pos e] at hx;rw [List.mem_singleton.1 hx]; exact ha
  ·rw [if_neg e] at hx;exact absurd hx (by simp)
 | n + 1, a, cs, ha, x, hx => by
  rw [gK] at hx
  by_cases e : pts[a]!.op = 11
  ·rw [if_pos e] at hx;rw [List.mem_singleton.1 hx]; exact ha
  ·rw [if_neg e] at hx
   rcases List.mem_cons.1 hx with h|h
   ·rw [h]; exact ha
   ·have he := GW w A ha e cs
    have := w.nx a ha _ he.2
    exact BJ w A n _ _ (by omega) x h
theorem rG {pts:List Pnt}:∀ n a cs,(gK pts n a cs).1.length ≤ n + 1
 | 0,a,cs => by unfold gK;split <;> simp
 | n + 1, a, cs => by
  rw [gK]; split
  ·simp
  ·have := rG (pts := pts) n (iA pts a cs).1 (iA pts a cs).2
   dsimp only;rw [List.length_cons]; omega
theorem HH (p:Prg) (cs:List Int) (n:Nat) (hv:bI p = true) (hl:p.types.length ≤ 1048576) (hs:aU p.body ≤ 1048576) (hn:n ≤ 150) (hcl:cs.length ≤ 1048576):PC Go.Proofs.Tryz.prog 154 [bY p,sl cI cs,iv (n:Int)] (fun r => r = .tup [fL (jF p.types (aB p) cs n).1,iv (jF p.types (aB p) cs n).2.1,iv (jF p.types (aB p) cs n).2.2]) :=
 JW p cs n hv hl hs hn hcl (BJ (WG.of_valid hv) (WA.of_valid hv) n 0 cs (WG.of_valid hv).p0) (by have := rG (pts := aB p) n 0 cs;omega)
def De (p : Prg) (most : Int) : Bool := bI p && (decide (0 ≤ most) && decide (most ≤ 150))
theorem El (p:Prg) (most:Int) (hl:p.types.length ≤ 1048576) (hs:aU p.body ≤ 1048576):PC Tryz.prog 153 [bY p,iv most] (fun r => r = bv (De p most)):=by
 have hval := fW p hl (by omega)
 refine aC Tryz.func153 Tryz.ntmps153 ?_
 repeat' (first|(apply aF;(apply aA (k := 61);rfl;exact hval;exact Pur.pf;rfl))|refine aE ?_|(refine bS ?_ ?_ <;> intro hg hq <;> try (exfalso;omega))|fail)
 all_goals (refine aD rfl ⟨?_,rfl⟩; simp only [aM,AV.v.injEq,Value.bool.injEq]; unfold De;grind)
theorem uG (p:Prg) (cs:List Int) (most:Int) (hl:p.types.length ≤ 1048576) (hs:aU p.body ≤ 1048576) (hcl:cs.length ≤ 1048576):PC Tryz.prog 84 [bY p,sl cI cs,iv most] (fun r => r = .tup (if De p most = true then [iv (jF p.types (aB p) cs most.toNat).2.1,iv (jF p.types (aB p) cs most.toNat).2.2] else [iv 5,iv 0])):=by
 have hrt := El p most hl hs
 by_cases h : De p most = true
 ·have h' := h
  unfold De at h'
  simp only [Bool.and_eq_true,decide_eq_true_eq] at h'
  obtain ⟨hv,h0,h1⟩ := h'
  have hru := HH p cs most.toNat hv hl hs (by omega) hcl
  rw [Int.toNat_of_nonneg h0] at hru
  rw [h] at hrt
  rw [if_pos h]
  refine aC Tryz.func84 Tryz.ntmps84 ?_
  repeat' (first|(apply aF;first|(apply aA (k := 153);rfl;exact hrt;exact Pur.pf;rfl)|(apply aA (k := 154);rfl;exact hru;exact Pur.pf;rfl))|refine aE ?_|fail)
  exact aD (l := [iv (jF p.types (aB p) cs most.toNat).2.1,iv (jF p.types (aB p) cs most.toNat).2.2]) rfl ⟨rfl,rfl⟩
 ·rw [if_neg h]
  have h2 : De p most = false := by simpa using h
  rw [h2] at hrt
  refine aC Tryz.func84 Tryz.ntmps84 ?_
  repeat' (first|(apply aF;(apply aA (k := 153);rfl;exact hrt;exact Pur.pf;rfl))|refine aE ?_|fail)
  exact aD (l := [iv 5,iv 0]) rfl ⟨rfl,rfl⟩
theorem LO {p:Prg}{cs:List Int}{n:Nat}(hv:bI p = true):OkS p.types.length (jF p.types (aB p) cs n).1:=by
 have wa := WA.of_valid hv
 have hp : ∀ a : Nat, PtN (aB p)[a]! := fun a => by
  by_cases h : a < (aB p).length
  ·exact ⟨fun e => (wa.a a h).n (.inr e)⟩
  ·refine ⟨fun e => ?_⟩
   rw [Gg,dif_neg h] at e
   exact absurd e (by decide)
 exact OkS.run hp _ _ _ (OkS.mc0 _)
theorem AY {ts:List Int}{s:Mc}{x:Pnt}:(dE ts s x).1.read.length ≤ s.read.length + 1:=by
 by_cases h : x.op = 11
 ·rw [FN h,tM]; omega
 ·exact AP h
theorem vG (ts:List Int) (pts:List Pnt):∀ (l:List Nat) (s:Mc) (last:Nat),(mV ts pts l s last).1.read.length ≤ s.read.length + l.length
 | [],s,last => by unfold mV;simp
 | a :: l, s, last => by
  have h := AY (ts := ts) (s := s) (x := pts[a]!)
  unfold mV;split
  ·dsimp only;omega
  ·split
   ·have := vG ts pts l (dE ts s pts[a]!).1 a
    rw [List.length_cons]; omega
   ·rw [List.length_cons]; dsimp only;omega
theorem Cd {ts:List Int}{pts:List Pnt}{cs:List Int}{n:Nat}(hn:n ≤ 150):(jF ts pts cs n).1.read.length ≤ 151:=by
 have h := vG ts pts (gK pts n 0 cs).1 (mc0 ts.length) 0
 have h2 := rG (pts := pts) n 0 cs
 have h3 : (mc0 ts.length).read.length = 0 := rfl
 unfold jF;omega
theorem Nc:Go.Proofs.Tryz.prog.underlying 280 = some (.map 3 4) := by kernel_rfl
theorem MK:Go.Proofs.Tryz.prog.underlying 3 = some (.int .i64) := by kernel_rfl
theorem MG:(Go.Proofs.Tryz.prog.info? 4).bind (·.zero) = some (.bool false) := by kernel_rfl
theorem MF {a b c:Int}(h:a ≤ b ∧ b ≤ c):(!(decide (a ≤ b) && decide (b ≤ c))) = false := by simp [h.1,h.2]
theorem gO (m:List Cl) (hm:OkM m):PC Tryz.prog 239 [sl bG m] (fun r => r = bv true):=by
 have hml := hm.l
 refine aC Tryz.func239 Tryz.ntmps239 ?_
 repeat' (first|refine aE ?_|(refine aJ ?_ ?_ <;> intro hc hq <;> try (exfalso;omega))|fail)
 all_goals (try (exfalso;omega))
 refine aH (σ := Nat) [11,12] [] (fun i => [(13,iv (i : Int))]) (fun i => []) (fun i => i ≤ m.length) (fun i => m.length - i) (0) (Nat.zero_le _) ?_
 rintro i hi
 by_cases hin : i < m.length
 ·have hc := (cS m).1 hm |>.2 i hin
  obtain ⟨h1,h2,h3,h4,h5⟩ := (oI _).1 hc
  repeat' (first|(apply aF;(apply aA (k := 54);rfl;(apply dC);(rfl);rfl))|(apply C6;with_reducible apply GO)|refine aE ?_|(refine aJ ?_ ?_ <;> intro hc hq <;> try (exfalso;omega))|(refine bS ?_ ?_ <;> intro hg hq <;> try (exfalso;omega))|fail)
  ·exfalso
   have hu : m[i]!.stk[Int.toNat 0]!.uq = false := by assumption
   rw [show Int.toNat 0 = 0 from rfl,h4] at hu;exact absurd hu (by decide)
  ·refine L1 (HZ rfl (fun r => ?_))
   refine y6 ?_
   repeat' (first|refine F9 ?_|fail)
   refine ⟨rfl,rfl,?_⟩
   refine kQ (oE ?_)
   repeat' (first|refine aE ?_|fail)
   show qP _ _ _ _ _ _ _
   refine vS ?_
   refine Em (σ := Nat) [4,5,11,12,13,44,45] [(4,_),(5,_),(11,_),(12,_),(13,_),(44,_),(45,_)] [0] [(0,some _)] (fun k => [(46,iv (k : Int))]) (fun k => []) (fun k => (m[i]!.stk.take k).map (·.id)) (fun k => k ≤ m[i]!.stk.length) (fun k => m[i]!.stk.length - k) (0) (Nat.zero_le _) (rfl) rfl rfl (by repeat' (first|exact trivial|refine And.intro rfl ?_)) (by repeat' (exact trivial)) ?_
   rintro k hk
   refine kQ (oE ?_)
   repeat' (first|refine aE ?_|fail)
   show qP _ _ _ _ _ _ _
   refine kQ (Ar rfl (fun hb => zS ?_) (fun hb => FJ ?_))
   ·show qP _ _ _ _ _ _ _
    have hkl : k < m[i]!.stk.length := by have := of_decide_eq_true hb;omega
    obtain ⟨g1,g2,g3⟩ := h5 k hkl
    have hw := MF (a := 0) (b := m[i]!.stk[k]!.id) (c := m[i]!.next - 1) ⟨g1,by omega⟩
    have hni : m[i]!.stk[k]!.id ∉ (m[i]!.stk.take k).map (·.id) := fun q => by
     obtain ⟨t,ht,e⟩ := List.mem_map.1 q
     obtain ⟨j,hj,rfl⟩ := List.getElem_of_mem ht
     rw [List.length_take] at hj
     have f := tR (stk := m[i]!.stk) (id := m[i]!.stk[k]!.id) (by omega) j (by omega)
     rw [a8 _ _ (by omega)] at f
     rw [List.getElem_take] at e
     exact f e
    refine kQ (vS (kQ (oE ?_)))
    repeat' (first|refine aE ?_|fail)
    show qP _ _ _ _ _ _ _
    refine kQ (kQ (sJ ?_))
    refine zE (l1 := [_,_,_,_,_,_,_,_,_,_,_]) (l2 := [_,_]) ?_
    repeat' (first|(apply aF;(apply aA (k := 54);rfl;(apply dC);(rfl);rfl))|refine F9 ?_|fail)
    refine ⟨rfl,?_⟩
    refine EU rfl rfl hw ?_
    refine BL Nc MK MG rfl rfl hni rfl ?_
    refine y6 ?_
    repeat' (first|refine F9 ?_|fail)
    refine ⟨rfl,?_⟩
    show qP _ _ _ _ _ _ _
    refine Ar rfl (fun h => by cases h) (fun _ => zS ?_)
    show qP _ _ _ _ _ _ _
    refine sJ ?_
    refine zE (l1 := [_,_,_]) (l2 := [_]) ?_
    repeat' (first|refine F9 ?_|fail)
    refine ⟨rfl,?_⟩
    refine B5 Nc MK MG rfl rfl hni ?_
    refine Jw ?_
    show qP _ _ _ _ _ _ _
    refine oE ?_
    repeat' (first|refine aE ?_|fail)
    refine ⟨k + 1,by omega,by omega,?_,?_⟩
    ·refine Le.ren [(0,0)] rfl (by decide) ?_ ?_ <;> repeat' (first|exact trivial|refine And.intro ⟨_,rfl,?_⟩ ?_|refine And.intro ⟨_,_,rfl,rfl,?_⟩ ?_|exact Or.inr rfl|refine Or.inl ⟨?_,(by first|rfl|exact a6 _ _|exact Pur.pf)⟩|rfl)
    ·rw [b0 _ k hkl,List.map_append]; rfl
   ·have hkl : k = m[i]!.stk.length := by have := of_decide_eq_false hb; omega
    refine Hj ?_
    show Cb 1 _ _ _
    repeat' (first|refine aE ?_|fail)
    (refine bD (i + 1) (Le.renA []) ?_ ?_)
    ·omega
    ·omega
 ·repeat' (first | refine aE ?_ | (refine aJ ?_ ?_ <;> intro hc hq <;> try (exfalso; omega))|fail)
  refine aD rfl ⟨rfl,rfl⟩
theorem Le.bump {ts:List (Nat × AV)}{hs:List (Nat × Option (List AV))}{n:Nat}{z0:Lo}(k:Nat):Le ⟨ts,hs,n,z0⟩ ⟨ts,hs,n + k,z0⟩ := Le.of (fun _ _ h => h) (fun _ _ h => h) (Nat.le_add_right _ _) rfl
theorem u5 {m:List Cl}{x0:Operand}(ha0:ev (lk tsl) x0 = some (sl bG m)) (hmc:MC Tryz.prog 265 [sl bG m] [] 0 (fun _:Unit => True) (fun _ => .own 1 0 m.length 4) (fun _ => [(1,some (flat bG m))])) (hM:Nat.ble (nidl + 2) aQ = true) (hN:Nat.blt d N = true){md':Md}[hmd:MdA md (fR [x0] ++ []) (List.map Sum.inr (List.map Prod.fst ([((nidl + 1),some (flat bG m))]:List (Nat × Option (List AV)))) ++ [.inl d]) md'] (kk:RW Tryz.prog N all Q md' rest ⟨(d,.own (nidl + 1) 0 m.length 4) :: tsl,iB hsl [((nidl + 1),some (flat bG m))],nidl + 2,z0⟩):RW Tryz.prog N all Q md (⟨some d,.call ⟨.value (.func 265),#[x0],tys⟩,ty,pos,af,none⟩ :: rest) ⟨tsl,hsl,nidl,z0⟩:=by
 exact bB (l := [x0]) [] 2 [((nidl + 1),some (flat bG m))] hmc (avs := [sl bG m]) (by simp only [evL,ha0]) rfl hM hN (md' := md') (hmd := hmd) kk
theorem AR (m:List Cl) (hl:m.length ≤ 1048576):MC Tryz.prog 265 [sl bG m] [] 0 (fun _:Unit => True) (fun _ => .own 1 0 m.length 4) (fun _ => [(1,some (flat bG m))]):=by
 refine aW Tryz.func265 Tryz.ntmps265 ?_
 repeat' (first|(apply aF;(apply zC;rfl;rfl;(intro b hb)))|refine aE ?_|(refine aJ ?_ ?_ <;> intro hc hq <;> try (exfalso;omega))|fail)
 ·have h0 : m = [] := List.eq_nil_of_length_eq_zero (hb (by assumption))
  subst h0
  refine aT (Le.bump 1) ?_
  refine aT (Le.nilOwn (d := 2) 4 rfl (by decide)) ?_
  (refine aD rfl ?_; refine aR () trivial ?_ ⟨sE ?_,trivial⟩)
  ·rfl
  ·rfl
 ·(refine aD rfl ?_; refine aR () trivial ?_ ⟨sE ?_, trivial⟩)
  ·show AV.own 1 0 (0 + m.length) 4 = _; rw [Nat.zero_add]
  ·rfl
theorem pX {m:List Tg}{x0:Operand}(ha0:ev (lk tsl) x0 = some (sl b8 m)) (hmc:MC Tryz.prog 266 [sl b8 m] [] 0 (fun _:Unit => True) (fun _ => .own 1 0 m.length 2) (fun _ => [(1,some (flat b8 m))])) (hM:Nat.ble (nidl + 2) aQ = true) (hN:Nat.blt d N = true){md':Md}[hmd:MdA md (fR [x0] ++ []) (List.map Sum.inr (List.map Prod.fst ([((nidl + 1),some (flat b8 m))]:List (Nat × Option (List AV)))) ++ [.inl d]) md'] (kk:RW Tryz.prog N all Q md' rest ⟨(d,.own (nidl + 1) 0 m.length 2) :: tsl,iB hsl [((nidl + 1),some (flat b8 m))],nidl + 2,z0⟩):RW Tryz.prog N all Q md (⟨some d,.call ⟨.value (.func 266),#[x0],tys⟩,ty,pos,af,none⟩ :: rest) ⟨tsl,hsl,nidl,z0⟩:=by
 exact bB (l := [x0]) [] 2 [((nidl + 1),some (flat b8 m))] hmc (avs := [sl b8 m]) (by simp only [evL,ha0]) rfl hM hN (md' := md') (hmd := hmd) kk
theorem zW (m:List Tg) (hl:m.length ≤ 1048576):MC Tryz.prog 266 [sl b8 m] [] 0 (fun _:Unit => True) (fun _ => .own 1 0 m.length 2) (fun _ => [(1,some (flat b8 m))]):=by
 refine aW Tryz.func266 Tryz.ntmps266 ?_
 repeat' (first|(apply aF;(apply zC;rfl;rfl;(intro b hb)))|refine aE ?_|(refine aJ ?_ ?_ <;> intro hc hq <;> try (exfalso;omega))|fail)
 ·have h0 : m = [] := List.eq_nil_of_length_eq_zero (hb (by assumption))
  subst h0
  refine aT (Le.bump 1) ?_
  refine aT (Le.nilOwn (d := 2) 2 rfl (by decide)) ?_
  (refine aD rfl ?_; refine aR () trivial ?_ ⟨sE ?_,trivial⟩)
  ·rfl
  ·rfl
 ·(refine aD rfl ?_; refine aR () trivial ?_ ⟨sE ?_, trivial⟩)
  ·show AV.own 1 0 (0 + m.length) 2 = _; rw [Nat.zero_add]
  ·rfl
theorem Fx (t:Tg) (c g:Int):PC Tryz.prog 268 [NN t,.iptr [iv c,iv g]] (fun r => r = bv (decide (t.id = g))):=by
 refine aC Tryz.func268 Tryz.ntmps268 ?_
 repeat' (first|refine aE ?_|fail)
 exact aD rfl ⟨rfl,rfl⟩
theorem z3 (t:Tg):PC Tryz.prog 270 [NN t] (fun r => r = bv t.uq):=by
 refine aC Tryz.func270 Tryz.ntmps270 ?_
 repeat' (first|refine aE ?_|fail)
 exact aD rfl ⟨rfl,rfl⟩
theorem yK (stk:List Tg) (c g:Int) (hl:stk.length ≤ 1048576):PC Tryz.prog 267 [sl b8 stk,.clos (.func 268) [] [.iptr [iv c,iv g]]] (fun r => r = iv (cA stk g)):=by
 refine aC Tryz.func267 Tryz.ntmps267 ?_
 repeat' (first|refine aE ?_|fail)
 refine aH (σ := Nat) [0,1,7] [] (fun k => [(8,iv (k : Int))]) (fun k => []) (fun k => k ≤ stk.length ∧ ∀ j,j < k → stk[j]!.id ≠ g) (fun k => stk.length - k) (0) ⟨by omega,by omega⟩ ?_
 rintro k ⟨hk,hall⟩
 by_cases hkn : k < stk.length
 ·have hcl := Fx stk[k]! c g
  repeat' (first|(apply aF;(apply gC;rfl;rfl;infer_instance;rfl;(apply hcl);(rfl);rfl))|refine aE ?_|(refine aJ ?_ ?_ <;> intro hc hq <;> try (exfalso;omega))|fail)
  ·refine aD rfl ⟨?_, rfl⟩
   simp only [aM]; rw [wQ hkn (by assumption) hall]
  ·(refine bD (k + 1) (Le.renA []) ?_ ?_)
   ·refine ⟨by omega, fun j hj => ?_⟩
    by_cases e : j = k
    ·subst e;assumption
    ·exact hall j (by omega)
   ·omega
 ·repeat' (first | refine aE ?_ | (refine aJ ?_ ?_ <;> intro hc hq <;> try (exfalso; omega))|fail)
  refine aD rfl ⟨?_,rfl⟩
  have h2 : cA stk g < 0 := pJ.2 (fun t ht => by obtain ⟨j,hj,rfl⟩ := List.getElem_of_mem ht;have := hall j (by omega);rwa [a8 _ _ hj] at this)
  have hb := eG stk g
  simp only [aM]; rw [show cA stk g = -1 by omega]
def qM (xs : List Tg) : Int := match xs.findIdx? (fun t => t.uq) with | some i => i | none => -1
theorem Je (stk:List Tg) (hl:stk.length ≤ 1048576):PC Tryz.prog 267 [sl b8 stk,.v (.func (.func 270) #[] #[])] (fun r => r = iv (qM stk)):=by
 refine aC Tryz.func267 Tryz.ntmps267 ?_
 repeat' (first|refine aE ?_|fail)
 refine aH (σ := Nat) [0,1,7] [] (fun k => [(8,iv (k : Int))]) (fun k => []) (fun k => k ≤ stk.length ∧ ∀ j,j < k → stk[j]!.uq = false) (fun k => stk.length - k) (0) ⟨by omega,by omega⟩ ?_
 rintro k ⟨hk,hall⟩
 by_cases hkn : k < stk.length
 ·have hcl := z3 stk[k]!
  repeat' (first|(apply aF;(apply gC;rfl;rfl;infer_instance;rfl;(apply hcl);(rfl);rfl))|refine aE ?_|(refine aJ ?_ ?_ <;> intro hc hq <;> try (exfalso;omega))|fail)
  ·refine aD rfl ⟨?_, rfl⟩
   have hu : stk[k]!.uq = true := by assumption
   have : stk.findIdx? (fun t => t.uq) = some k := by
    rw [List.findIdx?_eq_some_iff_getElem]
    refine ⟨hkn,by rw [← a8 stk k hkn]; exact hu,fun j hj => ?_⟩
    have := hall j hj;rw [a8 stk j (by omega)] at this;rw [this]; decide
   simp only [aM,qM,this]
  ·have hu : stk[k]!.uq = false := by assumption
   (refine bD (k + 1) (Le.renA []) ?_ ?_)
   ·refine ⟨by omega, fun j hj => ?_⟩
    by_cases e : j = k
    ·subst e;exact hu
    ·exact hall j (by omega)
   ·omega
 ·repeat' (first | refine aE ?_ | (refine aJ ?_ ?_ <;> intro hc hq <;> try (exfalso; omega))|fail)
  refine aD rfl ⟨?_,rfl⟩
  have : stk.findIdx? (fun t => t.uq) = none := by
   rw [List.findIdx?_eq_none_iff]
   intro x hx
   obtain ⟨j,hj,rfl⟩ := List.getElem_of_mem hx
   have := hall j (by omega);rw [a8 stk j hj] at this;exact this
  simp only [aM,qM,this]
theorem Ms {xs:List Tg}{k:Nat}{a:Int}{b:Bool}(hk:k < xs.length):gQ (flat b8 xs) (0 + k * 2) [iv a,bv b] = flat b8 (xs.set k ⟨a,b⟩) := fD hk rfl
theorem He {cs new:List AV}{k:Nat}(h:k ≤ cs.length):(gQ cs (0 + k) new).take k = cs.take k:=by
 unfold gQ
 rw [Nat.zero_add,List.append_assoc,List.take_left' (by rw [List.length_take]; omega)]
def shr (xs : List Tg) : List Tg := xs.filter (fun t => !t.uq)
theorem DE {xs:List Tg}(h:qM xs = -1):shr xs = xs:=by
 unfold qM at h
 split at h
 ·omega
 ·rename_i hn
  rw [List.findIdx?_eq_none_iff] at hn
  unfold shr
  rw [List.filter_eq_self]
  intro t ht
  have := hn t ht
  simp [this]
theorem EO {xs:List Tg}{i:Nat}(h:qM xs = (i:Int)):i < xs.length ∧ xs[i]!.uq = true ∧ shr (xs.take (i + 1)) = xs.take i:=by
 unfold qM at h
 split at h
 ·rename_i k hk
  obtain ⟨h1,h2,h3⟩ := List.findIdx?_eq_some_iff_getElem.1 hk
  have e : k = i := by omega
  subst e
  have hs : shr (xs.take k) = xs.take k := by
   unfold shr
   rw [List.filter_eq_self]
   intro t ht
   obtain ⟨j,hj,rfl⟩ := List.getElem_of_mem ht
   rw [List.length_take] at hj
   have := h3 j (by omega)
   rw [List.getElem_take]; simpa using this
  refine ⟨h1,by rw [a8 _ _ h1]; exact h2,?_⟩
  rw [b0 xs k h1]
  unfold shr at hs ⊢
  rw [List.filter_append,hs,mC (by rw [a8 _ _ h1,h2]; rfl),List.append_nil]
 ·omega
theorem Jo (xs:List Tg):-1 ≤ qM xs ∧ qM xs < xs.length:=by
 unfold qM
 split
 ·rename_i k hk
  obtain ⟨h1,_⟩ := List.findIdx?_eq_some_iff_getElem.1 hk
  omega
 ·omega
theorem IE {xs:List Tg}{j:Nat}(hj:j < xs.length) (h:xs[j]!.uq = false):shr (xs.take (j + 1)) = shr (xs.take j) ++ [xs[j]!]:=by
 rw [b0 xs j hj]; unfold shr
 rw [List.filter_append,pN (by rw [h]; rfl)]
theorem FQ {xs:List Tg}{j:Nat}(hj:j < xs.length) (h:xs[j]!.uq = true):shr (xs.take (j + 1)) = shr (xs.take j):=by
 rw [b0 xs j hj]; unfold shr
 rw [List.filter_append,mC (by rw [h]; rfl),List.append_nil]
theorem Hu {α:Type}[Inhabited α] {L:List α}{i:Nat}{x:α}(h:i < L.length):(L.set i x).take (i + 1) = L.take i ++ [x]:=by
 rw [List.set_eq_take_append_cons_drop,if_pos h]
 have h1 : (L.take i).length = i := by rw [List.length_take]; omega
 rw [List.take_append,h1,show i + 1 - i = 1 by omega,List.take_of_length_le (by omega)]
 rfl
theorem FL {α:Type}[Inhabited α] {L M:List α}{j:Nat}(h:L.drop j = M.drop j) (hl:L.length = M.length) (hj:j < M.length):L[j]! = M[j]!:=by
 rw [a8 _ _ (by omega),a8 _ _ hj]
 rw [List.drop_eq_getElem_cons (by omega : j < L.length),List.drop_eq_getElem_cons hj] at h
 exact (List.cons.inj h).1
theorem r9 {α:Type}{L M:List α}{j:Nat}(h:L.drop j = M.drop j):L.drop (j + 1) = M.drop (j + 1):=by
 rw [← List.drop_drop,h,List.drop_drop]
theorem I9 {xs:List Tg}{m:Nat}{x0 x1:Operand}{i0:Nat}(ha0:ev (lk tsl) x0 = some (.own i0 0 m 2)) (ha1:ev (lk tsl) x1 = some (.v (.func (.func 270) #[] #[]))) (hH0:aO hsl i0 = some (flat b8 xs)) (hmc:MC Tryz.prog 269 [.own 0 0 m 2,.v (.func (.func 270) #[] #[])] [(0,some (flat b8 xs))] 1 (fun _:Unit => True) (fun _ => .own 0 0 (shr xs).length 2) (fun _ => [(0,some (flat b8 (shr xs)))])) (hM:Nat.ble (nidl + 0) aQ = true) (hN:Nat.blt d N = true){md':Md}[hmd:MdA md (fR [x0,x1] ++ [.inr i0]) (List.map Sum.inr (List.map Prod.fst ([(i0,some (flat b8 (shr xs)))]:List (Nat × Option (List AV)))) ++ [.inl d]) md'] (kk:RW Tryz.prog N all Q md' rest ⟨(d,.own i0 0 (shr xs).length 2) :: tsl,iB hsl [(i0,some (flat b8 (shr xs)))],nidl + 0,z0⟩):RW Tryz.prog N all Q md (⟨some d,.call ⟨.value (.func 269),#[x0,x1],tys⟩,ty,pos,af,none⟩ :: rest) ⟨tsl,hsl,nidl,z0⟩:=by
 exact bB (l := [x0,x1]) [i0] 1 [(i0,some (flat b8 (shr xs)))] hmc (avs := [.own i0 0 m 2,.v (.func (.func 270) #[] #[])]) (by simp only [evL,ha0,ha1]) rfl hM hN (md' := md') (hmd := hmd) kk
theorem Lc (xs:List Tg) (m:Nat) (hm:m = xs.length) (hl:m ≤ 1048576):MC Tryz.prog 269 [.own 0 0 m 2,.v (.func (.func 270) #[] #[])] [(0,some (flat b8 xs))] 1 (fun _:Unit => True) (fun _ => .own 0 0 (shr xs).length 2) (fun _ => [(0,some (flat b8 (shr xs)))]):=by
 subst hm
 have hix := Je xs hl
 have hbd := Jo xs
 by_cases hn : qM xs = -1
 ·rw [hn] at hix
  have hs := DE hn
  refine aW Tryz.func269 Tryz.ntmps269 ?_
  repeat' (first|(apply aF;(apply oL (k := 267);(case ha => rfl);(case hl => (repeat' (first|exact mI|apply kV|exact wM|exact mS rfl inferInstance)));(case h => exact hix);(case hfr|hN => rfl);(case hmd => infer_instance)))|refine aE ?_|fail)
  all_goals (
   (refine aD rfl ?_; refine aR () trivial ?_ ⟨sE ?_,trivial⟩)
   ·rw [hs]; rfl
   ·rw [hs])
 ·obtain ⟨i0, hi0⟩ := Int.eq_ofNat_of_zero_le (show 0 ≤ qM xs by omega)
  obtain ⟨g1,g2,g3⟩ := EO hi0
  rw [hi0] at hix
  refine aW Tryz.func269 Tryz.ntmps269 ?_
  repeat' (first|(apply aF;(apply oL (k := 267);(case ha => rfl);(case hl => (repeat' (first|exact mI|apply kV|exact wM|exact mS rfl inferInstance)));(case h => exact hix);(case hfr|hN => rfl);(case hmd => infer_instance)))|refine aE ?_|fail)
  all_goals (try (exfalso;omega))
  refine aH (σ := List Tg × Nat × Nat) [0,1] [] (fun s => [(5,iv (s.2.1 : Int)),(6,iv (s.2.2 : Int))]) (fun s => [(0,some (flat b8 s.1))]) (fun s => s.1.length = xs.length ∧ s.1.take s.2.1 = shr (xs.take s.2.2) ∧ s.1.drop s.2.2 = xs.drop s.2.2 ∧ s.2.1 < s.2.2 ∧ s.2.2 ≤ xs.length) (fun s => xs.length - s.2.2) (xs,i0,i0 + 1) ⟨rfl,g3.symm,rfl,by dsimp only;omega,by dsimp only;omega⟩ ?_
  rintro ⟨L,i,j⟩ ⟨hL,ht,hd,hij,hj⟩
  dsimp only at hL ht hd hij hj ⊢
  by_cases hjn : j < xs.length
  ·have hcl := z3 L[j]!
   have hg := FL hd hL hjn
   repeat' (first|(apply aF;first|(apply a7;rfl;rfl;rfl;rfl;rfl;(case hl => (first|(rw [aI]; simp only [fT] <;> omega)|(simp;done)));(exact Ms (by (first|assumption|omega))))|(apply gC;rfl;rfl;infer_instance;rfl;(apply hcl);(rfl);rfl))|refine aE ?_|(refine aJ ?_ ?_ <;> intro hc hq <;> try (exfalso;omega))|fail)
   ·have hu : L[j]!.uq = false := by assumption
    (refine bD (_,i + 1,j + 1) (Le.renA []) ?_ ?_)
    ·refine ⟨by dsimp only; rw [List.length_set]; exact hL, ?_, ?_, by dsimp only; omega, by dsimp only; omega⟩
     ·dsimp only
      rw [Hu (by omega),ht,IE hjn (by rw [← hg]; exact hu),hg]
     ·dsimp only
      rw [List.drop_set_of_lt (by omega)]
      exact r9 hd
    ·dsimp only;omega
   ·have hu : L[j]!.uq = true := by assumption
    (refine bD (L,i,j + 1) (Le.renA []) ?_ ?_)
    ·refine ⟨hL, ?_, r9 hd, by dsimp only; omega, by dsimp only; omega⟩
     dsimp only
     rw [ht,FQ hjn (by rw [← hg]; exact hu)]
    ·dsimp only;omega
  ·have hfl : (flat b8 L).length = L.length * 2 := aI b8 L
   repeat' (first|(apply aF;first|(apply iV (d := 38) (l := i) (h := xs.length);rfl;rfl;exact pL rfl (by omega);rfl;exact if_pos (by omega);rfl)|(apply iV (d := 41) (l := 0) (h := i);rfl;rfl;rfl;exact pL rfl (by omega);exact if_pos (by omega);rfl)|(apply FX;rfl;rfl;omega;rfl;(rw [hfl]; omega);rfl))|refine aE ?_|(refine aJ ?_ ?_ <;> intro hc hq <;> try (exfalso;omega))|fail)
   refine aT (Le.cut (i := 0) (i * 2) rfl) ?_
   have hje : j = xs.length := by omega
   have hLt : L.take i = shr xs := by rw [ht,hje,List.take_length]
   have hil : (shr xs).length = i := by rw [← hLt,List.length_take]; omega
   (refine aD rfl ?_; refine aR () trivial ?_ ⟨sE ?_,trivial⟩)
   ·show AV.own 0 (0 + 0 * 2) (i - 0) 2 = _
    rw [hil]; rfl
   ·rw [He (by omega),dZ b8 (e := 2),hLt]
end Go.Proofs.YtahdccneecdmmaaGreat
