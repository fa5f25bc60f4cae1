/-
 A part of the proofs over this program: rules and contracts of its functions (the contracts).
-/
import Derived.Test.YtahdccneecdmmaaGreatQ6B04
set_option linter.unusedVariables false
set_option linter.unusedSimpArgs false
set_option maxHeartbeats 8000000
set_option maxRecDepth 4000
attribute [local irreducible] Go.AL.RW Go.AL.AW Go.AL.Stop
namespace Go.Proofs.YtahdccneecdmmaaGreat
open Go.AL Go.RowKit
variable {N : Nat} {Q : Exit → AS → Prop} {all : Array Oper} {rest : List Oper} {tsl : List (Nat × AV)} {hsl : List (Nat × Option (List AV))} {nidl : Nat} {z0 : Lo} {md : Md} {d : Nat} {ty : TypeId} {pos : String} {af : Array Edge} {tys : Array TypeId}
theorem PZ {cs:List AV}{i:Nat}{c:AV}:g6 cs i [c] = cs.take i ++ c :: cs.drop (i + 1):=by
 have := zL (cs := cs) (v := i) (c := c)
 rwa [Nat.zero_add,Nat.mul_one] at this
theorem Le.frzCl {ts:List (Nat × AV)}{hs:List (Nat × Option (List AV))}{n:Nat}{z0:Lo}{j q v m:Nat}{u:List Cl}{r:List Tg}(hj:aV hs j = some (g6 (flat bJ u) (0 + v * 4 + 3) [.own q 0 m 2])) (hq:aV hs q = some (flat cG r)) (hm:m = r.length) (hv:v < u.length) (hjq:j ≠ q) :
  Le ⟨ts,hs,n,z0⟩ ⟨ts,(j,some (flat bJ (u.set v { u[v]! with stk := r }))) :: (q,none) :: hs,n,z0⟩ := by
 subst hm
 have hl : (flat bJ u).length = u.length * 4 := aI bJ u
 have e := Dt (s := r) hv
 rw [PZ] at hj e
 have h := Le.frzC (ts := ts) (n := n) (z0 := z0) ((flat bJ u).take (0 + v * 4 + 3)) hj hq hjq
 rw [← e]; exact h
theorem mU {m:List Cl}{x:Pt}{wr:Bool}:(cO m x wr).length = m.length:=by
 unfold cO;split
 ·rw [List.length_set]
 ·rfl
theorem iQ {m:List Cl}{x:Pt}{x0 x1:Operand}(ha0:ev (lk tsl) x0 = some (sl bJ m)) (ha1:ev (lk tsl) x1 = some (n6 x)) (hmc:MC Tryz.prog 271 [sl bJ m,n6 x] [] 0 (fun _:Unit => True) (fun _ => .tup [.own 1 0 m.length 4,iv (a7 m x true)]) (fun _ => [(1,some (flat bJ (cO m x true)))])) (hM:Nat.ble (nidl + 2) a6 = true) (hN:Nat.blt d N = true){md':Md}[hmd:MdA md (fI [x0,x1] ++ []) (List.map Sum.inr (List.map Prod.fst ([((nidl + 1),some (flat bJ (cO m x true)))]:List (Nat × Option (List AV)))) ++ [.inl d]) md'] (kk:RW Tryz.prog N all Q md' rest ⟨(d,.tup [.own (nidl + 1) 0 m.length 4,iv (a7 m x true)]) :: tsl,gE hsl [((nidl + 1),some (flat bJ (cO m x true)))],nidl + 2,z0⟩):RW Tryz.prog N all Q md (⟨some d,.call ⟨.value (.func 271),#[x0,x1],tys⟩,ty,pos,af,none⟩ :: rest) ⟨tsl,hsl,nidl,z0⟩:=by
 exact aX (l := [x0,x1]) [] 2 [((nidl + 1),some (flat bJ (cO m x true)))] hmc (avs := [sl bJ m,n6 x]) (by simp only [evL,ha0,ha1]) rfl hM hN (md' := md') (hmd := hmd) kk
theorem jV (m:List Cl) (x:Pt) (hm:OkM m):MC Tryz.prog 271 [sl bJ m,n6 x] [] 0 (fun _:Unit => True) (fun _ => .tup [.own 1 0 m.length 4,iv (a7 m x true)]) (fun _ => [(1,some (flat bJ (cO m x true)))]):=by
 have hml := hm.l
 have hst : 0 ≤ x.cell → x.cell < m.length → m[x.cell.toNat]!.stk.length ≤ 200 := fun h1 h2 => (((cX m).1 hm).2 x.cell.toNat (by omega)).l.2
 have hpl := lH m hm x
 by_cases hk : a7 m x false = 0
 ·rw [if_pos hk, hk] at hpl
  obtain ⟨h1,h2,h3,h4,_⟩ := dQ hk
  have hbd := dY m[x.cell.toNat]!.stk x.tag
  have hs2 := hst h1 h2
  obtain ⟨k,hkk⟩ := Int.eq_ofNat_of_zero_le h4
  rw [hkk] at hpl
  have hkn : k < m[x.cell.toNat]!.stk.length := by omega
  have hkt : (b8 m[x.cell.toNat]!.stk x.tag).toNat = k := by omega
  have hwr := zC (m := m) (x := x)
  rw [if_pos hk,hkt] at hwr
  have e1 : List.take (((k : Int) + 1).toNat - 0) (List.drop 0 m[x.cell.toNat]!.stk) = m[x.cell.toNat]!.stk.take (k + 1) := by rw [List.drop_zero]; congr 1
  have e2 : (m[x.cell.toNat]!.stk.take (k + 1)).length = k + 1 := by rw [List.length_take]; omega
  refine aW Tryz.func271 Tryz.ntmps271 ?_
  repeat' (first|(apply aF;first|(apply fD;rfl;exact fZ m hm;rfl;rfl)|(apply aA (k := 276);rfl;exact hpl;exact Pur.pf;rfl)|(with_reducible apply aY (d := 46)))|refine aE ?_|(refine aK ?_ ?_ <;> intro hc hq <;> try (exfalso;omega))|refine bS ?_|fail)
  ·have hu : m[x.cell.toNat]!.stk[k]!.uq = false := by assumption
   rw [if_pos hu] at hwr
   (refine aC rfl ?_; refine aS () trivial ?_ ⟨sE ?_,trivial⟩)
   ·rw [hwr]; rfl
   ·unfold cO;rw [if_neg (by rw [hwr]; decide)]
  ·have hu : m[x.cell.toNat]!.stk[k]!.uq = true := by assumption
   rw [if_neg (by rw [hu]; decide)] at hwr
   refine bY ?_
   rw [e1]
   repeat' (first|(apply aF;(with_reducible apply aY (d := 49)))|refine aE ?_|fail)
   refine bY (c5 ?_ (Le.frzCl (j := 1) (q := 3) (v := x.cell.toNat) (u := m) (r := m[x.cell.toNat]!.stk.take (k + 1)) rfl rfl (Nat.zero_add _) (by omega) (by decide)))
   repeat' (first|refine aE ?_|fail)
   (refine aC rfl ?_; refine aS () trivial ?_ ⟨sE ?_,trivial⟩)
   ·rw [hwr]; rfl
   ·unfold cO iS eZ;rw [if_pos hwr,hkt,if_pos rfl]
 ·rw [if_neg hk] at hpl
  have hk2 : a7 m x true = a7 m x false := by rw [zC,if_neg hk]
  refine aW Tryz.func271 Tryz.ntmps271 ?_
  repeat' (first|(apply aF;first|(apply fD;rfl;exact fZ m hm;rfl;rfl)|(apply aA (k := 276);rfl;exact hpl;exact Pur.pf;rfl))|refine aE ?_|(refine aK ?_ ?_ <;> intro hc hq <;> try (exfalso;omega))|fail)
  (refine aC rfl ?_; refine aS () trivial ?_ ⟨sE ?_,trivial⟩)
  ·rw [hk2]; rfl
  ·unfold cO;rw [if_neg (by rw [hk2]; exact hk)]
theorem set_set {α:Type}{l:List α}{i:Nat}{a b:α}:(l.set i a).set i b = l.set i b := by simp
theorem l8 {α:Type}[Inhabited α] {l:List α}{i:Nat}{a:α}(h:i < l.length):(l.set i a)[i]! = a := by rw [aZ _ _ (by rw [List.length_set]; exact h),List.getElem_set_self]
theorem Ad (m:List Cl) (hm:OkM m) (x:Pt) (v:Int):PC Tryz.prog 253 [sl bJ m,n6 x,iv v] (fun r => r = .tup [sl bJ (pI m x v),iv (qC m x v)]):=by
 have hml := hm.l
 have hlt := mU (m := m) (x := x) (wr := true)
 have hin := dQ (m := m) (x := x) (wr := true)
 by_cases hv : 0 ≤ v ∧ v ≤ 9
 ·have hwk : qC m x v = a7 m x true := by unfold qC; rw [if_pos hv]
  by_cases hk : a7 m x true = 0
  ·obtain ⟨h1, h2, _⟩ := hin hk
   refine aB Tryz.func253 Tryz.ntmps253 ?_
   repeat' (first|(apply aF;first|(apply iQ;rfl;rfl;exact jV m x hm;rfl;rfl)|(apply bD;rfl;rfl;rfl;rfl;rfl;(rw [aI]; simp only [gA] <;> omega);(exact P1 (by (omega)))))|refine aE ?_|(refine aK ?_ ?_ <;> intro hc hq <;> try (exfalso;omega))|(refine bQ ?_ ?_ <;> intro hg hq <;> try (exfalso;omega))|fail)
   (refine aR (Le.frzD (d := 6) (i := 2) rfl rfl) ?_; refine aC rfl ?_)
   refine ⟨?_,by exact Pur.pf⟩
   simp only [aO]
   rw [e5 (by rw [List.length_set,hlt]),hwk]
   unfold pI cO;rw [if_pos hk,if_pos (by rw [hwk]; exact hk),l8 (by omega),set_set]
  ·refine aB Tryz.func253 Tryz.ntmps253 ?_
   repeat' (first|(apply aF;(apply iQ;rfl;rfl;exact jV m x hm;rfl;rfl))|refine aE ?_|(refine aK ?_ ?_ <;> intro hc hq <;> try (exfalso;omega))|(refine bQ ?_ ?_ <;> intro hg hq <;> try (exfalso;omega))|fail)
   (refine aR (Le.frzD (d := 6) (i := 2) rfl rfl) ?_; refine aC rfl ?_)
   refine ⟨?_,by exact Pur.pf⟩
   simp only [aO]
   rw [e5 (by rw [hlt]),hwk]
   unfold pI cO;rw [if_neg hk,if_neg (by rw [hwk]; exact hk)]
 ·have hwk : qC m x v = 4 := by unfold qC; rw [if_neg hv]
  have e : pI m x v = m := by unfold pI;rw [if_neg (by rw [hwk]; decide)]
  refine aB Tryz.func253 Tryz.ntmps253 ?_
  repeat' (first|(apply aF;(apply fD;rfl;exact fZ m hm;rfl;rfl))|refine aE ?_|(refine aK ?_ ?_ <;> intro hc hq <;> try (exfalso;omega))|(refine bQ ?_ ?_ <;> intro hg hq <;> try (exfalso;omega))|fail)
  all_goals (try (exfalso;omega))
  all_goals (
   (refine aR (Le.frzD (d := 6) (i := 1) rfl rfl) ?_; refine aC rfl ?_)
   refine ⟨?_,by exact Pur.pf⟩
   simp only [aO]
   rw [e,hwk])
theorem nC (m:List Cl) (hm:OkM m) (x:Pt):PC Tryz.prog 245 [sl bJ m,n6 x] (fun r => r = .tup [sl bJ (gY m x),iv (a7 m x true)]):=by
 have hml := hm.l
 have hlt := mU (m := m) (x := x) (wr := true)
 have hin := dQ (m := m) (x := x) (wr := true)
 by_cases hk : a7 m x true = 0
 ·obtain ⟨h1, h2, _⟩ := hin hk
  refine aB Tryz.func245 Tryz.ntmps245 ?_
  repeat' (first|(apply aF;first|(apply iQ;rfl;rfl;exact jV m x hm;rfl;rfl)|(apply bD;rfl;rfl;rfl;rfl;rfl;(rw [aI]; simp only [gA] <;> omega);(exact OZ (by (omega)))))|refine aE ?_|(refine aK ?_ ?_ <;> intro hc hq <;> try (exfalso;omega))|fail)
  (refine aR (Le.frzD (d := 4) (i := 2) rfl rfl) ?_; refine aC rfl ?_)
  refine ⟨?_,by exact Pur.pf⟩
  simp only [aO]
  rw [e5 (by rw [List.length_set,hlt])]
  unfold gY cO;rw [if_pos hk,if_pos hk,l8 (by omega),set_set]
 ·refine aB Tryz.func245 Tryz.ntmps245 ?_
  repeat' (first|(apply aF;(apply iQ;rfl;rfl;exact jV m x hm;rfl;rfl))|refine aE ?_|(refine aK ?_ ?_ <;> intro hc hq <;> try (exfalso;omega))|fail)
  (refine aR (Le.frzD (d := 4) (i := 2) rfl rfl) ?_; refine aC rfl ?_)
  refine ⟨?_,by exact Pur.pf⟩
  simp only [aO]
  rw [e5 (by rw [hlt])]
  unfold gY cO;rw [if_neg hk,if_neg hk]
theorem Eg (m:List Cl) (hm:OkM m) (v:Int):PC Tryz.prog 249 [sl bJ m,iv v] (fun r => r = .tup (if 0 ≤ v ∧ v ≤ 9 ∧ m.length < 200 then [sl bJ (m ++ [o9 v]),.agg [iv m.length,iv 0],bv true] else [sl bJ [],.agg [iv 0,iv 0],bv false])):=by
 have hml := hm.l
 have hcv := oN m (by omega)
 rw [decide_eq_true hm] at hcv
 refine aB Tryz.func249 Tryz.ntmps249 ?_
 repeat' (first|(apply aF;first|(apply fD;rfl;exact fZ m hm;rfl;rfl)|(apply aA (k := 272);rfl;exact hcv;exact Pur.pf;rfl)|(apply aJ (t := _);rfl;rfl;rfl;(first|exact (rfl:_=some [_,_])|exact (rfl:_=some [_,_,_,_])|rfl);rfl;rfl))|refine aE ?_|(refine aK ?_ ?_ <;> intro hc hq <;> try (exfalso;omega))|(refine bQ ?_ ?_ <;> intro hg hq <;> try (exfalso;omega))|fail)
 all_goals try exact aC (l := [sl bJ [],.agg [iv 0,iv 0],bv false]) rfl ⟨by rw [if_neg (by omega)]; rfl,rfl⟩
 have e : ((flat bJ m).drop 0).take (m.length * 4) ++ [iv v,bv true,iv 1,.imm 1 [iv 0,bv true]] = flat bJ (m ++ [o9 v]) := fO rfl rfl
 have e2 : AV.imm (m.length + 1) (((flat bJ m).drop 0).take (m.length * 4) ++ [iv v, bv true, iv 1, .imm 1 [iv 0, bv true]]) = sl bJ (m ++ [o9 v]) := by
  rw [e]; exact e5 (by rw [List.length_append]; rfl)
 refine aR (Le.frzD (d := 4) (i := 4) rfl rfl) ?_
 refine aC (l := [AV.imm (m.length + 1) (((flat bJ m).drop 0).take (m.length * 4) ++ [iv v,bv true,iv 1,.imm 1 [iv 0,bv true]]),.agg [iv m.length,iv 0],bv true]) rfl ?_
 rw [e2,if_pos (by omega)]
 exact ⟨rfl,by exact Pur.pf⟩
def pE (m : List Cl) (j : Nat) (r : List Tg) : Prop := r.length = 200 ∨ m[j]!.next = 1000
instance (m : List Cl) (j : Nat) (r : List Tg) : Decidable (pE m j r) := by unfold pE;infer_instance
def kC (m b : List Cl) (j : Nat) (u : Bool) (r : List Tg) : List Cl := if pE m j r then b else m.set j (psh { m[j]! with stk := r } u)
def kB (m : List Cl) (j : Nat) (r : List Tg) : Pt := if pE m j r then ⟨0,0⟩ else ⟨j,m[j]!.next⟩
def kA (m : List Cl) (j : Nat) (r : List Tg) : Int := if pE m j r then 4 else 0
theorem xY {m b:List Cl}{j:Nat}{u:Bool}{r:List Tg}{n k:Nat}{x0 x1 x2 x3:Operand}{i0 i1:Nat}(ha0:ev (lk tsl) x0 = some (.own i0 0 n 4)) (ha1:ev (lk tsl) x1 = some (sl bJ b)) (ha2:ev (lk tsl) x2 = some (iv (j:Int))) (ha3:ev (lk tsl) x3 = some (bv u)) (hH0:aV hsl i0 = some (flat e7 (dB m j (.own i1 0 k 2)))) (hH1:aV hsl i1 = some (flat cG r)) (hdd:Go.AL.distinct [i0,i1] = true) (hmc:MC Tryz.prog 283 [.own 0 0 n 4,sl bJ b,iv (j:Int),bv u] [(0,some (flat e7 (dB m j (.own 1 0 k 2)))),(1,some (flat cG r))] 2 (fun _:Unit => True) (fun _ => .tup [sl bJ (kC m b j u r),n6 (kB m j r),iv (kA m j r)]) (fun _ => [])) (hM:Nat.ble (nidl + 0) a6 = true) (hN:Nat.blt d N = true){md':Md}[hmd:MdA md (fI [x0,x1,x2,x3] ++ [.inr i0,.inr i1]) (List.map Sum.inr (List.map Prod.fst ([(i0,none),(i1,none)]:List (Nat × Option (List AV)))) ++ [.inl d]) md'] (kk:RW Tryz.prog N all Q md' rest ⟨(d,.tup [sl bJ (kC m b j u r),n6 (kB m j r),iv (kA m j r)]) :: tsl,gE hsl [(i0,none),(i1,none)],nidl + 0,z0⟩):RW Tryz.prog N all Q md (⟨some d,.call ⟨.value (.func 283),#[x0,x1,x2,x3],tys⟩,ty,pos,af,none⟩ :: rest) ⟨tsl,hsl,nidl,z0⟩:=by
 exact aX (l := [x0,x1,x2,x3]) [i0,i1] 2 [(i0,none),(i1,none)] hmc (avs := [.own i0 0 n 4,sl bJ b,iv (j : Int),bv u]) (by simp only [evL,ha0,ha1,ha2,ha3]) hdd hM hN (md' := md') (hmd := hmd) kk
theorem BJ (m b:List Cl) (j:Nat) (u:Bool) (r:List Tg) (n k:Nat) (hb:OkM b) (hn:n = m.length) (hk:k = r.length) (hj:j < m.length) (hnx:0 ≤ m[j]!.next ∧ m[j]!.next ≤ 1000) (hr:r.length ≤ 200) (hml:m.length ≤ 200):MC Tryz.prog 283 [.own 0 0 n 4,sl bJ b,iv (j:Int),bv u] [(0,some (flat e7 (dB m j (.own 1 0 k 2)))),(1,some (flat cG r))] 2 (fun _:Unit => True) (fun _ => .tup [sl bJ (kC m b j u r),n6 (kB m j r),iv (kA m j r)]) (fun _ => []):=by
 have hol := c7 (m := m) (j := j) (X := .own 1 0 k 2)
 have hog := iC (m := m) (j := j) (X := .own 1 0 k 2) hj
 have hol2 := c7 (m := m) (j := j) (X := .own (2 + 1 + 1 + 1) 0 (r.length + 1) 2)
 subst hn hk
 refine aW Tryz.func283 Tryz.ntmps283 ?_
 repeat' (first|(apply aF;(with_reducible apply aY (d := 11)))|refine aE ?_|fail)
 refine bY ?_
 rw [hog]
 dsimp only
 repeat' (first|(apply aF;first|(apply aA (k := 273);rfl;exact KN b hb;exact Pur.pf;rfl)|(apply bZ;rfl;rfl;rfl;rfl;rfl;(rw [aI]; omega);(rfl);omega;omega;(exact wX (by (omega)));rfl;rfl)|(apply bD;rfl;rfl;rfl;rfl;rfl;(case hl => (first|decide|(rw [aI]; simp only [gA] <;> omega)|(simp;done)));(first|exact vP (by (assumption))|exact zV (by (assumption))))|(apply aJ (t := _);rfl;rfl;rfl;(exact (rfl:_=some [_,_]));rfl;rfl))|refine aE ?_|(refine aK ?_ ?_ <;> intro hc hq <;> try (exfalso;omega))|(refine bQ ?_ ?_ <;> intro hg hq <;> try (exfalso;omega))|fail)
 ·have hf : pE m j r := .inr (by assumption)
  refine aC (l := [sl bJ b,.agg [iv 0,iv 0],iv 4]) rfl ?_
  refine aS () trivial ?_ trivial
  unfold kC kB kA;rw [if_pos hf,if_pos hf,if_pos hf]; rfl
 ·have hf : ¬ pE m j r := by unfold pE; omega
  have hm2 : (m.set j { m[j]! with next := m[j]!.next + 1 }).length = m.length := List.length_set
  refine aR (Le.cls (o := 0) (q := 5) (j := j) (k := r.length + 1) (m := m.set j { m[j]! with next := m[j]!.next + 1 }) (r := r ++ [⟨m[j]!.next,u⟩]) rfl rfl (by rw [List.length_append]; rfl) (by omega) (by decide)) ?_
  refine aR (Le.frzD (d := 8) (i := 0) rfl rfl) ?_
  have e : (m.set j { m[j]! with next := m[j]!.next + 1 }).set j { (m.set j { m[j]! with next := m[j]!.next + 1 })[j]! with stk := r ++ [⟨m[j]!.next, u⟩] } = m.set j (psh { m[j]! with stk := r } u) := by
   rw [l8 hj,set_set]; rfl
  rw [e]
  refine aC (l := [.imm m.length (flat bJ (m.set j (psh { m[j]! with stk := r } u))),.agg [iv (j : Int),iv m[j]!.next],iv 0]) rfl ?_
  refine aS () trivial ?_ trivial
  unfold kC kB kA;rw [if_neg hf,if_neg hf,if_neg hf,e5 (by rw [List.length_set])]; rfl
 ·have hf : pE m j r := .inl (by omega)
  refine aC (l := [sl bJ b,.agg [iv 0,iv 0],iv 4]) rfl ?_
  refine aS () trivial ?_ trivial
  unfold kC kB kA;rw [if_pos hf,if_pos hf,if_pos hf]; rfl
theorem Dn {stk r:List Tg}{k:Nat}{x0 x1:Operand}(ha0:ev (lk tsl) x0 = some (sl cG stk)) (ha1:ev (lk tsl) x1 = some (iv (k:Int))) (hmc:MC Tryz.prog 277 [sl cG stk,iv (k:Int)] [] 0 (fun _:Unit => True) (fun _ => .own 1 0 r.length 2) (fun _ => [(1,some (flat cG r))])) (hM:Nat.ble (nidl + 2) a6 = true) (hN:Nat.blt d N = true){md':Md}[hmd:MdA md (fI [x0,x1] ++ []) (List.map Sum.inr (List.map Prod.fst ([((nidl + 1),some (flat cG r))]:List (Nat × Option (List AV)))) ++ [.inl d]) md'] (kk:RW Tryz.prog N all Q md' rest ⟨(d,.own (nidl + 1) 0 r.length 2) :: tsl,gE hsl [((nidl + 1),some (flat cG r))],nidl + 2,z0⟩):RW Tryz.prog N all Q md (⟨some d,.call ⟨.value (.func 277),#[x0,x1],tys⟩,ty,pos,af,none⟩ :: rest) ⟨tsl,hsl,nidl,z0⟩:=by
 exact aX (l := [x0,x1]) [] 2 [((nidl + 1),some (flat cG r))] hmc (avs := [sl cG stk,iv (k : Int)]) (by simp only [evL,ha0,ha1]) rfl hM hN (md' := md') (hmd := hmd) kk
theorem Hk (stk r:List Tg) (k:Nat) (hr:r = eZ stk k false) (hk:k < stk.length) (hl:stk.length ≤ 1000000):MC Tryz.prog 277 [sl cG stk,iv (k:Int)] [] 0 (fun _:Unit => True) (fun _ => .own 1 0 r.length 2) (fun _ => [(1,some (flat cG r))]):=by
 have e1 : List.take (((k : Int) + 1).toNat - 0) (List.drop 0 stk) = stk.take (k + 1) := by rw [List.drop_zero]; congr 1
 have e2 : (stk.take (k + 1)).length = k + 1 := by rw [List.length_take]; omega
 refine aW Tryz.func277 Tryz.ntmps277 ?_
 repeat' (first|(apply aF;(with_reducible apply aY (d := 12)))|refine aE ?_|fail)
 refine bY ?_
 rw [e1]
 repeat' (first|refine aE ?_|fail)
 refine aH (σ := Nat × List Tg × Nat) [0] [] (fun s => [(6,iv (s.1 : Int)),(5,.own 1 0 s.2.2 2)]) (fun s => [(1,some (flat cG s.2.1))]) (fun s => k + 1 ≤ s.1 ∧ s.1 ≤ stk.length ∧ s.2.1 = stk.take (k + 1) ++ ((stk.drop (k + 1)).take (s.1 - (k + 1))).filter (fun t => !t.uq) ∧ s.2.2 = s.2.1.length ∧ s.2.2 ≤ s.1) (fun s => stk.length - s.1) (k + 1,stk.take (k + 1),0 + (stk.take (k + 1)).length) ⟨Nat.le_refl _,by dsimp only;omega,by simp,by dsimp only;omega,by dsimp only;omega⟩ ?_
 rintro ⟨i,xs,n⟩ ⟨hki,hi,hxs,hn,hni⟩
 dsimp only at hki hi hxs hn hni ⊢
 repeat' (first|(apply aF;first|(apply bZ;rfl;rfl;rfl;rfl;rfl;(rw [aI]; omega);(rfl);omega;omega;(exact wX (by (assumption)));rfl;rfl)|(apply aJ (t := _);rfl;rfl;rfl;(exact (rfl:_=some [_,_]));rfl;rfl))|refine aE ?_|(refine aK ?_ ?_ <;> intro hc hq <;> try (exfalso;omega))|fail)
 ·(refine bC (i + 1, _, _) (Le.renA [(1, 3)]) ?_ ?_)
  ·refine ⟨by dsimp only; omega, by dsimp only; omega, ?_, by dsimp only; rw [List.length_append, hn]; rfl, by dsimp only; omega⟩
   dsimp only
   rw [hxs,kI stk hki (by omega),List.filter_append,List.append_assoc]
   congr 2
   have hu : stk[i]!.uq = false := by assumption
   rw [rI (by rw [hu]; rfl)]
  ·dsimp only;omega
 ·(refine bC (i + 1, xs, n) (Le.renA [(1, 1)]) ?_ ?_)
  ·refine ⟨by dsimp only; omega, by dsimp only; omega, ?_, hn, by dsimp only; omega⟩
   dsimp only
   have hu : stk[i]!.uq = true := by assumption
   rw [hxs,kI stk hki (by omega),List.filter_append,nT (by rw [hu]; rfl),List.append_nil]
  ·dsimp only;omega
 ·have hie : i = stk.length := by omega
  have hd : (stk.drop (k + 1)).take (stk.length - (k + 1)) = stk.drop (k + 1) := List.take_of_length_le (by rw [List.length_drop]; exact Nat.le_refl _)
  have hxr : xs = r := by rw [hxs,hie,hd,hr]; rfl
  subst hxr
  (refine aC rfl ?_; refine aS () trivial ?_ ⟨sE ?_,trivial⟩)
  ·rw [hn]; rfl
  ·rfl
theorem Je {m:List Cl}{x:Pt}{j:Nat}{r:List Tg}{v:Int}{x0 x1:Operand}(ha0:ev (lk tsl) x0 = some (sl bJ m)) (ha1:ev (lk tsl) x1 = some (n6 x)) (hmc:MC Tryz.prog 252 [sl bJ m,n6 x] [] 0 (fun _:Unit => True) (fun _ => .tup [.own 1 0 m.length 4,iv v,iv 0]) (fun _ => [(1,some (flat e7 (dB m j (.own 3 0 r.length 2)))),(3,some (flat cG r))])) (hM:Nat.ble (nidl + 4) a6 = true) (hN:Nat.blt d N = true){md':Md}[hmd:MdA md (fI [x0,x1] ++ []) (List.map Sum.inr (List.map Prod.fst ([((nidl + 1),some (flat e7 (dB m j (.own (nidl + 3) 0 r.length 2)))),((nidl + 3),some (flat cG r))]:List (Nat × Option (List AV)))) ++ [.inl d]) md'] (kk:RW Tryz.prog N all Q md' rest ⟨(d,.tup [.own (nidl + 1) 0 m.length 4,iv v,iv 0]) :: tsl,gE hsl [((nidl + 1),some (flat e7 (dB m j (.own (nidl + 3) 0 r.length 2)))),((nidl + 3),some (flat cG r))],nidl + 4,z0⟩):RW Tryz.prog N all Q md (⟨some d,.call ⟨.value (.func 252),#[x0,x1],tys⟩,ty,pos,af,none⟩ :: rest) ⟨tsl,hsl,nidl,z0⟩:=by
 exact aX (l := [x0,x1]) [] 4 [((nidl + 1),some (flat e7 (dB m j (.own (nidl + 3) 0 r.length 2)))),((nidl + 3),some (flat cG r))] hmc (avs := [sl bJ m,n6 x]) (by simp only [evL,ha0,ha1]) rfl hM hN (md' := md') (hmd := hmd) kk
theorem Oi (m:List Cl) (x:Pt) (j:Nat) (r:List Tg) (v:Int) (hm:OkM m) (hk:a7 m x false = 0) (hj:j = x.cell.toNat) (hr:r = eZ m[j]!.stk (b8 m[j]!.stk x.tag).toNat false) (hv:v = m[j]!.val):MC Tryz.prog 252 [sl bJ m,n6 x] [] 0 (fun _:Unit => True) (fun _ => .tup [.own 1 0 m.length 4,iv v,iv 0]) (fun _ => [(1,some (flat e7 (dB m j (.own 3 0 r.length 2)))),(3,some (flat cG r))]):=by
 subst hj
 have hml := hm.l
 have hst : 0 ≤ x.cell → x.cell < m.length → m[x.cell.toNat]!.stk.length ≤ 1000000 := fun h1 h2 => Nat.le_trans (((cX m).1 hm).2 x.cell.toNat (by omega)).l.2 (by decide)
 have hpl := lH m hm x
 rw [if_pos hk,hk] at hpl
 obtain ⟨h1,h2,h3,h4,_⟩ := dQ hk
 have hbd := dY m[x.cell.toNat]!.stk x.tag
 have hrd := Hk m[x.cell.toNat]!.stk r (b8 m[x.cell.toNat]!.stk x.tag).toNat hr (by omega) (hst h1 h2)
 rw [Int.toNat_of_nonneg h4] at hrd
 obtain ⟨k,hkk⟩ := Int.eq_ofNat_of_zero_le h4
 rw [hkk] at hpl hrd
 refine aW Tryz.func252 Tryz.ntmps252 ?_
 repeat' (first|(apply aF;first|(apply fD;rfl;exact fZ m hm;rfl;rfl)|(apply aA (k := 276);rfl;exact hpl;exact Pur.pf;rfl)|(apply Dn;rfl;rfl;exact hrd;rfl;rfl)|(apply bD;rfl;rfl;rfl;rfl;rfl;(rw [aI]; simp only [gA] <;> omega);(exact Bb (by (omega)))))|refine aE ?_|refine bS ?_|fail)
 (refine aC rfl ?_; refine aS () trivial ?_ ⟨sE ?_,⟨sE ?_,trivial⟩⟩)
 ·rw [hv]; rfl
 ·rfl
 ·rfl
theorem GH {m:List Cl}{x:Pt}{j:Nat}{r:List Tg}{x0 x1:Operand}(ha0:ev (lk tsl) x0 = some (sl bJ m)) (ha1:ev (lk tsl) x1 = some (n6 x)) (hmc:MC Tryz.prog 271 [sl bJ m,n6 x] [] 0 (fun _:Unit => True) (fun _ => .tup [.own 1 0 m.length 4,iv 0]) (fun _ => [(1,some (flat e7 (dB m j (.own 3 0 r.length 2)))),(3,some (flat cG r))])) (hM:Nat.ble (nidl + 4) a6 = true) (hN:Nat.blt d N = true){md':Md}[hmd:MdA md (fI [x0,x1] ++ []) (List.map Sum.inr (List.map Prod.fst ([((nidl + 1),some (flat e7 (dB m j (.own (nidl + 3) 0 r.length 2)))),((nidl + 3),some (flat cG r))]:List (Nat × Option (List AV)))) ++ [.inl d]) md'] (kk:RW Tryz.prog N all Q md' rest ⟨(d,.tup [.own (nidl + 1) 0 m.length 4,iv 0]) :: tsl,gE hsl [((nidl + 1),some (flat e7 (dB m j (.own (nidl + 3) 0 r.length 2)))),((nidl + 3),some (flat cG r))],nidl + 4,z0⟩):RW Tryz.prog N all Q md (⟨some d,.call ⟨.value (.func 271),#[x0,x1],tys⟩,ty,pos,af,none⟩ :: rest) ⟨tsl,hsl,nidl,z0⟩:=by
 exact aX (l := [x0,x1]) [] 4 [((nidl + 1),some (flat e7 (dB m j (.own (nidl + 3) 0 r.length 2)))),((nidl + 3),some (flat cG r))] hmc (avs := [sl bJ m,n6 x]) (by simp only [evL,ha0,ha1]) rfl hM hN (md' := md') (hmd := hmd) kk
theorem Lh (m:List Cl) (x:Pt) (j:Nat) (r:List Tg) (hm:OkM m) (hk:a7 m x true = 0) (hj:j = x.cell.toNat) (hr:r = eZ m[j]!.stk (b8 m[j]!.stk x.tag).toNat true):MC Tryz.prog 271 [sl bJ m,n6 x] [] 0 (fun _:Unit => True) (fun _ => .tup [.own 1 0 m.length 4,iv 0]) (fun _ => [(1,some (flat e7 (dB m j (.own 3 0 r.length 2)))),(3,some (flat cG r))]):=by
 subst hj
 have hml := hm.l
 obtain ⟨h1,h2,h3,h4,hu⟩ := dQ hk
 have hk0 : a7 m x false = 0 := tG h1 h2 h3 h4
 have hs2 : m[x.cell.toNat]!.stk.length ≤ 200 := (((cX m).1 hm).2 x.cell.toNat (by omega)).l.2
 have hpl := lH m hm x
 rw [if_pos hk0,hk0] at hpl
 have hbd := dY m[x.cell.toNat]!.stk x.tag
 obtain ⟨k,hkk⟩ := Int.eq_ofNat_of_zero_le h4
 have hkt : (b8 m[x.cell.toNat]!.stk x.tag).toNat = k := by omega
 rw [hkk] at hpl
 rw [hkt] at hr hu
 have hkn : k < m[x.cell.toNat]!.stk.length := by omega
 have e1 : List.take (((k : Int) + 1).toNat - 0) (List.drop 0 m[x.cell.toNat]!.stk) = r := by rw [List.drop_zero,hr]; unfold eZ;rw [if_pos rfl]; congr 1
 have e2 : r.length = k + 1 := by rw [← e1,List.drop_zero,List.length_take]; omega
 have hut := hu rfl
 refine aW Tryz.func271 Tryz.ntmps271 ?_
 repeat' (first|(apply aF;first|(apply fD;rfl;exact fZ m hm;rfl;rfl)|(apply aA (k := 276);rfl;exact hpl;exact Pur.pf;rfl)|(with_reducible apply aY (d := 46)))|refine aE ?_|(refine aK ?_ ?_ <;> intro hc hq <;> try (exfalso;omega))|refine bS ?_|fail)
 ·exfalso; have hf : m[x.cell.toNat]!.stk[k]!.uq = false := by assumption
  rw [hut] at hf;exact absurd hf (by decide)
 refine bY ?_
 rw [e1]
 repeat' (first|(apply aF;(apply bD;rfl;rfl;rfl;rfl;rfl;(rw [aI]; simp only [gA] <;> omega);(exact Bb (by (omega)))))|refine aE ?_|fail)
 (refine aC rfl ?_; refine aS () trivial ?_ ⟨sE ?_,⟨sE ?_,trivial⟩⟩)
 ·rfl
 ·rw [Nat.zero_add r.length]
 ·rfl
theorem mF {m:List Cl}{x:Pt}{u:Bool}{r:List Tg}(hk:a7 m x u = 0) (hr:r = eZ m[x.cell.toNat]!.stk (b8 m[x.cell.toNat]!.stk x.tag).toNat u):kZ m x u = kA m x.cell.toNat r ∧ j9 m x u = kC m m x.cell.toNat u r ∧ qM m x u = kB m x.cell.toNat r:=by
 obtain ⟨h1,h2,_⟩ := dQ hk
 subst hr
 have e : kZ m x u = kA m x.cell.toNat (eZ m[x.cell.toNat]!.stk (b8 m[x.cell.toNat]!.stk x.tag).toNat u) := by
  unfold kZ;rw [if_pos hk]; rfl
 refine ⟨e,?_,?_⟩
 ·unfold j9 kC
  rw [e]; unfold kA
  split
  ·rw [if_neg (by decide)]
  ·rw [if_pos rfl]; rfl
 ·unfold qM kB
  rw [e]; unfold kA
  split
  ·rw [if_neg (by decide)]
  ·rw [if_pos rfl,Int.toNat_of_nonneg h1]
theorem JW {m:List Cl}{x:Pt}{u:Bool}(hk:a7 m x u ≠ 0):kZ m x u = a7 m x u ∧ j9 m x u = m ∧ qM m x u = ⟨0,0⟩:=by
 have e : kZ m x u = a7 m x u := by unfold kZ;rw [if_neg hk]
 exact ⟨e,by unfold j9;rw [if_neg (by rw [e]; exact hk)],by unfold qM;rw [if_neg (by rw [e]; exact hk)]⟩
theorem AO (m:List Cl) (hm:OkM m) (x:Pt):PC Tryz.prog 274 [sl bJ m,n6 x] (fun r => r = .tup [sl bJ (j9 m x false),n6 (qM m x false),iv (kZ m x false)]):=by
 have hml := hm.l
 by_cases hk : a7 m x false = 0
 ·obtain ⟨c, t⟩ := x
  obtain ⟨h1,h2,_⟩ := dQ hk
  have h1' : 0 ≤ c := h1
  obtain ⟨j,rfl⟩ := Int.eq_ofNat_of_zero_le h1'
  have h2' : (j : Int) < m.length := h2
  have hc := ((cX m).1 hm).2 j (by omega)
  obtain ⟨r,hr⟩ : ∃ r,r = eZ m[j]!.stk (b8 m[j]!.stk t).toNat false := ⟨_,rfl⟩
  have hrl : r.length ≤ 200 := by rw [hr]; exact Nat.le_trans tchS_sub.length_le hc.l.2
  obtain ⟨e1,e2,e3⟩ := mF hk hr
  have hpu := BJ m m j false r m.length r.length hm rfl rfl (by omega) (by have := hc.n;omega) hrl hml
  rw [e1,e2,e3]
  refine aB Tryz.func274 Tryz.ntmps274 ?_
  repeat' (first|(apply aF;first|(apply Je (j := j) (r := r) (v := m[j]!.val);rfl;rfl;exact Oi m _ _ r _ hm hk rfl hr rfl;rfl;rfl)|(apply xY (m := m) (b := m) (j := j) (u := false) (r := r) (n := m.length) (k := r.length);rfl;rfl;rfl;rfl;rfl;rfl;rfl;exact hpu;rfl;rfl))|refine aE ?_|fail)
  exact aC (l := [sl bJ (kC m m j false r),.agg [iv (kB m j r).cell,iv (kB m j r).tag],iv (kA m j r)]) rfl ⟨rfl,by exact Pur.pf⟩
 ·obtain ⟨e1, e2, e3⟩ := JW hk
  have hrd := sO m hm x
  have e4 : cO m x false = m := by unfold cO;rw [if_neg hk]
  rw [e4] at hrd
  rw [e1,e2,e3]
  refine aB Tryz.func274 Tryz.ntmps274 ?_
  repeat' (first|(apply aF;(apply aA (k := 252);rfl;exact hrd;exact Pur.pf;rfl))|refine aE ?_|(refine aK ?_ ?_ <;> intro hc hq <;> try (exfalso;omega))|fail)
  skip
  exact aC (l := [sl bJ m,.agg [iv 0,iv 0],iv (a7 m x false)]) rfl ⟨rfl,by exact Pur.pf⟩
theorem xM (m:List Cl) (hm:OkM m) (x:Pt):PC Tryz.prog 275 [sl bJ m,n6 x] (fun r => r = .tup [sl bJ (j9 m x true),n6 (qM m x true),iv (kZ m x true)]):=by
 have hml := hm.l
 by_cases hk : a7 m x true = 0
 ·obtain ⟨c, t⟩ := x
  obtain ⟨h1,h2,_⟩ := dQ hk
  have h1' : 0 ≤ c := h1
  obtain ⟨j,rfl⟩ := Int.eq_ofNat_of_zero_le h1'
  have h2' : (j : Int) < m.length := h2
  have hc := ((cX m).1 hm).2 j (by omega)
  obtain ⟨r,hr⟩ : ∃ r,r = eZ m[j]!.stk (b8 m[j]!.stk t).toNat true := ⟨_,rfl⟩
  have hrl : r.length ≤ 200 := by rw [hr]; exact Nat.le_trans tchS_sub.length_le hc.l.2
  obtain ⟨e1,e2,e3⟩ := mF hk hr
  have hpu := BJ m m j true r m.length r.length hm rfl rfl (by omega) (by have := hc.n;omega) hrl hml
  rw [e1,e2,e3]
  refine aB Tryz.func275 Tryz.ntmps275 ?_
  repeat' (first|(apply aF;first|(apply GH (j := j) (r := r);rfl;rfl;exact Lh m _ _ r hm hk rfl hr;rfl;rfl)|(apply xY (m := m) (b := m) (j := j) (u := true) (r := r) (n := m.length) (k := r.length);rfl;rfl;rfl;rfl;rfl;rfl;rfl;exact hpu;rfl;rfl))|refine aE ?_|fail)
  exact aC (l := [sl bJ (kC m m j true r),.agg [iv (kB m j r).cell,iv (kB m j r).tag],iv (kA m j r)]) rfl ⟨rfl,by exact Pur.pf⟩
 ·obtain ⟨e1, e2, e3⟩ := JW hk
  have hwr := jV m x hm
  have e4 : cO m x true = m := by unfold cO;rw [if_neg hk]
  rw [e1,e2,e3]
  refine aB Tryz.func275 Tryz.ntmps275 ?_
  repeat' (first|(apply aF;(apply iQ;rfl;rfl;exact hwr;rfl;rfl))|refine aE ?_|(refine aK ?_ ?_ <;> intro hc hq <;> try (exfalso;omega))|fail)
  refine aR (Le.frzD (d := 4) (i := 3) (m := m.length) (cs := flat bJ (cO m x true)) rfl rfl) ?_
  rw [e4]
  exact aC (l := [sl bJ m,.agg [iv 0,iv 0],iv (a7 m x true)]) rfl ⟨rfl,by exact Pur.pf⟩
abbrev fX (s : Mc) : AV := .agg [sl dC s.slots,sl bJ s.cells,sl cI s.read]
theorem yC {xs:List Sl}{k:Nat}{a:Bool}{b c d:Int}(hk:k < xs.length):g6 (flat dC xs) (0 + k * 4) [bv a,iv b,iv c,iv d] = flat dC (xs.set k ⟨a,b,⟨c,d⟩⟩) := iW hk rfl
theorem rV (s:Mc) (v:Nat) (hv:v < s.slots.length) (hl:s.slots.length ≤ 1000000):PC Tryz.prog 247 [fX s,iv (v:Int)] (fun r => r = fX ⟨s.slots.set v gD,s.cells,s.read⟩):=by
 refine aB Tryz.func247 Tryz.ntmps247 ?_
 repeat' (first|(apply aF;(apply bD;rfl;rfl;rfl;rfl;rfl;(case hl => (first|(rw [aI]; simp only [gA] <;> omega)|(simp;done)));(exact yC (by (assumption)))))|refine aE ?_|fail)
 refine aR (Le.frzC (j := 1) (i := 3) [] rfl rfl (by decide)) ?_
 have e : AV.imm (0 + s.slots.length) (flat dC (s.slots.set v gD)) = sl dC (s.slots.set v gD) := e5 (by rw [List.length_set,Nat.zero_add])
 refine aC (l := [.agg [.imm (0 + s.slots.length) (flat dC (s.slots.set v gD)),sl bJ s.cells,sl cI s.read]]) rfl ?_
 rw [e]
 exact ⟨rfl,by exact Pur.pf⟩
theorem LC (k:Int):(if kP k = -1 then (0:Int) else kP k) = if k = 1 then 3 else if k = 0 then 0 else 4:=by
 unfold kP eG
 by_cases h : k = 0
 ·subst h;rfl
 ·rw [if_neg h, if_neg h]
  by_cases h1 : k = 1
  ·rw [if_pos h1]; rfl
  ·rw [if_neg h1]; rfl
theorem lL (ts:List Int) (s:Mc) (v:Nat) (y:Sl) (hm:OkM s.cells) (hv:v < s.slots.length) (hvt:v < ts.length) (hl:s.slots.length ≤ 1000000):PC Tryz.prog 248 [sl cI ts,fX s,iv (v:Int),Ih y] (fun r => r = .tup [fX (bI ts s v y).1,iv (if (bI ts s v y).2 = -1 then 0 else (bI ts s v y).2)]):=by
 have hfc := nC s.cells hm s.slots[v]!.ptr
 refine aB Tryz.func248 Tryz.ntmps248 ?_
 repeat' (first|(apply aF;first|(apply aA (k := 245);rfl;exact hfc;exact Pur.pf;rfl)|(apply bD;rfl;rfl;rfl;rfl;rfl;(case hl => (first|(rw [aI]; simp only [gA] <;> omega)|(simp;done)));(exact yC (by (assumption))))|(apply aA (k := 246);rfl;(apply k7);(rfl);rfl))|refine aE ?_|(refine aK ?_ ?_ <;> intro hc hq <;> try (exfalso;omega))|(refine bQ ?_ ?_ <;> intro hg hq <;> try (exfalso;omega))|refine bS ?_|fail)
 all_goals (
  refine aR (Le.frzC (j := 2) (i := 4) [] rfl rfl (by decide)) ?_
  have e : AV.imm (0 + s.slots.length) (flat dC (s.slots.set v y)) = sl dC (s.slots.set v y) := e5 (by rw [List.length_set,Nat.zero_add]))
 ·have hp : bI ts s v y = (⟨s.slots.set v y, gY s.cells s.slots[v]!.ptr, s.read⟩, kP (a7 s.cells s.slots[v]!.ptr true)) := if_pos ⟨by assumption, by assumption⟩
  refine aC (l := [.agg [.imm (0 + s.slots.length) (flat dC (s.slots.set v y)),sl bJ (gY s.cells s.slots[v]!.ptr),sl cI s.read],iv (if a7 s.cells s.slots[v]!.ptr true = 1 then 3 else if a7 s.cells s.slots[v]!.ptr true = 0 then 0 else 4)]) rfl ?_
  rw [e,hp]
  dsimp only
  rw [LC]
  exact ⟨rfl,by exact Pur.pf⟩
 all_goals (
  have hp : bI ts s v y = (⟨s.slots.set v y, s.cells, s.read⟩, -1) := if_neg (by
   rintro ⟨q1,q2⟩
   first|(exact (by assumption : ¬ ts[v]! = 2) q1)|(rw [(by assumption : s.slots[v]!.set = false)] at q2;exact absurd q2 (by decide)))
  refine aC (l := [.agg [.imm (0 + s.slots.length) (flat dC (s.slots.set v y)),sl bJ s.cells,sl cI s.read],iv 0]) rfl ?_
  rw [e,hp]
  exact ⟨rfl,by exact Pur.pf⟩)
def gk (e : Int) : Int := if e = -1 then 0 else e
theorem OB {t:Int}(h:t = 2 ∨ t = 4):w9 t = true:=by
 unfold w9;rcases h with h|h <;> subst h <;> rfl
theorem RU {t:Int}(h:¬ t = 2) (h2:¬ t = 4):¬ w9 t = true:=by
 unfold w9;rw [decide_eq_false h,decide_eq_false h2]; decide
theorem zZ {k:Int}(h:¬ k = 0):(if k = 1 then (3:Int) else if k = 0 then 0 else 4) = eG k:=by
 unfold eG;rw [if_neg h]
theorem OE {m:List Cl}{x:Pt}{u:Bool}(h:¬ kZ m x u = 0):j9 m x u = m := by unfold j9;rw [if_neg h]
theorem Io (ts:List Int) (s:Mc) (x:Pnt) (hm:OkM s.cells) (hsl:s.slots.length = ts.length) (hx:0 ≤ x.x ∧ x.x < ts.length) (hy:0 ≤ x.y ∧ x.y < ts.length) (hl:ts.length ≤ 1000000):PC Tryz.prog 250 [sl cI ts,fX s,dP x] (fun r => r = .tup [fX (bI ts (if w9 ts[x.y.toNat]! = true then ⟨s.slots.set x.y.toNat gD,s.cells,s.read⟩ else s) x.x.toNat s.slots[x.y.toNat]!).1,iv (gk (bI ts (if w9 ts[x.y.toNat]! = true then ⟨s.slots.set x.y.toNat gD,s.cells,s.read⟩ else s) x.x.toNat s.slots[x.y.toNat]!).2)]):=by
 have hcl := rV s x.y.toNat (by omega) (by omega)
 have hp1 := lL ts ⟨s.slots.set x.y.toNat gD,s.cells,s.read⟩ x.x.toNat s.slots[x.y.toNat]! hm (by show _ < (s.slots.set x.y.toNat gD).length;rw [List.length_set]; omega) (by omega) (by show (s.slots.set x.y.toNat gD).length ≤ _; rw [List.length_set]; omega)
 have hp2 := lL ts s x.x.toNat s.slots[x.y.toNat]! hm (by omega) (by omega) (by omega)
 rw [Int.toNat_of_nonneg hy.1] at hcl
 rw [Int.toNat_of_nonneg hx.1] at hp1 hp2
 refine aB Tryz.func250 Tryz.ntmps250 ?_
 repeat' (first|(apply aF;first|(apply aA (k := 247);rfl;exact hcl;exact Pur.pf;rfl)|(apply aA (k := 248);rfl;(first|exact hp1|exact hp2);exact Pur.pf;rfl))|refine aE ?_|(refine aK ?_ ?_ <;> intro hc hq <;> try (exfalso;omega))|(refine bQ ?_ ?_ <;> intro hg hq <;> try (exfalso;omega))|fail)
 ·refine aC (l := [fX (bI ts ⟨s.slots.set x.y.toNat gD, s.cells, s.read⟩ x.x.toNat s.slots[x.y.toNat]!).1, iv (gk (bI ts ⟨s.slots.set x.y.toNat gD, s.cells, s.read⟩ x.x.toNat s.slots[x.y.toNat]!).2)]) rfl ⟨?_, by exact Pur.pf⟩
  rw [if_pos (OB (.inr (by assumption)))]; rfl
 ·refine aC (l := [fX (bI ts s x.x.toNat s.slots[x.y.toNat]!).1, iv (gk (bI ts s x.x.toNat s.slots[x.y.toNat]!).2)]) rfl ⟨?_, by exact Pur.pf⟩
  rw [if_neg (RU (by assumption) (by assumption))]; rfl
 ·refine aC (l := [fX (bI ts ⟨s.slots.set x.y.toNat gD, s.cells, s.read⟩ x.x.toNat s.slots[x.y.toNat]!).1, iv (gk (bI ts ⟨s.slots.set x.y.toNat gD, s.cells, s.read⟩ x.x.toNat s.slots[x.y.toNat]!).2)]) rfl ⟨?_, by exact Pur.pf⟩
  rw [if_pos (OB (.inl (by assumption)))]; rfl
theorem Jg (ts:List Int) (s:Mc) (x:Pnt) (u:Bool) (hu:u = decide (x.op = 5)) (hm:OkM s.cells) (hsl:s.slots.length = ts.length) (hx:0 ≤ x.x ∧ x.x < ts.length) (hy:0 ≤ x.y ∧ x.y < ts.length) (hl:ts.length ≤ 1000000):PC Tryz.prog 251 [sl cI ts,fX s,dP x] (fun r => r = if kZ s.cells s.slots[x.y.toNat]!.ptr u = 0 then
  .tup [fX (bI ts ⟨s.slots,j9 s.cells s.slots[x.y.toNat]!.ptr u,s.read⟩ x.x.toNat ⟨true,0,qM s.cells s.slots[x.y.toNat]!.ptr u⟩).1,iv (gk (bI ts ⟨s.slots,j9 s.cells s.slots[x.y.toNat]!.ptr u,s.read⟩ x.x.toNat ⟨true,0,qM s.cells s.slots[x.y.toNat]!.ptr u⟩).2)]
  else .tup [fX s,iv (eG (kZ s.cells s.slots[x.y.toNat]!.ptr u))]) := by
 have hsh := AO s.cells hm s.slots[x.y.toNat]!.ptr
 have hbo := xM s.cells hm s.slots[x.y.toNat]!.ptr
 have hp1 := lL ts ⟨s.slots,j9 s.cells s.slots[x.y.toNat]!.ptr false,s.read⟩ x.x.toNat ⟨true,0,qM s.cells s.slots[x.y.toNat]!.ptr false⟩ (hm.ln _ _) (by show _ < s.slots.length;omega) (by omega) (by show s.slots.length ≤ _; omega)
 have hp2 := lL ts ⟨s.slots,j9 s.cells s.slots[x.y.toNat]!.ptr true,s.read⟩ x.x.toNat ⟨true,0,qM s.cells s.slots[x.y.toNat]!.ptr true⟩ (hm.ln _ _) (by show _ < s.slots.length;omega) (by omega) (by show s.slots.length ≤ _; omega)
 rw [Int.toNat_of_nonneg hx.1] at hp1 hp2
 refine aB Tryz.func251 Tryz.ntmps251 ?_
 repeat' (first|(apply aF;first|(apply aA (k := 274);rfl;exact hsh;exact Pur.pf;rfl)|(apply aA (k := 275);rfl;exact hbo;exact Pur.pf;rfl)|(apply aA (k := 248) (avs := [sl cI ts,fX ⟨s.slots,j9 s.cells s.slots[x.y.toNat]!.ptr false,s.read⟩,iv x.x,Ih ⟨true,0,qM s.cells s.slots[x.y.toNat]!.ptr false⟩]);rfl;exact hp1;exact Pur.pf;rfl)|(apply aA (k := 248) (avs := [sl cI ts,fX ⟨s.slots,j9 s.cells s.slots[x.y.toNat]!.ptr true,s.read⟩,iv x.x,Ih ⟨true,0,qM s.cells s.slots[x.y.toNat]!.ptr true⟩]);rfl;exact hp2;exact Pur.pf;rfl)|(apply aA (k := 246);rfl;(apply k7);(rfl);rfl))|refine aE ?_|(refine aK ?_ ?_ <;> intro hc hq <;> try (exfalso;omega))|refine bS ?_|fail)
 ·have hk : ¬ kZ s.cells s.slots[x.y.toNat]!.ptr true = 0 := by assumption
  have hu2 : u = true := by rw [hu]; exact decide_eq_true (by assumption)
  subst hu2
  refine aC (l := [.agg [sl dC s.slots,sl bJ (j9 s.cells s.slots[x.y.toNat]!.ptr true),sl cI s.read],iv (if kZ s.cells s.slots[x.y.toNat]!.ptr true = 1 then 3 else if kZ s.cells s.slots[x.y.toNat]!.ptr true = 0 then 0 else 4)]) rfl ?_
  rw [zZ hk,if_neg hk,OE hk]
  exact ⟨rfl,by exact Pur.pf⟩
 ·have hk : kZ s.cells s.slots[x.y.toNat]!.ptr true = 0 := by assumption
  have hu2 : u = true := by rw [hu]; exact decide_eq_true (by assumption)
  subst hu2
  refine aC (l := [fX (bI ts ⟨s.slots,j9 s.cells s.slots[x.y.toNat]!.ptr true,s.read⟩ x.x.toNat ⟨true,0,qM s.cells s.slots[x.y.toNat]!.ptr true⟩).1,iv (gk (bI ts ⟨s.slots,j9 s.cells s.slots[x.y.toNat]!.ptr true,s.read⟩ x.x.toNat ⟨true,0,qM s.cells s.slots[x.y.toNat]!.ptr true⟩).2)]) rfl ⟨?_,by exact Pur.pf⟩
  rw [if_pos hk]; rfl
 ·have hk : ¬ kZ s.cells s.slots[x.y.toNat]!.ptr false = 0 := by assumption
  have hu2 : u = false := by rw [hu]; exact decide_eq_false (by assumption)
  subst hu2
  refine aC (l := [.agg [sl dC s.slots,sl bJ (j9 s.cells s.slots[x.y.toNat]!.ptr false),sl cI s.read],iv (if kZ s.cells s.slots[x.y.toNat]!.ptr false = 1 then 3 else if kZ s.cells s.slots[x.y.toNat]!.ptr false = 0 then 0 else 4)]) rfl ?_
  rw [zZ hk,if_neg hk,OE hk]
  exact ⟨rfl,by exact Pur.pf⟩
 ·have hk : kZ s.cells s.slots[x.y.toNat]!.ptr false = 0 := by assumption
  have hu2 : u = false := by rw [hu]; exact decide_eq_false (by assumption)
  subst hu2
  refine aC (l := [fX (bI ts ⟨s.slots,j9 s.cells s.slots[x.y.toNat]!.ptr false,s.read⟩ x.x.toNat ⟨true,0,qM s.cells s.slots[x.y.toNat]!.ptr false⟩).1,iv (gk (bI ts ⟨s.slots,j9 s.cells s.slots[x.y.toNat]!.ptr false,s.read⟩ x.x.toNat ⟨true,0,qM s.cells s.slots[x.y.toNat]!.ptr false⟩).2)]) rfl ⟨?_,by exact Pur.pf⟩
  rw [if_pos hk]; rfl
theorem PO (ts:List Int) (s:Mc) (x:Pnt) (ho:x.op = 1) (hm:OkM s.cells) (hsl:s.slots.length = ts.length) (hx:0 ≤ x.x ∧ x.x < ts.length) (hl:ts.length ≤ 1000000):PC Tryz.prog 215 [sl cI ts,fX s,dP x] (fun r => r = .tup [fX (bT ts s x).1,iv (gk (bT ts s x).2)]):=by
 have hp := lL ts s x.x.toNat ⟨true,x.n,⟨0,0⟩⟩ hm (by omega) (by omega) (by omega)
 rw [Int.toNat_of_nonneg hx.1] at hp
 have hd : bT ts s x = bI ts s x.x.toNat ⟨true,x.n,⟨0,0⟩⟩ := by unfold bT;rw [if_pos ho]
 rw [hd]
 refine aB Tryz.func215 Tryz.ntmps215 ?_
 repeat' (first|(apply aF;(apply aA (k := 248) (avs := [sl cI ts,fX s,iv x.x,Ih ⟨true,x.n,⟨0,0⟩⟩]);rfl;exact hp;exact Pur.pf;rfl))|refine aE ?_|(refine aK ?_ ?_ <;> intro hc hq <;> try (exfalso;omega))|fail)
 exact aC (l := [fX (bI ts s x.x.toNat ⟨true,x.n,⟨0,0⟩⟩).1,iv (gk (bI ts s x.x.toNat ⟨true,x.n,⟨0,0⟩⟩).2)]) rfl ⟨rfl,by exact Pur.pf⟩
theorem Pv (ts:List Int) (s:Mc) (x:Pnt) (ho:x.op = 2) (hm:OkM s.cells) (hsl:s.slots.length = ts.length) (hx:0 ≤ x.x ∧ x.x < ts.length) (hn:0 ≤ x.n ∧ x.n ≤ 9) (hl:ts.length ≤ 1000000):PC Tryz.prog 215 [sl cI ts,fX s,dP x] (fun r => r = .tup [fX (bT ts s x).1,iv (gk (bT ts s x).2)]):=by
 have hml := hm.l
 have hnc := Eg s.cells hm x.n
 by_cases h2 : s.cells.length = 200
 ·rw [if_neg (by omega)] at hnc
  have hd : bT ts s x = (s,1) := by unfold bT;rw [if_neg (by omega),if_pos ho,if_pos h2]
  rw [hd]
  refine aB Tryz.func215 Tryz.ntmps215 ?_
  repeat' (first|(apply aF;(apply aA (k := 249);rfl;exact hnc;exact Pur.pf;rfl))|refine aE ?_|(refine aK ?_ ?_ <;> intro hc hq <;> try (exfalso;omega))|fail)
  exact aC (l := [fX s,iv 1]) rfl ⟨rfl,by exact Pur.pf⟩
 ·rw [if_pos (by omega)] at hnc
  have hp := lL ts ⟨s.slots,s.cells ++ [o9 x.n],s.read⟩ x.x.toNat ⟨true,0,⟨s.cells.length,0⟩⟩ (hm.nw hn (by omega)) (by show _ < s.slots.length;omega) (by omega) (by show s.slots.length ≤ _; omega)
  rw [Int.toNat_of_nonneg hx.1] at hp
  have hd : bT ts s x = bI ts ⟨s.slots,s.cells ++ [o9 x.n],s.read⟩ x.x.toNat ⟨true,0,⟨s.cells.length,0⟩⟩ := by unfold bT;rw [if_neg (by omega),if_pos ho,if_neg h2]
  rw [hd]
  refine aB Tryz.func215 Tryz.ntmps215 ?_
  repeat' (first|(apply aF;first|(apply aA (k := 249);rfl;exact hnc;exact Pur.pf;rfl)|(apply aA (k := 248) (avs := [sl cI ts,fX ⟨s.slots,s.cells ++ [o9 x.n],s.read⟩,iv x.x,Ih ⟨true,0,⟨s.cells.length,0⟩⟩]);rfl;exact hp;exact Pur.pf;rfl))|refine aE ?_|(refine aK ?_ ?_ <;> intro hc hq <;> try (exfalso;omega))|fail)
  exact aC (l := [fX (bI ts ⟨s.slots,s.cells ++ [o9 x.n],s.read⟩ x.x.toNat ⟨true,0,⟨s.cells.length,0⟩⟩).1,iv (gk (bI ts ⟨s.slots,s.cells ++ [o9 x.n],s.read⟩ x.x.toNat ⟨true,0,⟨s.cells.length,0⟩⟩).2)]) rfl ⟨rfl,by exact Pur.pf⟩
theorem O1 (ts:List Int) (s:Mc) (x:Pnt) (ho:x.op = 3) (hm:OkM s.cells) (hsl:s.slots.length = ts.length) (hx:0 ≤ x.x ∧ x.x < ts.length) (hy:0 ≤ x.y ∧ x.y < ts.length) (hl:ts.length ≤ 1000000):PC Tryz.prog 215 [sl cI ts,fX s,dP x] (fun r => r = .tup [fX (bT ts s x).1,iv (gk (bT ts s x).2)]):=by
 have hmv := Io ts s x hm hsl hx hy hl
 have hd : bT ts s x = bI ts (if w9 ts[x.y.toNat]! = true then ⟨s.slots.set x.y.toNat gD,s.cells,s.read⟩ else s) x.x.toNat s.slots[x.y.toNat]! := by unfold bT;rw [if_neg (by omega),if_neg (by omega),if_pos ho]
 rw [← hd] at hmv
 refine aB Tryz.func215 Tryz.ntmps215 ?_
 repeat' (first|(apply aF;(apply aA (k := 250);rfl;exact hmv;exact Pur.pf;rfl))|refine aE ?_|(refine aK ?_ ?_ <;> intro hc hq <;> try (exfalso;omega))|fail)
 exact aC (l := [fX (bT ts s x).1,iv (gk (bT ts s x).2)]) rfl ⟨rfl,by exact Pur.pf⟩
theorem MW (ts:List Int) (s:Mc) (x:Pnt) (ho:x.op = 4 ∨ x.op = 5) (hm:OkM s.cells) (hsl:s.slots.length = ts.length) (hx:0 ≤ x.x ∧ x.x < ts.length) (hy:0 ≤ x.y ∧ x.y < ts.length) (hl:ts.length ≤ 1000000):PC Tryz.prog 215 [sl cI ts,fX s,dP x] (fun r => r = .tup [fX (bT ts s x).1,iv (gk (bT ts s x).2)]):=by
 have hmk := Jg ts s x (decide (x.op = 5)) rfl hm hsl hx hy hl
 have h0 : bT ts s x = (if kZ s.cells s.slots[x.y.toNat]!.ptr (decide (x.op = 5)) = 0 then bI ts ⟨s.slots, j9 s.cells s.slots[x.y.toNat]!.ptr (decide (x.op = 5)), s.read⟩ x.x.toNat ⟨true, 0, qM s.cells s.slots[x.y.toNat]!.ptr (decide (x.op = 5))⟩
   else (s,eG (kZ s.cells s.slots[x.y.toNat]!.ptr (decide (x.op = 5))))) := by
  unfold bT;rw [if_neg (show ¬ x.op = 1 by omega),if_neg (show ¬ x.op = 2 by omega),if_neg (show ¬ x.op = 3 by omega),if_pos ho]
 have hd : ∀ r, (r = if kZ s.cells s.slots[x.y.toNat]!.ptr (decide (x.op = 5)) = 0 then
   AV.tup [fX (bI ts ⟨s.slots,j9 s.cells s.slots[x.y.toNat]!.ptr (decide (x.op = 5)),s.read⟩ x.x.toNat ⟨true,0,qM s.cells s.slots[x.y.toNat]!.ptr (decide (x.op = 5))⟩).1,iv (gk (bI ts ⟨s.slots,j9 s.cells s.slots[x.y.toNat]!.ptr (decide (x.op = 5)),s.read⟩ x.x.toNat ⟨true,0,qM s.cells s.slots[x.y.toNat]!.ptr (decide (x.op = 5))⟩).2)]
   else AV.tup [fX s,iv (eG (kZ s.cells s.slots[x.y.toNat]!.ptr (decide (x.op = 5))))]) = (r = AV.tup [fX (bT ts s x).1,iv (gk (bT ts s x).2)]) := by
  intro r
  rw [h0]
  by_cases hk : kZ s.cells s.slots[x.y.toNat]!.ptr (decide (x.op = 5)) = 0
  ·rw [if_pos hk,if_pos hk]
  ·rw [if_neg hk, if_neg hk]
   have : ∀ k,gk (eG k) = eG k := fun k => by unfold gk eG;split <;> rfl
   dsimp only
   rw [this]
 simp only [hd] at hmk
 refine aB Tryz.func215 Tryz.ntmps215 ?_
 repeat' (first|(apply aF;(apply aA (k := 251);rfl;exact hmk;exact Pur.pf;rfl))|refine aE ?_|(refine aK ?_ ?_ <;> intro hc hq <;> try (exfalso;omega))|fail)
 all_goals exact aC (l := [fX (bT ts s x).1,iv (gk (bT ts s x).2)]) rfl ⟨rfl,by exact Pur.pf⟩
theorem QI (ts:List Int) (s:Mc) (x:Pnt) (ho:x.op = 6) (hm:OkM s.cells) (hsl:s.slots.length = ts.length) (hx:0 ≤ x.x ∧ x.x < ts.length) (hy:0 ≤ x.y ∧ x.y < ts.length) (hl:ts.length ≤ 1000000) (hrl:s.read.length ≤ 1000000):PC Tryz.prog 215 [sl cI ts,fX s,dP x] (fun r => r = .tup [fX (bT ts s x).1,iv (gk (bT ts s x).2)]):=by
 have hrd := sO s.cells hm s.slots[x.y.toNat]!.ptr
 have h0 : bT ts s x = (if a7 s.cells s.slots[x.y.toNat]!.ptr false = 0 then bI ts ⟨s.slots, cO s.cells s.slots[x.y.toNat]!.ptr false, s.read ++ [oQ s.cells s.slots[x.y.toNat]!.ptr]⟩ x.x.toNat ⟨true, oQ s.cells s.slots[x.y.toNat]!.ptr, ⟨0, 0⟩⟩
   else (s,eG (a7 s.cells s.slots[x.y.toNat]!.ptr false))) := by
  unfold bT;rw [if_neg (show ¬ x.op = 1 by omega),if_neg (show ¬ x.op = 2 by omega),if_neg (show ¬ x.op = 3 by omega),if_neg (show ¬ (x.op = 4 ∨ x.op = 5) by omega),if_pos ho]
 have hp := lL ts ⟨s.slots,cO s.cells s.slots[x.y.toNat]!.ptr false,s.read ++ [oQ s.cells s.slots[x.y.toNat]!.ptr]⟩ x.x.toNat ⟨true,oQ s.cells s.slots[x.y.toNat]!.ptr,⟨0,0⟩⟩ (hm.tch _ _) (by show _ < s.slots.length;omega) (by omega) (by show s.slots.length ≤ _; omega)
 rw [Int.toNat_of_nonneg hx.1] at hp
 by_cases hk : a7 s.cells s.slots[x.y.toNat]!.ptr false = 0
 ·rw [if_pos hk] at h0
  rw [h0]
  refine aB Tryz.func215 Tryz.ntmps215 ?_
  repeat' (first|(apply aF;first|(apply aA (k := 252);rfl;exact hrd;exact Pur.pf;rfl)|(with_reducible apply aY (d := 105)))|refine aE ?_|(refine aK ?_ ?_ <;> intro hc hq <;> try (exfalso;omega))|refine bS ?_|fail)
  refine bY (c5 ?_ (Le.frzC (j := 0) (i := 6) [sl dC s.slots,sl bJ (cO s.cells s.slots[x.y.toNat]!.ptr false)] (m := 0 + s.read.length + 1) (d := flat cI (s.read ++ [oQ s.cells s.slots[x.y.toNat]!.ptr])) rfl rfl (by decide)))
  have e : AV.imm (0 + s.read.length + 1) (flat cI (s.read ++ [oQ s.cells s.slots[x.y.toNat]!.ptr])) = sl cI (s.read ++ [oQ s.cells s.slots[x.y.toNat]!.ptr]) := e5 (by rw [Nat.zero_add,List.length_append]; rfl)
  rw [e]
  repeat' (first|(apply aF;(apply aA (k := 248) (avs := [sl cI ts,fX ⟨s.slots,cO s.cells s.slots[x.y.toNat]!.ptr false,s.read ++ [oQ s.cells s.slots[x.y.toNat]!.ptr]⟩,iv x.x,Ih ⟨true,oQ s.cells s.slots[x.y.toNat]!.ptr,⟨0,0⟩⟩]);rfl;exact hp;exact Pur.pf;rfl))|refine aE ?_|fail)
  exact aC (l := [fX (bI ts ⟨s.slots,cO s.cells s.slots[x.y.toNat]!.ptr false,s.read ++ [oQ s.cells s.slots[x.y.toNat]!.ptr]⟩ x.x.toNat ⟨true,oQ s.cells s.slots[x.y.toNat]!.ptr,⟨0,0⟩⟩).1,iv (gk (bI ts ⟨s.slots,cO s.cells s.slots[x.y.toNat]!.ptr false,s.read ++ [oQ s.cells s.slots[x.y.toNat]!.ptr]⟩ x.x.toNat ⟨true,oQ s.cells s.slots[x.y.toNat]!.ptr,⟨0,0⟩⟩).2)]) rfl ⟨rfl,by exact Pur.pf⟩
 ·rw [if_neg hk] at h0
  rw [h0]
  have e4 : cO s.cells s.slots[x.y.toNat]!.ptr false = s.cells := by unfold cO;rw [if_neg hk]
  rw [e4] at hrd
  refine aB Tryz.func215 Tryz.ntmps215 ?_
  repeat' (first|(apply aF;first|(apply aA (k := 252);rfl;exact hrd;exact Pur.pf;rfl)|(apply aA (k := 246);rfl;(apply k7);(rfl);rfl))|refine aE ?_|(refine aK ?_ ?_ <;> intro hc hq <;> try (exfalso;omega))|refine bS ?_|fail)
  refine aC (l := [fX s,iv (if a7 s.cells s.slots[x.y.toNat]!.ptr false = 1 then 3 else if a7 s.cells s.slots[x.y.toNat]!.ptr false = 0 then 0 else 4)]) rfl ?_
  rw [zZ hk]
  have : ∀ k,gk (eG k) = eG k := fun k => by unfold gk eG;split <;> rfl
  dsimp only
  rw [this]
  exact ⟨rfl,by exact Pur.pf⟩
theorem PV (ts:List Int) (s:Mc) (x:Pnt) (ho:x.op = 7) (hm:OkM s.cells) (hsl:s.slots.length = ts.length) (hx:0 ≤ x.x ∧ x.x < ts.length) (hy:0 ≤ x.y ∧ x.y < ts.length) (hl:ts.length ≤ 1000000):PC Tryz.prog 215 [sl cI ts,fX s,dP x] (fun r => r = .tup [fX (bT ts s x).1,iv (gk (bT ts s x).2)]):=by
 have hwr := Ad s.cells hm s.slots[x.x.toNat]!.ptr s.slots[x.y.toNat]!.num
 have h0 : bT ts s x = (⟨s.slots, pI s.cells s.slots[x.x.toNat]!.ptr s.slots[x.y.toNat]!.num, s.read⟩, kP (qC s.cells s.slots[x.x.toNat]!.ptr s.slots[x.y.toNat]!.num)) := by
  unfold bT;rw [if_neg (show ¬ x.op = 1 by omega),if_neg (show ¬ x.op = 2 by omega),if_neg (show ¬ x.op = 3 by omega),if_neg (show ¬ (x.op = 4 ∨ x.op = 5) by omega),if_neg (show ¬ x.op = 6 by omega),if_pos ho]
 rw [h0]
 refine aB Tryz.func215 Tryz.ntmps215 ?_
 repeat' (first|(apply aF;first|(apply aA (k := 253);rfl;exact hwr;exact Pur.pf;rfl)|(apply aA (k := 246);rfl;(apply k7);(rfl);rfl))|refine aE ?_|(refine aK ?_ ?_ <;> intro hc hq <;> try (exfalso;omega))|refine bS ?_|fail)
 refine aC (l := [fX ⟨s.slots,pI s.cells s.slots[x.x.toNat]!.ptr s.slots[x.y.toNat]!.num,s.read⟩,iv (if qC s.cells s.slots[x.x.toNat]!.ptr s.slots[x.y.toNat]!.num = 1 then 3 else if qC s.cells s.slots[x.x.toNat]!.ptr s.slots[x.y.toNat]!.num = 0 then 0 else 4)]) rfl ?_
 rw [← LC]
 exact ⟨rfl,by exact Pur.pf⟩
theorem Qd (ts:List Int) (s:Mc) (x:Pnt) (ho:x.op = 8) (hm:OkM s.cells) (hsl:s.slots.length = ts.length) (hx:0 ≤ x.x ∧ x.x < ts.length) (hl:ts.length ≤ 1000000):PC Tryz.prog 215 [sl cI ts,fX s,dP x] (fun r => r = .tup [fX (bT ts s x).1,iv (gk (bT ts s x).2)]):=by
 have hfr := nC s.cells hm s.slots[x.x.toNat]!.ptr
 have hcl := rV ⟨s.slots,gY s.cells s.slots[x.x.toNat]!.ptr,s.read⟩ x.x.toNat (by show _ < s.slots.length;omega) (by show s.slots.length ≤ _; omega)
 rw [Int.toNat_of_nonneg hx.1] at hcl
 have h0 : bT ts s x = (⟨s.slots.set x.x.toNat gD, gY s.cells s.slots[x.x.toNat]!.ptr, s.read⟩, kP (a7 s.cells s.slots[x.x.toNat]!.ptr true)) := by
  unfold bT;rw [if_neg (show ¬ x.op = 1 by omega),if_neg (show ¬ x.op = 2 by omega),if_neg (show ¬ x.op = 3 by omega),if_neg (show ¬ (x.op = 4 ∨ x.op = 5) by omega),if_neg (show ¬ x.op = 6 by omega),if_neg (show ¬ x.op = 7 by omega),if_pos ho]
 rw [h0]
 refine aB Tryz.func215 Tryz.ntmps215 ?_
 repeat' (first|(apply aF;first|(apply aA (k := 245);rfl;exact hfr;exact Pur.pf;rfl)|(apply aA (k := 247);rfl;exact hcl;exact Pur.pf;rfl)|(apply aA (k := 246);rfl;(apply k7);(rfl);rfl))|refine aE ?_|(refine aK ?_ ?_ <;> intro hc hq <;> try (exfalso;omega))|refine bS ?_|fail)
 refine aC (l := [fX ⟨s.slots.set x.x.toNat gD,gY s.cells s.slots[x.x.toNat]!.ptr,s.read⟩,iv (if a7 s.cells s.slots[x.x.toNat]!.ptr true = 1 then 3 else if a7 s.cells s.slots[x.x.toNat]!.ptr true = 0 then 0 else 4)]) rfl ?_
 rw [← LC]
 exact ⟨rfl,by exact Pur.pf⟩
def PG (s : Mc) (x : Pnt) : Bool :=
 if x.op = 3 ∨ x.op = 4 ∨ x.op = 5 ∨ x.op = 6 then !s.slots[x.y.toNat]!.set
 else if x.op = 7 then !s.slots[x.x.toNat]!.set || !s.slots[x.y.toNat]!.set
 else if x.op = 8 then !s.slots[x.x.toNat]!.set else false
theorem GA (s:Mc) (x:Pnt) (hx:(x.op = 7 ∨ x.op = 8) → 0 ≤ x.x ∧ x.x < s.slots.length) (hy:(x.op = 3 ∨ x.op = 4 ∨ x.op = 5 ∨ x.op = 6 ∨ x.op = 7) → 0 ≤ x.y ∧ x.y < s.slots.length):PC Tryz.prog 214 [dP x,fX s] (fun r => r = bv (PG s x)):=by
 refine aB Tryz.func214 Tryz.ntmps214 ?_
 repeat' (first|refine aE ?_|(refine aK ?_ ?_ <;> intro hc hq <;> try (exfalso;omega))|(refine bQ ?_ ?_ <;> intro hg hq <;> try (exfalso;omega))|fail)
 all_goals (refine aC rfl ⟨?_,rfl⟩; simp only [aO,AV.v.injEq,Value.bool.injEq]; unfold PG;grind)
theorem zY {ts:List Int}{n v:Nat}{q:Mc}(h:¬ (ts[v]! = 2 ∧ q.slots[v]!.set = true)):cL ts (n + 1) v q = cL ts n (v + 1) q:=by
 rw [cL,if_neg h]
theorem IK {ts:List Int}{n v:Nat}{q:Mc}(h:ts[v]! = 2 ∧ q.slots[v]!.set = true) (hk:a7 q.cells q.slots[v]!.ptr true = 0):cL ts (n + 1) v q = cL ts n (v + 1) ⟨q.slots.set v gD,gY q.cells q.slots[v]!.ptr,q.read⟩:=by
 rw [cL,if_pos h,if_pos hk]
theorem IY {ts:List Int}{n v:Nat}{q:Mc}(h:ts[v]! = 2 ∧ q.slots[v]!.set = true) (hk:¬ a7 q.cells q.slots[v]!.ptr true = 0):cL ts (n + 1) v q = (⟨q.slots,gY q.cells q.slots[v]!.ptr,q.read⟩,eG (a7 q.cells q.slots[v]!.ptr true)):=by
 rw [cL,if_pos h,if_neg hk]
theorem Np (ts:List Int) (s:Mc) (hm:OkM s.cells) (hsl:s.slots.length = ts.length) (hl:ts.length ≤ 1000000):PC Tryz.prog 213 [sl cI ts,fX s] (fun r => r = .tup [fX (cL ts ts.length 0 s).1,iv (cL ts ts.length 0 s).2]):=by
 refine aB Tryz.func213 Tryz.ntmps213 ?_
 repeat' (first|refine aE ?_|fail)
 refine aH (σ := Nat × Mc) [0,3,4] [1] (fun k => [(6,iv (k.1 : Int))]) (fun k => [(0,some [sl dC k.2.slots,sl bJ k.2.cells,sl cI k.2.read])]) (fun k => k.1 ≤ ts.length ∧ cL ts (ts.length - k.1) k.1 k.2 = cL ts ts.length 0 s ∧ OkM k.2.cells ∧ k.2.slots.length = ts.length) (fun k => ts.length - k.1) (0,s) ⟨Nat.zero_le _,rfl,hm,hsl⟩ ?_
 rintro ⟨v,q⟩ ⟨hv,hf,hmq,hlq⟩
 dsimp only at hv hf hmq hlq ⊢
 have hfr := nC q.cells hmq q.slots[v]!.ptr
 have hcl := fun h => rV ⟨q.slots,gY q.cells q.slots[v]!.ptr,q.read⟩ v h (by show q.slots.length ≤ _; omega)
 repeat' (first|(apply aF;first|(apply aA (k := 245);rfl;exact hfr;exact Pur.pf;rfl)|(apply aA (k := 247);rfl;(exact hcl (by show v < q.slots.length;omega));exact Pur.pf;rfl)|(apply aA (k := 246);rfl;(apply k7);(rfl);rfl))|refine aE ?_|(refine aK ?_ ?_ <;> intro hc hq <;> try (exfalso;omega))|(refine bQ ?_ ?_ <;> intro hg hq <;> try (exfalso;omega))|refine bS ?_|fail)
 ·(refine bC (v + 1, q) (Le.renA [(0, 0), (1, 1)]) ?_ ?_)
  ·refine ⟨by omega, ?_, hmq, hlq⟩
   dsimp only
   rw [← hf, show ts.length - v = (ts.length - (v + 1)) + 1 by omega, zY (fun h => by
    have h2 : q.slots[v]!.set = false := by assumption
    rw [h2] at h;exact absurd h.2 (by decide))]
  ·dsimp only;omega
 ·have hk : ¬ a7 q.cells q.slots[v]!.ptr true = 0 := by assumption
  have hq2 : cL ts ts.length 0 s = (⟨q.slots, gY q.cells q.slots[v]!.ptr, q.read⟩, eG (a7 q.cells q.slots[v]!.ptr true)) := by
   rw [← hf,show ts.length - v = (ts.length - (v + 1)) + 1 by omega,IY ⟨by assumption,by assumption⟩ hk]
  rw [hq2]
  refine aC (l := [fX ⟨q.slots,gY q.cells q.slots[v]!.ptr,q.read⟩,iv (if a7 q.cells q.slots[v]!.ptr true = 1 then 3 else if a7 q.cells q.slots[v]!.ptr true = 0 then 0 else 4)]) rfl ?_
  rw [zZ hk]
  exact ⟨rfl,by exact Pur.pf⟩
 ·(refine bC (v + 1, ⟨q.slots.set v gD, gY q.cells q.slots[v]!.ptr, q.read⟩) (Le.renA [(0, 0), (1, 1)]) ?_ ?_)
  ·refine ⟨by omega, ?_, hmq.fr _, by show (q.slots.set v gD).length = _; rw [List.length_set]; exact hlq⟩
   dsimp only
   rw [← hf,show ts.length - v = (ts.length - (v + 1)) + 1 by omega,IK ⟨by assumption,by assumption⟩ (by assumption)]
  ·dsimp only;omega
 ·(refine bC (v + 1, q) (Le.renA [(0, 0), (1, 1)]) ?_ ?_)
  ·refine ⟨by omega, ?_, hmq, hlq⟩
   dsimp only
   rw [← hf, show ts.length - v = (ts.length - (v + 1)) + 1 by omega, zY (fun h => by
    have h2 : ¬ ts[v]! = 2 := by assumption
    exact h2 h.1)]
  ·dsimp only;omega
 ·have hve : v = ts.length := by omega
  have hq2 : cL ts ts.length 0 s = (q,0) := by rw [← hf,hve,Nat.sub_self]; rfl
  rw [hq2]
  exact aC (l := [fX q,iv 0]) rfl ⟨rfl,by exact Pur.pf⟩
theorem zX (p:Prg) (hl:p.types.length ≤ 1000000) (hs:aT p.body ≤ 1000000):PC Tryz.prog 151 [bK p] (fun r => r = sl cE (if bB p = true then aD p else [])):=by
 have hval := j6 p hl (by omega)
 have h2 := dE p hs
 refine aB Tryz.func151 Tryz.ntmps151 ?_
 repeat' (first|(apply aF;first|(apply aA (k := 61);rfl;exact hval;exact Pur.pf;rfl)|(apply aA (k := 132);rfl;exact h2;exact Pur.pf;rfl)|(apply aJ (t := _);rfl;rfl;rfl;(rfl);rfl;rfl))|refine aE ?_|(refine aK ?_ ?_ <;> intro hc hq <;> try (exfalso;omega))|fail)
 ·refine aC rfl ⟨?_, (by (rfl))⟩
  rw [if_neg (by simp [hq])]; rfl
 ·refine aC rfl ⟨?_, (by (exact bF _ _))⟩
  rw [if_pos hq]; rfl
def wm (pts : List Pnt) (n a : Nat) (cs : List Int) : List Int × Bool := ((dH pts n a cs).1.map (fun a : Nat => (a : Int)),(dH pts n a cs).2)
theorem Ji {pts:List Pnt}{n a:Nat}{cs:List Int}(h:pts[a]!.op = 11):wm pts n a cs = ([(a:Int)],true):=by
 have e : dH pts n a cs = ([a],true) := by cases n <;> (unfold dH;rw [if_pos h])
 unfold wm;rw [e]; rfl
theorem K7 {pts:List Pnt}{a:Nat}{cs:List Int}(h:¬ pts[a]!.op = 11):wm pts 0 a cs = ([],false):=by
 have e : dH pts 0 a cs = ([],false) := by unfold dH;rw [if_neg h]
 unfold wm;rw [e]; rfl
theorem Rs {pts:List Pnt}{n a:Nat}{cs:List Int}(h:¬ pts[a]!.op = 11):wm pts (n + 1) a cs = ((a:Int) :: (wm pts n (g0 pts a cs).1 (g0 pts a cs).2).1,(wm pts n (g0 pts a cs).1 (g0 pts a cs).2).2):=by
 unfold wm;rw [dH,if_neg h]; rfl
theorem OD {pts:List Pnt}{a:Nat}{cs:List Int}(h:¬ pts[a]!.next.length = 2):g0 pts a cs = ((pts[a]!.next[0]!).toNat,cs):=by
 unfold g0;rw [if_neg h]
theorem R4 {pts:List Pnt}{a u:Nat}{cs:List Int}(h:pts[a]!.next.length = 2) (hu:cs.length ≤ u):g0 pts a (cs.drop u) = ((pts[a]!.next[1]!).toNat,cs.drop (u + 1)):=by
 unfold g0;rw [if_pos h,List.drop_eq_nil_of_le hu,List.drop_eq_nil_of_le (by omega)]
theorem OF {pts:List Pnt}{a u:Nat}{cs:List Int}(h:pts[a]!.next.length = 2) (hu:u < cs.length):g0 pts a (cs.drop u) = ((pts[a]!.next[if cs[u]!.tmod 2 = 0 then 0 else 1]!).toNat,cs.drop (u + 1)):=by
 have e : (cs[u]! % 2).toNat = if cs[u]!.tmod 2 = 0 then 0 else 1 := by
  by_cases q : cs[u]!.tmod 2 = 0
  ·rw [if_pos q,Int.emod_eq_zero_of_dvd (Int.dvd_of_tmod_eq_zero q)]; rfl
  ·rw [if_neg q]
   have : ¬ cs[u]! % 2 = 0 := fun q2 => q (Int.tmod_eq_zero_of_dvd (Int.dvd_of_emod_eq_zero q2))
   omega
 have e2 : cs.drop u = cs[u]! :: cs.drop (u + 1) := by rw [List.drop_eq_getElem_cons hu,aZ _ _ hu]
 unfold g0
 rw [if_pos h,e2]
 dsimp only
 rw [e]
theorem pS {pts:List Pnt}{n a:Nat}{out cs cs2:List Int}{b:Nat}{q:List Int × Bool}(h:¬ pts[a]!.op = 11) (ho:out.length < n) (hs:g0 pts a cs = (b,cs2)) (hq:q = (out ++ (wm pts (n - out.length) a cs).1,(wm pts (n - out.length) a cs).2)) :
  q = ((out ++ [(a : Int)]) ++ (wm pts (n - (out ++ [(a : Int)]).length) b cs2).1,(wm pts (n - (out ++ [(a : Int)]).length) b cs2).2) := by
 rw [hq,show n - out.length = (n - (out.length + 1)) + 1 by omega,Rs h,hs,List.length_append,List.append_assoc]
 rfl
theorem Dp (p:Prg) (cs:List Int) (n:Nat) (hv:bB p = true) (hl:p.types.length ≤ 1000000) (hs:aT p.body ≤ 1000000) (hn:n ≤ 1000) (hcl:cs.length ≤ 1000000):PC Tryz.prog 212 [bK p,sl cI cs,iv (n:Int)] (fun r => r = .tup [sl cI (wm (aD p) n 0 cs).1,bv (wm (aD p) n 0 cs).2]):=by
 have hpo := zX p hl hs
 rw [if_pos hv] at hpo
 have w := WG.of_valid hv
 have wa := WA.of_valid hv
 obtain ⟨pts,hpts⟩ : ∃ pts,pts = aD p := ⟨_,rfl⟩
 rw [← hpts] at hpo w wa ⊢
 have hpl := w.pl
 have hp0 := w.p0
 refine aB Tryz.func212 Tryz.ntmps212 ?_
 repeat' (first|(apply aF;(apply aA (k := 151);rfl;exact hpo;exact Pur.pf;rfl))|refine aE ?_|(refine aK ?_ ?_ <;> intro hc hq <;> try (exfalso;omega))|(refine bQ ?_ ?_ <;> intro hg hq <;> try (exfalso;omega))|fail)
 refine aH (σ := Int × Nat × List Int × Nat) [1,2,9] [] (fun k => [(10,iv k.1),(11,iv (k.2.1 : Int)),(8,.own 1 0 k.2.2.2 1)]) (fun k => [(1,some (flat cI k.2.2.1))]) (fun k => (0 ≤ k.1 ∧ k.1 < pts.length) ∧ k.2.1 ≤ k.2.2.1.length ∧ k.2.2.1.length ≤ n ∧ k.2.2.2 = k.2.2.1.length ∧ wm pts n 0 cs = (k.2.2.1 ++ (wm pts (n - k.2.2.1.length) k.1.toNat (cs.drop k.2.1)).1,(wm pts (n - k.2.2.1.length) k.1.toNat (cs.drop k.2.1)).2)) (fun k => n + 1 - k.2.2.1.length) (0,0,[],0) ⟨⟨Int.le_refl _,by show (0 : Int) < _; omega⟩,Nat.le_refl _,Nat.zero_le _,rfl,rfl⟩ ?_
 rintro ⟨a,u,out,m⟩ ⟨⟨ha0,ha⟩,hu,ho,hm,hw⟩
 dsimp only at ha0 ha hu ho hm hw ⊢
 have hat : (a.toNat : Int) = a := Int.toNat_of_nonneg ha0
 have hnx := w.nx a.toNat (by omega)
 have hnl := w.nl a.toNat (by omega)
 have hn1 := wa.n a.toNat (by omega)
 have hk : ∀ k,k < pts[a.toNat]!.next.length → 0 ≤ pts[a.toNat]!.next[k]! ∧ pts[a.toNat]!.next[k]! < pts.length := fun k h => hnx _ (aU _ _ h)
 repeat' (first|(apply aF;(apply aJ (t := _);rfl;rfl;rfl;exact (rfl:_=some [_]);rfl;rfl))|refine aE ?_|(refine aK ?_ ?_ <;> intro hc hq <;> try (exfalso;omega))|(refine bQ ?_ ?_ <;> intro hg hq <;> try (exfalso;omega))|fail)
 ·have hop : ¬ pts[a.toNat]!.op = 11 := by assumption
  have e : wm pts n 0 cs = (out,false) := by rw [hw,show n - out.length = 0 by omega,K7 hop,List.append_nil]
  rw [e]
  (refine aR (Le.frzD (d := 6) (i := 1) rfl rfl) ?_; refine aC rfl ?_)
  refine ⟨?_,(by exact Pur.pf)⟩
  simp only [aO,sl]
  rw [hm]
 ·have hop : ¬ pts[a.toNat]!.op = 11 := by assumption
  have hst := pS hop (by omega) ((OF (by omega) (by omega)).trans (by rw [if_pos (by assumption)])) hw
  rw [hat] at hst
  have hk := hk 0 (by omega)
  (refine bC (pts[a.toNat]!.next[0]!,u + 1,_,_) (Le.renA [(1,3)]) ?_ ?_)
  ·refine ⟨hk,?_,?_,?_,hst⟩ <;> (dsimp only;rw [List.length_append]; simp only [List.length_singleton]; omega)
  ·dsimp only;rw [List.length_append]; simp only [List.length_singleton]; omega
 ·have hop : ¬ pts[a.toNat]!.op = 11 := by assumption
  have hst := pS hop (by omega) ((OF (by omega) (by omega)).trans (by rw [if_neg (by assumption)])) hw
  rw [hat] at hst
  have hk := hk 1 (by omega)
  (refine bC (pts[a.toNat]!.next[1]!,u + 1,_,_) (Le.renA [(1,3)]) ?_ ?_)
  ·refine ⟨hk,?_,?_,?_,hst⟩ <;> (dsimp only;rw [List.length_append]; simp only [List.length_singleton]; omega)
  ·dsimp only;rw [List.length_append]; simp only [List.length_singleton]; omega
 ·have hop : ¬ pts[a.toNat]!.op = 11 := by assumption
  have hst := pS hop (by omega) (R4 (by omega) (by omega)) hw
  rw [hat] at hst
  have hk := hk 1 (by omega)
  (refine bC (pts[a.toNat]!.next[1]!,u + 1,_,_) (Le.renA [(1,3)]) ?_ ?_)
  ·refine ⟨hk,?_,?_,?_,hst⟩ <;> (dsimp only;rw [List.length_append]; simp only [List.length_singleton]; omega)
  ·dsimp only;rw [List.length_append]; simp only [List.length_singleton]; omega
 ·have hop : ¬ pts[a.toNat]!.op = 11 := by assumption
  have hst := pS hop (by omega) (OD (by omega)) hw
  rw [hat] at hst
  have hk := hk 0 (by omega)
  (refine bC (pts[a.toNat]!.next[0]!,u,_,_) (Le.renA [(1,3)]) ?_ ?_)
  ·refine ⟨hk,?_,?_,?_,hst⟩ <;> (dsimp only;rw [List.length_append]; simp only [List.length_singleton]; omega)
  ·dsimp only;rw [List.length_append]; simp only [List.length_singleton]; omega
 ·have hop : pts[a.toNat]!.op = 11 := by assumption
  have e : wm pts n 0 cs = (out ++ [a],true) := by rw [hw,Ji hop,hat]
  rw [e]
  (refine aR (Le.frzD (d := 6) (i := 3) rfl rfl) ?_; refine aC rfl ?_)
  refine ⟨?_,(by exact Pur.pf)⟩
  simp only [aO,sl]
  rw [hm,List.length_append]; rfl
theorem Qh {ts:List Int}{s:Mc}{x:Pnt}(hx:(x.op = 7 ∨ x.op = 8) → 0 ≤ x.x ∧ x.x < ts.length) (hy:(x.op = 3 ∨ x.op = 4 ∨ x.op = 5 ∨ x.op = 6 ∨ x.op = 7) → 0 ≤ x.y ∧ x.y < ts.length):PG s x = cA ts s x:=by
 have hX : ∀ v : Nat,(v : Int) = x.x → v = x.x.toNat := fun v h => by omega
 have hY : ∀ v : Nat,(v : Int) = x.y → v = x.y.toNat := fun v h => by omega
 cases hu : cA ts s x with
 | true =>
  obtain ⟨v,hv,hne,hs⟩ := uH hu
  unfold aQ at hne
  unfold PG
  by_cases h3 : x.op = 3
  ·rw [if_pos h3] at hne
   by_cases e : (v : Int) = x.y
   ·rw [if_pos (.inl h3),← hY v e,hs]; rfl
   ·rw [if_neg e] at hne;exact absurd rfl hne
  ·rw [if_neg h3] at hne
   by_cases h4 : x.op = 4 ∨ x.op = 5 ∨ x.op = 6
   ·rw [if_pos h4] at hne
    by_cases e : (v : Int) = x.y
    ·rw [if_pos (by omega),← hY v e,hs]; rfl
    ·rw [if_neg e] at hne;exact absurd rfl hne
   ·rw [if_neg h4] at hne
    rw [if_neg (by omega)]
    by_cases h7 : x.op = 7
    ·rw [if_pos h7] at hne ⊢
     by_cases e : (v : Int) = x.x
     ·rw [← hX v e,hs]; rfl
     ·rw [if_neg e] at hne
      by_cases e2 : (v : Int) = x.y
      ·rw [← hY v e2,hs]; simp
      ·rw [if_neg e2] at hne;exact absurd rfl hne
    ·rw [if_neg h7] at hne ⊢
     by_cases h8 : x.op = 8
     ·rw [if_pos h8] at hne ⊢
      by_cases e : (v : Int) = x.x
      ·rw [← hX v e,hs]; rfl
      ·rw [if_neg e] at hne;exact absurd rfl hne
     ·rw [if_neg h8] at hne;exact absurd rfl hne
 | false =>
  have hS : ∀ v : Nat,v < ts.length → aQ ts x v ≠ 0 → s.slots[v]!.set = true := fun v hv h => iI hu hv h
  unfold PG
  by_cases h3 : x.op = 3
  ·have := hy (.inl h3)
   rw [if_pos (.inl h3),hS x.y.toNat (by omega) (by unfold aQ;rw [if_pos h3,if_pos (by omega)]; split <;> decide)]; rfl
  ·by_cases h4 : x.op = 4 ∨ x.op = 5 ∨ x.op = 6
   ·have := hy (by omega)
    rw [if_pos (by omega),hS x.y.toNat (by omega) (by unfold aQ;rw [if_neg h3,if_pos h4,if_pos (by omega)]; decide)]; rfl
   ·rw [if_neg (by omega)]
    by_cases h7 : x.op = 7
    ·have hy7 := hy (by omega)
     have hx7 := hx (.inl h7)
     rw [if_pos h7, hS x.x.toNat (by omega) (by unfold aQ; rw [if_neg h3, if_neg h4, if_pos h7, if_pos (by omega)]; decide),
      hS x.y.toNat (by omega) (by unfold aQ;rw [if_neg h3,if_neg h4,if_pos h7]; split;decide;rw [if_pos (by omega)]; decide)]; rfl
    ·rw [if_neg h7]
     by_cases h8 : x.op = 8
     ·have hx8 := hx (.inr h8)
      rw [if_pos h8,hS x.x.toNat (by omega) (by unfold aQ;rw [if_neg h3,if_neg h4,if_neg h7,if_pos h8,if_pos (by omega)]; decide)]; rfl
     ·rw [if_neg h8]
theorem DX (k:Int):kP k ≠ 0:=by
 unfold kP eG;split
 ·decide
 ·split <;> decide
theorem F1 (k:Int):eG k ≠ 0 := by unfold eG;split <;> decide
theorem qO {ts:List Int}{s:Mc}{v:Nat}{y:Sl}:(bI ts s v y).2 ≠ 0:=by
 unfold bI;split
 ·exact DX _
 ·show (-1 : Int) ≠ 0;decide
theorem PW {ts:List Int}{s:Mc}{x:Pnt}(h:x.op ≠ 11):(bT ts s x).2 ≠ 0:=by
 unfold bT
 split
 ·exact qO
 split
 ·split
  ·show (1 : Int) ≠ 0;decide
  ·exact qO
 split
 ·exact qO
 split
 ·split
  ·exact qO
  ·exact F1 _
 split
 ·split
  ·exact qO
  ·exact F1 _
 split
 ·exact DX _
 split
 ·exact DX _
 show (-1 : Int) ≠ 0;decide
theorem Rw {ts:List Int}{s:Mc}{x:Pnt}(h:x.op ≠ 11):gk (bT ts s x).2 = 0 ↔ (bT ts s x).2 = -1:=by
 have := PW (ts := ts) (s := s) h
 unfold gk;split
 ·simp [*]
 ·constructor <;> (intro q;contradiction)
theorem QC (ts:List Int) (s:Mc) (x:Pnt) (ho:x.op = 9 ∨ x.op = 10):PC Tryz.prog 215 [sl cI ts,fX s,dP x] (fun r => r = .tup [fX (bT ts s x).1,iv (gk (bT ts s x).2)]):=by
 have h0 : bT ts s x = (s, -1) := by
  unfold bT;rw [if_neg (show ¬ x.op = 1 by omega),if_neg (show ¬ x.op = 2 by omega),if_neg (show ¬ x.op = 3 by omega),if_neg (show ¬ (x.op = 4 ∨ x.op = 5) by omega),if_neg (show ¬ x.op = 6 by omega),if_neg (show ¬ x.op = 7 by omega),if_neg (show ¬ x.op = 8 by omega),if_neg (show ¬ x.op = 11 by omega)]
 rw [h0]
 refine aB Tryz.func215 Tryz.ntmps215 ?_
 repeat' (first|refine aE ?_|(refine aK ?_ ?_ <;> intro hc hq <;> try (exfalso;omega))|fail)
 exact aC (l := [fX s,iv 0]) rfl ⟨rfl,by exact Pur.pf⟩
theorem OQ (ts:List Int) (s:Mc) (x:Pnt) (h11:x.op ≠ 11) (hop:1 ≤ x.op ∧ x.op ≤ 11) (hm:OkM s.cells) (hsl:s.slots.length = ts.length) (hx:x.op ≤ 8 → 0 ≤ x.x ∧ x.x < ts.length) (hy:3 ≤ x.op → x.op ≤ 7 → 0 ≤ x.y ∧ x.y < ts.length) (hn:x.op = 2 → 0 ≤ x.n ∧ x.n ≤ 9) (hl:ts.length ≤ 1000000) (hrl:s.read.length ≤ 1000000):PC Tryz.prog 215 [sl cI ts,fX s,dP x] (fun r => r = .tup [fX (bT ts s x).1,iv (gk (bT ts s x).2)]):=by
 by_cases h1 : x.op = 1
 ·exact PO ts s x h1 hm hsl (hx (by omega)) hl
 by_cases h2 : x.op = 2
 ·exact Pv ts s x h2 hm hsl (hx (by omega)) (hn h2) hl
 by_cases h3 : x.op = 3
 ·exact O1 ts s x h3 hm hsl (hx (by omega)) (hy (by omega) (by omega)) hl
 by_cases h4 : x.op = 4 ∨ x.op = 5
 ·exact MW ts s x h4 hm hsl (hx (by omega)) (hy (by omega) (by omega)) hl
 by_cases h6 : x.op = 6
 ·exact QI ts s x h6 hm hsl (hx (by omega)) (hy (by omega) (by omega)) hl hrl
 by_cases h7 : x.op = 7
 ·exact PV ts s x h7 hm hsl (hx (by omega)) (hy (by omega) (by omega)) hl
 by_cases h8 : x.op = 8
 ·exact Qd ts s x h8 hm hsl (hx (by omega)) hl
 ·exact QC ts s x (by omega)
theorem lB {ts:List Int}{s:Mc}{v:Nat}{y:Sl}:(bI ts s v y).1.read = s.read := by unfold bI;split <;> rfl
theorem BL {ts:List Int}{s:Mc}{x:Pnt}(h:x.op ≠ 11):(bT ts s x).1.read.length ≤ s.read.length + 1:=by
 unfold bT
 split
 ·rw [lB]; omega
 split
 ·split
  ·dsimp only;omega
  ·rw [lB]; dsimp only;omega
 split
 ·rw [lB]; split <;> (first|omega|(dsimp only;omega))
 split
 ·split
  ·rw [lB]; dsimp only;omega
  ·dsimp only;omega
 split
 ·split
  ·rw [lB]; dsimp only;rw [List.length_append]; simp only [List.length_singleton]; omega
  ·dsimp only;omega
 split
 ·dsimp only;omega
 split
 ·dsimp only;omega
 dsimp only;omega
theorem Fz (pts:List Pnt):∀ n a cs,(dH pts n a cs).2 = true → ∃ l b,(dH pts n a cs).1 = l ++ [b] ∧ pts[b]!.op = 11
 | 0, a, cs, h => by
  unfold dH at h ⊢
  by_cases e : pts[a]!.op = 11
  ·rw [if_pos e]; exact ⟨[],a,rfl,e⟩
  ·rw [if_neg e] at h;exact absurd h (by decide)
 | n + 1, a, cs, h => by
  rw [dH] at h ⊢
  by_cases e : pts[a]!.op = 11
  ·rw [if_pos e]; exact ⟨[],a,rfl,e⟩
  ·rw [if_neg e] at h ⊢
   obtain ⟨l,b,h1,h2⟩ := Fz pts n _ _ h
   exact ⟨a :: l,b,by dsimp only;rw [h1]; rfl,h2⟩
theorem Po {s:Mc}{x:Pnt}(h:x.op = 11):PG s x = false:=by
 unfold PG;rw [if_neg (by omega),if_neg (by omega),if_neg (by omega)]
theorem Ob (p:Prg) (cs:List Int) (n:Nat) (hv:bB p = true) (hl:p.types.length ≤ 1000000) (hs:aT p.body ≤ 1000000) (hn:n ≤ 150) (hcl:cs.length ≤ 1000000) (hL:∀ a ∈ (dH (aD p) n 0 cs).1,a < (aD p).length) (hLl:(dH (aD p) n 0 cs).1.length ≤ 151):PC Tryz.prog 154 [bK p,sl cI cs,iv (n:Int)] (fun r => r = .tup [fX (dI p.types (aD p) cs n).1,iv (dI p.types (aD p) cs n).2.1,iv (dI p.types (aD p) cs n).2.2]):=by
 have hpo := dE p hs
 have hru := Dp p cs n hv hl hs (by omega) hcl
 have w := WG.of_valid hv
 have wa := WA.of_valid hv
 obtain ⟨q,hq⟩ : ∃ q,q = dI p.types (aD p) cs n := ⟨_,rfl⟩
 rw [← hq]
 unfold dI at hq
 unfold wm at hru
 obtain ⟨L,hLe⟩ : ∃ L,L = (dH (aD p) n 0 cs).1 := ⟨_,rfl⟩
 obtain ⟨dn,hdn⟩ : ∃ dn,dn = (dH (aD p) n 0 cs).2 := ⟨_,rfl⟩
 rw [← hLe,← hdn] at hru
 rw [← hLe] at hq hL hLl
 have hgx : ∀ i,i < L.length → (L.map (fun a : Nat => (a : Int)))[i]! = (L[i]! : Int) := fun i h => by rw [aZ _ _ (by rw [List.length_map]; exact h),List.getElem_map,aZ _ _ h]
 have hml : (L.map (fun a : Nat => (a : Int))).length = L.length := List.length_map _
 generalize (L.map (fun a : Nat => (a : Int))) = LI at *
 generalize hP : aD p = pts at *
 have e1 : AV.imm p.types.length ((List.replicate p.types.length ([Value.bool false, Value.int .i64 0, Value.int .i64 0, Value.int .i64 0].map AV.v)).flatten) = sl dC (List.replicate p.types.length gD) := by
  rw [vO (f := dC) (x := gD) (l := [Value.bool false,Value.int .i64 0,Value.int .i64 0,Value.int .i64 0].map AV.v) rfl]; exact e5 (by simp)
 refine aB Tryz.func154 Tryz.ntmps154 ?_
 repeat' (first|(apply aF;first|(apply aA (k := 132);rfl;exact hpo;exact Pur.pf;rfl)|(with_reducible apply aY (d := 27))|(apply aJ (t := _);rfl;rfl;rfl;(rfl);rfl;rfl))|refine aE ?_|fail)
 refine bY (c5 ?_ (Le.frzD (d := 24) (i := 2) rfl rfl))
 rw [e1]
 repeat' (first|(apply aF;(apply aA (k := 212);rfl;exact hru;exact Pur.pf;rfl))|refine aE ?_|fail)
 refine aH (σ := Nat × Mc) [3,6,9,10,11,12] [0,1] (fun k => [(13,iv (k.1 : Int))]) (fun k => [(5,some [sl dC k.2.slots,sl bJ k.2.cells,sl cI k.2.read])]) (fun k => k.1 ≤ L.length ∧ gX p.types pts (L.drop k.1) k.2 (if k.1 = 0 then 0 else L[k.1 - 1]!) = q ∧ OkS p.types.length k.2 ∧ k.2.read.length ≤ k.1 ∧ (∀ j,j < k.1 → pts[L[j]!]!.op ≠ 11)) (fun k => L.length - k.1) (0,mc0 p.types.length) ⟨Nat.zero_le _,by rw [hq]; rfl,OkS.mc0 _,Nat.le_refl _,fun j h => absurd h (by omega)⟩ ?_
 rintro ⟨i,s⟩ ⟨hi,hf,hok,hrd,h11⟩
 dsimp only at hi hf hok hrd h11 ⊢
 have hil : i < L.length → L[i]! < pts.length := fun h => hL _ (aU _ _ h)
 have hex := fun h => Np p.types s hok.m hok.l h
 by_cases hiL : i < L.length
 ·have hap := hil hiL
  have hop := w.op L[i]! hap
  have hwx := w.x L[i]! hap
  have hwy := w.y L[i]! hap
  have hA := wa.a L[i]! hap
  have hg := hgx i hiL
  have hen := hex hl
  have hun := GA s pts[L[i]!]! (fun h => by have := hok.l;omega) (fun h => by have := hok.l;omega)
  have hun2 := Qh (ts := p.types) (s := s) (x := pts[L[i]!]!) (fun h => by omega) (fun h => by omega)
  rw [hun2] at hun
  have hdo := fun h => OQ p.types s pts[L[i]!]! h hop hok.m hok.l (fun h => by omega) (fun h h2 => by omega) (fun h => hA.n (.inr h)) hl (by omega)
  repeat' (first|(apply aF;(with_reducible apply aY (d := 46)))|refine aE ?_|(refine aK ?_ ?_ <;> intro hc hq <;> try (exfalso;omega))|fail)
  refine bY ?_
  rw [hg]
  repeat' (first|(apply aF;first|(apply aA (k := 213);rfl;exact hen;exact Pur.pf;rfl)|(apply aA (k := 214);rfl;exact hun;exact Pur.pf;rfl)|(apply aA (k := 215);rfl;exact hdo (by assumption);exact Pur.pf;rfl))|refine aE ?_|(refine aK ?_ ?_ <;> intro hc hq <;> try (exfalso;omega))|refine bS ?_|fail)
  all_goals have hdr : L.drop i = L[i]! :: L.drop (i + 1) := by rw [List.drop_eq_getElem_cons hiL,aZ _ _ hiL]
  all_goals rw [hdr] at hf
  ·have ho : pts[L[i]!]!.op = 11 := by assumption
   have hqq : q = ((cL p.types p.types.length 0 s).1, (cL p.types p.types.length 0 s).2, L[i]!) := by
    rw [← hf,gX,if_neg (by rw [← hun2,Po ho]; decide),uV ho,if_neg (by have := nW p.types p.types.length 0 s;omega)]
   rw [hqq]
   refine aC (l := [fX (cL p.types p.types.length 0 s).1,iv (cL p.types p.types.length 0 s).2,iv LI[i]!]) rfl ?_
   rw [hg]
   exact ⟨rfl,by exact Pur.pf⟩
  ·have hu : cA p.types s pts[L[i]!]! = true := by assumption
   have hqq : q = (s,2,L[i]!) := by rw [← hf,gX,if_pos hu]
   rw [hqq]
   refine aC (l := [fX s,iv 2,iv LI[i]!]) rfl ?_
   rw [hg]
   exact ⟨rfl,by exact Pur.pf⟩
  ·have ho : ¬ pts[L[i]!]!.op = 11 := by assumption
   have hu : cA p.types s pts[L[i]!]! = false := by assumption
   have hk : ¬ gk (bT p.types s pts[L[i]!]!).2 = 0 := by assumption
   have hk2 : ¬ (bT p.types s pts[L[i]!]!).2 = -1 := fun e => hk ((Rw ho).2 e)
   have hqq : q = ((bT p.types s pts[L[i]!]!).1,(bT p.types s pts[L[i]!]!).2,L[i]!) := by rw [← hf,gX,if_neg (by rw [hu]; decide),if_neg hk2]
   rw [hqq]
   refine aC (l := [fX (bT p.types s pts[L[i]!]!).1,iv (gk (bT p.types s pts[L[i]!]!).2),iv LI[i]!]) rfl ?_
   rw [hg,show gk (bT p.types s pts[L[i]!]!).2 = (bT p.types s pts[L[i]!]!).2 by unfold gk;rw [if_neg hk2]]
   exact ⟨rfl,by exact Pur.pf⟩
  ·have ho : ¬ pts[L[i]!]!.op = 11 := by assumption
   have hu : cA p.types s pts[L[i]!]! = false := by assumption
   have hk2 : (bT p.types s pts[L[i]!]!).2 = -1 := (Rw ho).1 (by assumption)
   (refine bC (i + 1,(bT p.types s pts[L[i]!]!).1) (Le.renA [(0,0),(1,1),(5,5)]) ?_ ?_)
   ·refine ⟨by dsimp only; omega, ?_, hok.do ⟨fun h => hA.n (.inr h)⟩, ?_, ?_⟩
    ·dsimp only
     rw [← hf,if_neg (by omega),show i + 1 - 1 = i by omega,gX,if_neg (by rw [hu]; decide),if_pos hk2]
    ·dsimp only;have := BL (ts := p.types) (s := s) ho;omega
    ·intro j hj
     rcases Nat.lt_or_ge j i with h|h
     ·exact h11 j h
     ·rw [show j = i by omega]; exact ho
   ·dsimp only;omega
 ·repeat' (first | refine aE ?_ | (refine aK ?_ ?_ <;> intro hc hq <;> try (exfalso; omega)) | (refine bQ ?_ ?_ <;> intro hg hq <;> try (exfalso; omega)) | refine bS ?_|fail)
  all_goals have hie : i = L.length := by omega
  all_goals have hqq : q = (s,1,if i = 0 then 0 else L[i - 1]!) := by rw [← hf,hie,List.drop_length]; rfl
  ·rw [hqq, if_neg (by omega)]
   refine aC (l := [fX s,iv 1,iv LI[((LI.length : Int) - 1).toNat]!]) rfl ?_
   rw [show ((LI.length : Int) - 1).toNat = i - 1 by omega,hgx (i - 1) (by omega)]
   exact ⟨rfl,by exact Pur.pf⟩
  ·rw [hqq, if_pos (by omega)]
   exact aC (l := [fX s,iv 1,iv 0]) rfl ⟨rfl,by exact Pur.pf⟩
  ·exfalso
   have hd1 : dn = true := by assumption
   obtain ⟨l,b,e1,e2⟩ := Fz pts n 0 cs (by rw [← hdn]; exact hd1)
   rw [← hLe] at e1
   have hlen : L.length = l.length + 1 := by rw [e1,List.length_append]; rfl
   have hb : L[l.length]! = b := by rw [aZ _ _ (by omega)]; simp [e1]
   have := h11 l.length (by omega)
   rw [hb] at this
   exact this e2
theorem Dq {ts:List Int}{pts:List Pnt}(w:WG ts pts) (A:WA ts pts):∀ n a cs,a < pts.length → ∀ x ∈ (dH pts n a cs).1,x < pts.length
 | 0, a, cs, ha, x, hx => by
  unfold dH at hx
  by_cases e : pts[a]!.op = 11
  ·rw [if_pos e] at hx;rw [List.mem_singleton.1 hx]; exact ha
  ·rw [if_neg e] at hx;exact absurd hx (by simp)
 | n + 1, a, cs, ha, x, hx => by
  rw [dH] at hx
  by_cases e : pts[a]!.op = 11
  ·rw [if_pos e] at hx;rw [List.mem_singleton.1 hx]; exact ha
  ·rw [if_neg e] at hx
   rcases List.mem_cons.1 hx with h|h
   ·rw [h]; exact ha
   ·have he := wZ w A ha e cs
    have := w.nx a ha _ he.2
    exact Dq w A n _ _ (by omega) x h
theorem tH {pts:List Pnt}:∀ n a cs,(dH pts n a cs).1.length ≤ n + 1
 | 0,a,cs => by unfold dH;split <;> simp
 | n + 1, a, cs => by
  rw [dH]; split
  ·simp
  ·have := tH (pts := pts) n (g0 pts a cs).1 (g0 pts a cs).2
   dsimp only;rw [List.length_cons]; omega
theorem KF (p:Prg) (cs:List Int) (n:Nat) (hv:bB p = true) (hl:p.types.length ≤ 1000000) (hs:aT p.body ≤ 1000000) (hn:n ≤ 150) (hcl:cs.length ≤ 1000000):PC Go.Proofs.Tryz.prog 154 [bK p,sl cI cs,iv (n:Int)] (fun r => r = .tup [fX (dI p.types (aD p) cs n).1,iv (dI p.types (aD p) cs n).2.1,iv (dI p.types (aD p) cs n).2.2]) :=
 Ob p cs n hv hl hs hn hcl (Dq (WG.of_valid hv) (WA.of_valid hv) n 0 cs (WG.of_valid hv).p0) (by have := tH (pts := aD p) n 0 cs;omega)
def BC (p : Prg) (most : Int) : Bool := bB p && (decide (0 ≤ most) && decide (most ≤ 150))
theorem GO (p:Prg) (most:Int) (hl:p.types.length ≤ 1000000) (hs:aT p.body ≤ 1000000):PC Tryz.prog 153 [bK p,iv most] (fun r => r = bv (BC p most)):=by
 have hval := j6 p hl (by omega)
 refine aB Tryz.func153 Tryz.ntmps153 ?_
 repeat' (first|(apply aF;(apply aA (k := 61);rfl;exact hval;exact Pur.pf;rfl))|refine aE ?_|(refine bQ ?_ ?_ <;> intro hg hq <;> try (exfalso;omega))|fail)
 all_goals (refine aC rfl ⟨?_,rfl⟩; simp only [aO,AV.v.injEq,Value.bool.injEq]; unfold BC;grind)
theorem xJ (p:Prg) (cs:List Int) (most:Int) (hl:p.types.length ≤ 1000000) (hs:aT p.body ≤ 1000000) (hcl:cs.length ≤ 1000000):PC Tryz.prog 84 [bK p,sl cI cs,iv most] (fun r => r = .tup (if BC p most = true then [iv (dI p.types (aD p) cs most.toNat).2.1,iv (dI p.types (aD p) cs most.toNat).2.2] else [iv 5,iv 0])):=by
 have hrt := GO p most hl hs
 by_cases h : BC p most = true
 ·have h' := h
  unfold BC at h'
  simp only [Bool.and_eq_true,decide_eq_true_eq] at h'
  obtain ⟨hv,h0,h1⟩ := h'
  have hru := KF p cs most.toNat hv hl hs (by omega) hcl
  rw [Int.toNat_of_nonneg h0] at hru
  rw [h] at hrt
  rw [if_pos h]
  refine aB Tryz.func84 Tryz.ntmps84 ?_
  repeat' (first|(apply aF;first|(apply aA (k := 153);rfl;exact hrt;exact Pur.pf;rfl)|(apply aA (k := 154);rfl;exact hru;exact Pur.pf;rfl))|refine aE ?_|fail)
  exact aC (l := [iv (dI p.types (aD p) cs most.toNat).2.1,iv (dI p.types (aD p) cs most.toNat).2.2]) rfl ⟨rfl,rfl⟩
 ·rw [if_neg h]
  have h2 : BC p most = false := by simpa using h
  rw [h2] at hrt
  refine aB Tryz.func84 Tryz.ntmps84 ?_
  repeat' (first|(apply aF;(apply aA (k := 153);rfl;exact hrt;exact Pur.pf;rfl))|refine aE ?_|fail)
  exact aC (l := [iv 5,iv 0]) rfl ⟨rfl,rfl⟩
theorem Q5 {p:Prg}{cs:List Int}{n:Nat}(hv:bB p = true):OkS p.types.length (dI p.types (aD p) cs n).1:=by
 have wa := WA.of_valid hv
 have hp : ∀ a : Nat, PtN (aD p)[a]! := fun a => by
  by_cases h : a < (aD p).length
  ·exact ⟨fun e => (wa.a a h).n (.inr e)⟩
  ·refine ⟨fun e => ?_⟩
   rw [Lt,dif_neg h] at e
   exact absurd e (by decide)
 exact OkS.run hp _ _ _ (OkS.mc0 _)
theorem CK {ts:List Int}{s:Mc}{x:Pnt}:(bT ts s x).1.read.length ≤ s.read.length + 1:=by
 by_cases h : x.op = 11
 ·rw [uV h,v8]; omega
 ·exact BL h
theorem yD (ts:List Int) (pts:List Pnt):∀ (l:List Nat) (s:Mc) (last:Nat),(gX ts pts l s last).1.read.length ≤ s.read.length + l.length
 | [],s,last => by unfold gX;simp
 | a :: l, s, last => by
  have h := CK (ts := ts) (s := s) (x := pts[a]!)
  unfold gX;split
  ·dsimp only;omega
  ·split
   ·have := yD ts pts l (bT ts s pts[a]!).1 a
    rw [List.length_cons]; omega
   ·rw [List.length_cons]; dsimp only;omega
theorem DE {ts:List Int}{pts:List Pnt}{cs:List Int}{n:Nat}(hn:n ≤ 150):(dI ts pts cs n).1.read.length ≤ 151:=by
 have h := yD ts pts (dH pts n 0 cs).1 (mc0 ts.length) 0
 have h2 := tH (pts := pts) n 0 cs
 have h3 : (mc0 ts.length).read.length = 0 := rfl
 unfold dI;omega
theorem RN:Go.Proofs.Tryz.prog.underlying 280 = some (.map 3 4) := by kernel_rfl
theorem Rg:Go.Proofs.Tryz.prog.underlying 3 = some (.int .i64) := by kernel_rfl
theorem Rr:(Go.Proofs.Tryz.prog.info? 4).bind (·.zero) = some (.bool false) := by kernel_rfl
theorem RQ {a b c:Int}(h:a ≤ b ∧ b ≤ c):(!(decide (a ≤ b) && decide (b ≤ c))) = false := by simp [h.1,h.2]
theorem iL (m:List Cl) (hm:OkM m):PC Tryz.prog 239 [sl bJ m] (fun r => r = bv true):=by
 have hml := hm.l
 refine aB Tryz.func239 Tryz.ntmps239 ?_
 repeat' (first|refine aE ?_|(refine aK ?_ ?_ <;> intro hc hq <;> try (exfalso;omega))|fail)
 all_goals (try (exfalso;omega))
 refine aH (σ := Nat) [11,12] [] (fun i => [(13,iv (i : Int))]) (fun i => []) (fun i => i ≤ m.length) (fun i => m.length - i) (0) (Nat.zero_le _) ?_
 rintro i hi
 by_cases hin : i < m.length
 ·have hc := (cX m).1 hm |>.2 i hin
  obtain ⟨h1,h2,h3,h4,h5⟩ := (qT _).1 hc
  repeat' (first|(apply aF;(apply aA (k := 54);rfl;(apply dT);(rfl);rfl))|(apply ET;with_reducible apply Jp)|refine aE ?_|(refine aK ?_ ?_ <;> intro hc hq <;> try (exfalso;omega))|(refine bQ ?_ ?_ <;> intro hg hq <;> try (exfalso;omega))|fail)
  ·exfalso
   have hu : m[i]!.stk[Int.toNat 0]!.uq = false := by assumption
   rw [show Int.toNat 0 = 0 from rfl,h4] at hu;exact absurd hu (by decide)
  ·refine PM (KG rfl (fun r => ?_))
   refine Cm ?_
   repeat' (first|refine Jk ?_|fail)
   refine ⟨rfl,rfl,?_⟩
   refine lV (pK ?_)
   repeat' (first|refine aE ?_|fail)
   show tL _ _ _ _ _ _ _
   refine xQ ?_
   refine GN (σ := Nat) [4,5,11,12,13,44,45] [(4,_),(5,_),(11,_),(12,_),(13,_),(44,_),(45,_)] [0] [(0,some _)] (fun k => [(46,iv (k : Int))]) (fun k => []) (fun k => (m[i]!.stk.take k).map (·.id)) (fun k => k ≤ m[i]!.stk.length) (fun k => m[i]!.stk.length - k) (0) (Nat.zero_le _) (rfl) rfl rfl (by repeat' (first|exact trivial|refine And.intro rfl ?_)) (by repeat' (exact trivial)) ?_
   rintro k hk
   refine lV (pK ?_)
   repeat' (first|refine aE ?_|fail)
   show tL _ _ _ _ _ _ _
   refine lV (BA rfl (fun hb => BK ?_) (fun hb => Kk ?_))
   ·show tL _ _ _ _ _ _ _
    have hkl : k < m[i]!.stk.length := by have := of_decide_eq_true hb;omega
    obtain ⟨g1,g2,g3⟩ := h5 k hkl
    have hw := RQ (a := 0) (b := m[i]!.stk[k]!.id) (c := m[i]!.next - 1) ⟨g1,by omega⟩
    have hni : m[i]!.stk[k]!.id ∉ (m[i]!.stk.take k).map (·.id) := fun q => by
     obtain ⟨t,ht,e⟩ := List.mem_map.1 q
     obtain ⟨j,hj,rfl⟩ := List.getElem_of_mem ht
     rw [List.length_take] at hj
     have f := wK (stk := m[i]!.stk) (id := m[i]!.stk[k]!.id) (by omega) j (by omega)
     rw [aZ _ _ (by omega)] at f
     rw [List.getElem_take] at e
     exact f e
    refine lV (xQ (lV (pK ?_)))
    repeat' (first|refine aE ?_|fail)
    show tL _ _ _ _ _ _ _
    refine lV (lV (uM ?_))
    refine Cg (l1 := [_,_,_,_,_,_,_,_,_,_,_]) (l2 := [_,_]) ?_
    repeat' (first|(apply aF;(apply aA (k := 54);rfl;(apply dT);(rfl);rfl))|refine Jk ?_|fail)
    refine ⟨rfl,?_⟩
    refine Gw rfl rfl hw ?_
    refine DD RN Rg Rr rfl rfl hni rfl ?_
    refine Cm ?_
    repeat' (first|refine Jk ?_|fail)
    refine ⟨rfl,?_⟩
    show tL _ _ _ _ _ _ _
    refine BA rfl (fun h => by cases h) (fun _ => BK ?_)
    show tL _ _ _ _ _ _ _
    refine uM ?_
    refine Cg (l1 := [_,_,_]) (l2 := [_]) ?_
    repeat' (first|refine Jk ?_|fail)
    refine ⟨rfl,?_⟩
    refine Dw RN Rg Rr rfl rfl hni ?_
    refine Nk ?_
    show tL _ _ _ _ _ _ _
    refine pK ?_
    repeat' (first|refine aE ?_|fail)
    refine ⟨k + 1,by omega,by omega,?_,?_⟩
    ·refine Le.ren [(0,0)] rfl (by decide) ?_ ?_ <;> repeat' (first|exact trivial|refine And.intro ⟨_,rfl,?_⟩ ?_|refine And.intro ⟨_,_,rfl,rfl,?_⟩ ?_|exact Or.inr rfl|refine Or.inl ⟨?_,(by first|rfl|exact bF _ _|exact Pur.pf)⟩|rfl)
    ·rw [bE _ k hkl,List.map_append]; rfl
   ·have hkl : k = m[i]!.stk.length := by have := of_decide_eq_false hb; omega
    refine K0 ?_
    show Av 1 _ _ _
    repeat' (first|refine aE ?_|fail)
    (refine bC (i + 1) (Le.renA []) ?_ ?_)
    ·omega
    ·omega
 ·repeat' (first | refine aE ?_ | (refine aK ?_ ?_ <;> intro hc hq <;> try (exfalso; omega))|fail)
  refine aC rfl ⟨rfl,rfl⟩
theorem Le.bump {ts:List (Nat × AV)}{hs:List (Nat × Option (List AV))}{n:Nat}{z0:Lo}(k:Nat):Le ⟨ts,hs,n,z0⟩ ⟨ts,hs,n + k,z0⟩ := Le.of (fun _ _ h => h) (fun _ _ h => h) (Nat.le_add_right _ _) rfl
theorem yO {m:List Cl}{x0:Operand}(ha0:ev (lk tsl) x0 = some (sl bJ m)) (hmc:MC Tryz.prog 265 [sl bJ m] [] 0 (fun _:Unit => True) (fun _ => .own 1 0 m.length 4) (fun _ => [(1,some (flat bJ m))])) (hM:Nat.ble (nidl + 2) a6 = true) (hN:Nat.blt d N = true){md':Md}[hmd:MdA md (fI [x0] ++ []) (List.map Sum.inr (List.map Prod.fst ([((nidl + 1),some (flat bJ m))]:List (Nat × Option (List AV)))) ++ [.inl d]) md'] (kk:RW Tryz.prog N all Q md' rest ⟨(d,.own (nidl + 1) 0 m.length 4) :: tsl,gE hsl [((nidl + 1),some (flat bJ m))],nidl + 2,z0⟩):RW Tryz.prog N all Q md (⟨some d,.call ⟨.value (.func 265),#[x0],tys⟩,ty,pos,af,none⟩ :: rest) ⟨tsl,hsl,nidl,z0⟩:=by
 exact aX (l := [x0]) [] 2 [((nidl + 1),some (flat bJ m))] hmc (avs := [sl bJ m]) (by simp only [evL,ha0]) rfl hM hN (md' := md') (hmd := hmd) kk
theorem Bq (m:List Cl) (hl:m.length ≤ 1000000):MC Tryz.prog 265 [sl bJ m] [] 0 (fun _:Unit => True) (fun _ => .own 1 0 m.length 4) (fun _ => [(1,some (flat bJ m))]):=by
 refine aW Tryz.func265 Tryz.ntmps265 ?_
 repeat' (first|(apply aF;(apply CY;rfl;rfl;(intro b hb)))|refine aE ?_|(refine aK ?_ ?_ <;> intro hc hq <;> try (exfalso;omega))|fail)
 ·have h0 : m = [] := List.eq_nil_of_length_eq_zero (hb (by assumption))
  subst h0
  refine aR (Le.bump 1) ?_
  refine aR (Le.nilOwn (d := 2) 4 rfl (by decide)) ?_
  (refine aC rfl ?_; refine aS () trivial ?_ ⟨sE ?_,trivial⟩)
  ·rfl
  ·rfl
 ·(refine aC rfl ?_; refine aS () trivial ?_ ⟨sE ?_, trivial⟩)
  ·show AV.own 1 0 (0 + m.length) 4 = _; rw [Nat.zero_add]
  ·rfl
theorem rT {m:List Tg}{x0:Operand}(ha0:ev (lk tsl) x0 = some (sl cG m)) (hmc:MC Tryz.prog 266 [sl cG m] [] 0 (fun _:Unit => True) (fun _ => .own 1 0 m.length 2) (fun _ => [(1,some (flat cG m))])) (hM:Nat.ble (nidl + 2) a6 = true) (hN:Nat.blt d N = true){md':Md}[hmd:MdA md (fI [x0] ++ []) (List.map Sum.inr (List.map Prod.fst ([((nidl + 1),some (flat cG m))]:List (Nat × Option (List AV)))) ++ [.inl d]) md'] (kk:RW Tryz.prog N all Q md' rest ⟨(d,.own (nidl + 1) 0 m.length 2) :: tsl,gE hsl [((nidl + 1),some (flat cG m))],nidl + 2,z0⟩):RW Tryz.prog N all Q md (⟨some d,.call ⟨.value (.func 266),#[x0],tys⟩,ty,pos,af,none⟩ :: rest) ⟨tsl,hsl,nidl,z0⟩:=by
 exact aX (l := [x0]) [] 2 [((nidl + 1),some (flat cG m))] hmc (avs := [sl cG m]) (by simp only [evL,ha0]) rfl hM hN (md' := md') (hmd := hmd) kk
theorem CA (m:List Tg) (hl:m.length ≤ 1000000):MC Tryz.prog 266 [sl cG m] [] 0 (fun _:Unit => True) (fun _ => .own 1 0 m.length 2) (fun _ => [(1,some (flat cG m))]):=by
 refine aW Tryz.func266 Tryz.ntmps266 ?_
 repeat' (first|(apply aF;(apply CY;rfl;rfl;(intro b hb)))|refine aE ?_|(refine aK ?_ ?_ <;> intro hc hq <;> try (exfalso;omega))|fail)
 ·have h0 : m = [] := List.eq_nil_of_length_eq_zero (hb (by assumption))
  subst h0
  refine aR (Le.bump 1) ?_
  refine aR (Le.nilOwn (d := 2) 2 rfl (by decide)) ?_
  (refine aC rfl ?_; refine aS () trivial ?_ ⟨sE ?_,trivial⟩)
  ·rfl
  ·rfl
 ·(refine aC rfl ?_; refine aS () trivial ?_ ⟨sE ?_, trivial⟩)
  ·show AV.own 1 0 (0 + m.length) 2 = _; rw [Nat.zero_add]
  ·rfl
theorem Kw (t:Tg) (c g:Int):PC Tryz.prog 268 [SM t,.iptr [iv c,iv g]] (fun r => r = bv (decide (t.id = g))):=by
 refine aB Tryz.func268 Tryz.ntmps268 ?_
 repeat' (first|refine aE ?_|fail)
 exact aC rfl ⟨rfl,rfl⟩
theorem BB (t:Tg):PC Tryz.prog 270 [SM t] (fun r => r = bv t.uq):=by
 refine aB Tryz.func270 Tryz.ntmps270 ?_
 repeat' (first|refine aE ?_|fail)
 exact aC rfl ⟨rfl,rfl⟩
theorem z8 (stk:List Tg) (c g:Int) (hl:stk.length ≤ 1000000):PC Tryz.prog 267 [sl cG stk,.clos (.func 268) [] [.iptr [iv c,iv g]]] (fun r => r = iv (b8 stk g)):=by
 refine aB Tryz.func267 Tryz.ntmps267 ?_
 repeat' (first|refine aE ?_|fail)
 refine aH (σ := Nat) [0,1,7] [] (fun k => [(8,iv (k : Int))]) (fun k => []) (fun k => k ≤ stk.length ∧ ∀ j,j < k → stk[j]!.id ≠ g) (fun k => stk.length - k) (0) ⟨by omega,by omega⟩ ?_
 rintro k ⟨hk,hall⟩
 by_cases hkn : k < stk.length
 ·have hcl := Kw stk[k]! c g
  repeat' (first|(apply aF;(apply gG;rfl;rfl;infer_instance;rfl;(apply hcl);(rfl);rfl))|refine aE ?_|(refine aK ?_ ?_ <;> intro hc hq <;> try (exfalso;omega))|fail)
  ·refine aC rfl ⟨?_, rfl⟩
   simp only [aO]; rw [AP hkn (by assumption) hall]
  ·(refine bC (k + 1) (Le.renA []) ?_ ?_)
   ·refine ⟨by omega, fun j hj => ?_⟩
    by_cases e : j = k
    ·subst e;assumption
    ·exact hall j (by omega)
   ·omega
 ·repeat' (first | refine aE ?_ | (refine aK ?_ ?_ <;> intro hc hq <;> try (exfalso; omega))|fail)
  refine aC rfl ⟨?_,rfl⟩
  have h2 : b8 stk g < 0 := nU.2 (fun t ht => by obtain ⟨j,hj,rfl⟩ := List.getElem_of_mem ht;have := hall j (by omega);rwa [aZ _ _ hj] at this)
  have hb := dY stk g
  simp only [aO]; rw [show b8 stk g = -1 by omega]
def tA (xs : List Tg) : Int := match xs.findIdx? (fun t => t.uq) with | some i => i | none => -1
theorem NR (stk:List Tg) (hl:stk.length ≤ 1000000):PC Tryz.prog 267 [sl cG stk,.v (.func (.func 270) #[] #[])] (fun r => r = iv (tA stk)):=by
 refine aB Tryz.func267 Tryz.ntmps267 ?_
 repeat' (first|refine aE ?_|fail)
 refine aH (σ := Nat) [0,1,7] [] (fun k => [(8,iv (k : Int))]) (fun k => []) (fun k => k ≤ stk.length ∧ ∀ j,j < k → stk[j]!.uq = false) (fun k => stk.length - k) (0) ⟨by omega,by omega⟩ ?_
 rintro k ⟨hk,hall⟩
 by_cases hkn : k < stk.length
 ·have hcl := BB stk[k]!
  repeat' (first|(apply aF;(apply gG;rfl;rfl;infer_instance;rfl;(apply hcl);(rfl);rfl))|refine aE ?_|(refine aK ?_ ?_ <;> intro hc hq <;> try (exfalso;omega))|fail)
  ·refine aC rfl ⟨?_, rfl⟩
   have hu : stk[k]!.uq = true := by assumption
   have : stk.findIdx? (fun t => t.uq) = some k := by
    rw [List.findIdx?_eq_some_iff_getElem]
    refine ⟨hkn,by rw [← aZ stk k hkn]; exact hu,fun j hj => ?_⟩
    have := hall j hj;rw [aZ stk j (by omega)] at this;rw [this]; decide
   simp only [aO,tA,this]
  ·have hu : stk[k]!.uq = false := by assumption
   (refine bC (k + 1) (Le.renA []) ?_ ?_)
   ·refine ⟨by omega, fun j hj => ?_⟩
    by_cases e : j = k
    ·subst e;exact hu
    ·exact hall j (by omega)
   ·omega
 ·repeat' (first | refine aE ?_ | (refine aK ?_ ?_ <;> intro hc hq <;> try (exfalso; omega))|fail)
  refine aC rfl ⟨?_,rfl⟩
  have : stk.findIdx? (fun t => t.uq) = none := by
   rw [List.findIdx?_eq_none_iff]
   intro x hx
   obtain ⟨j,hj,rfl⟩ := List.getElem_of_mem hx
   have := hall j (by omega);rw [aZ stk j hj] at this;exact this
  simp only [aO,tA,this]
theorem Sc {xs:List Tg}{k:Nat}{a:Int}{b:Bool}(hk:k < xs.length):g6 (flat cG xs) (0 + k * 2) [iv a,bv b] = flat cG (xs.set k ⟨a,b⟩) := iW hk rfl
theorem KV {cs new:List AV}{k:Nat}(h:k ≤ cs.length):(g6 cs (0 + k) new).take k = cs.take k:=by
 unfold g6
 rw [Nat.zero_add,List.append_assoc,List.take_left' (by rw [List.length_take]; omega)]
def shr (xs : List Tg) : List Tg := xs.filter (fun t => !t.uq)
theorem Gn {xs:List Tg}(h:tA xs = -1):shr xs = xs:=by
 unfold tA at h
 split at h
 ·omega
 ·rename_i hn
  rw [List.findIdx?_eq_none_iff] at hn
  unfold shr
  rw [List.filter_eq_self]
  intro t ht
  have := hn t ht
  simp [this]
theorem GB {xs:List Tg}{i:Nat}(h:tA xs = (i:Int)):i < xs.length ∧ xs[i]!.uq = true ∧ shr (xs.take (i + 1)) = xs.take i:=by
 unfold tA at h
 split at h
 ·rename_i k hk
  obtain ⟨h1,h2,h3⟩ := List.findIdx?_eq_some_iff_getElem.1 hk
  have e : k = i := by omega
  subst e
  have hs : shr (xs.take k) = xs.take k := by
   unfold shr
   rw [List.filter_eq_self]
   intro t ht
   obtain ⟨j,hj,rfl⟩ := List.getElem_of_mem ht
   rw [List.length_take] at hj
   have := h3 j (by omega)
   rw [List.getElem_take]; simpa using this
  refine ⟨h1,by rw [aZ _ _ h1]; exact h2,?_⟩
  rw [bE xs k h1]
  unfold shr at hs ⊢
  rw [List.filter_append,hs,nT (by rw [aZ _ _ h1,h2]; rfl),List.append_nil]
 ·omega
theorem Om (xs:List Tg):-1 ≤ tA xs ∧ tA xs < xs.length:=by
 unfold tA
 split
 ·rename_i k hk
  obtain ⟨h1,_⟩ := List.findIdx?_eq_some_iff_getElem.1 hk
  omega
 ·omega
theorem Ms {xs:List Tg}{j:Nat}(hj:j < xs.length) (h:xs[j]!.uq = false):shr (xs.take (j + 1)) = shr (xs.take j) ++ [xs[j]!]:=by
 rw [bE xs j hj]; unfold shr
 rw [List.filter_append,rI (by rw [h]; rfl)]
theorem KC {xs:List Tg}{j:Nat}(hj:j < xs.length) (h:xs[j]!.uq = true):shr (xs.take (j + 1)) = shr (xs.take j):=by
 rw [bE xs j hj]; unfold shr
 rw [List.filter_append,nT (by rw [h]; rfl),List.append_nil]
theorem JV {α:Type}[Inhabited α] {L:List α}{i:Nat}{x:α}(h:i < L.length):(L.set i x).take (i + 1) = L.take i ++ [x]:=by
 rw [List.set_eq_take_append_cons_drop,if_pos h]
 have h1 : (L.take i).length = i := by rw [List.length_take]; omega
 rw [List.take_append,h1,show i + 1 - i = 1 by omega,List.take_of_length_le (by omega)]
 rfl
theorem JK {α:Type}[Inhabited α] {L M:List α}{j:Nat}(h:L.drop j = M.drop j) (hl:L.length = M.length) (hj:j < M.length):L[j]! = M[j]!:=by
 rw [aZ _ _ (by omega),aZ _ _ hj]
 rw [List.drop_eq_getElem_cons (by omega : j < L.length),List.drop_eq_getElem_cons hj] at h
 exact (List.cons.inj h).1
theorem wW {α:Type}{L M:List α}{j:Nat}(h:L.drop j = M.drop j):L.drop (j + 1) = M.drop (j + 1):=by
 rw [← List.drop_drop,h,List.drop_drop]
theorem LX {xs:List Tg}{m:Nat}{x0 x1:Operand}{i0:Nat}(ha0:ev (lk tsl) x0 = some (.own i0 0 m 2)) (ha1:ev (lk tsl) x1 = some (.v (.func (.func 270) #[] #[]))) (hH0:aV hsl i0 = some (flat cG xs)) (hmc:MC Tryz.prog 269 [.own 0 0 m 2,.v (.func (.func 270) #[] #[])] [(0,some (flat cG xs))] 1 (fun _:Unit => True) (fun _ => .own 0 0 (shr xs).length 2) (fun _ => [(0,some (flat cG (shr xs)))])) (hM:Nat.ble (nidl + 0) a6 = true) (hN:Nat.blt d N = true){md':Md}[hmd:MdA md (fI [x0,x1] ++ [.inr i0]) (List.map Sum.inr (List.map Prod.fst ([(i0,some (flat cG (shr xs)))]:List (Nat × Option (List AV)))) ++ [.inl d]) md'] (kk:RW Tryz.prog N all Q md' rest ⟨(d,.own i0 0 (shr xs).length 2) :: tsl,gE hsl [(i0,some (flat cG (shr xs)))],nidl + 0,z0⟩):RW Tryz.prog N all Q md (⟨some d,.call ⟨.value (.func 269),#[x0,x1],tys⟩,ty,pos,af,none⟩ :: rest) ⟨tsl,hsl,nidl,z0⟩:=by
 exact aX (l := [x0,x1]) [i0] 1 [(i0,some (flat cG (shr xs)))] hmc (avs := [.own i0 0 m 2,.v (.func (.func 270) #[] #[])]) (by simp only [evL,ha0,ha1]) rfl hM hN (md' := md') (hmd := hmd) kk
theorem Qu (xs:List Tg) (m:Nat) (hm:m = xs.length) (hl:m ≤ 1000000):MC Tryz.prog 269 [.own 0 0 m 2,.v (.func (.func 270) #[] #[])] [(0,some (flat cG xs))] 1 (fun _:Unit => True) (fun _ => .own 0 0 (shr xs).length 2) (fun _ => [(0,some (flat cG (shr xs)))]):=by
 subst hm
 have hix := NR xs hl
 have hbd := Om xs
 by_cases hn : tA xs = -1
 ·rw [hn] at hix
  have hs := Gn hn
  refine aW Tryz.func269 Tryz.ntmps269 ?_
  repeat' (first|(apply aF;(apply qB (k := 267);(case ha => rfl);(case hl => (repeat' (first|exact oD|apply lN|exact At|exact nX rfl inferInstance)));(case h => exact hix);(case hfr|hN => rfl);(case hmd => infer_instance)))|refine aE ?_|fail)
  all_goals (
   (refine aC rfl ?_; refine aS () trivial ?_ ⟨sE ?_,trivial⟩)
   ·rw [hs]; rfl
   ·rw [hs])
 ·obtain ⟨i0, hi0⟩ := Int.eq_ofNat_of_zero_le (show 0 ≤ tA xs by omega)
  obtain ⟨g1,g2,g3⟩ := GB hi0
  rw [hi0] at hix
  refine aW Tryz.func269 Tryz.ntmps269 ?_
  repeat' (first|(apply aF;(apply qB (k := 267);(case ha => rfl);(case hl => (repeat' (first|exact oD|apply lN|exact At|exact nX rfl inferInstance)));(case h => exact hix);(case hfr|hN => rfl);(case hmd => infer_instance)))|refine aE ?_|fail)
  all_goals (try (exfalso;omega))
  refine aH (σ := List Tg × Nat × Nat) [0,1] [] (fun s => [(5,iv (s.2.1 : Int)),(6,iv (s.2.2 : Int))]) (fun s => [(0,some (flat cG s.1))]) (fun s => s.1.length = xs.length ∧ s.1.take s.2.1 = shr (xs.take s.2.2) ∧ s.1.drop s.2.2 = xs.drop s.2.2 ∧ s.2.1 < s.2.2 ∧ s.2.2 ≤ xs.length) (fun s => xs.length - s.2.2) (xs,i0,i0 + 1) ⟨rfl,g3.symm,rfl,by dsimp only;omega,by dsimp only;omega⟩ ?_
  rintro ⟨L,i,j⟩ ⟨hL,ht,hd,hij,hj⟩
  dsimp only at hL ht hd hij hj ⊢
  by_cases hjn : j < xs.length
  ·have hcl := BB L[j]!
   have hg := JK hd hL hjn
   repeat' (first|(apply aF;first|(apply bD;rfl;rfl;rfl;rfl;rfl;(case hl => (first|(rw [aI]; simp only [gA] <;> omega)|(simp;done)));(exact Sc (by (first|assumption|omega))))|(apply gG;rfl;rfl;infer_instance;rfl;(apply hcl);(rfl);rfl))|refine aE ?_|(refine aK ?_ ?_ <;> intro hc hq <;> try (exfalso;omega))|fail)
   ·have hu : L[j]!.uq = false := by assumption
    (refine bC (_,i + 1,j + 1) (Le.renA []) ?_ ?_)
    ·refine ⟨by dsimp only; rw [List.length_set]; exact hL, ?_, ?_, by dsimp only; omega, by dsimp only; omega⟩
     ·dsimp only
      rw [JV (by omega),ht,Ms hjn (by rw [← hg]; exact hu),hg]
     ·dsimp only
      rw [List.drop_set_of_lt (by omega)]
      exact wW hd
    ·dsimp only;omega
   ·have hu : L[j]!.uq = true := by assumption
    (refine bC (L,i,j + 1) (Le.renA []) ?_ ?_)
    ·refine ⟨hL, ?_, wW hd, by dsimp only; omega, by dsimp only; omega⟩
     dsimp only
     rw [ht,KC hjn (by rw [← hg]; exact hu)]
    ·dsimp only;omega
  ·have hfl : (flat cG L).length = L.length * 2 := aI cG L
   repeat' (first|(apply aF;first|(apply gV (d := 38) (l := i) (h := xs.length);rfl;rfl;exact rU rfl (by omega);rfl;exact if_pos (by omega);rfl)|(apply gV (d := 41) (l := 0) (h := i);rfl;rfl;rfl;exact rU rfl (by omega);exact if_pos (by omega);rfl)|(apply La;rfl;rfl;omega;rfl;(rw [hfl]; omega);rfl))|refine aE ?_|(refine aK ?_ ?_ <;> intro hc hq <;> try (exfalso;omega))|fail)
   refine aR (Le.cut (i := 0) (i * 2) rfl) ?_
   have hje : j = xs.length := by omega
   have hLt : L.take i = shr xs := by rw [ht,hje,List.take_length]
   have hil : (shr xs).length = i := by rw [← hLt,List.length_take]; omega
   (refine aC rfl ?_; refine aS () trivial ?_ ⟨sE ?_,trivial⟩)
   ·show AV.own 0 (0 + 0 * 2) (i - 0) 2 = _
    rw [hil]; rfl
   ·rw [KV (by omega),dL cG (e := 2),hLt]
end Go.Proofs.YtahdccneecdmmaaGreat
