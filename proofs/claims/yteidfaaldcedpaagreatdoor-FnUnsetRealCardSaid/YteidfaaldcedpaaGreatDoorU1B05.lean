/-
 A part of the proofs over this program: rules and contracts of its functions (the contracts).
-/
import Derived.Test.YteidfaaldcedpaaGreatDoorU1B04
set_option linter.unusedVariables false
set_option linter.unusedSimpArgs false
set_option maxHeartbeats 8000000
set_option maxRecDepth 4000
attribute [local irreducible] Go.AL.RW Go.AL.AW Go.AL.Stop
namespace Go.Proofs.YteidfaaldcedpaaGreatDoor
open Go.AL Go.RowKit
variable {N : Nat} {Q : Exit → AS → Prop} {all : Array Oper} {rest : List Oper} {tsl : List (Nat × AV)} {hsl : List (Nat × Option (List AV))} {nidl : Nat} {z0 : Lo} {md : Md} {d : Nat} {ty : TypeId} {pos : String} {af : Array Edge} {tys : Array TypeId}
theorem Oz {cs:List AV}{i:Nat}{c:AV}:gW cs i [c] = cs.take i ++ c :: cs.drop (i + 1):=by
 have := Bb (cs := cs) (v := i) (c := c)
 rwa [Nat.zero_add,Nat.mul_one] at this
theorem Le.frzCl {ts:List (Nat × AV)}{hs:List (Nat × Option (List AV))}{n:Nat}{z0:Lo}{j q v m:Nat}{u:List Cl}{r:List Tg}(hj:aT hs j = some (gW (flat bO u) (0 + v * 4 + 3) [.own q 0 m 2])) (hq:aT hs q = some (flat cD r)) (hm:m = r.length) (hv:v < u.length) (hjq:j ≠ q) :
  Le ⟨ts,hs,n,z0⟩ ⟨ts,(j,some (flat bO (u.set v { u[v]! with stk := r }))) :: (q,none) :: hs,n,z0⟩ := by
 subst hm
 have hl : (flat bO u).length = u.length * 4 := aI bO u
 have e := Dt (s := r) hv
 rw [Oz] at hj e
 have h := Le.frzC (ts := ts) (n := n) (z0 := z0) ((flat bO u).take (0 + v * 4 + 3)) hj hq hjq
 rw [← e]; exact h
theorem pX {m:List Cl}{x:Pt}{wr:Bool}:(dQ m x wr).length = m.length:=by
 unfold dQ;split
 ·rw [List.length_set]
 ·rfl
theorem iP {m:List Cl}{x:Pt}{x0 x1:Operand}(ha0:ev (lk tsl) x0 = some (sl bO m)) (ha1:ev (lk tsl) x1 = some (nS x)) (hmc:MC Tryz.prog 160 [sl bO m,nS x] [] 0 (fun _:Unit => True) (fun _ => .tup [.own 1 0 m.length 4,iv (a8 m x true)]) (fun _ => [(1,some (flat bO (dQ m x true)))])) (hM:Nat.ble (nidl + 2) a6 = true) (hN:Nat.blt d N = true){md':Md}[hmd:MdA md (fF [x0,x1] ++ []) (List.map Sum.inr (List.map Prod.fst ([((nidl + 1),some (flat bO (dQ m x true)))]:List (Nat × Option (List AV)))) ++ [.inl d]) md'] (kk:RW Tryz.prog N all Q md' rest ⟨(d,.tup [.own (nidl + 1) 0 m.length 4,iv (a8 m x true)]) :: tsl,gD hsl [((nidl + 1),some (flat bO (dQ m x true)))],nidl + 2,z0⟩):RW Tryz.prog N all Q md (⟨some d,.call ⟨.value (.func 160),#[x0,x1],tys⟩,ty,pos,af,none⟩ :: rest) ⟨tsl,hsl,nidl,z0⟩:=by
 exact aX (l := [x0,x1]) [] 2 [((nidl + 1),some (flat bO (dQ m x true)))] hmc (avs := [sl bO m,nS x]) (by simp only [evL,ha0,ha1]) rfl hM hN (md' := md') (hmd := hmd) kk
theorem j3 (m:List Cl) (x:Pt) (hm:OkM m):MC Tryz.prog 160 [sl bO m,nS x] [] 0 (fun _:Unit => True) (fun _ => .tup [.own 1 0 m.length 4,iv (a8 m x true)]) (fun _ => [(1,some (flat bO (dQ m x true)))]):=by
 have hml := hm.l
 have hst : 0 ≤ x.cell → x.cell < m.length → m[x.cell.toNat]!.stk.length ≤ 200 := fun h1 h2 => (((cQ m).1 hm).2 x.cell.toNat (by omega)).l.2
 have hpl := lA m hm x
 by_cases hk : a8 m x false = 0
 ·rw [if_pos hk, hk] at hpl
  obtain ⟨h1,h2,h3,h4,_⟩ := dM hk
  have hbd := eX m[x.cell.toNat]!.stk x.tag
  have hs2 := hst h1 h2
  obtain ⟨k,hkk⟩ := Int.eq_ofNat_of_zero_le h4
  rw [hkk] at hpl
  have hkn : k < m[x.cell.toNat]!.stk.length := by omega
  have hkt : (cA m[x.cell.toNat]!.stk x.tag).toNat = k := by omega
  have hwr := AI (m := m) (x := x)
  rw [if_pos hk,hkt] at hwr
  have e1 : List.take (((k : Int) + 1).toNat - 0) (List.drop 0 m[x.cell.toNat]!.stk) = m[x.cell.toNat]!.stk.take (k + 1) := by rw [List.drop_zero]; congr 1
  have e2 : (m[x.cell.toNat]!.stk.take (k + 1)).length = k + 1 := by rw [List.length_take]; omega
  refine aU Tryz.func160 Tryz.ntmps160 ?_
  repeat' (first|(apply aF;first|(apply fD;rfl;exact fW m hm;rfl;rfl)|(apply aA (k := 165);rfl;exact hpl;exact Pur.pf;rfl)|(with_reducible apply aZ (d := 46)))|refine aE ?_|(refine aK ?_ ?_ <;> intro hc hq <;> try (exfalso;omega))|refine bH ?_|fail)
  ·have hu : m[x.cell.toNat]!.stk[k]!.uq = false := by assumption
   rw [if_pos hu] at hwr
   (refine aC rfl ?_; refine aP () trivial ?_ ⟨sE ?_,trivial⟩)
   ·rw [hwr]; rfl
   ·unfold dQ;rw [if_neg (by rw [hwr]; decide)]
  ·have hu : m[x.cell.toNat]!.stk[k]!.uq = true := by assumption
   rw [if_neg (by rw [hu]; decide)] at hwr
   refine bY ?_
   rw [e1]
   repeat' (first|(apply aF;(with_reducible apply aZ (d := 49)))|refine aE ?_|fail)
   refine bY (cX ?_ (Le.frzCl (j := 1) (q := 3) (v := x.cell.toNat) (u := m) (r := m[x.cell.toNat]!.stk.take (k + 1)) rfl rfl (Nat.zero_add _) (by omega) (by decide)))
   repeat' (first|refine aE ?_|fail)
   (refine aC rfl ?_; refine aP () trivial ?_ ⟨sE ?_,trivial⟩)
   ·rw [hwr]; rfl
   ·unfold dQ uL gV;rw [if_pos hwr,hkt,if_pos rfl]
 ·rw [if_neg hk] at hpl
  have hk2 : a8 m x true = a8 m x false := by rw [AI,if_neg hk]
  refine aU Tryz.func160 Tryz.ntmps160 ?_
  repeat' (first|(apply aF;first|(apply fD;rfl;exact fW m hm;rfl;rfl)|(apply aA (k := 165);rfl;exact hpl;exact Pur.pf;rfl))|refine aE ?_|(refine aK ?_ ?_ <;> intro hc hq <;> try (exfalso;omega))|fail)
  (refine aC rfl ?_; refine aP () trivial ?_ ⟨sE ?_,trivial⟩)
  ·rw [hk2]; rfl
  ·unfold dQ;rw [if_neg (by rw [hk2]; exact hk)]
theorem set_set {α:Type}{l:List α}{i:Nat}{a b:α}:(l.set i a).set i b = l.set i b := by simp
theorem lV {α:Type}[Inhabited α] {l:List α}{i:Nat}{a:α}(h:i < l.length):(l.set i a)[i]! = a := by rw [aY _ _ (by rw [List.length_set]; exact h),List.getElem_set_self]
theorem zS (m:List Cl) (hm:OkM m) (x:Pt) (v:Int):PC Tryz.prog 135 [sl bO m,nS x,iv v] (fun r => r = .tup [sl bO (yL m x v),iv (yR m x v)]):=by
 have hml := hm.l
 have hlt := pX (m := m) (x := x) (wr := true)
 have hin := dM (m := m) (x := x) (wr := true)
 by_cases hv : 0 ≤ v ∧ v ≤ 9
 ·have hwk : yR m x v = a8 m x true := by unfold yR; rw [if_pos hv]
  by_cases hk : a8 m x true = 0
  ·obtain ⟨h1, h2, _⟩ := hin hk
   refine aB Tryz.func135 Tryz.ntmps135 ?_
   repeat' (first|(apply aF;first|(apply iP;rfl;rfl;exact j3 m x hm;rfl;rfl)|(apply bC;rfl;rfl;rfl;rfl;rfl;(rw [aI]; simp only [gB] <;> omega);(exact OG (by (omega)))))|refine aE ?_|(refine aK ?_ ?_ <;> intro hc hq <;> try (exfalso;omega))|(refine bK ?_ ?_ <;> intro hg hq <;> try (exfalso;omega))|fail)
   (refine aO (Le.frzD (d := 6) (i := 2) rfl rfl) ?_; refine aC rfl ?_)
   refine ⟨?_,by exact Pur.pf⟩
   simp only [aM]
   rw [eW (by rw [List.length_set,hlt]),hwk]
   unfold yL dQ;rw [if_pos hk,if_pos (by rw [hwk]; exact hk),lV (by omega),set_set]
  ·refine aB Tryz.func135 Tryz.ntmps135 ?_
   repeat' (first|(apply aF;(apply iP;rfl;rfl;exact j3 m x hm;rfl;rfl))|refine aE ?_|(refine aK ?_ ?_ <;> intro hc hq <;> try (exfalso;omega))|(refine bK ?_ ?_ <;> intro hg hq <;> try (exfalso;omega))|fail)
   (refine aO (Le.frzD (d := 6) (i := 2) rfl rfl) ?_; refine aC rfl ?_)
   refine ⟨?_,by exact Pur.pf⟩
   simp only [aM]
   rw [eW (by rw [hlt]),hwk]
   unfold yL dQ;rw [if_neg hk,if_neg (by rw [hwk]; exact hk)]
 ·have hwk : yR m x v = 4 := by unfold yR; rw [if_neg hv]
  have e : yL m x v = m := by unfold yL;rw [if_neg (by rw [hwk]; decide)]
  refine aB Tryz.func135 Tryz.ntmps135 ?_
  repeat' (first|(apply aF;(apply fD;rfl;exact fW m hm;rfl;rfl))|refine aE ?_|(refine aK ?_ ?_ <;> intro hc hq <;> try (exfalso;omega))|(refine bK ?_ ?_ <;> intro hg hq <;> try (exfalso;omega))|fail)
  all_goals (try (exfalso;omega))
  all_goals (
   (refine aO (Le.frzD (d := 6) (i := 1) rfl rfl) ?_; refine aC rfl ?_)
   refine ⟨?_,by exact Pur.pf⟩
   simp only [aM]
   rw [e,hwk])
theorem m6 (m:List Cl) (hm:OkM m) (x:Pt):PC Tryz.prog 127 [sl bO m,nS x] (fun r => r = .tup [sl bO (k6 m x),iv (a8 m x true)]):=by
 have hml := hm.l
 have hlt := pX (m := m) (x := x) (wr := true)
 have hin := dM (m := m) (x := x) (wr := true)
 by_cases hk : a8 m x true = 0
 ·obtain ⟨h1, h2, _⟩ := hin hk
  refine aB Tryz.func127 Tryz.ntmps127 ?_
  repeat' (first|(apply aF;first|(apply iP;rfl;rfl;exact j3 m x hm;rfl;rfl)|(apply bC;rfl;rfl;rfl;rfl;rfl;(rw [aI]; simp only [gB] <;> omega);(exact OP (by (omega)))))|refine aE ?_|(refine aK ?_ ?_ <;> intro hc hq <;> try (exfalso;omega))|fail)
  (refine aO (Le.frzD (d := 4) (i := 2) rfl rfl) ?_; refine aC rfl ?_)
  refine ⟨?_,by exact Pur.pf⟩
  simp only [aM]
  rw [eW (by rw [List.length_set,hlt])]
  unfold k6 dQ;rw [if_pos hk,if_pos hk,lV (by omega),set_set]
 ·refine aB Tryz.func127 Tryz.ntmps127 ?_
  repeat' (first|(apply aF;(apply iP;rfl;rfl;exact j3 m x hm;rfl;rfl))|refine aE ?_|(refine aK ?_ ?_ <;> intro hc hq <;> try (exfalso;omega))|fail)
  (refine aO (Le.frzD (d := 4) (i := 2) rfl rfl) ?_; refine aC rfl ?_)
  refine ⟨?_,by exact Pur.pf⟩
  simp only [aM]
  rw [eW (by rw [hlt])]
  unfold k6 dQ;rw [if_neg hk,if_neg hk]
theorem Ek (m:List Cl) (hm:OkM m) (v:Int):PC Tryz.prog 131 [sl bO m,iv v] (fun r => r = .tup (if 0 ≤ v ∧ v ≤ 9 ∧ m.length < 200 then [sl bO (m ++ [xC v]),.agg [iv m.length,iv 0],bv true] else [sl bO [],.agg [iv 0,iv 0],bv false])):=by
 have hml := hm.l
 have hcv := oI m (by omega)
 rw [decide_eq_true hm] at hcv
 refine aB Tryz.func131 Tryz.ntmps131 ?_
 repeat' (first|(apply aF;first|(apply fD;rfl;exact fW m hm;rfl;rfl)|(apply aA (k := 161);rfl;exact hcv;exact Pur.pf;rfl)|(apply aJ (t := _);rfl;rfl;rfl;(first|exact (rfl:_=some [_,_])|exact (rfl:_=some [_,_,_,_])|rfl);rfl;rfl))|refine aE ?_|(refine aK ?_ ?_ <;> intro hc hq <;> try (exfalso;omega))|(refine bK ?_ ?_ <;> intro hg hq <;> try (exfalso;omega))|fail)
 all_goals try exact aC (l := [sl bO [],.agg [iv 0,iv 0],bv false]) rfl ⟨by rw [if_neg (by omega)]; rfl,rfl⟩
 have e : ((flat bO m).drop 0).take (m.length * 4) ++ [iv v,bv true,iv 1,.imm 1 [iv 0,bv true]] = flat bO (m ++ [xC v]) := fJ rfl rfl
 have e2 : AV.imm (m.length + 1) (((flat bO m).drop 0).take (m.length * 4) ++ [iv v, bv true, iv 1, .imm 1 [iv 0, bv true]]) = sl bO (m ++ [xC v]) := by
  rw [e]; exact eW (by rw [List.length_append]; rfl)
 refine aO (Le.frzD (d := 4) (i := 4) rfl rfl) ?_
 refine aC (l := [AV.imm (m.length + 1) (((flat bO m).drop 0).take (m.length * 4) ++ [iv v,bv true,iv 1,.imm 1 [iv 0,bv true]]),.agg [iv m.length,iv 0],bv true]) rfl ?_
 rw [e2,if_pos (by omega)]
 exact ⟨rfl,by exact Pur.pf⟩
def oZ (m : List Cl) (j : Nat) (r : List Tg) : Prop := r.length = 200 ∨ m[j]!.next = 1000
instance (m : List Cl) (j : Nat) (r : List Tg) : Decidable (oZ m j r) := by unfold oZ;infer_instance
def j9 (m b : List Cl) (j : Nat) (u : Bool) (r : List Tg) : List Cl := if oZ m j r then b else m.set j (psh { m[j]! with stk := r } u)
def kA (m : List Cl) (j : Nat) (r : List Tg) : Pt := if oZ m j r then ⟨0,0⟩ else ⟨j,m[j]!.next⟩
def kD (m : List Cl) (j : Nat) (r : List Tg) : Int := if oZ m j r then 4 else 0
theorem yB {m b:List Cl}{j:Nat}{u:Bool}{r:List Tg}{n k:Nat}{x0 x1 x2 x3:Operand}{i0 i1:Nat}(ha0:ev (lk tsl) x0 = some (.own i0 0 n 4)) (ha1:ev (lk tsl) x1 = some (sl bO b)) (ha2:ev (lk tsl) x2 = some (iv (j:Int))) (ha3:ev (lk tsl) x3 = some (bv u)) (hH0:aT hsl i0 = some (flat eY (dA m j (.own i1 0 k 2)))) (hH1:aT hsl i1 = some (flat cD r)) (hdd:Go.AL.distinct [i0,i1] = true) (hmc:MC Tryz.prog 185 [.own 0 0 n 4,sl bO b,iv (j:Int),bv u] [(0,some (flat eY (dA m j (.own 1 0 k 2)))),(1,some (flat cD r))] 2 (fun _:Unit => True) (fun _ => .tup [sl bO (j9 m b j u r),nS (kA m j r),iv (kD m j r)]) (fun _ => [])) (hM:Nat.ble (nidl + 0) a6 = true) (hN:Nat.blt d N = true){md':Md}[hmd:MdA md (fF [x0,x1,x2,x3] ++ [.inr i0,.inr i1]) (List.map Sum.inr (List.map Prod.fst ([(i0,none),(i1,none)]:List (Nat × Option (List AV)))) ++ [.inl d]) md'] (kk:RW Tryz.prog N all Q md' rest ⟨(d,.tup [sl bO (j9 m b j u r),nS (kA m j r),iv (kD m j r)]) :: tsl,gD hsl [(i0,none),(i1,none)],nidl + 0,z0⟩):RW Tryz.prog N all Q md (⟨some d,.call ⟨.value (.func 185),#[x0,x1,x2,x3],tys⟩,ty,pos,af,none⟩ :: rest) ⟨tsl,hsl,nidl,z0⟩:=by
 exact aX (l := [x0,x1,x2,x3]) [i0,i1] 2 [(i0,none),(i1,none)] hmc (avs := [.own i0 0 n 4,sl bO b,iv (j : Int),bv u]) (by simp only [evL,ha0,ha1,ha2,ha3]) hdd hM hN (md' := md') (hmd := hmd) kk
theorem CQ (m b:List Cl) (j:Nat) (u:Bool) (r:List Tg) (n k:Nat) (hb:OkM b) (hn:n = m.length) (hk:k = r.length) (hj:j < m.length) (hnx:0 ≤ m[j]!.next ∧ m[j]!.next ≤ 1000) (hr:r.length ≤ 200) (hml:m.length ≤ 200):MC Tryz.prog 185 [.own 0 0 n 4,sl bO b,iv (j:Int),bv u] [(0,some (flat eY (dA m j (.own 1 0 k 2)))),(1,some (flat cD r))] 2 (fun _:Unit => True) (fun _ => .tup [sl bO (j9 m b j u r),nS (kA m j r),iv (kD m j r)]) (fun _ => []):=by
 have hol := c7 (m := m) (j := j) (X := .own 1 0 k 2)
 have hog := iJ (m := m) (j := j) (X := .own 1 0 k 2) hj
 have hol2 := c7 (m := m) (j := j) (X := .own (2 + 1 + 1 + 1) 0 (r.length + 1) 2)
 subst hn hk
 refine aU Tryz.func185 Tryz.ntmps185 ?_
 repeat' (first|(apply aF;(with_reducible apply aZ (d := 11)))|refine aE ?_|fail)
 refine bY ?_
 rw [hog]
 dsimp only
 repeat' (first|(apply aF;first|(apply aA (k := 162);rfl;exact H8 b hb;exact Pur.pf;rfl)|(apply bZ;rfl;rfl;rfl;rfl;rfl;(rw [aI]; omega);(rfl);omega;omega;(exact tW (by (omega)));rfl;rfl)|(apply bC;rfl;rfl;rfl;rfl;rfl;(case hl => (first|decide|(rw [aI]; simp only [gB] <;> omega)|(simp;done)));(first|exact u9 (by (assumption))|exact Ai (by (assumption))))|(apply aJ (t := _);rfl;rfl;rfl;(exact (rfl:_=some [_,_]));rfl;rfl))|refine aE ?_|(refine aK ?_ ?_ <;> intro hc hq <;> try (exfalso;omega))|(refine bK ?_ ?_ <;> intro hg hq <;> try (exfalso;omega))|fail)
 ·have hf : oZ m j r := .inr (by assumption)
  refine aC (l := [sl bO b,.agg [iv 0,iv 0],iv 4]) rfl ?_
  refine aP () trivial ?_ trivial
  unfold j9 kA kD;rw [if_pos hf,if_pos hf,if_pos hf]; rfl
 ·have hf : ¬ oZ m j r := by unfold oZ; omega
  have hm2 : (m.set j { m[j]! with next := m[j]!.next + 1 }).length = m.length := List.length_set
  refine aO (Le.cls (o := 0) (q := 5) (j := j) (k := r.length + 1) (m := m.set j { m[j]! with next := m[j]!.next + 1 }) (r := r ++ [⟨m[j]!.next,u⟩]) rfl rfl (by rw [List.length_append]; rfl) (by omega) (by decide)) ?_
  refine aO (Le.frzD (d := 8) (i := 0) rfl rfl) ?_
  have e : (m.set j { m[j]! with next := m[j]!.next + 1 }).set j { (m.set j { m[j]! with next := m[j]!.next + 1 })[j]! with stk := r ++ [⟨m[j]!.next, u⟩] } = m.set j (psh { m[j]! with stk := r } u) := by
   rw [lV hj,set_set]; rfl
  rw [e]
  refine aC (l := [.imm m.length (flat bO (m.set j (psh { m[j]! with stk := r } u))),.agg [iv (j : Int),iv m[j]!.next],iv 0]) rfl ?_
  refine aP () trivial ?_ trivial
  unfold j9 kA kD;rw [if_neg hf,if_neg hf,if_neg hf,eW (by rw [List.length_set])]; rfl
 ·have hf : oZ m j r := .inl (by omega)
  refine aC (l := [sl bO b,.agg [iv 0,iv 0],iv 4]) rfl ?_
  refine aP () trivial ?_ trivial
  unfold j9 kA kD;rw [if_pos hf,if_pos hf,if_pos hf]; rfl
theorem En {stk r:List Tg}{k:Nat}{x0 x1:Operand}(ha0:ev (lk tsl) x0 = some (sl cD stk)) (ha1:ev (lk tsl) x1 = some (iv (k:Int))) (hmc:MC Tryz.prog 166 [sl cD stk,iv (k:Int)] [] 0 (fun _:Unit => True) (fun _ => .own 1 0 r.length 2) (fun _ => [(1,some (flat cD r))])) (hM:Nat.ble (nidl + 2) a6 = true) (hN:Nat.blt d N = true){md':Md}[hmd:MdA md (fF [x0,x1] ++ []) (List.map Sum.inr (List.map Prod.fst ([((nidl + 1),some (flat cD r))]:List (Nat × Option (List AV)))) ++ [.inl d]) md'] (kk:RW Tryz.prog N all Q md' rest ⟨(d,.own (nidl + 1) 0 r.length 2) :: tsl,gD hsl [((nidl + 1),some (flat cD r))],nidl + 2,z0⟩):RW Tryz.prog N all Q md (⟨some d,.call ⟨.value (.func 166),#[x0,x1],tys⟩,ty,pos,af,none⟩ :: rest) ⟨tsl,hsl,nidl,z0⟩:=by
 exact aX (l := [x0,x1]) [] 2 [((nidl + 1),some (flat cD r))] hmc (avs := [sl cD stk,iv (k : Int)]) (by simp only [evL,ha0,ha1]) rfl hM hN (md' := md') (hmd := hmd) kk
theorem GQ (stk r:List Tg) (k:Nat) (hr:r = gV stk k false) (hk:k < stk.length) (hl:stk.length ≤ 1048576):MC Tryz.prog 166 [sl cD stk,iv (k:Int)] [] 0 (fun _:Unit => True) (fun _ => .own 1 0 r.length 2) (fun _ => [(1,some (flat cD r))]):=by
 have e1 : List.take (((k : Int) + 1).toNat - 0) (List.drop 0 stk) = stk.take (k + 1) := by rw [List.drop_zero]; congr 1
 have e2 : (stk.take (k + 1)).length = k + 1 := by rw [List.length_take]; omega
 refine aU Tryz.func166 Tryz.ntmps166 ?_
 repeat' (first|(apply aF;(with_reducible apply aZ (d := 12)))|refine aE ?_|fail)
 refine bY ?_
 rw [e1]
 repeat' (first|refine aE ?_|fail)
 refine aH (σ := Nat × List Tg × Nat) [0] [] (fun s => [(6,iv (s.1 : Int)),(5,.own 1 0 s.2.2 2)]) (fun s => [(1,some (flat cD s.2.1))]) (fun s => k + 1 ≤ s.1 ∧ s.1 ≤ stk.length ∧ s.2.1 = stk.take (k + 1) ++ ((stk.drop (k + 1)).take (s.1 - (k + 1))).filter (fun t => !t.uq) ∧ s.2.2 = s.2.1.length ∧ s.2.2 ≤ s.1) (fun s => stk.length - s.1) (k + 1,stk.take (k + 1),0 + (stk.take (k + 1)).length) ⟨Nat.le_refl _,by dsimp only;omega,by simp,by dsimp only;omega,by dsimp only;omega⟩ ?_
 rintro ⟨i,xs,n⟩ ⟨hki,hi,hxs,hn,hni⟩
 dsimp only at hki hi hxs hn hni ⊢
 repeat' (first|(apply aF;first|(apply bZ;rfl;rfl;rfl;rfl;rfl;(rw [aI]; omega);(rfl);omega;omega;(exact tW (by (assumption)));rfl;rfl)|(apply aJ (t := _);rfl;rfl;rfl;(exact (rfl:_=some [_,_]));rfl;rfl))|refine aE ?_|(refine aK ?_ ?_ <;> intro hc hq <;> try (exfalso;omega))|fail)
 ·(refine bB (i + 1, _, _) (Le.renA [(1, 3)]) ?_ ?_)
  ·refine ⟨by dsimp only; omega, by dsimp only; omega, ?_, by dsimp only; rw [List.length_append, hn]; rfl, by dsimp only; omega⟩
   dsimp only
   rw [hxs,kM stk hki (by omega),List.filter_append,List.append_assoc]
   congr 2
   have hu : stk[i]!.uq = false := by assumption
   rw [rX (by rw [hu]; rfl)]
  ·dsimp only;omega
 ·(refine bB (i + 1, xs, n) (Le.renA [(1, 1)]) ?_ ?_)
  ·refine ⟨by dsimp only; omega, by dsimp only; omega, ?_, hn, by dsimp only; omega⟩
   dsimp only
   have hu : stk[i]!.uq = true := by assumption
   rw [hxs,kM stk hki (by omega),List.filter_append,oD (by rw [hu]; rfl),List.append_nil]
  ·dsimp only;omega
 ·have hie : i = stk.length := by omega
  have hd : (stk.drop (k + 1)).take (stk.length - (k + 1)) = stk.drop (k + 1) := List.take_of_length_le (by rw [List.length_drop]; exact Nat.le_refl _)
  have hxr : xs = r := by rw [hxs,hie,hd,hr]; rfl
  subst hxr
  (refine aC rfl ?_; refine aP () trivial ?_ ⟨sE ?_,trivial⟩)
  ·rw [hn]; rfl
  ·rfl
theorem JC {m:List Cl}{x:Pt}{j:Nat}{r:List Tg}{v:Int}{x0 x1:Operand}(ha0:ev (lk tsl) x0 = some (sl bO m)) (ha1:ev (lk tsl) x1 = some (nS x)) (hmc:MC Tryz.prog 134 [sl bO m,nS x] [] 0 (fun _:Unit => True) (fun _ => .tup [.own 1 0 m.length 4,iv v,iv 0]) (fun _ => [(1,some (flat eY (dA m j (.own 3 0 r.length 2)))),(3,some (flat cD r))])) (hM:Nat.ble (nidl + 4) a6 = true) (hN:Nat.blt d N = true){md':Md}[hmd:MdA md (fF [x0,x1] ++ []) (List.map Sum.inr (List.map Prod.fst ([((nidl + 1),some (flat eY (dA m j (.own (nidl + 3) 0 r.length 2)))),((nidl + 3),some (flat cD r))]:List (Nat × Option (List AV)))) ++ [.inl d]) md'] (kk:RW Tryz.prog N all Q md' rest ⟨(d,.tup [.own (nidl + 1) 0 m.length 4,iv v,iv 0]) :: tsl,gD hsl [((nidl + 1),some (flat eY (dA m j (.own (nidl + 3) 0 r.length 2)))),((nidl + 3),some (flat cD r))],nidl + 4,z0⟩):RW Tryz.prog N all Q md (⟨some d,.call ⟨.value (.func 134),#[x0,x1],tys⟩,ty,pos,af,none⟩ :: rest) ⟨tsl,hsl,nidl,z0⟩:=by
 exact aX (l := [x0,x1]) [] 4 [((nidl + 1),some (flat eY (dA m j (.own (nidl + 3) 0 r.length 2)))),((nidl + 3),some (flat cD r))] hmc (avs := [sl bO m,nS x]) (by simp only [evL,ha0,ha1]) rfl hM hN (md' := md') (hmd := hmd) kk
theorem MO (m:List Cl) (x:Pt) (j:Nat) (r:List Tg) (v:Int) (hm:OkM m) (hk:a8 m x false = 0) (hj:j = x.cell.toNat) (hr:r = gV m[j]!.stk (cA m[j]!.stk x.tag).toNat false) (hv:v = m[j]!.val):MC Tryz.prog 134 [sl bO m,nS x] [] 0 (fun _:Unit => True) (fun _ => .tup [.own 1 0 m.length 4,iv v,iv 0]) (fun _ => [(1,some (flat eY (dA m j (.own 3 0 r.length 2)))),(3,some (flat cD r))]):=by
 subst hj
 have hml := hm.l
 have hst : 0 ≤ x.cell → x.cell < m.length → m[x.cell.toNat]!.stk.length ≤ 1048576 := fun h1 h2 => Nat.le_trans (((cQ m).1 hm).2 x.cell.toNat (by omega)).l.2 (by decide)
 have hpl := lA m hm x
 rw [if_pos hk,hk] at hpl
 obtain ⟨h1,h2,h3,h4,_⟩ := dM hk
 have hbd := eX m[x.cell.toNat]!.stk x.tag
 have hrd := GQ m[x.cell.toNat]!.stk r (cA m[x.cell.toNat]!.stk x.tag).toNat hr (by omega) (hst h1 h2)
 rw [Int.toNat_of_nonneg h4] at hrd
 obtain ⟨k,hkk⟩ := Int.eq_ofNat_of_zero_le h4
 rw [hkk] at hpl hrd
 refine aU Tryz.func134 Tryz.ntmps134 ?_
 repeat' (first|(apply aF;first|(apply fD;rfl;exact fW m hm;rfl;rfl)|(apply aA (k := 165);rfl;exact hpl;exact Pur.pf;rfl)|(apply En;rfl;rfl;exact hrd;rfl;rfl)|(apply bC;rfl;rfl;rfl;rfl;rfl;(rw [aI]; simp only [gB] <;> omega);(exact A6 (by (omega)))))|refine aE ?_|refine bH ?_|fail)
 (refine aC rfl ?_; refine aP () trivial ?_ ⟨sE ?_,⟨sE ?_,trivial⟩⟩)
 ·rw [hv]; rfl
 ·rfl
 ·rfl
theorem HK {m:List Cl}{x:Pt}{j:Nat}{r:List Tg}{x0 x1:Operand}(ha0:ev (lk tsl) x0 = some (sl bO m)) (ha1:ev (lk tsl) x1 = some (nS x)) (hmc:MC Tryz.prog 160 [sl bO m,nS x] [] 0 (fun _:Unit => True) (fun _ => .tup [.own 1 0 m.length 4,iv 0]) (fun _ => [(1,some (flat eY (dA m j (.own 3 0 r.length 2)))),(3,some (flat cD r))])) (hM:Nat.ble (nidl + 4) a6 = true) (hN:Nat.blt d N = true){md':Md}[hmd:MdA md (fF [x0,x1] ++ []) (List.map Sum.inr (List.map Prod.fst ([((nidl + 1),some (flat eY (dA m j (.own (nidl + 3) 0 r.length 2)))),((nidl + 3),some (flat cD r))]:List (Nat × Option (List AV)))) ++ [.inl d]) md'] (kk:RW Tryz.prog N all Q md' rest ⟨(d,.tup [.own (nidl + 1) 0 m.length 4,iv 0]) :: tsl,gD hsl [((nidl + 1),some (flat eY (dA m j (.own (nidl + 3) 0 r.length 2)))),((nidl + 3),some (flat cD r))],nidl + 4,z0⟩):RW Tryz.prog N all Q md (⟨some d,.call ⟨.value (.func 160),#[x0,x1],tys⟩,ty,pos,af,none⟩ :: rest) ⟨tsl,hsl,nidl,z0⟩:=by
 exact aX (l := [x0,x1]) [] 4 [((nidl + 1),some (flat eY (dA m j (.own (nidl + 3) 0 r.length 2)))),((nidl + 3),some (flat cD r))] hmc (avs := [sl bO m,nS x]) (by simp only [evL,ha0,ha1]) rfl hM hN (md' := md') (hmd := hmd) kk
theorem Kd (m:List Cl) (x:Pt) (j:Nat) (r:List Tg) (hm:OkM m) (hk:a8 m x true = 0) (hj:j = x.cell.toNat) (hr:r = gV m[j]!.stk (cA m[j]!.stk x.tag).toNat true):MC Tryz.prog 160 [sl bO m,nS x] [] 0 (fun _:Unit => True) (fun _ => .tup [.own 1 0 m.length 4,iv 0]) (fun _ => [(1,some (flat eY (dA m j (.own 3 0 r.length 2)))),(3,some (flat cD r))]):=by
 subst hj
 have hml := hm.l
 obtain ⟨h1,h2,h3,h4,hu⟩ := dM hk
 have hk0 : a8 m x false = 0 := tA h1 h2 h3 h4
 have hs2 : m[x.cell.toNat]!.stk.length ≤ 200 := (((cQ m).1 hm).2 x.cell.toNat (by omega)).l.2
 have hpl := lA m hm x
 rw [if_pos hk0,hk0] at hpl
 have hbd := eX m[x.cell.toNat]!.stk x.tag
 obtain ⟨k,hkk⟩ := Int.eq_ofNat_of_zero_le h4
 have hkt : (cA m[x.cell.toNat]!.stk x.tag).toNat = k := by omega
 rw [hkk] at hpl
 rw [hkt] at hr hu
 have hkn : k < m[x.cell.toNat]!.stk.length := by omega
 have e1 : List.take (((k : Int) + 1).toNat - 0) (List.drop 0 m[x.cell.toNat]!.stk) = r := by rw [List.drop_zero,hr]; unfold gV;rw [if_pos rfl]; congr 1
 have e2 : r.length = k + 1 := by rw [← e1,List.drop_zero,List.length_take]; omega
 have hut := hu rfl
 refine aU Tryz.func160 Tryz.ntmps160 ?_
 repeat' (first|(apply aF;first|(apply fD;rfl;exact fW m hm;rfl;rfl)|(apply aA (k := 165);rfl;exact hpl;exact Pur.pf;rfl)|(with_reducible apply aZ (d := 46)))|refine aE ?_|(refine aK ?_ ?_ <;> intro hc hq <;> try (exfalso;omega))|refine bH ?_|fail)
 ·exfalso; have hf : m[x.cell.toNat]!.stk[k]!.uq = false := by assumption
  rw [hut] at hf;exact absurd hf (by decide)
 refine bY ?_
 rw [e1]
 repeat' (first|(apply aF;(apply bC;rfl;rfl;rfl;rfl;rfl;(rw [aI]; simp only [gB] <;> omega);(exact A6 (by (omega)))))|refine aE ?_|fail)
 (refine aC rfl ?_; refine aP () trivial ?_ ⟨sE ?_,⟨sE ?_,trivial⟩⟩)
 ·rfl
 ·rw [Nat.zero_add r.length]
 ·rfl
theorem xV {m:List Cl}{x:Pt}{u:Bool}{r:List Tg}(hk:a8 m x u = 0) (hr:r = gV m[x.cell.toNat]!.stk (cA m[x.cell.toNat]!.stk x.tag).toNat u):m5 m x u = kD m x.cell.toNat r ∧ nA m x u = j9 m m x.cell.toNat u r ∧ sZ m x u = kA m x.cell.toNat r:=by
 obtain ⟨h1,h2,_⟩ := dM hk
 subst hr
 have e : m5 m x u = kD m x.cell.toNat (gV m[x.cell.toNat]!.stk (cA m[x.cell.toNat]!.stk x.tag).toNat u) := by
  unfold m5;rw [if_pos hk]; rfl
 refine ⟨e,?_,?_⟩
 ·unfold nA j9
  rw [e]; unfold kD
  split
  ·rw [if_neg (by decide)]
  ·rw [if_pos rfl]; rfl
 ·unfold sZ kA
  rw [e]; unfold kD
  split
  ·rw [if_neg (by decide)]
  ·rw [if_pos rfl,Int.toNat_of_nonneg h1]
theorem Ii {m:List Cl}{x:Pt}{u:Bool}(hk:a8 m x u ≠ 0):m5 m x u = a8 m x u ∧ nA m x u = m ∧ sZ m x u = ⟨0,0⟩:=by
 have e : m5 m x u = a8 m x u := by unfold m5;rw [if_neg hk]
 exact ⟨e,by unfold nA;rw [if_neg (by rw [e]; exact hk)],by unfold sZ;rw [if_neg (by rw [e]; exact hk)]⟩
theorem AD (m:List Cl) (hm:OkM m) (x:Pt):PC Tryz.prog 163 [sl bO m,nS x] (fun r => r = .tup [sl bO (nA m x false),nS (sZ m x false),iv (m5 m x false)]):=by
 have hml := hm.l
 by_cases hk : a8 m x false = 0
 ·obtain ⟨c, t⟩ := x
  obtain ⟨h1,h2,_⟩ := dM hk
  have h1' : 0 ≤ c := h1
  obtain ⟨j,rfl⟩ := Int.eq_ofNat_of_zero_le h1'
  have h2' : (j : Int) < m.length := h2
  have hc := ((cQ m).1 hm).2 j (by omega)
  obtain ⟨r,hr⟩ : ∃ r,r = gV m[j]!.stk (cA m[j]!.stk t).toNat false := ⟨_,rfl⟩
  have hrl : r.length ≤ 200 := by rw [hr]; exact Nat.le_trans tchS_sub.length_le hc.l.2
  obtain ⟨e1,e2,e3⟩ := xV hk hr
  have hpu := CQ m m j false r m.length r.length hm rfl rfl (by omega) (by have := hc.n;omega) hrl hml
  rw [e1,e2,e3]
  refine aB Tryz.func163 Tryz.ntmps163 ?_
  repeat' (first|(apply aF;first|(apply JC (j := j) (r := r) (v := m[j]!.val);rfl;rfl;exact MO m _ _ r _ hm hk rfl hr rfl;rfl;rfl)|(apply yB (m := m) (b := m) (j := j) (u := false) (r := r) (n := m.length) (k := r.length);rfl;rfl;rfl;rfl;rfl;rfl;rfl;exact hpu;rfl;rfl))|refine aE ?_|fail)
  exact aC (l := [sl bO (j9 m m j false r),.agg [iv (kA m j r).cell,iv (kA m j r).tag],iv (kD m j r)]) rfl ⟨rfl,by exact Pur.pf⟩
 ·obtain ⟨e1, e2, e3⟩ := Ii hk
  have hrd := sJ m hm x
  have e4 : dQ m x false = m := by unfold dQ;rw [if_neg hk]
  rw [e4] at hrd
  rw [e1,e2,e3]
  refine aB Tryz.func163 Tryz.ntmps163 ?_
  repeat' (first|(apply aF;(apply aA (k := 134);rfl;exact hrd;exact Pur.pf;rfl))|refine aE ?_|(refine aK ?_ ?_ <;> intro hc hq <;> try (exfalso;omega))|fail)
  skip
  exact aC (l := [sl bO m,.agg [iv 0,iv 0],iv (a8 m x false)]) rfl ⟨rfl,by exact Pur.pf⟩
theorem xA (m:List Cl) (hm:OkM m) (x:Pt):PC Tryz.prog 164 [sl bO m,nS x] (fun r => r = .tup [sl bO (nA m x true),nS (sZ m x true),iv (m5 m x true)]):=by
 have hml := hm.l
 by_cases hk : a8 m x true = 0
 ·obtain ⟨c, t⟩ := x
  obtain ⟨h1,h2,_⟩ := dM hk
  have h1' : 0 ≤ c := h1
  obtain ⟨j,rfl⟩ := Int.eq_ofNat_of_zero_le h1'
  have h2' : (j : Int) < m.length := h2
  have hc := ((cQ m).1 hm).2 j (by omega)
  obtain ⟨r,hr⟩ : ∃ r,r = gV m[j]!.stk (cA m[j]!.stk t).toNat true := ⟨_,rfl⟩
  have hrl : r.length ≤ 200 := by rw [hr]; exact Nat.le_trans tchS_sub.length_le hc.l.2
  obtain ⟨e1,e2,e3⟩ := xV hk hr
  have hpu := CQ m m j true r m.length r.length hm rfl rfl (by omega) (by have := hc.n;omega) hrl hml
  rw [e1,e2,e3]
  refine aB Tryz.func164 Tryz.ntmps164 ?_
  repeat' (first|(apply aF;first|(apply HK (j := j) (r := r);rfl;rfl;exact Kd m _ _ r hm hk rfl hr;rfl;rfl)|(apply yB (m := m) (b := m) (j := j) (u := true) (r := r) (n := m.length) (k := r.length);rfl;rfl;rfl;rfl;rfl;rfl;rfl;exact hpu;rfl;rfl))|refine aE ?_|fail)
  exact aC (l := [sl bO (j9 m m j true r),.agg [iv (kA m j r).cell,iv (kA m j r).tag],iv (kD m j r)]) rfl ⟨rfl,by exact Pur.pf⟩
 ·obtain ⟨e1, e2, e3⟩ := Ii hk
  have hwr := j3 m x hm
  have e4 : dQ m x true = m := by unfold dQ;rw [if_neg hk]
  rw [e1,e2,e3]
  refine aB Tryz.func164 Tryz.ntmps164 ?_
  repeat' (first|(apply aF;(apply iP;rfl;rfl;exact hwr;rfl;rfl))|refine aE ?_|(refine aK ?_ ?_ <;> intro hc hq <;> try (exfalso;omega))|fail)
  refine aO (Le.frzD (d := 4) (i := 3) (m := m.length) (cs := flat bO (dQ m x true)) rfl rfl) ?_
  rw [e4]
  exact aC (l := [sl bO m,.agg [iv 0,iv 0],iv (a8 m x true)]) rfl ⟨rfl,by exact Pur.pf⟩
abbrev fV (s : Mc) : AV := .agg [sl dC s.slots,sl bO s.cells,sl cI s.read]
theorem xO {xs:List Sl}{k:Nat}{a:Bool}{b c d:Int}(hk:k < xs.length):gW (flat dC xs) (0 + k * 4) [bv a,iv b,iv c,iv d] = flat dC (xs.set k ⟨a,b,⟨c,d⟩⟩) := iS hk rfl
theorem rR (s:Mc) (v:Nat) (hv:v < s.slots.length) (hl:s.slots.length ≤ 1048576):PC Tryz.prog 129 [fV s,iv (v:Int)] (fun r => r = fV ⟨s.slots.set v lN,s.cells,s.read⟩):=by
 refine aB Tryz.func129 Tryz.ntmps129 ?_
 repeat' (first|(apply aF;(apply bC;rfl;rfl;rfl;rfl;rfl;(case hl => (first|(rw [aI]; simp only [gB] <;> omega)|(simp;done)));(exact xO (by (assumption)))))|refine aE ?_|fail)
 refine aO (Le.frzC (j := 1) (i := 3) [] rfl rfl (by decide)) ?_
 have e : AV.imm (0 + s.slots.length) (flat dC (s.slots.set v lN)) = sl dC (s.slots.set v lN) := eW (by rw [List.length_set,Nat.zero_add])
 refine aC (l := [.agg [.imm (0 + s.slots.length) (flat dC (s.slots.set v lN)),sl bO s.cells,sl cI s.read]]) rfl ?_
 rw [e]
 exact ⟨rfl,by exact Pur.pf⟩
theorem J6 (k:Int):(if mE k = -1 then (0:Int) else mE k) = if k = 1 then 3 else if k = 0 then 0 else 4:=by
 unfold mE dZ
 by_cases h : k = 0
 ·subst h;rfl
 ·rw [if_neg h, if_neg h]
  by_cases h1 : k = 1
  ·rw [if_pos h1]; rfl
  ·rw [if_neg h1]; rfl
theorem mA (ts:List Int) (s:Mc) (v:Nat) (y:Sl) (hm:OkM s.cells) (hv:v < s.slots.length) (hvt:v < ts.length) (hl:s.slots.length ≤ 1048576):PC Tryz.prog 130 [sl cI ts,fV s,iv (v:Int),Ke y] (fun r => r = .tup [fV (bS ts s v y).1,iv (if (bS ts s v y).2 = -1 then 0 else (bS ts s v y).2)]):=by
 have hfc := m6 s.cells hm s.slots[v]!.ptr
 refine aB Tryz.func130 Tryz.ntmps130 ?_
 repeat' (first|(apply aF;first|(apply aA (k := 127);rfl;exact hfc;exact Pur.pf;rfl)|(apply bC;rfl;rfl;rfl;rfl;rfl;(case hl => (first|(rw [aI]; simp only [gB] <;> omega)|(simp;done)));(exact xO (by (assumption))))|(apply aA (k := 128);rfl;(apply lK);(rfl);rfl))|refine aE ?_|(refine aK ?_ ?_ <;> intro hc hq <;> try (exfalso;omega))|(refine bK ?_ ?_ <;> intro hg hq <;> try (exfalso;omega))|refine bH ?_|fail)
 all_goals (
  refine aO (Le.frzC (j := 2) (i := 4) [] rfl rfl (by decide)) ?_
  have e : AV.imm (0 + s.slots.length) (flat dC (s.slots.set v y)) = sl dC (s.slots.set v y) := eW (by rw [List.length_set,Nat.zero_add]))
 ·have hp : bS ts s v y = (⟨s.slots.set v y, k6 s.cells s.slots[v]!.ptr, s.read⟩, mE (a8 s.cells s.slots[v]!.ptr true)) := if_pos ⟨by assumption, by assumption⟩
  refine aC (l := [.agg [.imm (0 + s.slots.length) (flat dC (s.slots.set v y)),sl bO (k6 s.cells s.slots[v]!.ptr),sl cI s.read],iv (if a8 s.cells s.slots[v]!.ptr true = 1 then 3 else if a8 s.cells s.slots[v]!.ptr true = 0 then 0 else 4)]) rfl ?_
  rw [e,hp]
  dsimp only
  rw [J6]
  exact ⟨rfl,by exact Pur.pf⟩
 all_goals (
  have hp : bS ts s v y = (⟨s.slots.set v y, s.cells, s.read⟩, -1) := if_neg (by
   rintro ⟨q1,q2⟩
   first|(exact (by assumption : ¬ ts[v]! = 2) q1)|(rw [(by assumption : s.slots[v]!.set = false)] at q2;exact absurd q2 (by decide)))
  refine aC (l := [.agg [.imm (0 + s.slots.length) (flat dC (s.slots.set v y)),sl bO s.cells,sl cI s.read],iv 0]) rfl ?_
  rw [e,hp]
  exact ⟨rfl,by exact Pur.pf⟩)
def gk (e : Int) : Int := if e = -1 then 0 else e
theorem Og {t:Int}(h:t = 2 ∨ t = 4):wZ t = true:=by
 unfold wZ;rcases h with h|h <;> subst h <;> rfl
theorem Rw {t:Int}(h:¬ t = 2) (h2:¬ t = 4):¬ wZ t = true:=by
 unfold wZ;rw [decide_eq_false h,decide_eq_false h2]; decide
theorem zF {k:Int}(h:¬ k = 0):(if k = 1 then (3:Int) else if k = 0 then 0 else 4) = dZ k:=by
 unfold dZ;rw [if_neg h]
theorem N7 {m:List Cl}{x:Pt}{u:Bool}(h:¬ m5 m x u = 0):nA m x u = m := by unfold nA;rw [if_neg h]
theorem Iw (ts:List Int) (s:Mc) (x:Pnt) (hm:OkM s.cells) (hsl:s.slots.length = ts.length) (hx:0 ≤ x.x ∧ x.x < ts.length) (hy:0 ≤ x.y ∧ x.y < ts.length) (hl:ts.length ≤ 1048576):PC Tryz.prog 132 [sl cI ts,fV s,dJ x] (fun r => r = .tup [fV (bS ts (if wZ ts[x.y.toNat]! = true then ⟨s.slots.set x.y.toNat lN,s.cells,s.read⟩ else s) x.x.toNat s.slots[x.y.toNat]!).1,iv (gk (bS ts (if wZ ts[x.y.toNat]! = true then ⟨s.slots.set x.y.toNat lN,s.cells,s.read⟩ else s) x.x.toNat s.slots[x.y.toNat]!).2)]):=by
 have hcl := rR s x.y.toNat (by omega) (by omega)
 have hp1 := mA ts ⟨s.slots.set x.y.toNat lN,s.cells,s.read⟩ x.x.toNat s.slots[x.y.toNat]! hm (by show _ < (s.slots.set x.y.toNat lN).length;rw [List.length_set]; omega) (by omega) (by show (s.slots.set x.y.toNat lN).length ≤ _; rw [List.length_set]; omega)
 have hp2 := mA ts s x.x.toNat s.slots[x.y.toNat]! hm (by omega) (by omega) (by omega)
 rw [Int.toNat_of_nonneg hy.1] at hcl
 rw [Int.toNat_of_nonneg hx.1] at hp1 hp2
 refine aB Tryz.func132 Tryz.ntmps132 ?_
 repeat' (first|(apply aF;first|(apply aA (k := 129);rfl;exact hcl;exact Pur.pf;rfl)|(apply aA (k := 130);rfl;(first|exact hp1|exact hp2);exact Pur.pf;rfl))|refine aE ?_|(refine aK ?_ ?_ <;> intro hc hq <;> try (exfalso;omega))|(refine bK ?_ ?_ <;> intro hg hq <;> try (exfalso;omega))|fail)
 ·refine aC (l := [fV (bS ts ⟨s.slots.set x.y.toNat lN, s.cells, s.read⟩ x.x.toNat s.slots[x.y.toNat]!).1, iv (gk (bS ts ⟨s.slots.set x.y.toNat lN, s.cells, s.read⟩ x.x.toNat s.slots[x.y.toNat]!).2)]) rfl ⟨?_, by exact Pur.pf⟩
  rw [if_pos (Og (.inr (by assumption)))]; rfl
 ·refine aC (l := [fV (bS ts s x.x.toNat s.slots[x.y.toNat]!).1, iv (gk (bS ts s x.x.toNat s.slots[x.y.toNat]!).2)]) rfl ⟨?_, by exact Pur.pf⟩
  rw [if_neg (Rw (by assumption) (by assumption))]; rfl
 ·refine aC (l := [fV (bS ts ⟨s.slots.set x.y.toNat lN, s.cells, s.read⟩ x.x.toNat s.slots[x.y.toNat]!).1, iv (gk (bS ts ⟨s.slots.set x.y.toNat lN, s.cells, s.read⟩ x.x.toNat s.slots[x.y.toNat]!).2)]) rfl ⟨?_, by exact Pur.pf⟩
  rw [if_pos (Og (.inl (by assumption)))]; rfl
theorem Jn (ts:List Int) (s:Mc) (x:Pnt) (u:Bool) (hu:u = decide (x.op = 5)) (hm:OkM s.cells) (hsl:s.slots.length = ts.length) (hx:0 ≤ x.x ∧ x.x < ts.length) (hy:0 ≤ x.y ∧ x.y < ts.length) (hl:ts.length ≤ 1048576):PC Tryz.prog 133 [sl cI ts,fV s,dJ x] (fun r => r = if m5 s.cells s.slots[x.y.toNat]!.ptr u = 0 then
  .tup [fV (bS ts ⟨s.slots,nA s.cells s.slots[x.y.toNat]!.ptr u,s.read⟩ x.x.toNat ⟨true,0,sZ s.cells s.slots[x.y.toNat]!.ptr u⟩).1,iv (gk (bS ts ⟨s.slots,nA s.cells s.slots[x.y.toNat]!.ptr u,s.read⟩ x.x.toNat ⟨true,0,sZ s.cells s.slots[x.y.toNat]!.ptr u⟩).2)]
  else .tup [fV s,iv (dZ (m5 s.cells s.slots[x.y.toNat]!.ptr u))]) := by
 have hsh := AD s.cells hm s.slots[x.y.toNat]!.ptr
 have hbo := xA s.cells hm s.slots[x.y.toNat]!.ptr
 have hp1 := mA ts ⟨s.slots,nA s.cells s.slots[x.y.toNat]!.ptr false,s.read⟩ x.x.toNat ⟨true,0,sZ s.cells s.slots[x.y.toNat]!.ptr false⟩ (hm.ln _ _) (by show _ < s.slots.length;omega) (by omega) (by show s.slots.length ≤ _; omega)
 have hp2 := mA ts ⟨s.slots,nA s.cells s.slots[x.y.toNat]!.ptr true,s.read⟩ x.x.toNat ⟨true,0,sZ s.cells s.slots[x.y.toNat]!.ptr true⟩ (hm.ln _ _) (by show _ < s.slots.length;omega) (by omega) (by show s.slots.length ≤ _; omega)
 rw [Int.toNat_of_nonneg hx.1] at hp1 hp2
 refine aB Tryz.func133 Tryz.ntmps133 ?_
 repeat' (first|(apply aF;first|(apply aA (k := 163);rfl;exact hsh;exact Pur.pf;rfl)|(apply aA (k := 164);rfl;exact hbo;exact Pur.pf;rfl)|(apply aA (k := 130) (avs := [sl cI ts,fV ⟨s.slots,nA s.cells s.slots[x.y.toNat]!.ptr false,s.read⟩,iv x.x,Ke ⟨true,0,sZ s.cells s.slots[x.y.toNat]!.ptr false⟩]);rfl;exact hp1;exact Pur.pf;rfl)|(apply aA (k := 130) (avs := [sl cI ts,fV ⟨s.slots,nA s.cells s.slots[x.y.toNat]!.ptr true,s.read⟩,iv x.x,Ke ⟨true,0,sZ s.cells s.slots[x.y.toNat]!.ptr true⟩]);rfl;exact hp2;exact Pur.pf;rfl)|(apply aA (k := 128);rfl;(apply lK);(rfl);rfl))|refine aE ?_|(refine aK ?_ ?_ <;> intro hc hq <;> try (exfalso;omega))|refine bH ?_|fail)
 ·have hk : ¬ m5 s.cells s.slots[x.y.toNat]!.ptr true = 0 := by assumption
  have hu2 : u = true := by rw [hu]; exact decide_eq_true (by assumption)
  subst hu2
  refine aC (l := [.agg [sl dC s.slots,sl bO (nA s.cells s.slots[x.y.toNat]!.ptr true),sl cI s.read],iv (if m5 s.cells s.slots[x.y.toNat]!.ptr true = 1 then 3 else if m5 s.cells s.slots[x.y.toNat]!.ptr true = 0 then 0 else 4)]) rfl ?_
  rw [zF hk,if_neg hk,N7 hk]
  exact ⟨rfl,by exact Pur.pf⟩
 ·have hk : m5 s.cells s.slots[x.y.toNat]!.ptr true = 0 := by assumption
  have hu2 : u = true := by rw [hu]; exact decide_eq_true (by assumption)
  subst hu2
  refine aC (l := [fV (bS ts ⟨s.slots,nA s.cells s.slots[x.y.toNat]!.ptr true,s.read⟩ x.x.toNat ⟨true,0,sZ s.cells s.slots[x.y.toNat]!.ptr true⟩).1,iv (gk (bS ts ⟨s.slots,nA s.cells s.slots[x.y.toNat]!.ptr true,s.read⟩ x.x.toNat ⟨true,0,sZ s.cells s.slots[x.y.toNat]!.ptr true⟩).2)]) rfl ⟨?_,by exact Pur.pf⟩
  rw [if_pos hk]; rfl
 ·have hk : ¬ m5 s.cells s.slots[x.y.toNat]!.ptr false = 0 := by assumption
  have hu2 : u = false := by rw [hu]; exact decide_eq_false (by assumption)
  subst hu2
  refine aC (l := [.agg [sl dC s.slots,sl bO (nA s.cells s.slots[x.y.toNat]!.ptr false),sl cI s.read],iv (if m5 s.cells s.slots[x.y.toNat]!.ptr false = 1 then 3 else if m5 s.cells s.slots[x.y.toNat]!.ptr false = 0 then 0 else 4)]) rfl ?_
  rw [zF hk,if_neg hk,N7 hk]
  exact ⟨rfl,by exact Pur.pf⟩
 ·have hk : m5 s.cells s.slots[x.y.toNat]!.ptr false = 0 := by assumption
  have hu2 : u = false := by rw [hu]; exact decide_eq_false (by assumption)
  subst hu2
  refine aC (l := [fV (bS ts ⟨s.slots,nA s.cells s.slots[x.y.toNat]!.ptr false,s.read⟩ x.x.toNat ⟨true,0,sZ s.cells s.slots[x.y.toNat]!.ptr false⟩).1,iv (gk (bS ts ⟨s.slots,nA s.cells s.slots[x.y.toNat]!.ptr false,s.read⟩ x.x.toNat ⟨true,0,sZ s.cells s.slots[x.y.toNat]!.ptr false⟩).2)]) rfl ⟨?_,by exact Pur.pf⟩
  rw [if_pos hk]; rfl
theorem Ow (ts:List Int) (s:Mc) (x:Pnt) (ho:x.op = 1) (hm:OkM s.cells) (hsl:s.slots.length = ts.length) (hx:0 ≤ x.x ∧ x.x < ts.length) (hl:ts.length ≤ 1048576):PC Tryz.prog 82 [sl cI ts,fV s,dJ x] (fun r => r = .tup [fV (cM ts s x).1,iv (gk (cM ts s x).2)]):=by
 have hp := mA ts s x.x.toNat ⟨true,x.n,⟨0,0⟩⟩ hm (by omega) (by omega) (by omega)
 rw [Int.toNat_of_nonneg hx.1] at hp
 have hd : cM ts s x = bS ts s x.x.toNat ⟨true,x.n,⟨0,0⟩⟩ := by unfold cM;rw [if_pos ho]
 rw [hd]
 refine aB Tryz.func82 Tryz.ntmps82 ?_
 repeat' (first|(apply aF;(apply aA (k := 130) (avs := [sl cI ts,fV s,iv x.x,Ke ⟨true,x.n,⟨0,0⟩⟩]);rfl;exact hp;exact Pur.pf;rfl))|refine aE ?_|(refine aK ?_ ?_ <;> intro hc hq <;> try (exfalso;omega))|fail)
 exact aC (l := [fV (bS ts s x.x.toNat ⟨true,x.n,⟨0,0⟩⟩).1,iv (gk (bS ts s x.x.toNat ⟨true,x.n,⟨0,0⟩⟩).2)]) rfl ⟨rfl,by exact Pur.pf⟩
theorem O3 (ts:List Int) (s:Mc) (x:Pnt) (ho:x.op = 2) (hm:OkM s.cells) (hsl:s.slots.length = ts.length) (hx:0 ≤ x.x ∧ x.x < ts.length) (hn:0 ≤ x.n ∧ x.n ≤ 9) (hl:ts.length ≤ 1048576):PC Tryz.prog 82 [sl cI ts,fV s,dJ x] (fun r => r = .tup [fV (cM ts s x).1,iv (gk (cM ts s x).2)]):=by
 have hml := hm.l
 have hnc := Ek s.cells hm x.n
 by_cases h2 : s.cells.length = 200
 ·rw [if_neg (by omega)] at hnc
  have hd : cM ts s x = (s,1) := by unfold cM;rw [if_neg (by omega),if_pos ho,if_pos h2]
  rw [hd]
  refine aB Tryz.func82 Tryz.ntmps82 ?_
  repeat' (first|(apply aF;(apply aA (k := 131);rfl;exact hnc;exact Pur.pf;rfl))|refine aE ?_|(refine aK ?_ ?_ <;> intro hc hq <;> try (exfalso;omega))|fail)
  exact aC (l := [fV s,iv 1]) rfl ⟨rfl,by exact Pur.pf⟩
 ·rw [if_pos (by omega)] at hnc
  have hp := mA ts ⟨s.slots,s.cells ++ [xC x.n],s.read⟩ x.x.toNat ⟨true,0,⟨s.cells.length,0⟩⟩ (hm.nw hn (by omega)) (by show _ < s.slots.length;omega) (by omega) (by show s.slots.length ≤ _; omega)
  rw [Int.toNat_of_nonneg hx.1] at hp
  have hd : cM ts s x = bS ts ⟨s.slots,s.cells ++ [xC x.n],s.read⟩ x.x.toNat ⟨true,0,⟨s.cells.length,0⟩⟩ := by unfold cM;rw [if_neg (by omega),if_pos ho,if_neg h2]
  rw [hd]
  refine aB Tryz.func82 Tryz.ntmps82 ?_
  repeat' (first|(apply aF;first|(apply aA (k := 131);rfl;exact hnc;exact Pur.pf;rfl)|(apply aA (k := 130) (avs := [sl cI ts,fV ⟨s.slots,s.cells ++ [xC x.n],s.read⟩,iv x.x,Ke ⟨true,0,⟨s.cells.length,0⟩⟩]);rfl;exact hp;exact Pur.pf;rfl))|refine aE ?_|(refine aK ?_ ?_ <;> intro hc hq <;> try (exfalso;omega))|fail)
  exact aC (l := [fV (bS ts ⟨s.slots,s.cells ++ [xC x.n],s.read⟩ x.x.toNat ⟨true,0,⟨s.cells.length,0⟩⟩).1,iv (gk (bS ts ⟨s.slots,s.cells ++ [xC x.n],s.read⟩ x.x.toNat ⟨true,0,⟨s.cells.length,0⟩⟩).2)]) rfl ⟨rfl,by exact Pur.pf⟩
theorem P0 (ts:List Int) (s:Mc) (x:Pnt) (ho:x.op = 3) (hm:OkM s.cells) (hsl:s.slots.length = ts.length) (hx:0 ≤ x.x ∧ x.x < ts.length) (hy:0 ≤ x.y ∧ x.y < ts.length) (hl:ts.length ≤ 1048576):PC Tryz.prog 82 [sl cI ts,fV s,dJ x] (fun r => r = .tup [fV (cM ts s x).1,iv (gk (cM ts s x).2)]):=by
 have hmv := Iw ts s x hm hsl hx hy hl
 have hd : cM ts s x = bS ts (if wZ ts[x.y.toNat]! = true then ⟨s.slots.set x.y.toNat lN,s.cells,s.read⟩ else s) x.x.toNat s.slots[x.y.toNat]! := by unfold cM;rw [if_neg (by omega),if_neg (by omega),if_pos ho]
 rw [← hd] at hmv
 refine aB Tryz.func82 Tryz.ntmps82 ?_
 repeat' (first|(apply aF;(apply aA (k := 132);rfl;exact hmv;exact Pur.pf;rfl))|refine aE ?_|(refine aK ?_ ?_ <;> intro hc hq <;> try (exfalso;omega))|fail)
 exact aC (l := [fV (cM ts s x).1,iv (gk (cM ts s x).2)]) rfl ⟨rfl,by exact Pur.pf⟩
theorem LD (ts:List Int) (s:Mc) (x:Pnt) (ho:x.op = 4 ∨ x.op = 5) (hm:OkM s.cells) (hsl:s.slots.length = ts.length) (hx:0 ≤ x.x ∧ x.x < ts.length) (hy:0 ≤ x.y ∧ x.y < ts.length) (hl:ts.length ≤ 1048576):PC Tryz.prog 82 [sl cI ts,fV s,dJ x] (fun r => r = .tup [fV (cM ts s x).1,iv (gk (cM ts s x).2)]):=by
 have hmk := Jn ts s x (decide (x.op = 5)) rfl hm hsl hx hy hl
 have h0 : cM ts s x = (if m5 s.cells s.slots[x.y.toNat]!.ptr (decide (x.op = 5)) = 0 then bS ts ⟨s.slots, nA s.cells s.slots[x.y.toNat]!.ptr (decide (x.op = 5)), s.read⟩ x.x.toNat ⟨true, 0, sZ s.cells s.slots[x.y.toNat]!.ptr (decide (x.op = 5))⟩
   else (s,dZ (m5 s.cells s.slots[x.y.toNat]!.ptr (decide (x.op = 5))))) := by
  unfold cM;rw [if_neg (show ¬ x.op = 1 by omega),if_neg (show ¬ x.op = 2 by omega),if_neg (show ¬ x.op = 3 by omega),if_pos ho]
 have hd : ∀ r, (r = if m5 s.cells s.slots[x.y.toNat]!.ptr (decide (x.op = 5)) = 0 then
   AV.tup [fV (bS ts ⟨s.slots,nA s.cells s.slots[x.y.toNat]!.ptr (decide (x.op = 5)),s.read⟩ x.x.toNat ⟨true,0,sZ s.cells s.slots[x.y.toNat]!.ptr (decide (x.op = 5))⟩).1,iv (gk (bS ts ⟨s.slots,nA s.cells s.slots[x.y.toNat]!.ptr (decide (x.op = 5)),s.read⟩ x.x.toNat ⟨true,0,sZ s.cells s.slots[x.y.toNat]!.ptr (decide (x.op = 5))⟩).2)]
   else AV.tup [fV s,iv (dZ (m5 s.cells s.slots[x.y.toNat]!.ptr (decide (x.op = 5))))]) = (r = AV.tup [fV (cM ts s x).1,iv (gk (cM ts s x).2)]) := by
  intro r
  rw [h0]
  by_cases hk : m5 s.cells s.slots[x.y.toNat]!.ptr (decide (x.op = 5)) = 0
  ·rw [if_pos hk,if_pos hk]
  ·rw [if_neg hk, if_neg hk]
   have : ∀ k,gk (dZ k) = dZ k := fun k => by unfold gk dZ;split <;> rfl
   dsimp only
   rw [this]
 simp only [hd] at hmk
 refine aB Tryz.func82 Tryz.ntmps82 ?_
 repeat' (first|(apply aF;(apply aA (k := 133);rfl;exact hmk;exact Pur.pf;rfl))|refine aE ?_|(refine aK ?_ ?_ <;> intro hc hq <;> try (exfalso;omega))|fail)
 all_goals exact aC (l := [fV (cM ts s x).1,iv (gk (cM ts s x).2)]) rfl ⟨rfl,by exact Pur.pf⟩
theorem P9 (ts:List Int) (s:Mc) (x:Pnt) (ho:x.op = 6) (hm:OkM s.cells) (hsl:s.slots.length = ts.length) (hx:0 ≤ x.x ∧ x.x < ts.length) (hy:0 ≤ x.y ∧ x.y < ts.length) (hl:ts.length ≤ 1048576) (hrl:s.read.length ≤ 1048576):PC Tryz.prog 82 [sl cI ts,fV s,dJ x] (fun r => r = .tup [fV (cM ts s x).1,iv (gk (cM ts s x).2)]):=by
 have hrd := sJ s.cells hm s.slots[x.y.toNat]!.ptr
 have h0 : cM ts s x = (if a8 s.cells s.slots[x.y.toNat]!.ptr false = 0 then bS ts ⟨s.slots, dQ s.cells s.slots[x.y.toNat]!.ptr false, s.read ++ [pC s.cells s.slots[x.y.toNat]!.ptr]⟩ x.x.toNat ⟨true, pC s.cells s.slots[x.y.toNat]!.ptr, ⟨0, 0⟩⟩
   else (s,dZ (a8 s.cells s.slots[x.y.toNat]!.ptr false))) := by
  unfold cM;rw [if_neg (show ¬ x.op = 1 by omega),if_neg (show ¬ x.op = 2 by omega),if_neg (show ¬ x.op = 3 by omega),if_neg (show ¬ (x.op = 4 ∨ x.op = 5) by omega),if_pos ho]
 have hp := mA ts ⟨s.slots,dQ s.cells s.slots[x.y.toNat]!.ptr false,s.read ++ [pC s.cells s.slots[x.y.toNat]!.ptr]⟩ x.x.toNat ⟨true,pC s.cells s.slots[x.y.toNat]!.ptr,⟨0,0⟩⟩ (hm.tch _ _) (by show _ < s.slots.length;omega) (by omega) (by show s.slots.length ≤ _; omega)
 rw [Int.toNat_of_nonneg hx.1] at hp
 by_cases hk : a8 s.cells s.slots[x.y.toNat]!.ptr false = 0
 ·rw [if_pos hk] at h0
  rw [h0]
  refine aB Tryz.func82 Tryz.ntmps82 ?_
  repeat' (first|(apply aF;first|(apply aA (k := 134);rfl;exact hrd;exact Pur.pf;rfl)|(with_reducible apply aZ (d := 105)))|refine aE ?_|(refine aK ?_ ?_ <;> intro hc hq <;> try (exfalso;omega))|refine bH ?_|fail)
  refine bY (cX ?_ (Le.frzC (j := 0) (i := 6) [sl dC s.slots,sl bO (dQ s.cells s.slots[x.y.toNat]!.ptr false)] (m := 0 + s.read.length + 1) (d := flat cI (s.read ++ [pC s.cells s.slots[x.y.toNat]!.ptr])) rfl rfl (by decide)))
  have e : AV.imm (0 + s.read.length + 1) (flat cI (s.read ++ [pC s.cells s.slots[x.y.toNat]!.ptr])) = sl cI (s.read ++ [pC s.cells s.slots[x.y.toNat]!.ptr]) := eW (by rw [Nat.zero_add,List.length_append]; rfl)
  rw [e]
  repeat' (first|(apply aF;(apply aA (k := 130) (avs := [sl cI ts,fV ⟨s.slots,dQ s.cells s.slots[x.y.toNat]!.ptr false,s.read ++ [pC s.cells s.slots[x.y.toNat]!.ptr]⟩,iv x.x,Ke ⟨true,pC s.cells s.slots[x.y.toNat]!.ptr,⟨0,0⟩⟩]);rfl;exact hp;exact Pur.pf;rfl))|refine aE ?_|fail)
  exact aC (l := [fV (bS ts ⟨s.slots,dQ s.cells s.slots[x.y.toNat]!.ptr false,s.read ++ [pC s.cells s.slots[x.y.toNat]!.ptr]⟩ x.x.toNat ⟨true,pC s.cells s.slots[x.y.toNat]!.ptr,⟨0,0⟩⟩).1,iv (gk (bS ts ⟨s.slots,dQ s.cells s.slots[x.y.toNat]!.ptr false,s.read ++ [pC s.cells s.slots[x.y.toNat]!.ptr]⟩ x.x.toNat ⟨true,pC s.cells s.slots[x.y.toNat]!.ptr,⟨0,0⟩⟩).2)]) rfl ⟨rfl,by exact Pur.pf⟩
 ·rw [if_neg hk] at h0
  rw [h0]
  have e4 : dQ s.cells s.slots[x.y.toNat]!.ptr false = s.cells := by unfold dQ;rw [if_neg hk]
  rw [e4] at hrd
  refine aB Tryz.func82 Tryz.ntmps82 ?_
  repeat' (first|(apply aF;first|(apply aA (k := 134);rfl;exact hrd;exact Pur.pf;rfl)|(apply aA (k := 128);rfl;(apply lK);(rfl);rfl))|refine aE ?_|(refine aK ?_ ?_ <;> intro hc hq <;> try (exfalso;omega))|refine bH ?_|fail)
  refine aC (l := [fV s,iv (if a8 s.cells s.slots[x.y.toNat]!.ptr false = 1 then 3 else if a8 s.cells s.slots[x.y.toNat]!.ptr false = 0 then 0 else 4)]) rfl ?_
  rw [zF hk]
  have : ∀ k,gk (dZ k) = dZ k := fun k => by unfold gk dZ;split <;> rfl
  dsimp only
  rw [this]
  exact ⟨rfl,by exact Pur.pf⟩
theorem OL (ts:List Int) (s:Mc) (x:Pnt) (ho:x.op = 7) (hm:OkM s.cells) (hsl:s.slots.length = ts.length) (hx:0 ≤ x.x ∧ x.x < ts.length) (hy:0 ≤ x.y ∧ x.y < ts.length) (hl:ts.length ≤ 1048576):PC Tryz.prog 82 [sl cI ts,fV s,dJ x] (fun r => r = .tup [fV (cM ts s x).1,iv (gk (cM ts s x).2)]):=by
 have hwr := zS s.cells hm s.slots[x.x.toNat]!.ptr s.slots[x.y.toNat]!.num
 have h0 : cM ts s x = (⟨s.slots, yL s.cells s.slots[x.x.toNat]!.ptr s.slots[x.y.toNat]!.num, s.read⟩, mE (yR s.cells s.slots[x.x.toNat]!.ptr s.slots[x.y.toNat]!.num)) := by
  unfold cM;rw [if_neg (show ¬ x.op = 1 by omega),if_neg (show ¬ x.op = 2 by omega),if_neg (show ¬ x.op = 3 by omega),if_neg (show ¬ (x.op = 4 ∨ x.op = 5) by omega),if_neg (show ¬ x.op = 6 by omega),if_pos ho]
 rw [h0]
 refine aB Tryz.func82 Tryz.ntmps82 ?_
 repeat' (first|(apply aF;first|(apply aA (k := 135);rfl;exact hwr;exact Pur.pf;rfl)|(apply aA (k := 128);rfl;(apply lK);(rfl);rfl))|refine aE ?_|(refine aK ?_ ?_ <;> intro hc hq <;> try (exfalso;omega))|refine bH ?_|fail)
 refine aC (l := [fV ⟨s.slots,yL s.cells s.slots[x.x.toNat]!.ptr s.slots[x.y.toNat]!.num,s.read⟩,iv (if yR s.cells s.slots[x.x.toNat]!.ptr s.slots[x.y.toNat]!.num = 1 then 3 else if yR s.cells s.slots[x.x.toNat]!.ptr s.slots[x.y.toNat]!.num = 0 then 0 else 4)]) rfl ?_
 rw [← J6]
 exact ⟨rfl,by exact Pur.pf⟩
theorem P6 (ts:List Int) (s:Mc) (x:Pnt) (ho:x.op = 8) (hm:OkM s.cells) (hsl:s.slots.length = ts.length) (hx:0 ≤ x.x ∧ x.x < ts.length) (hl:ts.length ≤ 1048576):PC Tryz.prog 82 [sl cI ts,fV s,dJ x] (fun r => r = .tup [fV (cM ts s x).1,iv (gk (cM ts s x).2)]):=by
 have hfr := m6 s.cells hm s.slots[x.x.toNat]!.ptr
 have hcl := rR ⟨s.slots,k6 s.cells s.slots[x.x.toNat]!.ptr,s.read⟩ x.x.toNat (by show _ < s.slots.length;omega) (by show s.slots.length ≤ _; omega)
 rw [Int.toNat_of_nonneg hx.1] at hcl
 have h0 : cM ts s x = (⟨s.slots.set x.x.toNat lN, k6 s.cells s.slots[x.x.toNat]!.ptr, s.read⟩, mE (a8 s.cells s.slots[x.x.toNat]!.ptr true)) := by
  unfold cM;rw [if_neg (show ¬ x.op = 1 by omega),if_neg (show ¬ x.op = 2 by omega),if_neg (show ¬ x.op = 3 by omega),if_neg (show ¬ (x.op = 4 ∨ x.op = 5) by omega),if_neg (show ¬ x.op = 6 by omega),if_neg (show ¬ x.op = 7 by omega),if_pos ho]
 rw [h0]
 refine aB Tryz.func82 Tryz.ntmps82 ?_
 repeat' (first|(apply aF;first|(apply aA (k := 127);rfl;exact hfr;exact Pur.pf;rfl)|(apply aA (k := 129);rfl;exact hcl;exact Pur.pf;rfl)|(apply aA (k := 128);rfl;(apply lK);(rfl);rfl))|refine aE ?_|(refine aK ?_ ?_ <;> intro hc hq <;> try (exfalso;omega))|refine bH ?_|fail)
 refine aC (l := [fV ⟨s.slots.set x.x.toNat lN,k6 s.cells s.slots[x.x.toNat]!.ptr,s.read⟩,iv (if a8 s.cells s.slots[x.x.toNat]!.ptr true = 1 then 3 else if a8 s.cells s.slots[x.x.toNat]!.ptr true = 0 then 0 else 4)]) rfl ?_
 rw [← J6]
 exact ⟨rfl,by exact Pur.pf⟩
def P3 (s : Mc) (x : Pnt) : Bool :=
 if x.op = 3 ∨ x.op = 4 ∨ x.op = 5 ∨ x.op = 6 then !s.slots[x.y.toNat]!.set
 else if x.op = 7 then !s.slots[x.x.toNat]!.set || !s.slots[x.y.toNat]!.set
 else if x.op = 8 then !s.slots[x.x.toNat]!.set else false
theorem G0 (s:Mc) (x:Pnt) (hx:(x.op = 7 ∨ x.op = 8) → 0 ≤ x.x ∧ x.x < s.slots.length) (hy:(x.op = 3 ∨ x.op = 4 ∨ x.op = 5 ∨ x.op = 6 ∨ x.op = 7) → 0 ≤ x.y ∧ x.y < s.slots.length):PC Tryz.prog 81 [dJ x,fV s] (fun r => r = bv (P3 s x)):=by
 refine aB Tryz.func81 Tryz.ntmps81 ?_
 repeat' (first|refine aE ?_|(refine aK ?_ ?_ <;> intro hc hq <;> try (exfalso;omega))|(refine bK ?_ ?_ <;> intro hg hq <;> try (exfalso;omega))|fail)
 all_goals (refine aC rfl ⟨?_,rfl⟩; simp only [aM,AV.v.injEq,Value.bool.injEq]; unfold P3;grind)
theorem A5 {ts:List Int}{n v:Nat}{q:Mc}(h:¬ (ts[v]! = 2 ∧ q.slots[v]!.set = true)):cL ts (n + 1) v q = cL ts n (v + 1) q:=by
 rw [cL,if_neg h]
theorem H7 {ts:List Int}{n v:Nat}{q:Mc}(h:ts[v]! = 2 ∧ q.slots[v]!.set = true) (hk:a8 q.cells q.slots[v]!.ptr true = 0):cL ts (n + 1) v q = cL ts n (v + 1) ⟨q.slots.set v lN,k6 q.cells q.slots[v]!.ptr,q.read⟩:=by
 rw [cL,if_pos h,if_pos hk]
theorem Ic {ts:List Int}{n v:Nat}{q:Mc}(h:ts[v]! = 2 ∧ q.slots[v]!.set = true) (hk:¬ a8 q.cells q.slots[v]!.ptr true = 0):cL ts (n + 1) v q = (⟨q.slots,k6 q.cells q.slots[v]!.ptr,q.read⟩,dZ (a8 q.cells q.slots[v]!.ptr true)):=by
 rw [cL,if_pos h,if_neg hk]
theorem NJ (ts:List Int) (s:Mc) (hm:OkM s.cells) (hsl:s.slots.length = ts.length) (hl:ts.length ≤ 1048576):PC Tryz.prog 80 [sl cI ts,fV s] (fun r => r = .tup [fV (cL ts ts.length 0 s).1,iv (cL ts ts.length 0 s).2]):=by
 refine aB Tryz.func80 Tryz.ntmps80 ?_
 repeat' (first|refine aE ?_|fail)
 refine aH (σ := Nat × Mc) [0,3,4] [1] (fun k => [(6,iv (k.1 : Int))]) (fun k => [(0,some [sl dC k.2.slots,sl bO k.2.cells,sl cI k.2.read])]) (fun k => k.1 ≤ ts.length ∧ cL ts (ts.length - k.1) k.1 k.2 = cL ts ts.length 0 s ∧ OkM k.2.cells ∧ k.2.slots.length = ts.length) (fun k => ts.length - k.1) (0,s) ⟨Nat.zero_le _,rfl,hm,hsl⟩ ?_
 rintro ⟨v,q⟩ ⟨hv,hf,hmq,hlq⟩
 dsimp only at hv hf hmq hlq ⊢
 have hfr := m6 q.cells hmq q.slots[v]!.ptr
 have hcl := fun h => rR ⟨q.slots,k6 q.cells q.slots[v]!.ptr,q.read⟩ v h (by show q.slots.length ≤ _; omega)
 repeat' (first|(apply aF;first|(apply aA (k := 127);rfl;exact hfr;exact Pur.pf;rfl)|(apply aA (k := 129);rfl;(exact hcl (by show v < q.slots.length;omega));exact Pur.pf;rfl)|(apply aA (k := 128);rfl;(apply lK);(rfl);rfl))|refine aE ?_|(refine aK ?_ ?_ <;> intro hc hq <;> try (exfalso;omega))|(refine bK ?_ ?_ <;> intro hg hq <;> try (exfalso;omega))|refine bH ?_|fail)
 ·(refine bB (v + 1, q) (Le.renA [(0, 0), (1, 1)]) ?_ ?_)
  ·refine ⟨by omega, ?_, hmq, hlq⟩
   dsimp only
   rw [← hf, show ts.length - v = (ts.length - (v + 1)) + 1 by omega, A5 (fun h => by
    have h2 : q.slots[v]!.set = false := by assumption
    rw [h2] at h;exact absurd h.2 (by decide))]
  ·dsimp only;omega
 ·have hk : ¬ a8 q.cells q.slots[v]!.ptr true = 0 := by assumption
  have hq2 : cL ts ts.length 0 s = (⟨q.slots, k6 q.cells q.slots[v]!.ptr, q.read⟩, dZ (a8 q.cells q.slots[v]!.ptr true)) := by
   rw [← hf,show ts.length - v = (ts.length - (v + 1)) + 1 by omega,Ic ⟨by assumption,by assumption⟩ hk]
  rw [hq2]
  refine aC (l := [fV ⟨q.slots,k6 q.cells q.slots[v]!.ptr,q.read⟩,iv (if a8 q.cells q.slots[v]!.ptr true = 1 then 3 else if a8 q.cells q.slots[v]!.ptr true = 0 then 0 else 4)]) rfl ?_
  rw [zF hk]
  exact ⟨rfl,by exact Pur.pf⟩
 ·(refine bB (v + 1, ⟨q.slots.set v lN, k6 q.cells q.slots[v]!.ptr, q.read⟩) (Le.renA [(0, 0), (1, 1)]) ?_ ?_)
  ·refine ⟨by omega, ?_, hmq.fr _, by show (q.slots.set v lN).length = _; rw [List.length_set]; exact hlq⟩
   dsimp only
   rw [← hf,show ts.length - v = (ts.length - (v + 1)) + 1 by omega,H7 ⟨by assumption,by assumption⟩ (by assumption)]
  ·dsimp only;omega
 ·(refine bB (v + 1, q) (Le.renA [(0, 0), (1, 1)]) ?_ ?_)
  ·refine ⟨by omega, ?_, hmq, hlq⟩
   dsimp only
   rw [← hf, show ts.length - v = (ts.length - (v + 1)) + 1 by omega, A5 (fun h => by
    have h2 : ¬ ts[v]! = 2 := by assumption
    exact h2 h.1)]
  ·dsimp only;omega
 ·have hve : v = ts.length := by omega
  have hq2 : cL ts ts.length 0 s = (q,0) := by rw [← hf,hve,Nat.sub_self]; rfl
  rw [hq2]
  exact aC (l := [fV q,iv 0]) rfl ⟨rfl,by exact Pur.pf⟩
theorem zR (p:Prg) (hl:p.types.length ≤ 1048576) (hs:aR p.body ≤ 1048576):PC Tryz.prog 41 [bI p] (fun r => r = sl b8 (if bE p = true then aD p else [])):=by
 have hval := jU p hl (by omega)
 have h2 := dH p hs
 refine aB Tryz.func41 Tryz.ntmps41 ?_
 repeat' (first|(apply aF;first|(apply aA (k := 63);rfl;exact hval;exact Pur.pf;rfl)|(apply aA (k := 36);rfl;exact h2;exact Pur.pf;rfl)|(apply aJ (t := _);rfl;rfl;rfl;(rfl);rfl;rfl))|refine aE ?_|(refine aK ?_ ?_ <;> intro hc hq <;> try (exfalso;omega))|fail)
 ·refine aC rfl ⟨?_, (by (rfl))⟩
  rw [if_neg (by simp [hq])]; rfl
 ·refine aC rfl ⟨?_, (by (exact bD _ _))⟩
  rw [if_pos hq]; rfl
def wm (pts : List Pnt) (n a : Nat) (cs : List Int) : List Int × Bool := ((e6 pts n a cs).1.map (fun a : Nat => (a : Int)),(e6 pts n a cs).2)
theorem KT {pts:List Pnt}{n a:Nat}{cs:List Int}(h:pts[a]!.op = 11):wm pts n a cs = ([(a:Int)],true):=by
 have e : e6 pts n a cs = ([a],true) := by cases n <;> (unfold e6;rw [if_pos h])
 unfold wm;rw [e]; rfl
theorem IZ {pts:List Pnt}{a:Nat}{cs:List Int}(h:¬ pts[a]!.op = 11):wm pts 0 a cs = ([],false):=by
 have e : e6 pts 0 a cs = ([],false) := by unfold e6;rw [if_neg h]
 unfold wm;rw [e]; rfl
theorem Ru {pts:List Pnt}{n a:Nat}{cs:List Int}(h:¬ pts[a]!.op = 11):wm pts (n + 1) a cs = ((a:Int) :: (wm pts n (gU pts a cs).1 (gU pts a cs).2).1,(wm pts n (gU pts a cs).1 (gU pts a cs).2).2):=by
 unfold wm;rw [e6,if_neg h]; rfl
theorem Ob {pts:List Pnt}{a:Nat}{cs:List Int}(h:¬ pts[a]!.next.length = 2):gU pts a cs = ((pts[a]!.next[0]!).toNat,cs):=by
 unfold gU;rw [if_neg h]
theorem QH {pts:List Pnt}{a u:Nat}{cs:List Int}(h:pts[a]!.next.length = 2) (hu:cs.length ≤ u):gU pts a (cs.drop u) = ((pts[a]!.next[1]!).toNat,cs.drop (u + 1)):=by
 unfold gU;rw [if_pos h,List.drop_eq_nil_of_le hu,List.drop_eq_nil_of_le (by omega)]
theorem Oh {pts:List Pnt}{a u:Nat}{cs:List Int}(h:pts[a]!.next.length = 2) (hu:u < cs.length):gU pts a (cs.drop u) = ((pts[a]!.next[if cs[u]!.tmod 2 = 0 then 0 else 1]!).toNat,cs.drop (u + 1)):=by
 have e : (cs[u]! % 2).toNat = if cs[u]!.tmod 2 = 0 then 0 else 1 := by
  by_cases q : cs[u]!.tmod 2 = 0
  ·rw [if_pos q,Int.emod_eq_zero_of_dvd (Int.dvd_of_tmod_eq_zero q)]; rfl
  ·rw [if_neg q]
   have : ¬ cs[u]! % 2 = 0 := fun q2 => q (Int.tmod_eq_zero_of_dvd (Int.dvd_of_emod_eq_zero q2))
   omega
 have e2 : cs.drop u = cs[u]! :: cs.drop (u + 1) := by rw [List.drop_eq_getElem_cons hu,aY _ _ hu]
 unfold gU
 rw [if_pos h,e2]
 dsimp only
 rw [e]
theorem qB {pts:List Pnt}{n a:Nat}{out cs cs2:List Int}{b:Nat}{q:List Int × Bool}(h:¬ pts[a]!.op = 11) (ho:out.length < n) (hs:gU pts a cs = (b,cs2)) (hq:q = (out ++ (wm pts (n - out.length) a cs).1,(wm pts (n - out.length) a cs).2)) :
  q = ((out ++ [(a : Int)]) ++ (wm pts (n - (out ++ [(a : Int)]).length) b cs2).1,(wm pts (n - (out ++ [(a : Int)]).length) b cs2).2) := by
 rw [hq,show n - out.length = (n - (out.length + 1)) + 1 by omega,Ru h,hs,List.length_append,List.append_assoc]
 rfl
theorem Dp (p:Prg) (cs:List Int) (n:Nat) (hv:bE p = true) (hl:p.types.length ≤ 1048576) (hs:aR p.body ≤ 1048576) (hn:n ≤ 1000) (hcl:cs.length ≤ 1048576):PC Tryz.prog 79 [bI p,sl cI cs,iv (n:Int)] (fun r => r = .tup [sl cI (wm (aD p) n 0 cs).1,bv (wm (aD p) n 0 cs).2]):=by
 have hpo := zR p hl hs
 rw [if_pos hv] at hpo
 have w := WG.of_valid hv
 have wa := WA.of_valid hv
 obtain ⟨pts,hpts⟩ : ∃ pts,pts = aD p := ⟨_,rfl⟩
 rw [← hpts] at hpo w wa ⊢
 have hpl := w.pl
 have hp0 := w.p0
 refine aB Tryz.func79 Tryz.ntmps79 ?_
 repeat' (first|(apply aF;(apply aA (k := 41);rfl;exact hpo;exact Pur.pf;rfl))|refine aE ?_|(refine aK ?_ ?_ <;> intro hc hq <;> try (exfalso;omega))|(refine bK ?_ ?_ <;> intro hg hq <;> try (exfalso;omega))|fail)
 refine aH (σ := Int × Nat × List Int × Nat) [1,2,9] [] (fun k => [(10,iv k.1),(11,iv (k.2.1 : Int)),(8,.own 1 0 k.2.2.2 1)]) (fun k => [(1,some (flat cI k.2.2.1))]) (fun k => (0 ≤ k.1 ∧ k.1 < pts.length) ∧ k.2.1 ≤ k.2.2.1.length ∧ k.2.2.1.length ≤ n ∧ k.2.2.2 = k.2.2.1.length ∧ wm pts n 0 cs = (k.2.2.1 ++ (wm pts (n - k.2.2.1.length) k.1.toNat (cs.drop k.2.1)).1,(wm pts (n - k.2.2.1.length) k.1.toNat (cs.drop k.2.1)).2)) (fun k => n + 1 - k.2.2.1.length) (0,0,[],0) ⟨⟨Int.le_refl _,by show (0 : Int) < _; omega⟩,Nat.le_refl _,Nat.zero_le _,rfl,rfl⟩ ?_
 rintro ⟨a,u,out,m⟩ ⟨⟨ha0,ha⟩,hu,ho,hm,hw⟩
 dsimp only at ha0 ha hu ho hm hw ⊢
 have hat : (a.toNat : Int) = a := Int.toNat_of_nonneg ha0
 have hnx := w.nx a.toNat (by omega)
 have hnl := w.nl a.toNat (by omega)
 have hn1 := wa.n a.toNat (by omega)
 have hk : ∀ k,k < pts[a.toNat]!.next.length → 0 ≤ pts[a.toNat]!.next[k]! ∧ pts[a.toNat]!.next[k]! < pts.length := fun k h => hnx _ (aS _ _ h)
 repeat' (first|(apply aF;(apply aJ (t := _);rfl;rfl;rfl;exact (rfl:_=some [_]);rfl;rfl))|refine aE ?_|(refine aK ?_ ?_ <;> intro hc hq <;> try (exfalso;omega))|(refine bK ?_ ?_ <;> intro hg hq <;> try (exfalso;omega))|fail)
 ·have hop : ¬ pts[a.toNat]!.op = 11 := by assumption
  have e : wm pts n 0 cs = (out,false) := by rw [hw,show n - out.length = 0 by omega,IZ hop,List.append_nil]
  rw [e]
  (refine aO (Le.frzD (d := 6) (i := 1) rfl rfl) ?_; refine aC rfl ?_)
  refine ⟨?_,(by exact Pur.pf)⟩
  simp only [aM,sl]
  rw [hm]
 ·have hop : ¬ pts[a.toNat]!.op = 11 := by assumption
  have hst := qB hop (by omega) ((Oh (by omega) (by omega)).trans (by rw [if_pos (by assumption)])) hw
  rw [hat] at hst
  have hk := hk 0 (by omega)
  (refine bB (pts[a.toNat]!.next[0]!,u + 1,_,_) (Le.renA [(1,3)]) ?_ ?_)
  ·refine ⟨hk,?_,?_,?_,hst⟩ <;> (dsimp only;rw [List.length_append]; simp only [List.length_singleton]; omega)
  ·dsimp only;rw [List.length_append]; simp only [List.length_singleton]; omega
 ·have hop : ¬ pts[a.toNat]!.op = 11 := by assumption
  have hst := qB hop (by omega) ((Oh (by omega) (by omega)).trans (by rw [if_neg (by assumption)])) hw
  rw [hat] at hst
  have hk := hk 1 (by omega)
  (refine bB (pts[a.toNat]!.next[1]!,u + 1,_,_) (Le.renA [(1,3)]) ?_ ?_)
  ·refine ⟨hk,?_,?_,?_,hst⟩ <;> (dsimp only;rw [List.length_append]; simp only [List.length_singleton]; omega)
  ·dsimp only;rw [List.length_append]; simp only [List.length_singleton]; omega
 ·have hop : ¬ pts[a.toNat]!.op = 11 := by assumption
  have hst := qB hop (by omega) (QH (by omega) (by omega)) hw
  rw [hat] at hst
  have hk := hk 1 (by omega)
  (refine bB (pts[a.toNat]!.next[1]!,u + 1,_,_) (Le.renA [(1,3)]) ?_ ?_)
  ·refine ⟨hk,?_,?_,?_,hst⟩ <;> (dsimp only;rw [List.length_append]; simp only [List.length_singleton]; omega)
  ·dsimp only;rw [List.length_append]; simp only [List.length_singleton]; omega
 ·have hop : ¬ pts[a.toNat]!.op = 11 := by assumption
  have hst := qB hop (by omega) (Ob (by omega)) hw
  rw [hat] at hst
  have hk := hk 0 (by omega)
  (refine bB (pts[a.toNat]!.next[0]!,u,_,_) (Le.renA [(1,3)]) ?_ ?_)
  ·refine ⟨hk,?_,?_,?_,hst⟩ <;> (dsimp only;rw [List.length_append]; simp only [List.length_singleton]; omega)
  ·dsimp only;rw [List.length_append]; simp only [List.length_singleton]; omega
 ·have hop : pts[a.toNat]!.op = 11 := by assumption
  have e : wm pts n 0 cs = (out ++ [a],true) := by rw [hw,KT hop,hat]
  rw [e]
  (refine aO (Le.frzD (d := 6) (i := 3) rfl rfl) ?_; refine aC rfl ?_)
  refine ⟨?_,(by exact Pur.pf)⟩
  simp only [aM,sl]
  rw [hm,List.length_append]; rfl
theorem Pq {ts:List Int}{s:Mc}{x:Pnt}(hx:(x.op = 7 ∨ x.op = 8) → 0 ≤ x.x ∧ x.x < ts.length) (hy:(x.op = 3 ∨ x.op = 4 ∨ x.op = 5 ∨ x.op = 6 ∨ x.op = 7) → 0 ≤ x.y ∧ x.y < ts.length):P3 s x = cG ts s x:=by
 have hX : ∀ v : Nat,(v : Int) = x.x → v = x.x.toNat := fun v h => by omega
 have hY : ∀ v : Nat,(v : Int) = x.y → v = x.y.toNat := fun v h => by omega
 cases hu : cG ts s x with
 | true =>
  obtain ⟨v,hv,hne,hs⟩ := CK hu
  unfold aV at hne
  unfold P3
  by_cases h3 : x.op = 3
  ·rw [if_pos h3] at hne
   by_cases e : (v : Int) = x.y
   ·rw [if_pos (.inl h3),← hY v e,hs]; rfl
   ·rw [if_neg e] at hne;exact absurd rfl hne
  ·rw [if_neg h3] at hne
   by_cases h4 : x.op = 4 ∨ x.op = 5 ∨ x.op = 6
   ·rw [if_pos h4] at hne
    by_cases e : (v : Int) = x.y
    ·rw [if_pos (by omega),← hY v e,hs]; rfl
    ·rw [if_neg e] at hne;exact absurd rfl hne
   ·rw [if_neg h4] at hne
    rw [if_neg (by omega)]
    by_cases h7 : x.op = 7
    ·rw [if_pos h7] at hne ⊢
     by_cases e : (v : Int) = x.x
     ·rw [← hX v e,hs]; rfl
     ·rw [if_neg e] at hne
      by_cases e2 : (v : Int) = x.y
      ·rw [← hY v e2,hs]; simp
      ·rw [if_neg e2] at hne;exact absurd rfl hne
    ·rw [if_neg h7] at hne ⊢
     by_cases h8 : x.op = 8
     ·rw [if_pos h8] at hne ⊢
      by_cases e : (v : Int) = x.x
      ·rw [← hX v e,hs]; rfl
      ·rw [if_neg e] at hne;exact absurd rfl hne
     ·rw [if_neg h8] at hne;exact absurd rfl hne
 | false =>
  have hS : ∀ v : Nat,v < ts.length → aV ts x v ≠ 0 → s.slots[v]!.set = true := fun v hv h => Fb hu hv h
  unfold P3
  by_cases h3 : x.op = 3
  ·have := hy (.inl h3)
   rw [if_pos (.inl h3),hS x.y.toNat (by omega) (by unfold aV;rw [if_pos h3,if_pos (by omega)]; split <;> decide)]; rfl
  ·by_cases h4 : x.op = 4 ∨ x.op = 5 ∨ x.op = 6
   ·have := hy (by omega)
    rw [if_pos (by omega),hS x.y.toNat (by omega) (by unfold aV;rw [if_neg h3,if_pos h4,if_pos (by omega)]; decide)]; rfl
   ·rw [if_neg (by omega)]
    by_cases h7 : x.op = 7
    ·have hy7 := hy (by omega)
     have hx7 := hx (.inl h7)
     rw [if_pos h7, hS x.x.toNat (by omega) (by unfold aV; rw [if_neg h3, if_neg h4, if_pos h7, if_pos (by omega)]; decide),
      hS x.y.toNat (by omega) (by unfold aV;rw [if_neg h3,if_neg h4,if_pos h7]; split;decide;rw [if_pos (by omega)]; decide)]; rfl
    ·rw [if_neg h7]
     by_cases h8 : x.op = 8
     ·have hx8 := hx (.inr h8)
      rw [if_pos h8,hS x.x.toNat (by omega) (by unfold aV;rw [if_neg h3,if_neg h4,if_neg h7,if_pos h8,if_pos (by omega)]; decide)]; rfl
     ·rw [if_neg h8]
theorem DN (k:Int):mE k ≠ 0:=by
 unfold mE dZ;split
 ·decide
 ·split <;> decide
theorem FQ (k:Int):dZ k ≠ 0 := by unfold dZ;split <;> decide
theorem pY {ts:List Int}{s:Mc}{v:Nat}{y:Sl}:(bS ts s v y).2 ≠ 0:=by
 unfold bS;split
 ·exact DN _
 ·show (-1 : Int) ≠ 0;decide
theorem PG {ts:List Int}{s:Mc}{x:Pnt}(h:x.op ≠ 11):(cM ts s x).2 ≠ 0:=by
 unfold cM
 split
 ·exact pY
 split
 ·split
  ·show (1 : Int) ≠ 0;decide
  ·exact pY
 split
 ·exact pY
 split
 ·split
  ·exact pY
  ·exact FQ _
 split
 ·split
  ·exact pY
  ·exact FQ _
 split
 ·exact DN _
 split
 ·exact DN _
 show (-1 : Int) ≠ 0;decide
theorem QT {ts:List Int}{s:Mc}{x:Pnt}(h:x.op ≠ 11):gk (cM ts s x).2 = 0 ↔ (cM ts s x).2 = -1:=by
 have := PG (ts := ts) (s := s) h
 unfold gk;split
 ·simp [*]
 ·constructor <;> (intro q;contradiction)
theorem P7 (ts:List Int) (s:Mc) (x:Pnt) (ho:x.op = 9 ∨ x.op = 10):PC Tryz.prog 82 [sl cI ts,fV s,dJ x] (fun r => r = .tup [fV (cM ts s x).1,iv (gk (cM ts s x).2)]):=by
 have h0 : cM ts s x = (s, -1) := by
  unfold cM;rw [if_neg (show ¬ x.op = 1 by omega),if_neg (show ¬ x.op = 2 by omega),if_neg (show ¬ x.op = 3 by omega),if_neg (show ¬ (x.op = 4 ∨ x.op = 5) by omega),if_neg (show ¬ x.op = 6 by omega),if_neg (show ¬ x.op = 7 by omega),if_neg (show ¬ x.op = 8 by omega),if_neg (show ¬ x.op = 11 by omega)]
 rw [h0]
 refine aB Tryz.func82 Tryz.ntmps82 ?_
 repeat' (first|refine aE ?_|(refine aK ?_ ?_ <;> intro hc hq <;> try (exfalso;omega))|fail)
 exact aC (l := [fV s,iv 0]) rfl ⟨rfl,by exact Pur.pf⟩
theorem Qq (ts:List Int) (s:Mc) (x:Pnt) (h11:x.op ≠ 11) (hop:1 ≤ x.op ∧ x.op ≤ 11) (hm:OkM s.cells) (hsl:s.slots.length = ts.length) (hx:x.op ≤ 8 → 0 ≤ x.x ∧ x.x < ts.length) (hy:3 ≤ x.op → x.op ≤ 7 → 0 ≤ x.y ∧ x.y < ts.length) (hn:x.op = 2 → 0 ≤ x.n ∧ x.n ≤ 9) (hl:ts.length ≤ 1048576) (hrl:s.read.length ≤ 1048576):PC Tryz.prog 82 [sl cI ts,fV s,dJ x] (fun r => r = .tup [fV (cM ts s x).1,iv (gk (cM ts s x).2)]):=by
 by_cases h1 : x.op = 1
 ·exact Ow ts s x h1 hm hsl (hx (by omega)) hl
 by_cases h2 : x.op = 2
 ·exact O3 ts s x h2 hm hsl (hx (by omega)) (hn h2) hl
 by_cases h3 : x.op = 3
 ·exact P0 ts s x h3 hm hsl (hx (by omega)) (hy (by omega) (by omega)) hl
 by_cases h4 : x.op = 4 ∨ x.op = 5
 ·exact LD ts s x h4 hm hsl (hx (by omega)) (hy (by omega) (by omega)) hl
 by_cases h6 : x.op = 6
 ·exact P9 ts s x h6 hm hsl (hx (by omega)) (hy (by omega) (by omega)) hl hrl
 by_cases h7 : x.op = 7
 ·exact OL ts s x h7 hm hsl (hx (by omega)) (hy (by omega) (by omega)) hl
 by_cases h8 : x.op = 8
 ·exact P6 ts s x h8 hm hsl (hx (by omega)) hl
 ·exact P7 ts s x (by omega)
theorem k5 {ts:List Int}{s:Mc}{v:Nat}{y:Sl}:(bS ts s v y).1.read = s.read := by unfold bS;split <;> rfl
theorem BT {ts:List Int}{s:Mc}{x:Pnt}(h:x.op ≠ 11):(cM ts s x).1.read.length ≤ s.read.length + 1:=by
 unfold cM
 split
 ·rw [k5]; omega
 split
 ·split
  ·dsimp only;omega
  ·rw [k5]; dsimp only;omega
 split
 ·rw [k5]; split <;> (first|omega|(dsimp only;omega))
 split
 ·split
  ·rw [k5]; dsimp only;omega
  ·dsimp only;omega
 split
 ·split
  ·rw [k5]; dsimp only;rw [List.length_append]; simp only [List.length_singleton]; omega
  ·dsimp only;omega
 split
 ·dsimp only;omega
 split
 ·dsimp only;omega
 dsimp only;omega
theorem F1 (pts:List Pnt):∀ n a cs,(e6 pts n a cs).2 = true → ∃ l b,(e6 pts n a cs).1 = l ++ [b] ∧ pts[b]!.op = 11
 | 0, a, cs, h => by
  unfold e6 at h ⊢
  by_cases e : pts[a]!.op = 11
  ·rw [if_pos e]; exact ⟨[],a,rfl,e⟩
  ·rw [if_neg e] at h;exact absurd h (by decide)
 | n + 1, a, cs, h => by
  rw [e6] at h ⊢
  by_cases e : pts[a]!.op = 11
  ·rw [if_pos e]; exact ⟨[],a,rfl,e⟩
  ·rw [if_neg e] at h ⊢
   obtain ⟨l,b,h1,h2⟩ := F1 pts n _ _ h
   exact ⟨a :: l,b,by dsimp only;rw [h1]; rfl,h2⟩
theorem Pd {s:Mc}{x:Pnt}(h:x.op = 11):P3 s x = false:=by
 unfold P3;rw [if_neg (by omega),if_neg (by omega),if_neg (by omega)]
theorem Nt (p:Prg) (cs:List Int) (n:Nat) (hv:bE p = true) (hl:p.types.length ≤ 1048576) (hs:aR p.body ≤ 1048576) (hn:n ≤ 150) (hcl:cs.length ≤ 1048576) (hL:∀ a ∈ (e6 (aD p) n 0 cs).1,a < (aD p).length) (hLl:(e6 (aD p) n 0 cs).1.length ≤ 151):PC Tryz.prog 44 [bI p,sl cI cs,iv (n:Int)] (fun r => r = .tup [fV (jJ p.types (aD p) cs n).1,iv (jJ p.types (aD p) cs n).2.1,iv (jJ p.types (aD p) cs n).2.2]):=by
 have hpo := dH p hs
 have hru := Dp p cs n hv hl hs (by omega) hcl
 have w := WG.of_valid hv
 have wa := WA.of_valid hv
 obtain ⟨q,hq⟩ : ∃ q,q = jJ p.types (aD p) cs n := ⟨_,rfl⟩
 rw [← hq]
 unfold jJ at hq
 unfold wm at hru
 obtain ⟨L,hLe⟩ : ∃ L,L = (e6 (aD p) n 0 cs).1 := ⟨_,rfl⟩
 obtain ⟨dn,hdn⟩ : ∃ dn,dn = (e6 (aD p) n 0 cs).2 := ⟨_,rfl⟩
 rw [← hLe,← hdn] at hru
 rw [← hLe] at hq hL hLl
 have hgx : ∀ i,i < L.length → (L.map (fun a : Nat => (a : Int)))[i]! = (L[i]! : Int) := fun i h => by rw [aY _ _ (by rw [List.length_map]; exact h),List.getElem_map,aY _ _ h]
 have hml : (L.map (fun a : Nat => (a : Int))).length = L.length := List.length_map _
 generalize (L.map (fun a : Nat => (a : Int))) = LI at *
 generalize hP : aD p = pts at *
 have e1 : AV.imm p.types.length ((List.replicate p.types.length ([Value.bool false, Value.int .i64 0, Value.int .i64 0, Value.int .i64 0].map AV.v)).flatten) = sl dC (List.replicate p.types.length lN) := by
  rw [wN (f := dC) (x := lN) (l := [Value.bool false,Value.int .i64 0,Value.int .i64 0,Value.int .i64 0].map AV.v) rfl]; exact eW (by simp)
 refine aB Tryz.func44 Tryz.ntmps44 ?_
 repeat' (first|(apply aF;first|(apply aA (k := 36);rfl;exact hpo;exact Pur.pf;rfl)|(with_reducible apply aZ (d := 27))|(apply aJ (t := _);rfl;rfl;rfl;(rfl);rfl;rfl))|refine aE ?_|fail)
 refine bY (cX ?_ (Le.frzD (d := 24) (i := 2) rfl rfl))
 rw [e1]
 repeat' (first|(apply aF;(apply aA (k := 79);rfl;exact hru;exact Pur.pf;rfl))|refine aE ?_|fail)
 refine aH (σ := Nat × Mc) [3,6,9,10,11,12] [0,1] (fun k => [(13,iv (k.1 : Int))]) (fun k => [(5,some [sl dC k.2.slots,sl bO k.2.cells,sl cI k.2.read])]) (fun k => k.1 ≤ L.length ∧ k7 p.types pts (L.drop k.1) k.2 (if k.1 = 0 then 0 else L[k.1 - 1]!) = q ∧ OkS p.types.length k.2 ∧ k.2.read.length ≤ k.1 ∧ (∀ j,j < k.1 → pts[L[j]!]!.op ≠ 11)) (fun k => L.length - k.1) (0,mc0 p.types.length) ⟨Nat.zero_le _,by rw [hq]; rfl,OkS.mc0 _,Nat.le_refl _,fun j h => absurd h (by omega)⟩ ?_
 rintro ⟨i,s⟩ ⟨hi,hf,hok,hrd,h11⟩
 dsimp only at hi hf hok hrd h11 ⊢
 have hil : i < L.length → L[i]! < pts.length := fun h => hL _ (aS _ _ h)
 have hex := fun h => NJ p.types s hok.m hok.l h
 by_cases hiL : i < L.length
 ·have hap := hil hiL
  have hop := w.op L[i]! hap
  have hwx := w.x L[i]! hap
  have hwy := w.y L[i]! hap
  have hA := wa.a L[i]! hap
  have hg := hgx i hiL
  have hen := hex hl
  have hun := G0 s pts[L[i]!]! (fun h => by have := hok.l;omega) (fun h => by have := hok.l;omega)
  have hun2 := Pq (ts := p.types) (s := s) (x := pts[L[i]!]!) (fun h => by omega) (fun h => by omega)
  rw [hun2] at hun
  have hdo := fun h => Qq p.types s pts[L[i]!]! h hop hok.m hok.l (fun h => by omega) (fun h h2 => by omega) (fun h => hA.n (.inr h)) hl (by omega)
  repeat' (first|(apply aF;(with_reducible apply aZ (d := 46)))|refine aE ?_|(refine aK ?_ ?_ <;> intro hc hq <;> try (exfalso;omega))|fail)
  refine bY ?_
  rw [hg]
  repeat' (first|(apply aF;first|(apply aA (k := 80);rfl;exact hen;exact Pur.pf;rfl)|(apply aA (k := 81);rfl;exact hun;exact Pur.pf;rfl)|(apply aA (k := 82);rfl;exact hdo (by assumption);exact Pur.pf;rfl))|refine aE ?_|(refine aK ?_ ?_ <;> intro hc hq <;> try (exfalso;omega))|refine bH ?_|fail)
  all_goals have hdr : L.drop i = L[i]! :: L.drop (i + 1) := by rw [List.drop_eq_getElem_cons hiL,aY _ _ hiL]
  all_goals rw [hdr] at hf
  ·have ho : pts[L[i]!]!.op = 11 := by assumption
   have hqq : q = ((cL p.types p.types.length 0 s).1, (cL p.types p.types.length 0 s).2, L[i]!) := by
    rw [← hf,k7,if_neg (by rw [← hun2,Pd ho]; decide),JG ho,if_neg (by have := zP p.types p.types.length 0 s;omega)]
   rw [hqq]
   refine aC (l := [fV (cL p.types p.types.length 0 s).1,iv (cL p.types p.types.length 0 s).2,iv LI[i]!]) rfl ?_
   rw [hg]
   exact ⟨rfl,by exact Pur.pf⟩
  ·have hu : cG p.types s pts[L[i]!]! = true := by assumption
   have hqq : q = (s,2,L[i]!) := by rw [← hf,k7,if_pos hu]
   rw [hqq]
   refine aC (l := [fV s,iv 2,iv LI[i]!]) rfl ?_
   rw [hg]
   exact ⟨rfl,by exact Pur.pf⟩
  ·have ho : ¬ pts[L[i]!]!.op = 11 := by assumption
   have hu : cG p.types s pts[L[i]!]! = false := by assumption
   have hk : ¬ gk (cM p.types s pts[L[i]!]!).2 = 0 := by assumption
   have hk2 : ¬ (cM p.types s pts[L[i]!]!).2 = -1 := fun e => hk ((QT ho).2 e)
   have hqq : q = ((cM p.types s pts[L[i]!]!).1,(cM p.types s pts[L[i]!]!).2,L[i]!) := by rw [← hf,k7,if_neg (by rw [hu]; decide),if_neg hk2]
   rw [hqq]
   refine aC (l := [fV (cM p.types s pts[L[i]!]!).1,iv (gk (cM p.types s pts[L[i]!]!).2),iv LI[i]!]) rfl ?_
   rw [hg,show gk (cM p.types s pts[L[i]!]!).2 = (cM p.types s pts[L[i]!]!).2 by unfold gk;rw [if_neg hk2]]
   exact ⟨rfl,by exact Pur.pf⟩
  ·have ho : ¬ pts[L[i]!]!.op = 11 := by assumption
   have hu : cG p.types s pts[L[i]!]! = false := by assumption
   have hk2 : (cM p.types s pts[L[i]!]!).2 = -1 := (QT ho).1 (by assumption)
   (refine bB (i + 1,(cM p.types s pts[L[i]!]!).1) (Le.renA [(0,0),(1,1),(5,5)]) ?_ ?_)
   ·refine ⟨by dsimp only; omega, ?_, hok.do ⟨fun h => hA.n (.inr h)⟩, ?_, ?_⟩
    ·dsimp only
     rw [← hf,if_neg (by omega),show i + 1 - 1 = i by omega,k7,if_neg (by rw [hu]; decide),if_pos hk2]
    ·dsimp only;have := BT (ts := p.types) (s := s) ho;omega
    ·intro j hj
     rcases Nat.lt_or_ge j i with h|h
     ·exact h11 j h
     ·rw [show j = i by omega]; exact ho
   ·dsimp only;omega
 ·repeat' (first | refine aE ?_ | (refine aK ?_ ?_ <;> intro hc hq <;> try (exfalso; omega)) | (refine bK ?_ ?_ <;> intro hg hq <;> try (exfalso; omega)) | refine bH ?_|fail)
  all_goals have hie : i = L.length := by omega
  all_goals have hqq : q = (s,1,if i = 0 then 0 else L[i - 1]!) := by rw [← hf,hie,List.drop_length]; rfl
  ·rw [hqq, if_neg (by omega)]
   refine aC (l := [fV s,iv 1,iv LI[((LI.length : Int) - 1).toNat]!]) rfl ?_
   rw [show ((LI.length : Int) - 1).toNat = i - 1 by omega,hgx (i - 1) (by omega)]
   exact ⟨rfl,by exact Pur.pf⟩
  ·rw [hqq, if_pos (by omega)]
   exact aC (l := [fV s,iv 1,iv 0]) rfl ⟨rfl,by exact Pur.pf⟩
  ·exfalso
   have hd1 : dn = true := by assumption
   obtain ⟨l,b,e1,e2⟩ := F1 pts n 0 cs (by rw [← hdn]; exact hd1)
   rw [← hLe] at e1
   have hlen : L.length = l.length + 1 := by rw [e1,List.length_append]; rfl
   have hb : L[l.length]! = b := by rw [aY _ _ (by omega)]; simp [e1]
   have := h11 l.length (by omega)
   rw [hb] at this
   exact this e2
theorem Dn {ts:List Int}{pts:List Pnt}(w:WG ts pts) (A:WA ts pts):∀ n a cs,a < pts.length → ∀ x ∈ (e6 pts n a cs).1,x < pts.length
 | 0, a, cs, ha, x, hx => by
  unfold e6 at hx
  by_cases e : pts[a]!.op = 11
  ·rw [if_pos e] at hx;rw [List.mem_singleton.1 hx]; exact ha
  ·rw [if_neg e] at hx;exact absurd hx (by simp)
 | n + 1, a, cs, ha, x, hx => by
  rw [e6] at hx
  by_cases e : pts[a]!.op = 11
  ·rw [if_pos e] at hx;rw [List.mem_singleton.1 hx]; exact ha
  ·rw [if_neg e] at hx
   rcases List.mem_cons.1 hx with h|h
   ·rw [h]; exact ha
   ·have he := Kx w A ha e cs
    have := w.nx a ha _ he.2
    exact Dn w A n _ _ (by omega) x h
theorem tF {pts:List Pnt}:∀ n a cs,(e6 pts n a cs).1.length ≤ n + 1
 | 0,a,cs => by unfold e6;split <;> simp
 | n + 1, a, cs => by
  rw [e6]; split
  ·simp
  ·have := tF (pts := pts) n (gU pts a cs).1 (gU pts a cs).2
   dsimp only;rw [List.length_cons]; omega
theorem Jy (p:Prg) (cs:List Int) (n:Nat) (hv:bE p = true) (hl:p.types.length ≤ 1048576) (hs:aR p.body ≤ 1048576) (hn:n ≤ 150) (hcl:cs.length ≤ 1048576):PC Go.Proofs.Tryz.prog 44 [bI p,sl cI cs,iv (n:Int)] (fun r => r = .tup [fV (jJ p.types (aD p) cs n).1,iv (jJ p.types (aD p) cs n).2.1,iv (jJ p.types (aD p) cs n).2.2]) :=
 Nt p cs n hv hl hs hn hcl (Dn (WG.of_valid hv) (WA.of_valid hv) n 0 cs (WG.of_valid hv).p0) (by have := tF (pts := aD p) n 0 cs;omega)
def DW (p : Prg) (most : Int) : Bool := bE p && (decide (0 ≤ most) && decide (most ≤ 150))
theorem Gb (p:Prg) (most:Int) (hl:p.types.length ≤ 1048576) (hs:aR p.body ≤ 1048576):PC Tryz.prog 43 [bI p,iv most] (fun r => r = bv (DW p most)):=by
 have hval := jU p hl (by omega)
 refine aB Tryz.func43 Tryz.ntmps43 ?_
 repeat' (first|(apply aF;(apply aA (k := 63);rfl;exact hval;exact Pur.pf;rfl))|refine aE ?_|(refine bK ?_ ?_ <;> intro hg hq <;> try (exfalso;omega))|fail)
 all_goals (refine aC rfl ⟨?_,rfl⟩; simp only [aM,AV.v.injEq,Value.bool.injEq]; unfold DW;grind)
theorem w4 (p:Prg) (cs:List Int) (most:Int) (hl:p.types.length ≤ 1048576) (hs:aR p.body ≤ 1048576) (hcl:cs.length ≤ 1048576):PC Tryz.prog 16 [bI p,sl cI cs,iv most] (fun r => r = .tup (if DW p most = true then [iv (jJ p.types (aD p) cs most.toNat).2.1,iv (jJ p.types (aD p) cs most.toNat).2.2] else [iv 5,iv 0])):=by
 have hrt := Gb p most hl hs
 by_cases h : DW p most = true
 ·have h' := h
  unfold DW at h'
  simp only [Bool.and_eq_true,decide_eq_true_eq] at h'
  obtain ⟨hv,h0,h1⟩ := h'
  have hru := Jy p cs most.toNat hv hl hs (by omega) hcl
  rw [Int.toNat_of_nonneg h0] at hru
  rw [h] at hrt
  rw [if_pos h]
  refine aB Tryz.func16 Tryz.ntmps16 ?_
  repeat' (first|(apply aF;first|(apply aA (k := 43);rfl;exact hrt;exact Pur.pf;rfl)|(apply aA (k := 44);rfl;exact hru;exact Pur.pf;rfl))|refine aE ?_|fail)
  exact aC (l := [iv (jJ p.types (aD p) cs most.toNat).2.1,iv (jJ p.types (aD p) cs most.toNat).2.2]) rfl ⟨rfl,rfl⟩
 ·rw [if_neg h]
  have h2 : DW p most = false := by simpa using h
  rw [h2] at hrt
  refine aB Tryz.func16 Tryz.ntmps16 ?_
  repeat' (first|(apply aF;(apply aA (k := 43);rfl;exact hrt;exact Pur.pf;rfl))|refine aE ?_|fail)
  exact aC (l := [iv 5,iv 0]) rfl ⟨rfl,rfl⟩
theorem O0 {p:Prg}{cs:List Int}{n:Nat}(hv:bE p = true):OkS p.types.length (jJ p.types (aD p) cs n).1:=by
 have wa := WA.of_valid hv
 have hp : ∀ a : Nat, PtN (aD p)[a]! := fun a => by
  by_cases h : a < (aD p).length
  ·exact ⟨fun e => (wa.a a h).n (.inr e)⟩
  ·refine ⟨fun e => ?_⟩
   rw [Ks,dif_neg h] at e
   exact absurd e (by decide)
 exact OkS.run hp _ _ _ (OkS.mc0 _)
theorem BV {ts:List Int}{s:Mc}{x:Pnt}:(cM ts s x).1.read.length ≤ s.read.length + 1:=by
 by_cases h : x.op = 11
 ·rw [JG h,u5]; omega
 ·exact BT h
theorem xZ (ts:List Int) (pts:List Pnt):∀ (l:List Nat) (s:Mc) (last:Nat),(k7 ts pts l s last).1.read.length ≤ s.read.length + l.length
 | [],s,last => by unfold k7;simp
 | a :: l, s, last => by
  have h := BV (ts := ts) (s := s) (x := pts[a]!)
  unfold k7;split
  ·dsimp only;omega
  ·split
   ·have := xZ ts pts l (cM ts s pts[a]!).1 a
    rw [List.length_cons]; omega
   ·rw [List.length_cons]; dsimp only;omega
theorem DD {ts:List Int}{pts:List Pnt}{cs:List Int}{n:Nat}(hn:n ≤ 150):(jJ ts pts cs n).1.read.length ≤ 151:=by
 have h := xZ ts pts (e6 pts n 0 cs).1 (mc0 ts.length) 0
 have h2 := tF (pts := pts) n 0 cs
 have h3 : (mc0 ts.length).read.length = 0 := rfl
 unfold jJ;omega
theorem Re:Go.Proofs.Tryz.prog.underlying 220 = some (.map 3 4) := by kernel_rfl
theorem QS:Go.Proofs.Tryz.prog.underlying 3 = some (.int .i64) := by kernel_rfl
theorem Rk:(Go.Proofs.Tryz.prog.info? 4).bind (·.zero) = some (.bool false) := by kernel_rfl
theorem QK {a b c:Int}(h:a ≤ b ∧ b ≤ c):(!(decide (a ≤ b) && decide (b ≤ c))) = false := by simp [h.1,h.2]
theorem iG (m:List Cl) (hm:OkM m):PC Tryz.prog 152 [sl bO m] (fun r => r = bv true):=by
 have hml := hm.l
 refine aB Tryz.func152 Tryz.ntmps152 ?_
 repeat' (first|refine aE ?_|(refine aK ?_ ?_ <;> intro hc hq <;> try (exfalso;omega))|fail)
 all_goals (try (exfalso;omega))
 refine aH (σ := Nat) [11,12] [] (fun i => [(13,iv (i : Int))]) (fun i => []) (fun i => i ≤ m.length) (fun i => m.length - i) (0) (Nat.zero_le _) ?_
 rintro i hi
 by_cases hin : i < m.length
 ·have hc := (cQ m).1 hm |>.2 i hin
  obtain ⟨h1,h2,h3,h4,h5⟩ := (qQ _).1 hc
  repeat' (first|(apply aF;(apply aA (k := 47);rfl;(apply cY);(rfl);rfl))|(apply E3;with_reducible apply JP)|refine aE ?_|(refine aK ?_ ?_ <;> intro hc hq <;> try (exfalso;omega))|(refine bK ?_ ?_ <;> intro hg hq <;> try (exfalso;omega))|fail)
  ·exfalso
   have hu : m[i]!.stk[Int.toNat 0]!.uq = false := by assumption
   rw [show Int.toNat 0 = 0 from rfl,h4] at hu;exact absurd hu (by decide)
  ·refine ON (J5 rfl (fun r => ?_))
   refine Cf ?_
   repeat' (first|refine J2 ?_|fail)
   refine ⟨rfl,rfl,?_⟩
   refine lZ (pP ?_)
   repeat' (first|refine aE ?_|fail)
   show tH _ _ _ _ _ _ _
   refine xL ?_
   refine GG (σ := Nat) [4,5,11,12,13,44,45] [(4,_),(5,_),(11,_),(12,_),(13,_),(44,_),(45,_)] [0] [(0,some _)] (fun k => [(46,iv (k : Int))]) (fun k => []) (fun k => (m[i]!.stk.take k).map (·.id)) (fun k => k ≤ m[i]!.stk.length) (fun k => m[i]!.stk.length - k) (0) (Nat.zero_le _) (rfl) rfl rfl (by repeat' (first|exact trivial|refine And.intro rfl ?_)) (by repeat' (exact trivial)) ?_
   rintro k hk
   refine lZ (pP ?_)
   repeat' (first|refine aE ?_|fail)
   show tH _ _ _ _ _ _ _
   refine lZ (Cm rfl (fun hb => Bi ?_) (fun hb => JV ?_))
   ·show tH _ _ _ _ _ _ _
    have hkl : k < m[i]!.stk.length := by have := of_decide_eq_true hb;omega
    obtain ⟨g1,g2,g3⟩ := h5 k hkl
    have hw := QK (a := 0) (b := m[i]!.stk[k]!.id) (c := m[i]!.next - 1) ⟨g1,by omega⟩
    have hni : m[i]!.stk[k]!.id ∉ (m[i]!.stk.take k).map (·.id) := fun q => by
     obtain ⟨t,ht,e⟩ := List.mem_map.1 q
     obtain ⟨j,hj,rfl⟩ := List.getElem_of_mem ht
     rw [List.length_take] at hj
     have f := vO (stk := m[i]!.stk) (id := m[i]!.stk[k]!.id) (by omega) j (by omega)
     rw [aY _ _ (by omega)] at f
     rw [List.getElem_take] at e
     exact f e
    refine lZ (xL (lZ (pP ?_)))
    repeat' (first|refine aE ?_|fail)
    show tH _ _ _ _ _ _ _
    refine lZ (lZ (vP ?_))
    refine CM (l1 := [_,_,_,_,_,_,_,_,_,_,_]) (l2 := [_,_]) ?_
    repeat' (first|(apply aF;(apply aA (k := 47);rfl;(apply cY);(rfl);rfl))|refine J2 ?_|fail)
    refine ⟨rfl,?_⟩
    refine Gk rfl rfl hw ?_
    refine Dm Re QS Rk rfl rfl hni rfl ?_
    refine Cf ?_
    repeat' (first|refine J2 ?_|fail)
    refine ⟨rfl,?_⟩
    show tH _ _ _ _ _ _ _
    refine Cm rfl (fun h => by cases h) (fun _ => Bi ?_)
    show tH _ _ _ _ _ _ _
    refine vP ?_
    refine CM (l1 := [_,_,_]) (l2 := [_]) ?_
    repeat' (first|refine J2 ?_|fail)
    refine ⟨rfl,?_⟩
    refine Eb Re QS Rk rfl rfl hni ?_
    refine Lr ?_
    show tH _ _ _ _ _ _ _
    refine pP ?_
    repeat' (first|refine aE ?_|fail)
    refine ⟨k + 1,by omega,by omega,?_,?_⟩
    ·refine Le.ren [(0,0)] rfl (by decide) ?_ ?_ <;> repeat' (first|exact trivial|refine And.intro ⟨_,rfl,?_⟩ ?_|refine And.intro ⟨_,_,rfl,rfl,?_⟩ ?_|exact Or.inr rfl|refine Or.inl ⟨?_,(by first|rfl|exact bD _ _|exact Pur.pf)⟩|rfl)
    ·rw [bG _ k hkl,List.map_append]; rfl
   ·have hkl : k = m[i]!.stk.length := by have := of_decide_eq_false hb; omega
    refine Iv ?_
    show AA 1 _ _ _
    repeat' (first|refine aE ?_|fail)
    (refine bB (i + 1) (Le.renA []) ?_ ?_)
    ·omega
    ·omega
 ·repeat' (first | refine aE ?_ | (refine aK ?_ ?_ <;> intro hc hq <;> try (exfalso; omega))|fail)
  refine aC rfl ⟨rfl,rfl⟩
theorem Le.bump {ts:List (Nat × AV)}{hs:List (Nat × Option (List AV))}{n:Nat}{z0:Lo}(k:Nat):Le ⟨ts,hs,n,z0⟩ ⟨ts,hs,n + k,z0⟩ := Le.of (fun _ _ h => h) (fun _ _ h => h) (Nat.le_add_right _ _) rfl
theorem yO {m:List Cl}{x0:Operand}(ha0:ev (lk tsl) x0 = some (sl bO m)) (hmc:MC Tryz.prog 178 [sl bO m] [] 0 (fun _:Unit => True) (fun _ => .own 1 0 m.length 4) (fun _ => [(1,some (flat bO m))])) (hM:Nat.ble (nidl + 2) a6 = true) (hN:Nat.blt d N = true){md':Md}[hmd:MdA md (fF [x0] ++ []) (List.map Sum.inr (List.map Prod.fst ([((nidl + 1),some (flat bO m))]:List (Nat × Option (List AV)))) ++ [.inl d]) md'] (kk:RW Tryz.prog N all Q md' rest ⟨(d,.own (nidl + 1) 0 m.length 4) :: tsl,gD hsl [((nidl + 1),some (flat bO m))],nidl + 2,z0⟩):RW Tryz.prog N all Q md (⟨some d,.call ⟨.value (.func 178),#[x0],tys⟩,ty,pos,af,none⟩ :: rest) ⟨tsl,hsl,nidl,z0⟩:=by
 exact aX (l := [x0]) [] 2 [((nidl + 1),some (flat bO m))] hmc (avs := [sl bO m]) (by simp only [evL,ha0]) rfl hM hN (md' := md') (hmd := hmd) kk
theorem Bu (m:List Cl) (hl:m.length ≤ 1048576):MC Tryz.prog 178 [sl bO m] [] 0 (fun _:Unit => True) (fun _ => .own 1 0 m.length 4) (fun _ => [(1,some (flat bO m))]):=by
 refine aU Tryz.func178 Tryz.ntmps178 ?_
 repeat' (first|(apply aF;(apply Cg;rfl;rfl;(intro b hb)))|refine aE ?_|(refine aK ?_ ?_ <;> intro hc hq <;> try (exfalso;omega))|fail)
 ·have h0 : m = [] := List.eq_nil_of_length_eq_zero (hb (by assumption))
  subst h0
  refine aO (Le.bump 1) ?_
  refine aO (Le.nilOwn (d := 2) 4 rfl (by decide)) ?_
  (refine aC rfl ?_; refine aP () trivial ?_ ⟨sE ?_,trivial⟩)
  ·rfl
  ·rfl
 ·(refine aC rfl ?_; refine aP () trivial ?_ ⟨sE ?_, trivial⟩)
  ·show AV.own 1 0 (0 + m.length) 4 = _; rw [Nat.zero_add]
  ·rfl
theorem rD {m:List Tg}{x0:Operand}(ha0:ev (lk tsl) x0 = some (sl cD m)) (hmc:MC Tryz.prog 179 [sl cD m] [] 0 (fun _:Unit => True) (fun _ => .own 1 0 m.length 2) (fun _ => [(1,some (flat cD m))])) (hM:Nat.ble (nidl + 2) a6 = true) (hN:Nat.blt d N = true){md':Md}[hmd:MdA md (fF [x0] ++ []) (List.map Sum.inr (List.map Prod.fst ([((nidl + 1),some (flat cD m))]:List (Nat × Option (List AV)))) ++ [.inl d]) md'] (kk:RW Tryz.prog N all Q md' rest ⟨(d,.own (nidl + 1) 0 m.length 2) :: tsl,gD hsl [((nidl + 1),some (flat cD m))],nidl + 2,z0⟩):RW Tryz.prog N all Q md (⟨some d,.call ⟨.value (.func 179),#[x0],tys⟩,ty,pos,af,none⟩ :: rest) ⟨tsl,hsl,nidl,z0⟩:=by
 exact aX (l := [x0]) [] 2 [((nidl + 1),some (flat cD m))] hmc (avs := [sl cD m]) (by simp only [evL,ha0]) rfl hM hN (md' := md') (hmd := hmd) kk
theorem Cz (m:List Tg) (hl:m.length ≤ 1048576):MC Tryz.prog 179 [sl cD m] [] 0 (fun _:Unit => True) (fun _ => .own 1 0 m.length 2) (fun _ => [(1,some (flat cD m))]):=by
 refine aU Tryz.func179 Tryz.ntmps179 ?_
 repeat' (first|(apply aF;(apply Cg;rfl;rfl;(intro b hb)))|refine aE ?_|(refine aK ?_ ?_ <;> intro hc hq <;> try (exfalso;omega))|fail)
 ·have h0 : m = [] := List.eq_nil_of_length_eq_zero (hb (by assumption))
  subst h0
  refine aO (Le.bump 1) ?_
  refine aO (Le.nilOwn (d := 2) 2 rfl (by decide)) ?_
  (refine aC rfl ?_; refine aP () trivial ?_ ⟨sE ?_,trivial⟩)
  ·rfl
  ·rfl
 ·(refine aC rfl ?_; refine aP () trivial ?_ ⟨sE ?_, trivial⟩)
  ·show AV.own 1 0 (0 + m.length) 2 = _; rw [Nat.zero_add]
  ·rfl
theorem J4 (t:Tg) (c g:Int):PC Tryz.prog 181 [R8 t,.iptr [iv c,iv g]] (fun r => r = bv (decide (t.id = g))):=by
 refine aB Tryz.func181 Tryz.ntmps181 ?_
 repeat' (first|refine aE ?_|fail)
 exact aC rfl ⟨rfl,rfl⟩
theorem BR (t:Tg):PC Tryz.prog 183 [R8 t] (fun r => r = bv t.uq):=by
 refine aB Tryz.func183 Tryz.ntmps183 ?_
 repeat' (first|refine aE ?_|fail)
 exact aC rfl ⟨rfl,rfl⟩
theorem y0 (stk:List Tg) (c g:Int) (hl:stk.length ≤ 1048576):PC Tryz.prog 180 [sl cD stk,.clos (.func 181) [] [.iptr [iv c,iv g]]] (fun r => r = iv (cA stk g)):=by
 refine aB Tryz.func180 Tryz.ntmps180 ?_
 repeat' (first|refine aE ?_|fail)
 refine aH (σ := Nat) [0,1,7] [] (fun k => [(8,iv (k : Int))]) (fun k => []) (fun k => k ≤ stk.length ∧ ∀ j,j < k → stk[j]!.id ≠ g) (fun k => stk.length - k) (0) ⟨by omega,by omega⟩ ?_
 rintro k ⟨hk,hall⟩
 by_cases hkn : k < stk.length
 ·have hcl := J4 stk[k]! c g
  repeat' (first|(apply aF;(apply gQ;rfl;rfl;infer_instance;rfl;(apply hcl);(rfl);rfl))|refine aE ?_|(refine aK ?_ ?_ <;> intro hc hq <;> try (exfalso;omega))|fail)
  ·refine aC rfl ⟨?_, rfl⟩
   simp only [aM]; rw [zU hkn (by assumption) hall]
  ·(refine bB (k + 1) (Le.renA []) ?_ ?_)
   ·refine ⟨by omega, fun j hj => ?_⟩
    by_cases e : j = k
    ·subst e;assumption
    ·exact hall j (by omega)
   ·omega
 ·repeat' (first | refine aE ?_ | (refine aK ?_ ?_ <;> intro hc hq <;> try (exfalso; omega))|fail)
  refine aC rfl ⟨?_,rfl⟩
  have h2 : cA stk g < 0 := rI.2 (fun t ht => by obtain ⟨j,hj,rfl⟩ := List.getElem_of_mem ht;have := hall j (by omega);rwa [aY _ _ hj] at this)
  have hb := eX stk g
  simp only [aM]; rw [show cA stk g = -1 by omega]
def sW (xs : List Tg) : Int := match xs.findIdx? (fun t => t.uq) with | some i => i | none => -1
theorem MZ (stk:List Tg) (hl:stk.length ≤ 1048576):PC Tryz.prog 180 [sl cD stk,.v (.func (.func 183) #[] #[])] (fun r => r = iv (sW stk)):=by
 refine aB Tryz.func180 Tryz.ntmps180 ?_
 repeat' (first|refine aE ?_|fail)
 refine aH (σ := Nat) [0,1,7] [] (fun k => [(8,iv (k : Int))]) (fun k => []) (fun k => k ≤ stk.length ∧ ∀ j,j < k → stk[j]!.uq = false) (fun k => stk.length - k) (0) ⟨by omega,by omega⟩ ?_
 rintro k ⟨hk,hall⟩
 by_cases hkn : k < stk.length
 ·have hcl := BR stk[k]!
  repeat' (first|(apply aF;(apply gQ;rfl;rfl;infer_instance;rfl;(apply hcl);(rfl);rfl))|refine aE ?_|(refine aK ?_ ?_ <;> intro hc hq <;> try (exfalso;omega))|fail)
  ·refine aC rfl ⟨?_, rfl⟩
   have hu : stk[k]!.uq = true := by assumption
   have : stk.findIdx? (fun t => t.uq) = some k := by
    rw [List.findIdx?_eq_some_iff_getElem]
    refine ⟨hkn,by rw [← aY stk k hkn]; exact hu,fun j hj => ?_⟩
    have := hall j hj;rw [aY stk j (by omega)] at this;rw [this]; decide
   simp only [aM,sW,this]
  ·have hu : stk[k]!.uq = false := by assumption
   (refine bB (k + 1) (Le.renA []) ?_ ?_)
   ·refine ⟨by omega, fun j hj => ?_⟩
    by_cases e : j = k
    ·subst e;exact hu
    ·exact hall j (by omega)
   ·omega
 ·repeat' (first | refine aE ?_ | (refine aK ?_ ?_ <;> intro hc hq <;> try (exfalso; omega))|fail)
  refine aC rfl ⟨?_,rfl⟩
  have : stk.findIdx? (fun t => t.uq) = none := by
   rw [List.findIdx?_eq_none_iff]
   intro x hx
   obtain ⟨j,hj,rfl⟩ := List.getElem_of_mem hx
   have := hall j (by omega);rw [aY stk j hj] at this;exact this
  simp only [aM,sW,this]
theorem Rv {xs:List Tg}{k:Nat}{a:Int}{b:Bool}(hk:k < xs.length):gW (flat cD xs) (0 + k * 2) [iv a,bv b] = flat cD (xs.set k ⟨a,b⟩) := iS hk rfl
theorem KP {cs new:List AV}{k:Nat}(h:k ≤ cs.length):(gW cs (0 + k) new).take k = cs.take k:=by
 unfold gW
 rw [Nat.zero_add,List.append_assoc,List.take_left' (by rw [List.length_take]; omega)]
def shr (xs : List Tg) : List Tg := xs.filter (fun t => !t.uq)
theorem GO {xs:List Tg}(h:sW xs = -1):shr xs = xs:=by
 unfold sW at h
 split at h
 ·omega
 ·rename_i hn
  rw [List.findIdx?_eq_none_iff] at hn
  unfold shr
  rw [List.filter_eq_self]
  intro t ht
  have := hn t ht
  simp [this]
theorem HM {xs:List Tg}{i:Nat}(h:sW xs = (i:Int)):i < xs.length ∧ xs[i]!.uq = true ∧ shr (xs.take (i + 1)) = xs.take i:=by
 unfold sW at h
 split at h
 ·rename_i k hk
  obtain ⟨h1,h2,h3⟩ := List.findIdx?_eq_some_iff_getElem.1 hk
  have e : k = i := by omega
  subst e
  have hs : shr (xs.take k) = xs.take k := by
   unfold shr
   rw [List.filter_eq_self]
   intro t ht
   obtain ⟨j,hj,rfl⟩ := List.getElem_of_mem ht
   rw [List.length_take] at hj
   have := h3 j (by omega)
   rw [List.getElem_take]; simpa using this
  refine ⟨h1,by rw [aY _ _ h1]; exact h2,?_⟩
  rw [bG xs k h1]
  unfold shr at hs ⊢
  rw [List.filter_append,hs,oD (by rw [aY _ _ h1,h2]; rfl),List.append_nil]
 ·omega
theorem MY (xs:List Tg):-1 ≤ sW xs ∧ sW xs < xs.length:=by
 unfold sW
 split
 ·rename_i k hk
  obtain ⟨h1,_⟩ := List.findIdx?_eq_some_iff_getElem.1 hk
  omega
 ·omega
theorem Nr {xs:List Tg}{j:Nat}(hj:j < xs.length) (h:xs[j]!.uq = false):shr (xs.take (j + 1)) = shr (xs.take j) ++ [xs[j]!]:=by
 rw [bG xs j hj]; unfold shr
 rw [List.filter_append,rX (by rw [h]; rfl)]
theorem IJ {xs:List Tg}{j:Nat}(hj:j < xs.length) (h:xs[j]!.uq = true):shr (xs.take (j + 1)) = shr (xs.take j):=by
 rw [bG xs j hj]; unfold shr
 rw [List.filter_append,oD (by rw [h]; rfl),List.append_nil]
theorem KJ {α:Type}[Inhabited α] {L:List α}{i:Nat}{x:α}(h:i < L.length):(L.set i x).take (i + 1) = L.take i ++ [x]:=by
 rw [List.set_eq_take_append_cons_drop,if_pos h]
 have h1 : (L.take i).length = i := by rw [List.length_take]; omega
 rw [List.take_append,h1,show i + 1 - i = 1 by omega,List.take_of_length_le (by omega)]
 rfl
theorem Jg {α:Type}[Inhabited α] {L M:List α}{j:Nat}(h:L.drop j = M.drop j) (hl:L.length = M.length) (hj:j < M.length):L[j]! = M[j]!:=by
 rw [aY _ _ (by omega),aY _ _ hj]
 rw [List.drop_eq_getElem_cons (by omega : j < L.length),List.drop_eq_getElem_cons hj] at h
 exact (List.cons.inj h).1
theorem vX {α:Type}{L M:List α}{j:Nat}(h:L.drop j = M.drop j):L.drop (j + 1) = M.drop (j + 1):=by
 rw [← List.drop_drop,h,List.drop_drop]
theorem Ng {xs:List Tg}{m:Nat}{x0 x1:Operand}{i0:Nat}(ha0:ev (lk tsl) x0 = some (.own i0 0 m 2)) (ha1:ev (lk tsl) x1 = some (.v (.func (.func 183) #[] #[]))) (hH0:aT hsl i0 = some (flat cD xs)) (hmc:MC Tryz.prog 182 [.own 0 0 m 2,.v (.func (.func 183) #[] #[])] [(0,some (flat cD xs))] 1 (fun _:Unit => True) (fun _ => .own 0 0 (shr xs).length 2) (fun _ => [(0,some (flat cD (shr xs)))])) (hM:Nat.ble (nidl + 0) a6 = true) (hN:Nat.blt d N = true){md':Md}[hmd:MdA md (fF [x0,x1] ++ [.inr i0]) (List.map Sum.inr (List.map Prod.fst ([(i0,some (flat cD (shr xs)))]:List (Nat × Option (List AV)))) ++ [.inl d]) md'] (kk:RW Tryz.prog N all Q md' rest ⟨(d,.own i0 0 (shr xs).length 2) :: tsl,gD hsl [(i0,some (flat cD (shr xs)))],nidl + 0,z0⟩):RW Tryz.prog N all Q md (⟨some d,.call ⟨.value (.func 182),#[x0,x1],tys⟩,ty,pos,af,none⟩ :: rest) ⟨tsl,hsl,nidl,z0⟩:=by
 exact aX (l := [x0,x1]) [i0] 1 [(i0,some (flat cD (shr xs)))] hmc (avs := [.own i0 0 m 2,.v (.func (.func 183) #[] #[])]) (by simp only [evL,ha0,ha1]) rfl hM hN (md' := md') (hmd := hmd) kk
theorem Qh (xs:List Tg) (m:Nat) (hm:m = xs.length) (hl:m ≤ 1048576):MC Tryz.prog 182 [.own 0 0 m 2,.v (.func (.func 183) #[] #[])] [(0,some (flat cD xs))] 1 (fun _:Unit => True) (fun _ => .own 0 0 (shr xs).length 2) (fun _ => [(0,some (flat cD (shr xs)))]):=by
 subst hm
 have hix := MZ xs hl
 have hbd := MY xs
 by_cases hn : sW xs = -1
 ·rw [hn] at hix
  have hs := GO hn
  refine aU Tryz.func182 Tryz.ntmps182 ?_
  repeat' (first|(apply aF;(apply qO (k := 180);(case ha => rfl);(case hl => (repeat' (first|exact oB|apply l3|exact z6|exact n0 rfl inferInstance)));(case h => exact hix);(case hfr|hN => rfl);(case hmd => infer_instance)))|refine aE ?_|fail)
  all_goals (
   (refine aC rfl ?_; refine aP () trivial ?_ ⟨sE ?_,trivial⟩)
   ·rw [hs]; rfl
   ·rw [hs])
 ·obtain ⟨i0, hi0⟩ := Int.eq_ofNat_of_zero_le (show 0 ≤ sW xs by omega)
  obtain ⟨g1,g2,g3⟩ := HM hi0
  rw [hi0] at hix
  refine aU Tryz.func182 Tryz.ntmps182 ?_
  repeat' (first|(apply aF;(apply qO (k := 180);(case ha => rfl);(case hl => (repeat' (first|exact oB|apply l3|exact z6|exact n0 rfl inferInstance)));(case h => exact hix);(case hfr|hN => rfl);(case hmd => infer_instance)))|refine aE ?_|fail)
  all_goals (try (exfalso;omega))
  refine aH (σ := List Tg × Nat × Nat) [0,1] [] (fun s => [(5,iv (s.2.1 : Int)),(6,iv (s.2.2 : Int))]) (fun s => [(0,some (flat cD s.1))]) (fun s => s.1.length = xs.length ∧ s.1.take s.2.1 = shr (xs.take s.2.2) ∧ s.1.drop s.2.2 = xs.drop s.2.2 ∧ s.2.1 < s.2.2 ∧ s.2.2 ≤ xs.length) (fun s => xs.length - s.2.2) (xs,i0,i0 + 1) ⟨rfl,g3.symm,rfl,by dsimp only;omega,by dsimp only;omega⟩ ?_
  rintro ⟨L,i,j⟩ ⟨hL,ht,hd,hij,hj⟩
  dsimp only at hL ht hd hij hj ⊢
  by_cases hjn : j < xs.length
  ·have hcl := BR L[j]!
   have hg := Jg hd hL hjn
   repeat' (first|(apply aF;first|(apply bC;rfl;rfl;rfl;rfl;rfl;(case hl => (first|(rw [aI]; simp only [gB] <;> omega)|(simp;done)));(exact Rv (by (first|assumption|omega))))|(apply gQ;rfl;rfl;infer_instance;rfl;(apply hcl);(rfl);rfl))|refine aE ?_|(refine aK ?_ ?_ <;> intro hc hq <;> try (exfalso;omega))|fail)
   ·have hu : L[j]!.uq = false := by assumption
    (refine bB (_,i + 1,j + 1) (Le.renA []) ?_ ?_)
    ·refine ⟨by dsimp only; rw [List.length_set]; exact hL, ?_, ?_, by dsimp only; omega, by dsimp only; omega⟩
     ·dsimp only
      rw [KJ (by omega),ht,Nr hjn (by rw [← hg]; exact hu),hg]
     ·dsimp only
      rw [List.drop_set_of_lt (by omega)]
      exact vX hd
    ·dsimp only;omega
   ·have hu : L[j]!.uq = true := by assumption
    (refine bB (L,i,j + 1) (Le.renA []) ?_ ?_)
    ·refine ⟨hL, ?_, vX hd, by dsimp only; omega, by dsimp only; omega⟩
     dsimp only
     rw [ht,IJ hjn (by rw [← hg]; exact hu)]
    ·dsimp only;omega
  ·have hfl : (flat cD L).length = L.length * 2 := aI cD L
   repeat' (first|(apply aF;first|(apply gR (d := 38) (l := i) (h := xs.length);rfl;rfl;exact rH rfl (by omega);rfl;exact if_pos (by omega);rfl)|(apply gR (d := 41) (l := 0) (h := i);rfl;rfl;rfl;exact rH rfl (by omega);exact if_pos (by omega);rfl)|(apply Kp;rfl;rfl;omega;rfl;(rw [hfl]; omega);rfl))|refine aE ?_|(refine aK ?_ ?_ <;> intro hc hq <;> try (exfalso;omega))|fail)
   refine aO (Le.cut (i := 0) (i * 2) rfl) ?_
   have hje : j = xs.length := by omega
   have hLt : L.take i = shr xs := by rw [ht,hje,List.take_length]
   have hil : (shr xs).length = i := by rw [← hLt,List.length_take]; omega
   (refine aC rfl ?_; refine aP () trivial ?_ ⟨sE ?_,trivial⟩)
   ·show AV.own 0 (0 + 0 * 2) (i - 0) 2 = _
    rw [hil]; rfl
   ·rw [KP (by omega),dL cD (e := 2),hLt]
end Go.Proofs.YteidfaaldcedpaaGreatDoor
