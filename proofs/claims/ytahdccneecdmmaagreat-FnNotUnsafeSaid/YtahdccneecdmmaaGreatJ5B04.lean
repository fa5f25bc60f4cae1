/-
 A part of the proofs over this program: rules and contracts of its functions (the contracts).
-/
import Derived.Test.YtahdccneecdmmaaGreatJ5B03
set_option linter.unusedVariables false
set_option linter.unusedSimpArgs false
set_option maxHeartbeats 8000000
set_option maxRecDepth 4000
attribute [local irreducible] Go.AL.RW Go.AL.AW Go.AL.Stop
namespace Go.Proofs.YtahdccneecdmmaaGreat
open Go.AL Go.RowKit
variable {N : Nat} {Q : Exit → AS → Prop} {all : Array Oper} {rest : List Oper} {tsl : List (Nat × AV)} {hsl : List (Nat × Option (List AV))} {nidl : Nat} {z0 : Lo} {md : Md} {d : Nat} {ty : TypeId} {pos : String} {af : Array Edge} {tys : Array TypeId}
theorem Cg {m:List Cl}{x:Pt}{wr:Bool}(h:x.cell < 0 ∨ (m.length:Int) ≤ x.cell):aY m x wr = 4:=by
 unfold aY;rw [if_pos (by omega)]
theorem Gn {m:List Cl}{x:Pt}{wr:Bool}(h:0 ≤ x.cell) (h2:x.cell < m.length) (h3:m[x.cell.toNat]!.alive = false):aY m x wr = 1:=by
 unfold aY;rw [if_neg (by omega),if_pos h3]
theorem HU {m:List Cl}{x:Pt}{wr:Bool}(h:0 ≤ x.cell) (h2:x.cell < m.length) (h3:m[x.cell.toNat]!.alive = true) (h4:bZ m[x.cell.toNat]!.stk x.tag < 0):aY m x wr = 2:=by
 unfold aY;rw [if_neg (by omega),if_neg (by rw [h3]; decide),if_pos h4]
theorem sU {m:List Cl}{x:Pt}(h:0 ≤ x.cell) (h2:x.cell < m.length) (h3:m[x.cell.toNat]!.alive = true) (h4:0 ≤ bZ m[x.cell.toNat]!.stk x.tag):aY m x false = 0:=by
 unfold aY;rw [if_neg (by omega),if_neg (by rw [h3]; decide),if_neg (by omega),if_neg (by intro q;exact absurd q.1 (by decide))]
theorem zK {m:List Cl}{x:Pt}:aY m x true = if aY m x false = 0 then (if m[x.cell.toNat]!.stk[(bZ m[x.cell.toNat]!.stk x.tag).toNat]!.uq = false then 3 else 0) else aY m x false:=by
 unfold aY
 split
 ·rw [if_neg (by decide)]
 ·split
  ·rw [if_neg (by decide)]
  ·split
   ·rw [if_neg (by decide)]
   ·rw [if_neg (c := false = true ∧ _) (by intro q; exact absurd q.1 (by decide)), if_pos rfl]
    simp only [true_and]
theorem dP {m:List Cl}{x:Pt}{wr:Bool}(h:aY m x wr = 0):0 ≤ x.cell ∧ x.cell < m.length ∧ m[x.cell.toNat]!.alive = true ∧ 0 ≤ bZ m[x.cell.toNat]!.stk x.tag ∧ (wr = true → m[x.cell.toNat]!.stk[(bZ m[x.cell.toNat]!.stk x.tag).toNat]!.uq = true):=by
 unfold aY at h
 split at h
 ·omega
 ·split at h
  ·omega
  ·split at h
   ·omega
   ·split at h
    ·omega
    ·rename_i a b c d
     refine ⟨by omega,by omega,by simpa using b,by omega,fun hw => ?_⟩
     by_cases q : m[x.cell.toNat]!.stk[(bZ m[x.cell.toNat]!.stk x.tag).toNat]!.uq = false
     ·exact absurd ⟨hw,q⟩ d
     ·simpa using q
theorem fB {m:List Cl}{x0:Operand}(ha0:ev (lk tsl) x0 = some (sl bJ m)) (hmc:MC Tryz.prog 273 [sl bJ m] [] 0 (fun _:Unit => True) (fun _ => .own 0 0 m.length 4) (fun _ => [(0,some (flat bJ m))])) (hM:Nat.ble (nidl + 1) aT = true) (hN:Nat.blt d N = true){md':Md}[hmd:MdA md (fJ [x0] ++ []) (List.map Sum.inr (List.map Prod.fst ([(nidl,some (flat bJ m))]:List (Nat × Option (List AV)))) ++ [.inl d]) md'] (kk:RW Tryz.prog N all Q md' rest ⟨(d,.own nidl 0 m.length 4) :: tsl,iA hsl [(nidl,some (flat bJ m))],nidl + 1,z0⟩):RW Tryz.prog N all Q md (⟨some d,.call ⟨.value (.func 273),#[x0],tys⟩,ty,pos,af,none⟩ :: rest) ⟨tsl,hsl,nidl,z0⟩:=by
 exact a6 (l := [x0]) [] 1 [(nidl,some (flat bJ m))] hmc (avs := [sl bJ m]) (by simp only [evL,ha0]) rfl hM hN (md' := md') (hmd := hmd) kk
theorem fX (m:List Cl) (hm:OkM m):MC Tryz.prog 273 [sl bJ m] [] 0 (fun _:Unit => True) (fun _ => .own 0 0 m.length 4) (fun _ => [(0,some (flat bJ m))]):=by
 have hml := hm.l
 refine aU Tryz.func273 Tryz.ntmps273 ?_
 repeat' (first|refine aE ?_|fail)
 refine aH (σ := Nat × List Cl) [0] [] (fun k => [(4,iv (k.1 : Int)),(3,.own 0 0 k.1 4)]) (fun k => [(0,some (flat bJ k.2))]) (fun k => k.1 ≤ m.length ∧ k.2 = m.take k.1) (fun k => m.length - k.1) (0,[]) ⟨by omega,rfl⟩ ?_
 rintro ⟨i,xs⟩ ⟨hi,hxs⟩
 dsimp only at hi hxs ⊢
 have hln : xs.length = i := by rw [hxs,List.length_take]; exact Nat.min_eq_left hi
 have hst : i < m.length → m[i]!.stk.length ≤ 200 := fun h => (((cZ m).1 hm).2 i h).l.2
 repeat' (first|(apply aF;(with_reducible apply aW (d := 21)))|refine aE ?_|(refine aK ?_ ?_ <;> intro hc hq <;> try (exfalso;omega))|fail)
 ·refine b0 (c8 ?_ (Le.frzD (d := 20) (i := 3) rfl rfl))
  rw [Nat.zero_add m[i]!.stk.length]
  repeat' (first|(apply aF;first|(apply bU;rfl;rfl;rfl;rfl;rfl;(rw [aI]; omega);(rfl);omega;omega;(exact Jf (by (omega)));rfl;rfl)|(apply aM (t := _);rfl;rfl;rfl;(exact (rfl:_=some [_,_,_,_]));rfl;rfl))|refine aE ?_|fail)
  (refine bC (i + 1,_) (Le.renA [(0,5)]) ?_ ?_)
  ·exact ⟨by dsimp only;omega,by dsimp only;rw [hxs,b6 m i (by omega)]⟩
  ·dsimp only;omega
 ·have hie : i = m.length := by omega
  (refine aD rfl ?_; refine aS () trivial ?_ ⟨sE ?_,trivial⟩)
  ·rw [hie]; rfl
  ·rw [hxs,hie,List.take_length]
theorem kI (m:List Cl) (hm:OkM m) (x:Pt):PC Tryz.prog 276 [sl bJ m,mW x] (fun r => r = .tup [iv (if aY m x false = 0 then bZ m[x.cell.toNat]!.stk x.tag else 0),iv (aY m x false)]):=by
 have hml := hm.l
 have hcv := nG m (by omega)
 rw [decide_eq_true hm] at hcv
 have hst : 0 ≤ x.cell → x.cell < m.length → m[x.cell.toNat]!.stk.length ≤ 1000000 := fun h1 h2 => Nat.le_trans (((cZ m).1 hm).2 x.cell.toNat (by omega)).l.2 (by decide)
 refine aC Tryz.func276 Tryz.ntmps276 ?_
 repeat' (first|(apply aF;first|(apply aA (k := 272);rfl;exact hcv;exact Pur.pf;rfl)|(apply aA (k := 284);rfl;exact D2 m[x.cell.toNat]!.stk x.tag (hst (by assumption) (by assumption));exact Pur.pf;rfl))|refine aE ?_|(refine aK ?_ ?_ <;> intro hc hq <;> try (exfalso;omega))|(refine bW ?_ ?_ <;> intro hg hq <;> try (exfalso;omega))|refine bQ ?_|fail)
 all_goals (refine aD rfl ⟨?_,rfl⟩; simp only [aN])
 ·rw [Cg (by omega)]; rfl
 ·rw [Gn (by assumption) (by assumption) (by assumption)]; rfl
 ·rw [HU (by assumption) (by assumption) (by assumption) (by assumption)]; rfl
 ·rw [sU (by assumption) (by assumption) (by assumption) (by assumption)]; rfl
 ·rw [Cg (by omega)]; rfl
theorem Ca {xs:List Cl}{k:Nat}{s:List Tg}(hk:k < xs.length):iB (flat bJ xs) (0 + k * 4 + 3) [sl cJ s] = flat bJ (xs.set k { xs[k]! with stk := s }) := gF hk (by simp) rfl
theorem NZ {xs:List Cl}{k:Nat}{v:Int}(hk:k < xs.length):iB (flat bJ xs) (0 + k * 4 + 0) [iv v] = flat bJ (xs.set k { xs[k]! with val := v }) := gF hk (by simp) rfl
theorem M5 {xs:List Cl}{k:Nat}{b:Bool}(hk:k < xs.length):iB (flat bJ xs) (0 + k * 4 + 1) [.v (.bool b)] = flat bJ (xs.set k { xs[k]! with alive := b }) := gF hk (by simp) rfl
theorem eT {α:Type}{f:α → List AV}{xs:List α}{n:Nat}(h:n = xs.length):AV.imm n (flat f xs) = sl f xs := by subst h;rfl
theorem rQ (m:List Cl) (hm:OkM m) (x:Pt):PC Tryz.prog 252 [sl bJ m,mW x] (fun r => r = .tup [sl bJ (cP m x false),iv (nL m x),iv (aY m x false)]):=by
 have hml := hm.l
 have hst : 0 ≤ x.cell → x.cell < m.length → m[x.cell.toNat]!.stk.length ≤ 1000000 := fun h1 h2 => Nat.le_trans (((cZ m).1 hm).2 x.cell.toNat (by omega)).l.2 (by decide)
 by_cases hk : aY m x false = 0
 ·have hpl := kI m hm x
  rw [if_pos hk,hk] at hpl
  obtain ⟨h1,h2,h3,h4,_⟩ := dP hk
  have hbd := dW m[x.cell.toNat]!.stk x.tag
  have hrd := H6 m[x.cell.toNat]!.stk (bZ m[x.cell.toNat]!.stk x.tag).toNat (by omega) (hst h1 h2)
  rw [Int.toNat_of_nonneg h4] at hrd
  refine aC Tryz.func252 Tryz.ntmps252 ?_
  repeat' (first|(apply aF;first|(apply fB;rfl;exact fX m hm;rfl;rfl)|(apply aA (k := 276);rfl;exact hpl;exact Pur.pf;rfl)|(apply aA (k := 277);rfl;exact hrd;exact Pur.pf;rfl)|(apply bB;rfl;rfl;rfl;rfl;rfl;(rw [aI]; simp only [gD] <;> omega);(exact Ca (by (omega)))))|refine aE ?_|refine bQ ?_|fail)
  (refine aV (Le.frzD (d := 4) (i := 1) rfl rfl) ?_; refine aD rfl ?_)
  refine ⟨?_,by exact Pur.pf⟩
  simp only [aN]
  rw [eT (by rw [List.length_set]),hk]
  unfold cP nL;rw [if_pos hk,if_pos hk]; rfl
 ·have hpl := kI m hm x
  rw [if_neg hk] at hpl
  refine aC Tryz.func252 Tryz.ntmps252 ?_
  repeat' (first|(apply aF;first|(apply fB;rfl;exact fX m hm;rfl;rfl)|(apply aA (k := 276);rfl;exact hpl;exact Pur.pf;rfl))|refine aE ?_|(refine aK ?_ ?_ <;> intro hc hq <;> try (exfalso;omega))|fail)
  (refine aV (Le.frzD (d := 4) (i := 1) rfl rfl) ?_; refine aD rfl ?_)
  refine ⟨?_,by exact Pur.pf⟩
  simp only [aN]
  unfold cP nL;rw [if_neg hk,if_neg hk]
theorem Ny {cs:List AV}{i:Nat}{c:AV}:iB cs i [c] = cs.take i ++ c :: cs.drop (i + 1):=by
 have := yP (cs := cs) (v := i) (c := c)
 rwa [Nat.zero_add,Nat.mul_one] at this
theorem Le.frzCl {ts:List (Nat × AV)}{hs:List (Nat × Option (List AV))}{n:Nat}{z0:Lo}{j q v m:Nat}{u:List Cl}{r:List Tg}(hj:aQ hs j = some (iB (flat bJ u) (0 + v * 4 + 3) [.own q 0 m 2])) (hq:aQ hs q = some (flat cJ r)) (hm:m = r.length) (hv:v < u.length) (hjq:j ≠ q) :
  Le ⟨ts,hs,n,z0⟩ ⟨ts,(j,some (flat bJ (u.set v { u[v]! with stk := r }))) :: (q,none) :: hs,n,z0⟩ := by
 subst hm
 have hl : (flat bJ u).length = u.length * 4 := aI bJ u
 have e := Ca (s := r) hv
 rw [Ny] at hj e
 have h := Le.frzC (ts := ts) (n := n) (z0 := z0) ((flat bJ u).take (0 + v * 4 + 3)) hj hq hjq
 rw [← e]; exact h
theorem lW {m:List Cl}{x:Pt}{wr:Bool}:(cP m x wr).length = m.length:=by
 unfold cP;split
 ·rw [List.length_set]
 ·rfl
theorem g9 {m:List Cl}{x:Pt}{x0 x1:Operand}(ha0:ev (lk tsl) x0 = some (sl bJ m)) (ha1:ev (lk tsl) x1 = some (mW x)) (hmc:MC Tryz.prog 271 [sl bJ m,mW x] [] 0 (fun _:Unit => True) (fun _ => .tup [.own 1 0 m.length 4,iv (aY m x true)]) (fun _ => [(1,some (flat bJ (cP m x true)))])) (hM:Nat.ble (nidl + 2) aT = true) (hN:Nat.blt d N = true){md':Md}[hmd:MdA md (fJ [x0,x1] ++ []) (List.map Sum.inr (List.map Prod.fst ([((nidl + 1),some (flat bJ (cP m x true)))]:List (Nat × Option (List AV)))) ++ [.inl d]) md'] (kk:RW Tryz.prog N all Q md' rest ⟨(d,.tup [.own (nidl + 1) 0 m.length 4,iv (aY m x true)]) :: tsl,iA hsl [((nidl + 1),some (flat bJ (cP m x true)))],nidl + 2,z0⟩):RW Tryz.prog N all Q md (⟨some d,.call ⟨.value (.func 271),#[x0,x1],tys⟩,ty,pos,af,none⟩ :: rest) ⟨tsl,hsl,nidl,z0⟩:=by
 exact a6 (l := [x0,x1]) [] 2 [((nidl + 1),some (flat bJ (cP m x true)))] hmc (avs := [sl bJ m,mW x]) (by simp only [evL,ha0,ha1]) rfl hM hN (md' := md') (hmd := hmd) kk
theorem jN (m:List Cl) (x:Pt) (hm:OkM m):MC Tryz.prog 271 [sl bJ m,mW x] [] 0 (fun _:Unit => True) (fun _ => .tup [.own 1 0 m.length 4,iv (aY m x true)]) (fun _ => [(1,some (flat bJ (cP m x true)))]):=by
 have hml := hm.l
 have hst : 0 ≤ x.cell → x.cell < m.length → m[x.cell.toNat]!.stk.length ≤ 200 := fun h1 h2 => (((cZ m).1 hm).2 x.cell.toNat (by omega)).l.2
 have hpl := kI m hm x
 by_cases hk : aY m x false = 0
 ·rw [if_pos hk, hk] at hpl
  obtain ⟨h1,h2,h3,h4,_⟩ := dP hk
  have hbd := dW m[x.cell.toNat]!.stk x.tag
  have hs2 := hst h1 h2
  obtain ⟨k,hkk⟩ := Int.eq_ofNat_of_zero_le h4
  rw [hkk] at hpl
  have hkn : k < m[x.cell.toNat]!.stk.length := by omega
  have hkt : (bZ m[x.cell.toNat]!.stk x.tag).toNat = k := by omega
  have hwr := zK (m := m) (x := x)
  rw [if_pos hk,hkt] at hwr
  have e1 : List.take (((k : Int) + 1).toNat - 0) (List.drop 0 m[x.cell.toNat]!.stk) = m[x.cell.toNat]!.stk.take (k + 1) := by rw [List.drop_zero]; congr 1
  have e2 : (m[x.cell.toNat]!.stk.take (k + 1)).length = k + 1 := by rw [List.length_take]; omega
  refine aU Tryz.func271 Tryz.ntmps271 ?_
  repeat' (first|(apply aF;first|(apply fB;rfl;exact fX m hm;rfl;rfl)|(apply aA (k := 276);rfl;exact hpl;exact Pur.pf;rfl)|(with_reducible apply aW (d := 46)))|refine aE ?_|(refine aK ?_ ?_ <;> intro hc hq <;> try (exfalso;omega))|refine bQ ?_|fail)
  ·have hu : m[x.cell.toNat]!.stk[k]!.uq = false := by assumption
   rw [if_pos hu] at hwr
   (refine aD rfl ?_; refine aS () trivial ?_ ⟨sE ?_,trivial⟩)
   ·rw [hwr]; rfl
   ·unfold cP;rw [if_neg (by rw [hwr]; decide)]
  ·have hu : m[x.cell.toNat]!.stk[k]!.uq = true := by assumption
   rw [if_neg (by rw [hu]; decide)] at hwr
   refine b0 ?_
   rw [e1]
   repeat' (first|(apply aF;(with_reducible apply aW (d := 49)))|refine aE ?_|fail)
   refine b0 (c8 ?_ (Le.frzCl (j := 1) (q := 3) (v := x.cell.toNat) (u := m) (r := m[x.cell.toNat]!.stk.take (k + 1)) rfl rfl (Nat.zero_add _) (by omega) (by decide)))
   repeat' (first|refine aE ?_|fail)
   (refine aD rfl ?_; refine aS () trivial ?_ ⟨sE ?_,trivial⟩)
   ·rw [hwr]; rfl
   ·unfold cP hZ eV;rw [if_pos hwr,hkt,if_pos rfl]
 ·rw [if_neg hk] at hpl
  have hk2 : aY m x true = aY m x false := by rw [zK,if_neg hk]
  refine aU Tryz.func271 Tryz.ntmps271 ?_
  repeat' (first|(apply aF;first|(apply fB;rfl;exact fX m hm;rfl;rfl)|(apply aA (k := 276);rfl;exact hpl;exact Pur.pf;rfl))|refine aE ?_|(refine aK ?_ ?_ <;> intro hc hq <;> try (exfalso;omega))|fail)
  (refine aD rfl ?_; refine aS () trivial ?_ ⟨sE ?_,trivial⟩)
  ·rw [hk2]; rfl
  ·unfold cP;rw [if_neg (by rw [hk2]; exact hk)]
theorem set_set {α:Type}{l:List α}{i:Nat}{a b:α}:(l.set i a).set i b = l.set i b := by simp
theorem kR {α:Type}[Inhabited α] {l:List α}{i:Nat}{a:α}(h:i < l.length):(l.set i a)[i]! = a := by rw [a7 _ _ (by rw [List.length_set]; exact h),List.getElem_set_self]
theorem yH (m:List Cl) (hm:OkM m) (x:Pt) (v:Int):PC Tryz.prog 253 [sl bJ m,mW x,iv v] (fun r => r = .tup [sl bJ (nU m x v),iv (o6 m x v)]):=by
 have hml := hm.l
 have hlt := lW (m := m) (x := x) (wr := true)
 have hin := dP (m := m) (x := x) (wr := true)
 by_cases hv : 0 ≤ v ∧ v ≤ 9
 ·have hwk : o6 m x v = aY m x true := by unfold o6; rw [if_pos hv]
  by_cases hk : aY m x true = 0
  ·obtain ⟨h1, h2, _⟩ := hin hk
   refine aC Tryz.func253 Tryz.ntmps253 ?_
   repeat' (first|(apply aF;first|(apply g9;rfl;rfl;exact jN m x hm;rfl;rfl)|(apply bB;rfl;rfl;rfl;rfl;rfl;(rw [aI]; simp only [gD] <;> omega);(exact NZ (by (omega)))))|refine aE ?_|(refine aK ?_ ?_ <;> intro hc hq <;> try (exfalso;omega))|(refine bW ?_ ?_ <;> intro hg hq <;> try (exfalso;omega))|fail)
   (refine aV (Le.frzD (d := 6) (i := 2) rfl rfl) ?_; refine aD rfl ?_)
   refine ⟨?_,by exact Pur.pf⟩
   simp only [aN]
   rw [eT (by rw [List.length_set,hlt]),hwk]
   unfold nU cP;rw [if_pos hk,if_pos (by rw [hwk]; exact hk),kR (by omega),set_set]
  ·refine aC Tryz.func253 Tryz.ntmps253 ?_
   repeat' (first|(apply aF;(apply g9;rfl;rfl;exact jN m x hm;rfl;rfl))|refine aE ?_|(refine aK ?_ ?_ <;> intro hc hq <;> try (exfalso;omega))|(refine bW ?_ ?_ <;> intro hg hq <;> try (exfalso;omega))|fail)
   (refine aV (Le.frzD (d := 6) (i := 2) rfl rfl) ?_; refine aD rfl ?_)
   refine ⟨?_,by exact Pur.pf⟩
   simp only [aN]
   rw [eT (by rw [hlt]),hwk]
   unfold nU cP;rw [if_neg hk,if_neg (by rw [hwk]; exact hk)]
 ·have hwk : o6 m x v = 4 := by unfold o6; rw [if_neg hv]
  have e : nU m x v = m := by unfold nU;rw [if_neg (by rw [hwk]; decide)]
  refine aC Tryz.func253 Tryz.ntmps253 ?_
  repeat' (first|(apply aF;(apply fB;rfl;exact fX m hm;rfl;rfl))|refine aE ?_|(refine aK ?_ ?_ <;> intro hc hq <;> try (exfalso;omega))|(refine bW ?_ ?_ <;> intro hg hq <;> try (exfalso;omega))|fail)
  all_goals (try (exfalso;omega))
  all_goals (
   (refine aV (Le.frzD (d := 6) (i := 1) rfl rfl) ?_; refine aD rfl ?_)
   refine ⟨?_,by exact Pur.pf⟩
   simp only [aN]
   rw [e,hwk])
theorem mH (m:List Cl) (hm:OkM m) (x:Pt):PC Tryz.prog 245 [sl bJ m,mW x] (fun r => r = .tup [sl bJ (gO m x),iv (aY m x true)]):=by
 have hml := hm.l
 have hlt := lW (m := m) (x := x) (wr := true)
 have hin := dP (m := m) (x := x) (wr := true)
 by_cases hk : aY m x true = 0
 ·obtain ⟨h1, h2, _⟩ := hin hk
  refine aC Tryz.func245 Tryz.ntmps245 ?_
  repeat' (first|(apply aF;first|(apply g9;rfl;rfl;exact jN m x hm;rfl;rfl)|(apply bB;rfl;rfl;rfl;rfl;rfl;(rw [aI]; simp only [gD] <;> omega);(exact M5 (by (omega)))))|refine aE ?_|(refine aK ?_ ?_ <;> intro hc hq <;> try (exfalso;omega))|fail)
  (refine aV (Le.frzD (d := 4) (i := 2) rfl rfl) ?_; refine aD rfl ?_)
  refine ⟨?_,by exact Pur.pf⟩
  simp only [aN]
  rw [eT (by rw [List.length_set,hlt])]
  unfold gO cP;rw [if_pos hk,if_pos hk,kR (by omega),set_set]
 ·refine aC Tryz.func245 Tryz.ntmps245 ?_
  repeat' (first|(apply aF;(apply g9;rfl;rfl;exact jN m x hm;rfl;rfl))|refine aE ?_|(refine aK ?_ ?_ <;> intro hc hq <;> try (exfalso;omega))|fail)
  (refine aV (Le.frzD (d := 4) (i := 2) rfl rfl) ?_; refine aD rfl ?_)
  refine ⟨?_,by exact Pur.pf⟩
  simp only [aN]
  rw [eT (by rw [hlt])]
  unfold gO cP;rw [if_neg hk,if_neg hk]
theorem Dm (m:List Cl) (hm:OkM m) (v:Int):PC Tryz.prog 249 [sl bJ m,iv v] (fun r => r = .tup (if 0 ≤ v ∧ v ≤ 9 ∧ m.length < 200 then [sl bJ (m ++ [nO v]),.agg [iv m.length,iv 0],bv true] else [sl bJ [],.agg [iv 0,iv 0],bv false])):=by
 have hml := hm.l
 have hcv := nG m (by omega)
 rw [decide_eq_true hm] at hcv
 refine aC Tryz.func249 Tryz.ntmps249 ?_
 repeat' (first|(apply aF;first|(apply fB;rfl;exact fX m hm;rfl;rfl)|(apply aA (k := 272);rfl;exact hcv;exact Pur.pf;rfl)|(apply aM (t := _);rfl;rfl;rfl;(first|exact (rfl:_=some [_,_])|exact (rfl:_=some [_,_,_,_])|rfl);rfl;rfl))|refine aE ?_|(refine aK ?_ ?_ <;> intro hc hq <;> try (exfalso;omega))|(refine bW ?_ ?_ <;> intro hg hq <;> try (exfalso;omega))|fail)
 all_goals try exact aD (l := [sl bJ [],.agg [iv 0,iv 0],bv false]) rfl ⟨by rw [if_neg (by omega)]; rfl,rfl⟩
 have e : ((flat bJ m).drop 0).take (m.length * 4) ++ [iv v,bv true,iv 1,.imm 1 [iv 0,bv true]] = flat bJ (m ++ [nO v]) := dX rfl rfl
 have e2 : AV.imm (m.length + 1) (((flat bJ m).drop 0).take (m.length * 4) ++ [iv v, bv true, iv 1, .imm 1 [iv 0, bv true]]) = sl bJ (m ++ [nO v]) := by
  rw [e]; exact eT (by rw [List.length_append]; rfl)
 refine aV (Le.frzD (d := 4) (i := 4) rfl rfl) ?_
 refine aD (l := [AV.imm (m.length + 1) (((flat bJ m).drop 0).take (m.length * 4) ++ [iv v,bv true,iv 1,.imm 1 [iv 0,bv true]]),.agg [iv m.length,iv 0],bv true]) rfl ?_
 rw [e2,if_pos (by omega)]
 exact ⟨rfl,by exact Pur.pf⟩
def nY (m : List Cl) (j : Nat) (r : List Tg) : Prop := r.length = 200 ∨ m[j]!.next = 1000
instance (m : List Cl) (j : Nat) (r : List Tg) : Decidable (nY m j r) := by unfold nY;infer_instance
def jO (m b : List Cl) (j : Nat) (u : Bool) (r : List Tg) : List Cl := if nY m j r then b else m.set j (psh { m[j]! with stk := r } u)
def jR (m : List Cl) (j : Nat) (r : List Tg) : Pt := if nY m j r then ⟨0,0⟩ else ⟨j,m[j]!.next⟩
def jP (m : List Cl) (j : Nat) (r : List Tg) : Int := if nY m j r then 4 else 0
theorem wW {m b:List Cl}{j:Nat}{u:Bool}{r:List Tg}{n k:Nat}{x0 x1 x2 x3:Operand}{i0 i1:Nat}(ha0:ev (lk tsl) x0 = some (.own i0 0 n 4)) (ha1:ev (lk tsl) x1 = some (sl bJ b)) (ha2:ev (lk tsl) x2 = some (iv (j:Int))) (ha3:ev (lk tsl) x3 = some (bv u)) (hH0:aQ hsl i0 = some (flat eX (dB m j (.own i1 0 k 2)))) (hH1:aQ hsl i1 = some (flat cJ r)) (hdd:Go.AL.distinct [i0,i1] = true) (hmc:MC Tryz.prog 283 [.own 0 0 n 4,sl bJ b,iv (j:Int),bv u] [(0,some (flat eX (dB m j (.own 1 0 k 2)))),(1,some (flat cJ r))] 2 (fun _:Unit => True) (fun _ => .tup [sl bJ (jO m b j u r),mW (jR m j r),iv (jP m j r)]) (fun _ => [])) (hM:Nat.ble (nidl + 0) aT = true) (hN:Nat.blt d N = true){md':Md}[hmd:MdA md (fJ [x0,x1,x2,x3] ++ [.inr i0,.inr i1]) (List.map Sum.inr (List.map Prod.fst ([(i0,none),(i1,none)]:List (Nat × Option (List AV)))) ++ [.inl d]) md'] (kk:RW Tryz.prog N all Q md' rest ⟨(d,.tup [sl bJ (jO m b j u r),mW (jR m j r),iv (jP m j r)]) :: tsl,iA hsl [(i0,none),(i1,none)],nidl + 0,z0⟩):RW Tryz.prog N all Q md (⟨some d,.call ⟨.value (.func 283),#[x0,x1,x2,x3],tys⟩,ty,pos,af,none⟩ :: rest) ⟨tsl,hsl,nidl,z0⟩:=by
 exact a6 (l := [x0,x1,x2,x3]) [i0,i1] 2 [(i0,none),(i1,none)] hmc (avs := [.own i0 0 n 4,sl bJ b,iv (j : Int),bv u]) (by simp only [evL,ha0,ha1,ha2,ha3]) hdd hM hN (md' := md') (hmd := hmd) kk
theorem BL (m b:List Cl) (j:Nat) (u:Bool) (r:List Tg) (n k:Nat) (hb:OkM b) (hn:n = m.length) (hk:k = r.length) (hj:j < m.length) (hnx:0 ≤ m[j]!.next ∧ m[j]!.next ≤ 1000) (hr:r.length ≤ 200) (hml:m.length ≤ 200):MC Tryz.prog 283 [.own 0 0 n 4,sl bJ b,iv (j:Int),bv u] [(0,some (flat eX (dB m j (.own 1 0 k 2)))),(1,some (flat cJ r))] 2 (fun _:Unit => True) (fun _ => .tup [sl bJ (jO m b j u r),mW (jR m j r),iv (jP m j r)]) (fun _ => []):=by
 have hol := c6 (m := m) (j := j) (X := .own 1 0 k 2)
 have hog := gY (m := m) (j := j) (X := .own 1 0 k 2) hj
 have hol2 := c6 (m := m) (j := j) (X := .own (2 + 1 + 1 + 1) 0 (r.length + 1) 2)
 subst hn hk
 refine aU Tryz.func283 Tryz.ntmps283 ?_
 repeat' (first|(apply aF;(with_reducible apply aW (d := 11)))|refine aE ?_|fail)
 refine b0 ?_
 rw [hog]
 dsimp only
 repeat' (first|(apply aF;first|(apply aA (k := 273);rfl;exact Hc b hb;exact Pur.pf;rfl)|(apply bU;rfl;rfl;rfl;rfl;rfl;(rw [aI]; omega);(rfl);omega;omega;(exact vJ (by (omega)));rfl;rfl)|(apply bB;rfl;rfl;rfl;rfl;rfl;(case hl => (first|decide|(rw [aI]; simp only [gD] <;> omega)|(simp;done)));(first|exact tH (by (assumption))|exact yM (by (assumption))))|(apply aM (t := _);rfl;rfl;rfl;(exact (rfl:_=some [_,_]));rfl;rfl))|refine aE ?_|(refine aK ?_ ?_ <;> intro hc hq <;> try (exfalso;omega))|(refine bW ?_ ?_ <;> intro hg hq <;> try (exfalso;omega))|fail)
 ·have hf : nY m j r := .inr (by assumption)
  refine aD (l := [sl bJ b,.agg [iv 0,iv 0],iv 4]) rfl ?_
  refine aS () trivial ?_ trivial
  unfold jO jR jP;rw [if_pos hf,if_pos hf,if_pos hf]; rfl
 ·have hf : ¬ nY m j r := by unfold nY; omega
  have hm2 : (m.set j { m[j]! with next := m[j]!.next + 1 }).length = m.length := List.length_set
  refine aV (Le.cls (o := 0) (q := 5) (j := j) (k := r.length + 1) (m := m.set j { m[j]! with next := m[j]!.next + 1 }) (r := r ++ [⟨m[j]!.next,u⟩]) rfl rfl (by rw [List.length_append]; rfl) (by omega) (by decide)) ?_
  refine aV (Le.frzD (d := 8) (i := 0) rfl rfl) ?_
  have e : (m.set j { m[j]! with next := m[j]!.next + 1 }).set j { (m.set j { m[j]! with next := m[j]!.next + 1 })[j]! with stk := r ++ [⟨m[j]!.next, u⟩] } = m.set j (psh { m[j]! with stk := r } u) := by
   rw [kR hj,set_set]; rfl
  rw [e]
  refine aD (l := [.imm m.length (flat bJ (m.set j (psh { m[j]! with stk := r } u))),.agg [iv (j : Int),iv m[j]!.next],iv 0]) rfl ?_
  refine aS () trivial ?_ trivial
  unfold jO jR jP;rw [if_neg hf,if_neg hf,if_neg hf,eT (by rw [List.length_set])]; rfl
 ·have hf : nY m j r := .inl (by omega)
  refine aD (l := [sl bJ b,.agg [iv 0,iv 0],iv 4]) rfl ?_
  refine aS () trivial ?_ trivial
  unfold jO jR jP;rw [if_pos hf,if_pos hf,if_pos hf]; rfl
theorem B1 {stk r:List Tg}{k:Nat}{x0 x1:Operand}(ha0:ev (lk tsl) x0 = some (sl cJ stk)) (ha1:ev (lk tsl) x1 = some (iv (k:Int))) (hmc:MC Tryz.prog 277 [sl cJ stk,iv (k:Int)] [] 0 (fun _:Unit => True) (fun _ => .own 1 0 r.length 2) (fun _ => [(1,some (flat cJ r))])) (hM:Nat.ble (nidl + 2) aT = true) (hN:Nat.blt d N = true){md':Md}[hmd:MdA md (fJ [x0,x1] ++ []) (List.map Sum.inr (List.map Prod.fst ([((nidl + 1),some (flat cJ r))]:List (Nat × Option (List AV)))) ++ [.inl d]) md'] (kk:RW Tryz.prog N all Q md' rest ⟨(d,.own (nidl + 1) 0 r.length 2) :: tsl,iA hsl [((nidl + 1),some (flat cJ r))],nidl + 2,z0⟩):RW Tryz.prog N all Q md (⟨some d,.call ⟨.value (.func 277),#[x0,x1],tys⟩,ty,pos,af,none⟩ :: rest) ⟨tsl,hsl,nidl,z0⟩:=by
 exact a6 (l := [x0,x1]) [] 2 [((nidl + 1),some (flat cJ r))] hmc (avs := [sl cJ stk,iv (k : Int)]) (by simp only [evL,ha0,ha1]) rfl hM hN (md' := md') (hmd := hmd) kk
theorem Fy (stk r:List Tg) (k:Nat) (hr:r = eV stk k false) (hk:k < stk.length) (hl:stk.length ≤ 1000000):MC Tryz.prog 277 [sl cJ stk,iv (k:Int)] [] 0 (fun _:Unit => True) (fun _ => .own 1 0 r.length 2) (fun _ => [(1,some (flat cJ r))]):=by
 have e1 : List.take (((k : Int) + 1).toNat - 0) (List.drop 0 stk) = stk.take (k + 1) := by rw [List.drop_zero]; congr 1
 have e2 : (stk.take (k + 1)).length = k + 1 := by rw [List.length_take]; omega
 refine aU Tryz.func277 Tryz.ntmps277 ?_
 repeat' (first|(apply aF;(with_reducible apply aW (d := 12)))|refine aE ?_|fail)
 refine b0 ?_
 rw [e1]
 repeat' (first|refine aE ?_|fail)
 refine aH (σ := Nat × List Tg × Nat) [0] [] (fun s => [(6,iv (s.1 : Int)),(5,.own 1 0 s.2.2 2)]) (fun s => [(1,some (flat cJ s.2.1))]) (fun s => k + 1 ≤ s.1 ∧ s.1 ≤ stk.length ∧ s.2.1 = stk.take (k + 1) ++ ((stk.drop (k + 1)).take (s.1 - (k + 1))).filter (fun t => !t.uq) ∧ s.2.2 = s.2.1.length ∧ s.2.2 ≤ s.1) (fun s => stk.length - s.1) (k + 1,stk.take (k + 1),0 + (stk.take (k + 1)).length) ⟨Nat.le_refl _,by dsimp only;omega,by simp,by dsimp only;omega,by dsimp only;omega⟩ ?_
 rintro ⟨i,xs,n⟩ ⟨hki,hi,hxs,hn,hni⟩
 dsimp only at hki hi hxs hn hni ⊢
 repeat' (first|(apply aF;first|(apply bU;rfl;rfl;rfl;rfl;rfl;(rw [aI]; omega);(rfl);omega;omega;(exact vJ (by (assumption)));rfl;rfl)|(apply aM (t := _);rfl;rfl;rfl;(exact (rfl:_=some [_,_]));rfl;rfl))|refine aE ?_|(refine aK ?_ ?_ <;> intro hc hq <;> try (exfalso;omega))|fail)
 ·(refine bC (i + 1, _, _) (Le.renA [(1, 3)]) ?_ ?_)
  ·refine ⟨by dsimp only; omega, by dsimp only; omega, ?_, by dsimp only; rw [List.length_append, hn]; rfl, by dsimp only; omega⟩
   dsimp only
   rw [hxs,jZ stk hki (by omega),List.filter_append,List.append_assoc]
   congr 2
   have hu : stk[i]!.uq = false := by assumption
   rw [qS (by rw [hu]; rfl)]
  ·dsimp only;omega
 ·(refine bC (i + 1, xs, n) (Le.renA [(1, 1)]) ?_ ?_)
  ·refine ⟨by dsimp only; omega, by dsimp only; omega, ?_, hn, by dsimp only; omega⟩
   dsimp only
   have hu : stk[i]!.uq = true := by assumption
   rw [hxs,jZ stk hki (by omega),List.filter_append,mL (by rw [hu]; rfl),List.append_nil]
  ·dsimp only;omega
 ·have hie : i = stk.length := by omega
  have hd : (stk.drop (k + 1)).take (stk.length - (k + 1)) = stk.drop (k + 1) := List.take_of_length_le (by rw [List.length_drop]; exact Nat.le_refl _)
  have hxr : xs = r := by rw [hxs,hie,hd,hr]; rfl
  subst hxr
  (refine aD rfl ?_; refine aS () trivial ?_ ⟨sE ?_,trivial⟩)
  ·rw [hn]; rfl
  ·rfl
theorem HP {m:List Cl}{x:Pt}{j:Nat}{r:List Tg}{v:Int}{x0 x1:Operand}(ha0:ev (lk tsl) x0 = some (sl bJ m)) (ha1:ev (lk tsl) x1 = some (mW x)) (hmc:MC Tryz.prog 252 [sl bJ m,mW x] [] 0 (fun _:Unit => True) (fun _ => .tup [.own 1 0 m.length 4,iv v,iv 0]) (fun _ => [(1,some (flat eX (dB m j (.own 3 0 r.length 2)))),(3,some (flat cJ r))])) (hM:Nat.ble (nidl + 4) aT = true) (hN:Nat.blt d N = true){md':Md}[hmd:MdA md (fJ [x0,x1] ++ []) (List.map Sum.inr (List.map Prod.fst ([((nidl + 1),some (flat eX (dB m j (.own (nidl + 3) 0 r.length 2)))),((nidl + 3),some (flat cJ r))]:List (Nat × Option (List AV)))) ++ [.inl d]) md'] (kk:RW Tryz.prog N all Q md' rest ⟨(d,.tup [.own (nidl + 1) 0 m.length 4,iv v,iv 0]) :: tsl,iA hsl [((nidl + 1),some (flat eX (dB m j (.own (nidl + 3) 0 r.length 2)))),((nidl + 3),some (flat cJ r))],nidl + 4,z0⟩):RW Tryz.prog N all Q md (⟨some d,.call ⟨.value (.func 252),#[x0,x1],tys⟩,ty,pos,af,none⟩ :: rest) ⟨tsl,hsl,nidl,z0⟩:=by
 exact a6 (l := [x0,x1]) [] 4 [((nidl + 1),some (flat eX (dB m j (.own (nidl + 3) 0 r.length 2)))),((nidl + 3),some (flat cJ r))] hmc (avs := [sl bJ m,mW x]) (by simp only [evL,ha0,ha1]) rfl hM hN (md' := md') (hmd := hmd) kk
theorem Lf (m:List Cl) (x:Pt) (j:Nat) (r:List Tg) (v:Int) (hm:OkM m) (hk:aY m x false = 0) (hj:j = x.cell.toNat) (hr:r = eV m[j]!.stk (bZ m[j]!.stk x.tag).toNat false) (hv:v = m[j]!.val):MC Tryz.prog 252 [sl bJ m,mW x] [] 0 (fun _:Unit => True) (fun _ => .tup [.own 1 0 m.length 4,iv v,iv 0]) (fun _ => [(1,some (flat eX (dB m j (.own 3 0 r.length 2)))),(3,some (flat cJ r))]):=by
 subst hj
 have hml := hm.l
 have hst : 0 ≤ x.cell → x.cell < m.length → m[x.cell.toNat]!.stk.length ≤ 1000000 := fun h1 h2 => Nat.le_trans (((cZ m).1 hm).2 x.cell.toNat (by omega)).l.2 (by decide)
 have hpl := kI m hm x
 rw [if_pos hk,hk] at hpl
 obtain ⟨h1,h2,h3,h4,_⟩ := dP hk
 have hbd := dW m[x.cell.toNat]!.stk x.tag
 have hrd := Fy m[x.cell.toNat]!.stk r (bZ m[x.cell.toNat]!.stk x.tag).toNat hr (by omega) (hst h1 h2)
 rw [Int.toNat_of_nonneg h4] at hrd
 obtain ⟨k,hkk⟩ := Int.eq_ofNat_of_zero_le h4
 rw [hkk] at hpl hrd
 refine aU Tryz.func252 Tryz.ntmps252 ?_
 repeat' (first|(apply aF;first|(apply fB;rfl;exact fX m hm;rfl;rfl)|(apply aA (k := 276);rfl;exact hpl;exact Pur.pf;rfl)|(apply B1;rfl;rfl;exact hrd;rfl;rfl)|(apply bB;rfl;rfl;rfl;rfl;rfl;(rw [aI]; simp only [gD] <;> omega);(exact yI (by (omega)))))|refine aE ?_|refine bQ ?_|fail)
 (refine aD rfl ?_; refine aS () trivial ?_ ⟨sE ?_,⟨sE ?_,trivial⟩⟩)
 ·rw [hv]; rfl
 ·rfl
 ·rfl
theorem E2 {m:List Cl}{x:Pt}{j:Nat}{r:List Tg}{x0 x1:Operand}(ha0:ev (lk tsl) x0 = some (sl bJ m)) (ha1:ev (lk tsl) x1 = some (mW x)) (hmc:MC Tryz.prog 271 [sl bJ m,mW x] [] 0 (fun _:Unit => True) (fun _ => .tup [.own 1 0 m.length 4,iv 0]) (fun _ => [(1,some (flat eX (dB m j (.own 3 0 r.length 2)))),(3,some (flat cJ r))])) (hM:Nat.ble (nidl + 4) aT = true) (hN:Nat.blt d N = true){md':Md}[hmd:MdA md (fJ [x0,x1] ++ []) (List.map Sum.inr (List.map Prod.fst ([((nidl + 1),some (flat eX (dB m j (.own (nidl + 3) 0 r.length 2)))),((nidl + 3),some (flat cJ r))]:List (Nat × Option (List AV)))) ++ [.inl d]) md'] (kk:RW Tryz.prog N all Q md' rest ⟨(d,.tup [.own (nidl + 1) 0 m.length 4,iv 0]) :: tsl,iA hsl [((nidl + 1),some (flat eX (dB m j (.own (nidl + 3) 0 r.length 2)))),((nidl + 3),some (flat cJ r))],nidl + 4,z0⟩):RW Tryz.prog N all Q md (⟨some d,.call ⟨.value (.func 271),#[x0,x1],tys⟩,ty,pos,af,none⟩ :: rest) ⟨tsl,hsl,nidl,z0⟩:=by
 exact a6 (l := [x0,x1]) [] 4 [((nidl + 1),some (flat eX (dB m j (.own (nidl + 3) 0 r.length 2)))),((nidl + 3),some (flat cJ r))] hmc (avs := [sl bJ m,mW x]) (by simp only [evL,ha0,ha1]) rfl hM hN (md' := md') (hmd := hmd) kk
theorem Ht (m:List Cl) (x:Pt) (j:Nat) (r:List Tg) (hm:OkM m) (hk:aY m x true = 0) (hj:j = x.cell.toNat) (hr:r = eV m[j]!.stk (bZ m[j]!.stk x.tag).toNat true):MC Tryz.prog 271 [sl bJ m,mW x] [] 0 (fun _:Unit => True) (fun _ => .tup [.own 1 0 m.length 4,iv 0]) (fun _ => [(1,some (flat eX (dB m j (.own 3 0 r.length 2)))),(3,some (flat cJ r))]):=by
 subst hj
 have hml := hm.l
 obtain ⟨h1,h2,h3,h4,hu⟩ := dP hk
 have hk0 : aY m x false = 0 := sU h1 h2 h3 h4
 have hs2 : m[x.cell.toNat]!.stk.length ≤ 200 := (((cZ m).1 hm).2 x.cell.toNat (by omega)).l.2
 have hpl := kI m hm x
 rw [if_pos hk0,hk0] at hpl
 have hbd := dW m[x.cell.toNat]!.stk x.tag
 obtain ⟨k,hkk⟩ := Int.eq_ofNat_of_zero_le h4
 have hkt : (bZ m[x.cell.toNat]!.stk x.tag).toNat = k := by omega
 rw [hkk] at hpl
 rw [hkt] at hr hu
 have hkn : k < m[x.cell.toNat]!.stk.length := by omega
 have e1 : List.take (((k : Int) + 1).toNat - 0) (List.drop 0 m[x.cell.toNat]!.stk) = r := by rw [List.drop_zero,hr]; unfold eV;rw [if_pos rfl]; congr 1
 have e2 : r.length = k + 1 := by rw [← e1,List.drop_zero,List.length_take]; omega
 have hut := hu rfl
 refine aU Tryz.func271 Tryz.ntmps271 ?_
 repeat' (first|(apply aF;first|(apply fB;rfl;exact fX m hm;rfl;rfl)|(apply aA (k := 276);rfl;exact hpl;exact Pur.pf;rfl)|(with_reducible apply aW (d := 46)))|refine aE ?_|(refine aK ?_ ?_ <;> intro hc hq <;> try (exfalso;omega))|refine bQ ?_|fail)
 ·exfalso; have hf : m[x.cell.toNat]!.stk[k]!.uq = false := by assumption
  rw [hut] at hf;exact absurd hf (by decide)
 refine b0 ?_
 rw [e1]
 repeat' (first|(apply aF;(apply bB;rfl;rfl;rfl;rfl;rfl;(rw [aI]; simp only [gD] <;> omega);(exact yI (by (omega)))))|refine aE ?_|fail)
 (refine aD rfl ?_; refine aS () trivial ?_ ⟨sE ?_,⟨sE ?_,trivial⟩⟩)
 ·rfl
 ·rw [Nat.zero_add r.length]
 ·rfl
theorem lC {m:List Cl}{x:Pt}{u:Bool}{r:List Tg}(hk:aY m x u = 0) (hr:r = eV m[x.cell.toNat]!.stk (bZ m[x.cell.toNat]!.stk x.tag).toNat u):j7 m x u = jP m x.cell.toNat r ∧ jI m x u = jO m m x.cell.toNat u r ∧ oH m x u = jR m x.cell.toNat r:=by
 obtain ⟨h1,h2,_⟩ := dP hk
 subst hr
 have e : j7 m x u = jP m x.cell.toNat (eV m[x.cell.toNat]!.stk (bZ m[x.cell.toNat]!.stk x.tag).toNat u) := by
  unfold j7;rw [if_pos hk]; rfl
 refine ⟨e,?_,?_⟩
 ·unfold jI jO
  rw [e]; unfold jP
  split
  ·rw [if_neg (by decide)]
  ·rw [if_pos rfl]; rfl
 ·unfold oH jR
  rw [e]; unfold jP
  split
  ·rw [if_neg (by decide)]
  ·rw [if_pos rfl,Int.toNat_of_nonneg h1]
theorem G0 {m:List Cl}{x:Pt}{u:Bool}(hk:aY m x u ≠ 0):j7 m x u = aY m x u ∧ jI m x u = m ∧ oH m x u = ⟨0,0⟩:=by
 have e : j7 m x u = aY m x u := by unfold j7;rw [if_neg hk]
 exact ⟨e,by unfold jI;rw [if_neg (by rw [e]; exact hk)],by unfold oH;rw [if_neg (by rw [e]; exact hk)]⟩
theorem z5 (m:List Cl) (hm:OkM m) (x:Pt):PC Tryz.prog 274 [sl bJ m,mW x] (fun r => r = .tup [sl bJ (jI m x false),mW (oH m x false),iv (j7 m x false)]):=by
 have hml := hm.l
 by_cases hk : aY m x false = 0
 ·obtain ⟨c, t⟩ := x
  obtain ⟨h1,h2,_⟩ := dP hk
  have h1' : 0 ≤ c := h1
  obtain ⟨j,rfl⟩ := Int.eq_ofNat_of_zero_le h1'
  have h2' : (j : Int) < m.length := h2
  have hc := ((cZ m).1 hm).2 j (by omega)
  obtain ⟨r,hr⟩ : ∃ r,r = eV m[j]!.stk (bZ m[j]!.stk t).toNat false := ⟨_,rfl⟩
  have hrl : r.length ≤ 200 := by rw [hr]; exact Nat.le_trans tchS_sub.length_le hc.l.2
  obtain ⟨e1,e2,e3⟩ := lC hk hr
  have hpu := BL m m j false r m.length r.length hm rfl rfl (by omega) (by have := hc.n;omega) hrl hml
  rw [e1,e2,e3]
  refine aC Tryz.func274 Tryz.ntmps274 ?_
  repeat' (first|(apply aF;first|(apply HP (j := j) (r := r) (v := m[j]!.val);rfl;rfl;exact Lf m _ _ r _ hm hk rfl hr rfl;rfl;rfl)|(apply wW (m := m) (b := m) (j := j) (u := false) (r := r) (n := m.length) (k := r.length);rfl;rfl;rfl;rfl;rfl;rfl;rfl;exact hpu;rfl;rfl))|refine aE ?_|fail)
  exact aD (l := [sl bJ (jO m m j false r),.agg [iv (jR m j r).cell,iv (jR m j r).tag],iv (jP m j r)]) rfl ⟨rfl,by exact Pur.pf⟩
 ·obtain ⟨e1, e2, e3⟩ := G0 hk
  have hrd := rQ m hm x
  have e4 : cP m x false = m := by unfold cP;rw [if_neg hk]
  rw [e4] at hrd
  rw [e1,e2,e3]
  refine aC Tryz.func274 Tryz.ntmps274 ?_
  repeat' (first|(apply aF;(apply aA (k := 252);rfl;exact hrd;exact Pur.pf;rfl))|refine aE ?_|(refine aK ?_ ?_ <;> intro hc hq <;> try (exfalso;omega))|fail)
  skip
  exact aD (l := [sl bJ m,.agg [iv 0,iv 0],iv (aY m x false)]) rfl ⟨rfl,by exact Pur.pf⟩
theorem vX (m:List Cl) (hm:OkM m) (x:Pt):PC Tryz.prog 275 [sl bJ m,mW x] (fun r => r = .tup [sl bJ (jI m x true),mW (oH m x true),iv (j7 m x true)]):=by
 have hml := hm.l
 by_cases hk : aY m x true = 0
 ·obtain ⟨c, t⟩ := x
  obtain ⟨h1,h2,_⟩ := dP hk
  have h1' : 0 ≤ c := h1
  obtain ⟨j,rfl⟩ := Int.eq_ofNat_of_zero_le h1'
  have h2' : (j : Int) < m.length := h2
  have hc := ((cZ m).1 hm).2 j (by omega)
  obtain ⟨r,hr⟩ : ∃ r,r = eV m[j]!.stk (bZ m[j]!.stk t).toNat true := ⟨_,rfl⟩
  have hrl : r.length ≤ 200 := by rw [hr]; exact Nat.le_trans tchS_sub.length_le hc.l.2
  obtain ⟨e1,e2,e3⟩ := lC hk hr
  have hpu := BL m m j true r m.length r.length hm rfl rfl (by omega) (by have := hc.n;omega) hrl hml
  rw [e1,e2,e3]
  refine aC Tryz.func275 Tryz.ntmps275 ?_
  repeat' (first|(apply aF;first|(apply E2 (j := j) (r := r);rfl;rfl;exact Ht m _ _ r hm hk rfl hr;rfl;rfl)|(apply wW (m := m) (b := m) (j := j) (u := true) (r := r) (n := m.length) (k := r.length);rfl;rfl;rfl;rfl;rfl;rfl;rfl;exact hpu;rfl;rfl))|refine aE ?_|fail)
  exact aD (l := [sl bJ (jO m m j true r),.agg [iv (jR m j r).cell,iv (jR m j r).tag],iv (jP m j r)]) rfl ⟨rfl,by exact Pur.pf⟩
 ·obtain ⟨e1, e2, e3⟩ := G0 hk
  have hwr := jN m x hm
  have e4 : cP m x true = m := by unfold cP;rw [if_neg hk]
  rw [e1,e2,e3]
  refine aC Tryz.func275 Tryz.ntmps275 ?_
  repeat' (first|(apply aF;(apply g9;rfl;rfl;exact hwr;rfl;rfl))|refine aE ?_|(refine aK ?_ ?_ <;> intro hc hq <;> try (exfalso;omega))|fail)
  refine aV (Le.frzD (d := 4) (i := 3) (m := m.length) (cs := flat bJ (cP m x true)) rfl rfl) ?_
  rw [e4]
  exact aD (l := [sl bJ m,.agg [iv 0,iv 0],iv (aY m x true)]) rfl ⟨rfl,by exact Pur.pf⟩
abbrev fT (s : Mc) : AV := .agg [sl dC s.slots,sl bJ s.cells,sl cI s.read]
theorem xL {xs:List Sl}{k:Nat}{a:Bool}{b c d:Int}(hk:k < xs.length):iB (flat dC xs) (0 + k * 4) [bv a,iv b,iv c,iv d] = flat dC (xs.set k ⟨a,b,⟨c,d⟩⟩) := hO hk rfl
theorem qI (s:Mc) (v:Nat) (hv:v < s.slots.length) (hl:s.slots.length ≤ 1000000):PC Tryz.prog 247 [fT s,iv (v:Int)] (fun r => r = fT ⟨s.slots.set v fZ,s.cells,s.read⟩):=by
 refine aC Tryz.func247 Tryz.ntmps247 ?_
 repeat' (first|(apply aF;(apply bB;rfl;rfl;rfl;rfl;rfl;(case hl => (first|(rw [aI]; simp only [gD] <;> omega)|(simp;done)));(exact xL (by (assumption)))))|refine aE ?_|fail)
 refine aV (Le.frzC (j := 1) (i := 3) [] rfl rfl (by decide)) ?_
 have e : AV.imm (0 + s.slots.length) (flat dC (s.slots.set v fZ)) = sl dC (s.slots.set v fZ) := eT (by rw [List.length_set,Nat.zero_add])
 refine aD (l := [.agg [.imm (0 + s.slots.length) (flat dC (s.slots.set v fZ)),sl bJ s.cells,sl cI s.read]]) rfl ?_
 rw [e]
 exact ⟨rfl,by exact Pur.pf⟩
theorem HI (k:Int):(if jX k = -1 then (0:Int) else jX k) = if k = 1 then 3 else if k = 0 then 0 else 4:=by
 unfold jX dY
 by_cases h : k = 0
 ·subst h;rfl
 ·rw [if_neg h, if_neg h]
  by_cases h1 : k = 1
  ·rw [if_pos h1]; rfl
  ·rw [if_neg h1]; rfl
theorem kV (ts:List Int) (s:Mc) (v:Nat) (y:Sl) (hm:OkM s.cells) (hv:v < s.slots.length) (hvt:v < ts.length) (hl:s.slots.length ≤ 1000000):PC Tryz.prog 248 [sl cI ts,fT s,iv (v:Int),HD y] (fun r => r = .tup [fT (bH ts s v y).1,iv (if (bH ts s v y).2 = -1 then 0 else (bH ts s v y).2)]):=by
 have hfc := mH s.cells hm s.slots[v]!.ptr
 refine aC Tryz.func248 Tryz.ntmps248 ?_
 repeat' (first|(apply aF;first|(apply aA (k := 245);rfl;exact hfc;exact Pur.pf;rfl)|(apply bB;rfl;rfl;rfl;rfl;rfl;(case hl => (first|(rw [aI]; simp only [gD] <;> omega)|(simp;done)));(exact xL (by (assumption))))|(apply aA (k := 246);rfl;(apply kK);(rfl);rfl))|refine aE ?_|(refine aK ?_ ?_ <;> intro hc hq <;> try (exfalso;omega))|(refine bW ?_ ?_ <;> intro hg hq <;> try (exfalso;omega))|refine bQ ?_|fail)
 all_goals (
  refine aV (Le.frzC (j := 2) (i := 4) [] rfl rfl (by decide)) ?_
  have e : AV.imm (0 + s.slots.length) (flat dC (s.slots.set v y)) = sl dC (s.slots.set v y) := eT (by rw [List.length_set,Nat.zero_add]))
 ·have hp : bH ts s v y = (⟨s.slots.set v y, gO s.cells s.slots[v]!.ptr, s.read⟩, jX (aY s.cells s.slots[v]!.ptr true)) := if_pos ⟨by assumption, by assumption⟩
  refine aD (l := [.agg [.imm (0 + s.slots.length) (flat dC (s.slots.set v y)),sl bJ (gO s.cells s.slots[v]!.ptr),sl cI s.read],iv (if aY s.cells s.slots[v]!.ptr true = 1 then 3 else if aY s.cells s.slots[v]!.ptr true = 0 then 0 else 4)]) rfl ?_
  rw [e,hp]
  dsimp only
  rw [HI]
  exact ⟨rfl,by exact Pur.pf⟩
 all_goals (
  have hp : bH ts s v y = (⟨s.slots.set v y, s.cells, s.read⟩, -1) := if_neg (by
   rintro ⟨q1,q2⟩
   first|(exact (by assumption : ¬ ts[v]! = 2) q1)|(rw [(by assumption : s.slots[v]!.set = false)] at q2;exact absurd q2 (by decide)))
  refine aD (l := [.agg [.imm (0 + s.slots.length) (flat dC (s.slots.set v y)),sl bJ s.cells,sl cI s.read],iv 0]) rfl ?_
  rw [e,hp]
  exact ⟨rfl,by exact Pur.pf⟩)
def gk (e : Int) : Int := if e = -1 then 0 else e
theorem L4 {t:Int}(h:t = 2 ∨ t = 4):vM t = true:=by
 unfold vM;rcases h with h|h <;> subst h <;> rfl
theorem OF {t:Int}(h:¬ t = 2) (h2:¬ t = 4):¬ vM t = true:=by
 unfold vM;rw [decide_eq_false h,decide_eq_false h2]; decide
theorem yU {k:Int}(h:¬ k = 0):(if k = 1 then (3:Int) else if k = 0 then 0 else 4) = dY k:=by
 unfold dY;rw [if_neg h]
theorem LW {m:List Cl}{x:Pt}{u:Bool}(h:¬ j7 m x u = 0):jI m x u = m := by unfold jI;rw [if_neg h]
theorem Hs (ts:List Int) (s:Mc) (x:Pnt) (hm:OkM s.cells) (hsl:s.slots.length = ts.length) (hx:0 ≤ x.x ∧ x.x < ts.length) (hy:0 ≤ x.y ∧ x.y < ts.length) (hl:ts.length ≤ 1000000):PC Tryz.prog 250 [sl cI ts,fT s,dS x] (fun r => r = .tup [fT (bH ts (if vM ts[x.y.toNat]! = true then ⟨s.slots.set x.y.toNat fZ,s.cells,s.read⟩ else s) x.x.toNat s.slots[x.y.toNat]!).1,iv (gk (bH ts (if vM ts[x.y.toNat]! = true then ⟨s.slots.set x.y.toNat fZ,s.cells,s.read⟩ else s) x.x.toNat s.slots[x.y.toNat]!).2)]):=by
 have hcl := qI s x.y.toNat (by omega) (by omega)
 have hp1 := kV ts ⟨s.slots.set x.y.toNat fZ,s.cells,s.read⟩ x.x.toNat s.slots[x.y.toNat]! hm (by show _ < (s.slots.set x.y.toNat fZ).length;rw [List.length_set]; omega) (by omega) (by show (s.slots.set x.y.toNat fZ).length ≤ _; rw [List.length_set]; omega)
 have hp2 := kV ts s x.x.toNat s.slots[x.y.toNat]! hm (by omega) (by omega) (by omega)
 rw [Int.toNat_of_nonneg hy.1] at hcl
 rw [Int.toNat_of_nonneg hx.1] at hp1 hp2
 refine aC Tryz.func250 Tryz.ntmps250 ?_
 repeat' (first|(apply aF;first|(apply aA (k := 247);rfl;exact hcl;exact Pur.pf;rfl)|(apply aA (k := 248);rfl;(first|exact hp1|exact hp2);exact Pur.pf;rfl))|refine aE ?_|(refine aK ?_ ?_ <;> intro hc hq <;> try (exfalso;omega))|(refine bW ?_ ?_ <;> intro hg hq <;> try (exfalso;omega))|fail)
 ·refine aD (l := [fT (bH ts ⟨s.slots.set x.y.toNat fZ, s.cells, s.read⟩ x.x.toNat s.slots[x.y.toNat]!).1, iv (gk (bH ts ⟨s.slots.set x.y.toNat fZ, s.cells, s.read⟩ x.x.toNat s.slots[x.y.toNat]!).2)]) rfl ⟨?_, by exact Pur.pf⟩
  rw [if_pos (L4 (.inr (by assumption)))]; rfl
 ·refine aD (l := [fT (bH ts s x.x.toNat s.slots[x.y.toNat]!).1, iv (gk (bH ts s x.x.toNat s.slots[x.y.toNat]!).2)]) rfl ⟨?_, by exact Pur.pf⟩
  rw [if_neg (OF (by assumption) (by assumption))]; rfl
 ·refine aD (l := [fT (bH ts ⟨s.slots.set x.y.toNat fZ, s.cells, s.read⟩ x.x.toNat s.slots[x.y.toNat]!).1, iv (gk (bH ts ⟨s.slots.set x.y.toNat fZ, s.cells, s.read⟩ x.x.toNat s.slots[x.y.toNat]!).2)]) rfl ⟨?_, by exact Pur.pf⟩
  rw [if_pos (L4 (.inl (by assumption)))]; rfl
theorem Hw (ts:List Int) (s:Mc) (x:Pnt) (u:Bool) (hu:u = decide (x.op = 5)) (hm:OkM s.cells) (hsl:s.slots.length = ts.length) (hx:0 ≤ x.x ∧ x.x < ts.length) (hy:0 ≤ x.y ∧ x.y < ts.length) (hl:ts.length ≤ 1000000):PC Tryz.prog 251 [sl cI ts,fT s,dS x] (fun r => r = if j7 s.cells s.slots[x.y.toNat]!.ptr u = 0 then
  .tup [fT (bH ts ⟨s.slots,jI s.cells s.slots[x.y.toNat]!.ptr u,s.read⟩ x.x.toNat ⟨true,0,oH s.cells s.slots[x.y.toNat]!.ptr u⟩).1,iv (gk (bH ts ⟨s.slots,jI s.cells s.slots[x.y.toNat]!.ptr u,s.read⟩ x.x.toNat ⟨true,0,oH s.cells s.slots[x.y.toNat]!.ptr u⟩).2)]
  else .tup [fT s,iv (dY (j7 s.cells s.slots[x.y.toNat]!.ptr u))]) := by
 have hsh := z5 s.cells hm s.slots[x.y.toNat]!.ptr
 have hbo := vX s.cells hm s.slots[x.y.toNat]!.ptr
 have hp1 := kV ts ⟨s.slots,jI s.cells s.slots[x.y.toNat]!.ptr false,s.read⟩ x.x.toNat ⟨true,0,oH s.cells s.slots[x.y.toNat]!.ptr false⟩ (hm.ln _ _) (by show _ < s.slots.length;omega) (by omega) (by show s.slots.length ≤ _; omega)
 have hp2 := kV ts ⟨s.slots,jI s.cells s.slots[x.y.toNat]!.ptr true,s.read⟩ x.x.toNat ⟨true,0,oH s.cells s.slots[x.y.toNat]!.ptr true⟩ (hm.ln _ _) (by show _ < s.slots.length;omega) (by omega) (by show s.slots.length ≤ _; omega)
 rw [Int.toNat_of_nonneg hx.1] at hp1 hp2
 refine aC Tryz.func251 Tryz.ntmps251 ?_
 repeat' (first|(apply aF;first|(apply aA (k := 274);rfl;exact hsh;exact Pur.pf;rfl)|(apply aA (k := 275);rfl;exact hbo;exact Pur.pf;rfl)|(apply aA (k := 248) (avs := [sl cI ts,fT ⟨s.slots,jI s.cells s.slots[x.y.toNat]!.ptr false,s.read⟩,iv x.x,HD ⟨true,0,oH s.cells s.slots[x.y.toNat]!.ptr false⟩]);rfl;exact hp1;exact Pur.pf;rfl)|(apply aA (k := 248) (avs := [sl cI ts,fT ⟨s.slots,jI s.cells s.slots[x.y.toNat]!.ptr true,s.read⟩,iv x.x,HD ⟨true,0,oH s.cells s.slots[x.y.toNat]!.ptr true⟩]);rfl;exact hp2;exact Pur.pf;rfl)|(apply aA (k := 246);rfl;(apply kK);(rfl);rfl))|refine aE ?_|(refine aK ?_ ?_ <;> intro hc hq <;> try (exfalso;omega))|refine bQ ?_|fail)
 ·have hk : ¬ j7 s.cells s.slots[x.y.toNat]!.ptr true = 0 := by assumption
  have hu2 : u = true := by rw [hu]; exact decide_eq_true (by assumption)
  subst hu2
  refine aD (l := [.agg [sl dC s.slots,sl bJ (jI s.cells s.slots[x.y.toNat]!.ptr true),sl cI s.read],iv (if j7 s.cells s.slots[x.y.toNat]!.ptr true = 1 then 3 else if j7 s.cells s.slots[x.y.toNat]!.ptr true = 0 then 0 else 4)]) rfl ?_
  rw [yU hk,if_neg hk,LW hk]
  exact ⟨rfl,by exact Pur.pf⟩
 ·have hk : j7 s.cells s.slots[x.y.toNat]!.ptr true = 0 := by assumption
  have hu2 : u = true := by rw [hu]; exact decide_eq_true (by assumption)
  subst hu2
  refine aD (l := [fT (bH ts ⟨s.slots,jI s.cells s.slots[x.y.toNat]!.ptr true,s.read⟩ x.x.toNat ⟨true,0,oH s.cells s.slots[x.y.toNat]!.ptr true⟩).1,iv (gk (bH ts ⟨s.slots,jI s.cells s.slots[x.y.toNat]!.ptr true,s.read⟩ x.x.toNat ⟨true,0,oH s.cells s.slots[x.y.toNat]!.ptr true⟩).2)]) rfl ⟨?_,by exact Pur.pf⟩
  rw [if_pos hk]; rfl
 ·have hk : ¬ j7 s.cells s.slots[x.y.toNat]!.ptr false = 0 := by assumption
  have hu2 : u = false := by rw [hu]; exact decide_eq_false (by assumption)
  subst hu2
  refine aD (l := [.agg [sl dC s.slots,sl bJ (jI s.cells s.slots[x.y.toNat]!.ptr false),sl cI s.read],iv (if j7 s.cells s.slots[x.y.toNat]!.ptr false = 1 then 3 else if j7 s.cells s.slots[x.y.toNat]!.ptr false = 0 then 0 else 4)]) rfl ?_
  rw [yU hk,if_neg hk,LW hk]
  exact ⟨rfl,by exact Pur.pf⟩
 ·have hk : j7 s.cells s.slots[x.y.toNat]!.ptr false = 0 := by assumption
  have hu2 : u = false := by rw [hu]; exact decide_eq_false (by assumption)
  subst hu2
  refine aD (l := [fT (bH ts ⟨s.slots,jI s.cells s.slots[x.y.toNat]!.ptr false,s.read⟩ x.x.toNat ⟨true,0,oH s.cells s.slots[x.y.toNat]!.ptr false⟩).1,iv (gk (bH ts ⟨s.slots,jI s.cells s.slots[x.y.toNat]!.ptr false,s.read⟩ x.x.toNat ⟨true,0,oH s.cells s.slots[x.y.toNat]!.ptr false⟩).2)]) rfl ⟨?_,by exact Pur.pf⟩
  rw [if_pos hk]; rfl
theorem MS (ts:List Int) (s:Mc) (x:Pnt) (ho:x.op = 1) (hm:OkM s.cells) (hsl:s.slots.length = ts.length) (hx:0 ≤ x.x ∧ x.x < ts.length) (hl:ts.length ≤ 1000000):PC Tryz.prog 215 [sl cI ts,fT s,dS x] (fun r => r = .tup [fT (bO ts s x).1,iv (gk (bO ts s x).2)]):=by
 have hp := kV ts s x.x.toNat ⟨true,x.n,⟨0,0⟩⟩ hm (by omega) (by omega) (by omega)
 rw [Int.toNat_of_nonneg hx.1] at hp
 have hd : bO ts s x = bH ts s x.x.toNat ⟨true,x.n,⟨0,0⟩⟩ := by unfold bO;rw [if_pos ho]
 rw [hd]
 refine aC Tryz.func215 Tryz.ntmps215 ?_
 repeat' (first|(apply aF;(apply aA (k := 248) (avs := [sl cI ts,fT s,iv x.x,HD ⟨true,x.n,⟨0,0⟩⟩]);rfl;exact hp;exact Pur.pf;rfl))|refine aE ?_|(refine aK ?_ ?_ <;> intro hc hq <;> try (exfalso;omega))|fail)
 exact aD (l := [fT (bH ts s x.x.toNat ⟨true,x.n,⟨0,0⟩⟩).1,iv (gk (bH ts s x.x.toNat ⟨true,x.n,⟨0,0⟩⟩).2)]) rfl ⟨rfl,by exact Pur.pf⟩
theorem Mx (ts:List Int) (s:Mc) (x:Pnt) (ho:x.op = 2) (hm:OkM s.cells) (hsl:s.slots.length = ts.length) (hx:0 ≤ x.x ∧ x.x < ts.length) (hn:0 ≤ x.n ∧ x.n ≤ 9) (hl:ts.length ≤ 1000000):PC Tryz.prog 215 [sl cI ts,fT s,dS x] (fun r => r = .tup [fT (bO ts s x).1,iv (gk (bO ts s x).2)]):=by
 have hml := hm.l
 have hnc := Dm s.cells hm x.n
 by_cases h2 : s.cells.length = 200
 ·rw [if_neg (by omega)] at hnc
  have hd : bO ts s x = (s,1) := by unfold bO;rw [if_neg (by omega),if_pos ho,if_pos h2]
  rw [hd]
  refine aC Tryz.func215 Tryz.ntmps215 ?_
  repeat' (first|(apply aF;(apply aA (k := 249);rfl;exact hnc;exact Pur.pf;rfl))|refine aE ?_|(refine aK ?_ ?_ <;> intro hc hq <;> try (exfalso;omega))|fail)
  exact aD (l := [fT s,iv 1]) rfl ⟨rfl,by exact Pur.pf⟩
 ·rw [if_pos (by omega)] at hnc
  have hp := kV ts ⟨s.slots,s.cells ++ [nO x.n],s.read⟩ x.x.toNat ⟨true,0,⟨s.cells.length,0⟩⟩ (hm.nw hn (by omega)) (by show _ < s.slots.length;omega) (by omega) (by show s.slots.length ≤ _; omega)
  rw [Int.toNat_of_nonneg hx.1] at hp
  have hd : bO ts s x = bH ts ⟨s.slots,s.cells ++ [nO x.n],s.read⟩ x.x.toNat ⟨true,0,⟨s.cells.length,0⟩⟩ := by unfold bO;rw [if_neg (by omega),if_pos ho,if_neg h2]
  rw [hd]
  refine aC Tryz.func215 Tryz.ntmps215 ?_
  repeat' (first|(apply aF;first|(apply aA (k := 249);rfl;exact hnc;exact Pur.pf;rfl)|(apply aA (k := 248) (avs := [sl cI ts,fT ⟨s.slots,s.cells ++ [nO x.n],s.read⟩,iv x.x,HD ⟨true,0,⟨s.cells.length,0⟩⟩]);rfl;exact hp;exact Pur.pf;rfl))|refine aE ?_|(refine aK ?_ ?_ <;> intro hc hq <;> try (exfalso;omega))|fail)
  exact aD (l := [fT (bH ts ⟨s.slots,s.cells ++ [nO x.n],s.read⟩ x.x.toNat ⟨true,0,⟨s.cells.length,0⟩⟩).1,iv (gk (bH ts ⟨s.slots,s.cells ++ [nO x.n],s.read⟩ x.x.toNat ⟨true,0,⟨s.cells.length,0⟩⟩).2)]) rfl ⟨rfl,by exact Pur.pf⟩
theorem Nj (ts:List Int) (s:Mc) (x:Pnt) (ho:x.op = 3) (hm:OkM s.cells) (hsl:s.slots.length = ts.length) (hx:0 ≤ x.x ∧ x.x < ts.length) (hy:0 ≤ x.y ∧ x.y < ts.length) (hl:ts.length ≤ 1000000):PC Tryz.prog 215 [sl cI ts,fT s,dS x] (fun r => r = .tup [fT (bO ts s x).1,iv (gk (bO ts s x).2)]):=by
 have hmv := Hs ts s x hm hsl hx hy hl
 have hd : bO ts s x = bH ts (if vM ts[x.y.toNat]! = true then ⟨s.slots.set x.y.toNat fZ,s.cells,s.read⟩ else s) x.x.toNat s.slots[x.y.toNat]! := by unfold bO;rw [if_neg (by omega),if_neg (by omega),if_pos ho]
 rw [← hd] at hmv
 refine aC Tryz.func215 Tryz.ntmps215 ?_
 repeat' (first|(apply aF;(apply aA (k := 250);rfl;exact hmv;exact Pur.pf;rfl))|refine aE ?_|(refine aK ?_ ?_ <;> intro hc hq <;> try (exfalso;omega))|fail)
 exact aD (l := [fT (bO ts s x).1,iv (gk (bO ts s x).2)]) rfl ⟨rfl,by exact Pur.pf⟩
theorem Kn (ts:List Int) (s:Mc) (x:Pnt) (ho:x.op = 4 ∨ x.op = 5) (hm:OkM s.cells) (hsl:s.slots.length = ts.length) (hx:0 ≤ x.x ∧ x.x < ts.length) (hy:0 ≤ x.y ∧ x.y < ts.length) (hl:ts.length ≤ 1000000):PC Tryz.prog 215 [sl cI ts,fT s,dS x] (fun r => r = .tup [fT (bO ts s x).1,iv (gk (bO ts s x).2)]):=by
 have hmk := Hw ts s x (decide (x.op = 5)) rfl hm hsl hx hy hl
 have h0 : bO ts s x = (if j7 s.cells s.slots[x.y.toNat]!.ptr (decide (x.op = 5)) = 0 then bH ts ⟨s.slots, jI s.cells s.slots[x.y.toNat]!.ptr (decide (x.op = 5)), s.read⟩ x.x.toNat ⟨true, 0, oH s.cells s.slots[x.y.toNat]!.ptr (decide (x.op = 5))⟩
   else (s,dY (j7 s.cells s.slots[x.y.toNat]!.ptr (decide (x.op = 5))))) := by
  unfold bO;rw [if_neg (show ¬ x.op = 1 by omega),if_neg (show ¬ x.op = 2 by omega),if_neg (show ¬ x.op = 3 by omega),if_pos ho]
 have hd : ∀ r, (r = if j7 s.cells s.slots[x.y.toNat]!.ptr (decide (x.op = 5)) = 0 then
   AV.tup [fT (bH ts ⟨s.slots,jI s.cells s.slots[x.y.toNat]!.ptr (decide (x.op = 5)),s.read⟩ x.x.toNat ⟨true,0,oH s.cells s.slots[x.y.toNat]!.ptr (decide (x.op = 5))⟩).1,iv (gk (bH ts ⟨s.slots,jI s.cells s.slots[x.y.toNat]!.ptr (decide (x.op = 5)),s.read⟩ x.x.toNat ⟨true,0,oH s.cells s.slots[x.y.toNat]!.ptr (decide (x.op = 5))⟩).2)]
   else AV.tup [fT s,iv (dY (j7 s.cells s.slots[x.y.toNat]!.ptr (decide (x.op = 5))))]) = (r = AV.tup [fT (bO ts s x).1,iv (gk (bO ts s x).2)]) := by
  intro r
  rw [h0]
  by_cases hk : j7 s.cells s.slots[x.y.toNat]!.ptr (decide (x.op = 5)) = 0
  ·rw [if_pos hk,if_pos hk]
  ·rw [if_neg hk, if_neg hk]
   have : ∀ k,gk (dY k) = dY k := fun k => by unfold gk dY;split <;> rfl
   dsimp only
   rw [this]
 simp only [hd] at hmk
 refine aC Tryz.func215 Tryz.ntmps215 ?_
 repeat' (first|(apply aF;(apply aA (k := 251);rfl;exact hmk;exact Pur.pf;rfl))|refine aE ?_|(refine aK ?_ ?_ <;> intro hc hq <;> try (exfalso;omega))|fail)
 all_goals exact aD (l := [fT (bO ts s x).1,iv (gk (bO ts s x).2)]) rfl ⟨rfl,by exact Pur.pf⟩
theorem N1 (ts:List Int) (s:Mc) (x:Pnt) (ho:x.op = 6) (hm:OkM s.cells) (hsl:s.slots.length = ts.length) (hx:0 ≤ x.x ∧ x.x < ts.length) (hy:0 ≤ x.y ∧ x.y < ts.length) (hl:ts.length ≤ 1000000) (hrl:s.read.length ≤ 1000000):PC Tryz.prog 215 [sl cI ts,fT s,dS x] (fun r => r = .tup [fT (bO ts s x).1,iv (gk (bO ts s x).2)]):=by
 have hrd := rQ s.cells hm s.slots[x.y.toNat]!.ptr
 have h0 : bO ts s x = (if aY s.cells s.slots[x.y.toNat]!.ptr false = 0 then bH ts ⟨s.slots, cP s.cells s.slots[x.y.toNat]!.ptr false, s.read ++ [nL s.cells s.slots[x.y.toNat]!.ptr]⟩ x.x.toNat ⟨true, nL s.cells s.slots[x.y.toNat]!.ptr, ⟨0, 0⟩⟩
   else (s,dY (aY s.cells s.slots[x.y.toNat]!.ptr false))) := by
  unfold bO;rw [if_neg (show ¬ x.op = 1 by omega),if_neg (show ¬ x.op = 2 by omega),if_neg (show ¬ x.op = 3 by omega),if_neg (show ¬ (x.op = 4 ∨ x.op = 5) by omega),if_pos ho]
 have hp := kV ts ⟨s.slots,cP s.cells s.slots[x.y.toNat]!.ptr false,s.read ++ [nL s.cells s.slots[x.y.toNat]!.ptr]⟩ x.x.toNat ⟨true,nL s.cells s.slots[x.y.toNat]!.ptr,⟨0,0⟩⟩ (hm.tch _ _) (by show _ < s.slots.length;omega) (by omega) (by show s.slots.length ≤ _; omega)
 rw [Int.toNat_of_nonneg hx.1] at hp
 by_cases hk : aY s.cells s.slots[x.y.toNat]!.ptr false = 0
 ·rw [if_pos hk] at h0
  rw [h0]
  refine aC Tryz.func215 Tryz.ntmps215 ?_
  repeat' (first|(apply aF;first|(apply aA (k := 252);rfl;exact hrd;exact Pur.pf;rfl)|(with_reducible apply aW (d := 105)))|refine aE ?_|(refine aK ?_ ?_ <;> intro hc hq <;> try (exfalso;omega))|refine bQ ?_|fail)
  refine b0 (c8 ?_ (Le.frzC (j := 0) (i := 6) [sl dC s.slots,sl bJ (cP s.cells s.slots[x.y.toNat]!.ptr false)] (m := 0 + s.read.length + 1) (d := flat cI (s.read ++ [nL s.cells s.slots[x.y.toNat]!.ptr])) rfl rfl (by decide)))
  have e : AV.imm (0 + s.read.length + 1) (flat cI (s.read ++ [nL s.cells s.slots[x.y.toNat]!.ptr])) = sl cI (s.read ++ [nL s.cells s.slots[x.y.toNat]!.ptr]) := eT (by rw [Nat.zero_add,List.length_append]; rfl)
  rw [e]
  repeat' (first|(apply aF;(apply aA (k := 248) (avs := [sl cI ts,fT ⟨s.slots,cP s.cells s.slots[x.y.toNat]!.ptr false,s.read ++ [nL s.cells s.slots[x.y.toNat]!.ptr]⟩,iv x.x,HD ⟨true,nL s.cells s.slots[x.y.toNat]!.ptr,⟨0,0⟩⟩]);rfl;exact hp;exact Pur.pf;rfl))|refine aE ?_|fail)
  exact aD (l := [fT (bH ts ⟨s.slots,cP s.cells s.slots[x.y.toNat]!.ptr false,s.read ++ [nL s.cells s.slots[x.y.toNat]!.ptr]⟩ x.x.toNat ⟨true,nL s.cells s.slots[x.y.toNat]!.ptr,⟨0,0⟩⟩).1,iv (gk (bH ts ⟨s.slots,cP s.cells s.slots[x.y.toNat]!.ptr false,s.read ++ [nL s.cells s.slots[x.y.toNat]!.ptr]⟩ x.x.toNat ⟨true,nL s.cells s.slots[x.y.toNat]!.ptr,⟨0,0⟩⟩).2)]) rfl ⟨rfl,by exact Pur.pf⟩
 ·rw [if_neg hk] at h0
  rw [h0]
  have e4 : cP s.cells s.slots[x.y.toNat]!.ptr false = s.cells := by unfold cP;rw [if_neg hk]
  rw [e4] at hrd
  refine aC Tryz.func215 Tryz.ntmps215 ?_
  repeat' (first|(apply aF;first|(apply aA (k := 252);rfl;exact hrd;exact Pur.pf;rfl)|(apply aA (k := 246);rfl;(apply kK);(rfl);rfl))|refine aE ?_|(refine aK ?_ ?_ <;> intro hc hq <;> try (exfalso;omega))|refine bQ ?_|fail)
  refine aD (l := [fT s,iv (if aY s.cells s.slots[x.y.toNat]!.ptr false = 1 then 3 else if aY s.cells s.slots[x.y.toNat]!.ptr false = 0 then 0 else 4)]) rfl ?_
  rw [yU hk]
  have : ∀ k,gk (dY k) = dY k := fun k => by unfold gk dY;split <;> rfl
  dsimp only
  rw [this]
  exact ⟨rfl,by exact Pur.pf⟩
theorem Mw (ts:List Int) (s:Mc) (x:Pnt) (ho:x.op = 7) (hm:OkM s.cells) (hsl:s.slots.length = ts.length) (hx:0 ≤ x.x ∧ x.x < ts.length) (hy:0 ≤ x.y ∧ x.y < ts.length) (hl:ts.length ≤ 1000000):PC Tryz.prog 215 [sl cI ts,fT s,dS x] (fun r => r = .tup [fT (bO ts s x).1,iv (gk (bO ts s x).2)]):=by
 have hwr := yH s.cells hm s.slots[x.x.toNat]!.ptr s.slots[x.y.toNat]!.num
 have h0 : bO ts s x = (⟨s.slots, nU s.cells s.slots[x.x.toNat]!.ptr s.slots[x.y.toNat]!.num, s.read⟩, jX (o6 s.cells s.slots[x.x.toNat]!.ptr s.slots[x.y.toNat]!.num)) := by
  unfold bO;rw [if_neg (show ¬ x.op = 1 by omega),if_neg (show ¬ x.op = 2 by omega),if_neg (show ¬ x.op = 3 by omega),if_neg (show ¬ (x.op = 4 ∨ x.op = 5) by omega),if_neg (show ¬ x.op = 6 by omega),if_pos ho]
 rw [h0]
 refine aC Tryz.func215 Tryz.ntmps215 ?_
 repeat' (first|(apply aF;first|(apply aA (k := 253);rfl;exact hwr;exact Pur.pf;rfl)|(apply aA (k := 246);rfl;(apply kK);(rfl);rfl))|refine aE ?_|(refine aK ?_ ?_ <;> intro hc hq <;> try (exfalso;omega))|refine bQ ?_|fail)
 refine aD (l := [fT ⟨s.slots,nU s.cells s.slots[x.x.toNat]!.ptr s.slots[x.y.toNat]!.num,s.read⟩,iv (if o6 s.cells s.slots[x.x.toNat]!.ptr s.slots[x.y.toNat]!.num = 1 then 3 else if o6 s.cells s.slots[x.x.toNat]!.ptr s.slots[x.y.toNat]!.num = 0 then 0 else 4)]) rfl ?_
 rw [← HI]
 exact ⟨rfl,by exact Pur.pf⟩
theorem MB (ts:List Int) (s:Mc) (x:Pnt) (ho:x.op = 8) (hm:OkM s.cells) (hsl:s.slots.length = ts.length) (hx:0 ≤ x.x ∧ x.x < ts.length) (hl:ts.length ≤ 1000000):PC Tryz.prog 215 [sl cI ts,fT s,dS x] (fun r => r = .tup [fT (bO ts s x).1,iv (gk (bO ts s x).2)]):=by
 have hfr := mH s.cells hm s.slots[x.x.toNat]!.ptr
 have hcl := qI ⟨s.slots,gO s.cells s.slots[x.x.toNat]!.ptr,s.read⟩ x.x.toNat (by show _ < s.slots.length;omega) (by show s.slots.length ≤ _; omega)
 rw [Int.toNat_of_nonneg hx.1] at hcl
 have h0 : bO ts s x = (⟨s.slots.set x.x.toNat fZ, gO s.cells s.slots[x.x.toNat]!.ptr, s.read⟩, jX (aY s.cells s.slots[x.x.toNat]!.ptr true)) := by
  unfold bO;rw [if_neg (show ¬ x.op = 1 by omega),if_neg (show ¬ x.op = 2 by omega),if_neg (show ¬ x.op = 3 by omega),if_neg (show ¬ (x.op = 4 ∨ x.op = 5) by omega),if_neg (show ¬ x.op = 6 by omega),if_neg (show ¬ x.op = 7 by omega),if_pos ho]
 rw [h0]
 refine aC Tryz.func215 Tryz.ntmps215 ?_
 repeat' (first|(apply aF;first|(apply aA (k := 245);rfl;exact hfr;exact Pur.pf;rfl)|(apply aA (k := 247);rfl;exact hcl;exact Pur.pf;rfl)|(apply aA (k := 246);rfl;(apply kK);(rfl);rfl))|refine aE ?_|(refine aK ?_ ?_ <;> intro hc hq <;> try (exfalso;omega))|refine bQ ?_|fail)
 refine aD (l := [fT ⟨s.slots.set x.x.toNat fZ,gO s.cells s.slots[x.x.toNat]!.ptr,s.read⟩,iv (if aY s.cells s.slots[x.x.toNat]!.ptr true = 1 then 3 else if aY s.cells s.slots[x.x.toNat]!.ptr true = 0 then 0 else 4)]) rfl ?_
 rw [← HI]
 exact ⟨rfl,by exact Pur.pf⟩
def NX (s : Mc) (x : Pnt) : Bool :=
 if x.op = 3 ∨ x.op = 4 ∨ x.op = 5 ∨ x.op = 6 then !s.slots[x.y.toNat]!.set
 else if x.op = 7 then !s.slots[x.x.toNat]!.set || !s.slots[x.y.toNat]!.set
 else if x.op = 8 then !s.slots[x.x.toNat]!.set else false
theorem Ft (s:Mc) (x:Pnt) (hx:(x.op = 7 ∨ x.op = 8) → 0 ≤ x.x ∧ x.x < s.slots.length) (hy:(x.op = 3 ∨ x.op = 4 ∨ x.op = 5 ∨ x.op = 6 ∨ x.op = 7) → 0 ≤ x.y ∧ x.y < s.slots.length):PC Tryz.prog 214 [dS x,fT s] (fun r => r = bv (NX s x)):=by
 refine aC Tryz.func214 Tryz.ntmps214 ?_
 repeat' (first|refine aE ?_|(refine aK ?_ ?_ <;> intro hc hq <;> try (exfalso;omega))|(refine bW ?_ ?_ <;> intro hg hq <;> try (exfalso;omega))|fail)
 all_goals (refine aD rfl ⟨?_,rfl⟩; simp only [aN,AV.v.injEq,Value.bool.injEq]; unfold NX;grind)
theorem y9 {ts:List Int}{n v:Nat}{q:Mc}(h:¬ (ts[v]! = 2 ∧ q.slots[v]!.set = true)):cO ts (n + 1) v q = cO ts n (v + 1) q:=by
 rw [cO,if_neg h]
theorem GH {ts:List Int}{n v:Nat}{q:Mc}(h:ts[v]! = 2 ∧ q.slots[v]!.set = true) (hk:aY q.cells q.slots[v]!.ptr true = 0):cO ts (n + 1) v q = cO ts n (v + 1) ⟨q.slots.set v fZ,gO q.cells q.slots[v]!.ptr,q.read⟩:=by
 rw [cO,if_pos h,if_pos hk]
theorem I0 {ts:List Int}{n v:Nat}{q:Mc}(h:ts[v]! = 2 ∧ q.slots[v]!.set = true) (hk:¬ aY q.cells q.slots[v]!.ptr true = 0):cO ts (n + 1) v q = (⟨q.slots,gO q.cells q.slots[v]!.ptr,q.read⟩,dY (aY q.cells q.slots[v]!.ptr true)):=by
 rw [cO,if_pos h,if_neg hk]
theorem Ly (ts:List Int) (s:Mc) (hm:OkM s.cells) (hsl:s.slots.length = ts.length) (hl:ts.length ≤ 1000000):PC Tryz.prog 213 [sl cI ts,fT s] (fun r => r = .tup [fT (cO ts ts.length 0 s).1,iv (cO ts ts.length 0 s).2]):=by
 refine aC Tryz.func213 Tryz.ntmps213 ?_
 repeat' (first|refine aE ?_|fail)
 refine aH (σ := Nat × Mc) [0,3,4] [1] (fun k => [(6,iv (k.1 : Int))]) (fun k => [(0,some [sl dC k.2.slots,sl bJ k.2.cells,sl cI k.2.read])]) (fun k => k.1 ≤ ts.length ∧ cO ts (ts.length - k.1) k.1 k.2 = cO ts ts.length 0 s ∧ OkM k.2.cells ∧ k.2.slots.length = ts.length) (fun k => ts.length - k.1) (0,s) ⟨Nat.zero_le _,rfl,hm,hsl⟩ ?_
 rintro ⟨v,q⟩ ⟨hv,hf,hmq,hlq⟩
 dsimp only at hv hf hmq hlq ⊢
 have hfr := mH q.cells hmq q.slots[v]!.ptr
 have hcl := fun h => qI ⟨q.slots,gO q.cells q.slots[v]!.ptr,q.read⟩ v h (by show q.slots.length ≤ _; omega)
 repeat' (first|(apply aF;first|(apply aA (k := 245);rfl;exact hfr;exact Pur.pf;rfl)|(apply aA (k := 247);rfl;(exact hcl (by show v < q.slots.length;omega));exact Pur.pf;rfl)|(apply aA (k := 246);rfl;(apply kK);(rfl);rfl))|refine aE ?_|(refine aK ?_ ?_ <;> intro hc hq <;> try (exfalso;omega))|(refine bW ?_ ?_ <;> intro hg hq <;> try (exfalso;omega))|refine bQ ?_|fail)
 ·(refine bC (v + 1, q) (Le.renA [(0, 0), (1, 1)]) ?_ ?_)
  ·refine ⟨by omega, ?_, hmq, hlq⟩
   dsimp only
   rw [← hf, show ts.length - v = (ts.length - (v + 1)) + 1 by omega, y9 (fun h => by
    have h2 : q.slots[v]!.set = false := by assumption
    rw [h2] at h;exact absurd h.2 (by decide))]
  ·dsimp only;omega
 ·have hk : ¬ aY q.cells q.slots[v]!.ptr true = 0 := by assumption
  have hq2 : cO ts ts.length 0 s = (⟨q.slots, gO q.cells q.slots[v]!.ptr, q.read⟩, dY (aY q.cells q.slots[v]!.ptr true)) := by
   rw [← hf,show ts.length - v = (ts.length - (v + 1)) + 1 by omega,I0 ⟨by assumption,by assumption⟩ hk]
  rw [hq2]
  refine aD (l := [fT ⟨q.slots,gO q.cells q.slots[v]!.ptr,q.read⟩,iv (if aY q.cells q.slots[v]!.ptr true = 1 then 3 else if aY q.cells q.slots[v]!.ptr true = 0 then 0 else 4)]) rfl ?_
  rw [yU hk]
  exact ⟨rfl,by exact Pur.pf⟩
 ·(refine bC (v + 1, ⟨q.slots.set v fZ, gO q.cells q.slots[v]!.ptr, q.read⟩) (Le.renA [(0, 0), (1, 1)]) ?_ ?_)
  ·refine ⟨by omega, ?_, hmq.fr _, by show (q.slots.set v fZ).length = _; rw [List.length_set]; exact hlq⟩
   dsimp only
   rw [← hf,show ts.length - v = (ts.length - (v + 1)) + 1 by omega,GH ⟨by assumption,by assumption⟩ (by assumption)]
  ·dsimp only;omega
 ·(refine bC (v + 1, q) (Le.renA [(0, 0), (1, 1)]) ?_ ?_)
  ·refine ⟨by omega, ?_, hmq, hlq⟩
   dsimp only
   rw [← hf, show ts.length - v = (ts.length - (v + 1)) + 1 by omega, y9 (fun h => by
    have h2 : ¬ ts[v]! = 2 := by assumption
    exact h2 h.1)]
  ·dsimp only;omega
 ·have hve : v = ts.length := by omega
  have hq2 : cO ts ts.length 0 s = (q,0) := by rw [← hf,hve,Nat.sub_self]; rfl
  rw [hq2]
  exact aD (l := [fT q,iv 0]) rfl ⟨rfl,by exact Pur.pf⟩
theorem x6 (p:Prg) (hl:p.types.length ≤ 1000000) (hs:bE p.body ≤ 1000000):PC Tryz.prog 151 [cE p] (fun r => r = sl cG (if bD p = true then aB p else [])):=by
 have hval := gG p hl (by omega)
 have h2 := dF p hs
 refine aC Tryz.func151 Tryz.ntmps151 ?_
 repeat' (first|(apply aF;first|(apply aA (k := 61);rfl;exact hval;exact Pur.pf;rfl)|(apply aA (k := 132);rfl;exact h2;exact Pur.pf;rfl)|(apply aM (t := _);rfl;rfl;rfl;(rfl);rfl;rfl))|refine aE ?_|(refine aK ?_ ?_ <;> intro hc hq <;> try (exfalso;omega))|fail)
 ·refine aD rfl ⟨?_, (by (rfl))⟩
  rw [if_neg (by simp [hq])]; rfl
 ·refine aD rfl ⟨?_, (by (exact a8 _ _))⟩
  rw [if_pos hq]; rfl
def wm (pts : List Pnt) (n a : Nat) (cs : List Int) : List Int × Bool := ((dJ pts n a cs).1.map (fun a : Nat => (a : Int)),(dJ pts n a cs).2)
theorem G9 {pts:List Pnt}{n a:Nat}{cs:List Int}(h:pts[a]!.op = 11):wm pts n a cs = ([(a:Int)],true):=by
 have e : dJ pts n a cs = ([a],true) := by cases n <;> (unfold dJ;rw [if_pos h])
 unfold wm;rw [e]; rfl
theorem HX {pts:List Pnt}{a:Nat}{cs:List Int}(h:¬ pts[a]!.op = 11):wm pts 0 a cs = ([],false):=by
 have e : dJ pts 0 a cs = ([],false) := by unfold dJ;rw [if_neg h]
 unfold wm;rw [e]; rfl
theorem OD {pts:List Pnt}{n a:Nat}{cs:List Int}(h:¬ pts[a]!.op = 11):wm pts (n + 1) a cs = ((a:Int) :: (wm pts n (gM pts a cs).1 (gM pts a cs).2).1,(wm pts n (gM pts a cs).1 (gM pts a cs).2).2):=by
 unfold wm;rw [dJ,if_neg h]; rfl
theorem LN {pts:List Pnt}{a:Nat}{cs:List Int}(h:¬ pts[a]!.next.length = 2):gM pts a cs = ((pts[a]!.next[0]!).toNat,cs):=by
 unfold gM;rw [if_neg h]
theorem OK {pts:List Pnt}{a u:Nat}{cs:List Int}(h:pts[a]!.next.length = 2) (hu:cs.length ≤ u):gM pts a (cs.drop u) = ((pts[a]!.next[1]!).toNat,cs.drop (u + 1)):=by
 unfold gM;rw [if_pos h,List.drop_eq_nil_of_le hu,List.drop_eq_nil_of_le (by omega)]
theorem LR {pts:List Pnt}{a u:Nat}{cs:List Int}(h:pts[a]!.next.length = 2) (hu:u < cs.length):gM pts a (cs.drop u) = ((pts[a]!.next[if cs[u]!.tmod 2 = 0 then 0 else 1]!).toNat,cs.drop (u + 1)):=by
 have e : (cs[u]! % 2).toNat = if cs[u]!.tmod 2 = 0 then 0 else 1 := by
  by_cases q : cs[u]!.tmod 2 = 0
  ·rw [if_pos q,Int.emod_eq_zero_of_dvd (Int.dvd_of_tmod_eq_zero q)]; rfl
  ·rw [if_neg q]
   have : ¬ cs[u]! % 2 = 0 := fun q2 => q (Int.tmod_eq_zero_of_dvd (Int.dvd_of_emod_eq_zero q2))
   omega
 have e2 : cs.drop u = cs[u]! :: cs.drop (u + 1) := by rw [List.drop_eq_getElem_cons hu,a7 _ _ hu]
 unfold gM
 rw [if_pos h,e2]
 dsimp only
 rw [e]
theorem pD {pts:List Pnt}{n a:Nat}{out cs cs2:List Int}{b:Nat}{q:List Int × Bool}(h:¬ pts[a]!.op = 11) (ho:out.length < n) (hs:gM pts a cs = (b,cs2)) (hq:q = (out ++ (wm pts (n - out.length) a cs).1,(wm pts (n - out.length) a cs).2)) :
  q = ((out ++ [(a : Int)]) ++ (wm pts (n - (out ++ [(a : Int)]).length) b cs2).1,(wm pts (n - (out ++ [(a : Int)]).length) b cs2).2) := by
 rw [hq,show n - out.length = (n - (out.length + 1)) + 1 by omega,OD h,hs,List.length_append,List.append_assoc]
 rfl
theorem C5 (p:Prg) (cs:List Int) (n:Nat) (hv:bD p = true) (hl:p.types.length ≤ 1000000) (hs:bE p.body ≤ 1000000) (hn:n ≤ 1000) (hcl:cs.length ≤ 1000000):PC Tryz.prog 212 [cE p,sl cI cs,iv (n:Int)] (fun r => r = .tup [sl cI (wm (aB p) n 0 cs).1,bv (wm (aB p) n 0 cs).2]):=by
 have hpo := x6 p hl hs
 rw [if_pos hv] at hpo
 have w := WG.of_valid hv
 have wa := WA.of_valid hv
 obtain ⟨pts,hpts⟩ : ∃ pts,pts = aB p := ⟨_,rfl⟩
 rw [← hpts] at hpo w wa ⊢
 have hpl := w.pl
 have hp0 := w.p0
 refine aC Tryz.func212 Tryz.ntmps212 ?_
 repeat' (first|(apply aF;(apply aA (k := 151);rfl;exact hpo;exact Pur.pf;rfl))|refine aE ?_|(refine aK ?_ ?_ <;> intro hc hq <;> try (exfalso;omega))|(refine bW ?_ ?_ <;> intro hg hq <;> try (exfalso;omega))|fail)
 refine aH (σ := Int × Nat × List Int × Nat) [1,2,9] [] (fun k => [(10,iv k.1),(11,iv (k.2.1 : Int)),(8,.own 1 0 k.2.2.2 1)]) (fun k => [(1,some (flat cI k.2.2.1))]) (fun k => (0 ≤ k.1 ∧ k.1 < pts.length) ∧ k.2.1 ≤ k.2.2.1.length ∧ k.2.2.1.length ≤ n ∧ k.2.2.2 = k.2.2.1.length ∧ wm pts n 0 cs = (k.2.2.1 ++ (wm pts (n - k.2.2.1.length) k.1.toNat (cs.drop k.2.1)).1,(wm pts (n - k.2.2.1.length) k.1.toNat (cs.drop k.2.1)).2)) (fun k => n + 1 - k.2.2.1.length) (0,0,[],0) ⟨⟨Int.le_refl _,by show (0 : Int) < _; omega⟩,Nat.le_refl _,Nat.zero_le _,rfl,rfl⟩ ?_
 rintro ⟨a,u,out,m⟩ ⟨⟨ha0,ha⟩,hu,ho,hm,hw⟩
 dsimp only at ha0 ha hu ho hm hw ⊢
 have hat : (a.toNat : Int) = a := Int.toNat_of_nonneg ha0
 have hnx := w.nx a.toNat (by omega)
 have hnl := w.nl a.toNat (by omega)
 have hn1 := wa.n a.toNat (by omega)
 have hk : ∀ k,k < pts[a.toNat]!.next.length → 0 ≤ pts[a.toNat]!.next[k]! ∧ pts[a.toNat]!.next[k]! < pts.length := fun k h => hnx _ (aR _ _ h)
 repeat' (first|(apply aF;(apply aM (t := _);rfl;rfl;rfl;exact (rfl:_=some [_]);rfl;rfl))|refine aE ?_|(refine aK ?_ ?_ <;> intro hc hq <;> try (exfalso;omega))|(refine bW ?_ ?_ <;> intro hg hq <;> try (exfalso;omega))|fail)
 ·have hop : ¬ pts[a.toNat]!.op = 11 := by assumption
  have e : wm pts n 0 cs = (out,false) := by rw [hw,show n - out.length = 0 by omega,HX hop,List.append_nil]
  rw [e]
  (refine aV (Le.frzD (d := 6) (i := 1) rfl rfl) ?_; refine aD rfl ?_)
  refine ⟨?_,(by exact Pur.pf)⟩
  simp only [aN,sl]
  rw [hm]
 ·have hop : ¬ pts[a.toNat]!.op = 11 := by assumption
  have hst := pD hop (by omega) ((LR (by omega) (by omega)).trans (by rw [if_pos (by assumption)])) hw
  rw [hat] at hst
  have hk := hk 0 (by omega)
  (refine bC (pts[a.toNat]!.next[0]!,u + 1,_,_) (Le.renA [(1,3)]) ?_ ?_)
  ·refine ⟨hk,?_,?_,?_,hst⟩ <;> (dsimp only;rw [List.length_append]; simp only [List.length_singleton]; omega)
  ·dsimp only;rw [List.length_append]; simp only [List.length_singleton]; omega
 ·have hop : ¬ pts[a.toNat]!.op = 11 := by assumption
  have hst := pD hop (by omega) ((LR (by omega) (by omega)).trans (by rw [if_neg (by assumption)])) hw
  rw [hat] at hst
  have hk := hk 1 (by omega)
  (refine bC (pts[a.toNat]!.next[1]!,u + 1,_,_) (Le.renA [(1,3)]) ?_ ?_)
  ·refine ⟨hk,?_,?_,?_,hst⟩ <;> (dsimp only;rw [List.length_append]; simp only [List.length_singleton]; omega)
  ·dsimp only;rw [List.length_append]; simp only [List.length_singleton]; omega
 ·have hop : ¬ pts[a.toNat]!.op = 11 := by assumption
  have hst := pD hop (by omega) (OK (by omega) (by omega)) hw
  rw [hat] at hst
  have hk := hk 1 (by omega)
  (refine bC (pts[a.toNat]!.next[1]!,u + 1,_,_) (Le.renA [(1,3)]) ?_ ?_)
  ·refine ⟨hk,?_,?_,?_,hst⟩ <;> (dsimp only;rw [List.length_append]; simp only [List.length_singleton]; omega)
  ·dsimp only;rw [List.length_append]; simp only [List.length_singleton]; omega
 ·have hop : ¬ pts[a.toNat]!.op = 11 := by assumption
  have hst := pD hop (by omega) (LN (by omega)) hw
  rw [hat] at hst
  have hk := hk 0 (by omega)
  (refine bC (pts[a.toNat]!.next[0]!,u,_,_) (Le.renA [(1,3)]) ?_ ?_)
  ·refine ⟨hk,?_,?_,?_,hst⟩ <;> (dsimp only;rw [List.length_append]; simp only [List.length_singleton]; omega)
  ·dsimp only;rw [List.length_append]; simp only [List.length_singleton]; omega
 ·have hop : pts[a.toNat]!.op = 11 := by assumption
  have e : wm pts n 0 cs = (out ++ [a],true) := by rw [hw,G9 hop,hat]
  rw [e]
  (refine aV (Le.frzD (d := 6) (i := 3) rfl rfl) ?_; refine aD rfl ?_)
  refine ⟨?_,(by exact Pur.pf)⟩
  simp only [aN,sl]
  rw [hm,List.length_append]; rfl
theorem Mt {ts:List Int}{s:Mc}{x:Pnt}(hx:(x.op = 7 ∨ x.op = 8) → 0 ≤ x.x ∧ x.x < ts.length) (hy:(x.op = 3 ∨ x.op = 4 ∨ x.op = 5 ∨ x.op = 6 ∨ x.op = 7) → 0 ≤ x.y ∧ x.y < ts.length):NX s x = b7 ts s x:=by
 have hX : ∀ v : Nat,(v : Int) = x.x → v = x.x.toNat := fun v h => by omega
 have hY : ∀ v : Nat,(v : Int) = x.y → v = x.y.toNat := fun v h => by omega
 cases hu : b7 ts s x with
 | true =>
  obtain ⟨v,hv,hne,hs⟩ := uH hu
  unfold aO at hne
  unfold NX
  by_cases h3 : x.op = 3
  ·rw [if_pos h3] at hne
   by_cases e : (v : Int) = x.y
   ·rw [if_pos (.inl h3),← hY v e,hs]; rfl
   ·rw [if_neg e] at hne;exact absurd rfl hne
  ·rw [if_neg h3] at hne
   by_cases h4 : x.op = 4 ∨ x.op = 5 ∨ x.op = 6
   ·rw [if_pos h4] at hne
    by_cases e : (v : Int) = x.y
    ·rw [if_pos (by omega),← hY v e,hs]; rfl
    ·rw [if_neg e] at hne;exact absurd rfl hne
   ·rw [if_neg h4] at hne
    rw [if_neg (by omega)]
    by_cases h7 : x.op = 7
    ·rw [if_pos h7] at hne ⊢
     by_cases e : (v : Int) = x.x
     ·rw [← hX v e,hs]; rfl
     ·rw [if_neg e] at hne
      by_cases e2 : (v : Int) = x.y
      ·rw [← hY v e2,hs]; simp
      ·rw [if_neg e2] at hne;exact absurd rfl hne
    ·rw [if_neg h7] at hne ⊢
     by_cases h8 : x.op = 8
     ·rw [if_pos h8] at hne ⊢
      by_cases e : (v : Int) = x.x
      ·rw [← hX v e,hs]; rfl
      ·rw [if_neg e] at hne;exact absurd rfl hne
     ·rw [if_neg h8] at hne;exact absurd rfl hne
 | false =>
  have hS : ∀ v : Nat,v < ts.length → aO ts x v ≠ 0 → s.slots[v]!.set = true := fun v hv h => gX hu hv h
  unfold NX
  by_cases h3 : x.op = 3
  ·have := hy (.inl h3)
   rw [if_pos (.inl h3),hS x.y.toNat (by omega) (by unfold aO;rw [if_pos h3,if_pos (by omega)]; split <;> decide)]; rfl
  ·by_cases h4 : x.op = 4 ∨ x.op = 5 ∨ x.op = 6
   ·have := hy (by omega)
    rw [if_pos (by omega),hS x.y.toNat (by omega) (by unfold aO;rw [if_neg h3,if_pos h4,if_pos (by omega)]; decide)]; rfl
   ·rw [if_neg (by omega)]
    by_cases h7 : x.op = 7
    ·have hy7 := hy (by omega)
     have hx7 := hx (.inl h7)
     rw [if_pos h7, hS x.x.toNat (by omega) (by unfold aO; rw [if_neg h3, if_neg h4, if_pos h7, if_pos (by omega)]; decide),
      hS x.y.toNat (by omega) (by unfold aO;rw [if_neg h3,if_neg h4,if_pos h7]; split;decide;rw [if_pos (by omega)]; decide)]; rfl
    ·rw [if_neg h7]
     by_cases h8 : x.op = 8
     ·have hx8 := hx (.inr h8)
      rw [if_pos h8,hS x.x.toNat (by omega) (by unfold aO;rw [if_neg h3,if_neg h4,if_neg h7,if_pos h8,if_pos (by omega)]; decide)]; rfl
     ·rw [if_neg h8]
theorem B8 (k:Int):jX k ≠ 0:=by
 unfold jX dY;split
 ·decide
 ·split <;> decide
theorem Dq (k:Int):dY k ≠ 0 := by unfold dY;split <;> decide
theorem pV {ts:List Int}{s:Mc}{v:Nat}{y:Sl}:(bH ts s v y).2 ≠ 0:=by
 unfold bH;split
 ·exact B8 _
 ·show (-1 : Int) ≠ 0;decide
theorem NC {ts:List Int}{s:Mc}{x:Pnt}(h:x.op ≠ 11):(bO ts s x).2 ≠ 0:=by
 unfold bO
 split
 ·exact pV
 split
 ·split
  ·show (1 : Int) ≠ 0;decide
  ·exact pV
 split
 ·exact pV
 split
 ·split
  ·exact pV
  ·exact Dq _
 split
 ·split
  ·exact pV
  ·exact Dq _
 split
 ·exact B8 _
 split
 ·exact B8 _
 show (-1 : Int) ≠ 0;decide
theorem OG {ts:List Int}{s:Mc}{x:Pnt}(h:x.op ≠ 11):gk (bO ts s x).2 = 0 ↔ (bO ts s x).2 = -1:=by
 have := NC (ts := ts) (s := s) h
 unfold gk;split
 ·simp [*]
 ·constructor <;> (intro q;contradiction)
theorem MD (ts:List Int) (s:Mc) (x:Pnt) (ho:x.op = 9 ∨ x.op = 10):PC Tryz.prog 215 [sl cI ts,fT s,dS x] (fun r => r = .tup [fT (bO ts s x).1,iv (gk (bO ts s x).2)]):=by
 have h0 : bO ts s x = (s, -1) := by
  unfold bO;rw [if_neg (show ¬ x.op = 1 by omega),if_neg (show ¬ x.op = 2 by omega),if_neg (show ¬ x.op = 3 by omega),if_neg (show ¬ (x.op = 4 ∨ x.op = 5) by omega),if_neg (show ¬ x.op = 6 by omega),if_neg (show ¬ x.op = 7 by omega),if_neg (show ¬ x.op = 8 by omega),if_neg (show ¬ x.op = 11 by omega)]
 rw [h0]
 refine aC Tryz.func215 Tryz.ntmps215 ?_
 repeat' (first|refine aE ?_|(refine aK ?_ ?_ <;> intro hc hq <;> try (exfalso;omega))|fail)
 exact aD (l := [fT s,iv 0]) rfl ⟨rfl,by exact Pur.pf⟩
theorem Nb (ts:List Int) (s:Mc) (x:Pnt) (h11:x.op ≠ 11) (hop:1 ≤ x.op ∧ x.op ≤ 11) (hm:OkM s.cells) (hsl:s.slots.length = ts.length) (hx:x.op ≤ 8 → 0 ≤ x.x ∧ x.x < ts.length) (hy:3 ≤ x.op → x.op ≤ 7 → 0 ≤ x.y ∧ x.y < ts.length) (hn:x.op = 2 → 0 ≤ x.n ∧ x.n ≤ 9) (hl:ts.length ≤ 1000000) (hrl:s.read.length ≤ 1000000):PC Tryz.prog 215 [sl cI ts,fT s,dS x] (fun r => r = .tup [fT (bO ts s x).1,iv (gk (bO ts s x).2)]):=by
 by_cases h1 : x.op = 1
 ·exact MS ts s x h1 hm hsl (hx (by omega)) hl
 by_cases h2 : x.op = 2
 ·exact Mx ts s x h2 hm hsl (hx (by omega)) (hn h2) hl
 by_cases h3 : x.op = 3
 ·exact Nj ts s x h3 hm hsl (hx (by omega)) (hy (by omega) (by omega)) hl
 by_cases h4 : x.op = 4 ∨ x.op = 5
 ·exact Kn ts s x h4 hm hsl (hx (by omega)) (hy (by omega) (by omega)) hl
 by_cases h6 : x.op = 6
 ·exact N1 ts s x h6 hm hsl (hx (by omega)) (hy (by omega) (by omega)) hl hrl
 by_cases h7 : x.op = 7
 ·exact Mw ts s x h7 hm hsl (hx (by omega)) (hy (by omega) (by omega)) hl
 by_cases h8 : x.op = 8
 ·exact MB ts s x h8 hm hsl (hx (by omega)) hl
 ·exact MD ts s x (by omega)
theorem kM {ts:List Int}{s:Mc}{v:Nat}{y:Sl}:(bH ts s v y).1.read = s.read := by unfold bH;split <;> rfl
theorem AO {ts:List Int}{s:Mc}{x:Pnt}(h:x.op ≠ 11):(bO ts s x).1.read.length ≤ s.read.length + 1:=by
 unfold bO
 split
 ·rw [kM]; omega
 split
 ·split
  ·dsimp only;omega
  ·rw [kM]; dsimp only;omega
 split
 ·rw [kM]; split <;> (first|omega|(dsimp only;omega))
 split
 ·split
  ·rw [kM]; dsimp only;omega
  ·dsimp only;omega
 split
 ·split
  ·rw [kM]; dsimp only;rw [List.length_append]; simp only [List.length_singleton]; omega
  ·dsimp only;omega
 split
 ·dsimp only;omega
 split
 ·dsimp only;omega
 dsimp only;omega
theorem Eg (pts:List Pnt):∀ n a cs,(dJ pts n a cs).2 = true → ∃ l b,(dJ pts n a cs).1 = l ++ [b] ∧ pts[b]!.op = 11
 | 0, a, cs, h => by
  unfold dJ at h ⊢
  by_cases e : pts[a]!.op = 11
  ·rw [if_pos e]; exact ⟨[],a,rfl,e⟩
  ·rw [if_neg e] at h;exact absurd h (by decide)
 | n + 1, a, cs, h => by
  rw [dJ] at h ⊢
  by_cases e : pts[a]!.op = 11
  ·rw [if_pos e]; exact ⟨[],a,rfl,e⟩
  ·rw [if_neg e] at h ⊢
   obtain ⟨l,b,h1,h2⟩ := Eg pts n _ _ h
   exact ⟨a :: l,b,by dsimp only;rw [h1]; rfl,h2⟩
theorem MY {s:Mc}{x:Pnt}(h:x.op = 11):NX s x = false:=by
 unfold NX;rw [if_neg (by omega),if_neg (by omega),if_neg (by omega)]
theorem Kv (p:Prg) (cs:List Int) (n:Nat) (hv:bD p = true) (hl:p.types.length ≤ 1000000) (hs:bE p.body ≤ 1000000) (hn:n ≤ 150) (hcl:cs.length ≤ 1000000) (hL:∀ a ∈ (dJ (aB p) n 0 cs).1,a < (aB p).length) (hLl:(dJ (aB p) n 0 cs).1.length ≤ 151):PC Tryz.prog 154 [cE p,sl cI cs,iv (n:Int)] (fun r => r = .tup [fT (dL p.types (aB p) cs n).1,iv (dL p.types (aB p) cs n).2.1,iv (dL p.types (aB p) cs n).2.2]):=by
 have hpo := dF p hs
 have hru := C5 p cs n hv hl hs (by omega) hcl
 have w := WG.of_valid hv
 have wa := WA.of_valid hv
 obtain ⟨q,hq⟩ : ∃ q,q = dL p.types (aB p) cs n := ⟨_,rfl⟩
 rw [← hq]
 unfold dL at hq
 unfold wm at hru
 obtain ⟨L,hLe⟩ : ∃ L,L = (dJ (aB p) n 0 cs).1 := ⟨_,rfl⟩
 obtain ⟨dn,hdn⟩ : ∃ dn,dn = (dJ (aB p) n 0 cs).2 := ⟨_,rfl⟩
 rw [← hLe,← hdn] at hru
 rw [← hLe] at hq hL hLl
 have hgx : ∀ i,i < L.length → (L.map (fun a : Nat => (a : Int)))[i]! = (L[i]! : Int) := fun i h => by rw [a7 _ _ (by rw [List.length_map]; exact h),List.getElem_map,a7 _ _ h]
 have hml : (L.map (fun a : Nat => (a : Int))).length = L.length := List.length_map _
 generalize (L.map (fun a : Nat => (a : Int))) = LI at *
 generalize hP : aB p = pts at *
 have e1 : AV.imm p.types.length ((List.replicate p.types.length ([Value.bool false, Value.int .i64 0, Value.int .i64 0, Value.int .i64 0].map AV.v)).flatten) = sl dC (List.replicate p.types.length fZ) := by
  rw [sZ (f := dC) (x := fZ) (l := [Value.bool false,Value.int .i64 0,Value.int .i64 0,Value.int .i64 0].map AV.v) rfl]; exact eT (by simp)
 refine aC Tryz.func154 Tryz.ntmps154 ?_
 repeat' (first|(apply aF;first|(apply aA (k := 132);rfl;exact hpo;exact Pur.pf;rfl)|(with_reducible apply aW (d := 27))|(apply aM (t := _);rfl;rfl;rfl;(rfl);rfl;rfl))|refine aE ?_|fail)
 refine b0 (c8 ?_ (Le.frzD (d := 24) (i := 2) rfl rfl))
 rw [e1]
 repeat' (first|(apply aF;(apply aA (k := 212);rfl;exact hru;exact Pur.pf;rfl))|refine aE ?_|fail)
 refine aH (σ := Nat × Mc) [3,6,9,10,11,12] [0,1] (fun k => [(13,iv (k.1 : Int))]) (fun k => [(5,some [sl dC k.2.slots,sl bJ k.2.cells,sl cI k.2.read])]) (fun k => k.1 ≤ L.length ∧ gL p.types pts (L.drop k.1) k.2 (if k.1 = 0 then 0 else L[k.1 - 1]!) = q ∧ OkS p.types.length k.2 ∧ k.2.read.length ≤ k.1 ∧ (∀ j,j < k.1 → pts[L[j]!]!.op ≠ 11)) (fun k => L.length - k.1) (0,mc0 p.types.length) ⟨Nat.zero_le _,by rw [hq]; rfl,OkS.mc0 _,Nat.le_refl _,fun j h => absurd h (by omega)⟩ ?_
 rintro ⟨i,s⟩ ⟨hi,hf,hok,hrd,h11⟩
 dsimp only at hi hf hok hrd h11 ⊢
 have hil : i < L.length → L[i]! < pts.length := fun h => hL _ (aR _ _ h)
 have hex := fun h => Ly p.types s hok.m hok.l h
 by_cases hiL : i < L.length
 ·have hap := hil hiL
  have hop := w.op L[i]! hap
  have hwx := w.x L[i]! hap
  have hwy := w.y L[i]! hap
  have hA := wa.a L[i]! hap
  have hg := hgx i hiL
  have hen := hex hl
  have hun := Ft s pts[L[i]!]! (fun h => by have := hok.l;omega) (fun h => by have := hok.l;omega)
  have hun2 := Mt (ts := p.types) (s := s) (x := pts[L[i]!]!) (fun h => by omega) (fun h => by omega)
  rw [hun2] at hun
  have hdo := fun h => Nb p.types s pts[L[i]!]! h hop hok.m hok.l (fun h => by omega) (fun h h2 => by omega) (fun h => hA.n (.inr h)) hl (by omega)
  repeat' (first|(apply aF;(with_reducible apply aW (d := 46)))|refine aE ?_|(refine aK ?_ ?_ <;> intro hc hq <;> try (exfalso;omega))|fail)
  refine b0 ?_
  rw [hg]
  repeat' (first|(apply aF;first|(apply aA (k := 213);rfl;exact hen;exact Pur.pf;rfl)|(apply aA (k := 214);rfl;exact hun;exact Pur.pf;rfl)|(apply aA (k := 215);rfl;exact hdo (by assumption);exact Pur.pf;rfl))|refine aE ?_|(refine aK ?_ ?_ <;> intro hc hq <;> try (exfalso;omega))|refine bQ ?_|fail)
  all_goals have hdr : L.drop i = L[i]! :: L.drop (i + 1) := by rw [List.drop_eq_getElem_cons hiL,a7 _ _ hiL]
  all_goals rw [hdr] at hf
  ·have ho : pts[L[i]!]!.op = 11 := by assumption
   have hqq : q = ((cO p.types p.types.length 0 s).1, (cO p.types p.types.length 0 s).2, L[i]!) := by
    rw [← hf,gL,if_neg (by rw [← hun2,MY ho]; decide),tN ho,if_neg (by have := mZ p.types p.types.length 0 s;omega)]
   rw [hqq]
   refine aD (l := [fT (cO p.types p.types.length 0 s).1,iv (cO p.types p.types.length 0 s).2,iv LI[i]!]) rfl ?_
   rw [hg]
   exact ⟨rfl,by exact Pur.pf⟩
  ·have hu : b7 p.types s pts[L[i]!]! = true := by assumption
   have hqq : q = (s,2,L[i]!) := by rw [← hf,gL,if_pos hu]
   rw [hqq]
   refine aD (l := [fT s,iv 2,iv LI[i]!]) rfl ?_
   rw [hg]
   exact ⟨rfl,by exact Pur.pf⟩
  ·have ho : ¬ pts[L[i]!]!.op = 11 := by assumption
   have hu : b7 p.types s pts[L[i]!]! = false := by assumption
   have hk : ¬ gk (bO p.types s pts[L[i]!]!).2 = 0 := by assumption
   have hk2 : ¬ (bO p.types s pts[L[i]!]!).2 = -1 := fun e => hk ((OG ho).2 e)
   have hqq : q = ((bO p.types s pts[L[i]!]!).1,(bO p.types s pts[L[i]!]!).2,L[i]!) := by rw [← hf,gL,if_neg (by rw [hu]; decide),if_neg hk2]
   rw [hqq]
   refine aD (l := [fT (bO p.types s pts[L[i]!]!).1,iv (gk (bO p.types s pts[L[i]!]!).2),iv LI[i]!]) rfl ?_
   rw [hg,show gk (bO p.types s pts[L[i]!]!).2 = (bO p.types s pts[L[i]!]!).2 by unfold gk;rw [if_neg hk2]]
   exact ⟨rfl,by exact Pur.pf⟩
  ·have ho : ¬ pts[L[i]!]!.op = 11 := by assumption
   have hu : b7 p.types s pts[L[i]!]! = false := by assumption
   have hk2 : (bO p.types s pts[L[i]!]!).2 = -1 := (OG ho).1 (by assumption)
   (refine bC (i + 1,(bO p.types s pts[L[i]!]!).1) (Le.renA [(0,0),(1,1),(5,5)]) ?_ ?_)
   ·refine ⟨by dsimp only; omega, ?_, hok.do ⟨fun h => hA.n (.inr h)⟩, ?_, ?_⟩
    ·dsimp only
     rw [← hf,if_neg (by omega),show i + 1 - 1 = i by omega,gL,if_neg (by rw [hu]; decide),if_pos hk2]
    ·dsimp only;have := AO (ts := p.types) (s := s) ho;omega
    ·intro j hj
     rcases Nat.lt_or_ge j i with h|h
     ·exact h11 j h
     ·rw [show j = i by omega]; exact ho
   ·dsimp only;omega
 ·repeat' (first | refine aE ?_ | (refine aK ?_ ?_ <;> intro hc hq <;> try (exfalso; omega)) | (refine bW ?_ ?_ <;> intro hg hq <;> try (exfalso; omega)) | refine bQ ?_|fail)
  all_goals have hie : i = L.length := by omega
  all_goals have hqq : q = (s,1,if i = 0 then 0 else L[i - 1]!) := by rw [← hf,hie,List.drop_length]; rfl
  ·rw [hqq, if_neg (by omega)]
   refine aD (l := [fT s,iv 1,iv LI[((LI.length : Int) - 1).toNat]!]) rfl ?_
   rw [show ((LI.length : Int) - 1).toNat = i - 1 by omega,hgx (i - 1) (by omega)]
   exact ⟨rfl,by exact Pur.pf⟩
  ·rw [hqq, if_pos (by omega)]
   exact aD (l := [fT s,iv 1,iv 0]) rfl ⟨rfl,by exact Pur.pf⟩
  ·exfalso
   have hd1 : dn = true := by assumption
   obtain ⟨l,b,e1,e2⟩ := Eg pts n 0 cs (by rw [← hdn]; exact hd1)
   rw [← hLe] at e1
   have hlen : L.length = l.length + 1 := by rw [e1,List.length_append]; rfl
   have hb : L[l.length]! = b := by rw [a7 _ _ (by omega)]; simp [e1]
   have := h11 l.length (by omega)
   rw [hb] at this
   exact this e2
theorem CU {ts:List Int}{pts:List Pnt}(w:WG ts pts) (A:WA ts pts):∀ n a cs,a < pts.length → ∀ x ∈ (dJ pts n a cs).1,x < pts.length
 | 0, a, cs, ha, x, hx => by
  unfold dJ at hx
  by_cases e : pts[a]!.op = 11
  ·rw [if_pos e] at hx;rw [List.mem_singleton.1 hx]; exact ha
  ·rw [if_neg e] at hx;exact absurd hx (by simp)
 | n + 1, a, cs, ha, x, hx => by
  rw [dJ] at hx
  by_cases e : pts[a]!.op = 11
  ·rw [if_pos e] at hx;rw [List.mem_singleton.1 hx]; exact ha
  ·rw [if_neg e] at hx
   rcases List.mem_cons.1 hx with h|h
   ·rw [h]; exact ha
   ·have he := tC w A ha e cs
    have := w.nx a ha _ he.2
    exact CU w A n _ _ (by omega) x h
theorem rZ {pts:List Pnt}:∀ n a cs,(dJ pts n a cs).1.length ≤ n + 1
 | 0,a,cs => by unfold dJ;split <;> simp
 | n + 1, a, cs => by
  rw [dJ]; split
  ·simp
  ·have := rZ (pts := pts) n (gM pts a cs).1 (gM pts a cs).2
   dsimp only;rw [List.length_cons]; omega
theorem HN (p:Prg) (cs:List Int) (n:Nat) (hv:bD p = true) (hl:p.types.length ≤ 1000000) (hs:bE p.body ≤ 1000000) (hn:n ≤ 150) (hcl:cs.length ≤ 1000000):PC Go.Proofs.Tryz.prog 154 [cE p,sl cI cs,iv (n:Int)] (fun r => r = .tup [fT (dL p.types (aB p) cs n).1,iv (dL p.types (aB p) cs n).2.1,iv (dL p.types (aB p) cs n).2.2]) :=
 Kv p cs n hv hl hs hn hcl (CU (WG.of_valid hv) (WA.of_valid hv) n 0 cs (WG.of_valid hv).p0) (by have := rZ (pts := aB p) n 0 cs;omega)
def Bp (p : Prg) (most : Int) : Bool := bD p && (decide (0 ≤ most) && decide (most ≤ 150))
theorem FX (p:Prg) (most:Int) (hl:p.types.length ≤ 1000000) (hs:bE p.body ≤ 1000000):PC Tryz.prog 153 [cE p,iv most] (fun r => r = bv (Bp p most)):=by
 have hval := gG p hl (by omega)
 refine aC Tryz.func153 Tryz.ntmps153 ?_
 repeat' (first|(apply aF;(apply aA (k := 61);rfl;exact hval;exact Pur.pf;rfl))|refine aE ?_|(refine bW ?_ ?_ <;> intro hg hq <;> try (exfalso;omega))|fail)
 all_goals (refine aD rfl ⟨?_,rfl⟩; simp only [aN,AV.v.injEq,Value.bool.injEq]; unfold Bp;grind)
theorem vS (p:Prg) (cs:List Int) (most:Int) (hl:p.types.length ≤ 1000000) (hs:bE p.body ≤ 1000000) (hcl:cs.length ≤ 1000000):PC Tryz.prog 84 [cE p,sl cI cs,iv most] (fun r => r = .tup (if Bp p most = true then [iv (dL p.types (aB p) cs most.toNat).2.1,iv (dL p.types (aB p) cs most.toNat).2.2] else [iv 5,iv 0])):=by
 have hrt := FX p most hl hs
 by_cases h : Bp p most = true
 ·have h' := h
  unfold Bp at h'
  simp only [Bool.and_eq_true,decide_eq_true_eq] at h'
  obtain ⟨hv,h0,h1⟩ := h'
  have hru := HN p cs most.toNat hv hl hs (by omega) hcl
  rw [Int.toNat_of_nonneg h0] at hru
  rw [h] at hrt
  rw [if_pos h]
  refine aC Tryz.func84 Tryz.ntmps84 ?_
  repeat' (first|(apply aF;first|(apply aA (k := 153);rfl;exact hrt;exact Pur.pf;rfl)|(apply aA (k := 154);rfl;exact hru;exact Pur.pf;rfl))|refine aE ?_|fail)
  exact aD (l := [iv (dL p.types (aB p) cs most.toNat).2.1,iv (dL p.types (aB p) cs most.toNat).2.2]) rfl ⟨rfl,rfl⟩
 ·rw [if_neg h]
  have h2 : Bp p most = false := by simpa using h
  rw [h2] at hrt
  refine aC Tryz.func84 Tryz.ntmps84 ?_
  repeat' (first|(apply aF;(apply aA (k := 153);rfl;exact hrt;exact Pur.pf;rfl))|refine aE ?_|fail)
  exact aD (l := [iv 5,iv 0]) rfl ⟨rfl,rfl⟩
theorem NW {p:Prg}{cs:List Int}{n:Nat}(hv:bD p = true):OkS p.types.length (dL p.types (aB p) cs n).1:=by
 have wa := WA.of_valid hv
 have hp : ∀ a : Nat, PtN (aB p)[a]! := fun a => by
  by_cases h : a < (aB p).length
  ·exact ⟨fun e => (wa.a a h).n (.inr e)⟩
  ·refine ⟨fun e => ?_⟩
   rw [Ib,dif_neg h] at e
   exact absurd e (by decide)
 exact OkS.run hp _ _ _ (OkS.mc0 _)
theorem Bd {ts:List Int}{s:Mc}{x:Pnt}:(bO ts s x).1.read.length ≤ s.read.length + 1:=by
 by_cases h : x.op = 11
 ·rw [tN h,uS]; omega
 ·exact AO h
theorem wZ (ts:List Int) (pts:List Pnt):∀ (l:List Nat) (s:Mc) (last:Nat),(gL ts pts l s last).1.read.length ≤ s.read.length + l.length
 | [],s,last => by unfold gL;simp
 | a :: l, s, last => by
  have h := Bd (ts := ts) (s := s) (x := pts[a]!)
  unfold gL;split
  ·dsimp only;omega
  ·split
   ·have := wZ ts pts l (bO ts s pts[a]!).1 a
    rw [List.length_cons]; omega
   ·rw [List.length_cons]; dsimp only;omega
theorem B2 {ts:List Int}{pts:List Pnt}{cs:List Int}{n:Nat}(hn:n ≤ 150):(dL ts pts cs n).1.read.length ≤ 151:=by
 have h := wZ ts pts (dJ pts n 0 cs).1 (mc0 ts.length) 0
 have h2 := rZ (pts := pts) n 0 cs
 have h3 : (mc0 ts.length).read.length = 0 := rfl
 unfold dL;omega
theorem O1:Go.Proofs.Tryz.prog.underlying 280 = some (.map 3 4) := by kernel_rfl
theorem Pk:Go.Proofs.Tryz.prog.underlying 3 = some (.int .i64) := by kernel_rfl
theorem Pv:(Go.Proofs.Tryz.prog.info? 4).bind (·.zero) = some (.bool false) := by kernel_rfl
theorem OI {a b c:Int}(h:a ≤ b ∧ b ≤ c):(!(decide (a ≤ b) && decide (b ≤ c))) = false := by simp [h.1,h.2]
theorem gZ (m:List Cl) (hm:OkM m):PC Tryz.prog 239 [sl bJ m] (fun r => r = bv true):=by
 have hml := hm.l
 refine aC Tryz.func239 Tryz.ntmps239 ?_
 repeat' (first|refine aE ?_|(refine aK ?_ ?_ <;> intro hc hq <;> try (exfalso;omega))|fail)
 all_goals (try (exfalso;omega))
 refine aH (σ := Nat) [11,12] [] (fun i => [(13,iv (i : Int))]) (fun i => []) (fun i => i ≤ m.length) (fun i => m.length - i) (0) (Nat.zero_le _) ?_
 rintro i hi
 by_cases hin : i < m.length
 ·have hc := (cZ m).1 hm |>.2 i hin
  obtain ⟨h1,h2,h3,h4,h5⟩ := (pI _).1 hc
  repeat' (first|(apply aF;(apply aA (k := 54);rfl;(apply dG);(rfl);rfl))|(apply Du;with_reducible apply IB)|refine aE ?_|(refine aK ?_ ?_ <;> intro hc hq <;> try (exfalso;omega))|(refine bW ?_ ?_ <;> intro hg hq <;> try (exfalso;omega))|fail)
  ·exfalso
   have hu : m[i]!.stk[Int.toNat 0]!.uq = false := by assumption
   rw [show Int.toNat 0 = 0 from rfl,h4] at hu;exact absurd hu (by decide)
  ·refine My (GA rfl (fun r => ?_))
   refine Ax ?_
   repeat' (first|refine Hk ?_|fail)
   refine ⟨rfl,rfl,?_⟩
   refine kY (pQ ?_)
   repeat' (first|refine aE ?_|fail)
   show sB _ _ _ _ _ _ _
   refine wQ ?_
   refine FK (σ := Nat) [4,5,11,12,13,44,45] [(4,_),(5,_),(11,_),(12,_),(13,_),(44,_),(45,_)] [0] [(0,some _)] (fun k => [(46,iv (k : Int))]) (fun k => []) (fun k => (m[i]!.stk.take k).map (·.id)) (fun k => k ≤ m[i]!.stk.length) (fun k => m[i]!.stk.length - k) (0) (Nat.zero_le _) (rfl) rfl rfl (by repeat' (first|exact trivial|refine And.intro rfl ?_)) (by repeat' (exact trivial)) ?_
   rintro k hk
   refine kY (pQ ?_)
   repeat' (first|refine aE ?_|fail)
   show sB _ _ _ _ _ _ _
   refine kY (AM rfl (fun hb => Ba ?_) (fun hb => Iq ?_))
   ·show sB _ _ _ _ _ _ _
    have hkl : k < m[i]!.stk.length := by have := of_decide_eq_true hb;omega
    obtain ⟨g1,g2,g3⟩ := h5 k hkl
    have hw := OI (a := 0) (b := m[i]!.stk[k]!.id) (c := m[i]!.next - 1) ⟨g1,by omega⟩
    have hni : m[i]!.stk[k]!.id ∉ (m[i]!.stk.take k).map (·.id) := fun q => by
     obtain ⟨t,ht,e⟩ := List.mem_map.1 q
     obtain ⟨j,hj,rfl⟩ := List.getElem_of_mem ht
     rw [List.length_take] at hj
     have f := uU (stk := m[i]!.stk) (id := m[i]!.stk[k]!.id) (by omega) j (by omega)
     rw [a7 _ _ (by omega)] at f
     rw [List.getElem_take] at e
     exact f e
    refine kY (wQ (kY (pQ ?_)))
    repeat' (first|refine aE ?_|fail)
    show sB _ _ _ _ _ _ _
    refine kY (kY (vG ?_))
    refine Bv (l1 := [_,_,_,_,_,_,_,_,_,_,_]) (l2 := [_,_]) ?_
    repeat' (first|(apply aF;(apply aA (k := 54);rfl;(apply dG);(rfl);rfl))|refine Hk ?_|fail)
    refine ⟨rfl,?_⟩
    refine EE rfl rfl hw ?_
    refine Ct O1 Pk Pv rfl rfl hni rfl ?_
    refine Ax ?_
    repeat' (first|refine Hk ?_|fail)
    refine ⟨rfl,?_⟩
    show sB _ _ _ _ _ _ _
    refine AM rfl (fun h => by cases h) (fun _ => Ba ?_)
    show sB _ _ _ _ _ _ _
    refine vG ?_
    refine Bv (l1 := [_,_,_]) (l2 := [_]) ?_
    repeat' (first|refine Hk ?_|fail)
    refine ⟨rfl,?_⟩
    refine C0 O1 Pk Pv rfl rfl hni ?_
    refine KF ?_
    show sB _ _ _ _ _ _ _
    refine pQ ?_
    repeat' (first|refine aE ?_|fail)
    refine ⟨k + 1,by omega,by omega,?_,?_⟩
    ·refine Le.ren [(0,0)] rfl (by decide) ?_ ?_ <;> repeat' (first|exact trivial|refine And.intro ⟨_,rfl,?_⟩ ?_|refine And.intro ⟨_,_,rfl,rfl,?_⟩ ?_|exact Or.inr rfl|refine Or.inl ⟨?_,(by first|rfl|exact a8 _ _|exact Pur.pf)⟩|rfl)
    ·rw [b6 _ k hkl,List.map_append]; rfl
   ·have hkl : k = m[i]!.stk.length := by have := of_decide_eq_false hb; omega
    refine Jo ?_
    show Dk 1 _ _ _
    repeat' (first|refine aE ?_|fail)
    (refine bC (i + 1) (Le.renA []) ?_ ?_)
    ·omega
    ·omega
 ·repeat' (first | refine aE ?_ | (refine aK ?_ ?_ <;> intro hc hq <;> try (exfalso; omega))|fail)
  refine aD rfl ⟨rfl,rfl⟩
theorem Le.bump {ts:List (Nat × AV)}{hs:List (Nat × Option (List AV))}{n:Nat}{z0:Lo}(k:Nat):Le ⟨ts,hs,n,z0⟩ ⟨ts,hs,n + k,z0⟩ := Le.of (fun _ _ h => h) (fun _ _ h => h) (Nat.le_add_right _ _) rfl
theorem xO {m:List Cl}{x0:Operand}(ha0:ev (lk tsl) x0 = some (sl bJ m)) (hmc:MC Tryz.prog 265 [sl bJ m] [] 0 (fun _:Unit => True) (fun _ => .own 1 0 m.length 4) (fun _ => [(1,some (flat bJ m))])) (hM:Nat.ble (nidl + 2) aT = true) (hN:Nat.blt d N = true){md':Md}[hmd:MdA md (fJ [x0] ++ []) (List.map Sum.inr (List.map Prod.fst ([((nidl + 1),some (flat bJ m))]:List (Nat × Option (List AV)))) ++ [.inl d]) md'] (kk:RW Tryz.prog N all Q md' rest ⟨(d,.own (nidl + 1) 0 m.length 4) :: tsl,iA hsl [((nidl + 1),some (flat bJ m))],nidl + 2,z0⟩):RW Tryz.prog N all Q md (⟨some d,.call ⟨.value (.func 265),#[x0],tys⟩,ty,pos,af,none⟩ :: rest) ⟨tsl,hsl,nidl,z0⟩:=by
 exact a6 (l := [x0]) [] 2 [((nidl + 1),some (flat bJ m))] hmc (avs := [sl bJ m]) (by simp only [evL,ha0]) rfl hM hN (md' := md') (hmd := hmd) kk
theorem Bc (m:List Cl) (hl:m.length ≤ 1000000):MC Tryz.prog 265 [sl bJ m] [] 0 (fun _:Unit => True) (fun _ => .own 1 0 m.length 4) (fun _ => [(1,some (flat bJ m))]):=by
 refine aU Tryz.func265 Tryz.ntmps265 ?_
 repeat' (first|(apply aF;(apply BM;rfl;rfl;(intro b hb)))|refine aE ?_|(refine aK ?_ ?_ <;> intro hc hq <;> try (exfalso;omega))|fail)
 ·have h0 : m = [] := List.eq_nil_of_length_eq_zero (hb (by assumption))
  subst h0
  refine aV (Le.bump 1) ?_
  refine aV (Le.nilOwn (d := 2) 4 rfl (by decide)) ?_
  (refine aD rfl ?_; refine aS () trivial ?_ ⟨sE ?_,trivial⟩)
  ·rfl
  ·rfl
 ·(refine aD rfl ?_; refine aS () trivial ?_ ⟨sE ?_, trivial⟩)
  ·show AV.own 1 0 (0 + m.length) 4 = _; rw [Nat.zero_add]
  ·rfl
theorem qU {m:List Tg}{x0:Operand}(ha0:ev (lk tsl) x0 = some (sl cJ m)) (hmc:MC Tryz.prog 266 [sl cJ m] [] 0 (fun _:Unit => True) (fun _ => .own 1 0 m.length 2) (fun _ => [(1,some (flat cJ m))])) (hM:Nat.ble (nidl + 2) aT = true) (hN:Nat.blt d N = true){md':Md}[hmd:MdA md (fJ [x0] ++ []) (List.map Sum.inr (List.map Prod.fst ([((nidl + 1),some (flat cJ m))]:List (Nat × Option (List AV)))) ++ [.inl d]) md'] (kk:RW Tryz.prog N all Q md' rest ⟨(d,.own (nidl + 1) 0 m.length 2) :: tsl,iA hsl [((nidl + 1),some (flat cJ m))],nidl + 2,z0⟩):RW Tryz.prog N all Q md (⟨some d,.call ⟨.value (.func 266),#[x0],tys⟩,ty,pos,af,none⟩ :: rest) ⟨tsl,hsl,nidl,z0⟩:=by
 exact a6 (l := [x0]) [] 2 [((nidl + 1),some (flat cJ m))] hmc (avs := [sl cJ m]) (by simp only [evL,ha0]) rfl hM hN (md' := md') (hmd := hmd) kk
theorem BJ (m:List Tg) (hl:m.length ≤ 1000000):MC Tryz.prog 266 [sl cJ m] [] 0 (fun _:Unit => True) (fun _ => .own 1 0 m.length 2) (fun _ => [(1,some (flat cJ m))]):=by
 refine aU Tryz.func266 Tryz.ntmps266 ?_
 repeat' (first|(apply aF;(apply BM;rfl;rfl;(intro b hb)))|refine aE ?_|(refine aK ?_ ?_ <;> intro hc hq <;> try (exfalso;omega))|fail)
 ·have h0 : m = [] := List.eq_nil_of_length_eq_zero (hb (by assumption))
  subst h0
  refine aV (Le.bump 1) ?_
  refine aV (Le.nilOwn (d := 2) 2 rfl (by decide)) ?_
  (refine aD rfl ?_; refine aS () trivial ?_ ⟨sE ?_,trivial⟩)
  ·rfl
  ·rfl
 ·(refine aD rfl ?_; refine aS () trivial ?_ ⟨sE ?_, trivial⟩)
  ·show AV.own 1 0 (0 + m.length) 2 = _; rw [Nat.zero_add]
  ·rfl
theorem I7 (t:Tg) (c g:Int):PC Tryz.prog 268 [P2 t,.iptr [iv c,iv g]] (fun r => r = bv (decide (t.id = g))):=by
 refine aC Tryz.func268 Tryz.ntmps268 ?_
 repeat' (first|refine aE ?_|fail)
 exact aD rfl ⟨rfl,rfl⟩
theorem AH (t:Tg):PC Tryz.prog 270 [P2 t] (fun r => r = bv t.uq):=by
 refine aC Tryz.func270 Tryz.ntmps270 ?_
 repeat' (first|refine aE ?_|fail)
 exact aD rfl ⟨rfl,rfl⟩
theorem zE (stk:List Tg) (c g:Int) (hl:stk.length ≤ 1000000):PC Tryz.prog 267 [sl cJ stk,.clos (.func 268) [] [.iptr [iv c,iv g]]] (fun r => r = iv (bZ stk g)):=by
 refine aC Tryz.func267 Tryz.ntmps267 ?_
 repeat' (first|refine aE ?_|fail)
 refine aH (σ := Nat) [0,1,7] [] (fun k => [(8,iv (k : Int))]) (fun k => []) (fun k => k ≤ stk.length ∧ ∀ j,j < k → stk[j]!.id ≠ g) (fun k => stk.length - k) (0) ⟨by omega,by omega⟩ ?_
 rintro k ⟨hk,hall⟩
 by_cases hkn : k < stk.length
 ·have hcl := I7 stk[k]! c g
  repeat' (first|(apply aF;(apply gI;rfl;rfl;infer_instance;rfl;(apply hcl);(rfl);rfl))|refine aE ?_|(refine aK ?_ ?_ <;> intro hc hq <;> try (exfalso;omega))|fail)
  ·refine aD rfl ⟨?_, rfl⟩
   simp only [aN]; rw [y7 hkn (by assumption) hall]
  ·(refine bC (k + 1) (Le.renA []) ?_ ?_)
   ·refine ⟨by omega, fun j hj => ?_⟩
    by_cases e : j = k
    ·subst e;assumption
    ·exact hall j (by omega)
   ·omega
 ·repeat' (first | refine aE ?_ | (refine aK ?_ ?_ <;> intro hc hq <;> try (exfalso; omega))|fail)
  refine aD rfl ⟨?_,rfl⟩
  have h2 : bZ stk g < 0 := mQ.2 (fun t ht => by obtain ⟨j,hj,rfl⟩ := List.getElem_of_mem ht;have := hall j (by omega);rwa [a7 _ _ hj] at this)
  have hb := dW stk g
  simp only [aN]; rw [show bZ stk g = -1 by omega]
def rR (xs : List Tg) : Int := match xs.findIdx? (fun t => t.uq) with | some i => i | none => -1
theorem J5 (stk:List Tg) (hl:stk.length ≤ 1000000):PC Tryz.prog 267 [sl cJ stk,.v (.func (.func 270) #[] #[])] (fun r => r = iv (rR stk)):=by
 refine aC Tryz.func267 Tryz.ntmps267 ?_
 repeat' (first|refine aE ?_|fail)
 refine aH (σ := Nat) [0,1,7] [] (fun k => [(8,iv (k : Int))]) (fun k => []) (fun k => k ≤ stk.length ∧ ∀ j,j < k → stk[j]!.uq = false) (fun k => stk.length - k) (0) ⟨by omega,by omega⟩ ?_
 rintro k ⟨hk,hall⟩
 by_cases hkn : k < stk.length
 ·have hcl := AH stk[k]!
  repeat' (first|(apply aF;(apply gI;rfl;rfl;infer_instance;rfl;(apply hcl);(rfl);rfl))|refine aE ?_|(refine aK ?_ ?_ <;> intro hc hq <;> try (exfalso;omega))|fail)
  ·refine aD rfl ⟨?_, rfl⟩
   have hu : stk[k]!.uq = true := by assumption
   have : stk.findIdx? (fun t => t.uq) = some k := by
    rw [List.findIdx?_eq_some_iff_getElem]
    refine ⟨hkn,by rw [← a7 stk k hkn]; exact hu,fun j hj => ?_⟩
    have := hall j hj;rw [a7 stk j (by omega)] at this;rw [this]; decide
   simp only [aN,rR,this]
  ·have hu : stk[k]!.uq = false := by assumption
   (refine bC (k + 1) (Le.renA []) ?_ ?_)
   ·refine ⟨by omega, fun j hj => ?_⟩
    by_cases e : j = k
    ·subst e;exact hu
    ·exact hall j (by omega)
   ·omega
 ·repeat' (first | refine aE ?_ | (refine aK ?_ ?_ <;> intro hc hq <;> try (exfalso; omega))|fail)
  refine aD rfl ⟨?_,rfl⟩
  have : stk.findIdx? (fun t => t.uq) = none := by
   rw [List.findIdx?_eq_none_iff]
   intro x hx
   obtain ⟨j,hj,rfl⟩ := List.getElem_of_mem hx
   have := hall j (by omega);rw [a7 stk j hj] at this;exact this
  simp only [aN,rR,this]
end Go.Proofs.YtahdccneecdmmaaGreat
