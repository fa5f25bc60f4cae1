/-
 A part of the proofs over this program: rules and contracts of its functions (the contracts).
-/
import Derived.Test.YtgkalkgplcdnkaaGreatW2B02
set_option linter.unusedVariables false
set_option linter.unusedSimpArgs false
set_option maxHeartbeats 8000000
set_option maxRecDepth 4000
attribute [local irreducible] Go.AL.RW Go.AL.AW Go.AL.Stop
namespace Go.Proofs.YtgkalkgplcdnkaaGreat
open Go.AL Go.RowKit
variable {N : Nat} {Q : Exit → AS → Prop} {all : Array Oper} {rest : List Oper} {tsl : List (Nat × AV)} {hsl : List (Nat × Option (List AV))} {nidl : Nat} {z0 : Lo} {md : Md} {d : Nat} {ty : TypeId} {pos : String} {af : Array Edge} {tys : Array TypeId}
theorem FF {m:List Cl}{j:Nat}{X:AV}{v:Int}(h:j < m.length):eR (aA dK (cF m j X)) (0 + j * 4 + 0) [iv v] = aA dK (cF (m.set j { m[j]! with val := v }) j X):=by
 have e : cF (m.set j { m[j]! with val := v }) j X = (cF m j X).set j ⟨v, m[j]!.alive, m[j]!.next, X⟩ := by
  have e2 : (m.set j { m[j]! with val := v })[j]! = { m[j]! with val := v } := by rw [aW _ _ (by rw [List.length_set]; exact h),List.getElem_set_self]
  unfold cF
  rw [e2,List.map_set,List.set_set,List.set_set]; rfl
 rw [e]
 exact dD (by rw [cD]; exact h) (by simp) (by rw [fC h]; rfl)
theorem EV {m:List Cl}{j:Nat}{X:AV}{b:Bool}(h:j < m.length):eR (aA dK (cF m j X)) (0 + j * 4 + 1) [.v (.bool b)] = aA dK (cF (m.set j { m[j]! with alive := b }) j X):=by
 have e : cF (m.set j { m[j]! with alive := b }) j X = (cF m j X).set j ⟨m[j]!.val, b, m[j]!.next, X⟩ := by
  have e2 : (m.set j { m[j]! with alive := b })[j]! = { m[j]! with alive := b } := by rw [aW _ _ (by rw [List.length_set]; exact h),List.getElem_set_self]
  unfold cF
  rw [e2,List.map_set,List.set_set,List.set_set]; rfl
 rw [e]
 exact dD (by rw [cD]; exact h) (by simp) (by rw [fC h]; rfl)
theorem mT (m:List Cl) (hm:OkM m) (x:Pt):PC Tryz.prog 204 [sl a8 m,jR x] (fun r => r = .tup [sl a8 (bX m x false),iv (kJ m x),iv (aS m x false)]):=by
 have hml := hm.l
 by_cases hk : aS m x false = 0
 ·obtain ⟨c, t⟩ := x
  obtain ⟨h1,h2,h3,h4,_⟩ := cU hk
  obtain ⟨j,rfl⟩ := Int.eq_ofNat_of_zero_le (show 0 ≤ c from h1)
  have hj : j < m.length := by have : (j : Int) < m.length := h2;omega
  obtain ⟨k,hkk⟩ := Int.eq_ofNat_of_zero_le (show 0 ≤ bH m[j]!.stk t from h4)
  obtain ⟨r,hr⟩ : ∃ r,r = dJ m[j]!.stk k false := ⟨_,rfl⟩
  have hto := tX m j t r k m.length hm rfl hj hkk h3 hr
  have hog := fC (m := m) (j := j) (X := .own (0 + 1 + 3 + 3) 0 r.length 2) hj
  have hol := cD (m := m) (j := j) (X := .own (0 + 1 + 3 + 3) 0 r.length 2)
  refine aD Tryz.func204 Tryz.ntmps204 ?_
  repeat' (first|(apply aF;first|(apply lJ (j := j);rfl;exact pH m j hm hj;rfl;rfl)|(apply qV (m := m) (j := j) (t := t) (r := r) (n := m.length);rfl;rfl;rfl;rfl;rfl;rfl;exact hto;rfl;rfl))|refine aE ?_|refine cC ?_|fail)
  refine bD (Le.cls (o := 2) (q := 7) (j := j) (k := r.length) (m := m) (r := r) rfl rfl rfl hj (by decide)) ?_
  refine bD (Le.frzD (d := 4) (i := 2) rfl rfl) ?_
  rw [hog]
  refine aC (l := [.imm m.length (aA a8 (m.set j { m[j]! with stk := r })),iv m[j]!.val,iv 0]) rfl ?_
  have eM : bX m ⟨j, t⟩ false = m.set j { m[j]! with stk := r } := by
   unfold bX fM;rw [if_pos hk]; dsimp only
   rw [Int.toNat_natCast,hkk,Int.toNat_natCast,hr]
  have eN : kJ m ⟨j,t⟩ = m[j]!.val := by unfold kJ;rw [if_pos hk]; rfl
  rw [eM,eN,hk,dI (by rw [List.length_set])]
  exact ⟨rfl,by exact Pur.pf⟩
 ·refine aD Tryz.func204 Tryz.ntmps204 ?_
  repeat' (first|(apply aF;first|(apply fE;rfl;exact gW m hm;rfl;rfl)|(apply jY (m := m) (x := x) (wr := false) (n := m.length);rfl;rfl;rfl;rfl;exact lY m x false _ hm rfl hk;rfl;rfl))|refine aE ?_|(refine aL ?_ ?_ <;> intro hc hq <;> try (exfalso;omega))|fail)
  (refine bD (Le.frzD (d := 4) (i := 2) rfl rfl) ?_; refine aC rfl ?_)
  refine ⟨?_,by exact Pur.pf⟩
  simp only [aN]
  unfold bX kJ;rw [if_neg hk,if_neg hk]
theorem vG (m:List Cl) (hm:OkM m) (x:Pt):PC Tryz.prog 222 [sl a8 m,jR x] (fun r => r = .tup [sl a8 (eU m x),iv (aS m x true)]):=by
 have hml := hm.l
 by_cases hk : aS m x true = 0
 ·obtain ⟨c, t⟩ := x
  obtain ⟨h1,h2,h3,h4,hu⟩ := cU hk
  obtain ⟨j,rfl⟩ := Int.eq_ofNat_of_zero_le (show 0 ≤ c from h1)
  have hj : j < m.length := by have : (j : Int) < m.length := h2;omega
  obtain ⟨k,hkk⟩ := Int.eq_ofNat_of_zero_le (show 0 ≤ bH m[j]!.stk t from h4)
  have huk : m[j]!.stk[k]!.uq = true := by
   have h : m[j]!.stk[(bH m[j]!.stk t).toNat]!.uq = true := hu rfl
   rwa [hkk,Int.toNat_natCast] at h
  have htw := pJ m j t k m.length hm rfl hj hkk h3 huk
  have hrl : (m[j]!.stk.take (k + 1)).length = k + 1 := by
   have hb := cZ m[j]!.stk t
   rw [List.length_take]; omega
  have hol := cD (m := m) (j := j) (X := .own (0 + 1 + 2) 0 (k + 1) 2)
  have hls : (m.set j { m[j]! with alive := false }).length = m.length := List.length_set
  refine aD Tryz.func222 Tryz.ntmps222 ?_
  repeat' (first|(apply aF;first|(apply lJ (j := j);rfl;exact pH m j hm hj;rfl;rfl)|(apply rD (m := m) (j := j) (t := t) (k := k) (n := m.length);rfl;rfl;rfl;rfl;rfl;rfl;exact htw;rfl;rfl)|(apply bC;rfl;rfl;rfl;rfl;rfl;(rw [aI]; simp only [List.length_append,List.length_cons,List.length_nil]; omega);exact EV hj))|refine aE ?_|fail)
  refine bD (Le.cls (o := 2) (q := 3) (j := j) (k := k + 1) (m := m.set j { m[j]! with alive := false }) (r := m[j]!.stk.take (k + 1)) rfl rfl hrl.symm (by rw [hls]; exact hj) (by decide)) ?_
  refine bD (Le.frzD (d := 4) (i := 2) rfl rfl) ?_
  rw [iG hj,set_set]
  refine aC (l := [.imm m.length (aA a8 (m.set j { m[j]! with alive := false,stk := m[j]!.stk.take (k + 1) })),iv 0]) rfl ?_
  have eM : eU m ⟨j, t⟩ = m.set j { m[j]! with alive := false, stk := m[j]!.stk.take (k + 1) } := by
   unfold eU fM;rw [if_pos hk]; dsimp only
   rw [Int.toNat_natCast,hkk,Int.toNat_natCast]; unfold dJ;rw [if_pos rfl]
  rw [eM,hk,dI (by rw [List.length_set])]
  exact ⟨rfl,by exact Pur.pf⟩
 ·refine aD Tryz.func222 Tryz.ntmps222 ?_
  repeat' (first|(apply aF;first|(apply fE;rfl;exact gW m hm;rfl;rfl)|(apply jY (m := m) (x := x) (wr := true) (n := m.length);rfl;rfl;rfl;rfl;exact lY m x true _ hm rfl hk;rfl;rfl))|refine aE ?_|(refine aL ?_ ?_ <;> intro hc hq <;> try (exfalso;omega))|fail)
  (refine bD (Le.frzD (d := 4) (i := 2) rfl rfl) ?_; refine aC rfl ?_)
  refine ⟨?_,by exact Pur.pf⟩
  simp only [aN]
  unfold eU;rw [if_neg hk]
theorem sY (m:List Cl) (hm:OkM m) (x:Pt) (v:Int):PC Tryz.prog 205 [sl a8 m,jR x,iv v] (fun r => r = .tup [sl a8 (k3 m x v),iv (lO m x v)]):=by
 have hml := hm.l
 by_cases hv : 0 ≤ v ∧ v ≤ 9
 case neg =>
  have hwk : lO m x v = 4 := by unfold lO;rw [if_neg hv]
  have e : k3 m x v = m := by unfold k3;rw [if_neg (by rw [hwk]; decide)]
  refine aD Tryz.func205 Tryz.ntmps205 ?_
  repeat' (first|(apply aF;first|(apply fE;rfl;exact gW m hm;rfl;rfl)|(apply aB (k := 55);rfl;(apply cH);(rfl);rfl))|refine aE ?_|(refine aL ?_ ?_ <;> intro hc hq <;> try (exfalso;omega))|fail)
  all_goals (try (exfalso;omega))
  all_goals (
   (refine bD (Le.frzD (d := 6) (i := 2) rfl rfl) ?_; refine aC rfl ?_)
   refine ⟨?_,by exact Pur.pf⟩
   simp only [aN]
   rw [e,hwk])
 case pos =>
 have hwk : lO m x v = aS m x true := by unfold lO;rw [if_pos hv]
 by_cases hk : aS m x true = 0
 ·obtain ⟨c, t⟩ := x
  obtain ⟨h1,h2,h3,h4,hu⟩ := cU hk
  obtain ⟨j,rfl⟩ := Int.eq_ofNat_of_zero_le (show 0 ≤ c from h1)
  have hj : j < m.length := by have : (j : Int) < m.length := h2;omega
  obtain ⟨k,hkk⟩ := Int.eq_ofNat_of_zero_le (show 0 ≤ bH m[j]!.stk t from h4)
  have huk : m[j]!.stk[k]!.uq = true := by
   have h : m[j]!.stk[(bH m[j]!.stk t).toNat]!.uq = true := hu rfl
   rwa [hkk,Int.toNat_natCast] at h
  have htw := pJ m j t k m.length hm rfl hj hkk h3 huk
  have hrl : (m[j]!.stk.take (k + 1)).length = k + 1 := by
   have hb := cZ m[j]!.stk t
   rw [List.length_take]; omega
  have hol := cD (m := m) (j := j) (X := .own (0 + 1 + 2) 0 (k + 1) 2)
  have hls : (m.set j { m[j]! with val := v }).length = m.length := List.length_set
  refine aD Tryz.func205 Tryz.ntmps205 ?_
  repeat' (first|(apply aF;first|(apply lJ (j := j);rfl;exact pH m j hm hj;rfl;rfl)|(apply rD (m := m) (j := j) (t := t) (k := k) (n := m.length);rfl;rfl;rfl;rfl;rfl;rfl;exact htw;rfl;rfl)|(apply bC;rfl;rfl;rfl;rfl;rfl;(rw [aI]; simp only [List.length_append,List.length_cons,List.length_nil]; omega);exact FF hj)|(apply aB (k := 55);rfl;(apply cH);(rfl);rfl))|refine aE ?_|(refine aL ?_ ?_ <;> intro hc hq <;> try (exfalso;omega))|fail)
  refine bD (Le.cls (o := 2) (q := 3) (j := j) (k := k + 1) (m := m.set j { m[j]! with val := v }) (r := m[j]!.stk.take (k + 1)) rfl rfl hrl.symm (by rw [hls]; exact hj) (by decide)) ?_
  refine bD (Le.frzD (d := 6) (i := 2) rfl rfl) ?_
  rw [iG hj,set_set]
  refine aC (l := [.imm m.length (aA a8 (m.set j { m[j]! with val := v,stk := m[j]!.stk.take (k + 1) })),iv 0]) rfl ?_
  have eM : k3 m ⟨j, t⟩ v = m.set j { m[j]! with val := v, stk := m[j]!.stk.take (k + 1) } := by
   unfold k3 fM;rw [hwk,if_pos hk]; dsimp only
   rw [Int.toNat_natCast,hkk,Int.toNat_natCast]; unfold dJ;rw [if_pos rfl]
  rw [eM,hwk,hk,dI (by rw [List.length_set])]
  exact ⟨rfl,by exact Pur.pf⟩
 ·refine aD Tryz.func205 Tryz.ntmps205 ?_
  repeat' (first|(apply aF;first|(apply fE;rfl;exact gW m hm;rfl;rfl)|(apply jY (m := m) (x := x) (wr := true) (n := m.length);rfl;rfl;rfl;rfl;exact lY m x true _ hm rfl hk;rfl;rfl)|(apply aB (k := 55);rfl;(apply cH);(rfl);rfl))|refine aE ?_|(refine aL ?_ ?_ <;> intro hc hq <;> try (exfalso;omega))|fail)
  (refine bD (Le.frzD (d := 6) (i := 2) rfl rfl) ?_; refine aC rfl ?_)
  refine ⟨?_,by exact Pur.pf⟩
  simp only [aN]
  unfold k3;rw [hwk,if_neg hk]
theorem xT (m:List Cl) (hm:OkM m) (v:Int):PC Tryz.prog 219 [sl a8 m,iv v] (fun r => r = .tup [sl a8 (m ++ [kX v]),.agg [iv m.length,iv 0]]):=by
 have hml := hm.l
 refine aD Tryz.func219 Tryz.ntmps219 ?_
 repeat' (first|(apply aF;first|(apply fE;rfl;exact gW m hm;rfl;rfl)|(apply aM (t := _);rfl;rfl;rfl;(first|exact (rfl:_=some [_,_])|exact (rfl:_=some [_,_,_,_]));rfl;rfl))|refine aE ?_|fail)
 have e2 : AV.imm (m.length + 1) (((aA a8 m).drop 0).take (m.length * 4) ++ [iv v, bv true, iv 1, .imm 1 [iv 0, bv true]]) = sl a8 (m ++ [kX v]) := by
  have e : ((aA a8 m).drop 0).take (m.length * 4) ++ [iv v,bv true,iv 1,.imm 1 [iv 0,bv true]] = aA a8 (m ++ [kX v]) := fZ rfl rfl
  rw [e]; exact dI (by rw [List.length_append]; rfl)
 refine bD (Le.frzD (d := 4) (i := 5) rfl rfl) ?_
 refine aC (l := [AV.imm (m.length + 1) (((aA a8 m).drop 0).take (m.length * 4) ++ [iv v,bv true,iv 1,.imm 1 [iv 0,bv true]]),.agg [iv m.length,iv 0]]) rfl ?_
 rw [e2]
 exact ⟨rfl,by exact Pur.pf⟩
theorem xA (m:List Cl) (hm:OkM m) (v:Int):PC Tryz.prog 200 [sl a8 m,iv v] (fun r => r = .tup (if 0 ≤ v ∧ v ≤ 9 ∧ m.length < 200 then [sl a8 (m ++ [kX v]),.agg [iv m.length,iv 0],bv true] else [sl a8 [],.agg [iv 0,iv 0],bv false])):=by
 have hml := hm.l
 have hcv := fD m hm
 have hnc := xT m hm v
 refine aD Tryz.func200 Tryz.ntmps200 ?_
 repeat' (first|(apply aF;first|(apply aB (k := 218);rfl;exact hcv;exact Pur.pf;rfl)|(apply aB (k := 219);rfl;exact hnc;exact Pur.pf;rfl)|(apply aB (k := 55);rfl;(apply cH);(rfl);rfl))|refine aE ?_|(refine aL ?_ ?_ <;> intro hc hq <;> try (exfalso;omega))|(refine cS ?_ ?_ <;> intro hg hq <;> try (exfalso;omega))|refine cC ?_|fail)
 ·refine bD (Le.nilImm (d := 4) rfl) ?_
  exact aC (l := [sl a8 [],.agg [iv 0,iv 0],bv false]) rfl ⟨by rw [if_neg (by omega)]; rfl,rfl⟩
 ·exact aC (l := [sl a8 (m ++ [kX v]),.agg [iv m.length,iv 0],bv true]) rfl ⟨by rw [if_pos (by omega)]; rfl,by exact Pur.pf⟩
 ·refine bD (Le.nilImm (d := 4) rfl) ?_
  exact aC (l := [sl a8 [],.agg [iv 0,iv 0],bv false]) rfl ⟨by rw [if_neg (by omega)]; rfl,rfl⟩
theorem AT {m:List Cl}{j:Nat}{t:Int}{r:List Tg}{n:Nat}{x0 x1 x2:Operand}{i0 i1:Nat}(ha0:ev (lk tsl) x0 = some (.own i0 0 n 4)) (ha1:ev (lk tsl) x1 = some (.agg [iv (j:Int),iv t])) (ha2:ev (lk tsl) x2 = some (bv true)) (hH0:aO hsl i0 = some (aA dK (cF m j (.own i1 0 m[j]!.stk.length 2)))) (hH1:aO hsl i1 = some (aA bT m[j]!.stk)) (hdd:Go.AL.distinct [i0,i1] = true) (hmc:MC Tryz.prog 221 [.own 0 0 n 4,.agg [iv (j:Int),iv t],bv true] [(0,some (aA dK (cF m j (.own 1 0 m[j]!.stk.length 2)))),(1,some (aA bT m[j]!.stk))] 2 (fun _:Unit => True) (fun _ => iv 0) (fun _ => [(0,some (aA dK (cF m j (.own 1 0 r.length 2)))),(1,some (aA bT r))])) (hM:Nat.ble (nidl + 0) cW = true) (hN:Nat.blt d N = true){md':Md}[hmd:MdA md (fH [x0,x1,x2] ++ [.inr i0,.inr i1]) (List.map Sum.inr (List.map Prod.fst ([(i0,some (aA dK (cF m j (.own i1 0 r.length 2)))),(i1,some (aA bT r))]:List (Nat × Option (List AV)))) ++ [.inl d]) md'] (kk:RW Tryz.prog N all Q md' rest ⟨(d,iv 0) :: tsl,gH hsl [(i0,some (aA dK (cF m j (.own i1 0 r.length 2)))),(i1,some (aA bT r))],nidl + 0,z0⟩):RW Tryz.prog N all Q md (⟨some d,.call ⟨.value (.func 221),#[x0,x1,x2],tys⟩,ty,pos,af,none⟩ :: rest) ⟨tsl,hsl,nidl,z0⟩:=by
 exact aZ (l := [x0,x1,x2]) [i0,i1] 2 [(i0,some (aA dK (cF m j (.own i1 0 r.length 2)))),(i1,some (aA bT r))] hmc (avs := [.own i0 0 n 4,.agg [iv (j : Int),iv t],bv true]) (by simp only [evL,ha0,ha1,ha2]) hdd hM hN (md' := md') (hmd := hmd) kk
theorem CH (m:List Cl) (j:Nat) (t:Int) (r:List Tg) (k n:Nat) (hm:OkM m) (hn:n = m.length) (hj:j < m.length) (hk:bH m[j]!.stk t = (k:Int)) (hal:m[j]!.alive = true) (hu:m[j]!.stk[k]!.uq = true) (hre:m[j]!.stk.take (k + 1) = r) (hrk:k + 1 = r.length):MC Tryz.prog 221 [.own 0 0 n 4,.agg [iv (j:Int),iv t],bv true] [(0,some (aA dK (cF m j (.own 1 0 m[j]!.stk.length 2)))),(1,some (aA bT m[j]!.stk))] 2 (fun _:Unit => True) (fun _ => iv 0) (fun _ => [(0,some (aA dK (cF m j (.own 1 0 r.length 2)))),(1,some (aA bT r))]):=by
 have h := pJ m j t k n hm hn hj hk hal hu
 rw [hre,hrk] at h
 exact h
theorem F7 (m:List Cl) (hm:OkM m) (j k:Nat) (t:Int) (r:List Tg) (hj:j < m.length) (hkk:bH m[j]!.stk t = (k:Int)) (hk:aS m ⟨(j:Int),t⟩ false = 0) (hr:r = dJ m[j]!.stk k false):PC Tryz.prog 202 [sl a8 m,.agg [iv (j:Int),iv t],bv false] (fun z => z = .tup [sl a8 (gL m m j false r),jR (gJ m j r),iv (gK m j r)]):=by
 have hml := hm.l
 obtain ⟨h1,h2,h3,h4,hu⟩ := cU hk
 have hc := ((b9 m).1 hm).2 j hj
 have hb := cZ m[j]!.stk t
 have hrl : r.length ≤ 200 := by rw [hr]; exact Nat.le_trans tchS_sub.length_le hc.l.2
 have hnx := hc.n
 obtain ⟨_,e2,_⟩ := iP hk (r := r) (by rw [hr]; show _ = dJ m[j]!.stk (bH m[j]!.stk t).toNat false;rw [hkk]; rfl)
 have e2' : fY m ⟨(j : Int),t⟩ false = gL m m j false r := e2
 have hok := hm.ln ⟨(j : Int),t⟩ false
 rw [e2'] at hok
 have hto := tX m j t r k m.length hm rfl hj hkk h3 hr
 have hog := fC (m := m) (j := j) (X := .own (0 + 1 + 1 + 3 + 3) 0 r.length 2) hj
 have hol := cD (m := m) (j := j) (X := .own (0 + 1 + 1 + 3 + 3) 0 r.length 2)
 have hol2 := cD (m := m) (j := j) (X := .own (0 + 1 + 1 + 3 + 4 + 1) 0 (r.length + 1) 2)
 have hm2 : (m.set j { m[j]! with next := m[j]!.next + 1 }).length = m.length := List.length_set
 refine aD Tryz.func202 Tryz.ntmps202 ?_
 repeat' (first|(apply aF;first|(apply lJ (j := j);rfl;exact pH m j hm hj;rfl;rfl)|(apply qV (m := m) (j := j) (t := t) (r := r) (n := m.length);rfl;rfl;rfl;rfl;rfl;rfl;exact hto;rfl;rfl)|(with_reducible apply a6 (d := 32)))|refine aE ?_|fail)
 refine b7 ?_
 rw [hog]
 dsimp only
 by_cases hf : k5 m j r
 ·have eM : gL m m j false r = m := by unfold gL; rw [if_pos hf]
  have eP : gJ m j r = ⟨0,0⟩ := by unfold gJ;rw [if_pos hf]
  have eK : gK m j r = 4 := by unfold gK;rw [if_pos hf]
  rw [eM,eP,eK]
  unfold k5 at hf
  repeat' (first|(apply aF;first|(apply fE;rfl;exact gW m hm;rfl;rfl)|(with_reducible apply a6 (d := 44)))|refine aE ?_|(refine aL ?_ ?_ <;> intro hc hq <;> try (exfalso;omega))|(refine cS ?_ ?_ <;> intro hg hq <;> try (exfalso;omega))|fail)
  ·refine bD (Le.frzD (d := 6) (i := 10) rfl rfl) ?_
   exact aC (l := [sl a8 m,.agg [iv 0,iv 0],iv 4]) rfl ⟨rfl,by exact Pur.pf⟩
  ·exfalso
   have h : ¬ (cF m j (.own (0 + 1 + 1 + 3 + 3) 0 r.length 2))[j]!.next = 1000 := by assumption
   rw [hog] at h
   dsimp only at h
   omega
  ·refine bD (Le.frzD (d := 6) (i := 10) rfl rfl) ?_
   exact aC (l := [sl a8 m,.agg [iv 0,iv 0],iv 4]) rfl ⟨rfl,by exact Pur.pf⟩
 ·have eM : gL m m j false r = m.set j (psh { m[j]! with stk := r } false) := by unfold gL; rw [if_neg hf]
  have eP : gJ m j r = ⟨j,m[j]!.next⟩ := by unfold gJ;rw [if_neg hf]
  have eK : gK m j r = 0 := by unfold gK;rw [if_neg hf]
  rw [eM] at hok
  rw [eM,eP,eK]
  unfold k5 at hf
  have hown := gW _ hok
  repeat' (first|(apply aF;first|(with_reducible apply a6 (d := 41))|(with_reducible apply a6 (d := 54)))|refine aE ?_|(refine aL ?_ ?_ <;> intro hc hq <;> try (exfalso;omega))|(refine cS ?_ ?_ <;> intro hg hq <;> try (exfalso;omega))|fail)
  ·exfalso
   have h : (cF m j (.own (0 + 1 + 1 + 3 + 3) 0 r.length 2))[j]!.next = 1000 := by assumption
   rw [hog] at h
   dsimp only at h
   omega
  ·refine b7 ?_
   rw [hog]
   dsimp only
   repeat' (first|(apply aF;first|(apply bC;rfl;rfl;rfl;rfl;rfl;(rw [aI,cD]; simp only [List.length_append,List.length_cons,List.length_nil]; omega);(first|exact oV hj|exact rN hj))|(apply dH;rfl;rfl;rfl;rfl;rfl;(rw [aI]; omega);(rfl);omega;omega;(exact n7 (by (omega)));rfl;rfl)|(apply aM (t := _);rfl;rfl;rfl;(exact (rfl:_=some [_,_]));rfl;rfl))|refine aE ?_|fail)
   refine AW.le ?_ (Le.cls (o := 3) (q := 0 + 1 + 1 + 3 + 4 + 1) (j := j) (k := r.length + 1) (m := m.set j { m[j]! with next := m[j]!.next + 1 }) (r := r ++ [⟨m[j]!.next,false⟩]) rfl rfl (by (rw [List.length_append]; rfl)) (by omega) (by decide))
   refine AW.le ?_ (Le.frzD (d := 9) (i := 3) rfl rfl)
   have e : (m.set j { m[j]! with next := m[j]!.next + 1 }).set j { (m.set j { m[j]! with next := m[j]!.next + 1 })[j]! with stk := r ++ [⟨m[j]!.next, false⟩] } = m.set j (psh { m[j]! with stk := r } false) := by
    rw [iG hj,set_set]; rfl
   rw [e,dI (f := a8) (xs := m.set j (psh { m[j]! with stk := r } false)) (by rw [List.length_set])]
   repeat' (first|(apply aF;(apply fE;rfl;exact hown;rfl;rfl))|refine aE ?_|refine cC ?_|fail)
   refine bD (Le.frzD (d := 6) (i := 12) rfl rfl) ?_
   exact aC (l := [sl a8 (m.set j (psh { m[j]! with stk := r } false)),.agg [iv (j : Int),iv m[j]!.next],iv 0]) rfl ⟨rfl,by exact Pur.pf⟩
  all_goals (exfalso;omega)
theorem EL (m:List Cl) (hm:OkM m) (j k:Nat) (t:Int) (r:List Tg) (hj:j < m.length) (hkk:bH m[j]!.stk t = (k:Int)) (hk:aS m ⟨(j:Int),t⟩ true = 0) (hr:r = dJ m[j]!.stk k true):PC Tryz.prog 202 [sl a8 m,.agg [iv (j:Int),iv t],bv true] (fun z => z = .tup [sl a8 (gL m m j true r),jR (gJ m j r),iv (gK m j r)]):=by
 have hml := hm.l
 obtain ⟨h1,h2,h3,h4,hu⟩ := cU hk
 have hc := ((b9 m).1 hm).2 j hj
 have hb := cZ m[j]!.stk t
 have hrl : r.length ≤ 200 := by rw [hr]; exact Nat.le_trans tchS_sub.length_le hc.l.2
 have hnx := hc.n
 obtain ⟨_,e2,_⟩ := iP hk (r := r) (by rw [hr]; show _ = dJ m[j]!.stk (bH m[j]!.stk t).toNat true;rw [hkk]; rfl)
 have e2' : fY m ⟨(j : Int),t⟩ true = gL m m j true r := e2
 have hok := hm.ln ⟨(j : Int),t⟩ true
 rw [e2'] at hok
 have huk : m[j]!.stk[k]!.uq = true := by
  have h : m[j]!.stk[(bH m[j]!.stk t).toNat]!.uq = true := hu rfl
  rwa [hkk,Int.toNat_natCast] at h
 have hre : m[j]!.stk.take (k + 1) = r := by rw [hr]; unfold dJ;rw [if_pos rfl]
 have hrk : k + 1 = r.length := by rw [← hre,List.length_take]; omega
 have hto := CH m j t r k m.length hm rfl hj hkk h3 huk hre hrk
 clear hre hrk huk hu hr hkk
 have hog := fC (m := m) (j := j) (X := .own (0 + 1 + 1 + 2) 0 r.length 2) hj
 have hol := cD (m := m) (j := j) (X := .own (0 + 1 + 1 + 2) 0 r.length 2)
 have hol2 := cD (m := m) (j := j) (X := .own (0 + 1 + 1 + 3 + 0 + 1) 0 (r.length + 1) 2)
 have hm2 : (m.set j { m[j]! with next := m[j]!.next + 1 }).length = m.length := List.length_set
 refine aD Tryz.func202 Tryz.ntmps202 ?_
 repeat' (first|(apply aF;first|(apply lJ (j := j);rfl;exact pH m j hm hj;rfl;rfl)|(apply AT (m := m) (j := j) (t := t) (r := r) (n := m.length);rfl;rfl;rfl;rfl;rfl;rfl;exact hto;rfl;rfl)|(with_reducible apply a6 (d := 32)))|refine aE ?_|fail)
 refine b7 ?_
 rw [hog]
 dsimp only
 by_cases hf : k5 m j r
 ·have eM : gL m m j true r = m := by unfold gL; rw [if_pos hf]
  have eP : gJ m j r = ⟨0,0⟩ := by unfold gJ;rw [if_pos hf]
  have eK : gK m j r = 4 := by unfold gK;rw [if_pos hf]
  rw [eM,eP,eK]
  unfold k5 at hf
  repeat' (first|(apply aF;first|(apply fE;rfl;exact gW m hm;rfl;rfl)|(with_reducible apply a6 (d := 44)))|refine aE ?_|(refine aL ?_ ?_ <;> intro hc hq <;> try (exfalso;omega))|(refine cS ?_ ?_ <;> intro hg hq <;> try (exfalso;omega))|fail)
  ·refine bD (Le.frzD (d := 6) (i := 6) rfl rfl) ?_
   exact aC (l := [sl a8 m,.agg [iv 0,iv 0],iv 4]) rfl ⟨rfl,by exact Pur.pf⟩
  ·exfalso
   have h : ¬ (cF m j (.own (0 + 1 + 1 + 2) 0 r.length 2))[j]!.next = 1000 := by assumption
   rw [hog] at h
   dsimp only at h
   omega
  ·refine bD (Le.frzD (d := 6) (i := 6) rfl rfl) ?_
   exact aC (l := [sl a8 m,.agg [iv 0,iv 0],iv 4]) rfl ⟨rfl,by exact Pur.pf⟩
 ·have eM : gL m m j true r = m.set j (psh { m[j]! with stk := r } true) := by unfold gL; rw [if_neg hf]
  have eP : gJ m j r = ⟨j,m[j]!.next⟩ := by unfold gJ;rw [if_neg hf]
  have eK : gK m j r = 0 := by unfold gK;rw [if_neg hf]
  rw [eM] at hok
  rw [eM,eP,eK]
  unfold k5 at hf
  have hown := gW _ hok
  repeat' (first|(apply aF;first|(with_reducible apply a6 (d := 41))|(with_reducible apply a6 (d := 54)))|refine aE ?_|(refine aL ?_ ?_ <;> intro hc hq <;> try (exfalso;omega))|(refine cS ?_ ?_ <;> intro hg hq <;> try (exfalso;omega))|fail)
  ·exfalso
   have h : (cF m j (.own (0 + 1 + 1 + 2) 0 r.length 2))[j]!.next = 1000 := by assumption
   rw [hog] at h
   dsimp only at h
   omega
  ·refine b7 ?_
   rw [hog]
   dsimp only
   repeat' (first|(apply aF;first|(apply bC;rfl;rfl;rfl;rfl;rfl;(rw [aI,cD]; simp only [List.length_append,List.length_cons,List.length_nil]; omega);(first|exact oV hj|exact rN hj))|(apply dH;rfl;rfl;rfl;rfl;rfl;(rw [aI]; omega);(rfl);omega;omega;(exact n7 (by (omega)));rfl;rfl)|(apply aM (t := _);rfl;rfl;rfl;(exact (rfl:_=some [_,_]));rfl;rfl))|refine aE ?_|fail)
   refine AW.le ?_ (Le.cls (o := 3) (q := 0 + 1 + 1 + 3 + 0 + 1) (j := j) (k := r.length + 1) (m := m.set j { m[j]! with next := m[j]!.next + 1 }) (r := r ++ [⟨m[j]!.next,true⟩]) rfl rfl (by (rw [List.length_append]; rfl)) (by omega) (by decide))
   refine AW.le ?_ (Le.frzD (d := 9) (i := 3) rfl rfl)
   have e : (m.set j { m[j]! with next := m[j]!.next + 1 }).set j { (m.set j { m[j]! with next := m[j]!.next + 1 })[j]! with stk := r ++ [⟨m[j]!.next, true⟩] } = m.set j (psh { m[j]! with stk := r } true) := by
    rw [iG hj,set_set]; rfl
   rw [e,dI (f := a8) (xs := m.set j (psh { m[j]! with stk := r } true)) (by rw [List.length_set])]
   repeat' (first|(apply aF;(apply fE;rfl;exact hown;rfl;rfl))|refine aE ?_|refine cC ?_|fail)
   refine bD (Le.frzD (d := 6) (i := 8) rfl rfl) ?_
   exact aC (l := [sl a8 (m.set j (psh { m[j]! with stk := r } true)),.agg [iv (j : Int),iv m[j]!.next],iv 0]) rfl ⟨rfl,by exact Pur.pf⟩
  all_goals (exfalso;omega)
theorem EN (m:List Cl) (hm:OkM m) (x:Pt) (u:Bool):PC Tryz.prog 202 [sl a8 m,jR x,bv u] (fun r => r = .tup [sl a8 (fY m x u),jR (lQ m x u),iv (gX m x u)]):=by
 have hml := hm.l
 by_cases hk : aS m x u = 0
 ·obtain ⟨c, t⟩ := x
  obtain ⟨h1,h2,h3,h4,hu⟩ := cU hk
  obtain ⟨j,rfl⟩ := Int.eq_ofNat_of_zero_le (show 0 ≤ c from h1)
  have hj : j < m.length := by have : (j : Int) < m.length := h2;omega
  obtain ⟨k,hkk⟩ := Int.eq_ofNat_of_zero_le (show 0 ≤ bH m[j]!.stk t from h4)
  obtain ⟨r,hr⟩ : ∃ r,r = dJ m[j]!.stk k u := ⟨_,rfl⟩
  obtain ⟨e1,e2,e3⟩ := iP hk (r := r) (by rw [hr]; show _ = dJ m[j]!.stk (bH m[j]!.stk t).toNat u;rw [hkk]; rfl)
  rw [e1,e2,e3]
  cases u
  ·exact F7 m hm j k t r hj hkk hk hr
  ·exact EL m hm j k t r hj hkk hk hr
 ·obtain ⟨e1, e2, e3⟩ := BR hk
  rw [e1,e2,e3]
  refine aD Tryz.func202 Tryz.ntmps202 ?_
  repeat' (first|(apply aF;first|(apply fE;rfl;exact gW m hm;rfl;rfl)|(apply jY (m := m) (x := x) (wr := u) (n := m.length);rfl;rfl;rfl;rfl;exact lY m x u _ hm rfl hk;rfl;rfl))|refine aE ?_|(refine aL ?_ ?_ <;> intro hc hq <;> try (exfalso;omega))|fail)
  refine bD (Le.frzD (d := 6) (i := 3) rfl rfl) ?_
  exact aC (l := [sl a8 m,.agg [iv 0,iv 0],iv (aS m x u)]) rfl ⟨rfl,by exact Pur.pf⟩
abbrev mO (ts : List Int) (bd : List AL.Stmt) (pts : List Pnt) (i1 i2 : Nat) (s : Mc) : List AV := [aG ts bd pts,.own i1 0 ts.length 4,sl a8 s.cells,.own i2 0 s.read.length 1]
theorem vU {ts:List Int}{bd:List AL.Stmt}{pts:List Pnt}{s:Mc}{v:Nat}{x0 x1:Operand}{i0 i1 i2:Nat}(ha0:ev (lk tsl) x0 = some (.optr i0 0)) (ha1:ev (lk tsl) x1 = some (iv (v:Int))) (hH0:aO hsl i0 = some (mO ts bd pts i1 i2 s)) (hH1:aO hsl i1 = some (aA cG s.slots)) (hH2:aO hsl i2 = some (aA cI s.read)) (hdd:Go.AL.distinct [i0,i1,i2] = true) (hmc:MC Tryz.prog 206 [.optr 0 0,iv (v:Int)] [(0,some (mO ts bd pts 1 2 s)),(1,some (aA cG s.slots)),(2,some (aA cI s.read))] 3 (fun _:Unit => True) (fun _ => iv (gM (aS s.cells s.slots[v]!.ptr true))) (fun _ => [(0,some ([aG ts bd pts,.own 1 0 ts.length 4,sl a8 (eU s.cells s.slots[v]!.ptr),.own 2 0 s.read.length 1])),(1,some (aA cG s.slots)),(2,some (aA cI s.read))])) (hM:Nat.ble (nidl + 0) cW = true) (hN:Nat.blt d N = true){md':Md}[hmd:MdA md (fH [x0,x1] ++ [.inr i0,.inr i1,.inr i2]) (List.map Sum.inr (List.map Prod.fst ([(i0,some ([aG ts bd pts,.own i1 0 ts.length 4,sl a8 (eU s.cells s.slots[v]!.ptr),.own i2 0 s.read.length 1])),(i1,some (aA cG s.slots)),(i2,some (aA cI s.read))]:List (Nat × Option (List AV)))) ++ [.inl d]) md'] (kk:RW Tryz.prog N all Q md' rest ⟨(d,iv (gM (aS s.cells s.slots[v]!.ptr true))) :: tsl,gH hsl [(i0,some ([aG ts bd pts,.own i1 0 ts.length 4,sl a8 (eU s.cells s.slots[v]!.ptr),.own i2 0 s.read.length 1])),(i1,some (aA cG s.slots)),(i2,some (aA cI s.read))],nidl + 0,z0⟩):RW Tryz.prog N all Q md (⟨some d,.call ⟨.value (.func 206),#[x0,x1],tys⟩,ty,pos,af,none⟩ :: rest) ⟨tsl,hsl,nidl,z0⟩:=by
 exact aZ (l := [x0,x1]) [i0,i1,i2] 3 [(i0,some ([aG ts bd pts,.own i1 0 ts.length 4,sl a8 (eU s.cells s.slots[v]!.ptr),.own i2 0 s.read.length 1])),(i1,some (aA cG s.slots)),(i2,some (aA cI s.read))] hmc (avs := [.optr i0 0,iv (v : Int)]) (by simp only [evL,ha0,ha1]) hdd hM hN (md' := md') (hmd := hmd) kk
theorem tM (ts:List Int) (bd:List AL.Stmt) (pts:List Pnt) (s:Mc) (v:Nat) (hm:OkM s.cells) (hsl:s.slots.length = ts.length) (hv:v < ts.length):MC Tryz.prog 206 [.optr 0 0,iv (v:Int)] [(0,some (mO ts bd pts 1 2 s)),(1,some (aA cG s.slots)),(2,some (aA cI s.read))] 3 (fun _:Unit => True) (fun _ => iv (gM (aS s.cells s.slots[v]!.ptr true))) (fun _ => [(0,some ([aG ts bd pts,.own 1 0 ts.length 4,sl a8 (eU s.cells s.slots[v]!.ptr),.own 2 0 s.read.length 1])),(1,some (aA cG s.slots)),(2,some (aA cI s.read))]):=by
 have hfc := vG s.cells hm s.slots[v]!.ptr
 refine aT Tryz.func206 Tryz.ntmps206 ?_
 repeat' (first|(apply aF;first|(apply fV;(case hx|hH => rfl);(case hf|hg|hα => infer_instance);(case hk => omega);(case hj => decide);(case hc => exact (rfl:_=[_,_]));(case h0|hN => rfl))|(apply aB (k := 222);rfl;exact hfc;exact Pur.pf;rfl)|(apply aB (k := 203);rfl;(apply nH);(rfl);rfl))|refine aE ?_|(refine aL ?_ ?_ <;> intro hc hq <;> try (exfalso;omega))|refine cC ?_|fail)
 ·have hk : ¬ aS s.cells s.slots[v]!.ptr true = 0 := by assumption
  (refine aC rfl ?_; refine aQ () trivial ?_ ⟨sE ?_,⟨sE ?_,⟨sE ?_,trivial⟩⟩⟩)
  ·show iv (c6 _) = iv (gM _)
   unfold gM;rw [if_neg hk]
  ·rfl
  ·rfl
  ·rfl
 ·have hk : aS s.cells s.slots[v]!.ptr true = 0 := by assumption
  (refine aC rfl ?_; refine aQ () trivial ?_ ⟨sE ?_,⟨sE ?_,⟨sE ?_,trivial⟩⟩⟩)
  ·rw [hk]; rfl
  ·rfl
  ·rfl
  ·rfl
theorem HH (ts:List Int) (bd:List AL.Stmt) (pts:List Pnt) (s:Mc) (v:Nat) (y:Sl) (hm:OkM s.cells) (hsl:s.slots.length = ts.length) (hv:v < ts.length):MC Tryz.prog 199 [.optr 0 0,iv (v:Int),Dy y] [(0,some (mO ts bd pts 1 2 s)),(1,some (aA cG s.slots)),(2,some (aA cI s.read))] 3 (fun _:Unit => True) (fun _ => iv (a7 ts s v y).2) (fun _ => [(0,some (mO ts bd pts 1 2 (a7 ts s v y).1)),(1,some (aA cG (a7 ts s v y).1.slots)),(2,some (aA cI (a7 ts s v y).1.read))]):=by
 have hfr := tM ts bd pts s v hm hsl hv
 refine aT Tryz.func199 Tryz.ntmps199 ?_
 repeat' (first|(apply aF;first|(apply vU (ts := ts) (bd := bd) (pts := pts) (s := s) (v := v);rfl;rfl;rfl;rfl;rfl;rfl;exact hfr;rfl;rfl)|(apply bC;rfl;rfl;rfl;rfl;rfl;(rw [aI]; simp only [kH] <;> omega);(exact rF (by (omega)))))|refine aE ?_|(refine aL ?_ ?_ <;> intro hc hq <;> try (exfalso;omega))|(refine cS ?_ ?_ <;> intro hg hq <;> try (exfalso;omega))|refine cC ?_|fail)
 ·have hp : a7 ts s v y = (⟨s.slots.set v y, eU s.cells s.slots[v]!.ptr, s.read⟩, gM (aS s.cells s.slots[v]!.ptr true)) := if_pos ⟨by assumption, by assumption⟩
  rw [hp]
  (refine aC rfl ?_; refine aQ () trivial ?_ ⟨sE ?_,⟨sE ?_,⟨sE ?_,trivial⟩⟩⟩)
  ·rfl
  ·rfl
  ·rfl
  ·rfl
 all_goals (
  have hp : a7 ts s v y = (⟨s.slots.set v y, s.cells, s.read⟩, -1) := if_neg (by
   rintro ⟨q1,q2⟩
   first|(exact (by assumption : ¬ ts[v]! = 2) q1)|(rw [(by assumption : s.slots[v]!.set = false)] at q2;exact absurd q2 (by decide)))
  rw [hp]
  (refine aC rfl ?_; refine aQ () trivial ?_ ⟨sE ?_,⟨sE ?_,⟨sE ?_,trivial⟩⟩⟩)
  ·rfl
  ·rfl
  ·rfl
  ·rfl)
theorem FL {ts:List Int}{bd:List AL.Stmt}{pts:List Pnt}{s:Mc}{x0:Operand}{i0 i1 i2:Nat}(ha0:ev (lk tsl) x0 = some (.optr i0 0)) (hH0:aO hsl i0 = some (mO ts bd pts i1 i2 s)) (hH1:aO hsl i1 = some (aA cG s.slots)) (hH2:aO hsl i2 = some (aA cI s.read)) (hdd:Go.AL.distinct [i0,i1,i2] = true) (hmc:MC Tryz.prog 207 [.optr 0 0] [(0,some (mO ts bd pts 1 2 s)),(1,some (aA cG s.slots)),(2,some (aA cI s.read))] 3 (fun _:Unit => True) (fun _ => iv (bW ts ts.length 0 s).2) (fun _ => [(0,some (mO ts bd pts 1 2 (bW ts ts.length 0 s).1)),(1,some (aA cG (bW ts ts.length 0 s).1.slots)),(2,some (aA cI (bW ts ts.length 0 s).1.read))])) (hM:Nat.ble (nidl + 0) cW = true) (hN:Nat.blt d N = true){md':Md}[hmd:MdA md (fH [x0] ++ [.inr i0,.inr i1,.inr i2]) (List.map Sum.inr (List.map Prod.fst ([(i0,some (mO ts bd pts i1 i2 (bW ts ts.length 0 s).1)),(i1,some (aA cG (bW ts ts.length 0 s).1.slots)),(i2,some (aA cI (bW ts ts.length 0 s).1.read))]:List (Nat × Option (List AV)))) ++ [.inl d]) md'] (kk:RW Tryz.prog N all Q md' rest ⟨(d,iv (bW ts ts.length 0 s).2) :: tsl,gH hsl [(i0,some (mO ts bd pts i1 i2 (bW ts ts.length 0 s).1)),(i1,some (aA cG (bW ts ts.length 0 s).1.slots)),(i2,some (aA cI (bW ts ts.length 0 s).1.read))],nidl + 0,z0⟩):RW Tryz.prog N all Q md (⟨some d,.call ⟨.value (.func 207),#[x0],tys⟩,ty,pos,af,none⟩ :: rest) ⟨tsl,hsl,nidl,z0⟩:=by
 exact aZ (l := [x0]) [i0,i1,i2] 3 [(i0,some (mO ts bd pts i1 i2 (bW ts ts.length 0 s).1)),(i1,some (aA cG (bW ts ts.length 0 s).1.slots)),(i2,some (aA cI (bW ts ts.length 0 s).1.read))] hmc (avs := [.optr i0 0]) (by simp only [evL,ha0]) hdd hM hN (md' := md') (hmd := hmd) kk
theorem HX (ts:List Int) (bd:List AL.Stmt) (pts:List Pnt) (s:Mc) (hm:OkM s.cells) (hsl:s.slots.length = ts.length) (hl:ts.length ≤ 1048576):MC Tryz.prog 207 [.optr 0 0] [(0,some (mO ts bd pts 1 2 s)),(1,some (aA cG s.slots)),(2,some (aA cI s.read))] 3 (fun _:Unit => True) (fun _ => iv (bW ts ts.length 0 s).2) (fun _ => [(0,some (mO ts bd pts 1 2 (bW ts ts.length 0 s).1)),(1,some (aA cG (bW ts ts.length 0 s).1.slots)),(2,some (aA cI (bW ts ts.length 0 s).1.read))]):=by
 refine aT Tryz.func207 Tryz.ntmps207 ?_
 repeat' (first|refine aE ?_|fail)
 refine aK (σ := Nat × Mc) [0,13,14] [] (fun k => [(15,iv (k.1 : Int))]) (fun k => [(0,some (mO ts bd pts 1 2 k.2)),(1,some (aA cG k.2.slots)),(2,some (aA cI k.2.read))]) (fun k => k.1 ≤ ts.length ∧ bW ts (ts.length - k.1) k.1 k.2 = bW ts ts.length 0 s ∧ OkM k.2.cells ∧ k.2.slots.length = ts.length) (fun k => ts.length - k.1) (0,s) ⟨Nat.zero_le _,rfl,hm,hsl⟩ ?_
 rintro ⟨v,q⟩ ⟨hv,hf,hmq,hlq⟩
 dsimp only at hv hf hmq hlq ⊢
 by_cases hvn : v < ts.length
 ·have hfr := tM ts bd pts q v hmq hlq hvn
  repeat' (first|(apply aF;first|(apply vU (ts := ts) (bd := bd) (pts := pts) (s := q) (v := v);rfl;rfl;rfl;rfl;rfl;rfl;exact hfr;rfl;rfl)|(apply bC;rfl;rfl;rfl;rfl;rfl;(rw [aI]; simp only [kH] <;> omega);(exact rF (by (omega)))))|refine aE ?_|(refine aL ?_ ?_ <;> intro hc hq <;> try (exfalso;omega))|(refine cS ?_ ?_ <;> intro hg hq <;> try (exfalso;omega))|fail)
  ·(refine c9 (v + 1, q) (Le.renA []) ?_ ?_)
   ·refine ⟨by omega, ?_, hmq, hlq⟩
    dsimp only
    rw [← hf, show ts.length - v = (ts.length - (v + 1)) + 1 by omega, tF (fun h => by
     have h2 : q.slots[v]!.set = false := by assumption
     rw [h2] at h;exact absurd h.2 (by decide))]
   ·dsimp only;omega
  ·have hk : ¬ aS q.cells q.slots[v]!.ptr true = 0 := fun h => by
    have h2 : ¬ gM (aS q.cells q.slots[v]!.ptr true) = -1 := by assumption
    rw [h] at h2;exact h2 rfl
   have hq2 : bW ts ts.length 0 s = (⟨q.slots, eU q.cells q.slots[v]!.ptr, q.read⟩, c6 (aS q.cells q.slots[v]!.ptr true)) := by
    rw [← hf,show ts.length - v = (ts.length - (v + 1)) + 1 by omega,DG ⟨by assumption,by assumption⟩ hk]
   rw [hq2]
   (refine aC rfl ?_; refine aQ () trivial ?_ ⟨sE ?_,⟨sE ?_,⟨sE ?_,trivial⟩⟩⟩)
   ·show iv (gM _) = iv (c6 _)
    unfold gM;rw [if_neg hk]
   ·rfl
   ·rfl
   ·rfl
  ·have hk : aS q.cells q.slots[v]!.ptr true = 0 := by
    have h2 : gM (aS q.cells q.slots[v]!.ptr true) = -1 := by assumption
    unfold gM at h2
    by_cases h : aS q.cells q.slots[v]!.ptr true = 0
    ·exact h
    ·rw [if_neg h] at h2;unfold c6 at h2;split at h2 <;> cases h2
   have hls : (q.slots.set v eG).length = q.slots.length := List.length_set
   (refine c9 (v + 1,⟨q.slots.set v eG,eU q.cells q.slots[v]!.ptr,q.read⟩) (Le.renA []) ?_ ?_)
   ·refine ⟨by dsimp only; omega, ?_, hmq.fr _, by show (q.slots.set v eG).length = _; rw [List.length_set]; exact hlq⟩
    dsimp only
    rw [← hf,show ts.length - v = (ts.length - (v + 1)) + 1 by omega,CB ⟨by assumption,by assumption⟩ hk]
   ·dsimp only;omega
  ·(refine c9 (v + 1, q) (Le.renA []) ?_ ?_)
   ·refine ⟨by omega, ?_, hmq, hlq⟩
    dsimp only
    rw [← hf, show ts.length - v = (ts.length - (v + 1)) + 1 by omega, tF (fun h => by
     have h2 : ¬ ts[v]! = 2 := by assumption
     exact h2 h.1)]
   ·dsimp only;omega
 ·have hve : v = ts.length := by omega
  have hq2 : bW ts ts.length 0 s = (q,0) := by rw [← hf,hve,Nat.sub_self]; rfl
  repeat' (first|refine aE ?_|(refine aL ?_ ?_ <;> intro hc hq <;> try (exfalso;omega))|fail)
  rw [hq2]
  (refine aC rfl ?_; refine aQ () trivial ?_ ⟨sE ?_,⟨sE ?_,⟨sE ?_,trivial⟩⟩⟩)
  ·rfl
  ·rfl
  ·rfl
  ·rfl
def cX (ts : List Int) (s : Mc) (x : Pnt) : Mc × Int := if bK ts s x = true then (s,2) else bE ts s x
theorem pZ {ts:List Int}{s:Mc}{x:Pnt}(h:bK ts s x = true):cX ts s x = (s,2) := if_pos h
theorem m6 {ts:List Int}{s:Mc}{x:Pnt}(h:bK ts s x = false):cX ts s x = bE ts s x := if_neg (by rw [h]; decide)
theorem fJ {ts:List Int}{x:Pnt}{v:Int}(h:v ∈ dF (wS ts x [1,2,3])):0 ≤ v ∧ v < ts.length:=by
 obtain ⟨v',h3,h4,rfl⟩ := eC.1 h
 rw [gB,Bool.and_eq_true,decide_eq_true_eq] at h4
 omega
theorem bU {ts:List Int}{s:Mc}{x:Pnt}(htl:ts.length ≤ 6):bK ts s x = true ↔ ∃ v ∈ dF (wS ts x [1,2,3]),s.slots[v.toNat]!.set = false:=by
 constructor
 ·intro h
  obtain ⟨v,hv,hne,hs⟩ := oB h
  refine ⟨(v : Int),eC.2 ⟨v,by omega,?_,rfl⟩,hs⟩
  have hb := wE ts x v
  rw [gB,decide_eq_true hv,Bool.true_and,decide_eq_true_eq]
  simp only [List.mem_cons,List.not_mem_nil,or_false]; omega
 ·rintro ⟨v, hv, hs⟩
  obtain ⟨v',h3,h4,rfl⟩ := eC.1 hv
  rw [gB,Bool.and_eq_true,decide_eq_true_eq,decide_eq_true_eq] at h4
  unfold bK
  refine List.any_eq_true.2 ⟨v',List.mem_range.2 h4.1,?_⟩
  rw [Bool.and_eq_true,decide_eq_true_eq]
  refine ⟨fun e => ?_,by rw [show s.slots[v']!.set = false from hs]; rfl⟩
  have h5 := h4.2
  simp only [List.mem_cons,List.not_mem_nil,or_false] at h5;omega
theorem H7 {ts:List Int}{bd:List AL.Stmt}{pts:List Pnt}{s:Mc}{x:Pnt}{x0 x1:Operand}{i0 i1 i2:Nat}(ha0:ev (lk tsl) x0 = some (.optr i0 0)) (ha1:ev (lk tsl) x1 = some (dV x)) (hH0:aO hsl i0 = some (mO ts bd pts i1 i2 s)) (hH1:aO hsl i1 = some (aA cG s.slots)) (hH2:aO hsl i2 = some (aA cI s.read)) (hdd:Go.AL.distinct [i0,i1,i2] = true) (hmc:MC Tryz.prog 163 [.optr 0 0,dV x] [(0,some (mO ts bd pts 1 2 s)),(1,some (aA cG s.slots)),(2,some (aA cI s.read))] 3 (fun _:Unit => True) (fun _ => iv (cX ts s x).2) (fun _ => [(0,some (mO ts bd pts 1 2 (cX ts s x).1)),(1,some (aA cG (cX ts s x).1.slots)),(2,some (aA cI (cX ts s x).1.read))])) (hM:Nat.ble (nidl + 0) cW = true) (hN:Nat.blt d N = true){md':Md}[hmd:MdA md (fH [x0,x1] ++ [.inr i0,.inr i1,.inr i2]) (List.map Sum.inr (List.map Prod.fst ([(i0,some (mO ts bd pts i1 i2 (cX ts s x).1)),(i1,some (aA cG (cX ts s x).1.slots)),(i2,some (aA cI (cX ts s x).1.read))]:List (Nat × Option (List AV)))) ++ [.inl d]) md'] (kk:RW Tryz.prog N all Q md' rest ⟨(d,iv (cX ts s x).2) :: tsl,gH hsl [(i0,some (mO ts bd pts i1 i2 (cX ts s x).1)),(i1,some (aA cG (cX ts s x).1.slots)),(i2,some (aA cI (cX ts s x).1.read))],nidl + 0,z0⟩):RW Tryz.prog N all Q md (⟨some d,.call ⟨.value (.func 163),#[x0,x1],tys⟩,ty,pos,af,none⟩ :: rest) ⟨tsl,hsl,nidl,z0⟩:=by
 exact aZ (l := [x0,x1]) [i0,i1,i2] 3 [(i0,some (mO ts bd pts i1 i2 (cX ts s x).1)),(i1,some (aA cG (cX ts s x).1.slots)),(i2,some (aA cI (cX ts s x).1.read))] hmc (avs := [.optr i0 0,dV x]) (by simp only [evL,ha0,ha1]) hdd hM hN (md' := md') (hmd := hmd) kk
theorem gZ {ts:List Int}{bd:List AL.Stmt}{pts:List Pnt}{s:Mc}{v:Int}{y:Sl}{x0 x1 x2:Operand}{i0 i1 i2:Nat}(ha0:ev (lk tsl) x0 = some (.optr i0 0)) (ha1:ev (lk tsl) x1 = some (iv v)) (ha2:ev (lk tsl) x2 = some (Dy y)) (hH0:aO hsl i0 = some (mO ts bd pts i1 i2 s)) (hH1:aO hsl i1 = some (aA cG s.slots)) (hH2:aO hsl i2 = some (aA cI s.read)) (hdd:Go.AL.distinct [i0,i1,i2] = true) (hmc:MC Tryz.prog 199 [.optr 0 0,iv v,Dy y] [(0,some (mO ts bd pts 1 2 s)),(1,some (aA cG s.slots)),(2,some (aA cI s.read))] 3 (fun _:Unit => True) (fun _ => iv (a7 ts s v.toNat y).2) (fun _ => [(0,some (mO ts bd pts 1 2 (a7 ts s v.toNat y).1)),(1,some (aA cG (a7 ts s v.toNat y).1.slots)),(2,some (aA cI (a7 ts s v.toNat y).1.read))])) (hM:Nat.ble (nidl + 0) cW = true) (hN:Nat.blt d N = true){md':Md}[hmd:MdA md (fH [x0,x1,x2] ++ [.inr i0,.inr i1,.inr i2]) (List.map Sum.inr (List.map Prod.fst ([(i0,some (mO ts bd pts i1 i2 (a7 ts s v.toNat y).1)),(i1,some (aA cG (a7 ts s v.toNat y).1.slots)),(i2,some (aA cI (a7 ts s v.toNat y).1.read))]:List (Nat × Option (List AV)))) ++ [.inl d]) md'] (kk:RW Tryz.prog N all Q md' rest ⟨(d,iv (a7 ts s v.toNat y).2) :: tsl,gH hsl [(i0,some (mO ts bd pts i1 i2 (a7 ts s v.toNat y).1)),(i1,some (aA cG (a7 ts s v.toNat y).1.slots)),(i2,some (aA cI (a7 ts s v.toNat y).1.read))],nidl + 0,z0⟩):RW Tryz.prog N all Q md (⟨some d,.call ⟨.value (.func 199),#[x0,x1,x2],tys⟩,ty,pos,af,none⟩ :: rest) ⟨tsl,hsl,nidl,z0⟩:=by
 exact aZ (l := [x0,x1,x2]) [i0,i1,i2] 3 [(i0,some (mO ts bd pts i1 i2 (a7 ts s v.toNat y).1)),(i1,some (aA cG (a7 ts s v.toNat y).1.slots)),(i2,some (aA cI (a7 ts s v.toNat y).1.read))] hmc (avs := [.optr i0 0,iv v,Dy y]) (by simp only [evL,ha0,ha1,ha2]) hdd hM hN (md' := md') (hmd := hmd) kk
theorem jW (ts:List Int) (bd:List AL.Stmt) (pts:List Pnt) (s:Mc) (v:Int) (y:Sl) (hm:OkM s.cells) (hsl:s.slots.length = ts.length) (hv:0 ≤ v ∧ v < ts.length):MC Tryz.prog 199 [.optr 0 0,iv v,Dy y] [(0,some (mO ts bd pts 1 2 s)),(1,some (aA cG s.slots)),(2,some (aA cI s.read))] 3 (fun _:Unit => True) (fun _ => iv (a7 ts s v.toNat y).2) (fun _ => [(0,some (mO ts bd pts 1 2 (a7 ts s v.toNat y).1)),(1,some (aA cG (a7 ts s v.toNat y).1.slots)),(2,some (aA cI (a7 ts s v.toNat y).1.read))]):=by
 have h := HH ts bd pts s v.toNat y hm hsl (by omega)
 rw [Int.toNat_of_nonneg hv.1] at h
 exact h
theorem AQ {ts:List Int}{bd:List AL.Stmt}{pts:List Pnt}{s:Mc}{v:Int}{x0 x1:Operand}{i0 i1 i2:Nat}(ha0:ev (lk tsl) x0 = some (.optr i0 0)) (ha1:ev (lk tsl) x1 = some (iv v)) (hH0:aO hsl i0 = some (mO ts bd pts i1 i2 s)) (hH1:aO hsl i1 = some (aA cG s.slots)) (hH2:aO hsl i2 = some (aA cI s.read)) (hdd:Go.AL.distinct [i0,i1,i2] = true) (hmc:MC Tryz.prog 206 [.optr 0 0,iv v] [(0,some (mO ts bd pts 1 2 s)),(1,some (aA cG s.slots)),(2,some (aA cI s.read))] 3 (fun _:Unit => True) (fun _ => iv (gM (aS s.cells s.slots[v.toNat]!.ptr true))) (fun _ => [(0,some ([aG ts bd pts,.own 1 0 ts.length 4,sl a8 (eU s.cells s.slots[v.toNat]!.ptr),.own 2 0 s.read.length 1])),(1,some (aA cG s.slots)),(2,some (aA cI s.read))])) (hM:Nat.ble (nidl + 0) cW = true) (hN:Nat.blt d N = true){md':Md}[hmd:MdA md (fH [x0,x1] ++ [.inr i0,.inr i1,.inr i2]) (List.map Sum.inr (List.map Prod.fst ([(i0,some ([aG ts bd pts,.own i1 0 ts.length 4,sl a8 (eU s.cells s.slots[v.toNat]!.ptr),.own i2 0 s.read.length 1])),(i1,some (aA cG s.slots)),(i2,some (aA cI s.read))]:List (Nat × Option (List AV)))) ++ [.inl d]) md'] (kk:RW Tryz.prog N all Q md' rest ⟨(d,iv (gM (aS s.cells s.slots[v.toNat]!.ptr true))) :: tsl,gH hsl [(i0,some ([aG ts bd pts,.own i1 0 ts.length 4,sl a8 (eU s.cells s.slots[v.toNat]!.ptr),.own i2 0 s.read.length 1])),(i1,some (aA cG s.slots)),(i2,some (aA cI s.read))],nidl + 0,z0⟩):RW Tryz.prog N all Q md (⟨some d,.call ⟨.value (.func 206),#[x0,x1],tys⟩,ty,pos,af,none⟩ :: rest) ⟨tsl,hsl,nidl,z0⟩:=by
 exact aZ (l := [x0,x1]) [i0,i1,i2] 3 [(i0,some ([aG ts bd pts,.own i1 0 ts.length 4,sl a8 (eU s.cells s.slots[v.toNat]!.ptr),.own i2 0 s.read.length 1])),(i1,some (aA cG s.slots)),(i2,some (aA cI s.read))] hmc (avs := [.optr i0 0,iv v]) (by simp only [evL,ha0,ha1]) hdd hM hN (md' := md') (hmd := hmd) kk
theorem Eb (ts:List Int) (bd:List AL.Stmt) (pts:List Pnt) (s:Mc) (v:Int) (hm:OkM s.cells) (hsl:s.slots.length = ts.length) (hv:0 ≤ v ∧ v < ts.length):MC Tryz.prog 206 [.optr 0 0,iv v] [(0,some (mO ts bd pts 1 2 s)),(1,some (aA cG s.slots)),(2,some (aA cI s.read))] 3 (fun _:Unit => True) (fun _ => iv (gM (aS s.cells s.slots[v.toNat]!.ptr true))) (fun _ => [(0,some ([aG ts bd pts,.own 1 0 ts.length 4,sl a8 (eU s.cells s.slots[v.toNat]!.ptr),.own 2 0 s.read.length 1])),(1,some (aA cG s.slots)),(2,some (aA cI s.read))]):=by
 have h := tM ts bd pts s v.toNat hm hsl (by omega)
 rw [Int.toNat_of_nonneg hv.1] at h
 exact h
theorem Ih (ts:List Int) (bd:List AL.Stmt) (pts:List Pnt) (s:Mc) (x:Pnt) (htl:ts.length ≤ 6) (hm:OkM s.cells) (hsl:s.slots.length = ts.length) (ho:x.op = 1) (hx:0 ≤ x.x ∧ x.x < ts.length):MC Tryz.prog 163 [.optr 0 0,dV x] [(0,some (mO ts bd pts 1 2 s)),(1,some (aA cG s.slots)),(2,some (aA cI s.read))] 3 (fun _:Unit => True) (fun _ => iv (cX ts s x).2) (fun _ => [(0,some (mO ts bd pts 1 2 (cX ts s x).1)),(1,some (aA cG (cX ts s x).1.slots)),(2,some (aA cI (cX ts s x).1.read))]):=by
 have hus := gU ts bd pts x htl
 have hsm : Sm (wS ts x [1,2,3]) := c8 (by omega)
 obtain ⟨L,hL⟩ : ∃ L,L = dF (wS ts x [1,2,3]) := ⟨_,rfl⟩
 have hLl : L.length ≤ 62 := by rw [hL]; exact dG _
 have hmem : ∀ k, k < L.length → 0 ≤ L[k]! ∧ L[k]! < s.slots.length := fun k hk => by
  rw [hsl]; exact fJ (by rw [← hL]; exact aY _ _ hk)
 refine aT Tryz.func163 Tryz.ntmps163 ?_
 repeat' (first|(apply aF;first|(apply aB (k := 116);rfl;exact hus;exact Pur.pf;rfl)|(apply aB (k := 100);rfl;(apply gR <;> (assumption));(rfl);rfl))|refine aE ?_|refine cC ?_|fail)
 rw [← hL]
 refine aK (σ := Nat) [0,3,26,27] [0,1,2,3] (fun k => [(28,iv (k : Int))]) (fun k => []) (fun k => k ≤ L.length ∧ ∀ j,j < k → s.slots[(L[j]!).toNat]!.set = true) (fun k => L.length - k) (0) ⟨Nat.zero_le _,fun j h => absurd h (by omega)⟩ ?_
 rintro k ⟨hk,hall⟩
 by_cases hkn : k < L.length
 ·have hmk := hmem k hkn
  repeat' (first|refine aE ?_|(refine aL ?_ ?_ <;> intro hc hq <;> try (exfalso;omega))|fail)
  ·have hu : bK ts s x = true := (bU htl).2 ⟨L[k]!, by rw [← hL]; exact aY _ _ hkn, by assumption⟩
   rw [pZ hu]
   (refine aC rfl ?_; refine aQ () trivial ?_ ⟨sE ?_,⟨sE ?_,⟨sE ?_,trivial⟩⟩⟩)
   ·rfl
   ·rfl
   ·rfl
   ·rfl
  ·(refine c9 (k + 1) (Le.renA [(3, 3)]) ?_ ?_)
   ·refine ⟨by omega, fun j hj => ?_⟩
    rcases Nat.lt_or_ge j k with h|h
    ·exact hall j h
    ·rw [show j = k by omega]; assumption
   ·omega
 ·have hu : bK ts s x = false := by
   cases q : bK ts s x with
   | false => rfl
   | true =>
    obtain ⟨v,hv,hs⟩ := (bU htl).1 q
    rw [← hL] at hv
    obtain ⟨j,hj,e⟩ := List.getElem_of_mem hv
    have h1 := hall j (by omega)
    rw [aW _ _ hj,e,hs] at h1;cases h1
  rw [m6 hu]
  have hd : bE ts s x = a7 ts s x.x.toNat ⟨true,x.n,⟨0,0⟩⟩ := by unfold bE;rw [if_pos ho]
  rw [hd]
  have hp := jW ts bd pts s x.x ⟨true,x.n,⟨0,0⟩⟩ hm hsl hx
  repeat' (first|(apply aF;(apply gZ (ts := ts) (bd := bd) (pts := pts) (s := s) (v := x.x) (y := ⟨true,x.n,⟨0,0⟩⟩);rfl;rfl;rfl;rfl;rfl;rfl;rfl;exact hp;rfl;rfl))|refine aE ?_|(refine aL ?_ ?_ <;> intro hc hq <;> try (exfalso;omega))|fail)
  (refine aC rfl ?_; refine aQ () trivial ?_ ⟨sE ?_,⟨sE ?_,⟨sE ?_,trivial⟩⟩⟩)
  ·rfl
  ·rfl
  ·rfl
  ·rfl
theorem IX (ts:List Int) (bd:List AL.Stmt) (pts:List Pnt) (s:Mc) (x:Pnt) (htl:ts.length ≤ 6) (hm:OkM s.cells) (hsl:s.slots.length = ts.length) (ho:x.op = 2) (hn:0 ≤ x.n ∧ x.n ≤ 9) (hx:0 ≤ x.x ∧ x.x < ts.length):MC Tryz.prog 163 [.optr 0 0,dV x] [(0,some (mO ts bd pts 1 2 s)),(1,some (aA cG s.slots)),(2,some (aA cI s.read))] 3 (fun _:Unit => True) (fun _ => iv (cX ts s x).2) (fun _ => [(0,some (mO ts bd pts 1 2 (cX ts s x).1)),(1,some (aA cG (cX ts s x).1.slots)),(2,some (aA cI (cX ts s x).1.read))]):=by
 have hus := gU ts bd pts x htl
 have hsm : Sm (wS ts x [1,2,3]) := c8 (by omega)
 obtain ⟨L,hL⟩ : ∃ L,L = dF (wS ts x [1,2,3]) := ⟨_,rfl⟩
 have hLl : L.length ≤ 62 := by rw [hL]; exact dG _
 have hmem : ∀ k, k < L.length → 0 ≤ L[k]! ∧ L[k]! < s.slots.length := fun k hk => by
  rw [hsl]; exact fJ (by rw [← hL]; exact aY _ _ hk)
 refine aT Tryz.func163 Tryz.ntmps163 ?_
 repeat' (first|(apply aF;first|(apply aB (k := 116);rfl;exact hus;exact Pur.pf;rfl)|(apply aB (k := 100);rfl;(apply gR <;> (assumption));(rfl);rfl))|refine aE ?_|refine cC ?_|fail)
 rw [← hL]
 refine aK (σ := Nat) [0,3,26,27] [0,1,2,3] (fun k => [(28,iv (k : Int))]) (fun k => []) (fun k => k ≤ L.length ∧ ∀ j,j < k → s.slots[(L[j]!).toNat]!.set = true) (fun k => L.length - k) (0) ⟨Nat.zero_le _,fun j h => absurd h (by omega)⟩ ?_
 rintro k ⟨hk,hall⟩
 by_cases hkn : k < L.length
 ·have hmk := hmem k hkn
  repeat' (first|refine aE ?_|(refine aL ?_ ?_ <;> intro hc hq <;> try (exfalso;omega))|fail)
  ·have hu : bK ts s x = true := (bU htl).2 ⟨L[k]!, by rw [← hL]; exact aY _ _ hkn, by assumption⟩
   rw [pZ hu]
   (refine aC rfl ?_; refine aQ () trivial ?_ ⟨sE ?_,⟨sE ?_,⟨sE ?_,trivial⟩⟩⟩)
   ·rfl
   ·rfl
   ·rfl
   ·rfl
  ·(refine c9 (k + 1) (Le.renA [(3, 3)]) ?_ ?_)
   ·refine ⟨by omega, fun j hj => ?_⟩
    rcases Nat.lt_or_ge j k with h|h
    ·exact hall j h
    ·rw [show j = k by omega]; assumption
   ·omega
 ·have hu : bK ts s x = false := by
   cases q : bK ts s x with
   | false => rfl
   | true =>
    obtain ⟨v,hv,hs⟩ := (bU htl).1 q
    rw [← hL] at hv
    obtain ⟨j,hj,e⟩ := List.getElem_of_mem hv
    have h1 := hall j (by omega)
    rw [aW _ _ hj,e,hs] at h1;cases h1
  rw [m6 hu]
  have hml := hm.l
  have hnc := xA s.cells hm x.n
  by_cases h2 : s.cells.length = 200
  ·rw [if_neg (by omega)] at hnc
   have hd : bE ts s x = (s,1) := by unfold bE;rw [if_neg (show ¬ x.op = 1 by omega),if_pos ho,if_pos h2]
   rw [hd]
   repeat' (first|(apply aF;(apply aB (k := 200);rfl;exact hnc;exact Pur.pf;rfl))|refine aE ?_|(refine aL ?_ ?_ <;> intro hc hq <;> try (exfalso;omega))|refine cC ?_|fail)
   (refine aC rfl ?_; refine aQ () trivial ?_ ⟨sE ?_,⟨sE ?_,⟨sE ?_,trivial⟩⟩⟩)
   ·rfl
   ·rfl
   ·rfl
   ·rfl
  ·rw [if_pos (by omega)] at hnc
   have hp := jW ts bd pts ⟨s.slots,s.cells ++ [kX x.n],s.read⟩ x.x ⟨true,0,⟨s.cells.length,0⟩⟩ (hm.nw hn (by omega)) hsl hx
   have hd : bE ts s x = a7 ts ⟨s.slots,s.cells ++ [kX x.n],s.read⟩ x.x.toNat ⟨true,0,⟨s.cells.length,0⟩⟩ := by unfold bE;rw [if_neg (show ¬ x.op = 1 by omega),if_pos ho,if_neg h2]
   rw [hd]
   repeat' (first|(apply aF;first|(apply aB (k := 200);rfl;exact hnc;exact Pur.pf;rfl)|(apply gZ (ts := ts) (bd := bd) (pts := pts) (s := ⟨s.slots,s.cells ++ [kX x.n],s.read⟩) (v := x.x) (y := ⟨true,0,⟨s.cells.length,0⟩⟩);rfl;rfl;rfl;rfl;rfl;rfl;rfl;exact hp;rfl;rfl))|refine aE ?_|(refine aL ?_ ?_ <;> intro hc hq <;> try (exfalso;omega))|refine cC ?_|fail)
   (refine aC rfl ?_; refine aQ () trivial ?_ ⟨sE ?_,⟨sE ?_,⟨sE ?_,trivial⟩⟩⟩)
   ·rfl
   ·rfl
   ·rfl
   ·rfl
theorem Ie (ts:List Int) (bd:List AL.Stmt) (pts:List Pnt) (s:Mc) (x:Pnt) (htl:ts.length ≤ 6) (hm:OkM s.cells) (hsl:s.slots.length = ts.length) (ho:x.op = 3) (hx:0 ≤ x.x ∧ x.x < ts.length) (hy:0 ≤ x.y ∧ x.y < ts.length):MC Tryz.prog 163 [.optr 0 0,dV x] [(0,some (mO ts bd pts 1 2 s)),(1,some (aA cG s.slots)),(2,some (aA cI s.read))] 3 (fun _:Unit => True) (fun _ => iv (cX ts s x).2) (fun _ => [(0,some (mO ts bd pts 1 2 (cX ts s x).1)),(1,some (aA cG (cX ts s x).1.slots)),(2,some (aA cI (cX ts s x).1.read))]):=by
 have hus := gU ts bd pts x htl
 have hsm : Sm (wS ts x [1,2,3]) := c8 (by omega)
 obtain ⟨L,hL⟩ : ∃ L,L = dF (wS ts x [1,2,3]) := ⟨_,rfl⟩
 have hLl : L.length ≤ 62 := by rw [hL]; exact dG _
 have hmem : ∀ k, k < L.length → 0 ≤ L[k]! ∧ L[k]! < s.slots.length := fun k hk => by
  rw [hsl]; exact fJ (by rw [← hL]; exact aY _ _ hk)
 refine aT Tryz.func163 Tryz.ntmps163 ?_
 repeat' (first|(apply aF;first|(apply aB (k := 116);rfl;exact hus;exact Pur.pf;rfl)|(apply aB (k := 100);rfl;(apply gR <;> (assumption));(rfl);rfl))|refine aE ?_|refine cC ?_|fail)
 rw [← hL]
 refine aK (σ := Nat) [0,3,26,27] [0,1,2,3] (fun k => [(28,iv (k : Int))]) (fun k => []) (fun k => k ≤ L.length ∧ ∀ j,j < k → s.slots[(L[j]!).toNat]!.set = true) (fun k => L.length - k) (0) ⟨Nat.zero_le _,fun j h => absurd h (by omega)⟩ ?_
 rintro k ⟨hk,hall⟩
 by_cases hkn : k < L.length
 ·have hmk := hmem k hkn
  repeat' (first|refine aE ?_|(refine aL ?_ ?_ <;> intro hc hq <;> try (exfalso;omega))|fail)
  ·have hu : bK ts s x = true := (bU htl).2 ⟨L[k]!, by rw [← hL]; exact aY _ _ hkn, by assumption⟩
   rw [pZ hu]
   (refine aC rfl ?_; refine aQ () trivial ?_ ⟨sE ?_,⟨sE ?_,⟨sE ?_,trivial⟩⟩⟩)
   ·rfl
   ·rfl
   ·rfl
   ·rfl
  ·(refine c9 (k + 1) (Le.renA [(3, 3)]) ?_ ?_)
   ·refine ⟨by omega, fun j hj => ?_⟩
    rcases Nat.lt_or_ge j k with h|h
    ·exact hall j h
    ·rw [show j = k by omega]; assumption
   ·omega
 ·have hu : bK ts s x = false := by
   cases q : bK ts s x with
   | false => rfl
   | true =>
    obtain ⟨v,hv,hs⟩ := (bU htl).1 q
    rw [← hL] at hv
    obtain ⟨j,hj,e⟩ := List.getElem_of_mem hv
    have h1 := hall j (by omega)
    rw [aW _ _ hj,e,hs] at h1;cases h1
  rw [m6 hu]
  have hd : bE ts s x = a7 ts (if tI ts[x.y.toNat]! = true then ⟨s.slots.set x.y.toNat eG,s.cells,s.read⟩ else s) x.x.toNat s.slots[x.y.toNat]! := by unfold bE;rw [if_neg (show ¬ x.op = 1 by omega),if_neg (show ¬ x.op = 2 by omega),if_pos ho]
  rw [hd]
  have htk := zN ts bd pts x.y hy
  by_cases hk : tI ts[x.y.toNat]! = true
  ·rw [hk] at htk
   rw [if_pos hk]
   have hp := jW ts bd pts ⟨s.slots.set x.y.toNat eG,s.cells,s.read⟩ x.x s.slots[x.y.toNat]! hm (by show (s.slots.set _ _).length = _; rw [List.length_set]; exact hsl) hx
   repeat' (first|(apply aF;first|(apply aB (k := 201);rfl;exact htk;exact Pur.pf;rfl)|(apply gZ (ts := ts) (bd := bd) (pts := pts) (s := ⟨s.slots.set x.y.toNat eG,s.cells,s.read⟩) (v := x.x) (y := s.slots[x.y.toNat]!);rfl;rfl;rfl;rfl;rfl;rfl;rfl;exact hp;rfl;rfl)|(apply bC;rfl;rfl;rfl;rfl;rfl;(case hl => (first|(rw [aI]; simp only [kH] <;> omega)|(simp;done)));(exact rF (by (omega)))))|refine aE ?_|(refine aL ?_ ?_ <;> intro hc hq <;> try (exfalso;omega))|refine cC ?_|fail)
   (refine aC rfl ?_; refine aQ () trivial ?_ ⟨sE ?_,⟨sE ?_,⟨sE ?_,trivial⟩⟩⟩)
   ·rfl
   ·rfl
   ·rfl
   ·rfl
  ·have hk2 : tI ts[x.y.toNat]! = false := by simpa using hk
   rw [hk2] at htk
   rw [if_neg hk]
   have hp := jW ts bd pts s x.x s.slots[x.y.toNat]! hm hsl hx
   repeat' (first|(apply aF;first|(apply aB (k := 201);rfl;exact htk;exact Pur.pf;rfl)|(apply gZ (ts := ts) (bd := bd) (pts := pts) (s := s) (v := x.x) (y := s.slots[x.y.toNat]!);rfl;rfl;rfl;rfl;rfl;rfl;rfl;exact hp;rfl;rfl))|refine aE ?_|(refine aL ?_ ?_ <;> intro hc hq <;> try (exfalso;omega))|refine cC ?_|fail)
   (refine aC rfl ?_; refine aQ () trivial ?_ ⟨sE ?_,⟨sE ?_,⟨sE ?_,trivial⟩⟩⟩)
   ·rfl
   ·rfl
   ·rfl
   ·rfl
theorem Hj (ts:List Int) (bd:List AL.Stmt) (pts:List Pnt) (s:Mc) (x:Pnt) (htl:ts.length ≤ 6) (hm:OkM s.cells) (hsl:s.slots.length = ts.length) (ho:x.op = 4 ∨ x.op = 5) (hx:0 ≤ x.x ∧ x.x < ts.length) (hy:0 ≤ x.y ∧ x.y < ts.length):MC Tryz.prog 163 [.optr 0 0,dV x] [(0,some (mO ts bd pts 1 2 s)),(1,some (aA cG s.slots)),(2,some (aA cI s.read))] 3 (fun _:Unit => True) (fun _ => iv (cX ts s x).2) (fun _ => [(0,some (mO ts bd pts 1 2 (cX ts s x).1)),(1,some (aA cG (cX ts s x).1.slots)),(2,some (aA cI (cX ts s x).1.read))]):=by
 have hus := gU ts bd pts x htl
 have hsm : Sm (wS ts x [1,2,3]) := c8 (by omega)
 obtain ⟨L,hL⟩ : ∃ L,L = dF (wS ts x [1,2,3]) := ⟨_,rfl⟩
 have hLl : L.length ≤ 62 := by rw [hL]; exact dG _
 have hmem : ∀ k, k < L.length → 0 ≤ L[k]! ∧ L[k]! < s.slots.length := fun k hk => by
  rw [hsl]; exact fJ (by rw [← hL]; exact aY _ _ hk)
 refine aT Tryz.func163 Tryz.ntmps163 ?_
 repeat' (first|(apply aF;first|(apply aB (k := 116);rfl;exact hus;exact Pur.pf;rfl)|(apply aB (k := 100);rfl;(apply gR <;> (assumption));(rfl);rfl))|refine aE ?_|refine cC ?_|fail)
 rw [← hL]
 refine aK (σ := Nat) [0,3,26,27] [0,1,2,3] (fun k => [(28,iv (k : Int))]) (fun k => []) (fun k => k ≤ L.length ∧ ∀ j,j < k → s.slots[(L[j]!).toNat]!.set = true) (fun k => L.length - k) (0) ⟨Nat.zero_le _,fun j h => absurd h (by omega)⟩ ?_
 rintro k ⟨hk,hall⟩
 by_cases hkn : k < L.length
 ·have hmk := hmem k hkn
  repeat' (first|refine aE ?_|(refine aL ?_ ?_ <;> intro hc hq <;> try (exfalso;omega))|fail)
  ·have hu : bK ts s x = true := (bU htl).2 ⟨L[k]!, by rw [← hL]; exact aY _ _ hkn, by assumption⟩
   rw [pZ hu]
   (refine aC rfl ?_; refine aQ () trivial ?_ ⟨sE ?_,⟨sE ?_,⟨sE ?_,trivial⟩⟩⟩)
   ·rfl
   ·rfl
   ·rfl
   ·rfl
  ·(refine c9 (k + 1) (Le.renA [(3, 3)]) ?_ ?_)
   ·refine ⟨by omega, fun j hj => ?_⟩
    rcases Nat.lt_or_ge j k with h|h
    ·exact hall j h
    ·rw [show j = k by omega]; assumption
   ·omega
 ·have hu : bK ts s x = false := by
   cases q : bK ts s x with
   | false => rfl
   | true =>
    obtain ⟨v,hv,hs⟩ := (bU htl).1 q
    rw [← hL] at hv
    obtain ⟨j,hj,e⟩ := List.getElem_of_mem hv
    have h1 := hall j (by omega)
    rw [aW _ _ hj,e,hs] at h1;cases h1
  rw [m6 hu]
  have hle := EN s.cells hm s.slots[x.y.toNat]!.ptr (decide (x.op = 5))
  by_cases hk : gX s.cells s.slots[x.y.toNat]!.ptr (decide (x.op = 5)) = 0
  ·have hp := jW ts bd pts ⟨s.slots, fY s.cells s.slots[x.y.toNat]!.ptr (decide (x.op = 5)), s.read⟩ x.x ⟨true, 0, lQ s.cells s.slots[x.y.toNat]!.ptr (decide (x.op = 5))⟩ (hm.ln _ _) hsl hx
   have hd : bE ts s x = a7 ts ⟨s.slots,fY s.cells s.slots[x.y.toNat]!.ptr (decide (x.op = 5)),s.read⟩ x.x.toNat ⟨true,0,lQ s.cells s.slots[x.y.toNat]!.ptr (decide (x.op = 5))⟩ := by unfold bE;rw [if_neg (show ¬ x.op = 1 by omega),if_neg (show ¬ x.op = 2 by omega),if_neg (show ¬ x.op = 3 by omega),if_pos ho,if_pos hk]
   rw [hd]
   rw [hk] at hle
   repeat' (first|(apply aF;first|(apply fV;(case hx|hH => rfl);(case hf|hg|hα => infer_instance);(case hk => omega);(case hj => decide);(case hc => exact (rfl:_=[_,_]));(case h0|hN => rfl))|(apply aB (k := 202);rfl;exact hle;exact Pur.pf;rfl)|(apply gZ (ts := ts) (bd := bd) (pts := pts) (s := ⟨s.slots,fY s.cells s.slots[x.y.toNat]!.ptr (decide (x.op = 5)),s.read⟩) (v := x.x) (y := ⟨true,0,lQ s.cells s.slots[x.y.toNat]!.ptr (decide (x.op = 5))⟩);(case ha0|ha1|ha2|hH0|hH1|hH2|hdd => rfl);(case hmc => exact hp);(case hM|hN => rfl)))|refine aE ?_|(refine aL ?_ ?_ <;> intro hc hq <;> try (exfalso;omega))|refine cC ?_|fail)
   all_goals (
    (refine aC rfl ?_; refine aQ () trivial ?_ ⟨sE ?_,⟨sE ?_,⟨sE ?_,trivial⟩⟩⟩)
    ·rfl
    ·rfl
    ·rfl
    ·rfl)
  ·have hd : bE ts s x = (s, c6 (gX s.cells s.slots[x.y.toNat]!.ptr (decide (x.op = 5)))) := by unfold bE; rw [if_neg (show ¬ x.op = 1 by omega), if_neg (show ¬ x.op = 2 by omega), if_neg (show ¬ x.op = 3 by omega), if_pos ho, if_neg hk]
   rw [hd]
   repeat' (first|(apply aF;first|(apply fV;(case hx|hH => rfl);(case hf|hg|hα => infer_instance);(case hk => omega);(case hj => decide);(case hc => exact (rfl:_=[_,_]));(case h0|hN => rfl))|(apply aB (k := 202);rfl;exact hle;exact Pur.pf;rfl)|(apply aB (k := 203);rfl;(apply nH);(rfl);rfl))|refine aE ?_|(refine aL ?_ ?_ <;> intro hc hq <;> try (exfalso;omega))|refine cC ?_|fail)
   all_goals (
    (refine aC rfl ?_; refine aQ () trivial ?_ ⟨sE ?_,⟨sE ?_,⟨sE ?_,trivial⟩⟩⟩)
    ·rfl
    ·rfl
    ·rfl
    ·rfl)
theorem IL (ts:List Int) (bd:List AL.Stmt) (pts:List Pnt) (s:Mc) (x:Pnt) (htl:ts.length ≤ 6) (hm:OkM s.cells) (hsl:s.slots.length = ts.length) (ho:x.op = 6) (hrl:s.read.length ≤ 1000) (hx:0 ≤ x.x ∧ x.x < ts.length) (hy:0 ≤ x.y ∧ x.y < ts.length) (hz:¬ aS s.cells s.slots[x.y.toNat]!.ptr false = 0):MC Tryz.prog 163 [.optr 0 0,dV x] [(0,some (mO ts bd pts 1 2 s)),(1,some (aA cG s.slots)),(2,some (aA cI s.read))] 3 (fun _:Unit => True) (fun _ => iv (cX ts s x).2) (fun _ => [(0,some (mO ts bd pts 1 2 (cX ts s x).1)),(1,some (aA cG (cX ts s x).1.slots)),(2,some (aA cI (cX ts s x).1.read))]):=by
 have hus := gU ts bd pts x htl
 have hsm : Sm (wS ts x [1,2,3]) := c8 (by omega)
 obtain ⟨L,hL⟩ : ∃ L,L = dF (wS ts x [1,2,3]) := ⟨_,rfl⟩
 have hLl : L.length ≤ 62 := by rw [hL]; exact dG _
 have hmem : ∀ k, k < L.length → 0 ≤ L[k]! ∧ L[k]! < s.slots.length := fun k hk => by
  rw [hsl]; exact fJ (by rw [← hL]; exact aY _ _ hk)
 refine aT Tryz.func163 Tryz.ntmps163 ?_
 repeat' (first|(apply aF;first|(apply aB (k := 116);rfl;exact hus;exact Pur.pf;rfl)|(apply aB (k := 100);rfl;(apply gR <;> (assumption));(rfl);rfl))|refine aE ?_|refine cC ?_|fail)
 rw [← hL]
 refine aK (σ := Nat) [0,3,26,27] [0,1,2,3] (fun k => [(28,iv (k : Int))]) (fun k => []) (fun k => k ≤ L.length ∧ ∀ j,j < k → s.slots[(L[j]!).toNat]!.set = true) (fun k => L.length - k) (0) ⟨Nat.zero_le _,fun j h => absurd h (by omega)⟩ ?_
 rintro k ⟨hk,hall⟩
 by_cases hkn : k < L.length
 ·have hmk := hmem k hkn
  repeat' (first|refine aE ?_|(refine aL ?_ ?_ <;> intro hc hq <;> try (exfalso;omega))|fail)
  ·have hu : bK ts s x = true := (bU htl).2 ⟨L[k]!, by rw [← hL]; exact aY _ _ hkn, by assumption⟩
   rw [pZ hu]
   (refine aC rfl ?_; refine aQ () trivial ?_ ⟨sE ?_,⟨sE ?_,⟨sE ?_,trivial⟩⟩⟩)
   ·rfl
   ·rfl
   ·rfl
   ·rfl
  ·(refine c9 (k + 1) (Le.renA [(3, 3)]) ?_ ?_)
   ·refine ⟨by omega, fun j hj => ?_⟩
    rcases Nat.lt_or_ge j k with h|h
    ·exact hall j h
    ·rw [show j = k by omega]; assumption
   ·omega
 ·have hu : bK ts s x = false := by
   cases q : bK ts s x with
   | false => rfl
   | true =>
    obtain ⟨v,hv,hs⟩ := (bU htl).1 q
    rw [← hL] at hv
    obtain ⟨j,hj,e⟩ := List.getElem_of_mem hv
    have h1 := hall j (by omega)
    rw [aW _ _ hj,e,hs] at h1;cases h1
  rw [m6 hu]
  have hrc := mT s.cells hm s.slots[x.y.toNat]!.ptr
  have hd : bE ts s x = (s,c6 (aS s.cells s.slots[x.y.toNat]!.ptr false)) := by unfold bE;rw [if_neg (show ¬ x.op = 1 by omega),if_neg (show ¬ x.op = 2 by omega),if_neg (show ¬ x.op = 3 by omega),if_neg (show ¬ (x.op = 4 ∨ x.op = 5) by omega),if_pos ho,if_neg hz]
  rw [hd]
  repeat' (first|(apply aF;first|(apply fV;(case hx|hH => rfl);(case hf|hg|hα => infer_instance);(case hk => omega);(case hj => decide);(case hc => exact (rfl:_=[_,_]));(case h0|hN => rfl))|(apply aB (k := 204);rfl;exact hrc;exact Pur.pf;rfl)|(apply aB (k := 203);rfl;(apply nH);(rfl);rfl))|refine aE ?_|(refine aL ?_ ?_ <;> intro hc hq <;> try (exfalso;omega))|refine cC ?_|fail)
  (refine aC rfl ?_; refine aQ () trivial ?_ ⟨sE ?_,⟨sE ?_,⟨sE ?_,trivial⟩⟩⟩)
  ·rfl
  ·rfl
  ·rfl
  ·rfl
theorem Ij (ts:List Int) (bd:List AL.Stmt) (pts:List Pnt) (s:Mc) (x:Pnt) (htl:ts.length ≤ 6) (hm:OkM s.cells) (hsl:s.slots.length = ts.length) (ho:x.op = 7) (hx:0 ≤ x.x ∧ x.x < ts.length) (hy:0 ≤ x.y ∧ x.y < ts.length):MC Tryz.prog 163 [.optr 0 0,dV x] [(0,some (mO ts bd pts 1 2 s)),(1,some (aA cG s.slots)),(2,some (aA cI s.read))] 3 (fun _:Unit => True) (fun _ => iv (cX ts s x).2) (fun _ => [(0,some (mO ts bd pts 1 2 (cX ts s x).1)),(1,some (aA cG (cX ts s x).1.slots)),(2,some (aA cI (cX ts s x).1.read))]):=by
 have hus := gU ts bd pts x htl
 have hsm : Sm (wS ts x [1,2,3]) := c8 (by omega)
 obtain ⟨L,hL⟩ : ∃ L,L = dF (wS ts x [1,2,3]) := ⟨_,rfl⟩
 have hLl : L.length ≤ 62 := by rw [hL]; exact dG _
 have hmem : ∀ k, k < L.length → 0 ≤ L[k]! ∧ L[k]! < s.slots.length := fun k hk => by
  rw [hsl]; exact fJ (by rw [← hL]; exact aY _ _ hk)
 refine aT Tryz.func163 Tryz.ntmps163 ?_
 repeat' (first|(apply aF;first|(apply aB (k := 116);rfl;exact hus;exact Pur.pf;rfl)|(apply aB (k := 100);rfl;(apply gR <;> (assumption));(rfl);rfl))|refine aE ?_|refine cC ?_|fail)
 rw [← hL]
 refine aK (σ := Nat) [0,3,26,27] [0,1,2,3] (fun k => [(28,iv (k : Int))]) (fun k => []) (fun k => k ≤ L.length ∧ ∀ j,j < k → s.slots[(L[j]!).toNat]!.set = true) (fun k => L.length - k) (0) ⟨Nat.zero_le _,fun j h => absurd h (by omega)⟩ ?_
 rintro k ⟨hk,hall⟩
 by_cases hkn : k < L.length
 ·have hmk := hmem k hkn
  repeat' (first|refine aE ?_|(refine aL ?_ ?_ <;> intro hc hq <;> try (exfalso;omega))|fail)
  ·have hu : bK ts s x = true := (bU htl).2 ⟨L[k]!, by rw [← hL]; exact aY _ _ hkn, by assumption⟩
   rw [pZ hu]
   (refine aC rfl ?_; refine aQ () trivial ?_ ⟨sE ?_,⟨sE ?_,⟨sE ?_,trivial⟩⟩⟩)
   ·rfl
   ·rfl
   ·rfl
   ·rfl
  ·(refine c9 (k + 1) (Le.renA [(3, 3)]) ?_ ?_)
   ·refine ⟨by omega, fun j hj => ?_⟩
    rcases Nat.lt_or_ge j k with h|h
    ·exact hall j h
    ·rw [show j = k by omega]; assumption
   ·omega
 ·have hu : bK ts s x = false := by
   cases q : bK ts s x with
   | false => rfl
   | true =>
    obtain ⟨v,hv,hs⟩ := (bU htl).1 q
    rw [← hL] at hv
    obtain ⟨j,hj,e⟩ := List.getElem_of_mem hv
    have h1 := hall j (by omega)
    rw [aW _ _ hj,e,hs] at h1;cases h1
  rw [m6 hu]
  have hwr := sY s.cells hm s.slots[x.x.toNat]!.ptr s.slots[x.y.toNat]!.num
  have hd : bE ts s x = (⟨s.slots,k3 s.cells s.slots[x.x.toNat]!.ptr s.slots[x.y.toNat]!.num,s.read⟩,gM (lO s.cells s.slots[x.x.toNat]!.ptr s.slots[x.y.toNat]!.num)) := by unfold bE;rw [if_neg (show ¬ x.op = 1 by omega),if_neg (show ¬ x.op = 2 by omega),if_neg (show ¬ x.op = 3 by omega),if_neg (show ¬ (x.op = 4 ∨ x.op = 5) by omega),if_neg (show ¬ x.op = 6 by omega),if_pos ho]
  rw [hd]
  repeat' (first|(apply aF;first|(apply fV;(case hx|hH => rfl);(case hf|hg|hα => infer_instance);(case hk => omega);(case hj => decide);(case hc => exact (rfl:_=[_,_]));(case h0|hN => rfl))|(apply aB (k := 205);rfl;exact hwr;exact Pur.pf;rfl)|(apply aB (k := 203);rfl;(apply nH);(rfl);rfl))|refine aE ?_|(refine aL ?_ ?_ <;> intro hc hq <;> try (exfalso;omega))|refine cC ?_|fail)
  ·have hk : ¬ lO s.cells s.slots[x.x.toNat]!.ptr s.slots[x.y.toNat]!.num = 0 := by assumption
   (refine aC rfl ?_; refine aQ () trivial ?_ ⟨sE ?_,⟨sE ?_,⟨sE ?_,trivial⟩⟩⟩)
   ·show iv (c6 _) = iv (gM _)
    unfold gM;rw [if_neg hk]
   ·rfl
   ·rfl
   ·rfl
  ·have hk : lO s.cells s.slots[x.x.toNat]!.ptr s.slots[x.y.toNat]!.num = 0 := by assumption
   (refine aC rfl ?_; refine aQ () trivial ?_ ⟨sE ?_,⟨sE ?_,⟨sE ?_,trivial⟩⟩⟩)
   ·rw [hk]; rfl
   ·rfl
   ·rfl
   ·rfl
theorem IU (ts:List Int) (bd:List AL.Stmt) (pts:List Pnt) (s:Mc) (x:Pnt) (htl:ts.length ≤ 6) (hm:OkM s.cells) (hsl:s.slots.length = ts.length) (ho:x.op = 8) (hx:0 ≤ x.x ∧ x.x < ts.length):MC Tryz.prog 163 [.optr 0 0,dV x] [(0,some (mO ts bd pts 1 2 s)),(1,some (aA cG s.slots)),(2,some (aA cI s.read))] 3 (fun _:Unit => True) (fun _ => iv (cX ts s x).2) (fun _ => [(0,some (mO ts bd pts 1 2 (cX ts s x).1)),(1,some (aA cG (cX ts s x).1.slots)),(2,some (aA cI (cX ts s x).1.read))]):=by
 have hus := gU ts bd pts x htl
 have hsm : Sm (wS ts x [1,2,3]) := c8 (by omega)
 obtain ⟨L,hL⟩ : ∃ L,L = dF (wS ts x [1,2,3]) := ⟨_,rfl⟩
 have hLl : L.length ≤ 62 := by rw [hL]; exact dG _
 have hmem : ∀ k, k < L.length → 0 ≤ L[k]! ∧ L[k]! < s.slots.length := fun k hk => by
  rw [hsl]; exact fJ (by rw [← hL]; exact aY _ _ hk)
 refine aT Tryz.func163 Tryz.ntmps163 ?_
 repeat' (first|(apply aF;first|(apply aB (k := 116);rfl;exact hus;exact Pur.pf;rfl)|(apply aB (k := 100);rfl;(apply gR <;> (assumption));(rfl);rfl))|refine aE ?_|refine cC ?_|fail)
 rw [← hL]
 refine aK (σ := Nat) [0,3,26,27] [0,1,2,3] (fun k => [(28,iv (k : Int))]) (fun k => []) (fun k => k ≤ L.length ∧ ∀ j,j < k → s.slots[(L[j]!).toNat]!.set = true) (fun k => L.length - k) (0) ⟨Nat.zero_le _,fun j h => absurd h (by omega)⟩ ?_
 rintro k ⟨hk,hall⟩
 by_cases hkn : k < L.length
 ·have hmk := hmem k hkn
  repeat' (first|refine aE ?_|(refine aL ?_ ?_ <;> intro hc hq <;> try (exfalso;omega))|fail)
  ·have hu : bK ts s x = true := (bU htl).2 ⟨L[k]!, by rw [← hL]; exact aY _ _ hkn, by assumption⟩
   rw [pZ hu]
   (refine aC rfl ?_; refine aQ () trivial ?_ ⟨sE ?_,⟨sE ?_,⟨sE ?_,trivial⟩⟩⟩)
   ·rfl
   ·rfl
   ·rfl
   ·rfl
  ·(refine c9 (k + 1) (Le.renA [(3, 3)]) ?_ ?_)
   ·refine ⟨by omega, fun j hj => ?_⟩
    rcases Nat.lt_or_ge j k with h|h
    ·exact hall j h
    ·rw [show j = k by omega]; assumption
   ·omega
 ·have hu : bK ts s x = false := by
   cases q : bK ts s x with
   | false => rfl
   | true =>
    obtain ⟨v,hv,hs⟩ := (bU htl).1 q
    rw [← hL] at hv
    obtain ⟨j,hj,e⟩ := List.getElem_of_mem hv
    have h1 := hall j (by omega)
    rw [aW _ _ hj,e,hs] at h1;cases h1
  rw [m6 hu]
  have hfr := Eb ts bd pts s x.x hm hsl hx
  have hd : bE ts s x = (⟨s.slots.set x.x.toNat eG,eU s.cells s.slots[x.x.toNat]!.ptr,s.read⟩,gM (aS s.cells s.slots[x.x.toNat]!.ptr true)) := by unfold bE;rw [if_neg (show ¬ x.op = 1 by omega),if_neg (show ¬ x.op = 2 by omega),if_neg (show ¬ x.op = 3 by omega),if_neg (show ¬ (x.op = 4 ∨ x.op = 5) by omega),if_neg (show ¬ x.op = 6 by omega),if_neg (show ¬ x.op = 7 by omega),if_pos ho]
  rw [hd]
  repeat' (first|(apply aF;first|(apply AQ (ts := ts) (bd := bd) (pts := pts) (s := s) (v := x.x);rfl;rfl;rfl;rfl;rfl;rfl;exact hfr;rfl;rfl)|(apply bC;rfl;rfl;rfl;rfl;rfl;(rw [aI]; simp only [kH] <;> omega);(exact rF (by (omega)))))|refine aE ?_|(refine aL ?_ ?_ <;> intro hc hq <;> try (exfalso;omega))|refine cC ?_|fail)
  (refine aC rfl ?_; refine aQ () trivial ?_ ⟨sE ?_,⟨sE ?_,⟨sE ?_,trivial⟩⟩⟩)
  ·rfl
  ·rfl
  ·rfl
  ·rfl
theorem Il (ts:List Int) (bd:List AL.Stmt) (pts:List Pnt) (s:Mc) (x:Pnt) (htl:ts.length ≤ 6) (hm:OkM s.cells) (hsl:s.slots.length = ts.length) (ho:x.op = 9 ∨ x.op = 10 ∨ x.op = 11):MC Tryz.prog 163 [.optr 0 0,dV x] [(0,some (mO ts bd pts 1 2 s)),(1,some (aA cG s.slots)),(2,some (aA cI s.read))] 3 (fun _:Unit => True) (fun _ => iv (cX ts s x).2) (fun _ => [(0,some (mO ts bd pts 1 2 (cX ts s x).1)),(1,some (aA cG (cX ts s x).1.slots)),(2,some (aA cI (cX ts s x).1.read))]):=by
 have hus := gU ts bd pts x htl
 have hsm : Sm (wS ts x [1,2,3]) := c8 (by omega)
 obtain ⟨L,hL⟩ : ∃ L,L = dF (wS ts x [1,2,3]) := ⟨_,rfl⟩
 have hLl : L.length ≤ 62 := by rw [hL]; exact dG _
 have hmem : ∀ k, k < L.length → 0 ≤ L[k]! ∧ L[k]! < s.slots.length := fun k hk => by
  rw [hsl]; exact fJ (by rw [← hL]; exact aY _ _ hk)
 refine aT Tryz.func163 Tryz.ntmps163 ?_
 repeat' (first|(apply aF;first|(apply aB (k := 116);rfl;exact hus;exact Pur.pf;rfl)|(apply aB (k := 100);rfl;(apply gR <;> (assumption));(rfl);rfl))|refine aE ?_|refine cC ?_|fail)
 rw [← hL]
 refine aK (σ := Nat) [0,3,26,27] [0,1,2,3] (fun k => [(28,iv (k : Int))]) (fun k => []) (fun k => k ≤ L.length ∧ ∀ j,j < k → s.slots[(L[j]!).toNat]!.set = true) (fun k => L.length - k) (0) ⟨Nat.zero_le _,fun j h => absurd h (by omega)⟩ ?_
 rintro k ⟨hk,hall⟩
 by_cases hkn : k < L.length
 ·have hmk := hmem k hkn
  repeat' (first|refine aE ?_|(refine aL ?_ ?_ <;> intro hc hq <;> try (exfalso;omega))|fail)
  ·have hu : bK ts s x = true := (bU htl).2 ⟨L[k]!, by rw [← hL]; exact aY _ _ hkn, by assumption⟩
   rw [pZ hu]
   (refine aC rfl ?_; refine aQ () trivial ?_ ⟨sE ?_,⟨sE ?_,⟨sE ?_,trivial⟩⟩⟩)
   ·rfl
   ·rfl
   ·rfl
   ·rfl
  ·(refine c9 (k + 1) (Le.renA [(3, 3)]) ?_ ?_)
   ·refine ⟨by omega, fun j hj => ?_⟩
    rcases Nat.lt_or_ge j k with h|h
    ·exact hall j h
    ·rw [show j = k by omega]; assumption
   ·omega
 ·have hu : bK ts s x = false := by
   cases q : bK ts s x with
   | false => rfl
   | true =>
    obtain ⟨v,hv,hs⟩ := (bU htl).1 q
    rw [← hL] at hv
    obtain ⟨j,hj,e⟩ := List.getElem_of_mem hv
    have h1 := hall j (by omega)
    rw [aW _ _ hj,e,hs] at h1;cases h1
  rw [m6 hu]
  by_cases h11 : x.op = 11
  ·have hd : bE ts s x = bW ts ts.length 0 s := oR h11
   rw [hd]
   have hfi := HX ts bd pts s hm hsl (by omega)
   repeat' (first|(apply aF;(apply FL (ts := ts) (bd := bd) (pts := pts) (s := s);rfl;rfl;rfl;rfl;rfl;exact hfi;rfl;rfl))|refine aE ?_|(refine aL ?_ ?_ <;> intro hc hq <;> try (exfalso;omega))|fail)
   (refine aC rfl ?_; refine aQ () trivial ?_ ⟨sE ?_,⟨sE ?_,⟨sE ?_,trivial⟩⟩⟩)
   ·rfl
   ·rfl
   ·rfl
   ·rfl
  ·have hd : bE ts s x = (s, -1) := by unfold bE; rw [if_neg (show ¬ x.op = 1 by omega), if_neg (show ¬ x.op = 2 by omega), if_neg (show ¬ x.op = 3 by omega), if_neg (show ¬ (x.op = 4 ∨ x.op = 5) by omega), if_neg (show ¬ x.op = 6 by omega), if_neg (show ¬ x.op = 7 by omega), if_neg (show ¬ x.op = 8 by omega), if_neg (show ¬ x.op = 11 by omega)]
   rw [hd]
   repeat' (first|refine aE ?_|(refine aL ?_ ?_ <;> intro hc hq <;> try (exfalso;omega))|fail)
   (refine aC rfl ?_; refine aQ () trivial ?_ ⟨sE ?_,⟨sE ?_,⟨sE ?_,trivial⟩⟩⟩)
   ·rfl
   ·rfl
   ·rfl
   ·rfl
theorem GS (ts:List Int) (bd:List AL.Stmt) (pts:List Pnt) (s:Mc) (x:Pnt) (htl:ts.length ≤ 6) (hm:OkM s.cells) (hsl:s.slots.length = ts.length) (ho:x.op = 6) (hrl:s.read.length ≤ 1000) (hx:0 ≤ x.x ∧ x.x < ts.length) (hy:0 ≤ x.y ∧ x.y < ts.length) (hz:aS s.cells s.slots[x.y.toNat]!.ptr false = 0) (hun:bK ts s x = false):MC Tryz.prog 163 [.optr 0 0,dV x] [(0,some (mO ts bd pts 1 2 s)),(1,some (aA cG s.slots)),(2,some (aA cI s.read))] 3 (fun _:Unit => True) (fun _ => iv (cX ts s x).2) (fun _ => [(0,some (mO ts bd pts 1 5 (cX ts s x).1)),(1,some (aA cG (cX ts s x).1.slots)),(5,some (aA cI (cX ts s x).1.read))]):=by
 have hus := gU ts bd pts x htl
 have hsm : Sm (wS ts x [1,2,3]) := c8 (by omega)
 obtain ⟨L,hL⟩ : ∃ L,L = dF (wS ts x [1,2,3]) := ⟨_,rfl⟩
 have hLl : L.length ≤ 62 := by rw [hL]; exact dG _
 have hmem : ∀ k, k < L.length → 0 ≤ L[k]! ∧ L[k]! < s.slots.length := fun k hk => by
  rw [hsl]; exact fJ (by rw [← hL]; exact aY _ _ hk)
 refine aT Tryz.func163 Tryz.ntmps163 ?_
 repeat' (first|(apply aF;first|(apply aB (k := 116);rfl;exact hus;exact Pur.pf;rfl)|(apply aB (k := 100);rfl;(apply gR <;> (assumption));(rfl);rfl))|refine aE ?_|refine cC ?_|fail)
 rw [← hL]
 refine aK (σ := Nat) [0,3,26,27] [0,1,2,3] (fun k => [(28,iv (k : Int))]) (fun k => []) (fun k => k ≤ L.length ∧ ∀ j,j < k → s.slots[(L[j]!).toNat]!.set = true) (fun k => L.length - k) (0) ⟨Nat.zero_le _,fun j h => absurd h (by omega)⟩ ?_
 rintro k ⟨hk,hall⟩
 by_cases hkn : k < L.length
 ·have hmk := hmem k hkn
  repeat' (first|refine aE ?_|(refine aL ?_ ?_ <;> intro hc hq <;> try (exfalso;omega))|fail)
  ·exfalso
   have hu : bK ts s x = true := (bU htl).2 ⟨L[k]!,by rw [← hL]; exact aY _ _ hkn,by assumption⟩
   rw [hun] at hu;cases hu
  ·(refine c9 (k + 1) (Le.renA [(3, 3)]) ?_ ?_)
   ·refine ⟨by omega, fun j hj => ?_⟩
    rcases Nat.lt_or_ge j k with h|h
    ·exact hall j h
    ·rw [show j = k by omega]; assumption
   ·omega
 ·have hu : bK ts s x = false := by
   cases q : bK ts s x with
   | false => rfl
   | true =>
    obtain ⟨v,hv,hs⟩ := (bU htl).1 q
    rw [← hL] at hv
    obtain ⟨j,hj,e⟩ := List.getElem_of_mem hv
    have h1 := hall j (by omega)
    rw [aW _ _ hj,e,hs] at h1;cases h1
  rw [m6 hu]
  have hrc := mT s.cells hm s.slots[x.y.toNat]!.ptr
  have hp := jW ts bd pts ⟨s.slots,bX s.cells s.slots[x.y.toNat]!.ptr false,s.read ++ [kJ s.cells s.slots[x.y.toNat]!.ptr]⟩ x.x ⟨true,kJ s.cells s.slots[x.y.toNat]!.ptr,⟨0,0⟩⟩ (hm.tch _ _) hsl hx
  have hd : bE ts s x = a7 ts ⟨s.slots,bX s.cells s.slots[x.y.toNat]!.ptr false,s.read ++ [kJ s.cells s.slots[x.y.toNat]!.ptr]⟩ x.x.toNat ⟨true,kJ s.cells s.slots[x.y.toNat]!.ptr,⟨0,0⟩⟩ := by unfold bE;rw [if_neg (show ¬ x.op = 1 by omega),if_neg (show ¬ x.op = 2 by omega),if_neg (show ¬ x.op = 3 by omega),if_neg (show ¬ (x.op = 4 ∨ x.op = 5) by omega),if_pos ho,if_pos hz]
  rw [hd]
  rw [hz] at hrc
  repeat' (first|(apply aF;first|(apply fV;(case hx|hH => rfl);(case hf|hg|hα => infer_instance);(case hk => omega);(case hj => decide);(case hc => exact (rfl:_=[_,_]));(case h0|hN => rfl))|(apply aB (k := 204);rfl;exact hrc;exact Pur.pf;rfl)|(with_reducible apply a6 (d := 184))|(apply aM (t := _);rfl;rfl;rfl;exact (rfl:_=some [_]);rfl;rfl))|refine aE ?_|(refine aL ?_ ?_ <;> intro hc hq <;> try (exfalso;omega))|refine cC ?_|fail)
  refine b7 ?_
  rw [show s.read.length + 1 = (s.read ++ [kJ s.cells s.slots[x.y.toNat]!.ptr]).length from by rw [List.length_append]; rfl]
  repeat' (first|(apply aF;(apply gZ (ts := ts) (bd := bd) (pts := pts) (s := ⟨s.slots,bX s.cells s.slots[x.y.toNat]!.ptr false,s.read ++ [kJ s.cells s.slots[x.y.toNat]!.ptr]⟩) (v := x.x) (y := ⟨true,kJ s.cells s.slots[x.y.toNat]!.ptr,⟨0,0⟩⟩);rfl;rfl;rfl;rfl;rfl;rfl;rfl;exact hp;rfl;rfl))|refine aE ?_|fail)
  (refine aC rfl ?_; refine aQ () trivial ?_ ⟨sE ?_,⟨sE ?_,⟨sE ?_,trivial⟩⟩⟩)
  ·rfl
  ·rfl
  ·rfl
  ·rfl
theorem Ic (ts:List Int) (bd:List AL.Stmt) (pts:List Pnt) (s:Mc) (x:Pnt) (htl:ts.length ≤ 6) (hm:OkM s.cells) (hsl:s.slots.length = ts.length) (hun:bK ts s x = true):MC Tryz.prog 163 [.optr 0 0,dV x] [(0,some (mO ts bd pts 1 2 s)),(1,some (aA cG s.slots)),(2,some (aA cI s.read))] 3 (fun _:Unit => True) (fun _ => iv (cX ts s x).2) (fun _ => [(0,some (mO ts bd pts 1 2 (cX ts s x).1)),(1,some (aA cG (cX ts s x).1.slots)),(2,some (aA cI (cX ts s x).1.read))]):=by
 have hus := gU ts bd pts x htl
 have hsm : Sm (wS ts x [1,2,3]) := c8 (by omega)
 obtain ⟨L,hL⟩ : ∃ L,L = dF (wS ts x [1,2,3]) := ⟨_,rfl⟩
 have hLl : L.length ≤ 62 := by rw [hL]; exact dG _
 have hmem : ∀ k, k < L.length → 0 ≤ L[k]! ∧ L[k]! < s.slots.length := fun k hk => by
  rw [hsl]; exact fJ (by rw [← hL]; exact aY _ _ hk)
 refine aT Tryz.func163 Tryz.ntmps163 ?_
 repeat' (first|(apply aF;first|(apply aB (k := 116);rfl;exact hus;exact Pur.pf;rfl)|(apply aB (k := 100);rfl;(apply gR <;> (assumption));(rfl);rfl))|refine aE ?_|refine cC ?_|fail)
 rw [← hL]
 refine aK (σ := Nat) [0,3,26,27] [0,1,2,3] (fun k => [(28,iv (k : Int))]) (fun k => []) (fun k => k ≤ L.length ∧ ∀ j,j < k → s.slots[(L[j]!).toNat]!.set = true) (fun k => L.length - k) (0) ⟨Nat.zero_le _,fun j h => absurd h (by omega)⟩ ?_
 rintro k ⟨hk,hall⟩
 by_cases hkn : k < L.length
 ·have hmk := hmem k hkn
  repeat' (first|refine aE ?_|(refine aL ?_ ?_ <;> intro hc hq <;> try (exfalso;omega))|fail)
  ·have hu : bK ts s x = true := (bU htl).2 ⟨L[k]!, by rw [← hL]; exact aY _ _ hkn, by assumption⟩
   rw [pZ hu]
   (refine aC rfl ?_; refine aQ () trivial ?_ ⟨sE ?_,⟨sE ?_,⟨sE ?_,trivial⟩⟩⟩)
   ·rfl
   ·rfl
   ·rfl
   ·rfl
  ·(refine c9 (k + 1) (Le.renA [(3, 3)]) ?_ ?_)
   ·refine ⟨by omega, fun j hj => ?_⟩
    rcases Nat.lt_or_ge j k with h|h
    ·exact hall j h
    ·rw [show j = k by omega]; assumption
   ·omega
 ·have hu : bK ts s x = false := by
   cases q : bK ts s x with
   | false => rfl
   | true =>
    obtain ⟨v,hv,hs⟩ := (bU htl).1 q
    rw [← hL] at hv
    obtain ⟨j,hj,e⟩ := List.getElem_of_mem hv
    have h1 := hall j (by omega)
    rw [aW _ _ hj,e,hs] at h1;cases h1
  rw [m6 hu]
  rw [hun] at hu;cases hu
theorem FC {ts:List Int}{bd:List AL.Stmt}{pts:List Pnt}{s:Mc}{x:Pnt}{x0 x1:Operand}{i0 i1 i2:Nat}(ha0:ev (lk tsl) x0 = some (.optr i0 0)) (ha1:ev (lk tsl) x1 = some (dV x)) (hH0:aO hsl i0 = some (mO ts bd pts i1 i2 s)) (hH1:aO hsl i1 = some (aA cG s.slots)) (hH2:aO hsl i2 = some (aA cI s.read)) (hdd:Go.AL.distinct [i0,i1,i2] = true) (hmc:MC Tryz.prog 163 [.optr 0 0,dV x] [(0,some (mO ts bd pts 1 2 s)),(1,some (aA cG s.slots)),(2,some (aA cI s.read))] 3 (fun _:Unit => True) (fun _ => iv (cX ts s x).2) (fun _ => [(0,some (mO ts bd pts 1 5 (cX ts s x).1)),(1,some (aA cG (cX ts s x).1.slots)),(5,some (aA cI (cX ts s x).1.read))])) (hM:Nat.ble (nidl + 3) cW = true) (hN:Nat.blt d N = true){md':Md}[hmd:MdA md (fH [x0,x1] ++ [.inr i0,.inr i1,.inr i2]) (List.map Sum.inr (List.map Prod.fst ([(i0,some (mO ts bd pts i1 (nidl + 2) (cX ts s x).1)),(i1,some (aA cG (cX ts s x).1.slots)),((nidl + 2),some (aA cI (cX ts s x).1.read)),(i2,none)]:List (Nat × Option (List AV)))) ++ [.inl d]) md'] (kk:RW Tryz.prog N all Q md' rest ⟨(d,iv (cX ts s x).2) :: tsl,gH hsl [(i0,some (mO ts bd pts i1 (nidl + 2) (cX ts s x).1)),(i1,some (aA cG (cX ts s x).1.slots)),((nidl + 2),some (aA cI (cX ts s x).1.read)),(i2,none)],nidl + 3,z0⟩):RW Tryz.prog N all Q md (⟨some d,.call ⟨.value (.func 163),#[x0,x1],tys⟩,ty,pos,af,none⟩ :: rest) ⟨tsl,hsl,nidl,z0⟩:=by
 exact aZ (l := [x0,x1]) [i0,i1,i2] 6 [(i0,some (mO ts bd pts i1 (nidl + 2) (cX ts s x).1)),(i1,some (aA cG (cX ts s x).1.slots)),((nidl + 2),some (aA cI (cX ts s x).1.read)),(i2,none)] hmc (avs := [.optr i0 0,dV x]) (by simp only [evL,ha0,ha1]) hdd hM hN (md' := md') (hmd := hmd) kk
theorem Ik (ts:List Int) (bd:List AL.Stmt) (pts:List Pnt) (s:Mc) (x:Pnt) (htl:ts.length ≤ 6) (hm:OkM s.cells) (hsl:s.slots.length = ts.length) (hop:1 ≤ x.op ∧ x.op ≤ 11) (hrl:s.read.length ≤ 1000)
  (hx : x.op ≤ 8 → 0 ≤ x.x ∧ x.x < ts.length) (hy : 3 ≤ x.op → x.op ≤ 7 → 0 ≤ x.y ∧ x.y < ts.length) (hn : x.op = 2 → 0 ≤ x.n ∧ x.n ≤ 9) (h6 : ¬ (x.op = 6 ∧ aS s.cells s.slots[x.y.toNat]!.ptr false = 0 ∧ bK ts s x = false)) : MC Tryz.prog 163 [.optr 0 0,dV x] [(0,some (mO ts bd pts 1 2 s)),(1,some (aA cG s.slots)),(2,some (aA cI s.read))] 3 (fun _ : Unit => True) (fun _ => iv (cX ts s x).2) (fun _ => [(0,some (mO ts bd pts 1 2 (cX ts s x).1)),(1,some (aA cG (cX ts s x).1.slots)),(2,some (aA cI (cX ts s x).1.read))]) := by
 by_cases h1 : x.op = 1
 ·exact Ih ts bd pts s x htl hm hsl h1 (hx (by omega))
 by_cases h2 : x.op = 2
 ·exact IX ts bd pts s x htl hm hsl h2 (hn h2) (hx (by omega))
 by_cases h3 : x.op = 3
 ·exact Ie ts bd pts s x htl hm hsl h3 (hx (by omega)) (hy (by omega) (by omega))
 by_cases h4 : x.op = 4 ∨ x.op = 5
 ·exact Hj ts bd pts s x htl hm hsl h4 (hx (by omega)) (hy (by omega) (by omega))
 by_cases h6' : x.op = 6
 ·by_cases hu : bK ts s x = true
  ·exact Ic ts bd pts s x htl hm hsl hu
  ·exact IL ts bd pts s x htl hm hsl h6' hrl (hx (by omega)) (hy (by omega) (by omega)) (fun q => h6 ⟨h6',q,by simpa using hu⟩)
 by_cases h7 : x.op = 7
 ·exact Ij ts bd pts s x htl hm hsl h7 (hx (by omega)) (hy (by omega) (by omega))
 by_cases h8 : x.op = 8
 ·exact IU ts bd pts s x htl hm hsl h8 (hx (by omega))
 ·exact Il ts bd pts s x htl hm hsl (by omega)
theorem yG (x:Pnt) (h:x.next.length ≤ 1048576):PC Tryz.prog 198 [dV x] (fun r => r = bv (decide (x.next.length = 2))):=by
 refine aD Tryz.func198 Tryz.ntmps198 ?_
 repeat' (first|refine aE ?_|fail)
 refine aC rfl ⟨?_,rfl⟩
 simp only [aN,AV.v.injEq,Value.bool.injEq,decide_eq_decide]; omega
theorem II {pts:List Pnt}{a:Nat}{C:List Int}(h:pts[a]!.next.length = 2) (hC:0 < C.length):eV pts a C = ((pts[a]!.next[(C[0]! % 2).toNat]!).toNat,C.drop 1):=by
 cases C with
 | nil => simp at hC
 | cons c C => unfold eV;rw [if_pos h]; rfl
theorem Iz {pts:List Pnt}{a:Nat}(h:pts[a]!.next.length = 2):eV pts a [] = ((pts[a]!.next[1]!).toNat,[]) := by unfold eV;rw [if_pos h]
theorem D4 {pts:List Pnt}{n a b:Nat}{out C C2:List Int}{q:List Int × Bool}(h:¬ pts[a]!.op = 11) (ho:out.length ≤ n) (hs:eV pts a C = (b,C2)) (hq:q = (out ++ (wm pts (n - out.length) a C).1,(wm pts (n - out.length) a C).2)) :
  ((out ++ [(a : Int)]).length ≤ n ∧ q = ((out ++ [(a : Int)]) ++ (wm pts (n - (out ++ [(a : Int)]).length) b C2).1,(wm pts (n - (out ++ [(a : Int)]).length) b C2).2)) ∨ ((out ++ [(a : Int)]).length = n + 1 ∧ q = ((out ++ [(a : Int)]).take n,false)) := by
 have hl : (out ++ [(a : Int)]).length = out.length + 1 := by rw [List.length_append]; rfl
 rcases Nat.lt_or_ge out.length n with h1|h1
 ·exact .inl ⟨by omega,lV h h1 hs hq⟩
 ·refine .inr ⟨by omega, ?_⟩
  have e : out.length = n := by omega
  rw [hq,e,Nat.sub_self,BV h,← e,List.take_left' rfl,List.append_nil]
theorem Hb (ts:List Int) (bd:List AL.Stmt) (pts:List Pnt) (cs:List Int) (n:Nat) (w:WG ts pts) (wa:WA ts pts) (hn:n ≤ 1000) (hcl:cs.length ≤ 1048576):PC Tryz.prog 162 [aG ts bd pts,sl cI cs,iv (n:Int)] (fun r => r = .tup [sl cI (wm pts n 0 cs).1,bv (wm pts n 0 cs).2]):=by
 have hpl := w.pl
 have hp0 := w.p0
 refine aD Tryz.func162 Tryz.ntmps162 ?_
 repeat' (first|(apply aF;(apply tH (d := 8) (e := 1);rfl;rfl))|refine aE ?_|fail)
 refine aK (σ := Int × List Int × Nat × List Int) [0,2] [] (fun k => [(9,iv k.1),(1,sl cI k.2.2.2),(8,.own 0 0 k.2.2.1 1)]) (fun k => [(0,some (aA cI k.2.1))]) (fun k => (0 ≤ k.1 ∧ k.1 < pts.length) ∧ k.2.2.1 = k.2.1.length ∧ k.2.2.2.length ≤ 1048576 ∧ ((k.2.1.length ≤ n ∧ wm pts n 0 cs = (k.2.1 ++ (wm pts (n - k.2.1.length) k.1.toNat k.2.2.2).1,(wm pts (n - k.2.1.length) k.1.toNat k.2.2.2).2)) ∨ (k.2.1.length = n + 1 ∧ wm pts n 0 cs = (k.2.1.take n,false)))) (fun k => n + 1 - k.2.1.length) (0,[],0,cs) ⟨⟨Int.le_refl _,by show (0 : Int) < _; omega⟩,rfl,hcl,.inl ⟨Nat.zero_le _,rfl⟩⟩ ?_
 rintro ⟨a,out,m,C⟩ ⟨⟨ha0,ha⟩,hm,hC,hw⟩
 dsimp only at ha0 ha hm hC hw ⊢
 by_cases hout : out.length ≤ n
 ·have hw2 : wm pts n 0 cs = (out ++ (wm pts (n - out.length) a.toNat C).1, (wm pts (n - out.length) a.toNat C).2) := by
   rcases hw with h|h
   ·exact h.2
   ·omega
  have hat : (a.toNat : Int) = a := Int.toNat_of_nonneg ha0
  have hnx := w.nx a.toNat (by omega)
  have hnl := w.nl a.toNat (by omega)
  have hn1 := wa.n a.toNat (by omega)
  have hk : ∀ k,k < pts[a.toNat]!.next.length → 0 ≤ pts[a.toNat]!.next[k]! ∧ pts[a.toNat]!.next[k]! < pts.length := fun k h => hnx _ (aY _ _ h)
  have hch := yG pts[a.toNat]! (by omega)
  repeat' (first|(apply aF;first|(apply aB (k := 198);rfl;exact hch;exact Pur.pf;rfl)|(apply Ff;rfl;rfl;rfl)|(apply aM (t := _);rfl;rfl;rfl;exact (rfl:_=some [_]);rfl;rfl))|refine aE ?_|(refine aL ?_ ?_ <;> intro hc hq <;> try (exfalso;omega))|refine cC ?_|fail)
  ·have hop : pts[a.toNat]!.op = 11 := by assumption
   have e : wm pts n 0 cs = (out ++ [a],true) := by rw [hw2,DQ hop,hat]
   rw [e]
   (refine bD (Le.frzD (d := 6) (i := 2) rfl rfl) ?_; refine aC rfl ?_)
   refine ⟨?_,(by exact Pur.pf)⟩
   simp only [aN,sl]
   rw [hm,List.length_append]; rfl
  ·have hop : ¬ pts[a.toNat]!.op = 11 := by assumption
   have hst := D4 hop hout (Gd (by omega)) hw2
   rw [hat] at hst
   have hk := hk 0 (by omega)
   (refine c9 (pts[a.toNat]!.next[0]!,_,_,C) (Le.renA [(0,2)]) ?_ ?_)
   ·exact ⟨hk,by dsimp only;rw [List.length_append,hm]; rfl,hC,hst⟩
   ·dsimp only;rw [List.length_append]; simp only [List.length_singleton]; omega
  ·have hop : ¬ pts[a.toNat]!.op = 11 := by assumption
   have hC0 : 0 < C.length := by omega
   have hst := D4 hop hout (II (by omega) hC0) hw2
   rw [hat] at hst
   have hk := hk (C[0]! % 2).toNat (by omega)
   have hCe : List.take (C.length - Int.toNat 1) (List.drop (Int.toNat 1) C) = C.drop 1 := List.take_of_length_le (by rw [List.length_drop]; exact Nat.le_refl _)
   rw [hCe]
   (refine c9 (pts[a.toNat]!.next[(C[0]! % 2).toNat]!,_,_,C.drop 1) (Le.renA [(0,2)]) ?_ ?_)
   ·exact ⟨hk,by dsimp only;rw [List.length_append,hm]; rfl,by dsimp only;rw [List.length_drop]; omega,hst⟩
   ·dsimp only;rw [List.length_append]; simp only [List.length_singleton]; omega
  ·have hop : ¬ pts[a.toNat]!.op = 11 := by assumption
   have hC0 : C = [] := List.eq_nil_of_length_eq_zero (by omega)
   subst hC0
   have hst := D4 hop hout (Iz (by omega)) hw2
   rw [hat] at hst
   have hk := hk 1 (by omega)
   (refine c9 (pts[a.toNat]!.next[1]!,_,_,[]) (Le.renA [(0,2)]) ?_ ?_)
   ·exact ⟨hk,by dsimp only;rw [List.length_append,hm]; rfl,hC,hst⟩
   ·dsimp only;rw [List.length_append]; simp only [List.length_singleton]; omega
 ·have hw2 : out.length = n + 1 ∧ wm pts n 0 cs = (out.take n, false) := by
   rcases hw with h|h
   ·omega
   ·exact h
  repeat' (first|(apply aF;(apply hD (d := 59) (l := 0) (h := n);rfl;rfl;rfl;exact mK rfl (by omega);exact if_pos (by omega);rfl))|refine aE ?_|(refine aL ?_ ?_ <;> intro hc hq <;> try (exfalso;omega))|fail)
  refine bD (Le.cut (i := 0) (n * 1) rfl) ?_
  refine bD (Le.frzD (d := 6) (i := 0) rfl rfl) ?_
  rw [hw2.2,eE cI (e := 1)]
  refine aC (l := [.imm (n - 0) (aA cI (out.take n)),bv false]) rfl ⟨?_,(by exact Pur.pf)⟩
  rw [dI (by rw [List.length_take]; omega)]
  rfl
theorem Fl {p:Prg}{cs:List Int}{n:Int}{x0 x1 x2:Operand}(ha0:ev (lk tsl) x0 = some (cJ p)) (ha1:ev (lk tsl) x1 = some (sl cI cs)) (ha2:ev (lk tsl) x2 = some (iv n)) (hmc:MC Tryz.prog 122 [cJ p,sl cI cs,iv n] [] 0 (fun _:Unit => True) (fun _ => .tup [.optr 1 0,iv 5,iv 0]) (fun _ => [(1,some ([.v (.pointer none),.imm 0 [],.imm 0 [],.imm 0 []]))])) (hM:Nat.ble (nidl + 2) cW = true) (hN:Nat.blt d N = true){md':Md}[hmd:MdA md (fH [x0,x1,x2] ++ []) (List.map Sum.inr (List.map Prod.fst ([((nidl + 1),some ([.v (.pointer none),.imm 0 [],.imm 0 [],.imm 0 []]))]:List (Nat × Option (List AV)))) ++ [.inl d]) md'] (kk:RW Tryz.prog N all Q md' rest ⟨(d,.tup [.optr (nidl + 1) 0,iv 5,iv 0]) :: tsl,gH hsl [((nidl + 1),some ([.v (.pointer none),.imm 0 [],.imm 0 [],.imm 0 []]))],nidl + 2,z0⟩):RW Tryz.prog N all Q md (⟨some d,.call ⟨.value (.func 122),#[x0,x1,x2],tys⟩,ty,pos,af,none⟩ :: rest) ⟨tsl,hsl,nidl,z0⟩:=by
 exact aZ (l := [x0,x1,x2]) [] 2 [((nidl + 1),some ([.v (.pointer none),.imm 0 [],.imm 0 [],.imm 0 []]))] hmc (avs := [cJ p,sl cI cs,iv n]) (by simp only [evL,ha0,ha1,ha2]) rfl hM hN (md' := md') (hmd := hmd) kk
theorem Le.nilMid {ts:List (Nat × AV)}{hs:List (Nat × Option (List AV))}{n:Nat}{z0:Lo}{i:Nat}(c1:List AV){c2:List AV}(hi:aO hs i = some (c1 ++ .v (.slice none 0 0) :: c2)) :
  Le ⟨ts,hs,n,z0⟩ ⟨ts,(i,some (c1 ++ .imm 0 [] :: c2)) :: hs,n,z0⟩ :=
 Le.cells hi (by simp) fun w bad ι b β h => nO (fun y hy => by have := kN (av := .v (.slice none 0 0)) hy;exact this) c1 c2 b β h
theorem GL {ts:List Int}{pts:List Pnt}{a last:Nat}{l:List Nat}{s:Mc}:eW ts pts (a :: l) s last = if (cX ts s pts[a]!).2 = -1 then eW ts pts l (cX ts s pts[a]!).1 a else ((cX ts s pts[a]!).1,(cX ts s pts[a]!).2,a):=by
 rw [eW]
 by_cases h : bK ts s pts[a]! = true
 ·rw [if_pos h,pZ h,if_neg (show ¬ (2 : Int) = -1 by decide)]
 ·have h2 : bK ts s pts[a]! = false := by simpa using h
  rw [if_neg h,m6 h2]
theorem Iw {ts:List Int}{nt:Nat}{s:Mc}(h:OkS nt s){x:Pnt}(hx:PtN x):OkS nt (cX ts s x).1:=by
 unfold cX;split
 ·exact h
 ·exact h.do hx
theorem E9 {ts:List Int}{s:Mc}{x:Pnt}:(cX ts s x).1.read.length ≤ s.read.length + 1:=by
 unfold cX;split
 ·dsimp only;omega
 ·exact vN
theorem Jj {ts:List Int}{s:Mc}{x:Pnt}(ho:x.op = 6) (hz:aS s.cells s.slots[x.y.toNat]!.ptr false = 0) (hu:bK ts s x = false) (ht:ts[x.x.toNat]! = 1):(cX ts s x).2 = -1:=by
 rw [m6 hu]
 unfold bE
 rw [if_neg (show ¬ x.op = 1 by omega),if_neg (show ¬ x.op = 2 by omega),if_neg (show ¬ x.op = 3 by omega),if_neg (show ¬ (x.op = 4 ∨ x.op = 5) by omega),if_pos ho,if_pos hz]
 unfold a7
 rw [if_neg (fun h => by have := h.1;omega)]
theorem GY (p:Prg) (cs:List Int) (n:Int) (hl:p.types.length ≤ 1048576) (hs:aJ p.body ≤ 1048576) (hr:uH p n = false):MC Tryz.prog 122 [cJ p,sl cI cs,iv n] [] 0 (fun _:Unit => True) (fun _ => .tup [.optr 1 0,iv 5,iv 0]) (fun _ => [(1,some ([.v (.pointer none),.imm 0 [],.imm 0 [],.imm 0 []]))]):=by
 have hg := qF p hl hs
 unfold uH at hr
 by_cases hv : cL p = true
 ·rw [if_pos hv] at hg
  rw [hv] at hr
  have hnn : ¬ (0 ≤ n ∧ n ≤ 150) := fun h => by rw [decide_eq_true h.1,decide_eq_true h.2] at hr;cases hr
  refine aT Tryz.func122 Tryz.ntmps122 ?_
  repeat' (first|(apply aF;first|(apply aB (k := 66);rfl;exact hg;exact Pur.pf;rfl)|(apply aB (k := 55);rfl;(apply cH);(rfl);rfl))|refine aE ?_|(refine aL ?_ ?_ <;> intro hc hq <;> try (exfalso;omega))|fail)
  ·(refine aC rfl ?_; refine aQ () trivial ?_ ⟨sE ?_, trivial⟩)
   ·rfl
   ·rfl
 ·rw [if_neg hv] at hg
  refine aT Tryz.func122 Tryz.ntmps122 ?_
  repeat' (first|(apply aF;(apply aB (k := 66);rfl;exact hg;exact Pur.pf;rfl))|refine aE ?_|fail)
  (refine aC rfl ?_; refine aQ () trivial ?_ ⟨sE ?_,trivial⟩)
  ·rfl
  ·rfl
theorem GX (p:Prg) (cs:List Int) (n:Nat) (q:Mc × Int × Nat) (hqq:q = cQ p.types (bJ p) cs n) (hv:cL p = true) (hl:p.types.length ≤ 1048576) (hs:aJ p.body ≤ 1048576) (hn:n ≤ 150) (hcl:cs.length ≤ 1048576):MC Tryz.prog 122 [cJ p,sl cI cs,iv (n:Int)] [] 0 (fun _:Unit => True) (fun _ => .tup [.optr 2 0,iv q.2.1,iv (q.2.2:Int)]) (fun _ => [(2,some (mO p.types p.body (bJ p) 1 3 q.1)),(1,some (aA cG q.1.slots)),(3,some (aA cI q.1.read))]):=by
 have hg := qF p hl hs
 rw [if_pos hv] at hg
 have w := WG.of_valid hv
 have wa := WA.of_valid hv
 have hru := Hb p.types p.body (bJ p) cs n w wa (by omega) hcl
 have htl := w.tl
 have hpl := w.pl
 have hL := xY w wa n 0 cs w.p0
 have hLl := nP (pts := bJ p) n 0 cs
 unfold cQ at hqq
 unfold wm at hru
 obtain ⟨L,hLe⟩ : ∃ L,L = (cK (bJ p) n 0 cs).1 := ⟨_,rfl⟩
 obtain ⟨dn,hdn⟩ : ∃ dn,dn = (cK (bJ p) n 0 cs).2 := ⟨_,rfl⟩
 rw [← hLe,← hdn] at hru
 rw [← hLe] at hqq hL hLl
 have hgx : ∀ i,i < L.length → (L.map (fun a : Nat => (a : Int)))[i]! = (L[i]! : Int) := fun i h => by rw [aW _ _ (by rw [List.length_map]; exact h),List.getElem_map,aW _ _ h]
 have hml : (L.map (fun a : Nat => (a : Int))).length = L.length := List.length_map _
 generalize (L.map (fun a : Nat => (a : Int))) = LI at *
 generalize hP : bJ p = pts at *
 refine aT Tryz.func122 Tryz.ntmps122 ?_
 repeat' (first|(apply aF;first|(apply aB (k := 66);rfl;exact hg;exact Pur.pf;rfl)|(with_reducible apply a6 (d := 40))|(apply aB (k := 55);rfl;(apply cH);(rfl);rfl))|refine aE ?_|(refine aL ?_ ?_ <;> intro hc hq <;> try (exfalso;omega))|fail)
 refine b7 ?_
 rw [show (List.replicate p.types.length ([Value.bool false,Value.int .i64 0,Value.int .i64 0,Value.int .i64 0].map AV.v)).flatten = aA cG (List.replicate p.types.length eG) from sO rfl]
 apply vM
 case hl => rfl
 case hf => exact (rfl:_=some [_,_,AV.v (.slice none 0 0),AV.v (.slice none 0 0)])
 case hN => rfl
 repeat' (first|(apply aF;(with_reducible apply a6 (d := 43)))|refine aE ?_|fail)
 refine b7 (fK ?_ (Le.nilMid (i := 2) [_,_] rfl))
 refine fK ?_ (Le.nilCell (i := 2) 1 [_,_,_] rfl (by decide) (by decide))
 repeat' (first|(apply aF;(apply aB (k := 162);rfl;exact hru;exact Pur.pf;rfl))|refine aE ?_|fail)
 refine aK (σ := Nat × Mc × Nat) [9,11,49,50] [] (fun k => [(51,iv (k.1 : Int)),(14,iv (k.2.2 : Int))]) (fun k => [(2,some (mO p.types p.body pts 1 3 k.2.1)),(1,some (aA cG k.2.1.slots)),(3,some (aA cI k.2.1.read))]) (fun k => k.1 ≤ L.length ∧ eW p.types pts (L.drop k.1) k.2.1 k.2.2 = q ∧ OkS p.types.length k.2.1 ∧ k.2.1.read.length ≤ k.1) (fun k => L.length - k.1) (0,mc0 p.types.length,0) ⟨Nat.zero_le _,hqq.symm,OkS.mc0 _,Nat.le_refl _⟩ ?_
 rintro ⟨i,s,last⟩ ⟨hi,hf,hok,hrd⟩
 dsimp only at hi hf hok hrd ⊢
 by_cases hiL : i < L.length
 ·have hap := hL L[i]! (aY _ _ hiL)
  have hop := w.op L[i]! hap
  have hwx := w.x L[i]! hap
  have hwy := w.y L[i]! hap
  have hA := wa.a L[i]! hap
  have hg2 := hgx i hiL
  have hdr : L.drop i = L[i]! :: L.drop (i + 1) := by rw [List.drop_eq_getElem_cons hiL,aW _ _ hiL]
  rw [hdr,GL] at hf
  have hpt : PtN pts[L[i]!]! := ⟨fun h => hA.n (.inr h)⟩
  have hdo := Iw (ts := p.types) hok hpt
  have hdr2 := E9 (ts := p.types) (s := s) (x := pts[L[i]!]!)
  by_cases h6 : pts[L[i]!]!.op = 6 ∧ aS s.cells s.slots[(pts[L[i]!]!).y.toNat]!.ptr false = 0 ∧ bK p.types s pts[L[i]!]! = false
  ·have hm6 := GS p.types p.body pts s pts[L[i]!]! htl hok.m hok.l h6.1 (by omega) (by omega) (by omega) h6.2.1 h6.2.2
   repeat' (first|(apply aF;(with_reducible apply a6 (d := 16)))|refine aE ?_|(refine aL ?_ ?_ <;> intro hc hq <;> try (exfalso;omega))|fail)
   refine b7 ?_
   rw [hg2]
   repeat' (first|(apply aF;(apply FC (ts := p.types) (bd := p.body) (pts := pts) (s := s) (x := pts[L[i]!]!);rfl;rfl;rfl;rfl;rfl;rfl;exact hm6;rfl;rfl))|refine aE ?_|(refine aL ?_ ?_ <;> intro hc hq <;> try (exfalso;omega))|fail)
   ·exfalso
    have h9 : ¬ (cX p.types s pts[L[i]!]!).2 = -1 := by assumption
    exact h9 (Jj h6.1 h6.2.1 h6.2.2 (hA.t6 h6.1).1)
   ·(refine c9 (i + 1, (cX p.types s pts[L[i]!]!).1, L[i]!) (Le.renA [(1, 1), (2, 2), (3, 6)]) ?_ ?_)
    ·refine ⟨by dsimp only; omega, ?_, hdo, by dsimp only; omega⟩
     dsimp only
     rw [if_pos (by assumption)] at hf
     exact hf
    ·dsimp only;omega
  ·have hmd := Ik p.types p.body pts s pts[L[i]!]! htl hok.m hok.l hop (by omega) (fun h => by omega) (fun h h2 => by omega) (fun h => hA.n (.inr h)) h6
   repeat' (first|(apply aF;(with_reducible apply a6 (d := 16)))|refine aE ?_|(refine aL ?_ ?_ <;> intro hc hq <;> try (exfalso;omega))|fail)
   refine b7 ?_
   rw [hg2]
   repeat' (first|(apply aF;(apply H7 (ts := p.types) (bd := p.body) (pts := pts) (s := s) (x := pts[L[i]!]!);rfl;rfl;rfl;rfl;rfl;rfl;exact hmd;rfl;rfl))|refine aE ?_|(refine aL ?_ ?_ <;> intro hc hq <;> try (exfalso;omega))|fail)
   ·have h9 : ¬ (cX p.types s pts[L[i]!]!).2 = -1 := by assumption
    rw [if_neg h9] at hf
    rw [← hf]
    (refine aC rfl ?_; refine aQ () trivial ?_ ⟨sE ?_,⟨sE ?_,⟨sE ?_,trivial⟩⟩⟩)
    ·rfl
    ·rfl
    ·rfl
    ·rfl
   ·(refine c9 (i + 1, (cX p.types s pts[L[i]!]!).1, L[i]!) (Le.renA [(1, 1), (2, 2), (3, 3)]) ?_ ?_)
    ·refine ⟨by dsimp only; omega, ?_, hdo, by dsimp only; omega⟩
     dsimp only
     rw [if_pos (by assumption)] at hf
     exact hf
    ·dsimp only;omega
 ·repeat' (first | refine aE ?_ | (refine aL ?_ ?_ <;> intro hc hq <;> try (exfalso; omega))|fail)
  have hie : i = L.length := by omega
  have hq2 : q = (s,1,last) := by rw [← hf,hie,List.drop_length]; rfl
  rw [hq2]
  (refine aC rfl ?_; refine aQ () trivial ?_ ⟨sE ?_,⟨sE ?_,⟨sE ?_,trivial⟩⟩⟩)
  ·rfl
  ·rfl
  ·rfl
  ·rfl
theorem CW {p:Prg}{cs:List Int}{n:Int}{q:Mc × Int × Nat}{x0 x1 x2:Operand}(ha0:ev (lk tsl) x0 = some (cJ p)) (ha1:ev (lk tsl) x1 = some (sl cI cs)) (ha2:ev (lk tsl) x2 = some (iv n)) (hmc:MC Tryz.prog 122 [cJ p,sl cI cs,iv n] [] 0 (fun _:Unit => True) (fun _ => .tup [.optr 2 0,iv q.2.1,iv (q.2.2:Int)]) (fun _ => [(2,some (mO p.types p.body (bJ p) 1 3 q.1)),(1,some (aA cG q.1.slots)),(3,some (aA cI q.1.read))])) (hM:Nat.ble (nidl + 4) cW = true) (hN:Nat.blt d N = true){md':Md}[hmd:MdA md (fH [x0,x1,x2] ++ []) (List.map Sum.inr (List.map Prod.fst ([((nidl + 2),some (mO p.types p.body (bJ p) (nidl + 1) (nidl + 3) q.1)),((nidl + 1),some (aA cG q.1.slots)),((nidl + 3),some (aA cI q.1.read))]:List (Nat × Option (List AV)))) ++ [.inl d]) md'] (kk:RW Tryz.prog N all Q md' rest ⟨(d,.tup [.optr (nidl + 2) 0,iv q.2.1,iv (q.2.2:Int)]) :: tsl,gH hsl [((nidl + 2),some (mO p.types p.body (bJ p) (nidl + 1) (nidl + 3) q.1)),((nidl + 1),some (aA cG q.1.slots)),((nidl + 3),some (aA cI q.1.read))],nidl + 4,z0⟩):RW Tryz.prog N all Q md (⟨some d,.call ⟨.value (.func 122),#[x0,x1,x2],tys⟩,ty,pos,af,none⟩ :: rest) ⟨tsl,hsl,nidl,z0⟩:=by
 exact aZ (l := [x0,x1,x2]) [] 4 [((nidl + 2),some (mO p.types p.body (bJ p) (nidl + 1) (nidl + 3) q.1)),((nidl + 1),some (aA cG q.1.slots)),((nidl + 3),some (aA cI q.1.read))] hmc (avs := [cJ p,sl cI cs,iv n]) (by simp only [evL,ha0,ha1,ha2]) rfl hM hN (md' := md') (hmd := hmd) kk
theorem qC (p:Prg) (cs:List Int) (most:Int) (hl:p.types.length ≤ 1048576) (hs:aJ p.body ≤ 1048576) (hcl:cs.length ≤ 1048576):PC Tryz.prog 79 [cJ p,sl cI cs,iv most] (fun r => r = .tup (if uH p most = true then [iv (cQ p.types (bJ p) cs most.toNat).2.1,iv (cQ p.types (bJ p) cs most.toNat).2.2] else [iv 5,iv 0])):=by
 by_cases h : uH p most = true
 ·have h' := h
  unfold uH at h'
  simp only [Bool.and_eq_true,decide_eq_true_eq] at h'
  obtain ⟨hv,h0,h1⟩ := h'
  have hru := GX p cs most.toNat _ rfl hv hl hs (by omega) hcl
  have hok := G6 (cs := cs) (n := most.toNat) hv
  have hrl := xF (ts := p.types) (pts := bJ p) (cs := cs) (n := most.toNat) (by omega)
  have htl := (WG.of_valid hv).tl
  rw [Int.toNat_of_nonneg h0] at hru
  rw [if_pos h]
  have hon := Int.toNat_of_nonneg h0
  have hm := hok.m
  have hml := hm.l
  have hsl := hok.l
  generalize cQ p.types (bJ p) cs most.toNat = q at *
  refine aD Tryz.func79 Tryz.ntmps79 ?_
  repeat' (first|(apply aF;(apply CW (p := p) (cs := cs) (n := most) (q := q);rfl;rfl;rfl;exact hru;rfl;rfl))|refine aE ?_|fail)
  exact aC (l := [iv q.2.1,iv q.2.2]) rfl ⟨rfl,rfl⟩
 ·rw [if_neg h]
  have h2 : uH p most = false := by simpa using h
  refine aD Tryz.func79 Tryz.ntmps79 ?_
  repeat' (first|(apply aF;(apply Fl (p := p) (cs := cs) (n := most);rfl;rfl;rfl;exact GY p cs most hl hs h2;rfl;rfl))|refine aE ?_|fail)
  exact aC (l := [iv 5,iv 0]) rfl ⟨rfl,rfl⟩
def AU (p : Prg) (cs : List Int) (n : Int) : Int := if uH p n = true then (cQ p.types (bJ p) cs n.toNat).2.1 else 5
def k6 (p : Prg) (cs : List Int) (n : Int) : Int := if uH p n = true then ((cQ p.types (bJ p) cs n.toNat).2.2 : Int) else 0
theorem Gy (p:Prg) (cs:List Int) (n:Int) (hl:p.types.length ≤ 1048576) (hs:aJ p.body ≤ 1048576) (hcl:cs.length ≤ 1048576):PC Tryz.prog 79 [cJ p,sl cI cs,iv n] (fun r => r = .tup [iv (AU p cs n),iv (k6 p cs n)]):=by
 have h := qC p cs n hl hs hcl
 unfold AU k6
 split
 ·rename_i h2;rw [if_pos h2] at h;exact h
 ·rename_i h2;rw [if_neg h2] at h;exact h
theorem Ht (p:Prg) (cs:List Int) (n:Int) (hl:p.types.length ≤ 1048576) (hs:aJ p.body ≤ 1048576) (hcl:cs.length ≤ 1048576):PC Tryz.prog 75 [cJ p,sl cI cs,iv n] (fun r => r = .tup [iv (AU p cs n),iv (k6 p cs n)]):=by
 have h := qB p cs n hl hs hcl
 unfold AU k6
 split
 ·rename_i h2;rw [if_pos h2] at h;exact h
 ·rename_i h2;rw [if_neg h2] at h;exact h
theorem Cu {p:Prg}{n:Int}:uH p n = true ↔ cL p = true ∧ 0 ≤ n ∧ n ≤ 150:=by
 unfold uH;simp only [Bool.and_eq_true,decide_eq_true_eq]
end Go.Proofs.YtgkalkgplcdnkaaGreat
