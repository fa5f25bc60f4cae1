/-
 A part of the proofs over this program: rules and contracts of its functions (the contracts).
-/
import Derived.Test.YtjnhlgpbojggnaaGreatDoorS2B02
set_option linter.unusedVariables false
set_option linter.unusedSimpArgs false
set_option maxHeartbeats 8000000
set_option maxRecDepth 4000
attribute [local irreducible] Go.AL.RW Go.AL.AW Go.AL.Stop
namespace Go.Proofs.YtjnhlgpbojggnaaGreatDoor
open Go.AL Go.RowKit
variable {N : Nat} {Q : Exit → AS → Prop} {all : Array Oper} {rest : List Oper} {tsl : List (Nat × AV)} {hsl : List (Nat × Option (List AV))} {nidl : Nat} {z0 : Lo} {md : Md} {d : Nat} {ty : TypeId} {pos : String} {af : Array Edge} {tys : Array TypeId}
theorem spl_at {cs:List AV}{i:Nat}{c:AV}:spl cs i [c] = cs.take i ++ c :: cs.drop (i + 1):=by
 have := spl_one (cs := cs) (v := i) (c := c)
 rwa [Nat.zero_add,Nat.mul_one] at this
theorem Le.frzCl {ts:List (Nat × AV)}{hs:List (Nat × Option (List AV))}{n:Nat}{z0:Lo}{j q v m:Nat}{u:List Cl}{r:List Tg}(hj:lkH hs j = some (spl (flat cCl u) (0 + v * 4 + 3) [.own q 0 m 2])) (hq:lkH hs q = some (flat cTg r)) (hm:m = r.length) (hv:v < u.length) (hjq:j ≠ q) :
  Le ⟨ts,hs,n,z0⟩ ⟨ts,(j,some (flat cCl (u.set v { u[v]! with stk := r }))) :: (q,none) :: hs,n,z0⟩ := by
 subst hm
 have hl : (flat cCl u).length = u.length * 4 := flat_length cCl u
 have e := st_clS (s := r) hv
 rw [spl_at] at hj e
 have h := Le.frzC (ts := ts) (n := n) (z0 := z0) ((flat cCl u).take (0 + v * 4 + 3)) hj hq hjq
 rw [← e]; exact h
theorem tchM_len {m:List Cl}{x:Pt}{wr:Bool}:(tchM m x wr).length = m.length:=by
 unfold tchM;split
 ·rw [List.length_set]
 ·rfl
theorem rx_l6WriteM {m:List Cl}{x:Pt}{x0 x1:Operand}(ha0:ev (lk tsl) x0 = some (sl cCl m)) (ha1:ev (lk tsl) x1 = some (aPt x)) (hmc:MC Tryz.prog 217 [sl cCl m,aPt x] [] 0 (fun _:Unit => True) (fun _ => .tup [.own 1 0 m.length 4,iv (tchK m x true)]) (fun _ => [(1,some (flat cCl (tchM m x true)))])) (hM:Nat.ble (nidl + 2) big = true) (hN:Nat.blt d N = true){md':Md}[hmd:MdA md (rOs [x0,x1] ++ []) (List.map Sum.inr (List.map Prod.fst ([((nidl + 1),some (flat cCl (tchM m x true)))]:List (Nat × Option (List AV)))) ++ [.inl d]) md'] (kk:RW Tryz.prog N all Q md' rest ⟨(d,.tup [.own (nidl + 1) 0 m.length 4,iv (tchK m x true)]) :: tsl,wrH hsl [((nidl + 1),some (flat cCl (tchM m x true)))],nidl + 2,z0⟩):RW Tryz.prog N all Q md (⟨some d,.call ⟨.value (.func 217),#[x0,x1],tys⟩,ty,pos,af,none⟩ :: rest) ⟨tsl,hsl,nidl,z0⟩:=by
 exact rx_mcallA (l := [x0,x1]) [] 2 [((nidl + 1),some (flat cCl (tchM m x true)))] hmc (avs := [sl cCl m,aPt x]) (by simp only [evL,ha0,ha1]) rfl hM hN (md' := md') (hmd := hmd) kk
theorem l6WriteM_c (m:List Cl) (x:Pt) (hm:OkM m):MC Tryz.prog 217 [sl cCl m,aPt x] [] 0 (fun _:Unit => True) (fun _ => .tup [.own 1 0 m.length 4,iv (tchK m x true)]) (fun _ => [(1,some (flat cCl (tchM m x true)))]):=by
 have hml := hm.l
 have hst : 0 ≤ x.cell → x.cell < m.length → m[x.cell.toNat]!.stk.length ≤ 200 := fun h1 h2 => (((OkM_iff m).1 hm).2 x.cell.toNat (by omega)).l.2
 have hpl := l6Place_c m hm x
 by_cases hk : tchK m x false = 0
 ·rw [if_pos hk, hk] at hpl
  obtain ⟨h1,h2,h3,h4,_⟩ := tchK_in hk
  have hbd := tgIx_bd m[x.cell.toNat]!.stk x.tag
  have hs2 := hst h1 h2
  obtain ⟨k,hkk⟩ := Int.eq_ofNat_of_zero_le h4
  rw [hkk] at hpl
  have hkn : k < m[x.cell.toNat]!.stk.length := by omega
  have hkt : (tgIx m[x.cell.toNat]!.stk x.tag).toNat = k := by omega
  have hwr := tchK_wr (m := m) (x := x)
  rw [if_pos hk,hkt] at hwr
  have e1 : List.take (((k : Int) + 1).toNat - 0) (List.drop 0 m[x.cell.toNat]!.stk) = m[x.cell.toNat]!.stk.take (k + 1) := by rw [List.drop_zero]; congr 1
  have e2 : (m[x.cell.toNat]!.stk.take (k + 1)).length = k + 1 := by rw [List.length_take]; omega
  refine mc_start Tryz.func217 Tryz.ntmps217 ?_
  repeat' (first|(apply id_rw;first|(apply rx_l6CopyM;rfl;exact l6CopyM_c m hm;rfl;rfl)|(apply rx_callE (k := 222);rfl;exact hpl;exact Pur.pf;rfl)|(with_reducible apply rw_stop (d := 46)))|refine stpb ?_|(refine stp2 ?_ ?_ <;> intro hc hq <;> try (exfalso;omega))|refine stpd ?_|fail)
  ·have hu : m[x.cell.toNat]!.stk[k]!.uq = false := by assumption
   rw [if_pos hu] at hwr
   (refine rq_ret rfl ?_; refine mc_ret () trivial ?_ ⟨sE ?_,trivial⟩)
   ·rw [hwr]; rfl
   ·unfold tchM;rw [if_neg (by rw [hwr]; decide)]
  ·have hu : m[x.cell.toNat]!.stk[k]!.uq = true := by assumption
   rw [if_neg (by rw [hu]; decide)] at hwr
   refine rw_go ?_
   rw [e1]
   repeat' (first|(apply id_rw;(with_reducible apply rw_stop (d := 49)))|refine stpb ?_|fail)
   refine rw_go (rw_le ?_ (Le.frzCl (j := 1) (q := 3) (v := x.cell.toNat) (u := m) (r := m[x.cell.toNat]!.stk.take (k + 1)) rfl rfl (Nat.zero_add _) (by omega) (by decide)))
   repeat' (first|refine stpb ?_|fail)
   (refine rq_ret rfl ?_; refine mc_ret () trivial ?_ ⟨sE ?_,trivial⟩)
   ·rw [hwr]; rfl
   ·unfold tchM tchC tchS;rw [if_pos hwr,hkt,if_pos rfl]
 ·rw [if_neg hk] at hpl
  have hk2 : tchK m x true = tchK m x false := by rw [tchK_wr,if_neg hk]
  refine mc_start Tryz.func217 Tryz.ntmps217 ?_
  repeat' (first|(apply id_rw;first|(apply rx_l6CopyM;rfl;exact l6CopyM_c m hm;rfl;rfl)|(apply rx_callE (k := 222);rfl;exact hpl;exact Pur.pf;rfl))|refine stpb ?_|(refine stp2 ?_ ?_ <;> intro hc hq <;> try (exfalso;omega))|fail)
  (refine rq_ret rfl ?_; refine mc_ret () trivial ?_ ⟨sE ?_,trivial⟩)
  ·rw [hk2]; rfl
  ·unfold tchM;rw [if_neg (by rw [hk2]; exact hk)]
theorem set_set {α:Type}{l:List α}{i:Nat}{a b:α}:(l.set i a).set i b = l.set i b := by simp
theorem get_set {α:Type}[Inhabited α] {l:List α}{i:Nat}{a:α}(h:i < l.length):(l.set i a)[i]! = a := by rw [getB _ _ (by rw [List.length_set]; exact h),List.getElem_set_self]
theorem WriteCellS_c (m:List Cl) (hm:OkM m) (x:Pt) (v:Int):PC Tryz.prog 167 [sl cCl m,aPt x,iv v] (fun r => r = .tup [sl cCl (wrM m x v),iv (wrK m x v)]):=by
 have hml := hm.l
 have hlt := tchM_len (m := m) (x := x) (wr := true)
 have hin := tchK_in (m := m) (x := x) (wr := true)
 by_cases hv : 0 ≤ v ∧ v ≤ 9
 ·have hwk : wrK m x v = tchK m x true := by unfold wrK; rw [if_pos hv]
  by_cases hk : tchK m x true = 0
  ·obtain ⟨h1, h2, _⟩ := hin hk
   refine pc_start Tryz.func167 Tryz.ntmps167 ?_
   repeat' (first|(apply id_rw;first|(apply rx_l6WriteM;rfl;rfl;exact l6WriteM_c m x hm;rfl;rfl)|(apply rx_store;rfl;rfl;rfl;rfl;rfl;(rw [flat_length]; simp only [lns] <;> omega);(exact st_clV (by (omega)))))|refine stpb ?_|(refine stp2 ?_ ?_ <;> intro hc hq <;> try (exfalso;omega))|(refine stp3 ?_ ?_ <;> intro hg hq <;> try (exfalso;omega))|fail)
   (refine rq_le (Le.frzD (d := 6) (i := 2) rfl rfl) ?_; refine rq_ret rfl ?_)
   refine ⟨?_,by exact Pur.pf⟩
   simp only [oneOf]
   rw [sl_len (by rw [List.length_set,hlt]),hwk]
   unfold wrM tchM;rw [if_pos hk,if_pos (by rw [hwk]; exact hk),get_set (by omega),set_set]
  ·refine pc_start Tryz.func167 Tryz.ntmps167 ?_
   repeat' (first|(apply id_rw;(apply rx_l6WriteM;rfl;rfl;exact l6WriteM_c m x hm;rfl;rfl))|refine stpb ?_|(refine stp2 ?_ ?_ <;> intro hc hq <;> try (exfalso;omega))|(refine stp3 ?_ ?_ <;> intro hg hq <;> try (exfalso;omega))|fail)
   (refine rq_le (Le.frzD (d := 6) (i := 2) rfl rfl) ?_; refine rq_ret rfl ?_)
   refine ⟨?_,by exact Pur.pf⟩
   simp only [oneOf]
   rw [sl_len (by rw [hlt]),hwk]
   unfold wrM tchM;rw [if_neg hk,if_neg (by rw [hwk]; exact hk)]
 ·have hwk : wrK m x v = 4 := by unfold wrK; rw [if_neg hv]
  have e : wrM m x v = m := by unfold wrM;rw [if_neg (by rw [hwk]; decide)]
  refine pc_start Tryz.func167 Tryz.ntmps167 ?_
  repeat' (first|(apply id_rw;(apply rx_l6CopyM;rfl;exact l6CopyM_c m hm;rfl;rfl))|refine stpb ?_|(refine stp2 ?_ ?_ <;> intro hc hq <;> try (exfalso;omega))|(refine stp3 ?_ ?_ <;> intro hg hq <;> try (exfalso;omega))|fail)
  all_goals (try (exfalso;omega))
  all_goals (
   (refine rq_le (Le.frzD (d := 6) (i := 1) rfl rfl) ?_; refine rq_ret rfl ?_)
   refine ⟨?_,by exact Pur.pf⟩
   simp only [oneOf]
   rw [e,hwk])
theorem FreeCellS_c (m:List Cl) (hm:OkM m) (x:Pt):PC Tryz.prog 159 [sl cCl m,aPt x] (fun r => r = .tup [sl cCl (frM m x),iv (tchK m x true)]):=by
 have hml := hm.l
 have hlt := tchM_len (m := m) (x := x) (wr := true)
 have hin := tchK_in (m := m) (x := x) (wr := true)
 by_cases hk : tchK m x true = 0
 ·obtain ⟨h1, h2, _⟩ := hin hk
  refine pc_start Tryz.func159 Tryz.ntmps159 ?_
  repeat' (first|(apply id_rw;first|(apply rx_l6WriteM;rfl;rfl;exact l6WriteM_c m x hm;rfl;rfl)|(apply rx_store;rfl;rfl;rfl;rfl;rfl;(rw [flat_length]; simp only [lns] <;> omega);(exact st_clA (by (omega)))))|refine stpb ?_|(refine stp2 ?_ ?_ <;> intro hc hq <;> try (exfalso;omega))|fail)
  (refine rq_le (Le.frzD (d := 4) (i := 2) rfl rfl) ?_; refine rq_ret rfl ?_)
  refine ⟨?_,by exact Pur.pf⟩
  simp only [oneOf]
  rw [sl_len (by rw [List.length_set,hlt])]
  unfold frM tchM;rw [if_pos hk,if_pos hk,get_set (by omega),set_set]
 ·refine pc_start Tryz.func159 Tryz.ntmps159 ?_
  repeat' (first|(apply id_rw;(apply rx_l6WriteM;rfl;rfl;exact l6WriteM_c m x hm;rfl;rfl))|refine stpb ?_|(refine stp2 ?_ ?_ <;> intro hc hq <;> try (exfalso;omega))|fail)
  (refine rq_le (Le.frzD (d := 4) (i := 2) rfl rfl) ?_; refine rq_ret rfl ?_)
  refine ⟨?_,by exact Pur.pf⟩
  simp only [oneOf]
  rw [sl_len (by rw [hlt])]
  unfold frM tchM;rw [if_neg hk,if_neg hk]
theorem NewCellS_c (m:List Cl) (hm:OkM m) (v:Int):PC Tryz.prog 163 [sl cCl m,iv v] (fun r => r = .tup (if 0 ≤ v ∧ v ≤ 9 ∧ m.length < 200 then [sl cCl (m ++ [nwC v]),.agg [iv m.length,iv 0],bv true] else [sl cCl [],.agg [iv 0,iv 0],bv false])):=by
 have hml := hm.l
 have hcv := CellsValidS_c m (by omega)
 rw [decide_eq_true hm] at hcv
 refine pc_start Tryz.func163 Tryz.ntmps163 ?_
 repeat' (first|(apply id_rw;first|(apply rx_l6CopyM;rfl;exact l6CopyM_c m hm;rfl;rfl)|(apply rx_callE (k := 218);rfl;exact hcv;exact Pur.pf;rfl)|(apply rx_buildSliceI (t := _);rfl;rfl;rfl;(first|exact (rfl:_=some [_,_])|exact (rfl:_=some [_,_,_,_])|rfl);rfl;rfl))|refine stpb ?_|(refine stp2 ?_ ?_ <;> intro hc hq <;> try (exfalso;omega))|(refine stp3 ?_ ?_ <;> intro hg hq <;> try (exfalso;omega))|fail)
 all_goals try exact rq_ret (l := [sl cCl [],.agg [iv 0,iv 0],bv false]) rfl ⟨by rw [if_neg (by omega)]; rfl,rfl⟩
 have e : ((flat cCl m).drop 0).take (m.length * 4) ++ [iv v,bv true,iv 1,.imm 1 [iv 0,bv true]] = flat cCl (m ++ [nwC v]) := app_flat rfl rfl
 have e2 : AV.imm (m.length + 1) (((flat cCl m).drop 0).take (m.length * 4) ++ [iv v, bv true, iv 1, .imm 1 [iv 0, bv true]]) = sl cCl (m ++ [nwC v]) := by
  rw [e]; exact sl_len (by rw [List.length_append]; rfl)
 refine rq_le (Le.frzD (d := 4) (i := 4) rfl rfl) ?_
 refine rq_ret (l := [AV.imm (m.length + 1) (((flat cCl m).drop 0).take (m.length * 4) ++ [iv v,bv true,iv 1,.imm 1 [iv 0,bv true]]),.agg [iv m.length,iv 0],bv true]) rfl ?_
 rw [e2,if_pos (by omega)]
 exact ⟨rfl,by exact Pur.pf⟩
def pshF (m : List Cl) (j : Nat) (r : List Tg) : Prop := r.length = 200 ∨ m[j]!.next = 1000
instance (m : List Cl) (j : Nat) (r : List Tg) : Decidable (pshF m j r) := by unfold pshF;infer_instance
def pshM (m b : List Cl) (j : Nat) (u : Bool) (r : List Tg) : List Cl := if pshF m j r then b else m.set j (psh { m[j]! with stk := r } u)
def pshP (m : List Cl) (j : Nat) (r : List Tg) : Pt := if pshF m j r then ⟨0,0⟩ else ⟨j,m[j]!.next⟩
def pshK (m : List Cl) (j : Nat) (r : List Tg) : Int := if pshF m j r then 4 else 0
theorem rx_l6Push {m b:List Cl}{j:Nat}{u:Bool}{r:List Tg}{n k:Nat}{x0 x1 x2 x3:Operand}{i0 i1:Nat}(ha0:ev (lk tsl) x0 = some (.own i0 0 n 4)) (ha1:ev (lk tsl) x1 = some (sl cCl b)) (ha2:ev (lk tsl) x2 = some (iv (j:Int))) (ha3:ev (lk tsl) x3 = some (bv u)) (hH0:lkH hsl i0 = some (flat cCo (opn m j (.own i1 0 k 2)))) (hH1:lkH hsl i1 = some (flat cTg r)) (hdd:Go.AL.distinct [i0,i1] = true) (hmc:MC Tryz.prog 277 [.own 0 0 n 4,sl cCl b,iv (j:Int),bv u] [(0,some (flat cCo (opn m j (.own 1 0 k 2)))),(1,some (flat cTg r))] 2 (fun _:Unit => True) (fun _ => .tup [sl cCl (pshM m b j u r),aPt (pshP m j r),iv (pshK m j r)]) (fun _ => [])) (hM:Nat.ble (nidl + 0) big = true) (hN:Nat.blt d N = true){md':Md}[hmd:MdA md (rOs [x0,x1,x2,x3] ++ [.inr i0,.inr i1]) (List.map Sum.inr (List.map Prod.fst ([(i0,none),(i1,none)]:List (Nat × Option (List AV)))) ++ [.inl d]) md'] (kk:RW Tryz.prog N all Q md' rest ⟨(d,.tup [sl cCl (pshM m b j u r),aPt (pshP m j r),iv (pshK m j r)]) :: tsl,wrH hsl [(i0,none),(i1,none)],nidl + 0,z0⟩):RW Tryz.prog N all Q md (⟨some d,.call ⟨.value (.func 277),#[x0,x1,x2,x3],tys⟩,ty,pos,af,none⟩ :: rest) ⟨tsl,hsl,nidl,z0⟩:=by
 exact rx_mcallA (l := [x0,x1,x2,x3]) [i0,i1] 2 [(i0,none),(i1,none)] hmc (avs := [.own i0 0 n 4,sl cCl b,iv (j : Int),bv u]) (by simp only [evL,ha0,ha1,ha2,ha3]) hdd hM hN (md' := md') (hmd := hmd) kk
theorem l6Push_c (m b:List Cl) (j:Nat) (u:Bool) (r:List Tg) (n k:Nat) (hb:OkM b) (hn:n = m.length) (hk:k = r.length) (hj:j < m.length) (hnx:0 ≤ m[j]!.next ∧ m[j]!.next ≤ 1000) (hr:r.length ≤ 200) (hml:m.length ≤ 200):MC Tryz.prog 277 [.own 0 0 n 4,sl cCl b,iv (j:Int),bv u] [(0,some (flat cCo (opn m j (.own 1 0 k 2)))),(1,some (flat cTg r))] 2 (fun _:Unit => True) (fun _ => .tup [sl cCl (pshM m b j u r),aPt (pshP m j r),iv (pshK m j r)]) (fun _ => []):=by
 have hol := opn_len (m := m) (j := j) (X := .own 1 0 k 2)
 have hog := opn_get (m := m) (j := j) (X := .own 1 0 k 2) hj
 have hol2 := opn_len (m := m) (j := j) (X := .own (2 + 1 + 1 + 1) 0 (r.length + 1) 2)
 subst hn hk
 refine mc_start Tryz.func277 Tryz.ntmps277 ?_
 repeat' (first|(apply id_rw;(with_reducible apply rw_stop (d := 11)))|refine stpb ?_|fail)
 refine rw_go ?_
 rw [hog]
 dsimp only
 repeat' (first|(apply id_rw;first|(apply rx_callE (k := 219);rfl;exact l6Copy_c b hb;exact Pur.pf;rfl)|(apply rx_append;rfl;rfl;rfl;rfl;rfl;(rw [flat_length]; omega);(rfl);omega;omega;(exact app_tg (by (omega)));rfl;rfl)|(apply rx_store;rfl;rfl;rfl;rfl;rfl;(case hl => (first|decide|(rw [flat_length]; simp only [lns] <;> omega)|(simp;done)));(first|exact st_opn (by (assumption))|exact st_opnN (by (assumption))))|(apply rx_buildSliceI (t := _);rfl;rfl;rfl;(exact (rfl:_=some [_,_]));rfl;rfl))|refine stpb ?_|(refine stp2 ?_ ?_ <;> intro hc hq <;> try (exfalso;omega))|(refine stp3 ?_ ?_ <;> intro hg hq <;> try (exfalso;omega))|fail)
 ·have hf : pshF m j r := .inr (by assumption)
  refine rq_ret (l := [sl cCl b,.agg [iv 0,iv 0],iv 4]) rfl ?_
  refine mc_ret () trivial ?_ trivial
  unfold pshM pshP pshK;rw [if_pos hf,if_pos hf,if_pos hf]; rfl
 ·have hf : ¬ pshF m j r := by unfold pshF; omega
  have hm2 : (m.set j { m[j]! with next := m[j]!.next + 1 }).length = m.length := List.length_set
  refine rq_le (Le.cls (o := 0) (q := 5) (j := j) (k := r.length + 1) (m := m.set j { m[j]! with next := m[j]!.next + 1 }) (r := r ++ [⟨m[j]!.next,u⟩]) rfl rfl (by rw [List.length_append]; rfl) (by omega) (by decide)) ?_
  refine rq_le (Le.frzD (d := 8) (i := 0) rfl rfl) ?_
  have e : (m.set j { m[j]! with next := m[j]!.next + 1 }).set j { (m.set j { m[j]! with next := m[j]!.next + 1 })[j]! with stk := r ++ [⟨m[j]!.next, u⟩] } = m.set j (psh { m[j]! with stk := r } u) := by
   rw [get_set hj,set_set]; rfl
  rw [e]
  refine rq_ret (l := [.imm m.length (flat cCl (m.set j (psh { m[j]! with stk := r } u))),.agg [iv (j : Int),iv m[j]!.next],iv 0]) rfl ?_
  refine mc_ret () trivial ?_ trivial
  unfold pshM pshP pshK;rw [if_neg hf,if_neg hf,if_neg hf,sl_len (by rw [List.length_set])]; rfl
 ·have hf : pshF m j r := .inl (by omega)
  refine rq_ret (l := [sl cCl b,.agg [iv 0,iv 0],iv 4]) rfl ?_
  refine mc_ret () trivial ?_ trivial
  unfold pshM pshP pshK;rw [if_pos hf,if_pos hf,if_pos hf]; rfl
theorem rx_l6ReadM {stk r:List Tg}{k:Nat}{x0 x1:Operand}(ha0:ev (lk tsl) x0 = some (sl cTg stk)) (ha1:ev (lk tsl) x1 = some (iv (k:Int))) (hmc:MC Tryz.prog 223 [sl cTg stk,iv (k:Int)] [] 0 (fun _:Unit => True) (fun _ => .own 1 0 r.length 2) (fun _ => [(1,some (flat cTg r))])) (hM:Nat.ble (nidl + 2) big = true) (hN:Nat.blt d N = true){md':Md}[hmd:MdA md (rOs [x0,x1] ++ []) (List.map Sum.inr (List.map Prod.fst ([((nidl + 1),some (flat cTg r))]:List (Nat × Option (List AV)))) ++ [.inl d]) md'] (kk:RW Tryz.prog N all Q md' rest ⟨(d,.own (nidl + 1) 0 r.length 2) :: tsl,wrH hsl [((nidl + 1),some (flat cTg r))],nidl + 2,z0⟩):RW Tryz.prog N all Q md (⟨some d,.call ⟨.value (.func 223),#[x0,x1],tys⟩,ty,pos,af,none⟩ :: rest) ⟨tsl,hsl,nidl,z0⟩:=by
 exact rx_mcallA (l := [x0,x1]) [] 2 [((nidl + 1),some (flat cTg r))] hmc (avs := [sl cTg stk,iv (k : Int)]) (by simp only [evL,ha0,ha1]) rfl hM hN (md' := md') (hmd := hmd) kk
theorem l6ReadM_c (stk r:List Tg) (k:Nat) (hr:r = tchS stk k false) (hk:k < stk.length) (hl:stk.length ≤ 1048576):MC Tryz.prog 223 [sl cTg stk,iv (k:Int)] [] 0 (fun _:Unit => True) (fun _ => .own 1 0 r.length 2) (fun _ => [(1,some (flat cTg r))]):=by
 have e1 : List.take (((k : Int) + 1).toNat - 0) (List.drop 0 stk) = stk.take (k + 1) := by rw [List.drop_zero]; congr 1
 have e2 : (stk.take (k + 1)).length = k + 1 := by rw [List.length_take]; omega
 refine mc_start Tryz.func223 Tryz.ntmps223 ?_
 repeat' (first|(apply id_rw;(with_reducible apply rw_stop (d := 12)))|refine stpb ?_|fail)
 refine rw_go ?_
 rw [e1]
 repeat' (first|refine stpb ?_|fail)
 refine aw_loopA (σ := Nat × List Tg × Nat) [0] [] (fun s => [(6,iv (s.1 : Int)),(5,.own 1 0 s.2.2 2)]) (fun s => [(1,some (flat cTg s.2.1))]) (fun s => k + 1 ≤ s.1 ∧ s.1 ≤ stk.length ∧ s.2.1 = stk.take (k + 1) ++ ((stk.drop (k + 1)).take (s.1 - (k + 1))).filter (fun t => !t.uq) ∧ s.2.2 = s.2.1.length ∧ s.2.2 ≤ s.1) (fun s => stk.length - s.1) (k + 1,stk.take (k + 1),0 + (stk.take (k + 1)).length) ⟨Nat.le_refl _,by dsimp only;omega,by simp,by dsimp only;omega,by dsimp only;omega⟩ ?_
 rintro ⟨i,xs,n⟩ ⟨hki,hi,hxs,hn,hni⟩
 dsimp only at hki hi hxs hn hni ⊢
 repeat' (first|(apply id_rw;first|(apply rx_append;rfl;rfl;rfl;rfl;rfl;(rw [flat_length]; omega);(rfl);omega;omega;(exact app_tg (by (assumption)));rfl;rfl)|(apply rx_buildSliceI (t := _);rfl;rfl;rfl;(exact (rfl:_=some [_,_]));rfl;rfl))|refine stpb ?_|(refine stp2 ?_ ?_ <;> intro hc hq <;> try (exfalso;omega))|fail)
 ·(refine ex3 (i + 1, _, _) (Le.renA [(1, 3)]) ?_ ?_)
  ·refine ⟨by dsimp only; omega, by dsimp only; omega, ?_, by dsimp only; rw [List.length_append, hn]; rfl, by dsimp only; omega⟩
   dsimp only
   rw [hxs,take_succ_d stk hki (by omega),List.filter_append,List.append_assoc]
   congr 2
   have hu : stk[i]!.uq = false := by assumption
   rw [filter1_t (by rw [hu]; rfl)]
  ·dsimp only;omega
 ·(refine ex3 (i + 1, xs, n) (Le.renA [(1, 1)]) ?_ ?_)
  ·refine ⟨by dsimp only; omega, by dsimp only; omega, ?_, hn, by dsimp only; omega⟩
   dsimp only
   have hu : stk[i]!.uq = true := by assumption
   rw [hxs,take_succ_d stk hki (by omega),List.filter_append,filter1_f (by rw [hu]; rfl),List.append_nil]
  ·dsimp only;omega
 ·have hie : i = stk.length := by omega
  have hd : (stk.drop (k + 1)).take (stk.length - (k + 1)) = stk.drop (k + 1) := List.take_of_length_le (by rw [List.length_drop]; exact Nat.le_refl _)
  have hxr : xs = r := by rw [hxs,hie,hd,hr]; rfl
  subst hxr
  (refine rq_ret rfl ?_; refine mc_ret () trivial ?_ ⟨sE ?_,trivial⟩)
  ·rw [hn]; rfl
  ·rfl
theorem rx_readO {m:List Cl}{x:Pt}{j:Nat}{r:List Tg}{v:Int}{x0 x1:Operand}(ha0:ev (lk tsl) x0 = some (sl cCl m)) (ha1:ev (lk tsl) x1 = some (aPt x)) (hmc:MC Tryz.prog 166 [sl cCl m,aPt x] [] 0 (fun _:Unit => True) (fun _ => .tup [.own 1 0 m.length 4,iv v,iv 0]) (fun _ => [(1,some (flat cCo (opn m j (.own 3 0 r.length 2)))),(3,some (flat cTg r))])) (hM:Nat.ble (nidl + 4) big = true) (hN:Nat.blt d N = true){md':Md}[hmd:MdA md (rOs [x0,x1] ++ []) (List.map Sum.inr (List.map Prod.fst ([((nidl + 1),some (flat cCo (opn m j (.own (nidl + 3) 0 r.length 2)))),((nidl + 3),some (flat cTg r))]:List (Nat × Option (List AV)))) ++ [.inl d]) md'] (kk:RW Tryz.prog N all Q md' rest ⟨(d,.tup [.own (nidl + 1) 0 m.length 4,iv v,iv 0]) :: tsl,wrH hsl [((nidl + 1),some (flat cCo (opn m j (.own (nidl + 3) 0 r.length 2)))),((nidl + 3),some (flat cTg r))],nidl + 4,z0⟩):RW Tryz.prog N all Q md (⟨some d,.call ⟨.value (.func 166),#[x0,x1],tys⟩,ty,pos,af,none⟩ :: rest) ⟨tsl,hsl,nidl,z0⟩:=by
 exact rx_mcallA (l := [x0,x1]) [] 4 [((nidl + 1),some (flat cCo (opn m j (.own (nidl + 3) 0 r.length 2)))),((nidl + 3),some (flat cTg r))] hmc (avs := [sl cCl m,aPt x]) (by simp only [evL,ha0,ha1]) rfl hM hN (md' := md') (hmd := hmd) kk
theorem readO_c (m:List Cl) (x:Pt) (j:Nat) (r:List Tg) (v:Int) (hm:OkM m) (hk:tchK m x false = 0) (hj:j = x.cell.toNat) (hr:r = tchS m[j]!.stk (tgIx m[j]!.stk x.tag).toNat false) (hv:v = m[j]!.val):MC Tryz.prog 166 [sl cCl m,aPt x] [] 0 (fun _:Unit => True) (fun _ => .tup [.own 1 0 m.length 4,iv v,iv 0]) (fun _ => [(1,some (flat cCo (opn m j (.own 3 0 r.length 2)))),(3,some (flat cTg r))]):=by
 subst hj
 have hml := hm.l
 have hst : 0 ≤ x.cell → x.cell < m.length → m[x.cell.toNat]!.stk.length ≤ 1048576 := fun h1 h2 => Nat.le_trans (((OkM_iff m).1 hm).2 x.cell.toNat (by omega)).l.2 (by decide)
 have hpl := l6Place_c m hm x
 rw [if_pos hk,hk] at hpl
 obtain ⟨h1,h2,h3,h4,_⟩ := tchK_in hk
 have hbd := tgIx_bd m[x.cell.toNat]!.stk x.tag
 have hrd := l6ReadM_c m[x.cell.toNat]!.stk r (tgIx m[x.cell.toNat]!.stk x.tag).toNat hr (by omega) (hst h1 h2)
 rw [Int.toNat_of_nonneg h4] at hrd
 obtain ⟨k,hkk⟩ := Int.eq_ofNat_of_zero_le h4
 rw [hkk] at hpl hrd
 refine mc_start Tryz.func166 Tryz.ntmps166 ?_
 repeat' (first|(apply id_rw;first|(apply rx_l6CopyM;rfl;exact l6CopyM_c m hm;rfl;rfl)|(apply rx_callE (k := 222);rfl;exact hpl;exact Pur.pf;rfl)|(apply rx_l6ReadM;rfl;rfl;exact hrd;rfl;rfl)|(apply rx_store;rfl;rfl;rfl;rfl;rfl;(rw [flat_length]; simp only [lns] <;> omega);(exact spl_opn (by (omega)))))|refine stpb ?_|refine stpd ?_|fail)
 (refine rq_ret rfl ?_; refine mc_ret () trivial ?_ ⟨sE ?_,⟨sE ?_,trivial⟩⟩)
 ·rw [hv]; rfl
 ·rfl
 ·rfl
theorem rx_writeO {m:List Cl}{x:Pt}{j:Nat}{r:List Tg}{x0 x1:Operand}(ha0:ev (lk tsl) x0 = some (sl cCl m)) (ha1:ev (lk tsl) x1 = some (aPt x)) (hmc:MC Tryz.prog 217 [sl cCl m,aPt x] [] 0 (fun _:Unit => True) (fun _ => .tup [.own 1 0 m.length 4,iv 0]) (fun _ => [(1,some (flat cCo (opn m j (.own 3 0 r.length 2)))),(3,some (flat cTg r))])) (hM:Nat.ble (nidl + 4) big = true) (hN:Nat.blt d N = true){md':Md}[hmd:MdA md (rOs [x0,x1] ++ []) (List.map Sum.inr (List.map Prod.fst ([((nidl + 1),some (flat cCo (opn m j (.own (nidl + 3) 0 r.length 2)))),((nidl + 3),some (flat cTg r))]:List (Nat × Option (List AV)))) ++ [.inl d]) md'] (kk:RW Tryz.prog N all Q md' rest ⟨(d,.tup [.own (nidl + 1) 0 m.length 4,iv 0]) :: tsl,wrH hsl [((nidl + 1),some (flat cCo (opn m j (.own (nidl + 3) 0 r.length 2)))),((nidl + 3),some (flat cTg r))],nidl + 4,z0⟩):RW Tryz.prog N all Q md (⟨some d,.call ⟨.value (.func 217),#[x0,x1],tys⟩,ty,pos,af,none⟩ :: rest) ⟨tsl,hsl,nidl,z0⟩:=by
 exact rx_mcallA (l := [x0,x1]) [] 4 [((nidl + 1),some (flat cCo (opn m j (.own (nidl + 3) 0 r.length 2)))),((nidl + 3),some (flat cTg r))] hmc (avs := [sl cCl m,aPt x]) (by simp only [evL,ha0,ha1]) rfl hM hN (md' := md') (hmd := hmd) kk
theorem writeO_c (m:List Cl) (x:Pt) (j:Nat) (r:List Tg) (hm:OkM m) (hk:tchK m x true = 0) (hj:j = x.cell.toNat) (hr:r = tchS m[j]!.stk (tgIx m[j]!.stk x.tag).toNat true):MC Tryz.prog 217 [sl cCl m,aPt x] [] 0 (fun _:Unit => True) (fun _ => .tup [.own 1 0 m.length 4,iv 0]) (fun _ => [(1,some (flat cCo (opn m j (.own 3 0 r.length 2)))),(3,some (flat cTg r))]):=by
 subst hj
 have hml := hm.l
 obtain ⟨h1,h2,h3,h4,hu⟩ := tchK_in hk
 have hk0 : tchK m x false = 0 := tchK_0f h1 h2 h3 h4
 have hs2 : m[x.cell.toNat]!.stk.length ≤ 200 := (((OkM_iff m).1 hm).2 x.cell.toNat (by omega)).l.2
 have hpl := l6Place_c m hm x
 rw [if_pos hk0,hk0] at hpl
 have hbd := tgIx_bd m[x.cell.toNat]!.stk x.tag
 obtain ⟨k,hkk⟩ := Int.eq_ofNat_of_zero_le h4
 have hkt : (tgIx m[x.cell.toNat]!.stk x.tag).toNat = k := by omega
 rw [hkk] at hpl
 rw [hkt] at hr hu
 have hkn : k < m[x.cell.toNat]!.stk.length := by omega
 have e1 : List.take (((k : Int) + 1).toNat - 0) (List.drop 0 m[x.cell.toNat]!.stk) = r := by rw [List.drop_zero,hr]; unfold tchS;rw [if_pos rfl]; congr 1
 have e2 : r.length = k + 1 := by rw [← e1,List.drop_zero,List.length_take]; omega
 have hut := hu rfl
 refine mc_start Tryz.func217 Tryz.ntmps217 ?_
 repeat' (first|(apply id_rw;first|(apply rx_l6CopyM;rfl;exact l6CopyM_c m hm;rfl;rfl)|(apply rx_callE (k := 222);rfl;exact hpl;exact Pur.pf;rfl)|(with_reducible apply rw_stop (d := 46)))|refine stpb ?_|(refine stp2 ?_ ?_ <;> intro hc hq <;> try (exfalso;omega))|refine stpd ?_|fail)
 ·exfalso; have hf : m[x.cell.toNat]!.stk[k]!.uq = false := by assumption
  rw [hut] at hf;exact absurd hf (by decide)
 refine rw_go ?_
 rw [e1]
 repeat' (first|(apply id_rw;(apply rx_store;rfl;rfl;rfl;rfl;rfl;(rw [flat_length]; simp only [lns] <;> omega);(exact spl_opn (by (omega)))))|refine stpb ?_|fail)
 (refine rq_ret rfl ?_; refine mc_ret () trivial ?_ ⟨sE ?_,⟨sE ?_,trivial⟩⟩)
 ·rfl
 ·rw [Nat.zero_add r.length]
 ·rfl
theorem lnK_0 {m:List Cl}{x:Pt}{u:Bool}{r:List Tg}(hk:tchK m x u = 0) (hr:r = tchS m[x.cell.toNat]!.stk (tgIx m[x.cell.toNat]!.stk x.tag).toNat u):lnK m x u = pshK m x.cell.toNat r ∧ lnM m x u = pshM m m x.cell.toNat u r ∧ lnP m x u = pshP m x.cell.toNat r:=by
 obtain ⟨h1,h2,_⟩ := tchK_in hk
 subst hr
 have e : lnK m x u = pshK m x.cell.toNat (tchS m[x.cell.toNat]!.stk (tgIx m[x.cell.toNat]!.stk x.tag).toNat u) := by
  unfold lnK;rw [if_pos hk]; rfl
 refine ⟨e,?_,?_⟩
 ·unfold lnM pshM
  rw [e]; unfold pshK
  split
  ·rw [if_neg (by decide)]
  ·rw [if_pos rfl]; rfl
 ·unfold lnP pshP
  rw [e]; unfold pshK
  split
  ·rw [if_neg (by decide)]
  ·rw [if_pos rfl,Int.toNat_of_nonneg h1]
theorem lnK_n {m:List Cl}{x:Pt}{u:Bool}(hk:tchK m x u ≠ 0):lnK m x u = tchK m x u ∧ lnM m x u = m ∧ lnP m x u = ⟨0,0⟩:=by
 have e : lnK m x u = tchK m x u := by unfold lnK;rw [if_neg hk]
 exact ⟨e,by unfold lnM;rw [if_neg (by rw [e]; exact hk)],by unfold lnP;rw [if_neg (by rw [e]; exact hk)]⟩
theorem ShareCellS_c (m:List Cl) (hm:OkM m) (x:Pt):PC Tryz.prog 220 [sl cCl m,aPt x] (fun r => r = .tup [sl cCl (lnM m x false),aPt (lnP m x false),iv (lnK m x false)]):=by
 have hml := hm.l
 by_cases hk : tchK m x false = 0
 ·obtain ⟨c, t⟩ := x
  obtain ⟨h1,h2,_⟩ := tchK_in hk
  have h1' : 0 ≤ c := h1
  obtain ⟨j,rfl⟩ := Int.eq_ofNat_of_zero_le h1'
  have h2' : (j : Int) < m.length := h2
  have hc := ((OkM_iff m).1 hm).2 j (by omega)
  obtain ⟨r,hr⟩ : ∃ r,r = tchS m[j]!.stk (tgIx m[j]!.stk t).toNat false := ⟨_,rfl⟩
  have hrl : r.length ≤ 200 := by rw [hr]; exact Nat.le_trans tchS_sub.length_le hc.l.2
  obtain ⟨e1,e2,e3⟩ := lnK_0 hk hr
  have hpu := l6Push_c m m j false r m.length r.length hm rfl rfl (by omega) (by have := hc.n;omega) hrl hml
  rw [e1,e2,e3]
  refine pc_start Tryz.func220 Tryz.ntmps220 ?_
  repeat' (first|(apply id_rw;first|(apply rx_readO (j := j) (r := r) (v := m[j]!.val);rfl;rfl;exact readO_c m _ _ r _ hm hk rfl hr rfl;rfl;rfl)|(apply rx_l6Push (m := m) (b := m) (j := j) (u := false) (r := r) (n := m.length) (k := r.length);rfl;rfl;rfl;rfl;rfl;rfl;rfl;exact hpu;rfl;rfl))|refine stpb ?_|fail)
  exact rq_ret (l := [sl cCl (pshM m m j false r),.agg [iv (pshP m j r).cell,iv (pshP m j r).tag],iv (pshK m j r)]) rfl ⟨rfl,by exact Pur.pf⟩
 ·obtain ⟨e1, e2, e3⟩ := lnK_n hk
  have hrd := ReadCellS_c m hm x
  have e4 : tchM m x false = m := by unfold tchM;rw [if_neg hk]
  rw [e4] at hrd
  rw [e1,e2,e3]
  refine pc_start Tryz.func220 Tryz.ntmps220 ?_
  repeat' (first|(apply id_rw;(apply rx_callE (k := 166);rfl;exact hrd;exact Pur.pf;rfl))|refine stpb ?_|(refine stp2 ?_ ?_ <;> intro hc hq <;> try (exfalso;omega))|fail)
  skip
  exact rq_ret (l := [sl cCl m,.agg [iv 0,iv 0],iv (tchK m x false)]) rfl ⟨rfl,by exact Pur.pf⟩
theorem BorrowCellS_c (m:List Cl) (hm:OkM m) (x:Pt):PC Tryz.prog 221 [sl cCl m,aPt x] (fun r => r = .tup [sl cCl (lnM m x true),aPt (lnP m x true),iv (lnK m x true)]):=by
 have hml := hm.l
 by_cases hk : tchK m x true = 0
 ·obtain ⟨c, t⟩ := x
  obtain ⟨h1,h2,_⟩ := tchK_in hk
  have h1' : 0 ≤ c := h1
  obtain ⟨j,rfl⟩ := Int.eq_ofNat_of_zero_le h1'
  have h2' : (j : Int) < m.length := h2
  have hc := ((OkM_iff m).1 hm).2 j (by omega)
  obtain ⟨r,hr⟩ : ∃ r,r = tchS m[j]!.stk (tgIx m[j]!.stk t).toNat true := ⟨_,rfl⟩
  have hrl : r.length ≤ 200 := by rw [hr]; exact Nat.le_trans tchS_sub.length_le hc.l.2
  obtain ⟨e1,e2,e3⟩ := lnK_0 hk hr
  have hpu := l6Push_c m m j true r m.length r.length hm rfl rfl (by omega) (by have := hc.n;omega) hrl hml
  rw [e1,e2,e3]
  refine pc_start Tryz.func221 Tryz.ntmps221 ?_
  repeat' (first|(apply id_rw;first|(apply rx_writeO (j := j) (r := r);rfl;rfl;exact writeO_c m _ _ r hm hk rfl hr;rfl;rfl)|(apply rx_l6Push (m := m) (b := m) (j := j) (u := true) (r := r) (n := m.length) (k := r.length);rfl;rfl;rfl;rfl;rfl;rfl;rfl;exact hpu;rfl;rfl))|refine stpb ?_|fail)
  exact rq_ret (l := [sl cCl (pshM m m j true r),.agg [iv (pshP m j r).cell,iv (pshP m j r).tag],iv (pshK m j r)]) rfl ⟨rfl,by exact Pur.pf⟩
 ·obtain ⟨e1, e2, e3⟩ := lnK_n hk
  have hwr := l6WriteM_c m x hm
  have e4 : tchM m x true = m := by unfold tchM;rw [if_neg hk]
  rw [e1,e2,e3]
  refine pc_start Tryz.func221 Tryz.ntmps221 ?_
  repeat' (first|(apply id_rw;(apply rx_l6WriteM;rfl;rfl;exact hwr;rfl;rfl))|refine stpb ?_|(refine stp2 ?_ ?_ <;> intro hc hq <;> try (exfalso;omega))|fail)
  refine rq_le (Le.frzD (d := 4) (i := 3) (m := m.length) (cs := flat cCl (tchM m x true)) rfl rfl) ?_
  rw [e4]
  exact rq_ret (l := [sl cCl m,.agg [iv 0,iv 0],iv (tchK m x true)]) rfl ⟨rfl,by exact Pur.pf⟩
abbrev aMc (s : Mc) : AV := .agg [sl cSl s.slots,sl cCl s.cells,sl cI s.read]
theorem st_sl {xs:List Sl}{k:Nat}{a:Bool}{b c d:Int}(hk:k < xs.length):spl (flat cSl xs) (0 + k * 4) [bv a,iv b,iv c,iv d] = flat cSl (xs.set k ⟨a,b,⟨c,d⟩⟩) := st_flat0 hk rfl
theorem l7Clear_c (s:Mc) (v:Nat) (hv:v < s.slots.length) (hl:s.slots.length ≤ 1048576):PC Tryz.prog 161 [aMc s,iv (v:Int)] (fun r => r = aMc ⟨s.slots.set v sl0,s.cells,s.read⟩):=by
 refine pc_start Tryz.func161 Tryz.ntmps161 ?_
 repeat' (first|(apply id_rw;(apply rx_store;rfl;rfl;rfl;rfl;rfl;(case hl => (first|(rw [flat_length]; simp only [lns] <;> omega)|(simp;done)));(exact st_sl (by (assumption)))))|refine stpb ?_|fail)
 refine rq_le (Le.frzC (j := 1) (i := 3) [] rfl rfl (by decide)) ?_
 have e : AV.imm (0 + s.slots.length) (flat cSl (s.slots.set v sl0)) = sl cSl (s.slots.set v sl0) := sl_len (by rw [List.length_set,Nat.zero_add])
 refine rq_ret (l := [.agg [.imm (0 + s.slots.length) (flat cSl (s.slots.set v sl0)),sl cCl s.cells,sl cI s.read]]) rfl ?_
 rw [e]
 exact ⟨rfl,by exact Pur.pf⟩
theorem goK_0 (k:Int):(if goK k = -1 then (0:Int) else goK k) = if k = 1 then 3 else if k = 0 then 0 else 4:=by
 unfold goK endK
 by_cases h : k = 0
 ·subst h;rfl
 ·rw [if_neg h, if_neg h]
  by_cases h1 : k = 1
  ·rw [if_pos h1]; rfl
  ·rw [if_neg h1]; rfl
theorem l7Put_c (ts:List Int) (s:Mc) (v:Nat) (y:Sl) (hm:OkM s.cells) (hv:v < s.slots.length) (hvt:v < ts.length) (hl:s.slots.length ≤ 1048576):PC Tryz.prog 162 [sl cI ts,aMc s,iv (v:Int),aSl y] (fun r => r = .tup [aMc (putF ts s v y).1,iv (if (putF ts s v y).2 = -1 then 0 else (putF ts s v y).2)]):=by
 have hfc := FreeCellS_c s.cells hm s.slots[v]!.ptr
 refine pc_start Tryz.func162 Tryz.ntmps162 ?_
 repeat' (first|(apply id_rw;first|(apply rx_callE (k := 159);rfl;exact hfc;exact Pur.pf;rfl)|(apply rx_store;rfl;rfl;rfl;rfl;rfl;(case hl => (first|(rw [flat_length]; simp only [lns] <;> omega)|(simp;done)));(exact st_sl (by (assumption))))|(apply rx_callE (k := 160);rfl;(apply l7Code_c);(rfl);rfl))|refine stpb ?_|(refine stp2 ?_ ?_ <;> intro hc hq <;> try (exfalso;omega))|(refine stp3 ?_ ?_ <;> intro hg hq <;> try (exfalso;omega))|refine stpd ?_|fail)
 all_goals (
  refine rq_le (Le.frzC (j := 2) (i := 4) [] rfl rfl (by decide)) ?_
  have e : AV.imm (0 + s.slots.length) (flat cSl (s.slots.set v y)) = sl cSl (s.slots.set v y) := sl_len (by rw [List.length_set,Nat.zero_add]))
 ·have hp : putF ts s v y = (⟨s.slots.set v y, frM s.cells s.slots[v]!.ptr, s.read⟩, goK (tchK s.cells s.slots[v]!.ptr true)) := if_pos ⟨by assumption, by assumption⟩
  refine rq_ret (l := [.agg [.imm (0 + s.slots.length) (flat cSl (s.slots.set v y)),sl cCl (frM s.cells s.slots[v]!.ptr),sl cI s.read],iv (if tchK s.cells s.slots[v]!.ptr true = 1 then 3 else if tchK s.cells s.slots[v]!.ptr true = 0 then 0 else 4)]) rfl ?_
  rw [e,hp]
  dsimp only
  rw [goK_0]
  exact ⟨rfl,by exact Pur.pf⟩
 all_goals (
  have hp : putF ts s v y = (⟨s.slots.set v y, s.cells, s.read⟩, -1) := if_neg (by
   rintro ⟨q1,q2⟩
   first|(exact (by assumption : ¬ ts[v]! = 2) q1)|(rw [(by assumption : s.slots[v]!.set = false)] at q2;exact absurd q2 (by decide)))
  refine rq_ret (l := [.agg [.imm (0 + s.slots.length) (flat cSl (s.slots.set v y)),sl cCl s.cells,sl cI s.read],iv 0]) rfl ?_
  rw [e,hp]
  exact ⟨rfl,by exact Pur.pf⟩)
def gk (e : Int) : Int := if e = -1 then 0 else e
theorem tkT_t {t:Int}(h:t = 2 ∨ t = 4):tkT t = true:=by
 unfold tkT;rcases h with h|h <;> subst h <;> rfl
theorem tkT_f {t:Int}(h:¬ t = 2) (h2:¬ t = 4):¬ tkT t = true:=by
 unfold tkT;rw [decide_eq_false h,decide_eq_false h2]; decide
theorem endK_n {k:Int}(h:¬ k = 0):(if k = 1 then (3:Int) else if k = 0 then 0 else 4) = endK k:=by
 unfold endK;rw [if_neg h]
theorem lnM_n {m:List Cl}{x:Pt}{u:Bool}(h:¬ lnK m x u = 0):lnM m x u = m := by unfold lnM;rw [if_neg h]
theorem l7Move_c (ts:List Int) (s:Mc) (x:Pnt) (hm:OkM s.cells) (hsl:s.slots.length = ts.length) (hx:0 ≤ x.x ∧ x.x < ts.length) (hy:0 ≤ x.y ∧ x.y < ts.length) (hl:ts.length ≤ 1048576):PC Tryz.prog 164 [sl cI ts,aMc s,aPnt x] (fun r => r = .tup [aMc (putF ts (if tkT ts[x.y.toNat]! = true then ⟨s.slots.set x.y.toNat sl0,s.cells,s.read⟩ else s) x.x.toNat s.slots[x.y.toNat]!).1,iv (gk (putF ts (if tkT ts[x.y.toNat]! = true then ⟨s.slots.set x.y.toNat sl0,s.cells,s.read⟩ else s) x.x.toNat s.slots[x.y.toNat]!).2)]):=by
 have hcl := l7Clear_c s x.y.toNat (by omega) (by omega)
 have hp1 := l7Put_c ts ⟨s.slots.set x.y.toNat sl0,s.cells,s.read⟩ x.x.toNat s.slots[x.y.toNat]! hm (by show _ < (s.slots.set x.y.toNat sl0).length;rw [List.length_set]; omega) (by omega) (by show (s.slots.set x.y.toNat sl0).length ≤ _; rw [List.length_set]; omega)
 have hp2 := l7Put_c ts s x.x.toNat s.slots[x.y.toNat]! hm (by omega) (by omega) (by omega)
 rw [Int.toNat_of_nonneg hy.1] at hcl
 rw [Int.toNat_of_nonneg hx.1] at hp1 hp2
 refine pc_start Tryz.func164 Tryz.ntmps164 ?_
 repeat' (first|(apply id_rw;first|(apply rx_callE (k := 161);rfl;exact hcl;exact Pur.pf;rfl)|(apply rx_callE (k := 162);rfl;(first|exact hp1|exact hp2);exact Pur.pf;rfl))|refine stpb ?_|(refine stp2 ?_ ?_ <;> intro hc hq <;> try (exfalso;omega))|(refine stp3 ?_ ?_ <;> intro hg hq <;> try (exfalso;omega))|fail)
 ·refine rq_ret (l := [aMc (putF ts ⟨s.slots.set x.y.toNat sl0, s.cells, s.read⟩ x.x.toNat s.slots[x.y.toNat]!).1, iv (gk (putF ts ⟨s.slots.set x.y.toNat sl0, s.cells, s.read⟩ x.x.toNat s.slots[x.y.toNat]!).2)]) rfl ⟨?_, by exact Pur.pf⟩
  rw [if_pos (tkT_t (.inr (by assumption)))]; rfl
 ·refine rq_ret (l := [aMc (putF ts s x.x.toNat s.slots[x.y.toNat]!).1, iv (gk (putF ts s x.x.toNat s.slots[x.y.toNat]!).2)]) rfl ⟨?_, by exact Pur.pf⟩
  rw [if_neg (tkT_f (by assumption) (by assumption))]; rfl
 ·refine rq_ret (l := [aMc (putF ts ⟨s.slots.set x.y.toNat sl0, s.cells, s.read⟩ x.x.toNat s.slots[x.y.toNat]!).1, iv (gk (putF ts ⟨s.slots.set x.y.toNat sl0, s.cells, s.read⟩ x.x.toNat s.slots[x.y.toNat]!).2)]) rfl ⟨?_, by exact Pur.pf⟩
  rw [if_pos (tkT_t (.inl (by assumption)))]; rfl
theorem l7Make_c (ts:List Int) (s:Mc) (x:Pnt) (u:Bool) (hu:u = decide (x.op = 5)) (hm:OkM s.cells) (hsl:s.slots.length = ts.length) (hx:0 ≤ x.x ∧ x.x < ts.length) (hy:0 ≤ x.y ∧ x.y < ts.length) (hl:ts.length ≤ 1048576):PC Tryz.prog 165 [sl cI ts,aMc s,aPnt x] (fun r => r = if lnK s.cells s.slots[x.y.toNat]!.ptr u = 0 then
  .tup [aMc (putF ts ⟨s.slots,lnM s.cells s.slots[x.y.toNat]!.ptr u,s.read⟩ x.x.toNat ⟨true,0,lnP s.cells s.slots[x.y.toNat]!.ptr u⟩).1,iv (gk (putF ts ⟨s.slots,lnM s.cells s.slots[x.y.toNat]!.ptr u,s.read⟩ x.x.toNat ⟨true,0,lnP s.cells s.slots[x.y.toNat]!.ptr u⟩).2)]
  else .tup [aMc s,iv (endK (lnK s.cells s.slots[x.y.toNat]!.ptr u))]) := by
 have hsh := ShareCellS_c s.cells hm s.slots[x.y.toNat]!.ptr
 have hbo := BorrowCellS_c s.cells hm s.slots[x.y.toNat]!.ptr
 have hp1 := l7Put_c ts ⟨s.slots,lnM s.cells s.slots[x.y.toNat]!.ptr false,s.read⟩ x.x.toNat ⟨true,0,lnP s.cells s.slots[x.y.toNat]!.ptr false⟩ (hm.ln _ _) (by show _ < s.slots.length;omega) (by omega) (by show s.slots.length ≤ _; omega)
 have hp2 := l7Put_c ts ⟨s.slots,lnM s.cells s.slots[x.y.toNat]!.ptr true,s.read⟩ x.x.toNat ⟨true,0,lnP s.cells s.slots[x.y.toNat]!.ptr true⟩ (hm.ln _ _) (by show _ < s.slots.length;omega) (by omega) (by show s.slots.length ≤ _; omega)
 rw [Int.toNat_of_nonneg hx.1] at hp1 hp2
 refine pc_start Tryz.func165 Tryz.ntmps165 ?_
 repeat' (first|(apply id_rw;first|(apply rx_callE (k := 220);rfl;exact hsh;exact Pur.pf;rfl)|(apply rx_callE (k := 221);rfl;exact hbo;exact Pur.pf;rfl)|(apply rx_callE (k := 162) (avs := [sl cI ts,aMc ⟨s.slots,lnM s.cells s.slots[x.y.toNat]!.ptr false,s.read⟩,iv x.x,aSl ⟨true,0,lnP s.cells s.slots[x.y.toNat]!.ptr false⟩]);rfl;exact hp1;exact Pur.pf;rfl)|(apply rx_callE (k := 162) (avs := [sl cI ts,aMc ⟨s.slots,lnM s.cells s.slots[x.y.toNat]!.ptr true,s.read⟩,iv x.x,aSl ⟨true,0,lnP s.cells s.slots[x.y.toNat]!.ptr true⟩]);rfl;exact hp2;exact Pur.pf;rfl)|(apply rx_callE (k := 160);rfl;(apply l7Code_c);(rfl);rfl))|refine stpb ?_|(refine stp2 ?_ ?_ <;> intro hc hq <;> try (exfalso;omega))|refine stpd ?_|fail)
 ·have hk : ¬ lnK s.cells s.slots[x.y.toNat]!.ptr true = 0 := by assumption
  have hu2 : u = true := by rw [hu]; exact decide_eq_true (by assumption)
  subst hu2
  refine rq_ret (l := [.agg [sl cSl s.slots,sl cCl (lnM s.cells s.slots[x.y.toNat]!.ptr true),sl cI s.read],iv (if lnK s.cells s.slots[x.y.toNat]!.ptr true = 1 then 3 else if lnK s.cells s.slots[x.y.toNat]!.ptr true = 0 then 0 else 4)]) rfl ?_
  rw [endK_n hk,if_neg hk,lnM_n hk]
  exact ⟨rfl,by exact Pur.pf⟩
 ·have hk : lnK s.cells s.slots[x.y.toNat]!.ptr true = 0 := by assumption
  have hu2 : u = true := by rw [hu]; exact decide_eq_true (by assumption)
  subst hu2
  refine rq_ret (l := [aMc (putF ts ⟨s.slots,lnM s.cells s.slots[x.y.toNat]!.ptr true,s.read⟩ x.x.toNat ⟨true,0,lnP s.cells s.slots[x.y.toNat]!.ptr true⟩).1,iv (gk (putF ts ⟨s.slots,lnM s.cells s.slots[x.y.toNat]!.ptr true,s.read⟩ x.x.toNat ⟨true,0,lnP s.cells s.slots[x.y.toNat]!.ptr true⟩).2)]) rfl ⟨?_,by exact Pur.pf⟩
  rw [if_pos hk]; rfl
 ·have hk : ¬ lnK s.cells s.slots[x.y.toNat]!.ptr false = 0 := by assumption
  have hu2 : u = false := by rw [hu]; exact decide_eq_false (by assumption)
  subst hu2
  refine rq_ret (l := [.agg [sl cSl s.slots,sl cCl (lnM s.cells s.slots[x.y.toNat]!.ptr false),sl cI s.read],iv (if lnK s.cells s.slots[x.y.toNat]!.ptr false = 1 then 3 else if lnK s.cells s.slots[x.y.toNat]!.ptr false = 0 then 0 else 4)]) rfl ?_
  rw [endK_n hk,if_neg hk,lnM_n hk]
  exact ⟨rfl,by exact Pur.pf⟩
 ·have hk : lnK s.cells s.slots[x.y.toNat]!.ptr false = 0 := by assumption
  have hu2 : u = false := by rw [hu]; exact decide_eq_false (by assumption)
  subst hu2
  refine rq_ret (l := [aMc (putF ts ⟨s.slots,lnM s.cells s.slots[x.y.toNat]!.ptr false,s.read⟩ x.x.toNat ⟨true,0,lnP s.cells s.slots[x.y.toNat]!.ptr false⟩).1,iv (gk (putF ts ⟨s.slots,lnM s.cells s.slots[x.y.toNat]!.ptr false,s.read⟩ x.x.toNat ⟨true,0,lnP s.cells s.slots[x.y.toNat]!.ptr false⟩).2)]) rfl ⟨?_,by exact Pur.pf⟩
  rw [if_pos hk]; rfl
theorem l7Do_1 (ts:List Int) (s:Mc) (x:Pnt) (ho:x.op = 1) (hm:OkM s.cells) (hsl:s.slots.length = ts.length) (hx:0 ≤ x.x ∧ x.x < ts.length) (hl:ts.length ≤ 1048576):PC Tryz.prog 110 [sl cI ts,aMc s,aPnt x] (fun r => r = .tup [aMc (doF ts s x).1,iv (gk (doF ts s x).2)]):=by
 have hp := l7Put_c ts s x.x.toNat ⟨true,x.n,⟨0,0⟩⟩ hm (by omega) (by omega) (by omega)
 rw [Int.toNat_of_nonneg hx.1] at hp
 have hd : doF ts s x = putF ts s x.x.toNat ⟨true,x.n,⟨0,0⟩⟩ := by unfold doF;rw [if_pos ho]
 rw [hd]
 refine pc_start Tryz.func110 Tryz.ntmps110 ?_
 repeat' (first|(apply id_rw;(apply rx_callE (k := 162) (avs := [sl cI ts,aMc s,iv x.x,aSl ⟨true,x.n,⟨0,0⟩⟩]);rfl;exact hp;exact Pur.pf;rfl))|refine stpb ?_|(refine stp2 ?_ ?_ <;> intro hc hq <;> try (exfalso;omega))|fail)
 exact rq_ret (l := [aMc (putF ts s x.x.toNat ⟨true,x.n,⟨0,0⟩⟩).1,iv (gk (putF ts s x.x.toNat ⟨true,x.n,⟨0,0⟩⟩).2)]) rfl ⟨rfl,by exact Pur.pf⟩
theorem l7Do_2 (ts:List Int) (s:Mc) (x:Pnt) (ho:x.op = 2) (hm:OkM s.cells) (hsl:s.slots.length = ts.length) (hx:0 ≤ x.x ∧ x.x < ts.length) (hn:0 ≤ x.n ∧ x.n ≤ 9) (hl:ts.length ≤ 1048576):PC Tryz.prog 110 [sl cI ts,aMc s,aPnt x] (fun r => r = .tup [aMc (doF ts s x).1,iv (gk (doF ts s x).2)]):=by
 have hml := hm.l
 have hnc := NewCellS_c s.cells hm x.n
 by_cases h2 : s.cells.length = 200
 ·rw [if_neg (by omega)] at hnc
  have hd : doF ts s x = (s,1) := by unfold doF;rw [if_neg (by omega),if_pos ho,if_pos h2]
  rw [hd]
  refine pc_start Tryz.func110 Tryz.ntmps110 ?_
  repeat' (first|(apply id_rw;(apply rx_callE (k := 163);rfl;exact hnc;exact Pur.pf;rfl))|refine stpb ?_|(refine stp2 ?_ ?_ <;> intro hc hq <;> try (exfalso;omega))|fail)
  exact rq_ret (l := [aMc s,iv 1]) rfl ⟨rfl,by exact Pur.pf⟩
 ·rw [if_pos (by omega)] at hnc
  have hp := l7Put_c ts ⟨s.slots,s.cells ++ [nwC x.n],s.read⟩ x.x.toNat ⟨true,0,⟨s.cells.length,0⟩⟩ (hm.nw hn (by omega)) (by show _ < s.slots.length;omega) (by omega) (by show s.slots.length ≤ _; omega)
  rw [Int.toNat_of_nonneg hx.1] at hp
  have hd : doF ts s x = putF ts ⟨s.slots,s.cells ++ [nwC x.n],s.read⟩ x.x.toNat ⟨true,0,⟨s.cells.length,0⟩⟩ := by unfold doF;rw [if_neg (by omega),if_pos ho,if_neg h2]
  rw [hd]
  refine pc_start Tryz.func110 Tryz.ntmps110 ?_
  repeat' (first|(apply id_rw;first|(apply rx_callE (k := 163);rfl;exact hnc;exact Pur.pf;rfl)|(apply rx_callE (k := 162) (avs := [sl cI ts,aMc ⟨s.slots,s.cells ++ [nwC x.n],s.read⟩,iv x.x,aSl ⟨true,0,⟨s.cells.length,0⟩⟩]);rfl;exact hp;exact Pur.pf;rfl))|refine stpb ?_|(refine stp2 ?_ ?_ <;> intro hc hq <;> try (exfalso;omega))|fail)
  exact rq_ret (l := [aMc (putF ts ⟨s.slots,s.cells ++ [nwC x.n],s.read⟩ x.x.toNat ⟨true,0,⟨s.cells.length,0⟩⟩).1,iv (gk (putF ts ⟨s.slots,s.cells ++ [nwC x.n],s.read⟩ x.x.toNat ⟨true,0,⟨s.cells.length,0⟩⟩).2)]) rfl ⟨rfl,by exact Pur.pf⟩
theorem l7Do_3 (ts:List Int) (s:Mc) (x:Pnt) (ho:x.op = 3) (hm:OkM s.cells) (hsl:s.slots.length = ts.length) (hx:0 ≤ x.x ∧ x.x < ts.length) (hy:0 ≤ x.y ∧ x.y < ts.length) (hl:ts.length ≤ 1048576):PC Tryz.prog 110 [sl cI ts,aMc s,aPnt x] (fun r => r = .tup [aMc (doF ts s x).1,iv (gk (doF ts s x).2)]):=by
 have hmv := l7Move_c ts s x hm hsl hx hy hl
 have hd : doF ts s x = putF ts (if tkT ts[x.y.toNat]! = true then ⟨s.slots.set x.y.toNat sl0,s.cells,s.read⟩ else s) x.x.toNat s.slots[x.y.toNat]! := by unfold doF;rw [if_neg (by omega),if_neg (by omega),if_pos ho]
 rw [← hd] at hmv
 refine pc_start Tryz.func110 Tryz.ntmps110 ?_
 repeat' (first|(apply id_rw;(apply rx_callE (k := 164);rfl;exact hmv;exact Pur.pf;rfl))|refine stpb ?_|(refine stp2 ?_ ?_ <;> intro hc hq <;> try (exfalso;omega))|fail)
 exact rq_ret (l := [aMc (doF ts s x).1,iv (gk (doF ts s x).2)]) rfl ⟨rfl,by exact Pur.pf⟩
theorem l7Do_45 (ts:List Int) (s:Mc) (x:Pnt) (ho:x.op = 4 ∨ x.op = 5) (hm:OkM s.cells) (hsl:s.slots.length = ts.length) (hx:0 ≤ x.x ∧ x.x < ts.length) (hy:0 ≤ x.y ∧ x.y < ts.length) (hl:ts.length ≤ 1048576):PC Tryz.prog 110 [sl cI ts,aMc s,aPnt x] (fun r => r = .tup [aMc (doF ts s x).1,iv (gk (doF ts s x).2)]):=by
 have hmk := l7Make_c ts s x (decide (x.op = 5)) rfl hm hsl hx hy hl
 have h0 : doF ts s x = (if lnK s.cells s.slots[x.y.toNat]!.ptr (decide (x.op = 5)) = 0 then putF ts ⟨s.slots, lnM s.cells s.slots[x.y.toNat]!.ptr (decide (x.op = 5)), s.read⟩ x.x.toNat ⟨true, 0, lnP s.cells s.slots[x.y.toNat]!.ptr (decide (x.op = 5))⟩
   else (s,endK (lnK s.cells s.slots[x.y.toNat]!.ptr (decide (x.op = 5))))) := by
  unfold doF;rw [if_neg (show ¬ x.op = 1 by omega),if_neg (show ¬ x.op = 2 by omega),if_neg (show ¬ x.op = 3 by omega),if_pos ho]
 have hd : ∀ r, (r = if lnK s.cells s.slots[x.y.toNat]!.ptr (decide (x.op = 5)) = 0 then
   AV.tup [aMc (putF ts ⟨s.slots,lnM s.cells s.slots[x.y.toNat]!.ptr (decide (x.op = 5)),s.read⟩ x.x.toNat ⟨true,0,lnP s.cells s.slots[x.y.toNat]!.ptr (decide (x.op = 5))⟩).1,iv (gk (putF ts ⟨s.slots,lnM s.cells s.slots[x.y.toNat]!.ptr (decide (x.op = 5)),s.read⟩ x.x.toNat ⟨true,0,lnP s.cells s.slots[x.y.toNat]!.ptr (decide (x.op = 5))⟩).2)]
   else AV.tup [aMc s,iv (endK (lnK s.cells s.slots[x.y.toNat]!.ptr (decide (x.op = 5))))]) = (r = AV.tup [aMc (doF ts s x).1,iv (gk (doF ts s x).2)]) := by
  intro r
  rw [h0]
  by_cases hk : lnK s.cells s.slots[x.y.toNat]!.ptr (decide (x.op = 5)) = 0
  ·rw [if_pos hk,if_pos hk]
  ·rw [if_neg hk, if_neg hk]
   have : ∀ k,gk (endK k) = endK k := fun k => by unfold gk endK;split <;> rfl
   dsimp only
   rw [this]
 simp only [hd] at hmk
 refine pc_start Tryz.func110 Tryz.ntmps110 ?_
 repeat' (first|(apply id_rw;(apply rx_callE (k := 165);rfl;exact hmk;exact Pur.pf;rfl))|refine stpb ?_|(refine stp2 ?_ ?_ <;> intro hc hq <;> try (exfalso;omega))|fail)
 all_goals exact rq_ret (l := [aMc (doF ts s x).1,iv (gk (doF ts s x).2)]) rfl ⟨rfl,by exact Pur.pf⟩
theorem l7Do_6 (ts:List Int) (s:Mc) (x:Pnt) (ho:x.op = 6) (hm:OkM s.cells) (hsl:s.slots.length = ts.length) (hx:0 ≤ x.x ∧ x.x < ts.length) (hy:0 ≤ x.y ∧ x.y < ts.length) (hl:ts.length ≤ 1048576) (hrl:s.read.length ≤ 1048576):PC Tryz.prog 110 [sl cI ts,aMc s,aPnt x] (fun r => r = .tup [aMc (doF ts s x).1,iv (gk (doF ts s x).2)]):=by
 have hrd := ReadCellS_c s.cells hm s.slots[x.y.toNat]!.ptr
 have h0 : doF ts s x = (if tchK s.cells s.slots[x.y.toNat]!.ptr false = 0 then putF ts ⟨s.slots, tchM s.cells s.slots[x.y.toNat]!.ptr false, s.read ++ [rdN s.cells s.slots[x.y.toNat]!.ptr]⟩ x.x.toNat ⟨true, rdN s.cells s.slots[x.y.toNat]!.ptr, ⟨0, 0⟩⟩
   else (s,endK (tchK s.cells s.slots[x.y.toNat]!.ptr false))) := by
  unfold doF;rw [if_neg (show ¬ x.op = 1 by omega),if_neg (show ¬ x.op = 2 by omega),if_neg (show ¬ x.op = 3 by omega),if_neg (show ¬ (x.op = 4 ∨ x.op = 5) by omega),if_pos ho]
 have hp := l7Put_c ts ⟨s.slots,tchM s.cells s.slots[x.y.toNat]!.ptr false,s.read ++ [rdN s.cells s.slots[x.y.toNat]!.ptr]⟩ x.x.toNat ⟨true,rdN s.cells s.slots[x.y.toNat]!.ptr,⟨0,0⟩⟩ (hm.tch _ _) (by show _ < s.slots.length;omega) (by omega) (by show s.slots.length ≤ _; omega)
 rw [Int.toNat_of_nonneg hx.1] at hp
 by_cases hk : tchK s.cells s.slots[x.y.toNat]!.ptr false = 0
 ·rw [if_pos hk] at h0
  rw [h0]
  refine pc_start Tryz.func110 Tryz.ntmps110 ?_
  repeat' (first|(apply id_rw;first|(apply rx_callE (k := 166);rfl;exact hrd;exact Pur.pf;rfl)|(with_reducible apply rw_stop (d := 105)))|refine stpb ?_|(refine stp2 ?_ ?_ <;> intro hc hq <;> try (exfalso;omega))|refine stpd ?_|fail)
  refine rw_go (rw_le ?_ (Le.frzC (j := 0) (i := 6) [sl cSl s.slots,sl cCl (tchM s.cells s.slots[x.y.toNat]!.ptr false)] (m := 0 + s.read.length + 1) (d := flat cI (s.read ++ [rdN s.cells s.slots[x.y.toNat]!.ptr])) rfl rfl (by decide)))
  have e : AV.imm (0 + s.read.length + 1) (flat cI (s.read ++ [rdN s.cells s.slots[x.y.toNat]!.ptr])) = sl cI (s.read ++ [rdN s.cells s.slots[x.y.toNat]!.ptr]) := sl_len (by rw [Nat.zero_add,List.length_append]; rfl)
  rw [e]
  repeat' (first|(apply id_rw;(apply rx_callE (k := 162) (avs := [sl cI ts,aMc ⟨s.slots,tchM s.cells s.slots[x.y.toNat]!.ptr false,s.read ++ [rdN s.cells s.slots[x.y.toNat]!.ptr]⟩,iv x.x,aSl ⟨true,rdN s.cells s.slots[x.y.toNat]!.ptr,⟨0,0⟩⟩]);rfl;exact hp;exact Pur.pf;rfl))|refine stpb ?_|fail)
  exact rq_ret (l := [aMc (putF ts ⟨s.slots,tchM s.cells s.slots[x.y.toNat]!.ptr false,s.read ++ [rdN s.cells s.slots[x.y.toNat]!.ptr]⟩ x.x.toNat ⟨true,rdN s.cells s.slots[x.y.toNat]!.ptr,⟨0,0⟩⟩).1,iv (gk (putF ts ⟨s.slots,tchM s.cells s.slots[x.y.toNat]!.ptr false,s.read ++ [rdN s.cells s.slots[x.y.toNat]!.ptr]⟩ x.x.toNat ⟨true,rdN s.cells s.slots[x.y.toNat]!.ptr,⟨0,0⟩⟩).2)]) rfl ⟨rfl,by exact Pur.pf⟩
 ·rw [if_neg hk] at h0
  rw [h0]
  have e4 : tchM s.cells s.slots[x.y.toNat]!.ptr false = s.cells := by unfold tchM;rw [if_neg hk]
  rw [e4] at hrd
  refine pc_start Tryz.func110 Tryz.ntmps110 ?_
  repeat' (first|(apply id_rw;first|(apply rx_callE (k := 166);rfl;exact hrd;exact Pur.pf;rfl)|(apply rx_callE (k := 160);rfl;(apply l7Code_c);(rfl);rfl))|refine stpb ?_|(refine stp2 ?_ ?_ <;> intro hc hq <;> try (exfalso;omega))|refine stpd ?_|fail)
  refine rq_ret (l := [aMc s,iv (if tchK s.cells s.slots[x.y.toNat]!.ptr false = 1 then 3 else if tchK s.cells s.slots[x.y.toNat]!.ptr false = 0 then 0 else 4)]) rfl ?_
  rw [endK_n hk]
  have : ∀ k,gk (endK k) = endK k := fun k => by unfold gk endK;split <;> rfl
  dsimp only
  rw [this]
  exact ⟨rfl,by exact Pur.pf⟩
theorem l7Do_7 (ts:List Int) (s:Mc) (x:Pnt) (ho:x.op = 7) (hm:OkM s.cells) (hsl:s.slots.length = ts.length) (hx:0 ≤ x.x ∧ x.x < ts.length) (hy:0 ≤ x.y ∧ x.y < ts.length) (hl:ts.length ≤ 1048576):PC Tryz.prog 110 [sl cI ts,aMc s,aPnt x] (fun r => r = .tup [aMc (doF ts s x).1,iv (gk (doF ts s x).2)]):=by
 have hwr := WriteCellS_c s.cells hm s.slots[x.x.toNat]!.ptr s.slots[x.y.toNat]!.num
 have h0 : doF ts s x = (⟨s.slots, wrM s.cells s.slots[x.x.toNat]!.ptr s.slots[x.y.toNat]!.num, s.read⟩, goK (wrK s.cells s.slots[x.x.toNat]!.ptr s.slots[x.y.toNat]!.num)) := by
  unfold doF;rw [if_neg (show ¬ x.op = 1 by omega),if_neg (show ¬ x.op = 2 by omega),if_neg (show ¬ x.op = 3 by omega),if_neg (show ¬ (x.op = 4 ∨ x.op = 5) by omega),if_neg (show ¬ x.op = 6 by omega),if_pos ho]
 rw [h0]
 refine pc_start Tryz.func110 Tryz.ntmps110 ?_
 repeat' (first|(apply id_rw;first|(apply rx_callE (k := 167);rfl;exact hwr;exact Pur.pf;rfl)|(apply rx_callE (k := 160);rfl;(apply l7Code_c);(rfl);rfl))|refine stpb ?_|(refine stp2 ?_ ?_ <;> intro hc hq <;> try (exfalso;omega))|refine stpd ?_|fail)
 refine rq_ret (l := [aMc ⟨s.slots,wrM s.cells s.slots[x.x.toNat]!.ptr s.slots[x.y.toNat]!.num,s.read⟩,iv (if wrK s.cells s.slots[x.x.toNat]!.ptr s.slots[x.y.toNat]!.num = 1 then 3 else if wrK s.cells s.slots[x.x.toNat]!.ptr s.slots[x.y.toNat]!.num = 0 then 0 else 4)]) rfl ?_
 rw [← goK_0]
 exact ⟨rfl,by exact Pur.pf⟩
theorem l7Do_8 (ts:List Int) (s:Mc) (x:Pnt) (ho:x.op = 8) (hm:OkM s.cells) (hsl:s.slots.length = ts.length) (hx:0 ≤ x.x ∧ x.x < ts.length) (hl:ts.length ≤ 1048576):PC Tryz.prog 110 [sl cI ts,aMc s,aPnt x] (fun r => r = .tup [aMc (doF ts s x).1,iv (gk (doF ts s x).2)]):=by
 have hfr := FreeCellS_c s.cells hm s.slots[x.x.toNat]!.ptr
 have hcl := l7Clear_c ⟨s.slots,frM s.cells s.slots[x.x.toNat]!.ptr,s.read⟩ x.x.toNat (by show _ < s.slots.length;omega) (by show s.slots.length ≤ _; omega)
 rw [Int.toNat_of_nonneg hx.1] at hcl
 have h0 : doF ts s x = (⟨s.slots.set x.x.toNat sl0, frM s.cells s.slots[x.x.toNat]!.ptr, s.read⟩, goK (tchK s.cells s.slots[x.x.toNat]!.ptr true)) := by
  unfold doF;rw [if_neg (show ¬ x.op = 1 by omega),if_neg (show ¬ x.op = 2 by omega),if_neg (show ¬ x.op = 3 by omega),if_neg (show ¬ (x.op = 4 ∨ x.op = 5) by omega),if_neg (show ¬ x.op = 6 by omega),if_neg (show ¬ x.op = 7 by omega),if_pos ho]
 rw [h0]
 refine pc_start Tryz.func110 Tryz.ntmps110 ?_
 repeat' (first|(apply id_rw;first|(apply rx_callE (k := 159);rfl;exact hfr;exact Pur.pf;rfl)|(apply rx_callE (k := 161);rfl;exact hcl;exact Pur.pf;rfl)|(apply rx_callE (k := 160);rfl;(apply l7Code_c);(rfl);rfl))|refine stpb ?_|(refine stp2 ?_ ?_ <;> intro hc hq <;> try (exfalso;omega))|refine stpd ?_|fail)
 refine rq_ret (l := [aMc ⟨s.slots.set x.x.toNat sl0,frM s.cells s.slots[x.x.toNat]!.ptr,s.read⟩,iv (if tchK s.cells s.slots[x.x.toNat]!.ptr true = 1 then 3 else if tchK s.cells s.slots[x.x.toNat]!.ptr true = 0 then 0 else 4)]) rfl ?_
 rw [← goK_0]
 exact ⟨rfl,by exact Pur.pf⟩
def unS (s : Mc) (x : Pnt) : Bool :=
 if x.op = 3 ∨ x.op = 4 ∨ x.op = 5 ∨ x.op = 6 then !s.slots[x.y.toNat]!.set
 else if x.op = 7 then !s.slots[x.x.toNat]!.set || !s.slots[x.y.toNat]!.set
 else if x.op = 8 then !s.slots[x.x.toNat]!.set else false
theorem l7Unset_c (s:Mc) (x:Pnt) (hx:(x.op = 7 ∨ x.op = 8) → 0 ≤ x.x ∧ x.x < s.slots.length) (hy:(x.op = 3 ∨ x.op = 4 ∨ x.op = 5 ∨ x.op = 6 ∨ x.op = 7) → 0 ≤ x.y ∧ x.y < s.slots.length):PC Tryz.prog 109 [aPnt x,aMc s] (fun r => r = bv (unS s x)):=by
 refine pc_start Tryz.func109 Tryz.ntmps109 ?_
 repeat' (first|refine stpb ?_|(refine stp2 ?_ ?_ <;> intro hc hq <;> try (exfalso;omega))|(refine stp3 ?_ ?_ <;> intro hg hq <;> try (exfalso;omega))|fail)
 all_goals (refine rq_ret rfl ⟨?_,rfl⟩; simp only [oneOf,AV.v.injEq,Value.bool.injEq]; unfold unS;grind)
theorem finF_s {ts:List Int}{n v:Nat}{q:Mc}(h:¬ (ts[v]! = 2 ∧ q.slots[v]!.set = true)):finF ts (n + 1) v q = finF ts n (v + 1) q:=by
 rw [finF,if_neg h]
theorem finF_f {ts:List Int}{n v:Nat}{q:Mc}(h:ts[v]! = 2 ∧ q.slots[v]!.set = true) (hk:tchK q.cells q.slots[v]!.ptr true = 0):finF ts (n + 1) v q = finF ts n (v + 1) ⟨q.slots.set v sl0,frM q.cells q.slots[v]!.ptr,q.read⟩:=by
 rw [finF,if_pos h,if_pos hk]
theorem finF_e {ts:List Int}{n v:Nat}{q:Mc}(h:ts[v]! = 2 ∧ q.slots[v]!.set = true) (hk:¬ tchK q.cells q.slots[v]!.ptr true = 0):finF ts (n + 1) v q = (⟨q.slots,frM q.cells q.slots[v]!.ptr,q.read⟩,endK (tchK q.cells q.slots[v]!.ptr true)):=by
 rw [finF,if_pos h,if_neg hk]
theorem l7End_c (ts:List Int) (s:Mc) (hm:OkM s.cells) (hsl:s.slots.length = ts.length) (hl:ts.length ≤ 1048576):PC Tryz.prog 108 [sl cI ts,aMc s] (fun r => r = .tup [aMc (finF ts ts.length 0 s).1,iv (finF ts ts.length 0 s).2]):=by
 refine pc_start Tryz.func108 Tryz.ntmps108 ?_
 repeat' (first|refine stpb ?_|fail)
 refine aw_loopA (σ := Nat × Mc) [0,3,4] [1] (fun k => [(6,iv (k.1 : Int))]) (fun k => [(0,some [sl cSl k.2.slots,sl cCl k.2.cells,sl cI k.2.read])]) (fun k => k.1 ≤ ts.length ∧ finF ts (ts.length - k.1) k.1 k.2 = finF ts ts.length 0 s ∧ OkM k.2.cells ∧ k.2.slots.length = ts.length) (fun k => ts.length - k.1) (0,s) ⟨Nat.zero_le _,rfl,hm,hsl⟩ ?_
 rintro ⟨v,q⟩ ⟨hv,hf,hmq,hlq⟩
 dsimp only at hv hf hmq hlq ⊢
 have hfr := FreeCellS_c q.cells hmq q.slots[v]!.ptr
 have hcl := fun h => l7Clear_c ⟨q.slots,frM q.cells q.slots[v]!.ptr,q.read⟩ v h (by show q.slots.length ≤ _; omega)
 repeat' (first|(apply id_rw;first|(apply rx_callE (k := 159);rfl;exact hfr;exact Pur.pf;rfl)|(apply rx_callE (k := 161);rfl;(exact hcl (by show v < q.slots.length;omega));exact Pur.pf;rfl)|(apply rx_callE (k := 160);rfl;(apply l7Code_c);(rfl);rfl))|refine stpb ?_|(refine stp2 ?_ ?_ <;> intro hc hq <;> try (exfalso;omega))|(refine stp3 ?_ ?_ <;> intro hg hq <;> try (exfalso;omega))|refine stpd ?_|fail)
 ·(refine ex3 (v + 1, q) (Le.renA [(0, 0), (1, 1)]) ?_ ?_)
  ·refine ⟨by omega, ?_, hmq, hlq⟩
   dsimp only
   rw [← hf, show ts.length - v = (ts.length - (v + 1)) + 1 by omega, finF_s (fun h => by
    have h2 : q.slots[v]!.set = false := by assumption
    rw [h2] at h;exact absurd h.2 (by decide))]
  ·dsimp only;omega
 ·have hk : ¬ tchK q.cells q.slots[v]!.ptr true = 0 := by assumption
  have hq2 : finF ts ts.length 0 s = (⟨q.slots, frM q.cells q.slots[v]!.ptr, q.read⟩, endK (tchK q.cells q.slots[v]!.ptr true)) := by
   rw [← hf,show ts.length - v = (ts.length - (v + 1)) + 1 by omega,finF_e ⟨by assumption,by assumption⟩ hk]
  rw [hq2]
  refine rq_ret (l := [aMc ⟨q.slots,frM q.cells q.slots[v]!.ptr,q.read⟩,iv (if tchK q.cells q.slots[v]!.ptr true = 1 then 3 else if tchK q.cells q.slots[v]!.ptr true = 0 then 0 else 4)]) rfl ?_
  rw [endK_n hk]
  exact ⟨rfl,by exact Pur.pf⟩
 ·(refine ex3 (v + 1, ⟨q.slots.set v sl0, frM q.cells q.slots[v]!.ptr, q.read⟩) (Le.renA [(0, 0), (1, 1)]) ?_ ?_)
  ·refine ⟨by omega, ?_, hmq.fr _, by show (q.slots.set v sl0).length = _; rw [List.length_set]; exact hlq⟩
   dsimp only
   rw [← hf,show ts.length - v = (ts.length - (v + 1)) + 1 by omega,finF_f ⟨by assumption,by assumption⟩ (by assumption)]
  ·dsimp only;omega
 ·(refine ex3 (v + 1, q) (Le.renA [(0, 0), (1, 1)]) ?_ ?_)
  ·refine ⟨by omega, ?_, hmq, hlq⟩
   dsimp only
   rw [← hf, show ts.length - v = (ts.length - (v + 1)) + 1 by omega, finF_s (fun h => by
    have h2 : ¬ ts[v]! = 2 := by assumption
    exact h2 h.1)]
  ·dsimp only;omega
 ·have hve : v = ts.length := by omega
  have hq2 : finF ts ts.length 0 s = (q,0) := by rw [← hf,hve,Nat.sub_self]; rfl
  rw [hq2]
  exact rq_ret (l := [aMc q,iv 0]) rfl ⟨rfl,by exact Pur.pf⟩
theorem PointsOfS7_c (p:Prg) (hl:p.types.length ≤ 1048576) (hs:cntL p.body ≤ 1048576):PC Tryz.prog 24 [aPrg p] (fun r => r = sl cPnt (if validF p = true then ptsF p else [])):=by
 have hval := validS_c p hl (by omega)
 have h2 := l2Points_c p hs
 refine pc_start Tryz.func24 Tryz.ntmps24 ?_
 repeat' (first|(apply id_rw;first|(apply rx_callE (k := 50);rfl;exact hval;exact Pur.pf;rfl)|(apply rx_callE (k := 62);rfl;exact h2;exact Pur.pf;rfl)|(apply rx_buildSliceI (t := _);rfl;rfl;rfl;(rfl);rfl;rfl))|refine stpb ?_|(refine stp2 ?_ ?_ <;> intro hc hq <;> try (exfalso;omega))|fail)
 ·refine rq_ret rfl ⟨?_, (by (rfl))⟩
  rw [if_neg (by simp [hq])]; rfl
 ·refine rq_ret rfl ⟨?_, (by (exact pur_sl _ _))⟩
  rw [if_pos hq]; rfl
def wm (pts : List Pnt) (n a : Nat) (cs : List Int) : List Int × Bool := ((wayF pts n a cs).1.map (fun a : Nat => (a : Int)),(wayF pts n a cs).2)
theorem wm_end {pts:List Pnt}{n a:Nat}{cs:List Int}(h:pts[a]!.op = 11):wm pts n a cs = ([(a:Int)],true):=by
 have e : wayF pts n a cs = ([a],true) := by cases n <;> (unfold wayF;rw [if_pos h])
 unfold wm;rw [e]; rfl
theorem wm_cut {pts:List Pnt}{a:Nat}{cs:List Int}(h:¬ pts[a]!.op = 11):wm pts 0 a cs = ([],false):=by
 have e : wayF pts 0 a cs = ([],false) := by unfold wayF;rw [if_neg h]
 unfold wm;rw [e]; rfl
theorem wm_go {pts:List Pnt}{n a:Nat}{cs:List Int}(h:¬ pts[a]!.op = 11):wm pts (n + 1) a cs = ((a:Int) :: (wm pts n (stpW pts a cs).1 (stpW pts a cs).2).1,(wm pts n (stpW pts a cs).1 (stpW pts a cs).2).2):=by
 unfold wm;rw [wayF,if_neg h]; rfl
theorem stW_s {pts:List Pnt}{a:Nat}{cs:List Int}(h:¬ pts[a]!.next.length = 2):stpW pts a cs = ((pts[a]!.next[0]!).toNat,cs):=by
 unfold stpW;rw [if_neg h]
theorem stW_n {pts:List Pnt}{a u:Nat}{cs:List Int}(h:pts[a]!.next.length = 2) (hu:cs.length ≤ u):stpW pts a (cs.drop u) = ((pts[a]!.next[1]!).toNat,cs.drop (u + 1)):=by
 unfold stpW;rw [if_pos h,List.drop_eq_nil_of_le hu,List.drop_eq_nil_of_le (by omega)]
theorem stW_c {pts:List Pnt}{a u:Nat}{cs:List Int}(h:pts[a]!.next.length = 2) (hu:u < cs.length):stpW pts a (cs.drop u) = ((pts[a]!.next[if cs[u]!.tmod 2 = 0 then 0 else 1]!).toNat,cs.drop (u + 1)):=by
 have e : (cs[u]! % 2).toNat = if cs[u]!.tmod 2 = 0 then 0 else 1 := by
  by_cases q : cs[u]!.tmod 2 = 0
  ·rw [if_pos q,Int.emod_eq_zero_of_dvd (Int.dvd_of_tmod_eq_zero q)]; rfl
  ·rw [if_neg q]
   have : ¬ cs[u]! % 2 = 0 := fun q2 => q (Int.tmod_eq_zero_of_dvd (Int.dvd_of_emod_eq_zero q2))
   omega
 have e2 : cs.drop u = cs[u]! :: cs.drop (u + 1) := by rw [List.drop_eq_getElem_cons hu,getB _ _ hu]
 unfold stpW
 rw [if_pos h,e2]
 dsimp only
 rw [e]
theorem wm_step {pts:List Pnt}{n a:Nat}{out cs cs2:List Int}{b:Nat}{q:List Int × Bool}(h:¬ pts[a]!.op = 11) (ho:out.length < n) (hs:stpW pts a cs = (b,cs2)) (hq:q = (out ++ (wm pts (n - out.length) a cs).1,(wm pts (n - out.length) a cs).2)) :
  q = ((out ++ [(a : Int)]) ++ (wm pts (n - (out ++ [(a : Int)]).length) b cs2).1,(wm pts (n - (out ++ [(a : Int)]).length) b cs2).2) := by
 rw [hq,show n - out.length = (n - (out.length + 1)) + 1 by omega,wm_go h,hs,List.length_append,List.append_assoc]
 rfl
theorem RunPathS_c (p:Prg) (cs:List Int) (n:Nat) (hv:validF p = true) (hl:p.types.length ≤ 1048576) (hs:cntL p.body ≤ 1048576) (hn:n ≤ 1000) (hcl:cs.length ≤ 1048576):PC Tryz.prog 107 [aPrg p,sl cI cs,iv (n:Int)] (fun r => r = .tup [sl cI (wm (ptsF p) n 0 cs).1,bv (wm (ptsF p) n 0 cs).2]):=by
 have hpo := PointsOfS7_c p hl hs
 rw [if_pos hv] at hpo
 have w := WG.of_valid hv
 have wa := WA.of_valid hv
 obtain ⟨pts,hpts⟩ : ∃ pts,pts = ptsF p := ⟨_,rfl⟩
 rw [← hpts] at hpo w wa ⊢
 have hpl := w.pl
 have hp0 := w.p0
 refine pc_start Tryz.func107 Tryz.ntmps107 ?_
 repeat' (first|(apply id_rw;(apply rx_callE (k := 24);rfl;exact hpo;exact Pur.pf;rfl))|refine stpb ?_|(refine stp2 ?_ ?_ <;> intro hc hq <;> try (exfalso;omega))|(refine stp3 ?_ ?_ <;> intro hg hq <;> try (exfalso;omega))|fail)
 refine aw_loopA (σ := Int × Nat × List Int × Nat) [1,2,9] [] (fun k => [(10,iv k.1),(11,iv (k.2.1 : Int)),(8,.own 1 0 k.2.2.2 1)]) (fun k => [(1,some (flat cI k.2.2.1))]) (fun k => (0 ≤ k.1 ∧ k.1 < pts.length) ∧ k.2.1 ≤ k.2.2.1.length ∧ k.2.2.1.length ≤ n ∧ k.2.2.2 = k.2.2.1.length ∧ wm pts n 0 cs = (k.2.2.1 ++ (wm pts (n - k.2.2.1.length) k.1.toNat (cs.drop k.2.1)).1,(wm pts (n - k.2.2.1.length) k.1.toNat (cs.drop k.2.1)).2)) (fun k => n + 1 - k.2.2.1.length) (0,0,[],0) ⟨⟨Int.le_refl _,by show (0 : Int) < _; omega⟩,Nat.le_refl _,Nat.zero_le _,rfl,rfl⟩ ?_
 rintro ⟨a,u,out,m⟩ ⟨⟨ha0,ha⟩,hu,ho,hm,hw⟩
 dsimp only at ha0 ha hu ho hm hw ⊢
 have hat : (a.toNat : Int) = a := Int.toNat_of_nonneg ha0
 have hnx := w.nx a.toNat (by omega)
 have hnl := w.nl a.toNat (by omega)
 have hn1 := wa.n a.toNat (by omega)
 have hk : ∀ k,k < pts[a.toNat]!.next.length → 0 ≤ pts[a.toNat]!.next[k]! ∧ pts[a.toNat]!.next[k]! < pts.length := fun k h => hnx _ (getB_mem _ _ h)
 repeat' (first|(apply id_rw;(apply rx_buildSliceI (t := _);rfl;rfl;rfl;exact (rfl:_=some [_]);rfl;rfl))|refine stpb ?_|(refine stp2 ?_ ?_ <;> intro hc hq <;> try (exfalso;omega))|(refine stp3 ?_ ?_ <;> intro hg hq <;> try (exfalso;omega))|fail)
 ·have hop : ¬ pts[a.toNat]!.op = 11 := by assumption
  have e : wm pts n 0 cs = (out,false) := by rw [hw,show n - out.length = 0 by omega,wm_cut hop,List.append_nil]
  rw [e]
  (refine rq_le (Le.frzD (d := 6) (i := 1) rfl rfl) ?_; refine rq_ret rfl ?_)
  refine ⟨?_,(by exact Pur.pf)⟩
  simp only [oneOf,sl]
  rw [hm]
 ·have hop : ¬ pts[a.toNat]!.op = 11 := by assumption
  have hst := wm_step hop (by omega) ((stW_c (by omega) (by omega)).trans (by rw [if_pos (by assumption)])) hw
  rw [hat] at hst
  have hk := hk 0 (by omega)
  (refine ex3 (pts[a.toNat]!.next[0]!,u + 1,_,_) (Le.renA [(1,3)]) ?_ ?_)
  ·refine ⟨hk,?_,?_,?_,hst⟩ <;> (dsimp only;rw [List.length_append]; simp only [List.length_singleton]; omega)
  ·dsimp only;rw [List.length_append]; simp only [List.length_singleton]; omega
 ·have hop : ¬ pts[a.toNat]!.op = 11 := by assumption
  have hst := wm_step hop (by omega) ((stW_c (by omega) (by omega)).trans (by rw [if_neg (by assumption)])) hw
  rw [hat] at hst
  have hk := hk 1 (by omega)
  (refine ex3 (pts[a.toNat]!.next[1]!,u + 1,_,_) (Le.renA [(1,3)]) ?_ ?_)
  ·refine ⟨hk,?_,?_,?_,hst⟩ <;> (dsimp only;rw [List.length_append]; simp only [List.length_singleton]; omega)
  ·dsimp only;rw [List.length_append]; simp only [List.length_singleton]; omega
 ·have hop : ¬ pts[a.toNat]!.op = 11 := by assumption
  have hst := wm_step hop (by omega) (stW_n (by omega) (by omega)) hw
  rw [hat] at hst
  have hk := hk 1 (by omega)
  (refine ex3 (pts[a.toNat]!.next[1]!,u + 1,_,_) (Le.renA [(1,3)]) ?_ ?_)
  ·refine ⟨hk,?_,?_,?_,hst⟩ <;> (dsimp only;rw [List.length_append]; simp only [List.length_singleton]; omega)
  ·dsimp only;rw [List.length_append]; simp only [List.length_singleton]; omega
 ·have hop : ¬ pts[a.toNat]!.op = 11 := by assumption
  have hst := wm_step hop (by omega) (stW_s (by omega)) hw
  rw [hat] at hst
  have hk := hk 0 (by omega)
  (refine ex3 (pts[a.toNat]!.next[0]!,u,_,_) (Le.renA [(1,3)]) ?_ ?_)
  ·refine ⟨hk,?_,?_,?_,hst⟩ <;> (dsimp only;rw [List.length_append]; simp only [List.length_singleton]; omega)
  ·dsimp only;rw [List.length_append]; simp only [List.length_singleton]; omega
 ·have hop : pts[a.toNat]!.op = 11 := by assumption
  have e : wm pts n 0 cs = (out ++ [a],true) := by rw [hw,wm_end hop,hat]
  rw [e]
  (refine rq_le (Le.frzD (d := 6) (i := 3) rfl rfl) ?_; refine rq_ret rfl ?_)
  refine ⟨?_,(by exact Pur.pf)⟩
  simp only [oneOf,sl]
  rw [hm,List.length_append]; rfl
theorem unS_eq {ts:List Int}{s:Mc}{x:Pnt}(hx:(x.op = 7 ∨ x.op = 8) → 0 ≤ x.x ∧ x.x < ts.length) (hy:(x.op = 3 ∨ x.op = 4 ∨ x.op = 5 ∨ x.op = 6 ∨ x.op = 7) → 0 ≤ x.y ∧ x.y < ts.length):unS s x = unsF ts s x:=by
 have hX : ∀ v : Nat,(v : Int) = x.x → v = x.x.toNat := fun v h => by omega
 have hY : ∀ v : Nat,(v : Int) = x.y → v = x.y.toNat := fun v h => by omega
 cases hu : unsF ts s x with
 | true =>
  obtain ⟨v,hv,hne,hs⟩ := uns_true hu
  unfold useAt at hne
  unfold unS
  by_cases h3 : x.op = 3
  ·rw [if_pos h3] at hne
   by_cases e : (v : Int) = x.y
   ·rw [if_pos (.inl h3),← hY v e,hs]; rfl
   ·rw [if_neg e] at hne;exact absurd rfl hne
  ·rw [if_neg h3] at hne
   by_cases h4 : x.op = 4 ∨ x.op = 5 ∨ x.op = 6
   ·rw [if_pos h4] at hne
    by_cases e : (v : Int) = x.y
    ·rw [if_pos (by omega),← hY v e,hs]; rfl
    ·rw [if_neg e] at hne;exact absurd rfl hne
   ·rw [if_neg h4] at hne
    rw [if_neg (by omega)]
    by_cases h7 : x.op = 7
    ·rw [if_pos h7] at hne ⊢
     by_cases e : (v : Int) = x.x
     ·rw [← hX v e,hs]; rfl
     ·rw [if_neg e] at hne
      by_cases e2 : (v : Int) = x.y
      ·rw [← hY v e2,hs]; simp
      ·rw [if_neg e2] at hne;exact absurd rfl hne
    ·rw [if_neg h7] at hne ⊢
     by_cases h8 : x.op = 8
     ·rw [if_pos h8] at hne ⊢
      by_cases e : (v : Int) = x.x
      ·rw [← hX v e,hs]; rfl
      ·rw [if_neg e] at hne;exact absurd rfl hne
     ·rw [if_neg h8] at hne;exact absurd rfl hne
 | false =>
  have hS : ∀ v : Nat,v < ts.length → useAt ts x v ≠ 0 → s.slots[v]!.set = true := fun v hv h => uns_set hu hv h
  unfold unS
  by_cases h3 : x.op = 3
  ·have := hy (.inl h3)
   rw [if_pos (.inl h3),hS x.y.toNat (by omega) (by unfold useAt;rw [if_pos h3,if_pos (by omega)]; split <;> decide)]; rfl
  ·by_cases h4 : x.op = 4 ∨ x.op = 5 ∨ x.op = 6
   ·have := hy (by omega)
    rw [if_pos (by omega),hS x.y.toNat (by omega) (by unfold useAt;rw [if_neg h3,if_pos h4,if_pos (by omega)]; decide)]; rfl
   ·rw [if_neg (by omega)]
    by_cases h7 : x.op = 7
    ·have hy7 := hy (by omega)
     have hx7 := hx (.inl h7)
     rw [if_pos h7, hS x.x.toNat (by omega) (by unfold useAt; rw [if_neg h3, if_neg h4, if_pos h7, if_pos (by omega)]; decide),
      hS x.y.toNat (by omega) (by unfold useAt;rw [if_neg h3,if_neg h4,if_pos h7]; split;decide;rw [if_pos (by omega)]; decide)]; rfl
    ·rw [if_neg h7]
     by_cases h8 : x.op = 8
     ·have hx8 := hx (.inr h8)
      rw [if_pos h8,hS x.x.toNat (by omega) (by unfold useAt;rw [if_neg h3,if_neg h4,if_neg h7,if_pos h8,if_pos (by omega)]; decide)]; rfl
     ·rw [if_neg h8]
theorem goK_n0 (k:Int):goK k ≠ 0:=by
 unfold goK endK;split
 ·decide
 ·split <;> decide
theorem endK_n0 (k:Int):endK k ≠ 0 := by unfold endK;split <;> decide
theorem putF_n0 {ts:List Int}{s:Mc}{v:Nat}{y:Sl}:(putF ts s v y).2 ≠ 0:=by
 unfold putF;split
 ·exact goK_n0 _
 ·show (-1 : Int) ≠ 0;decide
theorem doF_n0 {ts:List Int}{s:Mc}{x:Pnt}(h:x.op ≠ 11):(doF ts s x).2 ≠ 0:=by
 unfold doF
 split
 ·exact putF_n0
 split
 ·split
  ·show (1 : Int) ≠ 0;decide
  ·exact putF_n0
 split
 ·exact putF_n0
 split
 ·split
  ·exact putF_n0
  ·exact endK_n0 _
 split
 ·split
  ·exact putF_n0
  ·exact endK_n0 _
 split
 ·exact goK_n0 _
 split
 ·exact goK_n0 _
 show (-1 : Int) ≠ 0;decide
theorem gk_0 {ts:List Int}{s:Mc}{x:Pnt}(h:x.op ≠ 11):gk (doF ts s x).2 = 0 ↔ (doF ts s x).2 = -1:=by
 have := doF_n0 (ts := ts) (s := s) h
 unfold gk;split
 ·simp [*]
 ·constructor <;> (intro q;contradiction)
theorem l7Do_9 (ts:List Int) (s:Mc) (x:Pnt) (ho:x.op = 9 ∨ x.op = 10):PC Tryz.prog 110 [sl cI ts,aMc s,aPnt x] (fun r => r = .tup [aMc (doF ts s x).1,iv (gk (doF ts s x).2)]):=by
 have h0 : doF ts s x = (s, -1) := by
  unfold doF;rw [if_neg (show ¬ x.op = 1 by omega),if_neg (show ¬ x.op = 2 by omega),if_neg (show ¬ x.op = 3 by omega),if_neg (show ¬ (x.op = 4 ∨ x.op = 5) by omega),if_neg (show ¬ x.op = 6 by omega),if_neg (show ¬ x.op = 7 by omega),if_neg (show ¬ x.op = 8 by omega),if_neg (show ¬ x.op = 11 by omega)]
 rw [h0]
 refine pc_start Tryz.func110 Tryz.ntmps110 ?_
 repeat' (first|refine stpb ?_|(refine stp2 ?_ ?_ <;> intro hc hq <;> try (exfalso;omega))|fail)
 exact rq_ret (l := [aMc s,iv 0]) rfl ⟨rfl,by exact Pur.pf⟩
theorem l7Do_c (ts:List Int) (s:Mc) (x:Pnt) (h11:x.op ≠ 11) (hop:1 ≤ x.op ∧ x.op ≤ 11) (hm:OkM s.cells) (hsl:s.slots.length = ts.length) (hx:x.op ≤ 8 → 0 ≤ x.x ∧ x.x < ts.length) (hy:3 ≤ x.op → x.op ≤ 7 → 0 ≤ x.y ∧ x.y < ts.length) (hn:x.op = 2 → 0 ≤ x.n ∧ x.n ≤ 9) (hl:ts.length ≤ 1048576) (hrl:s.read.length ≤ 1048576):PC Tryz.prog 110 [sl cI ts,aMc s,aPnt x] (fun r => r = .tup [aMc (doF ts s x).1,iv (gk (doF ts s x).2)]):=by
 by_cases h1 : x.op = 1
 ·exact l7Do_1 ts s x h1 hm hsl (hx (by omega)) hl
 by_cases h2 : x.op = 2
 ·exact l7Do_2 ts s x h2 hm hsl (hx (by omega)) (hn h2) hl
 by_cases h3 : x.op = 3
 ·exact l7Do_3 ts s x h3 hm hsl (hx (by omega)) (hy (by omega) (by omega)) hl
 by_cases h4 : x.op = 4 ∨ x.op = 5
 ·exact l7Do_45 ts s x h4 hm hsl (hx (by omega)) (hy (by omega) (by omega)) hl
 by_cases h6 : x.op = 6
 ·exact l7Do_6 ts s x h6 hm hsl (hx (by omega)) (hy (by omega) (by omega)) hl hrl
 by_cases h7 : x.op = 7
 ·exact l7Do_7 ts s x h7 hm hsl (hx (by omega)) (hy (by omega) (by omega)) hl
 by_cases h8 : x.op = 8
 ·exact l7Do_8 ts s x h8 hm hsl (hx (by omega)) hl
 ·exact l7Do_9 ts s x (by omega)
theorem put_read {ts:List Int}{s:Mc}{v:Nat}{y:Sl}:(putF ts s v y).1.read = s.read := by unfold putF;split <;> rfl
theorem do_read1 {ts:List Int}{s:Mc}{x:Pnt}(h:x.op ≠ 11):(doF ts s x).1.read.length ≤ s.read.length + 1:=by
 unfold doF
 split
 ·rw [put_read]; omega
 split
 ·split
  ·dsimp only;omega
  ·rw [put_read]; dsimp only;omega
 split
 ·rw [put_read]; split <;> (first|omega|(dsimp only;omega))
 split
 ·split
  ·rw [put_read]; dsimp only;omega
  ·dsimp only;omega
 split
 ·split
  ·rw [put_read]; dsimp only;rw [List.length_append]; simp only [List.length_singleton]; omega
  ·dsimp only;omega
 split
 ·dsimp only;omega
 split
 ·dsimp only;omega
 dsimp only;omega
theorem way_end (pts:List Pnt):∀ n a cs,(wayF pts n a cs).2 = true → ∃ l b,(wayF pts n a cs).1 = l ++ [b] ∧ pts[b]!.op = 11
 | 0, a, cs, h => by
  unfold wayF at h ⊢
  by_cases e : pts[a]!.op = 11
  ·rw [if_pos e]; exact ⟨[],a,rfl,e⟩
  ·rw [if_neg e] at h;exact absurd h (by decide)
 | n + 1, a, cs, h => by
  rw [wayF] at h ⊢
  by_cases e : pts[a]!.op = 11
  ·rw [if_pos e]; exact ⟨[],a,rfl,e⟩
  ·rw [if_neg e] at h ⊢
   obtain ⟨l,b,h1,h2⟩ := way_end pts n _ _ h
   exact ⟨a :: l,b,by dsimp only;rw [h1]; rfl,h2⟩
theorem unS_11 {s:Mc}{x:Pnt}(h:x.op = 11):unS s x = false:=by
 unfold unS;rw [if_neg (by omega),if_neg (by omega),if_neg (by omega)]
theorem l7Run_c (p:Prg) (cs:List Int) (n:Nat) (hv:validF p = true) (hl:p.types.length ≤ 1048576) (hs:cntL p.body ≤ 1048576) (hn:n ≤ 150) (hcl:cs.length ≤ 1048576) (hL:∀ a ∈ (wayF (ptsF p) n 0 cs).1,a < (ptsF p).length) (hLl:(wayF (ptsF p) n 0 cs).1.length ≤ 151):PC Tryz.prog 66 [aPrg p,sl cI cs,iv (n:Int)] (fun r => r = .tup [aMc (runP p.types (ptsF p) cs n).1,iv (runP p.types (ptsF p) cs n).2.1,iv (runP p.types (ptsF p) cs n).2.2]):=by
 have hpo := l2Points_c p hs
 have hru := RunPathS_c p cs n hv hl hs (by omega) hcl
 have w := WG.of_valid hv
 have wa := WA.of_valid hv
 obtain ⟨q,hq⟩ : ∃ q,q = runP p.types (ptsF p) cs n := ⟨_,rfl⟩
 rw [← hq]
 unfold runP at hq
 unfold wm at hru
 obtain ⟨L,hLe⟩ : ∃ L,L = (wayF (ptsF p) n 0 cs).1 := ⟨_,rfl⟩
 obtain ⟨dn,hdn⟩ : ∃ dn,dn = (wayF (ptsF p) n 0 cs).2 := ⟨_,rfl⟩
 rw [← hLe,← hdn] at hru
 rw [← hLe] at hq hL hLl
 have hgx : ∀ i,i < L.length → (L.map (fun a : Nat => (a : Int)))[i]! = (L[i]! : Int) := fun i h => by rw [getB _ _ (by rw [List.length_map]; exact h),List.getElem_map,getB _ _ h]
 have hml : (L.map (fun a : Nat => (a : Int))).length = L.length := List.length_map _
 generalize (L.map (fun a : Nat => (a : Int))) = LI at *
 generalize hP : ptsF p = pts at *
 have e1 : AV.imm p.types.length ((List.replicate p.types.length ([Value.bool false, Value.int .i64 0, Value.int .i64 0, Value.int .i64 0].map AV.v)).flatten) = sl cSl (List.replicate p.types.length sl0) := by
  rw [mk_rep (f := cSl) (x := sl0) (l := [Value.bool false,Value.int .i64 0,Value.int .i64 0,Value.int .i64 0].map AV.v) rfl]; exact sl_len (by simp)
 refine pc_start Tryz.func66 Tryz.ntmps66 ?_
 repeat' (first|(apply id_rw;first|(apply rx_callE (k := 62);rfl;exact hpo;exact Pur.pf;rfl)|(with_reducible apply rw_stop (d := 27))|(apply rx_buildSliceI (t := _);rfl;rfl;rfl;(rfl);rfl;rfl))|refine stpb ?_|fail)
 refine rw_go (rw_le ?_ (Le.frzD (d := 24) (i := 2) rfl rfl))
 rw [e1]
 repeat' (first|(apply id_rw;(apply rx_callE (k := 107);rfl;exact hru;exact Pur.pf;rfl))|refine stpb ?_|fail)
 refine aw_loopA (σ := Nat × Mc) [3,6,9,10,11,12] [0,1] (fun k => [(13,iv (k.1 : Int))]) (fun k => [(5,some [sl cSl k.2.slots,sl cCl k.2.cells,sl cI k.2.read])]) (fun k => k.1 ≤ L.length ∧ runF p.types pts (L.drop k.1) k.2 (if k.1 = 0 then 0 else L[k.1 - 1]!) = q ∧ OkS p.types.length k.2 ∧ k.2.read.length ≤ k.1 ∧ (∀ j,j < k.1 → pts[L[j]!]!.op ≠ 11)) (fun k => L.length - k.1) (0,mc0 p.types.length) ⟨Nat.zero_le _,by rw [hq]; rfl,OkS.mc0 _,Nat.le_refl _,fun j h => absurd h (by omega)⟩ ?_
 rintro ⟨i,s⟩ ⟨hi,hf,hok,hrd,h11⟩
 dsimp only at hi hf hok hrd h11 ⊢
 have hil : i < L.length → L[i]! < pts.length := fun h => hL _ (getB_mem _ _ h)
 have hex := fun h => l7End_c p.types s hok.m hok.l h
 by_cases hiL : i < L.length
 ·have hap := hil hiL
  have hop := w.op L[i]! hap
  have hwx := w.x L[i]! hap
  have hwy := w.y L[i]! hap
  have hA := wa.a L[i]! hap
  have hg := hgx i hiL
  have hen := hex hl
  have hun := l7Unset_c s pts[L[i]!]! (fun h => by have := hok.l;omega) (fun h => by have := hok.l;omega)
  have hun2 := unS_eq (ts := p.types) (s := s) (x := pts[L[i]!]!) (fun h => by omega) (fun h => by omega)
  rw [hun2] at hun
  have hdo := fun h => l7Do_c p.types s pts[L[i]!]! h hop hok.m hok.l (fun h => by omega) (fun h h2 => by omega) (fun h => hA.n (.inr h)) hl (by omega)
  repeat' (first|(apply id_rw;(with_reducible apply rw_stop (d := 46)))|refine stpb ?_|(refine stp2 ?_ ?_ <;> intro hc hq <;> try (exfalso;omega))|fail)
  refine rw_go ?_
  rw [hg]
  repeat' (first|(apply id_rw;first|(apply rx_callE (k := 108);rfl;exact hen;exact Pur.pf;rfl)|(apply rx_callE (k := 109);rfl;exact hun;exact Pur.pf;rfl)|(apply rx_callE (k := 110);rfl;exact hdo (by assumption);exact Pur.pf;rfl))|refine stpb ?_|(refine stp2 ?_ ?_ <;> intro hc hq <;> try (exfalso;omega))|refine stpd ?_|fail)
  all_goals have hdr : L.drop i = L[i]! :: L.drop (i + 1) := by rw [List.drop_eq_getElem_cons hiL,getB _ _ hiL]
  all_goals rw [hdr] at hf
  ·have ho : pts[L[i]!]!.op = 11 := by assumption
   have hqq : q = ((finF p.types p.types.length 0 s).1, (finF p.types p.types.length 0 s).2, L[i]!) := by
    rw [← hf,runF,if_neg (by rw [← hun2,unS_11 ho]; decide),do_11 ho,if_neg (by have := fin_end p.types p.types.length 0 s;omega)]
   rw [hqq]
   refine rq_ret (l := [aMc (finF p.types p.types.length 0 s).1,iv (finF p.types p.types.length 0 s).2,iv LI[i]!]) rfl ?_
   rw [hg]
   exact ⟨rfl,by exact Pur.pf⟩
  ·have hu : unsF p.types s pts[L[i]!]! = true := by assumption
   have hqq : q = (s,2,L[i]!) := by rw [← hf,runF,if_pos hu]
   rw [hqq]
   refine rq_ret (l := [aMc s,iv 2,iv LI[i]!]) rfl ?_
   rw [hg]
   exact ⟨rfl,by exact Pur.pf⟩
  ·have ho : ¬ pts[L[i]!]!.op = 11 := by assumption
   have hu : unsF p.types s pts[L[i]!]! = false := by assumption
   have hk : ¬ gk (doF p.types s pts[L[i]!]!).2 = 0 := by assumption
   have hk2 : ¬ (doF p.types s pts[L[i]!]!).2 = -1 := fun e => hk ((gk_0 ho).2 e)
   have hqq : q = ((doF p.types s pts[L[i]!]!).1,(doF p.types s pts[L[i]!]!).2,L[i]!) := by rw [← hf,runF,if_neg (by rw [hu]; decide),if_neg hk2]
   rw [hqq]
   refine rq_ret (l := [aMc (doF p.types s pts[L[i]!]!).1,iv (gk (doF p.types s pts[L[i]!]!).2),iv LI[i]!]) rfl ?_
   rw [hg,show gk (doF p.types s pts[L[i]!]!).2 = (doF p.types s pts[L[i]!]!).2 by unfold gk;rw [if_neg hk2]]
   exact ⟨rfl,by exact Pur.pf⟩
  ·have ho : ¬ pts[L[i]!]!.op = 11 := by assumption
   have hu : unsF p.types s pts[L[i]!]! = false := by assumption
   have hk2 : (doF p.types s pts[L[i]!]!).2 = -1 := (gk_0 ho).1 (by assumption)
   (refine ex3 (i + 1,(doF p.types s pts[L[i]!]!).1) (Le.renA [(0,0),(1,1),(5,5)]) ?_ ?_)
   ·refine ⟨by dsimp only; omega, ?_, hok.do ⟨fun h => hA.n (.inr h)⟩, ?_, ?_⟩
    ·dsimp only
     rw [← hf,if_neg (by omega),show i + 1 - 1 = i by omega,runF,if_neg (by rw [hu]; decide),if_pos hk2]
    ·dsimp only;have := do_read1 (ts := p.types) (s := s) ho;omega
    ·intro j hj
     rcases Nat.lt_or_ge j i with h|h
     ·exact h11 j h
     ·rw [show j = i by omega]; exact ho
   ·dsimp only;omega
 ·repeat' (first | refine stpb ?_ | (refine stp2 ?_ ?_ <;> intro hc hq <;> try (exfalso; omega)) | (refine stp3 ?_ ?_ <;> intro hg hq <;> try (exfalso; omega)) | refine stpd ?_|fail)
  all_goals have hie : i = L.length := by omega
  all_goals have hqq : q = (s,1,if i = 0 then 0 else L[i - 1]!) := by rw [← hf,hie,List.drop_length]; rfl
  ·rw [hqq, if_neg (by omega)]
   refine rq_ret (l := [aMc s,iv 1,iv LI[((LI.length : Int) - 1).toNat]!]) rfl ?_
   rw [show ((LI.length : Int) - 1).toNat = i - 1 by omega,hgx (i - 1) (by omega)]
   exact ⟨rfl,by exact Pur.pf⟩
  ·rw [hqq, if_pos (by omega)]
   exact rq_ret (l := [aMc s,iv 1,iv 0]) rfl ⟨rfl,by exact Pur.pf⟩
  ·exfalso
   have hd1 : dn = true := by assumption
   obtain ⟨l,b,e1,e2⟩ := way_end pts n 0 cs (by rw [← hdn]; exact hd1)
   rw [← hLe] at e1
   have hlen : L.length = l.length + 1 := by rw [e1,List.length_append]; rfl
   have hb : L[l.length]! = b := by rw [getB _ _ (by omega)]; simp [e1]
   have := h11 l.length (by omega)
   rw [hb] at this
   exact this e2
theorem way_lt {ts:List Int}{pts:List Pnt}(w:WG ts pts) (A:WA ts pts):∀ n a cs,a < pts.length → ∀ x ∈ (wayF pts n a cs).1,x < pts.length
 | 0, a, cs, ha, x, hx => by
  unfold wayF at hx
  by_cases e : pts[a]!.op = 11
  ·rw [if_pos e] at hx;rw [List.mem_singleton.1 hx]; exact ha
  ·rw [if_neg e] at hx;exact absurd hx (by simp)
 | n + 1, a, cs, ha, x, hx => by
  rw [wayF] at hx
  by_cases e : pts[a]!.op = 11
  ·rw [if_pos e] at hx;rw [List.mem_singleton.1 hx]; exact ha
  ·rw [if_neg e] at hx
   rcases List.mem_cons.1 hx with h|h
   ·rw [h]; exact ha
   ·have he := stp_edge w A ha e cs
    have := w.nx a ha _ he.2
    exact way_lt w A n _ _ (by omega) x h
theorem way_len {pts:List Pnt}:∀ n a cs,(wayF pts n a cs).1.length ≤ n + 1
 | 0,a,cs => by unfold wayF;split <;> simp
 | n + 1, a, cs => by
  rw [wayF]; split
  ·simp
  ·have := way_len (pts := pts) n (stpW pts a cs).1 (stpW pts a cs).2
   dsimp only;rw [List.length_cons]; omega
theorem l7RunV_c (p:Prg) (cs:List Int) (n:Nat) (hv:validF p = true) (hl:p.types.length ≤ 1048576) (hs:cntL p.body ≤ 1048576) (hn:n ≤ 150) (hcl:cs.length ≤ 1048576):PC Go.Proofs.Tryz.prog 66 [aPrg p,sl cI cs,iv (n:Int)] (fun r => r = .tup [aMc (runP p.types (ptsF p) cs n).1,iv (runP p.types (ptsF p) cs n).2.1,iv (runP p.types (ptsF p) cs n).2.2]) :=
 l7Run_c p cs n hv hl hs hn hcl (way_lt (WG.of_valid hv) (WA.of_valid hv) n 0 cs (WG.of_valid hv).p0) (by have := way_len (pts := ptsF p) n 0 cs;omega)
def rgF (p : Prg) (most : Int) : Bool := validF p && (decide (0 ≤ most) && decide (most ≤ 150))
theorem l7Right_c (p:Prg) (most:Int) (hl:p.types.length ≤ 1048576) (hs:cntL p.body ≤ 1048576):PC Tryz.prog 65 [aPrg p,iv most] (fun r => r = bv (rgF p most)):=by
 have hval := validS_c p hl (by omega)
 refine pc_start Tryz.func65 Tryz.ntmps65 ?_
 repeat' (first|(apply id_rw;(apply rx_callE (k := 50);rfl;exact hval;exact Pur.pf;rfl))|refine stpb ?_|(refine stp3 ?_ ?_ <;> intro hg hq <;> try (exfalso;omega))|fail)
 all_goals (refine rq_ret rfl ⟨?_,rfl⟩; simp only [oneOf,AV.v.injEq,Value.bool.injEq]; unfold rgF;grind)
theorem RunProgramS_c (p:Prg) (cs:List Int) (most:Int) (hl:p.types.length ≤ 1048576) (hs:cntL p.body ≤ 1048576) (hcl:cs.length ≤ 1048576):PC Tryz.prog 27 [aPrg p,sl cI cs,iv most] (fun r => r = .tup (if rgF p most = true then [iv (runP p.types (ptsF p) cs most.toNat).2.1,iv (runP p.types (ptsF p) cs most.toNat).2.2] else [iv 5,iv 0])):=by
 have hrt := l7Right_c p most hl hs
 by_cases h : rgF p most = true
 ·have h' := h
  unfold rgF at h'
  simp only [Bool.and_eq_true,decide_eq_true_eq] at h'
  obtain ⟨hv,h0,h1⟩ := h'
  have hru := l7RunV_c p cs most.toNat hv hl hs (by omega) hcl
  rw [Int.toNat_of_nonneg h0] at hru
  rw [h] at hrt
  rw [if_pos h]
  refine pc_start Tryz.func27 Tryz.ntmps27 ?_
  repeat' (first|(apply id_rw;first|(apply rx_callE (k := 65);rfl;exact hrt;exact Pur.pf;rfl)|(apply rx_callE (k := 66);rfl;exact hru;exact Pur.pf;rfl))|refine stpb ?_|fail)
  exact rq_ret (l := [iv (runP p.types (ptsF p) cs most.toNat).2.1,iv (runP p.types (ptsF p) cs most.toNat).2.2]) rfl ⟨rfl,rfl⟩
 ·rw [if_neg h]
  have h2 : rgF p most = false := by simpa using h
  rw [h2] at hrt
  refine pc_start Tryz.func27 Tryz.ntmps27 ?_
  repeat' (first|(apply id_rw;(apply rx_callE (k := 65);rfl;exact hrt;exact Pur.pf;rfl))|refine stpb ?_|fail)
  exact rq_ret (l := [iv 5,iv 0]) rfl ⟨rfl,rfl⟩
theorem run_ok {p:Prg}{cs:List Int}{n:Nat}(hv:validF p = true):OkS p.types.length (runP p.types (ptsF p) cs n).1:=by
 have wa := WA.of_valid hv
 have hp : ∀ a : Nat, PtN (ptsF p)[a]! := fun a => by
  by_cases h : a < (ptsF p).length
  ·exact ⟨fun e => (wa.a a h).n (.inr e)⟩
  ·refine ⟨fun e => ?_⟩
   rw [getB_def,dif_neg h] at e
   exact absurd e (by decide)
 exact OkS.run hp _ _ _ (OkS.mc0 _)
end Go.Proofs.YtjnhlgpbojggnaaGreatDoor
