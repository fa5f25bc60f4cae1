/-
 A part of the proofs over this program: rules and contracts of its functions (the contracts).
-/
import Derived.Test.YtjnhlgpbojggnaaGreatDoorS2B04
set_option linter.unusedVariables false
set_option linter.unusedSimpArgs false
set_option maxHeartbeats 8000000
set_option maxRecDepth 4000
attribute [local irreducible] Go.AL.RW Go.AL.AW Go.AL.Stop
namespace Go.Proofs.YtjnhlgpbojggnaaGreatDoor
open Go.AL Go.RowKit
variable {N : Nat} {Q : Exit → AS → Prop} {all : Array Oper} {rest : List Oper} {tsl : List (Nat × AV)} {hsl : List (Nat × Option (List AV))} {nidl : Nat} {z0 : Lo} {md : Md} {d : Nat} {ty : TypeId} {pos : String} {af : Array Edge} {tys : Array TypeId}
abbrev mO (ts : List Int) (bd : List AL.Stmt) (pts : List Pnt) (i1 i2 : Nat) (s : Mc) : List AV := [aG ts bd pts,.own i1 0 ts.length 4,sl cCl s.cells,.own i2 0 s.read.length 1]
theorem rx_mfree {ts:List Int}{bd:List AL.Stmt}{pts:List Pnt}{s:Mc}{v:Nat}{x0 x1:Operand}{i0 i1 i2:Nat}(ha0:ev (lk tsl) x0 = some (.optr i0 0)) (ha1:ev (lk tsl) x1 = some (iv (v:Int))) (hH0:lkH hsl i0 = some (mO ts bd pts i1 i2 s)) (hH1:lkH hsl i1 = some (flat cSl s.slots)) (hH2:lkH hsl i2 = some (flat cI s.read)) (hdd:Go.AL.distinct [i0,i1,i2] = true) (hmc:MC Tryz.prog 157 [.optr 0 0,iv (v:Int)] [(0,some (mO ts bd pts 1 2 s)),(1,some (flat cSl s.slots)),(2,some (flat cI s.read))] 3 (fun _:Unit => True) (fun _ => iv (goK (tchK s.cells s.slots[v]!.ptr true))) (fun _ => [(0,some ([aG ts bd pts,.own 1 0 ts.length 4,sl cCl (frM s.cells s.slots[v]!.ptr),.own 2 0 s.read.length 1])),(1,some (flat cSl s.slots)),(2,some (flat cI s.read))])) (hM:Nat.ble (nidl + 0) big = true) (hN:Nat.blt d N = true){md':Md}[hmd:MdA md (rOs [x0,x1] ++ [.inr i0,.inr i1,.inr i2]) (List.map Sum.inr (List.map Prod.fst ([(i0,some ([aG ts bd pts,.own i1 0 ts.length 4,sl cCl (frM s.cells s.slots[v]!.ptr),.own i2 0 s.read.length 1])),(i1,some (flat cSl s.slots)),(i2,some (flat cI s.read))]:List (Nat × Option (List AV)))) ++ [.inl d]) md'] (kk:RW Tryz.prog N all Q md' rest ⟨(d,iv (goK (tchK s.cells s.slots[v]!.ptr true))) :: tsl,wrH hsl [(i0,some ([aG ts bd pts,.own i1 0 ts.length 4,sl cCl (frM s.cells s.slots[v]!.ptr),.own i2 0 s.read.length 1])),(i1,some (flat cSl s.slots)),(i2,some (flat cI s.read))],nidl + 0,z0⟩):RW Tryz.prog N all Q md (⟨some d,.call ⟨.value (.func 157),#[x0,x1],tys⟩,ty,pos,af,none⟩ :: rest) ⟨tsl,hsl,nidl,z0⟩:=by
 exact rx_mcallA (l := [x0,x1]) [i0,i1,i2] 3 [(i0,some ([aG ts bd pts,.own i1 0 ts.length 4,sl cCl (frM s.cells s.slots[v]!.ptr),.own i2 0 s.read.length 1])),(i1,some (flat cSl s.slots)),(i2,some (flat cI s.read))] hmc (avs := [.optr i0 0,iv (v : Int)]) (by simp only [evL,ha0,ha1]) hdd hM hN (md' := md') (hmd := hmd) kk
theorem mfree_c (ts:List Int) (bd:List AL.Stmt) (pts:List Pnt) (s:Mc) (v:Nat) (hm:OkM s.cells) (hsl:s.slots.length = ts.length) (hv:v < ts.length):MC Tryz.prog 157 [.optr 0 0,iv (v:Int)] [(0,some (mO ts bd pts 1 2 s)),(1,some (flat cSl s.slots)),(2,some (flat cI s.read))] 3 (fun _:Unit => True) (fun _ => iv (goK (tchK s.cells s.slots[v]!.ptr true))) (fun _ => [(0,some ([aG ts bd pts,.own 1 0 ts.length 4,sl cCl (frM s.cells s.slots[v]!.ptr),.own 2 0 s.read.length 1])),(1,some (flat cSl s.slots)),(2,some (flat cI s.read))]):=by
 have hfc := FreeCellI_c s.cells hm s.slots[v]!.ptr
 refine mc_start Tryz.func157 Tryz.ntmps157 ?_
 repeat' (first|(apply id_rw;first|(apply rx_loadFP;(case hx|hH => rfl);(case hf|hg|hα => infer_instance);(case hk => omega);(case hj => decide);(case hc => exact (rfl:_=[_,_]));(case h0|hN => rfl))|(apply rx_callE (k := 216);rfl;exact hfc;exact Pur.pf;rfl)|(apply rx_callE (k := 154);rfl;(apply endOf_c);(rfl);rfl))|refine stpb ?_|(refine stp2 ?_ ?_ <;> intro hc hq <;> try (exfalso;omega))|refine stpd ?_|fail)
 ·have hk : ¬ tchK s.cells s.slots[v]!.ptr true = 0 := by assumption
  (refine rq_ret rfl ?_; refine mc_ret () trivial ?_ ⟨sE ?_,⟨sE ?_,⟨sE ?_,trivial⟩⟩⟩)
  ·show iv (endK _) = iv (goK _)
   unfold goK;rw [if_neg hk]
  ·rfl
  ·rfl
  ·rfl
 ·have hk : tchK s.cells s.slots[v]!.ptr true = 0 := by assumption
  (refine rq_ret rfl ?_; refine mc_ret () trivial ?_ ⟨sE ?_,⟨sE ?_,⟨sE ?_,trivial⟩⟩⟩)
  ·rw [hk]; rfl
  ·rfl
  ·rfl
  ·rfl
theorem mput_c (ts:List Int) (bd:List AL.Stmt) (pts:List Pnt) (s:Mc) (v:Nat) (y:Sl) (hm:OkM s.cells) (hsl:s.slots.length = ts.length) (hv:v < ts.length):MC Tryz.prog 150 [.optr 0 0,iv (v:Int),aSl y] [(0,some (mO ts bd pts 1 2 s)),(1,some (flat cSl s.slots)),(2,some (flat cI s.read))] 3 (fun _:Unit => True) (fun _ => iv (putF ts s v y).2) (fun _ => [(0,some (mO ts bd pts 1 2 (putF ts s v y).1)),(1,some (flat cSl (putF ts s v y).1.slots)),(2,some (flat cI (putF ts s v y).1.read))]):=by
 have hfr := mfree_c ts bd pts s v hm hsl hv
 refine mc_start Tryz.func150 Tryz.ntmps150 ?_
 repeat' (first|(apply id_rw;first|(apply rx_mfree (ts := ts) (bd := bd) (pts := pts) (s := s) (v := v);rfl;rfl;rfl;rfl;rfl;rfl;exact hfr;rfl;rfl)|(apply rx_store;rfl;rfl;rfl;rfl;rfl;(rw [flat_length]; simp only [lns] <;> omega);(exact st_sl (by (omega)))))|refine stpb ?_|(refine stp2 ?_ ?_ <;> intro hc hq <;> try (exfalso;omega))|(refine stp3 ?_ ?_ <;> intro hg hq <;> try (exfalso;omega))|refine stpd ?_|fail)
 ·have hp : putF ts s v y = (⟨s.slots.set v y, frM s.cells s.slots[v]!.ptr, s.read⟩, goK (tchK s.cells s.slots[v]!.ptr true)) := if_pos ⟨by assumption, by assumption⟩
  rw [hp]
  (refine rq_ret rfl ?_; refine mc_ret () trivial ?_ ⟨sE ?_,⟨sE ?_,⟨sE ?_,trivial⟩⟩⟩)
  ·rfl
  ·rfl
  ·rfl
  ·rfl
 all_goals (
  have hp : putF ts s v y = (⟨s.slots.set v y, s.cells, s.read⟩, -1) := if_neg (by
   rintro ⟨q1,q2⟩
   first|(exact (by assumption : ¬ ts[v]! = 2) q1)|(rw [(by assumption : s.slots[v]!.set = false)] at q2;exact absurd q2 (by decide)))
  rw [hp]
  (refine rq_ret rfl ?_; refine mc_ret () trivial ?_ ⟨sE ?_,⟨sE ?_,⟨sE ?_,trivial⟩⟩⟩)
  ·rfl
  ·rfl
  ·rfl
  ·rfl)
theorem rx_mfin {ts:List Int}{bd:List AL.Stmt}{pts:List Pnt}{s:Mc}{x0:Operand}{i0 i1 i2:Nat}(ha0:ev (lk tsl) x0 = some (.optr i0 0)) (hH0:lkH hsl i0 = some (mO ts bd pts i1 i2 s)) (hH1:lkH hsl i1 = some (flat cSl s.slots)) (hH2:lkH hsl i2 = some (flat cI s.read)) (hdd:Go.AL.distinct [i0,i1,i2] = true) (hmc:MC Tryz.prog 158 [.optr 0 0] [(0,some (mO ts bd pts 1 2 s)),(1,some (flat cSl s.slots)),(2,some (flat cI s.read))] 3 (fun _:Unit => True) (fun _ => iv (finF ts ts.length 0 s).2) (fun _ => [(0,some (mO ts bd pts 1 2 (finF ts ts.length 0 s).1)),(1,some (flat cSl (finF ts ts.length 0 s).1.slots)),(2,some (flat cI (finF ts ts.length 0 s).1.read))])) (hM:Nat.ble (nidl + 0) big = true) (hN:Nat.blt d N = true){md':Md}[hmd:MdA md (rOs [x0] ++ [.inr i0,.inr i1,.inr i2]) (List.map Sum.inr (List.map Prod.fst ([(i0,some (mO ts bd pts i1 i2 (finF ts ts.length 0 s).1)),(i1,some (flat cSl (finF ts ts.length 0 s).1.slots)),(i2,some (flat cI (finF ts ts.length 0 s).1.read))]:List (Nat × Option (List AV)))) ++ [.inl d]) md'] (kk:RW Tryz.prog N all Q md' rest ⟨(d,iv (finF ts ts.length 0 s).2) :: tsl,wrH hsl [(i0,some (mO ts bd pts i1 i2 (finF ts ts.length 0 s).1)),(i1,some (flat cSl (finF ts ts.length 0 s).1.slots)),(i2,some (flat cI (finF ts ts.length 0 s).1.read))],nidl + 0,z0⟩):RW Tryz.prog N all Q md (⟨some d,.call ⟨.value (.func 158),#[x0],tys⟩,ty,pos,af,none⟩ :: rest) ⟨tsl,hsl,nidl,z0⟩:=by
 exact rx_mcallA (l := [x0]) [i0,i1,i2] 3 [(i0,some (mO ts bd pts i1 i2 (finF ts ts.length 0 s).1)),(i1,some (flat cSl (finF ts ts.length 0 s).1.slots)),(i2,some (flat cI (finF ts ts.length 0 s).1.read))] hmc (avs := [.optr i0 0]) (by simp only [evL,ha0]) hdd hM hN (md' := md') (hmd := hmd) kk
theorem mfin_c (ts:List Int) (bd:List AL.Stmt) (pts:List Pnt) (s:Mc) (hm:OkM s.cells) (hsl:s.slots.length = ts.length) (hl:ts.length ≤ 1048576):MC Tryz.prog 158 [.optr 0 0] [(0,some (mO ts bd pts 1 2 s)),(1,some (flat cSl s.slots)),(2,some (flat cI s.read))] 3 (fun _:Unit => True) (fun _ => iv (finF ts ts.length 0 s).2) (fun _ => [(0,some (mO ts bd pts 1 2 (finF ts ts.length 0 s).1)),(1,some (flat cSl (finF ts ts.length 0 s).1.slots)),(2,some (flat cI (finF ts ts.length 0 s).1.read))]):=by
 refine mc_start Tryz.func158 Tryz.ntmps158 ?_
 repeat' (first|refine stpb ?_|fail)
 refine aw_loopA (σ := Nat × Mc) [0,13,14] [] (fun k => [(15,iv (k.1 : Int))]) (fun k => [(0,some (mO ts bd pts 1 2 k.2)),(1,some (flat cSl k.2.slots)),(2,some (flat cI k.2.read))]) (fun k => k.1 ≤ ts.length ∧ finF ts (ts.length - k.1) k.1 k.2 = finF ts ts.length 0 s ∧ OkM k.2.cells ∧ k.2.slots.length = ts.length) (fun k => ts.length - k.1) (0,s) ⟨Nat.zero_le _,rfl,hm,hsl⟩ ?_
 rintro ⟨v,q⟩ ⟨hv,hf,hmq,hlq⟩
 dsimp only at hv hf hmq hlq ⊢
 by_cases hvn : v < ts.length
 ·have hfr := mfree_c ts bd pts q v hmq hlq hvn
  repeat' (first|(apply id_rw;first|(apply rx_mfree (ts := ts) (bd := bd) (pts := pts) (s := q) (v := v);rfl;rfl;rfl;rfl;rfl;rfl;exact hfr;rfl;rfl)|(apply rx_store;rfl;rfl;rfl;rfl;rfl;(rw [flat_length]; simp only [lns] <;> omega);(exact st_sl (by (omega)))))|refine stpb ?_|(refine stp2 ?_ ?_ <;> intro hc hq <;> try (exfalso;omega))|(refine stp3 ?_ ?_ <;> intro hg hq <;> try (exfalso;omega))|fail)
  ·(refine ex3 (v + 1, q) (Le.renA []) ?_ ?_)
   ·refine ⟨by omega, ?_, hmq, hlq⟩
    dsimp only
    rw [← hf, show ts.length - v = (ts.length - (v + 1)) + 1 by omega, finF_s (fun h => by
     have h2 : q.slots[v]!.set = false := by assumption
     rw [h2] at h;exact absurd h.2 (by decide))]
   ·dsimp only;omega
  ·have hk : ¬ tchK q.cells q.slots[v]!.ptr true = 0 := fun h => by
    have h2 : ¬ goK (tchK q.cells q.slots[v]!.ptr true) = -1 := by assumption
    rw [h] at h2;exact h2 rfl
   have hq2 : finF ts ts.length 0 s = (⟨q.slots, frM q.cells q.slots[v]!.ptr, q.read⟩, endK (tchK q.cells q.slots[v]!.ptr true)) := by
    rw [← hf,show ts.length - v = (ts.length - (v + 1)) + 1 by omega,finF_e ⟨by assumption,by assumption⟩ hk]
   rw [hq2]
   (refine rq_ret rfl ?_; refine mc_ret () trivial ?_ ⟨sE ?_,⟨sE ?_,⟨sE ?_,trivial⟩⟩⟩)
   ·show iv (goK _) = iv (endK _)
    unfold goK;rw [if_neg hk]
   ·rfl
   ·rfl
   ·rfl
  ·have hk : tchK q.cells q.slots[v]!.ptr true = 0 := by
    have h2 : goK (tchK q.cells q.slots[v]!.ptr true) = -1 := by assumption
    unfold goK at h2
    by_cases h : tchK q.cells q.slots[v]!.ptr true = 0
    ·exact h
    ·rw [if_neg h] at h2;unfold endK at h2;split at h2 <;> cases h2
   have hls : (q.slots.set v sl0).length = q.slots.length := List.length_set
   (refine ex3 (v + 1,⟨q.slots.set v sl0,frM q.cells q.slots[v]!.ptr,q.read⟩) (Le.renA []) ?_ ?_)
   ·refine ⟨by dsimp only; omega, ?_, hmq.fr _, by show (q.slots.set v sl0).length = _; rw [List.length_set]; exact hlq⟩
    dsimp only
    rw [← hf,show ts.length - v = (ts.length - (v + 1)) + 1 by omega,finF_f ⟨by assumption,by assumption⟩ hk]
   ·dsimp only;omega
  ·(refine ex3 (v + 1, q) (Le.renA []) ?_ ?_)
   ·refine ⟨by omega, ?_, hmq, hlq⟩
    dsimp only
    rw [← hf, show ts.length - v = (ts.length - (v + 1)) + 1 by omega, finF_s (fun h => by
     have h2 : ¬ ts[v]! = 2 := by assumption
     exact h2 h.1)]
   ·dsimp only;omega
 ·have hve : v = ts.length := by omega
  have hq2 : finF ts ts.length 0 s = (q,0) := by rw [← hf,hve,Nat.sub_self]; rfl
  repeat' (first|refine stpb ?_|(refine stp2 ?_ ?_ <;> intro hc hq <;> try (exfalso;omega))|fail)
  rw [hq2]
  (refine rq_ret rfl ?_; refine mc_ret () trivial ?_ ⟨sE ?_,⟨sE ?_,⟨sE ?_,trivial⟩⟩⟩)
  ·rfl
  ·rfl
  ·rfl
  ·rfl
def dxF (ts : List Int) (s : Mc) (x : Pnt) : Mc × Int := if unsF ts s x = true then (s,2) else doF ts s x
theorem dx_u {ts:List Int}{s:Mc}{x:Pnt}(h:unsF ts s x = true):dxF ts s x = (s,2) := if_pos h
theorem dx_n {ts:List Int}{s:Mc}{x:Pnt}(h:unsF ts s x = false):dxF ts s x = doF ts s x := if_neg (by rw [h]; decide)
theorem bits_lt {ts:List Int}{x:Pnt}{v:Int}(h:v ∈ bitsI (wS ts x [1,2,3])):0 ≤ v ∧ v < ts.length:=by
 obtain ⟨v',h3,h4,rfl⟩ := mem_bitsI.1 h
 rw [testBit_wS,Bool.and_eq_true,decide_eq_true_eq] at h4
 omega
theorem uns_bits {ts:List Int}{s:Mc}{x:Pnt}(htl:ts.length ≤ 6):unsF ts s x = true ↔ ∃ v ∈ bitsI (wS ts x [1,2,3]),s.slots[v.toNat]!.set = false:=by
 constructor
 ·intro h
  obtain ⟨v,hv,hne,hs⟩ := uns_true h
  refine ⟨(v : Int),mem_bitsI.2 ⟨v,by omega,?_,rfl⟩,hs⟩
  have hb := useAt_bd ts x v
  rw [testBit_wS,decide_eq_true hv,Bool.true_and,decide_eq_true_eq]
  simp only [List.mem_cons,List.not_mem_nil,or_false]; omega
 ·rintro ⟨v, hv, hs⟩
  obtain ⟨v',h3,h4,rfl⟩ := mem_bitsI.1 hv
  rw [testBit_wS,Bool.and_eq_true,decide_eq_true_eq,decide_eq_true_eq] at h4
  unfold unsF
  refine List.any_eq_true.2 ⟨v',List.mem_range.2 h4.1,?_⟩
  rw [Bool.and_eq_true,decide_eq_true_eq]
  refine ⟨fun e => ?_,by rw [show s.slots[v']!.set = false from hs]; rfl⟩
  have h5 := h4.2
  simp only [List.mem_cons,List.not_mem_nil,or_false] at h5;omega
theorem rx_mdo {ts:List Int}{bd:List AL.Stmt}{pts:List Pnt}{s:Mc}{x:Pnt}{x0 x1:Operand}{i0 i1 i2:Nat}(ha0:ev (lk tsl) x0 = some (.optr i0 0)) (ha1:ev (lk tsl) x1 = some (aPnt x)) (hH0:lkH hsl i0 = some (mO ts bd pts i1 i2 s)) (hH1:lkH hsl i1 = some (flat cSl s.slots)) (hH2:lkH hsl i2 = some (flat cI s.read)) (hdd:Go.AL.distinct [i0,i1,i2] = true) (hmc:MC Tryz.prog 106 [.optr 0 0,aPnt x] [(0,some (mO ts bd pts 1 2 s)),(1,some (flat cSl s.slots)),(2,some (flat cI s.read))] 3 (fun _:Unit => True) (fun _ => iv (dxF ts s x).2) (fun _ => [(0,some (mO ts bd pts 1 2 (dxF ts s x).1)),(1,some (flat cSl (dxF ts s x).1.slots)),(2,some (flat cI (dxF ts s x).1.read))])) (hM:Nat.ble (nidl + 0) big = true) (hN:Nat.blt d N = true){md':Md}[hmd:MdA md (rOs [x0,x1] ++ [.inr i0,.inr i1,.inr i2]) (List.map Sum.inr (List.map Prod.fst ([(i0,some (mO ts bd pts i1 i2 (dxF ts s x).1)),(i1,some (flat cSl (dxF ts s x).1.slots)),(i2,some (flat cI (dxF ts s x).1.read))]:List (Nat × Option (List AV)))) ++ [.inl d]) md'] (kk:RW Tryz.prog N all Q md' rest ⟨(d,iv (dxF ts s x).2) :: tsl,wrH hsl [(i0,some (mO ts bd pts i1 i2 (dxF ts s x).1)),(i1,some (flat cSl (dxF ts s x).1.slots)),(i2,some (flat cI (dxF ts s x).1.read))],nidl + 0,z0⟩):RW Tryz.prog N all Q md (⟨some d,.call ⟨.value (.func 106),#[x0,x1],tys⟩,ty,pos,af,none⟩ :: rest) ⟨tsl,hsl,nidl,z0⟩:=by
 exact rx_mcallA (l := [x0,x1]) [i0,i1,i2] 3 [(i0,some (mO ts bd pts i1 i2 (dxF ts s x).1)),(i1,some (flat cSl (dxF ts s x).1.slots)),(i2,some (flat cI (dxF ts s x).1.read))] hmc (avs := [.optr i0 0,aPnt x]) (by simp only [evL,ha0,ha1]) hdd hM hN (md' := md') (hmd := hmd) kk
theorem rx_mputI {ts:List Int}{bd:List AL.Stmt}{pts:List Pnt}{s:Mc}{v:Int}{y:Sl}{x0 x1 x2:Operand}{i0 i1 i2:Nat}(ha0:ev (lk tsl) x0 = some (.optr i0 0)) (ha1:ev (lk tsl) x1 = some (iv v)) (ha2:ev (lk tsl) x2 = some (aSl y)) (hH0:lkH hsl i0 = some (mO ts bd pts i1 i2 s)) (hH1:lkH hsl i1 = some (flat cSl s.slots)) (hH2:lkH hsl i2 = some (flat cI s.read)) (hdd:Go.AL.distinct [i0,i1,i2] = true) (hmc:MC Tryz.prog 150 [.optr 0 0,iv v,aSl y] [(0,some (mO ts bd pts 1 2 s)),(1,some (flat cSl s.slots)),(2,some (flat cI s.read))] 3 (fun _:Unit => True) (fun _ => iv (putF ts s v.toNat y).2) (fun _ => [(0,some (mO ts bd pts 1 2 (putF ts s v.toNat y).1)),(1,some (flat cSl (putF ts s v.toNat y).1.slots)),(2,some (flat cI (putF ts s v.toNat y).1.read))])) (hM:Nat.ble (nidl + 0) big = true) (hN:Nat.blt d N = true){md':Md}[hmd:MdA md (rOs [x0,x1,x2] ++ [.inr i0,.inr i1,.inr i2]) (List.map Sum.inr (List.map Prod.fst ([(i0,some (mO ts bd pts i1 i2 (putF ts s v.toNat y).1)),(i1,some (flat cSl (putF ts s v.toNat y).1.slots)),(i2,some (flat cI (putF ts s v.toNat y).1.read))]:List (Nat × Option (List AV)))) ++ [.inl d]) md'] (kk:RW Tryz.prog N all Q md' rest ⟨(d,iv (putF ts s v.toNat y).2) :: tsl,wrH hsl [(i0,some (mO ts bd pts i1 i2 (putF ts s v.toNat y).1)),(i1,some (flat cSl (putF ts s v.toNat y).1.slots)),(i2,some (flat cI (putF ts s v.toNat y).1.read))],nidl + 0,z0⟩):RW Tryz.prog N all Q md (⟨some d,.call ⟨.value (.func 150),#[x0,x1,x2],tys⟩,ty,pos,af,none⟩ :: rest) ⟨tsl,hsl,nidl,z0⟩:=by
 exact rx_mcallA (l := [x0,x1,x2]) [i0,i1,i2] 3 [(i0,some (mO ts bd pts i1 i2 (putF ts s v.toNat y).1)),(i1,some (flat cSl (putF ts s v.toNat y).1.slots)),(i2,some (flat cI (putF ts s v.toNat y).1.read))] hmc (avs := [.optr i0 0,iv v,aSl y]) (by simp only [evL,ha0,ha1,ha2]) hdd hM hN (md' := md') (hmd := hmd) kk
theorem mputI_c (ts:List Int) (bd:List AL.Stmt) (pts:List Pnt) (s:Mc) (v:Int) (y:Sl) (hm:OkM s.cells) (hsl:s.slots.length = ts.length) (hv:0 ≤ v ∧ v < ts.length):MC Tryz.prog 150 [.optr 0 0,iv v,aSl y] [(0,some (mO ts bd pts 1 2 s)),(1,some (flat cSl s.slots)),(2,some (flat cI s.read))] 3 (fun _:Unit => True) (fun _ => iv (putF ts s v.toNat y).2) (fun _ => [(0,some (mO ts bd pts 1 2 (putF ts s v.toNat y).1)),(1,some (flat cSl (putF ts s v.toNat y).1.slots)),(2,some (flat cI (putF ts s v.toNat y).1.read))]):=by
 have h := mput_c ts bd pts s v.toNat y hm hsl (by omega)
 rw [Int.toNat_of_nonneg hv.1] at h
 exact h
theorem rx_mfreeI {ts:List Int}{bd:List AL.Stmt}{pts:List Pnt}{s:Mc}{v:Int}{x0 x1:Operand}{i0 i1 i2:Nat}(ha0:ev (lk tsl) x0 = some (.optr i0 0)) (ha1:ev (lk tsl) x1 = some (iv v)) (hH0:lkH hsl i0 = some (mO ts bd pts i1 i2 s)) (hH1:lkH hsl i1 = some (flat cSl s.slots)) (hH2:lkH hsl i2 = some (flat cI s.read)) (hdd:Go.AL.distinct [i0,i1,i2] = true) (hmc:MC Tryz.prog 157 [.optr 0 0,iv v] [(0,some (mO ts bd pts 1 2 s)),(1,some (flat cSl s.slots)),(2,some (flat cI s.read))] 3 (fun _:Unit => True) (fun _ => iv (goK (tchK s.cells s.slots[v.toNat]!.ptr true))) (fun _ => [(0,some ([aG ts bd pts,.own 1 0 ts.length 4,sl cCl (frM s.cells s.slots[v.toNat]!.ptr),.own 2 0 s.read.length 1])),(1,some (flat cSl s.slots)),(2,some (flat cI s.read))])) (hM:Nat.ble (nidl + 0) big = true) (hN:Nat.blt d N = true){md':Md}[hmd:MdA md (rOs [x0,x1] ++ [.inr i0,.inr i1,.inr i2]) (List.map Sum.inr (List.map Prod.fst ([(i0,some ([aG ts bd pts,.own i1 0 ts.length 4,sl cCl (frM s.cells s.slots[v.toNat]!.ptr),.own i2 0 s.read.length 1])),(i1,some (flat cSl s.slots)),(i2,some (flat cI s.read))]:List (Nat × Option (List AV)))) ++ [.inl d]) md'] (kk:RW Tryz.prog N all Q md' rest ⟨(d,iv (goK (tchK s.cells s.slots[v.toNat]!.ptr true))) :: tsl,wrH hsl [(i0,some ([aG ts bd pts,.own i1 0 ts.length 4,sl cCl (frM s.cells s.slots[v.toNat]!.ptr),.own i2 0 s.read.length 1])),(i1,some (flat cSl s.slots)),(i2,some (flat cI s.read))],nidl + 0,z0⟩):RW Tryz.prog N all Q md (⟨some d,.call ⟨.value (.func 157),#[x0,x1],tys⟩,ty,pos,af,none⟩ :: rest) ⟨tsl,hsl,nidl,z0⟩:=by
 exact rx_mcallA (l := [x0,x1]) [i0,i1,i2] 3 [(i0,some ([aG ts bd pts,.own i1 0 ts.length 4,sl cCl (frM s.cells s.slots[v.toNat]!.ptr),.own i2 0 s.read.length 1])),(i1,some (flat cSl s.slots)),(i2,some (flat cI s.read))] hmc (avs := [.optr i0 0,iv v]) (by simp only [evL,ha0,ha1]) hdd hM hN (md' := md') (hmd := hmd) kk
theorem mfreeI_c (ts:List Int) (bd:List AL.Stmt) (pts:List Pnt) (s:Mc) (v:Int) (hm:OkM s.cells) (hsl:s.slots.length = ts.length) (hv:0 ≤ v ∧ v < ts.length):MC Tryz.prog 157 [.optr 0 0,iv v] [(0,some (mO ts bd pts 1 2 s)),(1,some (flat cSl s.slots)),(2,some (flat cI s.read))] 3 (fun _:Unit => True) (fun _ => iv (goK (tchK s.cells s.slots[v.toNat]!.ptr true))) (fun _ => [(0,some ([aG ts bd pts,.own 1 0 ts.length 4,sl cCl (frM s.cells s.slots[v.toNat]!.ptr),.own 2 0 s.read.length 1])),(1,some (flat cSl s.slots)),(2,some (flat cI s.read))]):=by
 have h := mfree_c ts bd pts s v.toNat hm hsl (by omega)
 rw [Int.toNat_of_nonneg hv.1] at h
 exact h
theorem mdo_1 (ts:List Int) (bd:List AL.Stmt) (pts:List Pnt) (s:Mc) (x:Pnt) (htl:ts.length ≤ 6) (hm:OkM s.cells) (hsl:s.slots.length = ts.length) (ho:x.op = 1) (hx:0 ≤ x.x ∧ x.x < ts.length):MC Tryz.prog 106 [.optr 0 0,aPnt x] [(0,some (mO ts bd pts 1 2 s)),(1,some (flat cSl s.slots)),(2,some (flat cI s.read))] 3 (fun _:Unit => True) (fun _ => iv (dxF ts s x).2) (fun _ => [(0,some (mO ts bd pts 1 2 (dxF ts s x).1)),(1,some (flat cSl (dxF ts s x).1.slots)),(2,some (flat cI (dxF ts s x).1.read))]):=by
 have hus := used_c ts bd pts x htl
 have hsm : Sm (wS ts x [1,2,3]) := mkBits_sm (by omega)
 obtain ⟨L,hL⟩ : ∃ L,L = bitsI (wS ts x [1,2,3]) := ⟨_,rfl⟩
 have hLl : L.length ≤ 62 := by rw [hL]; exact bitsI_len _
 have hmem : ∀ k, k < L.length → 0 ≤ L[k]! ∧ L[k]! < s.slots.length := fun k hk => by
  rw [hsl]; exact bits_lt (by rw [← hL]; exact getB_mem _ _ hk)
 refine mc_start Tryz.func106 Tryz.ntmps106 ?_
 repeat' (first|(apply id_rw;first|(apply rx_callE (k := 149);rfl;exact hus;exact Pur.pf;rfl)|(apply rx_callE (k := 148);rfl;(apply bits_c <;> (assumption));(rfl);rfl))|refine stpb ?_|refine stpd ?_|fail)
 rw [← hL]
 refine aw_loopA (σ := Nat) [0,3,26,27] [0,1,2,3] (fun k => [(28,iv (k : Int))]) (fun k => []) (fun k => k ≤ L.length ∧ ∀ j,j < k → s.slots[(L[j]!).toNat]!.set = true) (fun k => L.length - k) (0) ⟨Nat.zero_le _,fun j h => absurd h (by omega)⟩ ?_
 rintro k ⟨hk,hall⟩
 by_cases hkn : k < L.length
 ·have hmk := hmem k hkn
  repeat' (first|refine stpb ?_|(refine stp2 ?_ ?_ <;> intro hc hq <;> try (exfalso;omega))|fail)
  ·have hu : unsF ts s x = true := (uns_bits htl).2 ⟨L[k]!, by rw [← hL]; exact getB_mem _ _ hkn, by assumption⟩
   rw [dx_u hu]
   (refine rq_ret rfl ?_; refine mc_ret () trivial ?_ ⟨sE ?_,⟨sE ?_,⟨sE ?_,trivial⟩⟩⟩)
   ·rfl
   ·rfl
   ·rfl
   ·rfl
  ·(refine ex3 (k + 1) (Le.renA [(3, 3)]) ?_ ?_)
   ·refine ⟨by omega, fun j hj => ?_⟩
    rcases Nat.lt_or_ge j k with h|h
    ·exact hall j h
    ·rw [show j = k by omega]; assumption
   ·omega
 ·have hu : unsF ts s x = false := by
   cases q : unsF ts s x with
   | false => rfl
   | true =>
    obtain ⟨v,hv,hs⟩ := (uns_bits htl).1 q
    rw [← hL] at hv
    obtain ⟨j,hj,e⟩ := List.getElem_of_mem hv
    have h1 := hall j (by omega)
    rw [getB _ _ hj,e,hs] at h1;cases h1
  rw [dx_n hu]
  have hd : doF ts s x = putF ts s x.x.toNat ⟨true,x.n,⟨0,0⟩⟩ := by unfold doF;rw [if_pos ho]
  rw [hd]
  have hp := mputI_c ts bd pts s x.x ⟨true,x.n,⟨0,0⟩⟩ hm hsl hx
  repeat' (first|(apply id_rw;(apply rx_mputI (ts := ts) (bd := bd) (pts := pts) (s := s) (v := x.x) (y := ⟨true,x.n,⟨0,0⟩⟩);rfl;rfl;rfl;rfl;rfl;rfl;rfl;exact hp;rfl;rfl))|refine stpb ?_|(refine stp2 ?_ ?_ <;> intro hc hq <;> try (exfalso;omega))|fail)
  (refine rq_ret rfl ?_; refine mc_ret () trivial ?_ ⟨sE ?_,⟨sE ?_,⟨sE ?_,trivial⟩⟩⟩)
  ·rfl
  ·rfl
  ·rfl
  ·rfl
theorem mdo_2 (ts:List Int) (bd:List AL.Stmt) (pts:List Pnt) (s:Mc) (x:Pnt) (htl:ts.length ≤ 6) (hm:OkM s.cells) (hsl:s.slots.length = ts.length) (ho:x.op = 2) (hn:0 ≤ x.n ∧ x.n ≤ 9) (hx:0 ≤ x.x ∧ x.x < ts.length):MC Tryz.prog 106 [.optr 0 0,aPnt x] [(0,some (mO ts bd pts 1 2 s)),(1,some (flat cSl s.slots)),(2,some (flat cI s.read))] 3 (fun _:Unit => True) (fun _ => iv (dxF ts s x).2) (fun _ => [(0,some (mO ts bd pts 1 2 (dxF ts s x).1)),(1,some (flat cSl (dxF ts s x).1.slots)),(2,some (flat cI (dxF ts s x).1.read))]):=by
 have hus := used_c ts bd pts x htl
 have hsm : Sm (wS ts x [1,2,3]) := mkBits_sm (by omega)
 obtain ⟨L,hL⟩ : ∃ L,L = bitsI (wS ts x [1,2,3]) := ⟨_,rfl⟩
 have hLl : L.length ≤ 62 := by rw [hL]; exact bitsI_len _
 have hmem : ∀ k, k < L.length → 0 ≤ L[k]! ∧ L[k]! < s.slots.length := fun k hk => by
  rw [hsl]; exact bits_lt (by rw [← hL]; exact getB_mem _ _ hk)
 refine mc_start Tryz.func106 Tryz.ntmps106 ?_
 repeat' (first|(apply id_rw;first|(apply rx_callE (k := 149);rfl;exact hus;exact Pur.pf;rfl)|(apply rx_callE (k := 148);rfl;(apply bits_c <;> (assumption));(rfl);rfl))|refine stpb ?_|refine stpd ?_|fail)
 rw [← hL]
 refine aw_loopA (σ := Nat) [0,3,26,27] [0,1,2,3] (fun k => [(28,iv (k : Int))]) (fun k => []) (fun k => k ≤ L.length ∧ ∀ j,j < k → s.slots[(L[j]!).toNat]!.set = true) (fun k => L.length - k) (0) ⟨Nat.zero_le _,fun j h => absurd h (by omega)⟩ ?_
 rintro k ⟨hk,hall⟩
 by_cases hkn : k < L.length
 ·have hmk := hmem k hkn
  repeat' (first|refine stpb ?_|(refine stp2 ?_ ?_ <;> intro hc hq <;> try (exfalso;omega))|fail)
  ·have hu : unsF ts s x = true := (uns_bits htl).2 ⟨L[k]!, by rw [← hL]; exact getB_mem _ _ hkn, by assumption⟩
   rw [dx_u hu]
   (refine rq_ret rfl ?_; refine mc_ret () trivial ?_ ⟨sE ?_,⟨sE ?_,⟨sE ?_,trivial⟩⟩⟩)
   ·rfl
   ·rfl
   ·rfl
   ·rfl
  ·(refine ex3 (k + 1) (Le.renA [(3, 3)]) ?_ ?_)
   ·refine ⟨by omega, fun j hj => ?_⟩
    rcases Nat.lt_or_ge j k with h|h
    ·exact hall j h
    ·rw [show j = k by omega]; assumption
   ·omega
 ·have hu : unsF ts s x = false := by
   cases q : unsF ts s x with
   | false => rfl
   | true =>
    obtain ⟨v,hv,hs⟩ := (uns_bits htl).1 q
    rw [← hL] at hv
    obtain ⟨j,hj,e⟩ := List.getElem_of_mem hv
    have h1 := hall j (by omega)
    rw [getB _ _ hj,e,hs] at h1;cases h1
  rw [dx_n hu]
  have hml := hm.l
  have hnc := NewCellI_c s.cells hm x.n
  by_cases h2 : s.cells.length = 200
  ·rw [if_neg (by omega)] at hnc
   have hd : doF ts s x = (s,1) := by unfold doF;rw [if_neg (show ¬ x.op = 1 by omega),if_pos ho,if_pos h2]
   rw [hd]
   repeat' (first|(apply id_rw;(apply rx_callE (k := 151);rfl;exact hnc;exact Pur.pf;rfl))|refine stpb ?_|(refine stp2 ?_ ?_ <;> intro hc hq <;> try (exfalso;omega))|refine stpd ?_|fail)
   (refine rq_ret rfl ?_; refine mc_ret () trivial ?_ ⟨sE ?_,⟨sE ?_,⟨sE ?_,trivial⟩⟩⟩)
   ·rfl
   ·rfl
   ·rfl
   ·rfl
  ·rw [if_pos (by omega)] at hnc
   have hp := mputI_c ts bd pts ⟨s.slots,s.cells ++ [nwC x.n],s.read⟩ x.x ⟨true,0,⟨s.cells.length,0⟩⟩ (hm.nw hn (by omega)) hsl hx
   have hd : doF ts s x = putF ts ⟨s.slots,s.cells ++ [nwC x.n],s.read⟩ x.x.toNat ⟨true,0,⟨s.cells.length,0⟩⟩ := by unfold doF;rw [if_neg (show ¬ x.op = 1 by omega),if_pos ho,if_neg h2]
   rw [hd]
   repeat' (first|(apply id_rw;first|(apply rx_callE (k := 151);rfl;exact hnc;exact Pur.pf;rfl)|(apply rx_mputI (ts := ts) (bd := bd) (pts := pts) (s := ⟨s.slots,s.cells ++ [nwC x.n],s.read⟩) (v := x.x) (y := ⟨true,0,⟨s.cells.length,0⟩⟩);rfl;rfl;rfl;rfl;rfl;rfl;rfl;exact hp;rfl;rfl))|refine stpb ?_|(refine stp2 ?_ ?_ <;> intro hc hq <;> try (exfalso;omega))|refine stpd ?_|fail)
   (refine rq_ret rfl ?_; refine mc_ret () trivial ?_ ⟨sE ?_,⟨sE ?_,⟨sE ?_,trivial⟩⟩⟩)
   ·rfl
   ·rfl
   ·rfl
   ·rfl
theorem mdo_3 (ts:List Int) (bd:List AL.Stmt) (pts:List Pnt) (s:Mc) (x:Pnt) (htl:ts.length ≤ 6) (hm:OkM s.cells) (hsl:s.slots.length = ts.length) (ho:x.op = 3) (hx:0 ≤ x.x ∧ x.x < ts.length) (hy:0 ≤ x.y ∧ x.y < ts.length):MC Tryz.prog 106 [.optr 0 0,aPnt x] [(0,some (mO ts bd pts 1 2 s)),(1,some (flat cSl s.slots)),(2,some (flat cI s.read))] 3 (fun _:Unit => True) (fun _ => iv (dxF ts s x).2) (fun _ => [(0,some (mO ts bd pts 1 2 (dxF ts s x).1)),(1,some (flat cSl (dxF ts s x).1.slots)),(2,some (flat cI (dxF ts s x).1.read))]):=by
 have hus := used_c ts bd pts x htl
 have hsm : Sm (wS ts x [1,2,3]) := mkBits_sm (by omega)
 obtain ⟨L,hL⟩ : ∃ L,L = bitsI (wS ts x [1,2,3]) := ⟨_,rfl⟩
 have hLl : L.length ≤ 62 := by rw [hL]; exact bitsI_len _
 have hmem : ∀ k, k < L.length → 0 ≤ L[k]! ∧ L[k]! < s.slots.length := fun k hk => by
  rw [hsl]; exact bits_lt (by rw [← hL]; exact getB_mem _ _ hk)
 refine mc_start Tryz.func106 Tryz.ntmps106 ?_
 repeat' (first|(apply id_rw;first|(apply rx_callE (k := 149);rfl;exact hus;exact Pur.pf;rfl)|(apply rx_callE (k := 148);rfl;(apply bits_c <;> (assumption));(rfl);rfl))|refine stpb ?_|refine stpd ?_|fail)
 rw [← hL]
 refine aw_loopA (σ := Nat) [0,3,26,27] [0,1,2,3] (fun k => [(28,iv (k : Int))]) (fun k => []) (fun k => k ≤ L.length ∧ ∀ j,j < k → s.slots[(L[j]!).toNat]!.set = true) (fun k => L.length - k) (0) ⟨Nat.zero_le _,fun j h => absurd h (by omega)⟩ ?_
 rintro k ⟨hk,hall⟩
 by_cases hkn : k < L.length
 ·have hmk := hmem k hkn
  repeat' (first|refine stpb ?_|(refine stp2 ?_ ?_ <;> intro hc hq <;> try (exfalso;omega))|fail)
  ·have hu : unsF ts s x = true := (uns_bits htl).2 ⟨L[k]!, by rw [← hL]; exact getB_mem _ _ hkn, by assumption⟩
   rw [dx_u hu]
   (refine rq_ret rfl ?_; refine mc_ret () trivial ?_ ⟨sE ?_,⟨sE ?_,⟨sE ?_,trivial⟩⟩⟩)
   ·rfl
   ·rfl
   ·rfl
   ·rfl
  ·(refine ex3 (k + 1) (Le.renA [(3, 3)]) ?_ ?_)
   ·refine ⟨by omega, fun j hj => ?_⟩
    rcases Nat.lt_or_ge j k with h|h
    ·exact hall j h
    ·rw [show j = k by omega]; assumption
   ·omega
 ·have hu : unsF ts s x = false := by
   cases q : unsF ts s x with
   | false => rfl
   | true =>
    obtain ⟨v,hv,hs⟩ := (uns_bits htl).1 q
    rw [← hL] at hv
    obtain ⟨j,hj,e⟩ := List.getElem_of_mem hv
    have h1 := hall j (by omega)
    rw [getB _ _ hj,e,hs] at h1;cases h1
  rw [dx_n hu]
  have hd : doF ts s x = putF ts (if tkT ts[x.y.toNat]! = true then ⟨s.slots.set x.y.toNat sl0,s.cells,s.read⟩ else s) x.x.toNat s.slots[x.y.toNat]! := by unfold doF;rw [if_neg (show ¬ x.op = 1 by omega),if_neg (show ¬ x.op = 2 by omega),if_pos ho]
  rw [hd]
  have htk := takes_c ts bd pts x.y hy
  by_cases hk : tkT ts[x.y.toNat]! = true
  ·rw [hk] at htk
   rw [if_pos hk]
   have hp := mputI_c ts bd pts ⟨s.slots.set x.y.toNat sl0,s.cells,s.read⟩ x.x s.slots[x.y.toNat]! hm (by show (s.slots.set _ _).length = _; rw [List.length_set]; exact hsl) hx
   repeat' (first|(apply id_rw;first|(apply rx_callE (k := 152);rfl;exact htk;exact Pur.pf;rfl)|(apply rx_mputI (ts := ts) (bd := bd) (pts := pts) (s := ⟨s.slots.set x.y.toNat sl0,s.cells,s.read⟩) (v := x.x) (y := s.slots[x.y.toNat]!);rfl;rfl;rfl;rfl;rfl;rfl;rfl;exact hp;rfl;rfl)|(apply rx_store;rfl;rfl;rfl;rfl;rfl;(case hl => (first|(rw [flat_length]; simp only [lns] <;> omega)|(simp;done)));(exact st_sl (by (omega)))))|refine stpb ?_|(refine stp2 ?_ ?_ <;> intro hc hq <;> try (exfalso;omega))|refine stpd ?_|fail)
   (refine rq_ret rfl ?_; refine mc_ret () trivial ?_ ⟨sE ?_,⟨sE ?_,⟨sE ?_,trivial⟩⟩⟩)
   ·rfl
   ·rfl
   ·rfl
   ·rfl
  ·have hk2 : tkT ts[x.y.toNat]! = false := by simpa using hk
   rw [hk2] at htk
   rw [if_neg hk]
   have hp := mputI_c ts bd pts s x.x s.slots[x.y.toNat]! hm hsl hx
   repeat' (first|(apply id_rw;first|(apply rx_callE (k := 152);rfl;exact htk;exact Pur.pf;rfl)|(apply rx_mputI (ts := ts) (bd := bd) (pts := pts) (s := s) (v := x.x) (y := s.slots[x.y.toNat]!);rfl;rfl;rfl;rfl;rfl;rfl;rfl;exact hp;rfl;rfl))|refine stpb ?_|(refine stp2 ?_ ?_ <;> intro hc hq <;> try (exfalso;omega))|refine stpd ?_|fail)
   (refine rq_ret rfl ?_; refine mc_ret () trivial ?_ ⟨sE ?_,⟨sE ?_,⟨sE ?_,trivial⟩⟩⟩)
   ·rfl
   ·rfl
   ·rfl
   ·rfl
theorem mdo_45 (ts:List Int) (bd:List AL.Stmt) (pts:List Pnt) (s:Mc) (x:Pnt) (htl:ts.length ≤ 6) (hm:OkM s.cells) (hsl:s.slots.length = ts.length) (ho:x.op = 4 ∨ x.op = 5) (hx:0 ≤ x.x ∧ x.x < ts.length) (hy:0 ≤ x.y ∧ x.y < ts.length):MC Tryz.prog 106 [.optr 0 0,aPnt x] [(0,some (mO ts bd pts 1 2 s)),(1,some (flat cSl s.slots)),(2,some (flat cI s.read))] 3 (fun _:Unit => True) (fun _ => iv (dxF ts s x).2) (fun _ => [(0,some (mO ts bd pts 1 2 (dxF ts s x).1)),(1,some (flat cSl (dxF ts s x).1.slots)),(2,some (flat cI (dxF ts s x).1.read))]):=by
 have hus := used_c ts bd pts x htl
 have hsm : Sm (wS ts x [1,2,3]) := mkBits_sm (by omega)
 obtain ⟨L,hL⟩ : ∃ L,L = bitsI (wS ts x [1,2,3]) := ⟨_,rfl⟩
 have hLl : L.length ≤ 62 := by rw [hL]; exact bitsI_len _
 have hmem : ∀ k, k < L.length → 0 ≤ L[k]! ∧ L[k]! < s.slots.length := fun k hk => by
  rw [hsl]; exact bits_lt (by rw [← hL]; exact getB_mem _ _ hk)
 refine mc_start Tryz.func106 Tryz.ntmps106 ?_
 repeat' (first|(apply id_rw;first|(apply rx_callE (k := 149);rfl;exact hus;exact Pur.pf;rfl)|(apply rx_callE (k := 148);rfl;(apply bits_c <;> (assumption));(rfl);rfl))|refine stpb ?_|refine stpd ?_|fail)
 rw [← hL]
 refine aw_loopA (σ := Nat) [0,3,26,27] [0,1,2,3] (fun k => [(28,iv (k : Int))]) (fun k => []) (fun k => k ≤ L.length ∧ ∀ j,j < k → s.slots[(L[j]!).toNat]!.set = true) (fun k => L.length - k) (0) ⟨Nat.zero_le _,fun j h => absurd h (by omega)⟩ ?_
 rintro k ⟨hk,hall⟩
 by_cases hkn : k < L.length
 ·have hmk := hmem k hkn
  repeat' (first|refine stpb ?_|(refine stp2 ?_ ?_ <;> intro hc hq <;> try (exfalso;omega))|fail)
  ·have hu : unsF ts s x = true := (uns_bits htl).2 ⟨L[k]!, by rw [← hL]; exact getB_mem _ _ hkn, by assumption⟩
   rw [dx_u hu]
   (refine rq_ret rfl ?_; refine mc_ret () trivial ?_ ⟨sE ?_,⟨sE ?_,⟨sE ?_,trivial⟩⟩⟩)
   ·rfl
   ·rfl
   ·rfl
   ·rfl
  ·(refine ex3 (k + 1) (Le.renA [(3, 3)]) ?_ ?_)
   ·refine ⟨by omega, fun j hj => ?_⟩
    rcases Nat.lt_or_ge j k with h|h
    ·exact hall j h
    ·rw [show j = k by omega]; assumption
   ·omega
 ·have hu : unsF ts s x = false := by
   cases q : unsF ts s x with
   | false => rfl
   | true =>
    obtain ⟨v,hv,hs⟩ := (uns_bits htl).1 q
    rw [← hL] at hv
    obtain ⟨j,hj,e⟩ := List.getElem_of_mem hv
    have h1 := hall j (by omega)
    rw [getB _ _ hj,e,hs] at h1;cases h1
  rw [dx_n hu]
  have hle := lentI_c s.cells hm s.slots[x.y.toNat]!.ptr (decide (x.op = 5))
  by_cases hk : lnK s.cells s.slots[x.y.toNat]!.ptr (decide (x.op = 5)) = 0
  ·have hp := mputI_c ts bd pts ⟨s.slots, lnM s.cells s.slots[x.y.toNat]!.ptr (decide (x.op = 5)), s.read⟩ x.x ⟨true, 0, lnP s.cells s.slots[x.y.toNat]!.ptr (decide (x.op = 5))⟩ (hm.ln _ _) hsl hx
   have hd : doF ts s x = putF ts ⟨s.slots,lnM s.cells s.slots[x.y.toNat]!.ptr (decide (x.op = 5)),s.read⟩ x.x.toNat ⟨true,0,lnP s.cells s.slots[x.y.toNat]!.ptr (decide (x.op = 5))⟩ := by unfold doF;rw [if_neg (show ¬ x.op = 1 by omega),if_neg (show ¬ x.op = 2 by omega),if_neg (show ¬ x.op = 3 by omega),if_pos ho,if_pos hk]
   rw [hd]
   rw [hk] at hle
   repeat' (first|(apply id_rw;first|(apply rx_loadFP;(case hx|hH => rfl);(case hf|hg|hα => infer_instance);(case hk => omega);(case hj => decide);(case hc => exact (rfl:_=[_,_]));(case h0|hN => rfl))|(apply rx_callE (k := 153);rfl;exact hle;exact Pur.pf;rfl)|(apply rx_mputI (ts := ts) (bd := bd) (pts := pts) (s := ⟨s.slots,lnM s.cells s.slots[x.y.toNat]!.ptr (decide (x.op = 5)),s.read⟩) (v := x.x) (y := ⟨true,0,lnP s.cells s.slots[x.y.toNat]!.ptr (decide (x.op = 5))⟩);(case ha0|ha1|ha2|hH0|hH1|hH2|hdd => rfl);(case hmc => exact hp);(case hM|hN => rfl)))|refine stpb ?_|(refine stp2 ?_ ?_ <;> intro hc hq <;> try (exfalso;omega))|refine stpd ?_|fail)
   all_goals (
    (refine rq_ret rfl ?_; refine mc_ret () trivial ?_ ⟨sE ?_,⟨sE ?_,⟨sE ?_,trivial⟩⟩⟩)
    ·rfl
    ·rfl
    ·rfl
    ·rfl)
  ·have hd : doF ts s x = (s, endK (lnK s.cells s.slots[x.y.toNat]!.ptr (decide (x.op = 5)))) := by unfold doF; rw [if_neg (show ¬ x.op = 1 by omega), if_neg (show ¬ x.op = 2 by omega), if_neg (show ¬ x.op = 3 by omega), if_pos ho, if_neg hk]
   rw [hd]
   repeat' (first|(apply id_rw;first|(apply rx_loadFP;(case hx|hH => rfl);(case hf|hg|hα => infer_instance);(case hk => omega);(case hj => decide);(case hc => exact (rfl:_=[_,_]));(case h0|hN => rfl))|(apply rx_callE (k := 153);rfl;exact hle;exact Pur.pf;rfl)|(apply rx_callE (k := 154);rfl;(apply endOf_c);(rfl);rfl))|refine stpb ?_|(refine stp2 ?_ ?_ <;> intro hc hq <;> try (exfalso;omega))|refine stpd ?_|fail)
   all_goals (
    (refine rq_ret rfl ?_; refine mc_ret () trivial ?_ ⟨sE ?_,⟨sE ?_,⟨sE ?_,trivial⟩⟩⟩)
    ·rfl
    ·rfl
    ·rfl
    ·rfl)
theorem mdo_6 (ts:List Int) (bd:List AL.Stmt) (pts:List Pnt) (s:Mc) (x:Pnt) (htl:ts.length ≤ 6) (hm:OkM s.cells) (hsl:s.slots.length = ts.length) (ho:x.op = 6) (hrl:s.read.length ≤ 1000) (hx:0 ≤ x.x ∧ x.x < ts.length) (hy:0 ≤ x.y ∧ x.y < ts.length) (hz:¬ tchK s.cells s.slots[x.y.toNat]!.ptr false = 0):MC Tryz.prog 106 [.optr 0 0,aPnt x] [(0,some (mO ts bd pts 1 2 s)),(1,some (flat cSl s.slots)),(2,some (flat cI s.read))] 3 (fun _:Unit => True) (fun _ => iv (dxF ts s x).2) (fun _ => [(0,some (mO ts bd pts 1 2 (dxF ts s x).1)),(1,some (flat cSl (dxF ts s x).1.slots)),(2,some (flat cI (dxF ts s x).1.read))]):=by
 have hus := used_c ts bd pts x htl
 have hsm : Sm (wS ts x [1,2,3]) := mkBits_sm (by omega)
 obtain ⟨L,hL⟩ : ∃ L,L = bitsI (wS ts x [1,2,3]) := ⟨_,rfl⟩
 have hLl : L.length ≤ 62 := by rw [hL]; exact bitsI_len _
 have hmem : ∀ k, k < L.length → 0 ≤ L[k]! ∧ L[k]! < s.slots.length := fun k hk => by
  rw [hsl]; exact bits_lt (by rw [← hL]; exact getB_mem _ _ hk)
 refine mc_start Tryz.func106 Tryz.ntmps106 ?_
 repeat' (first|(apply id_rw;first|(apply rx_callE (k := 149);rfl;exact hus;exact Pur.pf;rfl)|(apply rx_callE (k := 148);rfl;(apply bits_c <;> (assumption));(rfl);rfl))|refine stpb ?_|refine stpd ?_|fail)
 rw [← hL]
 refine aw_loopA (σ := Nat) [0,3,26,27] [0,1,2,3] (fun k => [(28,iv (k : Int))]) (fun k => []) (fun k => k ≤ L.length ∧ ∀ j,j < k → s.slots[(L[j]!).toNat]!.set = true) (fun k => L.length - k) (0) ⟨Nat.zero_le _,fun j h => absurd h (by omega)⟩ ?_
 rintro k ⟨hk,hall⟩
 by_cases hkn : k < L.length
 ·have hmk := hmem k hkn
  repeat' (first|refine stpb ?_|(refine stp2 ?_ ?_ <;> intro hc hq <;> try (exfalso;omega))|fail)
  ·have hu : unsF ts s x = true := (uns_bits htl).2 ⟨L[k]!, by rw [← hL]; exact getB_mem _ _ hkn, by assumption⟩
   rw [dx_u hu]
   (refine rq_ret rfl ?_; refine mc_ret () trivial ?_ ⟨sE ?_,⟨sE ?_,⟨sE ?_,trivial⟩⟩⟩)
   ·rfl
   ·rfl
   ·rfl
   ·rfl
  ·(refine ex3 (k + 1) (Le.renA [(3, 3)]) ?_ ?_)
   ·refine ⟨by omega, fun j hj => ?_⟩
    rcases Nat.lt_or_ge j k with h|h
    ·exact hall j h
    ·rw [show j = k by omega]; assumption
   ·omega
 ·have hu : unsF ts s x = false := by
   cases q : unsF ts s x with
   | false => rfl
   | true =>
    obtain ⟨v,hv,hs⟩ := (uns_bits htl).1 q
    rw [← hL] at hv
    obtain ⟨j,hj,e⟩ := List.getElem_of_mem hv
    have h1 := hall j (by omega)
    rw [getB _ _ hj,e,hs] at h1;cases h1
  rw [dx_n hu]
  have hrc := ReadCellI_c s.cells hm s.slots[x.y.toNat]!.ptr
  have hd : doF ts s x = (s,endK (tchK s.cells s.slots[x.y.toNat]!.ptr false)) := by unfold doF;rw [if_neg (show ¬ x.op = 1 by omega),if_neg (show ¬ x.op = 2 by omega),if_neg (show ¬ x.op = 3 by omega),if_neg (show ¬ (x.op = 4 ∨ x.op = 5) by omega),if_pos ho,if_neg hz]
  rw [hd]
  repeat' (first|(apply id_rw;first|(apply rx_loadFP;(case hx|hH => rfl);(case hf|hg|hα => infer_instance);(case hk => omega);(case hj => decide);(case hc => exact (rfl:_=[_,_]));(case h0|hN => rfl))|(apply rx_callE (k := 155);rfl;exact hrc;exact Pur.pf;rfl)|(apply rx_callE (k := 154);rfl;(apply endOf_c);(rfl);rfl))|refine stpb ?_|(refine stp2 ?_ ?_ <;> intro hc hq <;> try (exfalso;omega))|refine stpd ?_|fail)
  (refine rq_ret rfl ?_; refine mc_ret () trivial ?_ ⟨sE ?_,⟨sE ?_,⟨sE ?_,trivial⟩⟩⟩)
  ·rfl
  ·rfl
  ·rfl
  ·rfl
theorem mdo_7 (ts:List Int) (bd:List AL.Stmt) (pts:List Pnt) (s:Mc) (x:Pnt) (htl:ts.length ≤ 6) (hm:OkM s.cells) (hsl:s.slots.length = ts.length) (ho:x.op = 7) (hx:0 ≤ x.x ∧ x.x < ts.length) (hy:0 ≤ x.y ∧ x.y < ts.length):MC Tryz.prog 106 [.optr 0 0,aPnt x] [(0,some (mO ts bd pts 1 2 s)),(1,some (flat cSl s.slots)),(2,some (flat cI s.read))] 3 (fun _:Unit => True) (fun _ => iv (dxF ts s x).2) (fun _ => [(0,some (mO ts bd pts 1 2 (dxF ts s x).1)),(1,some (flat cSl (dxF ts s x).1.slots)),(2,some (flat cI (dxF ts s x).1.read))]):=by
 have hus := used_c ts bd pts x htl
 have hsm : Sm (wS ts x [1,2,3]) := mkBits_sm (by omega)
 obtain ⟨L,hL⟩ : ∃ L,L = bitsI (wS ts x [1,2,3]) := ⟨_,rfl⟩
 have hLl : L.length ≤ 62 := by rw [hL]; exact bitsI_len _
 have hmem : ∀ k, k < L.length → 0 ≤ L[k]! ∧ L[k]! < s.slots.length := fun k hk => by
  rw [hsl]; exact bits_lt (by rw [← hL]; exact getB_mem _ _ hk)
 refine mc_start Tryz.func106 Tryz.ntmps106 ?_
 repeat' (first|(apply id_rw;first|(apply rx_callE (k := 149);rfl;exact hus;exact Pur.pf;rfl)|(apply rx_callE (k := 148);rfl;(apply bits_c <;> (assumption));(rfl);rfl))|refine stpb ?_|refine stpd ?_|fail)
 rw [← hL]
 refine aw_loopA (σ := Nat) [0,3,26,27] [0,1,2,3] (fun k => [(28,iv (k : Int))]) (fun k => []) (fun k => k ≤ L.length ∧ ∀ j,j < k → s.slots[(L[j]!).toNat]!.set = true) (fun k => L.length - k) (0) ⟨Nat.zero_le _,fun j h => absurd h (by omega)⟩ ?_
 rintro k ⟨hk,hall⟩
 by_cases hkn : k < L.length
 ·have hmk := hmem k hkn
  repeat' (first|refine stpb ?_|(refine stp2 ?_ ?_ <;> intro hc hq <;> try (exfalso;omega))|fail)
  ·have hu : unsF ts s x = true := (uns_bits htl).2 ⟨L[k]!, by rw [← hL]; exact getB_mem _ _ hkn, by assumption⟩
   rw [dx_u hu]
   (refine rq_ret rfl ?_; refine mc_ret () trivial ?_ ⟨sE ?_,⟨sE ?_,⟨sE ?_,trivial⟩⟩⟩)
   ·rfl
   ·rfl
   ·rfl
   ·rfl
  ·(refine ex3 (k + 1) (Le.renA [(3, 3)]) ?_ ?_)
   ·refine ⟨by omega, fun j hj => ?_⟩
    rcases Nat.lt_or_ge j k with h|h
    ·exact hall j h
    ·rw [show j = k by omega]; assumption
   ·omega
 ·have hu : unsF ts s x = false := by
   cases q : unsF ts s x with
   | false => rfl
   | true =>
    obtain ⟨v,hv,hs⟩ := (uns_bits htl).1 q
    rw [← hL] at hv
    obtain ⟨j,hj,e⟩ := List.getElem_of_mem hv
    have h1 := hall j (by omega)
    rw [getB _ _ hj,e,hs] at h1;cases h1
  rw [dx_n hu]
  have hwr := WriteCellI_c s.cells hm s.slots[x.x.toNat]!.ptr s.slots[x.y.toNat]!.num
  have hd : doF ts s x = (⟨s.slots,wrM s.cells s.slots[x.x.toNat]!.ptr s.slots[x.y.toNat]!.num,s.read⟩,goK (wrK s.cells s.slots[x.x.toNat]!.ptr s.slots[x.y.toNat]!.num)) := by unfold doF;rw [if_neg (show ¬ x.op = 1 by omega),if_neg (show ¬ x.op = 2 by omega),if_neg (show ¬ x.op = 3 by omega),if_neg (show ¬ (x.op = 4 ∨ x.op = 5) by omega),if_neg (show ¬ x.op = 6 by omega),if_pos ho]
  rw [hd]
  repeat' (first|(apply id_rw;first|(apply rx_loadFP;(case hx|hH => rfl);(case hf|hg|hα => infer_instance);(case hk => omega);(case hj => decide);(case hc => exact (rfl:_=[_,_]));(case h0|hN => rfl))|(apply rx_callE (k := 156);rfl;exact hwr;exact Pur.pf;rfl)|(apply rx_callE (k := 154);rfl;(apply endOf_c);(rfl);rfl))|refine stpb ?_|(refine stp2 ?_ ?_ <;> intro hc hq <;> try (exfalso;omega))|refine stpd ?_|fail)
  ·have hk : ¬ wrK s.cells s.slots[x.x.toNat]!.ptr s.slots[x.y.toNat]!.num = 0 := by assumption
   (refine rq_ret rfl ?_; refine mc_ret () trivial ?_ ⟨sE ?_,⟨sE ?_,⟨sE ?_,trivial⟩⟩⟩)
   ·show iv (endK _) = iv (goK _)
    unfold goK;rw [if_neg hk]
   ·rfl
   ·rfl
   ·rfl
  ·have hk : wrK s.cells s.slots[x.x.toNat]!.ptr s.slots[x.y.toNat]!.num = 0 := by assumption
   (refine rq_ret rfl ?_; refine mc_ret () trivial ?_ ⟨sE ?_,⟨sE ?_,⟨sE ?_,trivial⟩⟩⟩)
   ·rw [hk]; rfl
   ·rfl
   ·rfl
   ·rfl
theorem mdo_8 (ts:List Int) (bd:List AL.Stmt) (pts:List Pnt) (s:Mc) (x:Pnt) (htl:ts.length ≤ 6) (hm:OkM s.cells) (hsl:s.slots.length = ts.length) (ho:x.op = 8) (hx:0 ≤ x.x ∧ x.x < ts.length):MC Tryz.prog 106 [.optr 0 0,aPnt x] [(0,some (mO ts bd pts 1 2 s)),(1,some (flat cSl s.slots)),(2,some (flat cI s.read))] 3 (fun _:Unit => True) (fun _ => iv (dxF ts s x).2) (fun _ => [(0,some (mO ts bd pts 1 2 (dxF ts s x).1)),(1,some (flat cSl (dxF ts s x).1.slots)),(2,some (flat cI (dxF ts s x).1.read))]):=by
 have hus := used_c ts bd pts x htl
 have hsm : Sm (wS ts x [1,2,3]) := mkBits_sm (by omega)
 obtain ⟨L,hL⟩ : ∃ L,L = bitsI (wS ts x [1,2,3]) := ⟨_,rfl⟩
 have hLl : L.length ≤ 62 := by rw [hL]; exact bitsI_len _
 have hmem : ∀ k, k < L.length → 0 ≤ L[k]! ∧ L[k]! < s.slots.length := fun k hk => by
  rw [hsl]; exact bits_lt (by rw [← hL]; exact getB_mem _ _ hk)
 refine mc_start Tryz.func106 Tryz.ntmps106 ?_
 repeat' (first|(apply id_rw;first|(apply rx_callE (k := 149);rfl;exact hus;exact Pur.pf;rfl)|(apply rx_callE (k := 148);rfl;(apply bits_c <;> (assumption));(rfl);rfl))|refine stpb ?_|refine stpd ?_|fail)
 rw [← hL]
 refine aw_loopA (σ := Nat) [0,3,26,27] [0,1,2,3] (fun k => [(28,iv (k : Int))]) (fun k => []) (fun k => k ≤ L.length ∧ ∀ j,j < k → s.slots[(L[j]!).toNat]!.set = true) (fun k => L.length - k) (0) ⟨Nat.zero_le _,fun j h => absurd h (by omega)⟩ ?_
 rintro k ⟨hk,hall⟩
 by_cases hkn : k < L.length
 ·have hmk := hmem k hkn
  repeat' (first|refine stpb ?_|(refine stp2 ?_ ?_ <;> intro hc hq <;> try (exfalso;omega))|fail)
  ·have hu : unsF ts s x = true := (uns_bits htl).2 ⟨L[k]!, by rw [← hL]; exact getB_mem _ _ hkn, by assumption⟩
   rw [dx_u hu]
   (refine rq_ret rfl ?_; refine mc_ret () trivial ?_ ⟨sE ?_,⟨sE ?_,⟨sE ?_,trivial⟩⟩⟩)
   ·rfl
   ·rfl
   ·rfl
   ·rfl
  ·(refine ex3 (k + 1) (Le.renA [(3, 3)]) ?_ ?_)
   ·refine ⟨by omega, fun j hj => ?_⟩
    rcases Nat.lt_or_ge j k with h|h
    ·exact hall j h
    ·rw [show j = k by omega]; assumption
   ·omega
 ·have hu : unsF ts s x = false := by
   cases q : unsF ts s x with
   | false => rfl
   | true =>
    obtain ⟨v,hv,hs⟩ := (uns_bits htl).1 q
    rw [← hL] at hv
    obtain ⟨j,hj,e⟩ := List.getElem_of_mem hv
    have h1 := hall j (by omega)
    rw [getB _ _ hj,e,hs] at h1;cases h1
  rw [dx_n hu]
  have hfr := mfreeI_c ts bd pts s x.x hm hsl hx
  have hd : doF ts s x = (⟨s.slots.set x.x.toNat sl0,frM s.cells s.slots[x.x.toNat]!.ptr,s.read⟩,goK (tchK s.cells s.slots[x.x.toNat]!.ptr true)) := by unfold doF;rw [if_neg (show ¬ x.op = 1 by omega),if_neg (show ¬ x.op = 2 by omega),if_neg (show ¬ x.op = 3 by omega),if_neg (show ¬ (x.op = 4 ∨ x.op = 5) by omega),if_neg (show ¬ x.op = 6 by omega),if_neg (show ¬ x.op = 7 by omega),if_pos ho]
  rw [hd]
  repeat' (first|(apply id_rw;first|(apply rx_mfreeI (ts := ts) (bd := bd) (pts := pts) (s := s) (v := x.x);rfl;rfl;rfl;rfl;rfl;rfl;exact hfr;rfl;rfl)|(apply rx_store;rfl;rfl;rfl;rfl;rfl;(rw [flat_length]; simp only [lns] <;> omega);(exact st_sl (by (omega)))))|refine stpb ?_|(refine stp2 ?_ ?_ <;> intro hc hq <;> try (exfalso;omega))|refine stpd ?_|fail)
  (refine rq_ret rfl ?_; refine mc_ret () trivial ?_ ⟨sE ?_,⟨sE ?_,⟨sE ?_,trivial⟩⟩⟩)
  ·rfl
  ·rfl
  ·rfl
  ·rfl
theorem mdo_9 (ts:List Int) (bd:List AL.Stmt) (pts:List Pnt) (s:Mc) (x:Pnt) (htl:ts.length ≤ 6) (hm:OkM s.cells) (hsl:s.slots.length = ts.length) (ho:x.op = 9 ∨ x.op = 10 ∨ x.op = 11):MC Tryz.prog 106 [.optr 0 0,aPnt x] [(0,some (mO ts bd pts 1 2 s)),(1,some (flat cSl s.slots)),(2,some (flat cI s.read))] 3 (fun _:Unit => True) (fun _ => iv (dxF ts s x).2) (fun _ => [(0,some (mO ts bd pts 1 2 (dxF ts s x).1)),(1,some (flat cSl (dxF ts s x).1.slots)),(2,some (flat cI (dxF ts s x).1.read))]):=by
 have hus := used_c ts bd pts x htl
 have hsm : Sm (wS ts x [1,2,3]) := mkBits_sm (by omega)
 obtain ⟨L,hL⟩ : ∃ L,L = bitsI (wS ts x [1,2,3]) := ⟨_,rfl⟩
 have hLl : L.length ≤ 62 := by rw [hL]; exact bitsI_len _
 have hmem : ∀ k, k < L.length → 0 ≤ L[k]! ∧ L[k]! < s.slots.length := fun k hk => by
  rw [hsl]; exact bits_lt (by rw [← hL]; exact getB_mem _ _ hk)
 refine mc_start Tryz.func106 Tryz.ntmps106 ?_
 repeat' (first|(apply id_rw;first|(apply rx_callE (k := 149);rfl;exact hus;exact Pur.pf;rfl)|(apply rx_callE (k := 148);rfl;(apply bits_c <;> (assumption));(rfl);rfl))|refine stpb ?_|refine stpd ?_|fail)
 rw [← hL]
 refine aw_loopA (σ := Nat) [0,3,26,27] [0,1,2,3] (fun k => [(28,iv (k : Int))]) (fun k => []) (fun k => k ≤ L.length ∧ ∀ j,j < k → s.slots[(L[j]!).toNat]!.set = true) (fun k => L.length - k) (0) ⟨Nat.zero_le _,fun j h => absurd h (by omega)⟩ ?_
 rintro k ⟨hk,hall⟩
 by_cases hkn : k < L.length
 ·have hmk := hmem k hkn
  repeat' (first|refine stpb ?_|(refine stp2 ?_ ?_ <;> intro hc hq <;> try (exfalso;omega))|fail)
  ·have hu : unsF ts s x = true := (uns_bits htl).2 ⟨L[k]!, by rw [← hL]; exact getB_mem _ _ hkn, by assumption⟩
   rw [dx_u hu]
   (refine rq_ret rfl ?_; refine mc_ret () trivial ?_ ⟨sE ?_,⟨sE ?_,⟨sE ?_,trivial⟩⟩⟩)
   ·rfl
   ·rfl
   ·rfl
   ·rfl
  ·(refine ex3 (k + 1) (Le.renA [(3, 3)]) ?_ ?_)
   ·refine ⟨by omega, fun j hj => ?_⟩
    rcases Nat.lt_or_ge j k with h|h
    ·exact hall j h
    ·rw [show j = k by omega]; assumption
   ·omega
 ·have hu : unsF ts s x = false := by
   cases q : unsF ts s x with
   | false => rfl
   | true =>
    obtain ⟨v,hv,hs⟩ := (uns_bits htl).1 q
    rw [← hL] at hv
    obtain ⟨j,hj,e⟩ := List.getElem_of_mem hv
    have h1 := hall j (by omega)
    rw [getB _ _ hj,e,hs] at h1;cases h1
  rw [dx_n hu]
  by_cases h11 : x.op = 11
  ·have hd : doF ts s x = finF ts ts.length 0 s := do_11 h11
   rw [hd]
   have hfi := mfin_c ts bd pts s hm hsl (by omega)
   repeat' (first|(apply id_rw;(apply rx_mfin (ts := ts) (bd := bd) (pts := pts) (s := s);rfl;rfl;rfl;rfl;rfl;exact hfi;rfl;rfl))|refine stpb ?_|(refine stp2 ?_ ?_ <;> intro hc hq <;> try (exfalso;omega))|fail)
   (refine rq_ret rfl ?_; refine mc_ret () trivial ?_ ⟨sE ?_,⟨sE ?_,⟨sE ?_,trivial⟩⟩⟩)
   ·rfl
   ·rfl
   ·rfl
   ·rfl
  ·have hd : doF ts s x = (s, -1) := by unfold doF; rw [if_neg (show ¬ x.op = 1 by omega), if_neg (show ¬ x.op = 2 by omega), if_neg (show ¬ x.op = 3 by omega), if_neg (show ¬ (x.op = 4 ∨ x.op = 5) by omega), if_neg (show ¬ x.op = 6 by omega), if_neg (show ¬ x.op = 7 by omega), if_neg (show ¬ x.op = 8 by omega), if_neg (show ¬ x.op = 11 by omega)]
   rw [hd]
   repeat' (first|refine stpb ?_|(refine stp2 ?_ ?_ <;> intro hc hq <;> try (exfalso;omega))|fail)
   (refine rq_ret rfl ?_; refine mc_ret () trivial ?_ ⟨sE ?_,⟨sE ?_,⟨sE ?_,trivial⟩⟩⟩)
   ·rfl
   ·rfl
   ·rfl
   ·rfl
theorem mdo6_c (ts:List Int) (bd:List AL.Stmt) (pts:List Pnt) (s:Mc) (x:Pnt) (htl:ts.length ≤ 6) (hm:OkM s.cells) (hsl:s.slots.length = ts.length) (ho:x.op = 6) (hrl:s.read.length ≤ 1000) (hx:0 ≤ x.x ∧ x.x < ts.length) (hy:0 ≤ x.y ∧ x.y < ts.length) (hz:tchK s.cells s.slots[x.y.toNat]!.ptr false = 0) (hun:unsF ts s x = false):MC Tryz.prog 106 [.optr 0 0,aPnt x] [(0,some (mO ts bd pts 1 2 s)),(1,some (flat cSl s.slots)),(2,some (flat cI s.read))] 3 (fun _:Unit => True) (fun _ => iv (dxF ts s x).2) (fun _ => [(0,some (mO ts bd pts 1 5 (dxF ts s x).1)),(1,some (flat cSl (dxF ts s x).1.slots)),(5,some (flat cI (dxF ts s x).1.read))]):=by
 have hus := used_c ts bd pts x htl
 have hsm : Sm (wS ts x [1,2,3]) := mkBits_sm (by omega)
 obtain ⟨L,hL⟩ : ∃ L,L = bitsI (wS ts x [1,2,3]) := ⟨_,rfl⟩
 have hLl : L.length ≤ 62 := by rw [hL]; exact bitsI_len _
 have hmem : ∀ k, k < L.length → 0 ≤ L[k]! ∧ L[k]! < s.slots.length := fun k hk => by
  rw [hsl]; exact bits_lt (by rw [← hL]; exact getB_mem _ _ hk)
 refine mc_start Tryz.func106 Tryz.ntmps106 ?_
 repeat' (first|(apply id_rw;first|(apply rx_callE (k := 149);rfl;exact hus;exact Pur.pf;rfl)|(apply rx_callE (k := 148);rfl;(apply bits_c <;> (assumption));(rfl);rfl))|refine stpb ?_|refine stpd ?_|fail)
 rw [← hL]
 refine aw_loopA (σ := Nat) [0,3,26,27] [0,1,2,3] (fun k => [(28,iv (k : Int))]) (fun k => []) (fun k => k ≤ L.length ∧ ∀ j,j < k → s.slots[(L[j]!).toNat]!.set = true) (fun k => L.length - k) (0) ⟨Nat.zero_le _,fun j h => absurd h (by omega)⟩ ?_
 rintro k ⟨hk,hall⟩
 by_cases hkn : k < L.length
 ·have hmk := hmem k hkn
  repeat' (first|refine stpb ?_|(refine stp2 ?_ ?_ <;> intro hc hq <;> try (exfalso;omega))|fail)
  ·exfalso
   have hu : unsF ts s x = true := (uns_bits htl).2 ⟨L[k]!,by rw [← hL]; exact getB_mem _ _ hkn,by assumption⟩
   rw [hun] at hu;cases hu
  ·(refine ex3 (k + 1) (Le.renA [(3, 3)]) ?_ ?_)
   ·refine ⟨by omega, fun j hj => ?_⟩
    rcases Nat.lt_or_ge j k with h|h
    ·exact hall j h
    ·rw [show j = k by omega]; assumption
   ·omega
 ·have hu : unsF ts s x = false := by
   cases q : unsF ts s x with
   | false => rfl
   | true =>
    obtain ⟨v,hv,hs⟩ := (uns_bits htl).1 q
    rw [← hL] at hv
    obtain ⟨j,hj,e⟩ := List.getElem_of_mem hv
    have h1 := hall j (by omega)
    rw [getB _ _ hj,e,hs] at h1;cases h1
  rw [dx_n hu]
  have hrc := ReadCellI_c s.cells hm s.slots[x.y.toNat]!.ptr
  have hp := mputI_c ts bd pts ⟨s.slots,tchM s.cells s.slots[x.y.toNat]!.ptr false,s.read ++ [rdN s.cells s.slots[x.y.toNat]!.ptr]⟩ x.x ⟨true,rdN s.cells s.slots[x.y.toNat]!.ptr,⟨0,0⟩⟩ (hm.tch _ _) hsl hx
  have hd : doF ts s x = putF ts ⟨s.slots,tchM s.cells s.slots[x.y.toNat]!.ptr false,s.read ++ [rdN s.cells s.slots[x.y.toNat]!.ptr]⟩ x.x.toNat ⟨true,rdN s.cells s.slots[x.y.toNat]!.ptr,⟨0,0⟩⟩ := by unfold doF;rw [if_neg (show ¬ x.op = 1 by omega),if_neg (show ¬ x.op = 2 by omega),if_neg (show ¬ x.op = 3 by omega),if_neg (show ¬ (x.op = 4 ∨ x.op = 5) by omega),if_pos ho,if_pos hz]
  rw [hd]
  rw [hz] at hrc
  repeat' (first|(apply id_rw;first|(apply rx_loadFP;(case hx|hH => rfl);(case hf|hg|hα => infer_instance);(case hk => omega);(case hj => decide);(case hc => exact (rfl:_=[_,_]));(case h0|hN => rfl))|(apply rx_callE (k := 155);rfl;exact hrc;exact Pur.pf;rfl)|(with_reducible apply rw_stop (d := 184))|(apply rx_buildSliceI (t := _);rfl;rfl;rfl;exact (rfl:_=some [_]);rfl;rfl))|refine stpb ?_|(refine stp2 ?_ ?_ <;> intro hc hq <;> try (exfalso;omega))|refine stpd ?_|fail)
  refine rw_go ?_
  rw [show s.read.length + 1 = (s.read ++ [rdN s.cells s.slots[x.y.toNat]!.ptr]).length from by rw [List.length_append]; rfl]
  repeat' (first|(apply id_rw;(apply rx_mputI (ts := ts) (bd := bd) (pts := pts) (s := ⟨s.slots,tchM s.cells s.slots[x.y.toNat]!.ptr false,s.read ++ [rdN s.cells s.slots[x.y.toNat]!.ptr]⟩) (v := x.x) (y := ⟨true,rdN s.cells s.slots[x.y.toNat]!.ptr,⟨0,0⟩⟩);rfl;rfl;rfl;rfl;rfl;rfl;rfl;exact hp;rfl;rfl))|refine stpb ?_|fail)
  (refine rq_ret rfl ?_; refine mc_ret () trivial ?_ ⟨sE ?_,⟨sE ?_,⟨sE ?_,trivial⟩⟩⟩)
  ·rfl
  ·rfl
  ·rfl
  ·rfl
theorem mdo_u (ts:List Int) (bd:List AL.Stmt) (pts:List Pnt) (s:Mc) (x:Pnt) (htl:ts.length ≤ 6) (hm:OkM s.cells) (hsl:s.slots.length = ts.length) (hun:unsF ts s x = true):MC Tryz.prog 106 [.optr 0 0,aPnt x] [(0,some (mO ts bd pts 1 2 s)),(1,some (flat cSl s.slots)),(2,some (flat cI s.read))] 3 (fun _:Unit => True) (fun _ => iv (dxF ts s x).2) (fun _ => [(0,some (mO ts bd pts 1 2 (dxF ts s x).1)),(1,some (flat cSl (dxF ts s x).1.slots)),(2,some (flat cI (dxF ts s x).1.read))]):=by
 have hus := used_c ts bd pts x htl
 have hsm : Sm (wS ts x [1,2,3]) := mkBits_sm (by omega)
 obtain ⟨L,hL⟩ : ∃ L,L = bitsI (wS ts x [1,2,3]) := ⟨_,rfl⟩
 have hLl : L.length ≤ 62 := by rw [hL]; exact bitsI_len _
 have hmem : ∀ k, k < L.length → 0 ≤ L[k]! ∧ L[k]! < s.slots.length := fun k hk => by
  rw [hsl]; exact bits_lt (by rw [← hL]; exact getB_mem _ _ hk)
 refine mc_start Tryz.func106 Tryz.ntmps106 ?_
 repeat' (first|(apply id_rw;first|(apply rx_callE (k := 149);rfl;exact hus;exact Pur.pf;rfl)|(apply rx_callE (k := 148);rfl;(apply bits_c <;> (assumption));(rfl);rfl))|refine stpb ?_|refine stpd ?_|fail)
 rw [← hL]
 refine aw_loopA (σ := Nat) [0,3,26,27] [0,1,2,3] (fun k => [(28,iv (k : Int))]) (fun k => []) (fun k => k ≤ L.length ∧ ∀ j,j < k → s.slots[(L[j]!).toNat]!.set = true) (fun k => L.length - k) (0) ⟨Nat.zero_le _,fun j h => absurd h (by omega)⟩ ?_
 rintro k ⟨hk,hall⟩
 by_cases hkn : k < L.length
 ·have hmk := hmem k hkn
  repeat' (first|refine stpb ?_|(refine stp2 ?_ ?_ <;> intro hc hq <;> try (exfalso;omega))|fail)
  ·have hu : unsF ts s x = true := (uns_bits htl).2 ⟨L[k]!, by rw [← hL]; exact getB_mem _ _ hkn, by assumption⟩
   rw [dx_u hu]
   (refine rq_ret rfl ?_; refine mc_ret () trivial ?_ ⟨sE ?_,⟨sE ?_,⟨sE ?_,trivial⟩⟩⟩)
   ·rfl
   ·rfl
   ·rfl
   ·rfl
  ·(refine ex3 (k + 1) (Le.renA [(3, 3)]) ?_ ?_)
   ·refine ⟨by omega, fun j hj => ?_⟩
    rcases Nat.lt_or_ge j k with h|h
    ·exact hall j h
    ·rw [show j = k by omega]; assumption
   ·omega
 ·have hu : unsF ts s x = false := by
   cases q : unsF ts s x with
   | false => rfl
   | true =>
    obtain ⟨v,hv,hs⟩ := (uns_bits htl).1 q
    rw [← hL] at hv
    obtain ⟨j,hj,e⟩ := List.getElem_of_mem hv
    have h1 := hall j (by omega)
    rw [getB _ _ hj,e,hs] at h1;cases h1
  rw [dx_n hu]
  rw [hun] at hu;cases hu
theorem rx_mdo6 {ts:List Int}{bd:List AL.Stmt}{pts:List Pnt}{s:Mc}{x:Pnt}{x0 x1:Operand}{i0 i1 i2:Nat}(ha0:ev (lk tsl) x0 = some (.optr i0 0)) (ha1:ev (lk tsl) x1 = some (aPnt x)) (hH0:lkH hsl i0 = some (mO ts bd pts i1 i2 s)) (hH1:lkH hsl i1 = some (flat cSl s.slots)) (hH2:lkH hsl i2 = some (flat cI s.read)) (hdd:Go.AL.distinct [i0,i1,i2] = true) (hmc:MC Tryz.prog 106 [.optr 0 0,aPnt x] [(0,some (mO ts bd pts 1 2 s)),(1,some (flat cSl s.slots)),(2,some (flat cI s.read))] 3 (fun _:Unit => True) (fun _ => iv (dxF ts s x).2) (fun _ => [(0,some (mO ts bd pts 1 5 (dxF ts s x).1)),(1,some (flat cSl (dxF ts s x).1.slots)),(5,some (flat cI (dxF ts s x).1.read))])) (hM:Nat.ble (nidl + 3) big = true) (hN:Nat.blt d N = true){md':Md}[hmd:MdA md (rOs [x0,x1] ++ [.inr i0,.inr i1,.inr i2]) (List.map Sum.inr (List.map Prod.fst ([(i0,some (mO ts bd pts i1 (nidl + 2) (dxF ts s x).1)),(i1,some (flat cSl (dxF ts s x).1.slots)),((nidl + 2),some (flat cI (dxF ts s x).1.read)),(i2,none)]:List (Nat × Option (List AV)))) ++ [.inl d]) md'] (kk:RW Tryz.prog N all Q md' rest ⟨(d,iv (dxF ts s x).2) :: tsl,wrH hsl [(i0,some (mO ts bd pts i1 (nidl + 2) (dxF ts s x).1)),(i1,some (flat cSl (dxF ts s x).1.slots)),((nidl + 2),some (flat cI (dxF ts s x).1.read)),(i2,none)],nidl + 3,z0⟩):RW Tryz.prog N all Q md (⟨some d,.call ⟨.value (.func 106),#[x0,x1],tys⟩,ty,pos,af,none⟩ :: rest) ⟨tsl,hsl,nidl,z0⟩:=by
 exact rx_mcallA (l := [x0,x1]) [i0,i1,i2] 6 [(i0,some (mO ts bd pts i1 (nidl + 2) (dxF ts s x).1)),(i1,some (flat cSl (dxF ts s x).1.slots)),((nidl + 2),some (flat cI (dxF ts s x).1.read)),(i2,none)] hmc (avs := [.optr i0 0,aPnt x]) (by simp only [evL,ha0,ha1]) hdd hM hN (md' := md') (hmd := hmd) kk
theorem mdo_c (ts:List Int) (bd:List AL.Stmt) (pts:List Pnt) (s:Mc) (x:Pnt) (htl:ts.length ≤ 6) (hm:OkM s.cells) (hsl:s.slots.length = ts.length) (hop:1 ≤ x.op ∧ x.op ≤ 11) (hrl:s.read.length ≤ 1000)
  (hx : x.op ≤ 8 → 0 ≤ x.x ∧ x.x < ts.length) (hy : 3 ≤ x.op → x.op ≤ 7 → 0 ≤ x.y ∧ x.y < ts.length) (hn : x.op = 2 → 0 ≤ x.n ∧ x.n ≤ 9) (h6 : ¬ (x.op = 6 ∧ tchK s.cells s.slots[x.y.toNat]!.ptr false = 0 ∧ unsF ts s x = false)) : MC Tryz.prog 106 [.optr 0 0,aPnt x] [(0,some (mO ts bd pts 1 2 s)),(1,some (flat cSl s.slots)),(2,some (flat cI s.read))] 3 (fun _ : Unit => True) (fun _ => iv (dxF ts s x).2) (fun _ => [(0,some (mO ts bd pts 1 2 (dxF ts s x).1)),(1,some (flat cSl (dxF ts s x).1.slots)),(2,some (flat cI (dxF ts s x).1.read))]) := by
 by_cases h1 : x.op = 1
 ·exact mdo_1 ts bd pts s x htl hm hsl h1 (hx (by omega))
 by_cases h2 : x.op = 2
 ·exact mdo_2 ts bd pts s x htl hm hsl h2 (hn h2) (hx (by omega))
 by_cases h3 : x.op = 3
 ·exact mdo_3 ts bd pts s x htl hm hsl h3 (hx (by omega)) (hy (by omega) (by omega))
 by_cases h4 : x.op = 4 ∨ x.op = 5
 ·exact mdo_45 ts bd pts s x htl hm hsl h4 (hx (by omega)) (hy (by omega) (by omega))
 by_cases h6' : x.op = 6
 ·by_cases hu : unsF ts s x = true
  ·exact mdo_u ts bd pts s x htl hm hsl hu
  ·exact mdo_6 ts bd pts s x htl hm hsl h6' hrl (hx (by omega)) (hy (by omega) (by omega)) (fun q => h6 ⟨h6',q,by simpa using hu⟩)
 by_cases h7 : x.op = 7
 ·exact mdo_7 ts bd pts s x htl hm hsl h7 (hx (by omega)) (hy (by omega) (by omega))
 by_cases h8 : x.op = 8
 ·exact mdo_8 ts bd pts s x htl hm hsl h8 (hx (by omega))
 ·exact mdo_9 ts bd pts s x htl hm hsl (by omega)
theorem isChoice_c (x:Pnt) (h:x.next.length ≤ 1048576):PC Tryz.prog 147 [aPnt x] (fun r => r = bv (decide (x.next.length = 2))):=by
 refine pc_start Tryz.func147 Tryz.ntmps147 ?_
 repeat' (first|refine stpb ?_|fail)
 refine rq_ret rfl ⟨?_,rfl⟩
 simp only [oneOf,AV.v.injEq,Value.bool.injEq,decide_eq_decide]; omega
theorem stW_d {pts:List Pnt}{a:Nat}{C:List Int}(h:pts[a]!.next.length = 2) (hC:0 < C.length):stpW pts a C = ((pts[a]!.next[(C[0]! % 2).toNat]!).toNat,C.drop 1):=by
 cases C with
 | nil => simp at hC
 | cons c C => unfold stpW;rw [if_pos h]; rfl
theorem stW_0 {pts:List Pnt}{a:Nat}(h:pts[a]!.next.length = 2):stpW pts a [] = ((pts[a]!.next[1]!).toNat,[]) := by unfold stpW;rw [if_pos h]
theorem stepG {pts:List Pnt}{n a b:Nat}{out C C2:List Int}{q:List Int × Bool}(h:¬ pts[a]!.op = 11) (ho:out.length ≤ n) (hs:stpW pts a C = (b,C2)) (hq:q = (out ++ (wm pts (n - out.length) a C).1,(wm pts (n - out.length) a C).2)) :
  ((out ++ [(a : Int)]).length ≤ n ∧ q = ((out ++ [(a : Int)]) ++ (wm pts (n - (out ++ [(a : Int)]).length) b C2).1,(wm pts (n - (out ++ [(a : Int)]).length) b C2).2)) ∨ ((out ++ [(a : Int)]).length = n + 1 ∧ q = ((out ++ [(a : Int)]).take n,false)) := by
 have hl : (out ++ [(a : Int)]).length = out.length + 1 := by rw [List.length_append]; rfl
 rcases Nat.lt_or_ge out.length n with h1|h1
 ·exact .inl ⟨by omega,wm_step h h1 hs hq⟩
 ·refine .inr ⟨by omega, ?_⟩
  have e : out.length = n := by omega
  rw [hq,e,Nat.sub_self,wm_cut h,← e,List.take_left' rfl,List.append_nil]
theorem runG_c (ts:List Int) (bd:List AL.Stmt) (pts:List Pnt) (cs:List Int) (n:Nat) (w:WG ts pts) (wa:WA ts pts) (hn:n ≤ 1000) (hcl:cs.length ≤ 1048576):PC Tryz.prog 105 [aG ts bd pts,sl cI cs,iv (n:Int)] (fun r => r = .tup [sl cI (wm pts n 0 cs).1,bv (wm pts n 0 cs).2]):=by
 have hpl := w.pl
 have hp0 := w.p0
 refine pc_start Tryz.func105 Tryz.ntmps105 ?_
 repeat' (first|(apply id_rw;(apply rx_assignNil (d := 8) (e := 1);rfl;rfl))|refine stpb ?_|fail)
 refine aw_loopA (σ := Int × List Int × Nat × List Int) [0,2] [] (fun k => [(9,iv k.1),(1,sl cI k.2.2.2),(8,.own 0 0 k.2.2.1 1)]) (fun k => [(0,some (flat cI k.2.1))]) (fun k => (0 ≤ k.1 ∧ k.1 < pts.length) ∧ k.2.2.1 = k.2.1.length ∧ k.2.2.2.length ≤ 1048576 ∧ ((k.2.1.length ≤ n ∧ wm pts n 0 cs = (k.2.1 ++ (wm pts (n - k.2.1.length) k.1.toNat k.2.2.2).1,(wm pts (n - k.2.1.length) k.1.toNat k.2.2.2).2)) ∨ (k.2.1.length = n + 1 ∧ wm pts n 0 cs = (k.2.1.take n,false)))) (fun k => n + 1 - k.2.1.length) (0,[],0,cs) ⟨⟨Int.le_refl _,by show (0 : Int) < _; omega⟩,rfl,hcl,.inl ⟨Nat.zero_le _,rfl⟩⟩ ?_
 rintro ⟨a,out,m,C⟩ ⟨⟨ha0,ha⟩,hm,hC,hw⟩
 dsimp only at ha0 ha hm hC hw ⊢
 by_cases hout : out.length ≤ n
 ·have hw2 : wm pts n 0 cs = (out ++ (wm pts (n - out.length) a.toNat C).1, (wm pts (n - out.length) a.toNat C).2) := by
   rcases hw with h|h
   ·exact h.2
   ·omega
  have hat : (a.toNat : Int) = a := Int.toNat_of_nonneg ha0
  have hnx := w.nx a.toNat (by omega)
  have hnl := w.nl a.toNat (by omega)
  have hn1 := wa.n a.toNat (by omega)
  have hk : ∀ k,k < pts[a.toNat]!.next.length → 0 ≤ pts[a.toNat]!.next[k]! ∧ pts[a.toNat]!.next[k]! < pts.length := fun k h => hnx _ (getB_mem _ _ h)
  have hch := isChoice_c pts[a.toNat]! (by omega)
  repeat' (first|(apply id_rw;first|(apply rx_callE (k := 147);rfl;exact hch;exact Pur.pf;rfl)|(apply rx_andZ;rfl;rfl;rfl)|(apply rx_buildSliceI (t := _);rfl;rfl;rfl;exact (rfl:_=some [_]);rfl;rfl))|refine stpb ?_|(refine stp2 ?_ ?_ <;> intro hc hq <;> try (exfalso;omega))|refine stpd ?_|fail)
  ·have hop : pts[a.toNat]!.op = 11 := by assumption
   have e : wm pts n 0 cs = (out ++ [a],true) := by rw [hw2,wm_end hop,hat]
   rw [e]
   (refine rq_le (Le.frzD (d := 6) (i := 2) rfl rfl) ?_; refine rq_ret rfl ?_)
   refine ⟨?_,(by exact Pur.pf)⟩
   simp only [oneOf,sl]
   rw [hm,List.length_append]; rfl
  ·have hop : ¬ pts[a.toNat]!.op = 11 := by assumption
   have hst := stepG hop hout (stW_s (by omega)) hw2
   rw [hat] at hst
   have hk := hk 0 (by omega)
   (refine ex3 (pts[a.toNat]!.next[0]!,_,_,C) (Le.renA [(0,2)]) ?_ ?_)
   ·exact ⟨hk,by dsimp only;rw [List.length_append,hm]; rfl,hC,hst⟩
   ·dsimp only;rw [List.length_append]; simp only [List.length_singleton]; omega
  ·have hop : ¬ pts[a.toNat]!.op = 11 := by assumption
   have hC0 : 0 < C.length := by omega
   have hst := stepG hop hout (stW_d (by omega) hC0) hw2
   rw [hat] at hst
   have hk := hk (C[0]! % 2).toNat (by omega)
   have hCe : List.take (C.length - Int.toNat 1) (List.drop (Int.toNat 1) C) = C.drop 1 := List.take_of_length_le (by rw [List.length_drop]; exact Nat.le_refl _)
   rw [hCe]
   (refine ex3 (pts[a.toNat]!.next[(C[0]! % 2).toNat]!,_,_,C.drop 1) (Le.renA [(0,2)]) ?_ ?_)
   ·exact ⟨hk,by dsimp only;rw [List.length_append,hm]; rfl,by dsimp only;rw [List.length_drop]; omega,hst⟩
   ·dsimp only;rw [List.length_append]; simp only [List.length_singleton]; omega
  ·have hop : ¬ pts[a.toNat]!.op = 11 := by assumption
   have hC0 : C = [] := List.eq_nil_of_length_eq_zero (by omega)
   subst hC0
   have hst := stepG hop hout (stW_0 (by omega)) hw2
   rw [hat] at hst
   have hk := hk 1 (by omega)
   (refine ex3 (pts[a.toNat]!.next[1]!,_,_,[]) (Le.renA [(0,2)]) ?_ ?_)
   ·exact ⟨hk,by dsimp only;rw [List.length_append,hm]; rfl,hC,hst⟩
   ·dsimp only;rw [List.length_append]; simp only [List.length_singleton]; omega
 ·have hw2 : out.length = n + 1 ∧ wm pts n 0 cs = (out.take n, false) := by
   rcases hw with h|h
   ·omega
   ·exact h
  repeat' (first|(apply id_rw;(apply rx_slice (d := 59) (l := 0) (h := n);rfl;rfl;rfl;exact bnd_to rfl (by omega);exact if_pos (by omega);rfl))|refine stpb ?_|(refine stp2 ?_ ?_ <;> intro hc hq <;> try (exfalso;omega))|fail)
  refine rq_le (Le.cut (i := 0) (n * 1) rfl) ?_
  refine rq_le (Le.frzD (d := 6) (i := 0) rfl rfl) ?_
  rw [hw2.2,flat_take cI (e := 1)]
  refine rq_ret (l := [.imm (n - 0) (flat cI (out.take n)),bv false]) rfl ⟨?_,(by exact Pur.pf)⟩
  rw [sl_len (by rw [List.length_take]; omega)]
  rfl
theorem rx_runX {p:Prg}{cs:List Int}{n:Int}{x0 x1 x2:Operand}(ha0:ev (lk tsl) x0 = some (aPrg p)) (ha1:ev (lk tsl) x1 = some (sl cI cs)) (ha2:ev (lk tsl) x2 = some (iv n)) (hmc:MC Tryz.prog 64 [aPrg p,sl cI cs,iv n] [] 0 (fun _:Unit => True) (fun _ => .tup [.optr 1 0,iv 5,iv 0]) (fun _ => [(1,some ([.v (.pointer none),.imm 0 [],.imm 0 [],.imm 0 []]))])) (hM:Nat.ble (nidl + 2) big = true) (hN:Nat.blt d N = true){md':Md}[hmd:MdA md (rOs [x0,x1,x2] ++ []) (List.map Sum.inr (List.map Prod.fst ([((nidl + 1),some ([.v (.pointer none),.imm 0 [],.imm 0 [],.imm 0 []]))]:List (Nat × Option (List AV)))) ++ [.inl d]) md'] (kk:RW Tryz.prog N all Q md' rest ⟨(d,.tup [.optr (nidl + 1) 0,iv 5,iv 0]) :: tsl,wrH hsl [((nidl + 1),some ([.v (.pointer none),.imm 0 [],.imm 0 [],.imm 0 []]))],nidl + 2,z0⟩):RW Tryz.prog N all Q md (⟨some d,.call ⟨.value (.func 64),#[x0,x1,x2],tys⟩,ty,pos,af,none⟩ :: rest) ⟨tsl,hsl,nidl,z0⟩:=by
 exact rx_mcallA (l := [x0,x1,x2]) [] 2 [((nidl + 1),some ([.v (.pointer none),.imm 0 [],.imm 0 [],.imm 0 []]))] hmc (avs := [aPrg p,sl cI cs,iv n]) (by simp only [evL,ha0,ha1,ha2]) rfl hM hN (md' := md') (hmd := hmd) kk
theorem rx_runV {p:Prg}{cs:List Int}{n:Nat}{q:Mc × Int × Nat}{x0 x1 x2:Operand}(ha0:ev (lk tsl) x0 = some (aPrg p)) (ha1:ev (lk tsl) x1 = some (sl cI cs)) (ha2:ev (lk tsl) x2 = some (iv (n:Int))) (hmc:MC Tryz.prog 64 [aPrg p,sl cI cs,iv (n:Int)] [] 0 (fun _:Unit => True) (fun _ => .tup [.optr 2 0,iv q.2.1,iv (q.2.2:Int)]) (fun _ => [(2,some (mO p.types p.body (ptsF p) 1 3 q.1)),(1,some (flat cSl q.1.slots)),(3,some (flat cI q.1.read))])) (hM:Nat.ble (nidl + 4) big = true) (hN:Nat.blt d N = true){md':Md}[hmd:MdA md (rOs [x0,x1,x2] ++ []) (List.map Sum.inr (List.map Prod.fst ([((nidl + 2),some (mO p.types p.body (ptsF p) (nidl + 1) (nidl + 3) q.1)),((nidl + 1),some (flat cSl q.1.slots)),((nidl + 3),some (flat cI q.1.read))]:List (Nat × Option (List AV)))) ++ [.inl d]) md'] (kk:RW Tryz.prog N all Q md' rest ⟨(d,.tup [.optr (nidl + 2) 0,iv q.2.1,iv (q.2.2:Int)]) :: tsl,wrH hsl [((nidl + 2),some (mO p.types p.body (ptsF p) (nidl + 1) (nidl + 3) q.1)),((nidl + 1),some (flat cSl q.1.slots)),((nidl + 3),some (flat cI q.1.read))],nidl + 4,z0⟩):RW Tryz.prog N all Q md (⟨some d,.call ⟨.value (.func 64),#[x0,x1,x2],tys⟩,ty,pos,af,none⟩ :: rest) ⟨tsl,hsl,nidl,z0⟩:=by
 exact rx_mcallA (l := [x0,x1,x2]) [] 4 [((nidl + 2),some (mO p.types p.body (ptsF p) (nidl + 1) (nidl + 3) q.1)),((nidl + 1),some (flat cSl q.1.slots)),((nidl + 3),some (flat cI q.1.read))] hmc (avs := [aPrg p,sl cI cs,iv (n : Int)]) (by simp only [evL,ha0,ha1,ha2]) rfl hM hN (md' := md') (hmd := hmd) kk
theorem Le.nilMid {ts:List (Nat × AV)}{hs:List (Nat × Option (List AV))}{n:Nat}{z0:Lo}{i:Nat}(c1:List AV){c2:List AV}(hi:lkH hs i = some (c1 ++ .v (.slice none 0 0) :: c2)) :
  Le ⟨ts,hs,n,z0⟩ ⟨ts,(i,some (c1 ++ .imm 0 [] :: c2)) :: hs,n,z0⟩ :=
 Le.cells hi (by simp) fun w bad ι b β h => RdC_mid (fun y hy => by have := Rd_kAV (av := .v (.slice none 0 0)) hy;exact this) c1 c2 b β h
theorem run_dx {ts:List Int}{pts:List Pnt}{a last:Nat}{l:List Nat}{s:Mc}:runF ts pts (a :: l) s last = if (dxF ts s pts[a]!).2 = -1 then runF ts pts l (dxF ts s pts[a]!).1 a else ((dxF ts s pts[a]!).1,(dxF ts s pts[a]!).2,a):=by
 rw [runF]
 by_cases h : unsF ts s pts[a]! = true
 ·rw [if_pos h,dx_u h,if_neg (show ¬ (2 : Int) = -1 by decide)]
 ·have h2 : unsF ts s pts[a]! = false := by simpa using h
  rw [if_neg h,dx_n h2]
theorem dx_ok {ts:List Int}{nt:Nat}{s:Mc}(h:OkS nt s){x:Pnt}(hx:PtN x):OkS nt (dxF ts s x).1:=by
 unfold dxF;split
 ·exact h
 ·exact h.do hx
theorem dx_read {ts:List Int}{s:Mc}{x:Pnt}:(dxF ts s x).1.read.length ≤ s.read.length + 1:=by
 unfold dxF;split
 ·dsimp only;omega
 ·exact do_readl
theorem dx_6 {ts:List Int}{s:Mc}{x:Pnt}(ho:x.op = 6) (hz:tchK s.cells s.slots[x.y.toNat]!.ptr false = 0) (hu:unsF ts s x = false) (ht:ts[x.x.toNat]! = 1):(dxF ts s x).2 = -1:=by
 rw [dx_n hu]
 unfold doF
 rw [if_neg (show ¬ x.op = 1 by omega),if_neg (show ¬ x.op = 2 by omega),if_neg (show ¬ x.op = 3 by omega),if_neg (show ¬ (x.op = 4 ∨ x.op = 5) by omega),if_pos ho,if_pos hz]
 unfold putF
 rw [if_neg (fun h => by have := h.1;omega)]
theorem runX_c (p:Prg) (cs:List Int) (n:Int) (hl:p.types.length ≤ 1048576) (hs:cntL p.body ≤ 1048576) (hr:rgF p n = false):MC Tryz.prog 64 [aPrg p,sl cI cs,iv n] [] 0 (fun _:Unit => True) (fun _ => .tup [.optr 1 0,iv 5,iv 0]) (fun _ => [(1,some ([.v (.pointer none),.imm 0 [],.imm 0 [],.imm 0 []]))]):=by
 have hg := graphOf_c p hl hs
 unfold rgF at hr
 by_cases hv : validF p = true
 ·rw [if_pos hv] at hg
  rw [hv] at hr
  have hnn : ¬ (0 ≤ n ∧ n ≤ 150) := fun h => by rw [decide_eq_true h.1,decide_eq_true h.2] at hr;cases hr
  refine mc_start Tryz.func64 Tryz.ntmps64 ?_
  repeat' (first|(apply id_rw;first|(apply rx_callE (k := 104);rfl;exact hg;exact Pur.pf;rfl)|(apply rx_callE (k := 35);rfl;(apply within_c);(rfl);rfl))|refine stpb ?_|(refine stp2 ?_ ?_ <;> intro hc hq <;> try (exfalso;omega))|fail)
  ·(refine rq_ret rfl ?_; refine mc_ret () trivial ?_ ⟨sE ?_, trivial⟩)
   ·rfl
   ·rfl
 ·rw [if_neg hv] at hg
  refine mc_start Tryz.func64 Tryz.ntmps64 ?_
  repeat' (first|(apply id_rw;(apply rx_callE (k := 104);rfl;exact hg;exact Pur.pf;rfl))|refine stpb ?_|fail)
  (refine rq_ret rfl ?_; refine mc_ret () trivial ?_ ⟨sE ?_,trivial⟩)
  ·rfl
  ·rfl
theorem runV_c (p:Prg) (cs:List Int) (n:Nat) (q:Mc × Int × Nat) (hqq:q = runP p.types (ptsF p) cs n) (hv:validF p = true) (hl:p.types.length ≤ 1048576) (hs:cntL p.body ≤ 1048576) (hn:n ≤ 150) (hcl:cs.length ≤ 1048576):MC Tryz.prog 64 [aPrg p,sl cI cs,iv (n:Int)] [] 0 (fun _:Unit => True) (fun _ => .tup [.optr 2 0,iv q.2.1,iv (q.2.2:Int)]) (fun _ => [(2,some (mO p.types p.body (ptsF p) 1 3 q.1)),(1,some (flat cSl q.1.slots)),(3,some (flat cI q.1.read))]):=by
 have hg := graphOf_c p hl hs
 rw [if_pos hv] at hg
 have w := WG.of_valid hv
 have wa := WA.of_valid hv
 have hru := runG_c p.types p.body (ptsF p) cs n w wa (by omega) hcl
 have htl := w.tl
 have hpl := w.pl
 have hL := way_lt w wa n 0 cs w.p0
 have hLl := way_len (pts := ptsF p) n 0 cs
 unfold runP at hqq
 unfold wm at hru
 obtain ⟨L,hLe⟩ : ∃ L,L = (wayF (ptsF p) n 0 cs).1 := ⟨_,rfl⟩
 obtain ⟨dn,hdn⟩ : ∃ dn,dn = (wayF (ptsF p) n 0 cs).2 := ⟨_,rfl⟩
 rw [← hLe,← hdn] at hru
 rw [← hLe] at hqq hL hLl
 have hgx : ∀ i,i < L.length → (L.map (fun a : Nat => (a : Int)))[i]! = (L[i]! : Int) := fun i h => by rw [getB _ _ (by rw [List.length_map]; exact h),List.getElem_map,getB _ _ h]
 have hml : (L.map (fun a : Nat => (a : Int))).length = L.length := List.length_map _
 generalize (L.map (fun a : Nat => (a : Int))) = LI at *
 generalize hP : ptsF p = pts at *
 refine mc_start Tryz.func64 Tryz.ntmps64 ?_
 repeat' (first|(apply id_rw;first|(apply rx_callE (k := 104);rfl;exact hg;exact Pur.pf;rfl)|(with_reducible apply rw_stop (d := 40))|(apply rx_callE (k := 35);rfl;(apply within_c);(rfl);rfl))|refine stpb ?_|(refine stp2 ?_ ?_ <;> intro hc hq <;> try (exfalso;omega))|fail)
 refine rw_go ?_
 rw [show (List.replicate p.types.length ([Value.bool false,Value.int .i64 0,Value.int .i64 0,Value.int .i64 0].map AV.v)).flatten = flat cSl (List.replicate p.types.length sl0) from mk_rep rfl]
 apply rx_build
 case hl => rfl
 case hf => exact (rfl:_=some [_,_,AV.v (.slice none 0 0),AV.v (.slice none 0 0)])
 case hN => rfl
 repeat' (first|(apply id_rw;(with_reducible apply rw_stop (d := 43)))|refine stpb ?_|fail)
 refine rw_go (rw_le ?_ (Le.nilMid (i := 2) [_,_] rfl))
 refine rw_le ?_ (Le.nilCell (i := 2) 1 [_,_,_] rfl (by decide) (by decide))
 repeat' (first|(apply id_rw;(apply rx_callE (k := 105);rfl;exact hru;exact Pur.pf;rfl))|refine stpb ?_|fail)
 refine aw_loopA (σ := Nat × Mc × Nat) [9,11,49,50] [] (fun k => [(51,iv (k.1 : Int)),(14,iv (k.2.2 : Int))]) (fun k => [(2,some (mO p.types p.body pts 1 3 k.2.1)),(1,some (flat cSl k.2.1.slots)),(3,some (flat cI k.2.1.read))]) (fun k => k.1 ≤ L.length ∧ runF p.types pts (L.drop k.1) k.2.1 k.2.2 = q ∧ OkS p.types.length k.2.1 ∧ k.2.1.read.length ≤ k.1) (fun k => L.length - k.1) (0,mc0 p.types.length,0) ⟨Nat.zero_le _,hqq.symm,OkS.mc0 _,Nat.le_refl _⟩ ?_
 rintro ⟨i,s,last⟩ ⟨hi,hf,hok,hrd⟩
 dsimp only at hi hf hok hrd ⊢
 by_cases hiL : i < L.length
 ·have hap := hL L[i]! (getB_mem _ _ hiL)
  have hop := w.op L[i]! hap
  have hwx := w.x L[i]! hap
  have hwy := w.y L[i]! hap
  have hA := wa.a L[i]! hap
  have hg2 := hgx i hiL
  have hdr : L.drop i = L[i]! :: L.drop (i + 1) := by rw [List.drop_eq_getElem_cons hiL,getB _ _ hiL]
  rw [hdr,run_dx] at hf
  have hpt : PtN pts[L[i]!]! := ⟨fun h => hA.n (.inr h)⟩
  have hdo := dx_ok (ts := p.types) hok hpt
  have hdr2 := dx_read (ts := p.types) (s := s) (x := pts[L[i]!]!)
  by_cases h6 : pts[L[i]!]!.op = 6 ∧ tchK s.cells s.slots[(pts[L[i]!]!).y.toNat]!.ptr false = 0 ∧ unsF p.types s pts[L[i]!]! = false
  ·have hm6 := mdo6_c p.types p.body pts s pts[L[i]!]! htl hok.m hok.l h6.1 (by omega) (by omega) (by omega) h6.2.1 h6.2.2
   repeat' (first|(apply id_rw;(with_reducible apply rw_stop (d := 16)))|refine stpb ?_|(refine stp2 ?_ ?_ <;> intro hc hq <;> try (exfalso;omega))|fail)
   refine rw_go ?_
   rw [hg2]
   repeat' (first|(apply id_rw;(apply rx_mdo6 (ts := p.types) (bd := p.body) (pts := pts) (s := s) (x := pts[L[i]!]!);rfl;rfl;rfl;rfl;rfl;rfl;exact hm6;rfl;rfl))|refine stpb ?_|(refine stp2 ?_ ?_ <;> intro hc hq <;> try (exfalso;omega))|fail)
   ·exfalso
    have h9 : ¬ (dxF p.types s pts[L[i]!]!).2 = -1 := by assumption
    exact h9 (dx_6 h6.1 h6.2.1 h6.2.2 (hA.t6 h6.1).1)
   ·(refine ex3 (i + 1, (dxF p.types s pts[L[i]!]!).1, L[i]!) (Le.renA [(1, 1), (2, 2), (3, 6)]) ?_ ?_)
    ·refine ⟨by dsimp only; omega, ?_, hdo, by dsimp only; omega⟩
     dsimp only
     rw [if_pos (by assumption)] at hf
     exact hf
    ·dsimp only;omega
  ·have hmd := mdo_c p.types p.body pts s pts[L[i]!]! htl hok.m hok.l hop (by omega) (fun h => by omega) (fun h h2 => by omega) (fun h => hA.n (.inr h)) h6
   repeat' (first|(apply id_rw;(with_reducible apply rw_stop (d := 16)))|refine stpb ?_|(refine stp2 ?_ ?_ <;> intro hc hq <;> try (exfalso;omega))|fail)
   refine rw_go ?_
   rw [hg2]
   repeat' (first|(apply id_rw;(apply rx_mdo (ts := p.types) (bd := p.body) (pts := pts) (s := s) (x := pts[L[i]!]!);rfl;rfl;rfl;rfl;rfl;rfl;exact hmd;rfl;rfl))|refine stpb ?_|(refine stp2 ?_ ?_ <;> intro hc hq <;> try (exfalso;omega))|fail)
   ·have h9 : ¬ (dxF p.types s pts[L[i]!]!).2 = -1 := by assumption
    rw [if_neg h9] at hf
    rw [← hf]
    (refine rq_ret rfl ?_; refine mc_ret () trivial ?_ ⟨sE ?_,⟨sE ?_,⟨sE ?_,trivial⟩⟩⟩)
    ·rfl
    ·rfl
    ·rfl
    ·rfl
   ·(refine ex3 (i + 1, (dxF p.types s pts[L[i]!]!).1, L[i]!) (Le.renA [(1, 1), (2, 2), (3, 3)]) ?_ ?_)
    ·refine ⟨by dsimp only; omega, ?_, hdo, by dsimp only; omega⟩
     dsimp only
     rw [if_pos (by assumption)] at hf
     exact hf
    ·dsimp only;omega
 ·repeat' (first | refine stpb ?_ | (refine stp2 ?_ ?_ <;> intro hc hq <;> try (exfalso; omega))|fail)
  have hie : i = L.length := by omega
  have hq2 : q = (s,1,last) := by rw [← hf,hie,List.drop_length]; rfl
  rw [hq2]
  (refine rq_ret rfl ?_; refine mc_ret () trivial ?_ ⟨sE ?_,⟨sE ?_,⟨sE ?_,trivial⟩⟩⟩)
  ·rfl
  ·rfl
  ·rfl
  ·rfl
theorem rx_runVI {p:Prg}{cs:List Int}{n:Int}{q:Mc × Int × Nat}{x0 x1 x2:Operand}(ha0:ev (lk tsl) x0 = some (aPrg p)) (ha1:ev (lk tsl) x1 = some (sl cI cs)) (ha2:ev (lk tsl) x2 = some (iv n)) (hmc:MC Tryz.prog 64 [aPrg p,sl cI cs,iv n] [] 0 (fun _:Unit => True) (fun _ => .tup [.optr 2 0,iv q.2.1,iv (q.2.2:Int)]) (fun _ => [(2,some (mO p.types p.body (ptsF p) 1 3 q.1)),(1,some (flat cSl q.1.slots)),(3,some (flat cI q.1.read))])) (hM:Nat.ble (nidl + 4) big = true) (hN:Nat.blt d N = true){md':Md}[hmd:MdA md (rOs [x0,x1,x2] ++ []) (List.map Sum.inr (List.map Prod.fst ([((nidl + 2),some (mO p.types p.body (ptsF p) (nidl + 1) (nidl + 3) q.1)),((nidl + 1),some (flat cSl q.1.slots)),((nidl + 3),some (flat cI q.1.read))]:List (Nat × Option (List AV)))) ++ [.inl d]) md'] (kk:RW Tryz.prog N all Q md' rest ⟨(d,.tup [.optr (nidl + 2) 0,iv q.2.1,iv (q.2.2:Int)]) :: tsl,wrH hsl [((nidl + 2),some (mO p.types p.body (ptsF p) (nidl + 1) (nidl + 3) q.1)),((nidl + 1),some (flat cSl q.1.slots)),((nidl + 3),some (flat cI q.1.read))],nidl + 4,z0⟩):RW Tryz.prog N all Q md (⟨some d,.call ⟨.value (.func 64),#[x0,x1,x2],tys⟩,ty,pos,af,none⟩ :: rest) ⟨tsl,hsl,nidl,z0⟩:=by
 exact rx_mcallA (l := [x0,x1,x2]) [] 4 [((nidl + 2),some (mO p.types p.body (ptsF p) (nidl + 1) (nidl + 3) q.1)),((nidl + 1),some (flat cSl q.1.slots)),((nidl + 3),some (flat cI q.1.read))] hmc (avs := [aPrg p,sl cI cs,iv n]) (by simp only [evL,ha0,ha1,ha2]) rfl hM hN (md' := md') (hmd := hmd) kk
theorem RunProgramI_c (p:Prg) (cs:List Int) (most:Int) (hl:p.types.length ≤ 1048576) (hs:cntL p.body ≤ 1048576) (hcl:cs.length ≤ 1048576):PC Tryz.prog 26 [aPrg p,sl cI cs,iv most] (fun r => r = .tup (if rgF p most = true then [iv (runP p.types (ptsF p) cs most.toNat).2.1,iv (runP p.types (ptsF p) cs most.toNat).2.2] else [iv 5,iv 0])):=by
 by_cases h : rgF p most = true
 ·have h' := h
  unfold rgF at h'
  simp only [Bool.and_eq_true,decide_eq_true_eq] at h'
  obtain ⟨hv,h0,h1⟩ := h'
  have hru := runV_c p cs most.toNat _ rfl hv hl hs (by omega) hcl
  have hok := run_ok (cs := cs) (n := most.toNat) hv
  have hrl := runP_readl (ts := p.types) (pts := ptsF p) (cs := cs) (n := most.toNat) (by omega)
  have htl := (WG.of_valid hv).tl
  rw [Int.toNat_of_nonneg h0] at hru
  rw [if_pos h]
  have hon := Int.toNat_of_nonneg h0
  have hm := hok.m
  have hml := hm.l
  have hsl := hok.l
  generalize runP p.types (ptsF p) cs most.toNat = q at *
  refine pc_start Tryz.func26 Tryz.ntmps26 ?_
  repeat' (first|(apply id_rw;(apply rx_runVI (p := p) (cs := cs) (n := most) (q := q);rfl;rfl;rfl;exact hru;rfl;rfl))|refine stpb ?_|fail)
  exact rq_ret (l := [iv q.2.1,iv q.2.2]) rfl ⟨rfl,rfl⟩
 ·rw [if_neg h]
  have h2 : rgF p most = false := by simpa using h
  refine pc_start Tryz.func26 Tryz.ntmps26 ?_
  repeat' (first|(apply id_rw;(apply rx_runX (p := p) (cs := cs) (n := most);rfl;rfl;rfl;exact runX_c p cs most hl hs h2;rfl;rfl))|refine stpb ?_|fail)
  exact rq_ret (l := [iv 5,iv 0]) rfl ⟨rfl,rfl⟩
end Go.Proofs.YtjnhlgpbojggnaaGreatDoor
