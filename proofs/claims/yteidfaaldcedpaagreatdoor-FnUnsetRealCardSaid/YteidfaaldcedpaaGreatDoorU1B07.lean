/-
 A part of the proofs over this program: rules and contracts of its functions (the contracts).
-/
import Derived.Test.YteidfaaldcedpaaGreatDoorU1B06
import Derived.Test.YteidfaaldcedpaaGreatDoorRows
import Derived.WalkKit
import Derived.ProofKit
import Derived.OpenShut
import Derived.Carry
import Derived.ChangeSlices
set_option linter.unusedVariables false
set_option linter.unusedSimpArgs false
set_option maxHeartbeats 8000000
set_option maxRecDepth 4000
attribute [local irreducible] Go.AL.RW Go.AL.AW Go.AL.Stop
namespace Go.Proofs.YteidfaaldcedpaaGreatDoor
open Go.AL Go.RowKit
variable {N : Nat} {Q : Exit → AS → Prop} {all : Array Oper} {rest : List Oper} {tsl : List (Nat × AV)} {hsl : List (Nat × Option (List AV))} {nidl : Nat} {z0 : Lo} {md : Md} {d : Nat} {ty : TypeId} {pos : String} {af : Array Edge} {tys : Array TypeId}
theorem Ni {ts:List Int}{bd:List AL.Stmt}{pts:List Pnt}{s:Mc}{x:Pnt}{x0 x1:Operand}{i0 i1 i2:Nat}(ha0:ev (lk tsl) x0 = some (.optr i0 0)) (ha1:ev (lk tsl) x1 = some (dJ x)) (hH0:aT hsl i0 = some (mO ts bd pts i1 i2 s)) (hH1:aT hsl i1 = some (flat dC s.slots)) (hH2:aT hsl i2 = some (flat cI s.read)) (hdd:Go.AL.distinct [i0,i1,i2] = true) (hmc:MC Tryz.prog 73 [.optr 0 0,dJ x] [(0,some (mO ts bd pts 1 2 s)),(1,some (flat dC s.slots)),(2,some (flat cI s.read))] 3 (fun _:Unit => True) (fun _ => iv (dS ts s x).2) (fun _ => [(0,some (mO ts bd pts 1 5 (dS ts s x).1)),(1,some (flat dC (dS ts s x).1.slots)),(5,some (flat cI (dS ts s x).1.read))])) (hM:Nat.ble (nidl + 3) a6 = true) (hN:Nat.blt d N = true){md':Md}[hmd:MdA md (fF [x0,x1] ++ [.inr i0,.inr i1,.inr i2]) (List.map Sum.inr (List.map Prod.fst ([(i0,some (mO ts bd pts i1 (nidl + 2) (dS ts s x).1)),(i1,some (flat dC (dS ts s x).1.slots)),((nidl + 2),some (flat cI (dS ts s x).1.read)),(i2,none)]:List (Nat × Option (List AV)))) ++ [.inl d]) md'] (kk:RW Tryz.prog N all Q md' rest ⟨(d,iv (dS ts s x).2) :: tsl,gD hsl [(i0,some (mO ts bd pts i1 (nidl + 2) (dS ts s x).1)),(i1,some (flat dC (dS ts s x).1.slots)),((nidl + 2),some (flat cI (dS ts s x).1.read)),(i2,none)],nidl + 3,z0⟩):RW Tryz.prog N all Q md (⟨some d,.call ⟨.value (.func 73),#[x0,x1],tys⟩,ty,pos,af,none⟩ :: rest) ⟨tsl,hsl,nidl,z0⟩:=by
 exact aX (l := [x0,x1]) [i0,i1,i2] 6 [(i0,some (mO ts bd pts i1 (nidl + 2) (dS ts s x).1)),(i1,some (flat dC (dS ts s x).1.slots)),((nidl + 2),some (flat cI (dS ts s x).1.read)),(i2,none)] hmc (avs := [.optr i0 0,dJ x]) (by simp only [evL,ha0,ha1]) hdd hM hN (md' := md') (hmd := hmd) kk
theorem QN (ts:List Int) (bd:List AL.Stmt) (pts:List Pnt) (s:Mc) (x:Pnt) (htl:ts.length ≤ 6) (hm:OkM s.cells) (hsl:s.slots.length = ts.length) (hop:1 ≤ x.op ∧ x.op ≤ 11) (hrl:s.read.length ≤ 1000)
  (hx : x.op ≤ 8 → 0 ≤ x.x ∧ x.x < ts.length) (hy : 3 ≤ x.op → x.op ≤ 7 → 0 ≤ x.y ∧ x.y < ts.length) (hn : x.op = 2 → 0 ≤ x.n ∧ x.n ≤ 9) (h6 : ¬ (x.op = 6 ∧ a8 s.cells s.slots[x.y.toNat]!.ptr false = 0 ∧ cG ts s x = false)) : MC Tryz.prog 73 [.optr 0 0,dJ x] [(0,some (mO ts bd pts 1 2 s)),(1,some (flat dC s.slots)),(2,some (flat cI s.read))] 3 (fun _ : Unit => True) (fun _ => iv (dS ts s x).2) (fun _ => [(0,some (mO ts bd pts 1 2 (dS ts s x).1)),(1,some (flat dC (dS ts s x).1.slots)),(2,some (flat cI (dS ts s x).1.read))]) := by
 by_cases h1 : x.op = 1
 ·exact QG ts bd pts s x htl hm hsl h1 (hx (by omega))
 by_cases h2 : x.op = 2
 ·exact QE ts bd pts s x htl hm hsl h2 (hn h2) (hx (by omega))
 by_cases h3 : x.op = 3
 ·exact Q0 ts bd pts s x htl hm hsl h3 (hx (by omega)) (hy (by omega) (by omega))
 by_cases h4 : x.op = 4 ∨ x.op = 5
 ·exact Pm ts bd pts s x htl hm hsl h4 (hx (by omega)) (hy (by omega) (by omega))
 by_cases h6' : x.op = 6
 ·by_cases hu : cG ts s x = true
  ·exact Rp ts bd pts s x htl hm hsl hu
  ·exact QW ts bd pts s x htl hm hsl h6' hrl (hx (by omega)) (hy (by omega) (by omega)) (fun q => h6 ⟨h6',q,by simpa using hu⟩)
 by_cases h7 : x.op = 7
 ·exact QC ts bd pts s x htl hm hsl h7 (hx (by omega)) (hy (by omega) (by omega))
 by_cases h8 : x.op = 8
 ·exact QI ts bd pts s x htl hm hsl h8 (hx (by omega))
 ·exact Q9 ts bd pts s x htl hm hsl (by omega)
theorem wI (x:Pnt) (h:x.next.length ≤ 1048576):PC Tryz.prog 33 [dJ x] (fun r => r = bv (decide (x.next.length = 2))):=by
 refine aB Tryz.func33 Tryz.ntmps33 ?_
 repeat' (first|refine aE ?_|fail)
 refine aC rfl ⟨?_,rfl⟩
 simp only [aM,AV.v.injEq,Value.bool.injEq,decide_eq_decide]; omega
theorem QD {pts:List Pnt}{a:Nat}{C:List Int}(h:pts[a]!.next.length = 2) (hC:0 < C.length):gU pts a C = ((pts[a]!.next[(C[0]! % 2).toNat]!).toNat,C.drop 1):=by
 cases C with
 | nil => simp at hC
 | cons c C => unfold gU;rw [if_pos h]; rfl
theorem Q7 {pts:List Pnt}{a:Nat}(h:pts[a]!.next.length = 2):gU pts a [] = ((pts[a]!.next[1]!).toNat,[]) := by unfold gU;rw [if_pos h]
theorem K8 {pts:List Pnt}{n a b:Nat}{out C C2:List Int}{q:List Int × Bool}(h:¬ pts[a]!.op = 11) (ho:out.length ≤ n) (hs:gU pts a C = (b,C2)) (hq:q = (out ++ (wm pts (n - out.length) a C).1,(wm pts (n - out.length) a C).2)) :
  ((out ++ [(a : Int)]).length ≤ n ∧ q = ((out ++ [(a : Int)]) ++ (wm pts (n - (out ++ [(a : Int)]).length) b C2).1,(wm pts (n - (out ++ [(a : Int)]).length) b C2).2)) ∨ ((out ++ [(a : Int)]).length = n + 1 ∧ q = ((out ++ [(a : Int)]).take n,false)) := by
 have hl : (out ++ [(a : Int)]).length = out.length + 1 := by rw [List.length_append]; rfl
 rcases Nat.lt_or_ge out.length n with h1|h1
 ·exact .inl ⟨by omega,qB h h1 hs hq⟩
 ·refine .inr ⟨by omega, ?_⟩
  have e : out.length = n := by omega
  rw [hq,e,Nat.sub_self,IZ h,← e,List.take_left' rfl,List.append_nil]
theorem PL (ts:List Int) (bd:List AL.Stmt) (pts:List Pnt) (cs:List Int) (n:Nat) (w:WG ts pts) (wa:WA ts pts) (hn:n ≤ 1000) (hcl:cs.length ≤ 1048576):PC Tryz.prog 72 [aG ts bd pts,sl cI cs,iv (n:Int)] (fun r => r = .tup [sl cI (wm pts n 0 cs).1,bv (wm pts n 0 cs).2]):=by
 have hpl := w.pl
 have hp0 := w.p0
 refine aB Tryz.func72 Tryz.ntmps72 ?_
 repeat' (first|(apply aF;(apply l6 (d := 8) (e := 1);rfl;rfl))|refine aE ?_|fail)
 refine aH (σ := Int × List Int × Nat × List Int) [0,2] [] (fun k => [(9,iv k.1),(1,sl cI k.2.2.2),(8,.own 0 0 k.2.2.1 1)]) (fun k => [(0,some (flat cI k.2.1))]) (fun k => (0 ≤ k.1 ∧ k.1 < pts.length) ∧ k.2.2.1 = k.2.1.length ∧ k.2.2.2.length ≤ 1048576 ∧ ((k.2.1.length ≤ n ∧ wm pts n 0 cs = (k.2.1 ++ (wm pts (n - k.2.1.length) k.1.toNat k.2.2.2).1,(wm pts (n - k.2.1.length) k.1.toNat k.2.2.2).2)) ∨ (k.2.1.length = n + 1 ∧ wm pts n 0 cs = (k.2.1.take n,false)))) (fun k => n + 1 - k.2.1.length) (0,[],0,cs) ⟨⟨Int.le_refl _,by show (0 : Int) < _; omega⟩,rfl,hcl,.inl ⟨Nat.zero_le _,rfl⟩⟩ ?_
 rintro ⟨a,out,m,C⟩ ⟨⟨ha0,ha⟩,hm,hC,hw⟩
 dsimp only at ha0 ha hm hC hw ⊢
 by_cases hout : out.length ≤ n
 ·have hw2 : wm pts n 0 cs = (out ++ (wm pts (n - out.length) a.toNat C).1, (wm pts (n - out.length) a.toNat C).2) := by
   rcases hw with h|h
   ·exact h.2
   ·omega
  have hat : (a.toNat : Int) = a := Int.toNat_of_nonneg ha0
  have hnx := w.nx a.toNat (by omega)
  have hnl := w.nl a.toNat (by omega)
  have hn1 := wa.n a.toNat (by omega)
  have hk : ∀ k,k < pts[a.toNat]!.next.length → 0 ≤ pts[a.toNat]!.next[k]! ∧ pts[a.toNat]!.next[k]! < pts.length := fun k h => hnx _ (aS _ _ h)
  have hch := wI pts[a.toNat]! (by omega)
  repeat' (first|(apply aF;first|(apply aA (k := 33);rfl;exact hch;exact Pur.pf;rfl)|(apply Lz;rfl;rfl;rfl)|(apply aJ (t := _);rfl;rfl;rfl;exact (rfl:_=some [_]);rfl;rfl))|refine aE ?_|(refine aK ?_ ?_ <;> intro hc hq <;> try (exfalso;omega))|refine bH ?_|fail)
  ·have hop : pts[a.toNat]!.op = 11 := by assumption
   have e : wm pts n 0 cs = (out ++ [a],true) := by rw [hw2,KT hop,hat]
   rw [e]
   (refine aO (Le.frzD (d := 6) (i := 2) rfl rfl) ?_; refine aC rfl ?_)
   refine ⟨?_,(by exact Pur.pf)⟩
   simp only [aM,sl]
   rw [hm,List.length_append]; rfl
  ·have hop : ¬ pts[a.toNat]!.op = 11 := by assumption
   have hst := K8 hop hout (Ob (by omega)) hw2
   rw [hat] at hst
   have hk := hk 0 (by omega)
   (refine bB (pts[a.toNat]!.next[0]!,_,_,C) (Le.renA [(0,2)]) ?_ ?_)
   ·exact ⟨hk,by dsimp only;rw [List.length_append,hm]; rfl,hC,hst⟩
   ·dsimp only;rw [List.length_append]; simp only [List.length_singleton]; omega
  ·have hop : ¬ pts[a.toNat]!.op = 11 := by assumption
   have hC0 : 0 < C.length := by omega
   have hst := K8 hop hout (QD (by omega) hC0) hw2
   rw [hat] at hst
   have hk := hk (C[0]! % 2).toNat (by omega)
   have hCe : List.take (C.length - Int.toNat 1) (List.drop (Int.toNat 1) C) = C.drop 1 := List.take_of_length_le (by rw [List.length_drop]; exact Nat.le_refl _)
   rw [hCe]
   (refine bB (pts[a.toNat]!.next[(C[0]! % 2).toNat]!,_,_,C.drop 1) (Le.renA [(0,2)]) ?_ ?_)
   ·exact ⟨hk,by dsimp only;rw [List.length_append,hm]; rfl,by dsimp only;rw [List.length_drop]; omega,hst⟩
   ·dsimp only;rw [List.length_append]; simp only [List.length_singleton]; omega
  ·have hop : ¬ pts[a.toNat]!.op = 11 := by assumption
   have hC0 : C = [] := List.eq_nil_of_length_eq_zero (by omega)
   subst hC0
   have hst := K8 hop hout (Q7 (by omega)) hw2
   rw [hat] at hst
   have hk := hk 1 (by omega)
   (refine bB (pts[a.toNat]!.next[1]!,_,_,[]) (Le.renA [(0,2)]) ?_ ?_)
   ·exact ⟨hk,by dsimp only;rw [List.length_append,hm]; rfl,hC,hst⟩
   ·dsimp only;rw [List.length_append]; simp only [List.length_singleton]; omega
 ·have hw2 : out.length = n + 1 ∧ wm pts n 0 cs = (out.take n, false) := by
   rcases hw with h|h
   ·omega
   ·exact h
  repeat' (first|(apply aF;(apply gR (d := 59) (l := 0) (h := n);rfl;rfl;rfl;exact rH rfl (by omega);exact if_pos (by omega);rfl))|refine aE ?_|(refine aK ?_ ?_ <;> intro hc hq <;> try (exfalso;omega))|fail)
  refine aO (Le.cut (i := 0) (n * 1) rfl) ?_
  refine aO (Le.frzD (d := 6) (i := 0) rfl rfl) ?_
  rw [hw2.2,dL cI (e := 1)]
  refine aC (l := [.imm (n - 0) (flat cI (out.take n)),bv false]) rfl ⟨?_,(by exact Pur.pf)⟩
  rw [eW (by rw [List.length_take]; omega)]
  rfl
theorem Mp {p:Prg}{cs:List Int}{n:Int}{x0 x1 x2:Operand}(ha0:ev (lk tsl) x0 = some (bI p)) (ha1:ev (lk tsl) x1 = some (sl cI cs)) (ha2:ev (lk tsl) x2 = some (iv n)) (hmc:MC Tryz.prog 34 [bI p,sl cI cs,iv n] [] 0 (fun _:Unit => True) (fun _ => .tup [.optr 1 0,iv 5,iv 0]) (fun _ => [(1,some ([.v (.pointer none),.imm 0 [],.imm 0 [],.imm 0 []]))])) (hM:Nat.ble (nidl + 2) a6 = true) (hN:Nat.blt d N = true){md':Md}[hmd:MdA md (fF [x0,x1,x2] ++ []) (List.map Sum.inr (List.map Prod.fst ([((nidl + 1),some ([.v (.pointer none),.imm 0 [],.imm 0 [],.imm 0 []]))]:List (Nat × Option (List AV)))) ++ [.inl d]) md'] (kk:RW Tryz.prog N all Q md' rest ⟨(d,.tup [.optr (nidl + 1) 0,iv 5,iv 0]) :: tsl,gD hsl [((nidl + 1),some ([.v (.pointer none),.imm 0 [],.imm 0 [],.imm 0 []]))],nidl + 2,z0⟩):RW Tryz.prog N all Q md (⟨some d,.call ⟨.value (.func 34),#[x0,x1,x2],tys⟩,ty,pos,af,none⟩ :: rest) ⟨tsl,hsl,nidl,z0⟩:=by
 exact aX (l := [x0,x1,x2]) [] 2 [((nidl + 1),some ([.v (.pointer none),.imm 0 [],.imm 0 [],.imm 0 []]))] hmc (avs := [bI p,sl cI cs,iv n]) (by simp only [evL,ha0,ha1,ha2]) rfl hM hN (md' := md') (hmd := hmd) kk
theorem Le.nilMid {ts:List (Nat × AV)}{hs:List (Nat × Option (List AV))}{n:Nat}{z0:Lo}{i:Nat}(c1:List AV){c2:List AV}(hi:aT hs i = some (c1 ++ .v (.slice none 0 0) :: c2)) :
  Le ⟨ts,hs,n,z0⟩ ⟨ts,(i,some (c1 ++ .imm 0 [] :: c2)) :: hs,n,z0⟩ :=
 Le.cells hi (by simp) fun w bad ι b β h => tK (fun y hy => by have := nK (av := .v (.slice none 0 0)) hy;exact this) c1 c2 b β h
theorem Ps {ts:List Int}{pts:List Pnt}{a last:Nat}{l:List Nat}{s:Mc}:k7 ts pts (a :: l) s last = if (dS ts s pts[a]!).2 = -1 then k7 ts pts l (dS ts s pts[a]!).1 a else ((dS ts s pts[a]!).1,(dS ts s pts[a]!).2,a):=by
 rw [k7]
 by_cases h : cG ts s pts[a]! = true
 ·rw [if_pos h,w5 h,if_neg (show ¬ (2 : Int) = -1 by decide)]
 ·have h2 : cG ts s pts[a]! = false := by simpa using h
  rw [if_neg h,s7 h2]
theorem QO {ts:List Int}{nt:Nat}{s:Mc}(h:OkS nt s){x:Pnt}(hx:PtN x):OkS nt (dS ts s x).1:=by
 unfold dS;split
 ·exact h
 ·exact h.do hx
theorem Mk {ts:List Int}{s:Mc}{x:Pnt}:(dS ts s x).1.read.length ≤ s.read.length + 1:=by
 unfold dS;split
 ·dsimp only;omega
 ·exact BV
theorem RJ {ts:List Int}{s:Mc}{x:Pnt}(ho:x.op = 6) (hz:a8 s.cells s.slots[x.y.toNat]!.ptr false = 0) (hu:cG ts s x = false) (ht:ts[x.x.toNat]! = 1):(dS ts s x).2 = -1:=by
 rw [s7 hu]
 unfold cM
 rw [if_neg (show ¬ x.op = 1 by omega),if_neg (show ¬ x.op = 2 by omega),if_neg (show ¬ x.op = 3 by omega),if_neg (show ¬ (x.op = 4 ∨ x.op = 5) by omega),if_pos ho,if_pos hz]
 unfold bS
 rw [if_neg (fun h => by have := h.1;omega)]
theorem Pn (p:Prg) (cs:List Int) (n:Int) (hl:p.types.length ≤ 1048576) (hs:aR p.body ≤ 1048576) (hr:DW p n = false):MC Tryz.prog 34 [bI p,sl cI cs,iv n] [] 0 (fun _:Unit => True) (fun _ => .tup [.optr 1 0,iv 5,iv 0]) (fun _ => [(1,some ([.v (.pointer none),.imm 0 [],.imm 0 [],.imm 0 []]))]):=by
 have hg := dK p hl hs
 unfold DW at hr
 by_cases hv : bE p = true
 ·rw [if_pos hv] at hg
  rw [hv] at hr
  have hnn : ¬ (0 ≤ n ∧ n ≤ 150) := fun h => by rw [decide_eq_true h.1,decide_eq_true h.2] at hr;cases hr
  refine aU Tryz.func34 Tryz.ntmps34 ?_
  repeat' (first|(apply aF;first|(apply aA (k := 17);rfl;exact hg;exact Pur.pf;rfl)|(apply aA (k := 47);rfl;(apply cY);(rfl);rfl))|refine aE ?_|(refine aK ?_ ?_ <;> intro hc hq <;> try (exfalso;omega))|fail)
  ·(refine aC rfl ?_; refine aP () trivial ?_ ⟨sE ?_, trivial⟩)
   ·rfl
   ·rfl
 ·rw [if_neg hv] at hg
  refine aU Tryz.func34 Tryz.ntmps34 ?_
  repeat' (first|(apply aF;(apply aA (k := 17);rfl;exact hg;exact Pur.pf;rfl))|refine aE ?_|fail)
  (refine aC rfl ?_; refine aP () trivial ?_ ⟨sE ?_,trivial⟩)
  ·rfl
  ·rfl
theorem O8 (p:Prg) (cs:List Int) (n:Nat) (q:Mc × Int × Nat) (hqq:q = jJ p.types (aD p) cs n) (hv:bE p = true) (hl:p.types.length ≤ 1048576) (hs:aR p.body ≤ 1048576) (hn:n ≤ 150) (hcl:cs.length ≤ 1048576):MC Tryz.prog 34 [bI p,sl cI cs,iv (n:Int)] [] 0 (fun _:Unit => True) (fun _ => .tup [.optr 2 0,iv q.2.1,iv (q.2.2:Int)]) (fun _ => [(2,some (mO p.types p.body (aD p) 1 3 q.1)),(1,some (flat dC q.1.slots)),(3,some (flat cI q.1.read))]):=by
 have hg := dK p hl hs
 rw [if_pos hv] at hg
 have w := WG.of_valid hv
 have wa := WA.of_valid hv
 have hru := PL p.types p.body (aD p) cs n w wa (by omega) hcl
 have htl := w.tl
 have hpl := w.pl
 have hL := Dn w wa n 0 cs w.p0
 have hLl := tF (pts := aD p) n 0 cs
 unfold jJ at hqq
 unfold wm at hru
 obtain ⟨L,hLe⟩ : ∃ L,L = (e6 (aD p) n 0 cs).1 := ⟨_,rfl⟩
 obtain ⟨dn,hdn⟩ : ∃ dn,dn = (e6 (aD p) n 0 cs).2 := ⟨_,rfl⟩
 rw [← hLe,← hdn] at hru
 rw [← hLe] at hqq hL hLl
 have hgx : ∀ i,i < L.length → (L.map (fun a : Nat => (a : Int)))[i]! = (L[i]! : Int) := fun i h => by rw [aY _ _ (by rw [List.length_map]; exact h),List.getElem_map,aY _ _ h]
 have hml : (L.map (fun a : Nat => (a : Int))).length = L.length := List.length_map _
 generalize (L.map (fun a : Nat => (a : Int))) = LI at *
 generalize hP : aD p = pts at *
 refine aU Tryz.func34 Tryz.ntmps34 ?_
 repeat' (first|(apply aF;first|(apply aA (k := 17);rfl;exact hg;exact Pur.pf;rfl)|(with_reducible apply aZ (d := 40))|(apply aA (k := 47);rfl;(apply cY);(rfl);rfl))|refine aE ?_|(refine aK ?_ ?_ <;> intro hc hq <;> try (exfalso;omega))|fail)
 refine bY ?_
 rw [show (List.replicate p.types.length ([Value.bool false,Value.int .i64 0,Value.int .i64 0,Value.int .i64 0].map AV.v)).flatten = flat dC (List.replicate p.types.length lN) from wN rfl]
 apply mQ
 case hl => rfl
 case hf => exact (rfl:_=some [_,_,AV.v (.slice none 0 0),AV.v (.slice none 0 0)])
 case hN => rfl
 repeat' (first|(apply aF;(with_reducible apply aZ (d := 43)))|refine aE ?_|fail)
 refine bY (cX ?_ (Le.nilMid (i := 2) [_,_] rfl))
 refine cX ?_ (Le.nilCell (i := 2) 1 [_,_,_] rfl (by decide) (by decide))
 repeat' (first|(apply aF;(apply aA (k := 72);rfl;exact hru;exact Pur.pf;rfl))|refine aE ?_|fail)
 refine aH (σ := Nat × Mc × Nat) [9,11,49,50] [] (fun k => [(51,iv (k.1 : Int)),(14,iv (k.2.2 : Int))]) (fun k => [(2,some (mO p.types p.body pts 1 3 k.2.1)),(1,some (flat dC k.2.1.slots)),(3,some (flat cI k.2.1.read))]) (fun k => k.1 ≤ L.length ∧ k7 p.types pts (L.drop k.1) k.2.1 k.2.2 = q ∧ OkS p.types.length k.2.1 ∧ k.2.1.read.length ≤ k.1) (fun k => L.length - k.1) (0,mc0 p.types.length,0) ⟨Nat.zero_le _,hqq.symm,OkS.mc0 _,Nat.le_refl _⟩ ?_
 rintro ⟨i,s,last⟩ ⟨hi,hf,hok,hrd⟩
 dsimp only at hi hf hok hrd ⊢
 by_cases hiL : i < L.length
 ·have hap := hL L[i]! (aS _ _ hiL)
  have hop := w.op L[i]! hap
  have hwx := w.x L[i]! hap
  have hwy := w.y L[i]! hap
  have hA := wa.a L[i]! hap
  have hg2 := hgx i hiL
  have hdr : L.drop i = L[i]! :: L.drop (i + 1) := by rw [List.drop_eq_getElem_cons hiL,aY _ _ hiL]
  rw [hdr,Ps] at hf
  have hpt : PtN pts[L[i]!]! := ⟨fun h => hA.n (.inr h)⟩
  have hdo := QO (ts := p.types) hok hpt
  have hdr2 := Mk (ts := p.types) (s := s) (x := pts[L[i]!]!)
  by_cases h6 : pts[L[i]!]!.op = 6 ∧ a8 s.cells s.slots[(pts[L[i]!]!).y.toNat]!.ptr false = 0 ∧ cG p.types s pts[L[i]!]! = false
  ·have hm6 := PV p.types p.body pts s pts[L[i]!]! htl hok.m hok.l h6.1 (by omega) (by omega) (by omega) h6.2.1 h6.2.2
   repeat' (first|(apply aF;(with_reducible apply aZ (d := 16)))|refine aE ?_|(refine aK ?_ ?_ <;> intro hc hq <;> try (exfalso;omega))|fail)
   refine bY ?_
   rw [hg2]
   repeat' (first|(apply aF;(apply Ni (ts := p.types) (bd := p.body) (pts := pts) (s := s) (x := pts[L[i]!]!);rfl;rfl;rfl;rfl;rfl;rfl;exact hm6;rfl;rfl))|refine aE ?_|(refine aK ?_ ?_ <;> intro hc hq <;> try (exfalso;omega))|fail)
   ·exfalso
    have h9 : ¬ (dS p.types s pts[L[i]!]!).2 = -1 := by assumption
    exact h9 (RJ h6.1 h6.2.1 h6.2.2 (hA.t6 h6.1).1)
   ·(refine bB (i + 1, (dS p.types s pts[L[i]!]!).1, L[i]!) (Le.renA [(1, 1), (2, 2), (3, 6)]) ?_ ?_)
    ·refine ⟨by dsimp only; omega, ?_, hdo, by dsimp only; omega⟩
     dsimp only
     rw [if_pos (by assumption)] at hf
     exact hf
    ·dsimp only;omega
  ·have hmd := QN p.types p.body pts s pts[L[i]!]! htl hok.m hok.l hop (by omega) (fun h => by omega) (fun h h2 => by omega) (fun h => hA.n (.inr h)) h6
   repeat' (first|(apply aF;(with_reducible apply aZ (d := 16)))|refine aE ?_|(refine aK ?_ ?_ <;> intro hc hq <;> try (exfalso;omega))|fail)
   refine bY ?_
   rw [hg2]
   repeat' (first|(apply aF;(apply O9 (ts := p.types) (bd := p.body) (pts := pts) (s := s) (x := pts[L[i]!]!);rfl;rfl;rfl;rfl;rfl;rfl;exact hmd;rfl;rfl))|refine aE ?_|(refine aK ?_ ?_ <;> intro hc hq <;> try (exfalso;omega))|fail)
   ·have h9 : ¬ (dS p.types s pts[L[i]!]!).2 = -1 := by assumption
    rw [if_neg h9] at hf
    rw [← hf]
    (refine aC rfl ?_; refine aP () trivial ?_ ⟨sE ?_,⟨sE ?_,⟨sE ?_,trivial⟩⟩⟩)
    ·rfl
    ·rfl
    ·rfl
    ·rfl
   ·(refine bB (i + 1, (dS p.types s pts[L[i]!]!).1, L[i]!) (Le.renA [(1, 1), (2, 2), (3, 3)]) ?_ ?_)
    ·refine ⟨by dsimp only; omega, ?_, hdo, by dsimp only; omega⟩
     dsimp only
     rw [if_pos (by assumption)] at hf
     exact hf
    ·dsimp only;omega
 ·repeat' (first | refine aE ?_ | (refine aK ?_ ?_ <;> intro hc hq <;> try (exfalso; omega))|fail)
  have hie : i = L.length := by omega
  have hq2 : q = (s,1,last) := by rw [← hf,hie,List.drop_length]; rfl
  rw [hq2]
  (refine aC rfl ?_; refine aP () trivial ?_ ⟨sE ?_,⟨sE ?_,⟨sE ?_,trivial⟩⟩⟩)
  ·rfl
  ·rfl
  ·rfl
  ·rfl
theorem Lh {p:Prg}{cs:List Int}{n:Int}{q:Mc × Int × Nat}{x0 x1 x2:Operand}(ha0:ev (lk tsl) x0 = some (bI p)) (ha1:ev (lk tsl) x1 = some (sl cI cs)) (ha2:ev (lk tsl) x2 = some (iv n)) (hmc:MC Tryz.prog 34 [bI p,sl cI cs,iv n] [] 0 (fun _:Unit => True) (fun _ => .tup [.optr 2 0,iv q.2.1,iv (q.2.2:Int)]) (fun _ => [(2,some (mO p.types p.body (aD p) 1 3 q.1)),(1,some (flat dC q.1.slots)),(3,some (flat cI q.1.read))])) (hM:Nat.ble (nidl + 4) a6 = true) (hN:Nat.blt d N = true){md':Md}[hmd:MdA md (fF [x0,x1,x2] ++ []) (List.map Sum.inr (List.map Prod.fst ([((nidl + 2),some (mO p.types p.body (aD p) (nidl + 1) (nidl + 3) q.1)),((nidl + 1),some (flat dC q.1.slots)),((nidl + 3),some (flat cI q.1.read))]:List (Nat × Option (List AV)))) ++ [.inl d]) md'] (kk:RW Tryz.prog N all Q md' rest ⟨(d,.tup [.optr (nidl + 2) 0,iv q.2.1,iv (q.2.2:Int)]) :: tsl,gD hsl [((nidl + 2),some (mO p.types p.body (aD p) (nidl + 1) (nidl + 3) q.1)),((nidl + 1),some (flat dC q.1.slots)),((nidl + 3),some (flat cI q.1.read))],nidl + 4,z0⟩):RW Tryz.prog N all Q md (⟨some d,.call ⟨.value (.func 34),#[x0,x1,x2],tys⟩,ty,pos,af,none⟩ :: rest) ⟨tsl,hsl,nidl,z0⟩:=by
 exact aX (l := [x0,x1,x2]) [] 4 [((nidl + 2),some (mO p.types p.body (aD p) (nidl + 1) (nidl + 3) q.1)),((nidl + 1),some (flat dC q.1.slots)),((nidl + 3),some (flat cI q.1.read))] hmc (avs := [bI p,sl cI cs,iv n]) (by simp only [evL,ha0,ha1,ha2]) rfl hM hN (md' := md') (hmd := hmd) kk
theorem wY (p:Prg) (cs:List Int) (most:Int) (hl:p.types.length ≤ 1048576) (hs:aR p.body ≤ 1048576) (hcl:cs.length ≤ 1048576):PC Tryz.prog 13 [bI p,sl cI cs,iv most] (fun r => r = .tup (if DW p most = true then [iv (jJ p.types (aD p) cs most.toNat).2.1,iv (jJ p.types (aD p) cs most.toNat).2.2] else [iv 5,iv 0])):=by
 by_cases h : DW p most = true
 ·have h' := h
  unfold DW at h'
  simp only [Bool.and_eq_true,decide_eq_true_eq] at h'
  obtain ⟨hv,h0,h1⟩ := h'
  have hru := O8 p cs most.toNat _ rfl hv hl hs (by omega) hcl
  have hok := O0 (cs := cs) (n := most.toNat) hv
  have hrl := DD (ts := p.types) (pts := aD p) (cs := cs) (n := most.toNat) (by omega)
  have htl := (WG.of_valid hv).tl
  rw [Int.toNat_of_nonneg h0] at hru
  rw [if_pos h]
  have hon := Int.toNat_of_nonneg h0
  have hm := hok.m
  have hml := hm.l
  have hsl := hok.l
  generalize jJ p.types (aD p) cs most.toNat = q at *
  refine aB Tryz.func13 Tryz.ntmps13 ?_
  repeat' (first|(apply aF;(apply Lh (p := p) (cs := cs) (n := most) (q := q);rfl;rfl;rfl;exact hru;rfl;rfl))|refine aE ?_|fail)
  exact aC (l := [iv q.2.1,iv q.2.2]) rfl ⟨rfl,rfl⟩
 ·rw [if_neg h]
  have h2 : DW p most = false := by simpa using h
  refine aB Tryz.func13 Tryz.ntmps13 ?_
  repeat' (first|(apply aF;(apply Mp (p := p) (cs := cs) (n := most);rfl;rfl;rfl;exact Pn p cs most hl hs h2;rfl;rfl))|refine aE ?_|fail)
  exact aC (l := [iv 5,iv 0]) rfl ⟨rfl,rfl⟩
def R5 (pts : List Pnt) (W : List Nat) (i : Nat) : List Int := if pts[W[i]!]!.next.length = 2 then [if pts[W[i]!]!.next[0]! = (W[i + 1]! : Int) then 0 else 1] else []
def Bg (pts : List Pnt) (W : List Nat) (k : Nat) : List Int := (List.range k).flatMap (R5 pts W)
theorem JH {pts:List Pnt}{W:List Nat}{k:Nat}(h:pts[W[k]!]!.next.length = 2):Bg pts W (k + 1) = Bg pts W k ++ [if pts[W[k]!]!.next[0]! = (W[k + 1]!:Int) then 0 else 1]:=by
 unfold Bg;rw [List.range_succ,List.flatMap_append]; simp only [List.flatMap_cons,List.flatMap_nil,List.append_nil]; unfold R5;rw [if_pos h]
theorem KA {pts:List Pnt}{W:List Nat}{k:Nat}(h:¬ pts[W[k]!]!.next.length = 2):Bg pts W (k + 1) = Bg pts W k:=by
 unfold Bg;rw [List.range_succ,List.flatMap_append]; simp only [List.flatMap_cons,List.flatMap_nil,List.append_nil]; unfold R5;rw [if_neg h,List.append_nil]
theorem p9 {pts:List Pnt}{W:List Nat}:∀ k,(Bg pts W k).length ≤ k
 | 0 => by simp [Bg]
 | k + 1 => by
  have := p9 (pts := pts) (W := W) k
  by_cases h : pts[W[k]!]!.next.length = 2
  ·rw [JH h,List.length_append]; simp;exact this
  ·rw [KA h]; omega
structure Wok (pts : List Pnt) (W : List Nat) : Prop where
 c : Chn pts W
 z : ∃ T,W = 0 :: T
 l : W.length ≤ 1000
theorem Fa {W:List Nat}{i:Nat}(h:i < W.length):(eJ W)[i]! = (W[i]!:Int):=by
 unfold eJ;rw [aY _ _ (by simpa using h),List.getElem_map,aY _ _ h]
theorem My (L:List Int) (n:Int) (hl:L.length ≤ 1048576):PC Tryz.prog 42 [sl cI L,iv n] (fun r => r = bv (decide (n ∈ L))):=by
 refine aB Tryz.func42 Tryz.ntmps42 ?_
 repeat' (first|refine aE ?_|fail)
 refine aH (σ := Nat) [0,1] [] (fun k => [(5,iv (k : Int))]) (fun k => []) (fun k => k ≤ L.length ∧ ∀ j,j < k → L[j]! ≠ n) (fun k => L.length - k) (0) ⟨by omega,by omega⟩ ?_
 rintro k ⟨hk,hall⟩
 repeat' (first|refine aE ?_|(refine aK ?_ ?_ <;> intro hc hq <;> try (exfalso;omega))|fail)
 ·refine aC rfl ⟨?_, rfl⟩
  simp only [aM]
  rw [decide_eq_true (by have h := aS L k (by omega);rw [hq] at h;exact h)]
 ·(refine bB (k + 1) (Le.renA []) ?_ ?_)
  ·exact ⟨by omega, fun j hj => by
    by_cases e : j = k
    ·subst e;exact hq
    ·exact hall j (by omega)⟩
  ·omega
 ·refine aC rfl ⟨?_, rfl⟩
  simp only [aM]
  rw [decide_eq_false (fun h => by
   obtain ⟨j,hj,e⟩ := List.getElem_of_mem h
   exact hall j (by omega) (by rw [aY _ _ hj]; exact e))]
theorem Wok.at {ts:List Int}{pts:List Pnt}{W:List Nat}(w:WG ts pts) (h:Wok pts W){i:Nat}(hi:i + 1 < W.length):W[i]! < pts.length ∧ (eJ W)[i]! = (W[i]!:Int) ∧ (eJ W)[i + 1]! = (W[i + 1]!:Int) ∧ (W[i + 1]!:Int) ∈ pts[W[i]!]!.next ∧ pts[W[i]!]!.next.length ≤ 2:=by
 have he := Chn.at W i h.c hi
 exact ⟨he.1,Fa (by omega),Fa hi,he.2,w.nl _ he.1⟩
theorem Jw (p:Prg) (W:List Nat) (hW:Wok (aD p) W) (hv:bE p = true) (hl:p.types.length ≤ 1048576) (hs:aR p.body ≤ 1048576):PC Tryz.prog 12 [bI p,sl cI (eJ W)] (fun r => r = .tup [sl cI (Bg (aD p) W (W.length - 1)),bv true]):=by
 have w := WG.of_valid hv
 have hpl := w.pl
 have hg := dK p hl hs
 rw [if_pos hv] at hg
 have hWl := hW.l
 obtain ⟨T,hT⟩ := hW.z
 have hcl : (eJ W).length = W.length := c5 _
 have h0 : (eJ W)[0]! = 0 := by rw [hT]; rfl
 have hlen : 0 < W.length := by rw [hT]; simp
 have hbn : (if (0 : Int) ≤ ((eJ W).length : Int) - 1 then some (((eJ W).length : Int) - 1).toNat else none) = some (W.length - 1) := by
  rw [if_pos (by omega)]; congr 1;omega
 have hbb : 0 ≤ W.length - 1 ∧ W.length - 1 ≤ (eJ W).length := ⟨Nat.zero_le _,by omega⟩
 have hV : (((eJ W).drop 0).take (W.length - 1 - 0)).length = W.length - 1 := by rw [List.length_take,List.length_drop]; omega
 have hVg : ∀ k, k < W.length - 1 → (((eJ W).drop 0).take (W.length - 1 - 0))[k]! = (eJ W)[k]! := fun k hk => by
  rw [List.drop_zero,Nat.sub_zero,aY _ _ (by rw [List.length_take]; omega),aY _ _ (by omega),List.getElem_take]
 generalize hVe : ((eJ W).drop 0).take (W.length - 1 - 0) = V at *
 refine aB Tryz.func12 Tryz.ntmps12 ?_
 repeat' (first|(apply aF;first|(apply aA (k := 17);rfl;exact hg;exact Pur.pf;rfl)|(apply x8 (l := 0) (h := W.length - 1);rfl;infer_instance;rfl;exact hbn;exact hbb;rfl);rw [hVe])|refine aE ?_|(refine aK ?_ ?_ <;> intro hc hq <;> try (exfalso;omega))|(refine bK ?_ ?_ <;> intro hg hq <;> try (exfalso;omega))|fail)
 ·exfalso;exact (by assumption : ¬ (eJ W)[Int.toNat 0]! = 0) h0
 refine AW.le ?_ (Le.nilOwn (d := 8) 1 rfl (by decide))
 refine aH (σ := Nat × List Int × Nat) [1,6,35,36] [0] (fun k => [(37,iv (k.1 : Int)),(8,.own 1 0 k.2.2 1)]) (fun k => [(1,some (flat cI k.2.1))]) (fun k => k.1 ≤ W.length - 1 ∧ k.2.1 = Bg (aD p) W k.1 ∧ k.2.2 = k.2.1.length) (fun k => W.length - 1 - k.1) (0,[],0) ⟨Nat.zero_le _,rfl,rfl⟩ ?_
 rintro ⟨k,xs,m⟩ ⟨hk,hxs,hm⟩
 dsimp only at hk hxs hm
 try dsimp only
 have hxl := p9 (pts := aD p) (W := W) k
 rw [← hxs] at hxl
 by_cases hkn : k < W.length - 1
 ·obtain ⟨a1, a2, a3, a4, a5⟩ := hW.at w (i := k) (by omega)
  have hVk : V[((k : Nat) : Int).toNat]! = (W[k]! : Int) := (hVg k hkn).trans a2
  have hct := oO (aD p)[W[k]!]!.next (W[k + 1]! : Int) (by omega)
  rw [decide_eq_true a4] at hct
  have hw2 := JH (pts := aD p) (W := W) (k := k)
  have hw1 := KA (pts := aD p) (W := W) (k := k)
  rw [← hxs] at hw2 hw1
  generalize W[k]! = a at *
  generalize W[k + 1]! = b at *
  repeat' (first|(apply aF;(with_reducible apply aZ (d := 42)))|refine aE ?_|(refine aK ?_ ?_ <;> intro hc hq <;> try (exfalso;omega))|fail)
  refine bY ?_
  first|rw [hVk]|rw [show V[k]! = (a : Int) from hVk]
  have hch := wI (aD p)[a]! (by omega)
  have a3' : (eJ W)[((k : Int) + 1).toNat]! = (b : Int) := a3
  repeat' (first|(apply aF;first|(apply aA (k := 33);rfl;exact hch;exact Pur.pf;rfl)|(apply aJ (t := _);rfl;rfl;rfl;exact (rfl:_=some [_]);rfl;rfl)|(apply aA (k := 32);rfl;(apply oO <;> (omega));exact Pur.pf;rfl))|refine aE ?_|(refine aK ?_ ?_ <;> intro hc hq <;> try (exfalso;omega))|refine bH ?_|fail)
  ·exfalso
   exact (by assumption : ¬ (eJ W)[((k : Int) + 1).toNat]! ∈ (aD p)[a]!.next) (by rw [a3']; exact a4)
  all_goals try simp only [a3'] at *
  ·have e1 := hw2 (by assumption)
   have e0 : (aD p)[a]!.next[0]! = (b : Int) := Eq.symm (by assumption)
   rw [if_pos e0] at e1
   (refine bB (k + 1,_,m + 1) (Le.renA [(0,0),(1,4)]) ?_ ?_)
   ·exact ⟨by dsimp only;omega,e1.symm,by simp [hm]⟩
   ·dsimp only;omega
  ·have e1 := hw2 (by assumption)
   have e0 : ¬ (aD p)[a]!.next[0]! = (b : Int) := fun q => (by assumption : ¬ (b : Int) = (aD p)[a]!.next[Int.toNat 0]!) q.symm
   rw [if_neg e0] at e1
   (refine bB (k + 1,_,m + 1) (Le.renA [(0,0),(1,4)]) ?_ ?_)
   ·exact ⟨by dsimp only;omega,e1.symm,by simp [hm]⟩
   ·dsimp only;omega
  ·have e1 := hw1 (by assumption)
   (refine bB (k + 1,xs,m) (Le.renA [(0,0),(1,1)]) ?_ ?_)
   ·exact ⟨by dsimp only;omega,e1.symm,hm⟩
   ·dsimp only;omega
 ·obtain rfl : k = W.length - 1 := by omega
  repeat' (first|refine aE ?_|(refine aK ?_ ?_ <;> intro hc hq <;> try (exfalso;omega))|fail)
  refine aO (Le.frzD (d := 4) (i := 1) rfl rfl) ?_
  refine aC (l := [_,bv true]) rfl ⟨?_,(by exact Pur.pf)⟩
  subst hm;rw [hxs]; rfl
theorem IA (p:Prg) (W:List Nat) (hW:Wok (aD p) W) (hv:bE p = true) (hl:p.types.length ≤ 1048576) (hs:aR p.body ≤ 1048576):PC Tryz.prog 15 [bI p,sl cI (eJ W)] (fun r => r = .tup [sl cI (Bg (aD p) W (W.length - 1)),bv true]):=by
 have w := WG.of_valid hv
 have hpl := w.pl
 have hp0 := w.p0
 have hg := r7 p hl hs
 rw [if_pos hv] at hg
 have hWl := hW.l
 obtain ⟨T,hT⟩ := hW.z
 have hcl : (eJ W).length = W.length := c5 _
 have h0 : (eJ W)[0]! = 0 := by rw [hT]; rfl
 have hlen : 0 < W.length := by rw [hT]; simp
 refine aB Tryz.func15 Tryz.ntmps15 ?_
 repeat' (first|(apply aF;(apply aA (k := 41);rfl;exact hg;exact Pur.pf;rfl))|refine aE ?_|(refine aK ?_ ?_ <;> intro hc hq <;> try (exfalso;omega))|(refine bK ?_ ?_ <;> intro hg hq <;> try (exfalso;omega))|fail)
 ·exfalso;exact (by assumption : ¬ (eJ W)[Int.toNat 0]! = 0) h0
 refine aH (σ := Nat × List Int × Nat) [1,7] [0] (fun s => [(8,iv (s.1 : Int)),(6,.own 1 0 s.2.2 1)]) (fun s => [(1,some (flat cI s.2.1))]) (fun s => 1 ≤ s.1 ∧ s.1 ≤ W.length ∧ s.2.1 = Bg (aD p) W (s.1 - 1) ∧ s.2.2 = s.2.1.length) (fun s => W.length - s.1) (1,[],0) ⟨Nat.le_refl _,hlen,rfl,rfl⟩ ?_
 rintro ⟨i,xs,m⟩ ⟨hi1,hi2,hxs,hm⟩
 dsimp only at hi1 hi2 hxs hm
 try dsimp only
 have hxl := p9 (pts := aD p) (W := W) (i - 1)
 rw [← hxs] at hxl
 by_cases hin : i < W.length
 ·obtain ⟨k, rfl⟩ : ∃ k, i = k + 1 := ⟨i - 1, by omega⟩
  rw [Nat.add_sub_cancel] at hxs hxl
  obtain ⟨a1,a2,a3,a4,a5⟩ := hW.at w hin
  have hw2 := JH (pts := aD p) (W := W) (k := k)
  have hw1 := KA (pts := aD p) (W := W) (k := k)
  rw [← hxs] at hw2 hw1
  generalize W[k]! = a at *
  generalize W[k + 1]! = b at *
  have hA : (eJ W)[(((k + 1 : Nat) : Int) - 1).toNat]! = (a : Int) := by
   rw [show (((k + 1 : Nat) : Int) - 1).toNat = k by omega]; exact a2
  have hB : (eJ W)[((k + 1 : Nat) : Int).toNat]! = (b : Int) := a3
  have hA0 : 0 ≤ (eJ W)[(((k + 1 : Nat) : Int) - 1).toNat]! := by omega
  have hA1 : (eJ W)[(((k + 1 : Nat) : Int) - 1).toNat]! < ((aD p).length : Int) := by omega
  have hA2 : (aD p)[((eJ W)[(((k + 1 : Nat) : Int) - 1).toNat]!).toNat]!.next.length ≤ 2 := by rw [hA,Int.toNat_natCast]; exact a5
  have hct := fun z => My (aD p)[((eJ W)[(((k + 1 : Nat) : Int) - 1).toNat]!).toNat]!.next z (by omega)
  have hAA : (aD p)[((eJ W)[(((k + 1 : Nat) : Int) - 1).toNat]!).toNat]!.next = (aD p)[a]!.next := by rw [hA,Int.toNat_natCast]
  repeat' (first|(apply aF;first|(apply aA (k := 42);rfl;exact hct _;exact Pur.pf;rfl)|(apply aJ (t := _);rfl;rfl;rfl;(first|exact (rfl:_=some [_])|rfl);rfl;rfl))|refine aE ?_|(refine aK ?_ ?_ <;> intro hc hq <;> try (exfalso;omega))|refine bH ?_|fail)
  ·exfalso
   have q := (by assumption : ¬ (eJ W)[k + 1]! ∈ (aD p)[((eJ W)[(((k + 1 : Nat) : Int) - 1).toNat]!).toNat]!.next)
   rw [a3,hAA] at q;exact q a4
  ·have e2 := (by assumption : ((aD p)[((eJ W)[(((k + 1 : Nat) : Int) - 1).toNat]!).toNat]!.next.length : Int) = 2)
   have e0 := (by assumption : ¬ (aD p)[((eJ W)[(((k + 1 : Nat) : Int) - 1).toNat]!).toNat]!.next[Int.toNat 0]! = (eJ W)[k + 1]!)
   rw [a3,hAA] at e0
   rw [hAA] at e2
   have e1 := hw2 (by omega)
   rw [if_neg (show ¬ (aD p)[a]!.next[0]! = (b : Int) from e0)] at e1
   (refine bB (k + 1 + 1,_,m + 1) (Le.renA [(0,0),(1,3)]) ?_ ?_)
   ·exact ⟨by dsimp only;omega,by dsimp only;omega,e1.symm,by simp [hm]⟩
   ·dsimp only;omega
  ·have e2 := (by assumption : ((aD p)[((eJ W)[(((k + 1 : Nat) : Int) - 1).toNat]!).toNat]!.next.length : Int) = 2)
   have e0 := (by assumption : (aD p)[((eJ W)[(((k + 1 : Nat) : Int) - 1).toNat]!).toNat]!.next[Int.toNat 0]! = (eJ W)[k + 1]!)
   rw [a3,hAA] at e0
   rw [hAA] at e2
   have e1 := hw2 (by omega)
   rw [if_pos (show (aD p)[a]!.next[0]! = (b : Int) from e0)] at e1
   (refine bB (k + 1 + 1,_,m + 1) (Le.renA [(0,0),(1,3)]) ?_ ?_)
   ·exact ⟨by dsimp only;omega,by dsimp only;omega,e1.symm,by simp [hm]⟩
   ·dsimp only;omega
  ·have e2 := (by assumption : ¬ ((aD p)[((eJ W)[(((k + 1 : Nat) : Int) - 1).toNat]!).toNat]!.next.length : Int) = 2)
   rw [hAA] at e2
   have e1 := hw1 (by omega)
   (refine bB (k + 1 + 1,xs,m) (Le.renA [(0,0),(1,1)]) ?_ ?_)
   ·exact ⟨by dsimp only;omega,by dsimp only;omega,e1.symm,hm⟩
   ·dsimp only;omega
 ·obtain rfl : i = W.length := by omega
  repeat' (first|refine aE ?_|(refine aK ?_ ?_ <;> intro hc hq <;> try (exfalso;omega))|fail)
  refine aO (Le.frzD (d := 4) (i := 1) rfl rfl) ?_
  refine aC (l := [_,bv true]) rfl ⟨?_,(by exact Pur.pf)⟩
  subst hm;rw [hxs]; rfl
end Go.Proofs.YteidfaaldcedpaaGreatDoor
namespace Go.Proofs.YteidfaaldcedpaaGreatDoor
open Go.AL Go.ChangeShapes Go.WideShapes Go.ChangeAt Go.RowKit
theorem yD {w:World}{bad:Nat → Prop}{ι:Pl}{b:Nat}:∀ (bs:List UInt8) (o:Nat),¬ bad b → (∀ j,j < bs.length → w.cell? ⟨b,o + j,none⟩ = some (.int .u8 ((bs[j]!).toNat:Int))) → RdC w bad ι (flat cU bs) b o
 | [],_,_,_ => by simp only [flat,List.flatMap_nil,RdC]
 | x :: bs, o, hb, h => by
  have h0 := h 0 (by simp)
  have e : flat cU (x :: bs) = .v (.int .u8 (x.toNat : Int)) :: flat cU bs := rfl
  rw [e]
  simp only [RdC]
  refine ⟨⟨.int .u8 (x.toNat : Int),by simpa using h0,rfl,by simp only [Rd]⟩,yD bs (o + 1) hb fun j hj => ?_⟩
  have := h (j + 1) (by simpa using hj)
  rw [show o + 1 + j = o + (j + 1) from by omega]
  simpa using this
theorem RU:laidOutB Tryz.prog = true := by kernel_rfl
theorem Qm:Tryz.prog.cellsOf 5 = 1 := by kernel_rfl
theorem HZ {H:Type}{enc:TypeId × Value → H}{W:World}{base:Nat}{v0:Value}{d0:DataW H}{p:List MemPlace}(hval:Value.okWide Tryz.prog W .any base 22 v0) (h0:DataW.Trod enc Tryz.prog W 0 (fun _ => true) true 22 v0 d0 p) :
  ∃ bs : List UInt8,Rd W (fun _ => False) (fun _ => none) (sl cU bs) v0 := by
 obtain ⟨a0,len,cap,rfl⟩ := okWide_slice Tryz.underlying22 hval
 obtain ⟨fuel,hf⟩ := h0
 rcases open_ints Tryz.underlying22 Tryz.underlying5 Qm hf with ⟨hcs,hx⟩ | ⟨a,len',cap',zs,hcs,_,hl,hm,hz,hx,hcell,hwz⟩
 ·simp [Value.cells] at hcs
  obtain ⟨rfl,rfl,rfl⟩ := hcs
  refine ⟨[],?_⟩
  simp only [Rd]
  exact ⟨none,0,rfl,.inl rfl⟩
 ·simp [Value.cells] at hcs
  obtain ⟨rfl,rfl,rfl⟩ := hcs
  simp only [if_true] at hz
  refine ⟨(zs.take len).map fun n => UInt8.ofNat n.toNat,?_⟩
  have hlen : ((zs.take len).map fun n => UInt8.ofNat n.toNat).length = len := by simp;omega
  simp only [Rd]
  refine ⟨some a,cap,by rw [hlen],?_⟩
  by_cases h00 : len = 0
  ·exact .inl (by rw [hlen]; exact h00)
  ·obtain ⟨b, off, spot⟩ := a
   have hspot : spot = none := by simpa [Addr.add] using World.cell?_spot (hcell 0 (by omega))
   subst hspot
   refine .inr ⟨b,off,by rw [hlen]; exact hl,rfl,.inr ⟨fun h => h,yD _ _ (fun h => h) fun j hj => ?_⟩⟩
   rw [hlen] at hj
   have hcj := hcell j (by omega)
   rw [Addr.add_lit] at hcj
   rw [hcj]
   have e : zs.getD j 0 = zs[j]'(by omega) := by simp [List.getD,List.getElem?_eq_getElem (show j < zs.length by omega)]
   have hw := hwz (zs[j]'(by omega)) (List.getElem_mem _)
   have hr : 0 ≤ zs[j]'(by omega) ∧ zs[j]'(by omega) ≤ 255 := by simpa [Lit.wf,IntKind.min,IntKind.max,IntKind.signed,IntKind.bits] using hw
   rw [e,aY _ _ (by rw [hlen]; exact hj)]
   simp only [List.getElem_map,List.getElem_take]
   congr 2
   simp only [UInt8.toNat_ofNat']
   omega
theorem zT {P:Program}{k:FuncId}{avs:List AV}(h:PC P k avs (fun r => r = bv true)){W:World}{vs:List Value}(hv:RdV W (fun _ => False) (fun _ => none) avs vs) :
  Calls P k vs.toArray W fun e W' => e = .returned (.bool true) ∧ Below W.heap.size W W' := by
 let C : Ctx := { N := 0,w0 := W,W0 := fun _ => False,X := fun _ => False,ι0 := fun _ => none,xlt := fun _ h => h.elim }
 have hbad : ∀ b, ¬ aL C.X (fun _ => none) (aT []) b := by
  rintro b (h | ⟨id,cs,β,h1,h2⟩)
  ·exact h
  ·cases h2
 have g : HG C (fun _ => none) (fun j => 0 ≤ j) (aT []) W :=
  ⟨fun id cs h => by simp [aT] at h,fun id id' cs cs' b β β' h => by simp [aT] at h,Fr.refl _ _,fun _ _ h => h,fun _ _ => rfl⟩
 have hcar : Carry W (fun _ => False) (fun _ => none) W (aL C.X (fun _ => none) (aT [])) (fun _ => none) := ⟨fun b o x _ h2 => ⟨hbad b,h2⟩,fun _ _ h => h,fun _ => Nat.le_refl _⟩
 refine (h C _ W vs rfl rfl g (RdV.carry hcar _ _ hv)).mono ?_
 rintro e W' ⟨v'',r,H',ι',rfl,⟨rfl,_⟩,h4,h5⟩
 simp only [Rd] at h4
 subst h4
 have f := h5.fr
 exact ⟨rfl,f.os,f.tape,f.output,f.size,fun b hb => f.block b hb (fun h => h)⟩
end Go.Proofs.YteidfaaldcedpaaGreatDoor
namespace Go.Proofs.YteidfaaldcedpaaGreatDoor
open Go.AL Go.RowKit
def Qz (p : Prg) (cs : List Int) (n : Int) : Int := if DW p n = true then (jJ p.types (aD p) cs n.toNat).2.1 else 5
def RF (p : Prg) (cs : List Int) (n : Int) : Int := if DW p n = true then ((jJ p.types (aD p) cs n.toNat).2.2 : Int) else 0
theorem ID (p:Prg) (cs:List Int) (n:Int) (hl:p.types.length ≤ 1048576) (hs:aR p.body ≤ 1048576) (hcl:cs.length ≤ 1048576):PC Tryz.prog 13 [bI p,sl cI cs,iv n] (fun r => r = .tup [iv (Qz p cs n),iv (RF p cs n)]):=by
 have h := wY p cs n hl hs hcl
 unfold Qz RF
 split
 ·rename_i h2;rw [if_pos h2] at h;exact h
 ·rename_i h2;rw [if_neg h2] at h;exact h
theorem Jo (p:Prg) (cs:List Int) (n:Int) (hl:p.types.length ≤ 1048576) (hs:aR p.body ≤ 1048576) (hcl:cs.length ≤ 1048576):PC Tryz.prog 16 [bI p,sl cI cs,iv n] (fun r => r = .tup [iv (Qz p cs n),iv (RF p cs n)]):=by
 have h := w4 p cs n hl hs hcl
 unfold Qz RF
 split
 ·rename_i h2;rw [if_pos h2] at h;exact h
 ·rename_i h2;rw [if_neg h2] at h;exact h
theorem Nf (p:Prg) (x:Iss) (hl:p.types.length ≤ 1048576) (hs:aR p.body ≤ 1048576):∃ (way:List Int) (ok:Bool),
  PC Tryz.prog 11 [bI p,dY x] (fun r => r = .tup [sl cI way,bv ok]) ∧ PC Tryz.prog 14 [bI p,dY x] (fun r => r = .tup [sl cI way,bv ok]) ∧
  (ok = true → bE p = true ∧ ∃ W,way = eJ W ∧ Wok (aD p) W) := by
 cases hv : bE p
 ·exact ⟨[],false,M1 p x hv hl hs,EX p [] x (yQ p hv hl hs) (by simp) (by simp),fun h => Bool.noConfusion h⟩
 ·have w := WG.of_valid hv
  obtain ⟨f⟩ := Flows.ex w
  have e : H3 p f = f.iss := if_pos hv
  have hC := uH p f hl hs
  rw [e] at hC
  have hLl : f.iss.length ≤ 1048576 := Nat.le_trans (fK w f) (by decide)
  by_cases hx : x ∈ f.iss
  ·obtain ⟨j, hj, hje⟩ := List.getElem_of_mem hx
   have hok := (KG w f).1 j hj
   rw [aY _ _ hj,hje] at hok
   obtain ⟨pt,k,wi⟩ := x
   obtain ⟨a,rfl⟩ := Int.eq_ofNat_of_zero_le hok.p0
   have ha : a < (aD p).length := by have := hok.p1;dsimp only at this;omega
   have hpl := w.pl
   by_cases hk : k = 1
   ·refine ⟨_, true, Fg p f a k wi hk ha hv hx hl hs, F2 p f.iss a k wi hC hLl hk ha hv hx hs, fun _ => ⟨rfl, rC (aD p) a, rfl, (tI w.nx (Rch.of p) ha).1, pN w.nx (Rch.of p) ha, ?_⟩⟩
    have := oA w.nx w.p0 a;omega
   ·have hwi : 0 ≤ wi ∧ wi < (aD p).length := by
     rcases hok.k with h|h
     ·exact absurd h.1 hk
     ·exact h.2
    obtain ⟨l,rfl⟩ := Int.eq_ofNat_of_zero_le hwi.1
    have hll : l < (aD p).length := by omega
    rcases qJ (eH (aD p) a) (eO p.types (aD p) f.Af l) (aD p).length with ⟨hu,_⟩ | ⟨u,hun,hu,_,_,h3⟩
    ·exact ⟨[],false,MP p f a l k hk ha hll hv hx hl hs (by omega),LM p f f.iss a l k hC hLl hk ha hll hv hx hl hs (by omega),fun h => Bool.noConfusion h⟩
    ·by_cases h2 : Wy (aD p) l a
     ·have h2' := (j5 w.nx hll).2 h2
      refine ⟨_,true,LJ p f a l k hk ha hll hv hx hl hs u hu hun h2' h3,LQ p f f.iss a l k hC hLl hk ha hll hv hx hl hs u hu hun h2' h3,fun _ => ⟨rfl,rC (aD p) l ++ (eH (aD p) l a).drop 1 ++ (eH (aD p) a u).drop 1,?_,KL w.nx (Rch.of p) ha hll h2' h3,?_,?_⟩⟩
      ·unfold eJ;simp only [List.map_append,List.map_drop]
      ·obtain ⟨T, hT⟩ := pN w.nx (Rch.of p) hll
       rw [hT]; exact ⟨_,rfl⟩
      ·have h4 := oA w.nx w.p0 l
       have h5 := iL (x := a) w.nx hll
       have h6 := iL (x := u) w.nx ha
       simp only [List.length_append,List.length_drop]; omega
     ·exact ⟨[],false,Mm p f a l k hk ha hll hv hx hl hs u hu hun h2,Mn p f f.iss a l k hC hLl hk ha hll hv hx hl hs u hu h2,fun h => Bool.noConfusion h⟩
  ·exact ⟨[],false,Me p f x hv hx hl hs,EX p f.iss x hC hLl hx,fun h => Bool.noConfusion h⟩
theorem Ji (p:Prg) (x:Iss) (way:List Int) (h:PC Tryz.prog 11 [bI p,dY x] (fun r => r = .tup [sl cI way,bv false])):PC Tryz.prog 5 [bI p,dY x] (fun r => r = bv false):=by
 refine aB Tryz.func5 Tryz.ntmps5 ?_
 repeat' (first|(apply aF;(apply aA (k := 11);rfl;exact h;exact Pur.pf;rfl))|refine aE ?_|fail)
 exact aC rfl ⟨rfl,rfl⟩
theorem CC (p:Prg) (x:Iss) (way cs:List Int) (e a:Int) (h:PC Tryz.prog 11 [bI p,dY x] (fun r => r = .tup [sl cI way,bv true])) (h2:PC Tryz.prog 12 [bI p,sl cI way] (fun r => r = .tup [sl cI cs,bv true])) (h3:PC Tryz.prog 13 [bI p,sl cI cs,iv 150] (fun r => r = .tup [iv e,iv a])) :
  PC Tryz.prog 5 [bI p,dY x] (fun r => r = bv (decide (e ≠ 0) && decide (e ≠ 1))) := by
 refine aB Tryz.func5 Tryz.ntmps5 ?_
 repeat' (first|(apply aF;first|(apply aA (k := 11);rfl;exact h;exact Pur.pf;rfl)|(apply aA (k := 12);rfl;exact h2;exact Pur.pf;rfl)|(apply aA (k := 13);rfl;exact h3;exact Pur.pf;rfl))|refine aE ?_|(refine bK ?_ ?_ <;> intro hg hq <;> try (exfalso;omega))|fail)
 all_goals (refine aC rfl ⟨?_,rfl⟩; simp only [aM]; simp_all)
theorem Kq (p:Prg) (x:Iss) (way:List Int) (h:PC Tryz.prog 14 [bI p,dY x] (fun r => r = .tup [sl cI way,bv false])):PC Tryz.prog 6 [bI p,dY x] (fun r => r = bv false):=by
 refine aB Tryz.func6 Tryz.ntmps6 ?_
 repeat' (first|(apply aF;(apply aA (k := 14);rfl;exact h;exact Pur.pf;rfl))|refine aE ?_|fail)
 exact aC rfl ⟨rfl,rfl⟩
theorem BX (p:Prg) (x:Iss) (way cs:List Int) (e a:Int) (h:PC Tryz.prog 14 [bI p,dY x] (fun r => r = .tup [sl cI way,bv true])) (h2:PC Tryz.prog 15 [bI p,sl cI way] (fun r => r = .tup [sl cI cs,bv true])) (h3:PC Tryz.prog 16 [bI p,sl cI cs,iv 150] (fun r => r = .tup [iv e,iv a])) :
  PC Tryz.prog 6 [bI p,dY x] (fun r => r = bv (decide (e ≠ 0) && decide (e ≠ 1))) := by
 refine aB Tryz.func6 Tryz.ntmps6 ?_
 repeat' (first|(apply aF;first|(apply aA (k := 14);rfl;exact h;exact Pur.pf;rfl)|(apply aA (k := 15);rfl;exact h2;exact Pur.pf;rfl)|(apply aA (k := 16);rfl;exact h3;exact Pur.pf;rfl))|refine aE ?_|(refine bK ?_ ?_ <;> intro hg hq <;> try (exfalso;omega))|fail)
 all_goals (refine aC rfl ⟨?_,rfl⟩; simp only [aM]; simp_all)
theorem DY (bs:List UInt8) (hb:bs.length ≤ 1048576):PC Tryz.prog 4 [sl cU bs] (fun r => ∃ (q:Prg) (x:Iss),r = .tup [bI q,dY x] ∧ aR q.body ≤ 20000 ∧ q.types.length ≤ 1000):=by
 refine aB Tryz.func4 Tryz.ntmps4 ?_
 repeat' (first|(apply aF;first|(apply bC;rfl;rfl;rfl;rfl;rfl;(case hl => (simp;done));exact (rfl:_=[_,_,_]))|(apply jE (k := 10);rfl;exact Hf bs hb;exact Pur.pf;rfl;(rintro _ ⟨q,x,rfl,hq1,hq2⟩ _)))|refine aE ?_|fail)
 exact aC (l := [bI q,dY x]) rfl ⟨⟨q,x,rfl,hq1,hq2⟩,Pur.pf⟩
theorem Jp (p:Prg) (x:Iss) (hl:p.types.length ≤ 1048576) (hs:aR p.body ≤ 1048576):∃ (way:List Int) (ok:Bool) (cs:List Int) (e a:Int),PC Tryz.prog 11 [bI p,dY x] (fun r => r = .tup [sl cI way,bv ok]) ∧
  (ok = true → PC Tryz.prog 12 [bI p,sl cI way] (fun r => r = .tup [sl cI cs,bv true]) ∧ PC Tryz.prog 13 [bI p,sl cI cs,iv 150] (fun r => r = .tup [iv e,iv a]) ∧ bE p = true ∧ e = Qz p cs 150) ∧
  PC Tryz.prog 5 [bI p,dY x] (fun r => r = bv (ok && (decide (e ≠ 0) && decide (e ≠ 1)))) ∧ PC Tryz.prog 6 [bI p,dY x] (fun r => r = bv (ok && (decide (e ≠ 0) && decide (e ≠ 1)))) := by
 obtain ⟨way,ok,h1,h2,h3⟩ := Nf p x hl hs
 cases ok with
 | false => exact ⟨way,false,[],0,0,h1,fun h => Bool.noConfusion h,Ji p x way h1,Kq p x way h2⟩
 | true =>
  obtain ⟨hv,W,rfl,hW⟩ := h3 rfl
  have h4 := Jw p W hW hv hl hs
  have h5 := IA p W hW hv hl hs
  have hWl := hW.l
  have hwl := p9 (pts := aD p) (W := W) (W.length - 1)
  have h6 := ID p (Bg (aD p) W (W.length - 1)) 150 hl hs (by omega)
  have h7 := Jo p (Bg (aD p) W (W.length - 1)) 150 hl hs (by omega)
  exact ⟨_,true,_,_,_,h1,fun _ => ⟨h4,h6,hv,rfl⟩,CC p x _ _ _ _ h1 h4 h6,BX p x _ _ _ _ h2 h5 h7⟩
def smD : ByteArray := ⟨#[48,49,50,51,52,53,54,55,56,57,97,98,99,100,101,102,103,104,105,106,107,108,109,110,111,112,113,114,115,116,117,118,119,120,121,122]⟩
def smS : ByteArray := ⟨((List.range 100).flatMap fun k => [UInt8.ofNat (48 + k / 10),UInt8.ofNat (48 + k % 10)]).toArray⟩
theorem RR:∀ k:Nat,k < 10 → smD.extract (k:Int).toNat ((k:Int) + 1).toNat = iY k := by decide +kernel
theorem RX:∀ k:Nat,k < 100 → 10 ≤ k → smS.extract ((k:Int) * 2).toNat ((k:Int) * 2 + 2).toNat = iY k := by decide +kernel
theorem Sc {C:ByteArray}(hC:C = smD) (n:Int) (h0:0 ≤ n) (h1:n < 10):C.extract n.toNat (n + 1).toNat = iY n:=by
 subst hC
 obtain ⟨k,rfl⟩ := Int.eq_ofNat_of_zero_le h0
 exact RR k (by omega)
theorem Sf {C:ByteArray}(hC:C = smS) (n:Int) (h0:10 ≤ n) (h1:n ≤ 99):C.extract (n * 2).toNat (n * 2 + 2).toNat = iY n:=by
 subst hC
 obtain ⟨k,rfl⟩ := Int.eq_ofNat_of_zero_le (by omega : 0 ≤ n)
 exact RX k (by omega) (by omega)
instance : CaT Tryz.prog 169:=⟨by kernel_rfl⟩
instance : CaT Tryz.prog 143:=⟨by kernel_rfl⟩
instance : CaT Tryz.prog 94:=⟨by kernel_rfl⟩
theorem Nj (n:Int) (h0:0 ≤ n) (h1:n ≤ 99):PC Tryz.prog 169 [iv n] (fun r => r = sv (iY n)):=by
 refine aB Tryz.func169 Tryz.ntmps169 ?_
 repeat' (first|(apply aF;first|(apply rS (d := 8);rfl;exact kE rfl (by omega);exact kE rfl (by omega);exact ⟨by omega,Nat.le_trans (m := 36) (by omega) (by decide)⟩;rfl)|(apply rS (d := 14);rfl;exact kE rfl (by omega);exact kE rfl (by omega);exact ⟨by omega,Nat.le_trans (m := 200) (by omega) (by decide +kernel)⟩;rfl))|refine aE ?_|(refine aK ?_ ?_ <;> intro hc hq <;> try (exfalso;omega))|fail)
 ·refine aC rfl ⟨?_, rfl⟩
  exact congrArg (fun b => AV.v (.string b)) (Sc rfl n h0 (by omega))
 ·refine aC rfl ⟨?_, rfl⟩
  exact congrArg (fun b => AV.v (.string b)) (Sf (by decide +kernel) n (by omega) h1)
theorem rV (v:Int) (h0:0 ≤ v) (h1:v ≤ 25):PC Tryz.prog 55 [iv v] (fun r => r = sv (gC v)):=by
 refine aB Tryz.func55 Tryz.ntmps55 ?_
 repeat' (first|(apply aF;first|(apply Dy (ns := [_]);rfl;rfl;rfl)|(apply vW;rfl;omega;rfl))|refine aE ?_|refine cV ?_|fail)
 exact ⟨rfl,rfl⟩
theorem JM (n:Int) (h0:0 ≤ n) (h1:n ≤ 99):PC Tryz.prog 143 [iv n,iv 10] (fun r => r = sv (iY n)):=by
 have hs := Nj n h0 h1
 refine aB Tryz.func143 Tryz.ntmps143 ?_
 repeat' (first|(apply aF;(apply aA (k := 169);rfl;exact hs;(rfl);rfl))|refine aE ?_|(refine aK ?_ ?_ <;> intro hc hq <;> try (exfalso;omega))|(refine bK ?_ ?_ <;> intro hg hq <;> try (exfalso;omega))|fail)
 all_goals first
  | exact aC rfl ⟨rfl,rfl⟩
  | (exfalso;omega)
  | (exfalso;exact (by assumption : ¬ True) trivial)
theorem MQ (n:Int) (h0:0 ≤ n) (h1:n ≤ 99):PC Tryz.prog 94 [iv n] (fun r => r = sv (iY n)):=by
 have hs := JM n h0 h1
 refine aB Tryz.func94 Tryz.ntmps94 ?_
 repeat' (first|(apply aF;(apply aA (k := 143);rfl;exact hs;(rfl);rfl))|refine aE ?_|fail)
 exact aC rfl ⟨rfl,rfl⟩
theorem zO (n:Int) (h0:0 ≤ n) (h1:n ≤ 99):PC Tryz.prog 53 [iv n] (fun r => r = sv (iY n)):=by
 have hs := MQ n h0 h1
 refine aB Tryz.func53 Tryz.ntmps53 ?_
 repeat' (first|(apply aF;(apply aA (k := 94);rfl;exact hs;(rfl);rfl))|refine aE ?_|fail)
 exact aC rfl ⟨rfl,rfl⟩
theorem zC (o x y n:Int) (ho:1 ≤ o ∧ o ≤ 8) (hx:0 ≤ x ∧ x ≤ 5) (hy:0 ≤ y ∧ y ≤ 5) (hn:0 ≤ n ∧ n ≤ 9):PC Tryz.prog 95 [eQ (.mk o x y n [] [])] (fun r => r = sv (jW (.mk o x y n [] []))):=by
 have hi := zO n hn.1 (by omega)
 have hlx := rV x hx.1 (by omega)
 have hly := rV y hy.1 (by omega)
 rw [show iY n = AJ n from if_pos hn.2] at hi
 have hd := fY n
 refine aB Tryz.func95 Tryz.ntmps95 ?_
 repeat' (first|(apply aF;first|(apply aA (k := 53);rfl;exact hi;(rfl);rfl)|(apply aA (k := 55);rfl;exact hlx;(rfl);rfl)|(apply aA (k := 55);rfl;exact hly;(rfl);rfl)|(apply fO;rfl;rfl;(rfl);rfl))|refine aE ?_|(refine aK ?_ ?_ <;> intro hc hq <;> try (exfalso;omega))|refine bH ?_|fail)
 all_goals (refine aC rfl ⟨?_,rfl⟩; rw [yX]; (repeat' split))
 all_goals (first|rfl|(simp only [AL.Stmt.op] at *; omega))
theorem JU (x:Pnt) (h:PN x):PC Tryz.prog 54 [dJ x] (fun r => r = sv (C6 x)):=by
 rcases h with h|h|h | ⟨h1,h2,h3,h4,h5,h6,h7,h8⟩
 ·have e : C6 x = ⟨#[105, 102]⟩ := by unfold C6; rw [if_neg (by omega), if_pos h]
  rw [e]
  refine aB Tryz.func54 Tryz.ntmps54 ?_
  repeat' (first|refine aE ?_|(refine aK ?_ ?_ <;> intro hc hq <;> try (exfalso;omega))|fail)
  all_goals first|exact aC rfl ⟨rfl,rfl⟩|(exfalso;omega)
 ·have e : C6 x = if x.n = 1 then ⟨#[103, 111]⟩ else ⟨#[108, 111, 111, 112]⟩ := by unfold C6; rw [if_neg (by omega), if_neg (by omega), if_pos h]
  rw [e]
  refine aB Tryz.func54 Tryz.ntmps54 ?_
  repeat' (first|refine aE ?_|(refine aK ?_ ?_ <;> intro hc hq <;> try (exfalso;omega))|(refine bK ?_ ?_ <;> intro hg hq <;> try (exfalso;omega))|fail)
  all_goals first|(refine aC rfl ⟨?_,rfl⟩; rw [if_pos (by omega)]; rfl)|(refine aC rfl ⟨?_,rfl⟩; rw [if_neg (by omega)]; rfl)|(exfalso;omega)
 ·have e : C6 x = ⟨#[101, 110, 100]⟩ := by unfold C6; rw [if_pos h]
  rw [e]
  refine aB Tryz.func54 Tryz.ntmps54 ?_
  repeat' (first|refine aE ?_|(refine aK ?_ ?_ <;> intro hc hq <;> try (exfalso;omega))|fail)
  all_goals first|exact aC rfl ⟨rfl,rfl⟩|(exfalso;omega)
 ·have e : C6 x = jW (.mk x.op x.x x.y x.n [] []) := by unfold C6; rw [if_neg (by omega), if_neg (by omega), if_neg (by omega)]
  rw [e]
  have hs := zC x.op x.x x.y x.n ⟨h1,h2⟩ ⟨h3,h4⟩ ⟨h5,h6⟩ ⟨h7,h8⟩
  refine aB Tryz.func54 Tryz.ntmps54 ?_
  repeat' (first|(apply aF;first|(apply aA (k := 95);rfl;exact hs;(rfl);rfl)|(apply aA (k := 47);rfl;(apply cY);(rfl);rfl))|refine aE ?_|(refine aK ?_ ?_ <;> intro hc hq <;> try (exfalso;omega))|(refine bK ?_ ?_ <;> intro hg hq <;> try (exfalso;omega))|fail)
  all_goals first|exact aC rfl ⟨rfl,rfl⟩|(exfalso;omega)
theorem A8 (ts:List Int) (bd:List AL.Stmt) (pts:List Pnt) (a:Nat) (w:Int) (ha:a < pts.length) (hl:pts.length ≤ 99) (hp:PN pts[a]!) (hw:0 ≤ w ∧ w ≤ 25):PC Tryz.prog 20 [aG ts bd pts,dY ⟨(a:Int),1,w⟩] (fun r => r = sv (w6 pts ⟨(a:Int),1,w⟩)):=by
 have h1 := zO (a : Int) (by omega) (by omega)
 have h2 := JU pts[a]! hp
 have h3 := rV w hw.1 hw.2
 have z1 := oT (a : Int)
 have z2 := wH pts[a]!
 have z3 := hG w
 refine aB Tryz.func20 Tryz.ntmps20 ?_
 repeat' (first|(apply aF;first|(apply aA (k := 53);rfl;exact h1;(rfl);rfl)|(apply aA (k := 54);rfl;exact h2;exact Pur.pf;rfl)|(apply aA (k := 55);rfl;exact h3;(rfl);rfl)|(apply fO;rfl;rfl;(exact oC (by (simp only [ByteArray.size_append,jK,List.length_cons,List.length_nil,hG,fY,lJ] <;> omega)));rfl))|refine aE ?_|refine bH ?_|fail)
 all_goals first
  | exact aC rfl ⟨rfl,rfl⟩
  | (exfalso;omega)
  | (exfalso;exact (by assumption : ¬ True) trivial)
theorem z7 (ts:List Int) (bd:List AL.Stmt) (pts:List Pnt) (a l:Nat) (k:Int) (hk:k ≠ 1) (ha:a < pts.length) (hll:l < pts.length) (hl:pts.length ≤ 99) (hp:PN pts[a]!) (hq:PN pts[l]!):PC Tryz.prog 20 [aG ts bd pts,dY ⟨(a:Int),k,(l:Int)⟩] (fun r => r = sv (w6 pts ⟨(a:Int),k,(l:Int)⟩)):=by
 have h1 := zO (a : Int) (by omega) (by omega)
 have h2 := JU pts[a]! hp
 have h3 := zO (l : Int) (by omega) (by omega)
 have h4 := JU pts[l]! hq
 have z1 := oT (a : Int)
 have z2 := wH pts[a]!
 have z3 := oT (l : Int)
 have z4 := wH pts[l]!
 have e : w6 pts ⟨(a : Int),k,(l : Int)⟩ = ((((((iY (a : Int) ++ ⟨#[32]⟩) ++ C6 pts[a]!) ++ ⟨#[58,32]⟩) ++ ⟨#[108,111,97,110,32,111,102,32]⟩) ++ iY (l : Int)) ++ ⟨#[32]⟩) ++ C6 pts[l]! := if_neg hk
 rw [e]
 refine aB Tryz.func20 Tryz.ntmps20 ?_
 repeat' (first|(apply aF;first|(apply aA (k := 53);rfl;exact h1;(rfl);rfl)|(apply aA (k := 54);rfl;exact h2;exact Pur.pf;rfl)|(apply aA (k := 53);rfl;exact h3;(rfl);rfl)|(apply aA (k := 54);rfl;exact h4;exact Pur.pf;rfl)|(apply fO;rfl;rfl;(exact oC (by (simp only [ByteArray.size_append,jK,List.length_cons,List.length_nil,hG,fY,lJ] <;> omega)));rfl))|refine aE ?_|(refine aK ?_ ?_ <;> intro hc hq <;> try (exfalso;omega))|refine bH ?_|fail)
 all_goals first
  | exact aC rfl ⟨rfl,rfl⟩
  | (exfalso;omega)
  | (exfalso;exact (by assumption : ¬ True) trivial)
theorem L7 (p:Prg) (x:Iss) (hv:bE p = false) (hl:p.types.length ≤ 1048576) (hs:aR p.body ≤ 1048576):PC Tryz.prog 7 [bI p,dY x] (fun r => r = sv ⟨#[]⟩):=by
 have hg := dK p hl hs
 rw [if_neg (by simp [hv])] at hg
 refine aB Tryz.func7 Tryz.ntmps7 ?_
 repeat' (first|(apply aF;(apply aA (k := 17);rfl;exact hg;exact Pur.pf;rfl))|refine aE ?_|refine bH ?_|fail)
 all_goals exact aC rfl ⟨rfl,rfl⟩
theorem MJ (p:Prg) (f:Flows p.types (aD p)) (x:Iss) (hv:bE p = true) (hx:x ∉ f.iss) (hl:p.types.length ≤ 1048576) (hs:aR p.body ≤ 1048576):PC Tryz.prog 7 [bI p,dY x] (fun r => r = sv ⟨#[]⟩):=by
 have w := WG.of_valid hv
 have hg := dK p hl hs
 rw [if_pos hv] at hg
 have hi := gY p.types p.body (aD p) w f
 have hc := lS f.iss x (Nat.le_trans (fK w f) (by decide))
 rw [decide_eq_false hx] at hc
 refine aB Tryz.func7 Tryz.ntmps7 ?_
 repeat' (first|(apply aF;first|(apply aA (k := 17);rfl;exact hg;exact Pur.pf;rfl)|(apply aA (k := 19);rfl;exact hi;exact Pur.pf;rfl)|(apply aA (k := 18);rfl;exact hc;exact Pur.pf;rfl))|refine aE ?_|refine bH ?_|fail)
 all_goals exact aC rfl ⟨rfl,rfl⟩
theorem LA (p:Prg) (f:Flows p.types (aD p)) (x:Iss) (hv:bE p = true) (hx:x ∈ f.iss) (hl:p.types.length ≤ 1048576) (hs:aR p.body ≤ 1048576) (h:PC Tryz.prog 20 [aG p.types p.body (aD p),dY x] (fun r => r = sv (w6 (aD p) x))):PC Tryz.prog 7 [bI p,dY x] (fun r => r = sv (w6 (aD p) x)):=by
 have w := WG.of_valid hv
 have hg := dK p hl hs
 rw [if_pos hv] at hg
 have hi := gY p.types p.body (aD p) w f
 have hc := lS f.iss x (Nat.le_trans (fK w f) (by decide))
 rw [decide_eq_true hx] at hc
 refine aB Tryz.func7 Tryz.ntmps7 ?_
 repeat' (first|(apply aF;first|(apply aA (k := 17);rfl;exact hg;exact Pur.pf;rfl)|(apply aA (k := 19);rfl;exact hi;exact Pur.pf;rfl)|(apply aA (k := 18);rfl;exact hc;exact Pur.pf;rfl)|(apply aA (k := 20);rfl;exact h;exact Pur.pf;rfl))|refine aE ?_|refine bH ?_|fail)
 all_goals exact aC rfl ⟨rfl,rfl⟩
theorem CO (p:Prg) (i:Int) (f:Flows p.types (aD p)) (hl:p.types.length ≤ 1048576) (hs:aR p.body ≤ 1048576) (h:Q8 p i):PC Tryz.prog 9 [bI p,iv i] (fun r => r = sl cI (a7 f.Am[i.toNat]!)):=by
 have hg := GC p i hl hs h
 have w := WG.of_valid h.1
 have hpl := w.pl
 have htl := w.tl
 have hi : 0 ≤ i ∧ i < (aD p).length := h.2
 have hin : i.toNat < (aD p).length := by omega
 have b := f.bnd w
 have hsA := b.sM
 have hla := b.lm
 refine aB Tryz.func9 Tryz.ntmps9 ?_
 repeat' (first|(apply aF;first|(apply aA (k := 17);rfl;exact hg;exact Pur.pf;rfl)|(apply aA (k := 22);rfl;exact FN p.types p.body (aD p) f.Am w f.gm;exact Pur.pf;rfl)|(apply aJ (t := _);rfl;rfl;rfl;exact (rfl:_=some [_]);rfl;rfl)|(apply aA (k := 21);rfl;(apply fR <;> (infer_instance));(rfl);rfl))|refine aE ?_|fail)
 refine aC rfl ⟨rfl,(by (exact bD _ _))⟩
theorem Fl (pts:List Pnt):∀ W:List Nat,Bg pts W (W.length - 1) = G7 pts W
 | [] => rfl
 | [a] => rfl
 | a :: b :: l => by
  have ih := Fl pts (b :: l)
  rw [G7,← ih]
  unfold Bg
  rw [show (a :: b :: l).length - 1 = ((b :: l).length - 1) + 1 by simp,List.range_succ_eq_map,List.flatMap_cons,List.flatMap_map]
  rfl
theorem Kk (p:Prg) (x:Iss) (f:Flows p.types (aD p)) (hv:bE p = true) (hl:p.types.length ≤ 1048576) (hs:aR p.body ≤ 1048576):∃ s:ByteArray,PC Tryz.prog 7 [bI p,dY x] (fun r => r = sv s) ∧
  (s.toList == (⟨#[]⟩ : ByteArray).toList) = !decide (x ∈ f.iss) := by
 have w := WG.of_valid hv
 by_cases hx : x ∈ f.iss
 ·obtain ⟨j, hj, hje⟩ := List.getElem_of_mem hx
  have hok := (KG w f).1 j hj
  rw [aY _ _ hj,hje] at hok
  obtain ⟨pt,k,wi⟩ := x
  obtain ⟨a,rfl⟩ := Int.eq_ofNat_of_zero_le hok.p0
  have ha : a < (aD p).length := by have := hok.p1;dsimp only at this;omega
  have hpl := w.pl
  have htl := w.tl
  have hpa := Kz hv ha
  refine ⟨w6 (aD p) ⟨(a : Int),k,wi⟩,?_,by rw [MS,decide_eq_true hx]; rfl⟩
  refine LA p f _ hv hx hl hs ?_
  rcases hok.k with ⟨h1,h2⟩ | ⟨h1,h2⟩
  ·dsimp only at h1 h2
   subst h1
   exact A8 p.types p.body (aD p) a wi ha (by omega) hpa (by omega)
  ·dsimp only at h1 h2
   obtain ⟨l,rfl⟩ := Int.eq_ofNat_of_zero_le h2.1
   exact z7 p.types p.body (aD p) a l k (by omega) ha (by omega) (by omega) hpa (Kz hv (by omega))
 ·exact ⟨⟨#[]⟩,MJ p f x hv hx hl hs,by rw [decide_eq_false hx]; simp⟩
theorem LN (p:Prg) (x:Iss) (hl:p.types.length ≤ 1048576) (hs:aR p.body ≤ 1048576):∃ (real:Bool) (s:ByteArray) (ML:List Int) (b:Bool),PC Tryz.prog 5 [bI p,dY x] (fun r => r = bv real) ∧ PC Tryz.prog 6 [bI p,dY x] (fun r => r = bv real) ∧
  PC Tryz.prog 7 [bI p,dY x] (fun r => r = sv s) ∧ (s.toList == (⟨#[]⟩ : ByteArray).toList) = !b ∧ ML.length ≤ 62 ∧
  (b = true → x.kind = 1 → PC Tryz.prog 9 [bI p,iv x.point] (fun r => r = sl cI ML) ∧ (decide (x.with_ ∈ ML) || real) = true) := by
 obtain ⟨way,ok,cs,e,a,_,_,h3,h4⟩ := Jp p x hl hs
 cases hv : bE p with
 | false => exact ⟨_,⟨#[]⟩,[],false,h3,h4,L7 p x hv hl hs,by simp,by simp,fun h => Bool.noConfusion h⟩
 | true =>
  have w := WG.of_valid hv
  have A := WA.of_valid hv
  obtain ⟨f⟩ := Flows.ex w
  have htl := w.tl
  have hpl := w.pl
  obtain ⟨s,h5,h6⟩ := Kk p x f hv hl hs
  by_cases hx : x ∈ f.iss
  ·rw [decide_eq_true hx] at h6
   by_cases hk : x.kind = 1
   ·obtain ⟨a, v, rfl, ha, hvl, hu⟩ := Nn w f hx hk
    have e0 : H3 p f = f.iss := if_pos hv
    have hC := uH p f hl hs
    rw [e0] at hC
    have hLl : f.iss.length ≤ 1048576 := Nat.le_trans (fK w f) (by decide)
    have b := f.bnd w
    have hMS := CO p (a : Int) f hl hs ⟨hv,Int.natCast_nonneg _,by omega⟩
    have hW : Wok (aD p) (rC (aD p) a) := ⟨(tI w.nx (Rch.of p) ha).1,pN w.nx (Rch.of p) ha,by have := oA w.nx w.p0 a;omega⟩
    have g1 := Fg p f a 1 v rfl ha hv hx hl hs
    have g2 := F2 p f.iss a 1 v hC hLl rfl ha hv hx hs
    have g4 := Jw p _ hW hv hl hs
    have g5 := IA p _ hW hv hl hs
    have hwl := p9 (pts := aD p) (W := rC (aD p) a) ((rC (aD p) a).length - 1)
    have hWl := oA w.nx w.p0 a
    have g6 := ID p (Bg (aD p) (rC (aD p) a) ((rC (aD p) a).length - 1)) 150 hl hs (by omega)
    have g7 := Jo p (Bg (aD p) (rC (aD p) a) ((rC (aD p) a).length - 1)) 150 hl hs (by omega)
    have r1 := CC p _ _ _ _ _ g1 g4 g6
    have r2 := BX p _ _ _ _ _ g2 g5 g7
    refine ⟨_,s,a7 f.Am[((a : Nat) : Int).toNat]!,true,r1,r2,h5,h6,cK _,fun _ _ => ⟨hMS,?_⟩⟩
    by_cases hm : Mb p.types (aD p) (a,v)
    ·have hin : ((⟨(a : Int), 1, (v : Int)⟩ : Iss).with_) ∈ a7 f.Am[((a : Nat) : Int).toNat]! := cJ.2 ⟨v, by omega, (f.gm.2 a ha v).2 hm, rfl⟩
     rw [decide_eq_true hin]; rfl
    ·rw [Bool.or_eq_true]
     refine .inr ?_
     rw [Fl]
     obtain ⟨T,hT⟩ := pN w.nx (Rch.of p) ha
     obtain ⟨hch,B,hB⟩ := tI w.nx (Rch.of p) ha
     rw [hT] at hch hB hWl ⊢
     rw [List.length_cons] at hWl
     have h := xN w A (HT hv) hvl hu hm T 0 (mc0 p.types.length) 150 0 hch ⟨B,hB⟩ w.p0 (by omega) Vs.start (by show 0 + T.length < 200;omega)
     unfold Qz
     by_cases hr : DW p 150 = true
     ·rw [if_pos hr]
      change (jJ p.types (aD p) _ 150).2.1 ≠ 0 ∧ (jJ p.types (aD p) _ 150).2.1 ≠ 1 at h
      rw [show (150 : Int).toNat = 150 from rfl,decide_eq_true h.1,decide_eq_true h.2]; rfl
     ·rw [if_neg hr]; rfl
   ·exact ⟨_,s,[],true,h3,h4,h5,h6,by simp,fun _ h => absurd h hk⟩
  ·rw [decide_eq_false hx] at h6
   exact ⟨_,s,[],false,h3,h4,h5,h6,by simp,fun h => Bool.noConfusion h⟩
theorem Jh {s:ByteArray}{b:Bool}(h:(s.toList == (⟨#[]⟩:ByteArray).toList) = !b):Ht .eql s ⟨#[]⟩ = some (.bool !b) := by simp only [Ht,h]
theorem xD (bs:List UInt8):PC Tryz.prog 3 [sl cU bs] (fun r => r = bv true):=by
 rcases Nat.lt_or_ge 1048576 bs.length with hb|hb
 ·refine aB Tryz.func3 Tryz.ntmps3 ?_
  repeat' (first|refine aE ?_|(refine aK ?_ ?_ <;> intro hc hq <;> try (exfalso;omega))|fail)
  exact aC rfl ⟨rfl,rfl⟩
 refine aB Tryz.func3 Tryz.ntmps3 ?_
 repeat' (first|(apply aF;first|(apply bC;rfl;rfl;rfl;rfl;rfl;(case hl => (simp;done));exact (rfl:_=[_,_,_]))|(apply jE (k := 4);rfl;exact DY bs hb;exact Pur.pf;rfl;(rintro _ ⟨q,x,rfl,hq1,hq2⟩ _)))|refine aE ?_|(refine aK ?_ ?_ <;> intro hc hq <;> try (exfalso;omega))|fail)
 obtain ⟨real,s,ML,b,h1,h2,h3,he,hML,law⟩ := LN q x (by omega) (by omega)
 have hne := Jh he
 have b1 := PX ML x.with_ (by omega)
 cases b
 ·repeat' (first | (apply aF; first | (apply fO;rfl;rfl;exact hne;rfl) | (apply aA (k := 5);rfl;exact h1;exact Pur.pf;rfl) | (apply aA (k := 6);rfl;exact h2;exact Pur.pf;rfl) | (apply aA (k := 7);rfl;exact h3;exact Pur.pf;rfl)) | refine aE ?_ | (refine bK ?_ ?_ <;> intro hg hq <;> try (exfalso; omega))|fail)
  all_goals (refine aC rfl ⟨?_,rfl⟩; simp only [aM,decide_true]; done)
 ·by_cases hk : x.kind = 1
  ·obtain ⟨h4, hor⟩ := law rfl hk
   repeat' (first|(apply aF;first|(apply fO;rfl;rfl;exact hne;rfl)|(apply aA (k := 5);rfl;exact h1;exact Pur.pf;rfl)|(apply aA (k := 6);rfl;exact h2;exact Pur.pf;rfl)|(apply aA (k := 7);rfl;exact h3;exact Pur.pf;rfl)|(apply aA (k := 9);rfl;exact h4;exact Pur.pf;rfl)|(apply aA (k := 8);rfl;exact b1;exact Pur.pf;rfl))|refine aE ?_|(refine bK ?_ ?_ <;> intro hg hq <;> try (exfalso;omega))|refine bH ?_|fail)
   all_goals first
    | (refine aC rfl ⟨?_,rfl⟩; simp only [aM,decide_true]; done)
    | (refine aC rfl ⟨?_,rfl⟩; simp only [aM]; grind)
  ·repeat' (first | (apply aF; first | (apply aA (k := 5);rfl;exact h1;exact Pur.pf;rfl) | (apply aA (k := 6);rfl;exact h2;exact Pur.pf;rfl)) | refine aE ?_ | (refine bK ?_ ?_ <;> intro hg hq <;> try (exfalso; omega))|fail)
   all_goals (refine aC rfl ⟨?_,rfl⟩; simp only [aM,decide_true]; done)
end Go.Proofs.YteidfaaldcedpaaGreatDoor
