/-
 A part of the proofs over this program: rules and contracts of its functions (the contracts).
-/
import Derived.Test.YtahdccneecdmmaaGreatQ6B06
import Derived.Test.YtahdccneecdmmaaGreatRows
import Derived.WalkKit
import Derived.ProofKit
import Derived.OpenShut
import Derived.Carry
import Derived.ChangeSlices
set_option linter.unusedVariables false
set_option linter.unusedSimpArgs false
set_option maxHeartbeats 8000000
set_option maxRecDepth 4000
attribute [local irreducible] Go.AL.RW Go.AL.AW Go.AL.Stop
namespace Go.Proofs.YtahdccneecdmmaaGreat
open Go.AL Go.RowKit
variable {N : Nat} {Q : Exit → AS → Prop} {all : Array Oper} {rest : List Oper} {tsl : List (Nat × AV)} {hsl : List (Nat × Option (List AV))} {nidl : Nat} {z0 : Lo} {md : Md} {d : Nat} {ty : TypeId} {pos : String} {af : Array Edge} {tys : Array TypeId}
theorem Mf {ts:List Int}{bd:List AL.Stmt}{pts:List Pnt}{s:Mc}{x:Pnt}{x0 x1:Operand}{i0 i1 i2:Nat}(ha0:ev (lk tsl) x0 = some (.optr i0 0)) (ha1:ev (lk tsl) x1 = some (dP x)) (hH0:aV hsl i0 = some (mO ts bd pts i1 i2 s)) (hH1:aV hsl i1 = some (flat dC s.slots)) (hH2:aV hsl i2 = some (flat cI s.read)) (hdd:Go.AL.distinct [i0,i1,i2] = true) (hmc:MC Tryz.prog 140 [.optr 0 0,dP x] [(0,some (mO ts bd pts 1 2 s)),(1,some (flat dC s.slots)),(2,some (flat cI s.read))] 3 (fun _:Unit => True) (fun _ => iv (dV ts s x).2) (fun _ => [(0,some (mO ts bd pts 1 5 (dV ts s x).1)),(1,some (flat dC (dV ts s x).1.slots)),(5,some (flat cI (dV ts s x).1.read))])) (hM:Nat.ble (nidl + 3) a6 = true) (hN:Nat.blt d N = true){md':Md}[hmd:MdA md (fI [x0,x1] ++ [.inr i0,.inr i1,.inr i2]) (List.map Sum.inr (List.map Prod.fst ([(i0,some (mO ts bd pts i1 (nidl + 2) (dV ts s x).1)),(i1,some (flat dC (dV ts s x).1.slots)),((nidl + 2),some (flat cI (dV ts s x).1.read)),(i2,none)]:List (Nat × Option (List AV)))) ++ [.inl d]) md'] (kk:RW Tryz.prog N all Q md' rest ⟨(d,iv (dV ts s x).2) :: tsl,gE hsl [(i0,some (mO ts bd pts i1 (nidl + 2) (dV ts s x).1)),(i1,some (flat dC (dV ts s x).1.slots)),((nidl + 2),some (flat cI (dV ts s x).1.read)),(i2,none)],nidl + 3,z0⟩):RW Tryz.prog N all Q md (⟨some d,.call ⟨.value (.func 140),#[x0,x1],tys⟩,ty,pos,af,none⟩ :: rest) ⟨tsl,hsl,nidl,z0⟩:=by
 exact aX (l := [x0,x1]) [i0,i1,i2] 6 [(i0,some (mO ts bd pts i1 (nidl + 2) (dV ts s x).1)),(i1,some (flat dC (dV ts s x).1.slots)),((nidl + 2),some (flat cI (dV ts s x).1.read)),(i2,none)] hmc (avs := [.optr i0 0,dP x]) (by simp only [evL,ha0,ha1]) hdd hM hN (md' := md') (hmd := hmd) kk
theorem RV (ts:List Int) (bd:List AL.Stmt) (pts:List Pnt) (s:Mc) (x:Pnt) (htl:ts.length ≤ 6) (hm:OkM s.cells) (hsl:s.slots.length = ts.length) (hop:1 ≤ x.op ∧ x.op ≤ 11) (hrl:s.read.length ≤ 1000)
  (hx : x.op ≤ 8 → 0 ≤ x.x ∧ x.x < ts.length) (hy : 3 ≤ x.op → x.op ≤ 7 → 0 ≤ x.y ∧ x.y < ts.length) (hn : x.op = 2 → 0 ≤ x.n ∧ x.n ≤ 9) (h6 : ¬ (x.op = 6 ∧ a7 s.cells s.slots[x.y.toNat]!.ptr false = 0 ∧ cA ts s x = false)) : MC Tryz.prog 140 [.optr 0 0,dP x] [(0,some (mO ts bd pts 1 2 s)),(1,some (flat dC s.slots)),(2,some (flat cI s.read))] 3 (fun _ : Unit => True) (fun _ => iv (dV ts s x).2) (fun _ => [(0,some (mO ts bd pts 1 2 (dV ts s x).1)),(1,some (flat dC (dV ts s x).1.slots)),(2,some (flat cI (dV ts s x).1.read))]) := by
 by_cases h1 : x.op = 1
 ·exact RE ts bd pts s x htl hm hsl h1 (hx (by omega))
 by_cases h2 : x.op = 2
 ·exact RJ ts bd pts s x htl hm hsl h2 (hn h2) (hx (by omega))
 by_cases h3 : x.op = 3
 ·exact RR ts bd pts s x htl hm hsl h3 (hx (by omega)) (hy (by omega) (by omega))
 by_cases h4 : x.op = 4 ∨ x.op = 5
 ·exact Qv ts bd pts s x htl hm hsl h4 (hx (by omega)) (hy (by omega) (by omega))
 by_cases h6' : x.op = 6
 ·by_cases hu : cA ts s x = true
  ·exact RZ ts bd pts s x htl hm hsl hu
  ·exact RP ts bd pts s x htl hm hsl h6' hrl (hx (by omega)) (hy (by omega) (by omega)) (fun q => h6 ⟨h6',q,by simpa using hu⟩)
 by_cases h7 : x.op = 7
 ·exact Ru ts bd pts s x htl hm hsl h7 (hx (by omega)) (hy (by omega) (by omega))
 by_cases h8 : x.op = 8
 ·exact Sd ts bd pts s x htl hm hsl h8 (hx (by omega))
 ·exact RA ts bd pts s x htl hm hsl (by omega)
theorem vH (x:Pnt) (h:x.next.length ≤ 1000000):PC Tryz.prog 91 [dP x] (fun r => r = bv (decide (x.next.length = 2))):=by
 refine aB Tryz.func91 Tryz.ntmps91 ?_
 repeat' (first|refine aE ?_|fail)
 refine aC rfl ⟨?_,rfl⟩
 simp only [aO,AV.v.injEq,Value.bool.injEq,decide_eq_decide]; omega
theorem RF {pts:List Pnt}{a:Nat}{C:List Int}(h:pts[a]!.next.length = 2) (hC:0 < C.length):g0 pts a C = ((pts[a]!.next[(C[0]! % 2).toNat]!).toNat,C.drop 1):=by
 cases C with
 | nil => simp at hC
 | cons c C => unfold g0;rw [if_pos h]; rfl
theorem Ry {pts:List Pnt}{a:Nat}(h:pts[a]!.next.length = 2):g0 pts a [] = ((pts[a]!.next[1]!).toNat,[]) := by unfold g0;rw [if_pos h]
theorem KZ {pts:List Pnt}{n a b:Nat}{out C C2:List Int}{q:List Int × Bool}(h:¬ pts[a]!.op = 11) (ho:out.length ≤ n) (hs:g0 pts a C = (b,C2)) (hq:q = (out ++ (wm pts (n - out.length) a C).1,(wm pts (n - out.length) a C).2)) :
  ((out ++ [(a : Int)]).length ≤ n ∧ q = ((out ++ [(a : Int)]) ++ (wm pts (n - (out ++ [(a : Int)]).length) b C2).1,(wm pts (n - (out ++ [(a : Int)]).length) b C2).2)) ∨ ((out ++ [(a : Int)]).length = n + 1 ∧ q = ((out ++ [(a : Int)]).take n,false)) := by
 have hl : (out ++ [(a : Int)]).length = out.length + 1 := by rw [List.length_append]; rfl
 rcases Nat.lt_or_ge out.length n with h1|h1
 ·exact .inl ⟨by omega,pS h h1 hs hq⟩
 ·refine .inr ⟨by omega, ?_⟩
  have e : out.length = n := by omega
  rw [hq,e,Nat.sub_self,K7 h,← e,List.take_left' rfl,List.append_nil]
theorem P0 (ts:List Int) (bd:List AL.Stmt) (pts:List Pnt) (cs:List Int) (n:Nat) (w:WG ts pts) (wa:WA ts pts) (hn:n ≤ 1000) (hcl:cs.length ≤ 1000000):PC Tryz.prog 139 [aG ts bd pts,sl cI cs,iv (n:Int)] (fun r => r = .tup [sl cI (wm pts n 0 cs).1,bv (wm pts n 0 cs).2]):=by
 have hpl := w.pl
 have hp0 := w.p0
 refine aB Tryz.func139 Tryz.ntmps139 ?_
 repeat' (first|(apply aF;(apply lZ (d := 8) (e := 1);rfl;rfl))|refine aE ?_|fail)
 refine aH (σ := Int × List Int × Nat × List Int) [0,2] [] (fun k => [(9,iv k.1),(1,sl cI k.2.2.2),(8,.own 0 0 k.2.2.1 1)]) (fun k => [(0,some (flat cI k.2.1))]) (fun k => (0 ≤ k.1 ∧ k.1 < pts.length) ∧ k.2.2.1 = k.2.1.length ∧ k.2.2.2.length ≤ 1000000 ∧ ((k.2.1.length ≤ n ∧ wm pts n 0 cs = (k.2.1 ++ (wm pts (n - k.2.1.length) k.1.toNat k.2.2.2).1,(wm pts (n - k.2.1.length) k.1.toNat k.2.2.2).2)) ∨ (k.2.1.length = n + 1 ∧ wm pts n 0 cs = (k.2.1.take n,false)))) (fun k => n + 1 - k.2.1.length) (0,[],0,cs) ⟨⟨Int.le_refl _,by show (0 : Int) < _; omega⟩,rfl,hcl,.inl ⟨Nat.zero_le _,rfl⟩⟩ ?_
 rintro ⟨a,out,m,C⟩ ⟨⟨ha0,ha⟩,hm,hC,hw⟩
 dsimp only at ha0 ha hm hC hw ⊢
 by_cases hout : out.length ≤ n
 ·have hw2 : wm pts n 0 cs = (out ++ (wm pts (n - out.length) a.toNat C).1, (wm pts (n - out.length) a.toNat C).2) := by
   rcases hw with h|h
   ·exact h.2
   ·omega
  have hat : (a.toNat : Int) = a := Int.toNat_of_nonneg ha0
  have hnx := w.nx a.toNat (by omega)
  have hnl := w.nl a.toNat (by omega)
  have hn1 := wa.n a.toNat (by omega)
  have hk : ∀ k,k < pts[a.toNat]!.next.length → 0 ≤ pts[a.toNat]!.next[k]! ∧ pts[a.toNat]!.next[k]! < pts.length := fun k h => hnx _ (aU _ _ h)
  have hch := vH pts[a.toNat]! (by omega)
  repeat' (first|(apply aF;first|(apply aA (k := 91);rfl;exact hch;exact Pur.pf;rfl)|(apply Mv;rfl;rfl;rfl)|(apply aJ (t := _);rfl;rfl;rfl;exact (rfl:_=some [_]);rfl;rfl))|refine aE ?_|(refine aK ?_ ?_ <;> intro hc hq <;> try (exfalso;omega))|refine bS ?_|fail)
  ·have hop : pts[a.toNat]!.op = 11 := by assumption
   have e : wm pts n 0 cs = (out ++ [a],true) := by rw [hw2,Ji hop,hat]
   rw [e]
   (refine aR (Le.frzD (d := 6) (i := 2) rfl rfl) ?_; refine aC rfl ?_)
   refine ⟨?_,(by exact Pur.pf)⟩
   simp only [aO,sl]
   rw [hm,List.length_append]; rfl
  ·have hop : ¬ pts[a.toNat]!.op = 11 := by assumption
   have hst := KZ hop hout (OD (by omega)) hw2
   rw [hat] at hst
   have hk := hk 0 (by omega)
   (refine bC (pts[a.toNat]!.next[0]!,_,_,C) (Le.renA [(0,2)]) ?_ ?_)
   ·exact ⟨hk,by dsimp only;rw [List.length_append,hm]; rfl,hC,hst⟩
   ·dsimp only;rw [List.length_append]; simp only [List.length_singleton]; omega
  ·have hop : ¬ pts[a.toNat]!.op = 11 := by assumption
   have hC0 : 0 < C.length := by omega
   have hst := KZ hop hout (RF (by omega) hC0) hw2
   rw [hat] at hst
   have hk := hk (C[0]! % 2).toNat (by omega)
   have hCe : List.take (C.length - Int.toNat 1) (List.drop (Int.toNat 1) C) = C.drop 1 := List.take_of_length_le (by rw [List.length_drop]; exact Nat.le_refl _)
   rw [hCe]
   (refine bC (pts[a.toNat]!.next[(C[0]! % 2).toNat]!,_,_,C.drop 1) (Le.renA [(0,2)]) ?_ ?_)
   ·exact ⟨hk,by dsimp only;rw [List.length_append,hm]; rfl,by dsimp only;rw [List.length_drop]; omega,hst⟩
   ·dsimp only;rw [List.length_append]; simp only [List.length_singleton]; omega
  ·have hop : ¬ pts[a.toNat]!.op = 11 := by assumption
   have hC0 : C = [] := List.eq_nil_of_length_eq_zero (by omega)
   subst hC0
   have hst := KZ hop hout (Ry (by omega)) hw2
   rw [hat] at hst
   have hk := hk 1 (by omega)
   (refine bC (pts[a.toNat]!.next[1]!,_,_,[]) (Le.renA [(0,2)]) ?_ ?_)
   ·exact ⟨hk,by dsimp only;rw [List.length_append,hm]; rfl,hC,hst⟩
   ·dsimp only;rw [List.length_append]; simp only [List.length_singleton]; omega
 ·have hw2 : out.length = n + 1 ∧ wm pts n 0 cs = (out.take n, false) := by
   rcases hw with h|h
   ·omega
   ·exact h
  repeat' (first|(apply aF;(apply gV (d := 59) (l := 0) (h := n);rfl;rfl;rfl;exact rU rfl (by omega);exact if_pos (by omega);rfl))|refine aE ?_|(refine aK ?_ ?_ <;> intro hc hq <;> try (exfalso;omega))|fail)
  refine aR (Le.cut (i := 0) (n * 1) rfl) ?_
  refine aR (Le.frzD (d := 6) (i := 0) rfl rfl) ?_
  rw [hw2.2,dL cI (e := 1)]
  refine aC (l := [.imm (n - 0) (flat cI (out.take n)),bv false]) rfl ⟨?_,(by exact Pur.pf)⟩
  rw [e5 (by rw [List.length_take]; omega)]
  rfl
theorem Od {p:Prg}{cs:List Int}{n:Int}{x0 x1 x2:Operand}(ha0:ev (lk tsl) x0 = some (bK p)) (ha1:ev (lk tsl) x1 = some (sl cI cs)) (ha2:ev (lk tsl) x2 = some (iv n)) (hmc:MC Tryz.prog 69 [bK p,sl cI cs,iv n] [] 0 (fun _:Unit => True) (fun _ => .tup [.optr 1 0,iv 5,iv 0]) (fun _ => [(1,some ([.v (.pointer none),.imm 0 [],.imm 0 [],.imm 0 []]))])) (hM:Nat.ble (nidl + 2) a6 = true) (hN:Nat.blt d N = true){md':Md}[hmd:MdA md (fI [x0,x1,x2] ++ []) (List.map Sum.inr (List.map Prod.fst ([((nidl + 1),some ([.v (.pointer none),.imm 0 [],.imm 0 [],.imm 0 []]))]:List (Nat × Option (List AV)))) ++ [.inl d]) md'] (kk:RW Tryz.prog N all Q md' rest ⟨(d,.tup [.optr (nidl + 1) 0,iv 5,iv 0]) :: tsl,gE hsl [((nidl + 1),some ([.v (.pointer none),.imm 0 [],.imm 0 [],.imm 0 []]))],nidl + 2,z0⟩):RW Tryz.prog N all Q md (⟨some d,.call ⟨.value (.func 69),#[x0,x1,x2],tys⟩,ty,pos,af,none⟩ :: rest) ⟨tsl,hsl,nidl,z0⟩:=by
 exact aX (l := [x0,x1,x2]) [] 2 [((nidl + 1),some ([.v (.pointer none),.imm 0 [],.imm 0 [],.imm 0 []]))] hmc (avs := [bK p,sl cI cs,iv n]) (by simp only [evL,ha0,ha1,ha2]) rfl hM hN (md' := md') (hmd := hmd) kk
theorem Le.nilMid {ts:List (Nat × AV)}{hs:List (Nat × Option (List AV))}{n:Nat}{z0:Lo}{i:Nat}(c1:List AV){c2:List AV}(hi:aV hs i = some (c1 ++ .v (.slice none 0 0) :: c2)) :
  Le ⟨ts,hs,n,z0⟩ ⟨ts,(i,some (c1 ++ .imm 0 [] :: c2)) :: hs,n,z0⟩ :=
 Le.cells hi (by simp) fun w bad ι b β h => tS (fun y hy => by have := mT (av := .v (.slice none 0 0)) hy;exact this) c1 c2 b β h
theorem OX {ts:List Int}{pts:List Pnt}{a last:Nat}{l:List Nat}{s:Mc}:gX ts pts (a :: l) s last = if (dV ts s pts[a]!).2 = -1 then gX ts pts l (dV ts s pts[a]!).1 a else ((dV ts s pts[a]!).1,(dV ts s pts[a]!).2,a):=by
 rw [gX]
 by_cases h : cA ts s pts[a]! = true
 ·rw [if_pos h,xN h,if_neg (show ¬ (2 : Int) = -1 by decide)]
 ·have h2 : cA ts s pts[a]! = false := by simpa using h
  rw [if_neg h,tC h2]
theorem Rz {ts:List Int}{nt:Nat}{s:Mc}(h:OkS nt s){x:Pnt}(hx:PtN x):OkS nt (dV ts s x).1:=by
 unfold dV;split
 ·exact h
 ·exact h.do hx
theorem NI {ts:List Int}{s:Mc}{x:Pnt}:(dV ts s x).1.read.length ≤ s.read.length + 1:=by
 unfold dV;split
 ·dsimp only;omega
 ·exact CK
theorem SA {ts:List Int}{s:Mc}{x:Pnt}(ho:x.op = 6) (hz:a7 s.cells s.slots[x.y.toNat]!.ptr false = 0) (hu:cA ts s x = false) (ht:ts[x.x.toNat]! = 1):(dV ts s x).2 = -1:=by
 rw [tC hu]
 unfold bT
 rw [if_neg (show ¬ x.op = 1 by omega),if_neg (show ¬ x.op = 2 by omega),if_neg (show ¬ x.op = 3 by omega),if_neg (show ¬ (x.op = 4 ∨ x.op = 5) by omega),if_pos ho,if_pos hz]
 unfold bI
 rw [if_neg (fun h => by have := h.1;omega)]
theorem Pz (p:Prg) (cs:List Int) (n:Int) (hl:p.types.length ≤ 1000000) (hs:aT p.body ≤ 1000000) (hr:BC p n = false):MC Tryz.prog 69 [bK p,sl cI cs,iv n] [] 0 (fun _:Unit => True) (fun _ => .tup [.optr 1 0,iv 5,iv 0]) (fun _ => [(1,some ([.v (.pointer none),.imm 0 [],.imm 0 [],.imm 0 []]))]):=by
 have hg := dM p hl hs
 unfold BC at hr
 by_cases hv : bB p = true
 ·rw [if_pos hv] at hg
  rw [hv] at hr
  have hnn : ¬ (0 ≤ n ∧ n ≤ 150) := fun h => by rw [decide_eq_true h.1,decide_eq_true h.2] at hr;cases hr
  refine aW Tryz.func69 Tryz.ntmps69 ?_
  repeat' (first|(apply aF;first|(apply aA (k := 72);rfl;exact hg;exact Pur.pf;rfl)|(apply aA (k := 54);rfl;(apply dT);(rfl);rfl))|refine aE ?_|(refine aK ?_ ?_ <;> intro hc hq <;> try (exfalso;omega))|fail)
  ·(refine aC rfl ?_; refine aS () trivial ?_ ⟨sE ?_, trivial⟩)
   ·rfl
   ·rfl
 ·rw [if_neg hv] at hg
  refine aW Tryz.func69 Tryz.ntmps69 ?_
  repeat' (first|(apply aF;(apply aA (k := 72);rfl;exact hg;exact Pur.pf;rfl))|refine aE ?_|fail)
  (refine aC rfl ?_; refine aS () trivial ?_ ⟨sE ?_,trivial⟩)
  ·rfl
  ·rfl
theorem O9 (p:Prg) (cs:List Int) (n:Nat) (q:Mc × Int × Nat) (hqq:q = dI p.types (aD p) cs n) (hv:bB p = true) (hl:p.types.length ≤ 1000000) (hs:aT p.body ≤ 1000000) (hn:n ≤ 150) (hcl:cs.length ≤ 1000000):MC Tryz.prog 69 [bK p,sl cI cs,iv (n:Int)] [] 0 (fun _:Unit => True) (fun _ => .tup [.optr 2 0,iv q.2.1,iv (q.2.2:Int)]) (fun _ => [(2,some (mO p.types p.body (aD p) 1 3 q.1)),(1,some (flat dC q.1.slots)),(3,some (flat cI q.1.read))]):=by
 have hg := dM p hl hs
 rw [if_pos hv] at hg
 have w := WG.of_valid hv
 have wa := WA.of_valid hv
 have hru := P0 p.types p.body (aD p) cs n w wa (by omega) hcl
 have htl := w.tl
 have hpl := w.pl
 have hL := Dq w wa n 0 cs w.p0
 have hLl := tH (pts := aD p) n 0 cs
 unfold dI at hqq
 unfold wm at hru
 obtain ⟨L,hLe⟩ : ∃ L,L = (dH (aD p) n 0 cs).1 := ⟨_,rfl⟩
 obtain ⟨dn,hdn⟩ : ∃ dn,dn = (dH (aD p) n 0 cs).2 := ⟨_,rfl⟩
 rw [← hLe,← hdn] at hru
 rw [← hLe] at hqq hL hLl
 have hgx : ∀ i,i < L.length → (L.map (fun a : Nat => (a : Int)))[i]! = (L[i]! : Int) := fun i h => by rw [aZ _ _ (by rw [List.length_map]; exact h),List.getElem_map,aZ _ _ h]
 have hml : (L.map (fun a : Nat => (a : Int))).length = L.length := List.length_map _
 generalize (L.map (fun a : Nat => (a : Int))) = LI at *
 generalize hP : aD p = pts at *
 refine aW Tryz.func69 Tryz.ntmps69 ?_
 repeat' (first|(apply aF;first|(apply aA (k := 72);rfl;exact hg;exact Pur.pf;rfl)|(with_reducible apply aY (d := 40))|(apply aA (k := 54);rfl;(apply dT);(rfl);rfl))|refine aE ?_|(refine aK ?_ ?_ <;> intro hc hq <;> try (exfalso;omega))|fail)
 refine bY ?_
 rw [show (List.replicate p.types.length ([Value.bool false,Value.int .i64 0,Value.int .i64 0,Value.int .i64 0].map AV.v)).flatten = flat dC (List.replicate p.types.length gD) from vO rfl]
 apply mY
 case hl => rfl
 case hf => exact (rfl:_=some [_,_,AV.v (.slice none 0 0),AV.v (.slice none 0 0)])
 case hN => rfl
 repeat' (first|(apply aF;(with_reducible apply aY (d := 43)))|refine aE ?_|fail)
 refine bY (c5 ?_ (Le.nilMid (i := 2) [_,_] rfl))
 refine c5 ?_ (Le.nilCell (i := 2) 1 [_,_,_] rfl (by decide) (by decide))
 repeat' (first|(apply aF;(apply aA (k := 139);rfl;exact hru;exact Pur.pf;rfl))|refine aE ?_|fail)
 refine aH (σ := Nat × Mc × Nat) [9,11,49,50] [] (fun k => [(51,iv (k.1 : Int)),(14,iv (k.2.2 : Int))]) (fun k => [(2,some (mO p.types p.body pts 1 3 k.2.1)),(1,some (flat dC k.2.1.slots)),(3,some (flat cI k.2.1.read))]) (fun k => k.1 ≤ L.length ∧ gX p.types pts (L.drop k.1) k.2.1 k.2.2 = q ∧ OkS p.types.length k.2.1 ∧ k.2.1.read.length ≤ k.1) (fun k => L.length - k.1) (0,mc0 p.types.length,0) ⟨Nat.zero_le _,hqq.symm,OkS.mc0 _,Nat.le_refl _⟩ ?_
 rintro ⟨i,s,last⟩ ⟨hi,hf,hok,hrd⟩
 dsimp only at hi hf hok hrd ⊢
 by_cases hiL : i < L.length
 ·have hap := hL L[i]! (aU _ _ hiL)
  have hop := w.op L[i]! hap
  have hwx := w.x L[i]! hap
  have hwy := w.y L[i]! hap
  have hA := wa.a L[i]! hap
  have hg2 := hgx i hiL
  have hdr : L.drop i = L[i]! :: L.drop (i + 1) := by rw [List.drop_eq_getElem_cons hiL,aZ _ _ hiL]
  rw [hdr,OX] at hf
  have hpt : PtN pts[L[i]!]! := ⟨fun h => hA.n (.inr h)⟩
  have hdo := Rz (ts := p.types) hok hpt
  have hdr2 := NI (ts := p.types) (s := s) (x := pts[L[i]!]!)
  by_cases h6 : pts[L[i]!]!.op = 6 ∧ a7 s.cells s.slots[(pts[L[i]!]!).y.toNat]!.ptr false = 0 ∧ cA p.types s pts[L[i]!]! = false
  ·have hm6 := Qx p.types p.body pts s pts[L[i]!]! htl hok.m hok.l h6.1 (by omega) (by omega) (by omega) h6.2.1 h6.2.2
   repeat' (first|(apply aF;(with_reducible apply aY (d := 16)))|refine aE ?_|(refine aK ?_ ?_ <;> intro hc hq <;> try (exfalso;omega))|fail)
   refine bY ?_
   rw [hg2]
   repeat' (first|(apply aF;(apply Mf (ts := p.types) (bd := p.body) (pts := pts) (s := s) (x := pts[L[i]!]!);rfl;rfl;rfl;rfl;rfl;rfl;exact hm6;rfl;rfl))|refine aE ?_|(refine aK ?_ ?_ <;> intro hc hq <;> try (exfalso;omega))|fail)
   ·exfalso
    have h9 : ¬ (dV p.types s pts[L[i]!]!).2 = -1 := by assumption
    exact h9 (SA h6.1 h6.2.1 h6.2.2 (hA.t6 h6.1).1)
   ·(refine bC (i + 1, (dV p.types s pts[L[i]!]!).1, L[i]!) (Le.renA [(1, 1), (2, 2), (3, 6)]) ?_ ?_)
    ·refine ⟨by dsimp only; omega, ?_, hdo, by dsimp only; omega⟩
     dsimp only
     rw [if_pos (by assumption)] at hf
     exact hf
    ·dsimp only;omega
  ·have hmd := RV p.types p.body pts s pts[L[i]!]! htl hok.m hok.l hop (by omega) (fun h => by omega) (fun h h2 => by omega) (fun h => hA.n (.inr h)) h6
   repeat' (first|(apply aF;(with_reducible apply aY (d := 16)))|refine aE ?_|(refine aK ?_ ?_ <;> intro hc hq <;> try (exfalso;omega))|fail)
   refine bY ?_
   rw [hg2]
   repeat' (first|(apply aF;(apply Qc (ts := p.types) (bd := p.body) (pts := pts) (s := s) (x := pts[L[i]!]!);rfl;rfl;rfl;rfl;rfl;rfl;exact hmd;rfl;rfl))|refine aE ?_|(refine aK ?_ ?_ <;> intro hc hq <;> try (exfalso;omega))|fail)
   ·have h9 : ¬ (dV p.types s pts[L[i]!]!).2 = -1 := by assumption
    rw [if_neg h9] at hf
    rw [← hf]
    (refine aC rfl ?_; refine aS () trivial ?_ ⟨sE ?_,⟨sE ?_,⟨sE ?_,trivial⟩⟩⟩)
    ·rfl
    ·rfl
    ·rfl
    ·rfl
   ·(refine bC (i + 1, (dV p.types s pts[L[i]!]!).1, L[i]!) (Le.renA [(1, 1), (2, 2), (3, 3)]) ?_ ?_)
    ·refine ⟨by dsimp only; omega, ?_, hdo, by dsimp only; omega⟩
     dsimp only
     rw [if_pos (by assumption)] at hf
     exact hf
    ·dsimp only;omega
 ·repeat' (first | refine aE ?_ | (refine aK ?_ ?_ <;> intro hc hq <;> try (exfalso; omega))|fail)
  have hie : i = L.length := by omega
  have hq2 : q = (s,1,last) := by rw [← hf,hie,List.drop_length]; rfl
  rw [hq2]
  (refine aC rfl ?_; refine aS () trivial ?_ ⟨sE ?_,⟨sE ?_,⟨sE ?_,trivial⟩⟩⟩)
  ·rfl
  ·rfl
  ·rfl
  ·rfl
theorem Lm {p:Prg}{cs:List Int}{n:Int}{q:Mc × Int × Nat}{x0 x1 x2:Operand}(ha0:ev (lk tsl) x0 = some (bK p)) (ha1:ev (lk tsl) x1 = some (sl cI cs)) (ha2:ev (lk tsl) x2 = some (iv n)) (hmc:MC Tryz.prog 69 [bK p,sl cI cs,iv n] [] 0 (fun _:Unit => True) (fun _ => .tup [.optr 2 0,iv q.2.1,iv (q.2.2:Int)]) (fun _ => [(2,some (mO p.types p.body (aD p) 1 3 q.1)),(1,some (flat dC q.1.slots)),(3,some (flat cI q.1.read))])) (hM:Nat.ble (nidl + 4) a6 = true) (hN:Nat.blt d N = true){md':Md}[hmd:MdA md (fI [x0,x1,x2] ++ []) (List.map Sum.inr (List.map Prod.fst ([((nidl + 2),some (mO p.types p.body (aD p) (nidl + 1) (nidl + 3) q.1)),((nidl + 1),some (flat dC q.1.slots)),((nidl + 3),some (flat cI q.1.read))]:List (Nat × Option (List AV)))) ++ [.inl d]) md'] (kk:RW Tryz.prog N all Q md' rest ⟨(d,.tup [.optr (nidl + 2) 0,iv q.2.1,iv (q.2.2:Int)]) :: tsl,gE hsl [((nidl + 2),some (mO p.types p.body (aD p) (nidl + 1) (nidl + 3) q.1)),((nidl + 1),some (flat dC q.1.slots)),((nidl + 3),some (flat cI q.1.read))],nidl + 4,z0⟩):RW Tryz.prog N all Q md (⟨some d,.call ⟨.value (.func 69),#[x0,x1,x2],tys⟩,ty,pos,af,none⟩ :: rest) ⟨tsl,hsl,nidl,z0⟩:=by
 exact aX (l := [x0,x1,x2]) [] 4 [((nidl + 2),some (mO p.types p.body (aD p) (nidl + 1) (nidl + 3) q.1)),((nidl + 1),some (flat dC q.1.slots)),((nidl + 3),some (flat cI q.1.read))] hmc (avs := [bK p,sl cI cs,iv n]) (by simp only [evL,ha0,ha1,ha2]) rfl hM hN (md' := md') (hmd := hmd) kk
theorem xG (p:Prg) (cs:List Int) (most:Int) (hl:p.types.length ≤ 1000000) (hs:aT p.body ≤ 1000000) (hcl:cs.length ≤ 1000000):PC Tryz.prog 35 [bK p,sl cI cs,iv most] (fun r => r = .tup (if BC p most = true then [iv (dI p.types (aD p) cs most.toNat).2.1,iv (dI p.types (aD p) cs most.toNat).2.2] else [iv 5,iv 0])):=by
 by_cases h : BC p most = true
 ·have h' := h
  unfold BC at h'
  simp only [Bool.and_eq_true,decide_eq_true_eq] at h'
  obtain ⟨hv,h0,h1⟩ := h'
  have hru := O9 p cs most.toNat _ rfl hv hl hs (by omega) hcl
  have hok := Q5 (cs := cs) (n := most.toNat) hv
  have hrl := DE (ts := p.types) (pts := aD p) (cs := cs) (n := most.toNat) (by omega)
  have htl := (WG.of_valid hv).tl
  rw [Int.toNat_of_nonneg h0] at hru
  rw [if_pos h]
  have hon := Int.toNat_of_nonneg h0
  have hm := hok.m
  have hml := hm.l
  have hsl := hok.l
  generalize dI p.types (aD p) cs most.toNat = q at *
  refine aB Tryz.func35 Tryz.ntmps35 ?_
  repeat' (first|(apply aF;(apply Lm (p := p) (cs := cs) (n := most) (q := q);rfl;rfl;rfl;exact hru;rfl;rfl))|refine aE ?_|fail)
  exact aC (l := [iv q.2.1,iv q.2.2]) rfl ⟨rfl,rfl⟩
 ·rw [if_neg h]
  have h2 : BC p most = false := by simpa using h
  refine aB Tryz.func35 Tryz.ntmps35 ?_
  repeat' (first|(apply aF;(apply Od (p := p) (cs := cs) (n := most);rfl;rfl;rfl;exact Pz p cs most hl hs h2;rfl;rfl))|refine aE ?_|fail)
  exact aC (l := [iv 5,iv 0]) rfl ⟨rfl,rfl⟩
def MQ (p : Prg) (cs : List Int) (n : Int) : Int := if BC p n = true then (dI p.types (aD p) cs n.toNat).2.1 else 5
def Sf (p : Prg) (cs : List Int) (n : Int) : Int := if BC p n = true then ((dI p.types (aD p) cs n.toNat).2.2 : Int) else 0
theorem QD (p:Prg) (cs:List Int) (n:Int) (hl:p.types.length ≤ 1000000) (hs:aT p.body ≤ 1000000) (hcl:cs.length ≤ 1000000):PC Tryz.prog 35 [bK p,sl cI cs,iv n] (fun r => r = .tup [iv (MQ p cs n),iv (Sf p cs n)]):=by
 have h := xG p cs n hl hs hcl
 unfold MQ Sf
 split
 ·rename_i h2;rw [if_pos h2] at h;exact h
 ·rename_i h2;rw [if_neg h2] at h;exact h
theorem Qa (p:Prg) (cs:List Int) (n:Int) (hl:p.types.length ≤ 1000000) (hs:aT p.body ≤ 1000000) (hcl:cs.length ≤ 1000000):PC Tryz.prog 84 [bK p,sl cI cs,iv n] (fun r => r = .tup [iv (MQ p cs n),iv (Sf p cs n)]):=by
 have h := xJ p cs n hl hs hcl
 unfold MQ Sf
 split
 ·rename_i h2;rw [if_pos h2] at h;exact h
 ·rename_i h2;rw [if_neg h2] at h;exact h
theorem CM {p:Prg}{n:Int}:BC p n = true ↔ bB p = true ∧ 0 ≤ n ∧ n ≤ 150:=by
 unfold BC;simp only [Bool.and_eq_true,decide_eq_true_eq]
theorem L0 (p:Prg) (hl:p.types.length ≤ 1000000) (hs:aT p.body ≤ 1000000):∃ L:List Iss,PC Tryz.prog 70 [bK p] (fun r => r = sl gB L) ∧ PC Tryz.prog 20 [bK p] (fun r => r = bv (bB p && L.isEmpty)) ∧
  L.length ≤ 1000000 ∧ (bB p = true → ∃ f : Flows p.types (aD p),L = f.iss) := by
 cases hv : bB p
 ·have h := yN p hv hl hs
  have h2 := sW p [] hl hs h
  rw [hv] at h2
  exact ⟨[],h,h2,by simp,fun q => Bool.noConfusion q⟩
 ·have w := WG.of_valid hv
  obtain ⟨f⟩ := Flows.ex w
  have e : EC p f = f.iss := if_pos hv
  have h := Bt p f hl hs
  rw [e] at h
  have h2 := sW p f.iss hl hs h
  rw [hv] at h2
  exact ⟨f.iss,h,h2,Nat.le_trans (iX w f) (by decide),fun _ => ⟨f,rfl⟩⟩
theorem Gg {p:Prg}{cs:List Int}{n:Int}{L:List Iss}(hL:bB p = true → ∃ f:Flows p.types (aD p),L = f.iss) (ha:(bB p && L.isEmpty) = true):MQ p cs n = 0 ∨ MQ p cs n = 1 ∨ (MQ p cs n = 5 ∧ (n < 0 ∨ 150 < n)):=by
 rw [Bool.and_eq_true] at ha
 obtain ⟨f,e⟩ := hL ha.1
 have h0 : f.iss = [] := by rw [← e]; exact List.isEmpty_iff.1 ha.2
 unfold MQ
 by_cases h : BC p n = true
 ·obtain ⟨hv, h1, h2⟩ := CM.1 h
  rw [if_pos h]
  rcases HD (WG.of_valid hv) (WA.of_valid hv) f cs n.toNat (by omega) h0 with q|q
  ·exact .inl q
  ·exact .inr (.inl q)
 ·rw [if_neg h]
  refine .inr (.inr ⟨rfl,?_⟩)
  apply Classical.byContradiction;intro q
  exact h (CM.2 ⟨ha.1,by omega,by omega⟩)
def Sv (pts : List Pnt) (W : List Nat) (i : Nat) : List Int := if pts[W[i]!]!.next.length = 2 then [if pts[W[i]!]!.next[0]! = (W[i + 1]! : Int) then 0 else 1] else []
def E1 (pts : List Pnt) (W : List Nat) (k : Nat) : List Int := (List.range k).flatMap (Sv pts W)
theorem IU {pts:List Pnt}{W:List Nat}{k:Nat}(h:pts[W[k]!]!.next.length = 2):E1 pts W (k + 1) = E1 pts W k ++ [if pts[W[k]!]!.next[0]! = (W[k + 1]!:Int) then 0 else 1]:=by
 unfold E1;rw [List.range_succ,List.flatMap_append]; simp only [List.flatMap_cons,List.flatMap_nil,List.append_nil]; unfold Sv;rw [if_pos h]
theorem Kc {pts:List Pnt}{W:List Nat}{k:Nat}(h:¬ pts[W[k]!]!.next.length = 2):E1 pts W (k + 1) = E1 pts W k:=by
 unfold E1;rw [List.range_succ,List.flatMap_append]; simp only [List.flatMap_cons,List.flatMap_nil,List.append_nil]; unfold Sv;rw [if_neg h,List.append_nil]
theorem uA {pts:List Pnt}{W:List Nat}:∀ k,(E1 pts W k).length ≤ k
 | 0 => by simp [E1]
 | k + 1 => by
  have := uA (pts := pts) (W := W) k
  by_cases h : pts[W[k]!]!.next.length = 2
  ·rw [IU h,List.length_append]; simp;exact this
  ·rw [Kc h]; omega
structure Wok (pts : List Pnt) (W : List Nat) : Prop where
 c : Chn pts W
 z : ∃ T,W = 0 :: T
 l : W.length ≤ 1000
theorem F7 {W:List Nat}{i:Nat}(h:i < W.length):(eV W)[i]! = (W[i]!:Int):=by
 unfold eV;rw [aZ _ _ (by simpa using h),List.getElem_map,aZ _ _ h]
theorem MT (L:List Int) (n:Int) (hl:L.length ≤ 1000000):PC Tryz.prog 152 [sl cI L,iv n] (fun r => r = bv (decide (n ∈ L))):=by
 refine aB Tryz.func152 Tryz.ntmps152 ?_
 repeat' (first|refine aE ?_|fail)
 refine aH (σ := Nat) [0,1] [] (fun k => [(5,iv (k : Int))]) (fun k => []) (fun k => k ≤ L.length ∧ ∀ j,j < k → L[j]! ≠ n) (fun k => L.length - k) (0) ⟨by omega,by omega⟩ ?_
 rintro k ⟨hk,hall⟩
 repeat' (first|refine aE ?_|(refine aK ?_ ?_ <;> intro hc hq <;> try (exfalso;omega))|fail)
 ·refine aC rfl ⟨?_, rfl⟩
  simp only [aO]
  rw [decide_eq_true (by have h := aU L k (by omega);rw [hq] at h;exact h)]
 ·(refine bC (k + 1) (Le.renA []) ?_ ?_)
  ·exact ⟨by omega, fun j hj => by
    by_cases e : j = k
    ·subst e;exact hq
    ·exact hall j (by omega)⟩
  ·omega
 ·refine aC rfl ⟨?_, rfl⟩
  simp only [aO]
  rw [decide_eq_false (fun h => by
   obtain ⟨j,hj,e⟩ := List.getElem_of_mem h
   exact hall j (by omega) (by rw [aZ _ _ hj]; exact e))]
theorem Wok.at {ts:List Int}{pts:List Pnt}{W:List Nat}(w:WG ts pts) (h:Wok pts W){i:Nat}(hi:i + 1 < W.length):W[i]! < pts.length ∧ (eV W)[i]! = (W[i]!:Int) ∧ (eV W)[i + 1]! = (W[i + 1]!:Int) ∧ (W[i + 1]!:Int) ∈ pts[W[i]!]!.next ∧ pts[W[i]!]!.next.length ≤ 2:=by
 have he := Chn.at W i h.c hi
 exact ⟨he.1,F7 (by omega),F7 hi,he.2,w.nl _ he.1⟩
theorem QJ (p:Prg) (W:List Nat) (hW:Wok (aD p) W) (hv:bB p = true) (hl:p.types.length ≤ 1000000) (hs:aT p.body ≤ 1000000):PC Tryz.prog 34 [bK p,sl cI (eV W)] (fun r => r = .tup [sl cI (E1 (aD p) W (W.length - 1)),bv true]):=by
 have w := WG.of_valid hv
 have hpl := w.pl
 have hg := dM p hl hs
 rw [if_pos hv] at hg
 have hWl := hW.l
 obtain ⟨T,hT⟩ := hW.z
 have hcl : (eV W).length = W.length := c6 _
 have h0 : (eV W)[0]! = 0 := by rw [hT]; rfl
 have hlen : 0 < W.length := by rw [hT]; simp
 have hbn : (if (0 : Int) ≤ ((eV W).length : Int) - 1 then some (((eV W).length : Int) - 1).toNat else none) = some (W.length - 1) := by
  rw [if_pos (by omega)]; congr 1;omega
 have hbb : 0 ≤ W.length - 1 ∧ W.length - 1 ≤ (eV W).length := ⟨Nat.zero_le _,by omega⟩
 have hV : (((eV W).drop 0).take (W.length - 1 - 0)).length = W.length - 1 := by rw [List.length_take,List.length_drop]; omega
 have hVg : ∀ k, k < W.length - 1 → (((eV W).drop 0).take (W.length - 1 - 0))[k]! = (eV W)[k]! := fun k hk => by
  rw [List.drop_zero,Nat.sub_zero,aZ _ _ (by rw [List.length_take]; omega),aZ _ _ (by omega),List.getElem_take]
 generalize hVe : ((eV W).drop 0).take (W.length - 1 - 0) = V at *
 refine aB Tryz.func34 Tryz.ntmps34 ?_
 repeat' (first|(apply aF;first|(apply aA (k := 72);rfl;exact hg;exact Pur.pf;rfl)|(apply x4 (l := 0) (h := W.length - 1);rfl;infer_instance;rfl;exact hbn;exact hbb;rfl);rw [hVe])|refine aE ?_|(refine aK ?_ ?_ <;> intro hc hq <;> try (exfalso;omega))|(refine bQ ?_ ?_ <;> intro hg hq <;> try (exfalso;omega))|fail)
 ·exfalso;exact (by assumption : ¬ (eV W)[Int.toNat 0]! = 0) h0
 refine AW.le ?_ (Le.nilOwn (d := 8) 1 rfl (by decide))
 refine aH (σ := Nat × List Int × Nat) [1,6,35,36] [0] (fun k => [(37,iv (k.1 : Int)),(8,.own 1 0 k.2.2 1)]) (fun k => [(1,some (flat cI k.2.1))]) (fun k => k.1 ≤ W.length - 1 ∧ k.2.1 = E1 (aD p) W k.1 ∧ k.2.2 = k.2.1.length) (fun k => W.length - 1 - k.1) (0,[],0) ⟨Nat.zero_le _,rfl,rfl⟩ ?_
 rintro ⟨k,xs,m⟩ ⟨hk,hxs,hm⟩
 dsimp only at hk hxs hm
 try dsimp only
 have hxl := uA (pts := aD p) (W := W) k
 rw [← hxs] at hxl
 by_cases hkn : k < W.length - 1
 ·obtain ⟨a1, a2, a3, a4, a5⟩ := hW.at w (i := k) (by omega)
  have hVk : V[((k : Nat) : Int).toNat]! = (W[k]! : Int) := (hVg k hkn).trans a2
  have hct := o7 (aD p)[W[k]!]!.next (W[k + 1]! : Int) (by omega)
  rw [decide_eq_true a4] at hct
  have hw2 := IU (pts := aD p) (W := W) (k := k)
  have hw1 := Kc (pts := aD p) (W := W) (k := k)
  rw [← hxs] at hw2 hw1
  generalize W[k]! = a at *
  generalize W[k + 1]! = b at *
  repeat' (first|(apply aF;(with_reducible apply aY (d := 42)))|refine aE ?_|(refine aK ?_ ?_ <;> intro hc hq <;> try (exfalso;omega))|fail)
  refine bY ?_
  first|rw [hVk]|rw [show V[k]! = (a : Int) from hVk]
  have hch := vH (aD p)[a]! (by omega)
  have a3' : (eV W)[((k : Int) + 1).toNat]! = (b : Int) := a3
  repeat' (first|(apply aF;first|(apply aA (k := 91);rfl;exact hch;exact Pur.pf;rfl)|(apply aJ (t := _);rfl;rfl;rfl;exact (rfl:_=some [_]);rfl;rfl)|(apply aA (k := 56);rfl;(apply o7 <;> (omega));exact Pur.pf;rfl))|refine aE ?_|(refine aK ?_ ?_ <;> intro hc hq <;> try (exfalso;omega))|refine bS ?_|fail)
  ·exfalso
   exact (by assumption : ¬ (eV W)[((k : Int) + 1).toNat]! ∈ (aD p)[a]!.next) (by rw [a3']; exact a4)
  all_goals try simp only [a3'] at *
  ·have e1 := hw2 (by assumption)
   have e0 : (aD p)[a]!.next[0]! = (b : Int) := Eq.symm (by assumption)
   rw [if_pos e0] at e1
   (refine bC (k + 1,_,m + 1) (Le.renA [(0,0),(1,4)]) ?_ ?_)
   ·exact ⟨by dsimp only;omega,e1.symm,by simp [hm]⟩
   ·dsimp only;omega
  ·have e1 := hw2 (by assumption)
   have e0 : ¬ (aD p)[a]!.next[0]! = (b : Int) := fun q => (by assumption : ¬ (b : Int) = (aD p)[a]!.next[Int.toNat 0]!) q.symm
   rw [if_neg e0] at e1
   (refine bC (k + 1,_,m + 1) (Le.renA [(0,0),(1,4)]) ?_ ?_)
   ·exact ⟨by dsimp only;omega,e1.symm,by simp [hm]⟩
   ·dsimp only;omega
  ·have e1 := hw1 (by assumption)
   (refine bC (k + 1,xs,m) (Le.renA [(0,0),(1,1)]) ?_ ?_)
   ·exact ⟨by dsimp only;omega,e1.symm,hm⟩
   ·dsimp only;omega
 ·obtain rfl : k = W.length - 1 := by omega
  repeat' (first|refine aE ?_|(refine aK ?_ ?_ <;> intro hc hq <;> try (exfalso;omega))|fail)
  refine aR (Le.frzD (d := 4) (i := 1) rfl rfl) ?_
  refine aC (l := [_,bv true]) rfl ⟨?_,(by exact Pur.pf)⟩
  subst hm;rw [hxs]; rfl
theorem QM (p:Prg) (W:List Nat) (hW:Wok (aD p) W) (hv:bB p = true) (hl:p.types.length ≤ 1000000) (hs:aT p.body ≤ 1000000):PC Tryz.prog 83 [bK p,sl cI (eV W)] (fun r => r = .tup [sl cI (E1 (aD p) W (W.length - 1)),bv true]):=by
 have w := WG.of_valid hv
 have hpl := w.pl
 have hp0 := w.p0
 have hg := sQ p hl hs
 rw [if_pos hv] at hg
 have hWl := hW.l
 obtain ⟨T,hT⟩ := hW.z
 have hcl : (eV W).length = W.length := c6 _
 have h0 : (eV W)[0]! = 0 := by rw [hT]; rfl
 have hlen : 0 < W.length := by rw [hT]; simp
 refine aB Tryz.func83 Tryz.ntmps83 ?_
 repeat' (first|(apply aF;(apply aA (k := 151);rfl;exact hg;exact Pur.pf;rfl))|refine aE ?_|(refine aK ?_ ?_ <;> intro hc hq <;> try (exfalso;omega))|(refine bQ ?_ ?_ <;> intro hg hq <;> try (exfalso;omega))|fail)
 ·exfalso;exact (by assumption : ¬ (eV W)[Int.toNat 0]! = 0) h0
 refine aH (σ := Nat × List Int × Nat) [1,7] [0] (fun s => [(8,iv (s.1 : Int)),(6,.own 1 0 s.2.2 1)]) (fun s => [(1,some (flat cI s.2.1))]) (fun s => 1 ≤ s.1 ∧ s.1 ≤ W.length ∧ s.2.1 = E1 (aD p) W (s.1 - 1) ∧ s.2.2 = s.2.1.length) (fun s => W.length - s.1) (1,[],0) ⟨Nat.le_refl _,hlen,rfl,rfl⟩ ?_
 rintro ⟨i,xs,m⟩ ⟨hi1,hi2,hxs,hm⟩
 dsimp only at hi1 hi2 hxs hm
 try dsimp only
 have hxl := uA (pts := aD p) (W := W) (i - 1)
 rw [← hxs] at hxl
 by_cases hin : i < W.length
 ·obtain ⟨k, rfl⟩ : ∃ k, i = k + 1 := ⟨i - 1, by omega⟩
  rw [Nat.add_sub_cancel] at hxs hxl
  obtain ⟨a1,a2,a3,a4,a5⟩ := hW.at w hin
  have hw2 := IU (pts := aD p) (W := W) (k := k)
  have hw1 := Kc (pts := aD p) (W := W) (k := k)
  rw [← hxs] at hw2 hw1
  generalize W[k]! = a at *
  generalize W[k + 1]! = b at *
  have hA : (eV W)[(((k + 1 : Nat) : Int) - 1).toNat]! = (a : Int) := by
   rw [show (((k + 1 : Nat) : Int) - 1).toNat = k by omega]; exact a2
  have hB : (eV W)[((k + 1 : Nat) : Int).toNat]! = (b : Int) := a3
  have hA0 : 0 ≤ (eV W)[(((k + 1 : Nat) : Int) - 1).toNat]! := by omega
  have hA1 : (eV W)[(((k + 1 : Nat) : Int) - 1).toNat]! < ((aD p).length : Int) := by omega
  have hA2 : (aD p)[((eV W)[(((k + 1 : Nat) : Int) - 1).toNat]!).toNat]!.next.length ≤ 2 := by rw [hA,Int.toNat_natCast]; exact a5
  have hct := fun z => MT (aD p)[((eV W)[(((k + 1 : Nat) : Int) - 1).toNat]!).toNat]!.next z (by omega)
  have hAA : (aD p)[((eV W)[(((k + 1 : Nat) : Int) - 1).toNat]!).toNat]!.next = (aD p)[a]!.next := by rw [hA,Int.toNat_natCast]
  repeat' (first|(apply aF;first|(apply aA (k := 152);rfl;exact hct _;exact Pur.pf;rfl)|(apply aJ (t := _);rfl;rfl;rfl;(first|exact (rfl:_=some [_])|rfl);rfl;rfl))|refine aE ?_|(refine aK ?_ ?_ <;> intro hc hq <;> try (exfalso;omega))|refine bS ?_|fail)
  ·exfalso
   have q := (by assumption : ¬ (eV W)[k + 1]! ∈ (aD p)[((eV W)[(((k + 1 : Nat) : Int) - 1).toNat]!).toNat]!.next)
   rw [a3,hAA] at q;exact q a4
  ·have e2 := (by assumption : ((aD p)[((eV W)[(((k + 1 : Nat) : Int) - 1).toNat]!).toNat]!.next.length : Int) = 2)
   have e0 := (by assumption : ¬ (aD p)[((eV W)[(((k + 1 : Nat) : Int) - 1).toNat]!).toNat]!.next[Int.toNat 0]! = (eV W)[k + 1]!)
   rw [a3,hAA] at e0
   rw [hAA] at e2
   have e1 := hw2 (by omega)
   rw [if_neg (show ¬ (aD p)[a]!.next[0]! = (b : Int) from e0)] at e1
   (refine bC (k + 1 + 1,_,m + 1) (Le.renA [(0,0),(1,3)]) ?_ ?_)
   ·exact ⟨by dsimp only;omega,by dsimp only;omega,e1.symm,by simp [hm]⟩
   ·dsimp only;omega
  ·have e2 := (by assumption : ((aD p)[((eV W)[(((k + 1 : Nat) : Int) - 1).toNat]!).toNat]!.next.length : Int) = 2)
   have e0 := (by assumption : (aD p)[((eV W)[(((k + 1 : Nat) : Int) - 1).toNat]!).toNat]!.next[Int.toNat 0]! = (eV W)[k + 1]!)
   rw [a3,hAA] at e0
   rw [hAA] at e2
   have e1 := hw2 (by omega)
   rw [if_pos (show (aD p)[a]!.next[0]! = (b : Int) from e0)] at e1
   (refine bC (k + 1 + 1,_,m + 1) (Le.renA [(0,0),(1,3)]) ?_ ?_)
   ·exact ⟨by dsimp only;omega,by dsimp only;omega,e1.symm,by simp [hm]⟩
   ·dsimp only;omega
  ·have e2 := (by assumption : ¬ ((aD p)[((eV W)[(((k + 1 : Nat) : Int) - 1).toNat]!).toNat]!.next.length : Int) = 2)
   rw [hAA] at e2
   have e1 := hw1 (by omega)
   (refine bC (k + 1 + 1,xs,m) (Le.renA [(0,0),(1,1)]) ?_ ?_)
   ·exact ⟨by dsimp only;omega,by dsimp only;omega,e1.symm,hm⟩
   ·dsimp only;omega
 ·obtain rfl : i = W.length := by omega
  repeat' (first|refine aE ?_|(refine aK ?_ ?_ <;> intro hc hq <;> try (exfalso;omega))|fail)
  refine aR (Le.frzD (d := 4) (i := 1) rfl rfl) ?_
  refine aC (l := [_,bv true]) rfl ⟨?_,(by exact Pur.pf)⟩
  subst hm;rw [hxs]; rfl
theorem MG (p:Prg) (x:Iss) (hl:p.types.length ≤ 1000000) (hs:aT p.body ≤ 1000000):∃ (way:List Int) (ok:Bool),
  PC Tryz.prog 33 [bK p,fS x] (fun r => r = .tup [sl cI way,bv ok]) ∧ PC Tryz.prog 82 [bK p,fS x] (fun r => r = .tup [sl cI way,bv ok]) ∧
  (ok = true → bB p = true ∧ ∃ W,way = eV W ∧ Wok (aD p) W) := by
 cases hv : bB p
 ·exact ⟨[],false,MN p x hv hl hs,EM p [] x (yG p hv hl hs) (by simp) (by simp),fun h => Bool.noConfusion h⟩
 ·have w := WG.of_valid hv
  obtain ⟨f⟩ := Flows.ex w
  have e : EC p f = f.iss := if_pos hv
  have hC := B7 p f hl hs
  rw [e] at hC
  have hLl : f.iss.length ≤ 1000000 := Nat.le_trans (iX w f) (by decide)
  by_cases hx : x ∈ f.iss
  ·obtain ⟨j, hj, hje⟩ := List.getElem_of_mem hx
   have hok := (Iw w f).1 j hj
   rw [aZ _ _ hj,hje] at hok
   obtain ⟨pt,k,wi⟩ := x
   obtain ⟨a,rfl⟩ := Int.eq_ofNat_of_zero_le hok.p0
   have ha : a < (aD p).length := by have := hok.p1;dsimp only at this;omega
   have hpl := w.pl
   by_cases hk : k = 1
   ·refine ⟨_, true, MO p f a k wi hk ha hv hx hl hs, NM p f.iss a k wi hC hLl hk ha hv hx hs, fun _ => ⟨rfl, y0 (aD p) a, rfl, (E5 w.nx (Rch.of p) ha).1, Cy w.nx (Rch.of p) ha, ?_⟩⟩
    have := uG w.nx w.p0 a;omega
   ·have hwi : 0 ≤ wi ∧ wi < (aD p).length := by
     rcases hok.k with h|h
     ·exact absurd h.1 hk
     ·exact h.2
    obtain ⟨l,rfl⟩ := Int.eq_ofNat_of_zero_le hwi.1
    have hll : l < (aD p).length := by omega
    rcases qK (eJ (aD p) a) (eT p.types (aD p) f.Af l) (aD p).length with ⟨hu,_⟩ | ⟨u,hun,hu,_,_,h3⟩
    ·exact ⟨[],false,NG p f a l k hk ha hll hv hx hl hs (by omega),Ma p f f.iss a l k hC hLl hk ha hll hv hx hl hs (by omega),fun h => Bool.noConfusion h⟩
    ·by_cases h2 : Wy (aD p) l a
     ·have h2' := (jX w.nx hll).2 h2
      refine ⟨_,true,NF p f a l k hk ha hll hv hx hl hs u hu hun h2' h3,Nh p f f.iss a l k hC hLl hk ha hll hv hx hl hs u hu hun h2' h3,fun _ => ⟨rfl,y0 (aD p) l ++ (eJ (aD p) l a).drop 1 ++ (eJ (aD p) a u).drop 1,?_,H7 w.nx (Rch.of p) ha hll h2' h3,?_,?_⟩⟩
      ·unfold eV;simp only [List.map_append,List.map_drop]
      ·obtain ⟨T, hT⟩ := Cy w.nx (Rch.of p) hll
       rw [hT]; exact ⟨_,rfl⟩
      ·have h4 := uG w.nx w.p0 l
       have h5 := iE (x := a) w.nx hll
       have h6 := iE (x := u) w.nx ha
       simp only [List.length_append,List.length_drop]; omega
     ·exact ⟨[],false,Ol p f a l k hk ha hll hv hx hl hs u hu hun h2,Oa p f f.iss a l k hC hLl hk ha hll hv hx hl hs u hu h2,fun h => Bool.noConfusion h⟩
  ·exact ⟨[],false,NO p f x hv hx hl hs,EM p f.iss x hC hLl hx,fun h => Bool.noConfusion h⟩
theorem Jo (p:Prg) (x:Iss) (way:List Int) (h:PC Tryz.prog 33 [bK p,fS x] (fun r => r = .tup [sl cI way,bv false])):PC Tryz.prog 31 [bK p,fS x] (fun r => r = bv false):=by
 refine aB Tryz.func31 Tryz.ntmps31 ?_
 repeat' (first|(apply aF;(apply aA (k := 33);rfl;exact h;exact Pur.pf;rfl))|refine aE ?_|fail)
 exact aC rfl ⟨rfl,rfl⟩
theorem Kn (p:Prg) (x:Iss) (way cs:List Int) (e a:Int) (h:PC Tryz.prog 33 [bK p,fS x] (fun r => r = .tup [sl cI way,bv true])) (h2:PC Tryz.prog 34 [bK p,sl cI way] (fun r => r = .tup [sl cI cs,bv true])) (h3:PC Tryz.prog 35 [bK p,sl cI cs,iv 150] (fun r => r = .tup [iv e,iv a])) :
  PC Tryz.prog 31 [bK p,fS x] (fun r => r = bv (decide (e ≠ 0) && decide (e ≠ 1))) := by
 refine aB Tryz.func31 Tryz.ntmps31 ?_
 repeat' (first|(apply aF;first|(apply aA (k := 33);rfl;exact h;exact Pur.pf;rfl)|(apply aA (k := 34);rfl;exact h2;exact Pur.pf;rfl)|(apply aA (k := 35);rfl;exact h3;exact Pur.pf;rfl))|refine aE ?_|(refine bQ ?_ ?_ <;> intro hg hq <;> try (exfalso;omega))|fail)
 all_goals (refine aC rfl ⟨?_,rfl⟩; simp only [aO]; simp_all)
theorem JR (p:Prg) (x:Iss) (way:List Int) (h:PC Tryz.prog 82 [bK p,fS x] (fun r => r = .tup [sl cI way,bv false])):PC Tryz.prog 32 [bK p,fS x] (fun r => r = bv false):=by
 refine aB Tryz.func32 Tryz.ntmps32 ?_
 repeat' (first|(apply aF;(apply aA (k := 82);rfl;exact h;exact Pur.pf;rfl))|refine aE ?_|fail)
 exact aC rfl ⟨rfl,rfl⟩
theorem Kz (p:Prg) (x:Iss) (way cs:List Int) (e a:Int) (h:PC Tryz.prog 82 [bK p,fS x] (fun r => r = .tup [sl cI way,bv true])) (h2:PC Tryz.prog 83 [bK p,sl cI way] (fun r => r = .tup [sl cI cs,bv true])) (h3:PC Tryz.prog 84 [bK p,sl cI cs,iv 150] (fun r => r = .tup [iv e,iv a])) :
  PC Tryz.prog 32 [bK p,fS x] (fun r => r = bv (decide (e ≠ 0) && decide (e ≠ 1))) := by
 refine aB Tryz.func32 Tryz.ntmps32 ?_
 repeat' (first|(apply aF;first|(apply aA (k := 82);rfl;exact h;exact Pur.pf;rfl)|(apply aA (k := 83);rfl;exact h2;exact Pur.pf;rfl)|(apply aA (k := 84);rfl;exact h3;exact Pur.pf;rfl))|refine aE ?_|(refine bQ ?_ ?_ <;> intro hg hq <;> try (exfalso;omega))|fail)
 all_goals (refine aC rfl ⟨?_,rfl⟩; simp only [aO]; simp_all)
theorem Eb (bs:List UInt8) (hb:bs.length ≤ 1048576):PC Tryz.prog 30 [sl cU bs] (fun r => ∃ (q:Prg) (x:Iss),r = .tup [bK q,fS x] ∧ aT q.body ≤ 20000 ∧ q.types.length ≤ 1000):=by
 refine aB Tryz.func30 Tryz.ntmps30 ?_
 repeat' (first|(apply aF;first|(apply bD;rfl;rfl;rfl;rfl;rfl;(case hl => (simp;done));exact (rfl:_=[_,_,_]))|(apply jM (k := 81);rfl;exact Gu bs hb;exact Pur.pf;rfl;(rintro _ ⟨q,x,rfl,hq1,hq2⟩ _)))|refine aE ?_|fail)
 exact aC (l := [bK q,fS x]) rfl ⟨⟨q,x,rfl,hq1,hq2⟩,Pur.pf⟩
theorem JI (p:Prg) (x:Iss) (hl:p.types.length ≤ 1000000) (hs:aT p.body ≤ 1000000):∃ (way:List Int) (ok:Bool) (cs:List Int) (e a:Int),PC Tryz.prog 33 [bK p,fS x] (fun r => r = .tup [sl cI way,bv ok]) ∧
  (ok = true → PC Tryz.prog 34 [bK p,sl cI way] (fun r => r = .tup [sl cI cs,bv true]) ∧ PC Tryz.prog 35 [bK p,sl cI cs,iv 150] (fun r => r = .tup [iv e,iv a]) ∧ bB p = true ∧ e = MQ p cs 150) ∧
  PC Tryz.prog 31 [bK p,fS x] (fun r => r = bv (ok && (decide (e ≠ 0) && decide (e ≠ 1)))) ∧ PC Tryz.prog 32 [bK p,fS x] (fun r => r = bv (ok && (decide (e ≠ 0) && decide (e ≠ 1)))) := by
 obtain ⟨way,ok,h1,h2,h3⟩ := MG p x hl hs
 cases ok with
 | false => exact ⟨way,false,[],0,0,h1,fun h => Bool.noConfusion h,Jo p x way h1,JR p x way h2⟩
 | true =>
  obtain ⟨hv,W,rfl,hW⟩ := h3 rfl
  have h4 := QJ p W hW hv hl hs
  have h5 := QM p W hW hv hl hs
  have hWl := hW.l
  have hwl := uA (pts := aD p) (W := W) (W.length - 1)
  have h6 := QD p (E1 (aD p) W (W.length - 1)) 150 hl hs (by omega)
  have h7 := Qa p (E1 (aD p) W (W.length - 1)) 150 hl hs (by omega)
  exact ⟨_,true,_,_,_,h1,fun _ => ⟨h4,h6,hv,rfl⟩,Kn p x _ _ _ _ h1 h4 h6,Kz p x _ _ _ _ h2 h5 h7⟩
theorem xD (bs:List UInt8):PC Tryz.prog 5 [sl cU bs] (fun r => r = bv true):=by
 rcases Nat.lt_or_ge 1048576 bs.length with hb|hb
 ·refine aB Tryz.func5 Tryz.ntmps5 ?_
  repeat' (first|refine aE ?_|(refine aK ?_ ?_ <;> intro hc hq <;> try (exfalso;omega))|fail)
  exact aC rfl ⟨rfl,rfl⟩
 refine aB Tryz.func5 Tryz.ntmps5 ?_
 repeat' (first|(apply aF;first|(apply bD;rfl;rfl;rfl;rfl;rfl;(case hl => (simp;done));exact (rfl:_=[_,_,_]))|(apply jM (k := 30);rfl;exact Eb bs hb;exact Pur.pf;rfl;(rintro _ ⟨q,x,rfl,hq1,hq2⟩ _))|(with_reducible apply aY (d := 20)))|refine aE ?_|(refine aK ?_ ?_ <;> intro hc hq <;> try (exfalso;omega))|fail)
 refine bY ?_
 obtain ⟨way,ok,cs,e,a,h1,h2,h3,h4⟩ := JI q x (by omega) (by omega)
 obtain ⟨L,_,hA,_,hL⟩ := L0 q (by omega) (by omega)
 have hs := Gg (p := q) (cs := cs) (n := 150) hL
 cases ok with
 | false =>
  repeat' (first|(apply aF;first|(apply aA (k := 31);rfl;exact h3;exact Pur.pf;rfl)|(apply aA (k := 32);rfl;exact h4;exact Pur.pf;rfl))|refine aE ?_|fail)
  all_goals first
   | (exfalso;exact (by assumption : ¬ True) trivial)
   | (refine aC rfl ⟨?_,rfl⟩; simp only [aO,decide_true]; done)
   | (exfalso;grind)
 | true =>
  obtain ⟨h5,h6,hv,he⟩ := h2 rfl
  rw [← he] at hs
  generalize (bB q && L.isEmpty) = ac at *
  repeat' (first|(apply aF;first|(apply aA (k := 31);rfl;exact h3;exact Pur.pf;rfl)|(apply aA (k := 32);rfl;exact h4;exact Pur.pf;rfl)|(apply aA (k := 33);rfl;exact h1;exact Pur.pf;rfl)|(apply aA (k := 34);rfl;exact h5;exact Pur.pf;rfl)|(apply aA (k := 35);rfl;exact h6;exact Pur.pf;rfl)|(apply aA (k := 20);rfl;exact hA;exact Pur.pf;rfl))|refine aE ?_|(refine aK ?_ ?_ <;> intro hc hq <;> try (exfalso;omega))|(refine bQ ?_ ?_ <;> intro hg hq <;> try (exfalso;omega))|fail)
  all_goals first
   | (exfalso;exact (by assumption : ¬ True) trivial)
   | (refine aC rfl ⟨?_,rfl⟩; simp only [aO,decide_true]; done)
   | (refine aC rfl ⟨?_,rfl⟩; simp only [aO]; grind)
   | (exfalso;grind)
end Go.Proofs.YtahdccneecdmmaaGreat
namespace Go.Proofs.YtahdccneecdmmaaGreat
open Go.AL Go.ChangeShapes Go.WideShapes Go.ChangeAt Go.RowKit
theorem yQ {w:World}{bad:Nat → Prop}{ι:Pl}{b:Nat}:∀ (bs:List UInt8) (o:Nat),¬ bad b → (∀ j,j < bs.length → w.cell? ⟨b,o + j,none⟩ = some (.int .u8 ((bs[j]!).toNat:Int))) → RdC w bad ι (flat cU bs) b o
 | [],_,_,_ => by simp only [flat,List.flatMap_nil,RdC]
 | x :: bs, o, hb, h => by
  have h0 := h 0 (by simp)
  have e : flat cU (x :: bs) = .v (.int .u8 (x.toNat : Int)) :: flat cU bs := rfl
  rw [e]
  simp only [RdC]
  refine ⟨⟨.int .u8 (x.toNat : Int),by simpa using h0,rfl,by simp only [Rd]⟩,yQ bs (o + 1) hb fun j hj => ?_⟩
  have := h (j + 1) (by simpa using hj)
  rw [show o + 1 + j = o + (j + 1) from by omega]
  simpa using this
theorem CN {P:Program}{k:FuncId}{bs:List UInt8}(h:PC P k [sl cU bs] (fun r => r = bv true)){W:World}{v:Value}(hv:Rd W (fun _ => False) (fun _ => none) (sl cU bs) v) :
  Calls P k #[v] W fun e W' => e = .returned (.bool true) ∧ Below W.heap.size W W' := by
 let C : Ctx := { N := 0,w0 := W,W0 := fun _ => False,X := fun _ => False,ι0 := fun _ => none,xlt := fun _ h => h.elim }
 have hbad : ∀ b, ¬ aL C.X (fun _ => none) (aV []) b := by
  rintro b (h | ⟨id,cs,β,h1,h2⟩)
  ·exact h
  ·cases h2
 have g : HG C (fun _ => none) (fun j => 0 ≤ j) (aV []) W :=
  ⟨fun id cs h => by simp [aV] at h,fun id id' cs cs' b β β' h => by simp [aV] at h,Fr.refl _ _,fun _ _ h => h,fun _ _ => rfl⟩
 have hcar : Carry W (fun _ => False) (fun _ => none) W (aL C.X (fun _ => none) (aV [])) (fun _ => none) := ⟨fun b o x _ h2 => ⟨hbad b,h2⟩,fun _ _ h => h,fun _ => Nat.le_refl _⟩
 have ha : RdV W (aL C.X (fun _ => none) (aV [])) (fun _ => none) [sl cU bs] [v] := by
  simp only [RdV]
  exact ⟨v,[],rfl,Rd.carry hcar _ _ hv,rfl⟩
 refine (h C _ W [v] rfl rfl g ha).mono ?_
 rintro e W' ⟨v',r,H',ι',rfl,⟨rfl,_⟩,h4,h5⟩
 simp only [Rd] at h4
 subst h4
 have f := h5.fr
 exact ⟨rfl,f.os,f.tape,f.output,f.size,fun b hb => f.block b hb (fun h => h)⟩
theorem Sz:laidOutB Tryz.prog = true := by kernel_rfl
theorem QN:Tryz.prog.cellsOf 5 = 1 := by kernel_rfl
theorem IP {H:Type}{enc:TypeId × Value → H}{W:World}{base:Nat}{v0:Value}{d0:DataW H}{p:List MemPlace}(hval:Value.okWide Tryz.prog W .any base 22 v0) (h0:DataW.Trod enc Tryz.prog W 0 (fun _ => true) true 22 v0 d0 p) :
  ∃ bs : List UInt8,Rd W (fun _ => False) (fun _ => none) (sl cU bs) v0 := by
 obtain ⟨a0,len,cap,rfl⟩ := okWide_slice Tryz.underlying22 hval
 obtain ⟨fuel,hf⟩ := h0
 rcases open_ints Tryz.underlying22 Tryz.underlying5 QN hf with ⟨hcs,hx⟩ | ⟨a,len',cap',zs,hcs,_,hl,hm,hz,hx,hcell,hwz⟩
 ·simp [Value.cells] at hcs
  obtain ⟨rfl,rfl,rfl⟩ := hcs
  refine ⟨[],?_⟩
  simp only [Rd]
  exact ⟨none,0,rfl,.inl rfl⟩
 ·simp [Value.cells] at hcs
  obtain ⟨rfl,rfl,rfl⟩ := hcs
  simp only [if_true] at hz
  refine ⟨(zs.take len).map fun n => UInt8.ofNat n.toNat,?_⟩
  have hlen : ((zs.take len).map fun n => UInt8.ofNat n.toNat).length = len := by simp;omega
  simp only [Rd]
  refine ⟨some a,cap,by rw [hlen],?_⟩
  by_cases h00 : len = 0
  ·exact .inl (by rw [hlen]; exact h00)
  ·obtain ⟨b, off, spot⟩ := a
   have hspot : spot = none := by simpa [Addr.add] using World.cell?_spot (hcell 0 (by omega))
   subst hspot
   refine .inr ⟨b,off,by rw [hlen]; exact hl,rfl,.inr ⟨fun h => h,yQ _ _ (fun h => h) fun j hj => ?_⟩⟩
   rw [hlen] at hj
   have hcj := hcell j (by omega)
   rw [Addr.add_lit] at hcj
   rw [hcj]
   have e : zs.getD j 0 = zs[j]'(by omega) := by simp [List.getD,List.getElem?_eq_getElem (show j < zs.length by omega)]
   have hw := hwz (zs[j]'(by omega)) (List.getElem_mem _)
   have hr : 0 ≤ zs[j]'(by omega) ∧ zs[j]'(by omega) ≤ 255 := by simpa [Lit.wf,IntKind.min,IntKind.max,IntKind.signed,IntKind.bits] using hw
   rw [e,aZ _ _ (by rw [hlen]; exact hj)]
   simp only [List.getElem_map,List.getElem_take]
   congr 2
   simp only [UInt8.toNat_ofNat']
   omega
end Go.Proofs.YtahdccneecdmmaaGreat
