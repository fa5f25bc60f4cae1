/-
 A part of the proofs over this program: rules and contracts of its functions (the contracts).
-/
import Derived.Test.YtahdccneecdmmaaGreatE1B05
import Derived.Test.YtahdccneecdmmaaGreatRows
import Derived.WalkKit
import Derived.ProofKit
import Derived.OpenShut
import Derived.Carry
import Derived.ChangeSlices
set_option linter.unusedVariables false
set_option linter.unusedSimpArgs false
set_option maxHeartbeats 8000000
set_option maxRecDepth 4000
attribute [local irreducible] Go.AL.RW Go.AL.AW Go.AL.Stop
namespace Go.Proofs.YtahdccneecdmmaaGreat
open Go.AL Go.RowKit
variable {N : Nat} {Q : Exit → AS → Prop} {all : Array Oper} {rest : List Oper} {tsl : List (Nat × AV)} {hsl : List (Nat × Option (List AV))} {nidl : Nat} {z0 : Lo} {md : Md} {d : Nat} {ty : TypeId} {pos : String} {af : Array Edge} {tys : Array TypeId}
theorem JK {ts:List Int}{bd:List AL.Stmt}{pts:List Pnt}{s:Mc}{x:Pnt}{x0 x1:Operand}{i0 i1 i2:Nat}(ha0:ev (lk tsl) x0 = some (.optr i0 0)) (ha1:ev (lk tsl) x1 = some (dJ x)) (hH0:aO hsl i0 = some (mO ts bd pts i1 i2 s)) (hH1:aO hsl i1 = some (flat c6 s.slots)) (hH2:aO hsl i2 = some (flat cI s.read)) (hdd:Go.AL.distinct [i0,i1,i2] = true) (hmc:MC Tryz.prog 140 [.optr 0 0,dJ x] [(0,some (mO ts bd pts 1 2 s)),(1,some (flat c6 s.slots)),(2,some (flat cI s.read))] 3 (fun _:Unit => True) (fun _ => iv (dL ts s x).2) (fun _ => [(0,some (mO ts bd pts 1 5 (dL ts s x).1)),(1,some (flat c6 (dL ts s x).1.slots)),(5,some (flat cI (dL ts s x).1.read))])) (hM:Nat.ble (nidl + 3) aQ = true) (hN:Nat.blt d N = true){md':Md}[hmd:MdA md (fR [x0,x1] ++ [.inr i0,.inr i1,.inr i2]) (List.map Sum.inr (List.map Prod.fst ([(i0,some (mO ts bd pts i1 (nidl + 2) (dL ts s x).1)),(i1,some (flat c6 (dL ts s x).1.slots)),((nidl + 2),some (flat cI (dL ts s x).1.read)),(i2,none)]:List (Nat × Option (List AV)))) ++ [.inl d]) md'] (kk:RW Tryz.prog N all Q md' rest ⟨(d,iv (dL ts s x).2) :: tsl,iB hsl [(i0,some (mO ts bd pts i1 (nidl + 2) (dL ts s x).1)),(i1,some (flat c6 (dL ts s x).1.slots)),((nidl + 2),some (flat cI (dL ts s x).1.read)),(i2,none)],nidl + 3,z0⟩):RW Tryz.prog N all Q md (⟨some d,.call ⟨.value (.func 140),#[x0,x1],tys⟩,ty,pos,af,none⟩ :: rest) ⟨tsl,hsl,nidl,z0⟩:=by
 exact bB (l := [x0,x1]) [i0,i1,i2] 6 [(i0,some (mO ts bd pts i1 (nidl + 2) (dL ts s x).1)),(i1,some (flat c6 (dL ts s x).1.slots)),((nidl + 2),some (flat cI (dL ts s x).1.read)),(i2,none)] hmc (avs := [.optr i0 0,dJ x]) (by simp only [evL,ha0,ha1]) hdd hM hN (md' := md') (hmd := hmd) kk
theorem MV (ts:List Int) (bd:List AL.Stmt) (pts:List Pnt) (s:Mc) (x:Pnt) (htl:ts.length ≤ 6) (hm:OkM s.cells) (hsl:s.slots.length = ts.length) (hop:1 ≤ x.op ∧ x.op ≤ 11) (hrl:s.read.length ≤ 1000)
  (hx : x.op ≤ 8 → 0 ≤ x.x ∧ x.x < ts.length) (hy : 3 ≤ x.op → x.op ≤ 7 → 0 ≤ x.y ∧ x.y < ts.length) (hn : x.op = 2 → 0 ≤ x.n ∧ x.n ≤ 9) (h6 : ¬ (x.op = 6 ∧ bC s.cells s.slots[x.y.toNat]!.ptr false = 0 ∧ cR ts s x = false)) : MC Tryz.prog 140 [.optr 0 0,dJ x] [(0,some (mO ts bd pts 1 2 s)),(1,some (flat c6 s.slots)),(2,some (flat cI s.read))] 3 (fun _ : Unit => True) (fun _ => iv (dL ts s x).2) (fun _ => [(0,some (mO ts bd pts 1 2 (dL ts s x).1)),(1,some (flat c6 (dL ts s x).1.slots)),(2,some (flat cI (dL ts s x).1.read))]) := by
 by_cases h1 : x.op = 1
 ·exact MJ ts bd pts s x htl hm hsl h1 (hx (by omega))
 by_cases h2 : x.op = 2
 ·exact Nh ts bd pts s x htl hm hsl h2 (hn h2) (hx (by omega))
 by_cases h3 : x.op = 3
 ·exact MR ts bd pts s x htl hm hsl h3 (hx (by omega)) (hy (by omega) (by omega))
 by_cases h4 : x.op = 4 ∨ x.op = 5
 ·exact KP ts bd pts s x htl hm hsl h4 (hx (by omega)) (hy (by omega) (by omega))
 by_cases h6' : x.op = 6
 ·by_cases hu : cR ts s x = true
  ·exact MW ts bd pts s x htl hm hsl hu
  ·exact Mz ts bd pts s x htl hm hsl h6' hrl (hx (by omega)) (hy (by omega) (by omega)) (fun q => h6 ⟨h6',q,by simpa using hu⟩)
 by_cases h7 : x.op = 7
 ·exact MX ts bd pts s x htl hm hsl h7 (hx (by omega)) (hy (by omega) (by omega))
 by_cases h8 : x.op = 8
 ·exact MZ ts bd pts s x htl hm hsl h8 (hx (by omega))
 ·exact Ng ts bd pts s x htl hm hsl (by omega)
theorem Cj (x:Pnt) (h:x.next.length ≤ 1048576):PC Tryz.prog 91 [dJ x] (fun r => r = bv (decide (x.next.length = 2))):=by
 refine aC Tryz.func91 Tryz.ntmps91 ?_
 repeat' (first|refine aE ?_|fail)
 refine aD rfl ⟨?_,rfl⟩
 simp only [aM,AV.v.injEq,Value.bool.injEq,decide_eq_decide]; omega
theorem Mw {pts:List Pnt}{a:Nat}{C:List Int}(h:pts[a]!.next.length = 2) (hC:0 < C.length):iA pts a C = ((pts[a]!.next[(C[0]! % 2).toNat]!).toNat,C.drop 1):=by
 cases C with
 | nil => simp at hC
 | cons c C => unfold iA;rw [if_pos h]; rfl
theorem M3 {pts:List Pnt}{a:Nat}(h:pts[a]!.next.length = 2):iA pts a [] = ((pts[a]!.next[1]!).toNat,[]) := by unfold iA;rw [if_pos h]
theorem GI {pts:List Pnt}{n a b:Nat}{out C C2:List Int}{q:List Int × Bool}(h:¬ pts[a]!.op = 11) (ho:out.length ≤ n) (hs:iA pts a C = (b,C2)) (hq:q = (out ++ (wm pts (n - out.length) a C).1,(wm pts (n - out.length) a C).2)) :
  ((out ++ [(a : Int)]).length ≤ n ∧ q = ((out ++ [(a : Int)]) ++ (wm pts (n - (out ++ [(a : Int)]).length) b C2).1,(wm pts (n - (out ++ [(a : Int)]).length) b C2).2)) ∨ ((out ++ [(a : Int)]).length = n + 1 ∧ q = ((out ++ [(a : Int)]).take n,false)) := by
 have hl : (out ++ [(a : Int)]).length = out.length + 1 := by rw [List.length_append]; rfl
 rcases Nat.lt_or_ge out.length n with h1|h1
 ·exact .inl ⟨by omega,oK h h1 hs hq⟩
 ·refine .inr ⟨by omega, ?_⟩
  have e : out.length = n := by omega
  rw [hq,e,Nat.sub_self,HU h,← e,List.take_left' rfl,List.append_nil]
theorem KJ (ts:List Int) (bd:List AL.Stmt) (pts:List Pnt) (cs:List Int) (n:Nat) (w:WG ts pts) (wa:WA ts pts) (hn:n ≤ 1000) (hcl:cs.length ≤ 1048576):PC Tryz.prog 139 [aG ts bd pts,sl cI cs,iv (n:Int)] (fun r => r = .tup [sl cI (wm pts n 0 cs).1,bv (wm pts n 0 cs).2]):=by
 have hpl := w.pl
 have hp0 := w.p0
 refine aC Tryz.func139 Tryz.ntmps139 ?_
 repeat' (first|(apply aF;(apply eY (d := 8) (e := 1);rfl;rfl))|refine aE ?_|fail)
 refine aH (σ := Int × List Int × Nat × List Int) [0,2] [] (fun k => [(9,iv k.1),(1,sl cI k.2.2.2),(8,.own 0 0 k.2.2.1 1)]) (fun k => [(0,some (flat cI k.2.1))]) (fun k => (0 ≤ k.1 ∧ k.1 < pts.length) ∧ k.2.2.1 = k.2.1.length ∧ k.2.2.2.length ≤ 1048576 ∧ ((k.2.1.length ≤ n ∧ wm pts n 0 cs = (k.2.1 ++ (wm pts (n - k.2.1.length) k.1.toNat k.2.2.2).1,(wm pts (n - k.2.1.length) k.1.toNat k.2.2.2).2)) ∨ (k.2.1.length = n + 1 ∧ wm pts n 0 cs = (k.2.1.take n,false)))) (fun k => n + 1 - k.2.1.length) (0,[],0,cs) ⟨⟨Int.le_refl _,by show (0 : Int) < _; omega⟩,rfl,hcl,.inl ⟨Nat.zero_le _,rfl⟩⟩ ?_
 rintro ⟨a,out,m,C⟩ ⟨⟨ha0,ha⟩,hm,hC,hw⟩
 dsimp only at ha0 ha hm hC hw ⊢
 by_cases hout : out.length ≤ n
 ·have hw2 : wm pts n 0 cs = (out ++ (wm pts (n - out.length) a.toNat C).1, (wm pts (n - out.length) a.toNat C).2) := by
   rcases hw with h|h
   ·exact h.2
   ·omega
  have hat : (a.toNat : Int) = a := Int.toNat_of_nonneg ha0
  have hnx := w.nx a.toNat (by omega)
  have hnl := w.nl a.toNat (by omega)
  have hn1 := wa.n a.toNat (by omega)
  have hk : ∀ k,k < pts[a.toNat]!.next.length → 0 ≤ pts[a.toNat]!.next[k]! ∧ pts[a.toNat]!.next[k]! < pts.length := fun k h => hnx _ (aP _ _ h)
  have hch := Cj pts[a.toNat]! (by omega)
  repeat' (first|(apply aF;first|(apply aA (k := 91);rfl;exact hch;exact Pur.pf;rfl)|(apply Iv;rfl;rfl;rfl)|(apply aL (t := _);rfl;rfl;rfl;exact (rfl:_=some [_]);rfl;rfl))|refine aE ?_|(refine aJ ?_ ?_ <;> intro hc hq <;> try (exfalso;omega))|refine bJ ?_|fail)
  ·have hop : pts[a.toNat]!.op = 11 := by assumption
   have e : wm pts n 0 cs = (out ++ [a],true) := by rw [hw2,FR hop,hat]
   rw [e]
   (refine aT (Le.frzD (d := 6) (i := 2) rfl rfl) ?_; refine aD rfl ?_)
   refine ⟨?_,(by exact Pur.pf)⟩
   simp only [aM,sl]
   rw [hm,List.length_append]; rfl
  ·have hop : ¬ pts[a.toNat]!.op = 11 := by assumption
   have hst := GI hop hout (Kl (by omega)) hw2
   rw [hat] at hst
   have hk := hk 0 (by omega)
   (refine bD (pts[a.toNat]!.next[0]!,_,_,C) (Le.renA [(0,2)]) ?_ ?_)
   ·exact ⟨hk,by dsimp only;rw [List.length_append,hm]; rfl,hC,hst⟩
   ·dsimp only;rw [List.length_append]; simp only [List.length_singleton]; omega
  ·have hop : ¬ pts[a.toNat]!.op = 11 := by assumption
   have hC0 : 0 < C.length := by omega
   have hst := GI hop hout (Mw (by omega) hC0) hw2
   rw [hat] at hst
   have hk := hk (C[0]! % 2).toNat (by omega)
   have hCe : List.take (C.length - Int.toNat 1) (List.drop (Int.toNat 1) C) = C.drop 1 := List.take_of_length_le (by rw [List.length_drop]; exact Nat.le_refl _)
   rw [hCe]
   (refine bD (pts[a.toNat]!.next[(C[0]! % 2).toNat]!,_,_,C.drop 1) (Le.renA [(0,2)]) ?_ ?_)
   ·exact ⟨hk,by dsimp only;rw [List.length_append,hm]; rfl,by dsimp only;rw [List.length_drop]; omega,hst⟩
   ·dsimp only;rw [List.length_append]; simp only [List.length_singleton]; omega
  ·have hop : ¬ pts[a.toNat]!.op = 11 := by assumption
   have hC0 : C = [] := List.eq_nil_of_length_eq_zero (by omega)
   subst hC0
   have hst := GI hop hout (M3 (by omega)) hw2
   rw [hat] at hst
   have hk := hk 1 (by omega)
   (refine bD (pts[a.toNat]!.next[1]!,_,_,[]) (Le.renA [(0,2)]) ?_ ?_)
   ·exact ⟨hk,by dsimp only;rw [List.length_append,hm]; rfl,hC,hst⟩
   ·dsimp only;rw [List.length_append]; simp only [List.length_singleton]; omega
 ·have hw2 : out.length = n + 1 ∧ wm pts n 0 cs = (out.take n, false) := by
   rcases hw with h|h
   ·omega
   ·exact h
  repeat' (first|(apply aF;(apply iV (d := 59) (l := 0) (h := n);rfl;rfl;rfl;exact pL rfl (by omega);exact if_pos (by omega);rfl))|refine aE ?_|(refine aJ ?_ ?_ <;> intro hc hq <;> try (exfalso;omega))|fail)
  refine aT (Le.cut (i := 0) (n * 1) rfl) ?_
  refine aT (Le.frzD (d := 6) (i := 0) rfl rfl) ?_
  rw [hw2.2,dZ cI (e := 1)]
  refine aD (l := [.imm (n - 0) (flat cI (out.take n)),bv false]) rfl ⟨?_,(by exact Pur.pf)⟩
  rw [eF (by rw [List.length_take]; omega)]
  rfl
theorem JG {p:Prg}{cs:List Int}{n:Int}{x0 x1 x2:Operand}(ha0:ev (lk tsl) x0 = some (bY p)) (ha1:ev (lk tsl) x1 = some (sl cI cs)) (ha2:ev (lk tsl) x2 = some (iv n)) (hmc:MC Tryz.prog 69 [bY p,sl cI cs,iv n] [] 0 (fun _:Unit => True) (fun _ => .tup [.optr 1 0,iv 5,iv 0]) (fun _ => [(1,some ([.v (.pointer none),.imm 0 [],.imm 0 [],.imm 0 []]))])) (hM:Nat.ble (nidl + 2) aQ = true) (hN:Nat.blt d N = true){md':Md}[hmd:MdA md (fR [x0,x1,x2] ++ []) (List.map Sum.inr (List.map Prod.fst ([((nidl + 1),some ([.v (.pointer none),.imm 0 [],.imm 0 [],.imm 0 []]))]:List (Nat × Option (List AV)))) ++ [.inl d]) md'] (kk:RW Tryz.prog N all Q md' rest ⟨(d,.tup [.optr (nidl + 1) 0,iv 5,iv 0]) :: tsl,iB hsl [((nidl + 1),some ([.v (.pointer none),.imm 0 [],.imm 0 [],.imm 0 []]))],nidl + 2,z0⟩):RW Tryz.prog N all Q md (⟨some d,.call ⟨.value (.func 69),#[x0,x1,x2],tys⟩,ty,pos,af,none⟩ :: rest) ⟨tsl,hsl,nidl,z0⟩:=by
 exact bB (l := [x0,x1,x2]) [] 2 [((nidl + 1),some ([.v (.pointer none),.imm 0 [],.imm 0 [],.imm 0 []]))] hmc (avs := [bY p,sl cI cs,iv n]) (by simp only [evL,ha0,ha1,ha2]) rfl hM hN (md' := md') (hmd := hmd) kk
theorem Le.nilMid {ts:List (Nat × AV)}{hs:List (Nat × Option (List AV))}{n:Nat}{z0:Lo}{i:Nat}(c1:List AV){c2:List AV}(hi:aO hs i = some (c1 ++ .v (.slice none 0 0) :: c2)) :
  Le ⟨ts,hs,n,z0⟩ ⟨ts,(i,some (c1 ++ .imm 0 [] :: c2)) :: hs,n,z0⟩ :=
 Le.cells hi (by simp) fun w bad ι b β h => rC (fun y hy => by have := lE (av := .v (.slice none 0 0)) hy;exact this) c1 c2 b β h
theorem Kp {ts:List Int}{pts:List Pnt}{a last:Nat}{l:List Nat}{s:Mc}:mV ts pts (a :: l) s last = if (dL ts s pts[a]!).2 = -1 then mV ts pts l (dL ts s pts[a]!).1 a else ((dL ts s pts[a]!).1,(dL ts s pts[a]!).2,a):=by
 rw [mV]
 by_cases h : cR ts s pts[a]! = true
 ·rw [if_pos h,uO h,if_neg (show ¬ (2 : Int) = -1 by decide)]
 ·have h2 : cR ts s pts[a]! = false := by simpa using h
  rw [if_neg h,qK h2]
theorem Mt {ts:List Int}{nt:Nat}{s:Mc}(h:OkS nt s){x:Pnt}(hx:PtN x):OkS nt (dL ts s x).1:=by
 unfold dL;split
 ·exact h
 ·exact h.do hx
theorem Jt {ts:List Int}{s:Mc}{x:Pnt}:(dL ts s x).1.read.length ≤ s.read.length + 1:=by
 unfold dL;split
 ·dsimp only;omega
 ·exact AY
theorem Nu {ts:List Int}{s:Mc}{x:Pnt}(ho:x.op = 6) (hz:bC s.cells s.slots[x.y.toNat]!.ptr false = 0) (hu:cR ts s x = false) (ht:ts[x.x.toNat]! = 1):(dL ts s x).2 = -1:=by
 rw [qK hu]
 unfold dE
 rw [if_neg (show ¬ x.op = 1 by omega),if_neg (show ¬ x.op = 2 by omega),if_neg (show ¬ x.op = 3 by omega),if_neg (show ¬ (x.op = 4 ∨ x.op = 5) by omega),if_pos ho,if_pos hz]
 unfold bV
 rw [if_neg (fun h => by have := h.1;omega)]
theorem Lw (p:Prg) (cs:List Int) (n:Int) (hl:p.types.length ≤ 1048576) (hs:aU p.body ≤ 1048576) (hr:De p n = false):MC Tryz.prog 69 [bY p,sl cI cs,iv n] [] 0 (fun _:Unit => True) (fun _ => .tup [.optr 1 0,iv 5,iv 0]) (fun _ => [(1,some ([.v (.pointer none),.imm 0 [],.imm 0 [],.imm 0 []]))]):=by
 have hg := iI p hl hs
 unfold De at hr
 by_cases hv : bI p = true
 ·rw [if_pos hv] at hg
  rw [hv] at hr
  have hnn : ¬ (0 ≤ n ∧ n ≤ 150) := fun h => by rw [decide_eq_true h.1,decide_eq_true h.2] at hr;cases hr
  refine aW Tryz.func69 Tryz.ntmps69 ?_
  repeat' (first|(apply aF;first|(apply aA (k := 72);rfl;exact hg;exact Pur.pf;rfl)|(apply aA (k := 54);rfl;(apply dC);(rfl);rfl))|refine aE ?_|(refine aJ ?_ ?_ <;> intro hc hq <;> try (exfalso;omega))|fail)
  ·(refine aD rfl ?_; refine aR () trivial ?_ ⟨sE ?_, trivial⟩)
   ·rfl
   ·rfl
 ·rw [if_neg hv] at hg
  refine aW Tryz.func69 Tryz.ntmps69 ?_
  repeat' (first|(apply aF;(apply aA (k := 72);rfl;exact hg;exact Pur.pf;rfl))|refine aE ?_|fail)
  (refine aD rfl ?_; refine aR () trivial ?_ ⟨sE ?_,trivial⟩)
  ·rfl
  ·rfl
theorem Ll (p:Prg) (cs:List Int) (n:Nat) (q:Mc × Int × Nat) (hqq:q = jF p.types (aB p) cs n) (hv:bI p = true) (hl:p.types.length ≤ 1048576) (hs:aU p.body ≤ 1048576) (hn:n ≤ 150) (hcl:cs.length ≤ 1048576):MC Tryz.prog 69 [bY p,sl cI cs,iv (n:Int)] [] 0 (fun _:Unit => True) (fun _ => .tup [.optr 2 0,iv q.2.1,iv (q.2.2:Int)]) (fun _ => [(2,some (mO p.types p.body (aB p) 1 3 q.1)),(1,some (flat c6 q.1.slots)),(3,some (flat cI q.1.read))]):=by
 have hg := iI p hl hs
 rw [if_pos hv] at hg
 have w := WG.of_valid hv
 have wa := WA.of_valid hv
 have hru := KJ p.types p.body (aB p) cs n w wa (by omega) hcl
 have htl := w.tl
 have hpl := w.pl
 have hL := BJ w wa n 0 cs w.p0
 have hLl := rG (pts := aB p) n 0 cs
 unfold jF at hqq
 unfold wm at hru
 obtain ⟨L,hLe⟩ : ∃ L,L = (gK (aB p) n 0 cs).1 := ⟨_,rfl⟩
 obtain ⟨dn,hdn⟩ : ∃ dn,dn = (gK (aB p) n 0 cs).2 := ⟨_,rfl⟩
 rw [← hLe,← hdn] at hru
 rw [← hLe] at hqq hL hLl
 have hgx : ∀ i,i < L.length → (L.map (fun a : Nat => (a : Int)))[i]! = (L[i]! : Int) := fun i h => by rw [a8 _ _ (by rw [List.length_map]; exact h),List.getElem_map,a8 _ _ h]
 have hml : (L.map (fun a : Nat => (a : Int))).length = L.length := List.length_map _
 generalize (L.map (fun a : Nat => (a : Int))) = LI at *
 generalize hP : aB p = pts at *
 refine aW Tryz.func69 Tryz.ntmps69 ?_
 repeat' (first|(apply aF;first|(apply aA (k := 72);rfl;exact hg;exact Pur.pf;rfl)|(with_reducible apply aV (d := 40))|(apply aA (k := 54);rfl;(apply dC);(rfl);rfl))|refine aE ?_|(refine aJ ?_ ?_ <;> intro hc hq <;> try (exfalso;omega))|fail)
 refine bR ?_
 rw [show (List.replicate p.types.length ([Value.bool false,Value.int .i64 0,Value.int .i64 0,Value.int .i64 0].map AV.v)).flatten = flat c6 (List.replicate p.types.length mA) from sZ rfl]
 apply n8
 case hl => rfl
 case hf => exact (rfl:_=some [_,_,AV.v (.slice none 0 0),AV.v (.slice none 0 0)])
 case hN => rfl
 repeat' (first|(apply aF;(with_reducible apply aV (d := 43)))|refine aE ?_|fail)
 refine bR (cY ?_ (Le.nilMid (i := 2) [_,_] rfl))
 refine cY ?_ (Le.nilCell (i := 2) 1 [_,_,_] rfl (by decide) (by decide))
 repeat' (first|(apply aF;(apply aA (k := 139);rfl;exact hru;exact Pur.pf;rfl))|refine aE ?_|fail)
 refine aH (σ := Nat × Mc × Nat) [9,11,49,50] [] (fun k => [(51,iv (k.1 : Int)),(14,iv (k.2.2 : Int))]) (fun k => [(2,some (mO p.types p.body pts 1 3 k.2.1)),(1,some (flat c6 k.2.1.slots)),(3,some (flat cI k.2.1.read))]) (fun k => k.1 ≤ L.length ∧ mV p.types pts (L.drop k.1) k.2.1 k.2.2 = q ∧ OkS p.types.length k.2.1 ∧ k.2.1.read.length ≤ k.1) (fun k => L.length - k.1) (0,mc0 p.types.length,0) ⟨Nat.zero_le _,hqq.symm,OkS.mc0 _,Nat.le_refl _⟩ ?_
 rintro ⟨i,s,last⟩ ⟨hi,hf,hok,hrd⟩
 dsimp only at hi hf hok hrd ⊢
 by_cases hiL : i < L.length
 ·have hap := hL L[i]! (aP _ _ hiL)
  have hop := w.op L[i]! hap
  have hwx := w.x L[i]! hap
  have hwy := w.y L[i]! hap
  have hA := wa.a L[i]! hap
  have hg2 := hgx i hiL
  have hdr : L.drop i = L[i]! :: L.drop (i + 1) := by rw [List.drop_eq_getElem_cons hiL,a8 _ _ hiL]
  rw [hdr,Kp] at hf
  have hpt : PtN pts[L[i]!]! := ⟨fun h => hA.n (.inr h)⟩
  have hdo := Mt (ts := p.types) hok hpt
  have hdr2 := Jt (ts := p.types) (s := s) (x := pts[L[i]!]!)
  by_cases h6 : pts[L[i]!]!.op = 6 ∧ bC s.cells s.slots[(pts[L[i]!]!).y.toNat]!.ptr false = 0 ∧ cR p.types s pts[L[i]!]! = false
  ·have hm6 := KR p.types p.body pts s pts[L[i]!]! htl hok.m hok.l h6.1 (by omega) (by omega) (by omega) h6.2.1 h6.2.2
   repeat' (first|(apply aF;(with_reducible apply aV (d := 16)))|refine aE ?_|(refine aJ ?_ ?_ <;> intro hc hq <;> try (exfalso;omega))|fail)
   refine bR ?_
   rw [hg2]
   repeat' (first|(apply aF;(apply JK (ts := p.types) (bd := p.body) (pts := pts) (s := s) (x := pts[L[i]!]!);rfl;rfl;rfl;rfl;rfl;rfl;exact hm6;rfl;rfl))|refine aE ?_|(refine aJ ?_ ?_ <;> intro hc hq <;> try (exfalso;omega))|fail)
   ·exfalso
    have h9 : ¬ (dL p.types s pts[L[i]!]!).2 = -1 := by assumption
    exact h9 (Nu h6.1 h6.2.1 h6.2.2 (hA.t6 h6.1).1)
   ·(refine bD (i + 1, (dL p.types s pts[L[i]!]!).1, L[i]!) (Le.renA [(1, 1), (2, 2), (3, 6)]) ?_ ?_)
    ·refine ⟨by dsimp only; omega, ?_, hdo, by dsimp only; omega⟩
     dsimp only
     rw [if_pos (by assumption)] at hf
     exact hf
    ·dsimp only;omega
  ·have hmd := MV p.types p.body pts s pts[L[i]!]! htl hok.m hok.l hop (by omega) (fun h => by omega) (fun h h2 => by omega) (fun h => hA.n (.inr h)) h6
   repeat' (first|(apply aF;(with_reducible apply aV (d := 16)))|refine aE ?_|(refine aJ ?_ ?_ <;> intro hc hq <;> try (exfalso;omega))|fail)
   refine bR ?_
   rw [hg2]
   repeat' (first|(apply aF;(apply KE (ts := p.types) (bd := p.body) (pts := pts) (s := s) (x := pts[L[i]!]!);rfl;rfl;rfl;rfl;rfl;rfl;exact hmd;rfl;rfl))|refine aE ?_|(refine aJ ?_ ?_ <;> intro hc hq <;> try (exfalso;omega))|fail)
   ·have h9 : ¬ (dL p.types s pts[L[i]!]!).2 = -1 := by assumption
    rw [if_neg h9] at hf
    rw [← hf]
    (refine aD rfl ?_; refine aR () trivial ?_ ⟨sE ?_,⟨sE ?_,⟨sE ?_,trivial⟩⟩⟩)
    ·rfl
    ·rfl
    ·rfl
    ·rfl
   ·(refine bD (i + 1, (dL p.types s pts[L[i]!]!).1, L[i]!) (Le.renA [(1, 1), (2, 2), (3, 3)]) ?_ ?_)
    ·refine ⟨by dsimp only; omega, ?_, hdo, by dsimp only; omega⟩
     dsimp only
     rw [if_pos (by assumption)] at hf
     exact hf
    ·dsimp only;omega
 ·repeat' (first | refine aE ?_ | (refine aJ ?_ ?_ <;> intro hc hq <;> try (exfalso; omega))|fail)
  have hie : i = L.length := by omega
  have hq2 : q = (s,1,last) := by rw [← hf,hie,List.drop_length]; rfl
  rw [hq2]
  (refine aD rfl ?_; refine aR () trivial ?_ ⟨sE ?_,⟨sE ?_,⟨sE ?_,trivial⟩⟩⟩)
  ·rfl
  ·rfl
  ·rfl
  ·rfl
theorem Hr {p:Prg}{cs:List Int}{n:Int}{q:Mc × Int × Nat}{x0 x1 x2:Operand}(ha0:ev (lk tsl) x0 = some (bY p)) (ha1:ev (lk tsl) x1 = some (sl cI cs)) (ha2:ev (lk tsl) x2 = some (iv n)) (hmc:MC Tryz.prog 69 [bY p,sl cI cs,iv n] [] 0 (fun _:Unit => True) (fun _ => .tup [.optr 2 0,iv q.2.1,iv (q.2.2:Int)]) (fun _ => [(2,some (mO p.types p.body (aB p) 1 3 q.1)),(1,some (flat c6 q.1.slots)),(3,some (flat cI q.1.read))])) (hM:Nat.ble (nidl + 4) aQ = true) (hN:Nat.blt d N = true){md':Md}[hmd:MdA md (fR [x0,x1,x2] ++ []) (List.map Sum.inr (List.map Prod.fst ([((nidl + 2),some (mO p.types p.body (aB p) (nidl + 1) (nidl + 3) q.1)),((nidl + 1),some (flat c6 q.1.slots)),((nidl + 3),some (flat cI q.1.read))]:List (Nat × Option (List AV)))) ++ [.inl d]) md'] (kk:RW Tryz.prog N all Q md' rest ⟨(d,.tup [.optr (nidl + 2) 0,iv q.2.1,iv (q.2.2:Int)]) :: tsl,iB hsl [((nidl + 2),some (mO p.types p.body (aB p) (nidl + 1) (nidl + 3) q.1)),((nidl + 1),some (flat c6 q.1.slots)),((nidl + 3),some (flat cI q.1.read))],nidl + 4,z0⟩):RW Tryz.prog N all Q md (⟨some d,.call ⟨.value (.func 69),#[x0,x1,x2],tys⟩,ty,pos,af,none⟩ :: rest) ⟨tsl,hsl,nidl,z0⟩:=by
 exact bB (l := [x0,x1,x2]) [] 4 [((nidl + 2),some (mO p.types p.body (aB p) (nidl + 1) (nidl + 3) q.1)),((nidl + 1),some (flat c6 q.1.slots)),((nidl + 3),some (flat cI q.1.read))] hmc (avs := [bY p,sl cI cs,iv n]) (by simp only [evL,ha0,ha1,ha2]) rfl hM hN (md' := md') (hmd := hmd) kk
theorem uQ (p:Prg) (cs:List Int) (most:Int) (hl:p.types.length ≤ 1048576) (hs:aU p.body ≤ 1048576) (hcl:cs.length ≤ 1048576):PC Tryz.prog 35 [bY p,sl cI cs,iv most] (fun r => r = .tup (if De p most = true then [iv (jF p.types (aB p) cs most.toNat).2.1,iv (jF p.types (aB p) cs most.toNat).2.2] else [iv 5,iv 0])):=by
 by_cases h : De p most = true
 ·have h' := h
  unfold De at h'
  simp only [Bool.and_eq_true,decide_eq_true_eq] at h'
  obtain ⟨hv,h0,h1⟩ := h'
  have hru := Ll p cs most.toNat _ rfl hv hl hs (by omega) hcl
  have hok := LO (cs := cs) (n := most.toNat) hv
  have hrl := Cd (ts := p.types) (pts := aB p) (cs := cs) (n := most.toNat) (by omega)
  have htl := (WG.of_valid hv).tl
  rw [Int.toNat_of_nonneg h0] at hru
  rw [if_pos h]
  have hon := Int.toNat_of_nonneg h0
  have hm := hok.m
  have hml := hm.l
  have hsl := hok.l
  generalize jF p.types (aB p) cs most.toNat = q at *
  refine aC Tryz.func35 Tryz.ntmps35 ?_
  repeat' (first|(apply aF;(apply Hr (p := p) (cs := cs) (n := most) (q := q);rfl;rfl;rfl;exact hru;rfl;rfl))|refine aE ?_|fail)
  exact aD (l := [iv q.2.1,iv q.2.2]) rfl ⟨rfl,rfl⟩
 ·rw [if_neg h]
  have h2 : De p most = false := by simpa using h
  refine aC Tryz.func35 Tryz.ntmps35 ?_
  repeat' (first|(apply aF;(apply JG (p := p) (cs := cs) (n := most);rfl;rfl;rfl;exact Lw p cs most hl hs h2;rfl;rfl))|refine aE ?_|fail)
  exact aD (l := [iv 5,iv 0]) rfl ⟨rfl,rfl⟩
def Fb (p : Prg) (cs : List Int) (n : Int) : Int := if De p n = true then (jF p.types (aB p) cs n.toNat).2.1 else 5
def K8 (p : Prg) (cs : List Int) (n : Int) : Int := if De p n = true then ((jF p.types (aB p) cs n.toNat).2.2 : Int) else 0
theorem KG (p:Prg) (cs:List Int) (n:Int) (hl:p.types.length ≤ 1048576) (hs:aU p.body ≤ 1048576) (hcl:cs.length ≤ 1048576):PC Tryz.prog 35 [bY p,sl cI cs,iv n] (fun r => r = .tup [iv (Fb p cs n),iv (K8 p cs n)]):=by
 have h := uQ p cs n hl hs hcl
 unfold Fb K8
 split
 ·rename_i h2;rw [if_pos h2] at h;exact h
 ·rename_i h2;rw [if_neg h2] at h;exact h
theorem Lg (p:Prg) (cs:List Int) (n:Int) (hl:p.types.length ≤ 1048576) (hs:aU p.body ≤ 1048576) (hcl:cs.length ≤ 1048576):PC Tryz.prog 84 [bY p,sl cI cs,iv n] (fun r => r = .tup [iv (Fb p cs n),iv (K8 p cs n)]):=by
 have h := uG p cs n hl hs hcl
 unfold Fb K8
 split
 ·rename_i h2;rw [if_pos h2] at h;exact h
 ·rename_i h2;rw [if_neg h2] at h;exact h
def uR (n l : Nat) : List Int := (List.range l).map fun i => ((n / 2 ^ i % 2 : Nat) : Int)
theorem qW (n l:Nat):(uR n l).length = l := by unfold uR;rw [List.length_map,List.length_range]
theorem zX (n l:Nat):uR n (l + 1) = uR n l ++ [((n / 2 ^ l % 2:Nat):Int)]:=by
 unfold uR;rw [List.range_succ,List.map_append]; rfl
def nF (p : Prg) (l n : Nat) : Bool := decide (Fb p (uR n l) 80 ≠ 0) && decide (Fb p (uR n l) 80 ≠ 1)
def B7 (p : Prg) (l k : Nat) : Nat := ((List.range k).filter (nF p l)).length
theorem J5 {p:Prg}{l k:Nat}(h:nF p l k = true):B7 p l (k + 1) = B7 p l k + 1:=by
 unfold B7;rw [List.range_succ,List.filter_append,List.length_append]; simp [h]
theorem Hk {p:Prg}{l k:Nat}(h:nF p l k = false):B7 p l (k + 1) = B7 p l k:=by
 unfold B7;rw [List.range_succ,List.filter_append,List.length_append]; simp [h]
theorem Me {p:Prg}{l k:Nat}:B7 p l k ≤ k:=by
 unfold B7;exact Nat.le_trans (List.length_filter_le _ _) (by rw [List.length_range]; exact Nat.le_refl _)
theorem y8 (n l:Nat) (hl:l ≤ 100) (hn:n ≤ 1048576):PC Tryz.prog 229 [iv (n:Int),iv (l:Int)] (fun r => r = sl cI (uR n l)):=by
 refine aC Tryz.func229 Tryz.ntmps229 ?_
 repeat' (first|refine aE ?_|fail)
 refine aH (σ := Nat × Nat × List Int × Nat) [1] [] (fun k => [(6,iv (k.1 : Int)),(0,iv (k.2.1 : Int)),(5,.own 0 0 k.2.2.2 1)]) (fun k => [(0,some (flat cI k.2.2.1))]) (fun k => k.1 ≤ l ∧ k.2.1 = n / 2 ^ k.1 ∧ k.2.2.1 = uR n k.1 ∧ k.2.2.2 = k.1) (fun k => l - k.1) (0,n,[],0) ⟨Nat.zero_le _,by simp,rfl,rfl⟩ ?_
 rintro ⟨i,n',xs,m⟩ ⟨hi,hn',hxs,hm⟩
 dsimp only at hi hn' hxs hm ⊢
 have hnl : n' ≤ 1048576 := by rw [hn']; exact Nat.le_trans (Nat.div_le_self _ _) hn
 have hxl : xs.length = m := by rw [hxs,qW,hm]
 repeat' (first|(apply aF;(apply aL (t := _);rfl;rfl;rfl;exact (rfl:_=some [_]);rfl;rfl))|refine aE ?_|(refine aJ ?_ ?_ <;> intro hc hq <;> try (exfalso;omega))|fail)
 ·(refine bD (i + 1, n' / 2, _, m + 1) (Le.renA [(0, 2)]) ?_ ?_)
  ·refine ⟨by dsimp only; omega, ?_, ?_, by dsimp only; omega⟩
   ·dsimp only;rw [hn',Nat.pow_succ,Nat.div_div_eq_div_mul]
   ·dsimp only;rw [zX,← hxs,← hn']; rfl
  ·dsimp only;omega
 ·(refine aT (Le.frzD (d := 4) (i := 0) rfl rfl) ?_; refine aD rfl ?_)
  refine ⟨?_,(by (exact a6 _ _))⟩
  have hie : i = l := by omega
  simp only [aM,sl]
  rw [← hxl,hxs,hie]
theorem GP (l:Nat) (hl:l ≤ 10):PC Tryz.prog 227 [iv (l:Int)] (fun r => r = iv ((2 ^ l:Nat):Int)):=by
 refine aC Tryz.func227 Tryz.ntmps227 ?_
 repeat' (first|refine aE ?_|fail)
 refine aH (σ := Nat) [0] [] (fun k => [(4,iv (k : Int)),(3,iv ((2 ^ k : Nat) : Int))]) (fun k => []) (fun k => k ≤ l) (fun k => l - k) (0) (Nat.zero_le _) ?_
 rintro k hk
 have hp : 2 ^ k ≤ 2 ^ 10 := Nat.pow_le_pow_right (by decide) (by omega)
 repeat' (first|refine aE ?_|(refine aJ ?_ ?_ <;> intro hc hq <;> try (exfalso;omega))|fail)
 ·have hw : IntKind.i64.wrap (((2 ^ k : Nat) : Int) * 2) = ((2 ^ (k + 1) : Nat) : Int) := by
   rw [show (((2 ^ k : Nat) : Int) * 2) = ((2 ^ (k + 1) : Nat) : Int) by rw [Nat.pow_succ,Int.natCast_mul]; rfl]
   exact oZ (Sm.pow (by omega)).pf
  rw [hw]
  (refine bD (k + 1) (Le.renA []) ?_ ?_)
  ·omega
  ·omega
 ·refine aD rfl ⟨?_, rfl⟩
  rw [show l = k by omega]; rfl
def qR (p : Prg) (l : Int) : Bool := bI p && (decide (0 ≤ l) && decide (l ≤ 6))
theorem qZ {p:Prg}{l:Int}:qR p l = true ↔ bI p = true ∧ 0 ≤ l ∧ l ≤ 6 := by unfold qR;simp only [Bool.and_eq_true,decide_eq_true_eq]
theorem vC (p:Prg) (l:Int) (hl:p.types.length ≤ 1048576) (hs:aU p.body ≤ 1048576):PC Tryz.prog 178 [bY p,iv l] (fun r => r = bv (qR p l)):=by
 have hval := fW p hl (by omega)
 refine aC Tryz.func178 Tryz.ntmps178 ?_
 repeat' (first|(apply aF;(apply aA (k := 61);rfl;exact hval;exact Pur.pf;rfl))|refine aE ?_|(refine bS ?_ ?_ <;> intro hg hq <;> try (exfalso;omega))|fail)
 all_goals (refine aD rfl ⟨?_,rfl⟩; simp only [aM,AV.v.injEq,Value.bool.injEq]; unfold qR;grind)
theorem Gd:PC Tryz.prog 262 [] (fun r => r = iv 80):=by
 refine aC Tryz.func262 Tryz.ntmps262 ?_
 repeat' (first|refine aE ?_|fail)
 exact aD rfl ⟨rfl,rfl⟩
theorem D8 (p:Prg) (cs:List Int) (hl:p.types.length ≤ 1048576) (hs:aU p.body ≤ 1048576) (hcl:cs.length ≤ 1048576):PC Tryz.prog 228 [bY p,sl cI cs] (fun r => r = .tup [bv (decide (Fb p cs 80 ≠ 0) && decide (Fb p cs 80 ≠ 1)),iv (K8 p cs 80)]):=by
 have h := Lg p cs 80 hl hs hcl
 have hm := Gd
 generalize Fb p cs 80 = e at *
 generalize K8 p cs 80 = a at *
 refine aC Tryz.func228 Tryz.ntmps228 ?_
 repeat' (first|(apply aF;first|(apply aA (k := 84);rfl;exact h;exact Pur.pf;rfl)|(apply aA (k := 262);rfl;exact hm;(rfl);rfl))|refine aE ?_|(refine bS ?_ ?_ <;> intro hg hq <;> try (exfalso;omega))|refine bJ ?_|fail)
 ·refine aD (l := [bv _, iv a]) ?_ ⟨rfl, rfl⟩
  have hd : (decide (e ≠ 0) && decide (e ≠ 1)) = !decide (e = 1) := by simp_all
  rw [hd]; rfl
 ·refine aD (l := [bv _, iv a]) ?_ ⟨rfl, rfl⟩
  have hd : (decide (e ≠ 0) && decide (e ≠ 1)) = false := by simp_all
  rw [hd]; rfl
theorem BA (l:Int):PC Tryz.prog 257 [iv l] (fun r => r = bv (decide (0 ≤ l) && decide (l ≤ 6))):=by
 have hw := dC l 0 6
 refine aC Tryz.func257 Tryz.ntmps257 ?_
 repeat' (first|(apply aF;(apply aA (k := 54);rfl;exact hw;(rfl);rfl))|refine aE ?_|fail)
 exact aD rfl ⟨rfl,rfl⟩
theorem Aw (n l:Nat) (hl:l ≤ 60) (hn:n ≤ 1048576):PC Tryz.prog 258 [iv (n:Int),iv (l:Int)] (fun r => r = sl cI (uR n l)):=by
 have : Sm n := ⟨by omega⟩
 refine aC Tryz.func258 Tryz.ntmps258 ?_
 repeat' (first|refine aE ?_|fail)
 refine AW.le ?_ (Le.nilOwn (d := 5) 1 rfl (by decide))
 refine aH (σ := Nat × List Int × Nat) [0,7] [] (fun k => [(8,iv (k.1 : Int)),(5,.own 0 0 k.2.2 1)]) (fun k => [(0,some (flat cI k.2.1))]) (fun k => k.1 ≤ l ∧ k.2.1 = uR n k.1 ∧ k.2.2 = k.1) (fun k => l - k.1) (0,[],0) ⟨Nat.zero_le _,rfl,rfl⟩ ?_
 rintro ⟨i,xs,m⟩ ⟨hi,hxs,hm⟩
 dsimp only at hi hxs hm ⊢
 have hxl : xs.length = m := by rw [hxs,qW,hm]
 repeat' (first|(apply aF;(apply aL (t := _);rfl;rfl;rfl;exact (rfl:_=some [_]);rfl;rfl))|refine aE ?_|(refine aJ ?_ ?_ <;> intro hc hq <;> try (exfalso;omega))|fail)
 ·(refine bD (i + 1, _, m + 1) (Le.renA [(0, 2)]) ?_ ?_)
  ·refine ⟨by dsimp only; omega, ?_, by dsimp only; omega⟩
   have hz : n >>> (i : Int).toNat &&& 1 = n / 2 ^ i % 2 := by rw [Int.toNat_natCast,Nat.shiftRight_eq_div_pow]; exact Nat.and_one_is_mod _
   dsimp only;rw [zX,← hxs,← hz]
  ·dsimp only;omega
 ·refine aT (Le.frzD (d := 4) (i := 0) rfl rfl) ?_
  refine aD rfl ⟨?_,(by (exact a6 _ _))⟩
  have hie : i = l := by omega
  simp only [aM,sl]
  rw [← hxl,hxs,hie]
theorem KQ (a b c:Int) (h0:0 ≤ c) (h1:c ≤ 100):MC Tryz.prog 221 [iv a,iv b,.optr 0 0] [(0,some [iv c])] 1 (fun _:Unit => True) (fun _ => .tup []) (fun _ => [(0,some [iv (c + 1)])]):=by
 refine aW Tryz.func221 Tryz.ntmps221 ?_
 repeat' (first|refine aE ?_|fail)
 refine xV (l := []) rfl ?_
 exact aR () trivial rfl ⟨.inr rfl,trivial⟩
theorem HI (p:Prg) (l:Int) (hl:p.types.length ≤ 1048576) (hs:aU p.body ≤ 1048576):MC Tryz.prog 220 [bY p,iv l,.clos (.func 221) [] [.optr 0 0]] [(0,some [iv 0])] 1 (fun _:Unit => True) (fun _ => bv (qR p l)) (fun _ => [(0,some [iv (if qR p l = true then (B7 p l.toNat (2 ^ l.toNat):Int) else 0)])]):=by
 have hv0 := oA p hl (by omega)
 have hil := BA l
 by_cases h : qR p l = true
 ·obtain ⟨hv, h0, h1⟩ := qZ.1 h
  rw [hv] at hv0
  rw [h,if_pos rfl]
  obtain ⟨L,rfl⟩ := Int.eq_ofNat_of_zero_le h0
  rw [show (decide (0 ≤ (L : Int)) && decide ((L : Int) ≤ 6)) = true by rw [decide_eq_true h0,decide_eq_true h1]; rfl] at hil
  have hp : 2 ^ L ≤ 2 ^ 6 := Nat.pow_le_pow_right (by decide) (by omega)
  rw [Int.toNat_natCast]
  refine aW Tryz.func220 Tryz.ntmps220 ?_
  repeat' (first|(apply aF;first|(apply aA (k := 39);rfl;exact hv0;exact Pur.pf;rfl)|(apply aA (k := 257);rfl;exact hil;(rfl);rfl)|(apply fU;rfl;rfl;infer_instance;omega;rfl;(case' kk => intro hsm)))|refine aE ?_|fail)
  rw [Int.toNat_natCast]
  generalize hT : 2 ^ L = T at *
  refine aH (σ := Nat × Nat) [1,2,3,19] [] (fun s => [(20,iv (s.1 : Int))]) (fun s => [(0,some [iv (s.2 : Int)]),(1,some [sl cI p.types,sl aZ p.body])]) (fun s => s.1 ≤ T ∧ s.2 = B7 p L s.1) (fun s => T - s.1) (0,0) ⟨Nat.zero_le _,rfl⟩ ?_
  rintro ⟨k,c⟩ ⟨hk,hc⟩
  dsimp only at hk hc ⊢
  have hcb := Me (p := p) (l := L) (k := k)
  have hch1 := J5 (p := p) (l := L) (k := k)
  have hcs1 := Hk (p := p) (l := L) (k := k)
  rw [← hc] at hcb hch1 hcs1
  have hch := Aw k L (by omega) (by omega)
  have hru := KG p (uR k L) 80 hl hs (by rw [qW]; omega)
  have hbd : nF p L k = (decide (Fb p (uR k L) 80 ≠ 0) && decide (Fb p (uR k L) 80 ≠ 1)) := rfl
  generalize Fb p (uR k L) 80 = e at hru hbd
  generalize K8 p (uR k L) 80 = a at hru
  repeat' (first|(apply aF;first|(apply aA (k := 258);rfl;exact hch;(rfl);rfl)|(apply aA (k := 35);rfl;exact hru;exact Pur.pf;rfl))|refine aE ?_|(refine aJ ?_ ?_ <;> intro hc hq <;> try (exfalso;omega))|(refine bS ?_ ?_ <;> intro hg hq <;> try (exfalso;omega))|refine bJ ?_|fail)
  ·have hbt : nF p L k = true := by rw [hbd]; simp_all
   refine Dv (k := 221) (avs := [iv (k : Int),iv a]) (avs0 := [iv (k : Int),iv a,.optr 0 0]) (rr' := .tup []) [0] 1 [(0,some [iv ((c : Int) + 1)])] (KQ (k : Int) a (c : Int) (by omega) (by omega)) rfl rfl rfl rfl ⟨⟨_,_,rfl,rfl,RnL.purI inferInstance⟩,trivial⟩ rfl (RnL.cons (RnV.purI inferInstance) (RnL.cons (RnV.purI inferInstance) (RnL.cons (RnV.optr rfl) .nil))) rfl (RnV.purI inferInstance) rfl ⟨⟨0,_,rfl,rfl,RnL.purI inferInstance⟩,trivial⟩ rfl ?_
   repeat' (first|refine aE ?_|fail)
   (apply bD (k + 1,c + 1);focus (refine Le.of (mD ?_) (jH ?_) (Nat.le_refl 2) rfl <;> repeat' (first|exact trivial|refine And.intro rfl ?_|refine And.intro (.inr rfl) ?_)))
   ·exact ⟨by dsimp only;omega,(hch1 hbt).symm⟩
   ·dsimp only;omega
  ·have hbf : nF p L k = false := by rw [hbd]; simp_all
   (apply bD (k + 1,c);focus (refine Le.of (mD ?_) (jH ?_) (Nat.le_refl 2) rfl <;> repeat' (first|exact trivial|refine And.intro rfl ?_|refine And.intro (.inr rfl) ?_)))
   ·exact ⟨by dsimp only;omega,(hcs1 hbf).symm⟩
   ·dsimp only;omega
  ·have hbf : nF p L k = false := by rw [hbd]; simp_all
   (apply bD (k + 1,c);focus (refine Le.of (mD ?_) (jH ?_) (Nat.le_refl 2) rfl <;> repeat' (first|exact trivial|refine And.intro rfl ?_|refine And.intro (.inr rfl) ?_)))
   ·exact ⟨by dsimp only;omega,(hcs1 hbf).symm⟩
   ·dsimp only;omega
  all_goals
   obtain rfl : k = T := by omega
   obtain rfl : c = B7 p L k := by assumption
   refine aD rfl ?_
   exact aR () trivial rfl ⟨.inr rfl,trivial⟩
 ·have h2 : qR p l = false := by simpa using h
  rw [h2,if_neg (by decide)]
  by_cases hv : bI p = true
  ·have hil2 : (decide (0 ≤ l) && decide (l ≤ 6)) = false := by unfold qR at h2; rw [hv] at h2; simpa using h2
   rw [hv] at hv0
   rw [hil2] at hil
   refine aW Tryz.func220 Tryz.ntmps220 ?_
   repeat' (first|(apply aF;first|(apply aA (k := 39);rfl;exact hv0;exact Pur.pf;rfl)|(apply aA (k := 257);rfl;exact hil;(rfl);rfl))|refine aE ?_|fail)
   refine aD rfl ?_
   exact aR () trivial rfl ⟨.inr rfl,trivial⟩
  ·have hv2 : bI p = false := by simpa using hv
   rw [hv2] at hv0
   refine aW Tryz.func220 Tryz.ntmps220 ?_
   repeat' (first|(apply aF;(apply aA (k := 39);rfl;exact hv0;exact Pur.pf;rfl))|refine aE ?_|fail)
   refine aD rfl ?_
   exact aR () trivial rfl ⟨.inr rfl,trivial⟩
theorem uI (p:Prg) (l:Int) (hl:p.types.length ≤ 1048576) (hs:aU p.body ≤ 1048576):PC Tryz.prog 168 [bY p,iv l] (fun r => r = .tup (if qR p l = true then [iv (B7 p l.toNat (2 ^ l.toNat)),iv ((2 ^ l.toNat:Nat):Int)] else [iv 0,iv 0])):=by
 have hw := HI p l hl hs
 have harg : RnL (([1] : List Nat)[·]?) [bY p,iv l,.clos (.func 221) [] [.optr 0 0]] [bY p,iv l,.clos (.func 221) [] [.optr 1 0]] := RnL.cons (RnV.purI inferInstance) (RnL.cons (RnV.purI inferInstance) (RnL.cons (RnV.clos .nil (RnL.cons (RnV.optr rfl) .nil)) .nil))
 by_cases h : qR p l = true
 ·obtain ⟨hv, h0, h1⟩ := qZ.1 h
  rw [h,if_pos rfl] at hw
  rw [h,if_pos rfl]
  obtain ⟨L,rfl⟩ := Int.eq_ofNat_of_zero_le h0
  have hp : 2 ^ L ≤ 2 ^ 6 := Nat.pow_le_pow_right (by decide) (by omega)
  rw [Int.toNat_natCast] at *
  refine aC Tryz.func168 Tryz.ntmps168 ?_
  repeat' (first|refine aE ?_|fail)
  refine pS (k := 220) (avs := [bY p,iv (L : Int),.clos (.func 221) [] [.optr 1 0]]) (rr' := bv true) [1] 1 [(1,some [iv (B7 p L (2 ^ L) : Int)])] hw rfl rfl ⟨⟨_,_,rfl,rfl,RnL.purI inferInstance⟩,trivial⟩ rfl harg rfl (RnV.purI inferInstance) rfl ⟨⟨0,_,rfl,rfl,RnL.purI inferInstance⟩,trivial⟩ rfl ?_
  repeat' (first|(apply aF;(apply fU;rfl;rfl;infer_instance;omega;rfl;(case' kk => intro hsm)))|refine aE ?_|refine bJ ?_|fail)
  exact aD (l := [iv _,iv _]) rfl ⟨rfl,rfl⟩
 ·have h2 : qR p l = false := by simpa using h
  rw [h2,if_neg (by decide)] at hw
  rw [if_neg h]
  refine aC Tryz.func168 Tryz.ntmps168 ?_
  repeat' (first|refine aE ?_|fail)
  refine pS (k := 220) (avs := [bY p,iv l,.clos (.func 221) [] [.optr 1 0]]) (rr' := bv false) [1] 1 [(1,some [iv 0])] hw rfl rfl ⟨⟨_,_,rfl,rfl,RnL.purI inferInstance⟩,trivial⟩ rfl harg rfl (RnV.purI inferInstance) rfl ⟨⟨0,_,rfl,rfl,RnL.purI inferInstance⟩,trivial⟩ rfl ?_
  repeat' (first|refine aE ?_|fail)
  exact aD (l := [iv 0,iv 0]) rfl ⟨rfl,rfl⟩
def Mr (p : Prg) (l : Int) : Int := if qR p l = true then (B7 p l.toNat (2 ^ l.toNat) : Int) else 0
def Kd (p : Prg) (l : Int) : Int := if qR p l = true then ((2 ^ l.toNat : Nat) : Int) else 0
theorem MY (p:Prg) (l:Int) (hl:p.types.length ≤ 1048576) (hs:aU p.body ≤ 1048576):PC Tryz.prog 168 [bY p,iv l] (fun r => r = .tup [iv (Mr p l),iv (Kd p l)]):=by
 have h := uI p l hl hs
 unfold Mr Kd
 split
 ·rename_i h2;rw [if_pos h2] at h;exact h
 ·rename_i h2;rw [if_neg h2] at h;exact h
theorem Li (p:Prg) (l:Int):0 ≤ Kd p l ∧ Kd p l ≤ 64:=by
 unfold Kd
 split
 ·rename_i h
  obtain ⟨_,h0,h1⟩ := qZ.1 h
  have hp : 2 ^ l.toNat ≤ 2 ^ 6 := Nat.pow_le_pow_right (by decide) (by omega)
  have h64 : (2 ^ 6 : Nat) = 64 := rfl
  rw [h64] at hp
  exact ⟨Int.natCast_nonneg _,by exact_mod_cast hp⟩
 ·omega
def Be (p : Prg) (l : Int) : Option Nat := if qR p l = true then (List.range (2 ^ l.toNat)).find? (nF p l.toNat) else none
def MP (p : Prg) (l : Int) : List Int := match Be p l with | some n => uR n l.toNat | none => []
theorem Jn {P:Nat → Bool}{k T:Nat}(hk:k < T) (h:P k = true) (hb:∀ j,j < k → P j = false):(List.range T).find? P = some k:=by
 rw [List.find?_range_eq_some]
 exact ⟨h,List.mem_range.2 hk,fun j hj => by rw [hb j hj]; rfl⟩
theorem Jj {P:Nat → Bool}{T:Nat}(hb:∀ j,j < T → P j = false):(List.range T).find? P = none:=by
 rw [List.find?_eq_none]; intro x hx;rw [hb x (List.mem_range.1 hx)]; decide
theorem uK (p:Prg) (l:Int) (hl:p.types.length ≤ 1048576) (hs:aU p.body ≤ 1048576):PC Tryz.prog 177 [bY p,iv l] (fun r => r = .tup [sl cI (MP p l),bv (Be p l).isSome]):=by
 have hr := vC p l hl hs
 by_cases h : qR p l = true
 ·obtain ⟨hv, h0, h1⟩ := qZ.1 h
  rw [h] at hr
  obtain ⟨L,rfl⟩ := Int.eq_ofNat_of_zero_le h0
  have e : Be p (L : Int) = (List.range (2 ^ L)).find? (nF p L) := by unfold Be;rw [if_pos h,Int.toNat_natCast]
  have e2 : MP p (L : Int) = match (List.range (2 ^ L)).find? (nF p L) with|some n => uR n L|none => [] := by unfold MP;rw [e,Int.toNat_natCast]
  rw [e,e2]
  have hru := GP L (by omega)
  have hp : 2 ^ L ≤ 2 ^ 6 := Nat.pow_le_pow_right (by decide) (by omega)
  generalize hT : 2 ^ L = T at *
  refine aC Tryz.func177 Tryz.ntmps177 ?_
  repeat' (first|(apply aF;(apply aA (k := 178);rfl;exact hr;exact Pur.pf;rfl))|refine aE ?_|fail)
  refine aH (σ := Nat) [1,2] [0] (fun k => [(6,iv (k : Int))]) (fun k => []) (fun k => k ≤ T ∧ ∀ j,j < k → nF p L j = false) (fun k => T - k) (0) ⟨Nat.zero_le _,fun j hj => by omega⟩ ?_
  rintro k ⟨hk,hb⟩
  have hch := y8 k L (by omega) (by omega)
  have hwr := D8 p (uR k L) hl hs (by rw [qW]; omega)
  change PC _ _ _ (fun r => r = .tup [bv (nF p L k),_]) at hwr
  repeat' (first|(apply aF;first|(apply aA (k := 229);rfl;exact hch;(rfl);rfl)|(apply aA (k := 228);rfl;exact hwr;exact Pur.pf;rfl)|(apply aA (k := 227);rfl;exact hru;(rfl);rfl)|(apply aL (t := _);rfl;rfl;rfl;(rfl);rfl;rfl))|refine aE ?_|(refine aJ ?_ ?_ <;> intro hc hq <;> try (exfalso;omega))|refine bJ ?_|fail)
  ·rw [Jn (by omega) (by assumption) hb]
   exact aD (l := [sl cI (uR k L),bv true]) rfl ⟨rfl,Pur.pf⟩
  ·(refine bD (k + 1) (Le.renA [(0, 0)]) ?_ ?_)
   ·refine ⟨by omega, fun j hj => ?_⟩
    by_cases q : j = k
    ·subst q;assumption
    ·exact hb j (by omega)
   ·omega
  ·obtain rfl : k = T := by omega
   rw [Jj hb]
   exact aD (l := [.imm 0 [],bv false]) rfl ⟨rfl,rfl⟩
 ·have h2 : qR p l = false := by simpa using h
  rw [h2] at hr
  have e : Be p l = none := by unfold Be;rw [if_neg h]
  have e2 : MP p l = [] := by unfold MP;rw [e]
  rw [e,e2]
  refine aC Tryz.func177 Tryz.ntmps177 ?_
  repeat' (first|(apply aF;first|(apply aA (k := 178);rfl;exact hr;exact Pur.pf;rfl)|(apply aL (t := _);rfl;rfl;rfl;(rfl);rfl;rfl))|refine aE ?_|fail)
  exact aD (l := [.imm 0 [],bv false]) rfl ⟨rfl,rfl⟩
theorem Ij (p:Prg) (l:Int) (hl:p.types.length ≤ 1048576) (hs:aU p.body ≤ 1048576):PC Tryz.prog 99 [bY p,iv l] (fun r => r = bv (qR p l && (Be p l).isNone)):=by
 have h1 := uK p l hl hs
 have h2 := vC p l hl hs
 have e : (Be p l).isNone = !(Be p l).isSome := by cases Be p l <;> rfl
 rw [e]
 generalize (Be p l).isSome = b at *
 refine aC Tryz.func99 Tryz.ntmps99 ?_
 repeat' (first|(apply aF;first|(apply aA (k := 177);rfl;exact h1;exact Pur.pf;rfl)|(apply aA (k := 178);rfl;exact h2;exact Pur.pf;rfl))|refine aE ?_|(refine bS ?_ ?_ <;> intro hg hq <;> try (exfalso;omega))|fail)
 all_goals (refine aD rfl ⟨?_,rfl⟩; simp only [aM]; simp_all)
theorem Ik (p:Prg) (l:Int):(decide (0 < Kd p l) && decide (Mr p l = 0)) = (qR p l && (Be p l).isNone):=by
 unfold Kd Mr Be
 by_cases h : qR p l = true
 ·rw [if_pos h, if_pos h, if_pos h, h]
  have hp : 0 < 2 ^ l.toNat := Nat.pow_pos (by decide)
  rw [decide_eq_true (by omega : (0 : Int) < ((2 ^ l.toNat : Nat) : Int)),Bool.true_and,Bool.true_and,Bool.eq_iff_iff,decide_eq_true_eq,Option.isNone_iff_eq_none,List.find?_eq_none]
  unfold B7
  constructor
  ·intro q x hx hb
   have : (List.range (2 ^ l.toNat)).filter (nF p l.toNat) = [] := List.length_eq_zero_iff.1 (by omega)
   have hm : x ∈ (List.range (2 ^ l.toNat)).filter (nF p l.toNat) := List.mem_filter.2 ⟨hx,hb⟩
   rw [this] at hm;cases hm
  ·intro q
   have : (List.range (2 ^ l.toNat)).filter (nF p l.toNat) = [] := List.filter_eq_nil_iff.2 q
   rw [this]; rfl
 ·rw [if_neg h, if_neg h, if_neg h]
  have h2 : qR p l = false := by simpa using h
  rw [h2]; rfl
theorem Ih (p:Prg) (l:Int) (hl:p.types.length ≤ 1048576) (hs:aU p.body ≤ 1048576):PC Tryz.prog 95 [bY p,iv l] (fun r => r = bv (qR p l && (Be p l).isNone)):=by
 have h1 := MY p l hl hs
 rw [← Ik]
 have hb := Li p l
 generalize Kd p l = a at *
 generalize Mr p l = c at *
 refine aC Tryz.func95 Tryz.ntmps95 ?_
 repeat' (first|(apply aF;(apply aA (k := 168);rfl;exact h1;exact Pur.pf;rfl))|refine aE ?_|(refine bS ?_ ?_ <;> intro hg hq <;> try (exfalso;omega))|fail)
 all_goals (refine aD rfl ⟨?_,rfl⟩; simp only [aM]; first|(simp_all;done)|(simp_all;omega))
end Go.Proofs.YtahdccneecdmmaaGreat
namespace Go.Proofs.YtahdccneecdmmaaGreat
open Go.AL Go.ChangeShapes Go.WideShapes Go.ChangeAt Go.RowKit
theorem Ns:laidOutB Tryz.prog = true := by kernel_rfl
theorem wZ {P:Program}{k:FuncId}{avs:List AV}(h:PC P k avs (fun r => r = bv true)){W:World}{vs:List Value}(hv:RdV W (fun _ => False) (fun _ => none) avs vs) :
  Calls P k vs.toArray W fun e W' => e = .returned (.bool true) ∧ Below W.heap.size W W' := by
 let C : Ctx := { N := 0,w0 := W,W0 := fun _ => False,X := fun _ => False,ι0 := fun _ => none,xlt := fun _ h => h.elim }
 have hbad : ∀ b, ¬ aK C.X (fun _ => none) (aO []) b := by
  rintro b (h | ⟨id,cs,β,h1,h2⟩)
  ·exact h
  ·cases h2
 have g : HG C (fun _ => none) (fun j => 0 ≤ j) (aO []) W :=
  ⟨fun id cs h => by simp [aO] at h,fun id id' cs cs' b β β' h => by simp [aO] at h,Fr.refl _ _,fun _ _ h => h,fun _ _ => rfl⟩
 have hcar : Carry W (fun _ => False) (fun _ => none) W (aK C.X (fun _ => none) (aO [])) (fun _ => none) := ⟨fun b o x _ h2 => ⟨hbad b,h2⟩,fun _ _ h => h,fun _ => Nat.le_refl _⟩
 refine (h C _ W vs rfl rfl g (RdV.carry hcar _ _ hv)).mono ?_
 rintro e W' ⟨v'',r,H',ι',rfl,⟨rfl,_⟩,h4,h5⟩
 simp only [Rd] at h4
 subst h4
 have f := h5.fr
 exact ⟨rfl,f.os,f.tape,f.output,f.size,fun b hb => f.block b hb (fun h => h)⟩
end Go.Proofs.YtahdccneecdmmaaGreat
namespace Go.Proofs.YtahdccneecdmmaaGreat
open Go.AL Go.RowKit
theorem HO (ck:Nat) [hck:CaT Tryz.prog ck] (ts:List Int) (bd:List AL.Stmt) (pts:List Pnt) (Aa Am Al Af Ap:List Nat) (w:WG ts pts) (ga:m5 ts pts Aa) (gm:lM ts pts Am) (hll:Al.length = pts.length) (hAlb:∀ i,i < pts.length → Al[i]! < 2 ^ ts.length) (gf:oW ts pts Af) (gp:m6 ts pts Ap)
  (hcl : ∀ i : Int,0 ≤ i ∧ i < pts.length → PC Tryz.prog ck [iv i,.iptr [.imm pts.length (flat cW Af)]] (fun r => r = .agg (flat cW (b7 Af i.toNat)))) :
  PC Tryz.prog 105 [aG ts bd pts,.imm pts.length (flat cN Al),.clos (.func ck) [] [.iptr [.imm pts.length (flat cW Af)]]] (fun r => r = sl dG (kH ts pts Aa Am Al Af Ap pts.length)) := by
 have hpl := w.pl
 have htl := w.tl
 have hla := ga.1
 have hlm := gm.1
 have hlf := gf.1
 have hlp := gp.1
 refine aC Tryz.func105 Tryz.ntmps105 ?_
 repeat' (first|(apply aF;first|(apply eY (d := 10) (e := 3);rfl;rfl)|(first|(apply aA (k := 102);rfl;(apply qY <;> (assumption));exact Pur.pf;rfl)|(apply aA (k := 121);rfl;(apply sH <;> (assumption));exact Pur.pf;rfl)|(apply aA (k := 184);rfl;(apply s7 <;> (assumption));exact Pur.pf;rfl)))|refine aE ?_|fail)
 refine aH (σ := Nat × List Iss × Nat) [0,1,2,7,8,9,27,28] [] (fun k => [(29,iv (k.1 : Int)),(10,.own 0 0 k.2.2 3)]) (fun k => [(0,some (flat dG k.2.1))]) (fun k => k.1 ≤ pts.length ∧ k.2.1 = kH ts pts Aa Am Al Af Ap k.1 ∧ k.2.2 = k.2.1.length ∧ k.2.2 ≤ k.1 * 124) (fun k => pts.length - k.1) (0,[],0) ⟨by omega,rfl,rfl,Nat.le_refl _⟩ ?_
 rintro ⟨i,u,m⟩ ⟨hk,hu,hm,hmk⟩
 dsimp only at hk hu hm hmk ⊢
 by_cases hin : i < pts.length
 ·have hst := w.set i hin
  have hsU : Sm (wS ts pts[i]! [1,2,3]) := bO (by omega)
  have bl : ∀ {A : Nat} {n : Nat}, n ≤ 62 → (∀ v, A.testBit v = true → v < n) → A < 2 ^ n := fun _ hv => Nat.lt_pow_two_of_testBit _ fun v h => by
   cases hq : Nat.testBit _ v with
   | false => rfl
   | true => have := hv v hq;omega
  have hAa : Sm Aa[i]! := ⟨bl (n := 62) (by omega) fun v hv => by have := ((ga.2 i hin v).1 hv).1;omega⟩
  have hAm : Sm Am[i]! := ⟨bl (n := 62) (by omega) fun v hv => by have := qD w ((gm.2 i hin v).1 hv);dsimp only at this;omega⟩
  have hAl := hAlb i hin
  have hAl2 : Sm Al[i]! := ⟨Nat.lt_of_lt_of_le hAl (Nat.pow_le_pow_right (by decide) (by omega))⟩
  have hAp : Ap[i]! < 2 ^ pts.length := bl (by omega) fun v hv => (lD ((gp.2 i hin v).1 hv)).1
  have hAp2 : Sm Ap[i]! := ⟨Nat.lt_of_lt_of_le hAp (Nat.pow_le_pow_right (by decide) (by omega))⟩
  have hrl := dW hlf hin
  have hrs : ∀ z : Nat, Sm (b7 Af i)[z]! := by
   intro z
   by_cases hz : z < 6
   ·rw [dV hlf hin hz]
    exact ⟨bl (n := 62) (by omega) fun v hv => by have := (vX w ((gf.2 i z hin hz v).1 hv)).2.2;dsimp only at this;omega⟩
   ·rw [getElem!_neg _ z (by rw [hrl]; exact hz)]; exact ⟨by decide⟩
  have hkp : mX ts pts[(i : Int).toNat]! Al[i]! (b7 Af (i : Int).toNat) < 2 ^ pts.length := by
   refine bl (by omega) fun v hv => ?_
   unfold mX at hv
   rw [eR] at hv
   rcases hv with hv | ⟨z,hz,hv⟩
   ·simp at hv
   ·obtain ⟨q, h1, h2, rfl⟩ := cL.1 hz
    rw [b6,Bool.and_eq_true] at h2
    have h3 := b9 hAl h2.1
    have h4 : q < 6 := by omega
    have h5 : (b7 Af i)[q]!.testBit v = true := hv
    rw [dV hlf hin h4] at h5
    exact (vX w ((gf.2 i q hin h4 v).1 h5)).2.2
  have hkp2 : Sm (mX ts pts[(i : Int).toNat]! Al[i]! (b7 Af (i : Int).toNat)) := ⟨Nat.lt_of_lt_of_le hkp (Nat.pow_le_pow_right (by decide) (by omega))⟩
  have hlo : mX ts pts[(i : Int).toNat]! Al[i]! (b7 Af (i : Int).toNat) &&& Ap[i]! < 2 ^ pts.length := Nat.and_lt_two_pow _ hAp
  have hcf := pE w (Am := Am) (Al := Al) (Af := Af) (i := i) hAp
  have hcf2 : Sm (z8 ts pts Am Al Af Ap i) := ⟨Nat.lt_of_lt_of_le hcf (Nat.pow_le_pow_right (by decide) (by omega))⟩
  have hcf3 : Sm (C5 pts (mX ts pts[(i : Int).toNat]! Al[i]! (b7 Af (i : Int).toNat) &&& Ap[i]!) (fE ts pts[(i : Int).toNat]! (Am[i]!.testBit (aN pts[(i : Int).toNat]!).toNat)) 0) := hcf2
  have hb1 := bX (gX (wS ts pts[i]! [1,2,3]) Aa[i]!)
  have hb2 := bX (z8 ts pts Am Al Af Ap i)
  repeat' (first|(apply aF;(first|(apply aA (k := 120);rfl;(apply fJ <;> (infer_instance));(rfl);rfl)|(apply aA (k := 158);rfl;(apply fV <;> (assumption));exact Pur.pf;rfl)))|refine aE ?_|(refine aJ ?_ ?_ <;> intro hc hq <;> try (exfalso;omega))|refine bJ ?_|fail)
  have hb1b : ∀ j,j < (aY (gX (wS ts pts[i]! [1,2,3]) Aa[i]!)).length → 0 ≤ (aY (gX (wS ts pts[i]! [1,2,3]) Aa[i]!))[j]! := fun j h => (gB (inferInstance : Sm (gX (wS ts pts[i]! [1,2,3]) Aa[i]!)).pf h).1
  refine aH (σ := Nat × List Iss × Nat) [0,1,2,7,8,9,11,27,28,29,42,43] [] (fun j => [(44,iv (j.1 : Int)),(10,.own 0 0 j.2.2 3)]) (fun j => [(0,some (flat dG j.2.1))]) (fun j => j.1 ≤ (aY (gX (wS ts pts[i]! [1,2,3]) Aa[i]!)).length ∧ j.2.1 = u ++ nG i ((aY (gX (wS ts pts[i]! [1,2,3]) Aa[i]!)).take j.1) ∧ j.2.2 = j.2.1.length ∧ j.2.2 ≤ i * 124 + j.1) (fun j => (aY (gX (wS ts pts[i]! [1,2,3]) Aa[i]!)).length - j.1) (0,u,m) ⟨by omega,by simp [nG],hm,by omega⟩ ?_
  rintro ⟨j,u2,m2⟩ ⟨hj,hu2,hm2,hmk2⟩
  dsimp only at hj hu2 hm2 hmk2 ⊢
  by_cases hjn : j < (aY (gX (wS ts pts[i]! [1,2,3]) Aa[i]!)).length
  ·repeat' (first | (apply aF; (apply aL (t := _);rfl;rfl;rfl;(exact (rfl:_=some [_, _, _]));rfl;rfl)) | refine aE ?_ | (refine aJ ?_ ?_ <;> intro hc hq <;> try (exfalso; omega))|fail)
   (refine bD (j + 1,_,_) (Le.renA [(0,3)]) ?_ ?_)
   ·dsimp only
    refine ⟨by omega,?_,by simp;omega,by omega⟩
    rw [hu2]; unfold nG;rw [cO _ _ _ hjn,List.append_assoc]
   ·dsimp only;omega
  ·have hu3 : u2 = u ++ nG i (aY (gX (wS ts pts[i]! [1, 2, 3]) Aa[i]!)) := by rw [hu2, List.take_of_length_le (by omega)]
   have hcl0 := hcl (i : Int) (by omega)
   repeat' (first|(apply aF;first|(first|(apply aA (k := 76);rfl;(apply kF <;> (assumption));(rfl);rfl)|(apply aA (k := 185);rfl;(apply pQ <;> (first|assumption|omega));exact Pur.pf;rfl)|(apply aA (k := 186);rfl;(apply BX <;> (first|assumption|omega));exact Pur.pf;rfl))|(apply gC;rfl;rfl;infer_instance;rfl;(apply hcl0);exact Pur.pf;rfl))|refine aE ?_|(refine aJ ?_ ?_ <;> intro hc hq <;> try (exfalso;omega))|refine bJ ?_|fail)
   generalize hL : aY (C5 pts (mX ts pts[(i : Int).toNat]! Al[i]! (b7 Af (i : Int).toNat) &&& Ap[i]!) (fE ts pts[(i : Int).toNat]! (Am[i]!.testBit (aN pts[(i : Int).toNat]!).toNat)) 0) = L2
   have hL2 : aY (z8 ts pts Am Al Af Ap i) = L2 := hL
   have hbd : ∀ j,j < L2.length → 0 ≤ L2[j]! ∧ L2[j]! < pts.length := fun j h => by rw [← hL2] at h ⊢; exact gB hcf h
   rw [hL2] at hb2
   refine aH (σ := Nat × List Iss × Nat) [0,1,2,7,8,9,11,27,28,29,77,78] [] (fun l => [(79,iv (l.1 : Int)),(10,.own 0 0 l.2.2 3)]) (fun l => [(0,some (flat dG l.2.1))]) (fun l => l.1 ≤ L2.length ∧ l.2.1 = u2 ++ nE pts i (L2.take l.1) ∧ l.2.2 = l.2.1.length ∧ l.2.2 ≤ i * 124 + 62 + l.1) (fun l => L2.length - l.1) (0,u2,m2) ⟨by omega,by simp [nE],hm2,Nat.le_trans hmk2 (by omega)⟩ ?_
   rintro ⟨l,u4,m4⟩ ⟨hl,hu4,hm4,hmk4⟩
   dsimp only at hl hu4 hm4 hmk4 ⊢
   by_cases hln : l < L2.length
   ·have hbl := hbd l hln
    repeat' (first|(apply aF;(apply aL (t := _);rfl;rfl;rfl;(exact (rfl:_=some [_,_,_]));rfl;rfl))|refine aE ?_|(refine aJ ?_ ?_ <;> intro hc hq <;> try (exfalso;omega))|fail)
    ·(refine bD (l + 1, _, _) (Le.renA [(0, 3)]) ?_ ?_)
     ·dsimp only
      refine ⟨by omega,?_,by simp;omega,by omega⟩
      rw [hu4]; unfold nE;rw [cO _ _ _ hln,List.append_assoc,if_pos hq]
     ·dsimp only;omega
    ·(refine bD (l + 1, _, _) (Le.renA [(0, 3)]) ?_ ?_)
     ·dsimp only
      refine ⟨by omega,?_,by simp;omega,by omega⟩
      rw [hu4]; unfold nE;rw [cO _ _ _ hln,List.append_assoc,if_neg hq]
     ·dsimp only;omega
   ·repeat' (first | refine aE ?_ | (refine aJ ?_ ?_ <;> intro hc hq <;> try (exfalso; omega))|fail)
    (refine bD (i + 1,u4,m4) (Le.renA [(0,0)]) ?_ ?_)
    ·dsimp only
     refine ⟨by omega,?_,hm4,by omega⟩
     rw [iH,hu4,List.take_of_length_le (by omega),hu3,← hL2,hu,List.append_assoc]; rfl
    ·dsimp only;omega
 ·repeat' (first | refine aE ?_ | (refine aJ ?_ ?_ <;> intro hc hq <;> try (exfalso; omega))|fail)
  (refine aT (Le.frzD (d := 6) (i := 0) rfl rfl) ?_; refine aD rfl ?_)
  refine ⟨?_,(by (exact a6 _ _))⟩
  simp only [aM,sl]
  rw [hm,hu,show i = pts.length by omega]
theorem Fp (n:Nat) (A:List Nat) (i:Int) (hA:A.length = n * 6) (hi:0 ≤ i ∧ i < n):PC Tryz.prog 106 [iv i,.iptr [.imm n (flat cW A)]] (fun r => r = .agg (flat cW (b7 A i.toNat))):=by
 have h6 : ((A.drop (i.toNat * 6)).take 6).length = 6 := dW hA (by omega)
 refine aC Tryz.func106 Tryz.ntmps106 ?_
 repeat' (first|refine aE ?_|fail)
 refine aD (gL (z := 6) rfl rfl h6 (by decide)) ⟨rfl,(by (exact a6 _ _))⟩
theorem Lk {ts:List Int}{pts:List Pnt}(w:WG ts pts){Am:List Nat}(gm:lM ts pts Am) (i:Nat) (hi:i < pts.length):(Ai ts pts Am)[i]! < 2 ^ ts.length:=by
 rw [qQ _ _ _ hi]
 refine mG w hi (Nat.lt_pow_two_of_testBit _ fun v hv => ?_)
 rw [Bool.eq_false_iff]; intro hq
 have := qD w ((gm.2 i hi v).1 hq);dsimp only at this;omega
theorem EE (p:Prg) (f:Flows p.types (aB p)) (hv:bI p = true) (hl:p.types.length ≤ 1048576) (hs:aU p.body ≤ 1048576):PC Tryz.prog 40 [bY p] (fun r => r = sl dG (Lx p f)):=by
 have w := WG.of_valid hv
 have hg := iI p hl hs
 rw [if_pos hv] at hg
 have hpl := w.pl
 have hck := HO 106 p.types p.body (aB p) f.Aa f.Am (Ai p.types (aB p) f.Am) f.Af f.Ap w f.ga f.gm (Dn _ _ _) (Lk w f.gm) f.gf f.gp (fun i hi => Fp _ _ i f.gf.1 hi)
 have hml := f.gm.1
 have hsm : ∀ z : Nat, Sm f.Am[z]! := by
  intro z
  by_cases hz : z < (aB p).length
  ·refine ⟨Nat.lt_of_lt_of_le (Nat.lt_pow_two_of_testBit _ (n := 6) fun v hv => ?_) (by decide)⟩
   cases hq : f.Am[z]!.testBit v with
   | false => rfl
   | true => have := qD w ((f.gm.2 z hz v).1 hq);have := w.tl;dsimp only at *; omega
  ·rw [getElem!_neg f.Am z (by rw [hml]; exact hz)]; exact ⟨by decide⟩
 have hms := qY p.types p.body (aB p) f.Am w f.gm
 have hln := wA p.types p.body (aB p) f.Af w f.gf
 refine aC Tryz.func40 Tryz.ntmps40 ?_
 repeat' (first|(apply aF;first|(apply aA (k := 72);rfl;exact hg;exact Pur.pf;rfl)|(apply aA (k := 102);rfl;exact hms;exact Pur.pf;rfl))|refine aE ?_|fail)
 refine AW.le ?_ (Le.nilOwn (d := 5) 1 rfl (by decide))
 refine aH (σ := Nat × List Nat) [3,17,18] [] (fun k => [(19,iv (k.1 : Int)),(5,.own 1 0 k.1 1)]) (fun k => [(1,some (flat cN k.2))]) (fun k => k.1 ≤ (aB p).length ∧ k.2 = (Ai p.types (aB p) f.Am).take k.1) (fun k => (aB p).length - k.1) (0,[]) ⟨Nat.zero_le _,rfl⟩ ?_
 rintro ⟨k,u⟩ ⟨hk,hu⟩
 dsimp only at hk hu ⊢
 have hvll := Dn p.types (aB p) f.Am
 have hul : u.length = k := by rw [hu,List.length_take]; omega
 repeat' (first|(apply aF;first|(apply aA (k := 104);rfl;exact hln;exact Pur.pf;rfl)|(with_reducible apply aV (d := 34))|(apply aA (k := 103);rfl;(apply rS <;> (first|assumption|omega|infer_instance));exact Pur.pf;rfl))|refine aE ?_|(refine aJ ?_ ?_ <;> intro hc hq <;> try (exfalso;omega))|fail)
 ·(refine bD (k + 1, _) (Le.renA [(1, 3)]) ?_ ?_)
  ·dsimp only
   refine ⟨by omega,?_⟩
   rw [hu,b0 _ _ (by omega),qQ _ _ _ (by omega)]; rfl
  ·dsimp only;omega
 ·have huu : u = Ai p.types (aB p) f.Am := by rw [hu, List.take_of_length_le (by omega)]
  refine bR (cY ?_ (Le.frzD (d := 5) (i := 1) rfl rfl))
  rw [huu,show k = (aB p).length by omega]
  repeat' (first|(apply aF;first|(apply lC;rfl;rfl;rfl)|(apply aA (k := 105);rfl;exact hck;exact Pur.pf;rfl))|refine aE ?_|fail)
  exact aD rfl ⟨rfl,(by (exact a6 _ _))⟩
theorem Bq (p:Prg) (f:Flows p.types (aB p)) (Al:List Nat) (hal:∀ i,i < (aB p).length → Al[i]! < 2 ^ p.types.length) (hs:aU p.body ≤ 1048576) (w:WG p.types (aB p)) (hr:Rch (aB p)):PC Tryz.prog 169 [bY p,sl fQ (bE p.types.length (aB p).length Al)] (fun r => r = sl dG (kH p.types (aB p) f.Aa f.Am Al f.Af f.Ap (aB p).length)):=by
 have hpl := w.pl
 have hp0 := w.p0
 have htl := w.tl
 have hfa := eT p true f.Aa hs w hr (by unfold jP;exact f.ga)
 have hfm := eT p false f.Am hs w hr (by unfold jP;exact f.gm)
 have hfl := sO p f.Af f.Ap hs w f.gf f.gp
 have hra := cK p.types.length (aB p).length f.Aa
 have hrm := cK p.types.length (aB p).length f.Am
 have hrl := cK p.types.length (aB p).length Al
 have hfll : ((List.range (aB p).length).map (dX p.types.length (aB p).length f.Af f.Ap)).length = (aB p).length := by simp
 refine aC Tryz.func169 Tryz.ntmps169 ?_
 repeat' (first|(apply aF;first|(apply aA (k := 132);rfl;exact dB p hs;exact Pur.pf;rfl)|(apply aA (k := 64) (d := 20);rfl;exact hfa;exact Pur.pf;rfl)|(apply aA (k := 64) (d := 22);rfl;exact hfm;exact Pur.pf;rfl)|(apply aA (k := 171);rfl;exact hfl;exact Pur.pf;rfl))|refine aE ?_|fail)
 refine aH (σ := Nat × List Iss × Nat) [1,2,6,7,8,9] [0] (fun s => [(10,iv (s.1 : Int)),(5,.own 1 0 s.2.2 3)]) (fun s => [(1,some (flat dG s.2.1))]) (fun s => s.1 ≤ (aB p).length ∧ s.2.1 = kH p.types (aB p) f.Aa f.Am Al f.Af f.Ap s.1 ∧ s.2.2 = s.2.1.length ∧ s.2.2 ≤ 67 * s.1) (fun s => (aB p).length - s.1) (0,[],0) ⟨Nat.zero_le _,rfl,rfl,Nat.le_refl _⟩ ?_
 rintro ⟨i,L,m⟩ ⟨hi,hL,hm,hmb⟩
 dsimp only at hi hL hm hmb
 try dsimp only
 by_cases hin : i < (aB p).length
 ·repeat' (first | refine aE ?_ | (refine aJ ?_ ?_ <;> intro hc hq <;> try (exfalso; omega))|fail)
  refine aH (σ := Nat × List Iss × Nat) [1,2,6,7,8,9,10] [0] (fun s => [(11,iv (s.1 : Int)),(5,.own 1 0 s.2.2 3)]) (fun s => [(1,some (flat dG s.2.1))]) (fun s => s.1 ≤ p.types.length ∧ s.2.1 = L ++ ID p.types (aB p) f.Aa i s.1 ∧ s.2.2 = s.2.1.length ∧ s.2.2 ≤ 67 * i + s.1) (fun s => p.types.length - s.1) (0,L,m) ⟨Nat.zero_le _,(List.append_nil L).symm,hm,hmb⟩ ?_
  rintro ⟨v,L2,m2⟩ ⟨hv,hL2,hm2,hmb2⟩
  dsimp only at hv hL2 hm2 hmb2
  try dsimp only
  by_cases hvn : v < p.types.length
  ·have hga := gH p.types.length (aB p).length f.Aa i v hin hvn
   have hgl : (bE p.types.length (aB p).length f.Aa)[i]!.length = p.types.length := by rw [cD _ _ _ _ hin]; simp
   repeat' (first|(apply aF;(apply aA (k := 173);rfl;(apply jI <;> (omega));exact Pur.pf;rfl))|refine aE ?_|(refine aJ ?_ ?_ <;> intro hc hq <;> try (exfalso;omega))|(refine bS ?_ ?_ <;> intro hg hq <;> try (exfalso;omega))|refine bJ ?_|fail)
   ·(refine bD (v + 1, L2 ++ [⟨i, 1, v⟩], m2 + 1) (Le.renA [(0, 0), (1, 3)]) ?_ ?_)
    ·have hu : qA p.types (aB p) f.Aa i v = true := by
      unfold qA;rw [← hga,decide_eq_false (by assumption),(by assumption : (bE p.types.length (aB p).length f.Aa)[i]![v]! = false)]; rfl
     exact ⟨(by show v + 1 ≤ p.types.length;omega),(by show L2 ++ [⟨i,1,v⟩] = _; rw [hL2,List.append_assoc,← yA hu]),(by show m2 + 1 = (L2 ++ [_]).length;rw [List.length_append,List.length_singleton,hm2]),(by show m2 + 1 ≤ 67 * i + (v + 1);omega)⟩
    ·show p.types.length - (v + 1) < p.types.length - v;omega
   ·(refine bD (v + 1, L2, m2) (Le.renA [(0, 0), (1, 1)]) ?_ ?_)
    ·have hu : qA p.types (aB p) f.Aa i v = false := by
      unfold qA;rw [← hga,(by assumption : (bE p.types.length (aB p).length f.Aa)[i]![v]! = true)]; simp
     exact ⟨(by show v + 1 ≤ p.types.length;omega),(by show L2 = _; rw [j4 hu]; exact hL2),hm2,(by show m2 ≤ 67 * i + (v + 1);omega)⟩
    ·show p.types.length - (v + 1) < p.types.length - v;omega
   ·(refine bD (v + 1, L2, m2) (Le.renA [(0, 0), (1, 1)]) ?_ ?_)
    ·have hu : qA p.types (aB p) f.Aa i v = false := by
      unfold qA;rw [decide_eq_true (by assumption)]; rfl
     exact ⟨(by show v + 1 ≤ p.types.length;omega),(by show L2 = _; rw [j4 hu]; exact hL2),hm2,(by show m2 ≤ 67 * i + (v + 1);omega)⟩
    ·show p.types.length - (v + 1) < p.types.length - v;omega
  ·have hvN : v = p.types.length := by omega
   have hset := w.set i hin
   have hy := w.y i hin
   have hfi : ((List.range (aB p).length).map (dX p.types.length (aB p).length f.Af f.Ap))[i]! = dX p.types.length (aB p).length f.Af f.Ap i := aX _ _ _ hin
   have hgm : (bE p.types.length (aB p).length f.Am)[i]!.length = p.types.length := by rw [cD _ _ _ _ hin]; simp
   have hgl : (bE p.types.length (aB p).length Al)[i]!.length = p.types.length := by rw [cD _ _ _ _ hin]; simp
   have hf2 : (dX p.types.length (aB p).length f.Af f.Ap i).2.length = (aB p).length := by simp [dX]
   have hf1 : (dX p.types.length (aB p).length f.Af f.Ap i).1.length = p.types.length := by simp [dX]
   have hf3 : ∀ v, v < p.types.length → (dX p.types.length (aB p).length f.Af f.Ap i).1[v]!.length = (dX p.types.length (aB p).length f.Af f.Ap i).2.length := fun v hv => by
    rw [hf2]; unfold dX;dsimp only;rw [aX _ _ _ hv]; simp
   have hacc := kE p.types (aB p)[i]! (bE p.types.length (aB p).length f.Am)[i]! htl hgm hset.1 hy
   have hlv := rY p.types (aB p)[i]! ((List.range (aB p).length).map (dX p.types.length (aB p).length f.Af f.Ap))[i]!.1 ((List.range (aB p).length).map (dX p.types.length (aB p).length f.Af f.Ap))[i]!.2 (bE p.types.length (aB p).length Al)[i]! htl (by rw [hfi,hf2]; exact hpl) hgl (by rw [hfi]; exact hf1) (by rw [hfi]; exact hf3)
   have hlvl : (uA p.types (aB p)[i]! ((List.range (aB p).length).map (dX p.types.length (aB p).length f.Af f.Ap))[i]!.1 (bE p.types.length (aB p).length Al)[i]! ((List.range (aB p).length).map (dX p.types.length (aB p).length f.Af f.Ap))[i]!.2.length).length = (aB p).length := by unfold uA;rw [List.length_map,List.length_range,hfi,hf2]
   have hcn := jS (aB p) (fE p.types (aB p)[i]! (bE p.types.length (aB p).length f.Am)[i]![(aN (aB p)[i]!).toNat]!) ((List.range (aB p).length).map (dX p.types.length (aB p).length f.Af f.Ap))[i]!.1 ((List.range (aB p).length).map (dX p.types.length (aB p).length f.Af f.Ap))[i]!.2 (uA p.types (aB p)[i]! ((List.range (aB p).length).map (dX p.types.length (aB p).length f.Af f.Ap))[i]!.1 (bE p.types.length (aB p).length Al)[i]! ((List.range (aB p).length).map (dX p.types.length (aB p).length f.Af f.Ap))[i]!.2.length) hpl (by have := o6 p.types (aB p)[i]! (bE p.types.length (aB p).length f.Am)[i]![(aN (aB p)[i]!).toNat]!; omega) (by rw [hfi]; exact hf2) hlvl
   have hcf : IP (aB p) (fE p.types (aB p)[i]! (bE p.types.length (aB p).length f.Am)[i]![(aN (aB p)[i]!).toNat]!) ((List.range (aB p).length).map (dX p.types.length (aB p).length f.Af f.Ap))[i]!.2 (uA p.types (aB p)[i]! ((List.range (aB p).length).map (dX p.types.length (aB p).length f.Af f.Ap))[i]!.1 (bE p.types.length (aB p).length Al)[i]! ((List.range (aB p).length).map (dX p.types.length (aB p).length f.Af f.Ap))[i]!.2.length) = xK p.types (aB p) f.Am Al f.Af f.Ap i := by
    rw [hfi,hf2]; rfl
   have hcl : (xK p.types (aB p) f.Am Al f.Af f.Ap i).length = (aB p).length := by unfold xK;rw [nX]
   repeat' (first|(apply aF;first|(apply aA (k := 175);rfl;exact hacc;exact Pur.pf;rfl)|(apply aA (k := 176);rfl;exact hlv;exact Pur.pf;rfl)|(apply aA (k := 174);rfl;exact hcn;exact Pur.pf;rfl)|(with_reducible apply aV (d := 14)))|refine aE ?_|(refine aJ ?_ ?_ <;> intro hc hq <;> try (exfalso;omega))|refine bJ ?_|fail)
   refine bR ?_
   rw [hcf]
   repeat' (first|refine aE ?_|fail)
   refine aH (σ := Nat × List Iss × Nat) [1,2,6,7,8,9,10,13] [0] (fun s => [(14,iv (s.1 : Int)),(5,.own 1 0 s.2.2 3)]) (fun s => [(1,some (flat dG s.2.1))]) (fun s => s.1 ≤ (aB p).length ∧ s.2.1 = L2 ++ IV (aB p) (xK p.types (aB p) f.Am Al f.Af f.Ap i) i s.1 ∧ s.2.2 = s.2.1.length ∧ s.2.2 ≤ 67 * i + 6 + s.1) (fun s => (aB p).length - s.1) (0,L2,m2) ⟨Nat.zero_le _,(List.append_nil L2).symm,hm2,by show m2 ≤ 67 * i + 6 + 0;omega⟩ ?_
   rintro ⟨l,L3,m3⟩ ⟨hl,hL3,hm3,hmb3⟩
   dsimp only at hl hL3 hm3 hmb3
   try dsimp only
   by_cases hln : l < (aB p).length
   ·repeat' (first | refine aE ?_ | (refine aJ ?_ ?_ <;> intro hc hq <;> try (exfalso; omega))|fail)
    ·(refine bD (l + 1, L3, m3) (Le.renA [(0, 0), (1, 1)]) ?_ ?_)
     ·exact ⟨(by show l + 1 ≤ (aB p).length;omega),(by show L3 = _; rw [tN (by assumption)]; exact hL3),hm3,(by show m3 ≤ 67 * i + 6 + (l + 1);omega)⟩
     ·show (aB p).length - (l + 1) < (aB p).length - l;omega
    ·(refine bD (l + 1, L3 ++ [⟨i, 3, l⟩], m3 + 1) (Le.renA [(0, 0), (1, 3)]) ?_ ?_)
     ·have hk : Ci (aB p) l = 3 := by unfold Ci; rw [if_pos (by assumption)]
      exact ⟨(by show l + 1 ≤ (aB p).length;omega),(by show L3 ++ [⟨i,3,l⟩] = _; rw [hL3,List.append_assoc,← hk,← l9 (by assumption)]),(by show m3 + 1 = (L3 ++ [_]).length;rw [List.length_append,List.length_singleton,hm3]),(by show m3 + 1 ≤ 67 * i + 6 + (l + 1);omega)⟩
     ·show (aB p).length - (l + 1) < (aB p).length - l;omega
    ·(refine bD (l + 1, L3 ++ [⟨i, 2, l⟩], m3 + 1) (Le.renA [(0, 0), (1, 3)]) ?_ ?_)
     ·have hk : Ci (aB p) l = 2 := by unfold Ci; rw [if_neg (by assumption)]
      exact ⟨(by show l + 1 ≤ (aB p).length;omega),(by show L3 ++ [⟨i,2,l⟩] = _; rw [hL3,List.append_assoc,← hk,← l9 (by assumption)]),(by show m3 + 1 = (L3 ++ [_]).length;rw [List.length_append,List.length_singleton,hm3]),(by show m3 + 1 ≤ 67 * i + 6 + (l + 1);omega)⟩
     ·show (aB p).length - (l + 1) < (aB p).length - l;omega
   ·repeat' (first | refine aE ?_ | (refine aJ ?_ ?_ <;> intro hc hq <;> try (exfalso; omega))|fail)
    (refine bD (i + 1,L3,m3) (Le.renA [(0,0),(1,1)]) ?_ ?_)
    ·refine ⟨(by show i + 1 ≤ (aB p).length; omega), ?_, hm3, (by show m3 ≤ 67 * (i + 1); omega)⟩
     show L3 = kH p.types (aB p) f.Aa f.Am Al f.Af f.Ap (i + 1)
     rw [iH,← IU w f f.gf.1 hin (hal i hin),hL3,hL2,hL,hvN,show l = (aB p).length by omega,List.append_assoc]
     rfl
    ·show (aB p).length - (i + 1) < (aB p).length - i;omega
 ·repeat' (first | refine aE ?_ | (refine aJ ?_ ?_ <;> intro hc hq <;> try (exfalso; omega))|fail)
  have hiN : i = (aB p).length := by omega
  refine aT (Le.frzD (d := 4) (i := 1) rfl rfl) ?_
  refine aD rfl ⟨?_,(by (exact a6 _ _))⟩
  simp only [aM]
  rw [hm,hL,hiN]
theorem Mf {ts:List Int}{pts:List Pnt}(w:WG ts pts){Am:List Nat}{i:Nat}(hi:i < pts.length):gY ts pts[i]! (bE ts.length pts.length Am)[i]! = (bE ts.length pts.length (Ai ts pts Am))[i]!:=by
 have hst := (w.set i hi).1
 have htl := w.tl
 have hset : aN pts[i]! < 62 := by omega
 rw [cD _ _ _ _ hi,cD _ _ _ _ hi,qQ _ _ _ hi]
 refine bH (by simp [gY]) fun v hv => ?_
 have hvn : v < ts.length := by simpa [gY] using hv
 unfold gY
 rw [aX _ _ _ (by simpa using hvn),aX _ _ _ hvn,aX _ _ _ hvn,dK hset,decide_eq_true hvn,Bool.true_and]
 cases decide (aN pts[i]! = (v : Int)) <;> cases Am[i]!.testBit v <;> simp
theorem IN {xs:List (List Bool)}{m:Nat}{r:List Bool}(hm:m = xs.length):((flat fQ xs).drop 0).take (m * 1) ++ [sl cB r] = flat fQ (xs ++ [r]) := eV hm rfl
theorem E3 (p:Prg) (f:Flows p.types (aB p)) (hv:bI p = true) (hl:p.types.length ≤ 1048576) (hs:aU p.body ≤ 1048576):PC Tryz.prog 96 [bY p] (fun r => r = sl dG (Lx p f)):=by
 have w := WG.of_valid hv
 have hr := Rch.of p
 have hval := fW p hl (by omega)
 rw [hv] at hval
 have htl := w.tl
 have hpl := w.pl
 have hpt := dB p hs
 have hfm := eT p false f.Am hs w hr (by unfold jP;exact f.gm)
 have hal : ∀ i, i < (aB p).length → (Ai p.types (aB p) f.Am)[i]! < 2 ^ p.types.length := fun i hi => by
  rw [qQ _ _ _ hi]
  refine mG w hi (Nat.lt_pow_two_of_testBit _ fun v hv => ?_)
  rw [Bool.eq_false_iff]; intro hq
  have := qD w ((f.gm.2 i hi v).1 hq);dsimp only at this;omega
 have hck := Bq p f (Ai p.types (aB p) f.Am) hal hs w hr
 have hrm := cK p.types.length (aB p).length f.Am
 refine aC Tryz.func96 Tryz.ntmps96 ?_
 repeat' (first|(apply aF;first|(apply aA (k := 61);rfl;exact hval;exact Pur.pf;rfl)|(apply aA (k := 132);rfl;exact hpt;exact Pur.pf;rfl)|(apply aA (k := 64);rfl;exact hfm;exact Pur.pf;rfl))|refine aE ?_|fail)
 refine aH (σ := Nat × List (List Bool)) [1,3,4] [0] (fun k => [(6,iv (k.1 : Int)),(5,.own 1 0 k.1 1)]) (fun k => [(1,some (flat fQ k.2))]) (fun k => k.1 ≤ (aB p).length ∧ k.2 = (bE p.types.length (aB p).length (Ai p.types (aB p) f.Am)).take k.1) (fun k => (aB p).length - k.1) (0,[]) ⟨Nat.zero_le _,rfl⟩ ?_
 rintro ⟨k,u⟩ ⟨hk,hu⟩
 dsimp only at hk hu ⊢
 have hrv := cK p.types.length (aB p).length (Ai p.types (aB p) f.Am)
 have hul : u.length = k := by rw [hu,List.length_take]; omega
 have haf : k < (aB p).length → PC Tryz.prog 133 [sl cI p.types, dJ (aB p)[k]!, sl cB (bE p.types.length (aB p).length f.Am)[k]!] (fun r => r = sl cB (bE p.types.length (aB p).length (Ai p.types (aB p) f.Am))[k]!) := fun h => by
  rw [← Mf w h]
  exact vU p.types (aB p)[k]! (bE p.types.length (aB p).length f.Am)[k]! (by rw [cD _ _ _ _ h]; simp) htl (w.set k h).1
 repeat' (first|(apply aF;first|(apply aA (k := 133);rfl;exact haf (by omega);exact Pur.pf;rfl)|(with_reducible apply aV (d := 36))|(apply bT;rfl;rfl;rfl;rfl;rfl;(rw [aI]; omega);(rfl);omega;omega;(exact IN (by (omega)));rfl;rfl))|refine aE ?_|(refine aJ ?_ ?_ <;> intro hc hq <;> try (exfalso;omega))|refine bJ ?_|fail)
 ·(refine bD (k + 1, _) (Le.renA [(0, 0), (1, 3)]) ?_ ?_)
  ·dsimp only
   refine ⟨by omega,?_⟩
   rw [hu,b0 _ _ (by omega)]
  ·dsimp only;omega
 ·have huu : u = bE p.types.length (aB p).length (Ai p.types (aB p) f.Am) := by rw [hu, List.take_of_length_le (by omega)]
  refine bR (cY ?_ (Le.frzD (d := 5) (i := 1) rfl rfl))
  rw [huu,show AV.imm k (flat fQ (bE p.types.length (aB p).length (Ai p.types (aB p) f.Am))) = sl fQ (bE p.types.length (aB p).length (Ai p.types (aB p) f.Am)) from by unfold sl;rw [hrv,show k = (aB p).length by omega]]
  repeat' (first|(apply aF;(apply aA (k := 169);rfl;exact hck;exact Pur.pf;rfl))|refine aE ?_|fail)
  exact aD rfl ⟨rfl,(by (exact a6 _ _))⟩
def CX (l : List Iss) : List AV := [sl dG l]
instance : FlT CX 1:=⟨fun _ => rfl⟩
instance : FE CX (fun r => [sl dG r]):=⟨fun _ => rfl⟩
instance (r : List Iss) : Pur (CX r):=⟨by show (AV.pur (sl dG r) && true) = true;rw [Bool.and_true]; exact a6 dG r⟩
theorem Ed (p:Prg) (hv:bI p = false) (hl:p.types.length ≤ 1048576) (hs:aU p.body ≤ 1048576):PC Tryz.prog 37 [bY p] (fun r => r = .tup [iv 0,bv false]):=by
 have h3 := oA p hl (by omega)
 rw [hv] at h3
 refine aC Tryz.func37 Tryz.ntmps37 ?_
 repeat' (first|(apply aF;(apply aA (k := 39);rfl;exact h3;exact Pur.pf;rfl))|refine aE ?_|fail)
 exact aD rfl ⟨rfl,rfl⟩
theorem Fh (p:Prg) (A B C:List Iss) (b:Bool) (hv:bI p = true) (hl:p.types.length ≤ 1048576) (hs:aU p.body ≤ 1048576) (h1:PC Tryz.prog 40 [bY p] (fun r => r = sl dG A)) (h2:PC Tryz.prog 41 [bY p] (fun r => r = sl dG B))
  (h4 : PC Tryz.prog 70 [bY p] (fun r => r = sl dG C)) (h5 : PC Tryz.prog 95 [bY p,iv 3] (fun r => r = bv b)) : PC Tryz.prog 37 [bY p] (fun r => r = .tup [iv (E0 [A,B,C] : Int),bv b]) := by
 have h3 := oA p hl (by omega)
 rw [hv] at h3
 refine aC Tryz.func37 Tryz.ntmps37 ?_
 repeat' (first|(apply aF;first|(apply aA (k := 39);rfl;exact h3;exact Pur.pf;rfl)|(apply aA (k := 40);rfl;exact h1;exact Pur.pf;rfl)|(apply aA (k := 41);rfl;exact h2;exact Pur.pf;rfl)|(apply aA (k := 70);rfl;exact h4;exact Pur.pf;rfl))|refine aE ?_|refine bJ ?_|fail)
 refine AW.le ?_ (Le.frzD (d := 16) (i := 1) (cs := flat CX [A,B,C]) rfl rfl)
 have hLl : [A,B,C].length = 3 := rfl
 generalize [A,B,C] = L at *
 refine aH (σ := Nat × Nat) [1,16,17] [0] (fun k => [(18,iv (k.1 : Int)),(4,iv (k.2 : Int))]) (fun k => []) (fun k => k.1 ≤ 3 ∧ k.2 = E0 (L.take k.1) ∧ k.2 ≤ k.1) (fun k => 3 - k.1) (0,0) ⟨Nat.zero_le _,rfl,Nat.le_refl _⟩ ?_
 rintro ⟨k,c⟩ ⟨hk,hc0,hck⟩
 dsimp only at hk hc0 hck ⊢
 have hst : k < 3 → E0 (L.take (k + 1)) = c + (if L[k]! = [] then 0 else 1) := fun h => by rw [b0 _ _ (by omega),Gx,← hc0]
 repeat' (first|(apply aF;(apply aA (k := 95);rfl;exact h5;exact Pur.pf;rfl))|refine aE ?_|(refine aJ ?_ ?_ <;> intro hc hq <;> try (exfalso;omega))|fail)
 ·(refine bD (k + 1, c + 1) (Le.renA [(0, 0)]) ?_ ?_)
  ·refine ⟨by show k + 1 ≤ 3; omega, ?_, by show c + 1 ≤ k + 1; omega⟩
   show c + 1 = E0 (L.take (k + 1))
   rw [hst (by omega),if_neg (fun e => by rw [e] at hq;simp at hq)]
  ·show 3 - (k + 1) < 3 - k;omega
 ·(refine bD (k + 1, c) (Le.renA [(0, 0)]) ?_ ?_)
  ·refine ⟨by show k + 1 ≤ 3; omega, ?_, by show c ≤ k + 1; omega⟩
   show c = E0 (L.take (k + 1))
   rw [hst (by omega),if_pos (List.eq_nil_of_length_eq_zero (by omega))]; rfl
  ·show 3 - (k + 1) < 3 - k;omega
 ·have e : c = E0 L := by rw [hc0, List.take_of_length_le (by omega)]
  rw [e]
  exact aD rfl ⟨rfl,rfl⟩
theorem JR (A B C:List Iss):E0 [A,B,C] = (if 0 < A.length then 1 else 0) + (if 0 < B.length then 1 else 0) + (if 0 < C.length then 1 else 0):=by
 cases A <;> cases B <;> cases C <;> rfl
theorem Ey (p:Prg) (hv:bI p = false) (hl:p.types.length ≤ 1048576) (hs:aU p.body ≤ 1048576):PC Tryz.prog 38 [bY p] (fun r => r = .tup [iv 0,bv false]):=by
 have h3 := fW p hl (by omega)
 rw [hv] at h3
 refine aC Tryz.func38 Tryz.ntmps38 ?_
 repeat' (first|(apply aF;(apply aA (k := 61);rfl;exact h3;exact Pur.pf;rfl))|refine aE ?_|fail)
 exact aD rfl ⟨rfl,rfl⟩
theorem HK (p:Prg) (A B C:List Iss) (b:Bool) (hv:bI p = true) (hl:p.types.length ≤ 1048576) (hs:aU p.body ≤ 1048576) (h1:PC Tryz.prog 96 [bY p] (fun r => r = sl dG A)) (h2:PC Tryz.prog 97 [bY p] (fun r => r = sl dG B))
  (h4 : PC Tryz.prog 98 [bY p] (fun r => r = sl dG C)) (h5 : PC Tryz.prog 99 [bY p,iv 3] (fun r => r = bv b)) : PC Tryz.prog 38 [bY p] (fun r => r = .tup [iv (E0 [A,B,C] : Int),bv b]) := by
 have h3 := fW p hl (by omega)
 rw [hv] at h3
 refine aC Tryz.func38 Tryz.ntmps38 ?_
 repeat' (first|(apply aF;first|(apply aA (k := 61);rfl;exact h3;exact Pur.pf;rfl)|(apply aA (k := 96);rfl;exact h1;exact Pur.pf;rfl)|(apply aA (k := 97);rfl;exact h2;exact Pur.pf;rfl)|(apply aA (k := 98);rfl;exact h4;exact Pur.pf;rfl)|(apply aA (k := 99);rfl;exact h5;exact Pur.pf;rfl))|refine aE ?_|(refine aJ ?_ ?_ <;> intro hc hq <;> try (exfalso;omega))|fail)
 all_goals (refine aD rfl ⟨?_,rfl⟩; simp only [aM]; rw [JR]; split <;> split <;> split <;> first|(exfalso;omega)|rfl)
noncomputable def Lz (p : Prg) : Nat × Bool := if hv : bI p = true then (E0 (NL p hv),qR p 3 && (Be p 3).isNone) else (0,false)
theorem Kf (p:Prg) (hv:bI p = true):Lz p = (E0 (NL p hv),qR p 3 && (Be p 3).isNone) := dif_pos hv
theorem Ki (p:Prg) (hv:bI p = false):Lz p = (0,false) := dif_neg (by rw [hv]; decide)
theorem DD (p:Prg) (hl:p.types.length ≤ 1048576) (hs:aU p.body ≤ 1048576):PC Tryz.prog 37 [bY p] (fun r => r = .tup [iv ((Lz p).1:Int),bv (Lz p).2]):=by
 cases hv : bI p
 ·rw [Ki p hv]; exact Ed p hv hl hs
 ·rw [Kf p hv]
  have hc := Gq p (DT p hv) hl hs
  rw [show ET p (DT p hv) = (DT p hv).iss from if_pos hv] at hc
  exact Fh p _ _ _ _ hv hl hs (EE p (DT p hv) hv hl hs) (Eg p (DT p hv) (Np p hv) (Gr p hv) hv hl hs) hc (Ih p 3 hl hs)
theorem Eo (p:Prg) (hl:p.types.length ≤ 1048576) (hs:aU p.body ≤ 1048576):PC Tryz.prog 38 [bY p] (fun r => r = .tup [iv ((Lz p).1:Int),bv (Lz p).2]):=by
 cases hv : bI p
 ·rw [Ki p hv]; exact Ey p hv hl hs
 ·rw [Kf p hv]
  have hc := Fk p (DT p hv) hl hs
  rw [show ET p (DT p hv) = (DT p hv).iss from if_pos hv] at hc
  exact HK p _ _ _ _ hv hl hs (E3 p (DT p hv) hv hl hs) (DU p (DT p hv) (Np p hv) (Gr p hv) hv hl hs) hc (Ij p 3 hl hs)
theorem m8 {c left:Int}(h:c ≤ left):Gu c left = left - c := if_pos h
theorem j1 {c left:Int}(h:¬ c ≤ left):Gu c left = -1 := if_neg h
theorem FA (l:List Int) (left:Int) (h0:0 ≤ left) (h1:left ≤ 1048576) (hl:l.length ≤ 9223372036854775807):PC Tryz.prog 113 [sl cI l,iv left] (fun r => r = iv (Gu l.length left)):=by
 refine aC Tryz.func113 Tryz.ntmps113 ?_
 repeat' (first|refine aE ?_|(refine aJ ?_ ?_ <;> intro hc hq <;> try (exfalso;omega))|fail)
 all_goals (refine aD rfl ⟨?_,rfl⟩; simp only [aM]; first|rw [m8 (by omega)]|rw [j1 (by omega)])
theorem E1 (m:Nat) (ih:∀ l (left:Int),aU l < m → H9 l → 0 ≤ left → left ≤ 1048576 → PC Tryz.prog 114 [sl aZ l,iv left] (fun r => r = iv (Gu (aU l) left))) (s:AL.Stmt) (left:Int) (hs:eH s ≤ m) (hln:Ds s) (h0:0 ≤ left) (h1:left ≤ 1048576) :
  PC Tryz.prog 191 [cU s,iv left] (fun r => r = iv (Gu (aU s.th + aU s.el : Nat) left)) := by
 have hct := kW s
 obtain ⟨l1,l2⟩ := LC hln
 have c1 := ih s.th left (by omega) l1 h0 h1
 by_cases q1 : (aU s.th : Int) ≤ left
 ·rw [m8 q1] at c1
  have c2 := ih s.el (left - aU s.th) (by omega) l2 (by omega) (by omega)
  by_cases q2 : (aU s.el : Int) ≤ left - aU s.th
  ·rw [m8 q2] at c2
   rw [m8 (by omega)]
   refine aC Tryz.func191 Tryz.ntmps191 ?_
   repeat' (first|(apply aF;(apply aA (k := 114);rfl;(first|exact c1|exact c2);exact Pur.pf;rfl))|refine aE ?_|(refine aJ ?_ ?_ <;> intro hc hq <;> try (exfalso;omega))|fail)
   all_goals first
    | (exfalso;omega)
    | (refine aD rfl ⟨?_,rfl⟩; simp only [aM]; refine congrArg (fun z => AV.v (Value.int .i64 z)) ?_; omega)
  ·rw [j1 q2] at c2
   rw [j1 (by omega)]
   refine aC Tryz.func191 Tryz.ntmps191 ?_
   repeat' (first|(apply aF;(apply aA (k := 114);rfl;(first|exact c1|exact c2);exact Pur.pf;rfl))|refine aE ?_|(refine aJ ?_ ?_ <;> intro hc hq <;> try (exfalso;omega))|fail)
   all_goals first
    | (exfalso;omega)
    | (refine aD rfl ⟨?_,rfl⟩; rfl)
 ·rw [j1 q1] at c1
  rw [j1 (by omega)]
  refine aC Tryz.func191 Tryz.ntmps191 ?_
  repeat' (first|(apply aF;(apply aA (k := 114);rfl;exact c1;exact Pur.pf;rfl))|refine aE ?_|fail)
  all_goals first
   | (exfalso;omega)
   | (refine aD rfl ⟨?_,rfl⟩; rfl)
theorem BV (m:Nat) (ih:∀ s (left:Int),eH s ≤ m → Ds s → 0 ≤ left → left ≤ 1048576 → PC Tryz.prog 191 [cU s,iv left] (fun r => r = iv (Gu (aU s.th + aU s.el:Nat) left))) (l:List AL.Stmt) (left:Int) (hs:aU l ≤ m) (hln:H9 l) (h0:0 ≤ left) (h1:left ≤ 1048576) :
  PC Tryz.prog 114 [sl aZ l,iv left] (fun r => r = iv (Gu (aU l) left)) := by
 have hX := Hz l
 have hl := hln.1
 by_cases q0 : (l.length : Int) ≤ left
 ·refine aC Tryz.func114 Tryz.ntmps114 ?_
  repeat' (first|refine aE ?_|(refine aJ ?_ ?_ <;> intro hc hq <;> try (exfalso;omega))|fail)
  refine aH (σ := Nat × Int) [0] [] (fun k => [(5,iv (k.1 : Int)),(1,iv k.2)]) (fun k => []) (fun k => k.1 ≤ l.length ∧ 0 ≤ k.2 ∧ k.2 + l.length + mU (l.take k.1) = left) (fun k => l.length - k.1) (0,left - l.length) ⟨by omega,by dsimp only;omega,by simp [mU]⟩ ?_
  rintro ⟨k,z⟩ ⟨hk,hz0,hz⟩
  dsimp only at hk hz0 hz ⊢
  by_cases hkl : k < l.length
  ·have hck := g8 l k hkl
   have hsx := DK hkl
   have hle := JZ l (k + 1)
   have c1 := ih l[k]! z (by omega) (KZ hln hkl) hz0 (by omega)
   by_cases q1 : ((aU l[k]!.th + aU l[k]!.el : Nat) : Int) ≤ z
   ·rw [m8 q1] at c1
    repeat' (first|(apply aF;(apply aA (k := 191);rfl;exact c1;exact Pur.pf;rfl))|refine aE ?_|(refine aJ ?_ ?_ <;> intro hc hq <;> try (exfalso;omega))|fail)
    all_goals first
     | (exfalso;omega)
     | ((refine bD (k + 1, z - (aU l[k]!.th + aU l[k]!.el : Nat)) (Le.renA []) ?_ ?_)
        ·exact ⟨by dsimp only;omega,by dsimp only;omega,by dsimp only;rw [hsx]; omega⟩
        ·dsimp only;omega)
   ·rw [j1 q1] at c1
    repeat' (first|(apply aF;(apply aA (k := 191);rfl;exact c1;exact Pur.pf;rfl))|refine aE ?_|(refine aJ ?_ ?_ <;> intro hc hq <;> try (exfalso;omega))|fail)
    all_goals first
     | (exfalso;omega)
     | (refine aD rfl ⟨?_,rfl⟩; simp only [aM]; rw [j1 (by omega)])
  ·have hke : k = l.length := by omega
   subst hke
   rw [List.take_length] at hz
   repeat' (first|refine aE ?_|(refine aJ ?_ ?_ <;> intro hc hq <;> try (exfalso;omega))|fail)
   refine aD rfl ⟨?_,rfl⟩; simp only [aM]; rw [m8 (by omega)]
   refine congrArg (fun z => AV.v (Value.int .i64 z)) ?_; omega
 ·refine aC Tryz.func114 Tryz.ntmps114 ?_
  repeat' (first|refine aE ?_|(refine aJ ?_ ?_ <;> intro hc hq <;> try (exfalso;omega))|fail)
  all_goals first
   | (exfalso;omega)
   | (refine aD rfl ⟨?_,rfl⟩; simp only [aM]; rw [j1 (by omega)])
theorem JJ:∀ (m:Nat),(∀ s (left:Int),eH s ≤ m → Ds s → 0 ≤ left → left ≤ 1048576 → PC Tryz.prog 191 [cU s,iv left] (fun r => r = iv (Gu (aU s.th + aU s.el:Nat) left))) ∧
  (∀ l (left : Int),aU l ≤ m → H9 l → 0 ≤ left → left ≤ 1048576 → PC Tryz.prog 114 [sl aZ l,iv left] (fun r => r = iv (Gu (aU l) left))) := by
 intro m
 induction m using Nat.strongRecOn with
 | ind m ih =>
  have h1 : ∀ s (left : Int), eH s ≤ m → Ds s → 0 ≤ left → left ≤ 1048576 → PC Tryz.prog 191 [cU s, iv left] (fun r => r = iv (Gu (aU s.th + aU s.el : Nat) left)) :=
   fun s left a1 a2 a3 a4 => E1 m (fun l left' g1 g2 g3 g4 => (ih (aU l) g1).2 l left' (Nat.le_refl _) g2 g3 g4) s left a1 a2 a3 a4
  exact ⟨h1,fun l left g1 g2 g3 g4 => BV m h1 l left g1 g2 g3 g4⟩
theorem zB (p:Prg) (left:Int) (h0:0 ≤ left) (h1:left ≤ 1048576) (hl:p.types.length ≤ 9223372036854775807) (hln:H9 p.body):PC Tryz.prog 46 [bY p,iv left] (fun r => r = iv (Gu (p.types.length + aU p.body:Nat) left)):=by
 have c1 := FA p.types left h0 h1 hl
 by_cases q1 : (p.types.length : Int) ≤ left
 ·rw [m8 q1] at c1
  have c2 := (JJ _).2 p.body (left - p.types.length) (Nat.le_refl _) hln (by omega) (by omega)
  by_cases q2 : (aU p.body : Int) ≤ left - p.types.length
  ·rw [m8 q2] at c2
   rw [m8 (by omega)]
   refine aC Tryz.func46 Tryz.ntmps46 ?_
   repeat' (first|(apply aF;first|(apply aA (k := 113);rfl;exact c1;exact Pur.pf;rfl)|(apply aA (k := 114);rfl;exact c2;exact Pur.pf;rfl))|refine aE ?_|(refine aJ ?_ ?_ <;> intro hc hq <;> try (exfalso;omega))|fail)
   all_goals first
    | (exfalso;omega)
    | (refine aD rfl ⟨?_,rfl⟩; simp only [aM]; refine congrArg (fun z => AV.v (Value.int .i64 z)) ?_; omega)
  ·rw [j1 q2] at c2
   rw [j1 (by omega)]
   refine aC Tryz.func46 Tryz.ntmps46 ?_
   repeat' (first|(apply aF;first|(apply aA (k := 113);rfl;exact c1;exact Pur.pf;rfl)|(apply aA (k := 114);rfl;exact c2;exact Pur.pf;rfl))|refine aE ?_|(refine aJ ?_ ?_ <;> intro hc hq <;> try (exfalso;omega))|fail)
   all_goals first
    | (exfalso;omega)
    | (refine aD rfl ⟨?_,rfl⟩; rfl)
 ·rw [j1 q1] at c1
  rw [j1 (by omega)]
  refine aC Tryz.func46 Tryz.ntmps46 ?_
  repeat' (first|(apply aF;(apply aA (k := 113);rfl;exact c1;exact Pur.pf;rfl))|refine aE ?_|fail)
  all_goals first
   | (exfalso;omega)
   | (refine aD rfl ⟨?_,rfl⟩; rfl)
theorem Ks {xs:List AL.Stmt}{k:Nat}(s:AL.Stmt) (hk:k < xs.length):gQ (flat aZ xs) (0 + k * 6) [iv s.op,iv s.x,iv s.y,iv s.n,sl aZ s.th,sl aZ s.el] = flat aZ (xs.set k s) := fD hk (jU s).symm
theorem Kh:∀ n:Nat,flat cN (List.replicate n 0) = flat cI (List.replicate n 0)
 | 0 => rfl
 | n + 1 => by rw [List.replicate_succ,List.replicate_succ]; show cN 0 ++ flat cN (List.replicate n 0) = cI 0 ++ flat cI (List.replicate n 0);rw [Kh n]; rfl
theorem Hw (l:List Int) (hl:l.length ≤ 1048576):PC Tryz.prog 115 [sl cI l] (fun r => r = sl cI l):=by
 refine aC Tryz.func115 Tryz.ntmps115 ?_
 repeat' (first|refine aE ?_|fail)
 rw [Kh]
 refine aH (σ := Nat × List Int) [0,3] [] (fun k => [(4,iv (k.1 : Int))]) (fun k => [(0,some (flat cI k.2))]) (fun k => k.1 ≤ l.length ∧ k.2.length = l.length ∧ (∀ j,j < k.1 → k.2[j]! = l[j]!)) (fun k => l.length - k.1) (0,List.replicate l.length 0) ⟨by omega,by simp,by omega⟩ ?_
 rintro ⟨k,u⟩ ⟨hk,hul,hu⟩
 dsimp only at hk hul hu ⊢
 repeat' (first|refine aE ?_|(refine aJ ?_ ?_ <;> intro hc hq <;> try (exfalso;omega))|fail)
 ·(refine bD (k + 1, u.set k l[k]!) (Le.renA [(0, 0)]) ?_ ?_)
  ·refine ⟨by dsimp only; omega, by dsimp only; rw [List.length_set]; exact hul, fun j hj => ?_⟩
   dsimp only at hj ⊢
   rw [aS]
   by_cases e : k = j
   ·subst e;rw [if_pos ⟨rfl,by omega⟩]
   ·rw [if_neg (fun q => e q.1)]; exact hu j (by omega)
  ·dsimp only;omega
 ·refine aT (Le.frzD (d := 2) (i := 0) rfl rfl) ?_
  have e : u = l := bH hul fun j hj => hu j (by omega)
  subst e
  exact aD rfl ⟨rfl,(by (exact a6 _ _))⟩
theorem EI (m:Nat) (ih:∀ l,aU l < m → PC Tryz.prog 116 [sl aZ l] (fun r => r = sl aZ l)) (s:AL.Stmt) (hs:eH s ≤ m):PC Tryz.prog 192 [cU s] (fun r => r = cU s):=by
 have hct := kW s
 have c1 := ih s.th (by omega)
 have c2 := ih s.el (by omega)
 refine aC Tryz.func192 Tryz.ntmps192 ?_
 repeat' (first|(apply aF;(apply aA (k := 116);rfl;(first|exact c1|exact c2);exact Pur.pf;rfl))|refine aE ?_|fail)
 exact aD (l := [cU s]) rfl ⟨rfl,Pur.pf⟩
theorem BP (m:Nat) (hm:m ≤ 1048576) (ih:∀ s,eH s ≤ m → PC Tryz.prog 192 [cU s] (fun r => r = cU s)) (l:List AL.Stmt) (hs:aU l ≤ m):PC Tryz.prog 116 [sl aZ l] (fun r => r = sl aZ l):=by
 have hlen := gD l
 refine aC Tryz.func116 Tryz.ntmps116 ?_
 repeat' (first|refine aE ?_|fail)
 refine MU (Le.zeroS (i := 0) (m := l.length) rfl) ?_
 refine aH (σ := Nat × List AL.Stmt) [0,3] [] (fun k => [(4,iv (k.1 : Int))]) (fun k => [(0,some (flat aZ k.2))]) (fun k => k.1 ≤ l.length ∧ k.2.length = l.length ∧ (∀ j,j < k.1 → k.2[j]! = l[j]!)) (fun k => l.length - k.1) (0,List.replicate l.length NA) ⟨by omega,by simp,by omega⟩ ?_
 rintro ⟨k,u⟩ ⟨hk,hul,hu⟩
 dsimp only at hk hul hu ⊢
 by_cases hkl : k < l.length
 ·have hck := g8 l k hkl
  have c1 := ih l[k]! (by omega)
  repeat' (first|(apply aF;first|(apply aA (k := 192);rfl;exact c1;exact Pur.pf;rfl)|(apply a7;rfl;rfl;rfl;rfl;rfl;(rw [aI aZ (e := 6)]; (show _ + 6 ≤ _);omega);exact Ks _ (by omega)))|refine aE ?_|(refine aJ ?_ ?_ <;> intro hc hq <;> try (exfalso;omega))|fail)
  (refine bD (k + 1,u.set k l[k]!) (Le.renA [(0,0)]) ?_ ?_)
  ·refine ⟨by dsimp only; omega, by dsimp only; rw [List.length_set]; exact hul, fun j hj => ?_⟩
   dsimp only at hj ⊢
   rw [aS]
   by_cases e : k = j
   ·subst e;rw [if_pos ⟨rfl,by omega⟩]
   ·rw [if_neg (fun q => e q.1)]; exact hu j (by omega)
  ·dsimp only;omega
 ·repeat' (first | refine aE ?_ | (refine aJ ?_ ?_ <;> intro hc hq <;> try (exfalso; omega))|fail)
  refine aT (Le.frzD (d := 2) (i := 0) rfl rfl) ?_
  have e : u = l := bH hul fun j hj => hu j (by omega)
  subst e
  exact aD rfl ⟨rfl,(by (exact a6 _ _))⟩
theorem JH:∀ (m:Nat),m ≤ 1048576 → (∀ s,eH s ≤ m → PC Tryz.prog 192 [cU s] (fun r => r = cU s)) ∧ (∀ l,aU l ≤ m → PC Tryz.prog 116 [sl aZ l] (fun r => r = sl aZ l)):=by
 intro m
 induction m using Nat.strongRecOn with
 | ind m ih =>
  intro hm
  have h1 : ∀ s,eH s ≤ m → PC Tryz.prog 192 [cU s] (fun r => r = cU s) := fun s a1 => EI m (fun l g1 => (ih (aU l) g1 (by omega)).2 l (Nat.le_refl _)) s a1
  exact ⟨h1,fun l g1 => BP m hm h1 l g1⟩
theorem AO (p:Prg) (hl:p.types.length ≤ 1048576) (hs:aU p.body ≤ 1048576):PC Tryz.prog 47 [bY p] (fun r => r = bY p):=by
 have c1 := Hw p.types hl
 have c2 := (JH _ hs).2 p.body (Nat.le_refl _)
 refine aC Tryz.func47 Tryz.ntmps47 ?_
 repeat' (first|(apply aF;first|(apply aA (k := 115);rfl;exact c1;exact Pur.pf;rfl)|(apply aA (k := 116);rfl;exact c2;exact Pur.pf;rfl))|refine aE ?_|fail)
 exact aD (l := [bY p]) rfl ⟨rfl,Pur.pf⟩
theorem FD (L:List Int) (hl:L.length ≤ 1048576):PC Tryz.prog 117 [sl cI L,sl cI L] (fun r => r = bv true):=by
 refine aC Tryz.func117 Tryz.ntmps117 ?_
 repeat' (first|refine aE ?_|(refine aJ ?_ ?_ <;> intro hc hq <;> try (exfalso;omega))|fail)
 ·exact (hq trivial).elim
 refine aH (σ := Nat) [0,1] [] (fun k => [(5,iv (k : Int))]) (fun k => []) (fun k => k ≤ L.length) (fun k => L.length - k) (0) (by omega) ?_
 rintro k hk
 repeat' (first|refine aE ?_|(refine aJ ?_ ?_ <;> intro hc hq <;> try (exfalso;omega))|refine bJ ?_|fail)
 ·exfalso
  simp at hq
 ·(refine bD (k + 1) (Le.renA []) ?_ ?_)
  ·omega
  ·omega
 ·exact aD rfl ⟨rfl,rfl⟩
theorem Dz (m:Nat) (ih:∀ l,aU l < m → PC Tryz.prog 118 [sl aZ l,sl aZ l] (fun r => r = bv true)) (s:AL.Stmt) (hs:eH s ≤ m):PC Tryz.prog 193 [cU s,cU s] (fun r => r = bv true):=by
 have hct := kW s
 have c1 := ih s.th (by omega)
 have c2 := ih s.el (by omega)
 refine aC Tryz.func193 Tryz.ntmps193 ?_
 repeat' (first|(apply aF;(apply aA (k := 118);rfl;(first|exact c1|exact c2);exact Pur.pf;rfl))|refine aE ?_|(refine aJ ?_ ?_ <;> intro hc hq <;> try (exfalso;omega))|fail)
 all_goals first
  | (exfalso;exact (by assumption : ¬ True) trivial)
  | exact aD rfl ⟨rfl,rfl⟩
theorem Bm (m:Nat) (hm:m ≤ 1048576) (ih:∀ s,eH s ≤ m → PC Tryz.prog 193 [cU s,cU s] (fun r => r = bv true)) (l:List AL.Stmt) (hs:aU l ≤ m):PC Tryz.prog 118 [sl aZ l,sl aZ l] (fun r => r = bv true):=by
 have hlen := gD l
 refine aC Tryz.func118 Tryz.ntmps118 ?_
 repeat' (first|refine aE ?_|(refine aJ ?_ ?_ <;> intro hc hq <;> try (exfalso;omega))|fail)
 ·exact (hq trivial).elim
 refine aH (σ := Nat) [0,1] [] (fun k => [(5,iv (k : Int))]) (fun k => []) (fun k => k ≤ l.length) (fun k => l.length - k) (0) (by omega) ?_
 rintro k hk
 by_cases hkl : k < l.length
 ·have hck := g8 l k hkl
  have c1 := ih l[k]! (by omega)
  repeat' (first|(apply aF;(apply aA (k := 193);rfl;exact c1;exact Pur.pf;rfl))|refine aE ?_|(refine aJ ?_ ?_ <;> intro hc hq <;> try (exfalso;omega))|refine bJ ?_|fail)
  all_goals first
   | (exfalso;exact (by assumption : ¬ True) trivial)
   | ((refine bD (k + 1) (Le.renA []) ?_ ?_)
      ·omega
      ·omega)
 ·repeat' (first | refine aE ?_ | (refine aJ ?_ ?_ <;> intro hc hq <;> try (exfalso; omega))|fail)
  exact aD rfl ⟨rfl,rfl⟩
theorem JP:∀ (m:Nat),m ≤ 1048576 → (∀ s,eH s ≤ m → PC Tryz.prog 193 [cU s,cU s] (fun r => r = bv true)) ∧ (∀ l,aU l ≤ m → PC Tryz.prog 118 [sl aZ l,sl aZ l] (fun r => r = bv true)):=by
 intro m
 induction m using Nat.strongRecOn with
 | ind m ih =>
  intro hm
  have h1 : ∀ s,eH s ≤ m → PC Tryz.prog 193 [cU s,cU s] (fun r => r = bv true) := fun s a1 => Dz m (fun l g1 => (ih (aU l) g1 (by omega)).2 l (Nat.le_refl _)) s a1
  exact ⟨h1,fun l g1 => Bm m hm h1 l g1⟩
theorem A1 (p:Prg) (hl:p.types.length ≤ 1048576) (hs:aU p.body ≤ 1048576):PC Tryz.prog 48 [bY p,bY p] (fun r => r = bv true):=by
 have c1 := FD p.types hl
 have c2 := (JP _ hs).2 p.body (Nat.le_refl _)
 refine aC Tryz.func48 Tryz.ntmps48 ?_
 repeat' (first|(apply aF;first|(apply aA (k := 117);rfl;exact c1;exact Pur.pf;rfl)|(apply aA (k := 118);rfl;exact c2;exact Pur.pf;rfl))|refine aE ?_|fail)
 all_goals first
  | (exfalso;exact (by assumption : ¬ True) trivial)
  | exact aD rfl ⟨rfl,rfl⟩
theorem k5 (p:Prg) (hl:p.types.length ≤ 9223372036854775807) (hln:H9 p.body):PC Tryz.prog 11 [bY p] (fun r => r = bv true):=by
 have c0 := zB p 1048576 (by decide) (by decide) hl hln
 by_cases q : ((p.types.length + aU p.body : Nat) : Int) ≤ 1048576
 ·rw [m8 q] at c0
  have h1 := AO p (by omega) (by omega)
  have h2 := A1 p (by omega) (by omega)
  have h3 := DD p (by omega) (by omega)
  have h4 := Eo p (by omega) (by omega)
  generalize Lz p = J at *
  refine aC Tryz.func11 Tryz.ntmps11 ?_
  repeat' (first|(apply aF;first|(apply aA (k := 46);rfl;exact c0;exact Pur.pf;rfl)|(apply aA (k := 47);rfl;exact h1;exact Pur.pf;rfl)|(apply aA (k := 48);rfl;exact h2;exact Pur.pf;rfl)|(apply aA (k := 37);rfl;exact h3;exact Pur.pf;rfl)|(apply aA (k := 38);rfl;exact h4;exact Pur.pf;rfl))|refine aE ?_|(refine aJ ?_ ?_ <;> intro hc hq <;> try (exfalso;omega))|(refine bS ?_ ?_ <;> intro hg hq <;> try (exfalso;omega))|refine bJ ?_|fail)
  all_goals first
   | (exfalso;exact (by assumption : ¬ True) trivial)
   | (exfalso;omega)
   | (refine aD rfl ⟨?_,rfl⟩; simp only [aM,decide_true]; done)
 ·rw [j1 q] at c0
  refine aC Tryz.func11 Tryz.ntmps11 ?_
  repeat' (first|(apply aF;(apply aA (k := 46);rfl;exact c0;exact Pur.pf;rfl))|refine aE ?_|fail)
  all_goals first
   | exact aD rfl ⟨rfl,rfl⟩
   | (exfalso;omega)
end Go.Proofs.YtahdccneecdmmaaGreat
namespace Go.Proofs.YtahdccneecdmmaaGreat
open Go.AL Go.ChangeShapes Go.WideShapes Go.ChangeAt Go.RowKit
theorem AX {w:World}{b:Nat}:∀ (cs:List AV) (l:List Value) (o:Nat),RdL w (fun _ => False) (fun _ => none) cs l → (∀ j,j < l.length → w.cell? ⟨b,o + j,none⟩ = l[j]?) → RdC w (fun _ => False) (fun _ => none) cs b o
 | [],_,_,_,_ => by simp only [RdC]
 | c :: cs, l, o, h, hc => by
  simp only [RdL] at h
  obtain ⟨x,l',rfl,h1,h2,h3⟩ := h
  simp only [RdC]
  refine ⟨⟨x,by simpa using hc 0 (by simp),h1,h2⟩,AX cs l' (o + 1) h3 fun j hj => ?_⟩
  have := hc (j + 1) (by simpa using hj)
  rw [show o + 1 + j = o + (j + 1) from by omega,this]; rfl
theorem yY {w:World}{bad:Nat → Prop}{ι:Pl}{b:Nat}:∀ (cs ds:List AV) (o:Nat),RdC w bad ι cs b o → RdC w bad ι ds b (o + cs.length) → RdC w bad ι (cs ++ ds) b o
 | [],ds,o,_,h => by simpa using h
 | c :: cs, ds, o, h, h2 => by
  simp only [List.cons_append,RdC] at h ⊢
  exact ⟨h.1,yY cs ds (o + 1) h.2 (by rw [List.length_cons] at h2;rwa [show o + 1 + cs.length = o + (cs.length + 1) from by omega])⟩
theorem RdC_stmts {w:World}{b:Nat}:∀ (l:List AL.Stmt) (o:Nat),(∀ i,i < l.length → RdC w (fun _ => False) (fun _ => none) (aZ l[i]!) b (o + i * 6)) → RdC w (fun _ => False) (fun _ => none) (flat aZ l) b o
 | [],_,_ => by simp only [flat,List.flatMap_nil,RdC]
 | s :: l, o, h => by
  have e : flat aZ (s :: l) = aZ s ++ flat aZ l := by simp only [flat,List.flatMap_cons]
  rw [e]
  have h0 := h 0 (by simp)
  refine yY _ _ o (by simpa using h0) (RdC_stmts l _ fun i hi => ?_)
  have hi' := h (i + 1) (by simpa using hi)
  have e6 : (aZ s).length = 6 := by rw [jU]; rfl
  rw [e6,show o + 6 + i * 6 = o + (i + 1) * 6 from by omega]
  simpa using hi'
theorem AZ {w:World}{b:Nat}:∀ (zs:List Int) (o:Nat),(∀ j,j < zs.length → w.cell? ⟨b,o + j,none⟩ = some (.int .i64 zs[j]!)) → RdC w (fun _ => False) (fun _ => none) (flat cI zs) b o
 | [],_,_ => by simp only [flat,List.flatMap_nil,RdC]
 | x :: zs, o, h => by
  have h0 := h 0 (by simp)
  have e : flat cI (x :: zs) = iv x :: flat cI zs := rfl
  rw [e]
  simp only [RdC]
  refine ⟨⟨.int .i64 x,by simpa using h0,rfl,by simp only [Rd]⟩,AZ zs (o + 1) fun j hj => ?_⟩
  have := h (j + 1) (by simpa using hj)
  rw [show o + 1 + j = o + (j + 1) from by omega]
  simpa using this
theorem Gf:Tryz.prog.cellsOf 3 = 1 := by kernel_rfl
theorem Dh:Tryz.prog.cellsOf 74 = 1 := by kernel_rfl
theorem Jf:Tryz.prog.cellsOf 23 = 1 := by kernel_rfl
theorem Ay:Tryz.prog.cellsOf 219 = 6 := by kernel_rfl
theorem J1:Tryz.prog.cellsOf 76 = 2 := by kernel_rfl
theorem Ak {α:Type}[Inhabited α] {P:Nat → α → Prop}(n:Nat) (h:∀ i,i < n → ∃ x,P i x):∃ l:List α,l.length = n ∧ ∀ i,i < n → P i l[i]!:=by
 induction n with
 | zero => exact ⟨[],rfl,by omega⟩
 | succ n ih =>
  obtain ⟨l,h1,h2⟩ := ih fun i hi => h i (by omega)
  obtain ⟨x,hx⟩ := h n (by omega)
  refine ⟨l ++ [x],by simp [h1],fun i hi => ?_⟩
  by_cases e : i < n
  ·rw [a8 _ _ (by simp;omega),List.getElem_append_left (by omega),← a8 l i (by omega)]; exact h2 i e
  ·have : i = n := by omega
   subst this
   rw [a8 _ _ (by simp;omega),List.getElem_append_right (by omega)]
   simp only [h1,Nat.sub_self,List.getElem_cons_zero]; exact hx
section
variable {H : Type} {enc : TypeId × Value → H} {W : World}
theorem J2 {fuel:Nat}{v:Value}{x:DataW H × List MemPlace}(hf:DataW.trod enc Tryz.prog W 0 (fun _ => true) true fuel 23 [v] = some x):∃ l:List Int,l.length ≤ 9223372036854775807 ∧ Rd W (fun _ => False) (fun _ => none) (sl cI l) v ∧ v.oneCell' = true:=by
 rcases open_ints Tryz.underlying23 Tryz.underlying3 Gf hf with ⟨hcs,hx⟩ | ⟨a,len,cap,zs,hcs,_,hl,hm,hz,hx,hcell,hwz⟩
 ·simp at hcs
  subst hcs
  refine ⟨[],by decide,?_,rfl⟩
  simp only [Rd]
  exact ⟨none,0,rfl,.inl rfl⟩
 ·simp at hcs
  subst hcs
  simp only [if_true] at hz
  have hlen : (zs.take len).length = len := by simp;omega
  have hmx : maxLen = 9223372036854775807 := by decide
  refine ⟨zs.take len,by omega,?_,rfl⟩
  simp only [Rd]
  refine ⟨some a,cap,by rw [hlen],?_⟩
  by_cases h00 : len = 0
  ·exact .inl (by rw [hlen]; exact h00)
  ·obtain ⟨b, off, spot⟩ := a
   have hspot : spot = none := by simpa [Addr.add] using World.cell?_spot (hcell 0 (by omega))
   subst hspot
   refine .inr ⟨b,off,by rw [hlen]; exact hl,rfl,.inr ⟨fun h => h,AZ _ _ fun j hj => ?_⟩⟩
   rw [hlen] at hj
   have hcj := hcell j (by omega)
   rw [Addr.add_lit] at hcj
   rw [hcj,a8 _ _ (by rw [hlen]; exact hj),List.getElem_take]
   simp [List.getD,List.getElem?_eq_getElem (show j < zs.length by omega)]
theorem NQ {cs:List Value}(h:cs.length = 6):∃ a b c d e f,cs = [a,b,c,d,e,f]:=by
 match cs,h with
 | [a,b,c,d,e,f],_ => exact ⟨a,b,c,d,e,f,rfl⟩
theorem Fz:∀ fuel:Nat,(∀ cs x,DataW.trod enc Tryz.prog W 0 (fun _ => true) true fuel 219 cs = some x → ∃ s:AL.Stmt,Ds s ∧ cs.length = 6 ∧ RdL W (fun _ => False) (fun _ => none) (aZ s) cs) ∧
  (∀ v x,DataW.trod enc Tryz.prog W 0 (fun _ => true) true fuel 74 [v] = some x → ∃ l : List AL.Stmt,H9 l ∧ Rd W (fun _ => False) (fun _ => none) (sl aZ l) v ∧ v.oneCell' = true) := by
 intro fuel
 induction fuel using Nat.strongRecOn with
 | ind fuel ih =>
  constructor
  ·intro cs x h
   obtain ⟨xs,n,hn,_,hl,hlen,hf⟩ := DataW.trod_struct Tryz.underlying219 h
   rw [Ay] at hl
   obtain ⟨v0,v1,v2,v3,v4,v5,rfl⟩ := NQ hl
   have f0 := hf 0 _ rfl
   have f1 := hf 1 _ rfl
   have f2 := hf 2 _ rfl
   have f3 := hf 3 _ rfl
   have f4 := hf 4 _ rfl
   have f5 := hf 5 _ rfl
   have g : ∀ i,i < 6 → ∃ y,xs[i]? = some y := fun i hi => ⟨xs[i]'(by rw [hlen]; exact hi),List.getElem?_eq_getElem (by rw [hlen]; exact hi)⟩
   obtain ⟨y0,e0⟩ := g 0 (by decide)
   obtain ⟨y1,e1⟩ := g 1 (by decide)
   obtain ⟨y2,e2⟩ := g 2 (by decide)
   obtain ⟨y3,e3⟩ := g 3 (by decide)
   obtain ⟨y4,e4⟩ := g 4 (by decide)
   obtain ⟨y5,e5⟩ := g 5 (by decide)
   rw [e0] at f0
   rw [e1] at f1
   rw [e2] at f2
   rw [e3] at f3
   rw [e4] at f4
   rw [e5] at f5
   change DataW.trod _ _ _ _ _ _ n 3 (([v0,v1,v2,v3,v4,v5].drop 0).take (Tryz.prog.cellsOf 3)) = _ at f0
   change DataW.trod _ _ _ _ _ _ n 3 (([v0,v1,v2,v3,v4,v5].drop 1).take (Tryz.prog.cellsOf 3)) = _ at f1
   change DataW.trod _ _ _ _ _ _ n 3 (([v0,v1,v2,v3,v4,v5].drop 2).take (Tryz.prog.cellsOf 3)) = _ at f2
   change DataW.trod _ _ _ _ _ _ n 3 (([v0,v1,v2,v3,v4,v5].drop 3).take (Tryz.prog.cellsOf 3)) = _ at f3
   change DataW.trod _ _ _ _ _ _ n 74 (([v0,v1,v2,v3,v4,v5].drop 4).take (Tryz.prog.cellsOf 74)) = _ at f4
   change DataW.trod _ _ _ _ _ _ n 74 (([v0,v1,v2,v3,v4,v5].drop 5).take (Tryz.prog.cellsOf 74)) = _ at f5
   rw [Gf] at f0 f1 f2 f3
   rw [Dh] at f4 f5
   obtain ⟨n0,q0,_,_⟩ := DataW.trod_int Tryz.underlying3 f0
   obtain ⟨n1,q1,_,_⟩ := DataW.trod_int Tryz.underlying3 f1
   obtain ⟨n2,q2,_,_⟩ := DataW.trod_int Tryz.underlying3 f2
   obtain ⟨n3,q3,_,_⟩ := DataW.trod_int Tryz.underlying3 f3
   have ih' := ih n (by omega)
   obtain ⟨l4,a4,b4,c4⟩ := ih'.2 v4 _ f4
   obtain ⟨l5,a5,b5,c5⟩ := ih'.2 v5 _ f5
   simp at q0 q1 q2 q3
   subst q0 q1 q2 q3
   refine ⟨.mk n0 n1 n2 n3 l4 l5,by simp only [Ds]; exact ⟨a4,a5⟩,rfl,?_⟩
   rw [jU]
   simp only [RdL]
   exact ⟨_,_,rfl,rfl,(by simp only [Rd]; rfl),_,_,rfl,rfl,(by simp only [Rd]; rfl),_,_,rfl,rfl,(by simp only [Rd]; rfl),_,_,rfl,rfl,(by simp only [Rd]; rfl),_,_,rfl,c4,b4,_,_,rfl,c5,b5,rfl⟩
  ·intro v x h
   rcases DataW.trod_slice Tryz.underlying74 h with ⟨hcs,_⟩ | ⟨a,len,cap,elems,rest,n,hn,hcs,_,hb,hl,hm,hlen,hel,hsp,hns⟩
   ·simp at hcs
    subst hcs
    refine ⟨[],⟨by decide,by simp only [H7]⟩,?_,rfl⟩
    simp only [Rd]
    exact ⟨none,0,rfl,.inl rfl⟩
   ·simp at hcs
    subst hcs
    rw [Ay] at hel
    have hmx : maxLen = 9223372036854775807 := by decide
    have key : ∀ i, i < len → ∃ s : AL.Stmt, Ds s ∧ ∃ cs : List Value, cs.length = 6 ∧ RdL W (fun _ => False) (fun _ => none) (aZ s) cs ∧ ∀ j, j < 6 → W.cell? ((a.add (i * 6)).add j) = cs[j]? := fun i hi => by
     have h1 := hel i hi
     rw [List.getElem?_eq_getElem (by omega),Option.bind_eq_some_iff] at h1
     obtain ⟨cs,h2,h3⟩ := h1
     obtain ⟨s,s1,s2,s3⟩ := (ih n (by omega)).1 cs _ h3
     exact ⟨s,s1,cs,s2,s3,(World.cells?_some h2).2.2⟩
    obtain ⟨l,k1,k2⟩ := Ak len key
    refine ⟨l,⟨by omega,HB fun s hs => ?_⟩,?_,rfl⟩
    ·obtain ⟨i, hi, e⟩ := List.getElem_of_mem hs
     have := (k2 i (by omega)).1
     rw [a8 _ _ hi,e] at this;exact this
    ·simp only [Rd]
     refine ⟨some a,cap,by rw [k1],?_⟩
     by_cases h00 : len = 0
     ·exact .inl (by rw [k1]; exact h00)
     ·obtain ⟨b, off, spot⟩ := a
      have hspot : spot = none := by
       obtain ⟨_,cs,c1,_,c3⟩ := k2 0 (by omega)
       have := c3 0 (by decide)
       rw [List.getElem?_eq_getElem (by omega)] at this
       simpa [Addr.add] using World.cell?_spot this
      subst hspot
      refine .inr ⟨b,off,by rw [k1]; exact hl,rfl,.inr ⟨fun h => h,RdC_stmts _ _ fun i hi => ?_⟩⟩
      rw [k1] at hi
      obtain ⟨_,cs,c1,c2,c3⟩ := k2 i hi
      refine AX _ cs _ c2 fun j hj => ?_
      have := c3 j (by omega)
      rw [Addr.add_lit,Addr.add_lit] at this
      exact this
theorem JM {base:Nat}{v0:Value}{d0:DataW H}{p:List MemPlace}(hval:Value.okWide Tryz.prog W .any base 76 v0) (h0:DataW.Trod enc Tryz.prog W 0 (fun _ => true) true 76 v0 d0 p) :
  ∃ q : Prg,q.types.length ≤ 9223372036854775807 ∧ H9 q.body ∧ Rd W (fun _ => False) (fun _ => none) (bY q) v0 := by
 obtain ⟨cs,rfl,hsz⟩ := okWide_struct Tryz.underlying76 hval
 obtain ⟨fuel,hf⟩ := h0
 obtain ⟨xs,n,hn,_,hl,hlen,hg⟩ := DataW.trod_struct Tryz.underlying76 hf
 have f0 := hg 0 _ rfl
 have f1 := hg 1 _ rfl
 have g : ∀ i,i < 2 → ∃ y,xs[i]? = some y := fun i hi => ⟨xs[i]'(by rw [hlen]; exact hi),List.getElem?_eq_getElem (by rw [hlen]; exact hi)⟩
 obtain ⟨y0,e0⟩ := g 0 (by decide)
 obtain ⟨y1,e1⟩ := g 1 (by decide)
 rw [e0] at f0
 rw [e1] at f1
 change DataW.trod _ _ _ _ _ _ n 23 (((Value.agg cs).cells.toList.drop 0).take (Tryz.prog.cellsOf 23)) = _ at f0
 change DataW.trod _ _ _ _ _ _ n 74 (((Value.agg cs).cells.toList.drop 1).take (Tryz.prog.cellsOf 74)) = _ at f1
 rw [Jf] at f0
 rw [Dh] at f1
 have hcs : (Value.agg cs).cells.toList = cs.toList := rfl
 rw [J1] at hl
 rw [hcs] at hl f0 f1
 obtain ⟨a, b, hab⟩ : ∃ a b, cs.toList = [a, b] := by
  match h : cs.toList,hl with
  | [a,b],_ => exact ⟨a,b,rfl⟩
 rw [hab] at f0 f1
 obtain ⟨ts,t1,t2,t3⟩ := J2 f0
 obtain ⟨body,b1,b2,b3⟩ := (Fz n).2 _ _ f1
 refine ⟨⟨ts,body⟩,t1,b1,?_⟩
 simp only [Rd]
 refine ⟨[a,b],by rw [← hab],?_⟩
 simp only [RdL]
 exact ⟨_,_,rfl,t3,t2,_,_,rfl,b3,b2,rfl⟩
end
end Go.Proofs.YtahdccneecdmmaaGreat
