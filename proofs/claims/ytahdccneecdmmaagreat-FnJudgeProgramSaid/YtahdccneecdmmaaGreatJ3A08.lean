/-
 A part of the proofs over this program: rules and contracts of its functions (the rules).
-/
import Derived.Test.YtahdccneecdmmaaGreatJ3A07
import Derived.MapKept
import Derived.Orders
set_option linter.unusedVariables false
set_option linter.unusedSimpArgs false
namespace Go.AL
open Go.RowKit
section
variable {ts : List Int} {pts : List Pnt} {N : Int} {a k : Nat} {s : Mc}
theorem pB {x:Pnt}(h:1 ≤ x.op ∧ x.op ≤ 6):aM x = x.x := by unfold aM;rw [if_pos h]
theorem JT {x:Pnt}(h:7 ≤ x.op):aM x = -1 := by unfold aM;rw [if_neg (by omega)]
theorem Q4 {c:Int}(h:kI c = -1):c = 0:=by
 apply Classical.byContradiction;intro q
 unfold kI at h;rw [if_neg q] at h
 rcases qV c with e|e <;> (rw [e] at h;cases h)
theorem tZ {c:Int}(h:eJ c = -1):False := by rcases qV c with e | e <;> (rw [e] at h;cases h)
theorem uD {x:Pnt}(h:x.op = 4 ∨ x.op = 5 ∨ x.op = 6){v:Nat}(hv:(v:Int) = x.y):aP ts x v ≠ 0:=by
 unfold aP;rw [if_neg (by omega),if_pos h,if_pos hv]; decide
theorem HC {x:Pnt}(h:x.op = 3){v:Nat}(hv:(v:Int) = x.y):aP ts x v ≠ 0:=by
 unfold aP;rw [if_pos h,if_pos hv]; split <;> decide
theorem Pf {x:Pnt}(h:x.op = 3){v:Nat}(hv:(v:Int) = x.y) (ht:ts[v]! = 2 ∨ ts[v]! = 4):aP ts x v = 2:=by
 unfold aP;rw [if_pos h,if_pos hv]
 have e : (v : Int).toNat = v := by omega
 rw [e,if_pos ht]
theorem NM {x:Pnt}(h:x.op = 7){v:Nat}(hv:(v:Int) = x.x):aP ts x v ≠ 0:=by
 unfold aP;rw [if_neg (by omega),if_neg (by omega),if_pos h,if_pos hv]; decide
theorem NX {x:Pnt}(h:x.op = 8){v:Nat}(hv:(v:Int) = x.x):aP ts x v ≠ 0:=by
 unfold aP;rw [if_neg (by omega),if_neg (by omega),if_neg (by omega),if_pos h,if_pos hv]; decide
theorem RfI.loan (w:WG ts pts) (A:WA ts pts) (he:cY pts a k) (B:Bs ts N s) (R:RfI ts (fun v => Nd ts pts (a,v)) (Ln ts pts a) s.slots s.cells) (hC:∀ L,¬ Cf ts pts a L) (hu:cE ts s pts[a]! = false)
  {wr : Bool} (h4 : pts[a]!.op = 4 ∧ wr = false ∨ pts[a]!.op = 5 ∧ wr = true) {sl' : List Sl} {y : Sl} (hs : ∀ v,v < ts.length → sl'[v]! = if aM pts[a]! = (v : Int) then y else if aP ts pts[a]! v = 2 then gP else s.slots[v]!)
  (hk : kV s.cells s.slots[pts[a]!.y.toNat]!.ptr wr = 0) (hy : y.ptr = qI s.cells s.slots[pts[a]!.y.toNat]!.ptr wr) :
  RfI ts (fun v => Nd ts pts (k,v)) (Ln ts pts k) sl' (jT s.cells s.slots[pts[a]!.y.toNat]!.ptr wr) := by
 have ha := he.1
 have hT : ∀ v,v < ts.length → ts[v]! ≤ 4 := fun v hv => (w.ty v hv).2
 have PA := A.a a ha
 have hx := w.x a ha
 have hyb := w.y a ha
 have hyl : pts[a]!.y.toNat < ts.length := by have := hyb.2 (by omega) (by omega);omega
 have hyn : ((pts[a]!.y.toNat : Nat) : Int) = pts[a]!.y := by omega
 have hxn : ((pts[a]!.x.toNat : Nat) : Int) = pts[a]!.x := by omega
 have hst := pB (x := pts[a]!) (by omega)
 have hty : 2 ≤ ts[pts[a]!.y.toNat]! := by
  rcases h4 with ⟨h,_⟩ | ⟨h,_⟩
  ·exact (PA.t4 h).2.2
  ·have := (PA.t5 h).2.2;omega
 have hne : pts[a]!.x ≠ pts[a]!.y := by
  rcases h4 with ⟨h,_⟩ | ⟨h,_⟩
  ·exact (PA.t4 h).2.1
  ·exact (PA.t5 h).2.1
 have huse : aP ts pts[a]! (pts[a]!.y.toNat : Nat) ≠ 0 := uD (by omega) hyn
 obtain ⟨q1,q2,q3,q4,q5⟩ := R.use w B ha hu hyl hty huse
 have hwr : wr = true → ts[pts[a]!.y.toNat]! ≠ 3 := fun e => by
  rcases h4 with ⟨_,h⟩ | ⟨h,_⟩
  ·rw [e] at h;cases h
  ·have := (PA.t5 h).2.2;omega
 have hAc : Ac ts pts a pts[a]!.y.toNat wr := by
  rcases h4 with ⟨h,e⟩ | ⟨h,e⟩
  ·exact .inl ⟨.inl h,hyn.symm,e⟩
  ·exact .inr (.inl ⟨h,hyn.symm,e⟩)
 have htx : ∀ v : Nat, aM pts[a]! = (v : Int) → ts[v]! = 3 ∧ wr = false ∨ ts[v]! = 4 ∧ wr = true ∧ pts[a]!.op = 5 := fun v e => by
  have e' : pts[a]!.x.toNat = v := by rw [← hst,e]; omega
  rcases h4 with ⟨h,e2⟩ | ⟨h,e2⟩
  ·have := (PA.t4 h).1;rw [e'] at this;exact .inl ⟨this,e2⟩
  ·have := (PA.t5 h).1;rw [e'] at this;exact .inr ⟨this,e2,h⟩
 have hnt : ∀ v : Nat, aP ts pts[a]! v ≠ 2 := fun v => by
  unfold aP;rw [if_neg (by omega),if_pos (by omega)]; split <;> decide
 generalize hY : pts[a]!.y.toNat = Y at *
 have h0 := mB hk
 have hx0 := dU h0
 have hcY := B.w.k.m.at hx0.2.2
 obtain ⟨t1,t2,t3⟩ := u6 hcY.d q5
 have R1 := R.tch hT B.w.k.m B.sm (fun v (h : Kp ts pts a v) => h.nd w) hyl hty q1 h0 q5 hwr (rJ hC hAc)
 have R2 := R1.ln hk (fun v h1 h2 h3 => (B.f v h1 h2 h3).2.2.2)
 have hyp : y.ptr = ⟨s.slots[Y]!.ptr.cell,s.cells[s.slots[Y]!.ptr.cell.toNat]!.next⟩ := by rw [hy]; unfold qI;rw [if_pos hk]
 have new : ∀ v : Nat, aM pts[a]! = (v : Int) → v < ts.length → gL sl' v = s.slots[Y]!.ptr.cell.toNat ∧ jB ts sl' v = ⟨s.cells[s.slots[Y]!.ptr.cell.toNat]!.next, wr⟩ := fun v e hv => by
  have e1 := hs v hv
  rw [if_pos e] at e1
  unfold gL jB
  rw [e1,hyp]
  refine ⟨rfl,?_⟩
  rcases htx v e with ⟨h,e2⟩ | ⟨h,e2,_⟩ <;> (rw [h,e2]; rfl)
 have frs : ∀ t ∈ (iV s.cells[s.slots[Y]!.ptr.cell.toNat]! s.slots[Y]!.ptr wr).stk,t.id < s.cells[s.slots[Y]!.ptr.cell.toNat]!.next := fun t ht => (hcY.i t (tchS_sub.subset ht)).2
 have hat := Fm hk s.slots[Y]!.ptr.cell.toNat
 rw [if_pos rfl] at hat
 refine RfI.fin he (B.w.k.m.ln _ _) hs R2 (fun v e hv h3 => ?_) (fun v u e hv hul h3 hut hu1 hu2 hu3 hu4 hce hsub => ?_) (fun v u e hv hul h3 hut hkp hv3 hv4 hce hsub => ?_)
 ·obtain ⟨n1, n2⟩ := new v e hv
  rw [n1,n2,hat]
  exact ⟨q4,List.mem_append_right _ (List.mem_singleton_self _)⟩
 ·obtain ⟨n1, n2⟩ := new v e hv
  rw [n1,n2,hat] at hsub
  have hceu : gL s.slots u = s.slots[Y]!.ptr.cell.toNat := by rw [← n1,hce]; unfold gL;rw [hu4]
  have htu : jB ts sl' u = jB ts s.slots u := by unfold jB;rw [hu4]
  rw [htu] at hsub
  have hsub' : [jB ts s.slots u,⟨s.cells[s.slots[Y]!.ptr.cell.toNat]!.next,wr⟩].Sublist ((iV s.cells[s.slots[Y]!.ptr.cell.toNat]! s.slots[Y]!.ptr wr).stk ++ [⟨s.cells[s.slots[Y]!.ptr.cell.toNat]!.next,wr⟩]) := hsub
  rcases zG hsub' with e2 | ⟨_,hin⟩
  ·have := frs _ (EH e2).2
   dsimp only at this;omega
  ·have huq : (jB ts s.slots u).uq = true := by
    unfold jB;dsimp only
    rcases hut with h|h <;> (rw [h]; rfl)
   have t3' : s.cells[s.slots[Y]!.ptr.cell.toNat]!.stk[(cD s.cells[s.slots[Y]!.ptr.cell.toNat]!.stk s.slots[Y]!.ptr.tag).toNat]! = jB ts s.slots Y := t3
   rcases yU t2 hin (fun _ => huq) with e2|e2
   ·rw [t3] at e2
    have eid : s.slots[u]!.ptr.tag = s.slots[Y]!.ptr.tag := by
     have : (jB ts s.slots u).id = (jB ts s.slots Y).id := by rw [e2]
     exact this
    have hY3 : ts[Y]! ≠ 3 := fun q => by
     rw [e2] at huq
     unfold jB at huq;dsimp only at huq;rw [q] at huq;cases huq
    have hTY := hT Y hyl
    have euY : u = Y := by
     by_cases qY : ts[Y]! = 2
     ·obtain ⟨b1, b2, b3, b4⟩ := B.w.o Y hyl qY q1
      rcases hut with hut|hut
      ·obtain ⟨c1, c2, c3, c4⟩ := B.w.o u hul hut hu3
       exact B.w.d u Y hul hyl hut qY hu3 q1 (by unfold gL at hceu;omega)
      ·have := (B.f u hul (by omega) hu3).2.2.1;omega
     ·have hY4 : ts[Y]! = 4 := by omega
      rcases hut with hut|hut
      ·obtain ⟨c1, c2, c3, c4⟩ := B.w.o u hul hut hu3
       have := (B.f Y hyl (by omega) q1).2.2.1;omega
      ·exact B.d u Y hul hyl hut hY4 hu3 q1 hceu eid
    subst euY
    have hln : bW pts[a]! = true := by unfold bW;rcases h4 with ⟨h,_⟩ | ⟨h,_⟩ <;> (rw [h]; rfl)
    refine ⟨a,.base ⟨he,hln,e⟩,.base ⟨he,hln⟩,hyn.symm,fun h => ?_⟩
    rcases htx v e with ⟨h5,_⟩ | ⟨_,_,h5⟩
    ·omega
    ·exact h5
   ·rw [t3] at e2
    have hY2 : ts[Y]! ≠ 2 := fun q => by
     obtain ⟨b1,b2,b3,b4⟩ := B.w.o Y hyl q q1
     have e0 := B.w.h _ hx0.2.2
     refine MR hcY.d (by have := hcY.l;omega) e2 ?_
     rw [e0]; unfold jB;rw [b3,q]; rfl
    obtain ⟨L,l1,l2,l3,l4⟩ := R.c Y u hyl hul (by omega) hut q1 hu3 (.base ⟨ha,hyl,huse⟩) hceu.symm e2
    have hTY := hT Y hyl
    refine ⟨L,.step l1 ⟨rfl,he,.inr ⟨e,hyn,.inl ⟨?_,?_⟩⟩⟩,.step l2 ⟨rfl,he,?_,?_⟩,l3,fun h => ?_⟩
    ·unfold bW;rcases h4 with ⟨h,_⟩ | ⟨h,_⟩ <;> (rw [h]; rfl)
    ·show eF ts[Y]! = true
     unfold eF;rw [Bool.or_eq_true,decide_eq_true_eq,decide_eq_true_eq]; omega
    ·rw [l3]; exact hu2
    ·rw [l3]; exact hu1
    ·refine l4 ?_
     rcases htx v e with ⟨h5,_⟩ | ⟨_,h5,_⟩
     ·omega
     ·have := hwr h5;omega
 ·obtain ⟨n1, n2⟩ := new u e hul
  rw [hce,n1,n2,hat] at hsub
  have hsub' : [⟨s.cells[s.slots[Y]!.ptr.cell.toNat]!.next,wr⟩,jB ts sl' v].Sublist ((iV s.cells[s.slots[Y]!.ptr.cell.toNat]! s.slots[Y]!.ptr wr).stk ++ [⟨s.cells[s.slots[Y]!.ptr.cell.toNat]!.next,wr⟩]) := hsub
  rcases zG hsub' with e2 | ⟨_,hin⟩
  ·have := frs _ (EH e2).1
   dsimp only at this;omega
  ·have := frs _ hin
   dsimp only at this;omega
end
section
variable {ts : List Int} {pts : List Pnt} {N : Int} {a k : Nat} {s : Mc}
def yF (s : Mc) (x : Pnt) : Sl :=
 if x.op = 1 then ⟨true,x.n,⟨0,0⟩⟩ else if x.op = 2 then ⟨true,0,⟨s.cells.length,0⟩⟩ else if x.op = 3 then s.slots[x.y.toNat]!
 else if x.op = 4 ∨ x.op = 5 then ⟨true,0,qI s.cells s.slots[x.y.toNat]!.ptr (decide (x.op = 5))⟩ else ⟨true,oN s.cells s.slots[x.y.toNat]!.ptr,⟨0,0⟩⟩
theorem WG.doY (w:WG ts pts) (A:WA ts pts){a:Nat}(ha:a < pts.length){s:Mc}(hl:s.slots.length = ts.length) (hu:cE ts s pts[a]! = false) (h11:pts[a]!.op ≠ 11) (hgo:(bT ts s pts[a]!).2 = -1) :
  ∀ v,v < ts.length → (bT ts s pts[a]!).1.slots[v]! = if aM pts[a]! = (v : Int) then yF s pts[a]! else if aP ts pts[a]! v = 2 then gP else s.slots[v]! := by
 obtain ⟨y,hy,hs⟩ := w.doS A ha hl hu h11 hgo
 have hx := w.x a ha
 have hxb := hx.2
 intro v hv
 by_cases q : aM pts[a]! = (v : Int)
 ·rw [if_pos q]
  have hop : 1 ≤ pts[a]!.op ∧ pts[a]!.op ≤ 6 := by
   apply Classical.byContradiction;intro h
   unfold aM at q;rw [if_neg h] at q;omega
  rw [pB hop] at q
  have hxv : pts[a]!.x.toNat = v := by omega
  have hh := hgo
  unfold bT at hh ⊢
  unfold yF
  by_cases h1 : pts[a]!.op = 1
  ·rw [if_pos h1,if_pos h1,eR,hxv,aQ,if_pos ⟨rfl,by omega⟩]
  rw [if_neg h1] at hh ⊢
  rw [if_neg h1]
  by_cases h2 : pts[a]!.op = 2
  ·rw [if_pos h2] at hh ⊢
   rw [if_pos h2]
   split at hh
   ·cases hh
   ·rename_i h200
    rw [if_neg h200,eR,hxv,aQ,if_pos ⟨rfl,by dsimp only;omega⟩]
  rw [if_neg h2] at hh ⊢
  rw [if_neg h2]
  by_cases h3 : pts[a]!.op = 3
  ·rw [if_pos h3, if_pos h3, eR, hxv, aQ, if_pos]
   refine ⟨rfl,?_⟩
   split
   ·dsimp only;rw [List.length_set]; omega
   ·omega
  rw [if_neg h3] at hh ⊢
  rw [if_neg h3]
  by_cases h4 : pts[a]!.op = 4 ∨ pts[a]!.op = 5
  ·rw [if_pos h4] at hh ⊢
   rw [if_pos h4]
   split at hh
   ·rename_i hz
    rw [if_pos hz,eR,hxv,aQ,if_pos ⟨rfl,by dsimp only;omega⟩]
   ·exact (tZ hh).elim
  rw [if_neg h4] at hh ⊢
  rw [if_neg h4]
  have h6 : pts[a]!.op = 6 := by omega
  rw [if_pos h6] at hh ⊢
  split at hh
  ·rename_i hz
   rw [if_pos hz,eR,hxv,aQ,if_pos ⟨rfl,by dsimp only;omega⟩]
  ·exact (tZ hh).elim
 ·rw [hs v hv,if_neg q,if_neg q]
theorem N2 {x:Pnt}(PA:PtA ts x) (h:x.op = 1):(bT ts s x).1.cells = s.cells:=by
 unfold bT;rw [if_pos h,pR,if_neg (fun q => by rw [PA.t1 h] at q;exact absurd q.1 (by decide))]
theorem NK {x:Pnt}(h:x.op = 2) (hgo:(bT ts s x).2 = -1):(bT ts s x).1.cells = if ts[x.x.toNat]! = 2 ∧ s.slots[x.x.toNat]!.set = true then g8 (s.cells ++ [oT x.n]) s.slots[x.x.toNat]!.ptr else s.cells ++ [oT x.n]:=by
 unfold bT at hgo ⊢
 rw [if_neg (by omega),if_pos h] at hgo ⊢
 split at hgo
 ·cases hgo
 ·rename_i h200
  rw [if_neg h200,pR]
theorem NV {x:Pnt}(h:x.op = 3) (hne:x.x.toNat ≠ x.y.toNat):(bT ts s x).1.cells = if ts[x.x.toNat]! = 2 ∧ s.slots[x.x.toNat]!.set = true then g8 s.cells s.slots[x.x.toNat]!.ptr else s.cells:=by
 unfold bT
 rw [if_neg (by omega),if_neg (by omega),if_pos h,pR]
 split
 ·have e : (s.slots.set x.y.toNat gP)[x.x.toNat]! = s.slots[x.x.toNat]! := by rw [aQ, if_neg (fun q => hne q.1.symm)]
  dsimp only;rw [e]
 ·rfl
theorem Ih {x:Pnt}(PA:PtA ts x) (h:x.op = 4 ∨ x.op = 5) (hgo:(bT ts s x).2 = -1):kV s.cells s.slots[x.y.toNat]!.ptr (decide (x.op = 5)) = 0 ∧ (bT ts s x).1.cells = jT s.cells s.slots[x.y.toNat]!.ptr (decide (x.op = 5)):=by
 have hxt : ts[x.x.toNat]! ≠ 2 := by
  rcases h with h4|h4
  ·rw [(PA.t4 h4).1]; decide
  ·rw [(PA.t5 h4).1]; decide
 unfold bT at hgo ⊢
 rw [if_neg (by omega),if_neg (by omega),if_neg (by omega),if_pos h] at hgo ⊢
 split at hgo
 ·rename_i hz
  rw [if_pos hz,pR,if_neg (fun q => hxt q.1)]
  exact ⟨hz,rfl⟩
 ·exact (tZ hgo).elim
theorem JG {x:Pnt}(PA:PtA ts x) (h:x.op = 6) (hgo:(bT ts s x).2 = -1):a7 s.cells s.slots[x.y.toNat]!.ptr false = 0 ∧ (bT ts s x).1.cells = cV s.cells s.slots[x.y.toNat]!.ptr false:=by
 have hxt : ts[x.x.toNat]! ≠ 2 := by rw [(PA.t6 h).1]; decide
 unfold bT at hgo ⊢
 rw [if_neg (by omega),if_neg (by omega),if_neg (by omega),if_neg (by omega),if_pos h] at hgo ⊢
 split at hgo
 ·rename_i hz
  rw [if_pos hz,pR,if_neg (fun q => hxt q.1)]
  exact ⟨hz,rfl⟩
 ·exact (tZ hgo).elim
theorem NL {x:Pnt}(h:x.op = 7) (hgo:(bT ts s x).2 = -1):qU s.cells s.slots[x.x.toNat]!.ptr s.slots[x.y.toNat]!.num = 0 ∧ (bT ts s x).1.cells = oQ s.cells s.slots[x.x.toNat]!.ptr s.slots[x.y.toNat]!.num:=by
 unfold bT at hgo ⊢
 rw [if_neg (by omega),if_neg (by omega),if_neg (by omega),if_neg (by omega),if_neg (by omega),if_pos h] at hgo ⊢
 exact ⟨Q4 hgo,rfl⟩
theorem NZ {x:Pnt}(h:x.op = 8) (hgo:(bT ts s x).2 = -1):a7 s.cells s.slots[x.x.toNat]!.ptr true = 0 ∧ (bT ts s x).1.cells = g8 s.cells s.slots[x.x.toNat]!.ptr:=by
 unfold bT at hgo ⊢
 rw [if_neg (by omega),if_neg (by omega),if_neg (by omega),if_neg (by omega),if_neg (by omega),if_neg (by omega),if_pos h] at hgo ⊢
 exact ⟨Q4 hgo,rfl⟩
theorem I5 {x:Pnt}(h:9 ≤ x.op) (h11:x.op ≠ 11):bT ts s x = (s,-1):=by
 unfold bT
 rw [if_neg (by omega),if_neg (by omega),if_neg (by omega),if_neg (by omega),if_neg (by omega),if_neg (by omega),if_neg (by omega),if_neg h11]
theorem RfI.step (w:WG ts pts) (A:WA ts pts) (he:cY pts a k) (h11:pts[a]!.op ≠ 11) (B:Bs ts N s) (V:Vs ts pts a s) (R:RfI ts (fun v => Nd ts pts (a,v)) (Ln ts pts a) s.slots s.cells) (hC:∀ L,¬ Cf ts pts a L) (hu:cE ts s pts[a]! = false) (hgo:(bT ts s pts[a]!).2 = -1) :
  RfI ts (fun v => Nd ts pts (k,v)) (Ln ts pts k) (bT ts s pts[a]!).1.slots (bT ts s pts[a]!).1.cells := by
 have ha := he.1
 have hT : ∀ v,v < ts.length → ts[v]! ≤ 4 := fun v hv => (w.ty v hv).2
 have PA := A.a a ha
 have hx := w.x a ha
 have hyb := w.y a ha
 have hop := w.op a ha
 have hs := w.doY A ha B.w.k.l hu h11 hgo
 have hmm : OkM (bT ts s pts[a]!).1.cells := (B.w.do PA h11 (fun h => ⟨hx.1,hx.2 h⟩) hop.1 (fun h1 h2 => ⟨hyb.1,hyb.2 h1 h2⟩) hu).k.m
 have hP : ∀ v,Kp ts pts a v → Nd ts pts (a,v) := fun v h => h.nd w
 have R0 : RfI ts (Kp ts pts a) (Ln ts pts a) s.slots s.cells := R.mono hP
 have hxn : ((pts[a]!.x.toNat : Nat) : Int) = pts[a]!.x := by omega
 have hyn : ((pts[a]!.y.toNat : Nat) : Int) = pts[a]!.y := by omega
 have hno : 7 ≤ pts[a]!.op → ∀ v : Nat,aM pts[a]! = (v : Int) → v < ts.length → ts[v]! = 1 := fun h v e => by rw [JT h] at e;omega
 by_cases h1 : pts[a]!.op = 1
 ·rw [N2 PA h1] at hmm ⊢
  refine RfI.fin1 he hmm hs R0 fun v q hv => ?_
  rw [pB (by omega)] at q
  rw [show v = pts[a]!.x.toNat by omega]; exact PA.t1 h1
 by_cases h2 : pts[a]!.op = 2
 ·have hxl : pts[a]!.x.toNat < ts.length := by have := hx.2 (by omega); omega
  have e2 := PA.t2 (.inl h2)
  have hset : aM pts[a]! = ((pts[a]!.x.toNat : Nat) : Int) := by rw [pB (by omega)]; omega
  have hv2 : ∀ v : Nat,aM pts[a]! = (v : Int) → v = pts[a]!.x.toNat := fun v e => by omega
  have R1 := R0.nw (fun v q1 q2 q3 => by have := B.f v q1 q2 q3;unfold gL;omega) (oT pts[a]!.n)
  have h200 : s.cells.length ≠ 200 := fun q => by
   unfold bT at hgo;rw [if_neg h1,if_pos h2,if_pos q] at hgo;cases hgo
  have hm1 := B.w.k.m.nw (PA.n (.inr h2)) (by have := B.w.k.m.l;omega)
  have R2 := R1.put V B hm1 (B.w.h.nw _) (by rw [List.length_append]; omega) (fun c hc => by rw [oS hc]) hC hxl hset
  rw [NK h2 hgo] at hmm ⊢
  refine RfI.fin he hmm hs R2 (fun v e hv h3 => ?_) (fun v u e hv hul h3 => ?_) (fun v u e hv hul h3 hut hkp hv3 hv4 hce => ?_)
  ·rw [hv2 v e] at h3;omega
  ·rw [hv2 v e] at h3;omega
  ·exfalso
   have e1 := hs u hul
   rw [if_pos e] at e1
   have e3 : yF s pts[a]! = ⟨true,0,⟨s.cells.length,0⟩⟩ := by unfold yF;rw [if_neg h1,if_pos h2]
   have := B.f v hv h3 hv3
   unfold gL at hce
   rw [hv4,e1,e3] at hce
   dsimp only at hce;omega
 by_cases h3 : pts[a]!.op = 3
 ·have hxl : pts[a]!.x.toNat < ts.length := by have := hx.2 (by omega); omega
  have hyl : pts[a]!.y.toNat < ts.length := by have := hyb.2 (by omega) (by omega);omega
  obtain ⟨et,hne⟩ := PA.t3 h3
  have hset : aM pts[a]! = ((pts[a]!.x.toNat : Nat) : Int) := by rw [pB (by omega)]; omega
  have hv2 : ∀ v : Nat,aM pts[a]! = (v : Int) → v = pts[a]!.x.toNat := fun v e => by omega
  have huse : aP ts pts[a]! (pts[a]!.y.toNat : Nat) ≠ 0 := HC h3 hyn
  have R2 := R0.put V B B.w.k.m B.w.h (Nat.le_refl _) (fun _ _ => rfl) hC hxl hset
  have ey : yF s pts[a]! = s.slots[pts[a]!.y.toNat]! := by unfold yF;rw [if_neg h1,if_neg h2,if_pos h3]
  have new : ∀ v : Nat, aM pts[a]! = (v : Int) → v < ts.length → gL (bT ts s pts[a]!).1.slots v = gL s.slots pts[a]!.y.toNat ∧ jB ts (bT ts s pts[a]!).1.slots v = jB ts s.slots pts[a]!.y.toNat := fun v e hv => by
   have e1 := hs v hv
   rw [if_pos e,ey] at e1
   unfold gL jB
   rw [e1,hv2 v e,et]
   exact ⟨rfl,rfl⟩
  have ec := NV (ts := ts) (s := s) h3 (fun q => hne (by omega))
  rw [ec] at hmm ⊢
  refine RfI.fin he hmm hs R2 (fun v e hv h4 => ?_) (fun v u e hv hul h4 hut hu1 hu2 hu3 hu4 hce hsub => ?_) (fun v u e hv hul h4 hut hkp hv3 hv4 hce hsub => ?_)
  ·obtain ⟨n1, n2⟩ := new v e hv
   rw [hv2 v e] at h4
   rw [n1,n2,if_neg (fun q => by omega)]
   obtain ⟨u1,u2,u3,u4,u5⟩ := R.use w B ha hu hyl (by omega) huse
   exact ⟨u4,u5⟩
  ·obtain ⟨n1, n2⟩ := new v e hv
   have h4' := h4
   rw [hv2 v e] at h4'
   obtain ⟨u1,u2,u3,u4,u5⟩ := R.use w B ha hu hyl (by omega) huse
   rw [if_neg (fun q => by omega),n1,n2] at hsub
   have htu : jB ts (bT ts s pts[a]!).1.slots u = jB ts s.slots u := by unfold jB;rw [hu4]
   have hcu : gL (bT ts s pts[a]!).1.slots u = gL s.slots u := by unfold gL;rw [hu4]
   rw [htu] at hsub
   obtain ⟨L,l1,l2,l3,l4⟩ := R.c pts[a]!.y.toNat u hyl hul (by omega) hut u1 hu3 (.base ⟨ha,hyl,huse⟩) (by rw [← n1,← hcu]; exact hce) hsub
   refine ⟨L,.step l1 ⟨rfl,he,.inr ⟨e,hyn,.inr h3⟩⟩,.step l2 ⟨rfl,he,?_,?_⟩,l3,fun h => l4 ?_⟩
   ·rw [l3]; exact hu2
   ·rw [l3]; exact hu1
   ·rw [hv2 v e] at h;omega
  ·obtain ⟨n1, n2⟩ := new u e hul
   have hut' := hut
   rw [hv2 u e] at hut'
   have htv : jB ts (bT ts s pts[a]!).1.slots v = jB ts s.slots v := by unfold jB;rw [hv4]
   have hcv : gL (bT ts s pts[a]!).1.slots v = gL s.slots v := by unfold gL;rw [hv4]
   rw [n2,htv,hcv] at hsub
   have hset' := iI hu hyl huse
   have hl := R2.c v pts[a]!.y.toNat hv hyl h4 (by omega) hv3 hset' hkp (by rw [← hcv,← n1]; exact hce) hsub
   exact rJ hC (.inr (.inr (.inr (.inl ⟨h3,w7.2 (by omega),hyn.symm,rfl⟩)))) v hkp hl (.inl rfl)
 by_cases h4 : pts[a]!.op = 4 ∨ pts[a]!.op = 5
 ·obtain ⟨hk, ec⟩ := Ih PA h4 hgo
  rw [ec]
  refine RfI.loan w A he B R hC hu ?_ hs hk ?_
  ·rcases h4 with h | h
   ·exact .inl ⟨h,by rw [h]; rfl⟩
   ·exact .inr ⟨h,by rw [h]; rfl⟩
  ·unfold yF;rw [if_neg h1,if_neg h2,if_neg h3,if_pos h4]
 by_cases h6 : pts[a]!.op = 6
 ·obtain ⟨hk, ec⟩ := JG PA h6 hgo
  have hyl : pts[a]!.y.toNat < ts.length := by have := hyb.2 (by omega) (by omega);omega
  have huse : aP ts pts[a]! (pts[a]!.y.toNat : Nat) ≠ 0 := uD (by omega) hyn
  have hty := (PA.t6 h6).2
  obtain ⟨u1,u2,u3,u4,u5⟩ := R.use w B ha hu hyl hty huse
  rw [ec] at hmm ⊢
  refine RfI.fin1 he hmm hs (R.tch hT B.w.k.m B.sm hP hyl hty u1 hk u5 (fun q => by cases q) (rJ hC (.inl ⟨.inr h6,hyn.symm,rfl⟩))) fun v q hv => ?_
  rw [pB (by omega)] at q
  rw [show v = pts[a]!.x.toNat by omega]; exact (PA.t6 h6).1
 by_cases h7 : pts[a]!.op = 7
 ·obtain ⟨hk, ec⟩ := NL h7 hgo
  have hxl : pts[a]!.x.toNat < ts.length := by have := hx.2 (by omega);omega
  have huse : aP ts pts[a]! (pts[a]!.x.toNat : Nat) ≠ 0 := NM h7 hxn
  have hty := (PA.t7 h7).1
  obtain ⟨u1,u2,u3,u4,u5⟩ := R.use w B ha hu hxl (by omega) huse
  rw [ec] at hmm ⊢
  refine RfI.fin1 he hmm hs ((R.tch hT B.w.k.m B.sm hP hxl (by omega) u1 (IB hk) u5 (fun _ => by omega) (rJ hC (.inr (.inr (.inl ⟨.inl h7,hxn.symm,rfl⟩))))).cong (Rv hk)) (hno (by omega))
 by_cases h8 : pts[a]!.op = 8
 ·obtain ⟨hk, ec⟩ := NZ h8 hgo
  have hxl : pts[a]!.x.toNat < ts.length := by have := hx.2 (by omega);omega
  have huse : aP ts pts[a]! (pts[a]!.x.toNat : Nat) ≠ 0 := NX h8 hxn
  have hset := iI hu hxl huse
  have hty := PA.t2 (.inr h8)
  rw [ec] at hmm ⊢
  refine RfI.fin1 he hmm hs (R.fr B.w.h hP (fun v q1 q2 q3 => (B.f v q1 q2 q3).2.2.1) hxl hty hset hk (B.w.o _ hxl hty hset).2.2.1 fun v hv hg => ?_) (hno (by omega))
  exact rJ hC (.inr (.inr (.inl ⟨.inr h8,hxn.symm,rfl⟩))) v hv hg (.inl rfl)
 ·have e := I5 (ts := ts) (s := s) (x := pts[a]!) (by omega) h11
  rw [e] at hmm hs ⊢
  exact RfI.fin1 he hmm hs R0 (hno (by omega))
end
structure Mo (m m' : List Cl) : Prop where
 l : m.length ≤ m'.length
 n : ∀ c,c < m.length → m[c]!.next ≤ m'[c]!.next
theorem Mo.refl (m:List Cl):Mo m m := ⟨Nat.le_refl _,fun _ _ => Int.le_refl _⟩
theorem Mo.trans {a b c:List Cl}(h:Mo a b) (h':Mo b c):Mo a c := ⟨Nat.le_trans h.l h'.l,fun i hi => Int.le_trans (h.n i hi) (h'.n i (Nat.lt_of_lt_of_le hi h.l))⟩
theorem Mo.set {m:List Cl}{k:Nat}{c:Cl}(h:m[k]!.next ≤ c.next):Mo m (m.set k c):=by
 refine ⟨by rw [List.length_set]; exact Nat.le_refl _,fun i hi => ?_⟩
 rw [aQ]
 split
 ·rename_i q;rw [← q.1]; exact h
 ·exact Int.le_refl _
theorem Mo.app (m:List Cl) (z:Cl):Mo m (m ++ [z]) := ⟨by rw [List.length_append]; omega,fun i hi => by rw [oS hi]; exact Int.le_refl _⟩
theorem Mo.tch (m:List Cl) (x:Pt) (wr:Bool):Mo m (cV m x wr):=by
 unfold cV;split
 ·exact Mo.set (Int.le_refl _)
 ·exact Mo.refl _
theorem Mo.fr (m:List Cl) (x:Pt):Mo m (g8 m x):=by
 unfold g8;split
 ·exact Mo.set (Int.le_refl _)
 ·exact Mo.refl _
theorem Mo.wr (m:List Cl) (x:Pt) (v:Int):Mo m (oQ m x v):=by
 unfold oQ;split
 ·exact Mo.set (Int.le_refl _)
 ·exact Mo.refl _
theorem Mo.ln (m:List Cl) (x:Pt) (u:Bool):Mo m (jT m x u):=by
 unfold jT;split
 ·refine Mo.set ?_
  show m[x.cell.toNat]!.next ≤ m[x.cell.toNat]!.next + 1
  omega
 ·exact Mo.refl _
section
variable {ts : List Int} {pts : List Pnt} {N : Int} {a k : Nat} {s : Mc}
theorem Q5 (w:WG ts pts) (A:WA ts pts) (ha:a < pts.length) (h11:pts[a]!.op ≠ 11) (hN:1 ≤ N) (h:ShM N s.cells) (hgo:(bT ts s pts[a]!).2 = -1):ShM (N + 1) (bT ts s pts[a]!).1.cells ∧ Mo s.cells (bT ts s pts[a]!).1.cells:=by
 have PA := A.a a ha
 have hop := w.op a ha
 by_cases h1 : pts[a]!.op = 1
 ·rw [N2 PA h1]; exact ⟨h.mono (by omega),Mo.refl _⟩
 by_cases h2 : pts[a]!.op = 2
 ·have h' := h.nw hN pts[a]!.n
  rw [NK h2 hgo]
  split
  ·exact ⟨(h'.fr _).mono (by omega),(Mo.app _ _).trans (Mo.fr _ _)⟩
  ·exact ⟨h'.mono (by omega),Mo.app _ _⟩
 by_cases h3 : pts[a]!.op = 3
 ·have hx := w.x a ha
  have hyb := w.y a ha
  have hne := (PA.t3 h3).2
  rw [NV h3 (fun q => hne (by omega))]
  split
  ·exact ⟨(h.fr _).mono (by omega),Mo.fr _ _⟩
  ·exact ⟨h.mono (by omega),Mo.refl _⟩
 by_cases h4 : pts[a]!.op = 4 ∨ pts[a]!.op = 5
 ·rw [(Ih PA h4 hgo).2]; exact ⟨h.ln _ _,Mo.ln _ _ _⟩
 by_cases h6 : pts[a]!.op = 6
 ·rw [(JG PA h6 hgo).2]; exact ⟨(h.tch _ _).mono (by omega),Mo.tch _ _ _⟩
 by_cases h7 : pts[a]!.op = 7
 ·rw [(NL h7 hgo).2]; exact ⟨(h.wr _ _).mono (by omega),Mo.wr _ _ _⟩
 by_cases h8 : pts[a]!.op = 8
 ·rw [(NZ h8 hgo).2]; exact ⟨(h.fr _).mono (by omega),Mo.fr _ _⟩
 ·rw [I5 (by omega) h11]; exact ⟨h.mono (by omega),Mo.refl _⟩
theorem Bs.step (w:WG ts pts) (A:WA ts pts) (ha:a < pts.length) (h11:pts[a]!.op ≠ 11) (hN:1 ≤ N) (B:Bs ts N s) (hu:cE ts s pts[a]! = false) (hgo:(bT ts s pts[a]!).2 = -1):Bs ts (N + 1) (bT ts s pts[a]!).1:=by
 have PA := A.a a ha
 have hx := w.x a ha
 have hyb := w.y a ha
 have hop := w.op a ha
 have hs := w.doY A ha B.w.k.l hu h11 hgo
 obtain ⟨g1,g2⟩ := Q5 w A ha h11 hN B.sm hgo
 have hxn : ((pts[a]!.x.toNat : Nat) : Int) = pts[a]!.x := by omega
 have hyn : ((pts[a]!.y.toNat : Nat) : Int) = pts[a]!.y := by omega
 have hv2 : ∀ v : Nat, aM pts[a]! = (v : Int) → (1 ≤ pts[a]!.op ∧ pts[a]!.op ≤ 6) ∧ v = pts[a]!.x.toNat := fun v e => by
  by_cases q : 7 ≤ pts[a]!.op
  ·rw [JT q] at e;omega
  ·rw [pB (by omega)] at e;omega
 have old : ∀ v, v < ts.length → (bT ts s pts[a]!).1.slots[v]!.set = true → aM pts[a]! ≠ (v : Int) → aP ts pts[a]! v ≠ 2 ∧ (bT ts s pts[a]!).1.slots[v]! = s.slots[v]! := fun v hv h1 h2 => by
  have e := hs v hv
  rw [if_neg h2] at e
  by_cases q : aP ts pts[a]! v = 2
  ·rw [if_pos q] at e;rw [e] at h1;cases h1
  ·rw [if_neg q] at e;exact ⟨q,e⟩
 have oldf : ∀ v, v < ts.length → 3 ≤ ts[v]! → s.slots[v]!.set = true → 0 ≤ s.slots[v]!.ptr.cell ∧ s.slots[v]!.ptr.cell < (bT ts s pts[a]!).1.cells.length ∧ 1 ≤ s.slots[v]!.ptr.tag ∧ s.slots[v]!.ptr.tag < (bT ts s pts[a]!).1.cells[gL s.slots v]!.next := fun v h1 h2 h3 => by
  obtain ⟨f1,f2,f3,f4⟩ := B.f v h1 h2 h3
  have := g2.l
  have h5 := g2.n (gL s.slots v) (by unfold gL;omega)
  exact ⟨f1,by omega,f3,by omega⟩
 -- a new reference
 have newf : ∀ v : Nat, aM pts[a]! = (v : Int) → v < ts.length → 3 ≤ ts[v]! → (pts[a]!.op = 3 ∧ yF s pts[a]! = s.slots[pts[a]!.y.toNat]! ∧ pts[a]!.y.toNat < ts.length ∧ ts[pts[a]!.y.toNat]! = ts[v]! ∧ s.slots[pts[a]!.y.toNat]!.set = true) ∨
   (∃ c : Nat,c < s.cells.length ∧ (yF s pts[a]!).ptr = ⟨(c : Int),s.cells[c]!.next⟩ ∧ s.cells[c]!.next + 1 ≤ (bT ts s pts[a]!).1.cells[c]!.next) := fun v e hv h3 => by
  obtain ⟨o1,o2⟩ := hv2 v e
  by_cases h1 : pts[a]!.op = 1
  ·have := PA.t1 h1;rw [← o2] at this;omega
  by_cases h2 : pts[a]!.op = 2
  ·have := PA.t2 (.inl h2);rw [← o2] at this;omega
  by_cases h3' : pts[a]!.op = 3
  ·have hyl : pts[a]!.y.toNat < ts.length := by have := hyb.2 (by omega) (by omega); omega
   refine .inl ⟨h3',by unfold yF;rw [if_neg h1,if_neg h2,if_pos h3'],hyl,?_,iI hu hyl (HC h3' hyn)⟩
   rw [o2]; exact (PA.t3 h3').1.symm
  by_cases h4 : pts[a]!.op = 4 ∨ pts[a]!.op = 5
  ·obtain ⟨hk, ec⟩ := Ih PA h4 hgo
   have hx0 := dU (mB hk)
   refine .inr ⟨s.slots[pts[a]!.y.toNat]!.ptr.cell.toNat,hx0.2.2,?_,?_⟩
   ·unfold yF; rw [if_neg h1, if_neg h2, if_neg h3', if_pos h4]
    dsimp only
    unfold qI;rw [if_pos hk,Int.toNat_of_nonneg hx0.1]
   ·rw [ec, Fm hk, if_pos rfl]
    show _ ≤ (iV _ _ _).next + 1
    exact Int.le_refl _
  ·have h6 : pts[a]!.op = 6 := by omega
   have := (PA.t6 h6).1;rw [← o2] at this;omega
 refine ⟨B.w.do PA h11 (fun h => ⟨hx.1,hx.2 h⟩) hop.1 (fun h1 h2 => ⟨hyb.1,hyb.2 h1 h2⟩) hu,fun v hv ht => ?_,g1,fun v hv h3 hset => ?_,fun v u hv hul h4 h4' hset hset' hce htg => ?_⟩
 ·rw [hs v hv]
  by_cases q : aM pts[a]! = (v : Int)
  ·rw [if_pos q]
   obtain ⟨o1,o2⟩ := hv2 v q
   unfold yF
   by_cases h1 : pts[a]!.op = 1
   ·rw [if_pos h1]; exact PA.n (.inl h1)
   rw [if_neg h1]
   by_cases h2 : pts[a]!.op = 2
   ·have := PA.t2 (.inl h2);rw [← o2] at this;omega
   rw [if_neg h2]
   by_cases h3 : pts[a]!.op = 3
   ·rw [if_pos h3]
    have hyl : pts[a]!.y.toNat < ts.length := by have := hyb.2 (by omega) (by omega);omega
    have := (PA.t3 h3).1
    rw [← o2,ht] at this
    exact B.i _ hyl this.symm
   rw [if_neg h3]
   by_cases h4 : pts[a]!.op = 4 ∨ pts[a]!.op = 5
   ·rcases h4 with h | h
    ·have := (PA.t4 h).1;rw [← o2] at this;omega
    ·have := (PA.t5 h).1;rw [← o2] at this;omega
   rw [if_neg h4]
   have h6 : pts[a]!.op = 6 := by omega
   have hk := (JG PA h6 hgo).1
   dsimp only
   unfold oN;rw [if_pos hk]
   exact (B.w.k.m.at (dU hk).2.2).v
  ·rw [if_neg q]
   split
   ·exact ⟨by decide,by decide⟩
   ·exact B.i v hv ht
 ·by_cases q : aM pts[a]! = (v : Int)
  ·have e := hs v hv
   rw [if_pos q] at e
   unfold gL
   rw [e]
   rcases newf v q hv h3 with ⟨n1,n2,n3,n4,n5⟩ | ⟨c,n1,n2,n3⟩
   ·rw [n2]; exact oldf _ n3 (by omega) n5
   ·rw [n2]
    have := g2.l
    have h5 := (B.w.k.m.at n1).n
    exact ⟨by dsimp only;omega,by dsimp only;omega,h5.1,by show s.cells[c]!.next < (bT ts s pts[a]!).1.cells[c]!.next;omega⟩
  ·obtain ⟨_, e⟩ := old v hv hset q
   unfold gL
   rw [e] at hset ⊢
   exact oldf v hv h3 hset
 ·have fresh : ∀ (v u : Nat), aM pts[a]! = (v : Int) → v < ts.length → u < ts.length → ts[v]! = 4 → ts[u]! = 4 → aM pts[a]! ≠ (u : Int) → (bT ts s pts[a]!).1.slots[u]!.set = true →
    gL (bT ts s pts[a]!).1.slots v = gL (bT ts s pts[a]!).1.slots u → (bT ts s pts[a]!).1.slots[v]!.ptr.tag = (bT ts s pts[a]!).1.slots[u]!.ptr.tag → False := fun v u e hv hul h4 h4' ne hset hce htg => by
   have e1 := hs v hv
   rw [if_pos e] at e1
   obtain ⟨n0,e2⟩ := old u hul hset ne
   unfold gL at hce
   rw [e1,e2] at hce htg
   rw [e2] at hset
   rcases newf v e hv (by omega) with ⟨n1,n2,n3,n4,n5⟩ | ⟨c,n1,n2,n3⟩
   ·rw [n2] at hce htg
    have := B.d _ u n3 hul (by omega) h4' n5 hset hce htg
    rw [← this] at n0
    exact n0 (Pf n1 hyn (.inr (by omega)))
   ·rw [n2] at hce htg
    have f := (B.f u hul (by omega) hset)
    dsimp only at hce htg
    have e3 : gL s.slots u = c := by unfold gL;omega
    rw [e3] at f
    omega
  by_cases q : aM pts[a]! = (v : Int)
  ·by_cases q' : aM pts[a]! = (u : Int)
   ·omega
   ·exact (fresh v u q hv hul h4 h4' q' hset' hce htg).elim
  ·by_cases q' : aM pts[a]! = (u : Int)
   ·exact (fresh u v q' hul hv h4' h4 q hset hce.symm htg.symm).elim
   ·obtain ⟨_, e⟩ := old v hv hset q
    obtain ⟨_,e'⟩ := old u hul hset' q'
    unfold gL at hce
    rw [e] at hset hce htg
    rw [e'] at hset' hce htg
    exact B.d v u hv hul h4 h4' hset hset' hce htg
theorem MO (w:WG ts pts) (A:WA ts pts) (ha:a < pts.length) (h11:pts[a]!.op ≠ 11) (hN:N ≤ 198) (B:Bs ts N s) (R:RfI ts (fun v => Nd ts pts (a,v)) (Ln ts pts a) s.slots s.cells) (hu:cE ts s pts[a]! = false):(bT ts s pts[a]!).2 = -1 ∨ (bT ts s pts[a]!).2 = 1:=by
 have PA := A.a a ha
 have hx := w.x a ha
 have hyb := w.y a ha
 have hop := w.op a ha
 have hxn : ((pts[a]!.x.toNat : Nat) : Int) = pts[a]!.x := by omega
 have hyn : ((pts[a]!.y.toNat : Nat) : Int) = pts[a]!.y := by omega
 by_cases h9 : 9 ≤ pts[a]!.op
 ·rw [I5 h9 h11]; exact .inl rfl
 have hxl : pts[a]!.x.toNat < ts.length := by have := hx.2 (by omega);omega
 unfold bT
 by_cases h1 : pts[a]!.op = 1
 ·rw [if_pos h1]; exact .inl (B.w.put0 (by rw [PA.t1 h1]; decide) _).2
 rw [if_neg h1]
 by_cases h2 : pts[a]!.op = 2
 ·rw [if_pos h2]
  have ht := PA.t2 (.inl h2)
  by_cases h200 : s.cells.length = 200
  ·rw [if_pos h200]; exact .inr rfl
  ·rw [if_neg h200]
   exact .inl ((B.w.new (PA.n (.inr h2)) h200 s.read).putB (v := pts[a]!.x.toNat) hxl ht _ rfl rfl).2
 rw [if_neg h2]
 by_cases h3 : pts[a]!.op = 3
 ·rw [if_pos h3]
  have hyl : pts[a]!.y.toNat < ts.length := by have := hyb.2 (by omega) (by omega);omega
  obtain ⟨ht,hne⟩ := PA.t3 h3
  have hys := iI hu hyl (HC h3 hyn)
  by_cases q2 : ts[pts[a]!.y.toNat]! = 2
  ·rw [if_pos (w7.2 (.inl q2))]
   have g := B.w.give hyl q2 hys
   obtain ⟨b1,b2,b3,b4⟩ := B.w.o _ hyl q2 hys
   refine .inl (g.putB (v := pts[a]!.x.toNat) hxl (by rw [ht]; exact q2) _ hys ?_).2
   generalize s.slots[pts[a]!.y.toNat]! = z at b1 b3
   obtain ⟨zs,zn,zc,zt⟩ := z
   dsimp only at b1 b3 ⊢
   rw [b3,Int.toNat_of_nonneg b1]
  ·split
   ·exact .inl ((B.w.clr (v := pts[a]!.y.toNat) q2).put0 (by rw [ht]; exact q2) _).2
   ·exact .inl (B.w.put0 (by rw [ht]; exact q2) _).2
 rw [if_neg h3]
 by_cases h4 : pts[a]!.op = 4 ∨ pts[a]!.op = 5
 ·rw [if_pos h4]
  have hyl : pts[a]!.y.toNat < ts.length := by have := hyb.2 (by omega) (by omega);omega
  have huse : aP ts pts[a]! (pts[a]!.y.toNat : Nat) ≠ 0 := uD (by omega) hyn
  have hty : 2 ≤ ts[pts[a]!.y.toNat]! ∧ (pts[a]!.op = 5 → ts[pts[a]!.y.toNat]! ≠ 3) := by
   rcases h4 with h|h
   ·exact ⟨(PA.t4 h).2.2,fun q => by omega⟩
   ·have := (PA.t5 h).2.2;exact ⟨by omega,fun _ => by omega⟩
  have hxt : ts[pts[a]!.x.toNat]! ≠ 2 := by
   rcases h4 with h4|h4
   ·rw [(PA.t4 h4).1]; decide
   ·rw [(PA.t5 h4).1]; decide
  have hk : a7 s.cells s.slots[pts[a]!.y.toNat]!.ptr (decide (pts[a]!.op = 5)) = 0 := R.code w B ha hu hyl hty.1 huse (fun q => hty.2 (by simpa using q))
  have hsh := (B.sm.at (dU hk).2.2).tch s.slots[pts[a]!.y.toNat]!.ptr (decide (pts[a]!.op = 5))
  have hl : kV s.cells s.slots[pts[a]!.y.toNat]!.ptr (decide (pts[a]!.op = 5)) = 0 := by
   unfold kV;rw [if_pos hk,if_neg]
   have h5 := hsh.l
   have h6 := hsh.n
   unfold Dj
   omega
  rw [if_pos hl]
  exact .inl ((B.w.cells (B.w.k.m.ln _ _) (B.w.h.ln B.w.k.m _ _) (Fx _ _ _) (fun c hc => IE _ _ _ c hc) _).put0 hxt _).2
 rw [if_neg h4]
 by_cases h6 : pts[a]!.op = 6
 ·rw [if_pos h6]
  have hyl : pts[a]!.y.toNat < ts.length := by have := hyb.2 (by omega) (by omega);omega
  have hxt : ts[pts[a]!.x.toNat]! ≠ 2 := by rw [(PA.t6 h6).1]; decide
  have hk : a7 s.cells s.slots[pts[a]!.y.toNat]!.ptr false = 0 := R.code w B ha hu hyl (PA.t6 h6).2 (uD (by omega) hyn) (fun q => by cases q)
  rw [if_pos hk]
  exact .inl ((B.w.cells (B.w.k.m.tch _ _) (B.w.h.tch B.w.k.m _ _) (mM _ _ _) (fun c hc => Ez _ _ _ c hc) _).put0 hxt _).2
 rw [if_neg h6]
 by_cases h7 : pts[a]!.op = 7
 ·rw [if_pos h7]
  have hyl : pts[a]!.y.toNat < ts.length := by have := hyb.2 (by omega) (by omega);omega
  obtain ⟨ht,ht'⟩ := PA.t7 h7
  have hk : a7 s.cells s.slots[pts[a]!.x.toNat]!.ptr true = 0 := R.code w B ha hu hxl (by omega) (NM h7 hxn) (fun _ => by omega)
  refine .inl ?_
  show kI _ = -1
  unfold kI qU;rw [if_pos (B.i _ hyl ht'),if_pos hk]
 rw [if_neg h7]
 have h8 : pts[a]!.op = 8 := by omega
 rw [if_pos h8]
 have hset := iI hu hxl (NX h8 hxn)
 refine .inl ?_
 show kI _ = -1
 unfold kI;rw [if_pos (B.w.k0 hxl (PA.t2 (.inr h8)) hset true)]
theorem I9 (w:WG ts pts) (A:WA ts pts) (I:Nat → Nat → Mc → Prop)
  (hI : ∀ n a s k,a < pts.length → pts[a]!.op ≠ 11 → cY pts a k → I (n + 1) a s → cE ts s pts[a]! = false → (bT ts s pts[a]!).2 = -1 → I n k (bT ts s pts[a]!).1) :
  ∀ n a cs s last,a < pts.length → I n a s → ND ts pts (fun a s => ∃ n,I n a s) (hO ts pts (dN pts n a cs).1 s last) := by
 intro n
 induction n with
 | zero =>
  intro a cs s last ha hs
  by_cases h11 : pts[a]!.op = 11
  ·have e : (dN pts 0 a cs).1 = [a] := by unfold dN; rw [if_pos h11]
   rw [e]; exact qH ha ⟨_,hs⟩ h11
  ·have e : (dN pts 0 a cs).1 = [] := by rw [dN, if_neg h11]
   rw [e]; exact .inl rfl
 | succ n ih =>
  intro a cs s last ha hs
  by_cases h11 : pts[a]!.op = 11
  ·have e : (dN pts (n + 1) a cs).1 = [a] := by unfold dN; rw [if_pos h11]
   rw [e]; exact qH ha ⟨_,hs⟩ h11
  ·have e : (dN pts (n + 1) a cs).1 = a :: (dN pts n (g7 pts a cs).1 (g7 pts a cs).2).1 := by rw [dN, if_neg h11]
   have he := wE w A ha h11 cs
   rw [e]
   exact Ay ha ⟨_,hs⟩ fun h1 h2 => ih _ _ _ _ (c9 w he) (hI n a s _ ha h11 he hs h1 h2)
def Rt (pts : List Pnt) (c b : Nat) : Prop := Clo (fun b => cY pts c b) (fun a b => cY pts a b) b
structure Jv (ts : List Int) (pts : List Pnt) (n a : Nat) (s : Mc) : Prop where
 b : ∃ N : Int,1 ≤ N ∧ N + n ≤ 198 ∧ Bs ts N s
 v : Vs ts pts a s
 r : (∃ c L,Cf ts pts c L ∧ Rt pts c a) ∨ RfI ts (fun v => Nd ts pts (a,v)) (Ln ts pts a) s.slots s.cells
theorem Jv.start {n:Nat}(hn:n ≤ 197):Jv ts pts n 0 (mc0 ts.length):=by
 have e : ∀ v, v < ts.length → (mc0 ts.length).slots[v]! = gP := fun v hv => by
  show (List.replicate ts.length gP)[v]! = gP
  rw [bC _ _ (by simpa using hv)]; simp
 refine ⟨⟨1,by omega,by omega,Own.start ts,fun v hv _ => ?_,fun c hc => ?_,fun v hv _ h => ?_,fun v u hv hul _ _ h => ?_⟩,Vs.start,.inr ⟨fun v hv _ h => ?_,fun v u hv hul _ _ h => ?_⟩⟩
 ·rw [e v hv]; exact ⟨by decide,by decide⟩
 ·have : c ∈ ([] : List Cl) := hc
  cases this
 all_goals (rw [e v hv] at h;cases h)
theorem HO (w:WG ts pts) (A:WA ts pts) (cs:List Int) (n:Nat) (hn:n ≤ 197) (h:(dT ts pts cs n).2.1 = 3 ∨ (dT ts pts cs n).2.1 = 4):∃ c L,Cf ts pts c L ∧ Rt pts c (dT ts pts cs n).2.2:=by
 have ho := I9 w A (Jv ts pts) (fun n a s k ha h11 he hJ hu hgo => by
  obtain ⟨⟨N,hN1,hN2,B⟩,V,R⟩ := hJ
  refine ⟨⟨N + 1,by omega,by omega,B.step w A ha h11 hN1 hu hgo⟩,V.step w A a s k ha h11 he hu hgo,?_⟩
  rcases R with ⟨c,L,h1,h2⟩ | R
  ·exact .inl ⟨c,L,h1,.step h2 he⟩
  ·by_cases hC : ∃ L, Cf ts pts a L
   ·obtain ⟨L, hL⟩ := hC
    exact .inl ⟨a,L,hL,.base he⟩
   ·exact .inr (R.step w A he h11 B V (fun L hL => hC ⟨L,hL⟩) hu hgo)) n 0 cs (mc0 ts.length) 0 w.p0 (Jv.start hn)
 change ND ts pts _ (dT ts pts cs n) at ho
 rcases ho with ho | ⟨s',h0,⟨m,J⟩,⟨h3,_⟩ | ⟨h3,h4,h5,h6⟩⟩
 ·omega
 ·omega
 ·rcases J.r with hr | R
  ·exact hr
  ·exfalso
   obtain ⟨N,hN1,hN2,B⟩ := J.b
   by_cases q : pts[(dT ts pts cs n).2.2]!.op = 11
   ·rw [wM q,(Own.fin ts.length 0 s' B.w (by omega) (fun u hu => by omega)).1] at h6;omega
   ·rcases MO w A h0 q (by omega) B R h3 with e | e
    ·exact h4 e
    ·omega
end
section
variable {ts : List Int} {pts : List Pnt} {a : Nat} {s : Mc}
theorem IU {f:Flows ts pts}{i:Iss}(ha:a < pts.length) (h:i ∈ xH ts pts f.Aa f.Am f.Al f.Af f.Ap a):i ∈ f.iss := List.mem_flatMap.2 ⟨a,List.mem_range.2 ha,h⟩
theorem ML {x:Pnt}{v:Nat}:(iT x).testBit v = decide (aM x = (v:Int)):=by
 unfold iT
 split
 ·rw [Nat.testBit_two_pow,decide_eq_decide]; omega
 ·rw [Nat.zero_testBit]; exact (decide_eq_false (by omega)).symm
theorem Oa (w:WG ts pts) (f:Flows ts pts){L:Nat}(ha:a < pts.length) (h:Cf ts pts a L):(⟨a,if pts[L]!.op = 5 then 3 else 2,L⟩:Iss) ∈ f.iss:=by
 obtain ⟨v,u,wr,hk,hA,hf,hp,hy,hw⟩ := h
 obtain ⟨hl,hln⟩ := mD hp
 dsimp only at hl hln
 obtain ⟨_,hvl,_⟩ := wF w hf
 dsimp only at hvl
 have htl := w.tl
 have hpl := w.pl
 have hyw := w.y L hl
 have hx := w.x a ha
 have hya := w.y a ha
 refine IU ha (List.mem_append_right _ (List.mem_map.2 ⟨(L : Int),bU.2 ⟨L,by omega,?_,rfl⟩,by rw [Int.toNat_natCast]⟩))
 rw [Jm w f ha hl hln,Bool.and_eq_true,Bool.and_eq_true]
 refine ⟨List.any_eq_true.2 ?_,?_,(f.gp.2 a ha L).2 hp⟩
 ·have near : ∀ c : Acc, c.var = (u : Int) → c.write = wr → Cd pts L c = true := fun c h1 h2 => by
   unfold Cd
   rw [h1,h2,hy,decide_eq_true rfl,Bool.true_and]
   rcases hw with h|h
   ·rw [h]; rfl
   ·rw [decide_eq_true h]; simp
  unfold fS
  rcases hA with ⟨h,e,e2⟩ | ⟨h,e,e2⟩ | ⟨h,e,e2⟩ | ⟨h,ht,e,e2⟩ | ⟨h,ht,hm,e2⟩
  ·exact ⟨⟨pts[a]!.y,false⟩,List.mem_append_left _ (by rw [if_pos h]; simp),near _ e e2.symm⟩
  ·exact ⟨⟨pts[a]!.y,true⟩,List.mem_append_left _ (by rw [if_neg (by omega),if_pos h]; simp),near _ e e2.symm⟩
  ·exact ⟨⟨pts[a]!.x,true⟩,List.mem_append_left _ (by rw [if_neg (by omega),if_neg (by omega),if_pos h]; simp),near _ e e2.symm⟩
  ·refine ⟨⟨pts[a]!.y, true⟩, List.mem_append_left _ ?_, near _ e e2.symm⟩
   rw [if_neg (by omega),if_neg (by omega),if_neg (by omega),if_pos ⟨h,by rw [e,Int.toNat_natCast]; exact ht⟩]; simp
  ·refine ⟨⟨aM pts[a]!, true⟩, List.mem_append_right _ ?_, near _ h e2.symm⟩
   rw [if_pos ⟨by omega,by rw [h,Int.toNat_natCast]; exact ht,by rw [h,Int.toNat_natCast]; exact (f.gm.2 a ha u).2 hm⟩]; simp
 ·unfold k8
  rw [dI]
  refine .inr ⟨(v : Int),bU.2 ⟨v,by omega,?_,rfl⟩,?_⟩
  ·rw [b9, (f.gl.2 a ha v).2 hk.1, Bool.true_and, Nat.testBit_or, cG, ML, decide_eq_false hk.2.1]
   have : decide (aP ts pts[a]! v ∈ ([2] : List Int)) = false := decide_eq_false (by simpa using hk.2.2)
   rw [this]; simp
  ·rw [Int.toNat_natCast, dS f.gf.1 ha (by omega)]
   exact (f.gf.2 a v ha (by omega) L).2 hf
theorem MN (w:WG ts pts) (f:Flows ts pts) (ha:a < pts.length) (V:Vs ts pts a s) (h:cE ts s pts[a]! = true):∃ v:Nat,(⟨a,1,v⟩:Iss) ∈ f.iss:=by
 obtain ⟨v,hv,hu,hf⟩ := wU h
 have htl := w.tl
 refine ⟨v,IU ha (List.mem_append_left _ (List.mem_map.2 ⟨(v : Int),bU.2 ⟨v,by omega,?_,rfl⟩,rfl⟩))⟩
 rw [b9,cG,decide_eq_true hv,Bool.true_and,Bool.and_eq_true]
 refine ⟨decide_eq_true (by have := mS ts pts[a]! v;simp only [List.mem_cons,List.not_mem_nil,or_false]; omega),?_⟩
 have := f.ga.2 a ha v
 cases q : f.Aa[a]!.testBit v with
 | false => rfl
 | true => exact absurd (V.u v hv hf) ((this.1 q).2)
theorem GR (w:WG ts pts) (A:WA ts pts) (cs:List Int) (n:Nat):(dT ts pts cs n).2.1 = 0 ∨ (dT ts pts cs n).2.1 = 1 ∨ (dT ts pts cs n).2.1 = 2 ∨ (dT ts pts cs n).2.1 = 3 ∨ (dT ts pts cs n).2.1 = 4:=by
 have h := Fh w A (Vs ts pts) (Vs.step w A) n 0 cs (mc0 ts.length) 0 w.p0 Vs.start
 change ND ts pts (Vs ts pts) (dT ts pts cs n) at h
 rcases h with h | ⟨s',h0,hI,⟨h3,_⟩ | ⟨_,h4,_,h5⟩⟩
 ·exact .inr (.inl h)
 ·exact .inr (.inr (.inl h3))
 ·rw [h5]
  by_cases q : pts[(dT ts pts cs n).2.2]!.op = 11
  ·rw [wM q]
   rcases n6 ts ts.length 0 s' with e|e|e <;> (rw [e]; simp)
  ·rcases JP (ts := ts) (s := s') q with e | e | e | e
   ·exact absurd e h4
   all_goals (rw [e]; simp)
theorem K0 (w:WG ts pts) (A:WA ts pts) (f:Flows ts pts) (cs:List Int) (n:Nat) (hn:n ≤ 197) (h:(dT ts pts cs n).2.1 ≠ 0 ∧ (dT ts pts cs n).2.1 ≠ 1) :
  ∃ (c : Nat) (i : Iss),i ∈ f.iss ∧ i.point = (c : Int) ∧ c < pts.length ∧ ((dT ts pts cs n).2.1 = 2 ∧ c = (dT ts pts cs n).2.2 ∨ (dT ts pts cs n).2.1 ≠ 2 ∧ i.kind ≠ 1 ∧ Rt pts c (dT ts pts cs n).2.2) := by
 by_cases h2 : (dT ts pts cs n).2.1 = 2
 ·have ho := Fh w A (Vs ts pts) (Vs.step w A) n 0 cs (mc0 ts.length) 0 w.p0 Vs.start
  change ND ts pts (Vs ts pts) (dT ts pts cs n) at ho
  rcases ho with ho | ⟨s',h0,hI,⟨_,h3,_⟩ | ⟨_,h4,_,h5⟩⟩
  ·rw [ho] at h2;cases h2
  ·obtain ⟨v, hv⟩ := MN w f h0 hI h3
   exact ⟨_,_,hv,rfl,h0,.inl ⟨h2,rfl⟩⟩
  ·rw [h2] at h5
   by_cases q : pts[(dT ts pts cs n).2.2]!.op = 11
   ·rw [wM q] at h5
    rcases n6 ts ts.length 0 s' with e|e|e <;> (rw [e] at h5;cases h5)
   ·rcases JP (ts := ts) (s := s') q with e|e|e|e <;> (rw [e] at h5;cases h5)
 ·have hc := GR w A cs n
  obtain ⟨c,L,h3,h4⟩ := HO w A cs n hn (by omega)
  have hcl : c < pts.length := by
   clear h3 hc h h2
   generalize (dT ts pts cs n).2.2 = b at h4
   induction h4 with
   | base h => exact h.1
   | step _ _ ih => exact ih
  refine ⟨c,_,Oa w f hcl h3,rfl,hcl,.inr ⟨h2,?_,h4⟩⟩
  dsimp only
  split <;> decide
theorem G1 (w:WG ts pts) (A:WA ts pts) (f:Flows ts pts) (cs:List Int) (n:Nat) (hn:n ≤ 197) (h:f.iss = []):(dT ts pts cs n).2.1 = 0 ∨ (dT ts pts cs n).2.1 = 1:=by
 apply Classical.byContradiction;intro q
 obtain ⟨c,i,hi,_⟩ := K0 w A f cs n hn ⟨fun e => q (.inl e),fun e => q (.inr e)⟩
 rw [h] at hi;cases hi
end
open Go.RowKit Go.MapKept
def Rb (r : Nat) (ks : List Int) (w : World) : Prop := ∃ es ck,w.heap[r]? = some (.map es ck) ∧ ∀ e ∈ es.toList,∃ k ∈ ks,e.key = .int .i64 k
structure GsM (C : Ctx) (s : AS) (r : Nat) (ks : List Int) (a : Act) (w : World) : Prop where
 g : Gs C s a w
 m : Rb r ks w
 l : C.w0.heap.size ≤ r
theorem Fr.trans2 {W0 W1:Nat → Prop}{w0 w w':World}(h:Fr W0 w0 w) (k:Fr W1 w w') (hW:∀ b,W1 b → W0 b ∨ w0.heap.size ≤ b):Fr W0 w0 w' :=
 ⟨k.os.trans h.os, k.tape.trans h.tape, k.output.trans h.output, Nat.le_trans h.size k.size, fun b hb hw => by
  rw [k.block b (Nat.lt_of_lt_of_le hb h.size) (fun q => (hW b q).elim hw (fun h => by omega))]; exact h.block b hb hw,fun b => Nat.le_trans (h.bs b) (k.bs b)⟩
theorem GsM.base {C:Ctx}{s:AS}{r:Nat}{ks:List Int}{a:Act}{w:World}(h:GsM C s r ks a w):∃ C':Ctx,C'.N = C.N ∧ Gs C' s a w ∧ ∀ s' a' w',Gs C' s' a' w' → GsM C s' r ks a' w':=by
 obtain ⟨⟨h0,ι,g,gh⟩,⟨es,ck,hm,hk⟩,hl⟩ := h
 let C' : Ctx := { C with w0 := w,W0 := fun b => ∃ id cs β,aU s.hs id = some cs ∧ ι id = some (some (b,β)),xlt := fun b hb => Nat.lt_of_lt_of_le (C.xlt b hb) gh.fr.size }
 have hW : ∀ b, C'.W0 b → C.W0 b ∨ C.w0.heap.size ≤ b := by
  rintro b ⟨id,cs,β,h1,h2⟩
  rcases gh.obj id cs h1 with ⟨h3,_⟩ | ⟨b',β',arr,e,h3,h4,h5,h6,h7,h8⟩
  ·rw [h3] at h2;cases h2
  ·rw [h3] at h2;cases h2;exact h8
 have hr : ¬ C'.W0 r := by
  rintro ⟨id,cs,β,h1,h2⟩
  rcases gh.obj id cs h1 with ⟨h3,_⟩ | ⟨b',β',arr,e,h3,h4,h5,h6,h7,h8⟩
  ·rw [h3] at h2;cases h2
  ·rw [h3] at h2;cases h2;rw [hm] at h4;cases h4
 refine ⟨C',rfl,⟨h0,ι,⟨g.df,g.sz,g.tm⟩,⟨fun id cs h => ?_,gh.sep,Fr.refl _ _,gh.ex,gh.fresh⟩⟩,?_⟩
 ·rcases gh.obj id cs h with h1 | ⟨b', β', arr, e, h3, h4, h5, h6, h7, h8⟩
  ·exact .inl h1
  ·exact .inr ⟨b',β',arr,e,h3,h4,h5,h6,h7,.inl ⟨id,cs,β',h,h3⟩⟩
 ·rintro s' a' w' ⟨h0', ι', g', gh'⟩
  have f : Fr C'.W0 w w' := gh'.fr
  refine ⟨⟨h0',ι',⟨g'.df,g'.sz,g'.tm⟩,⟨fun id cs h => ?_,gh'.sep,gh.fr.trans2 f hW,gh'.ex,gh'.fresh⟩⟩,⟨es,ck,by rw [f.block r (fO hm) hr]; exact hm,hk⟩,hl⟩
  rcases gh'.obj id cs h with h1 | ⟨b',β',arr,e,h3,h4,h5,h6,h7,h8⟩
  ·exact .inl h1
  ·refine .inr ⟨b', β', arr, e, h3, h4, h5, h6, h7, ?_⟩
   rcases h8 with h8|h8
   ·exact hW _ h8
   ·exact .inr (Nat.le_trans gh.fr.size h8)
def tP (P : Program) (N : Nat) (c : Code) (Q : Exit → AS → List Int → Prop) (r : Nat) (ks : List Int) (s : AS) : Prop :=
 ∀ (C : Ctx) (a : Act) (w : World),C.N = N → GsM C s r ks a w → c.wp P (fun e a' w' => ∃ s' ks',Q e s' ks' ∧ GsM C s' r ks' a' w') a w
def Hz (P : Program) (N : Nat) (all : Array Oper) (Q : Exit → AS → List Int → Prop) (r : Nat) (ks : List Int) (l : List Oper) (s : AS) : Prop :=
 ∀ (C : Ctx) (a : Act) (w : World),C.N = N → GsM C s r ks a w → wpList P all (fun e a' w' => ∃ s' ks',Q e s' ks' ∧ GsM C s' r ks' a' w') l a w
def vG (K : AS → List Int → Prop) (Q : Exit → AS → List Int → Prop) : Exit → AS → List Int → Prop
 | .normal,s,ks => K s ks
 | e,s,ks => Q e s ks
def NC (id : Nat) (Q : Exit → AS → List Int → Prop) : Exit → AS → List Int → Prop
 | .exit i,s,ks => if i = id then Q .normal s ks else Q (.exit i) s ks
 | e,s,ks => Q e s ks
section
variable {P : Program} {N : Nat} {Q : Exit → AS → List Int → Prop} {s : AS} {r : Nat} {ks : List Int}
theorem pD {c:Code}(h:AW P N c (fun e s' => Q e s' ks) s):tP P N c Q r ks s:=by
 intro C a w hN g
 obtain ⟨C',h1,h2,h3⟩ := g.base
 exact wp_mono (h C' a w (h1.trans hN) h2) fun e a' w' ⟨s',q1,q2⟩ => ⟨s',ks,q1,h3 _ _ _ q2⟩
theorem lS {x y:Code}(h:tP P N x (vG (fun s' ks' => tP P N y Q r ks' s') Q) r ks s):tP P N (.seq x y) Q r ks s:=by
 intro C a w hN g
 refine wp_seq (wp_mono (h C a w hN g) ?_)
 rintro e a' w' ⟨s',ks',h1,h2⟩
 cases e with
 | normal => exact h1 C a' w' hN h2
 | _ => exact ⟨s',ks',h1,h2⟩
theorem CE {x y:Code}{c:Operand}{b:Bool}(hc:ev (lk s.ts) c = some (.v (.bool b))) (h1:b = true → tP P N x Q r ks s) (h2:b = false → tP P N y Q r ks s):tP P N (.cond c x y) Q r ks s:=by
 rintro C a w hN ⟨⟨h0,ι,g,gh⟩,hm,hl⟩
 have h := cA g hc
 simp only [Rd] at h
 cases b
 ·exact wp_cond_false h (h2 rfl C a w hN ⟨⟨h0,ι,g,gh⟩,hm,hl⟩)
 ·exact wp_cond_true h (h1 rfl C a w hN ⟨⟨h0,ι,g,gh⟩,hm,hl⟩)
theorem yG {id:Nat}{c:Code}(h:tP P N c (NC id Q) r ks s):tP P N (.block id c) Q r ks s:=by
 intro C a w hN g
 refine wp_block (wp_mono (h C a w hN g) ?_)
 rintro e a' w' ⟨s',ks',h1,h2⟩
 cases e with
 | exit i =>
  simp only [Exit.inBlock,NC] at h1 ⊢
  split
  ·rename_i hi;rw [if_pos hi] at h1;exact ⟨s',ks',h1,h2⟩
  ·rename_i hi;rw [if_neg hi] at h1;exact ⟨s',ks',h1,h2⟩
 | _ => exact ⟨s',ks',h1,h2⟩
theorem CD (h:Q .normal s ks):tP P N .skip Q r ks s := fun C a w _ g => wp_skip ⟨s,ks,h,g⟩
theorem Kh {id:Nat}(h:Q (.exit id) s ks):tP P N (.exit id) Q r ks s := fun C a w _ g => wp_exit ⟨s,ks,h,g⟩
theorem JE {σ:Type}{c:Code}(p:σ → Prop) (I:σ → AS) (J:σ → List Int) (μ:σ → Nat) (h0:∃ i,p i ∧ Le s (I i) ∧ J i = ks)
  (round : ∀ i,p i → tP P N c (vG (fun s' ks' => ∃ j,p j ∧ μ j < μ i ∧ Le s' (I j) ∧ J j = ks') Q) r (J i) (I i)) : tP P N (.loop c) Q r ks s := by
 intro C a w hN g
 obtain ⟨i,h1,h2,h3⟩ := h0
 subst h3
 refine wp_loop (fun a w => ∃ i,p i ∧ GsM C (I i) r (J i) a w) (fun a w => pU fun n => ∃ i,p i ∧ GsM C (I i) r (J i) a w ∧ μ i = n) ⟨i,h1,⟨h2 C a w g.g,g.m,g.l⟩⟩ ?_
 rintro a w ⟨i0,hp0,hg0⟩
 obtain ⟨⟨i,hp,hg,hm⟩,hmin⟩ := jF (S := fun n => ∃ i,p i ∧ GsM C (I i) r (J i) a w ∧ μ i = n) ⟨_,i0,hp0,hg0,rfl⟩
 refine wp_mono (round i hp C a w hN hg) ?_
 rintro e a' w' ⟨s',ks',h3,h4⟩
 cases e with
 | normal =>
  obtain ⟨j,q1,q2,q3,rfl⟩ := h3
  have h5 : GsM C (I j) r (J j) a' w' := ⟨q3 C a' w' h4.g,h4.m,h4.l⟩
  refine ⟨⟨j,q1,h5⟩,?_⟩
  have := (jF (S := fun n => ∃ i,p i ∧ GsM C (I i) r (J i) a' w' ∧ μ i = n) ⟨_,j,q1,h5,rfl⟩).2 (μ j) ⟨j,q1,h5,rfl⟩
  omega
 | _ => exact ⟨s',ks',h3,h4⟩
theorem G0 {σ:Type}{c:Code}{ts:List (Nat × AV)}{hs:List (Nat × Option (List AV))}{n:Nat}{z0:Lo}(kl:List Nat) (kt:List (Nat × AV)) (js:List Nat) (kh:List (Nat × Option (List AV)))
  (ot : σ → List (Nat × AV)) (oh : σ → List (Nat × Option (List AV))) (J : σ → List Int) (p : σ → Prop) (μ : σ → Nat) (i0 : σ) (h0 : p i0) (hJ : J i0 = ks) (hk : pW kl ts = kt) (hj : rI js hs = kh)
  (h1 : qR ts (ot i0)) (h2 : oG hs (oh i0))
  (round : ∀ i,p i → tP P N c (vG (fun s' ks' => ∃ j,p j ∧ μ j < μ i ∧ Le s' ⟨ot j ++ kt,oh j ++ kh,n,z0⟩ ∧ J j = ks') Q) r (J i) ⟨ot i ++ kt,oh i ++ kh,n,z0⟩) :
  tP P N (.loop c) Q r ks ⟨ts,hs,n,z0⟩ := by
 subst hk hj
 exact JE p (fun i => ⟨ot i ++ pW kl ts,oh i ++ rI js hs,n,z0⟩) J μ ⟨i0,h0,Le.lit (mQ h1 (nH kl)) (nC h2 (qL js)) (Nat.le_refl _),hJ⟩ round
theorem uH {id:Nat}{l:List Oper}(h:Hz P N l.toArray Q r ks l s):tP P N (.region id l.toArray false) Q r ks s :=
 fun C a w hN g => wp_region_lit (h C a w hN g)
variable {all : Array Oper}
theorem PL {o:Oper}{a:Act}{w:World}{K K':Act → World → Prop}{Q1 Q2:Exit → Act → World → Prop}(h:∀ a w,K a w → K' a w) (hq:∀ e a w,Q1 e a w → e = .normal)
  (hh : o.wp P a w K Q1) : o.wp P a w K' Q2 := by
 have hL : ¬ LetsOut Q1 := fun ⟨a,w,q⟩ => by cases hq _ _ _ q
 unfold Oper.wp at *
 generalize (execOp a.eval o).run P w = z at *
 cases z with
 | ok n w' =>
  cases n <;> simp only [Oper.upon] at hh ⊢ <;>
   first
    | exact h _ _ hh
    | exact Calls.mono hh (fun e w'' he => by cases e <;> first|exact h _ _ he|(cases hq _ _ _ he)|exact absurd he hL)
    | exact Rows.mono hh (fun _ _ he => h _ _ he)
 | halt x w' => cases x <;> simp only [Oper.upon] at hh ⊢ <;> (cases hq _ _ _ hh)
theorem jR {Q1 Q2:Exit → Act → World → Prop}{l2:List Oper}(k:∀ e a w,Q1 e a w → e = .normal ∧ wpList P all Q2 l2 a w):∀ (l1:List Oper) (a:Act) (w:World),wpList P all Q1 l1 a w → wpList P all Q2 (l1 ++ l2) a w
 | [],a,w,h => (k _ _ _ h).2
 | o :: l1, a, w, h => by
  have hL : ¬ LetsOut Q1 := fun ⟨a,w,q⟩ => by cases (k _ _ _ q).1
  rw [List.cons_append]
  unfold wpList at h ⊢
  split
  ·rename_i hw
   rw [if_pos hw] at h
   rcases h with h | ⟨_,h⟩
   ·exact .inl (PL (fun a w => jR k l1 a w) (fun e a w q => (k e a w q).1) h)
   ·exact absurd h hL
  ·rename_i hw;rw [if_neg hw] at h;exact jR k l1 _ _ h
theorem BE {l1 l2:List Oper}(h:RW P N all (fun e s' => e = .normal ∧ Hz P N all Q r ks l2 s') .txt l1 s):Hz P N all Q r ks (l1 ++ l2) s:=by
 intro C a w hN g
 obtain ⟨C',h1,h2,h3⟩ := g.base
 exact jR (fun e a' w' ⟨s',⟨q1,q2⟩,q3⟩ => ⟨q1,q2 C a' w' hN (h3 _ _ _ q3)⟩) l1 a w (h C' a w (h1.trans hN) h2)
theorem Nc (h:Q .normal s ks):Hz P N all Q r ks [] s := fun C a w _ g => wpList_nil ⟨s,ks,h,g⟩
variable {rest : List Oper} {ts : List (Nat × AV)} {hs : List (Nat × Option (List AV))} {n : Nat} {z0 : Lo} {d : Nat} {ty : TypeId} {pos : String} {af : Array Edge}
theorem FR {dst:Option Tmp}{op:Op}{j e:Nat}{want b:Bool}(hj:(all[j]?).bind (·.dst) = some e) (hb:lk s.ts e = some (.v (.bool b))) (hw:b = want) (h:Hz P N all Q r ks (⟨dst,op,ty,pos,af,none⟩ :: rest) s) :
  Hz P N all Q r ks (⟨dst,op,ty,pos,af,some (j,want)⟩ :: rest) s := by
 subst hw
 intro C a w hN g
 have h' := h C a w hN g
 obtain ⟨⟨h0,ι,g,gh⟩,hm,hl⟩ := g
 have hyl : yielded all a.tmps j = some b := by
  obtain ⟨y,hy,hr⟩ := g.tm e _ hb
  simp only [Rd] at hr
  subst hr
  simp [yielded,hj,hy]
 unfold wpList at h' ⊢
 simp only [Region.wanted,hyl,if_true,beq_self_eq_true] at h' ⊢
 exact h'
theorem sW {w:World}{mt kt et:TypeId}{es:Array MapEntry}{ck:Nat}{a:Int}(hu:P.underlying mt = some (.map kt et)) (hk:P.underlying kt = some (.int .i64)) (hz:(P.info? et).bind (·.zero) = some (.bool false))
  (hb : w.heap[r]? = some (.map es ck)) (hn : ∀ e ∈ es.toList,∃ k,k ≠ a ∧ e.key = .int .i64 k) : (Instr.lookup mt (.map (some r)) (.int .i64 a) false).run P w = .ok (.bool false) w ∧ Instr.findNow (.int .i64) (.int .i64 a) es.toList 0 = some none := by
 have hkey : IsKey (.int .i64) (.int .i64 a) := by simp [IsKey]
 have hf : Instr.findNow (.int .i64) (.int .i64 a) es.toList 0 = some none := by
  rcases findNow_spec hkey es.toList 0 (fun x hx => by obtain ⟨k,_,h2⟩ := hn x hx;rw [h2]; simp [IsKey]) with ⟨h,_⟩ | ⟨j,e,_,h2,h3⟩
  ·exact h
  ·obtain ⟨k, h4, h5⟩ := hn e (List.mem_of_getElem? h2)
   rw [h5] at h3;cases h3;exact absurd rfl h4
 refine ⟨?_,hf⟩
 cases hi : P.info? et with
 | none => rw [hi] at hz;cases hz
 | some i =>
  rw [hi] at hz
  have hz2 : i.zero = some (.bool false) := hz
  simp [Instr.lookup,cF hu,Go.MapKept.run_getObj_map hb,run_checkKey hk hkey,run_findKey hk hf,zeroValue,typeInfo,hi,hz2,Result.andThen]
theorem Df {mt kt et:TypeId}{x y:Operand}{a:Int}(hu:P.underlying mt = some (.map kt et)) (hk:P.underlying kt = some (.int .i64)) (hz:(P.info? et).bind (·.zero) = some (.bool false))
  (hx : ev (lk ts) x = some (.v (.map (some r)))) (hy : ev (lk ts) y = some (.v (.int .i64 a))) (ha : a ∉ ks) (hN : Nat.blt d N = true) (kk : Hz P N all Q r ks rest ⟨(d,.v (.bool false)) :: ts,hs,n,z0⟩) :
  Hz P N all Q r ks (⟨some d,.lookup mt x y false,ty,pos,af,none⟩ :: rest) ⟨ts,hs,n,z0⟩ := by
 rintro C ac w hCN ⟨⟨h0,ι,g,gh⟩,⟨es,ck,hm,hkk⟩,hl⟩
 refine wpList_plain rfl (fun K hK => ?_)
 have e1 := cA g hx
 have e2 := cA g hy
 simp only [Rd] at e1 e2
 have hr := (sW (P := P) hu hk hz hm (a := a) (fun e he => by obtain ⟨k,h1,h2⟩ := hkk e he;exact ⟨k,fun q => ha (q ▸ h1),h2⟩)).1
 have hop : (execOp ac.eval ⟨some d, .lookup mt x y false, ty, pos, af, none⟩).run P w = .ok (.value (.bool false)) w := by
  simp [execOp,e1,e2,hr]
 simp only [Oper.wp,hop,Oper.upon]
 refine hK _ _ (kk C _ _ hCN ⟨⟨h0,ι,?_,gh⟩,⟨es,ck,hm,hkk⟩,hl⟩)
 show TG C ι (lk ((d,_) :: ts)) _ _ _
 rw [iG]
 exact g.put (by have := dG hN;omega) (by simp [Rd])
theorem Dh {mt kt et:TypeId}{x y z:Operand}{a:Int}(hu:P.underlying mt = some (.map kt et)) (hk:P.underlying kt = some (.int .i64)) (hz:(P.info? et).bind (·.zero) = some (.bool false))
  (hx : ev (lk ts) x = some (.v (.map (some r)))) (hy : ev (lk ts) y = some (.v (.int .i64 a))) (ha : a ∉ ks) (kk : Hz P N all Q r (ks ++ [a]) rest ⟨ts,hs,n,z0⟩) :
  Hz P N all Q r ks (⟨none,.mapUpdate mt x y z,ty,pos,af,none⟩ :: rest) ⟨ts,hs,n,z0⟩ := by
 rintro C ac w hCN ⟨⟨h0,ι,g,gh⟩,⟨es,ck,hm,hkk⟩,hl⟩
 refine wpList_plain rfl (fun K hK => ?_)
 have e1 := cA g hx
 have e2 := cA g hy
 simp only [Rd] at e1 e2
 have hkey : IsKey (.int .i64) (.int .i64 a) := by simp [IsKey]
 have hf := (sW (P := P) hu hk hz hm (a := a) (fun e he => by obtain ⟨k,h1,h2⟩ := hkk e he;exact ⟨k,fun q => ha (q ▸ h1),h2⟩)).2
 let o2 : Obj := .map (es.push { key := .int .i64 a,val := ac.eval z,born := ck }) (ck + 1)
 let w2 : World := { w with heap := w.heap.setIfInBounds r o2 }
 have hop : (execOp ac.eval ⟨none, .mapUpdate mt x y z, ty, pos, af, none⟩).run P w = .ok .skip w2 := by
  simp [execOp,e1,e2,Instr.mapUpdate,cF hu,Go.MapKept.run_getObj_map hm,run_checkKey hk hkey,run_findKey hk hf,Go.MapKept.run_setObj_map _ hm,Result.andThen,w2,o2]
 obtain ⟨hs1,hs2⟩ := heap_set (o' := o2) hm
 have hne : ∀ b c e f,w.heap[b]? = some (.cells c e f) → b ≠ r := fun b c e f h q => by subst q;rw [hm] at h;cases h
 have hbs : ∀ b, tN w2 b = tN w b := fun b => by
  by_cases e : b = r
  ·subst e;show (match w2.heap[b]? with|some (.cells c _ _) => c.size | _ => 0) = _; rw [show w2.heap[b]? = some o2 from hs1]; simp [tN,hm,o2]
  ·exact qO (hs2 b e)
 have hcell : ∀ b o v, w.cell? ⟨b, o, none⟩ = some v → w2.cell? ⟨b, o, none⟩ = some v := fun b o v h => by
  have : b ≠ r := fun q => by subst q;rw [World.cell?] at h;simp [hm] at h
  rw [dQ (hs2 b this)]; exact h
 have car : ∀ bad : Nat → Prop,Carry w bad ι w2 bad ι := fun bad => ⟨fun b o v h1 h2 => ⟨h1,hcell b o v h2⟩,fun _ _ h => h,fun b => Nat.le_of_eq (hbs b).symm⟩
 simp only [Oper.wp,hop,Oper.upon]
 refine hK _ _ (kk C _ _ hCN ⟨⟨h0,ι,?_,?_⟩,⟨_,_,hs1,?_⟩,hl⟩)
 ·exact g.carry (car _)
 ·refine ⟨fun id cs h => ?_, gh.sep, ⟨gh.fr.os, gh.fr.tape, gh.fr.output, by show C.w0.heap.size ≤ (w.heap.setIfInBounds r o2).size; rw [Array.size_setIfInBounds]; exact gh.fr.size, fun b hb hw => ?_, fun b => by rw [hbs]; exact gh.fr.bs b⟩, gh.ex, gh.fresh⟩
  ·rcases gh.obj id cs h with h1 | ⟨b', β', arr, e, h3, h4, h5, h6, h7, h8⟩
   ·exact .inl h1
   ·exact .inr ⟨b',β',arr,e,h3,by rw [show w2.heap[b']? = w.heap[b']? from hs2 b' (hne _ _ _ _ h4)]; exact h4,h5,RdC.carryB (car _) _ _ _ (fun o v hv => hcell b' o v hv) h6,h7,h8⟩
  ·rw [show w2.heap[b]? = w.heap[b]? from hs2 b (by omega)]; exact gh.fr.block b hb hw
 ·intro e he
  rw [Array.toList_push,List.mem_append,List.mem_singleton] at he
  rcases he with he|rfl
  ·obtain ⟨k,h1,h2⟩ := hkk e he;exact ⟨k,List.mem_append_left _ h1,h2⟩
  ·exact ⟨a,by simp,rfl⟩
theorem Jl {Q:Exit → AS → Prop}{id:Nat}{t:TypeId}{y:Code}(hN:Nat.blt d N = true)
  (h : ∀ r,Hz P N (⟨some d,.makeMap t none,ty,pos,af,none⟩ :: rest).toArray (fun e s' ks' => e = .normal ∧ tP P N y (fun e s' _ => Q e s') r ks' s') r [] rest ⟨(d,.v (.map (some r))) :: ts,hs,n,z0⟩) :
  AW P N (.seq (.region id (⟨some d,.makeMap t none,ty,pos,af,none⟩ :: rest).toArray false) y) Q ⟨ts,hs,n,z0⟩ := by
 rintro C ac w hCN ⟨h0,ι,g,gh⟩
 refine wp_seq (wp_region_lit (wpList_plain rfl (fun K hK => ?_)))
 have hop : (execOp ac.eval ⟨some d, .makeMap t none, ty, pos, af, none⟩).run P w = .ok (.value (.map (some w.heap.size))) (w.alloc (.map #[] 0)) := by
  simp [execOp,Instr.makeMap,newObj,Sem.run]
 have f : Fr (fun _ => False) w (w.alloc (.map #[] 0)) := by
  refine ⟨rfl,rfl,rfl,by simp,fun b hb _ => Below.heap_alloc w _ b hb,fun b => ?_⟩
  rcases Nat.lt_or_ge b w.heap.size with hb|hb
  ·rw [qO (Below.heap_alloc w _ b hb)]; exact Nat.le_refl _
  ·simp [tN,Array.getElem?_eq_none hb]
 obtain ⟨g2,c2⟩ := gh.ext f
 simp only [Oper.wp,hop,Oper.upon]
 refine hK _ _ ?_
 have hh := h w.heap.size C (ac.put (some d) (.map (some w.heap.size))) (w.alloc (.map #[] 0)) hCN ⟨⟨h0,ι,?_,g2⟩,⟨#[],0,heap_alloc_new w _,by simp⟩,gh.fr.size⟩
 ·have := jR (l2 := []) (P := P) (Q2 := Exit.then (y.wp P (fun e a' w' => ∃ s', Q e s' ∧ Gs C s' a' w')) (fun e a' w' => ∃ s', Q e s' ∧ Gs C s' a' w')) (all := (⟨some d, .makeMap t none, ty, pos, af, none⟩ :: rest).toArray)
   (k := fun e a' w' ⟨s', ks', ⟨q1, q2⟩, q3⟩ => ⟨q1, by
    subst q1
    exact wpList_nil (wp_mono (q2 C a' w' hCN q3) (fun e a'' w'' ⟨s'',ks'',u1,u2⟩ => ⟨s'',u1,u2.g⟩))⟩) rest _ _ hh
  rw [List.append_nil] at this
  exact this
 ·show TG C ι (lk ((d, _) :: ts)) _ _ _
  rw [iG]
  exact (g.carry c2).put (by have := dG hN;omega) (by simp [Rd])
theorem KM {K K2:AS → List Int → Prop}{id:Nat}(h:Q .normal s ks):vG K (vG K2 (NC id Q)) (.exit id) s ks:=by
 have e : vG K (vG K2 (NC id Q)) (.exit id) s ks = (if id = id then Q .normal s ks else Q (.exit id) s ks) := rfl
 rw [e,if_pos rfl]; exact h
theorem J6 {Q:Exit → AS → Prop}{id:Nat}{t:TypeId}{y:Code}(h:Stop (AW P N (.seq (.region id (⟨some d,.makeMap t none,ty,pos,af,none⟩ :: rest).toArray false) y) Q s)) :
  AW P N (.seq (.region id (⟨some d,.makeMap t none,ty,pos,af,none⟩ :: rest).toArray false) y) Q s := h
theorem Pr {Q:Exit → AS → Prop}{c:Code}(h:AW P N c Q s):Stop (AW P N c Q s) := h
theorem BA {l:List Oper}(h:RW P N all (fun e s' => e = .normal ∧ Q e s' ks) .txt l s):Hz P N all Q r ks l s:=by
 intro C a w hN g
 obtain ⟨C',h1,h2,h3⟩ := g.base
 have := jR (l2 := []) (P := P) (all := all) (Q1 := fun e a' w' => ∃ s', (e = .normal ∧ Q e s' ks) ∧ Gs C' s' a' w') (Q2 := fun e a' w' => ∃ s' ks', Q e s' ks' ∧ GsM C s' r ks' a' w')
  (k := fun e a' w' ⟨s',⟨q1,q2⟩,q3⟩ => ⟨q1,by subst q1;exact wpList_nil ⟨s',ks,q2,h3 _ _ _ q3⟩⟩) l a w (h C' a w (h1.trans hN) h2)
 rwa [List.append_nil] at this
end
variable {P : Program} {N : Nat} {Q : Exit → AS → Prop} {all : Array Oper} {rest : List Oper} {ts : List (Nat × AV)} {hs : List (Nat × Option (List AV))} {n : Nat} {z0 : Lo} {md : Md}
variable {d : Nat} {ty : TypeId} {pos : String} {af : Array Edge}
section
theorem jP {α:Type}{hα:Inhabited α}{f g:α → List AV}{xs:List α}{e id k j z:Nat}{t:TypeId}{x:Operand}{cs':List AV}[ha:AgT P t true] [hz:SzT P t z] (hx:ev (lk ts) x = some (.optr id (0 + k * e + j)))
  (hH : aU hs id = some (flat f xs)) (hf : FlT f e) (hg : FE f g) (hk : k < xs.length) (hj : j + z ≤ e) (hc : ((g xs[k]!).drop j).take z = cs') (h0 : Nat.blt 0 z = true) (hN : Nat.blt d N = true) {md' : Md} [hmd : MdA md (rO x ++ rA (.optr id (0 + k * e + j))) [.inl d] md']
  (kk : RW P N all Q md' rest ⟨(d,.agg cs') :: ts,hs,n,z0⟩) : RW P N all Q md (⟨some d,.load t x,ty,pos,af,none⟩ :: rest) ⟨ts,hs,n,z0⟩ := by
 have hl : (g xs[k]!).length = e := by rw [← hg.pf]; exact hf.pf _
 subst hc
 refine k9 (cs := (flat f xs).drop (0 + k * e + j)) hx ha.pf hz.pf (by simp only [deref,hH,Option.map_some]) (cs' := ((g xs[k]!).drop j).take z) ?_ (by rw [List.length_take,List.length_drop,hl]; omega) (by have := dG h0;omega) (dG hN) (by rw [hmd.pf]; exact kk)
 rw [Nat.zero_add,← List.drop_drop,fR f xs k hk,← hg.pf,List.drop_append_of_le_length (by rw [hf.pf]; omega),List.take_append_of_le_length (by rw [List.length_drop,hf.pf]; omega)]
end
theorem GL (c:Int):gZ .and .i64 c 1 = some (.int .i64 (c % 2)):=by
 have h : (BitVec.ofInt 64 c &&& BitVec.ofInt 64 1).toNat = (c % 2).toNat := by
  rw [BitVec.toNat_and,show (BitVec.ofInt 64 1).toNat = 1 from rfl,Nat.and_one_is_mod,BitVec.toNat_ofInt]
  omega
 have e : gZ .and .i64 c 1 = some (.int .i64 (IntKind.i64.wrap ((BitVec.ofInt 64 c &&& BitVec.ofInt 64 1).toNat : Int))) := rfl
 rw [e,h]
 rcases Int.emod_two_eq c with h2|h2 <;> rw [h2] <;> rfl
section
theorem LX {t t':TypeId}{x y:Operand}{c:Int}(hx:ev (lk ts) x = some (.v (.int .i64 c))) (hy:ev (lk ts) y = some (.v (.int .i64 1)))
  (hN : Nat.blt d N = true) {md' : Md} [hmd : MdA md (rO x ++ rO y) [.inl d] md'] (kk : RW P N all Q md' rest ⟨(d,.v (.int .i64 (c % 2))) :: ts,hs,n,z0⟩) : RW P N all Q md (⟨some d,.binOp .and t x y t',ty,pos,af,none⟩ :: rest) ⟨ts,hs,n,z0⟩ :=
 eH hx hy (.inl rfl) (GL c) (dG hN) (by rw [hmd.pf]; exact kk)
end
theorem GQ {P:Program}{N:Nat}{Q:Exit → AS → Prop}{all:Array Oper}{rest:List Oper}{ts:List (Nat × AV)}{hs:List (Nat × Option (List AV))}{n:Nat}{z0:Lo}{d:Nat}{ty:TypeId}{pos:String}{af:Array Edge}
  {t t' el : TypeId} {x : Operand} {id off m e : Nat} [ht : SlT P t el] (hx : ev (lk ts) x = some (.own id off m e)) (hN : Nat.blt d N = true)
  (kk : ∀ b : Bool,(b = true → m = 0) → RW P N all Q .txt rest ⟨(d,.v (.bool b)) :: ts,hs,n,z0⟩) : RW P N all Q .txt (⟨some d,.binOp .eql t x (.const (.slice none 0 0)) t',ty,pos,af,none⟩ :: rest) ⟨ts,hs,n,z0⟩ := by
 rintro C a w hCN ⟨h0,ι,g,gh⟩
 refine wpList_plain rfl (fun K hK => ?_)
 have h1 := cA g hx
 simp only [Rd] at h1
 obtain ⟨a', m', c, h2, hb⟩ : ∃ a' m' c, a.eval x = .slice a' m' c ∧ (a'.isNone = true → m = 0) := by
  rcases h1 with ⟨_,rfl,a',h2⟩ | ⟨b,β,c,_,h2,_⟩
  ·exact ⟨a',0,0,h2,fun _ => rfl⟩
  ·exact ⟨_,m,c,h2,fun h => by cases h⟩
 have hu := kP ht.pf
 have hg : (eqGuard .eql t x (.const (.slice none 0 0)) (.slice a' m' c) (.slice none 0 0)).run P w = .ok () w := by simp [eqGuard]
 have hr : (execOp a.eval ⟨some d, .binOp .eql t x (.const (.slice none 0 0)) t', ty, pos, af, none⟩).run P w = .ok (.value (.bool a'.isNone)) w := by
  have e2 : a.eval (.const (.slice none 0 0)) = .slice none 0 0 := rfl
  simp only [execOp,h2,e2,Sem.run_bind,hg,Result.andThen_ok,yV w t el hu,Sem.run_pure]
 simp only [Oper.wp,hr,Oper.upon]
 refine hK _ _ (kk a'.isNone hb C _ _ hCN ⟨h0,ι,?_,gh⟩)
 show TG C ι (lk ((d,AV.v (.bool a'.isNone)) :: ts)) _ _ _
 rw [iG]
 exact g.put (by have := dG hN;omega) (by simp [Rd])
section
theorem FX {k:FuncId}{t:Nat}{args:Array Operand}{tys:Array TypeId}{avs avs0 f c:List AV}{fv:AV}{H0:List (Nat × Option (List AV))}{rr rr':AV}{hh:List (Nat × Option (List AV))}
  (mp : List Nat) (n1 : Nat) (ws : List (Nat × Option (List AV))) (h : MC P k avs0 H0 mp.length (fun _ : Unit => True) (fun _ => rr) (fun _ => hh)) (hx : lk ts t = some fv) (hcl : uR fv = some (k,f,c)) [hc : CaT P k] (ha : evL (lk ts) args.toList = some avs) (hd : distinct mp = true)
  (hH0 : qB hs H0 mp 0 mp) (hk : gF mp.length H0 = true) (har : RnL (mp[·]?) avs0 (f ++ avs ++ c)) (hM : Nat.ble (n + (n1 - mp.length)) aX = true)
  (hr : RnV (xB mp n n1) rr rr') (hwa : sQ mp ws = true) (hw : qA (xB mp n n1) hh ws) (hN : Nat.blt d N = true)
  {md' : Md} [hmd : MdA md (rO (.tmp t) ++ fP args.toList ++ mp.map .inr) (ws.map (fun p => .inr p.1) ++ [.inl d]) md']
  (kk : RW P N all Q md' rest ⟨(d,rr') :: ts,gR hs ws,n + (n1 - mp.length),z0⟩) : RW P N all Q md (⟨some d,.call ⟨.value (.tmp t),args,tys⟩,ty,pos,af,none⟩ :: rest) ⟨ts,hs,n,z0⟩ := by
 have hM' := Nat.le_of_ble_eq_true hM
 have kk2 : RW P N all Q (md.add (rO (.tmp t) ++ fP args.toList ++ mp.map .inr) (ws.map (fun p => .inr p.1) ++ wD (some d))) rest (put ⟨ts, gR hs ws, n + (n1 - mp.length), z0⟩ (some d) rr') := by
  simp only [wD]; rw [hmd.pf]; exact kk
 refine jD (rs := rO (.tmp t) ++ fP args.toList ++ mp.map .inr) (ws := ws) (n' := n + (n1 - mp.length)) (out := rr') rfl (Nat.le_add_right _ _) (.inr hM') (fun C ι F T H a w K Q' hCN ag hF g gh hK => ?_) (fun x e => by cases e;exact dG hN) kk2
 obtain ⟨lf,lc,hy,h1,h2⟩ := x9 hcl (cA g (x := .tmp t) (ag.l.l.ev.trans hx))
 simp only [Oper.wp,uU hc.pf _ a w hy,Oper.upon]
 refine (wQ (nid := n) (n1 := n1) h hd gh (fun j i hj => ?_) (nR hk) har hF (fun _ _ => hr) (fun _ _ => AZ hwa hw) (j7 (j7 h1 (iD g (ag.l.r.evL.trans ha))) h2)).mono ?_
 ·obtain ⟨cs, cs', q1, q2, q3⟩ := rC hH0 j i hj
  exact ⟨cs,cs',by simpa using q1,by rw [ag.r.h i (List.mem_map_of_mem (List.mem_of_getElem? hj))]; exact q2,q3⟩
 ·rintro e w' ⟨v, x, ι', rfl, hx, g', c', hrd⟩
  exact hK ι' w' v (g.carry c') g' hrd
end
theorem Mn {ts:List Int}{pts:List Pnt}(w:WG ts pts) (f:Flows ts pts){Al Af:List Nat}(hlf:Af.length = pts.length * 6){i:Nat}(hi:i < pts.length) (hal:Al[i]! < 2 ^ ts.length):QX ts pts f.Aa (AI ts pts f.Am Al Af f.Ap i) i = xH ts pts f.Aa f.Am Al Af f.Ap i:=by
 have htl := w.tl
 have hpl := w.pl
 have hset := w.set i hi
 unfold QX xH
 congr 1
 ·unfold oX
  have hsm : Sm (iW (wS ts pts[i]! [1, 2, 3]) f.Aa[i]!) := by
   have : Sm (wS ts pts[i]! [1,2,3]) := bY (by omega)
   infer_instance
  rw [p9 (n := ts.length) (p := sV ts pts f.Aa i) hsm (by omega) fun v => ?_,List.map_map]
  ·rfl
  ·rw [b9, cG, Bool.and_assoc]
   congr 1
   unfold sV
   congr 1
   have hu := mS ts pts[i]! v
   by_cases e : aP ts pts[i]! v = 0
   ·rw [e]; rfl
   ·rw [decide_eq_false e]
    have : aP ts pts[i]! v ∈ ([1, 2, 3] : List Int) := by
     simp only [List.mem_cons,List.not_mem_nil,or_false]; omega
    rw [decide_eq_true this]; rfl
 ·unfold o8
  have hap : f.Ap[i]! < 2 ^ pts.length := by
   apply Nat.lt_pow_two_of_testBit
   intro l hl
   rw [Bool.eq_false_iff]; intro hq
   have := (mD ((f.gp.2 i hi l).1 hq)).1
   dsimp only at this;omega
  have hcn := rP w (Am := f.Am) (Al := Al) (Af := Af) hap
  have hsm : Sm (tB ts pts f.Am Al Af f.Ap i) := ⟨Nat.lt_of_lt_of_le hcn (Nat.pow_le_pow_right (by decide) (by omega))⟩
  rw [p9 (n := pts.length) (p := fun l => (AI ts pts f.Am Al Af f.Ap i)[l]!) hsm (by omega) fun l => ?_,List.map_map]
  ·rfl
  ·by_cases hl : l < pts.length
   ·rw [decide_eq_true hl, Bool.true_and, Bool.eq_iff_iff]
    have hloans : Sm (k8 ts pts[i]! Al[i]! (cH Af i) &&& f.Ap[i]!) := ⟨Nat.lt_of_lt_of_le (Nat.and_lt_two_pow _ hap) (Nat.pow_le_pow_right (by decide) (by omega))⟩
    have hacc : fS ts pts[i]! (bH ts.length pts.length f.Am)[i]![(aM pts[i]!).toNat]! = fS ts pts[i]! (f.Am[i]!.testBit (aM pts[i]!).toNat) := KK fun h0 => iC _ _ _ _ _ hi (by omega)
    have hkp : (k8 ts pts[i]! Al[i]! (cH Af i)).testBit l = true ↔ (wV ts pts[i]! (e7 ts.length pts.length Af f.Ap i).1 (bH ts.length pts.length Al)[i]! pts.length)[l]! = true := by
     unfold wV
     rw [a6 _ _ _ hl]
     unfold k8
     rw [dI,List.any_eq_true,cQ _ _ _ _ hi]
     simp only [Nat.zero_testBit,Bool.false_eq_true,false_or,List.length_map,List.length_range,List.mem_range]
     constructor
     ·rintro ⟨z, hz, h2⟩
      obtain ⟨v,h3,h4,rfl⟩ := bU.1 hz
      rw [b9,Nat.testBit_or,cG,dZ (by omega)] at h4
      simp only [Bool.and_eq_true,Bool.not_eq_true',Bool.or_eq_false_iff,Bool.and_eq_false_iff,decide_eq_false_iff_not] at h4
      have hv := cK hal h4.1
      refine ⟨v,hv,?_⟩
      unfold CV
      rw [a6 _ _ _ hv,h4.1,decide_eq_false h4.2.2]
      have hu : ¬ aP ts pts[i]! v = 2 := by
       rcases h4.2.1 with h5|h5
       ·exact absurd hv h5
       ·simpa using h5
      rw [decide_eq_false hu]
      unfold e7
      dsimp only
      rw [a6 _ _ _ hv,a6 _ _ _ hl]
      have h6 : (cH Af i)[v]! = Af[i * 6 + v]! := dS hlf hi (by omega)
      rw [Int.toNat_natCast,h6] at h2
      rw [h2]; rfl
     ·rintro ⟨v, hv, h2⟩
      unfold CV at h2
      rw [a6 _ _ _ hv] at h2
      unfold e7 at h2
      dsimp only at h2
      rw [a6 _ _ _ hv,a6 _ _ _ hl] at h2
      simp only [Bool.and_eq_true,Bool.not_eq_true',decide_eq_false_iff_not] at h2
      refine ⟨(v : Int),bU.2 ⟨v,by omega,?_,rfl⟩,?_⟩
      ·rw [b9, Nat.testBit_or, cG, dZ (by omega), h2.1, decide_eq_false h2.2.1]
       have : decide (aP ts pts[i]! (v : Int) ∈ ([2] : List Int)) = false := by simpa using h2.2.2.1
       rw [this]; simp
      ·rw [Int.toNat_natCast,dS hlf hi (by omega)]; exact h2.2.2.2
    have hplc : (e7 ts.length pts.length Af f.Ap i).2[l]! = f.Ap[i]!.testBit l := by unfold e7;dsimp only;rw [a6 _ _ _ hl]
    unfold tB AI
    rw [fK _ _ _ hloans,AH _ _ _ _ _ hl,hacc,List.any_eq_true]
    simp only [Nat.zero_testBit,Bool.false_eq_true,false_or]
    constructor
    ·rintro ⟨c, hc, h1, h2, h3⟩
     rw [Nat.testBit_and,Bool.and_eq_true] at h1
     rw [fM] at h2
     simp only [Bool.and_eq_true,decide_eq_true_eq] at h2
     have hy := mG w hl h2.2.1
     have hcv := tK _ w hi c hc
     refine ⟨c,hc,?_⟩
     unfold Hv
     have e2 := h2.2.2
     rw [Nat.testBit_two_pow,decide_eq_true_eq] at e2
     rw [hkp.1 h1.1,hplc,h1.2,decide_eq_true (by omega : pts[l]!.y = c.var)]
     rcases h3 with h3|h3
     ·rw [h3]; rfl
     ·rw [decide_eq_true h3]; simp
    ·rintro ⟨c, hc, h1⟩
     unfold Hv at h1
     rw [hplc] at h1
     simp only [Bool.and_eq_true,Bool.or_eq_true,decide_eq_true_eq] at h1
     obtain ⟨⟨⟨h1,h2⟩,h3⟩,h4⟩ := h1
     have hln := (mD ((f.gp.2 i hi l).1 h2)).2
     dsimp only at hln
     refine ⟨c,hc,?_,?_,h4⟩
     ·rw [Nat.testBit_and,hkp.2 h1,h2]; rfl
     ·rw [fM,decide_eq_true hl,hln,← h3,Nat.testBit_two_pow_self]; rfl
   ·rw [decide_eq_false hl, Bool.false_and]
    exact Nat.testBit_lt_two_pow (Nat.lt_of_lt_of_le hcn (Nat.pow_le_pow_right (by decide) (by omega)))
def xU (ts : List Int) (pts : List Pnt) (Am : List Nat) : List Nat := (List.range pts.length).map fun (i : Nat) => hU ts pts[i]! Am[i]!
theorem EM (ts:List Int) (pts:List Pnt) (Am:List Nat):(xU ts pts Am).length = pts.length := by simp [xU]
theorem qD (ts:List Int) (pts:List Pnt) (Am:List Nat){i:Nat}(hi:i < pts.length):(xU ts pts Am)[i]! = hU ts pts[i]! Am[i]! := a6 _ _ _ hi
def zQ (p : Prg) (f : Flows p.types (aB p)) : List Iss := iX p.types (aB p) f.Aa f.Am (xU p.types (aB p) f.Am) f.Af f.Ap (aB p).length
theorem Re {ts:List Int}{pts:List Pnt}{a:Nat × Nat × Nat}(h:Et ts pts a):Mb ts pts (a.1,a.2.1):=by
 induction h with
 | base h => obtain ⟨e,_,h2⟩ := h;exact .base ⟨_,e,h2⟩
 | @step a b _ r ih =>
  obtain ⟨_,e,h⟩ := r
  rcases h with ⟨_,h2,h3⟩ | ⟨h1,_,_⟩
  ·exact .step ih ⟨h2,e,h3⟩
  ·exact .base ⟨_,e,h1⟩
theorem Kj {ts:List Int}{pts:List Pnt}(w:WG ts pts) (f:Flows ts pts){i:Nat}(hi:i < pts.length){l:Nat}(hl:(tB ts pts f.Am f.Al f.Af f.Ap i).testBit l = true):(tB ts pts f.Am (xU ts pts f.Am) f.Af f.Ap i).testBit l = true:=by
 have b := f.bnd w
 have hpl := w.pl
 have htl := w.tl
 have hst := w.set i hi
 have hset : aM pts[i]! < 62 := by omega
 have hs : ∀ K : Nat,Sm (K &&& f.Ap[i]!) := fun K => jG (n := pts.length) (by omega) (Nat.and_lt_two_pow _ (b.bP i))
 have hk : ∀ c : Nat, (k8 ts pts[i]! f.Al[i]! (cH f.Af i)).testBit c = true → (k8 ts pts[i]! (xU ts pts f.Am)[i]! (cH f.Af i)).testBit c = true := fun c hc => by
  unfold k8 at hc ⊢
  rw [dI] at hc ⊢
  rcases hc with h1 | ⟨z,hz,h1⟩
  ·exact .inl h1
  ·refine .inr ⟨z, ?_, h1⟩
   obtain ⟨v,h2,h3,rfl⟩ := bU.1 hz
   refine bU.2 ⟨v,h2,?_,rfl⟩
   rw [b9,Bool.and_eq_true] at h3 ⊢
   refine ⟨?_,h3.2⟩
   have h4 := h3.2
   rw [Nat.testBit_or,cG,dZ hset] at h4
   have hv : v < ts.length := by
    obtain ⟨k,_,hk⟩ := (f.gl.2 i hi v).1 h3.1
    exact qM w hk
   rw [Int.toNat_natCast,dS f.gf.1 hi (by omega)] at h1
   have hm := (f.gm.2 i hi v).2 (Re ((f.gf.2 i v hi (by omega) c).1 h1))
   rw [qD _ _ _ hi,dE hset,hm,decide_eq_true hv]
   rw [decide_eq_true hv] at h4
   simp only [List.mem_cons,List.not_mem_nil,or_false] at h4
   revert h4
   cases decide (aP ts pts[i]! (v : Int) = 2) <;> simp
 unfold tB at hl ⊢
 rw [fK _ _ _ (hs _)] at hl ⊢
 rcases hl with hl | ⟨c,hc,h1,h2⟩
 ·exact .inl hl
 ·refine .inr ⟨c, hc, ?_, h2⟩
  rw [Nat.testBit_and,Bool.and_eq_true] at h1 ⊢
  exact ⟨hk _ h1.1,h1.2⟩
theorem Ns {ts:List Int}{pts:List Pnt}(w:WG ts pts) (f:Flows ts pts) (x:Iss) (hx:x ∈ f.iss):x ∈ iX ts pts f.Aa f.Am (xU ts pts f.Am) f.Af f.Ap pts.length:=by
 unfold Flows.iss iX at hx
 unfold iX
 obtain ⟨i,hi,h⟩ := List.mem_flatMap.1 hx
 have hin := List.mem_range.1 hi
 refine List.mem_flatMap.2 ⟨i,hi,?_⟩
 unfold xH at h ⊢
 rcases List.mem_append.1 h with h|h
 ·exact List.mem_append.2 (.inl h)
 ·obtain ⟨z, hz, rfl⟩ := List.mem_map.1 h
  obtain ⟨l,h1,h2,rfl⟩ := bU.1 hz
  exact List.mem_append.2 (.inr (List.mem_map.2 ⟨_,bU.2 ⟨l,h1,Kj w f hin h2,rfl⟩,rfl⟩))
theorem OJ (p:Prg) (f:Flows p.types (aB p)) (hv:bD p = true) (h:zQ p f = []):f.iss = []:=by
 have w := WG.of_valid hv
 rw [List.eq_nil_iff_forall_not_mem]
 intro x hx
 have := Ns w f x hx
 unfold zQ at h;rw [h] at this;cases this
theorem Oh (p:Prg) (f:Flows p.types (aB p)){A:List Nat}(hA:GoodG p.types (aB p) A) (hv:bD p = true) (h:zO p f A = []):f.iss = []:=by
 have w := WG.of_valid hv
 rw [List.eq_nil_iff_forall_not_mem]
 intro x hx
 have := K5 w (WT.of_valid hv) f hA x hx
 unfold zO at h;rw [h] at this;cases this
def smL : List Stmt := [⟨4,2,1,0,[],[]⟩,⟨5,3,1,0,[],[]⟩,⟨4,2,3,0,[],[]⟩,⟨6,0,2,0,[],[]⟩,⟨6,0,1,0,[],[]⟩,⟨7,3,0,0,[],[]⟩,⟨7,1,0,0,[],[]⟩,⟨2,1,0,2,[],[]⟩]
def KV : Nat → Nat → List Stmt
 | _,0 => []
 | n,k + 1 => smL[n % 8]! :: KV (n / 8) k
def R9 : List Stmt := [⟨1,0,0,1,[],[]⟩,⟨2,1,0,0,[],[]⟩]
def NO (n : Nat) : Prg := ⟨[1,2,3,4],R9 ++ KV n 4⟩
theorem Pm:∀ c,c < 8 → sU [1,2,3,4] 4 smL[c]! = true ∧ cR smL[c]! = 1:=by
 intro c hc
 have : c = 0 ∨ c = 1 ∨ c = 2 ∨ c = 3 ∨ c = 4 ∨ c = 5 ∨ c = 6 ∨ c = 7 := by omega
 rcases this with h|h|h|h|h|h|h|h <;> subst h <;> exact ⟨rfl,rfl⟩
theorem KA:∀ k n,okL [1,2,3,4] 4 (KV n k) = true ∧ aT (KV n k) = k
 | 0,n => ⟨rfl,rfl⟩
 | k + 1, n => by
  have h1 := Pm (n % 8) (Nat.mod_lt _ (by decide))
  have h2 := KA k (n / 8)
  rw [KV,okL,aT,h1.1,h1.2,h2.1,h2.2]
  exact ⟨rfl,by omega⟩
theorem Nx (n:Nat):aT (NO n).body = 6:=by
 have h := (KA 4 n).2
 show cR _ + (cR _ + aT (KV n 4)) = 6
 rw [h]; rfl
def yW (L : List (List Iss)) : Nat := (L.filter fun l => !l.isEmpty).length
theorem I6 (L:List (List Iss)) (l:List Iss):yW (L ++ [l]) = yW L + (if l = [] then 0 else 1):=by
 unfold yW;rw [List.filter_append,List.length_append]; cases l <;> rfl
theorem F5 (A B C:List Iss):yW [A,B,C] ≤ 3 ∧ (yW [A,B,C] = 3 ↔ A ≠ [] ∧ B ≠ [] ∧ C ≠ []) ∧ (yW [A,B,C] = 0 ↔ A = [] ∧ B = [] ∧ C = []):=by
 unfold yW
 cases A <;> cases B <;> cases C <;> simp
noncomputable def mY (p : Prg) (hv : bD p = true) : Flows p.types (aB p) := Classical.choice (Flows.ex (WG.of_valid hv))
noncomputable def NG (p : Prg) (hv : bD p = true) : List Nat := Classical.choose (GoodG.exist (WG.of_valid hv) (WT.of_valid hv))
theorem C4 (p:Prg) (hv:bD p = true):GoodG p.types (aB p) (NG p hv) := Classical.choose_spec (GoodG.exist (WG.of_valid hv) (WT.of_valid hv))
noncomputable def Qf (p : Prg) (hv : bD p = true) : List (List Iss) := [zQ p (mY p hv),zO p (mY p hv) (NG p hv),(mY p hv).iss]
theorem Ml (p:Prg) (hv:bD p = true):yW (Qf p hv) ≤ 3 ∧ (yW (Qf p hv) ≠ 3 → (mY p hv).iss = []) ∧ (zQ p (mY p hv) = [] → (mY p hv).iss = []) ∧ (zO p (mY p hv) (NG p hv) = [] → (mY p hv).iss = []) ∧ (yW (Qf p hv) = 0 ↔ zQ p (mY p hv) = [] ∧ zO p (mY p hv) (NG p hv) = []):=by
 have h1 := OJ p (mY p hv) hv
 have h2 := Oh p (mY p hv) (C4 p hv) hv
 have h3 := F5 (zQ p (mY p hv)) (zO p (mY p hv) (NG p hv)) (mY p hv).iss
 refine ⟨h3.1,fun h => ?_,h1,h2,?_⟩
 ·unfold Qf at h
  rw [ne_eq,h3.2.1] at h
  by_cases ha : zQ p (mY p hv) = []
  ·exact h1 ha
  ·by_cases hb : zO p (mY p hv) (NG p hv) = []
   ·exact h2 hb
   ·by_cases hc : (mY p hv).iss = []
    ·exact hc
    ·exact absurd ⟨ha,hb,hc⟩ h
 ·unfold Qf; rw [h3.2.2]
  exact ⟨fun h => ⟨h.1,h.2.1⟩,fun h => ⟨h.1,h.2,h1 h.1⟩⟩
end Go.AL
