/-
 A part of the proofs over this program: rules and contracts of its functions (the rules).
-/
import Derived.Test.YtahdccneecdmmaaGreatJ5A07
import Derived.MapKept
import Derived.Orders
set_option linter.unusedVariables false
set_option linter.unusedSimpArgs false
namespace Go.AL
open Go.RowKit
section
variable {ts : List Int} {pts : List Pnt} {N : Int} {a k : Nat} {s : Mc}
def yF (s : Mc) (x : Pnt) : Sl :=
 if x.op = 1 then ⟨true,x.n,⟨0,0⟩⟩ else if x.op = 2 then ⟨true,0,⟨s.cells.length,0⟩⟩ else if x.op = 3 then s.slots[x.y.toNat]!
 else if x.op = 4 ∨ x.op = 5 then ⟨true,0,oH s.cells s.slots[x.y.toNat]!.ptr (decide (x.op = 5))⟩ else ⟨true,nL s.cells s.slots[x.y.toNat]!.ptr,⟨0,0⟩⟩
theorem WG.doY (w:WG ts pts) (A:WA ts pts){a:Nat}(ha:a < pts.length){s:Mc}(hl:s.slots.length = ts.length) (hu:b7 ts s pts[a]! = false) (h11:pts[a]!.op ≠ 11) (hgo:(bO ts s pts[a]!).2 = -1) :
  ∀ v,v < ts.length → (bO ts s pts[a]!).1.slots[v]! = if aL pts[a]! = (v : Int) then yF s pts[a]! else if aO ts pts[a]! v = 2 then fZ else s.slots[v]! := by
 obtain ⟨y,hy,hs⟩ := w.doS A ha hl hu h11 hgo
 have hx := w.x a ha
 have hxb := hx.2
 intro v hv
 by_cases q : aL pts[a]! = (v : Int)
 ·rw [if_pos q]
  have hop : 1 ≤ pts[a]!.op ∧ pts[a]!.op ≤ 6 := by
   apply Classical.byContradiction;intro h
   unfold aL at q;rw [if_neg h] at q;omega
  rw [nQ hop] at q
  have hxv : pts[a]!.x.toNat = v := by omega
  have hh := hgo
  unfold bO at hh ⊢
  unfold yF
  by_cases h1 : pts[a]!.op = 1
  ·rw [if_pos h1,if_pos h1,eE,hxv,aP,if_pos ⟨rfl,by omega⟩]
  rw [if_neg h1] at hh ⊢
  rw [if_neg h1]
  by_cases h2 : pts[a]!.op = 2
  ·rw [if_pos h2] at hh ⊢
   rw [if_pos h2]
   split at hh
   ·cases hh
   ·rename_i h200
    rw [if_neg h200,eE,hxv,aP,if_pos ⟨rfl,by dsimp only;omega⟩]
  rw [if_neg h2] at hh ⊢
  rw [if_neg h2]
  by_cases h3 : pts[a]!.op = 3
  ·rw [if_pos h3, if_pos h3, eE, hxv, aP, if_pos]
   refine ⟨rfl,?_⟩
   split
   ·dsimp only;rw [List.length_set]; omega
   ·omega
  rw [if_neg h3] at hh ⊢
  rw [if_neg h3]
  by_cases h4 : pts[a]!.op = 4 ∨ pts[a]!.op = 5
  ·rw [if_pos h4] at hh ⊢
   rw [if_pos h4]
   split at hh
   ·rename_i hz
    rw [if_pos hz,eE,hxv,aP,if_pos ⟨rfl,by dsimp only;omega⟩]
   ·exact (sT hh).elim
  rw [if_neg h4] at hh ⊢
  rw [if_neg h4]
  have h6 : pts[a]!.op = 6 := by omega
  rw [if_pos h6] at hh ⊢
  split at hh
  ·rename_i hz
   rw [if_pos hz,eE,hxv,aP,if_pos ⟨rfl,by dsimp only;omega⟩]
  ·exact (sT hh).elim
 ·rw [hs v hv,if_neg q,if_neg q]
theorem LV {x:Pnt}(PA:PtA ts x) (h:x.op = 1):(bO ts s x).1.cells = s.cells:=by
 unfold bO;rw [if_pos h,pJ,if_neg (fun q => by rw [PA.t1 h] at q;exact absurd q.1 (by decide))]
theorem L9 {x:Pnt}(h:x.op = 2) (hgo:(bO ts s x).2 = -1):(bO ts s x).1.cells = if ts[x.x.toNat]! = 2 ∧ s.slots[x.x.toNat]!.set = true then gO (s.cells ++ [nO x.n]) s.slots[x.x.toNat]!.ptr else s.cells ++ [nO x.n]:=by
 unfold bO at hgo ⊢
 rw [if_neg (by omega),if_pos h] at hgo ⊢
 split at hgo
 ·cases hgo
 ·rename_i h200
  rw [if_neg h200,pJ]
theorem LO {x:Pnt}(h:x.op = 3) (hne:x.x.toNat ≠ x.y.toNat):(bO ts s x).1.cells = if ts[x.x.toNat]! = 2 ∧ s.slots[x.x.toNat]!.set = true then gO s.cells s.slots[x.x.toNat]!.ptr else s.cells:=by
 unfold bO
 rw [if_neg (by omega),if_neg (by omega),if_pos h,pJ]
 split
 ·have e : (s.slots.set x.y.toNat fZ)[x.x.toNat]! = s.slots[x.x.toNat]! := by rw [aP, if_neg (fun q => hne q.1.symm)]
  dsimp only;rw [e]
 ·rfl
theorem Ja {x:Pnt}(PA:PtA ts x) (h:x.op = 4 ∨ x.op = 5) (hgo:(bO ts s x).2 = -1):j7 s.cells s.slots[x.y.toNat]!.ptr (decide (x.op = 5)) = 0 ∧ (bO ts s x).1.cells = jI s.cells s.slots[x.y.toNat]!.ptr (decide (x.op = 5)):=by
 have hxt : ts[x.x.toNat]! ≠ 2 := by
  rcases h with h4|h4
  ·rw [(PA.t4 h4).1]; decide
  ·rw [(PA.t5 h4).1]; decide
 unfold bO at hgo ⊢
 rw [if_neg (by omega),if_neg (by omega),if_neg (by omega),if_pos h] at hgo ⊢
 split at hgo
 ·rename_i hz
  rw [if_pos hz,pJ,if_neg (fun q => hxt q.1)]
  exact ⟨hz,rfl⟩
 ·exact (sT hgo).elim
theorem HA {x:Pnt}(PA:PtA ts x) (h:x.op = 6) (hgo:(bO ts s x).2 = -1):aY s.cells s.slots[x.y.toNat]!.ptr false = 0 ∧ (bO ts s x).1.cells = cP s.cells s.slots[x.y.toNat]!.ptr false:=by
 have hxt : ts[x.x.toNat]! ≠ 2 := by rw [(PA.t6 h).1]; decide
 unfold bO at hgo ⊢
 rw [if_neg (by omega),if_neg (by omega),if_neg (by omega),if_neg (by omega),if_pos h] at hgo ⊢
 split at hgo
 ·rename_i hz
  rw [if_pos hz,pJ,if_neg (fun q => hxt q.1)]
  exact ⟨hz,rfl⟩
 ·exact (sT hgo).elim
theorem LJ {x:Pnt}(h:x.op = 7) (hgo:(bO ts s x).2 = -1):o6 s.cells s.slots[x.x.toNat]!.ptr s.slots[x.y.toNat]!.num = 0 ∧ (bO ts s x).1.cells = nU s.cells s.slots[x.x.toNat]!.ptr s.slots[x.y.toNat]!.num:=by
 unfold bO at hgo ⊢
 rw [if_neg (by omega),if_neg (by omega),if_neg (by omega),if_neg (by omega),if_neg (by omega),if_pos h] at hgo ⊢
 exact ⟨O7 hgo,rfl⟩
theorem L1 {x:Pnt}(h:x.op = 8) (hgo:(bO ts s x).2 = -1):aY s.cells s.slots[x.x.toNat]!.ptr true = 0 ∧ (bO ts s x).1.cells = gO s.cells s.slots[x.x.toNat]!.ptr:=by
 unfold bO at hgo ⊢
 rw [if_neg (by omega),if_neg (by omega),if_neg (by omega),if_neg (by omega),if_neg (by omega),if_neg (by omega),if_pos h] at hgo ⊢
 exact ⟨O7 hgo,rfl⟩
theorem IG {x:Pnt}(h:9 ≤ x.op) (h11:x.op ≠ 11):bO ts s x = (s,-1):=by
 unfold bO
 rw [if_neg (by omega),if_neg (by omega),if_neg (by omega),if_neg (by omega),if_neg (by omega),if_neg (by omega),if_neg (by omega),if_neg h11]
theorem RfI.step (w:WG ts pts) (A:WA ts pts) (he:cR pts a k) (h11:pts[a]!.op ≠ 11) (B:Bs ts N s) (V:Vs ts pts a s) (R:RfI ts (fun v => Nd ts pts (a,v)) (Ln ts pts a) s.slots s.cells) (hC:∀ L,¬ Cf ts pts a L) (hu:b7 ts s pts[a]! = false) (hgo:(bO ts s pts[a]!).2 = -1) :
  RfI ts (fun v => Nd ts pts (k,v)) (Ln ts pts k) (bO ts s pts[a]!).1.slots (bO ts s pts[a]!).1.cells := by
 have ha := he.1
 have hT : ∀ v,v < ts.length → ts[v]! ≤ 4 := fun v hv => (w.ty v hv).2
 have PA := A.a a ha
 have hx := w.x a ha
 have hyb := w.y a ha
 have hop := w.op a ha
 have hs := w.doY A ha B.w.k.l hu h11 hgo
 have hmm : OkM (bO ts s pts[a]!).1.cells := (B.w.do PA h11 (fun h => ⟨hx.1,hx.2 h⟩) hop.1 (fun h1 h2 => ⟨hyb.1,hyb.2 h1 h2⟩) hu).k.m
 have hP : ∀ v,Kp ts pts a v → Nd ts pts (a,v) := fun v h => h.nd w
 have R0 : RfI ts (Kp ts pts a) (Ln ts pts a) s.slots s.cells := R.mono hP
 have hxn : ((pts[a]!.x.toNat : Nat) : Int) = pts[a]!.x := by omega
 have hyn : ((pts[a]!.y.toNat : Nat) : Int) = pts[a]!.y := by omega
 have hno : 7 ≤ pts[a]!.op → ∀ v : Nat,aL pts[a]! = (v : Int) → v < ts.length → ts[v]! = 1 := fun h v e => by rw [IE h] at e;omega
 by_cases h1 : pts[a]!.op = 1
 ·rw [LV PA h1] at hmm ⊢
  refine RfI.fin1 he hmm hs R0 fun v q hv => ?_
  rw [nQ (by omega)] at q
  rw [show v = pts[a]!.x.toNat by omega]; exact PA.t1 h1
 by_cases h2 : pts[a]!.op = 2
 ·have hxl : pts[a]!.x.toNat < ts.length := by have := hx.2 (by omega); omega
  have e2 := PA.t2 (.inl h2)
  have hset : aL pts[a]! = ((pts[a]!.x.toNat : Nat) : Int) := by rw [nQ (by omega)]; omega
  have hv2 : ∀ v : Nat,aL pts[a]! = (v : Int) → v = pts[a]!.x.toNat := fun v e => by omega
  have R1 := R0.nw (fun v q1 q2 q3 => by have := B.f v q1 q2 q3;unfold fU;omega) (nO pts[a]!.n)
  have h200 : s.cells.length ≠ 200 := fun q => by
   unfold bO at hgo;rw [if_neg h1,if_pos h2,if_pos q] at hgo;cases hgo
  have hm1 := B.w.k.m.nw (PA.n (.inr h2)) (by have := B.w.k.m.l;omega)
  have R2 := R1.put V B hm1 (B.w.h.nw _) (by rw [List.length_append]; omega) (fun c hc => by rw [nS hc]) hC hxl hset
  rw [L9 h2 hgo] at hmm ⊢
  refine RfI.fin he hmm hs R2 (fun v e hv h3 => ?_) (fun v u e hv hul h3 => ?_) (fun v u e hv hul h3 hut hkp hv3 hv4 hce => ?_)
  ·rw [hv2 v e] at h3;omega
  ·rw [hv2 v e] at h3;omega
  ·exfalso
   have e1 := hs u hul
   rw [if_pos e] at e1
   have e3 : yF s pts[a]! = ⟨true,0,⟨s.cells.length,0⟩⟩ := by unfold yF;rw [if_neg h1,if_pos h2]
   have := B.f v hv h3 hv3
   unfold fU at hce
   rw [hv4,e1,e3] at hce
   dsimp only at hce;omega
 by_cases h3 : pts[a]!.op = 3
 ·have hxl : pts[a]!.x.toNat < ts.length := by have := hx.2 (by omega); omega
  have hyl : pts[a]!.y.toNat < ts.length := by have := hyb.2 (by omega) (by omega);omega
  obtain ⟨et,hne⟩ := PA.t3 h3
  have hset : aL pts[a]! = ((pts[a]!.x.toNat : Nat) : Int) := by rw [nQ (by omega)]; omega
  have hv2 : ∀ v : Nat,aL pts[a]! = (v : Int) → v = pts[a]!.x.toNat := fun v e => by omega
  have huse : aO ts pts[a]! (pts[a]!.y.toNat : Nat) ≠ 0 := I5 h3 hyn
  have R2 := R0.put V B B.w.k.m B.w.h (Nat.le_refl _) (fun _ _ => rfl) hC hxl hset
  have ey : yF s pts[a]! = s.slots[pts[a]!.y.toNat]! := by unfold yF;rw [if_neg h1,if_neg h2,if_pos h3]
  have new : ∀ v : Nat, aL pts[a]! = (v : Int) → v < ts.length → fU (bO ts s pts[a]!).1.slots v = fU s.slots pts[a]!.y.toNat ∧ iG ts (bO ts s pts[a]!).1.slots v = iG ts s.slots pts[a]!.y.toNat := fun v e hv => by
   have e1 := hs v hv
   rw [if_pos e,ey] at e1
   unfold fU iG
   rw [e1,hv2 v e,et]
   exact ⟨rfl,rfl⟩
  have ec := LO (ts := ts) (s := s) h3 (fun q => hne (by omega))
  rw [ec] at hmm ⊢
  refine RfI.fin he hmm hs R2 (fun v e hv h4 => ?_) (fun v u e hv hul h4 hut hu1 hu2 hu3 hu4 hce hsub => ?_) (fun v u e hv hul h4 hut hkp hv3 hv4 hce hsub => ?_)
  ·obtain ⟨n1, n2⟩ := new v e hv
   rw [hv2 v e] at h4
   rw [n1,n2,if_neg (fun q => by omega)]
   obtain ⟨u1,u2,u3,u4,u5⟩ := R.use w B ha hu hyl (by omega) huse
   exact ⟨u4,u5⟩
  ·obtain ⟨n1, n2⟩ := new v e hv
   have h4' := h4
   rw [hv2 v e] at h4'
   obtain ⟨u1,u2,u3,u4,u5⟩ := R.use w B ha hu hyl (by omega) huse
   rw [if_neg (fun q => by omega),n1,n2] at hsub
   have htu : iG ts (bO ts s pts[a]!).1.slots u = iG ts s.slots u := by unfold iG;rw [hu4]
   have hcu : fU (bO ts s pts[a]!).1.slots u = fU s.slots u := by unfold fU;rw [hu4]
   rw [htu] at hsub
   obtain ⟨L,l1,l2,l3,l4⟩ := R.c pts[a]!.y.toNat u hyl hul (by omega) hut u1 hu3 (.base ⟨ha,hyl,huse⟩) (by rw [← n1,← hcu]; exact hce) hsub
   refine ⟨L,.step l1 ⟨rfl,he,.inr ⟨e,hyn,.inr h3⟩⟩,.step l2 ⟨rfl,he,?_,?_⟩,l3,fun h => l4 ?_⟩
   ·rw [l3]; exact hu2
   ·rw [l3]; exact hu1
   ·rw [hv2 v e] at h;omega
  ·obtain ⟨n1, n2⟩ := new u e hul
   have hut' := hut
   rw [hv2 u e] at hut'
   have htv : iG ts (bO ts s pts[a]!).1.slots v = iG ts s.slots v := by unfold iG;rw [hv4]
   have hcv : fU (bO ts s pts[a]!).1.slots v = fU s.slots v := by unfold fU;rw [hv4]
   rw [n2,htv,hcv] at hsub
   have hset' := gX hu hyl huse
   have hl := R2.c v pts[a]!.y.toNat hv hyl h4 (by omega) hv3 hset' hkp (by rw [← hcv,← n1]; exact hce) hsub
   exact qX hC (.inr (.inr (.inr (.inl ⟨h3,uW.2 (by omega),hyn.symm,rfl⟩)))) v hkp hl (.inl rfl)
 by_cases h4 : pts[a]!.op = 4 ∨ pts[a]!.op = 5
 ·obtain ⟨hk, ec⟩ := Ja PA h4 hgo
  rw [ec]
  refine RfI.loan w A he B R hC hu ?_ hs hk ?_
  ·rcases h4 with h | h
   ·exact .inl ⟨h,by rw [h]; rfl⟩
   ·exact .inr ⟨h,by rw [h]; rfl⟩
  ·unfold yF;rw [if_neg h1,if_neg h2,if_neg h3,if_pos h4]
 by_cases h6 : pts[a]!.op = 6
 ·obtain ⟨hk, ec⟩ := HA PA h6 hgo
  have hyl : pts[a]!.y.toNat < ts.length := by have := hyb.2 (by omega) (by omega);omega
  have huse : aO ts pts[a]! (pts[a]!.y.toNat : Nat) ≠ 0 := rY (by omega) hyn
  have hty := (PA.t6 h6).2
  obtain ⟨u1,u2,u3,u4,u5⟩ := R.use w B ha hu hyl hty huse
  rw [ec] at hmm ⊢
  refine RfI.fin1 he hmm hs (R.tch hT B.w.k.m B.sm hP hyl hty u1 hk u5 (fun q => by cases q) (qX hC (.inl ⟨.inr h6,hyn.symm,rfl⟩))) fun v q hv => ?_
  rw [nQ (by omega)] at q
  rw [show v = pts[a]!.x.toNat by omega]; exact (PA.t6 h6).1
 by_cases h7 : pts[a]!.op = 7
 ·obtain ⟨hk, ec⟩ := LJ h7 hgo
  have hxl : pts[a]!.x.toNat < ts.length := by have := hx.2 (by omega);omega
  have huse : aO ts pts[a]! (pts[a]!.x.toNat : Nat) ≠ 0 := LZ h7 hxn
  have hty := (PA.t7 h7).1
  obtain ⟨u1,u2,u3,u4,u5⟩ := R.use w B ha hu hxl (by omega) huse
  rw [ec] at hmm ⊢
  refine RfI.fin1 he hmm hs ((R.tch hT B.w.k.m B.sm hP hxl (by omega) u1 (IU hk) u5 (fun _ => by omega) (qX hC (.inr (.inr (.inl ⟨.inl h7,hxn.symm,rfl⟩))))).cong (O5 hk)) (hno (by omega))
 by_cases h8 : pts[a]!.op = 8
 ·obtain ⟨hk, ec⟩ := L1 h8 hgo
  have hxl : pts[a]!.x.toNat < ts.length := by have := hx.2 (by omega);omega
  have huse : aO ts pts[a]! (pts[a]!.x.toNat : Nat) ≠ 0 := LX h8 hxn
  have hset := gX hu hxl huse
  have hty := PA.t2 (.inr h8)
  rw [ec] at hmm ⊢
  refine RfI.fin1 he hmm hs (R.fr B.w.h hP (fun v q1 q2 q3 => (B.f v q1 q2 q3).2.2.1) hxl hty hset hk (B.w.o _ hxl hty hset).2.2.1 fun v hv hg => ?_) (hno (by omega))
  exact qX hC (.inr (.inr (.inl ⟨.inr h8,hxn.symm,rfl⟩))) v hv hg (.inl rfl)
 ·have e := IG (ts := ts) (s := s) (x := pts[a]!) (by omega) h11
  rw [e] at hmm hs ⊢
  exact RfI.fin1 he hmm hs R0 (hno (by omega))
end
structure Mo (m m' : List Cl) : Prop where
 l : m.length ≤ m'.length
 n : ∀ c,c < m.length → m[c]!.next ≤ m'[c]!.next
theorem Mo.refl (m:List Cl):Mo m m := ⟨Nat.le_refl _,fun _ _ => Int.le_refl _⟩
theorem Mo.trans {a b c:List Cl}(h:Mo a b) (h':Mo b c):Mo a c := ⟨Nat.le_trans h.l h'.l,fun i hi => Int.le_trans (h.n i hi) (h'.n i (Nat.lt_of_lt_of_le hi h.l))⟩
theorem Mo.set {m:List Cl}{k:Nat}{c:Cl}(h:m[k]!.next ≤ c.next):Mo m (m.set k c):=by
 refine ⟨by rw [List.length_set]; exact Nat.le_refl _,fun i hi => ?_⟩
 rw [aP]
 split
 ·rename_i q;rw [← q.1]; exact h
 ·exact Int.le_refl _
theorem Mo.app (m:List Cl) (z:Cl):Mo m (m ++ [z]) := ⟨by rw [List.length_append]; omega,fun i hi => by rw [nS hi]; exact Int.le_refl _⟩
theorem Mo.tch (m:List Cl) (x:Pt) (wr:Bool):Mo m (cP m x wr):=by
 unfold cP;split
 ·exact Mo.set (Int.le_refl _)
 ·exact Mo.refl _
theorem Mo.fr (m:List Cl) (x:Pt):Mo m (gO m x):=by
 unfold gO;split
 ·exact Mo.set (Int.le_refl _)
 ·exact Mo.refl _
theorem Mo.wr (m:List Cl) (x:Pt) (v:Int):Mo m (nU m x v):=by
 unfold nU;split
 ·exact Mo.set (Int.le_refl _)
 ·exact Mo.refl _
theorem Mo.ln (m:List Cl) (x:Pt) (u:Bool):Mo m (jI m x u):=by
 unfold jI;split
 ·refine Mo.set ?_
  show m[x.cell.toNat]!.next ≤ m[x.cell.toNat]!.next + 1
  omega
 ·exact Mo.refl _
section
variable {ts : List Int} {pts : List Pnt} {N : Int} {a k : Nat} {s : Mc}
theorem OW (w:WG ts pts) (A:WA ts pts) (ha:a < pts.length) (h11:pts[a]!.op ≠ 11) (hN:1 ≤ N) (h:ShM N s.cells) (hgo:(bO ts s pts[a]!).2 = -1):ShM (N + 1) (bO ts s pts[a]!).1.cells ∧ Mo s.cells (bO ts s pts[a]!).1.cells:=by
 have PA := A.a a ha
 have hop := w.op a ha
 by_cases h1 : pts[a]!.op = 1
 ·rw [LV PA h1]; exact ⟨h.mono (by omega),Mo.refl _⟩
 by_cases h2 : pts[a]!.op = 2
 ·have h' := h.nw hN pts[a]!.n
  rw [L9 h2 hgo]
  split
  ·exact ⟨(h'.fr _).mono (by omega),(Mo.app _ _).trans (Mo.fr _ _)⟩
  ·exact ⟨h'.mono (by omega),Mo.app _ _⟩
 by_cases h3 : pts[a]!.op = 3
 ·have hx := w.x a ha
  have hyb := w.y a ha
  have hne := (PA.t3 h3).2
  rw [LO h3 (fun q => hne (by omega))]
  split
  ·exact ⟨(h.fr _).mono (by omega),Mo.fr _ _⟩
  ·exact ⟨h.mono (by omega),Mo.refl _⟩
 by_cases h4 : pts[a]!.op = 4 ∨ pts[a]!.op = 5
 ·rw [(Ja PA h4 hgo).2]; exact ⟨h.ln _ _,Mo.ln _ _ _⟩
 by_cases h6 : pts[a]!.op = 6
 ·rw [(HA PA h6 hgo).2]; exact ⟨(h.tch _ _).mono (by omega),Mo.tch _ _ _⟩
 by_cases h7 : pts[a]!.op = 7
 ·rw [(LJ h7 hgo).2]; exact ⟨(h.wr _ _).mono (by omega),Mo.wr _ _ _⟩
 by_cases h8 : pts[a]!.op = 8
 ·rw [(L1 h8 hgo).2]; exact ⟨(h.fr _).mono (by omega),Mo.fr _ _⟩
 ·rw [IG (by omega) h11]; exact ⟨h.mono (by omega),Mo.refl _⟩
theorem Bs.step (w:WG ts pts) (A:WA ts pts) (ha:a < pts.length) (h11:pts[a]!.op ≠ 11) (hN:1 ≤ N) (B:Bs ts N s) (hu:b7 ts s pts[a]! = false) (hgo:(bO ts s pts[a]!).2 = -1):Bs ts (N + 1) (bO ts s pts[a]!).1:=by
 have PA := A.a a ha
 have hx := w.x a ha
 have hyb := w.y a ha
 have hop := w.op a ha
 have hs := w.doY A ha B.w.k.l hu h11 hgo
 obtain ⟨g1,g2⟩ := OW w A ha h11 hN B.sm hgo
 have hxn : ((pts[a]!.x.toNat : Nat) : Int) = pts[a]!.x := by omega
 have hyn : ((pts[a]!.y.toNat : Nat) : Int) = pts[a]!.y := by omega
 have hv2 : ∀ v : Nat, aL pts[a]! = (v : Int) → (1 ≤ pts[a]!.op ∧ pts[a]!.op ≤ 6) ∧ v = pts[a]!.x.toNat := fun v e => by
  by_cases q : 7 ≤ pts[a]!.op
  ·rw [IE q] at e;omega
  ·rw [nQ (by omega)] at e;omega
 have old : ∀ v, v < ts.length → (bO ts s pts[a]!).1.slots[v]!.set = true → aL pts[a]! ≠ (v : Int) → aO ts pts[a]! v ≠ 2 ∧ (bO ts s pts[a]!).1.slots[v]! = s.slots[v]! := fun v hv h1 h2 => by
  have e := hs v hv
  rw [if_neg h2] at e
  by_cases q : aO ts pts[a]! v = 2
  ·rw [if_pos q] at e;rw [e] at h1;cases h1
  ·rw [if_neg q] at e;exact ⟨q,e⟩
 have oldf : ∀ v, v < ts.length → 3 ≤ ts[v]! → s.slots[v]!.set = true → 0 ≤ s.slots[v]!.ptr.cell ∧ s.slots[v]!.ptr.cell < (bO ts s pts[a]!).1.cells.length ∧ 1 ≤ s.slots[v]!.ptr.tag ∧ s.slots[v]!.ptr.tag < (bO ts s pts[a]!).1.cells[fU s.slots v]!.next := fun v h1 h2 h3 => by
  obtain ⟨f1,f2,f3,f4⟩ := B.f v h1 h2 h3
  have := g2.l
  have h5 := g2.n (fU s.slots v) (by unfold fU;omega)
  exact ⟨f1,by omega,f3,by omega⟩
 -- a new reference
 have newf : ∀ v : Nat, aL pts[a]! = (v : Int) → v < ts.length → 3 ≤ ts[v]! → (pts[a]!.op = 3 ∧ yF s pts[a]! = s.slots[pts[a]!.y.toNat]! ∧ pts[a]!.y.toNat < ts.length ∧ ts[pts[a]!.y.toNat]! = ts[v]! ∧ s.slots[pts[a]!.y.toNat]!.set = true) ∨
   (∃ c : Nat,c < s.cells.length ∧ (yF s pts[a]!).ptr = ⟨(c : Int),s.cells[c]!.next⟩ ∧ s.cells[c]!.next + 1 ≤ (bO ts s pts[a]!).1.cells[c]!.next) := fun v e hv h3 => by
  obtain ⟨o1,o2⟩ := hv2 v e
  by_cases h1 : pts[a]!.op = 1
  ·have := PA.t1 h1;rw [← o2] at this;omega
  by_cases h2 : pts[a]!.op = 2
  ·have := PA.t2 (.inl h2);rw [← o2] at this;omega
  by_cases h3' : pts[a]!.op = 3
  ·have hyl : pts[a]!.y.toNat < ts.length := by have := hyb.2 (by omega) (by omega); omega
   refine .inl ⟨h3',by unfold yF;rw [if_neg h1,if_neg h2,if_pos h3'],hyl,?_,gX hu hyl (I5 h3' hyn)⟩
   rw [o2]; exact (PA.t3 h3').1.symm
  by_cases h4 : pts[a]!.op = 4 ∨ pts[a]!.op = 5
  ·obtain ⟨hk, ec⟩ := Ja PA h4 hgo
   have hx0 := dM (lC hk)
   refine .inr ⟨s.slots[pts[a]!.y.toNat]!.ptr.cell.toNat,hx0.2.2,?_,?_⟩
   ·unfold yF; rw [if_neg h1, if_neg h2, if_neg h3', if_pos h4]
    dsimp only
    unfold oH;rw [if_pos hk,Int.toNat_of_nonneg hx0.1]
   ·rw [ec, Dv hk, if_pos rfl]
    show _ ≤ (hZ _ _ _).next + 1
    exact Int.le_refl _
  ·have h6 : pts[a]!.op = 6 := by omega
   have := (PA.t6 h6).1;rw [← o2] at this;omega
 refine ⟨B.w.do PA h11 (fun h => ⟨hx.1,hx.2 h⟩) hop.1 (fun h1 h2 => ⟨hyb.1,hyb.2 h1 h2⟩) hu,fun v hv ht => ?_,g1,fun v hv h3 hset => ?_,fun v u hv hul h4 h4' hset hset' hce htg => ?_⟩
 ·rw [hs v hv]
  by_cases q : aL pts[a]! = (v : Int)
  ·rw [if_pos q]
   obtain ⟨o1,o2⟩ := hv2 v q
   unfold yF
   by_cases h1 : pts[a]!.op = 1
   ·rw [if_pos h1]; exact PA.n (.inl h1)
   rw [if_neg h1]
   by_cases h2 : pts[a]!.op = 2
   ·have := PA.t2 (.inl h2);rw [← o2] at this;omega
   rw [if_neg h2]
   by_cases h3 : pts[a]!.op = 3
   ·rw [if_pos h3]
    have hyl : pts[a]!.y.toNat < ts.length := by have := hyb.2 (by omega) (by omega);omega
    have := (PA.t3 h3).1
    rw [← o2,ht] at this
    exact B.i _ hyl this.symm
   rw [if_neg h3]
   by_cases h4 : pts[a]!.op = 4 ∨ pts[a]!.op = 5
   ·rcases h4 with h | h
    ·have := (PA.t4 h).1;rw [← o2] at this;omega
    ·have := (PA.t5 h).1;rw [← o2] at this;omega
   rw [if_neg h4]
   have h6 : pts[a]!.op = 6 := by omega
   have hk := (HA PA h6 hgo).1
   dsimp only
   unfold nL;rw [if_pos hk]
   exact (B.w.k.m.at (dM hk).2.2).v
  ·rw [if_neg q]
   split
   ·exact ⟨by decide,by decide⟩
   ·exact B.i v hv ht
 ·by_cases q : aL pts[a]! = (v : Int)
  ·have e := hs v hv
   rw [if_pos q] at e
   unfold fU
   rw [e]
   rcases newf v q hv h3 with ⟨n1,n2,n3,n4,n5⟩ | ⟨c,n1,n2,n3⟩
   ·rw [n2]; exact oldf _ n3 (by omega) n5
   ·rw [n2]
    have := g2.l
    have h5 := (B.w.k.m.at n1).n
    exact ⟨by dsimp only;omega,by dsimp only;omega,h5.1,by show s.cells[c]!.next < (bO ts s pts[a]!).1.cells[c]!.next;omega⟩
  ·obtain ⟨_, e⟩ := old v hv hset q
   unfold fU
   rw [e] at hset ⊢
   exact oldf v hv h3 hset
 ·have fresh : ∀ (v u : Nat), aL pts[a]! = (v : Int) → v < ts.length → u < ts.length → ts[v]! = 4 → ts[u]! = 4 → aL pts[a]! ≠ (u : Int) → (bO ts s pts[a]!).1.slots[u]!.set = true →
    fU (bO ts s pts[a]!).1.slots v = fU (bO ts s pts[a]!).1.slots u → (bO ts s pts[a]!).1.slots[v]!.ptr.tag = (bO ts s pts[a]!).1.slots[u]!.ptr.tag → False := fun v u e hv hul h4 h4' ne hset hce htg => by
   have e1 := hs v hv
   rw [if_pos e] at e1
   obtain ⟨n0,e2⟩ := old u hul hset ne
   unfold fU at hce
   rw [e1,e2] at hce htg
   rw [e2] at hset
   rcases newf v e hv (by omega) with ⟨n1,n2,n3,n4,n5⟩ | ⟨c,n1,n2,n3⟩
   ·rw [n2] at hce htg
    have := B.d _ u n3 hul (by omega) h4' n5 hset hce htg
    rw [← this] at n0
    exact n0 (NN n1 hyn (.inr (by omega)))
   ·rw [n2] at hce htg
    have f := (B.f u hul (by omega) hset)
    dsimp only at hce htg
    have e3 : fU s.slots u = c := by unfold fU;omega
    rw [e3] at f
    omega
  by_cases q : aL pts[a]! = (v : Int)
  ·by_cases q' : aL pts[a]! = (u : Int)
   ·omega
   ·exact (fresh v u q hv hul h4 h4' q' hset' hce htg).elim
  ·by_cases q' : aL pts[a]! = (u : Int)
   ·exact (fresh u v q' hul hv h4' h4 q hset hce.symm htg.symm).elim
   ·obtain ⟨_, e⟩ := old v hv hset q
    obtain ⟨_,e'⟩ := old u hul hset' q'
    unfold fU at hce
    rw [e] at hset hce htg
    rw [e'] at hset' hce htg
    exact B.d v u hv hul h4 h4' hset hset' hce htg
theorem KE (w:WG ts pts) (A:WA ts pts) (ha:a < pts.length) (h11:pts[a]!.op ≠ 11) (hN:N ≤ 198) (B:Bs ts N s) (R:RfI ts (fun v => Nd ts pts (a,v)) (Ln ts pts a) s.slots s.cells) (hu:b7 ts s pts[a]! = false):(bO ts s pts[a]!).2 = -1 ∨ (bO ts s pts[a]!).2 = 1:=by
 have PA := A.a a ha
 have hx := w.x a ha
 have hyb := w.y a ha
 have hop := w.op a ha
 have hxn : ((pts[a]!.x.toNat : Nat) : Int) = pts[a]!.x := by omega
 have hyn : ((pts[a]!.y.toNat : Nat) : Int) = pts[a]!.y := by omega
 by_cases h9 : 9 ≤ pts[a]!.op
 ·rw [IG h9 h11]; exact .inl rfl
 have hxl : pts[a]!.x.toNat < ts.length := by have := hx.2 (by omega);omega
 unfold bO
 by_cases h1 : pts[a]!.op = 1
 ·rw [if_pos h1]; exact .inl (B.w.put0 (by rw [PA.t1 h1]; decide) _).2
 rw [if_neg h1]
 by_cases h2 : pts[a]!.op = 2
 ·rw [if_pos h2]
  have ht := PA.t2 (.inl h2)
  by_cases h200 : s.cells.length = 200
  ·rw [if_pos h200]; exact .inr rfl
  ·rw [if_neg h200]
   exact .inl ((B.w.new (PA.n (.inr h2)) h200 s.read).putB (v := pts[a]!.x.toNat) hxl ht _ rfl rfl).2
 rw [if_neg h2]
 by_cases h3 : pts[a]!.op = 3
 ·rw [if_pos h3]
  have hyl : pts[a]!.y.toNat < ts.length := by have := hyb.2 (by omega) (by omega);omega
  obtain ⟨ht,hne⟩ := PA.t3 h3
  have hys := gX hu hyl (I5 h3 hyn)
  by_cases q2 : ts[pts[a]!.y.toNat]! = 2
  ·rw [if_pos (uW.2 (.inl q2))]
   have g := B.w.give hyl q2 hys
   obtain ⟨b1,b2,b3,b4⟩ := B.w.o _ hyl q2 hys
   refine .inl (g.putB (v := pts[a]!.x.toNat) hxl (by rw [ht]; exact q2) _ hys ?_).2
   generalize s.slots[pts[a]!.y.toNat]! = z at b1 b3
   obtain ⟨zs,zn,zc,zt⟩ := z
   dsimp only at b1 b3 ⊢
   rw [b3,Int.toNat_of_nonneg b1]
  ·split
   ·exact .inl ((B.w.clr (v := pts[a]!.y.toNat) q2).put0 (by rw [ht]; exact q2) _).2
   ·exact .inl (B.w.put0 (by rw [ht]; exact q2) _).2
 rw [if_neg h3]
 by_cases h4 : pts[a]!.op = 4 ∨ pts[a]!.op = 5
 ·rw [if_pos h4]
  have hyl : pts[a]!.y.toNat < ts.length := by have := hyb.2 (by omega) (by omega);omega
  have huse : aO ts pts[a]! (pts[a]!.y.toNat : Nat) ≠ 0 := rY (by omega) hyn
  have hty : 2 ≤ ts[pts[a]!.y.toNat]! ∧ (pts[a]!.op = 5 → ts[pts[a]!.y.toNat]! ≠ 3) := by
   rcases h4 with h|h
   ·exact ⟨(PA.t4 h).2.2,fun q => by omega⟩
   ·have := (PA.t5 h).2.2;exact ⟨by omega,fun _ => by omega⟩
  have hxt : ts[pts[a]!.x.toNat]! ≠ 2 := by
   rcases h4 with h4|h4
   ·rw [(PA.t4 h4).1]; decide
   ·rw [(PA.t5 h4).1]; decide
  have hk : aY s.cells s.slots[pts[a]!.y.toNat]!.ptr (decide (pts[a]!.op = 5)) = 0 := R.code w B ha hu hyl hty.1 huse (fun q => hty.2 (by simpa using q))
  have hsh := (B.sm.at (dM hk).2.2).tch s.slots[pts[a]!.y.toNat]!.ptr (decide (pts[a]!.op = 5))
  have hl : j7 s.cells s.slots[pts[a]!.y.toNat]!.ptr (decide (pts[a]!.op = 5)) = 0 := by
   unfold j7;rw [if_pos hk,if_neg]
   have h5 := hsh.l
   have h6 := hsh.n
   unfold Ck
   omega
  rw [if_pos hl]
  exact .inl ((B.w.cells (B.w.k.m.ln _ _) (B.w.h.ln B.w.k.m _ _) (DY _ _ _) (fun c hc => IL _ _ _ c hc) _).put0 hxt _).2
 rw [if_neg h4]
 by_cases h6 : pts[a]!.op = 6
 ·rw [if_pos h6]
  have hyl : pts[a]!.y.toNat < ts.length := by have := hyb.2 (by omega) (by omega);omega
  have hxt : ts[pts[a]!.x.toNat]! ≠ 2 := by rw [(PA.t6 h6).1]; decide
  have hk : aY s.cells s.slots[pts[a]!.y.toNat]!.ptr false = 0 := R.code w B ha hu hyl (PA.t6 h6).2 (rY (by omega) hyn) (fun q => by cases q)
  rw [if_pos hk]
  exact .inl ((B.w.cells (B.w.k.m.tch _ _) (B.w.h.tch B.w.k.m _ _) (lW _ _ _) (fun c hc => Dz _ _ _ c hc) _).put0 hxt _).2
 rw [if_neg h6]
 by_cases h7 : pts[a]!.op = 7
 ·rw [if_pos h7]
  have hyl : pts[a]!.y.toNat < ts.length := by have := hyb.2 (by omega) (by omega);omega
  obtain ⟨ht,ht'⟩ := PA.t7 h7
  have hk : aY s.cells s.slots[pts[a]!.x.toNat]!.ptr true = 0 := R.code w B ha hu hxl (by omega) (LZ h7 hxn) (fun _ => by omega)
  refine .inl ?_
  show jX _ = -1
  unfold jX o6;rw [if_pos (B.i _ hyl ht'),if_pos hk]
 rw [if_neg h7]
 have h8 : pts[a]!.op = 8 := by omega
 rw [if_pos h8]
 have hset := gX hu hxl (LX h8 hxn)
 refine .inl ?_
 show jX _ = -1
 unfold jX;rw [if_pos (B.w.k0 hxl (PA.t2 (.inr h8)) hset true)]
theorem IN (w:WG ts pts) (A:WA ts pts) (I:Nat → Nat → Mc → Prop)
  (hI : ∀ n a s k,a < pts.length → pts[a]!.op ≠ 11 → cR pts a k → I (n + 1) a s → b7 ts s pts[a]! = false → (bO ts s pts[a]!).2 = -1 → I n k (bO ts s pts[a]!).1) :
  ∀ n a cs s last,a < pts.length → I n a s → LU ts pts (fun a s => ∃ n,I n a s) (gL ts pts (dJ pts n a cs).1 s last) := by
 intro n
 induction n with
 | zero =>
  intro a cs s last ha hs
  by_cases h11 : pts[a]!.op = 11
  ·have e : (dJ pts 0 a cs).1 = [a] := by unfold dJ; rw [if_pos h11]
   rw [e]; exact pE ha ⟨_,hs⟩ h11
  ·have e : (dJ pts 0 a cs).1 = [] := by rw [dJ, if_neg h11]
   rw [e]; exact .inl rfl
 | succ n ih =>
  intro a cs s last ha hs
  by_cases h11 : pts[a]!.op = 11
  ·have e : (dJ pts (n + 1) a cs).1 = [a] := by unfold dJ; rw [if_pos h11]
   rw [e]; exact pE ha ⟨_,hs⟩ h11
  ·have e : (dJ pts (n + 1) a cs).1 = a :: (dJ pts n (gM pts a cs).1 (gM pts a cs).2).1 := by rw [dJ, if_neg h11]
   have he := tC w A ha h11 cs
   rw [e]
   exact xU ha ⟨_,hs⟩ fun h1 h2 => ih _ _ _ _ (cY w he) (hI n a s _ ha h11 he hs h1 h2)
def Rt (pts : List Pnt) (c b : Nat) : Prop := Clo (fun b => cR pts c b) (fun a b => cR pts a b) b
structure Jv (ts : List Int) (pts : List Pnt) (n a : Nat) (s : Mc) : Prop where
 b : ∃ N : Int,1 ≤ N ∧ N + n ≤ 198 ∧ Bs ts N s
 v : Vs ts pts a s
 r : (∃ c L,Cf ts pts c L ∧ Rt pts c a) ∨ RfI ts (fun v => Nd ts pts (a,v)) (Ln ts pts a) s.slots s.cells
theorem Jv.start {n:Nat}(hn:n ≤ 197):Jv ts pts n 0 (mc0 ts.length):=by
 have e : ∀ v, v < ts.length → (mc0 ts.length).slots[v]! = fZ := fun v hv => by
  show (List.replicate ts.length fZ)[v]! = fZ
  rw [a7 _ _ (by simpa using hv)]; simp
 refine ⟨⟨1,by omega,by omega,Own.start ts,fun v hv _ => ?_,fun c hc => ?_,fun v hv _ h => ?_,fun v u hv hul _ _ h => ?_⟩,Vs.start,.inr ⟨fun v hv _ h => ?_,fun v u hv hul _ _ h => ?_⟩⟩
 ·rw [e v hv]; exact ⟨by decide,by decide⟩
 ·have : c ∈ ([] : List Cl) := hc
  cases this
 all_goals (rw [e v hv] at h;cases h)
theorem Hz (w:WG ts pts) (A:WA ts pts) (cs:List Int) (n:Nat) (hn:n ≤ 197) (h:(dL ts pts cs n).2.1 = 3 ∨ (dL ts pts cs n).2.1 = 4):∃ c L,Cf ts pts c L ∧ Rt pts c (dL ts pts cs n).2.2:=by
 have ho := IN w A (Jv ts pts) (fun n a s k ha h11 he hJ hu hgo => by
  obtain ⟨⟨N,hN1,hN2,B⟩,V,R⟩ := hJ
  refine ⟨⟨N + 1,by omega,by omega,B.step w A ha h11 hN1 hu hgo⟩,V.step w A a s k ha h11 he hu hgo,?_⟩
  rcases R with ⟨c,L,h1,h2⟩ | R
  ·exact .inl ⟨c,L,h1,.step h2 he⟩
  ·by_cases hC : ∃ L, Cf ts pts a L
   ·obtain ⟨L, hL⟩ := hC
    exact .inl ⟨a,L,hL,.base he⟩
   ·exact .inr (R.step w A he h11 B V (fun L hL => hC ⟨L,hL⟩) hu hgo)) n 0 cs (mc0 ts.length) 0 w.p0 (Jv.start hn)
 change LU ts pts _ (dL ts pts cs n) at ho
 rcases ho with ho | ⟨s',h0,⟨m,J⟩,⟨h3,_⟩ | ⟨h3,h4,h5,h6⟩⟩
 ·omega
 ·omega
 ·rcases J.r with hr | R
  ·exact hr
  ·exfalso
   obtain ⟨N,hN1,hN2,B⟩ := J.b
   by_cases q : pts[(dL ts pts cs n).2.2]!.op = 11
   ·rw [tN q,(Own.fin ts.length 0 s' B.w (by omega) (fun u hu => by omega)).1] at h6;omega
   ·rcases KE w A h0 q (by omega) B R h3 with e | e
    ·exact h4 e
    ·omega
end
section
variable {ts : List Int} {pts : List Pnt} {a : Nat} {s : Mc}
theorem It {f:Flows ts pts}{i:Iss}(ha:a < pts.length) (h:i ∈ vZ ts pts f.Aa f.Am f.Al f.Af f.Ap a):i ∈ f.iss := List.mem_flatMap.2 ⟨a,List.mem_range.2 ha,h⟩
theorem JD {x:Pnt}{v:Nat}:(g8 x).testBit v = decide (aL x = (v:Int)):=by
 unfold g8
 split
 ·rw [Nat.testBit_two_pow,decide_eq_decide]; omega
 ·rw [Nat.zero_testBit]; exact (decide_eq_false (by omega)).symm
theorem M4 (w:WG ts pts) (f:Flows ts pts){L:Nat}(ha:a < pts.length) (h:Cf ts pts a L):(⟨a,if pts[L]!.op = 5 then 3 else 2,L⟩:Iss) ∈ f.iss:=by
 obtain ⟨v,u,wr,hk,hA,hf,hp,hy,hw⟩ := h
 obtain ⟨hl,hln⟩ := lD hp
 dsimp only at hl hln
 obtain ⟨_,hvl,_⟩ := s8 w hf
 dsimp only at hvl
 have htl := w.tl
 have hpl := w.pl
 have hyw := w.y L hl
 have hx := w.x a ha
 have hya := w.y a ha
 refine It ha (List.mem_append_right _ (List.mem_map.2 ⟨(L : Int),bR.2 ⟨L,by omega,?_,rfl⟩,by rw [Int.toNat_natCast]⟩))
 rw [Jp w f ha hl hln,Bool.and_eq_true,Bool.and_eq_true]
 refine ⟨List.any_eq_true.2 ?_,?_,(f.gp.2 a ha L).2 hp⟩
 ·have near : ∀ c : Acc, c.var = (u : Int) → c.write = wr → Bj pts L c = true := fun c h1 h2 => by
   unfold Bj
   rw [h1,h2,hy,decide_eq_true rfl,Bool.true_and]
   rcases hw with h|h
   ·rw [h]; rfl
   ·rw [decide_eq_true h]; simp
  unfold fE
  rcases hA with ⟨h,e,e2⟩ | ⟨h,e,e2⟩ | ⟨h,e,e2⟩ | ⟨h,ht,e,e2⟩ | ⟨h,ht,hm,e2⟩
  ·exact ⟨⟨pts[a]!.y,false⟩,List.mem_append_left _ (by rw [if_pos h]; simp),near _ e e2.symm⟩
  ·exact ⟨⟨pts[a]!.y,true⟩,List.mem_append_left _ (by rw [if_neg (by omega),if_pos h]; simp),near _ e e2.symm⟩
  ·exact ⟨⟨pts[a]!.x,true⟩,List.mem_append_left _ (by rw [if_neg (by omega),if_neg (by omega),if_pos h]; simp),near _ e e2.symm⟩
  ·refine ⟨⟨pts[a]!.y, true⟩, List.mem_append_left _ ?_, near _ e e2.symm⟩
   rw [if_neg (by omega),if_neg (by omega),if_neg (by omega),if_pos ⟨h,by rw [e,Int.toNat_natCast]; exact ht⟩]; simp
  ·refine ⟨⟨aL pts[a]!, true⟩, List.mem_append_right _ ?_, near _ h e2.symm⟩
   rw [if_pos ⟨by omega,by rw [h,Int.toNat_natCast]; exact ht,by rw [h,Int.toNat_natCast]; exact (f.gm.2 a ha u).2 hm⟩]; simp
 ·unfold kN
  rw [c9]
  refine .inr ⟨(v : Int),bR.2 ⟨v,by omega,?_,rfl⟩,?_⟩
  ·rw [bY, (f.gl.2 a ha v).2 hk.1, Bool.true_and, Nat.testBit_or, b9, JD, decide_eq_false hk.2.1]
   have : decide (aO ts pts[a]! v ∈ ([2] : List Int)) = false := decide_eq_false (by simpa using hk.2.2)
   rw [this]; simp
  ·rw [Int.toNat_natCast, dK f.gf.1 ha (by omega)]
   exact (f.gf.2 a v ha (by omega) L).2 hf
theorem JC (w:WG ts pts) (f:Flows ts pts) (ha:a < pts.length) (V:Vs ts pts a s) (h:b7 ts s pts[a]! = true):∃ v:Nat,(⟨a,1,v⟩:Iss) ∈ f.iss:=by
 obtain ⟨v,hv,hu,hf⟩ := uH h
 have htl := w.tl
 refine ⟨v,It ha (List.mem_append_left _ (List.mem_map.2 ⟨(v : Int),bR.2 ⟨v,by omega,?_,rfl⟩,rfl⟩))⟩
 rw [bY,b9,decide_eq_true hv,Bool.true_and,Bool.and_eq_true]
 refine ⟨decide_eq_true (by have := lZ ts pts[a]! v;simp only [List.mem_cons,List.not_mem_nil,or_false]; omega),?_⟩
 have := f.ga.2 a ha v
 cases q : f.Aa[a]!.testBit v with
 | false => rfl
 | true => exact absurd (V.u v hv hf) ((this.1 q).2)
theorem Fm (w:WG ts pts) (A:WA ts pts) (cs:List Int) (n:Nat):(dL ts pts cs n).2.1 = 0 ∨ (dL ts pts cs n).2.1 = 1 ∨ (dL ts pts cs n).2.1 = 2 ∨ (dL ts pts cs n).2.1 = 3 ∨ (dL ts pts cs n).2.1 = 4:=by
 have h := DH w A (Vs ts pts) (Vs.step w A) n 0 cs (mc0 ts.length) 0 w.p0 Vs.start
 change LU ts pts (Vs ts pts) (dL ts pts cs n) at h
 rcases h with h | ⟨s',h0,hI,⟨h3,_⟩ | ⟨_,h4,_,h5⟩⟩
 ·exact .inr (.inl h)
 ·exact .inr (.inr (.inl h3))
 ·rw [h5]
  by_cases q : pts[(dL ts pts cs n).2.2]!.op = 11
  ·rw [tN q]
   rcases mZ ts ts.length 0 s' with e|e|e <;> (rw [e]; simp)
  ·rcases Hg (ts := ts) (s := s') q with e | e | e | e
   ·exact absurd e h4
   all_goals (rw [e]; simp)
theorem J2 (w:WG ts pts) (A:WA ts pts) (f:Flows ts pts) (cs:List Int) (n:Nat) (hn:n ≤ 197) (h:(dL ts pts cs n).2.1 ≠ 0 ∧ (dL ts pts cs n).2.1 ≠ 1) :
  ∃ (c : Nat) (i : Iss),i ∈ f.iss ∧ i.point = (c : Int) ∧ c < pts.length ∧ ((dL ts pts cs n).2.1 = 2 ∧ c = (dL ts pts cs n).2.2 ∨ (dL ts pts cs n).2.1 ≠ 2 ∧ i.kind ≠ 1 ∧ Rt pts c (dL ts pts cs n).2.2) := by
 by_cases h2 : (dL ts pts cs n).2.1 = 2
 ·have ho := DH w A (Vs ts pts) (Vs.step w A) n 0 cs (mc0 ts.length) 0 w.p0 Vs.start
  change LU ts pts (Vs ts pts) (dL ts pts cs n) at ho
  rcases ho with ho | ⟨s',h0,hI,⟨_,h3,_⟩ | ⟨_,h4,_,h5⟩⟩
  ·rw [ho] at h2;cases h2
  ·obtain ⟨v, hv⟩ := JC w f h0 hI h3
   exact ⟨_,_,hv,rfl,h0,.inl ⟨h2,rfl⟩⟩
  ·rw [h2] at h5
   by_cases q : pts[(dL ts pts cs n).2.2]!.op = 11
   ·rw [tN q] at h5
    rcases mZ ts ts.length 0 s' with e|e|e <;> (rw [e] at h5;cases h5)
   ·rcases Hg (ts := ts) (s := s') q with e|e|e|e <;> (rw [e] at h5;cases h5)
 ·have hc := Fm w A cs n
  obtain ⟨c,L,h3,h4⟩ := Hz w A cs n hn (by omega)
  have hcl : c < pts.length := by
   clear h3 hc h h2
   generalize (dL ts pts cs n).2.2 = b at h4
   induction h4 with
   | base h => exact h.1
   | step _ _ ih => exact ih
  refine ⟨c,_,M4 w f hcl h3,rfl,hcl,.inr ⟨h2,?_,h4⟩⟩
  dsimp only
  split <;> decide
theorem Fa (w:WG ts pts) (A:WA ts pts) (f:Flows ts pts) (cs:List Int) (n:Nat) (hn:n ≤ 197) (h:f.iss = []):(dL ts pts cs n).2.1 = 0 ∨ (dL ts pts cs n).2.1 = 1:=by
 apply Classical.byContradiction;intro q
 obtain ⟨c,i,hi,_⟩ := J2 w A f cs n hn ⟨fun e => q (.inl e),fun e => q (.inr e)⟩
 rw [h] at hi;cases hi
end
open Go.RowKit Go.MapKept
def Pj (r : Nat) (ks : List Int) (w : World) : Prop := ∃ es ck,w.heap[r]? = some (.map es ck) ∧ ∀ e ∈ es.toList,∃ k ∈ ks,e.key = .int .i64 k
structure GsM (C : Ctx) (s : AS) (r : Nat) (ks : List Int) (a : Act) (w : World) : Prop where
 g : Gs C s a w
 m : Pj r ks w
 l : C.w0.heap.size ≤ r
theorem Fr.trans2 {W0 W1:Nat → Prop}{w0 w w':World}(h:Fr W0 w0 w) (k:Fr W1 w w') (hW:∀ b,W1 b → W0 b ∨ w0.heap.size ≤ b):Fr W0 w0 w' :=
 ⟨k.os.trans h.os, k.tape.trans h.tape, k.output.trans h.output, Nat.le_trans h.size k.size, fun b hb hw => by
  rw [k.block b (Nat.lt_of_lt_of_le hb h.size) (fun q => (hW b q).elim hw (fun h => by omega))]; exact h.block b hb hw,fun b => Nat.le_trans (h.bs b) (k.bs b)⟩
theorem GsM.base {C:Ctx}{s:AS}{r:Nat}{ks:List Int}{a:Act}{w:World}(h:GsM C s r ks a w):∃ C':Ctx,C'.N = C.N ∧ Gs C' s a w ∧ ∀ s' a' w',Gs C' s' a' w' → GsM C s' r ks a' w':=by
 obtain ⟨⟨h0,ι,g,gh⟩,⟨es,ck,hm,hk⟩,hl⟩ := h
 let C' : Ctx := { C with w0 := w,W0 := fun b => ∃ id cs β,aQ s.hs id = some cs ∧ ι id = some (some (b,β)),xlt := fun b hb => Nat.lt_of_lt_of_le (C.xlt b hb) gh.fr.size }
 have hW : ∀ b, C'.W0 b → C.W0 b ∨ C.w0.heap.size ≤ b := by
  rintro b ⟨id,cs,β,h1,h2⟩
  rcases gh.obj id cs h1 with ⟨h3,_⟩ | ⟨b',β',arr,e,h3,h4,h5,h6,h7,h8⟩
  ·rw [h3] at h2;cases h2
  ·rw [h3] at h2;cases h2;exact h8
 have hr : ¬ C'.W0 r := by
  rintro ⟨id,cs,β,h1,h2⟩
  rcases gh.obj id cs h1 with ⟨h3,_⟩ | ⟨b',β',arr,e,h3,h4,h5,h6,h7,h8⟩
  ·rw [h3] at h2;cases h2
  ·rw [h3] at h2;cases h2;rw [hm] at h4;cases h4
 refine ⟨C',rfl,⟨h0,ι,⟨g.df,g.sz,g.tm⟩,⟨fun id cs h => ?_,gh.sep,Fr.refl _ _,gh.ex,gh.fresh⟩⟩,?_⟩
 ·rcases gh.obj id cs h with h1 | ⟨b', β', arr, e, h3, h4, h5, h6, h7, h8⟩
  ·exact .inl h1
  ·exact .inr ⟨b',β',arr,e,h3,h4,h5,h6,h7,.inl ⟨id,cs,β',h,h3⟩⟩
 ·rintro s' a' w' ⟨h0', ι', g', gh'⟩
  have f : Fr C'.W0 w w' := gh'.fr
  refine ⟨⟨h0',ι',⟨g'.df,g'.sz,g'.tm⟩,⟨fun id cs h => ?_,gh'.sep,gh.fr.trans2 f hW,gh'.ex,gh'.fresh⟩⟩,⟨es,ck,by rw [f.block r (eY hm) hr]; exact hm,hk⟩,hl⟩
  rcases gh'.obj id cs h with h1 | ⟨b',β',arr,e,h3,h4,h5,h6,h7,h8⟩
  ·exact .inl h1
  ·refine .inr ⟨b', β', arr, e, h3, h4, h5, h6, h7, ?_⟩
   rcases h8 with h8|h8
   ·exact hW _ h8
   ·exact .inr (Nat.le_trans gh.fr.size h8)
def sB (P : Program) (N : Nat) (c : Code) (Q : Exit → AS → List Int → Prop) (r : Nat) (ks : List Int) (s : AS) : Prop :=
 ∀ (C : Ctx) (a : Act) (w : World),C.N = N → GsM C s r ks a w → c.wp P (fun e a' w' => ∃ s' ks',Q e s' ks' ∧ GsM C s' r ks' a' w') a w
def Gh (P : Program) (N : Nat) (all : Array Oper) (Q : Exit → AS → List Int → Prop) (r : Nat) (ks : List Int) (l : List Oper) (s : AS) : Prop :=
 ∀ (C : Ctx) (a : Act) (w : World),C.N = N → GsM C s r ks a w → wpList P all (fun e a' w' => ∃ s' ks',Q e s' ks' ∧ GsM C s' r ks' a' w') l a w
def sY (K : AS → List Int → Prop) (Q : Exit → AS → List Int → Prop) : Exit → AS → List Int → Prop
 | .normal,s,ks => K s ks
 | e,s,ks => Q e s ks
def JW (id : Nat) (Q : Exit → AS → List Int → Prop) : Exit → AS → List Int → Prop
 | .exit i,s,ks => if i = id then Q .normal s ks else Q (.exit i) s ks
 | e,s,ks => Q e s ks
section
variable {P : Program} {N : Nat} {Q : Exit → AS → List Int → Prop} {s : AS} {r : Nat} {ks : List Int}
theorem pQ {c:Code}(h:AW P N c (fun e s' => Q e s' ks) s):sB P N c Q r ks s:=by
 intro C a w hN g
 obtain ⟨C',h1,h2,h3⟩ := g.base
 exact wp_mono (h C' a w (h1.trans hN) h2) fun e a' w' ⟨s',q1,q2⟩ => ⟨s',ks,q1,h3 _ _ _ q2⟩
theorem kY {x y:Code}(h:sB P N x (sY (fun s' ks' => sB P N y Q r ks' s') Q) r ks s):sB P N (.seq x y) Q r ks s:=by
 intro C a w hN g
 refine wp_seq (wp_mono (h C a w hN g) ?_)
 rintro e a' w' ⟨s',ks',h1,h2⟩
 cases e with
 | normal => exact h1 C a' w' hN h2
 | _ => exact ⟨s',ks',h1,h2⟩
theorem AM {x y:Code}{c:Operand}{b:Bool}(hc:ev (lk s.ts) c = some (.v (.bool b))) (h1:b = true → sB P N x Q r ks s) (h2:b = false → sB P N y Q r ks s):sB P N (.cond c x y) Q r ks s:=by
 rintro C a w hN ⟨⟨h0,ι,g,gh⟩,hm,hl⟩
 have h := cA g hc
 simp only [Rd] at h
 cases b
 ·exact wp_cond_false h (h2 rfl C a w hN ⟨⟨h0,ι,g,gh⟩,hm,hl⟩)
 ·exact wp_cond_true h (h1 rfl C a w hN ⟨⟨h0,ι,g,gh⟩,hm,hl⟩)
theorem wQ {id:Nat}{c:Code}(h:sB P N c (JW id Q) r ks s):sB P N (.block id c) Q r ks s:=by
 intro C a w hN g
 refine wp_block (wp_mono (h C a w hN g) ?_)
 rintro e a' w' ⟨s',ks',h1,h2⟩
 cases e with
 | exit i =>
  simp only [Exit.inBlock,JW] at h1 ⊢
  split
  ·rename_i hi;rw [if_pos hi] at h1;exact ⟨s',ks',h1,h2⟩
  ·rename_i hi;rw [if_neg hi] at h1;exact ⟨s',ks',h1,h2⟩
 | _ => exact ⟨s',ks',h1,h2⟩
theorem Ba (h:Q .normal s ks):sB P N .skip Q r ks s := fun C a w _ g => wp_skip ⟨s,ks,h,g⟩
theorem Iq {id:Nat}(h:Q (.exit id) s ks):sB P N (.exit id) Q r ks s := fun C a w _ g => wp_exit ⟨s,ks,h,g⟩
theorem GY {σ:Type}{c:Code}(p:σ → Prop) (I:σ → AS) (J:σ → List Int) (μ:σ → Nat) (h0:∃ i,p i ∧ Le s (I i) ∧ J i = ks)
  (round : ∀ i,p i → sB P N c (sY (fun s' ks' => ∃ j,p j ∧ μ j < μ i ∧ Le s' (I j) ∧ J j = ks') Q) r (J i) (I i)) : sB P N (.loop c) Q r ks s := by
 intro C a w hN g
 obtain ⟨i,h1,h2,h3⟩ := h0
 subst h3
 refine wp_loop (fun a w => ∃ i,p i ∧ GsM C (I i) r (J i) a w) (fun a w => pK fun n => ∃ i,p i ∧ GsM C (I i) r (J i) a w ∧ μ i = n) ⟨i,h1,⟨h2 C a w g.g,g.m,g.l⟩⟩ ?_
 rintro a w ⟨i0,hp0,hg0⟩
 obtain ⟨⟨i,hp,hg,hm⟩,hmin⟩ := iN (S := fun n => ∃ i,p i ∧ GsM C (I i) r (J i) a w ∧ μ i = n) ⟨_,i0,hp0,hg0,rfl⟩
 refine wp_mono (round i hp C a w hN hg) ?_
 rintro e a' w' ⟨s',ks',h3,h4⟩
 cases e with
 | normal =>
  obtain ⟨j,q1,q2,q3,rfl⟩ := h3
  have h5 : GsM C (I j) r (J j) a' w' := ⟨q3 C a' w' h4.g,h4.m,h4.l⟩
  refine ⟨⟨j,q1,h5⟩,?_⟩
  have := (iN (S := fun n => ∃ i,p i ∧ GsM C (I i) r (J i) a' w' ∧ μ i = n) ⟨_,j,q1,h5,rfl⟩).2 (μ j) ⟨j,q1,h5,rfl⟩
  omega
 | _ => exact ⟨s',ks',h3,h4⟩
theorem FK {σ:Type}{c:Code}{ts:List (Nat × AV)}{hs:List (Nat × Option (List AV))}{n:Nat}{z0:Lo}(kl:List Nat) (kt:List (Nat × AV)) (js:List Nat) (kh:List (Nat × Option (List AV)))
  (ot : σ → List (Nat × AV)) (oh : σ → List (Nat × Option (List AV))) (J : σ → List Int) (p : σ → Prop) (μ : σ → Nat) (i0 : σ) (h0 : p i0) (hJ : J i0 = ks) (hk : oN kl ts = kt) (hj : qQ js hs = kh)
  (h1 : oC ts (ot i0)) (h2 : nC hs (oh i0))
  (round : ∀ i,p i → sB P N c (sY (fun s' ks' => ∃ j,p j ∧ μ j < μ i ∧ Le s' ⟨ot j ++ kt,oh j ++ kh,n,z0⟩ ∧ J j = ks') Q) r (J i) ⟨ot i ++ kt,oh i ++ kh,n,z0⟩) :
  sB P N (.loop c) Q r ks ⟨ts,hs,n,z0⟩ := by
 subst hk hj
 exact GY p (fun i => ⟨ot i ++ oN kl ts,oh i ++ qQ js hs,n,z0⟩) J μ ⟨i0,h0,Le.lit (lP h1 (lV kl)) (lQ h2 (o9 js)) (Nat.le_refl _),hJ⟩ round
theorem vG {id:Nat}{l:List Oper}(h:Gh P N l.toArray Q r ks l s):sB P N (.region id l.toArray false) Q r ks s :=
 fun C a w hN g => wp_region_lit (h C a w hN g)
variable {all : Array Oper}
theorem MV {o:Oper}{a:Act}{w:World}{K K':Act → World → Prop}{Q1 Q2:Exit → Act → World → Prop}(h:∀ a w,K a w → K' a w) (hq:∀ e a w,Q1 e a w → e = .normal)
  (hh : o.wp P a w K Q1) : o.wp P a w K' Q2 := by
 have hL : ¬ LetsOut Q1 := fun ⟨a,w,q⟩ => by cases hq _ _ _ q
 unfold Oper.wp at *
 generalize (execOp a.eval o).run P w = z at *
 cases z with
 | ok n w' =>
  cases n <;> simp only [Oper.upon] at hh ⊢ <;>
   first
    | exact h _ _ hh
    | exact Calls.mono hh (fun e w'' he => by cases e <;> first|exact h _ _ he|(cases hq _ _ _ he)|exact absurd he hL)
    | exact Rows.mono hh (fun _ _ he => h _ _ he)
 | halt x w' => cases x <;> simp only [Oper.upon] at hh ⊢ <;> (cases hq _ _ _ hh)
theorem iZ {Q1 Q2:Exit → Act → World → Prop}{l2:List Oper}(k:∀ e a w,Q1 e a w → e = .normal ∧ wpList P all Q2 l2 a w):∀ (l1:List Oper) (a:Act) (w:World),wpList P all Q1 l1 a w → wpList P all Q2 (l1 ++ l2) a w
 | [],a,w,h => (k _ _ _ h).2
 | o :: l1, a, w, h => by
  have hL : ¬ LetsOut Q1 := fun ⟨a,w,q⟩ => by cases (k _ _ _ q).1
  rw [List.cons_append]
  unfold wpList at h ⊢
  split
  ·rename_i hw
   rw [if_pos hw] at h
   rcases h with h | ⟨_,h⟩
   ·exact .inl (MV (fun a w => iZ k l1 a w) (fun e a w q => (k e a w q).1) h)
   ·exact absurd h hL
  ·rename_i hw;rw [if_neg hw] at h;exact iZ k l1 _ _ h
theorem Bv {l1 l2:List Oper}(h:RW P N all (fun e s' => e = .normal ∧ Gh P N all Q r ks l2 s') .txt l1 s):Gh P N all Q r ks (l1 ++ l2) s:=by
 intro C a w hN g
 obtain ⟨C',h1,h2,h3⟩ := g.base
 exact iZ (fun e a' w' ⟨s',⟨q1,q2⟩,q3⟩ => ⟨q1,q2 C a' w' hN (h3 _ _ _ q3)⟩) l1 a w (h C' a w (h1.trans hN) h2)
theorem KF (h:Q .normal s ks):Gh P N all Q r ks [] s := fun C a w _ g => wpList_nil ⟨s,ks,h,g⟩
variable {rest : List Oper} {ts : List (Nat × AV)} {hs : List (Nat × Option (List AV))} {n : Nat} {z0 : Lo} {d : Nat} {ty : TypeId} {pos : String} {af : Array Edge}
theorem EE {dst:Option Tmp}{op:Op}{j e:Nat}{want b:Bool}(hj:(all[j]?).bind (·.dst) = some e) (hb:lk s.ts e = some (.v (.bool b))) (hw:b = want) (h:Gh P N all Q r ks (⟨dst,op,ty,pos,af,none⟩ :: rest) s) :
  Gh P N all Q r ks (⟨dst,op,ty,pos,af,some (j,want)⟩ :: rest) s := by
 subst hw
 intro C a w hN g
 have h' := h C a w hN g
 obtain ⟨⟨h0,ι,g,gh⟩,hm,hl⟩ := g
 have hyl : yielded all a.tmps j = some b := by
  obtain ⟨y,hy,hr⟩ := g.tm e _ hb
  simp only [Rd] at hr
  subst hr
  simp [yielded,hj,hy]
 unfold wpList at h' ⊢
 simp only [Region.wanted,hyl,if_true,beq_self_eq_true] at h' ⊢
 exact h'
theorem rG {w:World}{mt kt et:TypeId}{es:Array MapEntry}{ck:Nat}{a:Int}(hu:P.underlying mt = some (.map kt et)) (hk:P.underlying kt = some (.int .i64)) (hz:(P.info? et).bind (·.zero) = some (.bool false))
  (hb : w.heap[r]? = some (.map es ck)) (hn : ∀ e ∈ es.toList,∃ k,k ≠ a ∧ e.key = .int .i64 k) : (Instr.lookup mt (.map (some r)) (.int .i64 a) false).run P w = .ok (.bool false) w ∧ Instr.findNow (.int .i64) (.int .i64 a) es.toList 0 = some none := by
 have hkey : IsKey (.int .i64) (.int .i64 a) := by simp [IsKey]
 have hf : Instr.findNow (.int .i64) (.int .i64 a) es.toList 0 = some none := by
  rcases findNow_spec hkey es.toList 0 (fun x hx => by obtain ⟨k,_,h2⟩ := hn x hx;rw [h2]; simp [IsKey]) with ⟨h,_⟩ | ⟨j,e,_,h2,h3⟩
  ·exact h
  ·obtain ⟨k, h4, h5⟩ := hn e (List.mem_of_getElem? h2)
   rw [h5] at h3;cases h3;exact absurd rfl h4
 refine ⟨?_,hf⟩
 cases hi : P.info? et with
 | none => rw [hi] at hz;cases hz
 | some i =>
  rw [hi] at hz
  have hz2 : i.zero = some (.bool false) := hz
  simp [Instr.lookup,cF hu,Go.MapKept.run_getObj_map hb,run_checkKey hk hkey,run_findKey hk hf,zeroValue,typeInfo,hi,hz2,Result.andThen]
theorem Ct {mt kt et:TypeId}{x y:Operand}{a:Int}(hu:P.underlying mt = some (.map kt et)) (hk:P.underlying kt = some (.int .i64)) (hz:(P.info? et).bind (·.zero) = some (.bool false))
  (hx : ev (lk ts) x = some (.v (.map (some r)))) (hy : ev (lk ts) y = some (.v (.int .i64 a))) (ha : a ∉ ks) (hN : Nat.blt d N = true) (kk : Gh P N all Q r ks rest ⟨(d,.v (.bool false)) :: ts,hs,n,z0⟩) :
  Gh P N all Q r ks (⟨some d,.lookup mt x y false,ty,pos,af,none⟩ :: rest) ⟨ts,hs,n,z0⟩ := by
 rintro C ac w hCN ⟨⟨h0,ι,g,gh⟩,⟨es,ck,hm,hkk⟩,hl⟩
 refine wpList_plain rfl (fun K hK => ?_)
 have e1 := cA g hx
 have e2 := cA g hy
 simp only [Rd] at e1 e2
 have hr := (rG (P := P) hu hk hz hm (a := a) (fun e he => by obtain ⟨k,h1,h2⟩ := hkk e he;exact ⟨k,fun q => ha (q ▸ h1),h2⟩)).1
 have hop : (execOp ac.eval ⟨some d, .lookup mt x y false, ty, pos, af, none⟩).run P w = .ok (.value (.bool false)) w := by
  simp [execOp,e1,e2,hr]
 simp only [Oper.wp,hop,Oper.upon]
 refine hK _ _ (kk C _ _ hCN ⟨⟨h0,ι,?_,gh⟩,⟨es,ck,hm,hkk⟩,hl⟩)
 show TG C ι (lk ((d,_) :: ts)) _ _ _
 rw [iK]
 exact g.put (by have := dQ hN;omega) (by simp [Rd])
theorem C0 {mt kt et:TypeId}{x y z:Operand}{a:Int}(hu:P.underlying mt = some (.map kt et)) (hk:P.underlying kt = some (.int .i64)) (hz:(P.info? et).bind (·.zero) = some (.bool false))
  (hx : ev (lk ts) x = some (.v (.map (some r)))) (hy : ev (lk ts) y = some (.v (.int .i64 a))) (ha : a ∉ ks) (kk : Gh P N all Q r (ks ++ [a]) rest ⟨ts,hs,n,z0⟩) :
  Gh P N all Q r ks (⟨none,.mapUpdate mt x y z,ty,pos,af,none⟩ :: rest) ⟨ts,hs,n,z0⟩ := by
 rintro C ac w hCN ⟨⟨h0,ι,g,gh⟩,⟨es,ck,hm,hkk⟩,hl⟩
 refine wpList_plain rfl (fun K hK => ?_)
 have e1 := cA g hx
 have e2 := cA g hy
 simp only [Rd] at e1 e2
 have hkey : IsKey (.int .i64) (.int .i64 a) := by simp [IsKey]
 have hf := (rG (P := P) hu hk hz hm (a := a) (fun e he => by obtain ⟨k,h1,h2⟩ := hkk e he;exact ⟨k,fun q => ha (q ▸ h1),h2⟩)).2
 let o2 : Obj := .map (es.push { key := .int .i64 a,val := ac.eval z,born := ck }) (ck + 1)
 let w2 : World := { w with heap := w.heap.setIfInBounds r o2 }
 have hop : (execOp ac.eval ⟨none, .mapUpdate mt x y z, ty, pos, af, none⟩).run P w = .ok .skip w2 := by
  simp [execOp,e1,e2,Instr.mapUpdate,cF hu,Go.MapKept.run_getObj_map hm,run_checkKey hk hkey,run_findKey hk hf,Go.MapKept.run_setObj_map _ hm,Result.andThen,w2,o2]
 obtain ⟨hs1,hs2⟩ := heap_set (o' := o2) hm
 have hne : ∀ b c e f,w.heap[b]? = some (.cells c e f) → b ≠ r := fun b c e f h q => by subst q;rw [hm] at h;cases h
 have hbs : ∀ b, sC w2 b = sC w b := fun b => by
  by_cases e : b = r
  ·subst e;show (match w2.heap[b]? with|some (.cells c _ _) => c.size | _ => 0) = _; rw [show w2.heap[b]? = some o2 from hs1]; simp [sC,hm,o2]
  ·exact oG (hs2 b e)
 have hcell : ∀ b o v, w.cell? ⟨b, o, none⟩ = some v → w2.cell? ⟨b, o, none⟩ = some v := fun b o v h => by
  have : b ≠ r := fun q => by subst q;rw [World.cell?] at h;simp [hm] at h
  rw [dI (hs2 b this)]; exact h
 have car : ∀ bad : Nat → Prop,Carry w bad ι w2 bad ι := fun bad => ⟨fun b o v h1 h2 => ⟨h1,hcell b o v h2⟩,fun _ _ h => h,fun b => Nat.le_of_eq (hbs b).symm⟩
 simp only [Oper.wp,hop,Oper.upon]
 refine hK _ _ (kk C _ _ hCN ⟨⟨h0,ι,?_,?_⟩,⟨_,_,hs1,?_⟩,hl⟩)
 ·exact g.carry (car _)
 ·refine ⟨fun id cs h => ?_, gh.sep, ⟨gh.fr.os, gh.fr.tape, gh.fr.output, by show C.w0.heap.size ≤ (w.heap.setIfInBounds r o2).size; rw [Array.size_setIfInBounds]; exact gh.fr.size, fun b hb hw => ?_, fun b => by rw [hbs]; exact gh.fr.bs b⟩, gh.ex, gh.fresh⟩
  ·rcases gh.obj id cs h with h1 | ⟨b', β', arr, e, h3, h4, h5, h6, h7, h8⟩
   ·exact .inl h1
   ·exact .inr ⟨b',β',arr,e,h3,by rw [show w2.heap[b']? = w.heap[b']? from hs2 b' (hne _ _ _ _ h4)]; exact h4,h5,RdC.carryB (car _) _ _ _ (fun o v hv => hcell b' o v hv) h6,h7,h8⟩
  ·rw [show w2.heap[b]? = w.heap[b]? from hs2 b (by omega)]; exact gh.fr.block b hb hw
 ·intro e he
  rw [Array.toList_push,List.mem_append,List.mem_singleton] at he
  rcases he with he|rfl
  ·obtain ⟨k,h1,h2⟩ := hkk e he;exact ⟨k,List.mem_append_left _ h1,h2⟩
  ·exact ⟨a,by simp,rfl⟩
theorem GA {Q:Exit → AS → Prop}{id:Nat}{t:TypeId}{y:Code}(hN:Nat.blt d N = true)
  (h : ∀ r,Gh P N (⟨some d,.makeMap t none,ty,pos,af,none⟩ :: rest).toArray (fun e s' ks' => e = .normal ∧ sB P N y (fun e s' _ => Q e s') r ks' s') r [] rest ⟨(d,.v (.map (some r))) :: ts,hs,n,z0⟩) :
  AW P N (.seq (.region id (⟨some d,.makeMap t none,ty,pos,af,none⟩ :: rest).toArray false) y) Q ⟨ts,hs,n,z0⟩ := by
 rintro C ac w hCN ⟨h0,ι,g,gh⟩
 refine wp_seq (wp_region_lit (wpList_plain rfl (fun K hK => ?_)))
 have hop : (execOp ac.eval ⟨some d, .makeMap t none, ty, pos, af, none⟩).run P w = .ok (.value (.map (some w.heap.size))) (w.alloc (.map #[] 0)) := by
  simp [execOp,Instr.makeMap,newObj,Sem.run]
 have f : Fr (fun _ => False) w (w.alloc (.map #[] 0)) := by
  refine ⟨rfl,rfl,rfl,by simp,fun b hb _ => Below.heap_alloc w _ b hb,fun b => ?_⟩
  rcases Nat.lt_or_ge b w.heap.size with hb|hb
  ·rw [oG (Below.heap_alloc w _ b hb)]; exact Nat.le_refl _
  ·simp [sC,Array.getElem?_eq_none hb]
 obtain ⟨g2,c2⟩ := gh.ext f
 simp only [Oper.wp,hop,Oper.upon]
 refine hK _ _ ?_
 have hh := h w.heap.size C (ac.put (some d) (.map (some w.heap.size))) (w.alloc (.map #[] 0)) hCN ⟨⟨h0,ι,?_,g2⟩,⟨#[],0,heap_alloc_new w _,by simp⟩,gh.fr.size⟩
 ·have := iZ (l2 := []) (P := P) (Q2 := Exit.then (y.wp P (fun e a' w' => ∃ s', Q e s' ∧ Gs C s' a' w')) (fun e a' w' => ∃ s', Q e s' ∧ Gs C s' a' w')) (all := (⟨some d, .makeMap t none, ty, pos, af, none⟩ :: rest).toArray)
   (k := fun e a' w' ⟨s', ks', ⟨q1, q2⟩, q3⟩ => ⟨q1, by
    subst q1
    exact wpList_nil (wp_mono (q2 C a' w' hCN q3) (fun e a'' w'' ⟨s'',ks'',u1,u2⟩ => ⟨s'',u1,u2.g⟩))⟩) rest _ _ hh
  rw [List.append_nil] at this
  exact this
 ·show TG C ι (lk ((d, _) :: ts)) _ _ _
  rw [iK]
  exact (g.carry c2).put (by have := dQ hN;omega) (by simp [Rd])
theorem Jo {K K2:AS → List Int → Prop}{id:Nat}(h:Q .normal s ks):sY K (sY K2 (JW id Q)) (.exit id) s ks:=by
 have e : sY K (sY K2 (JW id Q)) (.exit id) s ks = (if id = id then Q .normal s ks else Q (.exit id) s ks) := rfl
 rw [e,if_pos rfl]; exact h
theorem IB {Q:Exit → AS → Prop}{id:Nat}{t:TypeId}{y:Code}(h:Stop (AW P N (.seq (.region id (⟨some d,.makeMap t none,ty,pos,af,none⟩ :: rest).toArray false) y) Q s)) :
  AW P N (.seq (.region id (⟨some d,.makeMap t none,ty,pos,af,none⟩ :: rest).toArray false) y) Q s := h
theorem My {Q:Exit → AS → Prop}{c:Code}(h:AW P N c Q s):Stop (AW P N c Q s) := h
theorem Ax {l:List Oper}(h:RW P N all (fun e s' => e = .normal ∧ Q e s' ks) .txt l s):Gh P N all Q r ks l s:=by
 intro C a w hN g
 obtain ⟨C',h1,h2,h3⟩ := g.base
 have := iZ (l2 := []) (P := P) (all := all) (Q1 := fun e a' w' => ∃ s', (e = .normal ∧ Q e s' ks) ∧ Gs C' s' a' w') (Q2 := fun e a' w' => ∃ s' ks', Q e s' ks' ∧ GsM C s' r ks' a' w')
  (k := fun e a' w' ⟨s',⟨q1,q2⟩,q3⟩ => ⟨q1,by subst q1;exact wpList_nil ⟨s',ks,q2,h3 _ _ _ q3⟩⟩) l a w (h C' a w (h1.trans hN) h2)
 rwa [List.append_nil] at this
end
variable {P : Program} {N : Nat} {Q : Exit → AS → Prop} {all : Array Oper} {rest : List Oper} {ts : List (Nat × AV)} {hs : List (Nat × Option (List AV))} {n : Nat} {z0 : Lo} {md : Md}
variable {d : Nat} {ty : TypeId} {pos : String} {af : Array Edge}
section
theorem iW {α:Type}{hα:Inhabited α}{f g:α → List AV}{xs:List α}{e id k j z:Nat}{t:TypeId}{x:Operand}{cs':List AV}[ha:AgT P t true] [hz:SzT P t z] (hx:ev (lk ts) x = some (.optr id (0 + k * e + j)))
  (hH : aQ hs id = some (flat f xs)) (hf : FlT f e) (hg : FE f g) (hk : k < xs.length) (hj : j + z ≤ e) (hc : ((g xs[k]!).drop j).take z = cs') (h0 : Nat.blt 0 z = true) (hN : Nat.blt d N = true) {md' : Md} [hmd : MdA md (rO x ++ rA (.optr id (0 + k * e + j))) [.inl d] md']
  (kk : RW P N all Q md' rest ⟨(d,.agg cs') :: ts,hs,n,z0⟩) : RW P N all Q md (⟨some d,.load t x,ty,pos,af,none⟩ :: rest) ⟨ts,hs,n,z0⟩ := by
 have hl : (g xs[k]!).length = e := by rw [← hg.pf]; exact hf.pf _
 subst hc
 refine kE (cs := (flat f xs).drop (0 + k * e + j)) hx ha.pf hz.pf (by simp only [deref,hH,Option.map_some]) (cs' := ((g xs[k]!).drop j).take z) ?_ (by rw [List.length_take,List.length_drop,hl]; omega) (by have := dQ h0;omega) (dQ hN) (by rw [hmd.pf]; exact kk)
 rw [Nat.zero_add,← List.drop_drop,fD f xs k hk,← hg.pf,List.drop_append_of_le_length (by rw [hf.pf]; omega),List.take_append_of_le_length (by rw [List.length_drop,hf.pf]; omega)]
end
theorem Fo (c:Int):gT .and .i64 c 1 = some (.int .i64 (c % 2)):=by
 have h : (BitVec.ofInt 64 c &&& BitVec.ofInt 64 1).toNat = (c % 2).toNat := by
  rw [BitVec.toNat_and,show (BitVec.ofInt 64 1).toNat = 1 from rfl,Nat.and_one_is_mod,BitVec.toNat_ofInt]
  omega
 have e : gT .and .i64 c 1 = some (.int .i64 (IntKind.i64.wrap ((BitVec.ofInt 64 c &&& BitVec.ofInt 64 1).toNat : Int))) := rfl
 rw [e,h]
 rcases Int.emod_two_eq c with h2|h2 <;> rw [h2] <;> rfl
section
theorem Ks {t t':TypeId}{x y:Operand}{c:Int}(hx:ev (lk ts) x = some (.v (.int .i64 c))) (hy:ev (lk ts) y = some (.v (.int .i64 1)))
  (hN : Nat.blt d N = true) {md' : Md} [hmd : MdA md (rO x ++ rO y) [.inl d] md'] (kk : RW P N all Q md' rest ⟨(d,.v (.int .i64 (c % 2))) :: ts,hs,n,z0⟩) : RW P N all Q md (⟨some d,.binOp .and t x y t',ty,pos,af,none⟩ :: rest) ⟨ts,hs,n,z0⟩ :=
 eW hx hy (.inl rfl) (Fo c) (dQ hN) (by rw [hmd.pf]; exact kk)
end
theorem Fi {P:Program}{N:Nat}{Q:Exit → AS → Prop}{all:Array Oper}{rest:List Oper}{ts:List (Nat × AV)}{hs:List (Nat × Option (List AV))}{n:Nat}{z0:Lo}{d:Nat}{ty:TypeId}{pos:String}{af:Array Edge}
  {t t' el : TypeId} {x : Operand} {id off m e : Nat} [ht : SlT P t el] (hx : ev (lk ts) x = some (.own id off m e)) (hN : Nat.blt d N = true)
  (kk : ∀ b : Bool,(b = true → m = 0) → RW P N all Q .txt rest ⟨(d,.v (.bool b)) :: ts,hs,n,z0⟩) : RW P N all Q .txt (⟨some d,.binOp .eql t x (.const (.slice none 0 0)) t',ty,pos,af,none⟩ :: rest) ⟨ts,hs,n,z0⟩ := by
 rintro C a w hCN ⟨h0,ι,g,gh⟩
 refine wpList_plain rfl (fun K hK => ?_)
 have h1 := cA g hx
 simp only [Rd] at h1
 obtain ⟨a', m', c, h2, hb⟩ : ∃ a' m' c, a.eval x = .slice a' m' c ∧ (a'.isNone = true → m = 0) := by
  rcases h1 with ⟨_,rfl,a',h2⟩ | ⟨b,β,c,_,h2,_⟩
  ·exact ⟨a',0,0,h2,fun _ => rfl⟩
  ·exact ⟨_,m,c,h2,fun h => by cases h⟩
 have hu := k4 ht.pf
 have hg : (eqGuard .eql t x (.const (.slice none 0 0)) (.slice a' m' c) (.slice none 0 0)).run P w = .ok () w := by simp [eqGuard]
 have hr : (execOp a.eval ⟨some d, .binOp .eql t x (.const (.slice none 0 0)) t', ty, pos, af, none⟩).run P w = .ok (.value (.bool a'.isNone)) w := by
  have e2 : a.eval (.const (.slice none 0 0)) = .slice none 0 0 := rfl
  simp only [execOp,h2,e2,Sem.run_bind,hg,Result.andThen_ok,wK w t el hu,Sem.run_pure]
 simp only [Oper.wp,hr,Oper.upon]
 refine hK _ _ (kk a'.isNone hb C _ _ hCN ⟨h0,ι,?_,gh⟩)
 show TG C ι (lk ((d,AV.v (.bool a'.isNone)) :: ts)) _ _ _
 rw [iK]
 exact g.put (by have := dQ hN;omega) (by simp [Rd])
section
theorem EW {k:FuncId}{t:Nat}{args:Array Operand}{tys:Array TypeId}{avs avs0 f c:List AV}{fv:AV}{H0:List (Nat × Option (List AV))}{rr rr':AV}{hh:List (Nat × Option (List AV))}
  (mp : List Nat) (n1 : Nat) (ws : List (Nat × Option (List AV))) (h : MC P k avs0 H0 mp.length (fun _ : Unit => True) (fun _ => rr) (fun _ => hh)) (hx : lk ts t = some fv) (hcl : tJ fv = some (k,f,c)) [hc : CaT P k] (ha : evL (lk ts) args.toList = some avs) (hd : distinct mp = true)
  (hH0 : uQ hs H0 mp 0 mp) (hk : gU mp.length H0 = true) (har : RnL (mp[·]?) avs0 (f ++ avs ++ c)) (hM : Nat.ble (n + (n1 - mp.length)) aT = true)
  (hr : RnV (Ad mp n n1) rr rr') (hwa : wP mp ws = true) (hw : rF (Ad mp n n1) hh ws) (hN : Nat.blt d N = true)
  {md' : Md} [hmd : MdA md (rO (.tmp t) ++ fJ args.toList ++ mp.map .inr) (ws.map (fun p => .inr p.1) ++ [.inl d]) md']
  (kk : RW P N all Q md' rest ⟨(d,rr') :: ts,iA hs ws,n + (n1 - mp.length),z0⟩) : RW P N all Q md (⟨some d,.call ⟨.value (.tmp t),args,tys⟩,ty,pos,af,none⟩ :: rest) ⟨ts,hs,n,z0⟩ := by
 have hM' := Nat.le_of_ble_eq_true hM
 have kk2 : RW P N all Q (md.add (rO (.tmp t) ++ fJ args.toList ++ mp.map .inr) (ws.map (fun p => .inr p.1) ++ wD (some d))) rest (put ⟨ts, iA hs ws, n + (n1 - mp.length), z0⟩ (some d) rr') := by
  simp only [wD]; rw [hmd.pf]; exact kk
 refine iP (rs := rO (.tmp t) ++ fJ args.toList ++ mp.map .inr) (ws := ws) (n' := n + (n1 - mp.length)) (out := rr') rfl (Nat.le_add_right _ _) (.inr hM') (fun C ι F T H a w K Q' hCN ag hF g gh hK => ?_) (fun x e => by cases e;exact dQ hN) kk2
 obtain ⟨lf,lc,hy,h1,h2⟩ := xH hcl (cA g (x := .tmp t) (ag.l.l.ev.trans hx))
 simp only [Oper.wp,vA hc.pf _ a w hy,Oper.upon]
 refine (Ao (nid := n) (n1 := n1) h hd gh (fun j i hj => ?_) (qM hk) har hF (fun _ _ => hr) (fun _ _ => Ed hwa hw) (jC (jC h1 (iF g (ag.l.r.evL.trans ha))) h2)).mono ?_
 ·obtain ⟨cs, cs', q1, q2, q3⟩ := u7 hH0 j i hj
  exact ⟨cs,cs',by simpa using q1,by rw [ag.r.h i (List.mem_map_of_mem (List.mem_of_getElem? hj))]; exact q2,q3⟩
 ·rintro e w' ⟨v, x, ι', rfl, hx, g', c', hrd⟩
  exact hK ι' w' v (g.carry c') g' hrd
end
theorem JB {ts:List Int}{pts:List Pnt}(w:WG ts pts) (f:Flows ts pts){Al Af:List Nat}(hlf:Af.length = pts.length * 6){i:Nat}(hi:i < pts.length) (hal:Al[i]! < 2 ^ ts.length):Oy ts pts f.Aa (zB ts pts f.Am Al Af f.Ap i) i = vZ ts pts f.Aa f.Am Al Af f.Ap i:=by
 have htl := w.tl
 have hpl := w.pl
 have hset := w.set i hi
 unfold Oy vZ
 congr 1
 ·unfold nM
  have hsm : Sm (iE (wS ts pts[i]! [1, 2, 3]) f.Aa[i]!) := by
   have : Sm (wS ts pts[i]! [1,2,3]) := bV (by omega)
   infer_instance
  rw [pL (n := ts.length) (p := rI ts pts f.Aa i) hsm (by omega) fun v => ?_,List.map_map]
  ·rfl
  ·rw [bY, b9, Bool.and_assoc]
   congr 1
   unfold rI
   congr 1
   have hu := lZ ts pts[i]! v
   by_cases e : aO ts pts[i]! v = 0
   ·rw [e]; rfl
   ·rw [decide_eq_false e]
    have : aO ts pts[i]! v ∈ ([1, 2, 3] : List Int) := by
     simp only [List.mem_cons,List.not_mem_nil,or_false]; omega
    rw [decide_eq_true this]; rfl
 ·unfold nZ
  have hap : f.Ap[i]! < 2 ^ pts.length := by
   apply Nat.lt_pow_two_of_testBit
   intro l hl
   rw [Bool.eq_false_iff]; intro hq
   have := (lD ((f.gp.2 i hi l).1 hq)).1
   dsimp only at this;omega
  have hcn := qR w (Am := f.Am) (Al := Al) (Af := Af) hap
  have hsm : Sm (rW ts pts f.Am Al Af f.Ap i) := ⟨Nat.lt_of_lt_of_le hcn (Nat.pow_le_pow_right (by decide) (by omega))⟩
  rw [pL (n := pts.length) (p := fun l => (zB ts pts f.Am Al Af f.Ap i)[l]!) hsm (by omega) fun l => ?_,List.map_map]
  ·rfl
  ·by_cases hl : l < pts.length
   ·rw [decide_eq_true hl, Bool.true_and, Bool.eq_iff_iff]
    have hloans : Sm (kN ts pts[i]! Al[i]! (cD Af i) &&& f.Ap[i]!) := ⟨Nat.lt_of_lt_of_le (Nat.and_lt_two_pow _ hap) (Nat.pow_le_pow_right (by decide) (by omega))⟩
    have hacc : fE ts pts[i]! (bG ts.length pts.length f.Am)[i]![(aL pts[i]!).toNat]! = fE ts pts[i]! (f.Am[i]!.testBit (aL pts[i]!).toNat) := GL fun h0 => gR _ _ _ _ _ hi (by omega)
    have hkp : (kN ts pts[i]! Al[i]! (cD Af i)).testBit l = true ↔ (uZ ts pts[i]! (eO ts.length pts.length Af f.Ap i).1 (bG ts.length pts.length Al)[i]! pts.length)[l]! = true := by
     unfold uZ
     rw [aX _ _ _ hl]
     unfold kN
     rw [c9,List.any_eq_true,cL _ _ _ _ hi]
     simp only [Nat.zero_testBit,Bool.false_eq_true,false_or,List.length_map,List.length_range,List.mem_range]
     constructor
     ·rintro ⟨z, hz, h2⟩
      obtain ⟨v,h3,h4,rfl⟩ := bR.1 hz
      rw [bY,Nat.testBit_or,b9,dR (by omega)] at h4
      simp only [Bool.and_eq_true,Bool.not_eq_true',Bool.or_eq_false_iff,Bool.and_eq_false_iff,decide_eq_false_iff_not] at h4
      have hv := cH hal h4.1
      refine ⟨v,hv,?_⟩
      unfold BT
      rw [aX _ _ _ hv,h4.1,decide_eq_false h4.2.2]
      have hu : ¬ aO ts pts[i]! v = 2 := by
       rcases h4.2.1 with h5|h5
       ·exact absurd hv h5
       ·simpa using h5
      rw [decide_eq_false hu]
      unfold eO
      dsimp only
      rw [aX _ _ _ hv,aX _ _ _ hl]
      have h6 : (cD Af i)[v]! = Af[i * 6 + v]! := dK hlf hi (by omega)
      rw [Int.toNat_natCast,h6] at h2
      rw [h2]; rfl
     ·rintro ⟨v, hv, h2⟩
      unfold BT at h2
      rw [aX _ _ _ hv] at h2
      unfold eO at h2
      dsimp only at h2
      rw [aX _ _ _ hv,aX _ _ _ hl] at h2
      simp only [Bool.and_eq_true,Bool.not_eq_true',decide_eq_false_iff_not] at h2
      refine ⟨(v : Int),bR.2 ⟨v,by omega,?_,rfl⟩,?_⟩
      ·rw [bY, Nat.testBit_or, b9, dR (by omega), h2.1, decide_eq_false h2.2.1]
       have : decide (aO ts pts[i]! (v : Int) ∈ ([2] : List Int)) = false := by simpa using h2.2.2.1
       rw [this]; simp
      ·rw [Int.toNat_natCast,dK hlf hi (by omega)]; exact h2.2.2.2
    have hplc : (eO ts.length pts.length Af f.Ap i).2[l]! = f.Ap[i]!.testBit l := by unfold eO;dsimp only;rw [aX _ _ _ hl]
    unfold rW zB
    rw [eZ _ _ _ hloans,yZ _ _ _ _ _ hl,hacc,List.any_eq_true]
    simp only [Nat.zero_testBit,Bool.false_eq_true,false_or]
    constructor
    ·rintro ⟨c, hc, h1, h2, h3⟩
     rw [Nat.testBit_and,Bool.and_eq_true] at h1
     rw [e8] at h2
     simp only [Bool.and_eq_true,decide_eq_true_eq] at h2
     have hy := l5 w hl h2.2.1
     have hcv := sO _ w hi c hc
     refine ⟨c,hc,?_⟩
     unfold Ge
     have e2 := h2.2.2
     rw [Nat.testBit_two_pow,decide_eq_true_eq] at e2
     rw [hkp.1 h1.1,hplc,h1.2,decide_eq_true (by omega : pts[l]!.y = c.var)]
     rcases h3 with h3|h3
     ·rw [h3]; rfl
     ·rw [decide_eq_true h3]; simp
    ·rintro ⟨c, hc, h1⟩
     unfold Ge at h1
     rw [hplc] at h1
     simp only [Bool.and_eq_true,Bool.or_eq_true,decide_eq_true_eq] at h1
     obtain ⟨⟨⟨h1,h2⟩,h3⟩,h4⟩ := h1
     have hln := (lD ((f.gp.2 i hi l).1 h2)).2
     dsimp only at hln
     refine ⟨c,hc,?_,?_,h4⟩
     ·rw [Nat.testBit_and,hkp.2 h1,h2]; rfl
     ·rw [e8,decide_eq_true hl,hln,← h3,Nat.testBit_two_pow_self]; rfl
   ·rw [decide_eq_false hl, Bool.false_and]
    exact Nat.testBit_lt_two_pow (Nat.lt_of_lt_of_le hcn (Nat.pow_le_pow_right (by decide) (by omega)))
def wM (ts : List Int) (pts : List Pnt) (Am : List Nat) : List Nat := (List.range pts.length).map fun (i : Nat) => gN ts pts[i]! Am[i]!
theorem DC (ts:List Int) (pts:List Pnt) (Am:List Nat):(wM ts pts Am).length = pts.length := by simp [wM]
theorem oK (ts:List Int) (pts:List Pnt) (Am:List Nat){i:Nat}(hi:i < pts.length):(wM ts pts Am)[i]! = gN ts pts[i]! Am[i]! := aX _ _ _ hi
def y8 (p : Prg) (f : Flows p.types (aB p)) : List Iss := iC p.types (aB p) f.Aa f.Am (wM p.types (aB p) f.Am) f.Af f.Ap (aB p).length
theorem Pn {ts:List Int}{pts:List Pnt}{a:Nat × Nat × Nat}(h:Dy ts pts a):Mb ts pts (a.1,a.2.1):=by
 induction h with
 | base h => obtain ⟨e,_,h2⟩ := h;exact .base ⟨_,e,h2⟩
 | @step a b _ r ih =>
  obtain ⟨_,e,h⟩ := r
  rcases h with ⟨_,h2,h3⟩ | ⟨h1,_,_⟩
  ·exact .step ih ⟨h2,e,h3⟩
  ·exact .base ⟨_,e,h1⟩
theorem Iw {ts:List Int}{pts:List Pnt}(w:WG ts pts) (f:Flows ts pts){i:Nat}(hi:i < pts.length){l:Nat}(hl:(rW ts pts f.Am f.Al f.Af f.Ap i).testBit l = true):(rW ts pts f.Am (wM ts pts f.Am) f.Af f.Ap i).testBit l = true:=by
 have b := f.bnd w
 have hpl := w.pl
 have htl := w.tl
 have hst := w.set i hi
 have hset : aL pts[i]! < 62 := by omega
 have hs : ∀ K : Nat,Sm (K &&& f.Ap[i]!) := fun K => iM (n := pts.length) (by omega) (Nat.and_lt_two_pow _ (b.bP i))
 have hk : ∀ c : Nat, (kN ts pts[i]! f.Al[i]! (cD f.Af i)).testBit c = true → (kN ts pts[i]! (wM ts pts f.Am)[i]! (cD f.Af i)).testBit c = true := fun c hc => by
  unfold kN at hc ⊢
  rw [c9] at hc ⊢
  rcases hc with h1 | ⟨z,hz,h1⟩
  ·exact .inl h1
  ·refine .inr ⟨z, ?_, h1⟩
   obtain ⟨v,h2,h3,rfl⟩ := bR.1 hz
   refine bR.2 ⟨v,h2,?_,rfl⟩
   rw [bY,Bool.and_eq_true] at h3 ⊢
   refine ⟨?_,h3.2⟩
   have h4 := h3.2
   rw [Nat.testBit_or,b9,dR hset] at h4
   have hv : v < ts.length := by
    obtain ⟨k,_,hk⟩ := (f.gl.2 i hi v).1 h3.1
    exact oZ w hk
   rw [Int.toNat_natCast,dK f.gf.1 hi (by omega)] at h1
   have hm := (f.gm.2 i hi v).2 (Pn ((f.gf.2 i v hi (by omega) c).1 h1))
   rw [oK _ _ _ hi,c7 hset,hm,decide_eq_true hv]
   rw [decide_eq_true hv] at h4
   simp only [List.mem_cons,List.not_mem_nil,or_false] at h4
   revert h4
   cases decide (aO ts pts[i]! (v : Int) = 2) <;> simp
 unfold rW at hl ⊢
 rw [eZ _ _ _ (hs _)] at hl ⊢
 rcases hl with hl | ⟨c,hc,h1,h2⟩
 ·exact .inl hl
 ·refine .inr ⟨c, hc, ?_, h2⟩
  rw [Nat.testBit_and,Bool.and_eq_true] at h1 ⊢
  exact ⟨hk _ h1.1,h1.2⟩
theorem KQ {ts:List Int}{pts:List Pnt}(w:WG ts pts) (f:Flows ts pts) (x:Iss) (hx:x ∈ f.iss):x ∈ iC ts pts f.Aa f.Am (wM ts pts f.Am) f.Af f.Ap pts.length:=by
 unfold Flows.iss iC at hx
 unfold iC
 obtain ⟨i,hi,h⟩ := List.mem_flatMap.1 hx
 have hin := List.mem_range.1 hi
 refine List.mem_flatMap.2 ⟨i,hi,?_⟩
 unfold vZ at h ⊢
 rcases List.mem_append.1 h with h|h
 ·exact List.mem_append.2 (.inl h)
 ·obtain ⟨z, hz, rfl⟩ := List.mem_map.1 h
  obtain ⟨l,h1,h2,rfl⟩ := bR.1 hz
  exact List.mem_append.2 (.inr (List.mem_map.2 ⟨_,bR.2 ⟨l,h1,Iw w f hin h2,rfl⟩,rfl⟩))
theorem Ms (p:Prg) (f:Flows p.types (aB p)) (hv:bD p = true) (h:y8 p f = []):f.iss = []:=by
 have w := WG.of_valid hv
 rw [List.eq_nil_iff_forall_not_mem]
 intro x hx
 have := KQ w f x hx
 unfold y8 at h;rw [h] at this;cases this
theorem M3 (p:Prg) (f:Flows p.types (aB p)){A:List Nat}(hA:GoodG p.types (aB p) A) (hv:bD p = true) (h:z7 p f A = []):f.iss = []:=by
 have w := WG.of_valid hv
 rw [List.eq_nil_iff_forall_not_mem]
 intro x hx
 have := Kw w (WT.of_valid hv) f hA x hx
 unfold z7 at h;rw [h] at this;cases this
def smL : List Stmt := [⟨4,2,1,0,[],[]⟩,⟨5,3,1,0,[],[]⟩,⟨4,2,3,0,[],[]⟩,⟨6,0,2,0,[],[]⟩,⟨6,0,1,0,[],[]⟩,⟨7,3,0,0,[],[]⟩,⟨7,1,0,0,[],[]⟩,⟨2,1,0,2,[],[]⟩]
def C1 : Nat → Nat → List Stmt
 | _,0 => []
 | n,k + 1 => smL[n % 8]! :: C1 (n / 8) k
def PZ : List Stmt := [⟨1,0,0,1,[],[]⟩,⟨2,1,0,0,[],[]⟩]
def tI (n : Nat) : Prg := ⟨[1,2,3,4],PZ ++ C1 n 4⟩
theorem NO:∀ c,c < 8 → qP [1,2,3,4] 4 smL[c]! = true ∧ fP smL[c]! = 1:=by
 intro c hc
 have : c = 0 ∨ c = 1 ∨ c = 2 ∨ c = 3 ∨ c = 4 ∨ c = 5 ∨ c = 6 ∨ c = 7 := by omega
 rcases this with h|h|h|h|h|h|h|h <;> subst h <;> exact ⟨rfl,rfl⟩
theorem CO:∀ k n,okL [1,2,3,4] 4 (C1 n k) = true ∧ bE (C1 n k) = k
 | 0,n => ⟨rfl,rfl⟩
 | k + 1, n => by
  have h1 := NO (n % 8) (Nat.mod_lt _ (by decide))
  have h2 := CO k (n / 8)
  rw [C1,okL,bE,h1.1,h1.2,h2.1,h2.2]
  exact ⟨rfl,by omega⟩
theorem DQ (n:Nat):bE (tI n).body = 6:=by
 have h := (CO 4 n).2
 show fP _ + (fP _ + bE (C1 n 4)) = 6
 rw [h]; rfl
theorem MN (n:Nat):bD (tI n) = true:=by
 have h := (CO 4 n).1
 unfold bD
 rw [DQ]
 have h2 : okL (tI n).types 4 (tI n).body = true := by
  show (qP [1,2,3,4] 4 _ && (qP [1,2,3,4] 4 _ && okL [1,2,3,4] 4 (C1 n 4))) = true
  rw [h]; rfl
 rw [h2]; rfl
def xP (L : List (List Iss)) : Nat := (L.filter fun l => !l.isEmpty).length
theorem Is (L:List (List Iss)) (l:List Iss):xP (L ++ [l]) = xP L + (if l = [] then 0 else 1):=by
 unfold xP;rw [List.filter_append,List.length_append]; cases l <;> rfl
theorem F6 (A B C:List Iss):xP [A,B,C] ≤ 3 ∧ (xP [A,B,C] = 3 ↔ A ≠ [] ∧ B ≠ [] ∧ C ≠ []) ∧ (xP [A,B,C] = 0 ↔ A = [] ∧ B = [] ∧ C = []):=by
 unfold xP
 cases A <;> cases B <;> cases C <;> simp
noncomputable def n8 (p : Prg) (hv : bD p = true) : Flows p.types (aB p) := Classical.choice (Flows.ex (WG.of_valid hv))
noncomputable def LY (p : Prg) (hv : bD p = true) : List Nat := Classical.choose (GoodG.exist (WG.of_valid hv) (WT.of_valid hv))
theorem CW (p:Prg) (hv:bD p = true):GoodG p.types (aB p) (LY p hv) := Classical.choose_spec (GoodG.exist (WG.of_valid hv) (WT.of_valid hv))
noncomputable def NB (p : Prg) (hv : bD p = true) : List (List Iss) := [y8 p (n8 p hv),z7 p (n8 p hv) (LY p hv),(n8 p hv).iss]
theorem Ke (p:Prg) (hv:bD p = true):xP (NB p hv) ≤ 3 ∧ (xP (NB p hv) ≠ 3 → (n8 p hv).iss = []) ∧ (y8 p (n8 p hv) = [] → (n8 p hv).iss = []) ∧ (z7 p (n8 p hv) (LY p hv) = [] → (n8 p hv).iss = []) ∧ (xP (NB p hv) = 0 ↔ y8 p (n8 p hv) = [] ∧ z7 p (n8 p hv) (LY p hv) = []):=by
 have h1 := Ms p (n8 p hv) hv
 have h2 := M3 p (n8 p hv) (CW p hv) hv
 have h3 := F6 (y8 p (n8 p hv)) (z7 p (n8 p hv) (LY p hv)) (n8 p hv).iss
 refine ⟨h3.1,fun h => ?_,h1,h2,?_⟩
 ·unfold NB at h
  rw [ne_eq,h3.2.1] at h
  by_cases ha : y8 p (n8 p hv) = []
  ·exact h1 ha
  ·by_cases hb : z7 p (n8 p hv) (LY p hv) = []
   ·exact h2 hb
   ·by_cases hc : (n8 p hv).iss = []
    ·exact hc
    ·exact absurd ⟨ha,hb,hc⟩ h
 ·unfold NB; rw [h3.2.2]
  exact ⟨fun h => ⟨h.1,h.2.1⟩,fun h => ⟨h.1,h.2,h1 h.1⟩⟩
end Go.AL
