/-
 A part of the proofs over this program: rules and contracts of its functions (the rules).
-/
import Derived.Test.YtgkalkgplcdnkaaGreatW2A04
set_option linter.unusedVariables false
set_option linter.unusedSimpArgs false
namespace Go.AL
open Go.RowKit
def eV (pts : List Pnt) (a : Nat) (cs : List Int) : Nat × List Int :=
 if pts[a]!.next.length = 2 then
  match cs with
  | [] => ((pts[a]!.next[1]!).toNat,[])
  | c :: cs => ((pts[a]!.next[(c % 2).toNat]!).toNat,cs)
 else ((pts[a]!.next[0]!).toNat,cs)
def cK (pts : List Pnt) : Nat → Nat → List Int → List Nat × Bool
 | 0,a,_ => if pts[a]!.op = 11 then ([a],true) else ([],false)
 | n + 1,a,cs => if pts[a]!.op = 11 then ([a],true) else (a :: (cK pts n (eV pts a cs).1 (eV pts a cs).2).1,(cK pts n (eV pts a cs).1 (eV pts a cs).2).2)
structure Mc where
 slots : List Sl
 cells : List Cl
 read : List Int
 deriving Inhabited
def eG : Sl := ⟨false,0,⟨0,0⟩⟩
def c6 (k : Int) : Int := if k = 1 then 3 else 4
def gM (k : Int) : Int := if k = 0 then -1 else c6 k
def a7 (ts : List Int) (s : Mc) (v : Nat) (x : Sl) : Mc × Int :=
 if ts[v]! = 2 ∧ s.slots[v]!.set = true then (⟨s.slots.set v x,eU s.cells s.slots[v]!.ptr,s.read⟩,gM (aS s.cells s.slots[v]!.ptr true))
 else (⟨s.slots.set v x,s.cells,s.read⟩,-1)
def bK (ts : List Int) (s : Mc) (x : Pnt) : Bool := (List.range ts.length).any fun v => decide (aV ts x v ≠ 0) && !s.slots[v]!.set
def bW (ts : List Int) : Nat → Nat → Mc → Mc × Int
 | 0,_,s => (s,0)
 | n + 1, v, s => if ts[v]! = 2 ∧ s.slots[v]!.set = true then
   (if aS s.cells s.slots[v]!.ptr true = 0 then bW ts n (v + 1) ⟨s.slots.set v eG,eU s.cells s.slots[v]!.ptr,s.read⟩ else (⟨s.slots,eU s.cells s.slots[v]!.ptr,s.read⟩,c6 (aS s.cells s.slots[v]!.ptr true)))
  else bW ts n (v + 1) s
def bE (ts : List Int) (s : Mc) (x : Pnt) : Mc × Int :=
 if x.op = 1 then a7 ts s x.x.toNat ⟨true,x.n,⟨0,0⟩⟩
 else if x.op = 2 then (if s.cells.length = 200 then (s,1) else a7 ts ⟨s.slots,s.cells ++ [kX x.n],s.read⟩ x.x.toNat ⟨true,0,⟨s.cells.length,0⟩⟩)
 else if x.op = 3 then a7 ts (if tI ts[x.y.toNat]! = true then ⟨s.slots.set x.y.toNat eG,s.cells,s.read⟩ else s) x.x.toNat s.slots[x.y.toNat]!
 else if x.op = 4 ∨ x.op = 5 then
  (if gX s.cells s.slots[x.y.toNat]!.ptr (decide (x.op = 5)) = 0 then a7 ts ⟨s.slots, fY s.cells s.slots[x.y.toNat]!.ptr (decide (x.op = 5)), s.read⟩ x.x.toNat ⟨true, 0, lQ s.cells s.slots[x.y.toNat]!.ptr (decide (x.op = 5))⟩
   else (s,c6 (gX s.cells s.slots[x.y.toNat]!.ptr (decide (x.op = 5)))))
 else if x.op = 6 then
  (if aS s.cells s.slots[x.y.toNat]!.ptr false = 0 then a7 ts ⟨s.slots, bX s.cells s.slots[x.y.toNat]!.ptr false, s.read ++ [kJ s.cells s.slots[x.y.toNat]!.ptr]⟩ x.x.toNat ⟨true, kJ s.cells s.slots[x.y.toNat]!.ptr, ⟨0, 0⟩⟩
   else (s,c6 (aS s.cells s.slots[x.y.toNat]!.ptr false)))
 else if x.op = 7 then (⟨s.slots,k3 s.cells s.slots[x.x.toNat]!.ptr s.slots[x.y.toNat]!.num,s.read⟩,gM (lO s.cells s.slots[x.x.toNat]!.ptr s.slots[x.y.toNat]!.num))
 else if x.op = 8 then (⟨s.slots.set x.x.toNat eG,eU s.cells s.slots[x.x.toNat]!.ptr,s.read⟩,gM (aS s.cells s.slots[x.x.toNat]!.ptr true))
 else if x.op = 11 then bW ts ts.length 0 s
 else (s,-1)
def eW (ts : List Int) (pts : List Pnt) : List Nat → Mc → Nat → Mc × Int × Nat
 | [],s,last => (s,1,last)
 | a :: l, s, _ => if bK ts s pts[a]! = true then (s, 2, a)
  else if (bE ts s pts[a]!).2 = -1 then eW ts pts l (bE ts s pts[a]!).1 a
  else ((bE ts s pts[a]!).1,(bE ts s pts[a]!).2,a)
def mc0 (nt : Nat) : Mc := ⟨List.replicate nt eG,[],[]⟩
def cQ (ts : List Int) (pts : List Pnt) (cs : List Int) (most : Nat) : Mc × Int × Nat := eW ts pts (cK pts most 0 cs).1 (mc0 ts.length) 0
structure OkS (nt : Nat) (s : Mc) : Prop where
 m : OkM s.cells
 l : s.slots.length = nt
theorem OkS.put {ts:List Int}{nt:Nat}{s:Mc}(h:OkS nt s) (v:Nat) (x:Sl):OkS nt (a7 ts s v x).1:=by
 unfold a7;split
 ·exact ⟨h.m.fr _,by show (s.slots.set v x).length = nt;rw [List.length_set]; exact h.l⟩
 ·exact ⟨h.m,by show (s.slots.set v x).length = nt;rw [List.length_set]; exact h.l⟩
theorem OkS.fin {ts:List Int}{nt:Nat}:∀ n v (s:Mc),OkS nt s → OkS nt (bW ts n v s).1
 | 0,_,_,h => h
 | n + 1, v, s, h => by
  unfold bW;split
  ·split
   ·exact OkS.fin n _ _ ⟨h.m.fr _,by show (s.slots.set v eG).length = nt;rw [List.length_set]; exact h.l⟩
   ·exact ⟨h.m.fr _,h.l⟩
  ·exact OkS.fin n _ _ h
structure PtN (x : Pnt) : Prop where
 n : x.op = 2 → 0 ≤ x.n ∧ x.n ≤ 9
theorem OkS.do {ts:List Int}{nt:Nat}{s:Mc}(h:OkS nt s){x:Pnt}(hx:PtN x):OkS nt (bE ts s x).1:=by
 have hl : ∀ (v : Nat) (y : Sl),(s.slots.set v y).length = nt := fun v y => by rw [List.length_set]; exact h.l
 unfold bE
 split
 ·exact h.put _ _
 split
 ·rename_i h2
  split
  ·exact h
  ·rename_i h3
   refine OkS.put ?_ _ _
   exact ⟨h.m.nw (hx.n h2) (by have := h.m.l;omega),h.l⟩
 split
 ·split
  ·refine OkS.put ?_ _ _
   exact ⟨h.m,hl _ _⟩
  ·exact h.put _ _
 split
 ·split
  ·refine OkS.put ?_ _ _
   exact ⟨h.m.ln _ _,h.l⟩
  ·exact h
 split
 ·split
  ·refine OkS.put ?_ _ _
   exact ⟨h.m.tch _ _,h.l⟩
  ·exact h
 split
 ·exact ⟨h.m.wr _ _,h.l⟩
 split
 ·exact ⟨h.m.fr _,hl _ _⟩
 split
 ·exact OkS.fin _ _ _ h
 ·exact h
theorem OkS.mc0 (nt:Nat):OkS nt (mc0 nt) := ⟨⟨by simp [Go.AL.mc0],by simp [Go.AL.mc0]⟩,by simp [Go.AL.mc0]⟩
theorem OkS.run {ts:List Int}{pts:List Pnt}{nt:Nat}(hp:∀ a:Nat,PtN pts[a]!):∀ (l:List Nat) (s:Mc) (last:Nat),OkS nt s → OkS nt (eW ts pts l s last).1
 | [],_,_,h => h
 | a :: l, s, _, h => by
  unfold eW;split
  ·exact h
  ·split
   ·exact OkS.run hp l _ _ (h.do (hp a))
   ·exact h.do (hp a)
theorem C4 (k:Int):gM k = -1 ∨ gM k = 3 ∨ gM k = 4 := by unfold gM c6;split;exact .inl rfl;split;exact .inr (.inl rfl);exact .inr (.inr rfl)
theorem lS (k:Int):c6 k = 3 ∨ c6 k = 4 := by unfold c6;split;exact .inl rfl;exact .inr rfl
theorem Fk (ts:List Int) (s:Mc) (v:Nat) (x:Sl):(a7 ts s v x).2 = -1 ∨ (a7 ts s v x).2 = 3 ∨ (a7 ts s v x).2 = 4:=by
 unfold a7;split
 ·exact C4 _
 ·exact .inl rfl
theorem BQ {ts:List Int}{s:Mc}{x:Pnt}(h:x.op ≠ 11):(bE ts s x).2 = -1 ∨ (bE ts s x).2 = 1 ∨ (bE ts s x).2 = 3 ∨ (bE ts s x).2 = 4:=by
 have p := fun s v y => Fk ts s v y
 have p' : ∀ s v y, (a7 ts s v y).2 = -1 ∨ (a7 ts s v y).2 = 1 ∨ (a7 ts s v y).2 = 3 ∨ (a7 ts s v y).2 = 4 := fun s v y => by
  rcases p s v y with h|h|h
  ·exact .inl h
  ·exact .inr (.inr (.inl h))
  ·exact .inr (.inr (.inr h))
 have g : ∀ k, gM k = -1 ∨ gM k = 1 ∨ gM k = 3 ∨ gM k = 4 := fun k => by
  rcases C4 k with h|h|h
  ·exact .inl h
  ·exact .inr (.inr (.inl h))
  ·exact .inr (.inr (.inr h))
 have e : ∀ k,c6 k = -1 ∨ c6 k = 1 ∨ c6 k = 3 ∨ c6 k = 4 := fun k => .inr (.inr (lS k))
 unfold bE
 rw [if_neg h]
 split
 ·exact p' _ _ _
 split
 ·split
  ·exact .inr (.inl rfl)
  ·exact p' _ _ _
 split
 ·exact p' _ _ _
 split
 ·split
  ·exact p' _ _ _
  ·exact e _
 split
 ·split
  ·exact p' _ _ _
  ·exact e _
 split
 ·exact g _
 split
 ·exact g _
 exact .inl rfl
theorem kB (ts:List Int):∀ n v (s:Mc),(bW ts n v s).2 = 0 ∨ (bW ts n v s).2 = 3 ∨ (bW ts n v s).2 = 4
 | 0,_,_ => .inl rfl
 | n + 1, v, s => by
  unfold bW;split
  ·split
   ·exact kB ts n _ _
   ·exact .inr (lS _)
  ·exact kB ts n _ _
theorem oR {ts:List Int}{s:Mc}{x:Pnt}(h:x.op = 11):bE ts s x = bW ts ts.length 0 s:=by
 unfold bE;simp [h]
theorem EM (m:List Cl) (x:Pt):(eU m x).length = m.length := by unfold eU;split <;> simp
theorem jJ (m:List Cl) (x:Pt) (b:Bool):(bX m x b).length = m.length := by unfold bX;split <;> simp
theorem Au (m:List Cl) (x:Pt) (b:Bool):(fY m x b).length = m.length := by unfold fY;split <;> simp
theorem Fy (m:List Cl) (x:Pt) (v:Int):(k3 m x v).length = m.length := by unfold k3;split <;> simp
structure PtA (ts : List Int) (x : Pnt) : Prop where
 n : x.op = 1 ∨ x.op = 2 → 0 ≤ x.n ∧ x.n ≤ 9
 t1 : x.op = 1 → ts[x.x.toNat]! = 1
 t2 : x.op = 2 ∨ x.op = 8 → ts[x.x.toNat]! = 2
 t3 : x.op = 3 → ts[x.x.toNat]! = ts[x.y.toNat]! ∧ x.x ≠ x.y
 t4 : x.op = 4 → ts[x.x.toNat]! = 3 ∧ x.x ≠ x.y ∧ 2 ≤ ts[x.y.toNat]!
 t5 : x.op = 5 → ts[x.x.toNat]! = 4 ∧ x.x ≠ x.y ∧ (ts[x.y.toNat]! = 2 ∨ ts[x.y.toNat]! = 4)
 t6 : x.op = 6 → ts[x.x.toNat]! = 1 ∧ 2 ≤ ts[x.y.toNat]!
 t7 : x.op = 7 → (ts[x.x.toNat]! = 2 ∨ ts[x.x.toNat]! = 4) ∧ ts[x.y.toNat]! = 1
theorem PtA.no {ts:List Int}{x:Pnt}(h:9 ≤ x.op):PtA ts x := ⟨fun e => by omega,fun e => by omega,fun e => by omega,fun e => by omega,fun e => by omega,fun e => by omega,fun e => by omega,fun e => by omega⟩
theorem xB {ts:List Int}{s:Stmt}(h:dC ts s = true):s.op ≤ 8:=by
 unfold dC at h
 dsimp only at h
 apply Classical.byContradiction
 intro e
 rw [if_neg (by omega),if_neg (by omega)] at h
 split at h
 ·cases h
 ·rw [if_neg (by omega),if_neg (by omega),if_neg (by omega),if_neg (by omega),if_neg (by omega),if_neg (by omega)] at h;cases h
theorem B6 {ts:List Int}(s:Stmt) (h:dC ts s = true):PtA ts ⟨s.op,s.x,s.y,s.n,[]⟩:=by
 have g : ∀ v,0 < dW ts v → dW ts v = ts[v.toNat]! := fun v => yM
 have gx := g s.x
 have gy := g s.y
 unfold dC at h
 dsimp only at h
 constructor <;> dsimp only <;> intro e
 case n => rcases e with e|e <;> simp [e] at h <;> omega
 case t1 => simp [e] at h;rw [← gx (by omega)]; omega
 case t2 => rcases e with e|e <;> simp [e] at h <;> (rw [← gx (by omega)]; omega)
 case t3 => simp [e] at h;rw [← gx (by omega),← gy (by omega)]; exact ⟨h.2.1,h.2.2.2⟩
 case t4 => simp [e] at h;rw [← gx (by omega),← gy (by omega)]; exact ⟨h.2.1,h.2.2.2,h.2.2.1⟩
 case t5 => simp [e] at h;rw [← gx (by omega),← gy (by omega)]; exact ⟨h.2.1,h.2.2.2,h.2.2.1⟩
 case t6 => simp [e] at h;rw [← gx (by omega),← gy (by omega)]; exact ⟨h.2.1,h.2.2⟩
 case t7 => simp [e] at h;rw [← gx (by omega),← gy (by omega)]; exact ⟨h.2.1,h.2.2⟩
mutual
theorem I0 {ts:List Int}:∀ (s:Stmt) (d b:Nat),pT ts d s = true → ∀ x ∈ zP b s,PtA ts x ∧ x.op ≠ 11 ∧ 0 < x.next.length
 | .mk op x y n th el, d, b, h => by
  simp only [pT] at h
  split at h
  ·rename_i hop
   simp only [Bool.and_eq_true] at h
   have hs := B6 _ h.2
   have ho := xB h.2
   simp only [Stmt.op,Stmt.x,Stmt.y,Stmt.n] at hs ho
   simp only [zP,hop.1,hop.2,if_false,List.mem_singleton]
   rintro z rfl
   exact ⟨⟨hs.n,hs.t1,hs.t2,hs.t3,hs.t4,hs.t5,hs.t6,hs.t7⟩,by dsimp only;omega,by simp⟩
  ·rename_i hop
   cases d with
   | zero => cases h
   | succ d =>
    simp only [Bool.and_eq_true,decide_eq_true_eq] at h
    obtain ⟨⟨⟨_,_⟩,h1⟩,h2⟩ := h
    by_cases h9 : op = 9
    ·subst h9
     simp only [zP,if_true,List.mem_append,List.mem_singleton]
     rintro z (((rfl|hz)|rfl)|hz)
     ·exact ⟨PtA.no (by simp),by simp,by simp⟩
     ·exact nX th d (b + 1) h1 z hz
     ·exact ⟨PtA.no (by simp),by simp,by simp⟩
     ·exact nX el d (b + 2 + cY th) h2 z hz
    ·have h10 : op = 10 := by omega
     subst h10
     simp only [zP,if_true,show ((10 : Int) = 9) = False by simp,if_false,List.mem_append,List.mem_singleton]
     rintro z ((rfl|hz)|rfl)
     ·exact ⟨PtA.no (by simp),by simp,by simp⟩
     ·exact nX th d (b + 1) h1 z hz
     ·exact ⟨PtA.no (by simp),by simp,by simp⟩
theorem nX {ts:List Int}:∀ (l:List Stmt) (d b:Nat),okL ts d l = true → ∀ x ∈ eY b l,PtA ts x ∧ x.op ≠ 11 ∧ 0 < x.next.length
 | [],d,b,h => by simp [eY]
 | s :: l, d, b, h => by
  simp only [okL,Bool.and_eq_true] at h
  simp only [eY,List.mem_append]
  rintro x (hx|hx)
  ·exact I0 s d b h.1 x hx
  ·exact nX l d (b + qU s) h.2 x hx
end
structure WA (ts : List Int) (pts : List Pnt) : Prop where
 a : ∀ i,i < pts.length → PtA ts pts[i]!
 e : ∀ i,i < pts.length → (pts[i]!.op = 11 ↔ i + 1 = pts.length)
 n : ∀ i,i < pts.length → pts[i]!.op ≠ 11 → 0 < pts[i]!.next.length
theorem WA.of_valid {p:Prg}(h:cL p = true):WA p.types (bJ p):=by
 unfold cL at h
 simp only [Bool.and_eq_true,decide_eq_true_eq] at h
 obtain ⟨⟨_,hl⟩,_⟩ := h
 have hlen := oA p
 have hpl := bI p.body 0
 have lo : ∀ i, i + 1 < (bJ p).length → (bJ p)[i]! ∈ eY 0 p.body := fun i hi => by
  have h1 : i < (eY 0 p.body).length := by omega
  unfold bJ
  rw [aW _ _ (by rw [List.length_append]; omega),List.getElem_append_left h1]
  exact List.getElem_mem h1
 have hi : ∀ i, i + 1 = (bJ p).length → (bJ p)[i]! = ⟨11, 0, 0, 0, []⟩ := fun i hi => by
  have h1 : i = (eY 0 p.body).length := by omega
  unfold bJ
  rw [aW _ _ (by rw [List.length_append,List.length_singleton]; omega)]
  simp [h1]
 refine ⟨fun i h => ?_,fun i h => ⟨fun e => ?_,fun e => by rw [hi i e]⟩,fun i h ne => ?_⟩
 ·by_cases q : i + 1 < (bJ p).length
  ·exact (nX p.body 4 0 hl _ (lo i q)).1
  ·rw [hi i (by omega)]; exact PtA.no (by simp)
 ·by_cases q : i + 1 < (bJ p).length
  ·exact absurd e (nX p.body 4 0 hl _ (lo i q)).2.1
  ·omega
 ·by_cases q : i + 1 < (bJ p).length
  ·exact (nX p.body 4 0 hl _ (lo i q)).2.2
  ·exact absurd (by rw [hi i (by omega)]) ne
theorem gN {xs:List Sl}{X:Int}(y:Sl){v:Nat}(hX:0 ≤ X ∧ X < xs.length) (hv:v < xs.length):(xs.set X.toNat y)[v]! = if X = (v:Int) then y else xs[v]!:=by
 rw [bR]
 by_cases h : X = (v : Int)
 ·rw [if_pos h,if_pos ⟨by omega,hv⟩]
 ·rw [if_neg h,if_neg (by omega)]
theorem c7 (ts:List Int) (s:Mc) (v:Nat) (x:Sl):(a7 ts s v x).1.slots = s.slots.set v x:=by
 unfold a7;split <;> rfl
theorem fB {ts:List Int}{s:Mc}{x:Pnt}(h:bK ts s x = false){v:Nat}(hv:v < ts.length) (hu:aV ts x v ≠ 0):s.slots[v]!.set = true:=by
 unfold bK at h
 rw [List.any_eq_false] at h
 have h1 := h v (List.mem_range.2 hv)
 rw [decide_eq_true hu,Bool.true_and] at h1
 simpa using h1
theorem pA {t:Int}:tI t = true ↔ t = 2 ∨ t = 4 := by unfold tI;simp
theorem Ds {ts:List Int}{s:Mc}{x:Pnt}(hl:s.slots.length = ts.length) (hu:bK ts s x = false) (A:PtA ts x) (hop:1 ≤ x.op ∧ x.op ≠ 11) (hx:x.op ≤ 8 → 0 ≤ x.x ∧ x.x < ts.length) (hy:3 ≤ x.op → x.op ≤ 7 → 0 ≤ x.y ∧ x.y < ts.length) (hgo:(bE ts s x).2 = -1) :
  ∃ y : Sl,y.set = true ∧ ∀ v,v < ts.length → (bE ts s x).1.slots[v]! = if aU x = (v : Int) then y else if aV ts x v = 2 then eG else s.slots[v]! := by
 have hk : ∀ k,c6 k ≠ -1 := fun k => by rcases lS k with h|h <;> rw [h] <;> decide
 unfold bE at hgo ⊢
 by_cases h1 : x.op = 1
 ·rw [if_pos h1]
  have hxb := hx (by omega)
  refine ⟨⟨true,x.n,⟨0,0⟩⟩,rfl,fun v hv => ?_⟩
  rw [c7,gN _ (by omega) (by omega)]
  have e1 : aU x = x.x := by unfold aU;rw [if_pos (by omega)]
  have e2 : aV ts x v = 0 := by unfold aV;rw [if_neg (by omega),if_neg (by omega),if_neg (by omega),if_neg (by omega)]
  rw [e1,e2]; simp
 rw [if_neg h1] at hgo ⊢
 by_cases h2 : x.op = 2
 ·rw [if_pos h2] at hgo ⊢
  have hxb := hx (by omega)
  by_cases h200 : s.cells.length = 200
  ·rw [if_pos h200] at hgo;cases hgo
  ·rw [if_neg h200]
   refine ⟨⟨true,0,⟨s.cells.length,0⟩⟩,rfl,fun v hv => ?_⟩
   rw [c7]
   dsimp only
   rw [gN _ (by omega) (by omega)]
   have e1 : aU x = x.x := by unfold aU;rw [if_pos (by omega)]
   have e2 : aV ts x v = 0 := by unfold aV;rw [if_neg (by omega),if_neg (by omega),if_neg (by omega),if_neg (by omega)]
   rw [e1,e2]; simp
 rw [if_neg h2] at hgo ⊢
 by_cases h3 : x.op = 3
 ·rw [if_pos h3]
  have hxb := hx (by omega)
  have hyb := hy (by omega) (by omega)
  have hne := (A.t3 h3).2
  have e1 : aU x = x.x := by unfold aU;rw [if_pos (by omega)]
  have hyn : ((x.y.toNat : Nat) : Int) = x.y := by omega
  have hys : s.slots[x.y.toNat]!.set = true := fB hu (v := x.y.toNat) (by omega) (by
   unfold aV;rw [if_pos h3,if_pos hyn]; split <;> decide)
  refine ⟨s.slots[x.y.toNat]!,hys,fun v hv => ?_⟩
  rw [c7]
  have e2 : aV ts x v = if (v : Int) = x.y then (if ts[x.y.toNat]! = 2 ∨ ts[x.y.toNat]! = 4 then 2 else 1) else 0 := by
   unfold aV;rw [if_pos h3]
   by_cases q : (v : Int) = x.y
   ·rw [if_pos q,if_pos q,q]
   ·rw [if_neg q,if_neg q]
  rw [e1,e2]
  by_cases ht : tI ts[x.y.toNat]! = true
  ·rw [if_pos ht]
   dsimp only
   rw [gN _ (by rw [List.length_set]; omega) (by rw [List.length_set]; omega),gN _ (by omega) (by omega),if_pos (pA.1 ht)]
   by_cases q : x.x = (v : Int)
   ·rw [if_pos q,if_pos q]
   ·rw [if_neg q, if_neg q]
    by_cases q2 : x.y = (v : Int)
    ·rw [if_pos q2,if_pos q2.symm,if_pos rfl]
    ·have q3 : ¬ ((v : Int) = x.y) := fun h => q2 h.symm
     rw [if_neg q2,if_neg q3,if_neg (by decide : ¬ (0 : Int) = 2)]
  ·rw [if_neg ht, gN _ (by omega) (by omega), if_neg (fun h => ht (pA.2 h))]
   by_cases q : x.x = (v : Int)
   ·rw [if_pos q,if_pos q]
   ·rw [if_neg q, if_neg q]
    by_cases q2 : (v : Int) = x.y
    ·rw [if_pos q2,if_neg (by decide)]
    ·rw [if_neg q2,if_neg (by decide)]
 rw [if_neg h3] at hgo ⊢
 by_cases h4 : x.op = 4 ∨ x.op = 5
 ·rw [if_pos h4] at hgo ⊢
  have hxb := hx (by omega)
  split at hgo
  ·rename_i hz
   rw [if_pos hz]
   refine ⟨⟨true,0,lQ s.cells s.slots[x.y.toNat]!.ptr (decide (x.op = 5))⟩,rfl,fun v hv => ?_⟩
   rw [c7]
   dsimp only
   rw [gN _ (by omega) (by omega)]
   have e1 : aU x = x.x := by unfold aU;rw [if_pos (by omega)]
   have e2 : aV ts x v ≠ 2 := by unfold aV;rw [if_neg (by omega),if_pos (by omega)]; split <;> decide
   rw [e1,if_neg e2]
  ·exact absurd hgo (hk _)
 rw [if_neg h4] at hgo ⊢
 by_cases h6 : x.op = 6
 ·rw [if_pos h6] at hgo ⊢
  have hxb := hx (by omega)
  split at hgo
  ·rename_i hz
   rw [if_pos hz]
   refine ⟨⟨true,kJ s.cells s.slots[x.y.toNat]!.ptr,⟨0,0⟩⟩,rfl,fun v hv => ?_⟩
   rw [c7]
   dsimp only
   rw [gN _ (by omega) (by omega)]
   have e1 : aU x = x.x := by unfold aU;rw [if_pos (by omega)]
   have e2 : aV ts x v ≠ 2 := by unfold aV;rw [if_neg (by omega),if_pos (by omega)]; split <;> decide
   rw [e1,if_neg e2]
  ·exact absurd hgo (hk _)
 rw [if_neg h6] at hgo ⊢
 have e1 : aU x = -1 := by unfold aU;rw [if_neg (by omega)]
 have e3 : ∀ v : Nat,aU x ≠ (v : Int) := fun v => by rw [e1]; omega
 by_cases h7 : x.op = 7
 ·rw [if_pos h7]
  refine ⟨⟨true,0,⟨0,0⟩⟩,rfl,fun v hv => ?_⟩
  have e2 : aV ts x v ≠ 2 := by unfold aV;rw [if_neg (by omega),if_neg (by omega),if_pos h7]; split;decide;split <;> decide
  rw [if_neg (e3 v),if_neg e2]
 rw [if_neg h7]
 by_cases h8 : x.op = 8
 ·rw [if_pos h8]
  have hxb := hx (by omega)
  refine ⟨⟨true,0,⟨0,0⟩⟩,rfl,fun v hv => ?_⟩
  dsimp only
  rw [if_neg (e3 v),gN _ (by omega) (by omega)]
  have e2 : aV ts x v = if (v : Int) = x.x then 2 else 0 := by unfold aV;rw [if_neg (by omega),if_neg (by omega),if_neg (by omega),if_pos h8]
  rw [e2]
  by_cases q : x.x = (v : Int)
  ·rw [if_pos q,if_pos q.symm,if_pos rfl]
  ·have q3 : ¬ ((v : Int) = x.x) := fun h => q h.symm
   rw [if_neg q,if_neg q3,if_neg (by decide : ¬ (0 : Int) = 2)]
 ·rw [if_neg h8, if_neg hop.2]
  refine ⟨⟨true,0,⟨0,0⟩⟩,rfl,fun v hv => ?_⟩
  have e2 : aV ts x v ≠ 2 := by unfold aV;rw [if_neg (by omega),if_neg (by omega),if_neg (by omega),if_neg (by omega)]; decide
  rw [if_neg (e3 v),if_neg e2]
section
variable {ts : List Int} {pts : List Pnt}
theorem WG.doS (w:WG ts pts) (A:WA ts pts){a:Nat}(ha:a < pts.length){s:Mc}(hl:s.slots.length = ts.length) (hu:bK ts s pts[a]! = false) (h11:pts[a]!.op ≠ 11) (hgo:(bE ts s pts[a]!).2 = -1) :
  ∃ y : Sl,y.set = true ∧ ∀ v,v < ts.length → (bE ts s pts[a]!).1.slots[v]! = if aU pts[a]! = (v : Int) then y else if aV ts pts[a]! v = 2 then eG else s.slots[v]! :=
 Ds hl hu (A.a a ha) ⟨(w.op a ha).1,h11⟩ (fun h => ⟨(w.x a ha).1,(w.x a ha).2 h⟩) (fun h1 h2 => ⟨(w.y a ha).1,(w.y a ha).2 h1 h2⟩) hgo
theorem nU (w:WG ts pts) (A:WA ts pts){a:Nat}(ha:a < pts.length) (h11:pts[a]!.op ≠ 11) (cs:List Int):eT pts a (eV pts a cs).1:=by
 have key : ∀ j : Nat, j < pts[a]!.next.length → eT pts a (pts[a]!.next[j]!).toNat := fun j hj => by
  have hm := aY pts[a]!.next j hj
  refine ⟨ha,?_⟩
  rw [show (((pts[a]!.next[j]!).toNat : Nat) : Int) = pts[a]!.next[j]! by have := (w.nx a ha _ hm).1;omega]
  exact hm
 have h0 := A.n a ha h11
 unfold eV
 split
 ·rename_i h2
  split
  ·exact key 1 (by omega)
  ·rename_i c cs
   exact key _ (by omega)
 ·exact key 0 h0
def Gg (ts : List Int) (pts : List Pnt) (I : Nat → Mc → Prop) (r : Mc × Int × Nat) : Prop := r.2.1 = 1 ∨ ∃ s',r.2.2 < pts.length ∧ I r.2.2 s' ∧
 ((r.2.1 = 2 ∧ bK ts s' pts[r.2.2]! = true ∧ r.1 = s') ∨
  (bK ts s' pts[r.2.2]! = false ∧ (bE ts s' pts[r.2.2]!).2 ≠ -1 ∧ r.1 = (bE ts s' pts[r.2.2]!).1 ∧ r.2.1 = (bE ts s' pts[r.2.2]!).2))
theorem s8 {I:Nat → Mc → Prop}{a:Nat}{l:List Nat}{s:Mc}{last:Nat}(ha:a < pts.length) (hs:I a s)
  (hrec : bK ts s pts[a]! = false → (bE ts s pts[a]!).2 = -1 → Gg ts pts I (eW ts pts l (bE ts s pts[a]!).1 a)) : Gg ts pts I (eW ts pts (a :: l) s last) := by
 by_cases h1 : bK ts s pts[a]! = true
 ·have e : eW ts pts (a :: l) s last = (s, 2, a) := by unfold eW; rw [if_pos h1]
  rw [e]; exact .inr ⟨s,ha,hs,.inl ⟨rfl,h1,rfl⟩⟩
 ·have h1' : bK ts s pts[a]! = false := by simpa using h1
  by_cases h2 : (bE ts s pts[a]!).2 = -1
  ·have e : eW ts pts (a :: l) s last = eW ts pts l (bE ts s pts[a]!).1 a := by
    conv => lhs;unfold eW
    rw [if_neg h1,if_pos h2]
   rw [e]; exact hrec h1' h2
  ·have e : eW ts pts (a :: l) s last = ((bE ts s pts[a]!).1, (bE ts s pts[a]!).2, a) := by
    unfold eW;rw [if_neg h1,if_neg h2]
   rw [e]; exact .inr ⟨s,ha,hs,.inr ⟨h1',h2,rfl,rfl⟩⟩
theorem lD {I:Nat → Mc → Prop}{a:Nat}{s:Mc}{last:Nat}(ha:a < pts.length) (hs:I a s) (h11:pts[a]!.op = 11):Gg ts pts I (eW ts pts [a] s last) :=
 s8 ha hs fun h1 h2 => by
  rw [oR h11] at h2
  rcases kB ts ts.length 0 s with q|q|q <;> (rw [q] at h2;cases h2)
theorem y6 (w:WG ts pts) (A:WA ts pts) (I:Nat → Mc → Prop)
  (hI : ∀ a s k,a < pts.length → pts[a]!.op ≠ 11 → eT pts a k → I a s → bK ts s pts[a]! = false → (bE ts s pts[a]!).2 = -1 → I k (bE ts s pts[a]!).1) :
  ∀ n a cs s last,a < pts.length → I a s → Gg ts pts I (eW ts pts (cK pts n a cs).1 s last) := by
 intro n
 induction n with
 | zero =>
  intro a cs s last ha hs
  by_cases h11 : pts[a]!.op = 11
  ·have e : (cK pts 0 a cs).1 = [a] := by unfold cK; rw [if_pos h11]
   rw [e]; exact lD ha hs h11
  ·have e : (cK pts 0 a cs).1 = [] := by rw [cK, if_neg h11]
   rw [e]; exact .inl rfl
 | succ n ih =>
  intro a cs s last ha hs
  by_cases h11 : pts[a]!.op = 11
  ·have e : (cK pts (n + 1) a cs).1 = [a] := by unfold cK; rw [if_pos h11]
   rw [e]; exact lD ha hs h11
  ·have e : (cK pts (n + 1) a cs).1 = a :: (cK pts n (eV pts a cs).1 (eV pts a cs).2).1 := by rw [cK, if_neg h11]
   have he := nU w A ha h11 cs
   rw [e]
   exact s8 ha hs fun h1 h2 => ih _ _ _ _ (jZ w he) (hI a s _ ha h11 he hs h1 h2)
end
section
variable {ts : List Int} {pts : List Pnt}
structure Vs (ts : List Int) (pts : List Pnt) (a : Nat) (s : Mc) : Prop where
 l : s.slots.length = ts.length
 u : ∀ v,v < ts.length → s.slots[v]!.set = false → Na ts pts (a,v)
 m : ∀ v,v < ts.length → s.slots[v]!.set = true → Mb ts pts (a,v)
theorem lX (ts:List Int) (s:Mc) (v:Nat) (x:Sl):(a7 ts s v x).1.slots.length = s.slots.length := by rw [c7,List.length_set]
theorem sB (ts:List Int):∀ n v (s:Mc),(bW ts n v s).1.slots.length = s.slots.length
 | 0,_,_ => rfl
 | n + 1, v, s => by
  unfold bW;split
  ·split
   ·rw [sB ts n]; exact List.length_set
   ·rfl
  ·exact sB ts n _ _
theorem Hg (ts:List Int) (s:Mc) (x:Pnt):(bE ts s x).1.slots.length = s.slots.length:=by
 unfold bE
 split
 ·exact lX _ _ _ _
 split
 ·split
  ·rfl
  ·exact lX _ _ _ _
 split
 ·rw [lX]; split
  ·exact List.length_set
  ·rfl
 split
 ·split
  ·exact lX _ _ _ _
  ·rfl
 split
 ·split
  ·exact lX _ _ _ _
  ·rfl
 split
 ·rfl
 split
 ·exact List.length_set
 split
 ·exact sB _ _ _ _
 ·rfl
theorem Vs.start:Vs ts pts 0 (mc0 ts.length):=by
 refine ⟨by simp [mc0],fun v hv _ => .base ⟨hv,.inl rfl⟩,fun v hv h => ?_⟩
 have e : (mc0 ts.length).slots[v]! = eG := by
  show (List.replicate ts.length eG)[v]! = eG
  rw [aW _ _ (by simpa using hv)]; simp
 rw [e] at h;cases h
theorem Vs.step (w:WG ts pts) (A:WA ts pts) (a:Nat) (s:Mc) (k:Nat) (ha:a < pts.length) (h11:pts[a]!.op ≠ 11) (he:eT pts a k) (h:Vs ts pts a s) (hu:bK ts s pts[a]! = false) (hgo:(bE ts s pts[a]!).2 = -1):Vs ts pts k (bE ts s pts[a]!).1:=by
 obtain ⟨y,hy,hs⟩ := w.doS A ha h.l hu h11 hgo
 refine ⟨by rw [Hg]; exact h.l,fun v hv hf => ?_,fun v hv ht => ?_⟩
 ·rw [hs v hv] at hf
  by_cases h1 : aU pts[a]! = (v : Int)
  ·rw [if_pos h1,hy] at hf;cases hf
  ·rw [if_neg h1] at hf
   by_cases h2 : aV ts pts[a]! v = 2
   ·exact .base ⟨hv,.inr ⟨a,he,h2,h1⟩⟩
   ·rw [if_neg h2] at hf
    exact .step (a := (a,v)) (h.u v hv hf) ⟨rfl,he,h1⟩
 ·rw [hs v hv] at ht
  by_cases h1 : aU pts[a]! = (v : Int)
  ·exact .base ⟨a,he,h1⟩
  ·rw [if_neg h1] at ht
   by_cases h2 : aV ts pts[a]! v = 2
   ·rw [if_pos h2] at ht;cases ht
   ·rw [if_neg h2] at ht
    exact .step (a := (a,v)) (h.m v hv ht) ⟨rfl,he,h2⟩
theorem oB {s:Mc}{x:Pnt}(h:bK ts s x = true):∃ v,v < ts.length ∧ aV ts x v ≠ 0 ∧ s.slots[v]!.set = false:=by
 unfold bK at h
 obtain ⟨v,hv,h2⟩ := List.any_eq_true.1 h
 rw [Bool.and_eq_true,decide_eq_true_eq] at h2
 exact ⟨v,List.mem_range.1 hv,h2.1,by simpa using h2.2⟩
end
theorem kZ {α:Type}[Inhabited α] {l r:List α}{c:Nat}(h:c < l.length):(l ++ r)[c]! = l[c]!:=by
 rw [aW _ _ (by rw [List.length_append]; omega),aW _ _ h,List.getElem_append_left h]
theorem DX {α:Type}[Inhabited α] {l:List α}{x:α}:(l ++ [x])[l.length]! = x:=by
 rw [aW _ _ (by rw [List.length_append,List.length_singleton]; omega)]; simp
theorem Gv {stk:List Tg}(hl:0 < stk.length) (h:stk[0]! = ⟨0,true⟩):bH stk 0 = 0:=by
 cases stk with
 | nil => simp at hl
 | cons t l =>
  have ht : t = ⟨0,true⟩ := h
  subst ht
  unfold bH
  rw [List.findIdx?_cons]
  simp
def Hd (m : List Cl) : Prop := ∀ c,c < m.length → m[c]!.stk[0]! = ⟨0,true⟩
theorem Cp {m:List Cl}(h:OkM m) (hh:Hd m){x:Pt}(hx:0 ≤ x.cell ∧ x.cell < m.length) (ht:x.tag = 0) (ha:m[x.cell.toNat]!.alive = true) (wr:Bool):aS m x wr = 0:=by
 have hc := h.at (k := x.cell.toNat) (by omega)
 have hs := hh x.cell.toNat (by omega)
 have h0 := Gv (by have := hc.l;omega) hs
 unfold aS
 rw [if_neg (fun q => q hx),if_neg (by rw [ha]; decide),ht,h0,if_neg (by decide),if_neg]
 rintro ⟨_,h2⟩
 have e : m[x.cell.toNat]!.stk[(0 : Int).toNat]! = m[x.cell.toNat]!.stk[0]! := rfl
 rw [e,hs] at h2;cases h2
theorem s0 {m:List Cl}(hh:Hd m){k:Nat}{c:Cl}(hc:c.stk[0]! = ⟨0,true⟩):Hd (m.set k c) := fun j hj => by
 rw [List.length_set] at hj
 rw [bR]
 split
 ·exact hc
 ·exact hh j hj
theorem nN {m:List Cl}(h:OkM m) (hh:Hd m){k:Nat}(hk:k < m.length) (x:Pt) (wr:Bool):(fM m[k]! x wr).stk[0]! = ⟨0,true⟩:=by
 have hl := (h.at hk).l
 show (dJ m[k]!.stk _ wr)[0]! = _
 rw [(qO (by omega)).1]; exact hh k hk
theorem Hd.tch {m:List Cl}(h:OkM m) (hh:Hd m) (x:Pt) (wr:Bool):Hd (bX m x wr):=by
 unfold bX;split
 ·rename_i hk;exact s0 hh (nN h hh (cP hk).2.2 x wr)
 ·exact hh
theorem Hd.fr {m:List Cl}(h:OkM m) (hh:Hd m) (x:Pt):Hd (eU m x):=by
 unfold eU;split
 ·rename_i hk;exact s0 hh (nN h hh (cP hk).2.2 x true)
 ·exact hh
theorem Hd.wr {m:List Cl}(h:OkM m) (hh:Hd m) (x:Pt) (v:Int):Hd (k3 m x v):=by
 unfold k3
 by_cases hk : lO m x v = 0
 ·rw [if_pos hk]
  unfold lO at hk
  by_cases hv : 0 ≤ v ∧ v ≤ 9
  ·rw [if_pos hv] at hk;exact s0 hh (nN h hh (cP hk).2.2 x true)
  ·rw [if_neg hv] at hk;cases hk
 ·rw [if_neg hk]; exact hh
theorem iP {m:List Cl}{x:Pt}{u:Bool}(h:gX m x u = 0):aS m x u = 0:=by
 unfold gX at h
 by_cases h0 : aS m x u = 0
 ·exact h0
 ·rw [if_neg h0] at h;exact h
theorem Hd.ln {m:List Cl}(h:OkM m) (hh:Hd m) (x:Pt) (u:Bool):Hd (fY m x u):=by
 unfold fY;split
 ·rename_i hk
  have h0 := cP (iP hk)
  have h1 := nN h hh h0.2.2 x u
  have h2 := ((h.at h0.2.2).tch x u).l
  refine s0 hh ?_
  show ((fM m[x.cell.toNat]! x u).stk ++ [_])[0]! = _
  rw [kZ (by omega)]; exact h1
 ·exact hh
theorem Hd.nw {m:List Cl}(hh:Hd m) (v:Int):Hd (m ++ [kX v]) := fun c hc => by
 rw [List.length_append,List.length_singleton] at hc
 by_cases q : c < m.length
 ·rw [kZ q]; exact hh c q
 ·have e : c = m.length := by omega
  subst e
  rw [DX]; rfl
def oO (m : List Cl) (c : Nat) : Bool := m[c]!.alive
theorem nQ {m:List Cl}{k c:Nat}{x:Cl}(hc:c < m.length):oO (m.set k x) c = if k = c then x.alive else oO m c:=by
 unfold oO
 rw [bR]
 by_cases h : k = c
 ·rw [if_pos ⟨h,hc⟩,if_pos h]
 ·rw [if_neg (fun q => h q.1),if_neg h]
theorem Ak (m:List Cl) (x:Pt) (wr:Bool) (c:Nat) (hc:c < m.length):oO (bX m x wr) c = oO m c:=by
 unfold bX;split
 ·rw [nQ hc]; split
  ·rename_i e;subst e;rfl
  ·rfl
 ·rfl
theorem C5 (m:List Cl) (x:Pt) (u:Bool) (c:Nat) (hc:c < m.length):oO (fY m x u) c = oO m c:=by
 unfold fY;split
 ·rw [nQ hc]; split
  ·rename_i e;subst e;rfl
  ·rfl
 ·rfl
theorem HZ (m:List Cl) (x:Pt) (v:Int) (c:Nat) (hc:c < m.length):oO (k3 m x v) c = oO m c:=by
 unfold k3;split
 ·rw [nQ hc]; split
  ·rename_i e;subst e;rfl
  ·rfl
 ·rfl
theorem xR {m:List Cl}{x:Pt}(hk:aS m x true = 0) (c:Nat) (hc:c < m.length):oO (eU m x) c = if x.cell = (c:Int) then false else oO m c:=by
 have h0 := cP hk
 unfold eU
 rw [if_pos hk,nQ hc]
 by_cases q : x.cell = (c : Int)
 ·rw [if_pos q,if_pos (by omega)]
 ·rw [if_neg q,if_neg (by omega)]
structure Own (ts : List Int) (s : Mc) (X : Option Nat) : Prop where
 k : OkS ts.length s
 h : Hd s.cells
 o : ∀ v,v < ts.length → ts[v]! = 2 → s.slots[v]!.set = true → 0 ≤ s.slots[v]!.ptr.cell ∧ s.slots[v]!.ptr.cell < s.cells.length ∧ s.slots[v]!.ptr.tag = 0 ∧ oO s.cells s.slots[v]!.ptr.cell.toNat = true
 d : ∀ v u,v < ts.length → u < ts.length → ts[v]! = 2 → ts[u]! = 2 → s.slots[v]!.set = true → s.slots[u]!.set = true → s.slots[v]!.ptr.cell = s.slots[u]!.ptr.cell → v = u
 a : ∀ c,c < s.cells.length → oO s.cells c = true → X = some c ∨ ∃ v,v < ts.length ∧ ts[v]! = 2 ∧ s.slots[v]!.set = true ∧ s.slots[v]!.ptr.cell = (c : Int)
 x : ∀ c,X = some c → c < s.cells.length ∧ oO s.cells c = true ∧ ∀ v,v < ts.length → ts[v]! = 2 → s.slots[v]!.set = true → s.slots[v]!.ptr.cell ≠ (c : Int)
theorem Own.k0 {ts:List Int}{s:Mc}{X:Option Nat}(w:Own ts s X){v:Nat}(hv:v < ts.length) (h2:ts[v]! = 2) (hs:s.slots[v]!.set = true) (wr:Bool):aS s.cells s.slots[v]!.ptr wr = 0:=by
 obtain ⟨h1,h3,h4,h5⟩ := w.o v hv h2 hs
 exact Cp w.k.m w.h ⟨h1,h3⟩ h4 h5 wr
theorem Own.cells {ts:List Int}{s:Mc}{X:Option Nat}(w:Own ts s X){m:List Cl}(hm:OkM m) (hh:Hd m) (hl:m.length = s.cells.length) (ha:∀ c,c < s.cells.length → oO m c = oO s.cells c) (r:List Int):Own ts ⟨s.slots,m,r⟩ X:=by
 refine ⟨⟨hm,w.k.l⟩,hh,fun v hv h2 hs => ?_,w.d,fun c hc h => ?_,fun c hc => ?_⟩
 ·obtain ⟨h1, h3, h4, h5⟩ := w.o v hv h2 hs
  exact ⟨h1,by show _ < (m.length : Int);rw [hl]; exact h3,h4,by show oO m _ = true;rw [ha _ (show s.slots[v]!.ptr.cell.toNat < s.cells.length by omega)]; exact h5⟩
 ·have hc' : c < m.length := hc
  exact w.a c (by omega) (by rw [← ha c (by omega)]; exact h)
 ·obtain ⟨h1, h3, h4⟩ := w.x c hc
  exact ⟨by show c < m.length;omega,by show oO m c = true;rw [ha c h1]; exact h3,h4⟩
theorem Own.put0 {ts:List Int}{s:Mc}{X:Option Nat}(w:Own ts s X){v:Nat}(h2:ts[v]! ≠ 2) (y:Sl):Own ts (a7 ts s v y).1 X ∧ (a7 ts s v y).2 = -1:=by
 have hl : (s.slots.set v y).length = ts.length := by rw [List.length_set]; exact w.k.l
 have e : ∀ u : Nat, ts[u]! = 2 → (s.slots.set v y)[u]! = s.slots[u]! := fun u hu => by
  rw [bR,if_neg]; rintro ⟨q,_⟩; rw [q] at h2;exact h2 hu
 unfold a7
 rw [if_neg (fun h => h2 h.1)]
 refine ⟨⟨⟨w.k.m,hl⟩,w.h,fun u hu h hs => ?_,fun u u' hu hu' h h' hs hs' hc => ?_,fun c hc h => ?_,fun c hc => ?_⟩,rfl⟩
 ·dsimp only at hs ⊢; rw [e u h] at hs ⊢; exact w.o u hu h hs
 ·dsimp only at hs hs' hc;rw [e u h] at hs hc;rw [e u' h'] at hs' hc;exact w.d u u' hu hu' h h' hs hs' hc
 ·rcases w.a c hc h with q | ⟨u, q1, q2, q3, q4⟩
  ·exact .inl q
  ·exact .inr ⟨u,q1,q2,by dsimp only;rw [e u q2]; exact q3,by dsimp only;rw [e u q2]; exact q4⟩
 ·obtain ⟨h1, h3, h4⟩ := w.x c hc
  exact ⟨h1,h3,fun u q1 q2 q3 => by dsimp only at q3 ⊢; rw [e u q2] at q3 ⊢; exact h4 u q1 q2 q3⟩
theorem Own.free {ts:List Int}{s:Mc}{X:Option Nat}(w:Own ts s X){v:Nat}(hv:v < ts.length) (h2:ts[v]! = 2) (hs:s.slots[v]!.set = true) (y:Sl) (hy:y.set = false) (r:List Int) :
  Own ts ⟨s.slots.set v y,eU s.cells s.slots[v]!.ptr,r⟩ X := by
 have hk := w.k0 hv h2 hs true
 have hlen := EM s.cells s.slots[v]!.ptr
 have hl : (s.slots.set v y).length = ts.length := by rw [List.length_set]; exact w.k.l
 have e : ∀ u : Nat, u ≠ v → (s.slots.set v y)[u]! = s.slots[u]! := fun u hu => by
  rw [bR,if_neg]; rintro ⟨q,_⟩; exact hu q.symm
 have ev : (s.slots.set v y)[v]! = y := by rw [bR,if_pos ⟨rfl,by rw [w.k.l]; exact hv⟩]
 have nev : ∀ u : Nat,(s.slots.set v y)[u]!.set = true → u ≠ v := fun u h q => by rw [q,ev,hy] at h;cases h
 obtain ⟨b1,b2,b3,b4⟩ := w.o v hv h2 hs
 refine ⟨⟨w.k.m.fr _,hl⟩,w.h.fr w.k.m _,fun u hu h hs' => ?_,fun u u' hu hu' h h' q q' hc => ?_,fun c hc h => ?_,fun c hc => ?_⟩
 ·have hne := nev u hs'
  dsimp only at hs' ⊢
  rw [e u hne] at hs' ⊢
  obtain ⟨c1,c2,c3,c4⟩ := w.o u hu h hs'
  refine ⟨c1,by rw [hlen]; exact c2,c3,?_⟩
  rw [xR hk _ (by omega),if_neg]
  ·exact c4
  ·intro q;exact hne (w.d u v hu hv h h2 hs' hs (by omega))
 ·have n1 := nev u q
  have n2 := nev u' q'
  dsimp only at q q' hc
  rw [e u n1] at q hc;rw [e u' n2] at q' hc
  exact w.d u u' hu hu' h h' q q' hc
 ·dsimp only at hc h
  rw [hlen] at hc
  rw [xR hk c hc] at h
  by_cases q : s.slots[v]!.ptr.cell = (c : Int)
  ·rw [if_pos q] at h;cases h
  ·rw [if_neg q] at h
   rcases w.a c hc h with q2 | ⟨u,q1,q2,q3,q4⟩
   ·exact .inl q2
   ·have hne : u ≠ v := fun e' => q (by rw [← e']; exact q4)
    exact .inr ⟨u,q1,q2,by dsimp only;rw [e u hne]; exact q3,by dsimp only;rw [e u hne]; exact q4⟩
 ·obtain ⟨h1, h3, h4⟩ := w.x c hc
  refine ⟨by dsimp only;rw [hlen]; exact h1,?_,fun u q1 q2 q3 => ?_⟩
  ·dsimp only;rw [xR hk c h1,if_neg (h4 v hv h2 hs)]; exact h3
  ·have hne := nev u q3
   dsimp only at q3 ⊢
   rw [e u hne] at q3 ⊢
   exact h4 u q1 q2 q3
theorem Own.take {ts:List Int}{s:Mc}{c:Nat}(w:Own ts s (some c)){v:Nat}(hv:v < ts.length) (h2:ts[v]! = 2) (hs:s.slots[v]!.set = false) (y:Sl) (hy:y.set = true) (hp:y.ptr = ⟨c,0⟩):Own ts ⟨s.slots.set v y,s.cells,s.read⟩ none:=by
 have hl : (s.slots.set v y).length = ts.length := by rw [List.length_set]; exact w.k.l
 have e : ∀ u : Nat, u ≠ v → (s.slots.set v y)[u]! = s.slots[u]! := fun u hu => by
  rw [bR,if_neg]; rintro ⟨q,_⟩; exact hu q.symm
 have ev : (s.slots.set v y)[v]! = y := by rw [bR,if_pos ⟨rfl,by rw [w.k.l]; exact hv⟩]
 obtain ⟨x1,x2,x3⟩ := w.x c rfl
 refine ⟨⟨w.k.m,hl⟩,w.h,fun u hu h hs' => ?_,fun u u' hu hu' h h' q q' hc => ?_,fun c' hc h => ?_,fun c' hc => by cases hc⟩
 ·by_cases q : u = v
  ·subst q; dsimp only; rw [ev, hp]
   exact ⟨by dsimp only;omega,by dsimp only;omega,rfl,by simpa using x2⟩
  ·dsimp only at hs' ⊢; rw [e u q] at hs' ⊢; exact w.o u hu h hs'
 ·dsimp only at q q' hc
  by_cases n1 : u = v
  ·by_cases n2 : u' = v
   ·rw [n1,n2]
   ·exfalso;rw [n1,ev,hp,e u' n2] at hc;rw [e u' n2] at q'; exact x3 u' hu' h' q' hc.symm
  ·by_cases n2 : u' = v
   ·exfalso;rw [n2,ev,hp,e u n1] at hc;rw [e u n1] at q;exact x3 u hu h q hc
   ·rw [e u n1] at q hc;rw [e u' n2] at q' hc;exact w.d u u' hu hu' h h' q q' hc
 ·dsimp only at hc h
  rcases w.a c' hc h with q2 | ⟨u,q1,q2,q3,q4⟩
  ·cases q2
   exact .inr ⟨v,hv,h2,by dsimp only;rw [ev]; exact hy,by dsimp only;rw [ev,hp]⟩
  ·have hne : u ≠ v := fun e' => by rw [e', hs] at q3; cases q3
   exact .inr ⟨u,q1,q2,by dsimp only;rw [e u hne]; exact q3,by dsimp only;rw [e u hne]; exact q4⟩
theorem DH {xs:List Sl}(v:Nat) (y z:Sl):(xs.set v y).set v z = xs.set v z := by simp
theorem Own.putB {ts:List Int}{s:Mc}{c:Nat}(w:Own ts s (some c)){v:Nat}(hv:v < ts.length) (h2:ts[v]! = 2) (y:Sl) (hy:y.set = true) (hp:y.ptr = ⟨c,0⟩):Own ts (a7 ts s v y).1 none ∧ (a7 ts s v y).2 = -1:=by
 unfold a7
 by_cases hs : s.slots[v]!.set = true
 ·rw [if_pos ⟨h2, hs⟩]
  have hk := w.k0 hv h2 hs true
  have w1 := w.free hv h2 hs eG rfl s.read
  have w2 := w1.take hv h2 (by dsimp only;rw [bR,if_pos ⟨rfl,by rw [w.k.l]; exact hv⟩]; rfl) y hy hp
  dsimp only at w2 ⊢
  rw [DH] at w2
  refine ⟨w2,?_⟩
  unfold gM;rw [if_pos hk]
 ·rw [if_neg (fun h => hs h.2)]
  exact ⟨w.take hv h2 (by simpa using hs) y hy hp,rfl⟩
section
variable {ts : List Int} {s : Mc}
theorem Own.new (w:Own ts s none){n:Int}(hn:0 ≤ n ∧ n ≤ 9) (hl:s.cells.length ≠ 200) (r:List Int):Own ts ⟨s.slots,s.cells ++ [kX n],r⟩ (some s.cells.length):=by
 have hlen : (s.cells ++ [kX n]).length = s.cells.length + 1 := by rw [List.length_append,List.length_singleton]
 have lo : ∀ c, c < s.cells.length → oO (s.cells ++ [kX n]) c = oO s.cells c := fun c hc => by
  unfold oO
  rw [kZ hc]
 have hi : oO (s.cells ++ [kX n]) s.cells.length = true := by
  unfold oO;rw [DX]; rfl
 refine ⟨⟨w.k.m.nw hn (by have := w.k.m.l;omega),w.k.l⟩,w.h.nw n,fun v hv h2 hs => ?_,w.d,fun c hc h => ?_,fun c hc => ?_⟩
 ·obtain ⟨h1, h3, h4, h5⟩ := w.o v hv h2 hs
  exact ⟨h1,by dsimp only;omega,h4,by dsimp only;rw [lo _ (by omega)]; exact h5⟩
 ·dsimp only at hc h
  by_cases q : c < s.cells.length
  ·rw [lo c q] at h
   rcases w.a c q h with q2|q2
   ·cases q2
   ·exact .inr q2
  ·exact .inl (by congr 1;omega)
 ·cases hc
  refine ⟨by dsimp only;omega,hi,fun v hv h2 hs => ?_⟩
  obtain ⟨h1,h3,h4,h5⟩ := w.o v hv h2 hs
  dsimp only;omega
theorem Own.give (w:Own ts s none){v:Nat}(hv:v < ts.length) (h2:ts[v]! = 2) (hs:s.slots[v]!.set = true):Own ts ⟨s.slots.set v eG,s.cells,s.read⟩ (some s.slots[v]!.ptr.cell.toNat):=by
 have hl : (s.slots.set v eG).length = ts.length := by rw [List.length_set]; exact w.k.l
 have e : ∀ u : Nat, u ≠ v → (s.slots.set v eG)[u]! = s.slots[u]! := fun u hu => by
  rw [bR,if_neg]; rintro ⟨q,_⟩; exact hu q.symm
 have ev : (s.slots.set v eG)[v]! = eG := by rw [bR,if_pos ⟨rfl,by rw [w.k.l]; exact hv⟩]
 have nev : ∀ u : Nat,(s.slots.set v eG)[u]!.set = true → u ≠ v := fun u h q => by rw [q,ev] at h;cases h
 obtain ⟨b1,b2,b3,b4⟩ := w.o v hv h2 hs
 refine ⟨⟨w.k.m,hl⟩,w.h,fun u hu h hs' => ?_,fun u u' hu hu' h h' q q' hc => ?_,fun c hc h => ?_,fun c hc => ?_⟩
 ·have hne := nev u hs'
  dsimp only at hs' ⊢; rw [e u hne] at hs' ⊢; exact w.o u hu h hs'
 ·have n1 := nev u q
  have n2 := nev u' q'
  dsimp only at q q' hc
  rw [e u n1] at q hc;rw [e u' n2] at q' hc
  exact w.d u u' hu hu' h h' q q' hc
 ·rcases w.a c hc h with q2 | ⟨u, q1, q2, q3, q4⟩
  ·cases q2
  ·by_cases q : u = v
   ·subst q;exact .inl (by congr 1;omega)
   ·exact .inr ⟨u,q1,q2,by dsimp only;rw [e u q]; exact q3,by dsimp only;rw [e u q]; exact q4⟩
 ·cases hc
  refine ⟨by dsimp only;omega,b4,fun u q1 q2 q3 => ?_⟩
  have hne := nev u q3
  dsimp only at q3 ⊢
  rw [e u hne] at q3 ⊢
  intro q;exact hne (w.d u v q1 hv q2 h2 q3 hs (by omega))
theorem Own.clr (w:Own ts s none){v:Nat}(h2:ts[v]! ≠ 2):Own ts ⟨s.slots.set v eG,s.cells,s.read⟩ none:=by
 have h := (w.put0 h2 eG).1
 unfold a7 at h
 rwa [if_neg (fun h => h2 h.1)] at h
theorem Own.do (w:Own ts s none){x:Pnt}(A:PtA ts x) (h11:x.op ≠ 11) (hx:x.op ≤ 8 → 0 ≤ x.x ∧ x.x < ts.length) (hop:1 ≤ x.op) (hy:3 ≤ x.op → x.op ≤ 7 → 0 ≤ x.y ∧ x.y < ts.length) (hu:bK ts s x = false):Own ts (bE ts s x).1 none:=by
 unfold bE
 by_cases h1 : x.op = 1
 ·rw [if_pos h1]; exact (w.put0 (by rw [A.t1 h1]; decide) _).1
 rw [if_neg h1]
 by_cases h2 : x.op = 2
 ·rw [if_pos h2]
  split
  ·exact w
  ·rename_i h200
   have hxb := hx (by omega)
   exact ((w.new (A.n (.inr h2)) h200 s.read).putB (v := x.x.toNat) (by omega) (A.t2 (.inl h2)) _ rfl rfl).1
 rw [if_neg h2]
 by_cases h3 : x.op = 3
 ·rw [if_pos h3]
  have hxb := hx (by omega)
  have hyb := hy (by omega) (by omega)
  obtain ⟨ht,hne⟩ := A.t3 h3
  have hyn : ((x.y.toNat : Nat) : Int) = x.y := by omega
  have hys : s.slots[x.y.toNat]!.set = true := fB hu (v := x.y.toNat) (by omega) (by
   unfold aV;rw [if_pos h3,if_pos hyn]; split <;> decide)
  by_cases q2 : ts[x.y.toNat]! = 2
  ·rw [if_pos (pA.2 (.inl q2))]
   have g := w.give (v := x.y.toNat) (by omega) q2 hys
   obtain ⟨b1,b2,b3,b4⟩ := w.o x.y.toNat (by omega) q2 hys
   refine (g.putB (v := x.x.toNat) (by omega) (by rw [ht]; exact q2) _ hys ?_).1
   generalize s.slots[x.y.toNat]! = z at b1 b3
   obtain ⟨zs,zn,zc,zt⟩ := z
   dsimp only at b1 b3 ⊢
   rw [b3,Int.toNat_of_nonneg b1]
  ·split
   ·exact ((w.clr (v := x.y.toNat) q2).put0 (by rw [ht]; exact q2) _).1
   ·exact (w.put0 (by rw [ht]; exact q2) _).1
 rw [if_neg h3]
 by_cases h4 : x.op = 4 ∨ x.op = 5
 ·rw [if_pos h4]
  have hxt : ts[x.x.toNat]! ≠ 2 := by
   rcases h4 with h4|h4
   ·rw [(A.t4 h4).1]; decide
   ·rw [(A.t5 h4).1]; decide
  split
  ·exact ((w.cells (w.k.m.ln _ _) (w.h.ln w.k.m _ _) (Au _ _ _) (fun c hc => C5 _ _ _ c hc) _).put0 hxt _).1
  ·exact w
 rw [if_neg h4]
 by_cases h6 : x.op = 6
 ·rw [if_pos h6]
  have hxt : ts[x.x.toNat]! ≠ 2 := by rw [(A.t6 h6).1]; decide
  split
  ·exact ((w.cells (w.k.m.tch _ _) (w.h.tch w.k.m _ _) (jJ _ _ _) (fun c hc => Ak _ _ _ c hc) _).put0 hxt _).1
  ·exact w
 rw [if_neg h6]
 by_cases h7 : x.op = 7
 ·rw [if_pos h7]; exact w.cells (w.k.m.wr _ _) (w.h.wr w.k.m _ _) (Fy _ _ _) (fun c hc => HZ _ _ _ c hc) _
 rw [if_neg h7]
 by_cases h8 : x.op = 8
 ·rw [if_pos h8]
  have hxb := hx (by omega)
  have hxn : ((x.x.toNat : Nat) : Int) = x.x := by omega
  have hxs : s.slots[x.x.toNat]!.set = true := fB hu (v := x.x.toNat) (by omega) (by
   unfold aV;rw [if_neg (by omega),if_neg (by omega),if_neg (by omega),if_pos h8,if_pos hxn]; decide)
  exact w.free (v := x.x.toNat) (by omega) (A.t2 (.inr h8)) hxs eG rfl _
 rw [if_neg h8,if_neg h11]
 exact w
end
theorem Own.fin {ts:List Int}:∀ n v (s:Mc),Own ts s none → v + n = ts.length → (∀ u,u < v → ts[u]! = 2 → s.slots[u]!.set = false) →
  (bW ts n v s).2 = 0 ∧ Own ts (bW ts n v s).1 none ∧ ∀ u,u < ts.length → ts[u]! = 2 → (bW ts n v s).1.slots[u]!.set = false
 | 0,v,s,w,hv,h => ⟨rfl,w,fun u hu h2 => h u (by omega) h2⟩
 | n + 1, v, s, w, hv, h => by
  unfold bW
  by_cases q : ts[v]! = 2 ∧ s.slots[v]!.set = true
  ·rw [if_pos q, if_pos (w.k0 (by omega) q.1 q.2 true)]
   refine Own.fin n (v + 1) _ (w.free (by omega) q.1 q.2 eG rfl _) (by omega) fun u hu h2 => ?_
   dsimp only
   rw [bR]
   by_cases e : v = u
   ·rw [if_pos ⟨e,by rw [w.k.l]; omega⟩]; rfl
   ·rw [if_neg (fun h => e h.1)]; exact h u (by omega) h2
  ·rw [if_neg q]
   refine Own.fin n (v + 1) s w (by omega) fun u hu h2 => ?_
   by_cases e : u = v
   ·subst e
    cases hs : s.slots[u]!.set with
    | false => rfl
    | true => exact absurd ⟨h2,hs⟩ q
   ·exact h u (by omega) h2
theorem Own.start (ts:List Int):Own ts (mc0 ts.length) none:=by
 have e : ∀ v, v < ts.length → (mc0 ts.length).slots[v]! = eG := fun v hv => by
  show (List.replicate ts.length eG)[v]! = eG
  rw [aW _ _ (by simpa using hv)]; simp
 refine ⟨OkS.mc0 _,fun c hc => ?_,fun v hv _ hs => ?_,fun v u hv _ _ _ hs => ?_,fun c hc => ?_,fun c hc => by cases hc⟩
 ·have : c < ([] : List Cl).length := hc
  simp at this
 ·rw [e v hv] at hs;cases hs
 ·rw [e v hv] at hs;cases hs
 ·have : c < ([] : List Cl).length := hc
  simp at this
theorem oE (ts:List Int):∀ n v (s:Mc),(bW ts n v s).1.read = s.read
 | 0,_,_ => rfl
 | n + 1, v, s => by
  unfold bW;split
  ·split
   ·exact oE ts n _ _
   ·rfl
  ·exact oE ts n _ _
theorem iB (ts:List Int) (s:Mc) (v:Nat) (x:Sl):(a7 ts s v x).1.read = s.read := by unfold a7;split <;> rfl
structure Co where
 val : Int
 alive : Bool
 next : Int
 av : AV
instance : Inhabited Co:=⟨⟨0,false,0,.imm 0 []⟩⟩
def dK (c : Co) : List AV := [iv c.val,bv c.alive,iv c.next,c.av]
instance : FlT dK 4:=⟨fun _ => rfl⟩
instance : FE dK (fun c => [iv c.val,bv c.alive,iv c.next,c.av]):=⟨fun _ => rfl⟩
def m4 (c : Cl) : Co := ⟨c.val,c.alive,c.next,sl bT c.stk⟩
def cF (m : List Cl) (j : Nat) (X : AV) : List Co := (m.map m4).set j { m4 m[j]! with av := X }
theorem hU (m:List Cl):aA dK (m.map m4) = aA a8 m:=by
 unfold aA;rw [List.flatMap_map]; rfl
theorem cD {m:List Cl}{j:Nat}{X:AV}:(cF m j X).length = m.length := by unfold cF;rw [List.length_set,List.length_map]
theorem fC {m:List Cl}{j:Nat}{X:AV}(h:j < m.length):(cF m j X)[j]! = ⟨m[j]!.val,m[j]!.alive,m[j]!.next,X⟩:=by
 unfold cF
 rw [aW _ _ (by rw [List.length_set,List.length_map]; exact h),List.getElem_set_self]; rfl
theorem gC {m:List Cl}{j:Nat}{X:AV}(h:j < m.length):aA dK (cF m j X) = aA a8 (m.take j) ++ ([iv m[j]!.val,bv m[j]!.alive,iv m[j]!.next] ++ X :: aA a8 (m.drop (j + 1))):=by
 unfold cF
 rw [List.set_eq_take_append_cons_drop,if_pos (by rw [List.length_map]; exact h),← b6,← List.map_take,hU,← List.map_drop]
 congr 1
 show dK _ ++ aA dK _ = _
 rw [hU]; rfl
theorem qP {m:List Cl}{j:Nat}{X:AV}(h:j < m.length):aA dK (cF m j X) = (aA a8 (m.take j) ++ [iv m[j]!.val,bv m[j]!.alive,iv m[j]!.next]) ++ X :: aA a8 (m.drop (j + 1)):=by
 rw [gC h,List.append_assoc]
theorem uQ {m:List Cl}{j:Nat}{r:List Tg}:aA dK (cF m j (sl bT r)) = aA a8 (m.set j { m[j]! with stk := r }):=by
 rw [← hU,List.map_set]; rfl
theorem rT {m:List Cl}{j:Nat}{X:AV}(h:j < m.length):eR (aA a8 m) (0 + j * 4 + 3) [X] = aA dK (cF m j X):=by
 rw [← hU]
 have := dD (f := dK) (xs := m.map m4) (k := j) (j := 3) (new := [X]) (y := { m4 m[j]! with av := X }) (by rw [List.length_map]; exact h) (by simp) (by
  have e : (m.map m4)[j]! = m4 m[j]! := by rw [aW _ _ (by rw [List.length_map]; exact h),List.getElem_map,aW _ _ h]
  rw [e]; rfl)
 exact this
theorem oV {m:List Cl}{j:Nat}{X Y:AV}(h:j < m.length):eR (aA dK (cF m j X)) (0 + j * 4 + 3) [Y] = aA dK (cF m j Y):=by
 have e : cF m j Y = (cF m j X).set j { m4 m[j]! with av := Y } := by unfold cF;rw [List.set_set]
 rw [e]
 exact dD (by rw [cD]; exact h) (by simp) (by rw [fC h]; rfl)
theorem rN {m:List Cl}{j:Nat}{X:AV}{v:Int}(h:j < m.length):eR (aA dK (cF m j X)) (0 + j * 4 + 2) [iv v] = aA dK (cF (m.set j { m[j]! with next := v }) j X):=by
 have e : cF (m.set j { m[j]! with next := v }) j X = (cF m j X).set j ⟨m[j]!.val, m[j]!.alive, v, X⟩ := by
  have e2 : (m.set j { m[j]! with next := v })[j]! = { m[j]! with next := v } := by rw [aW _ _ (by rw [List.length_set]; exact h),List.getElem_set_self]
  unfold cF
  rw [e2,List.map_set,List.set_set,List.set_set]; rfl
 rw [e]
 exact dD (by rw [cD]; exact h) (by simp) (by rw [fC h]; rfl)
theorem Le.cls {ts:List (Nat × AV)}{hs:List (Nat × Option (List AV))}{n:Nat}{z0:Lo}{o q j k:Nat}{m:List Cl}{r:List Tg}(hj:aO hs o = some (aA dK (cF m j (.own q 0 k 2)))) (hq:aO hs q = some (aA bT r)) (hk:k = r.length) (hjm:j < m.length) (hoq:o ≠ q) :
  Le ⟨ts,hs,n,z0⟩ ⟨ts,(o,some (aA a8 (m.set j { m[j]! with stk := r }))) :: (q,none) :: hs,n,z0⟩ := by
 subst hk
 rw [qP hjm] at hj
 have h := Le.frzC (ts := ts) (n := n) (z0 := z0) _ hj hq hoq
 rw [← uQ,qP hjm]; exact h
theorem rP {ρ:Nat → Option Nat}{m:List Cl}{j k i i':Nat}(hr:ρ i = some i'):RnL ρ (aA dK (cF m j (.own i 0 k 2))) (aA dK (cF m j (.own i' 0 k 2))):=by
 by_cases h : j < m.length
 ·rw [gC h, gC h]
  exact RnL.app (RnL.purI inferInstance) (RnL.app (RnL.purI inferInstance) (RnL.cons (RnV.own hr) (RnL.purI inferInstance)))
 ·have e : ∀ X, cF m j X = m.map m4 := fun X => List.set_eq_of_length_le (by rw [List.length_map]; omega)
  rw [e,e,hU]
  exact RnL.purI inferInstance
theorem F9:∀ {l:List Tg}{a b:Tg},(l.map (·.id)).Nodup → a ∈ l → b ∈ l → a.id = b.id → a = b
 | [],_,_,_,h,_,_ => by cases h
 | t :: l, a, b, hn, ha, hb, e => by
  rw [List.map_cons,List.nodup_cons] at hn
  rcases List.mem_cons.1 ha with q|ha'
  ·rcases List.mem_cons.1 hb with q' | hb'
   ·rw [q,q']
   ·exact absurd (List.mem_map.2 ⟨b,hb',by rw [← e,q]⟩) hn.1
  ·rcases List.mem_cons.1 hb with q' | hb'
   ·exact absurd (List.mem_map.2 ⟨a,ha',by rw [e,q']⟩) hn.1
   ·exact F9 hn.2 ha' hb' e
theorem oC {stk:List Tg}{t:Tg}(hn:(stk.map (·.id)).Nodup) (h:t ∈ stk):0 ≤ bH stk t.id ∧ (bH stk t.id).toNat < stk.length ∧ stk[(bH stk t.id).toNat]! = t:=by
 have h0 : 0 ≤ bH stk t.id := by
  apply Classical.byContradiction;intro q
  exact j5.1 (by omega : bH stk t.id < 0) t h rfl
 have hb := cZ stk t.id
 have hk : (bH stk t.id).toNat < stk.length := by omega
 exact ⟨h0,hk,F9 hn (aY _ _ hk) h (zJ h0)⟩
theorem zL {a b:Tg}{l:List Tg}(h:[a,b].Sublist l):a ∈ l ∧ b ∈ l := ⟨h.subset (by simp),h.subset (by simp)⟩
theorem G5 {a b:Tg}{l:List Tg}(hn:(l.map (·.id)).Nodup) (h:[a,b].Sublist l):a.id ≠ b.id:=by
 have := (h.map (·.id)).nodup hn
 simpa using this
theorem Eu {a b:Tg}{l:List Tg}(hn:(l.map (·.id)).Nodup) (hl:0 < l.length) (h:[a,b].Sublist l):b ≠ l[0]!:=by
 cases l with
 | nil => cases h
 | cons t l =>
  intro q
  have e : (t :: l)[0]! = t := rfl
  rw [e] at q
  rw [q] at h
  rw [List.map_cons,List.nodup_cons] at hn
  have ht : t ∉ l := fun q => hn.1 (List.mem_map.2 ⟨t,q,rfl⟩)
  cases h with
  | cons _ h => exact ht (h.subset (by simp))
  | cons_cons _ h => exact ht (h.subset (by simp))
theorem FG {b:Tg}{l:List Tg}(h:b ∈ l) (hne:b ≠ l[0]!):[l[0]!,b].Sublist l:=by
 cases l with
 | nil => cases h
 | cons t l =>
  have e : (t :: l)[0]! = t := rfl
  rw [e] at hne ⊢
  rcases List.mem_cons.1 h with h|h
  ·exact absurd h hne
  ·exact (List.singleton_sublist.2 h).cons_cons t
theorem Bd {stk:List Tg}{k:Nat}{wr:Bool}(hk:k < stk.length){t:Tg}(h:t ∈ stk) (hn:t ∉ dJ stk k wr):[stk[k]!,t].Sublist stk ∧ (wr = false → t.uq = true):=by
 have ht : t ∉ stk.take (k + 1) := fun q => hn (by unfold dJ;split;exact q;exact List.mem_append_left _ q)
 have hd : t ∈ stk.drop (k + 1) := by
  rw [← List.take_append_drop (k + 1) stk] at h
  exact (List.mem_append.1 h).resolve_left ht
 refine ⟨?_,fun hw => ?_⟩
 ·have h1 : [stk[k]!].Sublist (stk.take (k + 1)) := List.singleton_sublist.2 (by rw [cO _ _ hk]; simp)
  have h2 := h1.append (List.singleton_sublist.2 hd)
  rwa [List.take_append_drop] at h2
 ·apply Classical.byContradiction; intro q
  apply hn
  unfold dJ
  rw [if_neg (by rw [hw]; decide)]
  exact List.mem_append_right _ (List.mem_filter.2 ⟨hd,by simpa using q⟩)
theorem qG {stk:List Tg}{k:Nat}{wr:Bool}(hk:k < stk.length){t:Tg}(h:t ∈ dJ stk k wr) (hu:wr = false → t.uq = true):t = stk[k]! ∨ [t,stk[k]!].Sublist stk:=by
 have ht : t ∈ stk.take (k + 1) := by
  unfold dJ at h
  split at h
  ·exact h
  ·rename_i hw
   rcases List.mem_append.1 h with h|h
   ·exact h
   ·have h1 := (List.mem_filter.1 h).2
    rw [hu (by simpa using hw)] at h1;cases h1
 have e := cO _ _ hk
 rw [e] at ht
 rcases List.mem_append.1 ht with ht|ht
 ·refine .inr (List.Sublist.trans ?_ (List.take_sublist (k + 1) stk))
  rw [e]
  exact (List.singleton_sublist.2 ht).append (List.Sublist.refl _)
 ·exact .inl (by simpa using ht)
theorem rY {a b t:Tg}{l:List Tg}(h:[a,b].Sublist (l ++ [t])):[a,b].Sublist l ∨ (b = t ∧ a ∈ l):=by
 obtain ⟨x,y,e,hx,hy⟩ := List.sublist_append_iff.1 h
 match x,e with
 | [], e =>
  have : y = [a,b] := by simpa using e.symm
  rw [this] at hy;have := hy.length_le;simp at this
 | [c], e =>
  have e' : a = c ∧ [b] = y := by simpa using e
  rw [← e'.2] at hy
  refine .inr ⟨by simpa using hy.subset (List.mem_singleton_self b),?_⟩
  rw [e'.1]; exact hx.subset (by simp)
 | [c, d], e =>
  have e' : a = c ∧ b = d := by simp at e;exact ⟨e.1,e.2.1⟩
  rw [e'.1,e'.2]; exact .inl hx
 | c :: d :: f :: z,e => simp at e
abbrev Ut (a b : Tg) : Prop := b.uq = true → a.uq = true
structure Sh (N : Int) (c : Cl) : Prop where
 n : c.next ≤ N
 l : (c.stk.length : Int) ≤ c.next
 p : c.stk.Pairwise Ut
def ShM (N : Int) (m : List Cl) : Prop := ∀ c ∈ m,Sh N c
theorem Sh.two {N:Int}{c:Cl}(h:Sh N c){a b:Tg}(hs:[a,b].Sublist c.stk) (hb:b.uq = true):a.uq = true:=by
 have := h.p.sublist hs
 simp only [List.pairwise_cons,List.mem_singleton,forall_eq] at this
 exact this.1 hb
theorem Sh.mono {N N':Int}{c:Cl}(h:Sh N c) (hN:N ≤ N'):Sh N' c := ⟨Int.le_trans h.n hN,h.l,h.p⟩
theorem ShM.mono {N N':Int}{m:List Cl}(h:ShM N m) (hN:N ≤ N'):ShM N' m := fun c hc => (h c hc).mono hN
theorem Sh.tch {N:Int}{c:Cl}(h:Sh N c) (x:Pt) (wr:Bool):Sh N (fM c x wr):=by
 have hs := tchS_sub (stk := c.stk) (k := (bH c.stk x.tag).toNat) (wr := wr)
 refine ⟨h.n,?_,h.p.sublist hs⟩
 have h1 := hs.length_le
 have h2 := h.l
 show ((dJ c.stk _ wr).length : Int) ≤ c.next
 omega
theorem ShM.set {N:Int}{m:List Cl}(h:ShM N m){k:Nat}{c:Cl}(hc:Sh N c):ShM N (m.set k c) :=
 fun x hx => (List.mem_or_eq_of_mem_set hx).elim (h x) (fun e => e ▸ hc)
theorem ShM.at {N:Int}{m:List Cl}(h:ShM N m){k:Nat}(hk:k < m.length):Sh N m[k]! := h _ (aY _ _ hk)
theorem ShM.tch {N:Int}{m:List Cl}(h:ShM N m) (x:Pt) (wr:Bool):ShM N (bX m x wr):=by
 unfold bX;split
 ·rename_i hk;exact h.set ((h.at (cP hk).2.2).tch x wr)
 ·exact h
theorem ShM.fr {N:Int}{m:List Cl}(h:ShM N m) (x:Pt):ShM N (eU m x):=by
 unfold eU;split
 ·rename_i hk
  have h1 := (h.at (cP hk).2.2).tch x true
  exact h.set ⟨h1.n,h1.l,h1.p⟩
 ·exact h
theorem ShM.wr {N:Int}{m:List Cl}(h:ShM N m) (x:Pt) (v:Int):ShM N (k3 m x v):=by
 unfold k3
 by_cases hk : lO m x v = 0
 ·rw [if_pos hk]
  unfold lO at hk
  by_cases hv : 0 ≤ v ∧ v ≤ 9
  ·rw [if_pos hv] at hk
   have h1 := (h.at (cP hk).2.2).tch x true
   exact h.set ⟨h1.n,h1.l,h1.p⟩
  ·rw [if_neg hv] at hk;cases hk
 ·rw [if_neg hk]; exact h
theorem ShM.nw {N:Int}{m:List Cl}(h:ShM N m) (hN:1 ≤ N) (v:Int):ShM N (m ++ [kX v]) := fun c hc =>
 (List.mem_append.1 hc).elim (h c) (fun h => by
  rw [List.mem_singleton.1 h]
  exact ⟨hN,by show ((1 : Nat) : Int) ≤ 1;decide,by simp [kX]⟩)
theorem CR {m:List Cl}{x:Pt}{wr:Bool}(h:aS m x wr = 0):m[x.cell.toNat]!.alive = true ∧ 0 ≤ bH m[x.cell.toNat]!.stk x.tag ∧ (wr = true → m[x.cell.toNat]!.stk[(bH m[x.cell.toNat]!.stk x.tag).toNat]!.uq = true):=by
 unfold aS at h
 split at h
 ·cases h
 split at h
 ·cases h
 rename_i ha
 split at h
 ·cases h
 rename_i ht
 split at h
 ·cases h
 rename_i hw
 refine ⟨by simpa using ha,by omega,fun e => ?_⟩
 simpa [e] using hw
theorem ShM.ln {N:Int}{m:List Cl}(h:ShM N m) (x:Pt) (u:Bool):ShM (N + 1) (fY m x u):=by
 unfold fY
 by_cases hk : gX m x u = 0
 ·rw [if_pos hk]
  have h0 := iP hk
  have hx := cP h0
  have ht := CR h0
  have hc := (h.at hx.2.2)
  have h1 := hc.tch x u
  have hb := cZ m[x.cell.toNat]!.stk x.tag
  refine ShM.set (h.mono (by omega)) (Sh.mk ?_ ?_ ?_)
  ·have := h1.n;show (fM m[x.cell.toNat]! x u).next + 1 ≤ N + 1;omega
  ·have := h1.l; show (((fM m[x.cell.toNat]! x u).stk ++ [_]).length : Int) ≤ (fM m[x.cell.toNat]! x u).next + 1
   rw [List.length_append,List.length_singleton]; omega
  ·show ((fM m[x.cell.toNat]! x u).stk ++ [(⟨(fM m[x.cell.toNat]! x u).next, u⟩ : Tg)]).Pairwise Ut
   rw [List.pairwise_append]
   refine ⟨h1.p,by simp,fun a ha b hb' => ?_⟩
   rw [List.mem_singleton.1 hb']
   intro hu
   dsimp only at hu
   subst hu
   have hw := ht.2.2 rfl
   have hkk : (bH m[x.cell.toNat]!.stk x.tag).toNat < m[x.cell.toNat]!.stk.length := by omega
   have ha' : a ∈ dJ m[x.cell.toNat]!.stk (bH m[x.cell.toNat]!.stk x.tag).toNat true := ha
   rcases qG hkk ha' (fun q => by cases q) with e|e
   ·rw [e]; exact hw
   ·exact hc.two e hw
 ·rw [if_neg hk]; exact h.mono (by omega)
theorem n8 {m:List Cl}{x:Pt}{wr:Bool}(hk:aS m x wr = 0) (c:Nat):(bX m x wr)[c]! = if x.cell.toNat = c then fM m[c]! x wr else m[c]!:=by
 have h := cP hk
 unfold bX
 rw [if_pos hk,bR]
 by_cases q : x.cell.toNat = c
 ·rw [if_pos ⟨q,by omega⟩,if_pos q,q]
 ·rw [if_neg (fun h => q h.1),if_neg q]
theorem F8 {m:List Cl}{x:Pt}(hk:aS m x true = 0) (c:Nat) (hc:x.cell.toNat ≠ c):(eU m x)[c]! = m[c]!:=by
 unfold eU
 rw [if_pos hk,bR,if_neg (fun h => hc h.1)]
theorem z7 {m:List Cl}{x:Pt}{u:Bool}(hk:gX m x u = 0) (c:Nat):(fY m x u)[c]! = if x.cell.toNat = c then psh (fM m[c]! x u) u else m[c]!:=by
 have h := cP (iP hk)
 unfold fY
 rw [if_pos hk,bR]
 by_cases q : x.cell.toNat = c
 ·rw [if_pos ⟨q,by omega⟩,if_pos q,q]
 ·rw [if_neg (fun h => q h.1),if_neg q]
theorem C9 {m:List Cl}{x:Pt}{v:Int}(hk:lO m x v = 0):aS m x true = 0:=by
 unfold lO at hk
 split at hk
 ·exact hk
 ·cases hk
theorem Im {m:List Cl}{x:Pt}{v:Int}(hk:lO m x v = 0) (c:Nat):(k3 m x v)[c]!.alive = (bX m x true)[c]!.alive ∧ (k3 m x v)[c]!.stk = (bX m x true)[c]!.stk:=by
 have h0 := C9 hk
 have h := cP h0
 rw [n8 h0]
 unfold k3
 rw [if_pos hk,bR]
 by_cases q : x.cell.toNat = c
 ·rw [if_pos ⟨q,by omega⟩,if_pos q,q]; exact ⟨rfl,rfl⟩
 ·rw [if_neg (fun h => q h.1),if_neg q]; exact ⟨rfl,rfl⟩
def fP (ts : List Int) (sl : List Sl) (v : Nat) : Tg := ⟨sl[v]!.ptr.tag,!decide (ts[v]! = 3)⟩
def eB (sl : List Sl) (v : Nat) : Nat := sl[v]!.ptr.cell.toNat
structure RfI (ts : List Int) (P : Nat → Prop) (G : Nat → Nat → Prop) (sl : List Sl) (m : List Cl) : Prop where
 l : ∀ v,v < ts.length → 3 ≤ ts[v]! → sl[v]!.set = true → P v → m[eB sl v]!.alive = true ∧ fP ts sl v ∈ m[eB sl v]!.stk
 c : ∀ v w,v < ts.length → w < ts.length → 3 ≤ ts[v]! → (ts[w]! = 2 ∨ ts[w]! = 4) → sl[v]!.set = true → sl[w]!.set = true → P v → eB sl v = eB sl w → [fP ts sl w,fP ts sl v].Sublist m[eB sl v]!.stk → G v w
section
variable {ts : List Int} {P P' : Nat → Prop} {G : Nat → Nat → Prop} {sl : List Sl} {m m' : List Cl} {N : Int}
theorem RfI.mono (R:RfI ts P G sl m) (h:∀ v,P' v → P v):RfI ts P' G sl m :=
 ⟨fun v h1 h2 h3 h4 => R.l v h1 h2 h3 (h v h4),fun v w h1 h2 h3 h4 h5 h6 h7 => R.c v w h1 h2 h3 h4 h5 h6 (h v h7)⟩
theorem RfI.cong (R:RfI ts P G sl m) (h:∀ c:Nat,m'[c]!.alive = m[c]!.alive ∧ m'[c]!.stk = m[c]!.stk):RfI ts P G sl m':=by
 refine ⟨fun v h1 h2 h3 h4 => ?_,fun v w h1 h2 h3 h4 h5 h6 h7 h8 h9 => ?_⟩
 ·rw [(h _).1,(h _).2]; exact R.l v h1 h2 h3 h4
 ·rw [(h _).2] at h9;exact R.c v w h1 h2 h3 h4 h5 h6 h7 h8 h9
theorem RfI.tch (hT:∀ v,v < ts.length → ts[v]! ≤ 4) (hm:OkM m) (hs:ShM N m) (R:RfI ts P G sl m) (hP:∀ v,P' v → P v){u:Nat}{wr:Bool}(hu:u < ts.length) (h2:2 ≤ ts[u]!) (hset:sl[u]!.set = true)
  (hk : aS m sl[u]!.ptr wr = 0) (hin : fP ts sl u ∈ m[eB sl u]!.stk) (hwr : wr = true → ts[u]! ≠ 3) (hc : ∀ v,P' v → G v u → ¬ (wr = true ∨ ts[v]! = 4)) : RfI ts P' G sl (bX m sl[u]!.ptr wr) := by
 have hx := cP hk
 have hcc := hm.at hx.2.2
 obtain ⟨t1,t2,t3⟩ := oC hcc.d hin
 refine ⟨fun v h1 h2' h3 h4 => ?_,fun v w h1 h2' h3 h4 h5 h6 h7 h8 h9 => ?_⟩
 ·obtain ⟨a1, a2⟩ := R.l v h1 h2' h3 (hP v h4)
  rw [n8 hk]
  by_cases q : sl[u]!.ptr.cell.toNat = eB sl v
  ·rw [if_pos q]
   refine ⟨a1,?_⟩
   rw [← q] at a2 ⊢
   apply Classical.byContradiction;intro hn
   have hn' : fP ts sl v ∉ dJ m[sl[u]!.ptr.cell.toNat]!.stk (bH m[sl[u]!.ptr.cell.toNat]!.stk (fP ts sl u).id).toNat wr := hn
   obtain ⟨g1,g2⟩ := Bd t2 a2 hn'
   have t3' : m[sl[u]!.ptr.cell.toNat]!.stk[(bH m[sl[u]!.ptr.cell.toNat]!.stk (fP ts sl u).id).toNat]! = fP ts sl u := t3
   rw [t3'] at g1
   by_cases q3 : ts[u]! = 3
   ·have hwf : wr = false := by cases wr with | false => rfl | true => exact absurd q3 (hwr rfl)
    have := (hs.at hx.2.2).two g1 (g2 hwf)
    simp [fP,q3] at this
   ·have hb := hT u hu
    have hg := R.c v u h1 hu h2' (by omega) h3 hset (hP v h4) q.symm (by rw [← q]; exact g1)
    refine hc v h4 hg ?_
    cases hw : wr with
    | true => exact .inl rfl
    | false =>
     have h5 := g2 hw
     have hb' := hT v h1
     have : ts[v]! ≠ 3 := by simpa [fP] using h5
     exact .inr (by omega)
  ·rw [if_neg q]; exact ⟨a1,a2⟩
 ·refine R.c v w h1 h2' h3 h4 h5 h6 (hP v h7) h8 (h9.trans ?_)
  rw [n8 hk]
  split
  ·exact tchS_sub
  ·exact List.Sublist.refl _
theorem RfI.fr (hd:Hd m) (R:RfI ts P G sl m) (hP:∀ v,P' v → P v) (hf:∀ v,v < ts.length → 3 ≤ ts[v]! → sl[v]!.set = true → 1 ≤ sl[v]!.ptr.tag){u:Nat}(hu:u < ts.length) (h2:ts[u]! = 2) (hset:sl[u]!.set = true)
  (hk : aS m sl[u]!.ptr true = 0) (h0 : sl[u]!.ptr.tag = 0) (hc : ∀ v,P' v → ¬ G v u) : RfI ts P' G sl (eU m sl[u]!.ptr) := by
 have hx := cP hk
 have e0 := hd _ hx.2.2
 have eu : fP ts sl u = ⟨0,true⟩ := by unfold fP;rw [h0,h2]; rfl
 have key : ∀ v, v < ts.length → 3 ≤ ts[v]! → sl[v]!.set = true → P' v → sl[u]!.ptr.cell.toNat ≠ eB sl v := fun v h1 h2' h3 h4 q => by
  obtain ⟨a1,a2⟩ := R.l v h1 h2' h3 (hP v h4)
  have hne : fP ts sl v ≠ m[eB sl v]!.stk[0]! := by
   rw [← q,e0]; intro e
   have e1 : (fP ts sl v).id = 0 := by rw [e]
   have e2 : sl[v]!.ptr.tag = 0 := e1
   have e3 := hf v h1 h2' h3
   omega
  have hs := FG a2 hne
  refine hc v h4 (R.c v u h1 hu h2' (.inl h2) h3 hset (hP v h4) q.symm ?_)
  rw [eu,← e0,show sl[u]!.ptr.cell.toNat = eB sl v from q]; exact hs
 refine ⟨fun v h1 h2' h3 h4 => ?_,fun v w h1 h2' h3 h4 h5 h6 h7 h8 h9 => ?_⟩
 ·rw [F8 hk _ (key v h1 h2' h3 h4)]; exact R.l v h1 h2' h3 (hP v h4)
 ·rw [F8 hk _ (key v h1 h3 h5 h7)] at h9;exact R.c v w h1 h2' h3 h4 h5 h6 (hP v h7) h8 h9
theorem RfI.ln {x:Pt}{b:Bool}(hk:gX m x b = 0) (R:RfI ts P G sl (bX m x b)) (hf:∀ v,v < ts.length → 3 ≤ ts[v]! → sl[v]!.set = true → sl[v]!.ptr.tag < m[eB sl v]!.next):RfI ts P G sl (fY m x b):=by
 have h0 := iP hk
 refine ⟨fun v h1 h2 h3 h4 => ?_,fun v w h1 h2 h3 h4 h5 h6 h7 h8 h9 => ?_⟩
 ·have hr := R.l v h1 h2 h3 h4
  rw [n8 h0] at hr
  rw [z7 hk]
  split
  ·rename_i q
   rw [if_pos q] at hr
   exact ⟨hr.1,List.mem_append_left _ hr.2⟩
  ·rename_i q
   rw [if_neg q] at hr;exact hr
 ·refine R.c v w h1 h2 h3 h4 h5 h6 h7 h8 ?_
  rw [z7 hk] at h9
  rw [n8 h0]
  split at h9
  ·rename_i q
   rw [if_pos q]
   have h9' : [fP ts sl w,fP ts sl v].Sublist ((fM m[eB sl v]! x b).stk ++ [⟨m[eB sl v]!.next,b⟩]) := h9
   rcases rY h9' with e | ⟨e,_⟩
   ·exact e
   ·exfalso
    have e1 : (fP ts sl v).id = m[eB sl v]!.next := by rw [e]
    have e2 : sl[v]!.ptr.tag = m[eB sl v]!.next := e1
    have := hf v h1 h3 h5
    omega
  ·rename_i q
   rw [if_neg q]; exact h9
theorem RfI.nw (R:RfI ts P G sl m) (hf:∀ v,v < ts.length → 3 ≤ ts[v]! → sl[v]!.set = true → eB sl v < m.length) (z:Cl):RfI ts P G sl (m ++ [z]):=by
 refine ⟨fun v h1 h2 h3 h4 => ?_,fun v w h1 h2 h3 h4 h5 h6 h7 h8 h9 => ?_⟩
 ·rw [kZ (hf v h1 h2 h3)]; exact R.l v h1 h2 h3 h4
 ·rw [kZ (hf v h1 h3 h5)] at h9;exact R.c v w h1 h2 h3 h4 h5 h6 h7 h8 h9
end
def Ac (ts : List Int) (pts : List Pnt) (a w : Nat) (wr : Bool) : Prop :=
 ((pts[a]!.op = 4 ∨ pts[a]!.op = 6) ∧ pts[a]!.y = (w : Int) ∧ wr = false) ∨ (pts[a]!.op = 5 ∧ pts[a]!.y = (w : Int) ∧ wr = true) ∨ ((pts[a]!.op = 7 ∨ pts[a]!.op = 8) ∧ pts[a]!.x = (w : Int) ∧ wr = true) ∨
 (pts[a]!.op = 3 ∧ tI ts[w]! = true ∧ pts[a]!.y = (w : Int) ∧ wr = true) ∨ (aU pts[a]! = (w : Int) ∧ ts[w]! = 2 ∧ Mb ts pts (a,w) ∧ wr = true)
def Ln (ts : List Int) (pts : List Pnt) (a v w : Nat) : Prop := ∃ L,Io ts pts (a,v,L) ∧ Iy ts pts (a,L) ∧ pts[L]!.y = (w : Int) ∧ (ts[v]! = 4 → pts[L]!.op = 5)
def Kp (ts : List Int) (pts : List Pnt) (a v : Nat) : Prop := Lv ts pts a v ∧ aU pts[a]! ≠ (v : Int) ∧ aV ts pts[a]! v ≠ 2
def Cf (ts : List Int) (pts : List Pnt) (a L : Nat) : Prop := ∃ v w wr,Kp ts pts a v ∧ Ac ts pts a w wr ∧ Io ts pts (a,v,L) ∧ Iy ts pts (a,L) ∧ pts[L]!.y = (w : Int) ∧ (wr = true ∨ pts[L]!.op = 5)
structure Bs (ts : List Int) (N : Int) (s : Mc) : Prop where
 w : Own ts s none
 i : ∀ v,v < ts.length → ts[v]! = 1 → 0 ≤ s.slots[v]!.num ∧ s.slots[v]!.num ≤ 9
 sm : ShM N s.cells
 f : ∀ v,v < ts.length → 3 ≤ ts[v]! → s.slots[v]!.set = true → 0 ≤ s.slots[v]!.ptr.cell ∧ s.slots[v]!.ptr.cell < s.cells.length ∧ 1 ≤ s.slots[v]!.ptr.tag ∧ s.slots[v]!.ptr.tag < s.cells[eB s.slots v]!.next
 d : ∀ v u,v < ts.length → u < ts.length → ts[v]! = 4 → ts[u]! = 4 → s.slots[v]!.set = true → s.slots[u]!.set = true → eB s.slots v = eB s.slots u → s.slots[v]!.ptr.tag = s.slots[u]!.ptr.tag → v = u
section
variable {ts : List Int} {pts : List Pnt} {N : Int} {a : Nat} {s : Mc}
theorem Kp.nd (w:WG ts pts){v:Nat}(h:Kp ts pts a v):Nd ts pts (a,v):=by
 obtain ⟨k,e,hk⟩ := h.1
 exact .step hk ⟨rfl,e,h.2.1⟩
theorem mN (hC:∀ L,¬ Cf ts pts a L){u:Nat}{wr:Bool}(hA:Ac ts pts a u wr):∀ v,Kp ts pts a v → Ln ts pts a v u → ¬ (wr = true ∨ ts[v]! = 4):=by
 rintro v hv ⟨L,h1,h2,h3,h4⟩ h
 exact hC L ⟨v,u,wr,hv,hA,h1,h2,h3,h.elim .inl (fun q => .inr (h4 q))⟩
theorem RfI.use (w:WG ts pts) (B:Bs ts N s) (R:RfI ts (fun v => Nd ts pts (a,v)) (Ln ts pts a) s.slots s.cells) (ha:a < pts.length) (hu:bK ts s pts[a]! = false){u:Nat}(hul:u < ts.length) (h2:2 ≤ ts[u]!) (huse:aV ts pts[a]! u ≠ 0) :
  s.slots[u]!.set = true ∧ 0 ≤ s.slots[u]!.ptr.cell ∧ s.slots[u]!.ptr.cell < s.cells.length ∧ s.cells[eB s.slots u]!.alive = true ∧ fP ts s.slots u ∈ s.cells[eB s.slots u]!.stk := by
 have hset := fB hu hul huse
 by_cases q : ts[u]! = 2
 ·obtain ⟨b1, b2, b3, b4⟩ := B.w.o u hul q hset
  refine ⟨hset,b1,b2,b4,?_⟩
  have hc : eB s.slots u < s.cells.length := by unfold eB;omega
  have h0 := B.w.h _ hc
  have hl := (B.w.k.m.at hc).l
  have e : fP ts s.slots u = s.cells[eB s.slots u]!.stk[0]! := by rw [h0]; unfold fP;rw [b3,q]; rfl
  rw [e]; exact aY _ _ (by omega)
 ·obtain ⟨f1, f2, _⟩ := B.f u hul (by omega) hset
  obtain ⟨l1,l2⟩ := R.l u hul (by omega) hset (.base ⟨ha,hul,huse⟩)
  exact ⟨hset,f1,f2,l1,l2⟩
theorem He {m:List Cl}(hm:OkM m){x:Pt}{b:Bool}{wr:Bool}(h1:0 ≤ x.cell ∧ x.cell < m.length) (h2:m[x.cell.toNat]!.alive = true) (h3:(⟨x.tag,b⟩:Tg) ∈ m[x.cell.toNat]!.stk) (hw:wr = true → b = true):aS m x wr = 0:=by
 have hc := hm.at (k := x.cell.toNat) (by omega)
 obtain ⟨t1,t2,t3⟩ := oC hc.d h3
 dsimp only at t1 t3
 unfold aS
 rw [if_neg (fun q => q h1),if_neg (by rw [h2]; decide),if_neg (by omega),if_neg]
 rintro ⟨e1,e2⟩
 rw [t3] at e2
 dsimp only at e2
 rw [hw e1] at e2;cases e2
theorem RfI.code (w:WG ts pts) (B:Bs ts N s) (R:RfI ts (fun v => Nd ts pts (a,v)) (Ln ts pts a) s.slots s.cells) (ha:a < pts.length) (hu:bK ts s pts[a]! = false){u:Nat}(hul:u < ts.length) (h2:2 ≤ ts[u]!) (huse:aV ts pts[a]! u ≠ 0){wr:Bool}(hw:wr = true → ts[u]! ≠ 3):aS s.cells s.slots[u]!.ptr wr = 0:=by
 obtain ⟨h3,h4,h5,h6,h7⟩ := R.use w B ha hu hul h2 huse
 exact He B.w.k.m ⟨h4,h5⟩ h6 h7 (fun e => by have := hw e;simpa using this)
end
section
variable {ts : List Int} {pts : List Pnt} {N : Int} {a k : Nat} {s : Mc}
theorem GK {m:List Cl}(h:OkM m) (c:Nat):(m[c]!.stk.map (·.id)).Nodup:=by
 by_cases q : c < m.length
 ·exact (h.at q).d
 ·rw [getElem!_neg m c q]; exact List.nodup_nil
theorem Ln.step (he:eT pts a k){v w:Nat}(h:Ln ts pts a v w) (hv:aU pts[a]! ≠ (v:Int)) (hv2:aV ts pts[a]! v ≠ 2) (hw:aU pts[a]! ≠ (w:Int)) (hw2:aV ts pts[a]! w ≠ 2):Ln ts pts k v w:=by
 obtain ⟨L,h1,h2,h3,h4⟩ := h
 refine ⟨L,.step h1 ⟨rfl,he,.inl ⟨hv,rfl,hv2⟩⟩,.step h2 ⟨rfl,he,?_,?_⟩,h3,h4⟩
 ·rw [h3]; exact hw2
 ·rw [h3]; exact hw
theorem RfI.fin (he:eT pts a k){sl sl':List Sl}{m':List Cl}{y:Sl}(hm:OkM m') (hs:∀ v,v < ts.length → sl'[v]! = if aU pts[a]! = (v:Int) then y else if aV ts pts[a]! v = 2 then eG else sl[v]!)
  (R : RfI ts (Kp ts pts a) (Ln ts pts a) sl m')
  (hX : ∀ v : Nat,aU pts[a]! = (v : Int) → v < ts.length → 3 ≤ ts[v]! → m'[eB sl' v]!.alive = true ∧ fP ts sl' v ∈ m'[eB sl' v]!.stk)
  (hXw : ∀ v w : Nat,aU pts[a]! = (v : Int) → v < ts.length → w < ts.length → 3 ≤ ts[v]! → (ts[w]! = 2 ∨ ts[w]! = 4) → aU pts[a]! ≠ (w : Int) → aV ts pts[a]! w ≠ 2 → sl[w]!.set = true → sl'[w]! = sl[w]! → eB sl' v = eB sl' w → [fP ts sl' w,fP ts sl' v].Sublist m'[eB sl' v]!.stk → Ln ts pts k v w)
  (hvX : ∀ v w : Nat,aU pts[a]! = (w : Int) → v < ts.length → w < ts.length → 3 ≤ ts[v]! → (ts[w]! = 2 ∨ ts[w]! = 4) → Kp ts pts a v → sl[v]!.set = true → sl'[v]! = sl[v]! → eB sl' v = eB sl' w → ¬ [fP ts sl' w,fP ts sl' v].Sublist m'[eB sl' v]!.stk) :
  RfI ts (fun v => Nd ts pts (k,v)) (Ln ts pts k) sl' m' := by
 have old : ∀ v, v < ts.length → sl'[v]!.set = true → aU pts[a]! ≠ (v : Int) → aV ts pts[a]! v ≠ 2 ∧ sl'[v]! = sl[v]! := fun v hv h1 h2 => by
  have e := hs v hv
  rw [if_neg h2] at e
  by_cases q : aV ts pts[a]! v = 2
  ·rw [if_pos q] at e;rw [e] at h1;cases h1
  ·rw [if_neg q] at e;exact ⟨q,e⟩
 refine ⟨fun v h1 h2 h3 h4 => ?_,fun v w h1 h2 h3 h4 h5 h6 h7 h8 h9 => ?_⟩
 ·by_cases q : aU pts[a]! = (v : Int)
  ·exact hX v q h1 h2
  ·obtain ⟨q2, e⟩ := old v h1 h3 q
   have := R.l v h1 h2 (by rw [← e]; exact h3) ⟨⟨k,he,h4⟩,q,q2⟩
   unfold eB fP at this ⊢
   rw [e]; exact this
 ·by_cases q : aU pts[a]! = (v : Int)
  ·by_cases q' : aU pts[a]! = (w : Int)
   ·exfalso
    have e : v = w := by omega
    subst e
    exact G5 (GK hm _) h9 rfl
   ·obtain ⟨q2, e⟩ := old w h2 h6 q'
    exact hXw v w q h1 h2 h3 h4 q' q2 (by rw [← e]; exact h6) e h8 h9
  ·obtain ⟨q2, e⟩ := old v h1 h5 q
   have hk : Kp ts pts a v := ⟨⟨k,he,h7⟩,q,q2⟩
   by_cases q' : aU pts[a]! = (w : Int)
   ·exact absurd h9 (hvX v w q' h1 h2 h3 h4 hk (by rw [← e]; exact h5) e h8)
   ·obtain ⟨q3, e'⟩ := old w h2 h6 q'
    refine Ln.step he (R.c v w h1 h2 h3 h4 (by rw [← e]; exact h5) (by rw [← e']; exact h6) hk ?_ ?_) q q2 q' q3
    ·unfold eB at h8 ⊢; rw [e,e'] at h8;exact h8
    ·unfold eB fP at h9 ⊢; rw [e,e'] at h9;exact h9
theorem RfI.fin1 (he:eT pts a k){sl sl':List Sl}{m':List Cl}{y:Sl}(hm:OkM m') (hs:∀ v,v < ts.length → sl'[v]! = if aU pts[a]! = (v:Int) then y else if aV ts pts[a]! v = 2 then eG else sl[v]!)
  (R : RfI ts (Kp ts pts a) (Ln ts pts a) sl m') (h1 : ∀ v : Nat,aU pts[a]! = (v : Int) → v < ts.length → ts[v]! = 1) : RfI ts (fun v => Nd ts pts (k,v)) (Ln ts pts k) sl' m' :=
 RfI.fin he hm hs R (fun v e hv h3 => by have := h1 v e hv;omega) (fun v w e hv _ h3 => by have := h1 v e hv;omega) (fun v w e _ hw _ h3 => by have := h1 w e hw;omega)
theorem lE (ts:List Int) (s:Mc) (v:Nat) (x:Sl):(a7 ts s v x).1.cells = if ts[v]! = 2 ∧ s.slots[v]!.set = true then eU s.cells s.slots[v]!.ptr else s.cells:=by
 unfold a7;split <;> rfl
theorem RfI.put (V:Vs ts pts a s) (B:Bs ts N s){m:List Cl}(hm:OkM m) (hd:Hd m) (R:RfI ts (Kp ts pts a) (Ln ts pts a) s.slots m) (hl:s.cells.length ≤ m.length) (hal:∀ c,c < s.cells.length → m[c]!.alive = s.cells[c]!.alive) (hC:∀ L,¬ Cf ts pts a L){X:Nat}(hX:X < ts.length) (hset:aU pts[a]! = (X:Int)) :
  RfI ts (Kp ts pts a) (Ln ts pts a) s.slots (if ts[X]! = 2 ∧ s.slots[X]!.set = true then eU m s.slots[X]!.ptr else m) := by
 split
 ·rename_i q
  obtain ⟨b1,b2,b3,b4⟩ := B.w.o X hX q.1 q.2
  refine R.fr hd (fun _ h => h) (fun v h1 h2 h3 => (B.f v h1 h2 h3).2.2.1) hX q.1 q.2 (Cp hm hd ⟨b1,by omega⟩ b3 ?_ true) b3 fun v hv hg => ?_
  ·rw [hal _ (by omega)]; exact b4
  ·exact mN hC (.inr (.inr (.inr (.inr ⟨hset,q.1,V.m X hX q.2,rfl⟩)))) v hv hg (.inl rfl)
 ·exact R
end
section
variable {ts : List Int} {pts : List Pnt} {N : Int} {a k : Nat} {s : Mc}
theorem kW {x:Pnt}(h:1 ≤ x.op ∧ x.op ≤ 6):aU x = x.x := by unfold aU;rw [if_pos h]
theorem CT {x:Pnt}(h:7 ≤ x.op):aU x = -1 := by unfold aU;rw [if_neg (by omega)]
theorem I2 {c:Int}(h:gM c = -1):c = 0:=by
 apply Classical.byContradiction;intro q
 unfold gM at h;rw [if_neg q] at h
 rcases lS c with e|e <;> (rw [e] at h;cases h)
theorem nI {c:Int}(h:c6 c = -1):False := by rcases lS c with e | e <;> (rw [e] at h;cases h)
theorem nF {x:Pnt}(h:x.op = 4 ∨ x.op = 5 ∨ x.op = 6){v:Nat}(hv:(v:Int) = x.y):aV ts x v ≠ 0:=by
 unfold aV;rw [if_neg (by omega),if_pos h,if_pos hv]; decide
theorem Dk {x:Pnt}(h:x.op = 3){v:Nat}(hv:(v:Int) = x.y):aV ts x v ≠ 0:=by
 unfold aV;rw [if_pos h,if_pos hv]; split <;> decide
theorem Hp {x:Pnt}(h:x.op = 3){v:Nat}(hv:(v:Int) = x.y) (ht:ts[v]! = 2 ∨ ts[v]! = 4):aV ts x v = 2:=by
 unfold aV;rw [if_pos h,if_pos hv]
 have e : (v : Int).toNat = v := by omega
 rw [e,if_pos ht]
theorem Ge {x:Pnt}(h:x.op = 7){v:Nat}(hv:(v:Int) = x.x):aV ts x v ≠ 0:=by
 unfold aV;rw [if_neg (by omega),if_neg (by omega),if_pos h,if_pos hv]; decide
theorem Gb {x:Pnt}(h:x.op = 8){v:Nat}(hv:(v:Int) = x.x):aV ts x v ≠ 0:=by
 unfold aV;rw [if_neg (by omega),if_neg (by omega),if_neg (by omega),if_pos h,if_pos hv]; decide
theorem RfI.loan (w:WG ts pts) (A:WA ts pts) (he:eT pts a k) (B:Bs ts N s) (R:RfI ts (fun v => Nd ts pts (a,v)) (Ln ts pts a) s.slots s.cells) (hC:∀ L,¬ Cf ts pts a L) (hu:bK ts s pts[a]! = false)
  {wr : Bool} (h4 : pts[a]!.op = 4 ∧ wr = false ∨ pts[a]!.op = 5 ∧ wr = true) {sl' : List Sl} {y : Sl} (hs : ∀ v,v < ts.length → sl'[v]! = if aU pts[a]! = (v : Int) then y else if aV ts pts[a]! v = 2 then eG else s.slots[v]!)
  (hk : gX s.cells s.slots[pts[a]!.y.toNat]!.ptr wr = 0) (hy : y.ptr = lQ s.cells s.slots[pts[a]!.y.toNat]!.ptr wr) :
  RfI ts (fun v => Nd ts pts (k,v)) (Ln ts pts k) sl' (fY s.cells s.slots[pts[a]!.y.toNat]!.ptr wr) := by
 have ha := he.1
 have hT : ∀ v,v < ts.length → ts[v]! ≤ 4 := fun v hv => (w.ty v hv).2
 have PA := A.a a ha
 have hx := w.x a ha
 have hyb := w.y a ha
 have hyl : pts[a]!.y.toNat < ts.length := by have := hyb.2 (by omega) (by omega);omega
 have hyn : ((pts[a]!.y.toNat : Nat) : Int) = pts[a]!.y := by omega
 have hxn : ((pts[a]!.x.toNat : Nat) : Int) = pts[a]!.x := by omega
 have hst := kW (x := pts[a]!) (by omega)
 have hty : 2 ≤ ts[pts[a]!.y.toNat]! := by
  rcases h4 with ⟨h,_⟩ | ⟨h,_⟩
  ·exact (PA.t4 h).2.2
  ·have := (PA.t5 h).2.2;omega
 have hne : pts[a]!.x ≠ pts[a]!.y := by
  rcases h4 with ⟨h,_⟩ | ⟨h,_⟩
  ·exact (PA.t4 h).2.1
  ·exact (PA.t5 h).2.1
 have huse : aV ts pts[a]! (pts[a]!.y.toNat : Nat) ≠ 0 := nF (by omega) hyn
 obtain ⟨q1,q2,q3,q4,q5⟩ := R.use w B ha hu hyl hty huse
 have hwr : wr = true → ts[pts[a]!.y.toNat]! ≠ 3 := fun e => by
  rcases h4 with ⟨_,h⟩ | ⟨h,_⟩
  ·rw [e] at h;cases h
  ·have := (PA.t5 h).2.2;omega
 have hAc : Ac ts pts a pts[a]!.y.toNat wr := by
  rcases h4 with ⟨h,e⟩ | ⟨h,e⟩
  ·exact .inl ⟨.inl h,hyn.symm,e⟩
  ·exact .inr (.inl ⟨h,hyn.symm,e⟩)
 have htx : ∀ v : Nat, aU pts[a]! = (v : Int) → ts[v]! = 3 ∧ wr = false ∨ ts[v]! = 4 ∧ wr = true ∧ pts[a]!.op = 5 := fun v e => by
  have e' : pts[a]!.x.toNat = v := by rw [← hst,e]; omega
  rcases h4 with ⟨h,e2⟩ | ⟨h,e2⟩
  ·have := (PA.t4 h).1;rw [e'] at this;exact .inl ⟨this,e2⟩
  ·have := (PA.t5 h).1;rw [e'] at this;exact .inr ⟨this,e2,h⟩
 have hnt : ∀ v : Nat, aV ts pts[a]! v ≠ 2 := fun v => by
  unfold aV;rw [if_neg (by omega),if_pos (by omega)]; split <;> decide
 generalize hY : pts[a]!.y.toNat = Y at *
 have h0 := iP hk
 have hx0 := cP h0
 have hcY := B.w.k.m.at hx0.2.2
 obtain ⟨t1,t2,t3⟩ := oC hcY.d q5
 have R1 := R.tch hT B.w.k.m B.sm (fun v (h : Kp ts pts a v) => h.nd w) hyl hty q1 h0 q5 hwr (mN hC hAc)
 have R2 := R1.ln hk (fun v h1 h2 h3 => (B.f v h1 h2 h3).2.2.2)
 have hyp : y.ptr = ⟨s.slots[Y]!.ptr.cell,s.cells[s.slots[Y]!.ptr.cell.toNat]!.next⟩ := by rw [hy]; unfold lQ;rw [if_pos hk]
 have new : ∀ v : Nat, aU pts[a]! = (v : Int) → v < ts.length → eB sl' v = s.slots[Y]!.ptr.cell.toNat ∧ fP ts sl' v = ⟨s.cells[s.slots[Y]!.ptr.cell.toNat]!.next, wr⟩ := fun v e hv => by
  have e1 := hs v hv
  rw [if_pos e] at e1
  unfold eB fP
  rw [e1,hyp]
  refine ⟨rfl,?_⟩
  rcases htx v e with ⟨h,e2⟩ | ⟨h,e2,_⟩ <;> (rw [h,e2]; rfl)
 have frs : ∀ t ∈ (fM s.cells[s.slots[Y]!.ptr.cell.toNat]! s.slots[Y]!.ptr wr).stk,t.id < s.cells[s.slots[Y]!.ptr.cell.toNat]!.next := fun t ht => (hcY.i t (tchS_sub.subset ht)).2
 have hat := z7 hk s.slots[Y]!.ptr.cell.toNat
 rw [if_pos rfl] at hat
 refine RfI.fin he (B.w.k.m.ln _ _) hs R2 (fun v e hv h3 => ?_) (fun v u e hv hul h3 hut hu1 hu2 hu3 hu4 hce hsub => ?_) (fun v u e hv hul h3 hut hkp hv3 hv4 hce hsub => ?_)
 ·obtain ⟨n1, n2⟩ := new v e hv
  rw [n1,n2,hat]
  exact ⟨q4,List.mem_append_right _ (List.mem_singleton_self _)⟩
 ·obtain ⟨n1, n2⟩ := new v e hv
  rw [n1,n2,hat] at hsub
  have hceu : eB s.slots u = s.slots[Y]!.ptr.cell.toNat := by rw [← n1,hce]; unfold eB;rw [hu4]
  have htu : fP ts sl' u = fP ts s.slots u := by unfold fP;rw [hu4]
  rw [htu] at hsub
  have hsub' : [fP ts s.slots u,⟨s.cells[s.slots[Y]!.ptr.cell.toNat]!.next,wr⟩].Sublist ((fM s.cells[s.slots[Y]!.ptr.cell.toNat]! s.slots[Y]!.ptr wr).stk ++ [⟨s.cells[s.slots[Y]!.ptr.cell.toNat]!.next,wr⟩]) := hsub
  rcases rY hsub' with e2 | ⟨_,hin⟩
  ·have := frs _ (zL e2).2
   dsimp only at this;omega
  ·have huq : (fP ts s.slots u).uq = true := by
    unfold fP;dsimp only
    rcases hut with h|h <;> (rw [h]; rfl)
   have t3' : s.cells[s.slots[Y]!.ptr.cell.toNat]!.stk[(bH s.cells[s.slots[Y]!.ptr.cell.toNat]!.stk s.slots[Y]!.ptr.tag).toNat]! = fP ts s.slots Y := t3
   rcases qG t2 hin (fun _ => huq) with e2|e2
   ·rw [t3] at e2
    have eid : s.slots[u]!.ptr.tag = s.slots[Y]!.ptr.tag := by
     have : (fP ts s.slots u).id = (fP ts s.slots Y).id := by rw [e2]
     exact this
    have hY3 : ts[Y]! ≠ 3 := fun q => by
     rw [e2] at huq
     unfold fP at huq;dsimp only at huq;rw [q] at huq;cases huq
    have hTY := hT Y hyl
    have euY : u = Y := by
     by_cases qY : ts[Y]! = 2
     ·obtain ⟨b1, b2, b3, b4⟩ := B.w.o Y hyl qY q1
      rcases hut with hut|hut
      ·obtain ⟨c1, c2, c3, c4⟩ := B.w.o u hul hut hu3
       exact B.w.d u Y hul hyl hut qY hu3 q1 (by unfold eB at hceu;omega)
      ·have := (B.f u hul (by omega) hu3).2.2.1;omega
     ·have hY4 : ts[Y]! = 4 := by omega
      rcases hut with hut|hut
      ·obtain ⟨c1, c2, c3, c4⟩ := B.w.o u hul hut hu3
       have := (B.f Y hyl (by omega) q1).2.2.1;omega
      ·exact B.d u Y hul hyl hut hY4 hu3 q1 hceu eid
    subst euY
    have hln : m8 pts[a]! = true := by unfold m8;rcases h4 with ⟨h,_⟩ | ⟨h,_⟩ <;> (rw [h]; rfl)
    refine ⟨a,.base ⟨he,hln,e⟩,.base ⟨he,hln⟩,hyn.symm,fun h => ?_⟩
    rcases htx v e with ⟨h5,_⟩ | ⟨_,_,h5⟩
    ·omega
    ·exact h5
   ·rw [t3] at e2
    have hY2 : ts[Y]! ≠ 2 := fun q => by
     obtain ⟨b1,b2,b3,b4⟩ := B.w.o Y hyl q q1
     have e0 := B.w.h _ hx0.2.2
     refine Eu hcY.d (by have := hcY.l;omega) e2 ?_
     rw [e0]; unfold fP;rw [b3,q]; rfl
    obtain ⟨L,l1,l2,l3,l4⟩ := R.c Y u hyl hul (by omega) hut q1 hu3 (.base ⟨ha,hyl,huse⟩) hceu.symm e2
    have hTY := hT Y hyl
    refine ⟨L,.step l1 ⟨rfl,he,.inr ⟨e,hyn,.inl ⟨?_,?_⟩⟩⟩,.step l2 ⟨rfl,he,?_,?_⟩,l3,fun h => ?_⟩
    ·unfold m8;rcases h4 with ⟨h,_⟩ | ⟨h,_⟩ <;> (rw [h]; rfl)
    ·show nY ts[Y]! = true
     unfold nY;rw [Bool.or_eq_true,decide_eq_true_eq,decide_eq_true_eq]; omega
    ·rw [l3]; exact hu2
    ·rw [l3]; exact hu1
    ·refine l4 ?_
     rcases htx v e with ⟨h5,_⟩ | ⟨_,h5,_⟩
     ·omega
     ·have := hwr h5;omega
 ·obtain ⟨n1, n2⟩ := new u e hul
  rw [hce,n1,n2,hat] at hsub
  have hsub' : [⟨s.cells[s.slots[Y]!.ptr.cell.toNat]!.next,wr⟩,fP ts sl' v].Sublist ((fM s.cells[s.slots[Y]!.ptr.cell.toNat]! s.slots[Y]!.ptr wr).stk ++ [⟨s.cells[s.slots[Y]!.ptr.cell.toNat]!.next,wr⟩]) := hsub
  rcases rY hsub' with e2 | ⟨_,hin⟩
  ·have := frs _ (zL e2).1
   dsimp only at this;omega
  ·have := frs _ hin
   dsimp only at this;omega
end
section
variable {ts : List Int} {pts : List Pnt} {N : Int} {a k : Nat} {s : Mc}
def yF (s : Mc) (x : Pnt) : Sl :=
 if x.op = 1 then ⟨true,x.n,⟨0,0⟩⟩ else if x.op = 2 then ⟨true,0,⟨s.cells.length,0⟩⟩ else if x.op = 3 then s.slots[x.y.toNat]!
 else if x.op = 4 ∨ x.op = 5 then ⟨true,0,lQ s.cells s.slots[x.y.toNat]!.ptr (decide (x.op = 5))⟩ else ⟨true,kJ s.cells s.slots[x.y.toNat]!.ptr,⟨0,0⟩⟩
theorem WG.doY (w:WG ts pts) (A:WA ts pts){a:Nat}(ha:a < pts.length){s:Mc}(hl:s.slots.length = ts.length) (hu:bK ts s pts[a]! = false) (h11:pts[a]!.op ≠ 11) (hgo:(bE ts s pts[a]!).2 = -1) :
  ∀ v,v < ts.length → (bE ts s pts[a]!).1.slots[v]! = if aU pts[a]! = (v : Int) then yF s pts[a]! else if aV ts pts[a]! v = 2 then eG else s.slots[v]! := by
 obtain ⟨y,hy,hs⟩ := w.doS A ha hl hu h11 hgo
 have hx := w.x a ha
 have hxb := hx.2
 intro v hv
 by_cases q : aU pts[a]! = (v : Int)
 ·rw [if_pos q]
  have hop : 1 ≤ pts[a]!.op ∧ pts[a]!.op ≤ 6 := by
   apply Classical.byContradiction;intro h
   unfold aU at q;rw [if_neg h] at q;omega
  rw [kW hop] at q
  have hxv : pts[a]!.x.toNat = v := by omega
  have hh := hgo
  unfold bE at hh ⊢
  unfold yF
  by_cases h1 : pts[a]!.op = 1
  ·rw [if_pos h1,if_pos h1,c7,hxv,bR,if_pos ⟨rfl,by omega⟩]
  rw [if_neg h1] at hh ⊢
  rw [if_neg h1]
  by_cases h2 : pts[a]!.op = 2
  ·rw [if_pos h2] at hh ⊢
   rw [if_pos h2]
   split at hh
   ·cases hh
   ·rename_i h200
    rw [if_neg h200,c7,hxv,bR,if_pos ⟨rfl,by dsimp only;omega⟩]
  rw [if_neg h2] at hh ⊢
  rw [if_neg h2]
  by_cases h3 : pts[a]!.op = 3
  ·rw [if_pos h3, if_pos h3, c7, hxv, bR, if_pos]
   refine ⟨rfl,?_⟩
   split
   ·dsimp only;rw [List.length_set]; omega
   ·omega
  rw [if_neg h3] at hh ⊢
  rw [if_neg h3]
  by_cases h4 : pts[a]!.op = 4 ∨ pts[a]!.op = 5
  ·rw [if_pos h4] at hh ⊢
   rw [if_pos h4]
   split at hh
   ·rename_i hz
    rw [if_pos hz,c7,hxv,bR,if_pos ⟨rfl,by dsimp only;omega⟩]
   ·exact (nI hh).elim
  rw [if_neg h4] at hh ⊢
  rw [if_neg h4]
  have h6 : pts[a]!.op = 6 := by omega
  rw [if_pos h6] at hh ⊢
  split at hh
  ·rename_i hz
   rw [if_pos hz,c7,hxv,bR,if_pos ⟨rfl,by dsimp only;omega⟩]
  ·exact (nI hh).elim
 ·rw [hs v hv,if_neg q,if_neg q]
theorem Ga {x:Pnt}(PA:PtA ts x) (h:x.op = 1):(bE ts s x).1.cells = s.cells:=by
 unfold bE;rw [if_pos h,lE,if_neg (fun q => by rw [PA.t1 h] at q;exact absurd q.1 (by decide))]
theorem Gn {x:Pnt}(h:x.op = 2) (hgo:(bE ts s x).2 = -1):(bE ts s x).1.cells = if ts[x.x.toNat]! = 2 ∧ s.slots[x.x.toNat]!.set = true then eU (s.cells ++ [kX x.n]) s.slots[x.x.toNat]!.ptr else s.cells ++ [kX x.n]:=by
 unfold bE at hgo ⊢
 rw [if_neg (by omega),if_pos h] at hgo ⊢
 split at hgo
 ·cases hgo
 ·rename_i h200
  rw [if_neg h200,lE]
theorem Gi {x:Pnt}(h:x.op = 3) (hne:x.x.toNat ≠ x.y.toNat):(bE ts s x).1.cells = if ts[x.x.toNat]! = 2 ∧ s.slots[x.x.toNat]!.set = true then eU s.cells s.slots[x.x.toNat]!.ptr else s.cells:=by
 unfold bE
 rw [if_neg (by omega),if_neg (by omega),if_pos h,lE]
 split
 ·have e : (s.slots.set x.y.toNat eG)[x.x.toNat]! = s.slots[x.x.toNat]! := by rw [bR, if_neg (fun q => hne q.1.symm)]
  dsimp only;rw [e]
 ·rfl
theorem D8 {x:Pnt}(PA:PtA ts x) (h:x.op = 4 ∨ x.op = 5) (hgo:(bE ts s x).2 = -1):gX s.cells s.slots[x.y.toNat]!.ptr (decide (x.op = 5)) = 0 ∧ (bE ts s x).1.cells = fY s.cells s.slots[x.y.toNat]!.ptr (decide (x.op = 5)):=by
 have hxt : ts[x.x.toNat]! ≠ 2 := by
  rcases h with h4|h4
  ·rw [(PA.t4 h4).1]; decide
  ·rw [(PA.t5 h4).1]; decide
 unfold bE at hgo ⊢
 rw [if_neg (by omega),if_neg (by omega),if_neg (by omega),if_pos h] at hgo ⊢
 split at hgo
 ·rename_i hz
  rw [if_pos hz,lE,if_neg (fun q => hxt q.1)]
  exact ⟨hz,rfl⟩
 ·exact (nI hgo).elim
theorem Cm {x:Pnt}(PA:PtA ts x) (h:x.op = 6) (hgo:(bE ts s x).2 = -1):aS s.cells s.slots[x.y.toNat]!.ptr false = 0 ∧ (bE ts s x).1.cells = bX s.cells s.slots[x.y.toNat]!.ptr false:=by
 have hxt : ts[x.x.toNat]! ≠ 2 := by rw [(PA.t6 h).1]; decide
 unfold bE at hgo ⊢
 rw [if_neg (by omega),if_neg (by omega),if_neg (by omega),if_neg (by omega),if_pos h] at hgo ⊢
 split at hgo
 ·rename_i hz
  rw [if_pos hz,lE,if_neg (fun q => hxt q.1)]
  exact ⟨hz,rfl⟩
 ·exact (nI hgo).elim
theorem Gc {x:Pnt}(h:x.op = 7) (hgo:(bE ts s x).2 = -1):lO s.cells s.slots[x.x.toNat]!.ptr s.slots[x.y.toNat]!.num = 0 ∧ (bE ts s x).1.cells = k3 s.cells s.slots[x.x.toNat]!.ptr s.slots[x.y.toNat]!.num:=by
 unfold bE at hgo ⊢
 rw [if_neg (by omega),if_neg (by omega),if_neg (by omega),if_neg (by omega),if_neg (by omega),if_pos h] at hgo ⊢
 exact ⟨I2 hgo,rfl⟩
theorem Gj {x:Pnt}(h:x.op = 8) (hgo:(bE ts s x).2 = -1):aS s.cells s.slots[x.x.toNat]!.ptr true = 0 ∧ (bE ts s x).1.cells = eU s.cells s.slots[x.x.toNat]!.ptr:=by
 unfold bE at hgo ⊢
 rw [if_neg (by omega),if_neg (by omega),if_neg (by omega),if_neg (by omega),if_neg (by omega),if_neg (by omega),if_pos h] at hgo ⊢
 exact ⟨I2 hgo,rfl⟩
theorem Dd {x:Pnt}(h:9 ≤ x.op) (h11:x.op ≠ 11):bE ts s x = (s,-1):=by
 unfold bE
 rw [if_neg (by omega),if_neg (by omega),if_neg (by omega),if_neg (by omega),if_neg (by omega),if_neg (by omega),if_neg (by omega),if_neg h11]
theorem RfI.step (w:WG ts pts) (A:WA ts pts) (he:eT pts a k) (h11:pts[a]!.op ≠ 11) (B:Bs ts N s) (V:Vs ts pts a s) (R:RfI ts (fun v => Nd ts pts (a,v)) (Ln ts pts a) s.slots s.cells) (hC:∀ L,¬ Cf ts pts a L) (hu:bK ts s pts[a]! = false) (hgo:(bE ts s pts[a]!).2 = -1) :
  RfI ts (fun v => Nd ts pts (k,v)) (Ln ts pts k) (bE ts s pts[a]!).1.slots (bE ts s pts[a]!).1.cells := by
 have ha := he.1
 have hT : ∀ v,v < ts.length → ts[v]! ≤ 4 := fun v hv => (w.ty v hv).2
 have PA := A.a a ha
 have hx := w.x a ha
 have hyb := w.y a ha
 have hop := w.op a ha
 have hs := w.doY A ha B.w.k.l hu h11 hgo
 have hmm : OkM (bE ts s pts[a]!).1.cells := (B.w.do PA h11 (fun h => ⟨hx.1,hx.2 h⟩) hop.1 (fun h1 h2 => ⟨hyb.1,hyb.2 h1 h2⟩) hu).k.m
 have hP : ∀ v,Kp ts pts a v → Nd ts pts (a,v) := fun v h => h.nd w
 have R0 : RfI ts (Kp ts pts a) (Ln ts pts a) s.slots s.cells := R.mono hP
 have hxn : ((pts[a]!.x.toNat : Nat) : Int) = pts[a]!.x := by omega
 have hyn : ((pts[a]!.y.toNat : Nat) : Int) = pts[a]!.y := by omega
 have hno : 7 ≤ pts[a]!.op → ∀ v : Nat,aU pts[a]! = (v : Int) → v < ts.length → ts[v]! = 1 := fun h v e => by rw [CT h] at e;omega
 by_cases h1 : pts[a]!.op = 1
 ·rw [Ga PA h1] at hmm ⊢
  refine RfI.fin1 he hmm hs R0 fun v q hv => ?_
  rw [kW (by omega)] at q
  rw [show v = pts[a]!.x.toNat by omega]; exact PA.t1 h1
 by_cases h2 : pts[a]!.op = 2
 ·have hxl : pts[a]!.x.toNat < ts.length := by have := hx.2 (by omega); omega
  have e2 := PA.t2 (.inl h2)
  have hset : aU pts[a]! = ((pts[a]!.x.toNat : Nat) : Int) := by rw [kW (by omega)]; omega
  have hv2 : ∀ v : Nat,aU pts[a]! = (v : Int) → v = pts[a]!.x.toNat := fun v e => by omega
  have R1 := R0.nw (fun v q1 q2 q3 => by have := B.f v q1 q2 q3;unfold eB;omega) (kX pts[a]!.n)
  have h200 : s.cells.length ≠ 200 := fun q => by
   unfold bE at hgo;rw [if_neg h1,if_pos h2,if_pos q] at hgo;cases hgo
  have hm1 := B.w.k.m.nw (PA.n (.inr h2)) (by have := B.w.k.m.l;omega)
  have R2 := R1.put V B hm1 (B.w.h.nw _) (by rw [List.length_append]; omega) (fun c hc => by rw [kZ hc]) hC hxl hset
  rw [Gn h2 hgo] at hmm ⊢
  refine RfI.fin he hmm hs R2 (fun v e hv h3 => ?_) (fun v u e hv hul h3 => ?_) (fun v u e hv hul h3 hut hkp hv3 hv4 hce => ?_)
  ·rw [hv2 v e] at h3;omega
  ·rw [hv2 v e] at h3;omega
  ·exfalso
   have e1 := hs u hul
   rw [if_pos e] at e1
   have e3 : yF s pts[a]! = ⟨true,0,⟨s.cells.length,0⟩⟩ := by unfold yF;rw [if_neg h1,if_pos h2]
   have := B.f v hv h3 hv3
   unfold eB at hce
   rw [hv4,e1,e3] at hce
   dsimp only at hce;omega
 by_cases h3 : pts[a]!.op = 3
 ·have hxl : pts[a]!.x.toNat < ts.length := by have := hx.2 (by omega); omega
  have hyl : pts[a]!.y.toNat < ts.length := by have := hyb.2 (by omega) (by omega);omega
  obtain ⟨et,hne⟩ := PA.t3 h3
  have hset : aU pts[a]! = ((pts[a]!.x.toNat : Nat) : Int) := by rw [kW (by omega)]; omega
  have hv2 : ∀ v : Nat,aU pts[a]! = (v : Int) → v = pts[a]!.x.toNat := fun v e => by omega
  have huse : aV ts pts[a]! (pts[a]!.y.toNat : Nat) ≠ 0 := Dk h3 hyn
  have R2 := R0.put V B B.w.k.m B.w.h (Nat.le_refl _) (fun _ _ => rfl) hC hxl hset
  have ey : yF s pts[a]! = s.slots[pts[a]!.y.toNat]! := by unfold yF;rw [if_neg h1,if_neg h2,if_pos h3]
  have new : ∀ v : Nat, aU pts[a]! = (v : Int) → v < ts.length → eB (bE ts s pts[a]!).1.slots v = eB s.slots pts[a]!.y.toNat ∧ fP ts (bE ts s pts[a]!).1.slots v = fP ts s.slots pts[a]!.y.toNat := fun v e hv => by
   have e1 := hs v hv
   rw [if_pos e,ey] at e1
   unfold eB fP
   rw [e1,hv2 v e,et]
   exact ⟨rfl,rfl⟩
  have ec := Gi (ts := ts) (s := s) h3 (fun q => hne (by omega))
  rw [ec] at hmm ⊢
  refine RfI.fin he hmm hs R2 (fun v e hv h4 => ?_) (fun v u e hv hul h4 hut hu1 hu2 hu3 hu4 hce hsub => ?_) (fun v u e hv hul h4 hut hkp hv3 hv4 hce hsub => ?_)
  ·obtain ⟨n1, n2⟩ := new v e hv
   rw [hv2 v e] at h4
   rw [n1,n2,if_neg (fun q => by omega)]
   obtain ⟨u1,u2,u3,u4,u5⟩ := R.use w B ha hu hyl (by omega) huse
   exact ⟨u4,u5⟩
  ·obtain ⟨n1, n2⟩ := new v e hv
   have h4' := h4
   rw [hv2 v e] at h4'
   obtain ⟨u1,u2,u3,u4,u5⟩ := R.use w B ha hu hyl (by omega) huse
   rw [if_neg (fun q => by omega),n1,n2] at hsub
   have htu : fP ts (bE ts s pts[a]!).1.slots u = fP ts s.slots u := by unfold fP;rw [hu4]
   have hcu : eB (bE ts s pts[a]!).1.slots u = eB s.slots u := by unfold eB;rw [hu4]
   rw [htu] at hsub
   obtain ⟨L,l1,l2,l3,l4⟩ := R.c pts[a]!.y.toNat u hyl hul (by omega) hut u1 hu3 (.base ⟨ha,hyl,huse⟩) (by rw [← n1,← hcu]; exact hce) hsub
   refine ⟨L,.step l1 ⟨rfl,he,.inr ⟨e,hyn,.inr h3⟩⟩,.step l2 ⟨rfl,he,?_,?_⟩,l3,fun h => l4 ?_⟩
   ·rw [l3]; exact hu2
   ·rw [l3]; exact hu1
   ·rw [hv2 v e] at h;omega
  ·obtain ⟨n1, n2⟩ := new u e hul
   have hut' := hut
   rw [hv2 u e] at hut'
   have htv : fP ts (bE ts s pts[a]!).1.slots v = fP ts s.slots v := by unfold fP;rw [hv4]
   have hcv : eB (bE ts s pts[a]!).1.slots v = eB s.slots v := by unfold eB;rw [hv4]
   rw [n2,htv,hcv] at hsub
   have hset' := fB hu hyl huse
   have hl := R2.c v pts[a]!.y.toNat hv hyl h4 (by omega) hv3 hset' hkp (by rw [← hcv,← n1]; exact hce) hsub
   exact mN hC (.inr (.inr (.inr (.inl ⟨h3,pA.2 (by omega),hyn.symm,rfl⟩)))) v hkp hl (.inl rfl)
 by_cases h4 : pts[a]!.op = 4 ∨ pts[a]!.op = 5
 ·obtain ⟨hk, ec⟩ := D8 PA h4 hgo
  rw [ec]
  refine RfI.loan w A he B R hC hu ?_ hs hk ?_
  ·rcases h4 with h | h
   ·exact .inl ⟨h,by rw [h]; rfl⟩
   ·exact .inr ⟨h,by rw [h]; rfl⟩
  ·unfold yF;rw [if_neg h1,if_neg h2,if_neg h3,if_pos h4]
 by_cases h6 : pts[a]!.op = 6
 ·obtain ⟨hk, ec⟩ := Cm PA h6 hgo
  have hyl : pts[a]!.y.toNat < ts.length := by have := hyb.2 (by omega) (by omega);omega
  have huse : aV ts pts[a]! (pts[a]!.y.toNat : Nat) ≠ 0 := nF (by omega) hyn
  have hty := (PA.t6 h6).2
  obtain ⟨u1,u2,u3,u4,u5⟩ := R.use w B ha hu hyl hty huse
  rw [ec] at hmm ⊢
  refine RfI.fin1 he hmm hs (R.tch hT B.w.k.m B.sm hP hyl hty u1 hk u5 (fun q => by cases q) (mN hC (.inl ⟨.inr h6,hyn.symm,rfl⟩))) fun v q hv => ?_
  rw [kW (by omega)] at q
  rw [show v = pts[a]!.x.toNat by omega]; exact (PA.t6 h6).1
 by_cases h7 : pts[a]!.op = 7
 ·obtain ⟨hk, ec⟩ := Gc h7 hgo
  have hxl : pts[a]!.x.toNat < ts.length := by have := hx.2 (by omega);omega
  have huse : aV ts pts[a]! (pts[a]!.x.toNat : Nat) ≠ 0 := Ge h7 hxn
  have hty := (PA.t7 h7).1
  obtain ⟨u1,u2,u3,u4,u5⟩ := R.use w B ha hu hxl (by omega) huse
  rw [ec] at hmm ⊢
  refine RfI.fin1 he hmm hs ((R.tch hT B.w.k.m B.sm hP hxl (by omega) u1 (C9 hk) u5 (fun _ => by omega) (mN hC (.inr (.inr (.inl ⟨.inl h7,hxn.symm,rfl⟩))))).cong (Im hk)) (hno (by omega))
 by_cases h8 : pts[a]!.op = 8
 ·obtain ⟨hk, ec⟩ := Gj h8 hgo
  have hxl : pts[a]!.x.toNat < ts.length := by have := hx.2 (by omega);omega
  have huse : aV ts pts[a]! (pts[a]!.x.toNat : Nat) ≠ 0 := Gb h8 hxn
  have hset := fB hu hxl huse
  have hty := PA.t2 (.inr h8)
  rw [ec] at hmm ⊢
  refine RfI.fin1 he hmm hs (R.fr B.w.h hP (fun v q1 q2 q3 => (B.f v q1 q2 q3).2.2.1) hxl hty hset hk (B.w.o _ hxl hty hset).2.2.1 fun v hv hg => ?_) (hno (by omega))
  exact mN hC (.inr (.inr (.inl ⟨.inr h8,hxn.symm,rfl⟩))) v hv hg (.inl rfl)
 ·have e := Dd (ts := ts) (s := s) (x := pts[a]!) (by omega) h11
  rw [e] at hmm hs ⊢
  exact RfI.fin1 he hmm hs R0 (hno (by omega))
end
structure Mo (m m' : List Cl) : Prop where
 l : m.length ≤ m'.length
 n : ∀ c,c < m.length → m[c]!.next ≤ m'[c]!.next
theorem Mo.refl (m:List Cl):Mo m m := ⟨Nat.le_refl _,fun _ _ => Int.le_refl _⟩
theorem Mo.trans {a b c:List Cl}(h:Mo a b) (h':Mo b c):Mo a c := ⟨Nat.le_trans h.l h'.l,fun i hi => Int.le_trans (h.n i hi) (h'.n i (Nat.lt_of_lt_of_le hi h.l))⟩
theorem Mo.set {m:List Cl}{k:Nat}{c:Cl}(h:m[k]!.next ≤ c.next):Mo m (m.set k c):=by
 refine ⟨by rw [List.length_set]; exact Nat.le_refl _,fun i hi => ?_⟩
 rw [bR]
 split
 ·rename_i q;rw [← q.1]; exact h
 ·exact Int.le_refl _
theorem Mo.app (m:List Cl) (z:Cl):Mo m (m ++ [z]) := ⟨by rw [List.length_append]; omega,fun i hi => by rw [kZ hi]; exact Int.le_refl _⟩
theorem Mo.tch (m:List Cl) (x:Pt) (wr:Bool):Mo m (bX m x wr):=by
 unfold bX;split
 ·exact Mo.set (Int.le_refl _)
 ·exact Mo.refl _
theorem Mo.fr (m:List Cl) (x:Pt):Mo m (eU m x):=by
 unfold eU;split
 ·exact Mo.set (Int.le_refl _)
 ·exact Mo.refl _
theorem Mo.wr (m:List Cl) (x:Pt) (v:Int):Mo m (k3 m x v):=by
 unfold k3;split
 ·exact Mo.set (Int.le_refl _)
 ·exact Mo.refl _
theorem Mo.ln (m:List Cl) (x:Pt) (u:Bool):Mo m (fY m x u):=by
 unfold fY;split
 ·refine Mo.set ?_
  show m[x.cell.toNat]!.next ≤ m[x.cell.toNat]!.next + 1
  omega
 ·exact Mo.refl _
section
variable {ts : List Int} {pts : List Pnt} {N : Int} {a k : Nat} {s : Mc}
theorem IN (w:WG ts pts) (A:WA ts pts) (ha:a < pts.length) (h11:pts[a]!.op ≠ 11) (hN:1 ≤ N) (h:ShM N s.cells) (hgo:(bE ts s pts[a]!).2 = -1):ShM (N + 1) (bE ts s pts[a]!).1.cells ∧ Mo s.cells (bE ts s pts[a]!).1.cells:=by
 have PA := A.a a ha
 have hop := w.op a ha
 by_cases h1 : pts[a]!.op = 1
 ·rw [Ga PA h1]; exact ⟨h.mono (by omega),Mo.refl _⟩
 by_cases h2 : pts[a]!.op = 2
 ·have h' := h.nw hN pts[a]!.n
  rw [Gn h2 hgo]
  split
  ·exact ⟨(h'.fr _).mono (by omega),(Mo.app _ _).trans (Mo.fr _ _)⟩
  ·exact ⟨h'.mono (by omega),Mo.app _ _⟩
 by_cases h3 : pts[a]!.op = 3
 ·have hx := w.x a ha
  have hyb := w.y a ha
  have hne := (PA.t3 h3).2
  rw [Gi h3 (fun q => hne (by omega))]
  split
  ·exact ⟨(h.fr _).mono (by omega),Mo.fr _ _⟩
  ·exact ⟨h.mono (by omega),Mo.refl _⟩
 by_cases h4 : pts[a]!.op = 4 ∨ pts[a]!.op = 5
 ·rw [(D8 PA h4 hgo).2]; exact ⟨h.ln _ _,Mo.ln _ _ _⟩
 by_cases h6 : pts[a]!.op = 6
 ·rw [(Cm PA h6 hgo).2]; exact ⟨(h.tch _ _).mono (by omega),Mo.tch _ _ _⟩
 by_cases h7 : pts[a]!.op = 7
 ·rw [(Gc h7 hgo).2]; exact ⟨(h.wr _ _).mono (by omega),Mo.wr _ _ _⟩
 by_cases h8 : pts[a]!.op = 8
 ·rw [(Gj h8 hgo).2]; exact ⟨(h.fr _).mono (by omega),Mo.fr _ _⟩
 ·rw [Dd (by omega) h11]; exact ⟨h.mono (by omega),Mo.refl _⟩
theorem Bs.step (w:WG ts pts) (A:WA ts pts) (ha:a < pts.length) (h11:pts[a]!.op ≠ 11) (hN:1 ≤ N) (B:Bs ts N s) (hu:bK ts s pts[a]! = false) (hgo:(bE ts s pts[a]!).2 = -1):Bs ts (N + 1) (bE ts s pts[a]!).1:=by
 have PA := A.a a ha
 have hx := w.x a ha
 have hyb := w.y a ha
 have hop := w.op a ha
 have hs := w.doY A ha B.w.k.l hu h11 hgo
 obtain ⟨g1,g2⟩ := IN w A ha h11 hN B.sm hgo
 have hxn : ((pts[a]!.x.toNat : Nat) : Int) = pts[a]!.x := by omega
 have hyn : ((pts[a]!.y.toNat : Nat) : Int) = pts[a]!.y := by omega
 have hv2 : ∀ v : Nat, aU pts[a]! = (v : Int) → (1 ≤ pts[a]!.op ∧ pts[a]!.op ≤ 6) ∧ v = pts[a]!.x.toNat := fun v e => by
  by_cases q : 7 ≤ pts[a]!.op
  ·rw [CT q] at e;omega
  ·rw [kW (by omega)] at e;omega
 have old : ∀ v, v < ts.length → (bE ts s pts[a]!).1.slots[v]!.set = true → aU pts[a]! ≠ (v : Int) → aV ts pts[a]! v ≠ 2 ∧ (bE ts s pts[a]!).1.slots[v]! = s.slots[v]! := fun v hv h1 h2 => by
  have e := hs v hv
  rw [if_neg h2] at e
  by_cases q : aV ts pts[a]! v = 2
  ·rw [if_pos q] at e;rw [e] at h1;cases h1
  ·rw [if_neg q] at e;exact ⟨q,e⟩
 have oldf : ∀ v, v < ts.length → 3 ≤ ts[v]! → s.slots[v]!.set = true → 0 ≤ s.slots[v]!.ptr.cell ∧ s.slots[v]!.ptr.cell < (bE ts s pts[a]!).1.cells.length ∧ 1 ≤ s.slots[v]!.ptr.tag ∧ s.slots[v]!.ptr.tag < (bE ts s pts[a]!).1.cells[eB s.slots v]!.next := fun v h1 h2 h3 => by
  obtain ⟨f1,f2,f3,f4⟩ := B.f v h1 h2 h3
  have := g2.l
  have h5 := g2.n (eB s.slots v) (by unfold eB;omega)
  exact ⟨f1,by omega,f3,by omega⟩
 -- a new reference
 have newf : ∀ v : Nat, aU pts[a]! = (v : Int) → v < ts.length → 3 ≤ ts[v]! → (pts[a]!.op = 3 ∧ yF s pts[a]! = s.slots[pts[a]!.y.toNat]! ∧ pts[a]!.y.toNat < ts.length ∧ ts[pts[a]!.y.toNat]! = ts[v]! ∧ s.slots[pts[a]!.y.toNat]!.set = true) ∨
   (∃ c : Nat,c < s.cells.length ∧ (yF s pts[a]!).ptr = ⟨(c : Int),s.cells[c]!.next⟩ ∧ s.cells[c]!.next + 1 ≤ (bE ts s pts[a]!).1.cells[c]!.next) := fun v e hv h3 => by
  obtain ⟨o1,o2⟩ := hv2 v e
  by_cases h1 : pts[a]!.op = 1
  ·have := PA.t1 h1;rw [← o2] at this;omega
  by_cases h2 : pts[a]!.op = 2
  ·have := PA.t2 (.inl h2);rw [← o2] at this;omega
  by_cases h3' : pts[a]!.op = 3
  ·have hyl : pts[a]!.y.toNat < ts.length := by have := hyb.2 (by omega) (by omega); omega
   refine .inl ⟨h3',by unfold yF;rw [if_neg h1,if_neg h2,if_pos h3'],hyl,?_,fB hu hyl (Dk h3' hyn)⟩
   rw [o2]; exact (PA.t3 h3').1.symm
  by_cases h4 : pts[a]!.op = 4 ∨ pts[a]!.op = 5
  ·obtain ⟨hk, ec⟩ := D8 PA h4 hgo
   have hx0 := cP (iP hk)
   refine .inr ⟨s.slots[pts[a]!.y.toNat]!.ptr.cell.toNat,hx0.2.2,?_,?_⟩
   ·unfold yF; rw [if_neg h1, if_neg h2, if_neg h3', if_pos h4]
    dsimp only
    unfold lQ;rw [if_pos hk,Int.toNat_of_nonneg hx0.1]
   ·rw [ec, z7 hk, if_pos rfl]
    show _ ≤ (fM _ _ _).next + 1
    exact Int.le_refl _
  ·have h6 : pts[a]!.op = 6 := by omega
   have := (PA.t6 h6).1;rw [← o2] at this;omega
 refine ⟨B.w.do PA h11 (fun h => ⟨hx.1,hx.2 h⟩) hop.1 (fun h1 h2 => ⟨hyb.1,hyb.2 h1 h2⟩) hu,fun v hv ht => ?_,g1,fun v hv h3 hset => ?_,fun v u hv hul h4 h4' hset hset' hce htg => ?_⟩
 ·rw [hs v hv]
  by_cases q : aU pts[a]! = (v : Int)
  ·rw [if_pos q]
   obtain ⟨o1,o2⟩ := hv2 v q
   unfold yF
   by_cases h1 : pts[a]!.op = 1
   ·rw [if_pos h1]; exact PA.n (.inl h1)
   rw [if_neg h1]
   by_cases h2 : pts[a]!.op = 2
   ·have := PA.t2 (.inl h2);rw [← o2] at this;omega
   rw [if_neg h2]
   by_cases h3 : pts[a]!.op = 3
   ·rw [if_pos h3]
    have hyl : pts[a]!.y.toNat < ts.length := by have := hyb.2 (by omega) (by omega);omega
    have := (PA.t3 h3).1
    rw [← o2,ht] at this
    exact B.i _ hyl this.symm
   rw [if_neg h3]
   by_cases h4 : pts[a]!.op = 4 ∨ pts[a]!.op = 5
   ·rcases h4 with h | h
    ·have := (PA.t4 h).1;rw [← o2] at this;omega
    ·have := (PA.t5 h).1;rw [← o2] at this;omega
   rw [if_neg h4]
   have h6 : pts[a]!.op = 6 := by omega
   have hk := (Cm PA h6 hgo).1
   dsimp only
   unfold kJ;rw [if_pos hk]
   exact (B.w.k.m.at (cP hk).2.2).v
  ·rw [if_neg q]
   split
   ·exact ⟨by decide,by decide⟩
   ·exact B.i v hv ht
 ·by_cases q : aU pts[a]! = (v : Int)
  ·have e := hs v hv
   rw [if_pos q] at e
   unfold eB
   rw [e]
   rcases newf v q hv h3 with ⟨n1,n2,n3,n4,n5⟩ | ⟨c,n1,n2,n3⟩
   ·rw [n2]; exact oldf _ n3 (by omega) n5
   ·rw [n2]
    have := g2.l
    have h5 := (B.w.k.m.at n1).n
    exact ⟨by dsimp only;omega,by dsimp only;omega,h5.1,by show s.cells[c]!.next < (bE ts s pts[a]!).1.cells[c]!.next;omega⟩
  ·obtain ⟨_, e⟩ := old v hv hset q
   unfold eB
   rw [e] at hset ⊢
   exact oldf v hv h3 hset
 ·have fresh : ∀ (v u : Nat), aU pts[a]! = (v : Int) → v < ts.length → u < ts.length → ts[v]! = 4 → ts[u]! = 4 → aU pts[a]! ≠ (u : Int) → (bE ts s pts[a]!).1.slots[u]!.set = true →
    eB (bE ts s pts[a]!).1.slots v = eB (bE ts s pts[a]!).1.slots u → (bE ts s pts[a]!).1.slots[v]!.ptr.tag = (bE ts s pts[a]!).1.slots[u]!.ptr.tag → False := fun v u e hv hul h4 h4' ne hset hce htg => by
   have e1 := hs v hv
   rw [if_pos e] at e1
   obtain ⟨n0,e2⟩ := old u hul hset ne
   unfold eB at hce
   rw [e1,e2] at hce htg
   rw [e2] at hset
   rcases newf v e hv (by omega) with ⟨n1,n2,n3,n4,n5⟩ | ⟨c,n1,n2,n3⟩
   ·rw [n2] at hce htg
    have := B.d _ u n3 hul (by omega) h4' n5 hset hce htg
    rw [← this] at n0
    exact n0 (Hp n1 hyn (.inr (by omega)))
   ·rw [n2] at hce htg
    have f := (B.f u hul (by omega) hset)
    dsimp only at hce htg
    have e3 : eB s.slots u = c := by unfold eB;omega
    rw [e3] at f
    omega
  by_cases q : aU pts[a]! = (v : Int)
  ·by_cases q' : aU pts[a]! = (u : Int)
   ·omega
   ·exact (fresh v u q hv hul h4 h4' q' hset' hce htg).elim
  ·by_cases q' : aU pts[a]! = (u : Int)
   ·exact (fresh u v q' hul hv h4' h4 q hset hce.symm htg.symm).elim
   ·obtain ⟨_, e⟩ := old v hv hset q
    obtain ⟨_,e'⟩ := old u hul hset' q'
    unfold eB at hce
    rw [e] at hset hce htg
    rw [e'] at hset' hce htg
    exact B.d v u hv hul h4 h4' hset hset' hce htg
theorem FI (w:WG ts pts) (A:WA ts pts) (ha:a < pts.length) (h11:pts[a]!.op ≠ 11) (hN:N ≤ 198) (B:Bs ts N s) (R:RfI ts (fun v => Nd ts pts (a,v)) (Ln ts pts a) s.slots s.cells) (hu:bK ts s pts[a]! = false):(bE ts s pts[a]!).2 = -1 ∨ (bE ts s pts[a]!).2 = 1:=by
 have PA := A.a a ha
 have hx := w.x a ha
 have hyb := w.y a ha
 have hop := w.op a ha
 have hxn : ((pts[a]!.x.toNat : Nat) : Int) = pts[a]!.x := by omega
 have hyn : ((pts[a]!.y.toNat : Nat) : Int) = pts[a]!.y := by omega
 by_cases h9 : 9 ≤ pts[a]!.op
 ·rw [Dd h9 h11]; exact .inl rfl
 have hxl : pts[a]!.x.toNat < ts.length := by have := hx.2 (by omega);omega
 unfold bE
 by_cases h1 : pts[a]!.op = 1
 ·rw [if_pos h1]; exact .inl (B.w.put0 (by rw [PA.t1 h1]; decide) _).2
 rw [if_neg h1]
 by_cases h2 : pts[a]!.op = 2
 ·rw [if_pos h2]
  have ht := PA.t2 (.inl h2)
  by_cases h200 : s.cells.length = 200
  ·rw [if_pos h200]; exact .inr rfl
  ·rw [if_neg h200]
   exact .inl ((B.w.new (PA.n (.inr h2)) h200 s.read).putB (v := pts[a]!.x.toNat) hxl ht _ rfl rfl).2
 rw [if_neg h2]
 by_cases h3 : pts[a]!.op = 3
 ·rw [if_pos h3]
  have hyl : pts[a]!.y.toNat < ts.length := by have := hyb.2 (by omega) (by omega);omega
  obtain ⟨ht,hne⟩ := PA.t3 h3
  have hys := fB hu hyl (Dk h3 hyn)
  by_cases q2 : ts[pts[a]!.y.toNat]! = 2
  ·rw [if_pos (pA.2 (.inl q2))]
   have g := B.w.give hyl q2 hys
   obtain ⟨b1,b2,b3,b4⟩ := B.w.o _ hyl q2 hys
   refine .inl (g.putB (v := pts[a]!.x.toNat) hxl (by rw [ht]; exact q2) _ hys ?_).2
   generalize s.slots[pts[a]!.y.toNat]! = z at b1 b3
   obtain ⟨zs,zn,zc,zt⟩ := z
   dsimp only at b1 b3 ⊢
   rw [b3,Int.toNat_of_nonneg b1]
  ·split
   ·exact .inl ((B.w.clr (v := pts[a]!.y.toNat) q2).put0 (by rw [ht]; exact q2) _).2
   ·exact .inl (B.w.put0 (by rw [ht]; exact q2) _).2
 rw [if_neg h3]
 by_cases h4 : pts[a]!.op = 4 ∨ pts[a]!.op = 5
 ·rw [if_pos h4]
  have hyl : pts[a]!.y.toNat < ts.length := by have := hyb.2 (by omega) (by omega);omega
  have huse : aV ts pts[a]! (pts[a]!.y.toNat : Nat) ≠ 0 := nF (by omega) hyn
  have hty : 2 ≤ ts[pts[a]!.y.toNat]! ∧ (pts[a]!.op = 5 → ts[pts[a]!.y.toNat]! ≠ 3) := by
   rcases h4 with h|h
   ·exact ⟨(PA.t4 h).2.2,fun q => by omega⟩
   ·have := (PA.t5 h).2.2;exact ⟨by omega,fun _ => by omega⟩
  have hxt : ts[pts[a]!.x.toNat]! ≠ 2 := by
   rcases h4 with h4|h4
   ·rw [(PA.t4 h4).1]; decide
   ·rw [(PA.t5 h4).1]; decide
  have hk : aS s.cells s.slots[pts[a]!.y.toNat]!.ptr (decide (pts[a]!.op = 5)) = 0 := R.code w B ha hu hyl hty.1 huse (fun q => hty.2 (by simpa using q))
  have hsh := (B.sm.at (cP hk).2.2).tch s.slots[pts[a]!.y.toNat]!.ptr (decide (pts[a]!.op = 5))
  have hl : gX s.cells s.slots[pts[a]!.y.toNat]!.ptr (decide (pts[a]!.op = 5)) = 0 := by
   unfold gX;rw [if_pos hk,if_neg]
   have h5 := hsh.l
   have h6 := hsh.n
   unfold xD
   omega
  rw [if_pos hl]
  exact .inl ((B.w.cells (B.w.k.m.ln _ _) (B.w.h.ln B.w.k.m _ _) (Au _ _ _) (fun c hc => C5 _ _ _ c hc) _).put0 hxt _).2
 rw [if_neg h4]
 by_cases h6 : pts[a]!.op = 6
 ·rw [if_pos h6]
  have hyl : pts[a]!.y.toNat < ts.length := by have := hyb.2 (by omega) (by omega);omega
  have hxt : ts[pts[a]!.x.toNat]! ≠ 2 := by rw [(PA.t6 h6).1]; decide
  have hk : aS s.cells s.slots[pts[a]!.y.toNat]!.ptr false = 0 := R.code w B ha hu hyl (PA.t6 h6).2 (nF (by omega) hyn) (fun q => by cases q)
  rw [if_pos hk]
  exact .inl ((B.w.cells (B.w.k.m.tch _ _) (B.w.h.tch B.w.k.m _ _) (jJ _ _ _) (fun c hc => Ak _ _ _ c hc) _).put0 hxt _).2
 rw [if_neg h6]
 by_cases h7 : pts[a]!.op = 7
 ·rw [if_pos h7]
  have hyl : pts[a]!.y.toNat < ts.length := by have := hyb.2 (by omega) (by omega);omega
  obtain ⟨ht,ht'⟩ := PA.t7 h7
  have hk : aS s.cells s.slots[pts[a]!.x.toNat]!.ptr true = 0 := R.code w B ha hu hxl (by omega) (Ge h7 hxn) (fun _ => by omega)
  refine .inl ?_
  show gM _ = -1
  unfold gM lO;rw [if_pos (B.i _ hyl ht'),if_pos hk]
 rw [if_neg h7]
 have h8 : pts[a]!.op = 8 := by omega
 rw [if_pos h8]
 have hset := fB hu hxl (Gb h8 hxn)
 refine .inl ?_
 show gM _ = -1
 unfold gM;rw [if_pos (B.w.k0 hxl (PA.t2 (.inr h8)) hset true)]
theorem Ed (w:WG ts pts) (A:WA ts pts) (I:Nat → Nat → Mc → Prop)
  (hI : ∀ n a s k,a < pts.length → pts[a]!.op ≠ 11 → eT pts a k → I (n + 1) a s → bK ts s pts[a]! = false → (bE ts s pts[a]!).2 = -1 → I n k (bE ts s pts[a]!).1) :
  ∀ n a cs s last,a < pts.length → I n a s → Gg ts pts (fun a s => ∃ n,I n a s) (eW ts pts (cK pts n a cs).1 s last) := by
 intro n
 induction n with
 | zero =>
  intro a cs s last ha hs
  by_cases h11 : pts[a]!.op = 11
  ·have e : (cK pts 0 a cs).1 = [a] := by unfold cK; rw [if_pos h11]
   rw [e]; exact lD ha ⟨_,hs⟩ h11
  ·have e : (cK pts 0 a cs).1 = [] := by rw [cK, if_neg h11]
   rw [e]; exact .inl rfl
 | succ n ih =>
  intro a cs s last ha hs
  by_cases h11 : pts[a]!.op = 11
  ·have e : (cK pts (n + 1) a cs).1 = [a] := by unfold cK; rw [if_pos h11]
   rw [e]; exact lD ha ⟨_,hs⟩ h11
  ·have e : (cK pts (n + 1) a cs).1 = a :: (cK pts n (eV pts a cs).1 (eV pts a cs).2).1 := by rw [cK, if_neg h11]
   have he := nU w A ha h11 cs
   rw [e]
   exact s8 ha ⟨_,hs⟩ fun h1 h2 => ih _ _ _ _ (jZ w he) (hI n a s _ ha h11 he hs h1 h2)
def Rt (pts : List Pnt) (c b : Nat) : Prop := Clo (fun b => eT pts c b) (fun a b => eT pts a b) b
structure Jv (ts : List Int) (pts : List Pnt) (n a : Nat) (s : Mc) : Prop where
 b : ∃ N : Int,1 ≤ N ∧ N + n ≤ 198 ∧ Bs ts N s
 v : Vs ts pts a s
 r : (∃ c L,Cf ts pts c L ∧ Rt pts c a) ∨ RfI ts (fun v => Nd ts pts (a,v)) (Ln ts pts a) s.slots s.cells
theorem Jv.start {n:Nat}(hn:n ≤ 197):Jv ts pts n 0 (mc0 ts.length):=by
 have e : ∀ v, v < ts.length → (mc0 ts.length).slots[v]! = eG := fun v hv => by
  show (List.replicate ts.length eG)[v]! = eG
  rw [aW _ _ (by simpa using hv)]; simp
 refine ⟨⟨1,by omega,by omega,Own.start ts,fun v hv _ => ?_,fun c hc => ?_,fun v hv _ h => ?_,fun v u hv hul _ _ h => ?_⟩,Vs.start,.inr ⟨fun v hv _ h => ?_,fun v u hv hul _ _ h => ?_⟩⟩
 ·rw [e v hv]; exact ⟨by decide,by decide⟩
 ·have : c ∈ ([] : List Cl) := hc
  cases this
 all_goals (rw [e v hv] at h;cases h)
theorem De (w:WG ts pts) (A:WA ts pts) (cs:List Int) (n:Nat) (hn:n ≤ 197) (h:(cQ ts pts cs n).2.1 = 3 ∨ (cQ ts pts cs n).2.1 = 4):∃ c L,Cf ts pts c L ∧ Rt pts c (cQ ts pts cs n).2.2:=by
 have ho := Ed w A (Jv ts pts) (fun n a s k ha h11 he hJ hu hgo => by
  obtain ⟨⟨N,hN1,hN2,B⟩,V,R⟩ := hJ
  refine ⟨⟨N + 1,by omega,by omega,B.step w A ha h11 hN1 hu hgo⟩,V.step w A a s k ha h11 he hu hgo,?_⟩
  rcases R with ⟨c,L,h1,h2⟩ | R
  ·exact .inl ⟨c,L,h1,.step h2 he⟩
  ·by_cases hC : ∃ L, Cf ts pts a L
   ·obtain ⟨L, hL⟩ := hC
    exact .inl ⟨a,L,hL,.base he⟩
   ·exact .inr (R.step w A he h11 B V (fun L hL => hC ⟨L,hL⟩) hu hgo)) n 0 cs (mc0 ts.length) 0 w.p0 (Jv.start hn)
 change Gg ts pts _ (cQ ts pts cs n) at ho
 rcases ho with ho | ⟨s',h0,⟨m,J⟩,⟨h3,_⟩ | ⟨h3,h4,h5,h6⟩⟩
 ·omega
 ·omega
 ·rcases J.r with hr | R
  ·exact hr
  ·exfalso
   obtain ⟨N,hN1,hN2,B⟩ := J.b
   by_cases q : pts[(cQ ts pts cs n).2.2]!.op = 11
   ·rw [oR q,(Own.fin ts.length 0 s' B.w (by omega) (fun u hu => by omega)).1] at h6;omega
   ·rcases FI w A h0 q (by omega) B R h3 with e | e
    ·exact h4 e
    ·omega
end
end Go.AL
