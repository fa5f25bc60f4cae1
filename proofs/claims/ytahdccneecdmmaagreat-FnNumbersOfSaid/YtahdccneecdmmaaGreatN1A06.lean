/-
 A part of the proofs over this program: rules and contracts of its functions (the rules).
-/
import Derived.Test.YtahdccneecdmmaaGreatN1A05
import Derived.MapKept
import Derived.Orders
set_option linter.unusedVariables false
set_option linter.unusedSimpArgs false
namespace Go.AL
structure Co where
 val : Int
 alive : Bool
 next : Int
 av : AV
instance : Inhabited Co:=⟨⟨0,false,0,.imm 0 []⟩⟩
def dP (c : Co) : List AV := [iv c.val,bv c.alive,iv c.next,c.av]
instance : FlT dP 4:=⟨fun _ => rfl⟩
instance : FE dP (fun c => [iv c.val,bv c.alive,iv c.next,c.av]):=⟨fun _ => rfl⟩
def mF (c : Cl) : Co := ⟨c.val,c.alive,c.next,sl bV c.stk⟩
def cL (m : List Cl) (j : Nat) (X : AV) : List Co := (m.map mF).set j { mF m[j]! with av := X }
theorem gG (m:List Cl):flat dP (m.map mF) = flat bP m:=by
 unfold flat;rw [List.flatMap_map]; rfl
theorem cF {m:List Cl}{j:Nat}{X:AV}:(cL m j X).length = m.length := by unfold cL;rw [List.length_set,List.length_map]
theorem eY {m:List Cl}{j:Nat}{X:AV}(h:j < m.length):(cL m j X)[j]! = ⟨m[j]!.val,m[j]!.alive,m[j]!.next,X⟩:=by
 unfold cL
 rw [aY _ _ (by rw [List.length_set,List.length_map]; exact h),List.getElem_set_self]; rfl
theorem fI {m:List Cl}{j:Nat}{X:AV}(h:j < m.length):flat dP (cL m j X) = flat bP (m.take j) ++ ([iv m[j]!.val,bv m[j]!.alive,iv m[j]!.next] ++ X :: flat bP (m.drop (j + 1))):=by
 unfold cL
 rw [List.set_eq_take_append_cons_drop,if_pos (by rw [List.length_map]; exact h),← bI,← List.map_take,gG,← List.map_drop]
 congr 1
 show dP _ ++ flat dP _ = _
 rw [gG]; rfl
theorem p9 {m:List Cl}{j:Nat}{X:AV}(h:j < m.length):flat dP (cL m j X) = (flat bP (m.take j) ++ [iv m[j]!.val,bv m[j]!.alive,iv m[j]!.next]) ++ X :: flat bP (m.drop (j + 1)):=by
 rw [fI h,List.append_assoc]
theorem u0 {m:List Cl}{j:Nat}{r:List Tg}:flat dP (cL m j (sl bV r)) = flat bP (m.set j { m[j]! with stk := r }):=by
 rw [← gG,List.map_set]; rfl
theorem Fv {m:List Cl}{j:Nat}{X:AV}(h:j < m.length):fA (flat bP m) (0 + j * 4 + 3) [X] = flat dP (cL m j X):=by
 rw [← gG]
 have := dA (f := dP) (xs := m.map mF) (k := j) (j := 3) (new := [X]) (y := { mF m[j]! with av := X }) (by rw [List.length_map]; exact h) (by simp) (by
  have e : (m.map mF)[j]! = mF m[j]! := by rw [aY _ _ (by rw [List.length_map]; exact h),List.getElem_map,aY _ _ h]
  rw [e]; rfl)
 exact this
theorem rW {m:List Cl}{j:Nat}{X Y:AV}(h:j < m.length):fA (flat dP (cL m j X)) (0 + j * 4 + 3) [Y] = flat dP (cL m j Y):=by
 have e : cL m j Y = (cL m j X).set j { mF m[j]! with av := Y } := by unfold cL;rw [List.set_set]
 rw [e]
 exact dA (by rw [cF]; exact h) (by simp) (by rw [eY h]; rfl)
theorem yO {m:List Cl}{j:Nat}{X:AV}{v:Int}(h:j < m.length):fA (flat dP (cL m j X)) (0 + j * 4 + 2) [iv v] = flat dP (cL (m.set j { m[j]! with next := v }) j X):=by
 have e : cL (m.set j { m[j]! with next := v }) j X = (cL m j X).set j ⟨m[j]!.val, m[j]!.alive, v, X⟩ := by
  have e2 : (m.set j { m[j]! with next := v })[j]! = { m[j]! with next := v } := by rw [aY _ _ (by rw [List.length_set]; exact h),List.getElem_set_self]
  unfold cL
  rw [e2,List.map_set,List.set_set,List.set_set]; rfl
 rw [e]
 exact dA (by rw [cF]; exact h) (by simp) (by rw [eY h]; rfl)
theorem Le.cls {ts:List (Nat × AV)}{hs:List (Nat × Option (List AV))}{n:Nat}{z0:Lo}{o q j k:Nat}{m:List Cl}{r:List Tg}(hj:aN hs o = some (flat dP (cL m j (.own q 0 k 2)))) (hq:aN hs q = some (flat bV r)) (hk:k = r.length) (hjm:j < m.length) (hoq:o ≠ q) :
  Le ⟨ts,hs,n,z0⟩ ⟨ts,(o,some (flat bP (m.set j { m[j]! with stk := r }))) :: (q,none) :: hs,n,z0⟩ := by
 subst hk
 rw [p9 hjm] at hj
 have h := Le.frzC (ts := ts) (n := n) (z0 := z0) _ hj hq hoq
 rw [← u0,p9 hjm]; exact h
theorem rR {ρ:Nat → Option Nat}{m:List Cl}{j k i i':Nat}(hr:ρ i = some i'):RnL ρ (flat dP (cL m j (.own i 0 k 2))) (flat dP (cL m j (.own i' 0 k 2))):=by
 by_cases h : j < m.length
 ·rw [fI h, fI h]
  exact RnL.app (RnL.purI inferInstance) (RnL.app (RnL.purI inferInstance) (RnL.cons (RnV.own hr) (RnL.purI inferInstance)))
 ·have e : ∀ X, cL m j X = m.map mF := fun X => List.set_eq_of_length_le (by rw [List.length_map]; omega)
  rw [e,e,gG]
  exact RnL.purI inferInstance
theorem sE {p:Prop}{α:Type}{a c:Option α}{b:α}(h:some b = c) (e:a = some b := by rfl):p ∨ a = c := .inr (e.trans h)
section
variable {P : Program} {N : Nat} {Q : Exit → AS → Prop} {all : Array Oper} {rest : List Oper} {ts : List (Nat × AV)} {hs : List (Nat × Option (List AV))} {n : Nat} {z0 : Lo} {md : Md}
variable {ty : TypeId} {pos : String} {af : Array Edge}
theorem aT {d:Nat}{k:FuncId}{l:List Operand}{tys:Array TypeId}{avs avs0:List AV}{H0:List (Nat × Option (List AV))}{rr rr':AV}{hh:List (Nat × Option (List AV))}
  (mp : List Nat) (n1 : Nat) (ws : List (Nat × Option (List AV))) (h : MC P k avs0 H0 mp.length (fun _ : Unit => True) (fun _ => rr) (fun _ => hh)) [hc : CaT P k] (ha : evL (lk ts) l = some avs) (hd : distinct mp = true)
  (hM : Nat.ble (n + (n1 - mp.length)) aU = true) (hN : Nat.blt d N = true)
  {md' : Md} [hmd : MdA md (dV l ++ mp.map .inr) (ws.map (fun p => .inr p.1) ++ [.inl d]) md']
  (kk : RW P N all Q md' rest ⟨(d,rr') :: ts,eS hs ws,n + (n1 - mp.length),z0⟩)
  (hH0 : l9 hs H0 mp 0 mp := by repeat' (first|exact trivial|(refine And.intro ⟨_,_,rfl,by assumption,?_⟩ ?_)|exact RnL.purI inferInstance|exact rR rfl|exact RnV.purI inferInstance|exact RnV.own rfl|exact RnV.optr rfl|exact RnL.nil|refine RnL.cons ?_ ?_|refine RnV.agg ?_|refine RnV.tup ?_))
  (hk : dU mp.length H0 = true := by rfl)
  (har : RnL (mp[·]?) avs0 avs := by repeat' (first|exact RnL.purI inferInstance|exact rR rfl|exact RnV.purI inferInstance|exact RnV.own rfl|exact RnV.optr rfl|exact RnL.nil|refine RnL.cons ?_ ?_|refine RnV.agg ?_|refine RnV.tup ?_))
  (hr : RnV (pW mp n n1) rr rr' := by repeat' (first|exact RnL.purI inferInstance|exact rR rfl|exact RnV.purI inferInstance|exact RnV.own rfl|exact RnV.optr rfl|exact RnL.nil|refine RnL.cons ?_ ?_|refine RnV.agg ?_|refine RnV.tup ?_))
  (hwa : mB mp ws = true := by simp [mB])
  (hw : l8 (pW mp n n1) hh ws := by repeat' (first|exact trivial|(refine And.intro ⟨0,_,rfl,rfl,?_⟩ ?_)|(refine And.intro ⟨1,_,rfl,rfl,?_⟩ ?_)|(refine And.intro ⟨2,_,rfl,rfl,?_⟩ ?_)|(refine And.intro ⟨3,_,rfl,rfl,?_⟩ ?_)|(refine And.intro ⟨4,_,rfl,rfl,?_⟩ ?_)|(refine And.intro ⟨5,_,rfl,rfl,?_⟩ ?_)|(refine And.intro ⟨6,_,rfl,rfl,?_⟩ ?_)|exact RnL.purI inferInstance|exact rR rfl|exact RnV.purI inferInstance|exact RnV.own rfl|exact RnV.optr rfl|exact RnL.nil|refine RnL.cons ?_ ?_|refine RnV.agg ?_|refine RnV.tup ?_)) :
  RW P N all Q md (⟨some d,.call ⟨.value (.func k),l.toArray,tys⟩,ty,pos,af,none⟩ :: rest) ⟨ts,hs,n,z0⟩ :=
 AK mp n1 ws h (avs := avs) ha hd hH0 hk har hM hr hwa hw hN (md' := md') (hmd := hmd) kk
end
theorem aE {G K:Prop}(k:K) (h:Hy K → G := by first|(intro k;(first|refine Du ?_ | refine IC ?_);exact k.pf) | fail):G := h ⟨k⟩
open Go.RowKit Go.MapKept
def HN (r : Nat) (ks : List Int) (w : World) : Prop := ∃ es ck,w.heap[r]? = some (.map es ck) ∧ ∀ e ∈ es.toList,∃ k ∈ ks,e.key = .int .i64 k
structure GsM (C : Ctx) (s : AS) (r : Nat) (ks : List Int) (a : Act) (w : World) : Prop where
 g : Gs C s a w
 m : HN r ks w
 l : C.w0.heap.size ≤ r
theorem Fr.trans2 {W0 W1:Nat → Prop}{w0 w w':World}(h:Fr W0 w0 w) (k:Fr W1 w w') (hW:∀ b,W1 b → W0 b ∨ w0.heap.size ≤ b):Fr W0 w0 w' :=
 ⟨k.os.trans h.os, k.tape.trans h.tape, k.output.trans h.output, Nat.le_trans h.size k.size, fun b hb hw => by
  rw [k.block b (Nat.lt_of_lt_of_le hb h.size) (fun q => (hW b q).elim hw (fun h => by omega))]; exact h.block b hb hw,fun b => Nat.le_trans (h.bs b) (k.bs b)⟩
theorem GsM.base {C:Ctx}{s:AS}{r:Nat}{ks:List Int}{a:Act}{w:World}(h:GsM C s r ks a w):∃ C':Ctx,C'.N = C.N ∧ Gs C' s a w ∧ ∀ s' a' w',Gs C' s' a' w' → GsM C s' r ks a' w':=by
 obtain ⟨⟨h0,ι,g,gh⟩,⟨es,ck,hm,hk⟩,hl⟩ := h
 let C' : Ctx := { C with w0 := w,W0 := fun b => ∃ id cs β,aN s.hs id = some cs ∧ ι id = some (some (b,β)),xlt := fun b hb => Nat.lt_of_lt_of_le (C.xlt b hb) gh.fr.size }
 have hW : ∀ b, C'.W0 b → C.W0 b ∨ C.w0.heap.size ≤ b := by
  rintro b ⟨id,cs,β,h1,h2⟩
  rcases gh.obj id cs h1 with ⟨h3,_⟩ | ⟨b',β',arr,e,h3,h4,h5,h6,h7,h8⟩
  ·rw [h3] at h2;cases h2
  ·rw [h3] at h2;cases h2;exact h8
 have hr : ¬ C'.W0 r := by
  rintro ⟨id,cs,β,h1,h2⟩
  rcases gh.obj id cs h1 with ⟨h3,_⟩ | ⟨b',β',arr,e,h3,h4,h5,h6,h7,h8⟩
  ·rw [h3] at h2;cases h2
  ·rw [h3] at h2;cases h2;rw [hm] at h4;cases h4
 refine ⟨C',rfl,⟨h0,ι,⟨g.df,g.sz,g.tm⟩,⟨fun id cs h => ?_,gh.sep,Fr.refl _ _,gh.ex,gh.fresh⟩⟩,?_⟩
 ·rcases gh.obj id cs h with h1 | ⟨b', β', arr, e, h3, h4, h5, h6, h7, h8⟩
  ·exact .inl h1
  ·exact .inr ⟨b',β',arr,e,h3,h4,h5,h6,h7,.inl ⟨id,cs,β',h,h3⟩⟩
 ·rintro s' a' w' ⟨h0', ι', g', gh'⟩
  have f : Fr C'.W0 w w' := gh'.fr
  refine ⟨⟨h0',ι',⟨g'.df,g'.sz,g'.tm⟩,⟨fun id cs h => ?_,gh'.sep,gh.fr.trans2 f hW,gh'.ex,gh'.fresh⟩⟩,⟨es,ck,by rw [f.block r (c6 hm) hr]; exact hm,hk⟩,hl⟩
  rcases gh'.obj id cs h with h1 | ⟨b',β',arr,e,h3,h4,h5,h6,h7,h8⟩
  ·exact .inl h1
  ·refine .inr ⟨b', β', arr, e, h3, h4, h5, h6, h7, ?_⟩
   rcases h8 with h8|h8
   ·exact hW _ h8
   ·exact .inr (Nat.le_trans gh.fr.size h8)
def mT (P : Program) (N : Nat) (c : Code) (Q : Exit → AS → List Int → Prop) (r : Nat) (ks : List Int) (s : AS) : Prop :=
 ∀ (C : Ctx) (a : Act) (w : World),C.N = N → GsM C s r ks a w → c.wp P (fun e a' w' => ∃ s' ks',Q e s' ks' ∧ GsM C s' r ks' a' w') a w
def Bw (P : Program) (N : Nat) (all : Array Oper) (Q : Exit → AS → List Int → Prop) (r : Nat) (ks : List Int) (l : List Oper) (s : AS) : Prop :=
 ∀ (C : Ctx) (a : Act) (w : World),C.N = N → GsM C s r ks a w → wpList P all (fun e a' w' => ∃ s' ks',Q e s' ks' ∧ GsM C s' r ks' a' w') l a w
def nJ (K : AS → List Int → Prop) (Q : Exit → AS → List Int → Prop) : Exit → AS → List Int → Prop
 | .normal,s,ks => K s ks
 | e,s,ks => Q e s ks
def Fs (id : Nat) (Q : Exit → AS → List Int → Prop) : Exit → AS → List Int → Prop
 | .exit i,s,ks => if i = id then Q .normal s ks else Q (.exit i) s ks
 | e,s,ks => Q e s ks
section
variable {P : Program} {N : Nat} {Q : Exit → AS → List Int → Prop} {s : AS} {r : Nat} {ks : List Int}
theorem k7 {c:Code}(h:AW P N c (fun e s' => Q e s' ks) s):mT P N c Q r ks s:=by
 intro C a w hN g
 obtain ⟨C',h1,h2,h3⟩ := g.base
 exact wp_mono (h C' a w (h1.trans hN) h2) fun e a' w' ⟨s',q1,q2⟩ => ⟨s',ks,q1,h3 _ _ _ q2⟩
theorem hZ {x y:Code}(h:mT P N x (nJ (fun s' ks' => mT P N y Q r ks' s') Q) r ks s):mT P N (.seq x y) Q r ks s:=by
 intro C a w hN g
 refine wp_seq (wp_mono (h C a w hN g) ?_)
 rintro e a' w' ⟨s',ks',h1,h2⟩
 cases e with
 | normal => exact h1 C a' w' hN h2
 | _ => exact ⟨s',ks',h1,h2⟩
theorem sQ {x y:Code}{c:Operand}{b:Bool}(hc:ev (lk s.ts) c = some (.v (.bool b))) (h1:b = true → mT P N x Q r ks s) (h2:b = false → mT P N y Q r ks s):mT P N (.cond c x y) Q r ks s:=by
 rintro C a w hN ⟨⟨h0,ι,g,gh⟩,hm,hl⟩
 have h := a7 g hc
 simp only [Rd] at h
 cases b
 ·exact wp_cond_false h (h2 rfl C a w hN ⟨⟨h0,ι,g,gh⟩,hm,hl⟩)
 ·exact wp_cond_true h (h1 rfl C a w hN ⟨⟨h0,ι,g,gh⟩,hm,hl⟩)
theorem pH {id:Nat}{c:Code}(h:mT P N c (Fs id Q) r ks s):mT P N (.block id c) Q r ks s:=by
 intro C a w hN g
 refine wp_block (wp_mono (h C a w hN g) ?_)
 rintro e a' w' ⟨s',ks',h1,h2⟩
 cases e with
 | exit i =>
  simp only [Exit.inBlock,Fs] at h1 ⊢
  split
  ·rename_i hi;rw [if_pos hi] at h1;exact ⟨s',ks',h1,h2⟩
  ·rename_i hi;rw [if_neg hi] at h1;exact ⟨s',ks',h1,h2⟩
 | _ => exact ⟨s',ks',h1,h2⟩
theorem tV (h:Q .normal s ks):mT P N .skip Q r ks s := fun C a w _ g => wp_skip ⟨s,ks,h,g⟩
theorem Dv {id:Nat}(h:Q (.exit id) s ks):mT P N (.exit id) Q r ks s := fun C a w _ g => wp_exit ⟨s,ks,h,g⟩
theorem DT {σ:Type}{c:Code}(p:σ → Prop) (I:σ → AS) (J:σ → List Int) (μ:σ → Nat) (h0:∃ i,p i ∧ Le s (I i) ∧ J i = ks)
  (round : ∀ i,p i → mT P N c (nJ (fun s' ks' => ∃ j,p j ∧ μ j < μ i ∧ Le s' (I j) ∧ J j = ks') Q) r (J i) (I i)) : mT P N (.loop c) Q r ks s := by
 intro C a w hN g
 obtain ⟨i,h1,h2,h3⟩ := h0
 subst h3
 refine wp_loop (fun a w => ∃ i,p i ∧ GsM C (I i) r (J i) a w) (fun a w => k5 fun n => ∃ i,p i ∧ GsM C (I i) r (J i) a w ∧ μ i = n) ⟨i,h1,⟨h2 C a w g.g,g.m,g.l⟩⟩ ?_
 rintro a w ⟨i0,hp0,hg0⟩
 obtain ⟨⟨i,hp,hg,hm⟩,hmin⟩ := eV (S := fun n => ∃ i,p i ∧ GsM C (I i) r (J i) a w ∧ μ i = n) ⟨_,i0,hp0,hg0,rfl⟩
 refine wp_mono (round i hp C a w hN hg) ?_
 rintro e a' w' ⟨s',ks',h3,h4⟩
 cases e with
 | normal =>
  obtain ⟨j,q1,q2,q3,rfl⟩ := h3
  have h5 : GsM C (I j) r (J j) a' w' := ⟨q3 C a' w' h4.g,h4.m,h4.l⟩
  refine ⟨⟨j,q1,h5⟩,?_⟩
  have := (eV (S := fun n => ∃ i,p i ∧ GsM C (I i) r (J i) a' w' ∧ μ i = n) ⟨_,j,q1,h5,rfl⟩).2 (μ j) ⟨j,q1,h5,rfl⟩
  omega
 | _ => exact ⟨s',ks',h3,h4⟩
theorem AN {σ:Type}{c:Code}{ts:List (Nat × AV)}{hs:List (Nat × Option (List AV))}{n:Nat}{z0:Lo}(kl:List Nat) (kt:List (Nat × AV)) (js:List Nat) (kh:List (Nat × Option (List AV)))
  (ot : σ → List (Nat × AV)) (oh : σ → List (Nat × Option (List AV))) (J : σ → List Int) (p : σ → Prop) (μ : σ → Nat) (i0 : σ) (h0 : p i0) (hJ : J i0 = ks) (hk : kO kl ts = kt) (hj : lI js hs = kh)
  (h1 : k0 ts (ot i0)) (h2 : jT hs (oh i0))
  (round : ∀ i,p i → mT P N c (nJ (fun s' ks' => ∃ j,p j ∧ μ j < μ i ∧ Le s' ⟨ot j ++ kt,oh j ++ kh,n,z0⟩ ∧ J j = ks') Q) r (J i) ⟨ot i ++ kt,oh i ++ kh,n,z0⟩) :
  mT P N (.loop c) Q r ks ⟨ts,hs,n,z0⟩ := by
 subst hk hj
 exact DT p (fun i => ⟨ot i ++ kO kl ts,oh i ++ lI js hs,n,z0⟩) J μ ⟨i0,h0,Le.lit (iV h1 (iY kl)) (iU h2 (j9 js)) (Nat.le_refl _),hJ⟩ round
theorem nB {id:Nat}{l:List Oper}(h:Bw P N l.toArray Q r ks l s):mT P N (.region id l.toArray false) Q r ks s :=
 fun C a w hN g => wp_region_lit (h C a w hN g)
variable {all : Array Oper}
theorem F8 {o:Oper}{a:Act}{w:World}{K K':Act → World → Prop}{Q1 Q2:Exit → Act → World → Prop}(h:∀ a w,K a w → K' a w) (hq:∀ e a w,Q1 e a w → e = .normal)
  (hh : o.wp P a w K Q1) : o.wp P a w K' Q2 := by
 have hL : ¬ LetsOut Q1 := fun ⟨a,w,q⟩ => by cases hq _ _ _ q
 unfold Oper.wp at *
 generalize (execOp a.eval o).run P w = z at *
 cases z with
 | ok n w' =>
  cases n <;> simp only [Oper.upon] at hh ⊢ <;>
   first
    | exact h _ _ hh
    | exact Calls.mono hh (fun e w'' he => by cases e <;> first|exact h _ _ he|(cases hq _ _ _ he)|exact absurd he hL)
    | exact Rows.mono hh (fun _ _ he => h _ _ he)
 | halt x w' => cases x <;> simp only [Oper.upon] at hh ⊢ <;> (cases hq _ _ _ hh)
theorem fD {Q1 Q2:Exit → Act → World → Prop}{l2:List Oper}(k:∀ e a w,Q1 e a w → e = .normal ∧ wpList P all Q2 l2 a w):∀ (l1:List Oper) (a:Act) (w:World),wpList P all Q1 l1 a w → wpList P all Q2 (l1 ++ l2) a w
 | [],a,w,h => (k _ _ _ h).2
 | o :: l1, a, w, h => by
  have hL : ¬ LetsOut Q1 := fun ⟨a,w,q⟩ => by cases (k _ _ _ q).1
  rw [List.cons_append]
  unfold wpList at h ⊢
  split
  ·rename_i hw
   rw [if_pos hw] at h
   rcases h with h | ⟨_,h⟩
   ·exact .inl (F8 (fun a w => fD k l1 a w) (fun e a w q => (k e a w q).1) h)
   ·exact absurd h hL
  ·rename_i hw;rw [if_neg hw] at h;exact fD k l1 _ _ h
theorem tM {l1 l2:List Oper}(h:RW P N all (fun e s' => e = .normal ∧ Bw P N all Q r ks l2 s') .txt l1 s):Bw P N all Q r ks (l1 ++ l2) s:=by
 intro C a w hN g
 obtain ⟨C',h1,h2,h3⟩ := g.base
 exact fD (fun e a' w' ⟨s',⟨q1,q2⟩,q3⟩ => ⟨q1,q2 C a' w' hN (h3 _ _ _ q3)⟩) l1 a w (h C' a w (h1.trans hN) h2)
theorem Fj (h:Q .normal s ks):Bw P N all Q r ks [] s := fun C a w _ g => wpList_nil ⟨s,ks,h,g⟩
variable {rest : List Oper} {ts : List (Nat × AV)} {hs : List (Nat × Option (List AV))} {n : Nat} {z0 : Lo} {d : Nat} {ty : TypeId} {pos : String} {af : Array Edge}
theorem Bp {dst:Option Tmp}{op:Op}{j e:Nat}{want b:Bool}(hj:(all[j]?).bind (·.dst) = some e) (hb:lk s.ts e = some (.v (.bool b))) (hw:b = want) (h:Bw P N all Q r ks (⟨dst,op,ty,pos,af,none⟩ :: rest) s) :
  Bw P N all Q r ks (⟨dst,op,ty,pos,af,some (j,want)⟩ :: rest) s := by
 subst hw
 intro C a w hN g
 have h' := h C a w hN g
 obtain ⟨⟨h0,ι,g,gh⟩,hm,hl⟩ := g
 have hyl : yielded all a.tmps j = some b := by
  obtain ⟨y,hy,hr⟩ := g.tm e _ hb
  simp only [Rd] at hr
  subst hr
  simp [yielded,hj,hy]
 unfold wpList at h' ⊢
 simp only [Region.wanted,hyl,if_true,beq_self_eq_true] at h' ⊢
 exact h'
theorem l6 {w:World}{mt kt et:TypeId}{es:Array MapEntry}{ck:Nat}{a:Int}(hu:P.underlying mt = some (.map kt et)) (hk:P.underlying kt = some (.int .i64)) (hz:(P.info? et).bind (·.zero) = some (.bool false))
  (hb : w.heap[r]? = some (.map es ck)) (hn : ∀ e ∈ es.toList,∃ k,k ≠ a ∧ e.key = .int .i64 k) : (Instr.lookup mt (.map (some r)) (.int .i64 a) false).run P w = .ok (.bool false) w ∧ Instr.findNow (.int .i64) (.int .i64 a) es.toList 0 = some none := by
 have hkey : IsKey (.int .i64) (.int .i64 a) := by simp [IsKey]
 have hf : Instr.findNow (.int .i64) (.int .i64 a) es.toList 0 = some none := by
  rcases findNow_spec hkey es.toList 0 (fun x hx => by obtain ⟨k,_,h2⟩ := hn x hx;rw [h2]; simp [IsKey]) with ⟨h,_⟩ | ⟨j,e,_,h2,h3⟩
  ·exact h
  ·obtain ⟨k, h4, h5⟩ := hn e (List.mem_of_getElem? h2)
   rw [h5] at h3;cases h3;exact absurd rfl h4
 refine ⟨?_,hf⟩
 cases hi : P.info? et with
 | none => rw [hi] at hz;cases hz
 | some i =>
  rw [hi] at hz
  have hz2 : i.zero = some (.bool false) := hz
  simp [Instr.lookup,bA hu,Go.MapKept.run_getObj_map hb,run_checkKey hk hkey,run_findKey hk hf,zeroValue,typeInfo,hi,hz2,Result.andThen]
theorem xV {mt kt et:TypeId}{x y:Operand}{a:Int}(hu:P.underlying mt = some (.map kt et)) (hk:P.underlying kt = some (.int .i64)) (hz:(P.info? et).bind (·.zero) = some (.bool false))
  (hx : ev (lk ts) x = some (.v (.map (some r)))) (hy : ev (lk ts) y = some (.v (.int .i64 a))) (ha : a ∉ ks) (hN : Nat.blt d N = true) (kk : Bw P N all Q r ks rest ⟨(d,.v (.bool false)) :: ts,hs,n,z0⟩) :
  Bw P N all Q r ks (⟨some d,.lookup mt x y false,ty,pos,af,none⟩ :: rest) ⟨ts,hs,n,z0⟩ := by
 rintro C ac w hCN ⟨⟨h0,ι,g,gh⟩,⟨es,ck,hm,hkk⟩,hl⟩
 refine wpList_plain rfl (fun K hK => ?_)
 have e1 := a7 g hx
 have e2 := a7 g hy
 simp only [Rd] at e1 e2
 have hr := (l6 (P := P) hu hk hz hm (a := a) (fun e he => by obtain ⟨k,h1,h2⟩ := hkk e he;exact ⟨k,fun q => ha (q ▸ h1),h2⟩)).1
 have hop : (execOp ac.eval ⟨some d, .lookup mt x y false, ty, pos, af, none⟩).run P w = .ok (.value (.bool false)) w := by
  simp [execOp,e1,e2,hr]
 simp only [Oper.wp,hop,Oper.upon]
 refine hK _ _ (kk C _ _ hCN ⟨⟨h0,ι,?_,gh⟩,⟨es,ck,hm,hkk⟩,hl⟩)
 show TG C ι (lk ((d,_) :: ts)) _ _ _
 rw [eF]
 exact g.put (by have := b0 hN;omega) (by simp [Rd])
theorem vW {mt kt et:TypeId}{x y z:Operand}{a:Int}(hu:P.underlying mt = some (.map kt et)) (hk:P.underlying kt = some (.int .i64)) (hz:(P.info? et).bind (·.zero) = some (.bool false))
  (hx : ev (lk ts) x = some (.v (.map (some r)))) (hy : ev (lk ts) y = some (.v (.int .i64 a))) (ha : a ∉ ks) (kk : Bw P N all Q r (ks ++ [a]) rest ⟨ts,hs,n,z0⟩) :
  Bw P N all Q r ks (⟨none,.mapUpdate mt x y z,ty,pos,af,none⟩ :: rest) ⟨ts,hs,n,z0⟩ := by
 rintro C ac w hCN ⟨⟨h0,ι,g,gh⟩,⟨es,ck,hm,hkk⟩,hl⟩
 refine wpList_plain rfl (fun K hK => ?_)
 have e1 := a7 g hx
 have e2 := a7 g hy
 simp only [Rd] at e1 e2
 have hkey : IsKey (.int .i64) (.int .i64 a) := by simp [IsKey]
 have hf := (l6 (P := P) hu hk hz hm (a := a) (fun e he => by obtain ⟨k,h1,h2⟩ := hkk e he;exact ⟨k,fun q => ha (q ▸ h1),h2⟩)).2
 let o2 : Obj := .map (es.push { key := .int .i64 a,val := ac.eval z,born := ck }) (ck + 1)
 let w2 : World := { w with heap := w.heap.setIfInBounds r o2 }
 have hop : (execOp ac.eval ⟨none, .mapUpdate mt x y z, ty, pos, af, none⟩).run P w = .ok .skip w2 := by
  simp [execOp,e1,e2,Instr.mapUpdate,bA hu,Go.MapKept.run_getObj_map hm,run_checkKey hk hkey,run_findKey hk hf,Go.MapKept.run_setObj_map _ hm,Result.andThen,w2,o2]
 obtain ⟨hs1,hs2⟩ := heap_set (o' := o2) hm
 have hne : ∀ b c e f,w.heap[b]? = some (.cells c e f) → b ≠ r := fun b c e f h q => by subst q;rw [hm] at h;cases h
 have hbs : ∀ b, mH w2 b = mH w b := fun b => by
  by_cases e : b = r
  ·subst e;show (match w2.heap[b]? with|some (.cells c _ _) => c.size | _ => 0) = _; rw [show w2.heap[b]? = some o2 from hs1]; simp [mH,hm,o2]
  ·exact kE (hs2 b e)
 have hcell : ∀ b o v, w.cell? ⟨b, o, none⟩ = some v → w2.cell? ⟨b, o, none⟩ = some v := fun b o v h => by
  have : b ≠ r := fun q => by subst q;rw [World.cell?] at h;simp [hm] at h
  rw [bY (hs2 b this)]; exact h
 have car : ∀ bad : Nat → Prop,Carry w bad ι w2 bad ι := fun bad => ⟨fun b o v h1 h2 => ⟨h1,hcell b o v h2⟩,fun _ _ h => h,fun b => Nat.le_of_eq (hbs b).symm⟩
 simp only [Oper.wp,hop,Oper.upon]
 refine hK _ _ (kk C _ _ hCN ⟨⟨h0,ι,?_,?_⟩,⟨_,_,hs1,?_⟩,hl⟩)
 ·exact g.carry (car _)
 ·refine ⟨fun id cs h => ?_, gh.sep, ⟨gh.fr.os, gh.fr.tape, gh.fr.output, by show C.w0.heap.size ≤ (w.heap.setIfInBounds r o2).size; rw [Array.size_setIfInBounds]; exact gh.fr.size, fun b hb hw => ?_, fun b => by rw [hbs]; exact gh.fr.bs b⟩, gh.ex, gh.fresh⟩
  ·rcases gh.obj id cs h with h1 | ⟨b', β', arr, e, h3, h4, h5, h6, h7, h8⟩
   ·exact .inl h1
   ·exact .inr ⟨b',β',arr,e,h3,by rw [show w2.heap[b']? = w.heap[b']? from hs2 b' (hne _ _ _ _ h4)]; exact h4,h5,RdC.carryB (car _) _ _ _ (fun o v hv => hcell b' o v hv) h6,h7,h8⟩
  ·rw [show w2.heap[b]? = w.heap[b]? from hs2 b (by omega)]; exact gh.fr.block b hb hw
 ·intro e he
  rw [Array.toList_push,List.mem_append,List.mem_singleton] at he
  rcases he with he|rfl
  ·obtain ⟨k,h1,h2⟩ := hkk e he;exact ⟨k,List.mem_append_left _ h1,h2⟩
  ·exact ⟨a,by simp,rfl⟩
theorem Cq {Q:Exit → AS → Prop}{id:Nat}{t:TypeId}{y:Code}(hN:Nat.blt d N = true)
  (h : ∀ r,Bw P N (⟨some d,.makeMap t none,ty,pos,af,none⟩ :: rest).toArray (fun e s' ks' => e = .normal ∧ mT P N y (fun e s' _ => Q e s') r ks' s') r [] rest ⟨(d,.v (.map (some r))) :: ts,hs,n,z0⟩) :
  AW P N (.seq (.region id (⟨some d,.makeMap t none,ty,pos,af,none⟩ :: rest).toArray false) y) Q ⟨ts,hs,n,z0⟩ := by
 rintro C ac w hCN ⟨h0,ι,g,gh⟩
 refine wp_seq (wp_region_lit (wpList_plain rfl (fun K hK => ?_)))
 have hop : (execOp ac.eval ⟨some d, .makeMap t none, ty, pos, af, none⟩).run P w = .ok (.value (.map (some w.heap.size))) (w.alloc (.map #[] 0)) := by
  simp [execOp,Instr.makeMap,newObj,Sem.run]
 have f : Fr (fun _ => False) w (w.alloc (.map #[] 0)) := by
  refine ⟨rfl,rfl,rfl,by simp,fun b hb _ => Below.heap_alloc w _ b hb,fun b => ?_⟩
  rcases Nat.lt_or_ge b w.heap.size with hb|hb
  ·rw [kE (Below.heap_alloc w _ b hb)]; exact Nat.le_refl _
  ·simp [mH,Array.getElem?_eq_none hb]
 obtain ⟨g2,c2⟩ := gh.ext f
 simp only [Oper.wp,hop,Oper.upon]
 refine hK _ _ ?_
 have hh := h w.heap.size C (ac.put (some d) (.map (some w.heap.size))) (w.alloc (.map #[] 0)) hCN ⟨⟨h0,ι,?_,g2⟩,⟨#[],0,heap_alloc_new w _,by simp⟩,gh.fr.size⟩
 ·have := fD (l2 := []) (P := P) (Q2 := Exit.then (y.wp P (fun e a' w' => ∃ s', Q e s' ∧ Gs C s' a' w')) (fun e a' w' => ∃ s', Q e s' ∧ Gs C s' a' w')) (all := (⟨some d, .makeMap t none, ty, pos, af, none⟩ :: rest).toArray)
   (k := fun e a' w' ⟨s', ks', ⟨q1, q2⟩, q3⟩ => ⟨q1, by
    subst q1
    exact wpList_nil (wp_mono (q2 C a' w' hCN q3) (fun e a'' w'' ⟨s'',ks'',u1,u2⟩ => ⟨s'',u1,u2.g⟩))⟩) rest _ _ hh
  rw [List.append_nil] at this
  exact this
 ·show TG C ι (lk ((d, _) :: ts)) _ _ _
  rw [eF]
  exact (g.carry c2).put (by have := b0 hN;omega) (by simp [Rd])
theorem BH {K K2:AS → List Int → Prop}{id:Nat}(h:Q .normal s ks):nJ K (nJ K2 (Fs id Q)) (.exit id) s ks:=by
 have e : nJ K (nJ K2 (Fs id Q)) (.exit id) s ks = (if id = id then Q .normal s ks else Q (.exit id) s ks) := rfl
 rw [e,if_pos rfl]; exact h
theorem C8 {Q:Exit → AS → Prop}{id:Nat}{t:TypeId}{y:Code}(h:Stop (AW P N (.seq (.region id (⟨some d,.makeMap t none,ty,pos,af,none⟩ :: rest).toArray false) y) Q s)) :
  AW P N (.seq (.region id (⟨some d,.makeMap t none,ty,pos,af,none⟩ :: rest).toArray false) y) Q s := h
theorem F5 {Q:Exit → AS → Prop}{c:Code}(h:AW P N c Q s):Stop (AW P N c Q s) := h
theorem uD {l:List Oper}(h:RW P N all (fun e s' => e = .normal ∧ Q e s' ks) .txt l s):Bw P N all Q r ks l s:=by
 intro C a w hN g
 obtain ⟨C',h1,h2,h3⟩ := g.base
 have := fD (l2 := []) (P := P) (all := all) (Q1 := fun e a' w' => ∃ s', (e = .normal ∧ Q e s' ks) ∧ Gs C' s' a' w') (Q2 := fun e a' w' => ∃ s' ks', Q e s' ks' ∧ GsM C s' r ks' a' w')
  (k := fun e a' w' ⟨s',⟨q1,q2⟩,q3⟩ => ⟨q1,by subst q1;exact wpList_nil ⟨s',ks,q2,h3 _ _ _ q3⟩⟩) l a w (h C' a w (h1.trans hN) h2)
 rwa [List.append_nil] at this
end
section
variable {P : Program} {N : Nat} {Q : Exit → AS → Prop} {all : Array Oper} {rest : List Oper} {ts : List (Nat × AV)} {hs : List (Nat × Option (List AV))} {n : Nat} {z0 : Lo} {md : Md}
variable {d : Nat} {ty : TypeId} {pos : String} {af : Array Edge}
theorem fC {α:Type}{hα:Inhabited α}{f g:α → List AV}{xs:List α}{e id k j z:Nat}{t:TypeId}{x:Operand}{cs':List AV}[ha:AgT P t true] [hz:SzT P t z] (hx:ev (lk ts) x = some (.optr id (0 + k * e + j)))
  (hH : aN hs id = some (flat f xs)) (hf : FlT f e) (hg : FE f g) (hk : k < xs.length) (hj : j + z ≤ e) (hc : ((g xs[k]!).drop j).take z = cs') (h0 : Nat.blt 0 z = true) (hN : Nat.blt d N = true) {md' : Md} [hmd : MdA md (rO x ++ rA (.optr id (0 + k * e + j))) [.inl d] md']
  (kk : RW P N all Q md' rest ⟨(d,.agg cs') :: ts,hs,n,z0⟩) : RW P N all Q md (⟨some d,.load t x,ty,pos,af,none⟩ :: rest) ⟨ts,hs,n,z0⟩ := by
 have hl : (g xs[k]!).length = e := by rw [← hg.pf]; exact hf.pf _
 subst hc
 refine iS (cs := (flat f xs).drop (0 + k * e + j)) hx ha.pf hz.pf (by simp only [deref,hH,Option.map_some]) (cs' := ((g xs[k]!).drop j).take z) ?_ (by rw [List.length_take,List.length_drop,hl]; omega) (by have := b0 h0;omega) (b0 hN) (by rw [hmd.pf]; exact kk)
 rw [Nat.zero_add,← List.drop_drop,c9 f xs k hk,← hg.pf,List.drop_append_of_le_length (by rw [hf.pf]; omega),List.take_append_of_le_length (by rw [List.length_drop,hf.pf]; omega)]
end
theorem Bb (c:Int):eD .and .i64 c 1 = some (.int .i64 (c % 2)):=by
 have h : (BitVec.ofInt 64 c &&& BitVec.ofInt 64 1).toNat = (c % 2).toNat := by
  rw [BitVec.toNat_and,show (BitVec.ofInt 64 1).toNat = 1 from rfl,Nat.and_one_is_mod,BitVec.toNat_ofInt]
  omega
 have e : eD .and .i64 c 1 = some (.int .i64 (IntKind.i64.wrap ((BitVec.ofInt 64 c &&& BitVec.ofInt 64 1).toNat : Int))) := rfl
 rw [e,h]
 rcases Int.emod_two_eq c with h2|h2 <;> rw [h2] <;> rfl
section
variable {P : Program} {N : Nat} {Q : Exit → AS → Prop} {all : Array Oper} {rest : List Oper} {ts : List (Nat × AV)} {hs : List (Nat × Option (List AV))} {n : Nat} {z0 : Lo} {md : Md}
variable {d : Nat} {ty : TypeId} {pos : String} {af : Array Edge}
theorem FQ {t t':TypeId}{x y:Operand}{c:Int}(hx:ev (lk ts) x = some (.v (.int .i64 c))) (hy:ev (lk ts) y = some (.v (.int .i64 1)))
  (hN : Nat.blt d N = true) {md' : Md} [hmd : MdA md (rO x ++ rO y) [.inl d] md'] (kk : RW P N all Q md' rest ⟨(d,.v (.int .i64 (c % 2))) :: ts,hs,n,z0⟩) : RW P N all Q md (⟨some d,.binOp .and t x y t',ty,pos,af,none⟩ :: rest) ⟨ts,hs,n,z0⟩ :=
 cZ hx hy (.inl rfl) (Bb c) (b0 hN) (by rw [hmd.pf]; exact kk)
end
theorem zY {P:Program}{N:Nat}{Q:Exit → AS → Prop}{all:Array Oper}{rest:List Oper}{ts:List (Nat × AV)}{hs:List (Nat × Option (List AV))}{n:Nat}{z0:Lo}{d:Nat}{ty:TypeId}{pos:String}{af:Array Edge}
  {t t' el : TypeId} {x : Operand} {id off m e : Nat} [ht : SlT P t el] (hx : ev (lk ts) x = some (.own id off m e)) (hN : Nat.blt d N = true)
  (kk : ∀ b : Bool,(b = true → m = 0) → RW P N all Q .txt rest ⟨(d,.v (.bool b)) :: ts,hs,n,z0⟩) : RW P N all Q .txt (⟨some d,.binOp .eql t x (.const (.slice none 0 0)) t',ty,pos,af,none⟩ :: rest) ⟨ts,hs,n,z0⟩ := by
 rintro C a w hCN ⟨h0,ι,g,gh⟩
 refine wpList_plain rfl (fun K hK => ?_)
 have h1 := a7 g hx
 simp only [Rd] at h1
 obtain ⟨a', m', c, h2, hb⟩ : ∃ a' m' c, a.eval x = .slice a' m' c ∧ (a'.isNone = true → m = 0) := by
  rcases h1 with ⟨_,rfl,a',h2⟩ | ⟨b,β,c,_,h2,_⟩
  ·exact ⟨a',0,0,h2,fun _ => rfl⟩
  ·exact ⟨_,m,c,h2,fun h => by cases h⟩
 have hu := gA ht.pf
 have hg : (eqGuard .eql t x (.const (.slice none 0 0)) (.slice a' m' c) (.slice none 0 0)).run P w = .ok () w := by simp [eqGuard]
 have hr : (execOp a.eval ⟨some d, .binOp .eql t x (.const (.slice none 0 0)) t', ty, pos, af, none⟩).run P w = .ok (.value (.bool a'.isNone)) w := by
  have e2 : a.eval (.const (.slice none 0 0)) = .slice none 0 0 := rfl
  simp only [execOp,h2,e2,Sem.run_bind,hg,Result.andThen_ok,pV w t el hu,Sem.run_pure]
 simp only [Oper.wp,hr,Oper.upon]
 refine hK _ _ (kk a'.isNone hb C _ _ hCN ⟨h0,ι,?_,gh⟩)
 show TG C ι (lk ((d,AV.v (.bool a'.isNone)) :: ts)) _ _ _
 rw [eF]
 exact g.put (by have := b0 hN;omega) (by simp [Rd])
section
variable {ts : List Int} {pts : List Pnt}
def Nm (ts : List Int) (pts : List Pnt) (a : Nat × Nat × Nat) : Prop := Clo
 (fun a => ∃ j,iG pts j a.1 ∧ bC pts[j]! = a.2.1 ∧ ((pts[j]!.op = 1 ∧ pts[j]!.n = a.2.2) ∨ (pts[j]!.op = 6 ∧ a.2.2 ≤ 9)))
 (fun a b => b.2.2 = a.2.2 ∧ iG pts a.1 b.1 ∧ ((b.2.1 = a.2.1 ∧ bC pts[a.1]! ≠ a.2.1 ∧ bB ts pts[a.1]! a.2.1 ≠ 2) ∨ (bC pts[a.1]! = b.2.1 ∧ pts[a.1]!.op = 3 ∧ pts[a.1]!.y = a.2.1))) a
structure Ns (ts : List Int) (pts : List Pnt) (a : Nat) (s : Mc) : Prop where
 ok : OkS ts.length s
 k : ∀ v,v < ts.length → ts[v]! = 1 → s.slots[v]!.set = true → ∃ k : Nat,s.slots[v]!.num = k ∧ k ≤ 9 ∧ Nm ts pts (a,v,k)
theorem Ns.start:Ns ts pts 0 (mc0 ts.length):=by
 refine ⟨OkS.mc0 _,fun v hv _ h => ?_⟩
 have e : (mc0 ts.length).slots[v]! = qH := by
  show (List.replicate ts.length qH)[v]! = qH
  rw [aY _ _ (by simpa using hv)]; simp
 rw [e] at h;cases h
theorem GO {s:Mc}{n:Nat}(h:OkS n s) (x:Pt):0 ≤ oY s.cells x ∧ oY s.cells x ≤ 9:=by
 unfold oY
 split
 ·by_cases hi : x.cell.toNat < s.cells.length
  ·exact (h.m.c _ (aV _ _ hi)).v
  ·rw [getElem!_neg s.cells _ hi]; exact ⟨Int.le_refl _,by decide⟩
 ·exact ⟨Int.le_refl _,by decide⟩
theorem Ns.step (w:WG ts pts) (A:WA ts pts) (hp:∀ a:Nat,PtN pts[a]!) (a:Nat) (s:Mc) (k:Nat) (ha:a < pts.length) (h11:pts[a]!.op ≠ 11) (he:iG pts a k) (h:Ns ts pts a s) (hu:bL ts s pts[a]! = false) (hgo:(dD ts s pts[a]!).2 = -1):Ns ts pts k (dD ts s pts[a]!).1:=by
 obtain ⟨y,hy,hs⟩ := w.doS A ha h.ok.l hu h11 hgo
 have hl := h.ok.l
 have P := A.a a ha
 refine ⟨h.ok.do (hp a),fun v hv ht hset => ?_⟩
 have hsv := hs v hv
 by_cases h1 : bC pts[a]! = (v : Int)
 ·have hop : (pts[a]!.op = 1 ∨ pts[a]!.op = 2 ∨ pts[a]!.op = 3 ∨ pts[a]!.op = 4 ∨ pts[a]!.op = 5 ∨ pts[a]!.op = 6) ∧ pts[a]!.x = v := by
   unfold bC at h1;split at h1
   ·constructor
    ·omega
    ·exact h1
   ·omega
  obtain ⟨hop,hx⟩ := hop
  have hxn : pts[a]!.x.toNat = v := by omega
  have hput : ∀ (s2 : Mc) (z : Sl), s2.slots.length = ts.length → (bO ts s2 pts[a]!.x.toNat z).1.slots[v]! = z := fun s2 z hl2 => by
   rw [fB,hxn,c7,if_pos ⟨rfl,by rw [hl2]; exact hv⟩]
  rcases hop with h2|h2|h2|h2|h2|h2
  ·have e : (dD ts s pts[a]!).1.slots[v]! = ⟨true, pts[a]!.n, ⟨0, 0⟩⟩ := by
    unfold dD;rw [if_pos h2]; exact hput _ _ hl
   have hn := P.n (.inl h2)
   rw [e]
   exact ⟨pts[a]!.n.toNat,by show pts[a]!.n = ((pts[a]!.n.toNat : Nat) : Int);omega,by omega,.base ⟨a,he,h1,.inl ⟨h2,by show pts[a]!.n = ((pts[a]!.n.toNat : Nat) : Int);omega⟩⟩⟩
  ·have := P.t2 (.inl h2);rw [hxn,ht] at this;omega
  ·have hty := P.t3 h2
   have hyb := (w.y a ha).2 (by omega) (by omega)
   have hy0 := (w.y a ha).1
   have e : (dD ts s pts[a]!).1.slots[v]! = s.slots[pts[a]!.y.toNat]! := by
    unfold dD;rw [if_neg (by omega),if_neg (by omega),if_pos h2]
    refine hput _ _ ?_
    split
    ·show (s.slots.set _ _).length = _; rw [List.length_set]; exact hl
    ·exact hl
   rw [e] at hset ⊢
   have hyt : ts[pts[a]!.y.toNat]! = 1 := by rw [← hty.1,hxn]; exact ht
   obtain ⟨c,e1,e2,e3⟩ := h.k pts[a]!.y.toNat (by omega) hyt hset
   exact ⟨c,e1,e2,.step (a := (a,pts[a]!.y.toNat,c)) e3 ⟨rfl,he,.inr ⟨h1,h2,by show pts[a]!.y = ((pts[a]!.y.toNat : Nat) : Int);omega⟩⟩⟩
  ·have := (P.t4 h2).1;rw [hxn,ht] at this;omega
  ·have := (P.t5 h2).1;rw [hxn,ht] at this;omega
  ·have hb := GO h.ok s.slots[pts[a]!.y.toNat]!.ptr
   have e : (dD ts s pts[a]!).1.slots[v]!.num = oY s.cells s.slots[pts[a]!.y.toNat]!.ptr := by
    have hk : ∀ k,eX k ≠ -1 := fun k => by rcases mS k with h|h <;> rw [h] <;> decide
    unfold dD at hgo ⊢
    rw [if_neg (by omega),if_neg (by omega),if_neg (by omega),if_neg (by omega),if_pos h2] at hgo ⊢
    split at hgo
    ·rename_i q;rw [if_pos q]; exact congrArg Sl.num (hput ⟨s.slots,n3 s.cells s.slots[pts[a]!.y.toNat]!.ptr false,s.read ++ [oY s.cells s.slots[pts[a]!.y.toNat]!.ptr]⟩ _ hl)
    ·exact absurd hgo (hk _)
   rw [e]
   exact ⟨(oY s.cells s.slots[pts[a]!.y.toNat]!.ptr).toNat,by omega,by omega,.base ⟨a,he,h1,.inr ⟨h2,by show (oY s.cells s.slots[pts[a]!.y.toNat]!.ptr).toNat ≤ 9;omega⟩⟩⟩
 ·rw [hsv, if_neg h1] at hset ⊢
  by_cases h2 : bB ts pts[a]! v = 2
  ·rw [if_pos h2] at hset;cases hset
  ·rw [if_neg h2] at hset ⊢
   obtain ⟨c,e1,e2,e3⟩ := h.k v hv ht hset
   exact ⟨c,e1,e2,.step (a := (a,v,c)) e3 ⟨rfl,he,.inl ⟨rfl,h1,h2⟩⟩⟩
theorem CH (w:WG ts pts) (A:WA ts pts) (hp:∀ a:Nat,PtN pts[a]!) (cs:List Int) (n:Nat) (h2:(iF ts pts cs n).2.1 = 0) (v:Nat) (hv:v < ts.length) (ht:ts[v]! = 1) (hset:(iF ts pts cs n).1.slots[v]!.set = true) :
  ∃ k : Nat,(iF ts pts cs n).1.slots[v]!.num = k ∧ k ≤ 9 ∧ Nm ts pts (pts.length - 1,v,k) := by
 have h := ED w A (Ns ts pts) (Ns.step w A hp) n 0 cs (mc0 ts.length) 0 w.p0 Ns.start
 change HW ts pts (Ns ts pts) (iF ts pts cs n) at h
 rcases h with h | ⟨s',h0,hI,⟨h3,_⟩ | ⟨_,h4,h5,h6⟩⟩
 ·rw [h] at h2;cases h2
 ·rw [h3] at h2;cases h2
 ·by_cases q : pts[(iF ts pts cs n).2.2]!.op = 11
  ·have e := (A.e _ h0).1 q
   rw [zT q] at h5
   rw [h5,lR ts _ _ _ v (by omega)] at hset ⊢
   rw [show pts.length - 1 = (iF ts pts cs n).2.2 by omega]
   exact hI.k v hv ht hset
  ·rw [h2] at h6
   rcases GU (ts := ts) (s := s') q with e|e|e|e <;> (rw [e] at h6;cases h6)
end
def Aa (pts : List Pnt) (i : Nat) (f : List Nat) : Nat := if pts[i]!.op = 1 then 2 ^ pts[i]!.n.toNat else if pts[i]!.op = 3 then f[pts[i]!.y.toNat]! else if pts[i]!.op = 6 then 1023 else 0
def sP (ts : List Int) (pts : List Pnt) (i : Nat) (f : List Nat) : List Nat := if bC pts[i]! < 0 then lK (bF (wS ts pts[i]! [2])) f else (lK (bF (wS ts pts[i]! [2])) f).set (bC pts[i]!).toNat (Aa pts i f)
theorem Ec (ts:List Int) (pts:List Pnt) (i:Nat) (f:List Nat):(sP ts pts i f).length = f.length:=by
 unfold sP;split
 ·exact kL _ _
 ·rw [List.length_set,kL]
theorem FC (l:Nat):(1023:Nat).testBit l = decide (l < 10):=by
 rw [show (1023 : Nat) = 2 ^ 10 - 1 from rfl,Nat.testBit_two_pow_sub_one]
theorem fS {ts:List Int}{pts:List Pnt}(w:WG ts pts) (B:WA ts pts){i v l:Nat}{f:List Nat}(hi:i < pts.length) (hv:v < 6) (hf:f.length = 6) :
  (sP ts pts i f)[v]!.testBit l = true ↔ (bC pts[i]! ≠ v ∧ bB ts pts[i]! v ≠ 2 ∧ f[v]!.testBit l = true) ∨
   (bC pts[i]! = v ∧ ((pts[i]!.op = 1 ∧ pts[i]!.n = l) ∨ (pts[i]!.op = 3 ∧ f[pts[i]!.y.toNat]!.testBit l = true) ∨ (pts[i]!.op = 6 ∧ l ≤ 9))) := by
 have hst := w.set i hi
 have htl := w.tl
 have hn := (B.a i hi).n
 have hclr : ∀ q : Nat, (lK (bF (wS ts pts[i]! [2])) f)[q]! = if bB ts pts[i]! q = 2 then 0 else f[q]! := by
  intro q
  rw [y6]
  have : (∃ z ∈ bF (wS ts pts[i]! [2]), z.toNat = q) ↔ bB ts pts[i]! q = 2 := by
   constructor
   ·rintro ⟨z, hz, rfl⟩
    obtain ⟨q,h1,h2,rfl⟩ := eB.1 hz
    rw [fG] at h2
    simpa using (by simpa using h2 : q < ts.length ∧ bB ts pts[i]! (q : Int) = 2).2
   ·intro h
    have := tA w hi (v := q) (by omega)
    exact ⟨(q : Int),eB.2 ⟨q,by omega,by rw [fG,Bool.and_eq_true,decide_eq_true_eq,decide_eq_true_eq]; exact ⟨this,by simp only [List.mem_singleton]; exact h⟩,rfl⟩,rfl⟩
  by_cases h : bB ts pts[i]! q = 2
  ·rw [if_pos (this.2 h),if_pos h]
  ·rw [if_neg (fun q => h (this.1 q)),if_neg h]
 have hval : bC pts[i]! = v → ((Aa pts i f).testBit l = true ↔ ((pts[i]!.op = 1 ∧ pts[i]!.n = l) ∨ (pts[i]!.op = 3 ∧ f[pts[i]!.y.toNat]!.testBit l = true) ∨ (pts[i]!.op = 6 ∧ l ≤ 9))) := fun _ => by
  unfold Aa
  by_cases h1 : pts[i]!.op = 1
  ·have := hn (.inl h1)
   rw [if_pos h1,Nat.testBit_two_pow,decide_eq_true_eq]
   constructor
   ·intro e;exact .inl ⟨h1,by omega⟩
   ·rintro (⟨_,e⟩ | ⟨e,_⟩ | ⟨e,_⟩) <;> omega
  ·rw [if_neg h1]
   by_cases h3 : pts[i]!.op = 3
   ·rw [if_pos h3]
    constructor
    ·intro e;exact .inr (.inl ⟨h3,e⟩)
    ·rintro (⟨e, _⟩ | ⟨_, e⟩ | ⟨e, _⟩)
     ·omega
     ·exact e
     ·omega
   ·rw [if_neg h3]
    by_cases h6 : pts[i]!.op = 6
    ·rw [if_pos h6, FC, decide_eq_true_eq]
     constructor
     ·intro e;exact .inr (.inr ⟨h6,by omega⟩)
     ·rintro (⟨e,_⟩ | ⟨e,_⟩ | ⟨_,e⟩) <;> omega
    ·rw [if_neg h6, Nat.zero_testBit]
     constructor
     ·intro e;cases e
     ·rintro (⟨e,_⟩ | ⟨e,_⟩ | ⟨e,_⟩) <;> omega
 unfold sP
 by_cases h0 : bC pts[i]! < 0
 ·rw [if_pos h0, hclr v]
  by_cases h2 : bB ts pts[i]! v = 2
  ·rw [if_pos h2, Nat.zero_testBit]
   constructor
   ·intro e;cases e
   ·rintro (⟨_, e, _⟩ | ⟨e, _⟩)
    ·exact absurd h2 e
    ·omega
  ·rw [if_neg h2]
   constructor
   ·intro e;exact .inl ⟨by omega,h2,e⟩
   ·rintro (⟨_, _, e⟩ | ⟨e, _⟩)
    ·exact e
    ·omega
 ·rw [if_neg h0]
  by_cases hq : bC pts[i]! = v
  ·rw [show (bC pts[i]!).toNat = v by omega, m9 _ _ _ _ (by rw [kL, hf]; exact hv), if_pos rfl, hval hq]
   constructor
   ·intro e;exact .inr ⟨hq,e⟩
   ·rintro (⟨e, _⟩ | ⟨_, e⟩)
    ·exact absurd hq e
    ·exact e
  ·rw [c7, if_neg (by omega), hclr v]
   by_cases h2 : bB ts pts[i]! v = 2
   ·rw [if_pos h2, Nat.zero_testBit]
    constructor
    ·intro e;cases e
    ·rintro (⟨_, e, _⟩ | ⟨e, _⟩)
     ·exact absurd h2 e
     ·exact absurd e hq
   ·rw [if_neg h2]
    constructor
    ·intro e;exact .inl ⟨hq,h2,e⟩
    ·rintro (⟨_, _, e⟩ | ⟨e, _⟩)
     ·exact e
     ·exact absurd e hq
def HU (ts : List Int) (pts : List Pnt) (i v A : Nat) : Prop := A < 2 ^ 10 ∧ ∀ l,A.testBit l = true → Nm ts pts (i,v,l)
def SU (ts : List Int) (pts : List Pnt) (s : List Nat) : Prop := s.length = pts.length * 6 ∧ ∀ i v,i < pts.length → v < 6 → HU ts pts i v s[i * 6 + v]!
def GoodU (ts : List Int) (pts : List Pnt) (A : List Nat) : Prop := A.length = pts.length * 6 ∧ ∀ i v,i < pts.length → v < 6 → ∀ l,A[i * 6 + v]!.testBit l = true ↔ Nm ts pts (i,v,l)
theorem AQ {ts:List Int}{pts:List Pnt}{A B:List Nat}(h1:GoodU ts pts A) (h2:GoodU ts pts B):A = B:=by
 refine BT h1.1 h2.1 fun q hq v => ?_
 have e : q = q / 6 * 6 + q % 6 := by omega
 have h3 : q / 6 < pts.length := by omega
 have h4 : q % 6 < 6 := by omega
 have a := h1.2 (q / 6) (q % 6) h3 h4 v
 have b := h2.2 (q / 6) (q % 6) h3 h4 v
 rw [← e] at a b
 exact a.trans b.symm
theorem zS {ts:List Int}{pts:List Pnt}(w:WG ts pts) (B:WA ts pts){s:List Nat}(h:SU ts pts s){i k v:Nat}(e:iG pts i k) (hv:v < 6):HU ts pts k v (sP ts pts i (gP s i))[v]!:=by
 have hi := e.1
 have hrl := iI h.1 hi
 have htl := w.tl
 have hn := (B.a i hi).n
 have key : ∀ l, (sP ts pts i (gP s i))[v]!.testBit l = true → l < 10 ∧ Nm ts pts (k, v, l) := by
  intro l hl
  rw [fS w B hi hv hrl] at hl
  rcases hl with ⟨h1,h2,h3⟩ | ⟨h1,⟨h2,h3⟩ | ⟨h2,h3⟩ | ⟨h2,h3⟩⟩
  ·rw [kP h.1 hi hv] at h3
   have hp := h.2 i v hi hv
   exact ⟨jW hp.1 h3,.step (hp.2 l h3) ⟨rfl,e,.inl ⟨rfl,h1,h2⟩⟩⟩
  ·have := hn (.inl h2)
   exact ⟨by omega,.base ⟨i,e,h1,.inl ⟨h2,h3⟩⟩⟩
  ·have hy := w.y i hi
   have hy6 : pts[i]!.y.toNat < 6 := by omega
   rw [kP h.1 hi hy6] at h3
   have hp := h.2 i _ hi hy6
   exact ⟨jW hp.1 h3,.step (hp.2 l h3) ⟨rfl,e,.inr ⟨h1,h2,by show pts[i]!.y = ((pts[i]!.y.toNat : Nat) : Int);omega⟩⟩⟩
  ·exact ⟨by omega,.base ⟨i,e,h1,.inr ⟨h2,h3⟩⟩⟩
 refine ⟨?_,fun l hl => (key l hl).2⟩
 apply Nat.lt_pow_two_of_testBit
 intro l hl
 cases hq : (sP ts pts i (gP s i))[v]!.testBit l with
 | false => rfl
 | true => have := (key l hq).1;omega
def vX (ts : List Int) (pts : List Pnt) (s : List Nat × Bool) (i : Nat) : List Nat × Bool := (De pts i).foldl (pA (sP ts pts i (gP s.1 i))) s
def C4 (ts : List Int) (pts : List Pnt) (s : List Nat × Bool) : List Nat × Bool := (List.range pts.length).foldl (vX ts pts) s
theorem vP {ts:List Int}{pts:List Pnt}{a:List Nat}{k:Nat}(hk:k < pts.length) (ha:∀ v,v < 6 → HU ts pts k v a[v]!) (s:List Nat) (b:Bool) (v:Nat) (hv:v < 6) (h:SU ts pts s) :
  SU ts pts (lQ a k (s,b) v).1 ∧ ((lQ a k (s,b) v = (s,b) ∧ xI s[k * 6 + v]! a[v]! = s[k * 6 + v]!) ∨ ((lQ a k (s,b) v).2 = true ∧ jS ((lQ a k (s,b) v).1.map (fun x => 2 ^ 10 - x)) < jS (s.map (fun x => 2 ^ 10 - x)))) := by
 unfold lQ Az
 dsimp only
 have hq : k * 6 + v < s.length := by rw [h.1]; omega
 have hp := h.2 k v hk hv
 by_cases hc : xI s[k * 6 + v]! a[v]! ≠ s[k * 6 + v]!
 ·rw [if_pos hc]
  have hb := CY hp.1 (ha v hv).1
  refine ⟨⟨by simp [h.1],fun i u hi hu => ?_⟩,.inr ⟨rfl,?_⟩⟩
  ·dsimp only
   rw [m9 _ _ _ _ hq]
   split
   ·rename_i e
    obtain rfl : i = k := by omega
    obtain rfl : u = v := by omega
    refine ⟨hb,fun l hl => ?_⟩
    rw [Nat.testBit_or,Bool.or_eq_true] at hl
    rcases hl with hl|hl
    ·exact hp.2 l hl
    ·exact (ha _ hv).2 l hl
   ·exact h.2 i u hi hu
  ·have h1 := uS (fun x => 2 ^ 10 - x) s (k * 6 + v) (xI s[k * 6 + v]! a[v]!) hq
   have h2 := tT hc
   dsimp only at h1 ⊢
   have h3 : xI s[k * 6 + v]! a[v]! < 2 ^ 10 := hb
   have h4 : s[k * 6 + v]! < xI s[k * 6 + v]! a[v]! := h2
   omega
 ·rw [if_neg hc]
  exact ⟨h,.inl ⟨rfl,Classical.not_not.1 hc⟩⟩
theorem Dx {ts:List Int}{pts:List Pnt}{a:List Nat}{k:Nat}(hk:k < pts.length) (ha:∀ v,v < 6 → HU ts pts k v a[v]!) (s:List Nat) (b:Bool) (h:SU ts pts s) :
  SU ts pts (pA a (s,b) k).1 ∧ ((pA a (s,b) k = (s,b) ∧ ∀ v,v < 6 → xI s[k * 6 + v]! a[v]! = s[k * 6 + v]!) ∨ ((pA a (s,b) k).2 = true ∧ jS ((pA a (s,b) k).1.map (fun x => 2 ^ 10 - x)) < jS (s.map (fun x => 2 ^ 10 - x)))) := by
 have := kX (lQ a k) (fun v s => xI s[k * 6 + v]! a[v]! = s[k * 6 + v]!) (fun s => jS (s.map (fun x => 2 ^ 10 - x))) (SU ts pts) (List.range 6)
  (fun s' b' v hv hs => vP hk ha s' b' v (List.mem_range.1 hv) hs) s b h
 refine ⟨this.1,?_⟩
 rcases this.2 with ⟨e1,e2⟩|h2
 ·exact .inl ⟨e1,fun v hv => e2 v (List.mem_range.2 hv)⟩
 ·exact .inr h2
theorem DE {ts:List Int}{pts:List Pnt}(w:WG ts pts) (B:WA ts pts) (s:List Nat) (b:Bool) (i:Nat) (hi:i < pts.length) (h:SU ts pts s) :
  SU ts pts (vX ts pts (s, b) i).1 ∧ ((vX ts pts (s, b) i = (s, b) ∧ ∀ k, iG pts i k → ∀ v, v < 6 → xI s[k * 6 + v]! (sP ts pts i (gP s i))[v]! = s[k * 6 + v]!) ∨
   ((vX ts pts (s,b) i).2 = true ∧ jS ((vX ts pts (s,b) i).1.map (fun x => 2 ^ 10 - x)) < jS (s.map (fun x => 2 ^ 10 - x)))) := by
 have := kX (pA (sP ts pts i (gP s i))) (fun k s' => ∀ v, v < 6 → xI s'[k * 6 + v]! (sP ts pts i (gP s i))[v]! = s'[k * 6 + v]!) (fun s => jS (s.map (fun x => 2 ^ 10 - x))) (SU ts pts) (De pts i)
  (fun s' b' k hk hs => by
   have e := (zC w hi).1 hk
   exact Dx (mI w e) (fun v hv => zS w B h e hv) s' b' hs) s b h
 refine ⟨this.1,?_⟩
 rcases this.2 with ⟨e1,e2⟩|h2
 ·exact .inl ⟨e1,fun k e => e2 k ((zC w hi).2 e)⟩
 ·exact .inr h2
def rT (ts : List Int) (pts : List Pnt) (s : List Nat) : Prop := ∀ i k,iG pts i k → ∀ v,v < 6 → xI s[k * 6 + v]! (sP ts pts i (gP s i))[v]! = s[k * 6 + v]!
theorem Da {ts:List Int}{pts:List Pnt}(w:WG ts pts) (B:WA ts pts) (s:List Nat) (b:Bool) (h:SU ts pts s) :
  SU ts pts (C4 ts pts (s,b)).1 ∧ ((C4 ts pts (s,b) = (s,b) ∧ rT ts pts s) ∨ ((C4 ts pts (s,b)).2 = true ∧ jS ((C4 ts pts (s,b)).1.map (fun x => 2 ^ 10 - x)) < jS (s.map (fun x => 2 ^ 10 - x)))) := by
 have := kX (vX ts pts) (fun i s => ∀ k, iG pts i k → ∀ v, v < 6 → xI s[k * 6 + v]! (sP ts pts i (gP s i))[v]! = s[k * 6 + v]!) (fun s => jS (s.map (fun x => 2 ^ 10 - x))) (SU ts pts) (List.range pts.length)
  (fun s' b' i hi hs => DE w B s' b' i (List.mem_range.1 hi) hs) s b h
 refine ⟨this.1,?_⟩
 rcases this.2 with ⟨e1,e2⟩|h2
 ·exact .inl ⟨e1,fun i k e => e2 i (List.mem_range.2 e.1) k e⟩
 ·exact .inr h2
theorem Dm {ts:List Int}{pts:List Pnt}(w:WG ts pts) (B:WA ts pts){A:List Nat}(h:SU ts pts A) (hc:rT ts pts A):GoodU ts pts A:=by
 refine ⟨h.1,fun i v hi hv l => ⟨fun hl => (h.2 i v hi hv).2 l hl,fun hm => ?_⟩⟩
 have htl := w.tl
 have key : ∀ a : Nat × Nat × Nat, Nm ts pts a → A[a.1 * 6 + a.2.1]!.testBit a.2.2 = true ∧ a.2.1 < ts.length := by
  refine Clo.sub (T := fun a : Nat × Nat × Nat => A[a.1 * 6 + a.2.1]!.testBit a.2.2 = true ∧ a.2.1 < ts.length) ?_ ?_
  ·rintro ⟨k, v, l⟩ ⟨j, e, hs, hl⟩
   dsimp only at e hl hs ⊢
   have h1 := (w.set _ e.1).1
   have hv : v < 6 := by omega
   refine ⟨lF.1 (hc j k e v hv) l ?_,by omega⟩
   rw [fS w B e.1 hv (iI h.1 e.1)]
   rcases hl with hl|hl
   ·exact .inr ⟨hs,.inl hl⟩
   ·exact .inr ⟨hs,.inr (.inr hl)⟩
  ·rintro ⟨i, v, l⟩ ⟨k, v', l'⟩ ⟨ht, hv⟩ ⟨rfl, e, hd⟩
   dsimp only at ht hv e hd ⊢
   have h1 := (w.set _ e.1).1
   rcases hd with ⟨rfl,g1,g3⟩ | ⟨g1,g2,g3⟩
   ·refine ⟨lF.1 (hc i k e v' (by omega)) l' ?_, hv⟩
    rw [fS w B e.1 (by omega) (iI h.1 e.1),kP h.1 e.1 (by omega)]
    exact .inl ⟨g1,g3,ht⟩
   ·refine ⟨lF.1 (hc i k e v' (by omega)) l' ?_, by omega⟩
    rw [fS w B e.1 (by omega) (iI h.1 e.1)]
    have : pts[i]!.y.toNat = v := by omega
    rw [this,kP (v := v) h.1 e.1 (by omega)]
    exact .inr ⟨g1,.inr (.inl ⟨g2,ht⟩)⟩
 exact (key (i,v,l) hm).1
theorem Gp {ts:List Int}{pts:List Pnt}:SU ts pts (List.replicate (pts.length * 6) 0):=by
 refine ⟨by simp,fun i v hi hv => ?_⟩
 rw [aY _ _ (by simp;omega),List.getElem_replicate]
 exact ⟨Nat.pow_pos (by decide),fun l h => by simp at h⟩
theorem FT {ts:List Int}{pts:List Pnt}(w:WG ts pts){s:List Nat}(h:SU ts pts s) (q:Nat):Sm s[q]!:=by
 have hpl := w.pl
 by_cases hq : q < s.length
 ·have e : q = q / 6 * 6 + q % 6 := by omega
  have := h.1
  have := (h.2 (q / 6) (q % 6) (by omega) (by omega)).1
  rw [← e] at this
  exact ⟨Nat.lt_of_lt_of_le this (Nat.pow_le_pow_right (by decide) (by omega))⟩
 ·rw [getElem!_neg s q hq]; exact ⟨by decide⟩
end Go.AL
namespace Go.AL
open Go.RowKit
attribute [local irreducible] aU
def IL (P : Program) (k : FuncId) (args : List AV) (R0 R1 : List (List Bool)) (r : AV) : Prop :=
 sB P k args (aN (dY R0)) (Fn 0 ⟨0,aU + R0.length⟩) (fun r' H' => r' = r ∧ ∀ id cs,aN (dY R1) id = some cs → H' id = some cs)
theorem CO {P:Program}{k:FuncId}{fn:Func}{c:Code}{args:List AV}{R0 R1:List (List Bool)}{r:AV}(hf:P.funcs[k]? = some fn) (hb:fn.body = some c) (hN:args.length ≤ fn.ntmps)
  (h : AW P fn.ntmps c (kY P fn.results (fun r' H' => r' = r ∧ ∀ id cs,aN (dY R1) id = some cs → H' id = some cs)) ⟨fF 0 args,dY R0,0,⟨0,aU + R0.length⟩⟩) : IL P k args R0 R1 r := kM hf hb hN h
section
variable {P : Program} {N : Nat} {Q : Exit → AS → Prop} {all : Array Oper} {rest : List Oper} {ts : List (Nat × AV)} {hs : List (Nat × Option (List AV))} {n : Nat} {z0 : Lo}
variable {d : Nat} {ty : TypeId} {pos : String} {af : Array Edge}
theorem AF {k:FuncId}{args:Array Operand}{tys:Array TypeId}{avs avs0:List AV}{R R' R0 R1:List (List Bool)}{r:AV}{hs':List (Nat × Option (List AV))}(b:Nat) [hc:CaT P k]
  (ha : evL (lk ts) args.toList = some avs) (h : IL P k avs0 R0 R1 r) (hF : FamR R R' hs hs') (hb : b + R0.length ≤ R.length) (hl1 : R1.length = R0.length) (hl' : R'.length = R.length) (hR : ∀ k,k < R0.length → R0[k]! = R[b + k]!)
  (hR1 : ∀ k,k < R0.length → R'[b + k]! = R1[k]!) (hR2 : ∀ q,q < R.length → ¬ (b ≤ q ∧ q < b + R0.length) → R'[q]! = R[q]!) (har : RnL (A7 b R0.length) avs0 avs) (hp : r.pur = true) (hN : Nat.blt d N = true)
  (kk : RW P N all Q .txt rest ⟨(d,r) :: ts,hs',n,z0⟩) : RW P N all Q .txt (⟨some d,.call ⟨.value (.func k),args,tys⟩,ty,pos,af,none⟩ :: rest) ⟨ts,hs,n,z0⟩ := by
 rintro C a w hCN ⟨h0,ι,g,gh⟩
 refine wpList_plain rfl (fun K hK => ?_)
 simp only [Oper.wp,dI hc.pf,Oper.upon]
 have hmp : ∀ j i, A7 b R0.length j = some i → ∃ q, q < R0.length ∧ j = q + aU ∧ i = b + q + aU := by
  intro j i hj
  unfold A7 at hj
  split at hj
  ·cases hj;exact ⟨j - aU,by omega,by omega,by omega⟩
  ·cases hj
 refine (vO (mpF := A7 b R0.length) (fr := fun _ => none) (fi := fun _ => none) (hh := aN (dY R1)) (H2 := aN hs') (rr' := r) h (fun j j' i h1 h2 => ?_) (fun i j => ⟨fun h => (by cases h),fun h => (by cases h)⟩) (fun j i h1 => (by cases h1)) (fun j hj => ?_) gh (fun j i hj => ?_) (fun j cs hj => ?_) har (fun j i hj => (by cases hj)) (.pur hp) (fun i cs' hi => ?_) (eR g ha)).mono ?_
 ·obtain ⟨q, _, _, _⟩ := hmp j i h1
  obtain ⟨q',_,_,_⟩ := hmp j' i h2
  omega
 ·have h1 : j < aU ∨ aU + R0.length ≤ j := hj.2
  unfold A7;rw [if_neg (by omega)]
 ·obtain ⟨q, q1, rfl, rfl⟩ := hmp j i hj
  refine ⟨flat cB R0[q]!,flat cB R[b + q]!,?_,hF.get (by omega),?_⟩
  ·rw [jN,if_pos q1]
  ·rw [hR q q1]; exact .pur (inferInstance : Pur (flat cB R[b + q]!)).pf
 ·obtain ⟨q, q1, rfl, rfl⟩ := gN hj
  exact ⟨_,iA q1⟩
 ·rcases Nat.lt_or_ge i aU with hi2 | hi2
  ·refine .inr ⟨by rw [hF.low i hi2]; exact hi, fun j hj => ?_⟩
   obtain ⟨q,q1,_,q2⟩ := hmp j i hj
   omega
  ·obtain ⟨q, rfl⟩ : ∃ q, i = q + aU := ⟨i - aU, by omega⟩
   have hg := hF.symm.fam q
   rw [hi] at hg
   split at hg
   ·rename_i hq
    rw [hl'] at hq
    cases hg
    by_cases hq2 : b ≤ q ∧ q < b + R0.length
    ·obtain ⟨u, rfl⟩ : ∃ u, q = b + u := ⟨q - b, by omega⟩
     have hu : u < R0.length := by omega
     refine .inl ⟨u + aU,flat cB R1[u]!,qB (iA hu),?_,?_⟩
     ·rw [jN,if_pos (by omega)]
     ·rw [hR1 u hu]; exact .pur (inferInstance : Pur (flat cB R1[u]!)).pf
    ·refine .inr ⟨by rw [hF.get hq, hR2 q hq hq2], fun j hj => hq2 ?_⟩
     obtain ⟨u,q1,_,q2⟩ := hmp j _ hj
     omega
   ·cases hg
 ·rintro e w' ⟨v, ι', rfl, g', c', hrd⟩
  refine hK _ _ (kk C _ _ hCN ⟨h0,ι',?_,?_⟩)
  ·show TG C ι' (lk ((d, r) :: ts)) _ _ _
   rw [eF]
   exact (g.carry c').put (hCN.symm ▸ b0 hN) hrd
  ·exact (g'.less (fun _ _ h => h) (fun j hj => ⟨hj,rfl⟩)).1
end
theorem DK {m:List (Nat × Nat)}{l0 k K b p w:Nat}(h0:l0 ≤ aU) (hK:K = p + k):RnL (gJ m ⟨l0,aU + K⟩ (some b)) (flat (oS p w) (List.range (k + 1))) (((flat (oS p w) (List.range k)).drop 0).take (k * 1) ++ [.own b 0 w 1]):=by
 rw [hK]
 have e : ((flat (oS p w) (List.range k)).drop 0).take (k * 1) = flat (oS p w) (List.range k) := List.take_of_length_le (by rw [List.drop_zero,aI (oS p w) (e := 1)]; simp)
 rw [e,List.range_succ,← bI,iO]
 refine (eJ (by show aU + (p + k) ≤ aU + (p + k);omega)).app (.cons (.own ?_) .nil)
 unfold gJ
 rw [if_neg (by show ¬ p + k + aU < l0;omega),if_pos (by omega),if_neg (by show ¬ p + k + aU < aU + (p + k);omega),if_pos (by show p + k + aU = aU + (p + k);omega)]
def Bu (pts : List Pnt) (i : Nat) (B : List (List Bool)) : List Bool := (List.range 10).map fun (l : Nat) => if pts[i]!.op = 1 then decide (pts[i]!.n = (l : Int)) else if pts[i]!.op = 3 then B[pts[i]!.y.toNat]![l]! else decide (pts[i]!.op = 6)
def oZ (ts : List Int) (pts : List Pnt) (i : Nat) (B : List (List Bool)) : List (List Bool) :=
 (List.range ts.length).map fun (v : Nat) => if bC pts[i]! = (v : Int) then Bu pts i B else if bB ts pts[i]! v = 2 then List.replicate 10 false else B[v]!
theorem gW (pts:List Pnt) (i:Nat) (B:List (List Bool)):(Bu pts i B).length = 10 := by simp [Bu]
theorem hU (pts:List Pnt) (i:Nat) (B:List (List Bool)) (l:Nat) (h:l < 10):(Bu pts i B)[l]! = if pts[i]!.op = 1 then decide (pts[i]!.n = (l:Int)) else if pts[i]!.op = 3 then B[pts[i]!.y.toNat]![l]! else decide (pts[i]!.op = 6) := bT _ _ _ h
theorem k9 (ts:List Int) (pts:List Pnt) (i:Nat) (B:List (List Bool)):(oZ ts pts i B).length = ts.length := by simp [oZ]
theorem jD (ts:List Int) (pts:List Pnt) (i:Nat) (B:List (List Bool)) (v:Nat) (h:v < ts.length):(oZ ts pts i B)[v]! = if bC pts[i]! = (v:Int) then Bu pts i B else if bB ts pts[i]! v = 2 then List.replicate 10 false else B[v]! := bT _ _ _ h
def HC (A B : List (List Bool)) : List (List Bool) := (List.range B.length).map fun (v : Nat) => iN B[v]! A[v]!
def D0 (A B : List (List Bool)) : Bool := (List.range B.length).any fun v => (List.range 10).any fun l => A[v]![l]! && !B[v]![l]!
theorem yE (A B:List (List Bool)):(HC A B).length = B.length := by simp [HC]
theorem y0 (A B:List (List Bool)) (v:Nat) (h:v < B.length):(HC A B)[v]! = iN B[v]! A[v]! := bT _ _ _ h
theorem sK {A B:List (List Bool)}:D0 A B = true ↔ ∃ v l,v < B.length ∧ l < 10 ∧ A[v]![l]! = true ∧ B[v]![l]! = false:=by
 unfold D0
 simp only [List.any_eq_true,List.mem_range,Bool.and_eq_true,Bool.not_eq_true']
 constructor
 ·rintro ⟨v,h1,l,h2,h3,h4⟩; exact ⟨v,l,h1,h2,h3,h4⟩
 ·rintro ⟨v,l,h1,h2,h3,h4⟩; exact ⟨v,h1,l,h2,h3,h4⟩
structure MgS (A B R : List (List Bool)) (c : Bool) (v l : Nat) : Prop where
 lo : R.length = B.length
 ro : ∀ q,q < B.length → R[q]!.length = 10
 g : ∀ q k,q < B.length → k < 10 → R[q]![k]! = (B[q]![k]! || (decide (q < v ∨ (q = v ∧ k < l)) && A[q]![k]!))
 c : c = true ↔ ∃ q k,q < B.length ∧ k < 10 ∧ (q < v ∨ (q = v ∧ k < l)) ∧ A[q]![k]! = true ∧ B[q]![k]! = false
theorem MgS.start {A B:List (List Bool)}(h:∀ q,q < B.length → B[q]!.length = 10):MgS A B B false 0 0 :=
 ⟨rfl,h,fun q k hq hk => by rw [decide_eq_false (by omega)]; simp,⟨fun h => (by cases h),fun ⟨q,k,_,_,h,_⟩ => (by omega)⟩⟩
theorem MgS.hit {A B R:List (List Bool)}{c:Bool}{v l:Nat}(h:MgS A B R c v l) (hv:v < B.length) (hl:l < 10) (ha:A[v]![l]! = true) (hr:R[v]![l]! = false):MgS A B (R.set v (R[v]!.set l true)) true v (l + 1):=by
 have hlo := h.lo
 have hro := h.ro v hv
 refine ⟨by rw [List.length_set]; exact hlo,fun q hq => ?_,fun q k hq hk => ?_,⟨fun _ => ⟨v,l,hv,hl,.inr ⟨rfl,by omega⟩,ha,?_⟩,fun _ => rfl⟩⟩
 ·rw [c7]; split
  ·rw [List.length_set]; exact hro
  ·exact h.ro q hq
 ·rw [c7]
  by_cases e : v = q ∧ q < R.length
  ·rw [if_pos e, c7]
   obtain ⟨rfl,_⟩ := e
   by_cases e2 : l = k ∧ k < R[v]!.length
   ·rw [if_pos e2]
    obtain ⟨rfl,_⟩ := e2
    rw [ha,decide_eq_true (by omega)]; simp
   ·rw [if_neg e2, h.g v k hq hk]
    have : decide (v < v ∨ (v = v ∧ k < l)) = decide (v < v ∨ (v = v ∧ k < l + 1)) := decide_eq_decide.2 (by omega)
    rw [this]
  ·rw [if_neg e, h.g q k hq hk]
   have : decide (q < v ∨ (q = v ∧ k < l)) = decide (q < v ∨ (q = v ∧ k < l + 1)) := decide_eq_decide.2 (by omega)
   rw [this]
 ·have := h.g v l hv hl
  rw [hr] at this
  have := this.symm
  rw [Bool.or_eq_false_iff] at this
  exact this.1
theorem MgS.skip {A B R:List (List Bool)}{c:Bool}{v l:Nat}(h:MgS A B R c v l) (hv:v < B.length) (hl:l < 10) (ha:A[v]![l]! = true → R[v]![l]! = true):MgS A B R c v (l + 1):=by
 have hg := h.g v l hv hl
 rw [decide_eq_false (by omega),Bool.false_and,Bool.or_false] at hg
 refine ⟨h.lo,h.ro,fun q k hq hk => ?_,⟨fun hc => ?_,fun ⟨q,k,h1,h2,h3,h4,h5⟩ => h.c.2 ⟨q,k,h1,h2,?_,h4,h5⟩⟩⟩
 ·rw [h.g q k hq hk]
  by_cases e : q = v ∧ k = l
  ·obtain ⟨rfl, rfl⟩ := e
   rw [decide_eq_false (by omega),decide_eq_true (by omega),Bool.false_and,Bool.or_false,Bool.true_and]
   cases hA : A[q]![k]! with
   | false => simp
   | true => rw [← hg,ha hA]; rfl
  ·have : decide (q < v ∨ (q = v ∧ k < l)) = decide (q < v ∨ (q = v ∧ k < l + 1)) := decide_eq_decide.2 (by omega)
   rw [this]
 ·obtain ⟨q, k, h1, h2, h3, h4⟩ := h.c.1 hc
  exact ⟨q,k,h1,h2,by omega,h4⟩
 ·by_cases e : q = v ∧ k = l
  ·obtain ⟨rfl, rfl⟩ := e
   rw [ha h4] at hg;rw [h5] at hg;cases hg
  ·omega
theorem MgS.row {A B R:List (List Bool)}{c:Bool}{v l:Nat}(h:MgS A B R c v l) (hl:10 ≤ l):MgS A B R c (v + 1) 0:=by
 refine ⟨h.lo,h.ro,fun q k hq hk => ?_,?_⟩
 ·rw [h.g q k hq hk]
  have : decide (q < v ∨ (q = v ∧ k < l)) = decide (q < v + 1 ∨ (q = v + 1 ∧ k < 0)) := decide_eq_decide.2 (by omega)
  rw [this]
 ·rw [h.c]
  constructor
  ·rintro ⟨q,k,h1,h2,h3,h4⟩; exact ⟨q,k,h1,h2,by omega,h4⟩
  ·rintro ⟨q,k,h1,h2,h3,h4⟩; exact ⟨q,k,h1,h2,by omega,h4⟩
theorem MgS.fin {A B R:List (List Bool)}{c:Bool}{v l:Nat}(h:MgS A B R c v l) (hA:∀ q,q < B.length → A[q]!.length = 10) (hB:∀ q,q < B.length → B[q]!.length = 10) (hv:B.length ≤ v):R = HC A B ∧ c = D0 A B:=by
 constructor
 ·refine cY (by rw [yE]; exact h.lo) fun q hq => ?_
  rw [h.lo] at hq
  have h1 := h.ro q hq
  have h2 := hB q hq
  have h3 := hA q hq
  rw [y0 _ _ _ hq]
  refine cY (by rw [fM]; omega) fun k hk => ?_
  rw [h1] at hk
  rw [h.g q k hq hk,fJ _ _ _ (by omega),decide_eq_true (by omega),decide_eq_true (by omega)]
 ·rw [Bool.eq_iff_iff, h.c, sK]
  constructor
  ·rintro ⟨q,k,h1,h2,h3,h4⟩; exact ⟨q,k,h1,h2,h4⟩
  ·rintro ⟨q,k,h1,h2,h4⟩; exact ⟨q,k,h1,h2,by omega,h4⟩
def jQ (nv : Nat) (R : List (List Bool)) (n : Nat) : List (List Bool) := (R.drop (n * nv)).take nv
theorem HD {nv N n v:Nat}(hn:n < N) (hv:v < nv):n * nv + v < N * nv:=by
 have h1 : (n + 1) * nv ≤ N * nv := Nat.mul_le_mul_right _ hn
 rw [Nat.add_mul,Nat.one_mul] at h1
 omega
theorem lU {nv N n:Nat}(hn:n < N):n * nv + nv ≤ N * nv:=by
 have h1 : (n + 1) * nv ≤ N * nv := Nat.mul_le_mul_right _ hn
 rwa [Nat.add_mul,Nat.one_mul] at h1
theorem Fu {nv n m v u:Nat}(hv:v < nv) (hu:u < nv) (h:n * nv + v = m * nv + u):n = m ∧ v = u:=by
 rcases Nat.lt_trichotomy n m with h3|h3|h3
 ·have : (n + 1) * nv ≤ m * nv := Nat.mul_le_mul_right _ h3
  rw [Nat.add_mul,Nat.one_mul] at this;omega
 ·subst h3;omega
 ·have : (m + 1) * nv ≤ n * nv := Nat.mul_le_mul_right _ h3
  rw [Nat.add_mul,Nat.one_mul] at this;omega
theorem dF {nv N n v:Nat}{R:List (List Bool)}(hl:R.length = N * nv) (hn:n < N) (hv:v < nv):(jQ nv R n)[v]! = R[n * nv + v]!:=by
 have h1 := lU (nv := nv) hn
 unfold jQ
 rw [aY _ _ (by rw [List.length_take,List.length_drop]; omega),aY _ _ (by omega),List.getElem_take,List.getElem_drop]
theorem dL {nv N n:Nat}{R:List (List Bool)}(hl:R.length = N * nv) (hn:n < N):(jQ nv R n).length = nv:=by
 have h1 := lU (nv := nv) hn
 unfold jQ
 rw [List.length_take,List.length_drop]; omega
structure FUd (ts : List Int) (pts : List Pnt) (R : List (List Bool)) : Prop where
 lo : R.length = pts.length * ts.length
 ro : ∀ q,q < R.length → R[q]!.length = 10
 f : ∀ n v l,n < pts.length → v < ts.length → R[n * ts.length + v]![l]! = true → Nm ts pts (n,v,l)
theorem FUd.row {ts:List Int}{pts:List Pnt}{R:List (List Bool)}(h:FUd ts pts R){n v:Nat}(hn:n < pts.length) (hv:v < ts.length):(jQ ts.length R n)[v]!.length = 10:=by
 rw [dF h.lo hn hv]; exact h.ro _ (by rw [h.lo]; exact HD hn hv)
theorem mV {ts:List Int}{pts:List Pnt}{R:List (List Bool)}(h:FUd ts pts R){i v:Nat}(hi:i < pts.length) (hv:v < ts.length):(oZ ts pts i (jQ ts.length R i))[v]!.length = 10:=by
 rw [jD _ _ _ _ _ hv]
 split
 ·exact gW _ _ _
 ·split
  ·simp
  ·exact h.row hi hv
theorem FUd.aft {ts:List Int}{pts:List Pnt}(w:WG ts pts) (B:WA ts pts){R:List (List Bool)}(h:FUd ts pts R){i n:Nat}(e:iG pts i n) :
  ∀ v l,v < ts.length → (oZ ts pts i (jQ ts.length R i))[v]![l]! = true → Nm ts pts (n,v,l) := by
 intro v l hv hr
 have hi := e.1
 have hfr : ∀ v l, v < ts.length → (jQ ts.length R i)[v]![l]! = true → Nm ts pts (i, v, l) := fun v l hv hr => by
  rw [dF h.lo hi hv] at hr;exact h.f i v l hi hv hr
 have hlt := wR hr
 rw [mV h hi hv] at hlt
 rw [jD _ _ _ _ _ hv] at hr
 have hn := (B.a i hi).n
 split at hr
 ·rename_i hs
  rw [hU _ _ _ _ hlt] at hr
  split at hr
  ·rename_i h1
   exact .base ⟨i,e,hs,.inl ⟨h1,by simpa using hr⟩⟩
  ·split at hr
   ·rename_i h3
    have hy := w.y i hi
    have hyv : pts[i]!.y.toNat < ts.length := by omega
    exact .step (hfr _ l hyv hr) ⟨rfl,e,.inr ⟨hs,h3,by show pts[i]!.y = ((pts[i]!.y.toNat : Nat) : Int);omega⟩⟩
   ·exact .base ⟨i,e,hs,.inr ⟨by simpa using hr,by show l ≤ 9;omega⟩⟩
 ·rename_i hs
  split at hr
  ·rw [g6 _ _ _ hlt] at hr;cases hr
  ·rename_i h2
   exact .step (hfr v l hv hr) ⟨rfl,e,.inl ⟨rfl,hs,h2⟩⟩
def Bt (nv : Nat) (R : List (List Bool)) (n : Nat) (A : List (List Bool)) : List (List Bool) := (List.range R.length).map fun (q : Nat) => if n * nv ≤ q ∧ q < n * nv + nv then iN R[q]! A[q - n * nv]! else R[q]!
theorem jG (nv:Nat) (R:List (List Bool)) (n:Nat) (A:List (List Bool)):(Bt nv R n A).length = R.length := by simp [Bt]
theorem g8 (nv:Nat) (R:List (List Bool)) (n:Nat) (A:List (List Bool)) (q:Nat) (h:q < R.length):(Bt nv R n A)[q]! = if n * nv ≤ q ∧ q < n * nv + nv then iN R[q]! A[q - n * nv]! else R[q]! := bT _ _ _ h
theorem F6 {nv N n v:Nat}{R A:List (List Bool)}(hl:R.length = N * nv) (hn:n < N) (hv:v < nv):(Bt nv R n A)[n * nv + v]! = (HC A (jQ nv R n))[v]!:=by
 have h1 := HD hn hv
 rw [g8 _ _ _ _ _ (by omega),if_pos (by omega),y0 _ _ _ (by rw [dL hl hn]; exact hv),dF hl hn hv,Nat.add_sub_cancel_left]
theorem Ee {nv n q:Nat}{R A:List (List Bool)}(hq:q < R.length) (h:¬ (n * nv ≤ q ∧ q < n * nv + nv)):(Bt nv R n A)[q]! = R[q]!:=by
 rw [g8 _ _ _ _ _ hq,if_neg h]
def Iu (ts : List Int) (pts : List Pnt) (R : List (List Bool)) (i n : Nat) : Prop := D0 (oZ ts pts i (jQ ts.length R i)) (jQ ts.length R n) = false
theorem vV {A B:List (List Bool)}(h:D0 A B = false){v l:Nat}(hv:v < B.length) (hl:l < 10) (ha:A[v]![l]! = true):B[v]![l]! = true:=by
 cases hb : B[v]![l]! with
 | true => rfl
 | false => rw [sK.2 ⟨v,l,hv,hl,ha,hb⟩] at h;cases h
theorem Gv {nv N n:Nat}{R A:List (List Bool)}(hl:R.length = N * nv) (hr:∀ q,q < R.length → R[q]!.length = 10) (hn:n < N) (hA:∀ v,v < nv → A[v]!.length = 10) (h:D0 A (jQ nv R n) = false):Bt nv R n A = R:=by
 refine cY (jG _ _ _ _) fun q hq => ?_
 rw [jG] at hq
 rw [g8 _ _ _ _ _ hq]
 split
 ·rename_i h2
  obtain ⟨v,rfl⟩ : ∃ v,q = n * nv + v := ⟨q - n * nv,by omega⟩
  have hv : v < nv := by omega
  rw [Nat.add_sub_cancel_left]
  have h10 := hr _ hq
  have ha := hA v hv
  refine cY (fM _ _) fun l hl2 => ?_
  rw [fM] at hl2
  rw [fJ _ _ _ hl2]
  cases hA1 : A[v]![l]! with
  | false => simp
  | true =>
   have := vV h (v := v) (l := l) (by rw [dL hl hn]; exact hv) (by omega) hA1
   rw [dF hl hn hv] at this
   rw [this]; rfl
 ·rfl
def HQ (ts : List Int) (pts : List Pnt) (R : List (List Bool)) : Nat := IJ 10 (pts.length * ts.length) R
structure FU (ts : List Int) (pts : List Pnt) (R0 R : List (List Bool)) (c : Bool) (D : Nat → Nat → Prop) : Prop where
 d : FUd ts pts R
 dec : c = true → HQ ts pts R < HQ ts pts R0
 same : c = false → R = R0 ∧ ∀ i k,i < pts.length → k < pts[i]!.next.length → D i k → Iu ts pts R i (pts[i]!.next[k]!).toNat
theorem FU.mono {ts:List Int}{pts:List Pnt}{R0 R:List (List Bool)}{c:Bool}{D D':Nat → Nat → Prop}(h:FU ts pts R0 R c D) (k:∀ i k,i < pts.length → k < pts[i]!.next.length → D' i k → D i k):FU ts pts R0 R c D' :=
 ⟨h.d,h.dec,fun hc => ⟨(h.same hc).1,fun i q hi hq hd => (h.same hc).2 i q hi hq (k i q hi hq hd)⟩⟩
theorem FU.skip {ts:List Int}{pts:List Pnt}{R0 R R1:List (List Bool)}{c:Bool}{D D':Nat → Nat → Prop}(h:FU ts pts R0 R c D){i k:Nat}(h1:c = false → R = R1)
  (hw : D0 (oZ ts pts i (jQ ts.length R1 i)) (jQ ts.length R (pts[i]!.next[k]!).toNat) = false)
  (hD : ∀ i' k',i' < pts.length → k' < pts[i']!.next.length → D' i' k' → D i' k' ∨ (i' = i ∧ k' = k)) : FU ts pts R0 R c D' :=
 ⟨h.d, h.dec, fun hc => ⟨(h.same hc).1, fun i' q hi hq hd => by
  rcases hD i' q hi hq hd with h2 | ⟨rfl,rfl⟩
  ·exact (h.same hc).2 i' q hi hq h2
  ·have := h1 hc;subst this;exact hw⟩⟩
theorem FU.hit {ts:List Int}{pts:List Pnt}(w:WG ts pts) (B:WA ts pts){R0 R R1:List (List Bool)}{c:Bool}{D:Nat → Nat → Prop}(D':Nat → Nat → Prop) (h:FU ts pts R0 R c D) (h1:FUd ts pts R1){i k:Nat}(hi:i < pts.length) (hk:k < pts[i]!.next.length)
  (hw : D0 (oZ ts pts i (jQ ts.length R1 i)) (jQ ts.length R (pts[i]!.next[k]!).toNat) = true) :
  FU ts pts R0 (Bt ts.length R (pts[i]!.next[k]!).toNat (oZ ts pts i (jQ ts.length R1 i))) true D' := by
 have e := Di w hi hk
 have hn := mI w e
 have hf := h1.aft w B e
 generalize hnn : (pts[i]!.next[k]!).toNat = n at *
 have hlo := h.d.lo
 have hlen : ∀ q, q < R.length → (Bt ts.length R n (oZ ts pts i (jQ ts.length R1 i)))[q]!.length = 10 := fun q hq => by
  rw [g8 _ _ _ _ _ hq]; split
  ·rw [fM]; exact h.d.ro q hq
  ·exact h.d.ro q hq
 have hmono : ∀ q, q < R.length → ∀ l, l < 10 → R[q]![l]! = true → (Bt ts.length R n (oZ ts pts i (jQ ts.length R1 i)))[q]![l]! = true := fun q hq l hl hr => by
  have hro := h.d.ro q hq
  rw [g8 _ _ _ _ _ hq]; split
  ·rw [fJ _ _ _ (by omega),hr]; rfl
  ·exact hr
 refine ⟨⟨by rw [jG]; exact hlo,fun q hq => by rw [jG] at hq;exact hlen q hq,fun m v l hm hv hr => ?_⟩,fun _ => ?_,fun hc => by cases hc⟩
 ·have hq : m * ts.length + v < R.length := by rw [hlo]; exact HD hm hv
  have hl := wR hr
  rw [hlen _ hq] at hl
  rw [g8 _ _ _ _ _ hq] at hr
  split at hr
  ·rename_i q
   obtain ⟨u,hu⟩ : ∃ u,m * ts.length + v = n * ts.length + u := ⟨m * ts.length + v - n * ts.length,by omega⟩
   obtain ⟨rfl,rfl⟩ := Fu hv (by omega) hu
   rw [Nat.add_sub_cancel_left,fJ _ _ _ (by rw [h.d.ro _ hq]; exact hl),Bool.or_eq_true,Bool.and_eq_true] at hr
   rcases hr with hr|hr
   ·exact h.d.f m v l hm hv hr
   ·exact hf v l hv hr.2
  ·exact h.d.f m v l hm hv hr
 ·obtain ⟨v, l, hv, hl, h3, h4⟩ := sK.1 hw
  rw [dL hlo hn] at hv
  rw [dF hlo hn hv] at h4
  have hq : n * ts.length + v < R.length := by rw [hlo]; exact HD hn hv
  have hlt : HQ ts pts (Bt ts.length R n (oZ ts pts i (jQ ts.length R1 i))) < HQ ts pts R := by
   refine G6 (fun q hq => Bc fun l hl hr => hmono q (by omega) l hl hr) (i := n * ts.length + v) (by omega) (Ff (fun l hl hr => hmono _ hq l hl hr) hl h4 ?_)
   have h5 := h.d.ro _ hq
   have h6 := mV h1 hi hv
   rw [g8 _ _ _ _ _ hq,if_pos (by omega),Nat.add_sub_cancel_left,fJ _ _ _ (by omega),h3,decide_eq_true (by omega)]; simp
  cases hc : c with
  | true => have := h.dec hc;omega
  | false => rw [← (h.same hc).1]; exact hlt
structure FUH (ts : List Int) (pts : List Pnt) (R : List (List Bool)) (c : Bool) : Prop where
 d : FUd ts pts R
 cl : c = false → ∀ i k,i < pts.length → k < pts[i]!.next.length → Iu ts pts R i (pts[i]!.next[k]!).toNat
theorem FUH.start {ts:List Int}{pts:List Pnt}{R:List (List Bool)}{c:Bool}(h:FUH ts pts R c):FU ts pts R R false (DF 0 0) :=
 ⟨h.d,fun hc => (by cases hc),fun _ => ⟨rfl,fun i k hi hk hd => by unfold DF at hd;omega⟩⟩
theorem FUH.init (ts:List Int) (pts:List Pnt):FUH ts pts (List.replicate (pts.length * ts.length) (List.replicate 10 false)) true :=
 ⟨⟨by simp, fun q hq => (by rw [g6 _ _ _ (by simpa using hq)]; simp), fun n v l hn hv h => (by
   have hl := wR h
   rw [g6 _ _ _ (HD hn hv)] at h hl
   rw [List.length_replicate] at hl
   rw [g6 _ _ _ hl] at h;cases h)⟩,fun h => (by cases h)⟩
def Ix (ts : List Int) (pts : List Pnt) (R : List (List Bool)) (c : Bool) : Nat := 2 * HQ ts pts R + (if c = true then 1 else 0)
theorem FU.fin {ts:List Int}{pts:List Pnt}{R0 R:List (List Bool)}{c:Bool}{j:Nat}(hj:pts.length ≤ j) (h:FU ts pts R0 R c (DF j 0)):FUH ts pts R c ∧ Ix ts pts R c < Ix ts pts R0 true:=by
 refine ⟨⟨h.d,fun hc i k hi hk => (h.same hc).2 i k hi hk (.inl (by omega))⟩,?_⟩
 unfold Ix
 cases hc : c with
 | true => have := h.dec hc;simp only [if_true]; omega
 | false => rw [(h.same hc).1]; simp
theorem FUH.final {ts:List Int}{pts:List Pnt}(w:WG ts pts) (B:WA ts pts){R:List (List Bool)}{A:List Nat}(hA:GoodU ts pts A) (h:FUH ts pts R false){i:Nat}(hi:i < pts.length) :
  jQ ts.length R i = (List.range ts.length).map fun (v : Nat) => (List.range 10).map fun (k : Nat) => A[i * 6 + v]!.testBit k := by
 have htl := w.tl
 have hlo := h.d.lo
 have key : ∀ a : Nat × Nat × Nat, Nm ts pts a → (a.1 < pts.length → R[a.1 * ts.length + a.2.1]![a.2.2]! = true) ∧ a.2.1 < ts.length ∧ a.2.2 < 10 := by
  refine Clo.sub (T := fun a : Nat × Nat × Nat => (a.1 < pts.length → R[a.1 * ts.length + a.2.1]![a.2.2]! = true) ∧ a.2.1 < ts.length ∧ a.2.2 < 10) ?_ ?_
  ·rintro ⟨n, v, l⟩ ⟨j, e, hs, hd⟩
   dsimp only at e hs hd ⊢
   have h1 := (w.set _ e.1).1
   have hv : v < ts.length := by
    have := w.set j e.1
    omega
   have hl : l < 10 := by
    rcases hd with ⟨h2,h3⟩ | ⟨_,h3⟩
    ·have := (B.a j e.1).n (.inl h2);omega
    ·omega
   refine ⟨fun hn => ?_,hv,hl⟩
   obtain ⟨k,hk,hkn⟩ := yY e
   have hc := h.cl rfl j k e.1 hk
   rw [hkn] at hc
   unfold Iu at hc
   have := vV hc (v := v) (l := l) (by rw [dL hlo hn]; exact hv) hl (by
    rw [jD _ _ _ _ _ hv,if_pos hs,hU _ _ _ _ hl]
    rcases hd with ⟨h2,h3⟩ | ⟨h2,h3⟩
    ·rw [if_pos h2,decide_eq_true h3]
    ·rw [if_neg (by omega),if_neg (by omega),decide_eq_true h2])
   rwa [dF hlo hn hv] at this
  ·rintro ⟨j, u, l⟩ ⟨n, v, l'⟩ ⟨hT, hu, hl⟩ ⟨rfl, e, hd⟩
   dsimp only at hT hu hl e hd ⊢
   have hj := e.1
   have hT := hT hj
   have hv : v < ts.length := by
    rcases hd with ⟨h1,_⟩ | ⟨h1,_⟩
    ·omega
    ·have := w.set j hj;omega
   refine ⟨fun hn => ?_,hv,hl⟩
   obtain ⟨k,hk,hkn⟩ := yY e
   have hc := h.cl rfl j k e.1 hk
   rw [hkn] at hc
   unfold Iu at hc
   have := vV hc (v := v) (l := l') (by rw [dL hlo hn]; exact hv) hl (by
    rw [jD _ _ _ _ _ hv]
    rcases hd with ⟨h1,h2,h3⟩ | ⟨h1,h2,h3⟩
    ·subst h1
     rw [if_neg h2,if_neg h3,dF hlo hj hv]; exact hT
    ·rw [if_pos h1,hU _ _ _ _ hl,if_neg (by omega),if_pos h2,show pts[j]!.y.toNat = u by omega,dF hlo hj hu]; exact hT)
   rwa [dF hlo hn hv] at this
 refine cY (by rw [dL hlo hi]; simp) fun v hv => ?_
 rw [dL hlo hi] at hv
 have hrow := h.d.row hi hv
 rw [bT _ _ _ hv]
 refine cY (by rw [hrow]; simp) fun l hl => ?_
 rw [hrow] at hl
 rw [bT _ _ _ hl,Bool.eq_iff_iff,hA.2 i v hi (by omega) l,dF hlo hi hv]
 exact ⟨fun hr => h.d.f i v l hi hv hr,fun hm => (key _ hm).1 hi⟩
end Go.AL
