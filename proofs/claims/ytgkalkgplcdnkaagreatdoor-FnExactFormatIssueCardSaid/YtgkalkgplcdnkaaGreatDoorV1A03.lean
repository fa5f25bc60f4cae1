/-
 A part of the proofs over this program: rules and contracts of its functions (the rules).
-/
import Derived.Test.YtgkalkgplcdnkaaGreatDoorV1A02
import Derived.KernelRfl
import Derived.Test.YtgkalkgplcdnkaaGreatDoorProg
set_option linter.unusedVariables false
set_option linter.unusedSimpArgs false
namespace Go.AL
open Go.RowKit
section
variable {P : Program} {N : Nat} {Q : Exit → AS → Prop} {all : Array Oper} {rest : List Oper} {ts : List (Nat × AV)} {hs : List (Nat × Option (List AV))} {n : Nat} {z0 : Lo} {md : Md}
variable {d : Option Tmp} {ty : TypeId} {pos : String} {af : Array Edge}
def nI (hs : List (Nat × Option (List AV))) (H0 : List (Nat × Option (List AV))) (mp : List Nat) : Nat → List Nat → Prop
 | _,[] => True
 | j,i :: is => (∃ cs cs',aP H0 j = some cs ∧ aP hs i = some cs' ∧ RnL (mp[·]?) cs cs') ∧ nI hs H0 mp (j + 1) is
theorem qJ {H0:List (Nat × Option (List AV))}{mp:List Nat}:∀ {is:List Nat}{j0:Nat},nI hs H0 mp j0 is → ∀ (j i:Nat),is[j]? = some i → ∃ cs cs',aP H0 (j0 + j) = some cs ∧ aP hs i = some cs' ∧ RnL (mp[·]?) cs cs'
 | [],_,_,j,i,h => by simp at h
 | x :: is, j0, hh, j, i, h => by
  simp only [nI] at hh
  cases j with
  | zero => simp at h;subst h;simpa using hh.1
  | succ j =>
   have := qJ hh.2 j i (by simpa using h)
   rwa [show j0 + 1 + j = j0 + (j + 1) from by omega] at this
def eN (n : Nat) : List (Nat × Option (List AV)) → Bool
 | [] => true
 | (i,_) :: l => Nat.blt i n && eN n l
theorem mT {n:Nat}:∀ {l:List (Nat × Option (List AV))},eN n l = true → ∀ j cs,aP l j = some cs → j < n
 | [],_,j,cs,h => by simp [aP] at h
 | (i, c) :: l, hk, j, cs, h => by
  simp only [eN,Bool.and_eq_true] at hk
  simp only [bW] at h
  split at h
  ·rename_i e;subst e;exact cH hk.1
  ·exact mT hk.2 j cs h
theorem EF {σ:Type}{k:FuncId}{args:Array Operand}{tys:Array TypeId}{avs avs0:List AV}{H0:List (Nat × Option (List AV))}{p:σ → Prop}{rr rr':σ → AV}{hh ws:σ → List (Nat × Option (List AV))}
  (mp : List Nat) (n1 : Nat) (hc : dM P k = true) (ha : evL (lk ts) args.toList = some avs) (h : MC P k avs0 H0 mp.length p rr hh) (hd : distinct mp = true)
  (hH0 : nI hs H0 mp 0 mp) (hk : eN mp.length H0 = true) (har : RnL (mp[·]?) avs0 avs) (hM : Nat.ble (n + (n1 - mp.length)) aS = true)
  (hr : ∀ x,p x → RnV (r9 mp n n1) (rr x) (rr' x)) (hw : ∀ x,p x → WsOk mp (r9 mp n n1) (hh x) (ws x)) (hN : ∀ x,d = some x → x < N)
  (kk : ∀ x,p x → RW P N all Q .txt rest (put ⟨ts,kO hs (ws x),n + (n1 - mp.length),z0⟩ d (rr' x))) : RW P N all Q .txt (⟨d,.call ⟨.value (.func k),args,tys⟩,ty,pos,af,none⟩ :: rest) ⟨ts,hs,n,z0⟩ := by
 rintro C a w hCN ⟨h0,ι,g,gh⟩
 refine wpList_plain rfl (fun K hK => ?_)
 simp only [Oper.wp,dX hc,Oper.upon]
 have hM' := Nat.le_of_ble_eq_true hM
 refine (vC (nid := n) (n1 := n1) h hd gh (fun j i hj => by simpa using qJ hH0 j i hj) (mT hk) har (fun j h1 h2 => ⟨h1,.inl (by omega)⟩) hr hw (fN g ha)).mono ?_
 rintro e w' ⟨v,x,ι',rfl,hx,g',c',hrd⟩
 refine hK _ _ (kk x hx C _ _ hCN ?_)
 have g2 : HG C ι' (Fn (n + (n1 - mp.length)) z0) (iA (aP hs) (ws x)) w' := (g'.less (fun _ _ h => h) (fun j hj => ⟨⟨Nat.le_trans (Nat.le_add_right _ _) hj.1,hj.2⟩,by have := hj.1;omega⟩)).1
 rw [← oB] at g2 c' hrd
 cases d with
 | none => exact ⟨h0,ι',g.carry c',g2⟩
 | some d =>
  refine ⟨h0,ι',?_,g2⟩
  simp only [put]
  rw [kM]
  exact (g.carry c').put (hCN.symm ▸ hN d rfl) hrd
theorem BD {k:FuncId}{args:Array Operand}{tys:Array TypeId}{avs avs0:List AV}{H0:List (Nat × Option (List AV))}{rr rr':AV}{hh ws:List (Nat × Option (List AV))}
  (mp : List Nat) (n1 : Nat) (hc : dM P k = true) (ha : evL (lk ts) args.toList = some avs) (h : MC P k avs0 H0 mp.length (fun _ : Unit => True) (fun _ => rr) (fun _ => hh)) (hd : distinct mp = true)
  (hH0 : nI hs H0 mp 0 mp) (hk : eN mp.length H0 = true) (har : RnL (mp[·]?) avs0 avs) (hM : Nat.ble (n + (n1 - mp.length)) aS = true)
  (hr : RnV (r9 mp n n1) rr rr') (hw : WsOk mp (r9 mp n n1) hh ws) (hN : ∀ x,d = some x → x < N)
  (kk : RW P N all Q (md.add (iD args.toList ++ mp.map .inr) (ws.map (fun p => .inr p.1) ++ wD d)) rest (put ⟨ts,kO hs ws,n + (n1 - mp.length),z0⟩ d rr')) : RW P N all Q md (⟨d,.call ⟨.value (.func k),args,tys⟩,ty,pos,af,none⟩ :: rest) ⟨ts,hs,n,z0⟩ := by
 have hM' := Nat.le_of_ble_eq_true hM
 refine gV (rs := iD args.toList ++ mp.map .inr) (ws := ws) (n' := n + (n1 - mp.length)) (out := rr') rfl (Nat.le_add_right _ _) (.inr hM') (fun C ι F T H a w K Q' hCN ag hF g gh hK => ?_) hN kk
 simp only [Oper.wp,dX hc,Oper.upon]
 refine (vC (nid := n) (n1 := n1) h hd gh (fun j i hj => ?_) (mT hk) har hF (fun _ _ => hr) (fun _ _ => hw) (fN g (ag.l.evL.trans ha))).mono ?_
 ·obtain ⟨cs, cs', q1, q2, q3⟩ := qJ hH0 j i hj
  exact ⟨cs,cs',by simpa using q1,by rw [ag.r.h i (List.mem_map_of_mem (List.mem_of_getElem? hj))]; exact q2,q3⟩
 ·rintro e w' ⟨v, x, ι', rfl, hx, g', c', hrd⟩
  exact hK ι' w' v (g.carry c') g' hrd
mutual
def AV.free : AV → Bool
 | .v _ => true
 | .any => true
 | .agg cs => pR cs
 | .tup cs => pR cs
 | _ => false
def pR : List AV → Bool
 | [] => true
 | c :: cs => c.free && pR cs
end
mutual
theorem Rd.free {w:World}{bad bad2:Nat → Prop}{ι ι2:Pl}:∀ (av:AV) (y:Value),av.free = true → Rd w bad ι av y → Rd w bad2 ι2 av y
 | .v x,y,_,h => by simpa only [Rd] using h
 | .any,y,_,h => by simpa only [Rd] using h
 | .imm n cs,y,hp,h => by simp [AV.free] at hp
 | .iptr cs,y,hp,h => by simp [AV.free] at hp
 | .own id off n e,y,hp,h => by simp [AV.free] at hp
 | .ownc id off n c e,y,hp,h => by simp [AV.free] at hp
 | .optr id off,y,hp,h => by simp [AV.free] at hp
 | .clos _ _ _,y,hp,h => by simp [AV.free] at hp
 | .agg cs, y, hp, h => by
  simp only [AV.free] at hp
  simp only [Rd] at h ⊢
  obtain ⟨l,h1,h2⟩ := h
  exact ⟨l,h1,RdL.free cs l hp h2⟩
 | .tup cs, y, hp, h => by
  simp only [AV.free] at hp
  simp only [Rd] at h ⊢
  obtain ⟨l,h1,h2⟩ := h
  exact ⟨l,h1,RdV.free cs l hp h2⟩
theorem RdL.free {w:World}{bad bad2:Nat → Prop}{ι ι2:Pl}:∀ (cs:List AV) (l:List Value),pR cs = true → RdL w bad ι cs l → RdL w bad2 ι2 cs l
 | [],l,_,h => by simpa only [RdL] using h
 | c :: cs, l, hp, h => by
  simp only [pR,Bool.and_eq_true] at hp
  simp only [RdL] at h ⊢
  obtain ⟨x,l',h0,h1,h2,h3⟩ := h
  exact ⟨x,l',h0,h1,Rd.free c x hp.1 h2,RdL.free cs l' hp.2 h3⟩
theorem RdV.free {w:World}{bad bad2:Nat → Prop}{ι ι2:Pl}:∀ (cs:List AV) (l:List Value),pR cs = true → RdV w bad ι cs l → RdV w bad2 ι2 cs l
 | [],l,_,h => by simpa only [RdV] using h
 | c :: cs, l, hp, h => by
  simp only [pR,Bool.and_eq_true] at hp
  simp only [RdV] at h ⊢
  obtain ⟨x,l',h0,h2,h3⟩ := h
  exact ⟨x,l',h0,Rd.free c x hp.1 h2,RdV.free cs l' hp.2 h3⟩
end
def gI (H : Nat → Option (List AV)) : AV → Option AV
 | .own id off m e => (H id).bind fun cs => if aZ cs then some (.imm m (cs.drop off)) else none
 | .optr id off => (H id).bind fun cs => if aZ cs then some (.iptr (cs.drop off)) else none
 | .agg cs => if aZ cs then some (.agg cs) else none
 | .tup cs => if aZ cs then some (.tup cs) else none
 | .imm m cs => if aZ cs then some (.imm m cs) else none
 | .iptr cs => if aZ cs then some (.iptr cs) else none
 | .v x => some (.v x)
 | .any => some .any
 | _ => none
def hJ (H : Nat → Option (List AV)) : List AV → Option (List AV)
 | [] => some []
 | c :: cs => match gI H c,hJ H cs with|some x,some l => some (x :: l) | _,_ => none
def rL (H : List AV) : List fS := H.flatMap fun av => match av with | .own id _ _ _ => [.inr id] | .optr id _ => [.inr id] | _ => []
theorem Cg {T:Nat → Option AV}{H:Nat → Option (List AV)}:∀ {av:AV},Agr (rL [av]) ts hs T H → gI H av = gI (aP hs) av
 | .own id off m e,g => by simp only [gI]; rw [g.h id (by simp [rL])]
 | .optr id off,g => by simp only [gI]; rw [g.h id (by simp [rL])]
 | .v _,_ => rfl
 | .any,_ => rfl
 | .imm _ _,_ => rfl
 | .iptr _,_ => rfl
 | .agg _,_ => rfl
 | .tup _,_ => rfl
 | .clos _ _ _,_ => rfl
 | .ownc _ _ _ _ _,_ => rfl
theorem qZ {T:Nat → Option AV}{H:Nat → Option (List AV)}:∀ {l:List AV},Agr (rL l) ts hs T H → hJ H l = hJ (aP hs) l
 | [],_ => rfl
 | c :: cs, g => by
  have h1 : Agr (rL [c]) ts hs T H := g.sub fun r hr => by simp only [rL,List.flatMap_cons,List.flatMap_nil,List.append_nil] at hr ⊢; exact List.mem_append_left _ hr
  have h2 : Agr (rL cs) ts hs T H := g.sub fun r hr => by simp only [rL,List.flatMap_cons] at hr ⊢; exact List.mem_append_right _ hr
  simp only [hJ]
  rw [Cg h1,qZ h2]
theorem Cz {H:Nat → Option (List AV)}:∀ {av out:AV},gI H av = some out → out.pur = true:=by
 intro av out h
 have hdrop : ∀ (k : Nat) (cs : List AV), aZ cs = true → aZ (cs.drop k) = true := by
  intro k
  induction k with
  | zero => intro cs h;simpa using h
  | succ k ih =>
   intro cs h
   cases cs with
   | nil => simp [aZ]
   | cons c cs => simp only [aZ,Bool.and_eq_true] at h;simpa using ih cs h.2
 cases av <;> simp only [gI] at h
 ·cases h;rfl
 ·cases h;rfl
 ·split at h <;> cases h;rename_i hp;exact hp
 ·split at h <;> cases h;rename_i hp;exact hp
 ·rename_i id off m e
  cases hH : H id with
  | none => simp [hH] at h
  | some cs =>
   simp only [hH,Option.bind_some] at h
   split at h <;> cases h
   rename_i hp;exact hdrop _ _ hp
 ·rename_i id off
  cases hH : H id with
  | none => simp [hH] at h
  | some cs =>
   simp only [hH,Option.bind_some] at h
   split at h <;> cases h
   rename_i hp;exact hdrop _ _ hp
 ·split at h <;> cases h;rename_i hp;exact hp
 ·split at h <;> cases h;rename_i hp;exact hp
 ·cases h
 ·cases h
theorem Di {C:Ctx}{ι:Pl}{F:Nat → Prop}{H:Nat → Option (List AV)}{w:World}(g:HG C ι F H w){av out:AV}{y:Value}(h:gI H av = some out) (hy:Rd w (aE C.X ι H) ι av y):Rd w C.X (fun _ => none) out y:=by
 have hc0 : ∀ ι2 : Pl,Carry w (aE C.X ι H) ι2 w C.X ι2 := fun ι2 => ⟨fun b o x h1 h2 => ⟨fun q => h1 (.inl q),h2⟩,fun _ _ h => h,fun _ => Nat.le_refl _⟩
 have pure : ∀ {av : AV},av.pur = true → Rd w (aE C.X ι H) ι av y → Rd w C.X (fun _ => none) av y := fun hp hy => Rd.pur _ y hp (Rd.carry (hc0 ι) _ _ hy)
 cases av <;> simp only [gI] at h
 ·cases h;exact pure rfl hy
 ·cases h;exact pure rfl hy
 ·split at h <;> cases h;rename_i hp;exact pure hp hy
 ·split at h <;> cases h;rename_i hp;exact pure hp hy
 ·rename_i id off m e
  cases hH : H id with
  | none => simp [hH] at h
  | some cs =>
   simp only [hH,Option.bind_some] at h
   split at h <;> cases h
   rename_i hp
   simp only [Rd] at hy ⊢
   rcases hy with ⟨_,rfl,a,rfl⟩ | ⟨b,β,c,h1,rfl,h2,h3⟩
   ·exact ⟨a,0,rfl,.inl rfl⟩
   ·rcases g.obj id cs hH with ⟨q, _⟩ | ⟨b', β', arr, e', q, q4, q5, q6, q7, q8⟩
    ·rw [q] at h1;cases h1
    ·rw [q] at h1; cases h1
     exact ⟨_,c,rfl,.inr ⟨_,_,h2,rfl,cX off (.inr ⟨q7,RdC.pur cs b β hp (RdC.carryB (hc0 ι) _ _ _ (fun o x hx => hx) q6)⟩)⟩⟩
 ·rename_i id off
  cases hH : H id with
  | none => simp [hH] at h
  | some cs =>
   simp only [hH,Option.bind_some] at h
   split at h <;> cases h
   rename_i hp
   simp only [Rd] at hy ⊢
   obtain ⟨b,β,h1,rfl⟩ := hy
   rcases g.obj id cs hH with ⟨q,_⟩ | ⟨b',β',arr,e',q,q4,q5,q6,q7,q8⟩
   ·rw [q] at h1;cases h1
   ·rw [q] at h1; cases h1
    exact ⟨_,_,rfl,cX off (.inr ⟨q7,RdC.pur cs b β hp (RdC.carryB (hc0 ι) _ _ _ (fun o x hx => hx) q6)⟩)⟩
 ·split at h <;> cases h;rename_i hp;exact pure hp hy
 ·split at h <;> cases h;rename_i hp;exact pure hp hy
 ·cases h
 ·cases h
theorem xO {C:Ctx}{ι:Pl}{F:Nat → Prop}{H:Nat → Option (List AV)}{w:World}(g:HG C ι F H w):∀ {l out:List AV}{ys:List Value},hJ H l = some out → RdV w (aE C.X ι H) ι l ys → RdV w C.X (fun _ => none) out ys ∧ aZ out = true
 | [],out,ys,h,hy => by simp only [hJ,Option.some.injEq] at h;subst h;simp only [RdV] at hy ⊢; exact ⟨hy,rfl⟩
 | c :: cs, out, ys, h, hy => by
  simp only [hJ] at h
  split at h
  ·rename_i x l h1 h2
   cases h
   simp only [RdV] at hy ⊢
   obtain ⟨y,ys',rfl,q1,q2⟩ := hy
   obtain ⟨q3,q4⟩ := xO g h2 q2
   exact ⟨⟨y,ys',rfl,Di g h1 q1,q3⟩,by simp only [aZ,Bool.and_eq_true]; exact ⟨Cz h1,q4⟩⟩
  ·cases h
theorem FT {k:FuncId}{args:Array Operand}{tys:Array TypeId}{avs avs2:List AV}{r:AV}{d:Nat}(hc:dM P k = true) (ha:evL (lk ts) args.toList = some avs) (hl:hJ (aP hs) avs = some avs2) (h:PC P k avs2 (fun x => x = r)) (hfr:r.free = true) (hN:d < N)
  (kk : RW P N all Q (md.add (iD args.toList ++ rL avs) [.inl d]) rest ⟨(d,r) :: ts,hs,n,z0⟩) : RW P N all Q md (⟨some d,.call ⟨.value (.func k),args,tys⟩,ty,pos,af,none⟩ :: rest) ⟨ts,hs,n,z0⟩ := by
 refine gV (rs := iD args.toList ++ rL avs) (ws := []) (n' := n) (out := r) rfl (Nat.le_refl _) (.inl rfl) (fun C ι F T H a w K Q' hCN ag hF g gh hK => ?_) (fun x hx => by cases hx;exact hN) kk
 simp only [Oper.wp,dX hc,Oper.upon]
 obtain ⟨hv,hp⟩ := xO gh ((qZ ag.r).trans hl) (fN g (ag.l.evL.trans ha))
 let C' : Ctx := { N := 0,w0 := w,W0 := fun _ => False,X := C.X,ι0 := fun _ => none,xlt := fun b hb => Nat.lt_of_lt_of_le (C.xlt b hb) gh.fr.size }
 have hbad : ∀ b,aE C'.X (fun _ => none) (aP []) b ↔ C.X b := fun b => ⟨fun h => (by rcases h with h | ⟨id,cs,β,h1,h2⟩ <;> first|exact h|cases h2),fun h => Or.inl h⟩
 have g' : HG C' (fun _ => none) (fun j => 0 ≤ j) (aP []) w :=
  ⟨fun id cs h => by simp [aP] at h,fun id id' cs cs' b β β' h => by simp [aP] at h,Fr.refl _ _,fun _ _ h => h,fun _ _ => rfl⟩
 have hcar : Carry w C.X (fun _ => none) w (aE C'.X (fun _ => none) (aP [])) (fun _ => none) := ⟨fun b o x h1 h2 => ⟨fun h => h1 ((hbad b).1 h),h2⟩,fun _ _ h => h,fun _ => Nat.le_refl _⟩
 refine (h C' _ w _ rfl rfl g' (RdV.carry hcar _ _ hv)).mono ?_
 rintro e w' ⟨v,r',H',ι',rfl,⟨rfl,_⟩,h4,h5⟩
 obtain ⟨g2,c2⟩ := gh.ext h5.fr
 exact hK ι w' v (g.carry c2) (g2.less (fun _ _ h => h) (fun j hj => hj.1)).1 (Rd.free _ _ hfr h4)
end
class SlT (P : Program) (t : Nat) (e : outParam Nat) : Prop where pf : kW P t = some e
class SzT (P : Program) (t : Nat) (e : outParam Nat) : Prop where pf : eF P t = some e
class ByT (P : Program) (t : Nat) (e : outParam Nat) : Prop where pf : zA P t = some e
class AgT (P : Program) (t : Nat) (e : outParam Bool) : Prop where pf : pD P t = some e
class ZrT (P : Program) (t : Nat) (e : outParam (List Value)) : Prop where pf : nF P t = some e
class FdT (P : Program) (t f : Nat) (o ft : outParam Nat) : Prop where pf : w4 P t f = some (o,ft)
class ArT (P : Program) (t : Nat) (n e : outParam Nat) : Prop where pf : yE P t = some (n,e)
class InT (P : Program) (t : Nat) (k : outParam IntKind) : Prop where pf : xD P t = some k
class StT (P : Program) (t : Nat) : Prop where pf : P.underlying t = some .string
class PtT (P : Program) (t : Nat) (l : outParam (List (Nat × Nat))) : Prop where pf : Gm P t = some l
class CaT (P : Program) (k : Nat) : Prop where pf : dM P k = true
class MdA (md : Md) (rs ws : List fS) (md' : outParam Md) : Prop where pf : md.add rs ws = md'
instance (rs ws : List fS) : MdA .txt rs ws .txt:=⟨rfl⟩
instance (ks : List (List fS × List fS)) (p rs ws : List fS) : MdA (.drw ks p) rs ws (.drw (ks ++ [(p ++ rs,ws)]) []):=⟨rfl⟩
class MdP (md : Md) (r : fS) (md' : outParam Md) : Prop where pf : md.pen r = md'
instance (r : fS) : MdP .txt r .txt:=⟨rfl⟩
instance (ks : List (List fS × List fS)) (p : List fS) (r : fS) : MdP (.drw ks p) r (.drw ks (r :: p)):=⟨rfl⟩
def flat {α : Type} (f : α → List AV) (xs : List α) : List AV := xs.flatMap f
class FlT {α : Type} (f : α → List AV) (e : outParam Nat) : Prop where pf : ∀ x,(f x).length = e
theorem aQ {α:Type}(f:α → List AV){e:Nat}[h:FlT f e]:∀ (xs:List α),(flat f xs).length = xs.length * e
 | [] => by simp [flat]
 | x :: xs => by
  have := aQ f (e := e) xs
  simp only [flat,List.flatMap_cons,List.length_append,List.length_cons,h.pf] at this ⊢
  rw [this,Nat.add_mul]; omega
theorem dY {α:Type}[Inhabited α] (f:α → List AV){e:Nat}[h:FlT f e]:∀ (xs:List α) (k:Nat),k < xs.length → (flat f xs).drop (k * e) = f xs[k]! ++ flat f (xs.drop (k + 1))
 | [],k,hk => by simp at hk
 | x :: xs,0,_ => by simp [flat]
 | x :: xs, k + 1, hk => by
  have := dY f (e := e) xs k (by simpa using hk)
  simp only [flat,List.flatMap_cons,List.drop_succ_cons] at this ⊢
  rw [show (k + 1) * e = (f x).length + k * e from by rw [h.pf,Nat.add_mul]; omega,← List.drop_drop,List.drop_left,this]
  simp
theorem eY {α:Type}(f:α → List AV){e:Nat}[h:FlT f e]:∀ (xs:List α) (k:Nat),(flat f xs).take (k * e) = flat f (xs.take k)
 | [],k => by simp [flat]
 | x :: xs,0 => by simp [flat]
 | x :: xs, k + 1 => by
  have := eY f (e := e) xs k
  simp only [flat,List.flatMap_cons,List.take_succ_cons] at this ⊢
  rw [show (k + 1) * e = (f x).length + k * e from by rw [h.pf,Nat.add_mul]; omega,List.take_length_add_append,this]
theorem gE {α:Type}(f:α → List AV){e:Nat}[h:FlT f e]:∀ (xs:List α) (k:Nat),(flat f xs).drop (k * e) = flat f (xs.drop k)
 | [],k => by simp [flat]
 | x :: xs,0 => by simp [flat]
 | x :: xs, k + 1 => by
  have := gE f (e := e) xs k
  simp only [flat,List.flatMap_cons,List.drop_succ_cons] at this ⊢
  rw [show (k + 1) * e = (f x).length + k * e from by rw [h.pf,Nat.add_mul]; omega,← List.drop_drop,List.drop_left,this]
theorem bX {α:Type}(f:α → List AV) (xs ys:List α):flat f xs ++ flat f ys = flat f (xs ++ ys) := by simp [flat]
theorem jU {α:Type}(f:α → List AV) (x:α):flat f [x] = f x := by simp [flat]
theorem DJ {α:Type}(f:α → List AV){e:Nat}[h:FlT f e] (xs:List α) (k:Nat) (y:α) (hk:k < xs.length):jH (flat f xs) (k * e) (f y) = flat f (xs.set k y):=by
 unfold jH
 rw [eY,h.pf,show k * e + e = (k + 1) * e from by rw [Nat.add_mul]; omega,gE,← jU f y,bX,bX]
 congr 1
 rw [List.set_eq_take_append_cons_drop,if_pos hk]
 simp
abbrev sl {α : Type} (f : α → List AV) (xs : List α) : AV := .imm xs.length (flat f xs)
abbrev iv (n : Int) : AV := .v (.int .i64 n)
abbrev bv (b : Bool) : AV := .v (.bool b)
abbrev sv (s : ByteArray) : AV := .v (.string s)
def cI (n : Int) : List AV := [.v (.int .i64 n)]
def cB (b : Bool) : List AV := [.v (.bool b)]
instance : FlT cI 1:=⟨fun _ => rfl⟩
instance : FlT cB 1:=⟨fun _ => rfl⟩
theorem fV:∀ (xs ys:List AV),aZ (xs ++ ys) = (aZ xs && aZ ys)
 | [],ys => by simp [aZ]
 | x :: xs,ys => by simp [aZ,fV xs ys,Bool.and_assoc]
theorem qE {α:Type}(f:α → List AV) (h:∀ x,aZ (f x) = true):∀ xs,aZ (flat f xs) = true
 | [] => rfl
 | x :: xs => by
  have := qE f h xs
  simp only [flat,List.flatMap_cons,fV,h,Bool.true_and] at this ⊢
  exact this
class FE {α : Type} (f : α → List AV) (g : outParam (α → List AV)) : Prop where pf : ∀ x,f x = g x
instance : FE cI (fun n => [.v (.int .i64 n)]):=⟨fun _ => rfl⟩
instance : FE cB (fun n => [.v (.bool n)]):=⟨fun _ => rfl⟩
class Pur (av : List AV) : Prop where pf : aZ av = true
instance (n : Int) : Pur (cI n):=⟨rfl⟩
instance (n : Bool) : Pur (cB n):=⟨rfl⟩
instance {α : Type} (f : α → List AV) [h : ∀ x,Pur (f x)] (xs : List α) : Pur (flat f xs):=⟨qE f (fun x => (h x).pf) xs⟩
theorem bC {α:Type}(f:α → List AV) [h:∀ x,Pur (f x)] (xs:List α):(sl f xs).pur = true := by simp only [AV.pur]; exact qE f (fun x => (h x).pf) xs
section
variable {P : Program} {N : Nat} {Q : Exit → AS → Prop} {all : Array Oper} {rest : List Oper} {ts : List (Nat × AV)} {hs : List (Nat × Option (List AV))} {n : Nat} {z0 : Lo} {md : Md}
variable {d : Nat} {ty : TypeId} {pos : String} {af : Array Edge}
theorem FM {x:Operand}{av:AV}(hx:ev (lk ts) x = some av) (hN:Nat.blt d N = true){md':Md}[hmd:MdA md (rO x) [.inl d] md'] (k:RW P N all Q md' rest ⟨(d,av) :: ts,hs,n,z0⟩):RW P N all Q md (⟨some d,.move x,ty,pos,af,none⟩ :: rest) ⟨ts,hs,n,z0⟩ := Ht hx (cH hN) (by rw [hmd.pf]; exact k)
theorem sH {x:Operand}{av:AV}(hx:ev (lk ts) x = some av) (hN:Nat.blt d N = true){md':Md}[hmd:MdA md (rO x) [.inl d] md'] (k:RW P N all Q md' rest ⟨(d,av) :: ts,hs,n,z0⟩):RW P N all Q md (⟨some d,.assign x,ty,pos,af,none⟩ :: rest) ⟨ts,hs,n,z0⟩ := BZ hx (cH hN) (by rw [hmd.pf]; exact k)
theorem HO {op:BinOp}{t t':TypeId}{x y:Operand}{k:IntKind}{m m':Int}{v:Value}(hx:ev (lk ts) x = some (.v (.int k m))) (hy:ev (lk ts) y = some (.v (.int k m')))
  (h : fC op k m m' = some v) (hN : Nat.blt d N = true) {md' : Md} [hmd : MdA md (rO x ++ rO y) [.inl d] md'] (kk : RW P N all Q md' rest ⟨(d,.v v) :: ts,hs,n,z0⟩) : RW P N all Q md (⟨some d,.binOp op t x y t',ty,pos,af,none⟩ :: rest) ⟨ts,hs,n,z0⟩ := cY hx hy (.inl rfl) h (cH hN) (by rw [hmd.pf]; exact kk)
theorem I8 {t t':TypeId}{x y:Operand}{m m':Int}(hx:ev (lk ts) x = some (.v (.int .i64 m))) (hy:ev (lk ts) y = some (.v (.int .i64 m')))
  (h : -9223372036854775808 ≤ m + m' ∧ m + m' ≤ 9223372036854775807) (hN : Nat.blt d N = true) {md' : Md} [hmd : MdA md (rO x ++ rO y) [.inl d] md'] (kk : RW P N all Q md' rest ⟨(d,.v (.int .i64 (m + m'))) :: ts,hs,n,z0⟩) : RW P N all Q md (⟨some d,.binOp .add t x y t',ty,pos,af,none⟩ :: rest) ⟨ts,hs,n,z0⟩ := HS hx hy h (cH hN) (by rw [hmd.pf]; exact kk)
theorem I3 {t t':TypeId}{x y:Operand}{m m':Int}(hx:ev (lk ts) x = some (.v (.int .i64 m))) (hy:ev (lk ts) y = some (.v (.int .i64 m')))
  (h : -9223372036854775808 ≤ m - m' ∧ m - m' ≤ 9223372036854775807) (hN : Nat.blt d N = true) {md' : Md} [hmd : MdA md (rO x ++ rO y) [.inl d] md'] (kk : RW P N all Q md' rest ⟨(d,.v (.int .i64 (m - m'))) :: ts,hs,n,z0⟩) : RW P N all Q md (⟨some d,.binOp .sub t x y t',ty,pos,af,none⟩ :: rest) ⟨ts,hs,n,z0⟩ := HU hx hy h (cH hN) (by rw [hmd.pf]; exact kk)
theorem Iq {t:TypeId}{x:Operand}{b:Bool}(hx:ev (lk ts) x = some (.v (.bool b))) (hN:Nat.blt d N = true){md':Md}[hmd:MdA md (rO x) [.inl d] md'] (kk:RW P N all Q md' rest ⟨(d,.v (.bool !b)) :: ts,hs,n,z0⟩):RW P N all Q md (⟨some d,.unOp .not t x,ty,pos,af,none⟩ :: rest) ⟨ts,hs,n,z0⟩ := Je hx (cH hN) (by rw [hmd.pf]; exact kk)
theorem IZ {x:Operand}{av:AV}(hx:ev (lk ts) x = some av) (hp:A5 av = true) (hN:Nat.blt d N = true){md':Md}[hmd:MdA md (rO x) [.inl d] md'] (kk:RW P N all Q md' rest ⟨(d,av) :: ts,hs,n,z0⟩):RW P N all Q md (⟨some d,.nilCheck x,ty,pos,af,none⟩ :: rest) ⟨ts,hs,n,z0⟩ := FW hx hp (cH hN) (by rw [hmd.pf]; exact kk)
theorem sS {s:TypeId}{f:Nat}{x:Operand}{av out:AV}{fo ft z:Nat}[hf:FdT P s f fo ft] [hz:SzT P ft (z + 1)] (hx:ev (lk ts) x = some av) (hp:xP fo av = some out) (hN:Nat.blt d N = true)
  {md' : Md} [hmd : MdA md (rO x) [.inl d] md'] (kk : RW P N all Q md' rest ⟨(d,out) :: ts,hs,n,z0⟩) : RW P N all Q md (⟨some d,.fieldAddr s x f,ty,pos,af,none⟩ :: rest) ⟨ts,hs,n,z0⟩ := tU hx hf.pf hz.pf hp (cH hN) (by rw [hmd.pf]; exact kk)
theorem pG {α:Type}{hα:Inhabited α}{f g:α → List AV}{xs:List α}{t el e m k:Nat}{x i:Operand}{kk0:IntKind}[ht:SlT P t el] [he:SzT P el e] (hx:ev (lk ts) x = some (.imm m (flat f xs)))
  (hi : ev (lk ts) i = some (.v (.int kk0 (k : Int)))) (hm : k < m) (hml : m = xs.length) (hf : FlT f e) (hg : FE f g) (hN : Nat.blt d N = true) {md' : Md} [hmd : MdA md (rO x ++ rO i) [.inl d] md'] (kk : RW P N all Q md' rest ⟨(d,.iptr (g xs[k]! ++ flat f (xs.drop (k + 1)))) :: ts,hs,n,z0⟩) :
  RW P N all Q md (⟨some d,.indexAddr t x i,ty,pos,af,none⟩ :: rest) ⟨ts,hs,n,z0⟩ :=
 eI hx hi ht.pf he.pf (by simp only [v7]; rw [if_pos (by omega),Int.toNat_natCast,dY f xs k (by omega),hg.pf]) (cH hN) (by rw [hmd.pf]; exact kk)
theorem rE {α:Type}{hα:Inhabited α}{f g:α → List AV}{xs:List α}{t el e m:Nat}{x i:Operand}{kk0:IntKind}{k:Int}[ht:SlT P t el] [he:SzT P el e] (hx:ev (lk ts) x = some (.imm m (flat f xs)))
  (hi : ev (lk ts) i = some (.v (.int kk0 k))) (hm : 0 ≤ k ∧ k < m) (hml : m = xs.length) (hf : FlT f e) (hg : FE f g) (hN : Nat.blt d N = true) {md' : Md} [hmd : MdA md (rO x ++ rO i) [.inl d] md'] (kk : RW P N all Q md' rest ⟨(d,.iptr (g xs[k.toNat]! ++ flat f (xs.drop (k.toNat + 1)))) :: ts,hs,n,z0⟩) :
  RW P N all Q md (⟨some d,.indexAddr t x i,ty,pos,af,none⟩ :: rest) ⟨ts,hs,n,z0⟩ :=
 eI hx hi ht.pf he.pf (by simp only [v7]; rw [if_pos hm,dY f xs k.toNat (by omega),hg.pf]) (cH hN) (by rw [hmd.pf]; exact kk)
theorem zC {t el e m k id off e':Nat}{x i:Operand}{kk0:IntKind}[ht:SlT P t el] [he:SzT P el e] (hx:ev (lk ts) x = some (.own id off m e'))
  (hi : ev (lk ts) i = some (.v (.int kk0 (k : Int)))) (hm : k < m) (hN : Nat.blt d N = true) {md' : Md} [hmd : MdA md (rO x ++ rO i) [.inl d] md'] (kk : RW P N all Q md' rest ⟨(d,.optr id (off + k * e)) :: ts,hs,n,z0⟩) :
  RW P N all Q md (⟨some d,.indexAddr t x i,ty,pos,af,none⟩ :: rest) ⟨ts,hs,n,z0⟩ :=
 eI hx hi ht.pf he.pf (by simp only [v7]; rw [if_pos (by omega),Int.toNat_natCast]) (cH hN) (by rw [hmd.pf]; exact kk)
theorem Bu {t el e m id off e':Nat}{x i:Operand}{kk0:IntKind}{k:Int}[ht:SlT P t el] [he:SzT P el e] (hx:ev (lk ts) x = some (.own id off m e'))
  (hi : ev (lk ts) i = some (.v (.int kk0 k))) (hm : 0 ≤ k ∧ k < m) (hN : Nat.blt d N = true) {md' : Md} [hmd : MdA md (rO x ++ rO i) [.inl d] md'] (kk : RW P N all Q md' rest ⟨(d,.optr id (off + k.toNat * e)) :: ts,hs,n,z0⟩) :
  RW P N all Q md (⟨some d,.indexAddr t x i,ty,pos,af,none⟩ :: rest) ⟨ts,hs,n,z0⟩ :=
 eI hx hi ht.pf he.pf (by simp only [v7]; rw [if_pos hm]) (cH hN) (by rw [hmd.pf]; exact kk)
theorem De {t:TypeId}{x:Operand}{av c:AV}{cs:List AV}[ha:AgT P t false] (hx:ev (lk ts) x = some av)
  (hd : deref (aP hs) av = some cs) (hc : cs[0]? = some c) (hN : Nat.blt d N = true) {md' : Md} [hmd : MdA md (rO x ++ rA av) [.inl d] md'] (kk : RW P N all Q md' rest ⟨(d,c) :: ts,hs,n,z0⟩) : RW P N all Q md (⟨some d,.load t x,ty,pos,af,none⟩ :: rest) ⟨ts,hs,n,z0⟩ := lT hx ha.pf hd hc (cH hN) (by rw [hmd.pf]; exact kk)
theorem EA {t:TypeId}{x:Operand}{av:AV}{z:Nat}{cs cs':List AV}[ha:AgT P t true] [hz:SzT P t z] (hx:ev (lk ts) x = some av)
  (hd : deref (aP hs) av = some cs) (hc : cs.take z = cs') (hn : cs'.length = z) (h0 : Nat.blt 0 z = true) (hN : Nat.blt d N = true) {md' : Md} [hmd : MdA md (rO x ++ rA av) [.inl d] md'] (kk : RW P N all Q md' rest ⟨(d,.agg cs') :: ts,hs,n,z0⟩) :
  RW P N all Q md (⟨some d,.load t x,ty,pos,af,none⟩ :: rest) ⟨ts,hs,n,z0⟩ := j1 hx ha.pf hz.pf hd hc hn (by have := cH h0;omega) (cH hN) (by rw [hmd.pf]; exact kk)
theorem I0 {t el m:Nat}{x:Operand}{av:AV}{l:List TypeId}[ht:SlT P t el] (hx:ev (lk ts) x = some av)
  (hn : (match nO av with | .own _ _ n _ => some n | .imm n _ => some n | _ => none) = some m) (hN : Nat.blt d N = true) {md' : Md} [hmd : MdA md (rO x) [.inl d] md'] (kk : RW P N all Q md' rest ⟨(d,.v (.int .i64 (m : Int))) :: ts,hs,n,z0⟩) :
  RW P N all Q md (⟨some d,.call ⟨.builtin .len,#[x],(t :: l).toArray⟩,ty,pos,af,none⟩ :: rest) ⟨ts,hs,n,z0⟩ := Jf (by simp) hx ht.pf hn (cH hN) (by rw [hmd.pf]; exact kk)
theorem FJ {t:Nat}{x:Operand}{l:List TypeId}{s:ByteArray}[ht:StT P t] (hx:ev (lk ts) x = some (.v (.string s))) (hN:Nat.blt d N = true){md':Md}[hmd:MdA md (rO x) [.inl d] md'] (kk:RW P N all Q md' rest ⟨(d,.v (.int .i64 (s.size:Int))) :: ts,hs,n,z0⟩) :
  RW P N all Q md (⟨some d,.call ⟨.builtin .len,#[x],(t :: l).toArray⟩,ty,pos,af,none⟩ :: rest) ⟨ts,hs,n,z0⟩ := G9 (by simp) hx ht.pf (cH hN) (by rw [hmd.pf]; exact kk)
theorem zF {x:Operand}{i:Nat}{cs:List AV}{c:AV}(hx:ev (lk ts) x = some (.tup cs)) (hc:cs[i]? = some c) (hN:Nat.blt d N = true){md':Md}[hmd:MdA md (rO x) [.inl d] md'] (kk:RW P N all Q md' rest ⟨(d,c) :: ts,hs,n,z0⟩) :
  RW P N all Q md (⟨some d,.extract x i,ty,pos,af,none⟩ :: rest) ⟨ts,hs,n,z0⟩ := zT hx hc (cH hN) (by rw [hmd.pf]; exact kk)
theorem mL {t:TypeId}{parts:Array (Nat × Operand)}{pl:List (Nat × Nat)}{zs:List Value}{l:List (Nat × AV)}{cs:List AV}[hp:PtT P t pl] [hz:ZrT P t zs]
  (hl : evs (lk ts) parts.toList = some l) (hf : gM (pl[·]?) (zs.map .v) l = some cs) (hN : Nat.blt d N = true) {md' : Md} [hmd : MdA md (HJ parts.toList) [.inl d] md'] (kk : RW P N all Q md' rest ⟨(d,.agg cs) :: ts,hs,n,z0⟩) :
  RW P N all Q md (⟨some d,.build t parts,ty,pos,af,none⟩ :: rest) ⟨ts,hs,n,z0⟩ := Dy hp.pf hz.pf hl hf (cH hN) (by rw [hmd.pf]; exact kk)
theorem C7 {t:TypeId}{zs:List Value}[hz:ZrT P t zs] (hM:Nat.blt n aS = true) (hN:Nat.blt d N = true){md':Md}[hmd:MdA md ([]) [.inr n,.inl d] md'] (kk:RW P N all Q md' rest ⟨(d,.optr n 0) :: ts,(n,some (zs.map .v)) :: hs,n + 1,z0⟩) :
  RW P N all Q md (⟨some d,.alloc t,ty,pos,af,none⟩ :: rest) ⟨ts,hs,n,z0⟩ := Db hz.pf hM (cH hN) (by rw [hmd.pf]; exact kk)
theorem I5 {t:TypeId}{x:Operand}{av:AV}{cs:List AV}(hx:ev (lk ts) x = some av) (hc:cellsOf av = some cs) (hM:Nat.blt n aS = true) (hN:Nat.blt d N = true){md':Md}[hmd:MdA md (rO x) [.inr n,.inl d] md'] (kk:RW P N all Q md' rest ⟨(d,.optr n 0) :: ts,(n,some cs) :: hs,n + 1,z0⟩) :
  RW P N all Q md (⟨some d,.box t x,ty,pos,af,none⟩ :: rest) ⟨ts,hs,n,z0⟩ := Ik hx hc hM (cH hN) (by rw [hmd.pf]; exact kk)
theorem kZ {t el len e:Nat}{parts:Array (Nat × Operand)}{zs:List Value}{l:List (Nat × AV)}{cs:List AV}[ht:SlT P t el] [he:SzT P el e] [hz:ZrT P el zs] (hze:zs.length = e) (hsm:Nat.ble (len * e) 16777216 = true)
  (hl : evs (lk ts) parts.toList = some l) (hfl : gM (fun i => some (i * e,e)) ((List.replicate len (zs.map .v)).flatten) l = some cs) (hM : Nat.blt n aS = true) (hN : Nat.blt d N = true) {md' : Md} [hmd : MdA md (HJ parts.toList) [.inr n,.inl d] md'] (kk : RW P N all Q md' rest ⟨(d,.own n 0 len e) :: ts,(n,some cs) :: hs,n + 1,z0⟩) :
  RW P N all Q md (⟨some d,.buildSlice t len parts,ty,pos,af,none⟩ :: rest) ⟨ts,hs,n,z0⟩ := qN ht.pf he.pf hz.pf hze (by simpa using hsm) hl hfl hM (cH hN) (by rw [hmd.pf]; exact kk)
theorem cS {t:TypeId}{x y:Operand}{id off z:Nat}{av:AV}{cs new cs':List AV}[hz:SzT P t z] (hx:ev (lk ts) x = some (.optr id off)) (hy:ev (lk ts) y = some av)
  (hc : cellsOf av = some new) (hn : new.length = z) (hH : aP hs id = some cs) (hl : off + new.length ≤ cs.length) (hcs : jH cs off new = cs')
  {md' : Md} [hmd : MdA md (rO x ++ (rO y ++ [.inr id])) [.inr id] md'] (kk : RW P N all Q md' rest ⟨ts,(id,some cs') :: hs,n,z0⟩) : RW P N all Q md (⟨none,.store t x y,ty,pos,af,none⟩ :: rest) ⟨ts,hs,n,z0⟩ := wB hx hy hz.pf hc hn hH hl hcs (by rw [hmd.pf]; exact kk)
theorem eW {t el id off m m' e by':Nat}{x y:Operand}{av:AV}{cs new cs':List AV}{zs:List Value}[ht:SlT P t el] [he:SzT P el e] [hb:ByT P el by'] [hz:ZrT P el zs]
  (hx : ev (lk ts) x = some (.own id off m e)) (hy : ev (lk ts) y = some av) (hze : zs.length = e) (he0 : Nat.blt 0 e = true)
  (hH : aP hs id = some cs) (hl : off + m * e ≤ cs.length) (hs' : sCells (aP hs) e (nO av) = some (m',new)) (hbig : (m + m') * by' ≤ 140737488355328) (hmx : m + m' ≤ 9223372036854775807)
  (hcs : (cs.drop off).take (m * e) ++ new = cs') (hM : Nat.blt n aS = true) (hN : Nat.blt d N = true) {md' : Md} [hmd : MdA md (rO x ++ (rO y ++ ([.inr id] ++ rA av))) [.inr id,.inr n,.inl d] md'] (kk : RW P N all Q md' rest ⟨(d,.own n 0 (m + m') e) :: ts,(n,some cs') :: (id,none) :: hs,n + 1,z0⟩) :
  RW P N all Q md (⟨some d,.call ⟨.builtin .append,#[x,y],#[t,t]⟩,ty,pos,af,none⟩ :: rest) ⟨ts,hs,n,z0⟩ := BL hx hy ht.pf he.pf hb.pf hz.pf hze (cH he0) rfl hH hl hs' hbig hmx hcs hM (cH hN) (by rw [hmd.pf]; exact kk)
theorem gT {k:FuncId}{args:Array Operand}{tys:Array TypeId}{avs:List AV}{Q1:AV → Prop}[hc:CaT P k] (ha:evL (lk ts) args.toList = some avs) (h:PC P k avs Q1) (hp:aZ avs = true) (hN:Nat.blt d N = true)
  (kk : ∀ r,Q1 r → r.pur = true → RW P N all Q .txt rest ⟨(d,r) :: ts,hs,n,z0⟩) : RW P N all Q .txt (⟨some d,.call ⟨.value (.func k),args,tys⟩,ty,pos,af,none⟩ :: rest) ⟨ts,hs,n,z0⟩ := F2 hc.pf ha h hp (cH hN) kk
theorem aA {k:FuncId}{args:Array Operand}{tys:Array TypeId}{avs:List AV}{r:AV}[hc:CaT P k] (ha:evL (lk ts) args.toList = some avs) (h:PC P k avs (fun x => x = r)) (hp:aZ avs = true) (hN:Nat.blt d N = true)
  {md' : Md} [hmd : MdA md (iD args.toList) [.inl d] md'] (kk : RW P N all Q md' rest ⟨(d,r) :: ts,hs,n,z0⟩) : RW P N all Q md (⟨some d,.call ⟨.value (.func k),args,tys⟩,ty,pos,af,none⟩ :: rest) ⟨ts,hs,n,z0⟩ := Dl hc.pf ha h hp (cH hN) (by rw [hmd.pf]; exact kk)
theorem CC {dst:Option Tmp}{op:Op}{j d:Nat}{want b:Bool}{mdp:Md}[hmp:MdP md (.inl d) mdp] (hj:(all[j]?).bind (·.dst) = some d) (hb:lk ts d = some (.v (.bool b))) (hN:(match dst with | some d => Nat.blt d N | none => true) = true) (hw:b = want)
  (h1 : RW P N all Q mdp (⟨dst,op,ty,pos,af,none⟩ :: rest) ⟨ts,hs,n,z0⟩) : RW P N all Q md (⟨dst,op,ty,pos,af,some (j,want)⟩ :: rest) ⟨ts,hs,n,z0⟩ :=
 oT hj hb (fun d h => by subst h;exact cH hN) (fun _ => hmp.pf ▸ h1) (fun h => by subst hw;cases b <;> simp at h)
theorem EV {c x y:Operand}{b:Bool}{av:AV}(hc:ev (lk ts) c = some (.v (.bool b))) (hb:b = true) (hx:ev (lk ts) x = some av) (hN:Nat.blt d N = true){md':Md}[hmd:MdA md (rO c ++ rO x) [.inl d] md'] (k:RW P N all Q md' rest ⟨(d,av) :: ts,hs,n,z0⟩) :
  RW P N all Q md (⟨some d,.pick c x y,ty,pos,af,none⟩ :: rest) ⟨ts,hs,n,z0⟩ := DX hc hb hx (cH hN) (by rw [hmd.pf]; exact k)
theorem El {c x y:Operand}{b:Bool}{av:AV}(hc:ev (lk ts) c = some (.v (.bool b))) (hb:b = false) (hx:ev (lk ts) y = some av) (hN:Nat.blt d N = true){md':Md}[hmd:MdA md (rO c ++ rO y) [.inl d] md'] (k:RW P N all Q md' rest ⟨(d,av) :: ts,hs,n,z0⟩) :
  RW P N all Q md (⟨some d,.pick c x y,ty,pos,af,none⟩ :: rest) ⟨ts,hs,n,z0⟩ := Eb hc hb hx (cH hN) (by rw [hmd.pf]; exact k)
end
section
variable {P : Program} {N : Nat} {Q : Exit → AS → Prop} {K : AS → Prop} {s : AS}
theorem CD (h:K s):lS K Q .normal s := h
theorem Ii (h:Q .ret s):lS K Q .ret s := h
theorem Gb {i:Nat}(h:Q (.exit i) s):lS K Q (.exit i) s := h
theorem BQ {i:Nat}(h:Q .normal s):BJ i Q .normal s := h
theorem H5 {i:Nat}(h:Q .ret s):BJ i Q .ret s := h
theorem GD {i:Nat}(h:Q .normal s):BJ i Q (.exit i) s := by simp [BJ,h]
theorem aH {res:Array ResultVar}{Q:AV → (Nat → Option (List AV)) → Prop}{l:List AV}(hr:qT P (lk s.ts) (aP s.hs) res.toList = some l) (h:Q (aM l) (aP s.hs)):lJ P res Q .ret s :=
 ⟨.inl rfl,s,l,Le.refl _,hr,h⟩
theorem Aj {res:Array ResultVar}{Q:AV → (Nat → Option (List AV)) → Prop}{l:List AV}(hr:qT P (lk s.ts) (aP s.hs) res.toList = some l) (h:Q (aM l) (aP s.hs)):lJ P res Q .normal s :=
 ⟨.inr rfl,s,l,Le.refl _,hr,h⟩
theorem aT {res:Array ResultVar}{Q:AV → (Nat → Option (List AV)) → Prop}{e:Exit}{s':AS}(hl:Le s s') (h:lJ P res Q e s'):lJ P res Q e s:=by
 obtain ⟨h1,s2,l,h2,h3,h4⟩ := h
 exact ⟨h1,s2,l,fun C a w g => h2 C a w (hl C a w g),h3,h4⟩
theorem Ek {x y:Code}{c:Operand}{b:Bool}(hc:ev (lk s.ts) c = some (.v (.bool b))) (hb:b = true) (h:AW P N x Q s):AW P N (.cond c x y) Q s := uJ hc (fun _ => h) (fun e => by subst hb;cases e)
theorem DG {x y:Code}{c:Operand}{b:Bool}(hc:ev (lk s.ts) c = some (.v (.bool b))) (hb:b = false) (h:AW P N y Q s):AW P N (.cond c x y) Q s := uJ hc (fun e => by subst hb;cases e) (fun _ => h)
end
def cU (b : UInt8) : List AV := [.v (.int .u8 (b.toNat : Int))]
instance : FlT cU 1:=⟨fun _ => rfl⟩
instance : FE cU (fun b => [.v (.int .u8 (b.toNat : Int))]):=⟨fun _ => rfl⟩
instance (n : UInt8) : Pur (cU n):=⟨rfl⟩
theorem HN (b:UInt8):-9223372036854775808 ≤ (b.toNat:Int) ∧ (b.toNat:Int) ≤ 9223372036854775807 := by have := UInt8.toNat_lt b;omega
section
variable {P : Program} {N : Nat} {Q : Exit → AS → Prop} {all : Array Oper} {rest : List Oper} {ts : List (Nat × AV)} {hs : List (Nat × Option (List AV))} {n : Nat} {z0 : Lo} {md : Md}
variable {d : Nat} {ty : TypeId} {pos : String} {af : Array Edge}
theorem Iv {t t':TypeId}{x y:Operand}{m m':Int}(hx:ev (lk ts) x = some (.v (.int .i64 m))) (hy:ev (lk ts) y = some (.v (.int .i64 m')))
  (h : -9223372036854775808 ≤ m * m' ∧ m * m' ≤ 9223372036854775807) (hN : Nat.blt d N = true) {md' : Md} [hmd : MdA md (rO x ++ rO y) [.inl d] md'] (kk : RW P N all Q md' rest ⟨(d,.v (.int .i64 (m * m'))) :: ts,hs,n,z0⟩) : RW P N all Q md (⟨some d,.binOp .mul t x y t',ty,pos,af,none⟩ :: rest) ⟨ts,hs,n,z0⟩ :=
 cY (v := .int .i64 (m * m')) hx hy (.inl rfl) (by simp only [fC,IntWalk.i64_in _ h]) (cH hN) (by rw [hmd.pf]; exact kk)
theorem IT {t t':TypeId}{x y:Operand}{k:IntKind}{m m':Int}(hx:ev (lk ts) x = some (.v (.int k m))) (hy:ev (lk ts) y = some (.v (.int k m')))
  (h : 0 ≤ m ∧ 0 < m') (hN : Nat.blt d N = true) {md' : Md} [hmd : MdA md (rO x ++ rO y) [.inl d] md'] (kk : RW P N all Q md' rest ⟨(d,.v (.int k (m % m'))) :: ts,hs,n,z0⟩) : RW P N all Q md (⟨some d,.binOp .rem t x y t',ty,pos,af,none⟩ :: rest) ⟨ts,hs,n,z0⟩ :=
 cY (v := .int k (m % m')) hx hy (.inl rfl) (by simp only [fC]; rw [if_neg (by omega),Int.tmod_eq_emod_of_nonneg h.1]) (cH hN) (by rw [hmd.pf]; exact kk)
theorem IM {t t':TypeId}{x y:Operand}{m m':Int}(hx:ev (lk ts) x = some (.v (.int .i64 m))) (hy:ev (lk ts) y = some (.v (.int .i64 m')))
  (h : 0 ≤ m ∧ 0 < m' ∧ m ≤ 9223372036854775807) (hN : Nat.blt d N = true) {md' : Md} [hmd : MdA md (rO x ++ rO y) [.inl d] md'] (kk : RW P N all Q md' rest ⟨(d,.v (.int .i64 (m / m'))) :: ts,hs,n,z0⟩) : RW P N all Q md (⟨some d,.binOp .quo t x y t',ty,pos,af,none⟩ :: rest) ⟨ts,hs,n,z0⟩ :=
 cY (v := .int .i64 (m / m')) hx hy (.inl rfl) (by
  have h1 : 0 ≤ m / m' := Int.ediv_nonneg h.1 (by omega)
  have h2 : m / m' ≤ m := Int.ediv_le_self _ h.1
  simp only [fC]; rw [if_neg (by omega),Int.tdiv_eq_ediv_of_nonneg h.1,IntWalk.i64_in _ ⟨by omega,by omega⟩]) (cH hN) (by rw [hmd.pf]; exact kk)
theorem rS {s t:TypeId}{x:Operand}{k':IntKind}{m:Int}[hd:InT P t .i64] [hs':InT P s k'] (hx:ev (lk ts) x = some (.v (.int k' m))) (h:-9223372036854775808 ≤ m ∧ m ≤ 9223372036854775807) (hN:Nat.blt d N = true){md':Md}[hmd:MdA md (rO x) [.inl d] md'] (kk:RW P N all Q md' rest ⟨(d,.v (.int .i64 m)) :: ts,hs,n,z0⟩) :
  RW P N all Q md (⟨some d,.convert s t x,ty,pos,af,none⟩ :: rest) ⟨ts,hs,n,z0⟩ := AB hx hd.pf hs'.pf (cH hN) (by rw [hmd.pf,IntWalk.i64_in _ h]; exact kk)
theorem tN {t el e by' m:Nat}{x y:Operand}{zs:List Value}{k k':IntKind}[ht:SlT P t el] [he:SzT P el e] [hb:ByT P el by'] [hz:ZrT P el zs]
  (hx : ev (lk ts) x = some (.v (.int k (m : Int)))) (hy : ev (lk ts) y = some (.v (.int k' (m : Int)))) (hze : zs.length = e) (hsm : by' * m ≤ 281474976710656) (hmx : m ≤ 9223372036854775807)
  (hM : Nat.blt n aS = true) (hN : Nat.blt d N = true) {md' : Md} [hmd : MdA md (rO x ++ rO y) [.inr n,.inl d] md'] (kk : RW P N all Q md' rest ⟨(d,.own n 0 m e) :: ts,(n,some ((List.replicate m (zs.map .v)).flatten)) :: hs,n + 1,z0⟩) :
  RW P N all Q md (⟨some d,.makeSlice t x y,ty,pos,af,none⟩ :: rest) ⟨ts,hs,n,z0⟩ :=
 tK hx hy ht.pf he.pf hb.pf hz.pf hze hsm hmx hM (cH hN) (by rw [hmd.pf]; exact kk)
theorem xJ {t el:TypeId}{x:Operand}{lo hi:Option Operand}{av out:AV}{m e l h:Nat}[ht:SlT P t el] [he:SzT P el e] (hx:ev (lk ts) x = some av) (hn:J3 av = some m)
  (hl : fL (lk ts) lo 0 = some l) (hh : fL (lk ts) hi m = some h) (hp : IQ e l h av = some out) (hN : Nat.blt d N = true) {md' : Md} [hmd : MdA md (rO x ++ (rB lo ++ rB hi)) [.inl d] md'] (kk : RW P N all Q md' rest ⟨(d,out) :: ts,hs,n,z0⟩) :
  RW P N all Q md (⟨some d,.slice t x lo hi none,ty,pos,af,none⟩ :: rest) ⟨ts,hs,n,z0⟩ :=
 ER hx ht.pf he.pf hn hl hh hp (cH hN) (by rw [hmd.pf]; exact kk)
theorem xM {t el:TypeId}{x i:Operand}{av out:AV}{z e:Nat}{k:IntKind}{m:Int}[ht:ArT P t z el] [he:SzT P el e] (hx:ev (lk ts) x = some av)
  (hi : ev (lk ts) i = some (.v (.int k m))) (hm : 0 ≤ m ∧ m < z) (hp : xP (m.toNat * e) av = some out) (hN : Nat.blt d N = true) {md' : Md} [hmd : MdA md (rO x ++ rO i) [.inl d] md'] (kk : RW P N all Q md' rest ⟨(d,out) :: ts,hs,n,z0⟩) :
  RW P N all Q md (⟨some d,.indexAddr t x i,ty,pos,af,none⟩ :: rest) ⟨ts,hs,n,z0⟩ :=
 wJ hx hi ht.pf he.pf hm hp (cH hN) (by rw [hmd.pf]; exact kk)
theorem Ge {k:FuncId}{args:Array Operand}{tys:Array TypeId}{avs avs2:List AV}{r:AV}[hc:CaT P k] (ha:evL (lk ts) args.toList = some avs) (hl:hJ (aP hs) avs = some avs2) (h:PC P k avs2 (fun x => x = r)) (hfr:r.free = true) (hN:Nat.blt d N = true)
  {md' : Md} [hmd : MdA md (iD args.toList ++ rL avs) [.inl d] md'] (kk : RW P N all Q md' rest ⟨(d,r) :: ts,hs,n,z0⟩) : RW P N all Q md (⟨some d,.call ⟨.value (.func k),args,tys⟩,ty,pos,af,none⟩ :: rest) ⟨ts,hs,n,z0⟩ :=
 FT hc.pf ha hl h hfr (cH hN) (by rw [hmd.pf]; exact kk)
end
theorem mP (m:Int) (h:0 ≤ m ∧ m ≤ 9223372036854775807):(BitVec.ofInt 64 m) = BitVec.ofNat 64 m.toNat:=by
 obtain ⟨k,rfl⟩ := Int.eq_ofNat_of_zero_le h.1
 apply BitVec.eq_of_toInt_eq
 simp [BitVec.toInt_ofInt]
theorem pQ {m:Int}(h:0 ≤ m ∧ m ≤ 9223372036854775807):m.toNat < 2 ^ 63 := by omega
theorem vT {k:Nat}(h:k < 2 ^ 63):IntKind.i64.wrap (k:Int) = (k:Int) := IntWalk.i64_in _ ⟨by omega,by omega⟩
theorem I6 {m m':Int}(h:0 ≤ m ∧ m ≤ 9223372036854775807) (h':0 ≤ m' ∧ m' ≤ 9223372036854775807):fC .xor .i64 m m' = some (.int .i64 ((m.toNat ^^^ m'.toNat:Nat):Int)):=by
 have e : (BitVec.ofInt 64 m ^^^ BitVec.ofInt 64 m').toNat = m.toNat ^^^ m'.toNat := by
  rw [mP m h,mP m' h',BitVec.toNat_xor,BitVec.toNat_ofNat,BitVec.toNat_ofNat,Nat.mod_eq_of_lt (by omega),Nat.mod_eq_of_lt (by omega)]
 simp only [fC]
 rw [show IntKind.i64.bits = 64 from rfl,e,vT (Nat.xor_lt_two_pow (pQ h) (pQ h'))]
section
variable {P : Program} {N : Nat} {Q : Exit → AS → Prop} {all : Array Oper} {rest : List Oper} {ts : List (Nat × AV)} {hs : List (Nat × Option (List AV))} {n : Nat} {z0 : Lo} {md : Md}
variable {d : Nat} {ty : TypeId} {pos : String} {af : Array Edge}
theorem Jb {t t':TypeId}{x y:Operand}{m m':Int}(hx:ev (lk ts) x = some (.v (.int .i64 m))) (hy:ev (lk ts) y = some (.v (.int .i64 m')))
  (h : 0 ≤ m ∧ m ≤ 9223372036854775807) (h' : 0 ≤ m' ∧ m' ≤ 9223372036854775807) (hN : Nat.blt d N = true) {md' : Md} [hmd : MdA md (rO x ++ rO y) [.inl d] md'] (kk : RW P N all Q md' rest ⟨(d,.v (.int .i64 ((m.toNat ^^^ m'.toNat : Nat) : Int))) :: ts,hs,n,z0⟩) : RW P N all Q md (⟨some d,.binOp .xor t x y t',ty,pos,af,none⟩ :: rest) ⟨ts,hs,n,z0⟩ :=
 cY hx hy (.inl rfl) (I6 h h') (cH hN) (by rw [hmd.pf]; exact kk)
theorem Dq {s t:TypeId}{x:Operand}{k':IntKind}{b:UInt8}[hd:InT P t .i64] [hs':InT P s k'] (hx:ev (lk ts) x = some (.v (.int k' (b.toNat:Int)))) (hN:Nat.blt d N = true){md':Md}[hmd:MdA md (rO x) [.inl d] md'] (kk:(b.toNat:Int) ≤ 255 → RW P N all Q md' rest ⟨(d,.v (.int .i64 (b.toNat:Int))) :: ts,hs,n,z0⟩) :
  RW P N all Q md (⟨some d,.convert s t x,ty,pos,af,none⟩ :: rest) ⟨ts,hs,n,z0⟩ := rS hx (HN b) hN (kk (by have := UInt8.toNat_lt b;omega))
theorem zK {dst:Nat}{op:Op}{j d:Nat}{want b:Bool}{md':Md}[hmd:MdA md [.inl d] [.inl dst] md'] (hj:(all[j]?).bind (·.dst) = some d) (hb:lk ts d = some (.v (.bool b))) (hN:Nat.blt dst N = true) (hw:b = !want)
  (h2 : RW P N all Q md' rest ⟨(dst,.v undef) :: ts,hs,n,z0⟩) : RW P N all Q md (⟨some dst,op,ty,pos,af,some (j,want)⟩ :: rest) ⟨ts,hs,n,z0⟩ :=
 oT hj hb (fun d h => by cases h;exact cH hN) (fun h => by subst hw;cases want <;> simp at h) (fun _ => hmd.pf ▸ h2)
theorem BF {dst:Nat}{op:Op}{j d:Nat}{want b:Bool}{mdp:Md}[hmp:MdP md (.inl d) mdp] {md':Md}[hmd:MdA md [.inl d] [.inl dst] md'] (hj:(all[j]?).bind (·.dst) = some d) (hb:lk ts d = some (.v (.bool b))) (hN:Nat.blt dst N = true)
  (h1 : b = want → RW P N all Q mdp (⟨some dst,op,ty,pos,af,none⟩ :: rest) ⟨ts,hs,n,z0⟩) (h2 : b = (!want) → RW P N all Q md' rest ⟨(dst,.v undef) :: ts,hs,n,z0⟩) : RW P N all Q md (⟨some dst,op,ty,pos,af,some (j,want)⟩ :: rest) ⟨ts,hs,n,z0⟩ :=
 oT hj hb (fun d h => by cases h;exact cH hN) (fun e => hmp.pf ▸ h1 e) (fun e => hmd.pf ▸ h2 e)
end
class PurV (v : AV) : Prop where pf : v.pur = true
instance (x : Value) : PurV (.v x):=⟨rfl⟩
instance (n : Nat) (cs : List AV) [h : Pur cs] : PurV (.imm n cs):=⟨h.pf⟩
instance (cs : List AV) [h : Pur cs] : PurV (.iptr cs):=⟨h.pf⟩
instance (cs : List AV) [h : Pur cs] : PurV (.agg cs):=⟨h.pf⟩
instance (cs : List AV) [h : Pur cs] : PurV (.tup cs):=⟨h.pf⟩
instance : Pur []:=⟨rfl⟩
instance (c : AV) (cs : List AV) [h : PurV c] [h2 : Pur cs] : Pur (c :: cs):=⟨by simp only [aZ,h.pf,h2.pf,Bool.and_self]⟩
theorem RnV.purI {ρ:Nat → Option Nat}{v:AV}(h:PurV v):RnV ρ v v := .pur h.pf
theorem RnL.purI {ρ:Nat → Option Nat}{v:List AV}(h:Pur v):RnL ρ v v := .pur h.pf
def nJ (ρ : Nat → Option Nat) (hh : List (Nat × Option (List AV))) : List (Nat × Option (List AV)) → Prop
 | [] => True
 | (_,none) :: l => nJ ρ hh l
 | (i,some cs') :: l => (∃ j cs,ρ j = some i ∧ aP hh j = some cs ∧ RnL ρ cs cs') ∧ nJ ρ hh l
def qA (mp : List Nat) (ws : List (Nat × Option (List AV))) : Bool := mp.all fun i => ws.any fun p => Nat.beq p.1 i
theorem AO {mp:List Nat}{ρ:Nat → Option Nat}{hh ws:List (Nat × Option (List AV))}(h1:qA mp ws = true) (h2:nJ ρ hh ws):WsOk mp ρ hh ws:=by
 refine ⟨fun i hi => ?_,fun i cs' hm => ?_⟩
 ·simp only [qA, List.all_eq_true, List.any_eq_true] at h1
  obtain ⟨⟨j,c⟩,hp,hb⟩ := h1 i hi
  have := Nat.eq_of_beq_eq_true hb
  simp only at this
  subst this
  exact ⟨c,hp⟩
 ·clear h1
  induction ws with
  | nil => simp at hm
  | cons q ws ih =>
   obtain ⟨j,c⟩ := q
   cases c with
   | none =>
    simp only [nJ] at h2
    rcases List.mem_cons.1 hm with e|e
    ·cases e
    ·exact ih h2 e
   | some c =>
    simp only [nJ] at h2
    rcases List.mem_cons.1 hm with e|e
    ·cases e;exact h2.1
    ·exact ih h2.2 e
section
variable {P : Program} {N : Nat} {Q : Exit → AS → Prop} {all : Array Oper} {rest : List Oper} {ts : List (Nat × AV)} {hs : List (Nat × Option (List AV))} {n : Nat} {z0 : Lo} {md : Md}
variable {ty : TypeId} {pos : String} {af : Array Edge}
theorem BW {d:Nat}{k:FuncId}{args:Array Operand}{tys:Array TypeId}{avs avs0:List AV}{H0:List (Nat × Option (List AV))}{rr rr':AV}{hh:List (Nat × Option (List AV))}
  (mp : List Nat) (n1 : Nat) (ws : List (Nat × Option (List AV))) (h : MC P k avs0 H0 mp.length (fun _ : Unit => True) (fun _ => rr) (fun _ => hh)) [hc : CaT P k] (ha : evL (lk ts) args.toList = some avs) (hd : distinct mp = true)
  (hH0 : nI hs H0 mp 0 mp) (hk : eN mp.length H0 = true) (har : RnL (mp[·]?) avs0 avs) (hM : Nat.ble (n + (n1 - mp.length)) aS = true)
  (hr : RnV (r9 mp n n1) rr rr') (hwa : qA mp ws = true) (hw : nJ (r9 mp n n1) hh ws) (hN : Nat.blt d N = true)
  {md' : Md} [hmd : MdA md (iD args.toList ++ mp.map .inr) (ws.map (fun p => .inr p.1) ++ [.inl d]) md']
  (kk : RW P N all Q md' rest ⟨(d,rr') :: ts,kO hs ws,n + (n1 - mp.length),z0⟩) : RW P N all Q md (⟨some d,.call ⟨.value (.func k),args,tys⟩,ty,pos,af,none⟩ :: rest) ⟨ts,hs,n,z0⟩ :=
 BD mp n1 hc.pf ha h hd hH0 hk har hM hr (AO hwa hw) (fun x e => by cases e;exact cH hN) (by simp only [wD]; rw [hmd.pf]; exact kk)
theorem Fb {σ:Type}{d:Nat}{k:FuncId}{args:Array Operand}{tys:Array TypeId}{avs avs0:List AV}{H0:List (Nat × Option (List AV))}{p:σ → Prop}{rr rr':σ → AV}{hh:σ → List (Nat × Option (List AV))}
  (mp : List Nat) (n1 : Nat) (ws : σ → List (Nat × Option (List AV))) (h : MC P k avs0 H0 mp.length p rr hh) [hc : CaT P k] (ha : evL (lk ts) args.toList = some avs) (hd : distinct mp = true)
  (hH0 : nI hs H0 mp 0 mp) (hk : eN mp.length H0 = true) (har : RnL (mp[·]?) avs0 avs) (hM : Nat.ble (n + (n1 - mp.length)) aS = true)
  (hr : ∀ x,p x → RnV (r9 mp n n1) (rr x) (rr' x)) (hwa : ∀ x,p x → qA mp (ws x) = true) (hw : ∀ x,p x → nJ (r9 mp n n1) (hh x) (ws x)) (hN : Nat.blt d N = true)
  (kk : ∀ x,p x → RW P N all Q .txt rest ⟨(d,rr' x) :: ts,kO hs (ws x),n + (n1 - mp.length),z0⟩) : RW P N all Q .txt (⟨some d,.call ⟨.value (.func k),args,tys⟩,ty,pos,af,none⟩ :: rest) ⟨ts,hs,n,z0⟩ :=
 EF mp n1 hc.pf ha h hd hH0 hk har hM hr (fun x hx => AO (hwa x hx) (hw x hx)) (fun x e => by cases e;exact cH hN) kk
end
theorem Gl {α:Type}[Inhabited α] {f g:α → List AV}{e:Nat}[h:FlT f e] [hg:FE f g] {xs:List α}{k j:Nat}{c:AV}(hk:k < xs.length) (hc:(g xs[k]!)[j]? = some c):((flat f xs).drop (0 + k * e + j))[0]? = some c:=by
 rw [Nat.zero_add,← List.drop_drop,dY f xs k hk]
 rw [← hg.pf] at hc
 have hj : j < (f xs[k]!).length := by
  rcases Nat.lt_or_ge j (f xs[k]!).length with q|q
  ·exact q
  ·rw [List.getElem?_eq_none q] at hc;cases hc
 rw [List.drop_append_of_le_length (Nat.le_of_lt hj),List.getElem?_append_left (by rw [List.length_drop]; omega),List.getElem?_drop,Nat.add_zero]
 exact hc
section
variable {P : Program} {N : Nat} {Q : Exit → AS → Prop} {all : Array Oper} {rest : List Oper} {ts : List (Nat × AV)} {hs : List (Nat × Option (List AV))} {n : Nat} {z0 : Lo} {md : Md}
variable {d : Nat} {ty : TypeId} {pos : String} {af : Array Edge}
theorem Cm {α:Type}{hα:Inhabited α}{f g:α → List AV}{xs:List α}{e id k:Nat}{t:TypeId}{x:Operand}{c:AV}[ha:AgT P t false] (hx:ev (lk ts) x = some (.optr id (0 + k * e)))
  (hH : aP hs id = some (flat f xs)) (hf : FlT f e) (hg : FE f g) (hk : k < xs.length) (hc : (g xs[k]!)[0]? = some c) (hN : Nat.blt d N = true) {md' : Md} [hmd : MdA md (rO x ++ rA (.optr id (0 + k * e))) [.inl d] md']
  (kk : RW P N all Q md' rest ⟨(d,c) :: ts,hs,n,z0⟩) : RW P N all Q md (⟨some d,.load t x,ty,pos,af,none⟩ :: rest) ⟨ts,hs,n,z0⟩ :=
 lT (cs := (flat f xs).drop (0 + k * e)) hx ha.pf (by simp only [deref,hH,Option.map_some]) (Gl (f := f) (j := 0) hk hc) (cH hN) (by rw [hmd.pf]; exact kk)
theorem Ck {α:Type}{hα:Inhabited α}{f g:α → List AV}{xs:List α}{e id k:Nat}{t:TypeId}{x:Operand}[ha:AgT P t true] [hz:SzT P t e] (hx:ev (lk ts) x = some (.optr id (0 + k * e)))
  (hH : aP hs id = some (flat f xs)) (hf : FlT f e) (hg : FE f g) (hk : k < xs.length) (h0 : Nat.blt 0 e = true) (hN : Nat.blt d N = true) {md' : Md} [hmd : MdA md (rO x ++ rA (.optr id (0 + k * e))) [.inl d] md']
  (kk : RW P N all Q md' rest ⟨(d,.agg (g xs[k]!)) :: ts,hs,n,z0⟩) : RW P N all Q md (⟨some d,.load t x,ty,pos,af,none⟩ :: rest) ⟨ts,hs,n,z0⟩ :=
 j1 (cs := (flat f xs).drop (0 + k * e)) hx ha.pf hz.pf (by simp only [deref,hH,Option.map_some]) (cs' := g xs[k]!) (by rw [Nat.zero_add,dY f xs k hk,← hg.pf]; exact List.take_left' (hf.pf _)) (by rw [← hg.pf]; exact hf.pf _) (by have := cH h0;omega) (cH hN) (by rw [hmd.pf]; exact kk)
end
theorem w6 {w:World}{bad:Nat → Prop}{ι:Pl}{n k:Nat}{cs:List AV}{y:Value}(h:Rd w bad ι (.imm n cs) y):Rd w bad ι (.imm n (cs.take k)) y:=by
 simp only [Rd] at h ⊢
 obtain ⟨a,c,rfl,h⟩ := h
 refine ⟨a,c,rfl,?_⟩
 rcases h with h | ⟨b,o,hn,rfl,h⟩
 ·exact .inl h
 ·refine .inr ⟨b, o, hn, rfl, ?_⟩
  rcases h with h | ⟨hb,h⟩
  ·subst h;exact .inl (by simp)
  ·exact .inr ⟨hb,RdC.take k h⟩
section
variable {P : Program} {N : Nat} {Q : Exit → AS → Prop} {all : Array Oper} {rest : List Oper} {ts : List (Nat × AV)} {hs : List (Nat × Option (List AV))} {n : Nat} {z0 : Lo} {md : Md}
variable {d : Nat} {ty : TypeId} {pos : String} {af : Array Edge}
theorem By {α:Type}{f:α → List AV}{xs:List α}{t el:TypeId}{x:Operand}{lo hi:Option Operand}{e l h:Nat}[ht:SlT P t el] [he:SzT P el e] (hx:ev (lk ts) x = some (sl f xs)) (hf:FlT f e)
  (hl : fL (lk ts) lo 0 = some l) (hh : fL (lk ts) hi xs.length = some h) (hb : l ≤ h ∧ h ≤ xs.length) (hN : Nat.blt d N = true) {md' : Md} [hmd : MdA md (rO x ++ (rB lo ++ rB hi)) [.inl d] md']
  (kk : RW P N all Q md' rest ⟨(d,sl f ((xs.drop l).take (h - l))) :: ts,hs,n,z0⟩) : RW P N all Q md (⟨some d,.slice t x lo hi none,ty,pos,af,none⟩ :: rest) ⟨ts,hs,n,z0⟩ := by
 refine cR (rs := rO x ++ (rB lo ++ rB hi)) (out := sl f ((xs.drop l).take (h - l))) rfl rfl (cH hN) (fun C ι F T H a w ag g gh => ?_) (by rw [hmd.pf]; exact kk)
 obtain ⟨y,h1,h2⟩ := wH (P := P) (o := ⟨some d,.slice t x lo hi none,ty,pos,af,none⟩) (out := .imm (h - l) ((flat f xs).drop (l * e))) g rfl (ag.l.ev.trans hx) ht.pf he.pf rfl (ag.r.l.bnd.trans hl) (ag.r.r.bnd.trans hh) (by simp only [IQ]; rw [if_pos hb])
 refine ⟨y,h1,?_⟩
 have hlen : ((xs.drop l).take (h - l)).length = h - l := by rw [List.length_take,List.length_drop]; omega
 show Rd w _ ι (.imm ((xs.drop l).take (h - l)).length (flat f ((xs.drop l).take (h - l)))) y
 rw [hlen,← eY f,← gE f]
 exact w6 h2
end
theorem Bp {w:World}{bad:Nat → Prop}{ι:Pl}:∀ {cs:List AV}{l:List Value},RdL w bad ι cs l → RdL w bad ι (cs.map nO) l
 | [],l,h => by simpa only [RdL,List.map_nil] using h
 | c :: cs, l, h => by
  simp only [RdL,List.map_cons] at h ⊢
  obtain ⟨x,l',h0,h1,h2,h3⟩ := h
  exact ⟨x,l',h0,h1,iT h2,Bp h3⟩
section
variable {P : Program} {N : Nat} {Q : Exit → AS → Prop} {all : Array Oper} {rest : List Oper} {ts : List (Nat × AV)} {hs : List (Nat × Option (List AV))} {n : Nat} {z0 : Lo} {md : Md}
variable {d : Nat} {ty : TypeId} {pos : String} {af : Array Edge}
theorem CH {t:TypeId}{parts:Array (Nat × Operand)}{pl:List (Nat × Nat)}{zs:List Value}{l:List (Nat × AV)}{cs cs':List AV}[hp:PtT P t pl] [hz:ZrT P t zs]
  (hl : evs (lk ts) parts.toList = some l) (hf : gM (pl[·]?) (zs.map .v) l = some cs) (hk : cs.map nO = cs') (hN : Nat.blt d N = true) {md' : Md} [hmd : MdA md (HJ parts.toList) [.inl d] md'] (kk : RW P N all Q md' rest ⟨(d,.agg cs') :: ts,hs,n,z0⟩) :
  RW P N all Q md (⟨some d,.build t parts,ty,pos,af,none⟩ :: rest) ⟨ts,hs,n,z0⟩ := by
 subst hk
 refine cR (rs := HJ parts.toList) (out := .agg (cs.map nO)) rfl rfl (cH hN) (fun C ι F T H a w ag g gh => ?_) (by rw [hmd.pf]; exact kk)
 obtain ⟨y,h1,h2⟩ := wY (P := P) (o := ⟨some d,.build t parts,ty,pos,af,none⟩) g rfl hp.pf hz.pf (ag.evs.trans hl) hf
 refine ⟨y,h1,?_⟩
 simp only [Rd] at h2 ⊢
 obtain ⟨l',h3,h4⟩ := h2
 exact ⟨l',h3,Bp h4⟩
end
theorem EE {σ:Type}{P:Program}{k:FuncId}{fn:Func}{c:Code}{args:List AV}{H0:List (Nat × Option (List AV))}{n:Nat}{p:σ → Prop}{rr:σ → AV}{hh:σ → List (Nat × Option (List AV))}(hf:P.funcs[k]? = some fn) (hb:fn.body = some c)
  (hN : args.length ≤ fn.ntmps) (h : AW P fn.ntmps c (lJ P fn.results (fun r H' => ∃ x,p x ∧ r = rr x ∧ ∀ id cs,aP (hh x) id = some cs → H' id = some cs)) ⟨fQ 0 args,H0,n,⟨n,aS⟩⟩) : MC P k args H0 n p rr hh :=
 lQ hf hb hN h
theorem bQ {σ:Type}{s:AS}{r:AV}{p:σ → Prop}{rr:σ → AV}{hh:σ → List (Nat × Option (List AV))}(x:σ) (hp:p x) (hr:r = rr x) (hh':lH s.hs (hh x)):∃ x,p x ∧ r = rr x ∧ ∀ id cs,aP (hh x) id = some cs → aP s.hs id = some cs :=
 ⟨x,hp,hr,lO hh'⟩
def uW : List (Nat × Nat) → Nat → Option Nat
 | [],_ => none
 | (t,v) :: l,u => cond (Nat.beq u t) (some v) (uW l u)
theorem Ex (t v:Nat) (l:List (Nat × Nat)) (u:Nat):uW ((t,v) :: l) u = if u = t then some v else uW l u:=by
 simp only [uW]
 by_cases h : u = t
 ·subst h;simp
 ·rw [if_neg h]
  have : Nat.beq u t = false := by
   cases hb : Nat.beq u t with
   | false => rfl
   | true => exact absurd (Nat.eq_of_beq_eq_true hb) h
  rw [this]; rfl
def x7 (m : List (Nat × Nat)) (lo : Lo) (id : Nat) : Option Nat := if id < lo.lo then some id else match uW m id with
 | some j => some j
 | none => if aS ≤ id ∧ id < lo.fb then some id else none
def JR (m : List (Nat × Nat)) (lo : Lo) : AV → Option AV
 | .own id o n e => (x7 m lo id).map fun j => .own j o n e
 | .optr id o => (x7 m lo id).map fun j => .optr j o
 | _ => none
def Gy (m : List (Nat × Nat)) (lo : Lo) (v v0 : AV) : Prop := (v0 = v ∧ v.pur = true) ∨ JR m lo v = some v0
inductive All2 {α β : Type} (R : α → β → Prop) : List α → List β → Prop
 | nil : All2 R [] []
 | cons {a b l l'} : R a b → All2 R l l' → All2 R (a :: l) (b :: l')
theorem All2.len {α β:Type}{R:α → β → Prop}{l:List α}{l':List β}(h:All2 R l l'):l.length = l'.length:=by
 induction h with
 | nil => rfl
 | cons _ _ ih => simp [ih]
def Ip (m : List (Nat × Nat)) (lo : Lo) (cs cs0 : List AV) : Prop := (cs0 = cs ∧ aZ cs = true) ∨ All2 (Gy m lo) cs cs0
def EN (m : List (Nat × Nat)) (lo : Lo) (l : List (Nat × AV)) : List (Nat × AV) → Prop
 | [] => True
 | (t,v) :: l' => (∃ v0,lk l t = some v0 ∧ Gy m lo v v0) ∧ EN m lo l l'
def yH (m : List (Nat × Nat)) (lo : Lo) (l : List (Nat × Option (List AV))) : List (Nat × Option (List AV)) → Prop
 | [] => True
 | (t,none) :: l' => yH m lo l l'
 | (t,some cs) :: l' => (∃ j cs0,x7 m lo t = some j ∧ aP l j = some cs0 ∧ Ip m lo cs cs0) ∧ yH m lo l l'
theorem Bt {m:List (Nat × Nat)}{lo:Lo}{l:List (Nat × AV)}:∀ {l':List (Nat × AV)},EN m lo l l' → ∀ t v,lk l' t = some v → ∃ v0,lk l t = some v0 ∧ Gy m lo v v0
 | [],_,t,v,h => by simp [lk] at h
 | (u, x) :: l', hr, t, v, h => by
  simp only [EN] at hr
  simp only [iZ] at h
  split at h
  ·rename_i e;subst e;cases h;exact hr.1
  ·exact Bt hr.2 t v h
theorem kH {m:List (Nat × Nat)}{lo:Lo}{l:List (Nat × Option (List AV))}:∀ {l':List (Nat × Option (List AV))},yH m lo l l' → ∀ t cs,aP l' t = some cs →
  ∃ j cs0,x7 m lo t = some j ∧ aP l j = some cs0 ∧ Ip m lo cs cs0
 | [],_,t,v,h => by simp [aP] at h
 | (u, none) :: l', hr, t, v, h => by
  simp only [yH] at hr
  simp only [bW] at h
  split at h
  ·cases h
  ·exact kH hr t v h
 | (u, some x) :: l', hr, t, v, h => by
  simp only [yH] at hr
  simp only [bW] at h
  split at h
  ·rename_i e;subst e;cases h;exact hr.1
  ·exact kH hr.2 t v h
def Fp (lo n' : Nat) : List (Nat × Nat) → Bool
 | [] => true
 | (a,b) :: l => Nat.ble lo a && Nat.blt a n' && (Nat.ble lo b && (Nat.blt a aS && Nat.blt b aS)) && l.all (fun p => !Nat.beq p.1 a && !Nat.beq p.2 b) && Fp lo n' l
theorem gR {lo n':Nat}:∀ {m:List (Nat × Nat)},Fp lo n' m = true → ∀ a b,uW m a = some b → lo ≤ a ∧ a < n' ∧ lo ≤ b ∧ a < aS ∧ b < aS
 | [],_,a,b,h => by simp [uW] at h
 | (u, v) :: l, hk, a, b, h => by
  simp only [Fp,Bool.and_eq_true] at hk
  obtain ⟨⟨⟨⟨h1,h2⟩,h3⟩,_⟩,h5⟩ := hk
  simp only [Ex] at h
  split at h
  ·rename_i e
   subst e;cases h
   have q1 := Nat.le_of_ble_eq_true h1
   have q2 := cH h2
   have q3 := Nat.le_of_ble_eq_true h3.1
   exact ⟨q1,q2,q3,cH h3.2.1,cH h3.2.2⟩
  ·exact gR h5 a b h
theorem sO:∀ {m:List (Nat × Nat)}{a b:Nat},uW m a = some b → (a,b) ∈ m
 | [],a,b,h => by simp [uW] at h
 | (u, v) :: l, a, b, h => by
  simp only [Ex] at h
  split at h
  ·rename_i e;subst e;cases h;simp
  ·exact List.mem_cons_of_mem _ (sO h)
theorem tY {lo n':Nat}:∀ {m:List (Nat × Nat)},Fp lo n' m = true → ∀ a a' b,uW m a = some b → uW m a' = some b → a = a'
 | [],_,a,a',b,h,_ => by simp [uW] at h
 | (u, v) :: l, hk, a, a', b, h, h' => by
  simp only [Fp,Bool.and_eq_true] at hk
  obtain ⟨⟨_,h4⟩,h5⟩ := hk
  have key : ∀ x, uW l x = some v → False := by
   intro x hx
   have hm := sO hx
   rw [List.all_eq_true] at h4
   have := h4 _ hm
   simp at this
  simp only [Ex] at h h'
  split at h
  ·rename_i e
   split at h'
   ·rename_i e'; omega
   ·cases h;exact (key _ h').elim
  ·split at h'
   ·cases h'; exact (key _ h).elim
   ·exact tY h5 a a' b h h'
theorem Le.ren (m:List (Nat × Nat)){ts ts':List (Nat × AV)}{hs hs':List (Nat × Option (List AV))}{n n':Nat}{lo:Lo}(hm:Fp lo.lo n' m = true) (hn:lo.lo ≤ n') (h1:EN m lo ts ts') (h2:yH m lo hs hs') :
  Le ⟨ts,hs,n,lo⟩ ⟨ts',hs',n',lo⟩ := by
 rintro C a w ⟨h0,ι,g,gh⟩
 let ι' : Pl := fun id => match x7 m lo id with|some j => ι j|none => none
 have hlow : ∀ id,id < lo.lo → ι' id = ι id := fun id h => by simp [ι',x7,h]
 have hto : ∀ id j, x7 m lo id = some j → ι' id = ι j := by
  intro id j h
  simp only [ι',h]
 have hcs0 : ∀ a b, x7 m lo a = some b → (a < lo.lo ∧ b = a) ∨ (lo.lo ≤ a ∧ uW m a = some b) ∨ (lo.lo ≤ a ∧ (aS ≤ a ∧ a < lo.fb) ∧ b = a) := by
  intro a b q
  unfold x7 at q
  split at q
  ·rename_i h;cases q;exact .inl ⟨h,rfl⟩
  ·rename_i h
   split at q
   ·rename_i j hj;cases q;exact .inr (.inl ⟨by omega,hj⟩)
   ·split at q
    ·rename_i h3;cases q;exact .inr (.inr ⟨by omega,h3,rfl⟩)
    ·cases q
 have hinj : ∀ a a' b, x7 m lo a = some b → x7 m lo a' = some b → a = a' := by
  intro a a' b q q'
  rcases hcs0 a b q with ⟨e1,e2⟩ | ⟨e1,e2⟩ | ⟨e1,e2,e3⟩ <;> rcases hcs0 a' b q' with ⟨f1,f2⟩ | ⟨f1,f2⟩ | ⟨f1,f2,f3⟩
  ·omega
  ·have := gR hm _ _ f2;omega
  ·omega
  ·have := gR hm _ _ e2;omega
  ·exact tY hm _ _ _ e2 f2
  ·have := gR hm _ _ e2;omega
  ·omega
  ·have := gR hm _ _ f2;omega
  ·omega
 have hbad : ∀ b, aE C.X ι' (aP hs') b → aE C.X ι (aP hs) b := by
  rintro b (h | ⟨id,cs,β,q1,q2⟩)
  ·exact .inl h
  ·obtain ⟨j, cs0, q3, q4, _⟩ := kH h2 id cs q1
   rw [hto _ _ q3] at q2
   exact .inr ⟨j,cs0,β,q4,q2⟩
 have hc0 : Carry w (aE C.X ι (aP hs)) ι w (aE C.X ι' (aP hs')) ι := ⟨fun b o x q1 q2 => ⟨fun h => q1 (hbad b h),q2⟩,fun _ _ h => h,fun _ => Nat.le_refl _⟩
 have hv : ∀ v v0 y, Gy m lo v v0 → Rd w (aE C.X ι (aP hs)) ι v0 y → Rd w (aE C.X ι' (aP hs')) ι' v y := by
  intro v v0 y hr hy
  rcases hr with ⟨rfl,hp⟩|hr
  ·exact Rd.pur _ y hp (Rd.carry hc0 _ _ hy)
  ·cases v <;> simp only [JR] at hr <;> first | (cases hr; done) | skip
   ·rename_i id o k e
    cases hj : x7 m lo id with
    | none => simp [hj] at hr
    | some j =>
     simp only [hj,Option.map_some,Option.some.injEq] at hr
     subst hr
     simp only [Rd,hto _ _ hj] at hy ⊢
     exact hy
   ·rename_i id o
    cases hj : x7 m lo id with
    | none => simp [hj] at hr
    | some j =>
     simp only [hj,Option.map_some,Option.some.injEq] at hr
     subst hr
     simp only [Rd,hto _ _ hj] at hy ⊢
     exact hy
 have hcs : ∀ cs cs0 b o, Ip m lo cs cs0 → RdC w (aE C.X ι (aP hs)) ι cs0 b o → RdC w (aE C.X ι' (aP hs')) ι' cs b o := by
  intro cs cs0 b o hr hy
  rcases hr with ⟨rfl,hp⟩|hf
  ·exact RdC.pur _ b o hp (RdC.carryB hc0 _ _ _ (fun o x hx => hx) hy)
  ·induction hf generalizing o with
   | nil => simp only [RdC]
   | cons h1 _ ih =>
    simp only [RdC] at hy ⊢
    obtain ⟨⟨x,q1,q2,q3⟩,q4⟩ := hy
    exact ⟨⟨x,q1,q2,hv _ _ _ h1 q3⟩,ih _ q4⟩
 refine ⟨h0,ι',⟨g.df,g.sz,fun t v ht => ?_⟩,⟨fun id cs h => ?_,fun id id' cs cs' b β β' q1 q2 q3 q4 => ?_,gh.fr,fun id p hp => ?_,fun id hid => ?_⟩⟩
 ·obtain ⟨v0, q1, q2⟩ := Bt h1 t v ht
  obtain ⟨y,q3,q4⟩ := g.tm t v0 q1
  exact ⟨y,q3,hv _ _ _ q2 q4⟩
 ·obtain ⟨j, cs0, q3, q4, q5⟩ := kH h2 id cs h
  have hlen : cs.length = cs0.length := by
   rcases q5 with ⟨rfl,_⟩|hf
   ·rfl
   ·exact hf.len
  rcases gh.obj j cs0 q4 with ⟨p1,p2⟩ | ⟨b,β,arr,e,p1,p2,p3,p4,p5,p6⟩
  ·refine .inl ⟨by rw [hto _ _ q3]; exact p1, ?_⟩
   subst p2;exact List.eq_nil_of_length_eq_zero hlen
  ·exact .inr ⟨b,β,arr,e,by rw [hto _ _ q3]; exact p1,p2,by rw [hlen]; exact p3,hcs _ _ _ _ q5 p4,p5,p6⟩
 ·obtain ⟨j, c1, r1, r2, _⟩ := kH h2 id cs q1
  obtain ⟨j',c2,r3,r4,_⟩ := kH h2 id' cs' q2
  rw [hto _ _ r1] at q3
  rw [hto _ _ r3] at q4
  have := gh.sep _ _ _ _ _ _ _ r2 r4 q3 q4
  subst this
  exact hinj _ _ _ r1 r3
 ·have hl : id < lo.lo ∨ (lo.lo ≤ id ∧ aS ≤ id ∧ id < lo.fb) := by
   rcases Nat.lt_or_ge id lo.lo with h|h
   ·exact .inl h
   ·rcases h0 id h with h1 | h1
    ·exact .inr ⟨h,h1⟩
    ·rw [h1] at hp;cases hp
  rcases hl with hl | ⟨hl,h1,h2⟩
  ·rw [hlow id hl]; exact gh.ex id p hp
  ·have : x7 m lo id = some id := by
    unfold x7
    rw [if_neg (by omega)]
    cases hj : uW m id with
    | some j => have := gR hm _ _ hj;omega
    | none => simp [h1,h2]
   rw [hto _ _ this]; exact gh.ex id p hp
 ·show ι' id = none
  simp only [ι']
  cases hj : x7 m lo id with
  | none => rfl
  | some j =>
   have h3 : n' ≤ id := hid.1
   have h4 : id < aS ∨ lo.fb ≤ id := hid.2
   rcases hcs0 id j hj with ⟨e1,e2⟩ | ⟨e1,e2⟩ | ⟨e1,e2,e3⟩
   ·omega
   ·have := gR hm _ _ e2;omega
   ·omega
end Go.AL
namespace Go.Proofs.YtgkalkgplcdnkaaGreatDoor
open Go.AL
instance : SzT Tryz.prog 3 1:=⟨by kernel_rfl⟩
instance : ByT Tryz.prog 3 8:=⟨by kernel_rfl⟩
instance : AgT Tryz.prog 3 false:=⟨by kernel_rfl⟩
instance : InT Tryz.prog 3 .i64:=⟨by kernel_rfl⟩
instance : ZrT Tryz.prog 3 [.int .i64 0]:=⟨by kernel_rfl⟩
instance : SzT Tryz.prog 4 1:=⟨by kernel_rfl⟩
instance : ByT Tryz.prog 4 1:=⟨by kernel_rfl⟩
instance : AgT Tryz.prog 4 false:=⟨by kernel_rfl⟩
instance : ZrT Tryz.prog 4 [.bool false]:=⟨by kernel_rfl⟩
instance : SzT Tryz.prog 5 1:=⟨by kernel_rfl⟩
instance : AgT Tryz.prog 5 false:=⟨by kernel_rfl⟩
instance : InT Tryz.prog 5 .u8:=⟨by kernel_rfl⟩
instance : ZrT Tryz.prog 5 [.int .u8 0]:=⟨by kernel_rfl⟩
instance : SzT Tryz.prog 9 1:=⟨by kernel_rfl⟩
instance : AgT Tryz.prog 9 false:=⟨by kernel_rfl⟩
instance : StT Tryz.prog 9:=⟨by kernel_rfl⟩
instance : ZrT Tryz.prog 9 [.string ⟨#[]⟩]:=⟨by kernel_rfl⟩
instance : SzT Tryz.prog 22 1:=⟨by kernel_rfl⟩
instance : AgT Tryz.prog 22 false:=⟨by kernel_rfl⟩
instance : SlT Tryz.prog 22 3:=⟨by kernel_rfl⟩
instance : SzT Tryz.prog 23 1:=⟨by kernel_rfl⟩
instance : AgT Tryz.prog 23 false:=⟨by kernel_rfl⟩
instance : SlT Tryz.prog 23 86:=⟨by kernel_rfl⟩
instance : SzT Tryz.prog 25 2:=⟨by kernel_rfl⟩
instance : AgT Tryz.prog 25 true:=⟨by kernel_rfl⟩
instance : FdT Tryz.prog 25 0 0 22:=⟨by kernel_rfl⟩
instance : FdT Tryz.prog 25 1 1 23:=⟨by kernel_rfl⟩
instance : SzT Tryz.prog 27 3:=⟨by kernel_rfl⟩
instance : AgT Tryz.prog 27 true:=⟨by kernel_rfl⟩
instance : FdT Tryz.prog 27 0 0 3:=⟨by kernel_rfl⟩
instance : FdT Tryz.prog 27 1 1 3:=⟨by kernel_rfl⟩
instance : FdT Tryz.prog 27 2 2 3:=⟨by kernel_rfl⟩
instance : SzT Tryz.prog 30 1:=⟨by kernel_rfl⟩
instance : AgT Tryz.prog 30 false:=⟨by kernel_rfl⟩
instance : SlT Tryz.prog 30 94:=⟨by kernel_rfl⟩
instance : SzT Tryz.prog 32 2:=⟨by kernel_rfl⟩
instance : AgT Tryz.prog 32 true:=⟨by kernel_rfl⟩
instance : FdT Tryz.prog 32 0 0 22:=⟨by kernel_rfl⟩
instance : FdT Tryz.prog 32 1 1 30:=⟨by kernel_rfl⟩
instance : PtT Tryz.prog 32 [(0,1),(1,1)]:=⟨by kernel_rfl⟩
instance : ZrT Tryz.prog 32 [.slice none 0 0,.slice none 0 0]:=⟨by kernel_rfl⟩
instance : SzT Tryz.prog 34 3:=⟨by kernel_rfl⟩
instance : ByT Tryz.prog 34 24:=⟨by kernel_rfl⟩
instance : AgT Tryz.prog 34 true:=⟨by kernel_rfl⟩
instance : FdT Tryz.prog 34 0 0 3:=⟨by kernel_rfl⟩
instance : FdT Tryz.prog 34 1 1 3:=⟨by kernel_rfl⟩
instance : FdT Tryz.prog 34 2 2 3:=⟨by kernel_rfl⟩
instance : PtT Tryz.prog 34 [(0,1),(1,1),(2,1)]:=⟨by kernel_rfl⟩
instance : ZrT Tryz.prog 34 [.int .i64 0,.int .i64 0,.int .i64 0]:=⟨by kernel_rfl⟩
instance : SzT Tryz.prog 38 1:=⟨by kernel_rfl⟩
instance : AgT Tryz.prog 38 false:=⟨by kernel_rfl⟩
instance : SlT Tryz.prog 38 5:=⟨by kernel_rfl⟩
instance : SlT Tryz.prog 41 34:=⟨by kernel_rfl⟩
instance : SzT Tryz.prog 51 1:=⟨by kernel_rfl⟩
instance : AgT Tryz.prog 51 false:=⟨by kernel_rfl⟩
instance : SlT Tryz.prog 51 56:=⟨by kernel_rfl⟩
instance : SzT Tryz.prog 56 5:=⟨by kernel_rfl⟩
instance : ByT Tryz.prog 56 56:=⟨by kernel_rfl⟩
instance : AgT Tryz.prog 56 true:=⟨by kernel_rfl⟩
instance : FdT Tryz.prog 56 0 0 3:=⟨by kernel_rfl⟩
instance : FdT Tryz.prog 56 1 1 3:=⟨by kernel_rfl⟩
instance : FdT Tryz.prog 56 2 2 3:=⟨by kernel_rfl⟩
instance : FdT Tryz.prog 56 3 3 3:=⟨by kernel_rfl⟩
instance : FdT Tryz.prog 56 4 4 22:=⟨by kernel_rfl⟩
instance : PtT Tryz.prog 56 [(0,1),(1,1),(2,1),(3,1),(4,1)]:=⟨by kernel_rfl⟩
instance : ZrT Tryz.prog 56 [.int .i64 0,.int .i64 0,.int .i64 0,.int .i64 0,.slice none 0 0]:=⟨by kernel_rfl⟩
instance : FdT Tryz.prog 82 0 0 32:=⟨by kernel_rfl⟩
instance : FdT Tryz.prog 82 1 2 51:=⟨by kernel_rfl⟩
instance : PtT Tryz.prog 82 [(0,2),(2,1)]:=⟨by kernel_rfl⟩
instance : ZrT Tryz.prog 82 [.slice none 0 0,.slice none 0 0,.slice none 0 0]:=⟨by kernel_rfl⟩
instance : SzT Tryz.prog 86 6:=⟨by kernel_rfl⟩
instance : AgT Tryz.prog 86 true:=⟨by kernel_rfl⟩
instance : FdT Tryz.prog 86 0 0 3:=⟨by kernel_rfl⟩
instance : FdT Tryz.prog 86 1 1 3:=⟨by kernel_rfl⟩
instance : FdT Tryz.prog 86 2 2 3:=⟨by kernel_rfl⟩
instance : FdT Tryz.prog 86 3 3 3:=⟨by kernel_rfl⟩
instance : FdT Tryz.prog 86 4 4 23:=⟨by kernel_rfl⟩
instance : FdT Tryz.prog 86 5 5 23:=⟨by kernel_rfl⟩
instance : SzT Tryz.prog 89 1:=⟨by kernel_rfl⟩
instance : AgT Tryz.prog 89 false:=⟨by kernel_rfl⟩
instance : SlT Tryz.prog 89 127:=⟨by kernel_rfl⟩
instance : SzT Tryz.prog 94 6:=⟨by kernel_rfl⟩
instance : ByT Tryz.prog 94 80:=⟨by kernel_rfl⟩
instance : AgT Tryz.prog 94 true:=⟨by kernel_rfl⟩
instance : FdT Tryz.prog 94 0 0 3:=⟨by kernel_rfl⟩
instance : FdT Tryz.prog 94 1 1 3:=⟨by kernel_rfl⟩
instance : FdT Tryz.prog 94 2 2 3:=⟨by kernel_rfl⟩
instance : FdT Tryz.prog 94 3 3 3:=⟨by kernel_rfl⟩
instance : FdT Tryz.prog 94 4 4 30:=⟨by kernel_rfl⟩
instance : FdT Tryz.prog 94 5 5 30:=⟨by kernel_rfl⟩
instance : PtT Tryz.prog 94 [(0,1),(1,1),(2,1),(3,1),(4,1),(5,1)]:=⟨by kernel_rfl⟩
instance : ZrT Tryz.prog 94 [.int .i64 0,.int .i64 0,.int .i64 0,.int .i64 0,.slice none 0 0,.slice none 0 0]:=⟨by kernel_rfl⟩
instance : SzT Tryz.prog 99 1:=⟨by kernel_rfl⟩
instance : AgT Tryz.prog 99 false:=⟨by kernel_rfl⟩
instance : SlT Tryz.prog 99 105:=⟨by kernel_rfl⟩
instance : ZrT Tryz.prog 99 [.slice none 0 0]:=⟨by kernel_rfl⟩
instance : SzT Tryz.prog 103 1:=⟨by kernel_rfl⟩
instance : ByT Tryz.prog 103 8:=⟨by kernel_rfl⟩
instance : AgT Tryz.prog 103 false:=⟨by kernel_rfl⟩
instance : ZrT Tryz.prog 103 [.int .u64 0]:=⟨by kernel_rfl⟩
instance : SzT Tryz.prog 105 6:=⟨by kernel_rfl⟩
instance : ByT Tryz.prog 105 48:=⟨by kernel_rfl⟩
instance : AgT Tryz.prog 105 true:=⟨by kernel_rfl⟩
instance : ArT Tryz.prog 105 6 103:=⟨by kernel_rfl⟩
instance : ZrT Tryz.prog 105 [.int .u64 0,.int .u64 0,.int .u64 0,.int .u64 0,.int .u64 0,.int .u64 0]:=⟨by kernel_rfl⟩
instance : FdT Tryz.prog 109 0 0 38:=⟨by kernel_rfl⟩
instance : FdT Tryz.prog 109 1 1 3:=⟨by kernel_rfl⟩
instance : PtT Tryz.prog 109 [(0,1),(1,1)]:=⟨by kernel_rfl⟩
instance : ZrT Tryz.prog 109 [.slice none 0 0,.int .i64 0]:=⟨by kernel_rfl⟩
instance : SlT Tryz.prog 112 9:=⟨by kernel_rfl⟩
instance : SlT Tryz.prog 125 131:=⟨by kernel_rfl⟩
instance : SzT Tryz.prog 127 1:=⟨by kernel_rfl⟩
instance : ByT Tryz.prog 127 24:=⟨by kernel_rfl⟩
instance : AgT Tryz.prog 127 false:=⟨by kernel_rfl⟩
instance : SlT Tryz.prog 127 4:=⟨by kernel_rfl⟩
instance : ZrT Tryz.prog 127 [.slice none 0 0]:=⟨by kernel_rfl⟩
instance : SzT Tryz.prog 131 2:=⟨by kernel_rfl⟩
instance : ByT Tryz.prog 131 48:=⟨by kernel_rfl⟩
instance : AgT Tryz.prog 131 true:=⟨by kernel_rfl⟩
instance : FdT Tryz.prog 131 0 0 89:=⟨by kernel_rfl⟩
instance : FdT Tryz.prog 131 1 1 127:=⟨by kernel_rfl⟩
instance : PtT Tryz.prog 131 [(0,1),(1,1)]:=⟨by kernel_rfl⟩
instance : ZrT Tryz.prog 131 [.slice none 0 0,.slice none 0 0]:=⟨by kernel_rfl⟩
instance : SlT Tryz.prog 137 167:=⟨by kernel_rfl⟩
instance : SlT Tryz.prog 146 103:=⟨by kernel_rfl⟩
instance : SzT Tryz.prog 167 2:=⟨by kernel_rfl⟩
instance : ByT Tryz.prog 167 16:=⟨by kernel_rfl⟩
instance : AgT Tryz.prog 167 true:=⟨by kernel_rfl⟩
instance : FdT Tryz.prog 167 0 0 3:=⟨by kernel_rfl⟩
instance : FdT Tryz.prog 167 1 1 4:=⟨by kernel_rfl⟩
instance : PtT Tryz.prog 167 [(0,1),(1,1)]:=⟨by kernel_rfl⟩
instance : ZrT Tryz.prog 167 [.int .i64 0,.bool false]:=⟨by kernel_rfl⟩
instance : CaT Tryz.prog 6:=⟨by kernel_rfl⟩
instance : CaT Tryz.prog 7:=⟨by kernel_rfl⟩
instance : CaT Tryz.prog 8:=⟨by kernel_rfl⟩
instance : CaT Tryz.prog 9:=⟨by kernel_rfl⟩
instance : CaT Tryz.prog 10:=⟨by kernel_rfl⟩
instance : CaT Tryz.prog 11:=⟨by kernel_rfl⟩
instance : CaT Tryz.prog 12:=⟨by kernel_rfl⟩
instance : CaT Tryz.prog 13:=⟨by kernel_rfl⟩
instance : CaT Tryz.prog 20:=⟨by kernel_rfl⟩
instance : CaT Tryz.prog 21:=⟨by kernel_rfl⟩
instance : CaT Tryz.prog 22:=⟨by kernel_rfl⟩
instance : CaT Tryz.prog 23:=⟨by kernel_rfl⟩
instance : CaT Tryz.prog 24:=⟨by kernel_rfl⟩
instance : CaT Tryz.prog 25:=⟨by kernel_rfl⟩
instance : CaT Tryz.prog 26:=⟨by kernel_rfl⟩
instance : CaT Tryz.prog 27:=⟨by kernel_rfl⟩
instance : CaT Tryz.prog 28:=⟨by kernel_rfl⟩
instance : CaT Tryz.prog 29:=⟨by kernel_rfl⟩
instance : CaT Tryz.prog 30:=⟨by kernel_rfl⟩
instance : CaT Tryz.prog 31:=⟨by kernel_rfl⟩
instance : CaT Tryz.prog 32:=⟨by kernel_rfl⟩
instance : CaT Tryz.prog 33:=⟨by kernel_rfl⟩
instance : CaT Tryz.prog 34:=⟨by kernel_rfl⟩
instance : CaT Tryz.prog 35:=⟨by kernel_rfl⟩
instance : CaT Tryz.prog 36:=⟨by kernel_rfl⟩
instance : CaT Tryz.prog 37:=⟨by kernel_rfl⟩
instance : CaT Tryz.prog 38:=⟨by kernel_rfl⟩
instance : CaT Tryz.prog 48:=⟨by kernel_rfl⟩
instance : CaT Tryz.prog 50:=⟨by kernel_rfl⟩
instance : CaT Tryz.prog 51:=⟨by kernel_rfl⟩
instance : CaT Tryz.prog 52:=⟨by kernel_rfl⟩
instance : CaT Tryz.prog 53:=⟨by kernel_rfl⟩
instance : CaT Tryz.prog 54:=⟨by kernel_rfl⟩
instance : CaT Tryz.prog 55:=⟨by kernel_rfl⟩
instance : CaT Tryz.prog 56:=⟨by kernel_rfl⟩
instance : CaT Tryz.prog 57:=⟨by kernel_rfl⟩
instance : CaT Tryz.prog 58:=⟨by kernel_rfl⟩
instance : CaT Tryz.prog 59:=⟨by kernel_rfl⟩
instance : CaT Tryz.prog 60:=⟨by kernel_rfl⟩
instance : CaT Tryz.prog 61:=⟨by kernel_rfl⟩
instance : CaT Tryz.prog 62:=⟨by kernel_rfl⟩
instance : CaT Tryz.prog 63:=⟨by kernel_rfl⟩
instance : CaT Tryz.prog 64:=⟨by kernel_rfl⟩
instance : CaT Tryz.prog 65:=⟨by kernel_rfl⟩
instance : CaT Tryz.prog 66:=⟨by kernel_rfl⟩
instance : CaT Tryz.prog 67:=⟨by kernel_rfl⟩
instance : CaT Tryz.prog 68:=⟨by kernel_rfl⟩
instance : CaT Tryz.prog 69:=⟨by kernel_rfl⟩
instance : CaT Tryz.prog 70:=⟨by kernel_rfl⟩
instance : CaT Tryz.prog 71:=⟨by kernel_rfl⟩
instance : CaT Tryz.prog 72:=⟨by kernel_rfl⟩
instance : CaT Tryz.prog 73:=⟨by kernel_rfl⟩
instance : CaT Tryz.prog 74:=⟨by kernel_rfl⟩
instance : CaT Tryz.prog 75:=⟨by kernel_rfl⟩
instance : CaT Tryz.prog 76:=⟨by kernel_rfl⟩
instance : CaT Tryz.prog 82:=⟨by kernel_rfl⟩
instance : CaT Tryz.prog 85:=⟨by kernel_rfl⟩
instance : CaT Tryz.prog 86:=⟨by kernel_rfl⟩
instance : CaT Tryz.prog 87:=⟨by kernel_rfl⟩
instance : CaT Tryz.prog 88:=⟨by kernel_rfl⟩
instance : CaT Tryz.prog 89:=⟨by kernel_rfl⟩
instance : CaT Tryz.prog 90:=⟨by kernel_rfl⟩
instance : CaT Tryz.prog 91:=⟨by kernel_rfl⟩
instance : CaT Tryz.prog 92:=⟨by kernel_rfl⟩
instance : CaT Tryz.prog 93:=⟨by kernel_rfl⟩
instance : CaT Tryz.prog 94:=⟨by kernel_rfl⟩
instance : CaT Tryz.prog 95:=⟨by kernel_rfl⟩
instance : CaT Tryz.prog 96:=⟨by kernel_rfl⟩
instance : CaT Tryz.prog 97:=⟨by kernel_rfl⟩
instance : CaT Tryz.prog 98:=⟨by kernel_rfl⟩
instance : CaT Tryz.prog 99:=⟨by kernel_rfl⟩
instance : CaT Tryz.prog 100:=⟨by kernel_rfl⟩
instance : CaT Tryz.prog 101:=⟨by kernel_rfl⟩
instance : CaT Tryz.prog 102:=⟨by kernel_rfl⟩
instance : CaT Tryz.prog 103:=⟨by kernel_rfl⟩
instance : CaT Tryz.prog 104:=⟨by kernel_rfl⟩
instance : CaT Tryz.prog 105:=⟨by kernel_rfl⟩
instance : CaT Tryz.prog 106:=⟨by kernel_rfl⟩
instance : CaT Tryz.prog 107:=⟨by kernel_rfl⟩
instance : CaT Tryz.prog 109:=⟨by kernel_rfl⟩
instance : CaT Tryz.prog 110:=⟨by kernel_rfl⟩
instance : CaT Tryz.prog 111:=⟨by kernel_rfl⟩
instance : CaT Tryz.prog 112:=⟨by kernel_rfl⟩
instance : CaT Tryz.prog 113:=⟨by kernel_rfl⟩
instance : CaT Tryz.prog 114:=⟨by kernel_rfl⟩
instance : CaT Tryz.prog 115:=⟨by kernel_rfl⟩
instance : CaT Tryz.prog 116:=⟨by kernel_rfl⟩
instance : CaT Tryz.prog 117:=⟨by kernel_rfl⟩
instance : CaT Tryz.prog 118:=⟨by kernel_rfl⟩
instance : CaT Tryz.prog 119:=⟨by kernel_rfl⟩
instance : CaT Tryz.prog 120:=⟨by kernel_rfl⟩
instance : CaT Tryz.prog 121:=⟨by kernel_rfl⟩
instance : CaT Tryz.prog 122:=⟨by kernel_rfl⟩
instance : CaT Tryz.prog 123:=⟨by kernel_rfl⟩
instance : CaT Tryz.prog 124:=⟨by kernel_rfl⟩
instance : CaT Tryz.prog 125:=⟨by kernel_rfl⟩
instance : CaT Tryz.prog 126:=⟨by kernel_rfl⟩
instance : CaT Tryz.prog 127:=⟨by kernel_rfl⟩
instance : CaT Tryz.prog 128:=⟨by kernel_rfl⟩
instance : CaT Tryz.prog 129:=⟨by kernel_rfl⟩
instance : CaT Tryz.prog 130:=⟨by kernel_rfl⟩
instance : CaT Tryz.prog 131:=⟨by kernel_rfl⟩
instance : CaT Tryz.prog 132:=⟨by kernel_rfl⟩
instance : CaT Tryz.prog 133:=⟨by kernel_rfl⟩
instance : CaT Tryz.prog 134:=⟨by kernel_rfl⟩
instance : CaT Tryz.prog 136:=⟨by kernel_rfl⟩
instance : CaT Tryz.prog 137:=⟨by kernel_rfl⟩
instance : CaT Tryz.prog 138:=⟨by kernel_rfl⟩
instance : CaT Tryz.prog 139:=⟨by kernel_rfl⟩
instance : CaT Tryz.prog 140:=⟨by kernel_rfl⟩
instance : CaT Tryz.prog 141:=⟨by kernel_rfl⟩
instance : CaT Tryz.prog 142:=⟨by kernel_rfl⟩
instance : CaT Tryz.prog 143:=⟨by kernel_rfl⟩
instance : CaT Tryz.prog 144:=⟨by kernel_rfl⟩
instance : CaT Tryz.prog 145:=⟨by kernel_rfl⟩
instance : CaT Tryz.prog 146:=⟨by kernel_rfl⟩
instance : CaT Tryz.prog 151:=⟨by kernel_rfl⟩
instance : CaT Tryz.prog 152:=⟨by kernel_rfl⟩
instance : CaT Tryz.prog 153:=⟨by kernel_rfl⟩
instance : CaT Tryz.prog 154:=⟨by kernel_rfl⟩
instance : CaT Tryz.prog 155:=⟨by kernel_rfl⟩
instance : CaT Tryz.prog 156:=⟨by kernel_rfl⟩
end Go.Proofs.YtgkalkgplcdnkaaGreatDoor
namespace Go.AL
inductive Stmt where
 | mk (op x y n : Int) (th el : List Stmt)
 deriving Inhabited
namespace Stmt
def op : Stmt → Int | .mk o _ _ _ _ _ => o
def x : Stmt → Int | .mk _ o _ _ _ _ => o
def y : Stmt → Int | .mk _ _ o _ _ _ => o
def n : Stmt → Int | .mk _ _ _ o _ _ => o
def th : Stmt → List Stmt | .mk _ _ _ _ o _ => o
def el : Stmt → List Stmt | .mk _ _ _ _ _ o => o
end Stmt
structure Prg where
 types : List Int
 body : List Stmt
 deriving Inhabited
structure Pnt where
 op : Int
 x : Int
 y : Int
 n : Int
 next : List Int
 deriving Inhabited,DecidableEq
structure Iss where
 point : Int
 kind : Int
 with_ : Int
 deriving Inhabited,DecidableEq
structure Acc where
 var : Int
 write : Bool
 deriving Inhabited,DecidableEq
mutual
def aF : Stmt → List AV
 | .mk o x y n t e => [iv o,iv x,iv y,iv n,.imm t.length (j3 t),.imm e.length (j3 e)]
def j3 : List Stmt → List AV
 | [] => []
 | s :: l => aF s ++ j3 l
end
theorem rH:∀ l,j3 l = flat aF l
 | [] => by simp [j3,flat]
 | s :: l => by have := rH l;simp only [j3,this,flat,List.flatMap_cons]
theorem bS (s:Stmt):aF s = [iv s.op,iv s.x,iv s.y,iv s.n,sl aF s.th,sl aF s.el]:=by
 cases s;simp only [aF,rH,Stmt.op,Stmt.x,Stmt.y,Stmt.n,Stmt.th,Stmt.el]
def bK (p : Pnt) : List AV := [iv p.op,iv p.x,iv p.y,iv p.n,sl cI p.next]
def eJ (p : Iss) : List AV := [iv p.point,iv p.kind,iv p.with_]
def CF (p : Acc) : List AV := [iv p.var,bv p.write]
instance : FlT aF 6:=⟨fun s => by rw [bS]; rfl⟩
instance : FlT bK 5:=⟨fun s => rfl⟩
instance : FlT eJ 3:=⟨fun s => rfl⟩
instance : FlT CF 2:=⟨fun s => rfl⟩
instance : FE aF (fun s => [iv s.op,iv s.x,iv s.y,iv s.n,sl aF s.th,sl aF s.el]):=⟨bS⟩
instance : FE bK (fun p => [iv p.op,iv p.x,iv p.y,iv p.n,sl cI p.next]):=⟨fun _ => rfl⟩
instance : FE eJ (fun p => [iv p.point,iv p.kind,iv p.with_]):=⟨fun _ => rfl⟩
instance : FE CF (fun p => [iv p.var,bv p.write]):=⟨fun _ => rfl⟩
mutual
theorem sK:∀ s,aZ (aF s) = true
 | .mk o x y n t e => by simp only [aF,aZ,AV.pur,lI t,lI e,Bool.and_self]
theorem lI:∀ l,aZ (j3 l) = true
 | [] => rfl
 | s :: l => by simp only [j3,fV,sK s,lI l,Bool.and_self]
end
instance (s : Stmt) : Pur (aF s):=⟨sK s⟩
instance (s : Pnt) : Pur (bK s):=⟨by simp only [bK,aZ,AV.pur,bC,Bool.and_self]; simp only [(inferInstance : Pur (flat cI s.next)).pf,Bool.and_self]⟩
instance (s : Iss) : Pur (eJ s):=⟨rfl⟩
instance (s : Acc) : Pur (CF s):=⟨rfl⟩
abbrev bG (s : Stmt) : AV := .agg [iv s.op,iv s.x,iv s.y,iv s.n,sl aF s.th,sl aF s.el]
abbrev lL (p : Pnt) : AV := .agg [iv p.op,iv p.x,iv p.y,iv p.n,sl cI p.next]
abbrev bZ (p : Prg) : AV := .agg [sl cI p.types,sl aF p.body]
abbrev iR (p : Iss) : AV := .agg [iv p.point,iv p.kind,iv p.with_]
def gF (types : List Int) (v : Int) : Int := if 0 ≤ v ∧ v < types.length then types[v.toNat]! else 0
def gQ (t : Int) : Bool := decide (t = 3) || decide (t = 4)
def aU (types : List Int) (x : Pnt) (v : Int) : Int :=
 if x.op = 3 then (if v = x.y then (if types[v.toNat]! = 2 ∨ types[v.toNat]! = 4 then 2 else 1) else 0)
 else if x.op = 4 ∨ x.op = 5 ∨ x.op = 6 then (if v = x.y then 3 else 0)
 else if x.op = 7 then (if v = x.x then 3 else if v = x.y then 1 else 0)
 else if x.op = 8 then (if v = x.x then 2 else 0) else 0
def aN (x : Pnt) : Int := if 1 ≤ x.op ∧ x.op ≤ 6 then x.x else -1
theorem bE {α:Type}[Inhabited α] (xs:List α) (i:Nat) (h:i < xs.length):xs[i]! = xs[i] := getElem!_pos xs i h
theorem hG {α:Type}[Inhabited α] (p:α → Bool) (xs:List α):xs.all p = true ↔ ∀ i,i < xs.length → p xs[i]! = true:=by
 rw [List.all_eq_true]
 constructor
 ·intro h i hi;rw [bE _ _ hi]; exact h _ (List.getElem_mem hi)
 ·intro h x hx
  obtain ⟨i,hi,rfl⟩ := List.getElem_of_mem hx
  have := h i hi;rwa [bE _ _ hi] at this
theorem kE {α:Type}[Inhabited α] (p:α → Bool) (xs:List α) (i:Nat) (hi:i < xs.length) (h:p xs[i]! = false):xs.all p = false:=by
 rw [Bool.eq_false_iff]; intro h2;rw [hG] at h2;have := h2 i hi;rw [h] at this;cases this
theorem bJ {α:Type}[Inhabited α] (xs:List α) (k:Nat) (h:k < xs.length):xs.take (k + 1) = xs.take k ++ [xs[k]!]:=by
 rw [bE _ _ h,List.take_succ_eq_append_getElem h]
theorem oR {α:Type}[Inhabited α] (xs:List α) (k:Nat) (h:k < xs.length):xs.drop k = xs[k]! :: xs.drop (k + 1):=by
 rw [bE _ _ h,List.drop_eq_getElem_cons h]
def aY (ts : List Int) : Bool := ts.all (fun t => decide (1 ≤ t) && decide (t ≤ 4)) && decide (ts.length ≤ 6)
theorem jD {ts:List Int}(h:aY ts = true) (i:Nat) (hi:i < ts.length):1 ≤ ts[i]! ∧ ts[i]! ≤ 4:=by
 unfold aY at h;grind [hG]
theorem fM {ts:List Int}(h:aY ts = true):ts.length ≤ 6:=by
 unfold aY at h;grind
theorem fW {ts:List Int}(h:aY ts = true) (v:Int):0 ≤ gF ts v ∧ gF ts v ≤ 4:=by
 unfold gF;split
 ·rename_i h1;have := jD h v.toNat (by omega);omega
 ·omega
theorem jG {ts:List Int}(h:aY ts = true) (v:Int):0 < gF ts v ↔ 0 ≤ v ∧ v < ts.length:=by
 unfold gF;split
 ·rename_i h1;have := jD h v.toNat (by omega);omega
 ·omega
def c7 (ts : List Int) (s : Stmt) : Bool :=
 let x := gF ts s.x;let y := gF ts s.y
 if s.op = 1 then decide (x = 1 ∧ s.y = 0 ∧ 0 ≤ s.n ∧ s.n ≤ 9)
 else if s.op = 2 then decide (x = 2 ∧ s.y = 0 ∧ 0 ≤ s.n ∧ s.n ≤ 9)
 else if s.n ≠ 0 then false
 else if s.op = 3 then decide (x = y ∧ 0 < x ∧ s.x ≠ s.y)
 else if s.op = 4 then decide (x = 3 ∧ 2 ≤ y ∧ s.x ≠ s.y)
 else if s.op = 5 then decide (x = 4 ∧ (y = 2 ∨ y = 4) ∧ s.x ≠ s.y)
 else if s.op = 6 then decide (x = 1 ∧ 2 ≤ y)
 else if s.op = 7 then decide ((x = 2 ∨ x = 4) ∧ y = 1)
 else if s.op = 8 then decide (x = 2 ∧ s.y = 0)
 else false
theorem bD {α:Type}[Inhabited α] (xs:List α) (i:Nat) (h:i < xs.length):xs[i]! ∈ xs:=by
 rw [bE _ _ h]; exact List.getElem_mem h
mutual
def pY (ts : List Int) (d : Nat) : Stmt → Bool
 | .mk op x y n th el => if op ≠ 9 ∧ op ≠ 10 then th.isEmpty && el.isEmpty && c7 ts (.mk op x y n th el)
  else match d with
   | 0 => false
   | d + 1 => decide (x = 0 ∧ y = 0 ∧ n = 0) && !(decide (op = 10) && !el.isEmpty) && okL ts d th && okL ts d el
def okL (ts : List Int) (d : Nat) : List Stmt → Bool
 | [] => true
 | s :: l => pY ts d s && okL ts d l
end
mutual
def bF : Stmt → Nat
 | .mk _ _ _ _ th el => 1 + aK th + aK el
def aK : List Stmt → Nat
 | [] => 0
 | s :: l => bF s + aK l
end
theorem dS (s:Stmt):bF s = 1 + aK s.th + aK s.el := by cases s;simp only [bF,Stmt.th,Stmt.el]
theorem Bh (ts:List Int) (d:Nat) (s:Stmt):pY ts d s = if s.op ≠ 9 ∧ s.op ≠ 10 then s.th.isEmpty && s.el.isEmpty && c7 ts s
  else match d with
   | 0 => false
   | d + 1 => decide (s.x = 0 ∧ s.y = 0 ∧ s.n = 0) && !(decide (s.op = 10) && !s.el.isEmpty) && okL ts d s.th && okL ts d s.el := by
 cases s;cases d <;> simp only [pY,Stmt.th,Stmt.el,Stmt.op,Stmt.x,Stmt.y,Stmt.n] <;> rfl
theorem sR (ts:List Int) (d:Nat):∀ l,okL ts d l = l.all (pY ts d)
 | [] => by simp [okL]
 | s :: l => by simp [okL,sR ts d l]
theorem eE:∀ a b,aK (a ++ b) = aK a + aK b
 | [],b => by simp [aK]
 | s :: a,b => by simp only [List.cons_append,aK,eE a b]; omega
theorem v8:∀ {l:List Stmt}{s:Stmt},s ∈ l → bF s ≤ aK l
 | s :: l,_,.head _ => by simp only [aK]; omega
 | _ :: l,s,.tail _ h => by have := v8 h;simp only [aK]; omega
theorem dI (l:List Stmt) (i:Nat) (h:i < l.length):bF l[i]! ≤ aK l := v8 (bD l i h)
theorem fO (s:Stmt):aK s.th + aK s.el < bF s := by rw [dS]; omega
theorem cD:∀ l:List Stmt,l.length ≤ aK l
 | [] => by simp [aK]
 | s :: l => by have := cD l;simp only [aK,List.length_cons,dS]; omega
def b0 (p : Prg) : Bool := aY p.types && okL p.types 4 p.body && decide (aK p.body ≤ 30)
theorem Hi (ts:List Int) (d:Int) (hd:0 ≤ d) (s:Stmt):pY ts d.toNat s = if s.op ≠ 9 ∧ s.op ≠ 10 then s.th.isEmpty && s.el.isEmpty && c7 ts s
  else if d < 1 then false else decide (s.x = 0 ∧ s.y = 0 ∧ s.n = 0) && !(decide (s.op = 10) && !s.el.isEmpty) && okL ts (d - 1).toNat s.th && okL ts (d - 1).toNat s.el := by
 rw [Bh]
 by_cases h : s.op ≠ 9 ∧ s.op ≠ 10
 ·rw [if_pos h,if_pos h]
 ·rw [if_neg h, if_neg h]
  by_cases h2 : d < 1
  ·obtain rfl : d = 0 := by omega
   rfl
  ·obtain ⟨k, rfl⟩ : ∃ k : Nat, d = ((k + 1 : Nat) : Int) := ⟨(d - 1).toNat, by omega⟩
   have e1 : (((k + 1 : Nat) : Int)).toNat = k + 1 := rfl
   have e2 : (((k + 1 : Nat) : Int) - 1).toNat = k := by omega
   rw [e1,e2,if_neg h2]
theorem EH {ts:List Int}{d:Nat}{l:List Stmt}{k:Nat}(hk:k < l.length) (h:pY ts d l[k]! = false):okL ts d l = false:=by
 rw [sR]; exact kE _ _ k hk h
theorem GQ {ts:List Int}{d:Nat}{l:List Stmt}(h:∀ i,i < l.length → pY ts d l[i]! = true):okL ts d l = true:=by
 rw [sR,hG]; exact h
mutual
def Fc (most n : Int) : Stmt → Int
 | .mk _ _ _ _ th el => let n1 := n + 1 + kU (most - n) 0 th;if n1 ≤ most then n1 + kU (most - n1) 0 el else n1
def kU (most n : Int) : List Stmt → Int
 | [] => n
 | s :: l => if n ≤ most then kU most (Fc most n s) l else n
end
theorem G3 (most n:Int) (s:Stmt):Fc most n s = if n + 1 + kU (most - n) 0 s.th ≤ most then (n + 1 + kU (most - n) 0 s.th) + kU (most - (n + 1 + kU (most - n) 0 s.th)) 0 s.el else n + 1 + kU (most - n) 0 s.th:=by
 cases s;simp only [Fc,Stmt.th,Stmt.el]; rfl
mutual
theorem E9:∀ (s:Stmt) (most n:Int),n ≤ Fc most n s ∧ Fc most n s ≤ n + bF s ∧ (Fc most n s ≤ most → Fc most n s = n + bF s)
 | .mk o x y k th el, most, n => by
  have h1 := j6 th (most - n) 0
  have h2 := fun m => j6 el m 0
  simp only [Fc,bF]
  split
  ·have := h2 (most - (n + 1 + kU (most - n) 0 th));omega
  ·omega
theorem j6:∀ (l:List Stmt) (most n:Int),n ≤ kU most n l ∧ kU most n l ≤ n + aK l ∧ (kU most n l ≤ most → kU most n l = n + aK l)
 | [],most,n => by simp [kU,aK]
 | s :: l, most, n => by
  have h1 := E9 s most n
  have h2 := j6 l most (Fc most n s)
  simp only [kU,aK]
  split <;> omega
end
theorem Jl (l:List Stmt) (m:Int):decide (kU m 0 l ≤ m) = decide ((aK l:Int) ≤ m):=by
 have := j6 l m 0;simp only [decide_eq_decide]; omega
theorem E2 (most n:Int) (l:List Stmt) (k:Nat) (hk:k < l.length) (h:n ≤ most):kU most n (l.drop k) = kU most (Fc most n l[k]!) (l.drop (k + 1)):=by
 rw [oR _ _ hk,kU,if_pos h]
theorem C6 (most n:Int) (l:List Stmt) (h:¬ n ≤ most):kU most n l = n := by cases l <;> simp [kU,h]
theorem Hp (most n:Int) (l:List Stmt) (k:Nat) (hk:¬ k < l.length):kU most n (l.drop k) = n:=by
 rw [List.drop_of_length_le (by omega)]; simp [kU]
mutual
def jO (ts : List Int) (nest c : Int) : Stmt → Bool × Int
 | .mk op x y n th el => if 30 < c + 1 then (false, c + 1) else
   if op ≠ 9 ∧ op ≠ 10 then (th.isEmpty && el.isEmpty && c7 ts (.mk op x y n th el),c + 1)
   else if nest = 4 ∨ x ≠ 0 ∨ y ≠ 0 ∨ n ≠ 0 ∨ (op = 10 ∧ el ≠ []) then (false,c + 1)
   else if (hZ ts (nest + 1) (c + 1) th).1 = true then hZ ts (nest + 1) (hZ ts (nest + 1) (c + 1) th).2 el else (false,(hZ ts (nest + 1) (c + 1) th).2)
def hZ (ts : List Int) (nest c : Int) : List Stmt → Bool × Int
 | [] => (true,c)
 | s :: l => if (jO ts nest c s).1 = true then hZ ts nest (jO ts nest c s).2 l else (false,(jO ts nest c s).2)
end
theorem Hz (ts : List Int) (nest c : Int) (s : Stmt) : jO ts nest c s = if 30 < c + 1 then (false, c + 1) else
   if s.op ≠ 9 ∧ s.op ≠ 10 then (s.th.isEmpty && s.el.isEmpty && c7 ts s,c + 1)
   else if nest = 4 ∨ s.x ≠ 0 ∨ s.y ≠ 0 ∨ s.n ≠ 0 ∨ (s.op = 10 ∧ s.el ≠ []) then (false,c + 1)
   else if (hZ ts (nest + 1) (c + 1) s.th).1 = true then hZ ts (nest + 1) (hZ ts (nest + 1) (c + 1) s.th).2 s.el else (false,(hZ ts (nest + 1) (c + 1) s.th).2) := by
 cases s;simp only [jO,Stmt.th,Stmt.el,Stmt.op,Stmt.x,Stmt.y,Stmt.n]; rfl
mutual
theorem Ar (ts:List Int):∀ (s:Stmt) (d:Nat) (c:Int),d ≤ 4 → 0 ≤ c → c ≤ 30 → c ≤ (jO ts (4 - d) c s).2 ∧ (jO ts (4 - d) c s).2 ≤ c + bF s ∧ (jO ts (4 - d) c s).2 ≤ 31 ∧
  ((jO ts (4 - d) c s).1 = true ↔ pY ts d s = true ∧ c + bF s ≤ 30) ∧ ((jO ts (4 - d) c s).1 = true → (jO ts (4 - d) c s).2 = c + bF s)
 | .mk op x y n th el, d, c, hd, hc0, hc => by
  have hS : bF (.mk op x y n th el) = 1 + aK th + aK el := by simp only [bF]
  rw [hS]
  simp only [jO]
  split
  ·simp;omega
  ·rename_i h30
   split
   ·rename_i hop
    simp only [pY,hop,if_true,ne_eq,not_false_eq_true,and_self]
    cases th with
    | cons a b => simp [aK]; have := dS a;omega
    | nil => cases el with
     | cons a b => simp [aK]; have := dS a;omega
     | nil => simp [aK,hop]; omega
   ·rename_i hop
    split
    ·rename_i hb
     have : pY ts d (.mk op x y n th el) = false := by
      simp only [pY,hop,if_false]
      cases d with
      | zero => rfl
      | succ d =>
       simp only [Bool.and_eq_false_iff,decide_eq_false_iff_not,Bool.not_eq_false',Bool.and_eq_true,decide_eq_true_eq]
       rcases hb with h|h|h|h | ⟨h1,h2⟩
       ·omega
       ·exact .inl (.inl (.inl (by omega)))
       ·exact .inl (.inl (.inl (by omega)))
       ·exact .inl (.inl (.inl (by omega)))
       ·exact .inl (.inl (.inr ⟨h1,by cases el;exact absurd rfl h2;rfl⟩))
     simp [this]; omega
    ·rename_i hb
     cases d with
     | zero => exact absurd (.inl rfl) hb
     | succ d =>
      have e : ((4 : Int) - ((d + 1 : Nat) : Int)) + 1 = 4 - (d : Int) := by omega
      rw [e]
      have h1 := mI ts th d (c + 1) (by omega) (by omega) (by omega)
      have hok : pY ts (d + 1) (.mk op x y n th el) = (okL ts d th && okL ts d el) := by
       simp only [pY,hop,if_false]
       have e1 : (x = 0 ∧ y = 0 ∧ n = 0) := by omega
       have e2 : (decide (op = 10) && !el.isEmpty) = false := by
        rw [Bool.and_eq_false_iff,decide_eq_false_iff_not]
        by_cases ho : op = 10
        ·right; cases el with
         | nil => rfl
         | cons a b => exact absurd (.inr (.inr (.inr (.inr ⟨ho,by simp⟩)))) hb
        ·exact .inl ho
       simp [e1,e2]
      rw [hok]
      generalize hZ ts (4 - (d : Int)) (c + 1) th = r1 at h1
      obtain ⟨b1,c1⟩ := r1
      dsimp only at h1 ⊢
      cases b1 with
      | true =>
       have h3 := h1.2.2.2.1.1 rfl
       have h4 := h1.2.2.2.2 rfl
       have h2 := mI ts el d c1 (by omega) (by omega) (by omega)
       simp only [if_true,h3.1,Bool.true_and]
       refine ⟨by omega,by omega,by omega,⟨fun q => ?_,fun q => ?_⟩,fun q => ?_⟩
       ·have := h2.2.2.2.1.1 q;exact ⟨this.1,by omega⟩
       ·exact h2.2.2.2.1.2 ⟨q.1,by omega⟩
       ·have := h2.2.2.2.2 q;omega
      | false =>
       simp only [Bool.false_eq_true,if_false,false_iff]
       refine ⟨by omega,by omega,by omega,?_,fun h => h.elim⟩
       rintro ⟨q1,q2⟩
       simp only [Bool.and_eq_true] at q1
       exact absurd (h1.2.2.2.1.2 ⟨q1.1,by omega⟩) (by simp)
theorem mI (ts:List Int):∀ (l:List Stmt) (d:Nat) (c:Int),d ≤ 4 → 0 ≤ c → c ≤ 30 → c ≤ (hZ ts (4 - d) c l).2 ∧ (hZ ts (4 - d) c l).2 ≤ c + aK l ∧ (hZ ts (4 - d) c l).2 ≤ 31 ∧
  ((hZ ts (4 - d) c l).1 = true ↔ okL ts d l = true ∧ c + aK l ≤ 30) ∧ ((hZ ts (4 - d) c l).1 = true → (hZ ts (4 - d) c l).2 = c + aK l)
 | [],d,c,hd,hc0,hc => by simp [hZ,okL,aK]; omega
 | s :: l, d, c, hd, hc0, hc => by
  have h1 := Ar ts s d c hd hc0 hc
  simp only [hZ,okL,aK]
  generalize jO ts (4 - (d : Int)) c s = r1 at h1
  obtain ⟨b1,c1⟩ := r1
  dsimp only at h1 ⊢
  cases b1 with
  | true =>
   have h3 := h1.2.2.2.1.1 rfl
   have h4 := h1.2.2.2.2 rfl
   have h2 := mI ts l d c1 (by omega) (by omega) (by omega)
   simp only [if_true,h3.1,Bool.true_and]
   refine ⟨by omega,by omega,by omega,⟨fun q => ?_,fun q => ?_⟩,fun q => ?_⟩
   ·have := h2.2.2.2.1.1 q;exact ⟨this.1,by omega⟩
   ·exact h2.2.2.2.1.2 ⟨q.1,by omega⟩
   ·have := h2.2.2.2.2 q;omega
  | false =>
   simp only [Bool.false_eq_true,if_false,false_iff]
   refine ⟨by omega,by omega,by omega,?_,fun h => h.elim⟩
   rintro ⟨q1,q2⟩
   simp only [Bool.and_eq_true] at q1
   exact absurd (h1.2.2.2.1.2 ⟨q1.1,by omega⟩) (by simp)
end
theorem Bx (p:Prg):(aY p.types && (hZ p.types 0 0 p.body).1) = b0 p:=by
 have h := (mI p.types p.body 4 0 (by omega) (by omega) (by omega)).2.2.2.1
 have e : ((4 : Int) - ((4 : Nat) : Int)) = 0 := by omega
 rw [e] at h
 unfold b0
 rw [Bool.and_assoc]
 congr 1
 rw [Bool.eq_iff_iff,h]
 simp only [Bool.and_eq_true,decide_eq_true_eq]
 constructor
 ·exact fun ⟨a,b⟩ => ⟨a,by omega⟩
 ·exact fun ⟨a,b⟩ => ⟨a,by omega⟩
theorem scL_stop {ts:List Int}{nest c:Int}{l:List Stmt}{k:Nat}(hk:k < l.length):hZ ts nest c (l.drop k) = if (jO ts nest c l[k]!).1 = true then hZ ts nest (jO ts nest c l[k]!).2 (l.drop (k + 1)) else (false,(jO ts nest c l[k]!).2):=by
 rw [oR _ _ hk,hZ]
theorem Iz (ts:List Int) (l:List Stmt) (nest c:Int) (h0:0 ≤ nest) (h1:nest ≤ 4) (h2:0 ≤ c) (h3:c ≤ 30):0 ≤ (hZ ts nest c l).2 ∧ (hZ ts nest c l).2 ≤ 31 ∧ ((hZ ts nest c l).1 = true → (hZ ts nest c l).2 ≤ 30):=by
 obtain ⟨k,hk⟩ : ∃ k : Nat,nest = 4 - (k : Int) := ⟨(4 - nest).toNat,by omega⟩
 have := mI ts l k c (by omega) h2 h3
 rw [← hk] at this
 refine ⟨by omega,by omega,fun h => ?_⟩
 have h4 := this.2.2.2.1.1 h
 have h5 := this.2.2.2.2 h
 omega
theorem HX (ts:List Int) (s:Stmt) (nest c:Int) (h0:0 ≤ nest) (h1:nest ≤ 4) (h2:0 ≤ c) (h3:c ≤ 30):0 ≤ (jO ts nest c s).2 ∧ (jO ts nest c s).2 ≤ 31 ∧ ((jO ts nest c s).1 = true → (jO ts nest c s).2 ≤ 30):=by
 obtain ⟨k,hk⟩ : ∃ k : Nat,nest = 4 - (k : Int) := ⟨(4 - nest).toNat,by omega⟩
 have := Ar ts s k c (by omega) h2 h3
 rw [← hk] at this
 refine ⟨by omega,by omega,fun h => ?_⟩
 have h4 := this.2.2.2.1.1 h
 have h5 := this.2.2.2.2 h
 omega
def n6 (ks : List Nat) (ts : List (Nat × AV)) : List (Nat × AV) := ks.filterMap fun t => (lk ts t).map fun v => (t,v)
def pF (ks : List Nat) (hs : List (Nat × Option (List AV))) : List (Nat × Option (List AV)) := ks.map fun t => (t,aP hs t)
theorem mG {ts:List (Nat × AV)}:∀ (ks:List Nat),m7 ts (n6 ks ts)
 | [] => trivial
 | k :: ks => by
  simp only [n6,List.filterMap_cons]
  cases h : lk ts k with
  | none => exact mG ks
  | some v => exact ⟨h,mG ks⟩
theorem qD {hs:List (Nat × Option (List AV))}:∀ (ks:List Nat),lH hs (pF ks hs)
 | [] => trivial
 | k :: ks => ⟨.inr rfl,qD ks⟩
theorem nL {ts a b:List (Nat × AV)}(h1:m7 ts a) (h2:m7 ts b):m7 ts (a ++ b):=by
 induction a with
 | nil => exact h2
 | cons x a ih => exact ⟨h1.1,ih h1.2⟩
theorem nM {ts a b:List (Nat × Option (List AV))}(h1:lH ts a) (h2:lH ts b):lH ts (a ++ b):=by
 induction a with
 | nil => exact h2
 | cons x a ih => exact ⟨h1.1,ih h1.2⟩
variable {P : Program} {N : Nat} {Q : Exit → AS → Prop}
theorem D2 {σ:Type}{c:Code}{ts:List (Nat × AV)}{hs:List (Nat × Option (List AV))}{n:Nat}{z0:Lo}(ks:List Nat) (kt:List (Nat × AV)) (js:List Nat) (kh:List (Nat × Option (List AV)))
  (ot : σ → List (Nat × AV)) (oh : σ → List (Nat × Option (List AV))) (p : σ → Prop) (μ : σ → Nat) (i0 : σ) (h0 : p i0) (hk : n6 ks ts = kt) (hj : pF js hs = kh)
  (h1 : m7 ts (ot i0)) (h2 : lH hs (oh i0))
  (round : ∀ i,p i → AW P N c (lS (fun s' => ∃ j,p j ∧ μ j < μ i ∧ Le s' ⟨ot j ++ kt,oh j ++ kh,n,z0⟩) Q) ⟨ot i ++ kt,oh i ++ kh,n,z0⟩) :
  AW P N (.loop c) Q ⟨ts,hs,n,z0⟩ := by
 subst hk hj
 exact A1 p (fun i => ⟨ot i ++ n6 ks ts,oh i ++ pF js hs,n,z0⟩) μ ⟨i0,h0,Le.lit (nL h1 (mG ks)) (nM h2 (qD js)) (Nat.le_refl _)⟩ round
section
variable {P : Program} {N : Nat} {all : Array Oper} {Q : Exit → AS → Prop} {m : Md} {rest : List Oper} {s : AS}
theorem B7 {dst:Option Tmp}{op:Op}{ty:TypeId}{pos:String}{af:Array Edge}{j d:Nat}{want:Bool}(hj:(all[j]?).bind (·.dst) = some d) (hb:lk s.ts d = some (.v undef))
  (hdN : ∀ d,dst = some d → d < N)
  (h2 : RW P N all Q (m.add [.inl d] (wD dst)) rest (put s dst (.v undef))) : RW P N all Q m (⟨dst,op,ty,pos,af,some (j,want)⟩ :: rest) s := by
 have hyl : ∀ (C : Ctx) (ι : Pl) (T : Nat → Option AV) (H : Nat → Option (List AV)) (a : Act) (w : World), T d = lk s.ts d → TG C ι T H a w → yielded all a.tmps j = none := by
  intro C ι T H a w hT g
  obtain ⟨y,hy,hr⟩ := g.tm d _ (by rw [hT]; exact hb)
  simp only [Rd] at hr
  subst hr
  simp [yielded,hj,hy,undef]
 cases m with
 | txt =>
  rintro C a w hN ⟨h0,ι,g,gh⟩
  have hyl' := hyl C ι _ _ a w rfl g
  unfold wpList
  simp only [Region.wanted,hyl']
  rw [if_neg (by simp)]
  refine h2 C _ w hN ?_
  cases hd : dst with
  | none => exact ⟨h0,ι,g,gh⟩
  | some d' =>
   refine ⟨h0,ι,?_,gh⟩
   simp only [put]
   rw [kM]
   exact g.put (hN.symm ▸ hdN d' hd) (by simp [Rd])
 | drw ks pend =>
  obtain ⟨As,S',n2,tr,hc,hn2,_,s',e1,e2,e3,hQ⟩ := h2
  refine ⟨⟨pend ++ [.inl d],AF dst (.v undef),s.nid,s.nid⟩ :: As,S',n2,.cons ?_ rfl (Nat.le_refl _) ?_,?_,hn2,fun _ => ⟨_,_,rfl,fun r hr => List.mem_append_left _ hr⟩,s',e1,e2,?_,hQ⟩
  ·intro C ι F S a w hN hag hF g gh K Q' hK
   have hT : qK S d = lk s.ts d := by rw [← kQ]; simp only [qK,hag _ (List.mem_append_right _ (by simp : Sum.inl d ∈ [Sum.inl d]))]
   have hyl' := hyl C ι _ _ a w hT g
   rw [if_neg (by simp [Region.wanted,hyl'])]
   refine hK ι _ w ?_ ?_
   ·rw [kT]; exact tG g (fun x hx => hN.symm ▸ hdN x hx) (by simp [Rd])
   ·rw [kT]; exact (gh.less (fun _ _ h => h) (fun j hj => hj.1)).1
  ·rw [sW] at tr
   have hnid : (put s dst (.v undef)).nid = s.nid := by cases dst <;> rfl
   rw [hnid] at tr
   exact tr
  ·have hk : rW ⟨pend ++ [.inl d], AF dst (.v undef), s.nid, s.nid⟩ = (pend ++ [.inl d], wD dst) := by
    simp only [rW,jK]
    congr 1
    cases dst <;> rfl
   rw [List.map_cons,hk]
   simpa using hc
  ·rw [e3]; cases dst <;> rfl
end
section
variable {P : Program} {N : Nat} {all : Array Oper} {Q : Exit → AS → Prop} {md : Md} {rest : List Oper} {ts : List (Nat × AV)} {hs : List (Nat × Option (List AV))} {n : Nat} {z0 : Lo} {ty : TypeId} {pos : String} {af : Array Edge}
theorem CI {dst:Nat}{op:Op}{j d:Nat}{want:Bool}{md':Md}[hmd:MdA md [.inl d] [.inl dst] md'] (hj:(all[j]?).bind (·.dst) = some d) (hb:lk ts d = some (.v undef)) (hN:Nat.blt dst N = true)
  (k : RW P N all Q md' rest ⟨(dst,.v undef) :: ts,hs,n,z0⟩) : RW P N all Q md (⟨some dst,op,ty,pos,af,some (j,want)⟩ :: rest) ⟨ts,hs,n,z0⟩ :=
 B7 hj hb (fun d h => by cases h;exact cH hN) (by rw [show wD (some dst) = [Sum.inl dst] from rfl,hmd.pf]; exact k)
end
section
variable {P : Program} {N : Nat} {all : Array Oper} {Q : Exit → AS → Prop} {md : Md} {rest : List Oper} {s : AS} {ty : TypeId} {pos : String} {af : Array Edge} {dst : Option Tmp} {op : Op}
theorem JK {jw:Nat × Bool}(h:RW P N all Q md (⟨dst,op,ty,pos,af,some jw⟩ :: rest) s):RW P N all Q md (⟨dst,op,ty,pos,af,some jw⟩ :: rest) s := h
theorem aI {l:List Oper}(h:RW P N all Q md l s):RW P N all Q md l s := h
theorem Fh {c:Code}(h:AW P N c Q s):AW P N c Q s := h
theorem IF {o1:BinOp}{o2:TypeId}{o3 o4:Operand}{o5:TypeId}(h:RW P N all Q md (⟨dst,.binOp o1 o2 o3 o4 o5,ty,pos,af,none⟩ :: rest) s):RW P N all Q md (⟨dst,.binOp o1 o2 o3 o4 o5,ty,pos,af,none⟩ :: rest) s := h
theorem Gq {o1:TypeId}{o2:Operand}(h:RW P N all Q md (⟨dst,.load o1 o2,ty,pos,af,none⟩ :: rest) s):RW P N all Q md (⟨dst,.load o1 o2,ty,pos,af,none⟩ :: rest) s := h
theorem JP {o1:Builtin}{o2:Array Operand}{o3:Array TypeId}(h:RW P N all Q md (⟨dst,.call ⟨.builtin o1,o2,o3⟩,ty,pos,af,none⟩ :: rest) s):RW P N all Q md (⟨dst,.call ⟨.builtin o1,o2,o3⟩,ty,pos,af,none⟩ :: rest) s := h
theorem Gh {o1 o2:TypeId}{o3:Operand}(h:RW P N all Q md (⟨dst,.convert o1 o2 o3,ty,pos,af,none⟩ :: rest) s):RW P N all Q md (⟨dst,.convert o1 o2 o3,ty,pos,af,none⟩ :: rest) s := h
theorem Ix {o1:TypeId}{o2 o3:Operand}(h:RW P N all Q md (⟨dst,.indexAddr o1 o2 o3,ty,pos,af,none⟩ :: rest) s):RW P N all Q md (⟨dst,.indexAddr o1 o2 o3,ty,pos,af,none⟩ :: rest) s := h
theorem GP {o1 o2 o3:Operand}(h:RW P N all Q md (⟨dst,.pick o1 o2 o3,ty,pos,af,none⟩ :: rest) s):RW P N all Q md (⟨dst,.pick o1 o2 o3,ty,pos,af,none⟩ :: rest) s := h
theorem Ja {o1:TypeId}{o2:Array (Nat × Operand)}(h:RW P N all Q md (⟨dst,.build o1 o2,ty,pos,af,none⟩ :: rest) s):RW P N all Q md (⟨dst,.build o1 o2,ty,pos,af,none⟩ :: rest) s := h
theorem HV {o1:TypeId}{o2:Operand}{o3 o4 o5:Option Operand}(h:RW P N all Q md (⟨dst,.slice o1 o2 o3 o4 o5,ty,pos,af,none⟩ :: rest) s):RW P N all Q md (⟨dst,.slice o1 o2 o3 o4 o5,ty,pos,af,none⟩ :: rest) s := h
theorem JG {o1:TypeId}{o2 o3:Operand}(h:RW P N all Q md (⟨dst,.index o1 o2 o3,ty,pos,af,none⟩ :: rest) s):RW P N all Q md (⟨dst,.index o1 o2 o3,ty,pos,af,none⟩ :: rest) s := h
end
end Go.AL
