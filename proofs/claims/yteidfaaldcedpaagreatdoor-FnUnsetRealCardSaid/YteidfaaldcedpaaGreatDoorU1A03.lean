/-
 A part of the proofs over this program: rules and contracts of its functions (the rules).
-/
import Derived.Test.YteidfaaldcedpaaGreatDoorU1A02
import Derived.KernelRfl
import Derived.Test.YteidfaaldcedpaaGreatDoorProg
set_option linter.unusedVariables false
set_option linter.unusedSimpArgs false
namespace Go.AL
open Go.RowKit
section
variable {P : Program} {N : Nat} {Q : Exit → AS → Prop} {all : Array Oper} {rest : List Oper} {ts : List (Nat × AV)} {hs : List (Nat × Option (List AV))} {n : Nat} {z0 : Lo} {md : Md}
variable {d : Option Tmp} {ty : TypeId} {pos : String} {af : Array Edge}
def sO (hs : List (Nat × Option (List AV))) (H0 : List (Nat × Option (List AV))) (mp : List Nat) : Nat → List Nat → Prop
 | _,[] => True
 | j,i :: is => (∃ cs cs',aT H0 j = some cs ∧ aT hs i = some cs' ∧ RnL (mp[·]?) cs cs') ∧ sO hs H0 mp (j + 1) is
theorem wA {H0:List (Nat × Option (List AV))}{mp:List Nat}:∀ {is:List Nat}{j0:Nat},sO hs H0 mp j0 is → ∀ (j i:Nat),is[j]? = some i → ∃ cs cs',aT H0 (j0 + j) = some cs ∧ aT hs i = some cs' ∧ RnL (mp[·]?) cs cs'
 | [],_,_,j,i,h => by simp at h
 | x :: is, j0, hh, j, i, h => by
  simp only [sO] at hh
  cases j with
  | zero => simp at h;subst h;simpa using hh.1
  | succ j =>
   have := wA hh.2 j i (by simpa using h)
   rwa [show j0 + 1 + j = j0 + (j + 1) from by omega] at this
def gI (n : Nat) : List (Nat × Option (List AV)) → Bool
 | [] => true
 | (i,_) :: l => Nat.blt i n && gI n l
theorem rU {n:Nat}:∀ {l:List (Nat × Option (List AV))},gI n l = true → ∀ j cs,aT l j = some cs → j < n
 | [],_,j,cs,h => by simp [aT] at h
 | (i, c) :: l, hk, j, cs, h => by
  simp only [gI,Bool.and_eq_true] at hk
  simp only [cP] at h
  split at h
  ·rename_i e;subst e;exact cS hk.1
  ·exact rU hk.2 j cs h
theorem KK {σ:Type}{k:FuncId}{args:Array Operand}{tys:Array TypeId}{avs avs0:List AV}{H0:List (Nat × Option (List AV))}{p:σ → Prop}{rr rr':σ → AV}{hh ws:σ → List (Nat × Option (List AV))}
  (mp : List Nat) (n1 : Nat) (hc : eZ P k = true) (ha : evL (lk ts) args.toList = some avs) (h : MC P k avs0 H0 mp.length p rr hh) (hd : distinct mp = true)
  (hH0 : sO hs H0 mp 0 mp) (hk : gI mp.length H0 = true) (har : RnL (mp[·]?) avs0 avs) (hM : Nat.ble (n + (n1 - mp.length)) a6 = true)
  (hr : ∀ x,p x → RnV (xQ mp n n1) (rr x) (rr' x)) (hw : ∀ x,p x → WsOk mp (xQ mp n n1) (hh x) (ws x)) (hN : ∀ x,d = some x → x < N)
  (kk : ∀ x,p x → RW P N all Q .txt rest (put ⟨ts,gD hs (ws x),n + (n1 - mp.length),z0⟩ d (rr' x))) : RW P N all Q .txt (⟨d,.call ⟨.value (.func k),args,tys⟩,ty,pos,af,none⟩ :: rest) ⟨ts,hs,n,z0⟩ := by
 rintro C a w hCN ⟨h0,ι,g,gh⟩
 refine wpList_plain rfl (fun K hK => ?_)
 simp only [Oper.wp,fU hc,Oper.upon]
 have hM' := Nat.le_of_ble_eq_true hM
 refine (Cp (nid := n) (n1 := n1) h hd gh (fun j i hj => by simpa using wA hH0 j i hj) (rU hk) har (fun j h1 h2 => ⟨h1,.inl (by omega)⟩) hr hw (iV g ha)).mono ?_
 rintro e w' ⟨v,x,ι',rfl,hx,g',c',hrd⟩
 refine hK _ _ (kk x hx C _ _ hCN ?_)
 have g2 : HG C ι' (Fn (n + (n1 - mp.length)) z0) (kY (aT hs) (ws x)) w' := (g'.less (fun _ _ h => h) (fun j hj => ⟨⟨Nat.le_trans (Nat.le_add_right _ _) hj.1,hj.2⟩,by have := hj.1;omega⟩)).1
 rw [← tR] at g2 c' hrd
 cases d with
 | none => exact ⟨h0,ι',g.carry c',g2⟩
 | some d =>
  refine ⟨h0,ι',?_,g2⟩
  simp only [put]
  rw [iH]
  exact (g.carry c').put (hCN.symm ▸ hN d rfl) hrd
theorem HL {k:FuncId}{args:Array Operand}{tys:Array TypeId}{avs avs0:List AV}{H0:List (Nat × Option (List AV))}{rr rr':AV}{hh ws:List (Nat × Option (List AV))}
  (mp : List Nat) (n1 : Nat) (hc : eZ P k = true) (ha : evL (lk ts) args.toList = some avs) (h : MC P k avs0 H0 mp.length (fun _ : Unit => True) (fun _ => rr) (fun _ => hh)) (hd : distinct mp = true)
  (hH0 : sO hs H0 mp 0 mp) (hk : gI mp.length H0 = true) (har : RnL (mp[·]?) avs0 avs) (hM : Nat.ble (n + (n1 - mp.length)) a6 = true)
  (hr : RnV (xQ mp n n1) rr rr') (hw : WsOk mp (xQ mp n n1) hh ws) (hN : ∀ x,d = some x → x < N)
  (kk : RW P N all Q (md.add (fF args.toList ++ mp.map .inr) (ws.map (fun p => .inr p.1) ++ wD d)) rest (put ⟨ts,gD hs ws,n + (n1 - mp.length),z0⟩ d rr')) : RW P N all Q md (⟨d,.call ⟨.value (.func k),args,tys⟩,ty,pos,af,none⟩ :: rest) ⟨ts,hs,n,z0⟩ := by
 have hM' := Nat.le_of_ble_eq_true hM
 refine kI (rs := fF args.toList ++ mp.map .inr) (ws := ws) (n' := n + (n1 - mp.length)) (out := rr') rfl (Nat.le_add_right _ _) (.inr hM') (fun C ι F T H a w K Q' hCN ag hF g gh hK => ?_) hN kk
 simp only [Oper.wp,fU hc,Oper.upon]
 refine (Cp (nid := n) (n1 := n1) h hd gh (fun j i hj => ?_) (rU hk) har hF (fun _ _ => hr) (fun _ _ => hw) (iV g (ag.l.evL.trans ha))).mono ?_
 ·obtain ⟨cs, cs', q1, q2, q3⟩ := wA hH0 j i hj
  exact ⟨cs,cs',by simpa using q1,by rw [ag.r.h i (List.mem_map_of_mem (List.mem_of_getElem? hj))]; exact q2,q3⟩
 ·rintro e w' ⟨v, x, ι', rfl, hx, g', c', hrd⟩
  exact hK ι' w' v (g.carry c') g' hrd
mutual
def AV.free : AV → Bool
 | .v _ => true
 | .any => true
 | .agg cs => vI cs
 | .tup cs => vI cs
 | _ => false
def vI : List AV → Bool
 | [] => true
 | c :: cs => c.free && vI cs
end
mutual
theorem Rd.free {w:World}{bad bad2:Nat → Prop}{ι ι2:Pl}:∀ (av:AV) (y:Value),av.free = true → Rd w bad ι av y → Rd w bad2 ι2 av y
 | .v x,y,_,h => by simpa only [Rd] using h
 | .any,y,_,h => by simpa only [Rd] using h
 | .imm n cs,y,hp,h => by simp [AV.free] at hp
 | .iptr cs,y,hp,h => by simp [AV.free] at hp
 | .own id off n e,y,hp,h => by simp [AV.free] at hp
 | .ownc id off n c e,y,hp,h => by simp [AV.free] at hp
 | .optr id off,y,hp,h => by simp [AV.free] at hp
 | .clos _ _ _,y,hp,h => by simp [AV.free] at hp
 | .agg cs, y, hp, h => by
  simp only [AV.free] at hp
  simp only [Rd] at h ⊢
  obtain ⟨l,h1,h2⟩ := h
  exact ⟨l,h1,RdL.free cs l hp h2⟩
 | .tup cs, y, hp, h => by
  simp only [AV.free] at hp
  simp only [Rd] at h ⊢
  obtain ⟨l,h1,h2⟩ := h
  exact ⟨l,h1,RdV.free cs l hp h2⟩
theorem RdL.free {w:World}{bad bad2:Nat → Prop}{ι ι2:Pl}:∀ (cs:List AV) (l:List Value),vI cs = true → RdL w bad ι cs l → RdL w bad2 ι2 cs l
 | [],l,_,h => by simpa only [RdL] using h
 | c :: cs, l, hp, h => by
  simp only [vI,Bool.and_eq_true] at hp
  simp only [RdL] at h ⊢
  obtain ⟨x,l',h0,h1,h2,h3⟩ := h
  exact ⟨x,l',h0,h1,Rd.free c x hp.1 h2,RdL.free cs l' hp.2 h3⟩
theorem RdV.free {w:World}{bad bad2:Nat → Prop}{ι ι2:Pl}:∀ (cs:List AV) (l:List Value),vI cs = true → RdV w bad ι cs l → RdV w bad2 ι2 cs l
 | [],l,_,h => by simpa only [RdV] using h
 | c :: cs, l, hp, h => by
  simp only [vI,Bool.and_eq_true] at hp
  simp only [RdV] at h ⊢
  obtain ⟨x,l',h0,h2,h3⟩ := h
  exact ⟨x,l',h0,Rd.free c x hp.1 h2,RdV.free cs l' hp.2 h3⟩
end
def jT (H : Nat → Option (List AV)) : AV → Option AV
 | .own id off m e => (H id).bind fun cs => if bR cs then some (.imm m (cs.drop off)) else none
 | .optr id off => (H id).bind fun cs => if bR cs then some (.iptr (cs.drop off)) else none
 | .agg cs => if bR cs then some (.agg cs) else none
 | .tup cs => if bR cs then some (.tup cs) else none
 | .imm m cs => if bR cs then some (.imm m cs) else none
 | .iptr cs => if bR cs then some (.iptr cs) else none
 | .v x => some (.v x)
 | .any => some .any
 | _ => none
def kF (H : Nat → Option (List AV)) : List AV → Option (List AV)
 | [] => some []
 | c :: cs => match jT H c,kF H cs with|some x,some l => some (x :: l) | _,_ => none
def rL (H : List AV) : List jI := H.flatMap fun av => match av with | .own id _ _ _ => [.inr id] | .optr id _ => [.inr id] | _ => []
theorem Gd {T:Nat → Option AV}{H:Nat → Option (List AV)}:∀ {av:AV},Agr (rL [av]) ts hs T H → jT H av = jT (aT hs) av
 | .own id off m e,g => by simp only [jT]; rw [g.h id (by simp [rL])]
 | .optr id off,g => by simp only [jT]; rw [g.h id (by simp [rL])]
 | .v _,_ => rfl
 | .any,_ => rfl
 | .imm _ _,_ => rfl
 | .iptr _,_ => rfl
 | .agg _,_ => rfl
 | .tup _,_ => rfl
 | .clos _ _ _,_ => rfl
 | .ownc _ _ _ _ _,_ => rfl
theorem yA {T:Nat → Option AV}{H:Nat → Option (List AV)}:∀ {l:List AV},Agr (rL l) ts hs T H → kF H l = kF (aT hs) l
 | [],_ => rfl
 | c :: cs, g => by
  have h1 : Agr (rL [c]) ts hs T H := g.sub fun r hr => by simp only [rL,List.flatMap_cons,List.flatMap_nil,List.append_nil] at hr ⊢; exact List.mem_append_left _ hr
  have h2 : Agr (rL cs) ts hs T H := g.sub fun r hr => by simp only [rL,List.flatMap_cons] at hr ⊢; exact List.mem_append_right _ hr
  simp only [kF]
  rw [Gd h1,yA h2]
theorem Gm {H:Nat → Option (List AV)}:∀ {av out:AV},jT H av = some out → out.pur = true:=by
 intro av out h
 have hdrop : ∀ (k : Nat) (cs : List AV), bR cs = true → bR (cs.drop k) = true := by
  intro k
  induction k with
  | zero => intro cs h;simpa using h
  | succ k ih =>
   intro cs h
   cases cs with
   | nil => simp [bR]
   | cons c cs => simp only [bR,Bool.and_eq_true] at h;simpa using ih cs h.2
 cases av <;> simp only [jT] at h
 ·cases h;rfl
 ·cases h;rfl
 ·split at h <;> cases h;rename_i hp;exact hp
 ·split at h <;> cases h;rename_i hp;exact hp
 ·rename_i id off m e
  cases hH : H id with
  | none => simp [hH] at h
  | some cs =>
   simp only [hH,Option.bind_some] at h
   split at h <;> cases h
   rename_i hp;exact hdrop _ _ hp
 ·rename_i id off
  cases hH : H id with
  | none => simp [hH] at h
  | some cs =>
   simp only [hH,Option.bind_some] at h
   split at h <;> cases h
   rename_i hp;exact hdrop _ _ hp
 ·split at h <;> cases h;rename_i hp;exact hp
 ·split at h <;> cases h;rename_i hp;exact hp
 ·cases h
 ·cases h
theorem IM {C:Ctx}{ι:Pl}{F:Nat → Prop}{H:Nat → Option (List AV)}{w:World}(g:HG C ι F H w){av out:AV}{y:Value}(h:jT H av = some out) (hy:Rd w (aL C.X ι H) ι av y):Rd w C.X (fun _ => none) out y:=by
 have hc0 : ∀ ι2 : Pl,Carry w (aL C.X ι H) ι2 w C.X ι2 := fun ι2 => ⟨fun b o x h1 h2 => ⟨fun q => h1 (.inl q),h2⟩,fun _ _ h => h,fun _ => Nat.le_refl _⟩
 have pure : ∀ {av : AV},av.pur = true → Rd w (aL C.X ι H) ι av y → Rd w C.X (fun _ => none) av y := fun hp hy => Rd.pur _ y hp (Rd.carry (hc0 ι) _ _ hy)
 cases av <;> simp only [jT] at h
 ·cases h;exact pure rfl hy
 ·cases h;exact pure rfl hy
 ·split at h <;> cases h;rename_i hp;exact pure hp hy
 ·split at h <;> cases h;rename_i hp;exact pure hp hy
 ·rename_i id off m e
  cases hH : H id with
  | none => simp [hH] at h
  | some cs =>
   simp only [hH,Option.bind_some] at h
   split at h <;> cases h
   rename_i hp
   simp only [Rd] at hy ⊢
   rcases hy with ⟨_,rfl,a,rfl⟩ | ⟨b,β,c,h1,rfl,h2,h3⟩
   ·exact ⟨a,0,rfl,.inl rfl⟩
   ·rcases g.obj id cs hH with ⟨q, _⟩ | ⟨b', β', arr, e', q, q4, q5, q6, q7, q8⟩
    ·rw [q] at h1;cases h1
    ·rw [q] at h1; cases h1
     exact ⟨_,c,rfl,.inr ⟨_,_,h2,rfl,eE off (.inr ⟨q7,RdC.pur cs b β hp (RdC.carryB (hc0 ι) _ _ _ (fun o x hx => hx) q6)⟩)⟩⟩
 ·rename_i id off
  cases hH : H id with
  | none => simp [hH] at h
  | some cs =>
   simp only [hH,Option.bind_some] at h
   split at h <;> cases h
   rename_i hp
   simp only [Rd] at hy ⊢
   obtain ⟨b,β,h1,rfl⟩ := hy
   rcases g.obj id cs hH with ⟨q,_⟩ | ⟨b',β',arr,e',q,q4,q5,q6,q7,q8⟩
   ·rw [q] at h1;cases h1
   ·rw [q] at h1; cases h1
    exact ⟨_,_,rfl,eE off (.inr ⟨q7,RdC.pur cs b β hp (RdC.carryB (hc0 ι) _ _ _ (fun o x hx => hx) q6)⟩)⟩
 ·split at h <;> cases h;rename_i hp;exact pure hp hy
 ·split at h <;> cases h;rename_i hp;exact pure hp hy
 ·cases h
 ·cases h
theorem CI {C:Ctx}{ι:Pl}{F:Nat → Prop}{H:Nat → Option (List AV)}{w:World}(g:HG C ι F H w):∀ {l out:List AV}{ys:List Value},kF H l = some out → RdV w (aL C.X ι H) ι l ys → RdV w C.X (fun _ => none) out ys ∧ bR out = true
 | [],out,ys,h,hy => by simp only [kF,Option.some.injEq] at h;subst h;simp only [RdV] at hy ⊢; exact ⟨hy,rfl⟩
 | c :: cs, out, ys, h, hy => by
  simp only [kF] at h
  split at h
  ·rename_i x l h1 h2
   cases h
   simp only [RdV] at hy ⊢
   obtain ⟨y,ys',rfl,q1,q2⟩ := hy
   obtain ⟨q3,q4⟩ := CI g h2 q2
   exact ⟨⟨y,ys',rfl,IM g h1 q1,q3⟩,by simp only [bR,Bool.and_eq_true]; exact ⟨Gm h1,q4⟩⟩
  ·cases h
theorem LO {k:FuncId}{args:Array Operand}{tys:Array TypeId}{avs avs2:List AV}{r:AV}{d:Nat}(hc:eZ P k = true) (ha:evL (lk ts) args.toList = some avs) (hl:kF (aT hs) avs = some avs2) (h:PC P k avs2 (fun x => x = r)) (hfr:r.free = true) (hN:d < N)
  (kk : RW P N all Q (md.add (fF args.toList ++ rL avs) [.inl d]) rest ⟨(d,r) :: ts,hs,n,z0⟩) : RW P N all Q md (⟨some d,.call ⟨.value (.func k),args,tys⟩,ty,pos,af,none⟩ :: rest) ⟨ts,hs,n,z0⟩ := by
 refine kI (rs := fF args.toList ++ rL avs) (ws := []) (n' := n) (out := r) rfl (Nat.le_refl _) (.inl rfl) (fun C ι F T H a w K Q' hCN ag hF g gh hK => ?_) (fun x hx => by cases hx;exact hN) kk
 simp only [Oper.wp,fU hc,Oper.upon]
 obtain ⟨hv,hp⟩ := CI gh ((yA ag.r).trans hl) (iV g (ag.l.evL.trans ha))
 let C' : Ctx := { N := 0,w0 := w,W0 := fun _ => False,X := C.X,ι0 := fun _ => none,xlt := fun b hb => Nat.lt_of_lt_of_le (C.xlt b hb) gh.fr.size }
 have hbad : ∀ b,aL C'.X (fun _ => none) (aT []) b ↔ C.X b := fun b => ⟨fun h => (by rcases h with h | ⟨id,cs,β,h1,h2⟩ <;> first|exact h|cases h2),fun h => Or.inl h⟩
 have g' : HG C' (fun _ => none) (fun j => 0 ≤ j) (aT []) w :=
  ⟨fun id cs h => by simp [aT] at h,fun id id' cs cs' b β β' h => by simp [aT] at h,Fr.refl _ _,fun _ _ h => h,fun _ _ => rfl⟩
 have hcar : Carry w C.X (fun _ => none) w (aL C'.X (fun _ => none) (aT [])) (fun _ => none) := ⟨fun b o x h1 h2 => ⟨fun h => h1 ((hbad b).1 h),h2⟩,fun _ _ h => h,fun _ => Nat.le_refl _⟩
 refine (h C' _ w _ rfl rfl g' (RdV.carry hcar _ _ hv)).mono ?_
 rintro e w' ⟨v,r',H',ι',rfl,⟨rfl,_⟩,h4,h5⟩
 obtain ⟨g2,c2⟩ := gh.ext h5.fr
 exact hK ι w' v (g.carry c2) (g2.less (fun _ _ h => h) (fun j hj => hj.1)).1 (Rd.free _ _ hfr h4)
end
class SlT (P : Program) (t : Nat) (e : outParam Nat) : Prop where pf : mI P t = some e
class SzT (P : Program) (t : Nat) (e : outParam Nat) : Prop where pf : fL P t = some e
class ByT (P : Program) (t : Nat) (e : outParam Nat) : Prop where pf : B2 P t = some e
class AgT (P : Program) (t : Nat) (e : outParam Bool) : Prop where pf : vQ P t = some e
class ZrT (P : Program) (t : Nat) (e : outParam (List Value)) : Prop where pf : oR P t = some e
class FdT (P : Program) (t f : Nat) (o ft : outParam Nat) : Prop where pf : C0 P t f = some (o,ft)
class ArT (P : Program) (t : Nat) (n e : outParam Nat) : Prop where pf : DX P t = some (n,e)
class InT (P : Program) (t : Nat) (k : outParam IntKind) : Prop where pf : Bq P t = some k
class StT (P : Program) (t : Nat) : Prop where pf : P.underlying t = some .string
class PtT (P : Program) (t : Nat) (l : outParam (List (Nat × Nat))) : Prop where pf : Nx P t = some l
class CaT (P : Program) (k : Nat) : Prop where pf : eZ P k = true
class MdA (md : Md) (rs ws : List jI) (md' : outParam Md) : Prop where pf : md.add rs ws = md'
instance (rs ws : List jI) : MdA .txt rs ws .txt:=⟨rfl⟩
instance (ks : List (List jI × List jI)) (p rs ws : List jI) : MdA (.drw ks p) rs ws (.drw (ks ++ [(p ++ rs,ws)]) []):=⟨rfl⟩
class MdP (md : Md) (r : jI) (md' : outParam Md) : Prop where pf : md.pen r = md'
instance (r : jI) : MdP .txt r .txt:=⟨rfl⟩
instance (ks : List (List jI × List jI)) (p : List jI) (r : jI) : MdP (.drw ks p) r (.drw ks (r :: p)):=⟨rfl⟩
def flat {α : Type} (f : α → List AV) (xs : List α) : List AV := xs.flatMap f
class FlT {α : Type} (f : α → List AV) (e : outParam Nat) : Prop where pf : ∀ x,(f x).length = e
theorem aI {α:Type}(f:α → List AV){e:Nat}[h:FlT f e]:∀ (xs:List α),(flat f xs).length = xs.length * e
 | [] => by simp [flat]
 | x :: xs => by
  have := aI f (e := e) xs
  simp only [flat,List.flatMap_cons,List.length_append,List.length_cons,h.pf] at this ⊢
  rw [this,Nat.add_mul]; omega
theorem fE {α:Type}[Inhabited α] (f:α → List AV){e:Nat}[h:FlT f e]:∀ (xs:List α) (k:Nat),k < xs.length → (flat f xs).drop (k * e) = f xs[k]! ++ flat f (xs.drop (k + 1))
 | [],k,hk => by simp at hk
 | x :: xs,0,_ => by simp [flat]
 | x :: xs, k + 1, hk => by
  have := fE f (e := e) xs k (by simpa using hk)
  simp only [flat,List.flatMap_cons,List.drop_succ_cons] at this ⊢
  rw [show (k + 1) * e = (f x).length + k * e from by rw [h.pf,Nat.add_mul]; omega,← List.drop_drop,List.drop_left,this]
  simp
theorem dL {α:Type}(f:α → List AV){e:Nat}[h:FlT f e]:∀ (xs:List α) (k:Nat),(flat f xs).take (k * e) = flat f (xs.take k)
 | [],k => by simp [flat]
 | x :: xs,0 => by simp [flat]
 | x :: xs, k + 1 => by
  have := dL f (e := e) xs k
  simp only [flat,List.flatMap_cons,List.take_succ_cons] at this ⊢
  rw [show (k + 1) * e = (f x).length + k * e from by rw [h.pf,Nat.add_mul]; omega,List.take_length_add_append,this]
theorem j4 {α:Type}(f:α → List AV){e:Nat}[h:FlT f e]:∀ (xs:List α) (k:Nat),(flat f xs).drop (k * e) = flat f (xs.drop k)
 | [],k => by simp [flat]
 | x :: xs,0 => by simp [flat]
 | x :: xs, k + 1 => by
  have := j4 f (e := e) xs k
  simp only [flat,List.flatMap_cons,List.drop_succ_cons] at this ⊢
  rw [show (k + 1) * e = (f x).length + k * e from by rw [h.pf,Nat.add_mul]; omega,← List.drop_drop,List.drop_left,this]
theorem cE {α:Type}(f:α → List AV) (xs ys:List α):flat f xs ++ flat f ys = flat f (xs ++ ys) := by simp [flat]
theorem nL {α:Type}(f:α → List AV) (x:α):flat f [x] = f x := by simp [flat]
theorem Ku {α:Type}(f:α → List AV){e:Nat}[h:FlT f e] (xs:List α) (k:Nat) (y:α) (hk:k < xs.length):gW (flat f xs) (k * e) (f y) = flat f (xs.set k y):=by
 unfold gW
 rw [dL,h.pf,show k * e + e = (k + 1) * e from by rw [Nat.add_mul]; omega,j4,← nL f y,cE,cE]
 congr 1
 rw [List.set_eq_take_append_cons_drop,if_pos hk]
 simp
abbrev sl {α : Type} (f : α → List AV) (xs : List α) : AV := .imm xs.length (flat f xs)
abbrev iv (n : Int) : AV := .v (.int .i64 n)
abbrev bv (b : Bool) : AV := .v (.bool b)
abbrev sv (s : ByteArray) : AV := .v (.string s)
def cI (n : Int) : List AV := [.v (.int .i64 n)]
def cB (b : Bool) : List AV := [.v (.bool b)]
instance : FlT cI 1:=⟨fun _ => rfl⟩
instance : FlT cB 1:=⟨fun _ => rfl⟩
theorem jF:∀ (xs ys:List AV),bR (xs ++ ys) = (bR xs && bR ys)
 | [],ys => by simp [bR]
 | x :: xs,ys => by simp [bR,jF xs ys,Bool.and_assoc]
theorem wL {α:Type}(f:α → List AV) (h:∀ x,bR (f x) = true):∀ xs,bR (flat f xs) = true
 | [] => rfl
 | x :: xs => by
  have := wL f h xs
  simp only [flat,List.flatMap_cons,jF,h,Bool.true_and] at this ⊢
  exact this
class FE {α : Type} (f : α → List AV) (g : outParam (α → List AV)) : Prop where pf : ∀ x,f x = g x
instance : FE cI (fun n => [.v (.int .i64 n)]):=⟨fun _ => rfl⟩
instance : FE cB (fun n => [.v (.bool n)]):=⟨fun _ => rfl⟩
class Pur (av : List AV) : Prop where pf : bR av = true
instance (n : Int) : Pur (cI n):=⟨rfl⟩
instance (n : Bool) : Pur (cB n):=⟨rfl⟩
instance {α : Type} (f : α → List AV) [h : ∀ x,Pur (f x)] (xs : List α) : Pur (flat f xs):=⟨wL f (fun x => (h x).pf) xs⟩
theorem bD {α:Type}(f:α → List AV) [h:∀ x,Pur (f x)] (xs:List α):(sl f xs).pur = true := by simp only [AV.pur]; exact wL f (fun x => (h x).pf) xs
section
variable {P : Program} {N : Nat} {Q : Exit → AS → Prop} {all : Array Oper} {rest : List Oper} {ts : List (Nat × AV)} {hs : List (Nat × Option (List AV))} {n : Nat} {z0 : Lo} {md : Md}
variable {d : Nat} {ty : TypeId} {pos : String} {af : Array Edge}
theorem Mv {x:Operand}{av:AV}(hx:ev (lk ts) x = some av) (hN:Nat.blt d N = true){md':Md}[hmd:MdA md (rO x) [.inl d] md'] (k:RW P N all Q md' rest ⟨(d,av) :: ts,hs,n,z0⟩):RW P N all Q md (⟨some d,.move x,ty,pos,af,none⟩ :: rest) ⟨ts,hs,n,z0⟩ := M5 hx (cS hN) (by rw [hmd.pf]; exact k)
theorem yF {x:Operand}{av:AV}(hx:ev (lk ts) x = some av) (hN:Nat.blt d N = true){md':Md}[hmd:MdA md (rO x) [.inl d] md'] (k:RW P N all Q md' rest ⟨(d,av) :: ts,hs,n,z0⟩):RW P N all Q md (⟨some d,.assign x,ty,pos,af,none⟩ :: rest) ⟨ts,hs,n,z0⟩ := Gv hx (cS hN) (by rw [hmd.pf]; exact k)
theorem OE {op:BinOp}{t t':TypeId}{x y:Operand}{k:IntKind}{m m':Int}{v:Value}(hx:ev (lk ts) x = some (.v (.int k m))) (hy:ev (lk ts) y = some (.v (.int k m')))
  (h : gN op k m m' = some v) (hN : Nat.blt d N = true) {md' : Md} [hmd : MdA md (rO x ++ rO y) [.inl d] md'] (kk : RW P N all Q md' rest ⟨(d,.v v) :: ts,hs,n,z0⟩) : RW P N all Q md (⟨some d,.binOp op t x y t',ty,pos,af,none⟩ :: rest) ⟨ts,hs,n,z0⟩ := dT hx hy (.inl rfl) h (cS hN) (by rw [hmd.pf]; exact kk)
theorem Pe {t t':TypeId}{x y:Operand}{m m':Int}(hx:ev (lk ts) x = some (.v (.int .i64 m))) (hy:ev (lk ts) y = some (.v (.int .i64 m')))
  (h : -9223372036854775808 ≤ m + m' ∧ m + m' ≤ 9223372036854775807) (hN : Nat.blt d N = true) {md' : Md} [hmd : MdA md (rO x ++ rO y) [.inl d] md'] (kk : RW P N all Q md' rest ⟨(d,.v (.int .i64 (m + m'))) :: ts,hs,n,z0⟩) : RW P N all Q md (⟨some d,.binOp .add t x y t',ty,pos,af,none⟩ :: rest) ⟨ts,hs,n,z0⟩ := OM hx hy h (cS hN) (by rw [hmd.pf]; exact kk)
theorem Qo {t t':TypeId}{x y:Operand}{m m':Int}(hx:ev (lk ts) x = some (.v (.int .i64 m))) (hy:ev (lk ts) y = some (.v (.int .i64 m')))
  (h : -9223372036854775808 ≤ m - m' ∧ m - m' ≤ 9223372036854775807) (hN : Nat.blt d N = true) {md' : Md} [hmd : MdA md (rO x ++ rO y) [.inl d] md'] (kk : RW P N all Q md' rest ⟨(d,.v (.int .i64 (m - m'))) :: ts,hs,n,z0⟩) : RW P N all Q md (⟨some d,.binOp .sub t x y t',ty,pos,af,none⟩ :: rest) ⟨ts,hs,n,z0⟩ := Pz hx hy h (cS hN) (by rw [hmd.pf]; exact kk)
theorem OA {t:TypeId}{x:Operand}{b:Bool}(hx:ev (lk ts) x = some (.v (.bool b))) (hN:Nat.blt d N = true){md':Md}[hmd:MdA md (rO x) [.inl d] md'] (kk:RW P N all Q md' rest ⟨(d,.v (.bool !b)) :: ts,hs,n,z0⟩):RW P N all Q md (⟨some d,.unOp .not t x,ty,pos,af,none⟩ :: rest) ⟨ts,hs,n,z0⟩ := PF hx (cS hN) (by rw [hmd.pf]; exact kk)
theorem O6 {x:Operand}{av:AV}(hx:ev (lk ts) x = some av) (hp:Fs av = true) (hN:Nat.blt d N = true){md':Md}[hmd:MdA md (rO x) [.inl d] md'] (kk:RW P N all Q md' rest ⟨(d,av) :: ts,hs,n,z0⟩):RW P N all Q md (⟨some d,.nilCheck x,ty,pos,af,none⟩ :: rest) ⟨ts,hs,n,z0⟩ := Ns hx hp (cS hN) (by rw [hmd.pf]; exact kk)
theorem zM {s:TypeId}{f:Nat}{x:Operand}{av out:AV}{fo ft z:Nat}[hf:FdT P s f fo ft] [hz:SzT P ft (z + 1)] (hx:ev (lk ts) x = some av) (hp:CW fo av = some out) (hN:Nat.blt d N = true)
  {md' : Md} [hmd : MdA md (rO x) [.inl d] md'] (kk : RW P N all Q md' rest ⟨(d,out) :: ts,hs,n,z0⟩) : RW P N all Q md (⟨some d,.fieldAddr s x f,ty,pos,af,none⟩ :: rest) ⟨ts,hs,n,z0⟩ := y1 hx hf.pf hz.pf hp (cS hN) (by rw [hmd.pf]; exact kk)
theorem vM {α:Type}{hα:Inhabited α}{f g:α → List AV}{xs:List α}{t el e m k:Nat}{x i:Operand}{kk0:IntKind}[ht:SlT P t el] [he:SzT P el e] (hx:ev (lk ts) x = some (.imm m (flat f xs)))
  (hi : ev (lk ts) i = some (.v (.int kk0 (k : Int)))) (hm : k < m) (hml : m = xs.length) (hf : FlT f e) (hg : FE f g) (hN : Nat.blt d N = true) {md' : Md} [hmd : MdA md (rO x ++ rO i) [.inl d] md'] (kk : RW P N all Q md' rest ⟨(d,.iptr (g xs[k]! ++ flat f (xs.drop (k + 1)))) :: ts,hs,n,z0⟩) :
  RW P N all Q md (⟨some d,.indexAddr t x i,ty,pos,af,none⟩ :: rest) ⟨ts,hs,n,z0⟩ :=
 gG hx hi ht.pf he.pf (by simp only [BA]; rw [if_pos (by omega),Int.toNat_natCast,fE f xs k (by omega),hg.pf]) (cS hN) (by rw [hmd.pf]; exact kk)
theorem xK {α:Type}{hα:Inhabited α}{f g:α → List AV}{xs:List α}{t el e m:Nat}{x i:Operand}{kk0:IntKind}{k:Int}[ht:SlT P t el] [he:SzT P el e] (hx:ev (lk ts) x = some (.imm m (flat f xs)))
  (hi : ev (lk ts) i = some (.v (.int kk0 k))) (hm : 0 ≤ k ∧ k < m) (hml : m = xs.length) (hf : FlT f e) (hg : FE f g) (hN : Nat.blt d N = true) {md' : Md} [hmd : MdA md (rO x ++ rO i) [.inl d] md'] (kk : RW P N all Q md' rest ⟨(d,.iptr (g xs[k.toNat]! ++ flat f (xs.drop (k.toNat + 1)))) :: ts,hs,n,z0⟩) :
  RW P N all Q md (⟨some d,.indexAddr t x i,ty,pos,af,none⟩ :: rest) ⟨ts,hs,n,z0⟩ :=
 gG hx hi ht.pf he.pf (by simp only [BA]; rw [if_pos hm,fE f xs k.toNat (by omega),hg.pf]) (cS hN) (by rw [hmd.pf]; exact kk)
theorem Ev {t el e m k id off e':Nat}{x i:Operand}{kk0:IntKind}[ht:SlT P t el] [he:SzT P el e] (hx:ev (lk ts) x = some (.own id off m e'))
  (hi : ev (lk ts) i = some (.v (.int kk0 (k : Int)))) (hm : k < m) (hN : Nat.blt d N = true) {md' : Md} [hmd : MdA md (rO x ++ rO i) [.inl d] md'] (kk : RW P N all Q md' rest ⟨(d,.optr id (off + k * e)) :: ts,hs,n,z0⟩) :
  RW P N all Q md (⟨some d,.indexAddr t x i,ty,pos,af,none⟩ :: rest) ⟨ts,hs,n,z0⟩ :=
 gG hx hi ht.pf he.pf (by simp only [BA]; rw [if_pos (by omega),Int.toNat_natCast]) (cS hN) (by rw [hmd.pf]; exact kk)
theorem Hi {t el e m id off e':Nat}{x i:Operand}{kk0:IntKind}{k:Int}[ht:SlT P t el] [he:SzT P el e] (hx:ev (lk ts) x = some (.own id off m e'))
  (hi : ev (lk ts) i = some (.v (.int kk0 k))) (hm : 0 ≤ k ∧ k < m) (hN : Nat.blt d N = true) {md' : Md} [hmd : MdA md (rO x ++ rO i) [.inl d] md'] (kk : RW P N all Q md' rest ⟨(d,.optr id (off + k.toNat * e)) :: ts,hs,n,z0⟩) :
  RW P N all Q md (⟨some d,.indexAddr t x i,ty,pos,af,none⟩ :: rest) ⟨ts,hs,n,z0⟩ :=
 gG hx hi ht.pf he.pf (by simp only [BA]; rw [if_pos hm]) (cS hN) (by rw [hmd.pf]; exact kk)
theorem B3 {t:TypeId}{x:Operand}{av c:AV}{cs:List AV}[ha:AgT P t false] (hx:ev (lk ts) x = some av)
  (hd : deref (aT hs) av = some cs) (hc : cs[0]? = some c) (hN : Nat.blt d N = true) {md' : Md} [hmd : MdA md (rO x ++ rA av) [.inl d] md'] (kk : RW P N all Q md' rest ⟨(d,c) :: ts,hs,n,z0⟩) : RW P N all Q md (⟨some d,.load t x,ty,pos,af,none⟩ :: rest) ⟨ts,hs,n,z0⟩ := nE hx ha.pf hd hc (cS hN) (by rw [hmd.pf]; exact kk)
theorem It {t:TypeId}{x:Operand}{av:AV}{z:Nat}{cs cs':List AV}[ha:AgT P t true] [hz:SzT P t z] (hx:ev (lk ts) x = some av)
  (hd : deref (aT hs) av = some cs) (hc : cs.take z = cs') (hn : cs'.length = z) (h0 : Nat.blt 0 z = true) (hN : Nat.blt d N = true) {md' : Md} [hmd : MdA md (rO x ++ rA av) [.inl d] md'] (kk : RW P N all Q md' rest ⟨(d,.agg cs') :: ts,hs,n,z0⟩) :
  RW P N all Q md (⟨some d,.load t x,ty,pos,af,none⟩ :: rest) ⟨ts,hs,n,z0⟩ := lG hx ha.pf hz.pf hd hc hn (by have := cS h0;omega) (cS hN) (by rw [hmd.pf]; exact kk)
theorem P1 {t el m:Nat}{x:Operand}{av:AV}{l:List TypeId}[ht:SlT P t el] (hx:ev (lk ts) x = some av)
  (hn : (match qR av with | .own _ _ n _ => some n | .imm n _ => some n | _ => none) = some m) (hN : Nat.blt d N = true) {md' : Md} [hmd : MdA md (rO x) [.inl d] md'] (kk : RW P N all Q md' rest ⟨(d,.v (.int .i64 (m : Int))) :: ts,hs,n,z0⟩) :
  RW P N all Q md (⟨some d,.call ⟨.builtin .len,#[x],(t :: l).toArray⟩,ty,pos,af,none⟩ :: rest) ⟨ts,hs,n,z0⟩ := OF (by simp) hx ht.pf hn (cS hN) (by rw [hmd.pf]; exact kk)
theorem MU {t:Nat}{x:Operand}{l:List TypeId}{s:ByteArray}[ht:StT P t] (hx:ev (lk ts) x = some (.v (.string s))) (hN:Nat.blt d N = true){md':Md}[hmd:MdA md (rO x) [.inl d] md'] (kk:RW P N all Q md' rest ⟨(d,.v (.int .i64 (s.size:Int))) :: ts,hs,n,z0⟩) :
  RW P N all Q md (⟨some d,.call ⟨.builtin .len,#[x],(t :: l).toArray⟩,ty,pos,af,none⟩ :: rest) ⟨ts,hs,n,z0⟩ := MB (by simp) hx ht.pf (cS hN) (by rw [hmd.pf]; exact kk)
theorem Ed {x:Operand}{i:Nat}{cs:List AV}{c:AV}(hx:ev (lk ts) x = some (.tup cs)) (hc:cs[i]? = some c) (hN:Nat.blt d N = true){md':Md}[hmd:MdA md (rO x) [.inl d] md'] (kk:RW P N all Q md' rest ⟨(d,c) :: ts,hs,n,z0⟩) :
  RW P N all Q md (⟨some d,.extract x i,ty,pos,af,none⟩ :: rest) ⟨ts,hs,n,z0⟩ := DG hx hc (cS hN) (by rw [hmd.pf]; exact kk)
theorem mQ {t:TypeId}{parts:Array (Nat × Operand)}{pl:List (Nat × Nat)}{zs:List Value}{l:List (Nat × AV)}{cs:List AV}[hp:PtT P t pl] [hz:ZrT P t zs]
  (hl : evs (lk ts) parts.toList = some l) (hf : jB (pl[·]?) (zs.map .v) l = some cs) (hN : Nat.blt d N = true) {md' : Md} [hmd : MdA md (JL parts.toList) [.inl d] md'] (kk : RW P N all Q md' rest ⟨(d,.agg cs) :: ts,hs,n,z0⟩) :
  RW P N all Q md (⟨some d,.build t parts,ty,pos,af,none⟩ :: rest) ⟨ts,hs,n,z0⟩ := H4 hp.pf hz.pf hl hf (cS hN) (by rw [hmd.pf]; exact kk)
theorem Ip {t:TypeId}{zs:List Value}[hz:ZrT P t zs] (hM:Nat.blt n a6 = true) (hN:Nat.blt d N = true){md':Md}[hmd:MdA md ([]) [.inr n,.inl d] md'] (kk:RW P N all Q md' rest ⟨(d,.optr n 0) :: ts,(n,some (zs.map .v)) :: hs,n + 1,z0⟩) :
  RW P N all Q md (⟨some d,.alloc t,ty,pos,af,none⟩ :: rest) ⟨ts,hs,n,z0⟩ := Kh hz.pf hM (cS hN) (by rw [hmd.pf]; exact kk)
theorem O7 {t:TypeId}{x:Operand}{av:AV}{cs:List AV}(hx:ev (lk ts) x = some av) (hc:cellsOf av = some cs) (hM:Nat.blt n a6 = true) (hN:Nat.blt d N = true){md':Md}[hmd:MdA md (rO x) [.inr n,.inl d] md'] (kk:RW P N all Q md' rest ⟨(d,.optr n 0) :: ts,(n,some cs) :: hs,n + 1,z0⟩) :
  RW P N all Q md (⟨some d,.box t x,ty,pos,af,none⟩ :: rest) ⟨ts,hs,n,z0⟩ := Ol hx hc hM (cS hN) (by rw [hmd.pf]; exact kk)
theorem oK {t el len e:Nat}{parts:Array (Nat × Operand)}{zs:List Value}{l:List (Nat × AV)}{cs:List AV}[ht:SlT P t el] [he:SzT P el e] [hz:ZrT P el zs] (hze:zs.length = e) (hsm:Nat.ble (len * e) 16777216 = true)
  (hl : evs (lk ts) parts.toList = some l) (hfl : jB (fun i => some (i * e,e)) ((List.replicate len (zs.map .v)).flatten) l = some cs) (hM : Nat.blt n a6 = true) (hN : Nat.blt d N = true) {md' : Md} [hmd : MdA md (JL parts.toList) [.inr n,.inl d] md'] (kk : RW P N all Q md' rest ⟨(d,.own n 0 len e) :: ts,(n,some cs) :: hs,n + 1,z0⟩) :
  RW P N all Q md (⟨some d,.buildSlice t len parts,ty,pos,af,none⟩ :: rest) ⟨ts,hs,n,z0⟩ := wX ht.pf he.pf hz.pf hze (by simpa using hsm) hl hfl hM (cS hN) (by rw [hmd.pf]; exact kk)
theorem bC {t:TypeId}{x y:Operand}{id off z:Nat}{av:AV}{cs new cs':List AV}[hz:SzT P t z] (hx:ev (lk ts) x = some (.optr id off)) (hy:ev (lk ts) y = some av)
  (hc : cellsOf av = some new) (hn : new.length = z) (hH : aT hs id = some cs) (hl : off + new.length ≤ cs.length) (hcs : gW cs off new = cs')
  {md' : Md} [hmd : MdA md (rO x ++ (rO y ++ [.inr id])) [.inr id] md'] (kk : RW P N all Q md' rest ⟨ts,(id,some cs') :: hs,n,z0⟩) : RW P N all Q md (⟨none,.store t x y,ty,pos,af,none⟩ :: rest) ⟨ts,hs,n,z0⟩ := Cb hx hy hz.pf hc hn hH hl hcs (by rw [hmd.pf]; exact kk)
theorem bZ {t el id off m m' e by':Nat}{x y:Operand}{av:AV}{cs new cs':List AV}{zs:List Value}[ht:SlT P t el] [he:SzT P el e] [hb:ByT P el by'] [hz:ZrT P el zs]
  (hx : ev (lk ts) x = some (.own id off m e)) (hy : ev (lk ts) y = some av) (hze : zs.length = e) (he0 : Nat.blt 0 e = true)
  (hH : aT hs id = some cs) (hl : off + m * e ≤ cs.length) (hs' : sCells (aT hs) e (qR av) = some (m',new)) (hbig : (m + m') * by' ≤ 140737488355328) (hmx : m + m' ≤ 9223372036854775807)
  (hcs : (cs.drop off).take (m * e) ++ new = cs') (hM : Nat.blt n a6 = true) (hN : Nat.blt d N = true) {md' : Md} [hmd : MdA md (rO x ++ (rO y ++ ([.inr id] ++ rA av))) [.inr id,.inr n,.inl d] md'] (kk : RW P N all Q md' rest ⟨(d,.own n 0 (m + m') e) :: ts,(n,some cs') :: (id,none) :: hs,n + 1,z0⟩) :
  RW P N all Q md (⟨some d,.call ⟨.builtin .append,#[x,y],#[t,t]⟩,ty,pos,af,none⟩ :: rest) ⟨ts,hs,n,z0⟩ := GW hx hy ht.pf he.pf hb.pf hz.pf hze (cS he0) rfl hH hl hs' hbig hmx hcs hM (cS hN) (by rw [hmd.pf]; exact kk)
theorem jE {k:FuncId}{args:Array Operand}{tys:Array TypeId}{avs:List AV}{Q1:AV → Prop}[hc:CaT P k] (ha:evL (lk ts) args.toList = some avs) (h:PC P k avs Q1) (hp:bR avs = true) (hN:Nat.blt d N = true)
  (kk : ∀ r,Q1 r → r.pur = true → RW P N all Q .txt rest ⟨(d,r) :: ts,hs,n,z0⟩) : RW P N all Q .txt (⟨some d,.call ⟨.value (.func k),args,tys⟩,ty,pos,af,none⟩ :: rest) ⟨ts,hs,n,z0⟩ := MG hc.pf ha h hp (cS hN) kk
theorem aA {k:FuncId}{args:Array Operand}{tys:Array TypeId}{avs:List AV}{r:AV}[hc:CaT P k] (ha:evL (lk ts) args.toList = some avs) (h:PC P k avs (fun x => x = r)) (hp:bR avs = true) (hN:Nat.blt d N = true)
  {md' : Md} [hmd : MdA md (fF args.toList) [.inl d] md'] (kk : RW P N all Q md' rest ⟨(d,r) :: ts,hs,n,z0⟩) : RW P N all Q md (⟨some d,.call ⟨.value (.func k),args,tys⟩,ty,pos,af,none⟩ :: rest) ⟨ts,hs,n,z0⟩ := IB hc.pf ha h hp (cS hN) (by rw [hmd.pf]; exact kk)
theorem Hl {dst:Option Tmp}{op:Op}{j d:Nat}{want b:Bool}{mdp:Md}[hmp:MdP md (.inl d) mdp] (hj:(all[j]?).bind (·.dst) = some d) (hb:lk ts d = some (.v (.bool b))) (hN:(match dst with | some d => Nat.blt d N | none => true) = true) (hw:b = want)
  (h1 : RW P N all Q mdp (⟨dst,op,ty,pos,af,none⟩ :: rest) ⟨ts,hs,n,z0⟩) : RW P N all Q md (⟨dst,op,ty,pos,af,some (j,want)⟩ :: rest) ⟨ts,hs,n,z0⟩ :=
 vC hj hb (fun d h => by subst h;exact cS hN) (fun _ => hmp.pf ▸ h1) (fun h => by subst hw;cases b <;> simp at h)
theorem JA {c x y:Operand}{b:Bool}{av:AV}(hc:ev (lk ts) c = some (.v (.bool b))) (hb:b = true) (hx:ev (lk ts) x = some av) (hN:Nat.blt d N = true){md':Md}[hmd:MdA md (rO c ++ rO x) [.inl d] md'] (k:RW P N all Q md' rest ⟨(d,av) :: ts,hs,n,z0⟩) :
  RW P N all Q md (⟨some d,.pick c x y,ty,pos,af,none⟩ :: rest) ⟨ts,hs,n,z0⟩ := Kv hc hb hx (cS hN) (by rw [hmd.pf]; exact k)
theorem JZ {c x y:Operand}{b:Bool}{av:AV}(hc:ev (lk ts) c = some (.v (.bool b))) (hb:b = false) (hx:ev (lk ts) y = some av) (hN:Nat.blt d N = true){md':Md}[hmd:MdA md (rO c ++ rO y) [.inl d] md'] (k:RW P N all Q md' rest ⟨(d,av) :: ts,hs,n,z0⟩) :
  RW P N all Q md (⟨some d,.pick c x y,ty,pos,af,none⟩ :: rest) ⟨ts,hs,n,z0⟩ := IL hc hb hx (cS hN) (by rw [hmd.pf]; exact k)
end
section
variable {P : Program} {N : Nat} {Q : Exit → AS → Prop} {K : AS → Prop} {s : AS}
theorem Hd (h:K s):pE K Q .normal s := h
theorem Om (h:Q .ret s):pE K Q .ret s := h
theorem Mj {i:Nat}(h:Q (.exit i) s):pE K Q (.exit i) s := h
theorem GD {i:Nat}(h:Q .normal s):AA i Q .normal s := h
theorem Oq {i:Nat}(h:Q .ret s):AA i Q .ret s := h
theorem Nu {i:Nat}(h:Q .normal s):AA i Q (.exit i) s := by simp [AA,h]
theorem Qs {i j:Nat}(hij:¬ j = i) (h:Q (.exit j) s):AA i Q (.exit j) s := by simp [AA,hij,h]
theorem aC {res:Array ResultVar}{Q:AV → (Nat → Option (List AV)) → Prop}{l:List AV}(hr:xE P (lk s.ts) (aT s.hs) res.toList = some l) (h:Q (aM l) (aT s.hs)):pB P res Q .ret s :=
 ⟨.inl rfl,s,l,Le.refl _,hr,h⟩
theorem Au {res:Array ResultVar}{Q:AV → (Nat → Option (List AV)) → Prop}{l:List AV}(hr:xE P (lk s.ts) (aT s.hs) res.toList = some l) (h:Q (aM l) (aT s.hs)):pB P res Q .normal s :=
 ⟨.inr rfl,s,l,Le.refl _,hr,h⟩
theorem aO {res:Array ResultVar}{Q:AV → (Nat → Option (List AV)) → Prop}{e:Exit}{s':AS}(hl:Le s s') (h:pB P res Q e s'):pB P res Q e s:=by
 obtain ⟨h1,s2,l,h2,h3,h4⟩ := h
 exact ⟨h1,s2,l,fun C a w g => h2 C a w (hl C a w g),h3,h4⟩
theorem IP {x y:Code}{c:Operand}{b:Bool}(hc:ev (lk s.ts) c = some (.v (.bool b))) (hb:b = true) (h:AW P N x Q s):AW P N (.cond c x y) Q s := zD hc (fun _ => h) (fun e => by subst hb;cases e)
theorem JQ {x y:Code}{c:Operand}{b:Bool}(hc:ev (lk s.ts) c = some (.v (.bool b))) (hb:b = false) (h:AW P N y Q s):AW P N (.cond c x y) Q s := zD hc (fun e => by subst hb;cases e) (fun _ => h)
end
def cU (b : UInt8) : List AV := [.v (.int .u8 (b.toNat : Int))]
instance : FlT cU 1:=⟨fun _ => rfl⟩
instance : FE cU (fun b => [.v (.int .u8 (b.toNat : Int))]):=⟨fun _ => rfl⟩
instance (n : UInt8) : Pur (cU n):=⟨rfl⟩
theorem N5 (b:UInt8):-9223372036854775808 ≤ (b.toNat:Int) ∧ (b.toNat:Int) ≤ 9223372036854775807 := by have := UInt8.toNat_lt b;omega
section
variable {P : Program} {N : Nat} {Q : Exit → AS → Prop} {all : Array Oper} {rest : List Oper} {ts : List (Nat × AV)} {hs : List (Nat × Option (List AV))} {n : Nat} {z0 : Lo} {md : Md}
variable {d : Nat} {ty : TypeId} {pos : String} {af : Array Edge}
theorem Qe {t t':TypeId}{x y:Operand}{m m':Int}(hx:ev (lk ts) x = some (.v (.int .i64 m))) (hy:ev (lk ts) y = some (.v (.int .i64 m')))
  (h : -9223372036854775808 ≤ m * m' ∧ m * m' ≤ 9223372036854775807) (hN : Nat.blt d N = true) {md' : Md} [hmd : MdA md (rO x ++ rO y) [.inl d] md'] (kk : RW P N all Q md' rest ⟨(d,.v (.int .i64 (m * m'))) :: ts,hs,n,z0⟩) : RW P N all Q md (⟨some d,.binOp .mul t x y t',ty,pos,af,none⟩ :: rest) ⟨ts,hs,n,z0⟩ :=
 dT (v := .int .i64 (m * m')) hx hy (.inl rfl) (by simp only [gN,IntWalk.i64_in _ h]) (cS hN) (by rw [hmd.pf]; exact kk)
theorem PI {t t':TypeId}{x y:Operand}{k:IntKind}{m m':Int}(hx:ev (lk ts) x = some (.v (.int k m))) (hy:ev (lk ts) y = some (.v (.int k m')))
  (h : 0 ≤ m ∧ 0 < m') (hN : Nat.blt d N = true) {md' : Md} [hmd : MdA md (rO x ++ rO y) [.inl d] md'] (kk : RW P N all Q md' rest ⟨(d,.v (.int k (m % m'))) :: ts,hs,n,z0⟩) : RW P N all Q md (⟨some d,.binOp .rem t x y t',ty,pos,af,none⟩ :: rest) ⟨ts,hs,n,z0⟩ :=
 dT (v := .int k (m % m')) hx hy (.inl rfl) (by simp only [gN]; rw [if_neg (by omega),Int.tmod_eq_emod_of_nonneg h.1]) (cS hN) (by rw [hmd.pf]; exact kk)
theorem P5 {t t':TypeId}{x y:Operand}{m m':Int}(hx:ev (lk ts) x = some (.v (.int .i64 m))) (hy:ev (lk ts) y = some (.v (.int .i64 m')))
  (h : 0 ≤ m ∧ 0 < m' ∧ m ≤ 9223372036854775807) (hN : Nat.blt d N = true) {md' : Md} [hmd : MdA md (rO x ++ rO y) [.inl d] md'] (kk : RW P N all Q md' rest ⟨(d,.v (.int .i64 (m / m'))) :: ts,hs,n,z0⟩) : RW P N all Q md (⟨some d,.binOp .quo t x y t',ty,pos,af,none⟩ :: rest) ⟨ts,hs,n,z0⟩ :=
 dT (v := .int .i64 (m / m')) hx hy (.inl rfl) (by
  have h1 : 0 ≤ m / m' := Int.ediv_nonneg h.1 (by omega)
  have h2 : m / m' ≤ m := Int.ediv_le_self _ h.1
  simp only [gN]; rw [if_neg (by omega),Int.tdiv_eq_ediv_of_nonneg h.1,IntWalk.i64_in _ ⟨by omega,by omega⟩]) (cS hN) (by rw [hmd.pf]; exact kk)
theorem x5 {s t:TypeId}{x:Operand}{k':IntKind}{m:Int}[hd:InT P t .i64] [hs':InT P s k'] (hx:ev (lk ts) x = some (.v (.int k' m))) (h:-9223372036854775808 ≤ m ∧ m ≤ 9223372036854775807) (hN:Nat.blt d N = true){md':Md}[hmd:MdA md (rO x) [.inl d] md'] (kk:RW P N all Q md' rest ⟨(d,.v (.int .i64 m)) :: ts,hs,n,z0⟩) :
  RW P N all Q md (⟨some d,.convert s t x,ty,pos,af,none⟩ :: rest) ⟨ts,hs,n,z0⟩ := FY hx hd.pf hs'.pf (cS hN) (by rw [hmd.pf,IntWalk.i64_in _ h]; exact kk)
theorem zW {t el e by' m:Nat}{x y:Operand}{zs:List Value}{k k':IntKind}[ht:SlT P t el] [he:SzT P el e] [hb:ByT P el by'] [hz:ZrT P el zs]
  (hx : ev (lk ts) x = some (.v (.int k (m : Int)))) (hy : ev (lk ts) y = some (.v (.int k' (m : Int)))) (hze : zs.length = e) (hsm : by' * m ≤ 281474976710656) (hmx : m ≤ 9223372036854775807)
  (hM : Nat.blt n a6 = true) (hN : Nat.blt d N = true) {md' : Md} [hmd : MdA md (rO x ++ rO y) [.inr n,.inl d] md'] (kk : RW P N all Q md' rest ⟨(d,.own n 0 m e) :: ts,(n,some ((List.replicate m (zs.map .v)).flatten)) :: hs,n + 1,z0⟩) :
  RW P N all Q md (⟨some d,.makeSlice t x y,ty,pos,af,none⟩ :: rest) ⟨ts,hs,n,z0⟩ :=
 zQ hx hy ht.pf he.pf hb.pf hz.pf hze hsm hmx hM (cS hN) (by rw [hmd.pf]; exact kk)
theorem gR {t el:TypeId}{x:Operand}{lo hi:Option Operand}{av out:AV}{m e l h:Nat}[ht:SlT P t el] [he:SzT P el e] (hx:ev (lk ts) x = some av) (hn:Ry av = some m)
  (hl : gA (lk ts) lo 0 = some l) (hh : gA (lk ts) hi m = some h) (hp : Od e l h av = some out) (hN : Nat.blt d N = true) {md' : Md} [hmd : MdA md (rO x ++ (rB lo ++ rB hi)) [.inl d] md'] (kk : RW P N all Q md' rest ⟨(d,out) :: ts,hs,n,z0⟩) :
  RW P N all Q md (⟨some d,.slice t x lo hi none,ty,pos,af,none⟩ :: rest) ⟨ts,hs,n,z0⟩ :=
 IW hx ht.pf he.pf hn hl hh hp (cS hN) (by rw [hmd.pf]; exact kk)
theorem Bl {t el:TypeId}{x i:Operand}{av out:AV}{z e:Nat}{k:IntKind}{m:Int}[ht:ArT P t z el] [he:SzT P el e] (hx:ev (lk ts) x = some av)
  (hi : ev (lk ts) i = some (.v (.int k m))) (hm : 0 ≤ m ∧ m < z) (hp : CW (m.toNat * e) av = some out) (hN : Nat.blt d N = true) {md' : Md} [hmd : MdA md (rO x ++ rO i) [.inl d] md'] (kk : RW P N all Q md' rest ⟨(d,out) :: ts,hs,n,z0⟩) :
  RW P N all Q md (⟨some d,.indexAddr t x i,ty,pos,af,none⟩ :: rest) ⟨ts,hs,n,z0⟩ :=
 CP hx hi ht.pf he.pf hm hp (cS hN) (by rw [hmd.pf]; exact kk)
theorem Ma {k:FuncId}{args:Array Operand}{tys:Array TypeId}{avs avs2:List AV}{r:AV}[hc:CaT P k] (ha:evL (lk ts) args.toList = some avs) (hl:kF (aT hs) avs = some avs2) (h:PC P k avs2 (fun x => x = r)) (hfr:r.free = true) (hN:Nat.blt d N = true)
  {md' : Md} [hmd : MdA md (fF args.toList ++ rL avs) [.inl d] md'] (kk : RW P N all Q md' rest ⟨(d,r) :: ts,hs,n,z0⟩) : RW P N all Q md (⟨some d,.call ⟨.value (.func k),args,tys⟩,ty,pos,af,none⟩ :: rest) ⟨ts,hs,n,z0⟩ :=
 LO hc.pf ha hl h hfr (cS hN) (by rw [hmd.pf]; exact kk)
end
theorem qX (m:Int) (h:0 ≤ m ∧ m ≤ 9223372036854775807):(BitVec.ofInt 64 m) = BitVec.ofNat 64 m.toNat:=by
 obtain ⟨k,rfl⟩ := Int.eq_ofNat_of_zero_le h.1
 apply BitVec.eq_of_toInt_eq
 simp [BitVec.toInt_ofInt]
theorem uB {m:Int}(h:0 ≤ m ∧ m ≤ 9223372036854775807):m.toNat < 2 ^ 63 := by omega
theorem uW {k:Nat}(h:k < 2 ^ 63):IntKind.i64.wrap (k:Int) = (k:Int) := IntWalk.i64_in _ ⟨by omega,by omega⟩
theorem Oj {m m':Int}(h:0 ≤ m ∧ m ≤ 9223372036854775807) (h':0 ≤ m' ∧ m' ≤ 9223372036854775807):gN .xor .i64 m m' = some (.int .i64 ((m.toNat ^^^ m'.toNat:Nat):Int)):=by
 have e : (BitVec.ofInt 64 m ^^^ BitVec.ofInt 64 m').toNat = m.toNat ^^^ m'.toNat := by
  rw [qX m h,qX m' h',BitVec.toNat_xor,BitVec.toNat_ofNat,BitVec.toNat_ofNat,Nat.mod_eq_of_lt (by omega),Nat.mod_eq_of_lt (by omega)]
 simp only [gN]
 rw [show IntKind.i64.bits = 64 from rfl,e,uW (Nat.xor_lt_two_pow (uB h) (uB h'))]
section
variable {P : Program} {N : Nat} {Q : Exit → AS → Prop} {all : Array Oper} {rest : List Oper} {ts : List (Nat × AV)} {hs : List (Nat × Option (List AV))} {n : Nat} {z0 : Lo} {md : Md}
variable {d : Nat} {ty : TypeId} {pos : String} {af : Array Edge}
theorem PB {t t':TypeId}{x y:Operand}{m m':Int}(hx:ev (lk ts) x = some (.v (.int .i64 m))) (hy:ev (lk ts) y = some (.v (.int .i64 m')))
  (h : 0 ≤ m ∧ m ≤ 9223372036854775807) (h' : 0 ≤ m' ∧ m' ≤ 9223372036854775807) (hN : Nat.blt d N = true) {md' : Md} [hmd : MdA md (rO x ++ rO y) [.inl d] md'] (kk : RW P N all Q md' rest ⟨(d,.v (.int .i64 ((m.toNat ^^^ m'.toNat : Nat) : Int))) :: ts,hs,n,z0⟩) : RW P N all Q md (⟨some d,.binOp .xor t x y t',ty,pos,af,none⟩ :: rest) ⟨ts,hs,n,z0⟩ :=
 dT hx hy (.inl rfl) (Oj h h') (cS hN) (by rw [hmd.pf]; exact kk)
theorem JN {s t:TypeId}{x:Operand}{k':IntKind}{b:UInt8}[hd:InT P t .i64] [hs':InT P s k'] (hx:ev (lk ts) x = some (.v (.int k' (b.toNat:Int)))) (hN:Nat.blt d N = true){md':Md}[hmd:MdA md (rO x) [.inl d] md'] (kk:(b.toNat:Int) ≤ 255 → RW P N all Q md' rest ⟨(d,.v (.int .i64 (b.toNat:Int))) :: ts,hs,n,z0⟩) :
  RW P N all Q md (⟨some d,.convert s t x,ty,pos,af,none⟩ :: rest) ⟨ts,hs,n,z0⟩ := x5 hx (N5 b) hN (kk (by have := UInt8.toNat_lt b;omega))
theorem D0 {dst:Nat}{op:Op}{j d:Nat}{want b:Bool}{md':Md}[hmd:MdA md [.inl d] [.inl dst] md'] (hj:(all[j]?).bind (·.dst) = some d) (hb:lk ts d = some (.v (.bool b))) (hN:Nat.blt dst N = true) (hw:b = !want)
  (h2 : RW P N all Q md' rest ⟨(dst,.v undef) :: ts,hs,n,z0⟩) : RW P N all Q md (⟨some dst,op,ty,pos,af,some (j,want)⟩ :: rest) ⟨ts,hs,n,z0⟩ :=
 vC hj hb (fun d h => by cases h;exact cS hN) (fun h => by subst hw;cases want <;> simp at h) (fun _ => hmd.pf ▸ h2)
theorem Hu {dst:Nat}{op:Op}{j d:Nat}{want b:Bool}{mdp:Md}[hmp:MdP md (.inl d) mdp] {md':Md}[hmd:MdA md [.inl d] [.inl dst] md'] (hj:(all[j]?).bind (·.dst) = some d) (hb:lk ts d = some (.v (.bool b))) (hN:Nat.blt dst N = true)
  (h1 : b = want → RW P N all Q mdp (⟨some dst,op,ty,pos,af,none⟩ :: rest) ⟨ts,hs,n,z0⟩) (h2 : b = (!want) → RW P N all Q md' rest ⟨(dst,.v undef) :: ts,hs,n,z0⟩) : RW P N all Q md (⟨some dst,op,ty,pos,af,some (j,want)⟩ :: rest) ⟨ts,hs,n,z0⟩ :=
 vC hj hb (fun d h => by cases h;exact cS hN) (fun e => hmp.pf ▸ h1 e) (fun e => hmd.pf ▸ h2 e)
end
class PurV (v : AV) : Prop where pf : v.pur = true
instance (x : Value) : PurV (.v x):=⟨rfl⟩
instance (n : Nat) (cs : List AV) [h : Pur cs] : PurV (.imm n cs):=⟨h.pf⟩
instance (cs : List AV) [h : Pur cs] : PurV (.iptr cs):=⟨h.pf⟩
instance (cs : List AV) [h : Pur cs] : PurV (.agg cs):=⟨h.pf⟩
instance (cs : List AV) [h : Pur cs] : PurV (.tup cs):=⟨h.pf⟩
instance : Pur []:=⟨rfl⟩
instance (c : AV) (cs : List AV) [h : PurV c] [h2 : Pur cs] : Pur (c :: cs):=⟨by simp only [bR,h.pf,h2.pf,Bool.and_self]⟩
theorem RnV.purI {ρ:Nat → Option Nat}{v:AV}(h:PurV v):RnV ρ v v := .pur h.pf
theorem RnL.purI {ρ:Nat → Option Nat}{v:List AV}(h:Pur v):RnL ρ v v := .pur h.pf
def sS (ρ : Nat → Option Nat) (hh : List (Nat × Option (List AV))) : List (Nat × Option (List AV)) → Prop
 | [] => True
 | (_,none) :: l => sS ρ hh l
 | (i,some cs') :: l => (∃ j cs,ρ j = some i ∧ aT hh j = some cs ∧ RnL ρ cs cs') ∧ sS ρ hh l
def uE (mp : List Nat) (ws : List (Nat × Option (List AV))) : Bool := mp.all fun i => ws.any fun p => Nat.beq p.1 i
theorem Ff {mp:List Nat}{ρ:Nat → Option Nat}{hh ws:List (Nat × Option (List AV))}(h1:uE mp ws = true) (h2:sS ρ hh ws):WsOk mp ρ hh ws:=by
 refine ⟨fun i hi => ?_,fun i cs' hm => ?_⟩
 ·simp only [uE, List.all_eq_true, List.any_eq_true] at h1
  obtain ⟨⟨j,c⟩,hp,hb⟩ := h1 i hi
  have := Nat.eq_of_beq_eq_true hb
  simp only at this
  subst this
  exact ⟨c,hp⟩
 ·clear h1
  induction ws with
  | nil => simp at hm
  | cons q ws ih =>
   obtain ⟨j,c⟩ := q
   cases c with
   | none =>
    simp only [sS] at h2
    rcases List.mem_cons.1 hm with e|e
    ·cases e
    ·exact ih h2 e
   | some c =>
    simp only [sS] at h2
    rcases List.mem_cons.1 hm with e|e
    ·cases e;exact h2.1
    ·exact ih h2.2 e
section
variable {P : Program} {N : Nat} {Q : Exit → AS → Prop} {all : Array Oper} {rest : List Oper} {ts : List (Nat × AV)} {hs : List (Nat × Option (List AV))} {n : Nat} {z0 : Lo} {md : Md}
variable {ty : TypeId} {pos : String} {af : Array Edge}
theorem G5 {d:Nat}{k:FuncId}{args:Array Operand}{tys:Array TypeId}{avs avs0:List AV}{H0:List (Nat × Option (List AV))}{rr rr':AV}{hh:List (Nat × Option (List AV))}
  (mp : List Nat) (n1 : Nat) (ws : List (Nat × Option (List AV))) (h : MC P k avs0 H0 mp.length (fun _ : Unit => True) (fun _ => rr) (fun _ => hh)) [hc : CaT P k] (ha : evL (lk ts) args.toList = some avs) (hd : distinct mp = true)
  (hH0 : sO hs H0 mp 0 mp) (hk : gI mp.length H0 = true) (har : RnL (mp[·]?) avs0 avs) (hM : Nat.ble (n + (n1 - mp.length)) a6 = true)
  (hr : RnV (xQ mp n n1) rr rr') (hwa : uE mp ws = true) (hw : sS (xQ mp n n1) hh ws) (hN : Nat.blt d N = true)
  {md' : Md} [hmd : MdA md (fF args.toList ++ mp.map .inr) (ws.map (fun p => .inr p.1) ++ [.inl d]) md']
  (kk : RW P N all Q md' rest ⟨(d,rr') :: ts,gD hs ws,n + (n1 - mp.length),z0⟩) : RW P N all Q md (⟨some d,.call ⟨.value (.func k),args,tys⟩,ty,pos,af,none⟩ :: rest) ⟨ts,hs,n,z0⟩ :=
 HL mp n1 hc.pf ha h hd hH0 hk har hM hr (Ff hwa hw) (fun x e => by cases e;exact cS hN) (by simp only [wD]; rw [hmd.pf]; exact kk)
theorem Kj {σ:Type}{d:Nat}{k:FuncId}{args:Array Operand}{tys:Array TypeId}{avs avs0:List AV}{H0:List (Nat × Option (List AV))}{p:σ → Prop}{rr rr':σ → AV}{hh:σ → List (Nat × Option (List AV))}
  (mp : List Nat) (n1 : Nat) (ws : σ → List (Nat × Option (List AV))) (h : MC P k avs0 H0 mp.length p rr hh) [hc : CaT P k] (ha : evL (lk ts) args.toList = some avs) (hd : distinct mp = true)
  (hH0 : sO hs H0 mp 0 mp) (hk : gI mp.length H0 = true) (har : RnL (mp[·]?) avs0 avs) (hM : Nat.ble (n + (n1 - mp.length)) a6 = true)
  (hr : ∀ x,p x → RnV (xQ mp n n1) (rr x) (rr' x)) (hwa : ∀ x,p x → uE mp (ws x) = true) (hw : ∀ x,p x → sS (xQ mp n n1) (hh x) (ws x)) (hN : Nat.blt d N = true)
  (kk : ∀ x,p x → RW P N all Q .txt rest ⟨(d,rr' x) :: ts,gD hs (ws x),n + (n1 - mp.length),z0⟩) : RW P N all Q .txt (⟨some d,.call ⟨.value (.func k),args,tys⟩,ty,pos,af,none⟩ :: rest) ⟨ts,hs,n,z0⟩ :=
 KK mp n1 hc.pf ha h hd hH0 hk har hM hr (fun x hx => Ff (hwa x hx) (hw x hx)) (fun x e => by cases e;exact cS hN) kk
end
theorem E9 {α:Type}[Inhabited α] {f g:α → List AV}{e:Nat}[h:FlT f e] [hg:FE f g] {xs:List α}{k j:Nat}{c:AV}(hk:k < xs.length) (hc:(g xs[k]!)[j]? = some c):((flat f xs).drop (0 + k * e + j))[0]? = some c:=by
 rw [Nat.zero_add,← List.drop_drop,fE f xs k hk]
 rw [← hg.pf] at hc
 have hj : j < (f xs[k]!).length := by
  rcases Nat.lt_or_ge j (f xs[k]!).length with q|q
  ·exact q
  ·rw [List.getElem?_eq_none q] at hc;cases hc
 rw [List.drop_append_of_le_length (Nat.le_of_lt hj),List.getElem?_append_left (by rw [List.length_drop]; omega),List.getElem?_drop,Nat.add_zero]
 exact hc
section
variable {P : Program} {N : Nat} {Q : Exit → AS → Prop} {all : Array Oper} {rest : List Oper} {ts : List (Nat × AV)} {hs : List (Nat × Option (List AV))} {n : Nat} {z0 : Lo} {md : Md}
variable {d : Nat} {ty : TypeId} {pos : String} {af : Array Edge}
theorem F7 {α:Type}{hα:Inhabited α}{f g:α → List AV}{xs:List α}{e id k j:Nat}{t:TypeId}{x:Operand}{c:AV}[ha:AgT P t false] (hx:ev (lk ts) x = some (.optr id (0 + k * e + j)))
  (hH : aT hs id = some (flat f xs)) (hf : FlT f e) (hg : FE f g) (hk : k < xs.length) (hc : (g xs[k]!)[j]? = some c) (hN : Nat.blt d N = true) {md' : Md} [hmd : MdA md (rO x ++ rA (.optr id (0 + k * e + j))) [.inl d] md']
  (kk : RW P N all Q md' rest ⟨(d,c) :: ts,hs,n,z0⟩) : RW P N all Q md (⟨some d,.load t x,ty,pos,af,none⟩ :: rest) ⟨ts,hs,n,z0⟩ :=
 nE (cs := (flat f xs).drop (0 + k * e + j)) hx ha.pf (by simp only [deref,hH,Option.map_some]) (E9 hk hc) (cS hN) (by rw [hmd.pf]; exact kk)
theorem GF {α:Type}{hα:Inhabited α}{f g:α → List AV}{xs:List α}{e id k:Nat}{t:TypeId}{x:Operand}{c:AV}[ha:AgT P t false] (hx:ev (lk ts) x = some (.optr id (0 + k * e)))
  (hH : aT hs id = some (flat f xs)) (hf : FlT f e) (hg : FE f g) (hk : k < xs.length) (hc : (g xs[k]!)[0]? = some c) (hN : Nat.blt d N = true) {md' : Md} [hmd : MdA md (rO x ++ rA (.optr id (0 + k * e))) [.inl d] md']
  (kk : RW P N all Q md' rest ⟨(d,c) :: ts,hs,n,z0⟩) : RW P N all Q md (⟨some d,.load t x,ty,pos,af,none⟩ :: rest) ⟨ts,hs,n,z0⟩ :=
 nE (cs := (flat f xs).drop (0 + k * e)) hx ha.pf (by simp only [deref,hH,Option.map_some]) (E9 (f := f) (j := 0) hk hc) (cS hN) (by rw [hmd.pf]; exact kk)
theorem GH {α:Type}{hα:Inhabited α}{f g:α → List AV}{xs:List α}{e id k:Nat}{t:TypeId}{x:Operand}[ha:AgT P t true] [hz:SzT P t e] (hx:ev (lk ts) x = some (.optr id (0 + k * e)))
  (hH : aT hs id = some (flat f xs)) (hf : FlT f e) (hg : FE f g) (hk : k < xs.length) (h0 : Nat.blt 0 e = true) (hN : Nat.blt d N = true) {md' : Md} [hmd : MdA md (rO x ++ rA (.optr id (0 + k * e))) [.inl d] md']
  (kk : RW P N all Q md' rest ⟨(d,.agg (g xs[k]!)) :: ts,hs,n,z0⟩) : RW P N all Q md (⟨some d,.load t x,ty,pos,af,none⟩ :: rest) ⟨ts,hs,n,z0⟩ :=
 lG (cs := (flat f xs).drop (0 + k * e)) hx ha.pf hz.pf (by simp only [deref,hH,Option.map_some]) (cs' := g xs[k]!) (by rw [Nat.zero_add,fE f xs k hk,← hg.pf]; exact List.take_left' (hf.pf _)) (by rw [← hg.pf]; exact hf.pf _) (by have := cS h0;omega) (cS hN) (by rw [hmd.pf]; exact kk)
end
theorem CR {w:World}{bad:Nat → Prop}{ι:Pl}{n k:Nat}{cs:List AV}{y:Value}(h:Rd w bad ι (.imm n cs) y):Rd w bad ι (.imm n (cs.take k)) y:=by
 simp only [Rd] at h ⊢
 obtain ⟨a,c,rfl,h⟩ := h
 refine ⟨a,c,rfl,?_⟩
 rcases h with h | ⟨b,o,hn,rfl,h⟩
 ·exact .inl h
 ·refine .inr ⟨b, o, hn, rfl, ?_⟩
  rcases h with h | ⟨hb,h⟩
  ·subst h;exact .inl (by simp)
  ·exact .inr ⟨hb,RdC.take k h⟩
section
variable {P : Program} {N : Nat} {Q : Exit → AS → Prop} {all : Array Oper} {rest : List Oper} {ts : List (Nat × AV)} {hs : List (Nat × Option (List AV))} {n : Nat} {z0 : Lo} {md : Md}
variable {d : Nat} {ty : TypeId} {pos : String} {af : Array Edge}
theorem x8 {α:Type}{f:α → List AV}{xs:List α}{t el:TypeId}{x:Operand}{lo hi:Option Operand}{e l h:Nat}[ht:SlT P t el] [he:SzT P el e] (hx:ev (lk ts) x = some (sl f xs)) (hf:FlT f e)
  (hl : gA (lk ts) lo 0 = some l) (hh : gA (lk ts) hi xs.length = some h) (hb : l ≤ h ∧ h ≤ xs.length) (hN : Nat.blt d N = true) {md' : Md} [hmd : MdA md (rO x ++ (rB lo ++ rB hi)) [.inl d] md']
  (kk : RW P N all Q md' rest ⟨(d,sl f ((xs.drop l).take (h - l))) :: ts,hs,n,z0⟩) : RW P N all Q md (⟨some d,.slice t x lo hi none,ty,pos,af,none⟩ :: rest) ⟨ts,hs,n,z0⟩ := by
 refine dI (rs := rO x ++ (rB lo ++ rB hi)) (out := sl f ((xs.drop l).take (h - l))) rfl rfl (cS hN) (fun C ι F T H a w ag g gh => ?_) (by rw [hmd.pf]; exact kk)
 obtain ⟨y,h1,h2⟩ := Bp (P := P) (o := ⟨some d,.slice t x lo hi none,ty,pos,af,none⟩) (out := .imm (h - l) ((flat f xs).drop (l * e))) g rfl (ag.l.ev.trans hx) ht.pf he.pf rfl (ag.r.l.bnd.trans hl) (ag.r.r.bnd.trans hh) (by simp only [Od]; rw [if_pos hb])
 refine ⟨y,h1,?_⟩
 have hlen : ((xs.drop l).take (h - l)).length = h - l := by rw [List.length_take,List.length_drop]; omega
 show Rd w _ ι (.imm ((xs.drop l).take (h - l)).length (flat f ((xs.drop l).take (h - l)))) y
 rw [hlen,← dL f,← j4 f]
 exact CR h2
end
theorem Fc {w:World}{bad:Nat → Prop}{ι:Pl}:∀ {cs:List AV}{l:List Value},RdL w bad ι cs l → RdL w bad ι (cs.map qR) l
 | [],l,h => by simpa only [RdL,List.map_nil] using h
 | c :: cs, l, h => by
  simp only [RdL,List.map_cons] at h ⊢
  obtain ⟨x,l',h0,h1,h2,h3⟩ := h
  exact ⟨x,l',h0,h1,nK h2,Fc h3⟩
section
variable {P : Program} {N : Nat} {Q : Exit → AS → Prop} {all : Array Oper} {rest : List Oper} {ts : List (Nat × AV)} {hs : List (Nat × Option (List AV))} {n : Nat} {z0 : Lo} {md : Md}
variable {d : Nat} {ty : TypeId} {pos : String} {af : Array Edge}
theorem GN {t:TypeId}{parts:Array (Nat × Operand)}{pl:List (Nat × Nat)}{zs:List Value}{l:List (Nat × AV)}{cs cs':List AV}[hp:PtT P t pl] [hz:ZrT P t zs]
  (hl : evs (lk ts) parts.toList = some l) (hf : jB (pl[·]?) (zs.map .v) l = some cs) (hk : cs.map qR = cs') (hN : Nat.blt d N = true) {md' : Md} [hmd : MdA md (JL parts.toList) [.inl d] md'] (kk : RW P N all Q md' rest ⟨(d,.agg cs') :: ts,hs,n,z0⟩) :
  RW P N all Q md (⟨some d,.build t parts,ty,pos,af,none⟩ :: rest) ⟨ts,hs,n,z0⟩ := by
 subst hk
 refine dI (rs := JL parts.toList) (out := .agg (cs.map qR)) rfl rfl (cS hN) (fun C ι F T H a w ag g gh => ?_) (by rw [hmd.pf]; exact kk)
 obtain ⟨y,h1,h2⟩ := Cv (P := P) (o := ⟨some d,.build t parts,ty,pos,af,none⟩) g rfl hp.pf hz.pf (ag.evs.trans hl) hf
 refine ⟨y,h1,?_⟩
 simp only [Rd] at h2 ⊢
 obtain ⟨l',h3,h4⟩ := h2
 exact ⟨l',h3,Fc h4⟩
end
theorem Ki {σ:Type}{P:Program}{k:FuncId}{fn:Func}{c:Code}{args:List AV}{H0:List (Nat × Option (List AV))}{n:Nat}{p:σ → Prop}{rr:σ → AV}{hh:σ → List (Nat × Option (List AV))}(hf:P.funcs[k]? = some fn) (hb:fn.body = some c)
  (hN : args.length ≤ fn.ntmps) (h : AW P fn.ntmps c (pB P fn.results (fun r H' => ∃ x,p x ∧ r = rr x ∧ ∀ id cs,aT (hh x) id = some cs → H' id = some cs)) ⟨jA 0 args,H0,n,⟨n,a6⟩⟩) : MC P k args H0 n p rr hh :=
 pU hf hb hN h
theorem aP {σ:Type}{s:AS}{r:AV}{p:σ → Prop}{rr:σ → AV}{hh:σ → List (Nat × Option (List AV))}(x:σ) (hp:p x) (hr:r = rr x) (hh':oF s.hs (hh x)):∃ x,p x ∧ r = rr x ∧ ∀ id cs,aT (hh x) id = some cs → aT s.hs id = some cs :=
 ⟨x,hp,hr,pS hh'⟩
def Bf : List (Nat × Nat) → Nat → Option Nat
 | [],_ => none
 | (t,v) :: l,u => cond (Nat.beq u t) (some v) (Bf l u)
theorem Jd (t v:Nat) (l:List (Nat × Nat)) (u:Nat):Bf ((t,v) :: l) u = if u = t then some v else Bf l u:=by
 simp only [Bf]
 by_cases h : u = t
 ·subst h;simp
 ·rw [if_neg h]
  have : Nat.beq u t = false := by
   cases hb : Nat.beq u t with
   | false => rfl
   | true => exact absurd (Nat.eq_of_beq_eq_true hb) h
  rw [this]; rfl
def C5 (m : List (Nat × Nat)) (lo : Lo) (id : Nat) : Option Nat := if id < lo.lo then some id else match Bf m id with
 | some j => some j
 | none => if a6 ≤ id ∧ id < lo.fb then some id else none
def Qf (m : List (Nat × Nat)) (lo : Lo) : AV → Option AV
 | .own id o n e => (C5 m lo id).map fun j => .own j o n e
 | .optr id o => (C5 m lo id).map fun j => .optr j o
 | _ => none
def HD (m : List (Nat × Nat)) (lo : Lo) (v v0 : AV) : Prop := (v0 = v ∧ v.pur = true) ∨ Qf m lo v = some v0
inductive All2 {α β : Type} (R : α → β → Prop) : List α → List β → Prop
 | nil : All2 R [] []
 | cons {a b l l'} : R a b → All2 R l l' → All2 R (a :: l) (b :: l')
theorem All2.len {α β:Type}{R:α → β → Prop}{l:List α}{l':List β}(h:All2 R l l'):l.length = l'.length:=by
 induction h with
 | nil => rfl
 | cons _ _ ih => simp [ih]
def Oo (m : List (Nat × Nat)) (lo : Lo) (cs cs0 : List AV) : Prop := (cs0 = cs ∧ bR cs = true) ∨ All2 (HD m lo) cs cs0
def KB (m : List (Nat × Nat)) (lo : Lo) (l : List (Nat × AV)) : List (Nat × AV) → Prop
 | [] => True
 | (t,v) :: l' => (∃ v0,lk l t = some v0 ∧ HD m lo v v0) ∧ KB m lo l l'
def Eo (m : List (Nat × Nat)) (lo : Lo) (l : List (Nat × Option (List AV))) : List (Nat × Option (List AV)) → Prop
 | [] => True
 | (t,none) :: l' => Eo m lo l l'
 | (t,some cs) :: l' => (∃ j cs0,C5 m lo t = some j ∧ aT l j = some cs0 ∧ Oo m lo cs cs0) ∧ Eo m lo l l'
theorem FX {m:List (Nat × Nat)}{lo:Lo}{l:List (Nat × AV)}:∀ {l':List (Nat × AV)},KB m lo l l' → ∀ t v,lk l' t = some v → ∃ v0,lk l t = some v0 ∧ HD m lo v v0
 | [],_,t,v,h => by simp [lk] at h
 | (u, x) :: l', hr, t, v, h => by
  simp only [KB] at hr
  simp only [lO] at h
  split at h
  ·rename_i e;subst e;cases h;exact hr.1
  ·exact FX hr.2 t v h
theorem nU {m:List (Nat × Nat)}{lo:Lo}{l:List (Nat × Option (List AV))}:∀ {l':List (Nat × Option (List AV))},Eo m lo l l' → ∀ t cs,aT l' t = some cs →
  ∃ j cs0,C5 m lo t = some j ∧ aT l j = some cs0 ∧ Oo m lo cs cs0
 | [],_,t,v,h => by simp [aT] at h
 | (u, none) :: l', hr, t, v, h => by
  simp only [Eo] at hr
  simp only [cP] at h
  split at h
  ·cases h
  ·exact nU hr t v h
 | (u, some x) :: l', hr, t, v, h => by
  simp only [Eo] at hr
  simp only [cP] at h
  split at h
  ·rename_i e;subst e;cases h;exact hr.1
  ·exact nU hr.2 t v h
def K0 (lo n' : Nat) : List (Nat × Nat) → Bool
 | [] => true
 | (a,b) :: l => Nat.ble lo a && Nat.blt a n' && (Nat.ble lo b && (Nat.blt a a6 && Nat.blt b a6)) && l.all (fun p => !Nat.beq p.1 a && !Nat.beq p.2 b) && K0 lo n' l
theorem kR {lo n':Nat}:∀ {m:List (Nat × Nat)},K0 lo n' m = true → ∀ a b,Bf m a = some b → lo ≤ a ∧ a < n' ∧ lo ≤ b ∧ a < a6 ∧ b < a6
 | [],_,a,b,h => by simp [Bf] at h
 | (u, v) :: l, hk, a, b, h => by
  simp only [K0,Bool.and_eq_true] at hk
  obtain ⟨⟨⟨⟨h1,h2⟩,h3⟩,_⟩,h5⟩ := hk
  simp only [Jd] at h
  split at h
  ·rename_i e
   subst e;cases h
   have q1 := Nat.le_of_ble_eq_true h1
   have q2 := cS h2
   have q3 := Nat.le_of_ble_eq_true h3.1
   exact ⟨q1,q2,q3,cS h3.2.1,cS h3.2.2⟩
  ·exact kR h5 a b h
theorem y8:∀ {m:List (Nat × Nat)}{a b:Nat},Bf m a = some b → (a,b) ∈ m
 | [],a,b,h => by simp [Bf] at h
 | (u, v) :: l, a, b, h => by
  simp only [Jd] at h
  split at h
  ·rename_i e;subst e;cases h;simp
  ·exact List.mem_cons_of_mem _ (y8 h)
theorem Ay {lo n':Nat}:∀ {m:List (Nat × Nat)},K0 lo n' m = true → ∀ a a' b,Bf m a = some b → Bf m a' = some b → a = a'
 | [],_,a,a',b,h,_ => by simp [Bf] at h
 | (u, v) :: l, hk, a, a', b, h, h' => by
  simp only [K0,Bool.and_eq_true] at hk
  obtain ⟨⟨_,h4⟩,h5⟩ := hk
  have key : ∀ x, Bf l x = some v → False := by
   intro x hx
   have hm := y8 hx
   rw [List.all_eq_true] at h4
   have := h4 _ hm
   simp at this
  simp only [Jd] at h h'
  split at h
  ·rename_i e
   split at h'
   ·rename_i e'; omega
   ·cases h;exact (key _ h').elim
  ·split at h'
   ·cases h'; exact (key _ h).elim
   ·exact Ay h5 a a' b h h'
theorem Le.ren (m:List (Nat × Nat)){ts ts':List (Nat × AV)}{hs hs':List (Nat × Option (List AV))}{n n':Nat}{lo:Lo}(hm:K0 lo.lo n' m = true) (hn:lo.lo ≤ n') (h1:KB m lo ts ts') (h2:Eo m lo hs hs') :
  Le ⟨ts,hs,n,lo⟩ ⟨ts',hs',n',lo⟩ := by
 rintro C a w ⟨h0,ι,g,gh⟩
 let ι' : Pl := fun id => match C5 m lo id with|some j => ι j|none => none
 have hlow : ∀ id,id < lo.lo → ι' id = ι id := fun id h => by simp [ι',C5,h]
 have hto : ∀ id j, C5 m lo id = some j → ι' id = ι j := by
  intro id j h
  simp only [ι',h]
 have hcs0 : ∀ a b, C5 m lo a = some b → (a < lo.lo ∧ b = a) ∨ (lo.lo ≤ a ∧ Bf m a = some b) ∨ (lo.lo ≤ a ∧ (a6 ≤ a ∧ a < lo.fb) ∧ b = a) := by
  intro a b q
  unfold C5 at q
  split at q
  ·rename_i h;cases q;exact .inl ⟨h,rfl⟩
  ·rename_i h
   split at q
   ·rename_i j hj;cases q;exact .inr (.inl ⟨by omega,hj⟩)
   ·split at q
    ·rename_i h3;cases q;exact .inr (.inr ⟨by omega,h3,rfl⟩)
    ·cases q
 have hinj : ∀ a a' b, C5 m lo a = some b → C5 m lo a' = some b → a = a' := by
  intro a a' b q q'
  rcases hcs0 a b q with ⟨e1,e2⟩ | ⟨e1,e2⟩ | ⟨e1,e2,e3⟩ <;> rcases hcs0 a' b q' with ⟨f1,f2⟩ | ⟨f1,f2⟩ | ⟨f1,f2,f3⟩
  ·omega
  ·have := kR hm _ _ f2;omega
  ·omega
  ·have := kR hm _ _ e2;omega
  ·exact Ay hm _ _ _ e2 f2
  ·have := kR hm _ _ e2;omega
  ·omega
  ·have := kR hm _ _ f2;omega
  ·omega
 have hbad : ∀ b, aL C.X ι' (aT hs') b → aL C.X ι (aT hs) b := by
  rintro b (h | ⟨id,cs,β,q1,q2⟩)
  ·exact .inl h
  ·obtain ⟨j, cs0, q3, q4, _⟩ := nU h2 id cs q1
   rw [hto _ _ q3] at q2
   exact .inr ⟨j,cs0,β,q4,q2⟩
 have hc0 : Carry w (aL C.X ι (aT hs)) ι w (aL C.X ι' (aT hs')) ι := ⟨fun b o x q1 q2 => ⟨fun h => q1 (hbad b h),q2⟩,fun _ _ h => h,fun _ => Nat.le_refl _⟩
 have hv : ∀ v v0 y, HD m lo v v0 → Rd w (aL C.X ι (aT hs)) ι v0 y → Rd w (aL C.X ι' (aT hs')) ι' v y := by
  intro v v0 y hr hy
  rcases hr with ⟨rfl,hp⟩|hr
  ·exact Rd.pur _ y hp (Rd.carry hc0 _ _ hy)
  ·cases v <;> simp only [Qf] at hr <;> first | (cases hr; done) | skip
   ·rename_i id o k e
    cases hj : C5 m lo id with
    | none => simp [hj] at hr
    | some j =>
     simp only [hj,Option.map_some,Option.some.injEq] at hr
     subst hr
     simp only [Rd,hto _ _ hj] at hy ⊢
     exact hy
   ·rename_i id o
    cases hj : C5 m lo id with
    | none => simp [hj] at hr
    | some j =>
     simp only [hj,Option.map_some,Option.some.injEq] at hr
     subst hr
     simp only [Rd,hto _ _ hj] at hy ⊢
     exact hy
 have hcs : ∀ cs cs0 b o, Oo m lo cs cs0 → RdC w (aL C.X ι (aT hs)) ι cs0 b o → RdC w (aL C.X ι' (aT hs')) ι' cs b o := by
  intro cs cs0 b o hr hy
  rcases hr with ⟨rfl,hp⟩|hf
  ·exact RdC.pur _ b o hp (RdC.carryB hc0 _ _ _ (fun o x hx => hx) hy)
  ·induction hf generalizing o with
   | nil => simp only [RdC]
   | cons h1 _ ih =>
    simp only [RdC] at hy ⊢
    obtain ⟨⟨x,q1,q2,q3⟩,q4⟩ := hy
    exact ⟨⟨x,q1,q2,hv _ _ _ h1 q3⟩,ih _ q4⟩
 refine ⟨h0,ι',⟨g.df,g.sz,fun t v ht => ?_⟩,⟨fun id cs h => ?_,fun id id' cs cs' b β β' q1 q2 q3 q4 => ?_,gh.fr,fun id p hp => ?_,fun id hid => ?_⟩⟩
 ·obtain ⟨v0, q1, q2⟩ := FX h1 t v ht
  obtain ⟨y,q3,q4⟩ := g.tm t v0 q1
  exact ⟨y,q3,hv _ _ _ q2 q4⟩
 ·obtain ⟨j, cs0, q3, q4, q5⟩ := nU h2 id cs h
  have hlen : cs.length = cs0.length := by
   rcases q5 with ⟨rfl,_⟩|hf
   ·rfl
   ·exact hf.len
  rcases gh.obj j cs0 q4 with ⟨p1,p2⟩ | ⟨b,β,arr,e,p1,p2,p3,p4,p5,p6⟩
  ·refine .inl ⟨by rw [hto _ _ q3]; exact p1, ?_⟩
   subst p2;exact List.eq_nil_of_length_eq_zero hlen
  ·exact .inr ⟨b,β,arr,e,by rw [hto _ _ q3]; exact p1,p2,by rw [hlen]; exact p3,hcs _ _ _ _ q5 p4,p5,p6⟩
 ·obtain ⟨j, c1, r1, r2, _⟩ := nU h2 id cs q1
  obtain ⟨j',c2,r3,r4,_⟩ := nU h2 id' cs' q2
  rw [hto _ _ r1] at q3
  rw [hto _ _ r3] at q4
  have := gh.sep _ _ _ _ _ _ _ r2 r4 q3 q4
  subst this
  exact hinj _ _ _ r1 r3
 ·have hl : id < lo.lo ∨ (lo.lo ≤ id ∧ a6 ≤ id ∧ id < lo.fb) := by
   rcases Nat.lt_or_ge id lo.lo with h|h
   ·exact .inl h
   ·rcases h0 id h with h1 | h1
    ·exact .inr ⟨h,h1⟩
    ·rw [h1] at hp;cases hp
  rcases hl with hl | ⟨hl,h1,h2⟩
  ·rw [hlow id hl]; exact gh.ex id p hp
  ·have : C5 m lo id = some id := by
    unfold C5
    rw [if_neg (by omega)]
    cases hj : Bf m id with
    | some j => have := kR hm _ _ hj;omega
    | none => simp [h1,h2]
   rw [hto _ _ this]; exact gh.ex id p hp
 ·show ι' id = none
  simp only [ι']
  cases hj : C5 m lo id with
  | none => rfl
  | some j =>
   have h3 : n' ≤ id := hid.1
   have h4 : id < a6 ∨ lo.fb ≤ id := hid.2
   rcases hcs0 id j hj with ⟨e1,e2⟩ | ⟨e1,e2⟩ | ⟨e1,e2,e3⟩
   ·omega
   ·have := kR hm _ _ e2;omega
   ·omega
end Go.AL
namespace Go.Proofs.YteidfaaldcedpaaGreatDoor
open Go.AL
instance : SzT Tryz.prog 3 1:=⟨by kernel_rfl⟩
instance : ByT Tryz.prog 3 8:=⟨by kernel_rfl⟩
instance : AgT Tryz.prog 3 false:=⟨by kernel_rfl⟩
instance : InT Tryz.prog 3 .i64:=⟨by kernel_rfl⟩
instance : ZrT Tryz.prog 3 [.int .i64 0]:=⟨by kernel_rfl⟩
instance : SzT Tryz.prog 4 1:=⟨by kernel_rfl⟩
instance : ByT Tryz.prog 4 1:=⟨by kernel_rfl⟩
instance : AgT Tryz.prog 4 false:=⟨by kernel_rfl⟩
instance : ZrT Tryz.prog 4 [.bool false]:=⟨by kernel_rfl⟩
instance : SzT Tryz.prog 5 1:=⟨by kernel_rfl⟩
instance : AgT Tryz.prog 5 false:=⟨by kernel_rfl⟩
instance : InT Tryz.prog 5 .u8:=⟨by kernel_rfl⟩
instance : ZrT Tryz.prog 5 [.int .u8 0]:=⟨by kernel_rfl⟩
instance : SzT Tryz.prog 9 1:=⟨by kernel_rfl⟩
instance : AgT Tryz.prog 9 false:=⟨by kernel_rfl⟩
instance : StT Tryz.prog 9:=⟨by kernel_rfl⟩
instance : ZrT Tryz.prog 9 [.string ⟨#[]⟩]:=⟨by kernel_rfl⟩
instance : SzT Tryz.prog 22 1:=⟨by kernel_rfl⟩
instance : AgT Tryz.prog 22 false:=⟨by kernel_rfl⟩
instance : SlT Tryz.prog 22 5:=⟨by kernel_rfl⟩
instance : SzT Tryz.prog 23 1:=⟨by kernel_rfl⟩
instance : AgT Tryz.prog 23 false:=⟨by kernel_rfl⟩
instance : SlT Tryz.prog 23 3:=⟨by kernel_rfl⟩
instance : ZrT Tryz.prog 23 [.slice none 0 0]:=⟨by kernel_rfl⟩
instance : SzT Tryz.prog 24 1:=⟨by kernel_rfl⟩
instance : AgT Tryz.prog 24 false:=⟨by kernel_rfl⟩
instance : SlT Tryz.prog 24 102:=⟨by kernel_rfl⟩
instance : SzT Tryz.prog 26 2:=⟨by kernel_rfl⟩
instance : AgT Tryz.prog 26 true:=⟨by kernel_rfl⟩
instance : FdT Tryz.prog 26 0 0 23:=⟨by kernel_rfl⟩
instance : FdT Tryz.prog 26 1 1 24:=⟨by kernel_rfl⟩
instance : PtT Tryz.prog 26 [(0,1),(1,1)]:=⟨by kernel_rfl⟩
instance : ZrT Tryz.prog 26 [.slice none 0 0,.slice none 0 0]:=⟨by kernel_rfl⟩
instance : SzT Tryz.prog 28 3:=⟨by kernel_rfl⟩
instance : ByT Tryz.prog 28 24:=⟨by kernel_rfl⟩
instance : AgT Tryz.prog 28 true:=⟨by kernel_rfl⟩
instance : FdT Tryz.prog 28 0 0 3:=⟨by kernel_rfl⟩
instance : FdT Tryz.prog 28 1 1 3:=⟨by kernel_rfl⟩
instance : FdT Tryz.prog 28 2 2 3:=⟨by kernel_rfl⟩
instance : PtT Tryz.prog 28 [(0,1),(1,1),(2,1)]:=⟨by kernel_rfl⟩
instance : ZrT Tryz.prog 28 [.int .i64 0,.int .i64 0,.int .i64 0]:=⟨by kernel_rfl⟩
instance : SzT Tryz.prog 41 1:=⟨by kernel_rfl⟩
instance : AgT Tryz.prog 41 false:=⟨by kernel_rfl⟩
instance : SlT Tryz.prog 45 28:=⟨by kernel_rfl⟩
instance : SzT Tryz.prog 62 5:=⟨by kernel_rfl⟩
instance : ByT Tryz.prog 62 56:=⟨by kernel_rfl⟩
instance : AgT Tryz.prog 62 true:=⟨by kernel_rfl⟩
instance : FdT Tryz.prog 62 0 0 3:=⟨by kernel_rfl⟩
instance : FdT Tryz.prog 62 1 1 3:=⟨by kernel_rfl⟩
instance : FdT Tryz.prog 62 2 2 3:=⟨by kernel_rfl⟩
instance : FdT Tryz.prog 62 3 3 3:=⟨by kernel_rfl⟩
instance : FdT Tryz.prog 62 4 4 23:=⟨by kernel_rfl⟩
instance : PtT Tryz.prog 62 [(0,1),(1,1),(2,1),(3,1),(4,1)]:=⟨by kernel_rfl⟩
instance : ZrT Tryz.prog 62 [.int .i64 0,.int .i64 0,.int .i64 0,.int .i64 0,.slice none 0 0]:=⟨by kernel_rfl⟩
instance : SzT Tryz.prog 63 1:=⟨by kernel_rfl⟩
instance : AgT Tryz.prog 63 false:=⟨by kernel_rfl⟩
instance : SlT Tryz.prog 63 62:=⟨by kernel_rfl⟩
instance : FdT Tryz.prog 65 0 0 26:=⟨by kernel_rfl⟩
instance : FdT Tryz.prog 65 1 2 63:=⟨by kernel_rfl⟩
instance : PtT Tryz.prog 65 [(0,2),(2,1)]:=⟨by kernel_rfl⟩
instance : ZrT Tryz.prog 65 [.slice none 0 0,.slice none 0 0,.slice none 0 0]:=⟨by kernel_rfl⟩
instance : SzT Tryz.prog 76 1:=⟨by kernel_rfl⟩
instance : AgT Tryz.prog 76 false:=⟨by kernel_rfl⟩
instance : SlT Tryz.prog 76 165:=⟨by kernel_rfl⟩
instance : SzT Tryz.prog 77 1:=⟨by kernel_rfl⟩
instance : AgT Tryz.prog 77 false:=⟨by kernel_rfl⟩
instance : SlT Tryz.prog 77 205:=⟨by kernel_rfl⟩
instance : SzT Tryz.prog 79 3:=⟨by kernel_rfl⟩
instance : AgT Tryz.prog 79 true:=⟨by kernel_rfl⟩
instance : FdT Tryz.prog 79 0 0 76:=⟨by kernel_rfl⟩
instance : FdT Tryz.prog 79 1 1 77:=⟨by kernel_rfl⟩
instance : FdT Tryz.prog 79 2 2 23:=⟨by kernel_rfl⟩
instance : PtT Tryz.prog 79 [(0,1),(1,1),(2,1)]:=⟨by kernel_rfl⟩
instance : ZrT Tryz.prog 79 [.slice none 0 0,.slice none 0 0,.slice none 0 0]:=⟨by kernel_rfl⟩
instance : SzT Tryz.prog 86 1:=⟨by kernel_rfl⟩
instance : AgT Tryz.prog 86 false:=⟨by kernel_rfl⟩
instance : SlT Tryz.prog 86 91:=⟨by kernel_rfl⟩
instance : ZrT Tryz.prog 86 [.slice none 0 0]:=⟨by kernel_rfl⟩
instance : SzT Tryz.prog 89 1:=⟨by kernel_rfl⟩
instance : ByT Tryz.prog 89 8:=⟨by kernel_rfl⟩
instance : AgT Tryz.prog 89 false:=⟨by kernel_rfl⟩
instance : ZrT Tryz.prog 89 [.int .u64 0]:=⟨by kernel_rfl⟩
instance : SzT Tryz.prog 91 6:=⟨by kernel_rfl⟩
instance : ByT Tryz.prog 91 48:=⟨by kernel_rfl⟩
instance : AgT Tryz.prog 91 true:=⟨by kernel_rfl⟩
instance : ArT Tryz.prog 91 6 89:=⟨by kernel_rfl⟩
instance : ZrT Tryz.prog 91 [.int .u64 0,.int .u64 0,.int .u64 0,.int .u64 0,.int .u64 0,.int .u64 0]:=⟨by kernel_rfl⟩
instance : FdT Tryz.prog 98 0 0 22:=⟨by kernel_rfl⟩
instance : FdT Tryz.prog 98 1 1 3:=⟨by kernel_rfl⟩
instance : PtT Tryz.prog 98 [(0,1),(1,1)]:=⟨by kernel_rfl⟩
instance : ZrT Tryz.prog 98 [.slice none 0 0,.int .i64 0]:=⟨by kernel_rfl⟩
instance : SzT Tryz.prog 102 6:=⟨by kernel_rfl⟩
instance : ByT Tryz.prog 102 80:=⟨by kernel_rfl⟩
instance : AgT Tryz.prog 102 true:=⟨by kernel_rfl⟩
instance : FdT Tryz.prog 102 0 0 3:=⟨by kernel_rfl⟩
instance : FdT Tryz.prog 102 1 1 3:=⟨by kernel_rfl⟩
instance : FdT Tryz.prog 102 2 2 3:=⟨by kernel_rfl⟩
instance : FdT Tryz.prog 102 3 3 3:=⟨by kernel_rfl⟩
instance : FdT Tryz.prog 102 4 4 24:=⟨by kernel_rfl⟩
instance : FdT Tryz.prog 102 5 5 24:=⟨by kernel_rfl⟩
instance : PtT Tryz.prog 102 [(0,1),(1,1),(2,1),(3,1),(4,1),(5,1)]:=⟨by kernel_rfl⟩
instance : ZrT Tryz.prog 102 [.int .i64 0,.int .i64 0,.int .i64 0,.int .i64 0,.slice none 0 0,.slice none 0 0]:=⟨by kernel_rfl⟩
instance : SlT Tryz.prog 103 9:=⟨by kernel_rfl⟩
instance : SzT Tryz.prog 109 1:=⟨by kernel_rfl⟩
instance : AgT Tryz.prog 109 false:=⟨by kernel_rfl⟩
instance : SlT Tryz.prog 109 125:=⟨by kernel_rfl⟩
instance : SlT Tryz.prog 115 23:=⟨by kernel_rfl⟩
instance : FdT Tryz.prog 119 0 0 41:=⟨by kernel_rfl⟩
instance : FdT Tryz.prog 119 1 1 76:=⟨by kernel_rfl⟩
instance : FdT Tryz.prog 119 2 2 77:=⟨by kernel_rfl⟩
instance : FdT Tryz.prog 119 3 3 23:=⟨by kernel_rfl⟩
instance : PtT Tryz.prog 119 [(0,1),(1,1),(2,1),(3,1)]:=⟨by kernel_rfl⟩
instance : ZrT Tryz.prog 119 [.pointer none,.slice none 0 0,.slice none 0 0,.slice none 0 0]:=⟨by kernel_rfl⟩
instance : SlT Tryz.prog 123 129:=⟨by kernel_rfl⟩
instance : SzT Tryz.prog 125 1:=⟨by kernel_rfl⟩
instance : ByT Tryz.prog 125 24:=⟨by kernel_rfl⟩
instance : AgT Tryz.prog 125 false:=⟨by kernel_rfl⟩
instance : SlT Tryz.prog 125 4:=⟨by kernel_rfl⟩
instance : ZrT Tryz.prog 125 [.slice none 0 0]:=⟨by kernel_rfl⟩
instance : SzT Tryz.prog 129 2:=⟨by kernel_rfl⟩
instance : ByT Tryz.prog 129 48:=⟨by kernel_rfl⟩
instance : AgT Tryz.prog 129 true:=⟨by kernel_rfl⟩
instance : FdT Tryz.prog 129 0 0 109:=⟨by kernel_rfl⟩
instance : FdT Tryz.prog 129 1 1 125:=⟨by kernel_rfl⟩
instance : PtT Tryz.prog 129 [(0,1),(1,1)]:=⟨by kernel_rfl⟩
instance : ZrT Tryz.prog 129 [.slice none 0 0,.slice none 0 0]:=⟨by kernel_rfl⟩
instance : SlT Tryz.prog 140 89:=⟨by kernel_rfl⟩
instance : SlT Tryz.prog 156 186:=⟨by kernel_rfl⟩
instance : SzT Tryz.prog 163 2:=⟨by kernel_rfl⟩
instance : AgT Tryz.prog 163 true:=⟨by kernel_rfl⟩
instance : FdT Tryz.prog 163 0 0 3:=⟨by kernel_rfl⟩
instance : FdT Tryz.prog 163 1 1 3:=⟨by kernel_rfl⟩
instance : PtT Tryz.prog 163 [(0,1),(1,1)]:=⟨by kernel_rfl⟩
instance : ZrT Tryz.prog 163 [.int .i64 0,.int .i64 0]:=⟨by kernel_rfl⟩
instance : SzT Tryz.prog 165 4:=⟨by kernel_rfl⟩
instance : ByT Tryz.prog 165 32:=⟨by kernel_rfl⟩
instance : AgT Tryz.prog 165 true:=⟨by kernel_rfl⟩
instance : FdT Tryz.prog 165 0 0 4:=⟨by kernel_rfl⟩
instance : FdT Tryz.prog 165 1 1 3:=⟨by kernel_rfl⟩
instance : FdT Tryz.prog 165 2 2 163:=⟨by kernel_rfl⟩
instance : PtT Tryz.prog 165 [(0,1),(1,1),(2,2)]:=⟨by kernel_rfl⟩
instance : ZrT Tryz.prog 165 [.bool false,.int .i64 0,.int .i64 0,.int .i64 0]:=⟨by kernel_rfl⟩
instance : SzT Tryz.prog 186 2:=⟨by kernel_rfl⟩
instance : ByT Tryz.prog 186 16:=⟨by kernel_rfl⟩
instance : AgT Tryz.prog 186 true:=⟨by kernel_rfl⟩
instance : FdT Tryz.prog 186 0 0 3:=⟨by kernel_rfl⟩
instance : FdT Tryz.prog 186 1 1 4:=⟨by kernel_rfl⟩
instance : PtT Tryz.prog 186 [(0,1),(1,1)]:=⟨by kernel_rfl⟩
instance : ZrT Tryz.prog 186 [.int .i64 0,.bool false]:=⟨by kernel_rfl⟩
instance : SzT Tryz.prog 203 1:=⟨by kernel_rfl⟩
instance : AgT Tryz.prog 203 false:=⟨by kernel_rfl⟩
instance : SlT Tryz.prog 203 207:=⟨by kernel_rfl⟩
instance : SzT Tryz.prog 205 4:=⟨by kernel_rfl⟩
instance : ByT Tryz.prog 205 48:=⟨by kernel_rfl⟩
instance : AgT Tryz.prog 205 true:=⟨by kernel_rfl⟩
instance : FdT Tryz.prog 205 0 0 3:=⟨by kernel_rfl⟩
instance : FdT Tryz.prog 205 1 1 4:=⟨by kernel_rfl⟩
instance : FdT Tryz.prog 205 2 2 3:=⟨by kernel_rfl⟩
instance : FdT Tryz.prog 205 3 3 203:=⟨by kernel_rfl⟩
instance : PtT Tryz.prog 205 [(0,1),(1,1),(2,1),(3,1)]:=⟨by kernel_rfl⟩
instance : ZrT Tryz.prog 205 [.int .i64 0,.bool false,.int .i64 0,.slice none 0 0]:=⟨by kernel_rfl⟩
instance : SzT Tryz.prog 207 2:=⟨by kernel_rfl⟩
instance : ByT Tryz.prog 207 16:=⟨by kernel_rfl⟩
instance : AgT Tryz.prog 207 true:=⟨by kernel_rfl⟩
instance : FdT Tryz.prog 207 0 0 3:=⟨by kernel_rfl⟩
instance : FdT Tryz.prog 207 1 1 4:=⟨by kernel_rfl⟩
instance : PtT Tryz.prog 207 [(0,1),(1,1)]:=⟨by kernel_rfl⟩
instance : ZrT Tryz.prog 207 [.int .i64 0,.bool false]:=⟨by kernel_rfl⟩
instance : CaT Tryz.prog 4:=⟨by kernel_rfl⟩
instance : CaT Tryz.prog 5:=⟨by kernel_rfl⟩
instance : CaT Tryz.prog 6:=⟨by kernel_rfl⟩
instance : CaT Tryz.prog 7:=⟨by kernel_rfl⟩
instance : CaT Tryz.prog 8:=⟨by kernel_rfl⟩
instance : CaT Tryz.prog 9:=⟨by kernel_rfl⟩
instance : CaT Tryz.prog 10:=⟨by kernel_rfl⟩
instance : CaT Tryz.prog 11:=⟨by kernel_rfl⟩
instance : CaT Tryz.prog 12:=⟨by kernel_rfl⟩
instance : CaT Tryz.prog 13:=⟨by kernel_rfl⟩
instance : CaT Tryz.prog 14:=⟨by kernel_rfl⟩
instance : CaT Tryz.prog 15:=⟨by kernel_rfl⟩
instance : CaT Tryz.prog 16:=⟨by kernel_rfl⟩
instance : CaT Tryz.prog 17:=⟨by kernel_rfl⟩
instance : CaT Tryz.prog 18:=⟨by kernel_rfl⟩
instance : CaT Tryz.prog 19:=⟨by kernel_rfl⟩
instance : CaT Tryz.prog 20:=⟨by kernel_rfl⟩
instance : CaT Tryz.prog 21:=⟨by kernel_rfl⟩
instance : CaT Tryz.prog 22:=⟨by kernel_rfl⟩
instance : CaT Tryz.prog 23:=⟨by kernel_rfl⟩
instance : CaT Tryz.prog 24:=⟨by kernel_rfl⟩
instance : CaT Tryz.prog 25:=⟨by kernel_rfl⟩
instance : CaT Tryz.prog 26:=⟨by kernel_rfl⟩
instance : CaT Tryz.prog 27:=⟨by kernel_rfl⟩
instance : CaT Tryz.prog 28:=⟨by kernel_rfl⟩
instance : CaT Tryz.prog 29:=⟨by kernel_rfl⟩
instance : CaT Tryz.prog 30:=⟨by kernel_rfl⟩
instance : CaT Tryz.prog 31:=⟨by kernel_rfl⟩
instance : CaT Tryz.prog 32:=⟨by kernel_rfl⟩
instance : CaT Tryz.prog 33:=⟨by kernel_rfl⟩
instance : CaT Tryz.prog 34:=⟨by kernel_rfl⟩
instance : CaT Tryz.prog 35:=⟨by kernel_rfl⟩
instance : CaT Tryz.prog 36:=⟨by kernel_rfl⟩
instance : CaT Tryz.prog 37:=⟨by kernel_rfl⟩
instance : CaT Tryz.prog 38:=⟨by kernel_rfl⟩
instance : CaT Tryz.prog 39:=⟨by kernel_rfl⟩
instance : CaT Tryz.prog 40:=⟨by kernel_rfl⟩
instance : CaT Tryz.prog 41:=⟨by kernel_rfl⟩
instance : CaT Tryz.prog 42:=⟨by kernel_rfl⟩
instance : CaT Tryz.prog 43:=⟨by kernel_rfl⟩
instance : CaT Tryz.prog 44:=⟨by kernel_rfl⟩
instance : CaT Tryz.prog 45:=⟨by kernel_rfl⟩
instance : CaT Tryz.prog 46:=⟨by kernel_rfl⟩
instance : CaT Tryz.prog 47:=⟨by kernel_rfl⟩
instance : CaT Tryz.prog 48:=⟨by kernel_rfl⟩
instance : CaT Tryz.prog 49:=⟨by kernel_rfl⟩
instance : CaT Tryz.prog 50:=⟨by kernel_rfl⟩
instance : CaT Tryz.prog 51:=⟨by kernel_rfl⟩
instance : CaT Tryz.prog 52:=⟨by kernel_rfl⟩
instance : CaT Tryz.prog 53:=⟨by kernel_rfl⟩
instance : CaT Tryz.prog 54:=⟨by kernel_rfl⟩
instance : CaT Tryz.prog 55:=⟨by kernel_rfl⟩
instance : CaT Tryz.prog 56:=⟨by kernel_rfl⟩
instance : CaT Tryz.prog 57:=⟨by kernel_rfl⟩
instance : CaT Tryz.prog 58:=⟨by kernel_rfl⟩
instance : CaT Tryz.prog 59:=⟨by kernel_rfl⟩
instance : CaT Tryz.prog 60:=⟨by kernel_rfl⟩
instance : CaT Tryz.prog 61:=⟨by kernel_rfl⟩
instance : CaT Tryz.prog 62:=⟨by kernel_rfl⟩
instance : CaT Tryz.prog 63:=⟨by kernel_rfl⟩
instance : CaT Tryz.prog 64:=⟨by kernel_rfl⟩
instance : CaT Tryz.prog 65:=⟨by kernel_rfl⟩
instance : CaT Tryz.prog 66:=⟨by kernel_rfl⟩
instance : CaT Tryz.prog 67:=⟨by kernel_rfl⟩
instance : CaT Tryz.prog 68:=⟨by kernel_rfl⟩
instance : CaT Tryz.prog 69:=⟨by kernel_rfl⟩
instance : CaT Tryz.prog 70:=⟨by kernel_rfl⟩
instance : CaT Tryz.prog 71:=⟨by kernel_rfl⟩
instance : CaT Tryz.prog 72:=⟨by kernel_rfl⟩
instance : CaT Tryz.prog 73:=⟨by kernel_rfl⟩
instance : CaT Tryz.prog 74:=⟨by kernel_rfl⟩
instance : CaT Tryz.prog 75:=⟨by kernel_rfl⟩
instance : CaT Tryz.prog 76:=⟨by kernel_rfl⟩
instance : CaT Tryz.prog 77:=⟨by kernel_rfl⟩
instance : CaT Tryz.prog 78:=⟨by kernel_rfl⟩
instance : CaT Tryz.prog 79:=⟨by kernel_rfl⟩
instance : CaT Tryz.prog 80:=⟨by kernel_rfl⟩
instance : CaT Tryz.prog 81:=⟨by kernel_rfl⟩
instance : CaT Tryz.prog 82:=⟨by kernel_rfl⟩
instance : CaT Tryz.prog 83:=⟨by kernel_rfl⟩
instance : CaT Tryz.prog 84:=⟨by kernel_rfl⟩
instance : CaT Tryz.prog 85:=⟨by kernel_rfl⟩
instance : CaT Tryz.prog 86:=⟨by kernel_rfl⟩
instance : CaT Tryz.prog 87:=⟨by kernel_rfl⟩
instance : CaT Tryz.prog 88:=⟨by kernel_rfl⟩
instance : CaT Tryz.prog 89:=⟨by kernel_rfl⟩
instance : CaT Tryz.prog 90:=⟨by kernel_rfl⟩
instance : CaT Tryz.prog 91:=⟨by kernel_rfl⟩
instance : CaT Tryz.prog 92:=⟨by kernel_rfl⟩
instance : CaT Tryz.prog 93:=⟨by kernel_rfl⟩
instance : CaT Tryz.prog 95:=⟨by kernel_rfl⟩
instance : CaT Tryz.prog 96:=⟨by kernel_rfl⟩
instance : CaT Tryz.prog 97:=⟨by kernel_rfl⟩
instance : CaT Tryz.prog 98:=⟨by kernel_rfl⟩
instance : CaT Tryz.prog 99:=⟨by kernel_rfl⟩
instance : CaT Tryz.prog 100:=⟨by kernel_rfl⟩
instance : CaT Tryz.prog 101:=⟨by kernel_rfl⟩
instance : CaT Tryz.prog 102:=⟨by kernel_rfl⟩
instance : CaT Tryz.prog 103:=⟨by kernel_rfl⟩
instance : CaT Tryz.prog 104:=⟨by kernel_rfl⟩
instance : CaT Tryz.prog 105:=⟨by kernel_rfl⟩
instance : CaT Tryz.prog 106:=⟨by kernel_rfl⟩
instance : CaT Tryz.prog 107:=⟨by kernel_rfl⟩
instance : CaT Tryz.prog 108:=⟨by kernel_rfl⟩
instance : CaT Tryz.prog 109:=⟨by kernel_rfl⟩
instance : CaT Tryz.prog 110:=⟨by kernel_rfl⟩
instance : CaT Tryz.prog 111:=⟨by kernel_rfl⟩
instance : CaT Tryz.prog 112:=⟨by kernel_rfl⟩
instance : CaT Tryz.prog 113:=⟨by kernel_rfl⟩
instance : CaT Tryz.prog 114:=⟨by kernel_rfl⟩
instance : CaT Tryz.prog 115:=⟨by kernel_rfl⟩
instance : CaT Tryz.prog 116:=⟨by kernel_rfl⟩
instance : CaT Tryz.prog 117:=⟨by kernel_rfl⟩
instance : CaT Tryz.prog 118:=⟨by kernel_rfl⟩
instance : CaT Tryz.prog 119:=⟨by kernel_rfl⟩
instance : CaT Tryz.prog 120:=⟨by kernel_rfl⟩
instance : CaT Tryz.prog 121:=⟨by kernel_rfl⟩
instance : CaT Tryz.prog 122:=⟨by kernel_rfl⟩
instance : CaT Tryz.prog 123:=⟨by kernel_rfl⟩
instance : CaT Tryz.prog 124:=⟨by kernel_rfl⟩
instance : CaT Tryz.prog 125:=⟨by kernel_rfl⟩
instance : CaT Tryz.prog 126:=⟨by kernel_rfl⟩
instance : CaT Tryz.prog 127:=⟨by kernel_rfl⟩
instance : CaT Tryz.prog 128:=⟨by kernel_rfl⟩
instance : CaT Tryz.prog 129:=⟨by kernel_rfl⟩
instance : CaT Tryz.prog 130:=⟨by kernel_rfl⟩
instance : CaT Tryz.prog 131:=⟨by kernel_rfl⟩
instance : CaT Tryz.prog 132:=⟨by kernel_rfl⟩
instance : CaT Tryz.prog 133:=⟨by kernel_rfl⟩
instance : CaT Tryz.prog 134:=⟨by kernel_rfl⟩
instance : CaT Tryz.prog 135:=⟨by kernel_rfl⟩
instance : CaT Tryz.prog 136:=⟨by kernel_rfl⟩
instance : CaT Tryz.prog 137:=⟨by kernel_rfl⟩
instance : CaT Tryz.prog 138:=⟨by kernel_rfl⟩
instance : CaT Tryz.prog 139:=⟨by kernel_rfl⟩
instance : CaT Tryz.prog 140:=⟨by kernel_rfl⟩
instance : CaT Tryz.prog 141:=⟨by kernel_rfl⟩
instance : CaT Tryz.prog 142:=⟨by kernel_rfl⟩
instance : CaT Tryz.prog 144:=⟨by kernel_rfl⟩
instance : CaT Tryz.prog 145:=⟨by kernel_rfl⟩
instance : CaT Tryz.prog 146:=⟨by kernel_rfl⟩
instance : CaT Tryz.prog 147:=⟨by kernel_rfl⟩
instance : CaT Tryz.prog 148:=⟨by kernel_rfl⟩
instance : CaT Tryz.prog 149:=⟨by kernel_rfl⟩
instance : CaT Tryz.prog 150:=⟨by kernel_rfl⟩
instance : CaT Tryz.prog 151:=⟨by kernel_rfl⟩
instance : CaT Tryz.prog 152:=⟨by kernel_rfl⟩
instance : CaT Tryz.prog 153:=⟨by kernel_rfl⟩
instance : CaT Tryz.prog 154:=⟨by kernel_rfl⟩
instance : CaT Tryz.prog 155:=⟨by kernel_rfl⟩
instance : CaT Tryz.prog 156:=⟨by kernel_rfl⟩
instance : CaT Tryz.prog 157:=⟨by kernel_rfl⟩
instance : CaT Tryz.prog 158:=⟨by kernel_rfl⟩
instance : CaT Tryz.prog 159:=⟨by kernel_rfl⟩
instance : CaT Tryz.prog 160:=⟨by kernel_rfl⟩
instance : CaT Tryz.prog 161:=⟨by kernel_rfl⟩
instance : CaT Tryz.prog 162:=⟨by kernel_rfl⟩
instance : CaT Tryz.prog 163:=⟨by kernel_rfl⟩
instance : CaT Tryz.prog 164:=⟨by kernel_rfl⟩
instance : CaT Tryz.prog 165:=⟨by kernel_rfl⟩
instance : CaT Tryz.prog 166:=⟨by kernel_rfl⟩
instance : CaT Tryz.prog 167:=⟨by kernel_rfl⟩
instance : CaT Tryz.prog 168:=⟨by kernel_rfl⟩
instance : CaT Tryz.prog 173:=⟨by kernel_rfl⟩
instance : CaT Tryz.prog 174:=⟨by kernel_rfl⟩
instance : CaT Tryz.prog 175:=⟨by kernel_rfl⟩
instance : CaT Tryz.prog 176:=⟨by kernel_rfl⟩
instance : CaT Tryz.prog 177:=⟨by kernel_rfl⟩
instance : CaT Tryz.prog 178:=⟨by kernel_rfl⟩
instance : CaT Tryz.prog 179:=⟨by kernel_rfl⟩
instance : CaT Tryz.prog 180:=⟨by kernel_rfl⟩
instance : CaT Tryz.prog 181:=⟨by kernel_rfl⟩
instance : CaT Tryz.prog 182:=⟨by kernel_rfl⟩
instance : CaT Tryz.prog 183:=⟨by kernel_rfl⟩
instance : CaT Tryz.prog 184:=⟨by kernel_rfl⟩
instance : CaT Tryz.prog 185:=⟨by kernel_rfl⟩
instance : CaT Tryz.prog 186:=⟨by kernel_rfl⟩
instance : CaT Tryz.prog 187:=⟨by kernel_rfl⟩
instance : CaT Tryz.prog 188:=⟨by kernel_rfl⟩
instance : CaT Tryz.prog 194:=⟨by kernel_rfl⟩
instance : CaT Tryz.prog 195:=⟨by kernel_rfl⟩
instance : CaT Tryz.prog 196:=⟨by kernel_rfl⟩
end Go.Proofs.YteidfaaldcedpaaGreatDoor
namespace Go.AL
inductive Stmt where
 | mk (op x y n : Int) (th el : List Stmt)
 deriving Inhabited
namespace Stmt
def op : Stmt → Int | .mk o _ _ _ _ _ => o
def x : Stmt → Int | .mk _ o _ _ _ _ => o
def y : Stmt → Int | .mk _ _ o _ _ _ => o
def n : Stmt → Int | .mk _ _ _ o _ _ => o
def th : Stmt → List Stmt | .mk _ _ _ _ o _ => o
def el : Stmt → List Stmt | .mk _ _ _ _ _ o => o
end Stmt
structure Prg where
 types : List Int
 body : List Stmt
 deriving Inhabited
structure Pnt where
 op : Int
 x : Int
 y : Int
 n : Int
 next : List Int
 deriving Inhabited,DecidableEq
structure Iss where
 point : Int
 kind : Int
 with_ : Int
 deriving Inhabited,DecidableEq
structure Acc where
 var : Int
 write : Bool
 deriving Inhabited,DecidableEq
mutual
def aN : Stmt → List AV
 | .mk o x y n t e => [iv o,iv x,iv y,iv n,.imm t.length (mL t),.imm e.length (mL e)]
def mL : List Stmt → List AV
 | [] => []
 | s :: l => aN s ++ mL l
end
theorem yV:∀ l,mL l = flat aN l
 | [] => by simp [mL,flat]
 | s :: l => by have := yV l;simp only [mL,this,flat,List.flatMap_cons]
theorem c9 (s:Stmt):aN s = [iv s.op,iv s.x,iv s.y,iv s.n,sl aN s.th,sl aN s.el]:=by
 cases s;simp only [aN,yV,Stmt.op,Stmt.x,Stmt.y,Stmt.n,Stmt.th,Stmt.el]
def b8 (p : Pnt) : List AV := [iv p.op,iv p.x,iv p.y,iv p.n,sl cI p.next]
def iW (p : Iss) : List AV := [iv p.point,iv p.kind,iv p.with_]
def F4 (p : Acc) : List AV := [iv p.var,bv p.write]
instance : FlT aN 6:=⟨fun s => by rw [c9]; rfl⟩
instance : FlT b8 5:=⟨fun s => rfl⟩
instance : FlT iW 3:=⟨fun s => rfl⟩
instance : FlT F4 2:=⟨fun s => rfl⟩
instance : FE aN (fun s => [iv s.op,iv s.x,iv s.y,iv s.n,sl aN s.th,sl aN s.el]):=⟨c9⟩
instance : FE b8 (fun p => [iv p.op,iv p.x,iv p.y,iv p.n,sl cI p.next]):=⟨fun _ => rfl⟩
instance : FE iW (fun p => [iv p.point,iv p.kind,iv p.with_]):=⟨fun _ => rfl⟩
instance : FE F4 (fun p => [iv p.var,bv p.write]):=⟨fun _ => rfl⟩
mutual
theorem xI:∀ s,bR (aN s) = true
 | .mk o x y n t e => by simp only [aN,bR,AV.pur,o7 t,o7 e,Bool.and_self]
theorem o7:∀ l,bR (mL l) = true
 | [] => rfl
 | s :: l => by simp only [mL,jF,xI s,o7 l,Bool.and_self]
end
instance (s : Stmt) : Pur (aN s):=⟨xI s⟩
instance (s : Pnt) : Pur (b8 s):=⟨by simp only [b8,bR,AV.pur,bD,Bool.and_self]; simp only [(inferInstance : Pur (flat cI s.next)).pf,Bool.and_self]⟩
instance (s : Iss) : Pur (iW s):=⟨rfl⟩
instance (s : Acc) : Pur (F4 s):=⟨rfl⟩
abbrev eQ (s : Stmt) : AV := .agg [iv s.op,iv s.x,iv s.y,iv s.n,sl aN s.th,sl aN s.el]
abbrev dJ (p : Pnt) : AV := .agg [iv p.op,iv p.x,iv p.y,iv p.n,sl cI p.next]
abbrev bI (p : Prg) : AV := .agg [sl cI p.types,sl aN p.body]
abbrev dY (p : Iss) : AV := .agg [iv p.point,iv p.kind,iv p.with_]
def fG (types : List Int) (v : Int) : Int := if 0 ≤ v ∧ v < types.length then types[v.toNat]! else 0
def kQ (t : Int) : Bool := decide (t = 3) || decide (t = 4)
def aV (types : List Int) (x : Pnt) (v : Int) : Int :=
 if x.op = 3 then (if v = x.y then (if types[v.toNat]! = 2 ∨ types[v.toNat]! = 4 then 2 else 1) else 0)
 else if x.op = 4 ∨ x.op = 5 ∨ x.op = 6 then (if v = x.y then 3 else 0)
 else if x.op = 7 then (if v = x.x then 3 else if v = x.y then 1 else 0)
 else if x.op = 8 then (if v = x.x then 2 else 0) else 0
def aQ (x : Pnt) : Int := if 1 ≤ x.op ∧ x.op ≤ 6 then x.x else -1
theorem aY {α:Type}[Inhabited α] (xs:List α) (i:Nat) (h:i < xs.length):xs[i]! = xs[i] := getElem!_pos xs i h
theorem kG {α:Type}[Inhabited α] (p:α → Bool) (xs:List α):xs.all p = true ↔ ∀ i,i < xs.length → p xs[i]! = true:=by
 rw [List.all_eq_true]
 constructor
 ·intro h i hi;rw [aY _ _ hi]; exact h _ (List.getElem_mem hi)
 ·intro h x hx
  obtain ⟨i,hi,rfl⟩ := List.getElem_of_mem hx
  have := h i hi;rwa [aY _ _ hi] at this
theorem n7 {α:Type}[Inhabited α] (p:α → Bool) (xs:List α) (i:Nat) (hi:i < xs.length) (h:p xs[i]! = false):xs.all p = false:=by
 rw [Bool.eq_false_iff]; intro h2;rw [kG] at h2;have := h2 i hi;rw [h] at this;cases this
theorem bG {α:Type}[Inhabited α] (xs:List α) (k:Nat) (h:k < xs.length):xs.take (k + 1) = xs.take k ++ [xs[k]!]:=by
 rw [aY _ _ h,List.take_succ_eq_append_getElem h]
theorem vY {α:Type}[Inhabited α] (xs:List α) (k:Nat) (h:k < xs.length):xs.drop k = xs[k]! :: xs.drop (k + 1):=by
 rw [aY _ _ h,List.drop_eq_getElem_cons h]
def bW (ts : List Int) : Bool := ts.all (fun t => decide (1 ≤ t) && decide (t ≤ 4)) && decide (ts.length ≤ 6)
theorem lW {ts:List Int}(h:bW ts = true) (i:Nat) (hi:i < ts.length):1 ≤ ts[i]! ∧ ts[i]! ≤ 4:=by
 unfold bW at h;grind [kG]
theorem iQ {ts:List Int}(h:bW ts = true):ts.length ≤ 6:=by
 unfold bW at h;grind
theorem jQ {ts:List Int}(h:bW ts = true) (v:Int):0 ≤ fG ts v ∧ fG ts v ≤ 4:=by
 unfold fG;split
 ·rename_i h1;have := lW h v.toNat (by omega);omega
 ·omega
theorem l8 {ts:List Int}(h:bW ts = true) (v:Int):0 < fG ts v ↔ 0 ≤ v ∧ v < ts.length:=by
 unfold fG;split
 ·rename_i h1;have := lW h v.toNat (by omega);omega
 ·omega
def c6 (ts : List Int) (s : Stmt) : Bool :=
 let x := fG ts s.x;let y := fG ts s.y
 if s.op = 1 then decide (x = 1 ∧ s.y = 0 ∧ 0 ≤ s.n ∧ s.n ≤ 9)
 else if s.op = 2 then decide (x = 2 ∧ s.y = 0 ∧ 0 ≤ s.n ∧ s.n ≤ 9)
 else if s.n ≠ 0 then false
 else if s.op = 3 then decide (x = y ∧ 0 < x ∧ s.x ≠ s.y)
 else if s.op = 4 then decide (x = 3 ∧ 2 ≤ y ∧ s.x ≠ s.y)
 else if s.op = 5 then decide (x = 4 ∧ (y = 2 ∨ y = 4) ∧ s.x ≠ s.y)
 else if s.op = 6 then decide (x = 1 ∧ 2 ≤ y)
 else if s.op = 7 then decide ((x = 2 ∨ x = 4) ∧ y = 1)
 else if s.op = 8 then decide (x = 2 ∧ s.y = 0)
 else false
theorem aS {α:Type}[Inhabited α] (xs:List α) (i:Nat) (h:i < xs.length):xs[i]! ∈ xs:=by
 rw [aY _ _ h]; exact List.getElem_mem h
mutual
def sV (ts : List Int) (d : Nat) : Stmt → Bool
 | .mk op x y n th el => if op ≠ 9 ∧ op ≠ 10 then th.isEmpty && el.isEmpty && c6 ts (.mk op x y n th el)
  else match d with
   | 0 => false
   | d + 1 => decide (x = 0 ∧ y = 0 ∧ n = 0) && !(decide (op = 10) && !el.isEmpty) && okL ts d th && okL ts d el
def okL (ts : List Int) (d : Nat) : List Stmt → Bool
 | [] => true
 | s :: l => sV ts d s && okL ts d l
end
mutual
def cH : Stmt → Nat
 | .mk _ _ _ _ th el => 1 + aR th + aR el
def aR : List Stmt → Nat
 | [] => 0
 | s :: l => cH s + aR l
end
theorem gM (s:Stmt):cH s = 1 + aR s.th + aR s.el := by cases s;simp only [cH,Stmt.th,Stmt.el]
theorem EO (ts:List Int) (d:Nat) (s:Stmt):sV ts d s = if s.op ≠ 9 ∧ s.op ≠ 10 then s.th.isEmpty && s.el.isEmpty && c6 ts s
  else match d with
   | 0 => false
   | d + 1 => decide (s.x = 0 ∧ s.y = 0 ∧ s.n = 0) && !(decide (s.op = 10) && !s.el.isEmpty) && okL ts d s.th && okL ts d s.el := by
 cases s;cases d <;> simp only [sV,Stmt.th,Stmt.el,Stmt.op,Stmt.x,Stmt.y,Stmt.n] <;> rfl
theorem y6 (ts:List Int) (d:Nat):∀ l,okL ts d l = l.all (sV ts d)
 | [] => by simp [okL]
 | s :: l => by simp [okL,y6 ts d l]
theorem fZ:∀ a b,aR (a ++ b) = aR a + aR b
 | [],b => by simp [aR]
 | s :: a,b => by simp only [List.cons_append,aR,fZ a b]; omega
theorem CV:∀ {l:List Stmt}{s:Stmt},s ∈ l → cH s ≤ aR l
 | s :: l,_,.head _ => by simp only [aR]; omega
 | _ :: l,s,.tail _ h => by have := CV h;simp only [aR]; omega
theorem gP (l:List Stmt) (i:Nat) (h:i < l.length):cH l[i]! ≤ aR l := CV (aS l i h)
theorem l9 (s:Stmt):aR s.th + aR s.el < cH s := by rw [gM]; omega
theorem dX:∀ l:List Stmt,l.length ≤ aR l
 | [] => by simp [aR]
 | s :: l => by have := dX l;simp only [aR,List.length_cons,gM]; omega
def bE (p : Prg) : Bool := bW p.types && okL p.types 4 p.body && decide (aR p.body ≤ 30)
theorem M3 (ts:List Int) (d:Int) (hd:0 ≤ d) (s:Stmt):sV ts d.toNat s = if s.op ≠ 9 ∧ s.op ≠ 10 then s.th.isEmpty && s.el.isEmpty && c6 ts s
  else if d < 1 then false else decide (s.x = 0 ∧ s.y = 0 ∧ s.n = 0) && !(decide (s.op = 10) && !s.el.isEmpty) && okL ts (d - 1).toNat s.th && okL ts (d - 1).toNat s.el := by
 rw [EO]
 by_cases h : s.op ≠ 9 ∧ s.op ≠ 10
 ·rw [if_pos h,if_pos h]
 ·rw [if_neg h, if_neg h]
  by_cases h2 : d < 1
  ·obtain rfl : d = 0 := by omega
   rfl
  ·obtain ⟨k, rfl⟩ : ∃ k : Nat, d = ((k + 1 : Nat) : Int) := ⟨(d - 1).toNat, by omega⟩
   have e1 : (((k + 1 : Nat) : Int)).toNat = k + 1 := rfl
   have e2 : (((k + 1 : Nat) : Int) - 1).toNat = k := by omega
   rw [e1,e2,if_neg h2]
theorem Kr {ts:List Int}{d:Nat}{l:List Stmt}{k:Nat}(hk:k < l.length) (h:sV ts d l[k]! = false):okL ts d l = false:=by
 rw [y6]; exact n7 _ _ k hk h
theorem NK {ts:List Int}{d:Nat}{l:List Stmt}(h:∀ i,i < l.length → sV ts d l[i]! = true):okL ts d l = true:=by
 rw [y6,kG]; exact h
mutual
def JB (most n : Int) : Stmt → Int
 | .mk _ _ _ _ th el => let n1 := n + 1 + oG (most - n) 0 th;if n1 ≤ most then n1 + oG (most - n1) 0 el else n1
def oG (most n : Int) : List Stmt → Int
 | [] => n
 | s :: l => if n ≤ most then oG most (JB most n s) l else n
end
theorem NW (most n:Int) (s:Stmt):JB most n s = if n + 1 + oG (most - n) 0 s.th ≤ most then (n + 1 + oG (most - n) 0 s.th) + oG (most - (n + 1 + oG (most - n) 0 s.th)) 0 s.el else n + 1 + oG (most - n) 0 s.th:=by
 cases s;simp only [JB,Stmt.th,Stmt.el]; rfl
mutual
theorem JI:∀ (s:Stmt) (most n:Int),n ≤ JB most n s ∧ JB most n s ≤ n + cH s ∧ (JB most n s ≤ most → JB most n s = n + cH s)
 | .mk o x y k th el, most, n => by
  have h1 := mT th (most - n) 0
  have h2 := fun m => mT el m 0
  simp only [JB,cH]
  split
  ·have := h2 (most - (n + 1 + oG (most - n) 0 th));omega
  ·omega
theorem mT:∀ (l:List Stmt) (most n:Int),n ≤ oG most n l ∧ oG most n l ≤ n + aR l ∧ (oG most n l ≤ most → oG most n l = n + aR l)
 | [],most,n => by simp [oG,aR]
 | s :: l, most, n => by
  have h1 := JI s most n
  have h2 := mT l most (JB most n s)
  simp only [oG,aR]
  split <;> omega
end
theorem PT (l:List Stmt) (m:Int):decide (oG m 0 l ≤ m) = decide ((aR l:Int) ≤ m):=by
 have := mT l m 0;simp only [decide_eq_decide]; omega
theorem JO (most n:Int) (l:List Stmt) (k:Nat) (hk:k < l.length) (h:n ≤ most):oG most n (l.drop k) = oG most (JB most n l[k]!) (l.drop (k + 1)):=by
 rw [vY _ _ hk,oG,if_pos h]
theorem IC (most n:Int) (l:List Stmt) (h:¬ n ≤ most):oG most n l = n := by cases l <;> simp [oG,h]
theorem L1 (most n:Int) (l:List Stmt) (k:Nat) (hk:¬ k < l.length):oG most n (l.drop k) = n:=by
 rw [List.drop_of_length_le (by omega)]; simp [oG]
mutual
def nM (ts : List Int) (nest c : Int) : Stmt → Bool × Int
 | .mk op x y n th el => if 30 < c + 1 then (false, c + 1) else
   if op ≠ 9 ∧ op ≠ 10 then (th.isEmpty && el.isEmpty && c6 ts (.mk op x y n th el),c + 1)
   else if nest = 4 ∨ x ≠ 0 ∨ y ≠ 0 ∨ n ≠ 0 ∨ (op = 10 ∧ el ≠ []) then (false,c + 1)
   else if (kX ts (nest + 1) (c + 1) th).1 = true then kX ts (nest + 1) (kX ts (nest + 1) (c + 1) th).2 el else (false,(kX ts (nest + 1) (c + 1) th).2)
def kX (ts : List Int) (nest c : Int) : List Stmt → Bool × Int
 | [] => (true,c)
 | s :: l => if (nM ts nest c s).1 = true then kX ts nest (nM ts nest c s).2 l else (false,(nM ts nest c s).2)
end
theorem NO (ts : List Int) (nest c : Int) (s : Stmt) : nM ts nest c s = if 30 < c + 1 then (false, c + 1) else
   if s.op ≠ 9 ∧ s.op ≠ 10 then (s.th.isEmpty && s.el.isEmpty && c6 ts s,c + 1)
   else if nest = 4 ∨ s.x ≠ 0 ∨ s.y ≠ 0 ∨ s.n ≠ 0 ∨ (s.op = 10 ∧ s.el ≠ []) then (false,c + 1)
   else if (kX ts (nest + 1) (c + 1) s.th).1 = true then kX ts (nest + 1) (kX ts (nest + 1) (c + 1) s.th).2 s.el else (false,(kX ts (nest + 1) (c + 1) s.th).2) := by
 cases s;simp only [nM,Stmt.th,Stmt.el,Stmt.op,Stmt.x,Stmt.y,Stmt.n]; rfl
mutual
theorem F3 (ts:List Int):∀ (s:Stmt) (d:Nat) (c:Int),d ≤ 4 → 0 ≤ c → c ≤ 30 → c ≤ (nM ts (4 - d) c s).2 ∧ (nM ts (4 - d) c s).2 ≤ c + cH s ∧ (nM ts (4 - d) c s).2 ≤ 31 ∧
  ((nM ts (4 - d) c s).1 = true ↔ sV ts d s = true ∧ c + cH s ≤ 30) ∧ ((nM ts (4 - d) c s).1 = true → (nM ts (4 - d) c s).2 = c + cH s)
 | .mk op x y n th el, d, c, hd, hc0, hc => by
  have hS : cH (.mk op x y n th el) = 1 + aR th + aR el := by simp only [cH]
  rw [hS]
  simp only [nM]
  split
  ·simp;omega
  ·rename_i h30
   split
   ·rename_i hop
    simp only [sV,hop,if_true,ne_eq,not_false_eq_true,and_self]
    cases th with
    | cons a b => simp [aR]; have := gM a;omega
    | nil => cases el with
     | cons a b => simp [aR]; have := gM a;omega
     | nil => simp [aR,hop]; omega
   ·rename_i hop
    split
    ·rename_i hb
     have : sV ts d (.mk op x y n th el) = false := by
      simp only [sV,hop,if_false]
      cases d with
      | zero => rfl
      | succ d =>
       simp only [Bool.and_eq_false_iff,decide_eq_false_iff_not,Bool.not_eq_false',Bool.and_eq_true,decide_eq_true_eq]
       rcases hb with h|h|h|h | ⟨h1,h2⟩
       ·omega
       ·exact .inl (.inl (.inl (by omega)))
       ·exact .inl (.inl (.inl (by omega)))
       ·exact .inl (.inl (.inl (by omega)))
       ·exact .inl (.inl (.inr ⟨h1,by cases el;exact absurd rfl h2;rfl⟩))
     simp [this]; omega
    ·rename_i hb
     cases d with
     | zero => exact absurd (.inl rfl) hb
     | succ d =>
      have e : ((4 : Int) - ((d + 1 : Nat) : Int)) + 1 = 4 - (d : Int) := by omega
      rw [e]
      have h1 := pM ts th d (c + 1) (by omega) (by omega) (by omega)
      have hok : sV ts (d + 1) (.mk op x y n th el) = (okL ts d th && okL ts d el) := by
       simp only [sV,hop,if_false]
       have e1 : (x = 0 ∧ y = 0 ∧ n = 0) := by omega
       have e2 : (decide (op = 10) && !el.isEmpty) = false := by
        rw [Bool.and_eq_false_iff,decide_eq_false_iff_not]
        by_cases ho : op = 10
        ·right; cases el with
         | nil => rfl
         | cons a b => exact absurd (.inr (.inr (.inr (.inr ⟨ho,by simp⟩)))) hb
        ·exact .inl ho
       simp [e1,e2]
      rw [hok]
      generalize kX ts (4 - (d : Int)) (c + 1) th = r1 at h1
      obtain ⟨b1,c1⟩ := r1
      dsimp only at h1 ⊢
      cases b1 with
      | true =>
       have h3 := h1.2.2.2.1.1 rfl
       have h4 := h1.2.2.2.2 rfl
       have h2 := pM ts el d c1 (by omega) (by omega) (by omega)
       simp only [if_true,h3.1,Bool.true_and]
       refine ⟨by omega,by omega,by omega,⟨fun q => ?_,fun q => ?_⟩,fun q => ?_⟩
       ·have := h2.2.2.2.1.1 q;exact ⟨this.1,by omega⟩
       ·exact h2.2.2.2.1.2 ⟨q.1,by omega⟩
       ·have := h2.2.2.2.2 q;omega
      | false =>
       simp only [Bool.false_eq_true,if_false,false_iff]
       refine ⟨by omega,by omega,by omega,?_,fun h => h.elim⟩
       rintro ⟨q1,q2⟩
       simp only [Bool.and_eq_true] at q1
       exact absurd (h1.2.2.2.1.2 ⟨q1.1,by omega⟩) (by simp)
theorem pM (ts:List Int):∀ (l:List Stmt) (d:Nat) (c:Int),d ≤ 4 → 0 ≤ c → c ≤ 30 → c ≤ (kX ts (4 - d) c l).2 ∧ (kX ts (4 - d) c l).2 ≤ c + aR l ∧ (kX ts (4 - d) c l).2 ≤ 31 ∧
  ((kX ts (4 - d) c l).1 = true ↔ okL ts d l = true ∧ c + aR l ≤ 30) ∧ ((kX ts (4 - d) c l).1 = true → (kX ts (4 - d) c l).2 = c + aR l)
 | [],d,c,hd,hc0,hc => by simp [kX,okL,aR]; omega
 | s :: l, d, c, hd, hc0, hc => by
  have h1 := F3 ts s d c hd hc0 hc
  simp only [kX,okL,aR]
  generalize nM ts (4 - (d : Int)) c s = r1 at h1
  obtain ⟨b1,c1⟩ := r1
  dsimp only at h1 ⊢
  cases b1 with
  | true =>
   have h3 := h1.2.2.2.1.1 rfl
   have h4 := h1.2.2.2.2 rfl
   have h2 := pM ts l d c1 (by omega) (by omega) (by omega)
   simp only [if_true,h3.1,Bool.true_and]
   refine ⟨by omega,by omega,by omega,⟨fun q => ?_,fun q => ?_⟩,fun q => ?_⟩
   ·have := h2.2.2.2.1.1 q;exact ⟨this.1,by omega⟩
   ·exact h2.2.2.2.1.2 ⟨q.1,by omega⟩
   ·have := h2.2.2.2.2 q;omega
  | false =>
   simp only [Bool.false_eq_true,if_false,false_iff]
   refine ⟨by omega,by omega,by omega,?_,fun h => h.elim⟩
   rintro ⟨q1,q2⟩
   simp only [Bool.and_eq_true] at q1
   exact absurd (h1.2.2.2.1.2 ⟨q1.1,by omega⟩) (by simp)
end
theorem Gn (p:Prg):(bW p.types && (kX p.types 0 0 p.body).1) = bE p:=by
 have h := (pM p.types p.body 4 0 (by omega) (by omega) (by omega)).2.2.2.1
 have e : ((4 : Int) - ((4 : Nat) : Int)) = 0 := by omega
 rw [e] at h
 unfold bE
 rw [Bool.and_assoc]
 congr 1
 rw [Bool.eq_iff_iff,h]
 simp only [Bool.and_eq_true,decide_eq_true_eq]
 constructor
 ·exact fun ⟨a,b⟩ => ⟨a,by omega⟩
 ·exact fun ⟨a,b⟩ => ⟨a,by omega⟩
theorem scL_stop {ts:List Int}{nest c:Int}{l:List Stmt}{k:Nat}(hk:k < l.length):kX ts nest c (l.drop k) = if (nM ts nest c l[k]!).1 = true then kX ts nest (nM ts nest c l[k]!).2 (l.drop (k + 1)) else (false,(nM ts nest c l[k]!).2):=by
 rw [vY _ _ hk,kX]
theorem OK (ts:List Int) (l:List Stmt) (nest c:Int) (h0:0 ≤ nest) (h1:nest ≤ 4) (h2:0 ≤ c) (h3:c ≤ 30):0 ≤ (kX ts nest c l).2 ∧ (kX ts nest c l).2 ≤ 31 ∧ ((kX ts nest c l).1 = true → (kX ts nest c l).2 ≤ 30):=by
 obtain ⟨k,hk⟩ : ∃ k : Nat,nest = 4 - (k : Int) := ⟨(4 - nest).toNat,by omega⟩
 have := pM ts l k c (by omega) h2 h3
 rw [← hk] at this
 refine ⟨by omega,by omega,fun h => ?_⟩
 have h4 := this.2.2.2.1.1 h
 have h5 := this.2.2.2.2 h
 omega
theorem OQ (ts:List Int) (s:Stmt) (nest c:Int) (h0:0 ≤ nest) (h1:nest ≤ 4) (h2:0 ≤ c) (h3:c ≤ 30):0 ≤ (nM ts nest c s).2 ∧ (nM ts nest c s).2 ≤ 31 ∧ ((nM ts nest c s).1 = true → (nM ts nest c s).2 ≤ 30):=by
 obtain ⟨k,hk⟩ : ∃ k : Nat,nest = 4 - (k : Int) := ⟨(4 - nest).toNat,by omega⟩
 have := F3 ts s k c (by omega) h2 h3
 rw [← hk] at this
 refine ⟨by omega,by omega,fun h => ?_⟩
 have h4 := this.2.2.2.1.1 h
 have h5 := this.2.2.2.2 h
 omega
def pR (ks : List Nat) (ts : List (Nat × AV)) : List (Nat × AV) := ks.filterMap fun t => (lk ts t).map fun v => (t,v)
def qU (ks : List Nat) (hs : List (Nat × Option (List AV))) : List (Nat × Option (List AV)) := ks.map fun t => (t,aT hs t)
theorem nI {ts:List (Nat × AV)}:∀ (ks:List Nat),pG ts (pR ks ts)
 | [] => trivial
 | k :: ks => by
  simp only [pR,List.filterMap_cons]
  cases h : lk ts k with
  | none => exact nI ks
  | some v => exact ⟨h,nI ks⟩
theorem pJ {hs:List (Nat × Option (List AV))}:∀ (ks:List Nat),oF hs (qU ks hs)
 | [] => trivial
 | k :: ks => ⟨.inr rfl,pJ ks⟩
theorem nN {ts a b:List (Nat × AV)}(h1:pG ts a) (h2:pG ts b):pG ts (a ++ b):=by
 induction a with
 | nil => exact h2
 | cons x a ih => exact ⟨h1.1,ih h1.2⟩
theorem mZ {ts a b:List (Nat × Option (List AV))}(h1:oF ts a) (h2:oF ts b):oF ts (a ++ b):=by
 induction a with
 | nil => exact h2
 | cons x a ih => exact ⟨h1.1,ih h1.2⟩
variable {P : Program} {N : Nat} {Q : Exit → AS → Prop}
theorem IG {σ:Type}{c:Code}{ts:List (Nat × AV)}{hs:List (Nat × Option (List AV))}{n:Nat}{z0:Lo}(ks:List Nat) (kt:List (Nat × AV)) (js:List Nat) (kh:List (Nat × Option (List AV)))
  (ot : σ → List (Nat × AV)) (oh : σ → List (Nat × Option (List AV))) (p : σ → Prop) (μ : σ → Nat) (i0 : σ) (h0 : p i0) (hk : pR ks ts = kt) (hj : qU js hs = kh)
  (h1 : pG ts (ot i0)) (h2 : oF hs (oh i0))
  (round : ∀ i,p i → AW P N c (pE (fun s' => ∃ j,p j ∧ μ j < μ i ∧ Le s' ⟨ot j ++ kt,oh j ++ kh,n,z0⟩) Q) ⟨ot i ++ kt,oh i ++ kh,n,z0⟩) :
  AW P N (.loop c) Q ⟨ts,hs,n,z0⟩ := by
 subst hk hj
 exact EA p (fun i => ⟨ot i ++ pR ks ts,oh i ++ qU js hs,n,z0⟩) μ ⟨i0,h0,Le.lit (nN h1 (nI ks)) (mZ h2 (pJ js)) (Nat.le_refl _)⟩ round
section
variable {P : Program} {N : Nat} {all : Array Oper} {Q : Exit → AS → Prop} {m : Md} {rest : List Oper} {s : AS}
theorem GL {dst:Option Tmp}{op:Op}{ty:TypeId}{pos:String}{af:Array Edge}{j d:Nat}{want:Bool}(hj:(all[j]?).bind (·.dst) = some d) (hb:lk s.ts d = some (.v undef))
  (hdN : ∀ d,dst = some d → d < N)
  (h2 : RW P N all Q (m.add [.inl d] (wD dst)) rest (put s dst (.v undef))) : RW P N all Q m (⟨dst,op,ty,pos,af,some (j,want)⟩ :: rest) s := by
 have hyl : ∀ (C : Ctx) (ι : Pl) (T : Nat → Option AV) (H : Nat → Option (List AV)) (a : Act) (w : World), T d = lk s.ts d → TG C ι T H a w → yielded all a.tmps j = none := by
  intro C ι T H a w hT g
  obtain ⟨y,hy,hr⟩ := g.tm d _ (by rw [hT]; exact hb)
  simp only [Rd] at hr
  subst hr
  simp [yielded,hj,hy,undef]
 cases m with
 | txt =>
  rintro C a w hN ⟨h0,ι,g,gh⟩
  have hyl' := hyl C ι _ _ a w rfl g
  unfold wpList
  simp only [Region.wanted,hyl']
  rw [if_neg (by simp)]
  refine h2 C _ w hN ?_
  cases hd : dst with
  | none => exact ⟨h0,ι,g,gh⟩
  | some d' =>
   refine ⟨h0,ι,?_,gh⟩
   simp only [put]
   rw [iH]
   exact g.put (hN.symm ▸ hdN d' hd) (by simp [Rd])
 | drw ks pend =>
  obtain ⟨As,S',n2,tr,hc,hn2,_,s',e1,e2,e3,hQ⟩ := h2
  refine ⟨⟨pend ++ [.inl d],EE dst (.v undef),s.nid,s.nid⟩ :: As,S',n2,.cons ?_ rfl (Nat.le_refl _) ?_,?_,hn2,fun _ => ⟨_,_,rfl,fun r hr => List.mem_append_left _ hr⟩,s',e1,e2,?_,hQ⟩
  ·intro C ι F S a w hN hag hF g gh K Q' hK
   have hT : wU S d = lk s.ts d := by rw [← nV]; simp only [wU,hag _ (List.mem_append_right _ (by simp : Sum.inl d ∈ [Sum.inl d]))]
   have hyl' := hyl C ι _ _ a w hT g
   rw [if_neg (by simp [Region.wanted,hyl'])]
   refine hK ι _ w ?_ ?_
   ·rw [nX]; exact AQ g (fun x hx => hN.symm ▸ hdN x hx) (by simp [Rd])
   ·rw [nX]; exact (gh.less (fun _ _ h => h) (fun j hj => hj.1)).1
  ·rw [z8] at tr
   have hnid : (put s dst (.v undef)).nid = s.nid := by cases dst <;> rfl
   rw [hnid] at tr
   exact tr
  ·have hk : yS ⟨pend ++ [.inl d], EE dst (.v undef), s.nid, s.nid⟩ = (pend ++ [.inl d], wD dst) := by
    simp only [yS,mJ]
    congr 1
    cases dst <;> rfl
   rw [List.map_cons,hk]
   simpa using hc
  ·rw [e3]; cases dst <;> rfl
end
section
variable {P : Program} {N : Nat} {all : Array Oper} {Q : Exit → AS → Prop} {md : Md} {rest : List Oper} {ts : List (Nat × AV)} {hs : List (Nat × Option (List AV))} {n : Nat} {z0 : Lo} {ty : TypeId} {pos : String} {af : Array Edge}
theorem HF {dst:Nat}{op:Op}{j d:Nat}{want:Bool}{md':Md}[hmd:MdA md [.inl d] [.inl dst] md'] (hj:(all[j]?).bind (·.dst) = some d) (hb:lk ts d = some (.v undef)) (hN:Nat.blt dst N = true)
  (k : RW P N all Q md' rest ⟨(dst,.v undef) :: ts,hs,n,z0⟩) : RW P N all Q md (⟨some dst,op,ty,pos,af,some (j,want)⟩ :: rest) ⟨ts,hs,n,z0⟩ :=
 GL hj hb (fun d h => by cases h;exact cS hN) (by rw [show wD (some dst) = [Sum.inl dst] from rfl,hmd.pf]; exact k)
end
section
variable {P : Program} {N : Nat} {all : Array Oper} {Q : Exit → AS → Prop} {md : Md} {rest : List Oper} {s : AS} {ty : TypeId} {pos : String} {af : Array Edge} {dst : Option Tmp} {op : Op}
theorem Ra {jw:Nat × Bool}(h:RW P N all Q md (⟨dst,op,ty,pos,af,some jw⟩ :: rest) s):RW P N all Q md (⟨dst,op,ty,pos,af,some jw⟩ :: rest) s := h
theorem aF {l:List Oper}(h:RW P N all Q md l s):RW P N all Q md l s := h
theorem E3 {c:Code}(h:AW P N c Q s):AW P N c Q s := h
theorem O4 {o1:BinOp}{o2:TypeId}{o3 o4:Operand}{o5:TypeId}(h:RW P N all Q md (⟨dst,.binOp o1 o2 o3 o4 o5,ty,pos,af,none⟩ :: rest) s):RW P N all Q md (⟨dst,.binOp o1 o2 o3 o4 o5,ty,pos,af,none⟩ :: rest) s := h
theorem Lt {o1:TypeId}{o2:Operand}(h:RW P N all Q md (⟨dst,.load o1 o2,ty,pos,af,none⟩ :: rest) s):RW P N all Q md (⟨dst,.load o1 o2,ty,pos,af,none⟩ :: rest) s := h
theorem QX {o1:Builtin}{o2:Array Operand}{o3:Array TypeId}(h:RW P N all Q md (⟨dst,.call ⟨.builtin o1,o2,o3⟩,ty,pos,af,none⟩ :: rest) s):RW P N all Q md (⟨dst,.call ⟨.builtin o1,o2,o3⟩,ty,pos,af,none⟩ :: rest) s := h
theorem Mh {o1 o2:TypeId}{o3:Operand}(h:RW P N all Q md (⟨dst,.convert o1 o2 o3,ty,pos,af,none⟩ :: rest) s):RW P N all Q md (⟨dst,.convert o1 o2 o3,ty,pos,af,none⟩ :: rest) s := h
theorem Pv {o1:TypeId}{o2 o3:Operand}(h:RW P N all Q md (⟨dst,.indexAddr o1 o2 o3,ty,pos,af,none⟩ :: rest) s):RW P N all Q md (⟨dst,.indexAddr o1 o2 o3,ty,pos,af,none⟩ :: rest) s := h
theorem Mf {o1 o2 o3:Operand}(h:RW P N all Q md (⟨dst,.pick o1 o2 o3,ty,pos,af,none⟩ :: rest) s):RW P N all Q md (⟨dst,.pick o1 o2 o3,ty,pos,af,none⟩ :: rest) s := h
theorem OC {o1:TypeId}{o2:Array (Nat × Operand)}(h:RW P N all Q md (⟨dst,.build o1 o2,ty,pos,af,none⟩ :: rest) s):RW P N all Q md (⟨dst,.build o1 o2,ty,pos,af,none⟩ :: rest) s := h
theorem PK {o1:TypeId}{o2:Operand}{o3 o4 o5:Option Operand}(h:RW P N all Q md (⟨dst,.slice o1 o2 o3 o4 o5,ty,pos,af,none⟩ :: rest) s):RW P N all Q md (⟨dst,.slice o1 o2 o3 o4 o5,ty,pos,af,none⟩ :: rest) s := h
theorem Rq {o1:TypeId}{o2 o3:Operand}(h:RW P N all Q md (⟨dst,.index o1 o2 o3,ty,pos,af,none⟩ :: rest) s):RW P N all Q md (⟨dst,.index o1 o2 o3,ty,pos,af,none⟩ :: rest) s := h
end
end Go.AL
