/-
 A part of the proofs over this program: rules and contracts of its functions (the rules).
-/
import Derived.Test.YtjnhlgpbojggnaaGreatDoorS3A03
import Derived.KernelRfl
import Derived.Test.YtjnhlgpbojggnaaGreatDoorProg
set_option linter.unusedVariables false
set_option linter.unusedSimpArgs false
namespace Go.AL
open Go.RowKit
section
variable {P : Program} {N : Nat} {Q : Exit → AS → Prop} {all : Array Oper} {rest : List Oper} {ts : List (Nat × AV)} {hs : List (Nat × Option (List AV))} {n : Nat} {z0 : Lo} {md : Md}
variable {d : Option Tmp} {ty : TypeId} {pos : String} {af : Array Edge}
def hands (hs : List (Nat × Option (List AV))) (H0 : List (Nat × Option (List AV))) (mp : List Nat) : Nat → List Nat → Prop
 | _,[] => True
 | j,i :: is => (∃ cs cs',lkH H0 j = some cs ∧ lkH hs i = some cs' ∧ RnL (mp[·]?) cs cs') ∧ hands hs H0 mp (j + 1) is
theorem hands_ok {H0:List (Nat × Option (List AV))}{mp:List Nat}:∀ {is:List Nat}{j0:Nat},hands hs H0 mp j0 is → ∀ (j i:Nat),is[j]? = some i → ∃ cs cs',lkH H0 (j0 + j) = some cs ∧ lkH hs i = some cs' ∧ RnL (mp[·]?) cs cs'
 | [],_,_,j,i,h => by simp at h
 | x :: is, j0, hh, j, i, h => by
  simp only [hands] at hh
  cases j with
  | zero => simp at h;subst h;simpa using hh.1
  | succ j =>
   have := hands_ok hh.2 j i (by simpa using h)
   rwa [show j0 + 1 + j = j0 + (j + 1) from by omega] at this
def keysLt (n : Nat) : List (Nat × Option (List AV)) → Bool
 | [] => true
 | (i,_) :: l => Nat.blt i n && keysLt n l
theorem keysLt_ok {n:Nat}:∀ {l:List (Nat × Option (List AV))},keysLt n l = true → ∀ j cs,lkH l j = some cs → j < n
 | [],_,j,cs,h => by simp [lkH] at h
 | (i, c) :: l, hk, j, cs, h => by
  simp only [keysLt,Bool.and_eq_true] at hk
  simp only [lkH_c] at h
  split at h
  ·rename_i e;subst e;exact ltb hk.1
  ·exact keysLt_ok hk.2 j cs h
theorem rw_mcall {σ:Type}{k:FuncId}{args:Array Operand}{tys:Array TypeId}{avs avs0:List AV}{H0:List (Nat × Option (List AV))}{p:σ → Prop}{rr rr':σ → AV}{hh ws:σ → List (Nat × Option (List AV))}
  (mp : List Nat) (n1 : Nat) (hc : callable P k = true) (ha : evL (lk ts) args.toList = some avs) (h : MC P k avs0 H0 mp.length p rr hh) (hd : distinct mp = true)
  (hH0 : hands hs H0 mp 0 mp) (hk : keysLt mp.length H0 = true) (har : RnL (mp[·]?) avs0 avs) (hM : Nat.ble (n + (n1 - mp.length)) big = true)
  (hr : ∀ x,p x → RnV (rho mp n n1) (rr x) (rr' x)) (hw : ∀ x,p x → WsOk mp (rho mp n n1) (hh x) (ws x)) (hN : ∀ x,d = some x → x < N)
  (kk : ∀ x,p x → RW P N all Q .txt rest (put ⟨ts,wrH hs (ws x),n + (n1 - mp.length),z0⟩ d (rr' x))) : RW P N all Q .txt (⟨d,.call ⟨.value (.func k),args,tys⟩,ty,pos,af,none⟩ :: rest) ⟨ts,hs,n,z0⟩ := by
 rintro C a w hCN ⟨h0,ι,g,gh⟩
 refine wpList_plain rfl (fun K hK => ?_)
 simp only [Oper.wp,exec_call hc,Oper.upon]
 have hM' := Nat.le_of_ble_eq_true hM
 refine (call_mut (nid := n) (n1 := n1) h hd gh (fun j i hj => by simpa using hands_ok hH0 j i hj) (keysLt_ok hk) har (fun j h1 h2 => ⟨h1,.inl (by omega)⟩) hr hw (evL_ok g ha)).mono ?_
 rintro e w' ⟨v,x,ι',rfl,hx,g',c',hrd⟩
 refine hK _ _ (kk x hx C _ _ hCN ?_)
 have g2 : HG C ι' (Fn (n + (n1 - mp.length)) z0) (updL (lkH hs) (ws x)) w' := (g'.less (fun _ _ h => h) (fun j hj => ⟨⟨Nat.le_trans (Nat.le_add_right _ _) hj.1,hj.2⟩,by have := hj.1;omega⟩)).1
 rw [← lkH_wrH] at g2 c' hrd
 cases d with
 | none => exact ⟨h0,ι',g.carry c',g2⟩
 | some d =>
  refine ⟨h0,ι',?_,g2⟩
  simp only [put]
  rw [lk_cons]
  exact (g.carry c').put (hCN.symm ▸ hN d rfl) hrd
theorem rw_mcallE {k:FuncId}{args:Array Operand}{tys:Array TypeId}{avs avs0:List AV}{H0:List (Nat × Option (List AV))}{rr rr':AV}{hh ws:List (Nat × Option (List AV))}
  (mp : List Nat) (n1 : Nat) (hc : callable P k = true) (ha : evL (lk ts) args.toList = some avs) (h : MC P k avs0 H0 mp.length (fun _ : Unit => True) (fun _ => rr) (fun _ => hh)) (hd : distinct mp = true)
  (hH0 : hands hs H0 mp 0 mp) (hk : keysLt mp.length H0 = true) (har : RnL (mp[·]?) avs0 avs) (hM : Nat.ble (n + (n1 - mp.length)) big = true)
  (hr : RnV (rho mp n n1) rr rr') (hw : WsOk mp (rho mp n n1) hh ws) (hN : ∀ x,d = some x → x < N)
  (kk : RW P N all Q (md.add (rOs args.toList ++ mp.map .inr) (ws.map (fun p => .inr p.1) ++ wD d)) rest (put ⟨ts,wrH hs ws,n + (n1 - mp.length),z0⟩ d rr')) : RW P N all Q md (⟨d,.call ⟨.value (.func k),args,tys⟩,ty,pos,af,none⟩ :: rest) ⟨ts,hs,n,z0⟩ := by
 have hM' := Nat.le_of_ble_eq_true hM
 refine rw_step (rs := rOs args.toList ++ mp.map .inr) (ws := ws) (n' := n + (n1 - mp.length)) (out := rr') rfl (Nat.le_add_right _ _) (.inr hM') (fun C ι F T H a w K Q' hCN ag hF g gh hK => ?_) hN kk
 simp only [Oper.wp,exec_call hc,Oper.upon]
 refine (call_mut (nid := n) (n1 := n1) h hd gh (fun j i hj => ?_) (keysLt_ok hk) har hF (fun _ _ => hr) (fun _ _ => hw) (evL_ok g (ag.l.evL.trans ha))).mono ?_
 ·obtain ⟨cs, cs', q1, q2, q3⟩ := hands_ok hH0 j i hj
  exact ⟨cs,cs',by simpa using q1,by rw [ag.r.h i (List.mem_map_of_mem (List.mem_of_getElem? hj))]; exact q2,q3⟩
 ·rintro e w' ⟨v, x, ι', rfl, hx, g', c', hrd⟩
  exact hK ι' w' v (g.carry c') g' hrd
mutual
def AV.free : AV → Bool
 | .v _ => true
 | .any => true
 | .agg cs => freeB cs
 | .tup cs => freeB cs
 | _ => false
def freeB : List AV → Bool
 | [] => true
 | c :: cs => c.free && freeB cs
end
mutual
theorem Rd.free {w:World}{bad bad2:Nat → Prop}{ι ι2:Pl}:∀ (av:AV) (y:Value),av.free = true → Rd w bad ι av y → Rd w bad2 ι2 av y
 | .v x,y,_,h => by simpa only [Rd] using h
 | .any,y,_,h => by simpa only [Rd] using h
 | .imm n cs,y,hp,h => by simp [AV.free] at hp
 | .iptr cs,y,hp,h => by simp [AV.free] at hp
 | .own id off n e,y,hp,h => by simp [AV.free] at hp
 | .ownc id off n c e,y,hp,h => by simp [AV.free] at hp
 | .optr id off,y,hp,h => by simp [AV.free] at hp
 | .clos _ _ _,y,hp,h => by simp [AV.free] at hp
 | .agg cs, y, hp, h => by
  simp only [AV.free] at hp
  simp only [Rd] at h ⊢
  obtain ⟨l,h1,h2⟩ := h
  exact ⟨l,h1,RdL.free cs l hp h2⟩
 | .tup cs, y, hp, h => by
  simp only [AV.free] at hp
  simp only [Rd] at h ⊢
  obtain ⟨l,h1,h2⟩ := h
  exact ⟨l,h1,RdV.free cs l hp h2⟩
theorem RdL.free {w:World}{bad bad2:Nat → Prop}{ι ι2:Pl}:∀ (cs:List AV) (l:List Value),freeB cs = true → RdL w bad ι cs l → RdL w bad2 ι2 cs l
 | [],l,_,h => by simpa only [RdL] using h
 | c :: cs, l, hp, h => by
  simp only [freeB,Bool.and_eq_true] at hp
  simp only [RdL] at h ⊢
  obtain ⟨x,l',h0,h1,h2,h3⟩ := h
  exact ⟨x,l',h0,h1,Rd.free c x hp.1 h2,RdL.free cs l' hp.2 h3⟩
theorem RdV.free {w:World}{bad bad2:Nat → Prop}{ι ι2:Pl}:∀ (cs:List AV) (l:List Value),freeB cs = true → RdV w bad ι cs l → RdV w bad2 ι2 cs l
 | [],l,_,h => by simpa only [RdV] using h
 | c :: cs, l, hp, h => by
  simp only [freeB,Bool.and_eq_true] at hp
  simp only [RdV] at h ⊢
  obtain ⟨x,l',h0,h2,h3⟩ := h
  exact ⟨x,l',h0,Rd.free c x hp.1 h2,RdV.free cs l' hp.2 h3⟩
end
def lendV (H : Nat → Option (List AV)) : AV → Option AV
 | .own id off m e => (H id).bind fun cs => if pursB cs then some (.imm m (cs.drop off)) else none
 | .optr id off => (H id).bind fun cs => if pursB cs then some (.iptr (cs.drop off)) else none
 | .agg cs => if pursB cs then some (.agg cs) else none
 | .tup cs => if pursB cs then some (.tup cs) else none
 | .imm m cs => if pursB cs then some (.imm m cs) else none
 | .iptr cs => if pursB cs then some (.iptr cs) else none
 | .v x => some (.v x)
 | .any => some .any
 | _ => none
def lendL (H : Nat → Option (List AV)) : List AV → Option (List AV)
 | [] => some []
 | c :: cs => match lendV H c,lendL H cs with|some x,some l => some (x :: l) | _,_ => none
def rL (H : List AV) : List Res := H.flatMap fun av => match av with | .own id _ _ _ => [.inr id] | .optr id _ => [.inr id] | _ => []
theorem lendV_agr {T:Nat → Option AV}{H:Nat → Option (List AV)}:∀ {av:AV},Agr (rL [av]) ts hs T H → lendV H av = lendV (lkH hs) av
 | .own id off m e,g => by simp only [lendV]; rw [g.h id (by simp [rL])]
 | .optr id off,g => by simp only [lendV]; rw [g.h id (by simp [rL])]
 | .v _,_ => rfl
 | .any,_ => rfl
 | .imm _ _,_ => rfl
 | .iptr _,_ => rfl
 | .agg _,_ => rfl
 | .tup _,_ => rfl
 | .clos _ _ _,_ => rfl
 | .ownc _ _ _ _ _,_ => rfl
theorem lendL_agr {T:Nat → Option AV}{H:Nat → Option (List AV)}:∀ {l:List AV},Agr (rL l) ts hs T H → lendL H l = lendL (lkH hs) l
 | [],_ => rfl
 | c :: cs, g => by
  have h1 : Agr (rL [c]) ts hs T H := g.sub fun r hr => by simp only [rL,List.flatMap_cons,List.flatMap_nil,List.append_nil] at hr ⊢; exact List.mem_append_left _ hr
  have h2 : Agr (rL cs) ts hs T H := g.sub fun r hr => by simp only [rL,List.flatMap_cons] at hr ⊢; exact List.mem_append_right _ hr
  simp only [lendL]
  rw [lendV_agr h1,lendL_agr h2]
theorem lendV_pur {H:Nat → Option (List AV)}:∀ {av out:AV},lendV H av = some out → out.pur = true:=by
 intro av out h
 have hdrop : ∀ (k : Nat) (cs : List AV), pursB cs = true → pursB (cs.drop k) = true := by
  intro k
  induction k with
  | zero => intro cs h;simpa using h
  | succ k ih =>
   intro cs h
   cases cs with
   | nil => simp [pursB]
   | cons c cs => simp only [pursB,Bool.and_eq_true] at h;simpa using ih cs h.2
 cases av <;> simp only [lendV] at h
 ·cases h;rfl
 ·cases h;rfl
 ·split at h <;> cases h;rename_i hp;exact hp
 ·split at h <;> cases h;rename_i hp;exact hp
 ·rename_i id off m e
  cases hH : H id with
  | none => simp [hH] at h
  | some cs =>
   simp only [hH,Option.bind_some] at h
   split at h <;> cases h
   rename_i hp;exact hdrop _ _ hp
 ·rename_i id off
  cases hH : H id with
  | none => simp [hH] at h
  | some cs =>
   simp only [hH,Option.bind_some] at h
   split at h <;> cases h
   rename_i hp;exact hdrop _ _ hp
 ·split at h <;> cases h;rename_i hp;exact hp
 ·split at h <;> cases h;rename_i hp;exact hp
 ·cases h
 ·cases h
theorem lendV_ok {C:Ctx}{ι:Pl}{F:Nat → Prop}{H:Nat → Option (List AV)}{w:World}(g:HG C ι F H w){av out:AV}{y:Value}(h:lendV H av = some out) (hy:Rd w (badOf C.X ι H) ι av y):Rd w C.X (fun _ => none) out y:=by
 have hc0 : ∀ ι2 : Pl,Carry w (badOf C.X ι H) ι2 w C.X ι2 := fun ι2 => ⟨fun b o x h1 h2 => ⟨fun q => h1 (.inl q),h2⟩,fun _ _ h => h,fun _ => Nat.le_refl _⟩
 have pure : ∀ {av : AV},av.pur = true → Rd w (badOf C.X ι H) ι av y → Rd w C.X (fun _ => none) av y := fun hp hy => Rd.pur _ y hp (Rd.carry (hc0 ι) _ _ hy)
 cases av <;> simp only [lendV] at h
 ·cases h;exact pure rfl hy
 ·cases h;exact pure rfl hy
 ·split at h <;> cases h;rename_i hp;exact pure hp hy
 ·split at h <;> cases h;rename_i hp;exact pure hp hy
 ·rename_i id off m e
  cases hH : H id with
  | none => simp [hH] at h
  | some cs =>
   simp only [hH,Option.bind_some] at h
   split at h <;> cases h
   rename_i hp
   simp only [Rd] at hy ⊢
   rcases hy with ⟨_,rfl,a,rfl⟩ | ⟨b,β,c,h1,rfl,h2,h3⟩
   ·exact ⟨a,0,rfl,.inl rfl⟩
   ·rcases g.obj id cs hH with ⟨q, _⟩ | ⟨b', β', arr, e', q, q4, q5, q6, q7, q8⟩
    ·rw [q] at h1;cases h1
    ·rw [q] at h1; cases h1
     exact ⟨_,c,rfl,.inr ⟨_,_,h2,rfl,RdC_dropped off (.inr ⟨q7,RdC.pur cs b β hp (RdC.carryB (hc0 ι) _ _ _ (fun o x hx => hx) q6)⟩)⟩⟩
 ·rename_i id off
  cases hH : H id with
  | none => simp [hH] at h
  | some cs =>
   simp only [hH,Option.bind_some] at h
   split at h <;> cases h
   rename_i hp
   simp only [Rd] at hy ⊢
   obtain ⟨b,β,h1,rfl⟩ := hy
   rcases g.obj id cs hH with ⟨q,_⟩ | ⟨b',β',arr,e',q,q4,q5,q6,q7,q8⟩
   ·rw [q] at h1;cases h1
   ·rw [q] at h1; cases h1
    exact ⟨_,_,rfl,RdC_dropped off (.inr ⟨q7,RdC.pur cs b β hp (RdC.carryB (hc0 ι) _ _ _ (fun o x hx => hx) q6)⟩)⟩
 ·split at h <;> cases h;rename_i hp;exact pure hp hy
 ·split at h <;> cases h;rename_i hp;exact pure hp hy
 ·cases h
 ·cases h
theorem lendL_ok {C:Ctx}{ι:Pl}{F:Nat → Prop}{H:Nat → Option (List AV)}{w:World}(g:HG C ι F H w):∀ {l out:List AV}{ys:List Value},lendL H l = some out → RdV w (badOf C.X ι H) ι l ys → RdV w C.X (fun _ => none) out ys ∧ pursB out = true
 | [],out,ys,h,hy => by simp only [lendL,Option.some.injEq] at h;subst h;simp only [RdV] at hy ⊢; exact ⟨hy,rfl⟩
 | c :: cs, out, ys, h, hy => by
  simp only [lendL] at h
  split at h
  ·rename_i x l h1 h2
   cases h
   simp only [RdV] at hy ⊢
   obtain ⟨y,ys',rfl,q1,q2⟩ := hy
   obtain ⟨q3,q4⟩ := lendL_ok g h2 q2
   exact ⟨⟨y,ys',rfl,lendV_ok g h1 q1,q3⟩,by simp only [pursB,Bool.and_eq_true]; exact ⟨lendV_pur h1,q4⟩⟩
  ·cases h
theorem rw_lend {k:FuncId}{args:Array Operand}{tys:Array TypeId}{avs avs2:List AV}{r:AV}{d:Nat}(hc:callable P k = true) (ha:evL (lk ts) args.toList = some avs) (hl:lendL (lkH hs) avs = some avs2) (h:PC P k avs2 (fun x => x = r)) (hfr:r.free = true) (hN:d < N)
  (kk : RW P N all Q (md.add (rOs args.toList ++ rL avs) [.inl d]) rest ⟨(d,r) :: ts,hs,n,z0⟩) : RW P N all Q md (⟨some d,.call ⟨.value (.func k),args,tys⟩,ty,pos,af,none⟩ :: rest) ⟨ts,hs,n,z0⟩ := by
 refine rw_step (rs := rOs args.toList ++ rL avs) (ws := []) (n' := n) (out := r) rfl (Nat.le_refl _) (.inl rfl) (fun C ι F T H a w K Q' hCN ag hF g gh hK => ?_) (fun x hx => by cases hx;exact hN) kk
 simp only [Oper.wp,exec_call hc,Oper.upon]
 obtain ⟨hv,hp⟩ := lendL_ok gh ((lendL_agr ag.r).trans hl) (evL_ok g (ag.l.evL.trans ha))
 let C' : Ctx := { N := 0,w0 := w,W0 := fun _ => False,X := C.X,ι0 := fun _ => none,xlt := fun b hb => Nat.lt_of_lt_of_le (C.xlt b hb) gh.fr.size }
 have hbad : ∀ b,badOf C'.X (fun _ => none) (lkH []) b ↔ C.X b := fun b => ⟨fun h => (by rcases h with h | ⟨id,cs,β,h1,h2⟩ <;> first|exact h|cases h2),fun h => Or.inl h⟩
 have g' : HG C' (fun _ => none) (fun j => 0 ≤ j) (lkH []) w :=
  ⟨fun id cs h => by simp [lkH] at h,fun id id' cs cs' b β β' h => by simp [lkH] at h,Fr.refl _ _,fun _ _ h => h,fun _ _ => rfl⟩
 have hcar : Carry w C.X (fun _ => none) w (badOf C'.X (fun _ => none) (lkH [])) (fun _ => none) := ⟨fun b o x h1 h2 => ⟨fun h => h1 ((hbad b).1 h),h2⟩,fun _ _ h => h,fun _ => Nat.le_refl _⟩
 refine (h C' _ w _ rfl rfl g' (RdV.carry hcar _ _ hv)).mono ?_
 rintro e w' ⟨v,r',H',ι',rfl,⟨rfl,_⟩,h4,h5⟩
 obtain ⟨g2,c2⟩ := gh.ext h5.fr
 exact hK ι w' v (g.carry c2) (g2.less (fun _ _ h => h) (fun j hj => hj.1)).1 (Rd.free _ _ hfr h4)
end
class SlT (P : Program) (t : Nat) (e : outParam Nat) : Prop where pf : slOf P t = some e
class SzT (P : Program) (t : Nat) (e : outParam Nat) : Prop where pf : szOf P t = some e
class ByT (P : Program) (t : Nat) (e : outParam Nat) : Prop where pf : byOf P t = some e
class AgT (P : Program) (t : Nat) (e : outParam Bool) : Prop where pf : agOf P t = some e
class ZrT (P : Program) (t : Nat) (e : outParam (List Value)) : Prop where pf : zrOf P t = some e
class FdT (P : Program) (t f : Nat) (o ft : outParam Nat) : Prop where pf : fldOf P t f = some (o,ft)
class ArT (P : Program) (t : Nat) (n e : outParam Nat) : Prop where pf : arOf P t = some (n,e)
class InT (P : Program) (t : Nat) (k : outParam IntKind) : Prop where pf : inOf P t = some k
class StT (P : Program) (t : Nat) : Prop where pf : P.underlying t = some .string
class PtT (P : Program) (t : Nat) (l : outParam (List (Nat × Nat))) : Prop where pf : plOf P t = some l
class CaT (P : Program) (k : Nat) : Prop where pf : callable P k = true
class MdA (md : Md) (rs ws : List Res) (md' : outParam Md) : Prop where pf : md.add rs ws = md'
instance (rs ws : List Res) : MdA .txt rs ws .txt:=⟨rfl⟩
instance (ks : List (List Res × List Res)) (p rs ws : List Res) : MdA (.drw ks p) rs ws (.drw (ks ++ [(p ++ rs,ws)]) []):=⟨rfl⟩
class MdP (md : Md) (r : Res) (md' : outParam Md) : Prop where pf : md.pen r = md'
instance (r : Res) : MdP .txt r .txt:=⟨rfl⟩
instance (ks : List (List Res × List Res)) (p : List Res) (r : Res) : MdP (.drw ks p) r (.drw ks (r :: p)):=⟨rfl⟩
def flat {α : Type} (f : α → List AV) (xs : List α) : List AV := xs.flatMap f
class FlT {α : Type} (f : α → List AV) (e : outParam Nat) : Prop where pf : ∀ x,(f x).length = e
theorem flat_length {α:Type}(f:α → List AV){e:Nat}[h:FlT f e]:∀ (xs:List α),(flat f xs).length = xs.length * e
 | [] => by simp [flat]
 | x :: xs => by
  have := flat_length f (e := e) xs
  simp only [flat,List.flatMap_cons,List.length_append,List.length_cons,h.pf] at this ⊢
  rw [this,Nat.add_mul]; omega
theorem flat_drop {α:Type}[Inhabited α] (f:α → List AV){e:Nat}[h:FlT f e]:∀ (xs:List α) (k:Nat),k < xs.length → (flat f xs).drop (k * e) = f xs[k]! ++ flat f (xs.drop (k + 1))
 | [],k,hk => by simp at hk
 | x :: xs,0,_ => by simp [flat]
 | x :: xs, k + 1, hk => by
  have := flat_drop f (e := e) xs k (by simpa using hk)
  simp only [flat,List.flatMap_cons,List.drop_succ_cons] at this ⊢
  rw [show (k + 1) * e = (f x).length + k * e from by rw [h.pf,Nat.add_mul]; omega,← List.drop_drop,List.drop_left,this]
  simp
theorem flat_take {α:Type}(f:α → List AV){e:Nat}[h:FlT f e]:∀ (xs:List α) (k:Nat),(flat f xs).take (k * e) = flat f (xs.take k)
 | [],k => by simp [flat]
 | x :: xs,0 => by simp [flat]
 | x :: xs, k + 1 => by
  have := flat_take f (e := e) xs k
  simp only [flat,List.flatMap_cons,List.take_succ_cons] at this ⊢
  rw [show (k + 1) * e = (f x).length + k * e from by rw [h.pf,Nat.add_mul]; omega,List.take_length_add_append,this]
theorem flat_drop' {α:Type}(f:α → List AV){e:Nat}[h:FlT f e]:∀ (xs:List α) (k:Nat),(flat f xs).drop (k * e) = flat f (xs.drop k)
 | [],k => by simp [flat]
 | x :: xs,0 => by simp [flat]
 | x :: xs, k + 1 => by
  have := flat_drop' f (e := e) xs k
  simp only [flat,List.flatMap_cons,List.drop_succ_cons] at this ⊢
  rw [show (k + 1) * e = (f x).length + k * e from by rw [h.pf,Nat.add_mul]; omega,← List.drop_drop,List.drop_left,this]
theorem flat_append {α:Type}(f:α → List AV) (xs ys:List α):flat f xs ++ flat f ys = flat f (xs ++ ys) := by simp [flat]
theorem flat_one {α:Type}(f:α → List AV) (x:α):flat f [x] = f x := by simp [flat]
theorem flat_spl {α:Type}(f:α → List AV){e:Nat}[h:FlT f e] (xs:List α) (k:Nat) (y:α) (hk:k < xs.length):spl (flat f xs) (k * e) (f y) = flat f (xs.set k y):=by
 unfold spl
 rw [flat_take,h.pf,show k * e + e = (k + 1) * e from by rw [Nat.add_mul]; omega,flat_drop',← flat_one f y,flat_append,flat_append]
 congr 1
 rw [List.set_eq_take_append_cons_drop,if_pos hk]
 simp
abbrev sl {α : Type} (f : α → List AV) (xs : List α) : AV := .imm xs.length (flat f xs)
abbrev iv (n : Int) : AV := .v (.int .i64 n)
abbrev bv (b : Bool) : AV := .v (.bool b)
abbrev sv (s : ByteArray) : AV := .v (.string s)
def cI (n : Int) : List AV := [.v (.int .i64 n)]
def cB (b : Bool) : List AV := [.v (.bool b)]
instance : FlT cI 1:=⟨fun _ => rfl⟩
instance : FlT cB 1:=⟨fun _ => rfl⟩
theorem pursB_append:∀ (xs ys:List AV),pursB (xs ++ ys) = (pursB xs && pursB ys)
 | [],ys => by simp [pursB]
 | x :: xs,ys => by simp [pursB,pursB_append xs ys,Bool.and_assoc]
theorem flat_pur {α:Type}(f:α → List AV) (h:∀ x,pursB (f x) = true):∀ xs,pursB (flat f xs) = true
 | [] => rfl
 | x :: xs => by
  have := flat_pur f h xs
  simp only [flat,List.flatMap_cons,pursB_append,h,Bool.true_and] at this ⊢
  exact this
class FE {α : Type} (f : α → List AV) (g : outParam (α → List AV)) : Prop where pf : ∀ x,f x = g x
instance : FE cI (fun n => [.v (.int .i64 n)]):=⟨fun _ => rfl⟩
instance : FE cB (fun n => [.v (.bool n)]):=⟨fun _ => rfl⟩
class Pur (av : List AV) : Prop where pf : pursB av = true
instance (n : Int) : Pur (cI n):=⟨rfl⟩
instance (n : Bool) : Pur (cB n):=⟨rfl⟩
instance {α : Type} (f : α → List AV) [h : ∀ x,Pur (f x)] (xs : List α) : Pur (flat f xs):=⟨flat_pur f (fun x => (h x).pf) xs⟩
theorem pur_sl {α:Type}(f:α → List AV) [h:∀ x,Pur (f x)] (xs:List α):(sl f xs).pur = true := by simp only [AV.pur]; exact flat_pur f (fun x => (h x).pf) xs
section
variable {P : Program} {N : Nat} {Q : Exit → AS → Prop} {all : Array Oper} {rest : List Oper} {ts : List (Nat × AV)} {hs : List (Nat × Option (List AV))} {n : Nat} {z0 : Lo} {md : Md}
variable {d : Nat} {ty : TypeId} {pos : String} {af : Array Edge}
theorem rx_move {x:Operand}{av:AV}(hx:ev (lk ts) x = some av) (hN:Nat.blt d N = true){md':Md}[hmd:MdA md (rO x) [.inl d] md'] (k:RW P N all Q md' rest ⟨(d,av) :: ts,hs,n,z0⟩):RW P N all Q md (⟨some d,.move x,ty,pos,af,none⟩ :: rest) ⟨ts,hs,n,z0⟩ := rw_move hx (ltb hN) (by rw [hmd.pf]; exact k)
theorem rx_assign {x:Operand}{av:AV}(hx:ev (lk ts) x = some av) (hN:Nat.blt d N = true){md':Md}[hmd:MdA md (rO x) [.inl d] md'] (k:RW P N all Q md' rest ⟨(d,av) :: ts,hs,n,z0⟩):RW P N all Q md (⟨some d,.assign x,ty,pos,af,none⟩ :: rest) ⟨ts,hs,n,z0⟩ := rw_assign hx (ltb hN) (by rw [hmd.pf]; exact k)
theorem rx_bin {op:BinOp}{t t':TypeId}{x y:Operand}{k:IntKind}{m m':Int}{v:Value}(hx:ev (lk ts) x = some (.v (.int k m))) (hy:ev (lk ts) y = some (.v (.int k m')))
  (h : ibin op k m m' = some v) (hN : Nat.blt d N = true) {md' : Md} [hmd : MdA md (rO x ++ rO y) [.inl d] md'] (kk : RW P N all Q md' rest ⟨(d,.v v) :: ts,hs,n,z0⟩) : RW P N all Q md (⟨some d,.binOp op t x y t',ty,pos,af,none⟩ :: rest) ⟨ts,hs,n,z0⟩ := rw_ibin hx hy (.inl rfl) h (ltb hN) (by rw [hmd.pf]; exact kk)
theorem rx_add {t t':TypeId}{x y:Operand}{m m':Int}(hx:ev (lk ts) x = some (.v (.int .i64 m))) (hy:ev (lk ts) y = some (.v (.int .i64 m')))
  (h : -9223372036854775808 ≤ m + m' ∧ m + m' ≤ 9223372036854775807) (hN : Nat.blt d N = true) {md' : Md} [hmd : MdA md (rO x ++ rO y) [.inl d] md'] (kk : RW P N all Q md' rest ⟨(d,.v (.int .i64 (m + m'))) :: ts,hs,n,z0⟩) : RW P N all Q md (⟨some d,.binOp .add t x y t',ty,pos,af,none⟩ :: rest) ⟨ts,hs,n,z0⟩ := rw_add hx hy h (ltb hN) (by rw [hmd.pf]; exact kk)
theorem rx_sub {t t':TypeId}{x y:Operand}{m m':Int}(hx:ev (lk ts) x = some (.v (.int .i64 m))) (hy:ev (lk ts) y = some (.v (.int .i64 m')))
  (h : -9223372036854775808 ≤ m - m' ∧ m - m' ≤ 9223372036854775807) (hN : Nat.blt d N = true) {md' : Md} [hmd : MdA md (rO x ++ rO y) [.inl d] md'] (kk : RW P N all Q md' rest ⟨(d,.v (.int .i64 (m - m'))) :: ts,hs,n,z0⟩) : RW P N all Q md (⟨some d,.binOp .sub t x y t',ty,pos,af,none⟩ :: rest) ⟨ts,hs,n,z0⟩ := rw_sub hx hy h (ltb hN) (by rw [hmd.pf]; exact kk)
theorem rx_not {t:TypeId}{x:Operand}{b:Bool}(hx:ev (lk ts) x = some (.v (.bool b))) (hN:Nat.blt d N = true){md':Md}[hmd:MdA md (rO x) [.inl d] md'] (kk:RW P N all Q md' rest ⟨(d,.v (.bool !b)) :: ts,hs,n,z0⟩):RW P N all Q md (⟨some d,.unOp .not t x,ty,pos,af,none⟩ :: rest) ⟨ts,hs,n,z0⟩ := rw_not hx (ltb hN) (by rw [hmd.pf]; exact kk)
theorem rx_nil {x:Operand}{av:AV}(hx:ev (lk ts) x = some av) (hp:isPtr av = true) (hN:Nat.blt d N = true){md':Md}[hmd:MdA md (rO x) [.inl d] md'] (kk:RW P N all Q md' rest ⟨(d,av) :: ts,hs,n,z0⟩):RW P N all Q md (⟨some d,.nilCheck x,ty,pos,af,none⟩ :: rest) ⟨ts,hs,n,z0⟩ := rw_nil' hx hp (ltb hN) (by rw [hmd.pf]; exact kk)
theorem rx_fieldAddr {s:TypeId}{f:Nat}{x:Operand}{av out:AV}{fo ft z:Nat}[hf:FdT P s f fo ft] [hz:SzT P ft (z + 1)] (hx:ev (lk ts) x = some av) (hp:pAdd fo av = some out) (hN:Nat.blt d N = true)
  {md' : Md} [hmd : MdA md (rO x) [.inl d] md'] (kk : RW P N all Q md' rest ⟨(d,out) :: ts,hs,n,z0⟩) : RW P N all Q md (⟨some d,.fieldAddr s x f,ty,pos,af,none⟩ :: rest) ⟨ts,hs,n,z0⟩ := rw_fieldAddr hx hf.pf hz.pf hp (ltb hN) (by rw [hmd.pf]; exact kk)
theorem rx_indexFN {α:Type}{hα:Inhabited α}{f g:α → List AV}{xs:List α}{t el e m k:Nat}{x i:Operand}{kk0:IntKind}[ht:SlT P t el] [he:SzT P el e] (hx:ev (lk ts) x = some (.imm m (flat f xs)))
  (hi : ev (lk ts) i = some (.v (.int kk0 (k : Int)))) (hm : k < m) (hml : m = xs.length) (hf : FlT f e) (hg : FE f g) (hN : Nat.blt d N = true) {md' : Md} [hmd : MdA md (rO x ++ rO i) [.inl d] md'] (kk : RW P N all Q md' rest ⟨(d,.iptr (g xs[k]! ++ flat f (xs.drop (k + 1)))) :: ts,hs,n,z0⟩) :
  RW P N all Q md (⟨some d,.indexAddr t x i,ty,pos,af,none⟩ :: rest) ⟨ts,hs,n,z0⟩ :=
 rw_indexAddr hx hi ht.pf he.pf (by simp only [sIdx]; rw [if_pos (by omega),Int.toNat_natCast,flat_drop f xs k (by omega),hg.pf]) (ltb hN) (by rw [hmd.pf]; exact kk)
theorem rx_indexF {α:Type}{hα:Inhabited α}{f g:α → List AV}{xs:List α}{t el e m:Nat}{x i:Operand}{kk0:IntKind}{k:Int}[ht:SlT P t el] [he:SzT P el e] (hx:ev (lk ts) x = some (.imm m (flat f xs)))
  (hi : ev (lk ts) i = some (.v (.int kk0 k))) (hm : 0 ≤ k ∧ k < m) (hml : m = xs.length) (hf : FlT f e) (hg : FE f g) (hN : Nat.blt d N = true) {md' : Md} [hmd : MdA md (rO x ++ rO i) [.inl d] md'] (kk : RW P N all Q md' rest ⟨(d,.iptr (g xs[k.toNat]! ++ flat f (xs.drop (k.toNat + 1)))) :: ts,hs,n,z0⟩) :
  RW P N all Q md (⟨some d,.indexAddr t x i,ty,pos,af,none⟩ :: rest) ⟨ts,hs,n,z0⟩ :=
 rw_indexAddr hx hi ht.pf he.pf (by simp only [sIdx]; rw [if_pos hm,flat_drop f xs k.toNat (by omega),hg.pf]) (ltb hN) (by rw [hmd.pf]; exact kk)
theorem rx_indexON {t el e m k id off e':Nat}{x i:Operand}{kk0:IntKind}[ht:SlT P t el] [he:SzT P el e] (hx:ev (lk ts) x = some (.own id off m e'))
  (hi : ev (lk ts) i = some (.v (.int kk0 (k : Int)))) (hm : k < m) (hN : Nat.blt d N = true) {md' : Md} [hmd : MdA md (rO x ++ rO i) [.inl d] md'] (kk : RW P N all Q md' rest ⟨(d,.optr id (off + k * e)) :: ts,hs,n,z0⟩) :
  RW P N all Q md (⟨some d,.indexAddr t x i,ty,pos,af,none⟩ :: rest) ⟨ts,hs,n,z0⟩ :=
 rw_indexAddr hx hi ht.pf he.pf (by simp only [sIdx]; rw [if_pos (by omega),Int.toNat_natCast]) (ltb hN) (by rw [hmd.pf]; exact kk)
theorem rx_indexO {t el e m id off e':Nat}{x i:Operand}{kk0:IntKind}{k:Int}[ht:SlT P t el] [he:SzT P el e] (hx:ev (lk ts) x = some (.own id off m e'))
  (hi : ev (lk ts) i = some (.v (.int kk0 k))) (hm : 0 ≤ k ∧ k < m) (hN : Nat.blt d N = true) {md' : Md} [hmd : MdA md (rO x ++ rO i) [.inl d] md'] (kk : RW P N all Q md' rest ⟨(d,.optr id (off + k.toNat * e)) :: ts,hs,n,z0⟩) :
  RW P N all Q md (⟨some d,.indexAddr t x i,ty,pos,af,none⟩ :: rest) ⟨ts,hs,n,z0⟩ :=
 rw_indexAddr hx hi ht.pf he.pf (by simp only [sIdx]; rw [if_pos hm]) (ltb hN) (by rw [hmd.pf]; exact kk)
theorem rx_load1 {t:TypeId}{x:Operand}{av c:AV}{cs:List AV}[ha:AgT P t false] (hx:ev (lk ts) x = some av)
  (hd : deref (lkH hs) av = some cs) (hc : cs[0]? = some c) (hN : Nat.blt d N = true) {md' : Md} [hmd : MdA md (rO x ++ rA av) [.inl d] md'] (kk : RW P N all Q md' rest ⟨(d,c) :: ts,hs,n,z0⟩) : RW P N all Q md (⟨some d,.load t x,ty,pos,af,none⟩ :: rest) ⟨ts,hs,n,z0⟩ := rw_load1 hx ha.pf hd hc (ltb hN) (by rw [hmd.pf]; exact kk)
theorem rx_loadA {t:TypeId}{x:Operand}{av:AV}{z:Nat}{cs cs':List AV}[ha:AgT P t true] [hz:SzT P t z] (hx:ev (lk ts) x = some av)
  (hd : deref (lkH hs) av = some cs) (hc : cs.take z = cs') (hn : cs'.length = z) (h0 : Nat.blt 0 z = true) (hN : Nat.blt d N = true) {md' : Md} [hmd : MdA md (rO x ++ rA av) [.inl d] md'] (kk : RW P N all Q md' rest ⟨(d,.agg cs') :: ts,hs,n,z0⟩) :
  RW P N all Q md (⟨some d,.load t x,ty,pos,af,none⟩ :: rest) ⟨ts,hs,n,z0⟩ := rw_loadA hx ha.pf hz.pf hd hc hn (by have := ltb h0;omega) (ltb hN) (by rw [hmd.pf]; exact kk)
theorem rx_len {t el m:Nat}{x:Operand}{av:AV}{l:List TypeId}[ht:SlT P t el] (hx:ev (lk ts) x = some av)
  (hn : (match kAV av with | .own _ _ n _ => some n | .imm n _ => some n | _ => none) = some m) (hN : Nat.blt d N = true) {md' : Md} [hmd : MdA md (rO x) [.inl d] md'] (kk : RW P N all Q md' rest ⟨(d,.v (.int .i64 (m : Int))) :: ts,hs,n,z0⟩) :
  RW P N all Q md (⟨some d,.call ⟨.builtin .len,#[x],(t :: l).toArray⟩,ty,pos,af,none⟩ :: rest) ⟨ts,hs,n,z0⟩ := rw_len (by simp) hx ht.pf hn (ltb hN) (by rw [hmd.pf]; exact kk)
theorem rx_lenS {t:Nat}{x:Operand}{l:List TypeId}{s:ByteArray}[ht:StT P t] (hx:ev (lk ts) x = some (.v (.string s))) (hN:Nat.blt d N = true){md':Md}[hmd:MdA md (rO x) [.inl d] md'] (kk:RW P N all Q md' rest ⟨(d,.v (.int .i64 (s.size:Int))) :: ts,hs,n,z0⟩) :
  RW P N all Q md (⟨some d,.call ⟨.builtin .len,#[x],(t :: l).toArray⟩,ty,pos,af,none⟩ :: rest) ⟨ts,hs,n,z0⟩ := rw_lenS (by simp) hx ht.pf (ltb hN) (by rw [hmd.pf]; exact kk)
theorem rx_extract {x:Operand}{i:Nat}{cs:List AV}{c:AV}(hx:ev (lk ts) x = some (.tup cs)) (hc:cs[i]? = some c) (hN:Nat.blt d N = true){md':Md}[hmd:MdA md (rO x) [.inl d] md'] (kk:RW P N all Q md' rest ⟨(d,c) :: ts,hs,n,z0⟩) :
  RW P N all Q md (⟨some d,.extract x i,ty,pos,af,none⟩ :: rest) ⟨ts,hs,n,z0⟩ := rw_extract hx hc (ltb hN) (by rw [hmd.pf]; exact kk)
theorem rx_build {t:TypeId}{parts:Array (Nat × Operand)}{pl:List (Nat × Nat)}{zs:List Value}{l:List (Nat × AV)}{cs:List AV}[hp:PtT P t pl] [hz:ZrT P t zs]
  (hl : evs (lk ts) parts.toList = some l) (hf : fillA (pl[·]?) (zs.map .v) l = some cs) (hN : Nat.blt d N = true) {md' : Md} [hmd : MdA md (rPs parts.toList) [.inl d] md'] (kk : RW P N all Q md' rest ⟨(d,.agg cs) :: ts,hs,n,z0⟩) :
  RW P N all Q md (⟨some d,.build t parts,ty,pos,af,none⟩ :: rest) ⟨ts,hs,n,z0⟩ := rw_build hp.pf hz.pf hl hf (ltb hN) (by rw [hmd.pf]; exact kk)
theorem rx_alloc {t:TypeId}{zs:List Value}[hz:ZrT P t zs] (hM:Nat.blt n big = true) (hN:Nat.blt d N = true){md':Md}[hmd:MdA md ([]) [.inr n,.inl d] md'] (kk:RW P N all Q md' rest ⟨(d,.optr n 0) :: ts,(n,some (zs.map .v)) :: hs,n + 1,z0⟩) :
  RW P N all Q md (⟨some d,.alloc t,ty,pos,af,none⟩ :: rest) ⟨ts,hs,n,z0⟩ := rw_alloc hz.pf hM (ltb hN) (by rw [hmd.pf]; exact kk)
theorem rx_box {t:TypeId}{x:Operand}{av:AV}{cs:List AV}(hx:ev (lk ts) x = some av) (hc:cellsOf av = some cs) (hM:Nat.blt n big = true) (hN:Nat.blt d N = true){md':Md}[hmd:MdA md (rO x) [.inr n,.inl d] md'] (kk:RW P N all Q md' rest ⟨(d,.optr n 0) :: ts,(n,some cs) :: hs,n + 1,z0⟩) :
  RW P N all Q md (⟨some d,.box t x,ty,pos,af,none⟩ :: rest) ⟨ts,hs,n,z0⟩ := rw_box hx hc hM (ltb hN) (by rw [hmd.pf]; exact kk)
theorem rx_buildSlice {t el len e:Nat}{parts:Array (Nat × Operand)}{zs:List Value}{l:List (Nat × AV)}{cs:List AV}[ht:SlT P t el] [he:SzT P el e] [hz:ZrT P el zs] (hze:zs.length = e) (hsm:Nat.ble (len * e) 16777216 = true)
  (hl : evs (lk ts) parts.toList = some l) (hfl : fillA (fun i => some (i * e,e)) ((List.replicate len (zs.map .v)).flatten) l = some cs) (hM : Nat.blt n big = true) (hN : Nat.blt d N = true) {md' : Md} [hmd : MdA md (rPs parts.toList) [.inr n,.inl d] md'] (kk : RW P N all Q md' rest ⟨(d,.own n 0 len e) :: ts,(n,some cs) :: hs,n + 1,z0⟩) :
  RW P N all Q md (⟨some d,.buildSlice t len parts,ty,pos,af,none⟩ :: rest) ⟨ts,hs,n,z0⟩ := rw_buildSlice ht.pf he.pf hz.pf hze (by simpa using hsm) hl hfl hM (ltb hN) (by rw [hmd.pf]; exact kk)
theorem rx_store {t:TypeId}{x y:Operand}{id off z:Nat}{av:AV}{cs new cs':List AV}[hz:SzT P t z] (hx:ev (lk ts) x = some (.optr id off)) (hy:ev (lk ts) y = some av)
  (hc : cellsOf av = some new) (hn : new.length = z) (hH : lkH hs id = some cs) (hl : off + new.length ≤ cs.length) (hcs : spl cs off new = cs')
  {md' : Md} [hmd : MdA md (rO x ++ (rO y ++ [.inr id])) [.inr id] md'] (kk : RW P N all Q md' rest ⟨ts,(id,some cs') :: hs,n,z0⟩) : RW P N all Q md (⟨none,.store t x y,ty,pos,af,none⟩ :: rest) ⟨ts,hs,n,z0⟩ := rw_store hx hy hz.pf hc hn hH hl hcs (by rw [hmd.pf]; exact kk)
theorem rx_append {t el id off m m' e by':Nat}{x y:Operand}{av:AV}{cs new cs':List AV}{zs:List Value}[ht:SlT P t el] [he:SzT P el e] [hb:ByT P el by'] [hz:ZrT P el zs]
  (hx : ev (lk ts) x = some (.own id off m e)) (hy : ev (lk ts) y = some av) (hze : zs.length = e) (he0 : Nat.blt 0 e = true)
  (hH : lkH hs id = some cs) (hl : off + m * e ≤ cs.length) (hs' : sCells (lkH hs) e (kAV av) = some (m',new)) (hbig : (m + m') * by' ≤ 140737488355328) (hmx : m + m' ≤ 9223372036854775807)
  (hcs : (cs.drop off).take (m * e) ++ new = cs') (hM : Nat.blt n big = true) (hN : Nat.blt d N = true) {md' : Md} [hmd : MdA md (rO x ++ (rO y ++ ([.inr id] ++ rA av))) [.inr id,.inr n,.inl d] md'] (kk : RW P N all Q md' rest ⟨(d,.own n 0 (m + m') e) :: ts,(n,some cs') :: (id,none) :: hs,n + 1,z0⟩) :
  RW P N all Q md (⟨some d,.call ⟨.builtin .append,#[x,y],#[t,t]⟩,ty,pos,af,none⟩ :: rest) ⟨ts,hs,n,z0⟩ := rw_append hx hy ht.pf he.pf hb.pf hz.pf hze (ltb he0) rfl hH hl hs' hbig hmx hcs hM (ltb hN) (by rw [hmd.pf]; exact kk)
theorem rx_call {k:FuncId}{args:Array Operand}{tys:Array TypeId}{avs:List AV}{Q1:AV → Prop}[hc:CaT P k] (ha:evL (lk ts) args.toList = some avs) (h:PC P k avs Q1) (hp:pursB avs = true) (hN:Nat.blt d N = true)
  (kk : ∀ r,Q1 r → r.pur = true → RW P N all Q .txt rest ⟨(d,r) :: ts,hs,n,z0⟩) : RW P N all Q .txt (⟨some d,.call ⟨.value (.func k),args,tys⟩,ty,pos,af,none⟩ :: rest) ⟨ts,hs,n,z0⟩ := rw_call hc.pf ha h hp (ltb hN) kk
theorem rx_callE {k:FuncId}{args:Array Operand}{tys:Array TypeId}{avs:List AV}{r:AV}[hc:CaT P k] (ha:evL (lk ts) args.toList = some avs) (h:PC P k avs (fun x => x = r)) (hp:pursB avs = true) (hN:Nat.blt d N = true)
  {md' : Md} [hmd : MdA md (rOs args.toList) [.inl d] md'] (kk : RW P N all Q md' rest ⟨(d,r) :: ts,hs,n,z0⟩) : RW P N all Q md (⟨some d,.call ⟨.value (.func k),args,tys⟩,ty,pos,af,none⟩ :: rest) ⟨ts,hs,n,z0⟩ := rw_callE hc.pf ha h hp (ltb hN) (by rw [hmd.pf]; exact kk)
theorem rx_guardY {dst:Option Tmp}{op:Op}{j d:Nat}{want b:Bool}{mdp:Md}[hmp:MdP md (.inl d) mdp] (hj:(all[j]?).bind (·.dst) = some d) (hb:lk ts d = some (.v (.bool b))) (hN:(match dst with | some d => Nat.blt d N | none => true) = true) (hw:b = want)
  (h1 : RW P N all Q mdp (⟨dst,op,ty,pos,af,none⟩ :: rest) ⟨ts,hs,n,z0⟩) : RW P N all Q md (⟨dst,op,ty,pos,af,some (j,want)⟩ :: rest) ⟨ts,hs,n,z0⟩ :=
 rw_guard hj hb (fun d h => by subst h;exact ltb hN) (fun _ => hmp.pf ▸ h1) (fun h => by subst hw;cases b <;> simp at h)
theorem rx_pickT {c x y:Operand}{b:Bool}{av:AV}(hc:ev (lk ts) c = some (.v (.bool b))) (hb:b = true) (hx:ev (lk ts) x = some av) (hN:Nat.blt d N = true){md':Md}[hmd:MdA md (rO c ++ rO x) [.inl d] md'] (k:RW P N all Q md' rest ⟨(d,av) :: ts,hs,n,z0⟩) :
  RW P N all Q md (⟨some d,.pick c x y,ty,pos,af,none⟩ :: rest) ⟨ts,hs,n,z0⟩ := rw_pickT hc hb hx (ltb hN) (by rw [hmd.pf]; exact k)
theorem rx_pickF {c x y:Operand}{b:Bool}{av:AV}(hc:ev (lk ts) c = some (.v (.bool b))) (hb:b = false) (hx:ev (lk ts) y = some av) (hN:Nat.blt d N = true){md':Md}[hmd:MdA md (rO c ++ rO y) [.inl d] md'] (k:RW P N all Q md' rest ⟨(d,av) :: ts,hs,n,z0⟩) :
  RW P N all Q md (⟨some d,.pick c x y,ty,pos,af,none⟩ :: rest) ⟨ts,hs,n,z0⟩ := rw_pickF hc hb hx (ltb hN) (by rw [hmd.pf]; exact k)
end
section
variable {P : Program} {N : Nat} {Q : Exit → AS → Prop} {K : AS → Prop} {s : AS}
theorem tq_normal (h:K s):thenQ K Q .normal s := h
theorem tq_ret (h:Q .ret s):thenQ K Q .ret s := h
theorem tq_exit {i:Nat}(h:Q (.exit i) s):thenQ K Q (.exit i) s := h
theorem bq_normal {i:Nat}(h:Q .normal s):blkQ i Q .normal s := h
theorem bq_ret {i:Nat}(h:Q .ret s):blkQ i Q .ret s := h
theorem bq_here {i:Nat}(h:Q .normal s):blkQ i Q (.exit i) s := by simp [blkQ,h]
theorem rq_ret {res:Array ResultVar}{Q:AV → (Nat → Option (List AV)) → Prop}{l:List AV}(hr:resL P (lk s.ts) (lkH s.hs) res.toList = some l) (h:Q (oneOf l) (lkH s.hs)):retQ P res Q .ret s :=
 ⟨.inl rfl,s,l,Le.refl _,hr,h⟩
theorem rq_end {res:Array ResultVar}{Q:AV → (Nat → Option (List AV)) → Prop}{l:List AV}(hr:resL P (lk s.ts) (lkH s.hs) res.toList = some l) (h:Q (oneOf l) (lkH s.hs)):retQ P res Q .normal s :=
 ⟨.inr rfl,s,l,Le.refl _,hr,h⟩
theorem rq_le {res:Array ResultVar}{Q:AV → (Nat → Option (List AV)) → Prop}{e:Exit}{s':AS}(hl:Le s s') (h:retQ P res Q e s'):retQ P res Q e s:=by
 obtain ⟨h1,s2,l,h2,h3,h4⟩ := h
 exact ⟨h1,s2,l,fun C a w g => h2 C a w (hl C a w g),h3,h4⟩
theorem aw_condT {x y:Code}{c:Operand}{b:Bool}(hc:ev (lk s.ts) c = some (.v (.bool b))) (hb:b = true) (h:AW P N x Q s):AW P N (.cond c x y) Q s := aw_cond hc (fun _ => h) (fun e => by subst hb;cases e)
theorem aw_condF {x y:Code}{c:Operand}{b:Bool}(hc:ev (lk s.ts) c = some (.v (.bool b))) (hb:b = false) (h:AW P N y Q s):AW P N (.cond c x y) Q s := aw_cond hc (fun e => by subst hb;cases e) (fun _ => h)
end
def cU (b : UInt8) : List AV := [.v (.int .u8 (b.toNat : Int))]
instance : FlT cU 1:=⟨fun _ => rfl⟩
instance : FE cU (fun b => [.v (.int .u8 (b.toNat : Int))]):=⟨fun _ => rfl⟩
instance (n : UInt8) : Pur (cU n):=⟨rfl⟩
theorem cU_bd (b:UInt8):-9223372036854775808 ≤ (b.toNat:Int) ∧ (b.toNat:Int) ≤ 9223372036854775807 := by have := UInt8.toNat_lt b;omega
section
variable {P : Program} {N : Nat} {Q : Exit → AS → Prop} {all : Array Oper} {rest : List Oper} {ts : List (Nat × AV)} {hs : List (Nat × Option (List AV))} {n : Nat} {z0 : Lo} {md : Md}
variable {d : Nat} {ty : TypeId} {pos : String} {af : Array Edge}
theorem rx_mul {t t':TypeId}{x y:Operand}{m m':Int}(hx:ev (lk ts) x = some (.v (.int .i64 m))) (hy:ev (lk ts) y = some (.v (.int .i64 m')))
  (h : -9223372036854775808 ≤ m * m' ∧ m * m' ≤ 9223372036854775807) (hN : Nat.blt d N = true) {md' : Md} [hmd : MdA md (rO x ++ rO y) [.inl d] md'] (kk : RW P N all Q md' rest ⟨(d,.v (.int .i64 (m * m'))) :: ts,hs,n,z0⟩) : RW P N all Q md (⟨some d,.binOp .mul t x y t',ty,pos,af,none⟩ :: rest) ⟨ts,hs,n,z0⟩ :=
 rw_ibin (v := .int .i64 (m * m')) hx hy (.inl rfl) (by simp only [ibin,IntWalk.i64_in _ h]) (ltb hN) (by rw [hmd.pf]; exact kk)
theorem rx_rem {t t':TypeId}{x y:Operand}{k:IntKind}{m m':Int}(hx:ev (lk ts) x = some (.v (.int k m))) (hy:ev (lk ts) y = some (.v (.int k m')))
  (h : 0 ≤ m ∧ 0 < m') (hN : Nat.blt d N = true) {md' : Md} [hmd : MdA md (rO x ++ rO y) [.inl d] md'] (kk : RW P N all Q md' rest ⟨(d,.v (.int k (m % m'))) :: ts,hs,n,z0⟩) : RW P N all Q md (⟨some d,.binOp .rem t x y t',ty,pos,af,none⟩ :: rest) ⟨ts,hs,n,z0⟩ :=
 rw_ibin (v := .int k (m % m')) hx hy (.inl rfl) (by simp only [ibin]; rw [if_neg (by omega),Int.tmod_eq_emod_of_nonneg h.1]) (ltb hN) (by rw [hmd.pf]; exact kk)
theorem rx_quo {t t':TypeId}{x y:Operand}{m m':Int}(hx:ev (lk ts) x = some (.v (.int .i64 m))) (hy:ev (lk ts) y = some (.v (.int .i64 m')))
  (h : 0 ≤ m ∧ 0 < m' ∧ m ≤ 9223372036854775807) (hN : Nat.blt d N = true) {md' : Md} [hmd : MdA md (rO x ++ rO y) [.inl d] md'] (kk : RW P N all Q md' rest ⟨(d,.v (.int .i64 (m / m'))) :: ts,hs,n,z0⟩) : RW P N all Q md (⟨some d,.binOp .quo t x y t',ty,pos,af,none⟩ :: rest) ⟨ts,hs,n,z0⟩ :=
 rw_ibin (v := .int .i64 (m / m')) hx hy (.inl rfl) (by
  have h1 : 0 ≤ m / m' := Int.ediv_nonneg h.1 (by omega)
  have h2 : m / m' ≤ m := Int.ediv_le_self _ h.1
  simp only [ibin]; rw [if_neg (by omega),Int.tdiv_eq_ediv_of_nonneg h.1,IntWalk.i64_in _ ⟨by omega,by omega⟩]) (ltb hN) (by rw [hmd.pf]; exact kk)
theorem rx_conv64 {s t:TypeId}{x:Operand}{k':IntKind}{m:Int}[hd:InT P t .i64] [hs':InT P s k'] (hx:ev (lk ts) x = some (.v (.int k' m))) (h:-9223372036854775808 ≤ m ∧ m ≤ 9223372036854775807) (hN:Nat.blt d N = true){md':Md}[hmd:MdA md (rO x) [.inl d] md'] (kk:RW P N all Q md' rest ⟨(d,.v (.int .i64 m)) :: ts,hs,n,z0⟩) :
  RW P N all Q md (⟨some d,.convert s t x,ty,pos,af,none⟩ :: rest) ⟨ts,hs,n,z0⟩ := rw_conv hx hd.pf hs'.pf (ltb hN) (by rw [hmd.pf,IntWalk.i64_in _ h]; exact kk)
theorem rx_makeSlice {t el e by' m:Nat}{x y:Operand}{zs:List Value}{k k':IntKind}[ht:SlT P t el] [he:SzT P el e] [hb:ByT P el by'] [hz:ZrT P el zs]
  (hx : ev (lk ts) x = some (.v (.int k (m : Int)))) (hy : ev (lk ts) y = some (.v (.int k' (m : Int)))) (hze : zs.length = e) (hsm : by' * m ≤ 281474976710656) (hmx : m ≤ 9223372036854775807)
  (hM : Nat.blt n big = true) (hN : Nat.blt d N = true) {md' : Md} [hmd : MdA md (rO x ++ rO y) [.inr n,.inl d] md'] (kk : RW P N all Q md' rest ⟨(d,.own n 0 m e) :: ts,(n,some ((List.replicate m (zs.map .v)).flatten)) :: hs,n + 1,z0⟩) :
  RW P N all Q md (⟨some d,.makeSlice t x y,ty,pos,af,none⟩ :: rest) ⟨ts,hs,n,z0⟩ :=
 rw_makeSlice hx hy ht.pf he.pf hb.pf hz.pf hze hsm hmx hM (ltb hN) (by rw [hmd.pf]; exact kk)
theorem rx_slice {t el:TypeId}{x:Operand}{lo hi:Option Operand}{av out:AV}{m e l h:Nat}[ht:SlT P t el] [he:SzT P el e] (hx:ev (lk ts) x = some av) (hn:sLn av = some m)
  (hl : bndA (lk ts) lo 0 = some l) (hh : bndA (lk ts) hi m = some h) (hp : sSl e l h av = some out) (hN : Nat.blt d N = true) {md' : Md} [hmd : MdA md (rO x ++ (rB lo ++ rB hi)) [.inl d] md'] (kk : RW P N all Q md' rest ⟨(d,out) :: ts,hs,n,z0⟩) :
  RW P N all Q md (⟨some d,.slice t x lo hi none,ty,pos,af,none⟩ :: rest) ⟨ts,hs,n,z0⟩ :=
 rw_slice hx ht.pf he.pf hn hl hh hp (ltb hN) (by rw [hmd.pf]; exact kk)
theorem rx_indexArr {t el:TypeId}{x i:Operand}{av out:AV}{z e:Nat}{k:IntKind}{m:Int}[ht:ArT P t z el] [he:SzT P el e] (hx:ev (lk ts) x = some av)
  (hi : ev (lk ts) i = some (.v (.int k m))) (hm : 0 ≤ m ∧ m < z) (hp : pAdd (m.toNat * e) av = some out) (hN : Nat.blt d N = true) {md' : Md} [hmd : MdA md (rO x ++ rO i) [.inl d] md'] (kk : RW P N all Q md' rest ⟨(d,out) :: ts,hs,n,z0⟩) :
  RW P N all Q md (⟨some d,.indexAddr t x i,ty,pos,af,none⟩ :: rest) ⟨ts,hs,n,z0⟩ :=
 rw_indexArr hx hi ht.pf he.pf hm hp (ltb hN) (by rw [hmd.pf]; exact kk)
theorem rx_lend {k:FuncId}{args:Array Operand}{tys:Array TypeId}{avs avs2:List AV}{r:AV}[hc:CaT P k] (ha:evL (lk ts) args.toList = some avs) (hl:lendL (lkH hs) avs = some avs2) (h:PC P k avs2 (fun x => x = r)) (hfr:r.free = true) (hN:Nat.blt d N = true)
  {md' : Md} [hmd : MdA md (rOs args.toList ++ rL avs) [.inl d] md'] (kk : RW P N all Q md' rest ⟨(d,r) :: ts,hs,n,z0⟩) : RW P N all Q md (⟨some d,.call ⟨.value (.func k),args,tys⟩,ty,pos,af,none⟩ :: rest) ⟨ts,hs,n,z0⟩ :=
 rw_lend hc.pf ha hl h hfr (ltb hN) (by rw [hmd.pf]; exact kk)
end
theorem ofInt_nat (m:Int) (h:0 ≤ m ∧ m ≤ 9223372036854775807):(BitVec.ofInt 64 m) = BitVec.ofNat 64 m.toNat:=by
 obtain ⟨k,rfl⟩ := Int.eq_ofNat_of_zero_le h.1
 apply BitVec.eq_of_toInt_eq
 simp [BitVec.toInt_ofInt]
theorem toNat_lt63 {m:Int}(h:0 ≤ m ∧ m ≤ 9223372036854775807):m.toNat < 2 ^ 63 := by omega
theorem wrap_nat {k:Nat}(h:k < 2 ^ 63):IntKind.i64.wrap (k:Int) = (k:Int) := IntWalk.i64_in _ ⟨by omega,by omega⟩
theorem xor_in {m m':Int}(h:0 ≤ m ∧ m ≤ 9223372036854775807) (h':0 ≤ m' ∧ m' ≤ 9223372036854775807):ibin .xor .i64 m m' = some (.int .i64 ((m.toNat ^^^ m'.toNat:Nat):Int)):=by
 have e : (BitVec.ofInt 64 m ^^^ BitVec.ofInt 64 m').toNat = m.toNat ^^^ m'.toNat := by
  rw [ofInt_nat m h,ofInt_nat m' h',BitVec.toNat_xor,BitVec.toNat_ofNat,BitVec.toNat_ofNat,Nat.mod_eq_of_lt (by omega),Nat.mod_eq_of_lt (by omega)]
 simp only [ibin]
 rw [show IntKind.i64.bits = 64 from rfl,e,wrap_nat (Nat.xor_lt_two_pow (toNat_lt63 h) (toNat_lt63 h'))]
section
variable {P : Program} {N : Nat} {Q : Exit → AS → Prop} {all : Array Oper} {rest : List Oper} {ts : List (Nat × AV)} {hs : List (Nat × Option (List AV))} {n : Nat} {z0 : Lo} {md : Md}
variable {d : Nat} {ty : TypeId} {pos : String} {af : Array Edge}
theorem rx_xor {t t':TypeId}{x y:Operand}{m m':Int}(hx:ev (lk ts) x = some (.v (.int .i64 m))) (hy:ev (lk ts) y = some (.v (.int .i64 m')))
  (h : 0 ≤ m ∧ m ≤ 9223372036854775807) (h' : 0 ≤ m' ∧ m' ≤ 9223372036854775807) (hN : Nat.blt d N = true) {md' : Md} [hmd : MdA md (rO x ++ rO y) [.inl d] md'] (kk : RW P N all Q md' rest ⟨(d,.v (.int .i64 ((m.toNat ^^^ m'.toNat : Nat) : Int))) :: ts,hs,n,z0⟩) : RW P N all Q md (⟨some d,.binOp .xor t x y t',ty,pos,af,none⟩ :: rest) ⟨ts,hs,n,z0⟩ :=
 rw_ibin hx hy (.inl rfl) (xor_in h h') (ltb hN) (by rw [hmd.pf]; exact kk)
theorem rx_convB {s t:TypeId}{x:Operand}{k':IntKind}{b:UInt8}[hd:InT P t .i64] [hs':InT P s k'] (hx:ev (lk ts) x = some (.v (.int k' (b.toNat:Int)))) (hN:Nat.blt d N = true){md':Md}[hmd:MdA md (rO x) [.inl d] md'] (kk:(b.toNat:Int) ≤ 255 → RW P N all Q md' rest ⟨(d,.v (.int .i64 (b.toNat:Int))) :: ts,hs,n,z0⟩) :
  RW P N all Q md (⟨some d,.convert s t x,ty,pos,af,none⟩ :: rest) ⟨ts,hs,n,z0⟩ := rx_conv64 hx (cU_bd b) hN (kk (by have := UInt8.toNat_lt b;omega))
theorem rx_guardNs {dst:Nat}{op:Op}{j d:Nat}{want b:Bool}{md':Md}[hmd:MdA md [.inl d] [.inl dst] md'] (hj:(all[j]?).bind (·.dst) = some d) (hb:lk ts d = some (.v (.bool b))) (hN:Nat.blt dst N = true) (hw:b = !want)
  (h2 : RW P N all Q md' rest ⟨(dst,.v undef) :: ts,hs,n,z0⟩) : RW P N all Q md (⟨some dst,op,ty,pos,af,some (j,want)⟩ :: rest) ⟨ts,hs,n,z0⟩ :=
 rw_guard hj hb (fun d h => by cases h;exact ltb hN) (fun h => by subst hw;cases want <;> simp at h) (fun _ => hmd.pf ▸ h2)
theorem rx_guardS {dst:Nat}{op:Op}{j d:Nat}{want b:Bool}{mdp:Md}[hmp:MdP md (.inl d) mdp] {md':Md}[hmd:MdA md [.inl d] [.inl dst] md'] (hj:(all[j]?).bind (·.dst) = some d) (hb:lk ts d = some (.v (.bool b))) (hN:Nat.blt dst N = true)
  (h1 : b = want → RW P N all Q mdp (⟨some dst,op,ty,pos,af,none⟩ :: rest) ⟨ts,hs,n,z0⟩) (h2 : b = (!want) → RW P N all Q md' rest ⟨(dst,.v undef) :: ts,hs,n,z0⟩) : RW P N all Q md (⟨some dst,op,ty,pos,af,some (j,want)⟩ :: rest) ⟨ts,hs,n,z0⟩ :=
 rw_guard hj hb (fun d h => by cases h;exact ltb hN) (fun e => hmp.pf ▸ h1 e) (fun e => hmd.pf ▸ h2 e)
end
class PurV (v : AV) : Prop where pf : v.pur = true
instance (x : Value) : PurV (.v x):=⟨rfl⟩
instance (n : Nat) (cs : List AV) [h : Pur cs] : PurV (.imm n cs):=⟨h.pf⟩
instance (cs : List AV) [h : Pur cs] : PurV (.iptr cs):=⟨h.pf⟩
instance (cs : List AV) [h : Pur cs] : PurV (.agg cs):=⟨h.pf⟩
instance (cs : List AV) [h : Pur cs] : PurV (.tup cs):=⟨h.pf⟩
instance : Pur []:=⟨rfl⟩
instance (c : AV) (cs : List AV) [h : PurV c] [h2 : Pur cs] : Pur (c :: cs):=⟨by simp only [pursB,h.pf,h2.pf,Bool.and_self]⟩
theorem RnV.purI {ρ:Nat → Option Nat}{v:AV}(h:PurV v):RnV ρ v v := .pur h.pf
theorem RnL.purI {ρ:Nat → Option Nat}{v:List AV}(h:Pur v):RnL ρ v v := .pur h.pf
def wsChk (ρ : Nat → Option Nat) (hh : List (Nat × Option (List AV))) : List (Nat × Option (List AV)) → Prop
 | [] => True
 | (_,none) :: l => wsChk ρ hh l
 | (i,some cs') :: l => (∃ j cs,ρ j = some i ∧ lkH hh j = some cs ∧ RnL ρ cs cs') ∧ wsChk ρ hh l
def wsAll (mp : List Nat) (ws : List (Nat × Option (List AV))) : Bool := mp.all fun i => ws.any fun p => Nat.beq p.1 i
theorem wsOk_of {mp:List Nat}{ρ:Nat → Option Nat}{hh ws:List (Nat × Option (List AV))}(h1:wsAll mp ws = true) (h2:wsChk ρ hh ws):WsOk mp ρ hh ws:=by
 refine ⟨fun i hi => ?_,fun i cs' hm => ?_⟩
 ·simp only [wsAll, List.all_eq_true, List.any_eq_true] at h1
  obtain ⟨⟨j,c⟩,hp,hb⟩ := h1 i hi
  have := Nat.eq_of_beq_eq_true hb
  simp only at this
  subst this
  exact ⟨c,hp⟩
 ·clear h1
  induction ws with
  | nil => simp at hm
  | cons q ws ih =>
   obtain ⟨j,c⟩ := q
   cases c with
   | none =>
    simp only [wsChk] at h2
    rcases List.mem_cons.1 hm with e|e
    ·cases e
    ·exact ih h2 e
   | some c =>
    simp only [wsChk] at h2
    rcases List.mem_cons.1 hm with e|e
    ·cases e;exact h2.1
    ·exact ih h2.2 e
section
variable {P : Program} {N : Nat} {Q : Exit → AS → Prop} {all : Array Oper} {rest : List Oper} {ts : List (Nat × AV)} {hs : List (Nat × Option (List AV))} {n : Nat} {z0 : Lo} {md : Md}
variable {ty : TypeId} {pos : String} {af : Array Edge}
theorem rx_mcallE {d:Nat}{k:FuncId}{args:Array Operand}{tys:Array TypeId}{avs avs0:List AV}{H0:List (Nat × Option (List AV))}{rr rr':AV}{hh:List (Nat × Option (List AV))}
  (mp : List Nat) (n1 : Nat) (ws : List (Nat × Option (List AV))) (h : MC P k avs0 H0 mp.length (fun _ : Unit => True) (fun _ => rr) (fun _ => hh)) [hc : CaT P k] (ha : evL (lk ts) args.toList = some avs) (hd : distinct mp = true)
  (hH0 : hands hs H0 mp 0 mp) (hk : keysLt mp.length H0 = true) (har : RnL (mp[·]?) avs0 avs) (hM : Nat.ble (n + (n1 - mp.length)) big = true)
  (hr : RnV (rho mp n n1) rr rr') (hwa : wsAll mp ws = true) (hw : wsChk (rho mp n n1) hh ws) (hN : Nat.blt d N = true)
  {md' : Md} [hmd : MdA md (rOs args.toList ++ mp.map .inr) (ws.map (fun p => .inr p.1) ++ [.inl d]) md']
  (kk : RW P N all Q md' rest ⟨(d,rr') :: ts,wrH hs ws,n + (n1 - mp.length),z0⟩) : RW P N all Q md (⟨some d,.call ⟨.value (.func k),args,tys⟩,ty,pos,af,none⟩ :: rest) ⟨ts,hs,n,z0⟩ :=
 rw_mcallE mp n1 hc.pf ha h hd hH0 hk har hM hr (wsOk_of hwa hw) (fun x e => by cases e;exact ltb hN) (by simp only [wD]; rw [hmd.pf]; exact kk)
theorem rx_mcall {σ:Type}{d:Nat}{k:FuncId}{args:Array Operand}{tys:Array TypeId}{avs avs0:List AV}{H0:List (Nat × Option (List AV))}{p:σ → Prop}{rr rr':σ → AV}{hh:σ → List (Nat × Option (List AV))}
  (mp : List Nat) (n1 : Nat) (ws : σ → List (Nat × Option (List AV))) (h : MC P k avs0 H0 mp.length p rr hh) [hc : CaT P k] (ha : evL (lk ts) args.toList = some avs) (hd : distinct mp = true)
  (hH0 : hands hs H0 mp 0 mp) (hk : keysLt mp.length H0 = true) (har : RnL (mp[·]?) avs0 avs) (hM : Nat.ble (n + (n1 - mp.length)) big = true)
  (hr : ∀ x,p x → RnV (rho mp n n1) (rr x) (rr' x)) (hwa : ∀ x,p x → wsAll mp (ws x) = true) (hw : ∀ x,p x → wsChk (rho mp n n1) (hh x) (ws x)) (hN : Nat.blt d N = true)
  (kk : ∀ x,p x → RW P N all Q .txt rest ⟨(d,rr' x) :: ts,wrH hs (ws x),n + (n1 - mp.length),z0⟩) : RW P N all Q .txt (⟨some d,.call ⟨.value (.func k),args,tys⟩,ty,pos,af,none⟩ :: rest) ⟨ts,hs,n,z0⟩ :=
 rw_mcall mp n1 hc.pf ha h hd hH0 hk har hM hr (fun x hx => wsOk_of (hwa x hx) (hw x hx)) (fun x e => by cases e;exact ltb hN) kk
end
theorem flat_at {α:Type}[Inhabited α] {f g:α → List AV}{e:Nat}[h:FlT f e] [hg:FE f g] {xs:List α}{k j:Nat}{c:AV}(hk:k < xs.length) (hc:(g xs[k]!)[j]? = some c):((flat f xs).drop (0 + k * e + j))[0]? = some c:=by
 rw [Nat.zero_add,← List.drop_drop,flat_drop f xs k hk]
 rw [← hg.pf] at hc
 have hj : j < (f xs[k]!).length := by
  rcases Nat.lt_or_ge j (f xs[k]!).length with q|q
  ·exact q
  ·rw [List.getElem?_eq_none q] at hc;cases hc
 rw [List.drop_append_of_le_length (Nat.le_of_lt hj),List.getElem?_append_left (by rw [List.length_drop]; omega),List.getElem?_drop,Nat.add_zero]
 exact hc
section
variable {P : Program} {N : Nat} {Q : Exit → AS → Prop} {all : Array Oper} {rest : List Oper} {ts : List (Nat × AV)} {hs : List (Nat × Option (List AV))} {n : Nat} {z0 : Lo} {md : Md}
variable {d : Nat} {ty : TypeId} {pos : String} {af : Array Edge}
theorem rx_loadF0 {α:Type}{hα:Inhabited α}{f g:α → List AV}{xs:List α}{e id k:Nat}{t:TypeId}{x:Operand}{c:AV}[ha:AgT P t false] (hx:ev (lk ts) x = some (.optr id (0 + k * e)))
  (hH : lkH hs id = some (flat f xs)) (hf : FlT f e) (hg : FE f g) (hk : k < xs.length) (hc : (g xs[k]!)[0]? = some c) (hN : Nat.blt d N = true) {md' : Md} [hmd : MdA md (rO x ++ rA (.optr id (0 + k * e))) [.inl d] md']
  (kk : RW P N all Q md' rest ⟨(d,c) :: ts,hs,n,z0⟩) : RW P N all Q md (⟨some d,.load t x,ty,pos,af,none⟩ :: rest) ⟨ts,hs,n,z0⟩ :=
 rw_load1 (cs := (flat f xs).drop (0 + k * e)) hx ha.pf (by simp only [deref,hH,Option.map_some]) (flat_at (f := f) (j := 0) hk hc) (ltb hN) (by rw [hmd.pf]; exact kk)
theorem rx_loadFA {α:Type}{hα:Inhabited α}{f g:α → List AV}{xs:List α}{e id k:Nat}{t:TypeId}{x:Operand}[ha:AgT P t true] [hz:SzT P t e] (hx:ev (lk ts) x = some (.optr id (0 + k * e)))
  (hH : lkH hs id = some (flat f xs)) (hf : FlT f e) (hg : FE f g) (hk : k < xs.length) (h0 : Nat.blt 0 e = true) (hN : Nat.blt d N = true) {md' : Md} [hmd : MdA md (rO x ++ rA (.optr id (0 + k * e))) [.inl d] md']
  (kk : RW P N all Q md' rest ⟨(d,.agg (g xs[k]!)) :: ts,hs,n,z0⟩) : RW P N all Q md (⟨some d,.load t x,ty,pos,af,none⟩ :: rest) ⟨ts,hs,n,z0⟩ :=
 rw_loadA (cs := (flat f xs).drop (0 + k * e)) hx ha.pf hz.pf (by simp only [deref,hH,Option.map_some]) (cs' := g xs[k]!) (by rw [Nat.zero_add,flat_drop f xs k hk,← hg.pf]; exact List.take_left' (hf.pf _)) (by rw [← hg.pf]; exact hf.pf _) (by have := ltb h0;omega) (ltb hN) (by rw [hmd.pf]; exact kk)
end
theorem Rd_imm_take {w:World}{bad:Nat → Prop}{ι:Pl}{n k:Nat}{cs:List AV}{y:Value}(h:Rd w bad ι (.imm n cs) y):Rd w bad ι (.imm n (cs.take k)) y:=by
 simp only [Rd] at h ⊢
 obtain ⟨a,c,rfl,h⟩ := h
 refine ⟨a,c,rfl,?_⟩
 rcases h with h | ⟨b,o,hn,rfl,h⟩
 ·exact .inl h
 ·refine .inr ⟨b, o, hn, rfl, ?_⟩
  rcases h with h | ⟨hb,h⟩
  ·subst h;exact .inl (by simp)
  ·exact .inr ⟨hb,RdC.take k h⟩
section
variable {P : Program} {N : Nat} {Q : Exit → AS → Prop} {all : Array Oper} {rest : List Oper} {ts : List (Nat × AV)} {hs : List (Nat × Option (List AV))} {n : Nat} {z0 : Lo} {md : Md}
variable {d : Nat} {ty : TypeId} {pos : String} {af : Array Edge}
theorem rx_sliceF {α:Type}{f:α → List AV}{xs:List α}{t el:TypeId}{x:Operand}{lo hi:Option Operand}{e l h:Nat}[ht:SlT P t el] [he:SzT P el e] (hx:ev (lk ts) x = some (sl f xs)) (hf:FlT f e)
  (hl : bndA (lk ts) lo 0 = some l) (hh : bndA (lk ts) hi xs.length = some h) (hb : l ≤ h ∧ h ≤ xs.length) (hN : Nat.blt d N = true) {md' : Md} [hmd : MdA md (rO x ++ (rB lo ++ rB hi)) [.inl d] md']
  (kk : RW P N all Q md' rest ⟨(d,sl f ((xs.drop l).take (h - l))) :: ts,hs,n,z0⟩) : RW P N all Q md (⟨some d,.slice t x lo hi none,ty,pos,af,none⟩ :: rest) ⟨ts,hs,n,z0⟩ := by
 refine rw_pu (rs := rO x ++ (rB lo ++ rB hi)) (out := sl f ((xs.drop l).take (h - l))) rfl rfl (ltb hN) (fun C ι F T H a w ag g gh => ?_) (by rw [hmd.pf]; exact kk)
 obtain ⟨y,h1,h2⟩ := pu_slice (P := P) (o := ⟨some d,.slice t x lo hi none,ty,pos,af,none⟩) (out := .imm (h - l) ((flat f xs).drop (l * e))) g rfl (ag.l.ev.trans hx) ht.pf he.pf rfl (ag.r.l.bnd.trans hl) (ag.r.r.bnd.trans hh) (by simp only [sSl]; rw [if_pos hb])
 refine ⟨y,h1,?_⟩
 have hlen : ((xs.drop l).take (h - l)).length = h - l := by rw [List.length_take,List.length_drop]; omega
 show Rd w _ ι (.imm ((xs.drop l).take (h - l)).length (flat f ((xs.drop l).take (h - l)))) y
 rw [hlen,← flat_take f,← flat_drop' f]
 exact Rd_imm_take h2
end
theorem RdL_kAV {w:World}{bad:Nat → Prop}{ι:Pl}:∀ {cs:List AV}{l:List Value},RdL w bad ι cs l → RdL w bad ι (cs.map kAV) l
 | [],l,h => by simpa only [RdL,List.map_nil] using h
 | c :: cs, l, h => by
  simp only [RdL,List.map_cons] at h ⊢
  obtain ⟨x,l',h0,h1,h2,h3⟩ := h
  exact ⟨x,l',h0,h1,Rd_kAV h2,RdL_kAV h3⟩
section
variable {P : Program} {N : Nat} {Q : Exit → AS → Prop} {all : Array Oper} {rest : List Oper} {ts : List (Nat × AV)} {hs : List (Nat × Option (List AV))} {n : Nat} {z0 : Lo} {md : Md}
variable {d : Nat} {ty : TypeId} {pos : String} {af : Array Edge}
theorem rx_buildK {t:TypeId}{parts:Array (Nat × Operand)}{pl:List (Nat × Nat)}{zs:List Value}{l:List (Nat × AV)}{cs cs':List AV}[hp:PtT P t pl] [hz:ZrT P t zs]
  (hl : evs (lk ts) parts.toList = some l) (hf : fillA (pl[·]?) (zs.map .v) l = some cs) (hk : cs.map kAV = cs') (hN : Nat.blt d N = true) {md' : Md} [hmd : MdA md (rPs parts.toList) [.inl d] md'] (kk : RW P N all Q md' rest ⟨(d,.agg cs') :: ts,hs,n,z0⟩) :
  RW P N all Q md (⟨some d,.build t parts,ty,pos,af,none⟩ :: rest) ⟨ts,hs,n,z0⟩ := by
 subst hk
 refine rw_pu (rs := rPs parts.toList) (out := .agg (cs.map kAV)) rfl rfl (ltb hN) (fun C ι F T H a w ag g gh => ?_) (by rw [hmd.pf]; exact kk)
 obtain ⟨y,h1,h2⟩ := pu_build (P := P) (o := ⟨some d,.build t parts,ty,pos,af,none⟩) g rfl hp.pf hz.pf (ag.evs.trans hl) hf
 refine ⟨y,h1,?_⟩
 simp only [Rd] at h2 ⊢
 obtain ⟨l',h3,h4⟩ := h2
 exact ⟨l',h3,RdL_kAV h4⟩
end
theorem mc_of_aw {σ:Type}{P:Program}{k:FuncId}{fn:Func}{c:Code}{args:List AV}{H0:List (Nat × Option (List AV))}{n:Nat}{p:σ → Prop}{rr:σ → AV}{hh:σ → List (Nat × Option (List AV))}(hf:P.funcs[k]? = some fn) (hb:fn.body = some c)
  (hN : args.length ≤ fn.ntmps) (h : AW P fn.ntmps c (retQ P fn.results (fun r H' => ∃ x,p x ∧ r = rr x ∧ ∀ id cs,lkH (hh x) id = some cs → H' id = some cs)) ⟨argTs 0 args,H0,n,⟨n,big⟩⟩) : MC P k args H0 n p rr hh :=
 acalls_of_aw hf hb hN h
theorem mc_ret {σ:Type}{s:AS}{r:AV}{p:σ → Prop}{rr:σ → AV}{hh:σ → List (Nat × Option (List AV))}(x:σ) (hp:p x) (hr:r = rr x) (hh':subH s.hs (hh x)):∃ x,p x ∧ r = rr x ∧ ∀ id cs,lkH (hh x) id = some cs → lkH s.hs id = some cs :=
 ⟨x,hp,hr,subH_ok hh'⟩
def lkI : List (Nat × Nat) → Nat → Option Nat
 | [],_ => none
 | (t,v) :: l,u => cond (Nat.beq u t) (some v) (lkI l u)
theorem lkI_c (t v:Nat) (l:List (Nat × Nat)) (u:Nat):lkI ((t,v) :: l) u = if u = t then some v else lkI l u:=by
 simp only [lkI]
 by_cases h : u = t
 ·subst h;simp
 ·rw [if_neg h]
  have : Nat.beq u t = false := by
   cases hb : Nat.beq u t with
   | false => rfl
   | true => exact absurd (Nat.eq_of_beq_eq_true hb) h
  rw [this]; rfl
def rsI (m : List (Nat × Nat)) (lo : Lo) (id : Nat) : Option Nat := if id < lo.lo then some id else match lkI m id with
 | some j => some j
 | none => if big ≤ id ∧ id < lo.fb then some id else none
def ren1 (m : List (Nat × Nat)) (lo : Lo) : AV → Option AV
 | .own id o n e => (rsI m lo id).map fun j => .own j o n e
 | .optr id o => (rsI m lo id).map fun j => .optr j o
 | _ => none
def RenV (m : List (Nat × Nat)) (lo : Lo) (v v0 : AV) : Prop := (v0 = v ∧ v.pur = true) ∨ ren1 m lo v = some v0
inductive All2 {α β : Type} (R : α → β → Prop) : List α → List β → Prop
 | nil : All2 R [] []
 | cons {a b l l'} : R a b → All2 R l l' → All2 R (a :: l) (b :: l')
theorem All2.len {α β:Type}{R:α → β → Prop}{l:List α}{l':List β}(h:All2 R l l'):l.length = l'.length:=by
 induction h with
 | nil => rfl
 | cons _ _ ih => simp [ih]
def RenL (m : List (Nat × Nat)) (lo : Lo) (cs cs0 : List AV) : Prop := (cs0 = cs ∧ pursB cs = true) ∨ All2 (RenV m lo) cs cs0
def renT (m : List (Nat × Nat)) (lo : Lo) (l : List (Nat × AV)) : List (Nat × AV) → Prop
 | [] => True
 | (t,v) :: l' => (∃ v0,lk l t = some v0 ∧ RenV m lo v v0) ∧ renT m lo l l'
def renH (m : List (Nat × Nat)) (lo : Lo) (l : List (Nat × Option (List AV))) : List (Nat × Option (List AV)) → Prop
 | [] => True
 | (t,none) :: l' => renH m lo l l'
 | (t,some cs) :: l' => (∃ j cs0,rsI m lo t = some j ∧ lkH l j = some cs0 ∧ RenL m lo cs cs0) ∧ renH m lo l l'
theorem renT_ok {m:List (Nat × Nat)}{lo:Lo}{l:List (Nat × AV)}:∀ {l':List (Nat × AV)},renT m lo l l' → ∀ t v,lk l' t = some v → ∃ v0,lk l t = some v0 ∧ RenV m lo v v0
 | [],_,t,v,h => by simp [lk] at h
 | (u, x) :: l', hr, t, v, h => by
  simp only [renT] at hr
  simp only [lk_c] at h
  split at h
  ·rename_i e;subst e;cases h;exact hr.1
  ·exact renT_ok hr.2 t v h
theorem renH_ok {m:List (Nat × Nat)}{lo:Lo}{l:List (Nat × Option (List AV))}:∀ {l':List (Nat × Option (List AV))},renH m lo l l' → ∀ t cs,lkH l' t = some cs →
  ∃ j cs0,rsI m lo t = some j ∧ lkH l j = some cs0 ∧ RenL m lo cs cs0
 | [],_,t,v,h => by simp [lkH] at h
 | (u, none) :: l', hr, t, v, h => by
  simp only [renH] at hr
  simp only [lkH_c] at h
  split at h
  ·cases h
  ·exact renH_ok hr t v h
 | (u, some x) :: l', hr, t, v, h => by
  simp only [renH] at hr
  simp only [lkH_c] at h
  split at h
  ·rename_i e;subst e;cases h;exact hr.1
  ·exact renH_ok hr.2 t v h
def okI (lo n' : Nat) : List (Nat × Nat) → Bool
 | [] => true
 | (a,b) :: l => Nat.ble lo a && Nat.blt a n' && (Nat.ble lo b && (Nat.blt a big && Nat.blt b big)) && l.all (fun p => !Nat.beq p.1 a && !Nat.beq p.2 b) && okI lo n' l
theorem okI_mem {lo n':Nat}:∀ {m:List (Nat × Nat)},okI lo n' m = true → ∀ a b,lkI m a = some b → lo ≤ a ∧ a < n' ∧ lo ≤ b ∧ a < big ∧ b < big
 | [],_,a,b,h => by simp [lkI] at h
 | (u, v) :: l, hk, a, b, h => by
  simp only [okI,Bool.and_eq_true] at hk
  obtain ⟨⟨⟨⟨h1,h2⟩,h3⟩,_⟩,h5⟩ := hk
  simp only [lkI_c] at h
  split at h
  ·rename_i e
   subst e;cases h
   have q1 := Nat.le_of_ble_eq_true h1
   have q2 := ltb h2
   have q3 := Nat.le_of_ble_eq_true h3.1
   exact ⟨q1,q2,q3,ltb h3.2.1,ltb h3.2.2⟩
  ·exact okI_mem h5 a b h
theorem lkI_mem:∀ {m:List (Nat × Nat)}{a b:Nat},lkI m a = some b → (a,b) ∈ m
 | [],a,b,h => by simp [lkI] at h
 | (u, v) :: l, a, b, h => by
  simp only [lkI_c] at h
  split at h
  ·rename_i e;subst e;cases h;simp
  ·exact List.mem_cons_of_mem _ (lkI_mem h)
theorem okI_inj {lo n':Nat}:∀ {m:List (Nat × Nat)},okI lo n' m = true → ∀ a a' b,lkI m a = some b → lkI m a' = some b → a = a'
 | [],_,a,a',b,h,_ => by simp [lkI] at h
 | (u, v) :: l, hk, a, a', b, h, h' => by
  simp only [okI,Bool.and_eq_true] at hk
  obtain ⟨⟨_,h4⟩,h5⟩ := hk
  have key : ∀ x, lkI l x = some v → False := by
   intro x hx
   have hm := lkI_mem hx
   rw [List.all_eq_true] at h4
   have := h4 _ hm
   simp at this
  simp only [lkI_c] at h h'
  split at h
  ·rename_i e
   split at h'
   ·rename_i e'; omega
   ·cases h;exact (key _ h').elim
  ·split at h'
   ·cases h'; exact (key _ h).elim
   ·exact okI_inj h5 a a' b h h'
theorem Le.ren (m:List (Nat × Nat)){ts ts':List (Nat × AV)}{hs hs':List (Nat × Option (List AV))}{n n':Nat}{lo:Lo}(hm:okI lo.lo n' m = true) (hn:lo.lo ≤ n') (h1:renT m lo ts ts') (h2:renH m lo hs hs') :
  Le ⟨ts,hs,n,lo⟩ ⟨ts',hs',n',lo⟩ := by
 rintro C a w ⟨h0,ι,g,gh⟩
 let ι' : Pl := fun id => match rsI m lo id with|some j => ι j|none => none
 have hlow : ∀ id,id < lo.lo → ι' id = ι id := fun id h => by simp [ι',rsI,h]
 have hto : ∀ id j, rsI m lo id = some j → ι' id = ι j := by
  intro id j h
  simp only [ι',h]
 have hcs0 : ∀ a b, rsI m lo a = some b → (a < lo.lo ∧ b = a) ∨ (lo.lo ≤ a ∧ lkI m a = some b) ∨ (lo.lo ≤ a ∧ (big ≤ a ∧ a < lo.fb) ∧ b = a) := by
  intro a b q
  unfold rsI at q
  split at q
  ·rename_i h;cases q;exact .inl ⟨h,rfl⟩
  ·rename_i h
   split at q
   ·rename_i j hj;cases q;exact .inr (.inl ⟨by omega,hj⟩)
   ·split at q
    ·rename_i h3;cases q;exact .inr (.inr ⟨by omega,h3,rfl⟩)
    ·cases q
 have hinj : ∀ a a' b, rsI m lo a = some b → rsI m lo a' = some b → a = a' := by
  intro a a' b q q'
  rcases hcs0 a b q with ⟨e1,e2⟩ | ⟨e1,e2⟩ | ⟨e1,e2,e3⟩ <;> rcases hcs0 a' b q' with ⟨f1,f2⟩ | ⟨f1,f2⟩ | ⟨f1,f2,f3⟩
  ·omega
  ·have := okI_mem hm _ _ f2;omega
  ·omega
  ·have := okI_mem hm _ _ e2;omega
  ·exact okI_inj hm _ _ _ e2 f2
  ·have := okI_mem hm _ _ e2;omega
  ·omega
  ·have := okI_mem hm _ _ f2;omega
  ·omega
 have hbad : ∀ b, badOf C.X ι' (lkH hs') b → badOf C.X ι (lkH hs) b := by
  rintro b (h | ⟨id,cs,β,q1,q2⟩)
  ·exact .inl h
  ·obtain ⟨j, cs0, q3, q4, _⟩ := renH_ok h2 id cs q1
   rw [hto _ _ q3] at q2
   exact .inr ⟨j,cs0,β,q4,q2⟩
 have hc0 : Carry w (badOf C.X ι (lkH hs)) ι w (badOf C.X ι' (lkH hs')) ι := ⟨fun b o x q1 q2 => ⟨fun h => q1 (hbad b h),q2⟩,fun _ _ h => h,fun _ => Nat.le_refl _⟩
 have hv : ∀ v v0 y, RenV m lo v v0 → Rd w (badOf C.X ι (lkH hs)) ι v0 y → Rd w (badOf C.X ι' (lkH hs')) ι' v y := by
  intro v v0 y hr hy
  rcases hr with ⟨rfl,hp⟩|hr
  ·exact Rd.pur _ y hp (Rd.carry hc0 _ _ hy)
  ·cases v <;> simp only [ren1] at hr <;> first | (cases hr; done) | skip
   ·rename_i id o k e
    cases hj : rsI m lo id with
    | none => simp [hj] at hr
    | some j =>
     simp only [hj,Option.map_some,Option.some.injEq] at hr
     subst hr
     simp only [Rd,hto _ _ hj] at hy ⊢
     exact hy
   ·rename_i id o
    cases hj : rsI m lo id with
    | none => simp [hj] at hr
    | some j =>
     simp only [hj,Option.map_some,Option.some.injEq] at hr
     subst hr
     simp only [Rd,hto _ _ hj] at hy ⊢
     exact hy
 have hcs : ∀ cs cs0 b o, RenL m lo cs cs0 → RdC w (badOf C.X ι (lkH hs)) ι cs0 b o → RdC w (badOf C.X ι' (lkH hs')) ι' cs b o := by
  intro cs cs0 b o hr hy
  rcases hr with ⟨rfl,hp⟩|hf
  ·exact RdC.pur _ b o hp (RdC.carryB hc0 _ _ _ (fun o x hx => hx) hy)
  ·induction hf generalizing o with
   | nil => simp only [RdC]
   | cons h1 _ ih =>
    simp only [RdC] at hy ⊢
    obtain ⟨⟨x,q1,q2,q3⟩,q4⟩ := hy
    exact ⟨⟨x,q1,q2,hv _ _ _ h1 q3⟩,ih _ q4⟩
 refine ⟨h0,ι',⟨g.df,g.sz,fun t v ht => ?_⟩,⟨fun id cs h => ?_,fun id id' cs cs' b β β' q1 q2 q3 q4 => ?_,gh.fr,fun id p hp => ?_,fun id hid => ?_⟩⟩
 ·obtain ⟨v0, q1, q2⟩ := renT_ok h1 t v ht
  obtain ⟨y,q3,q4⟩ := g.tm t v0 q1
  exact ⟨y,q3,hv _ _ _ q2 q4⟩
 ·obtain ⟨j, cs0, q3, q4, q5⟩ := renH_ok h2 id cs h
  have hlen : cs.length = cs0.length := by
   rcases q5 with ⟨rfl,_⟩|hf
   ·rfl
   ·exact hf.len
  rcases gh.obj j cs0 q4 with ⟨p1,p2⟩ | ⟨b,β,arr,e,p1,p2,p3,p4,p5,p6⟩
  ·refine .inl ⟨by rw [hto _ _ q3]; exact p1, ?_⟩
   subst p2;exact List.eq_nil_of_length_eq_zero hlen
  ·exact .inr ⟨b,β,arr,e,by rw [hto _ _ q3]; exact p1,p2,by rw [hlen]; exact p3,hcs _ _ _ _ q5 p4,p5,p6⟩
 ·obtain ⟨j, c1, r1, r2, _⟩ := renH_ok h2 id cs q1
  obtain ⟨j',c2,r3,r4,_⟩ := renH_ok h2 id' cs' q2
  rw [hto _ _ r1] at q3
  rw [hto _ _ r3] at q4
  have := gh.sep _ _ _ _ _ _ _ r2 r4 q3 q4
  subst this
  exact hinj _ _ _ r1 r3
 ·have hl : id < lo.lo ∨ (lo.lo ≤ id ∧ big ≤ id ∧ id < lo.fb) := by
   rcases Nat.lt_or_ge id lo.lo with h|h
   ·exact .inl h
   ·rcases h0 id h with h1 | h1
    ·exact .inr ⟨h,h1⟩
    ·rw [h1] at hp;cases hp
  rcases hl with hl | ⟨hl,h1,h2⟩
  ·rw [hlow id hl]; exact gh.ex id p hp
  ·have : rsI m lo id = some id := by
    unfold rsI
    rw [if_neg (by omega)]
    cases hj : lkI m id with
    | some j => have := okI_mem hm _ _ hj;omega
    | none => simp [h1,h2]
   rw [hto _ _ this]; exact gh.ex id p hp
 ·show ι' id = none
  simp only [ι']
  cases hj : rsI m lo id with
  | none => rfl
  | some j =>
   have h3 : n' ≤ id := hid.1
   have h4 : id < big ∨ lo.fb ≤ id := hid.2
   rcases hcs0 id j hj with ⟨e1,e2⟩ | ⟨e1,e2⟩ | ⟨e1,e2,e3⟩
   ·omega
   ·have := okI_mem hm _ _ e2;omega
   ·omega
end Go.AL
namespace Go.Proofs.YtjnhlgpbojggnaaGreatDoor
open Go.AL
instance : SzT Tryz.prog 3 1:=⟨by kernel_rfl⟩
instance : ByT Tryz.prog 3 8:=⟨by kernel_rfl⟩
instance : AgT Tryz.prog 3 false:=⟨by kernel_rfl⟩
instance : InT Tryz.prog 3 .i64:=⟨by kernel_rfl⟩
instance : ZrT Tryz.prog 3 [.int .i64 0]:=⟨by kernel_rfl⟩
instance : SzT Tryz.prog 4 1:=⟨by kernel_rfl⟩
instance : ByT Tryz.prog 4 1:=⟨by kernel_rfl⟩
instance : AgT Tryz.prog 4 false:=⟨by kernel_rfl⟩
instance : ZrT Tryz.prog 4 [.bool false]:=⟨by kernel_rfl⟩
instance : SzT Tryz.prog 5 1:=⟨by kernel_rfl⟩
instance : AgT Tryz.prog 5 false:=⟨by kernel_rfl⟩
instance : InT Tryz.prog 5 .u8:=⟨by kernel_rfl⟩
instance : ZrT Tryz.prog 5 [.int .u8 0]:=⟨by kernel_rfl⟩
instance : SzT Tryz.prog 9 1:=⟨by kernel_rfl⟩
instance : ByT Tryz.prog 9 16:=⟨by kernel_rfl⟩
instance : AgT Tryz.prog 9 false:=⟨by kernel_rfl⟩
instance : StT Tryz.prog 9:=⟨by kernel_rfl⟩
instance : ZrT Tryz.prog 9 [.string ⟨#[]⟩]:=⟨by kernel_rfl⟩
instance : SzT Tryz.prog 22 1:=⟨by kernel_rfl⟩
instance : AgT Tryz.prog 22 false:=⟨by kernel_rfl⟩
instance : SlT Tryz.prog 22 5:=⟨by kernel_rfl⟩
instance : SzT Tryz.prog 24 1:=⟨by kernel_rfl⟩
instance : AgT Tryz.prog 24 false:=⟨by kernel_rfl⟩
instance : SlT Tryz.prog 24 3:=⟨by kernel_rfl⟩
instance : SzT Tryz.prog 25 1:=⟨by kernel_rfl⟩
instance : AgT Tryz.prog 25 false:=⟨by kernel_rfl⟩
instance : SlT Tryz.prog 25 101:=⟨by kernel_rfl⟩
instance : SzT Tryz.prog 27 2:=⟨by kernel_rfl⟩
instance : AgT Tryz.prog 27 true:=⟨by kernel_rfl⟩
instance : FdT Tryz.prog 27 0 0 24:=⟨by kernel_rfl⟩
instance : FdT Tryz.prog 27 1 1 25:=⟨by kernel_rfl⟩
instance : PtT Tryz.prog 27 [(0,1),(1,1)]:=⟨by kernel_rfl⟩
instance : ZrT Tryz.prog 27 [.slice none 0 0,.slice none 0 0]:=⟨by kernel_rfl⟩
instance : SzT Tryz.prog 39 1:=⟨by kernel_rfl⟩
instance : AgT Tryz.prog 39 false:=⟨by kernel_rfl⟩
instance : SlT Tryz.prog 39 79:=⟨by kernel_rfl⟩
instance : SlT Tryz.prog 46 9:=⟨by kernel_rfl⟩
instance : FdT Tryz.prog 60 0 0 27:=⟨by kernel_rfl⟩
instance : SzT Tryz.prog 79 5:=⟨by kernel_rfl⟩
instance : ByT Tryz.prog 79 56:=⟨by kernel_rfl⟩
instance : AgT Tryz.prog 79 true:=⟨by kernel_rfl⟩
instance : FdT Tryz.prog 79 0 0 3:=⟨by kernel_rfl⟩
instance : FdT Tryz.prog 79 1 1 3:=⟨by kernel_rfl⟩
instance : FdT Tryz.prog 79 2 2 3:=⟨by kernel_rfl⟩
instance : FdT Tryz.prog 79 3 3 3:=⟨by kernel_rfl⟩
instance : FdT Tryz.prog 79 4 4 24:=⟨by kernel_rfl⟩
instance : PtT Tryz.prog 79 [(0,1),(1,1),(2,1),(3,1),(4,1)]:=⟨by kernel_rfl⟩
instance : ZrT Tryz.prog 79 [.int .i64 0,.int .i64 0,.int .i64 0,.int .i64 0,.slice none 0 0]:=⟨by kernel_rfl⟩
instance : SlT Tryz.prog 90 94:=⟨by kernel_rfl⟩
instance : SzT Tryz.prog 94 3:=⟨by kernel_rfl⟩
instance : ByT Tryz.prog 94 24:=⟨by kernel_rfl⟩
instance : AgT Tryz.prog 94 true:=⟨by kernel_rfl⟩
instance : FdT Tryz.prog 94 0 0 3:=⟨by kernel_rfl⟩
instance : FdT Tryz.prog 94 1 1 3:=⟨by kernel_rfl⟩
instance : FdT Tryz.prog 94 2 2 3:=⟨by kernel_rfl⟩
instance : PtT Tryz.prog 94 [(0,1),(1,1),(2,1)]:=⟨by kernel_rfl⟩
instance : ZrT Tryz.prog 94 [.int .i64 0,.int .i64 0,.int .i64 0]:=⟨by kernel_rfl⟩
instance : FdT Tryz.prog 99 0 0 22:=⟨by kernel_rfl⟩
instance : FdT Tryz.prog 99 1 1 3:=⟨by kernel_rfl⟩
instance : PtT Tryz.prog 99 [(0,1),(1,1)]:=⟨by kernel_rfl⟩
instance : ZrT Tryz.prog 99 [.slice none 0 0,.int .i64 0]:=⟨by kernel_rfl⟩
instance : SzT Tryz.prog 101 6:=⟨by kernel_rfl⟩
instance : ByT Tryz.prog 101 80:=⟨by kernel_rfl⟩
instance : AgT Tryz.prog 101 true:=⟨by kernel_rfl⟩
instance : FdT Tryz.prog 101 0 0 3:=⟨by kernel_rfl⟩
instance : FdT Tryz.prog 101 1 1 3:=⟨by kernel_rfl⟩
instance : FdT Tryz.prog 101 2 2 3:=⟨by kernel_rfl⟩
instance : FdT Tryz.prog 101 3 3 3:=⟨by kernel_rfl⟩
instance : FdT Tryz.prog 101 4 4 25:=⟨by kernel_rfl⟩
instance : FdT Tryz.prog 101 5 5 25:=⟨by kernel_rfl⟩
instance : PtT Tryz.prog 101 [(0,1),(1,1),(2,1),(3,1),(4,1),(5,1)]:=⟨by kernel_rfl⟩
instance : ZrT Tryz.prog 101 [.int .i64 0,.int .i64 0,.int .i64 0,.int .i64 0,.slice none 0 0,.slice none 0 0]:=⟨by kernel_rfl⟩
instance : FdT Tryz.prog 135 0 0 27:=⟨by kernel_rfl⟩
instance : FdT Tryz.prog 135 1 2 39:=⟨by kernel_rfl⟩
instance : PtT Tryz.prog 135 [(0,2),(2,1)]:=⟨by kernel_rfl⟩
instance : ZrT Tryz.prog 135 [.slice none 0 0,.slice none 0 0,.slice none 0 0]:=⟨by kernel_rfl⟩
instance : SzT Tryz.prog 146 1:=⟨by kernel_rfl⟩
instance : AgT Tryz.prog 146 false:=⟨by kernel_rfl⟩
instance : SlT Tryz.prog 146 201:=⟨by kernel_rfl⟩
instance : FdT Tryz.prog 158 0 0 9:=⟨by kernel_rfl⟩
instance : FdT Tryz.prog 158 1 1 4:=⟨by kernel_rfl⟩
instance : PtT Tryz.prog 158 [(0,1),(1,1)]:=⟨by kernel_rfl⟩
instance : ZrT Tryz.prog 158 [.string ⟨#[]⟩,.bool false]:=⟨by kernel_rfl⟩
instance : SzT Tryz.prog 190 1:=⟨by kernel_rfl⟩
instance : AgT Tryz.prog 190 false:=⟨by kernel_rfl⟩
instance : SlT Tryz.prog 190 195:=⟨by kernel_rfl⟩
instance : ZrT Tryz.prog 190 [.slice none 0 0]:=⟨by kernel_rfl⟩
instance : SzT Tryz.prog 193 1:=⟨by kernel_rfl⟩
instance : ByT Tryz.prog 193 8:=⟨by kernel_rfl⟩
instance : AgT Tryz.prog 193 false:=⟨by kernel_rfl⟩
instance : ZrT Tryz.prog 193 [.int .u64 0]:=⟨by kernel_rfl⟩
instance : SzT Tryz.prog 195 6:=⟨by kernel_rfl⟩
instance : ByT Tryz.prog 195 48:=⟨by kernel_rfl⟩
instance : AgT Tryz.prog 195 true:=⟨by kernel_rfl⟩
instance : ArT Tryz.prog 195 6 193:=⟨by kernel_rfl⟩
instance : ZrT Tryz.prog 195 [.int .u64 0,.int .u64 0,.int .u64 0,.int .u64 0,.int .u64 0,.int .u64 0]:=⟨by kernel_rfl⟩
instance : SlT Tryz.prog 198 206:=⟨by kernel_rfl⟩
instance : SzT Tryz.prog 201 1:=⟨by kernel_rfl⟩
instance : ByT Tryz.prog 201 24:=⟨by kernel_rfl⟩
instance : AgT Tryz.prog 201 false:=⟨by kernel_rfl⟩
instance : SlT Tryz.prog 201 4:=⟨by kernel_rfl⟩
instance : ZrT Tryz.prog 201 [.slice none 0 0]:=⟨by kernel_rfl⟩
instance : SlT Tryz.prog 202 256:=⟨by kernel_rfl⟩
instance : SzT Tryz.prog 206 2:=⟨by kernel_rfl⟩
instance : ByT Tryz.prog 206 48:=⟨by kernel_rfl⟩
instance : AgT Tryz.prog 206 true:=⟨by kernel_rfl⟩
instance : FdT Tryz.prog 206 0 0 146:=⟨by kernel_rfl⟩
instance : FdT Tryz.prog 206 1 1 201:=⟨by kernel_rfl⟩
instance : PtT Tryz.prog 206 [(0,1),(1,1)]:=⟨by kernel_rfl⟩
instance : ZrT Tryz.prog 206 [.slice none 0 0,.slice none 0 0]:=⟨by kernel_rfl⟩
instance : SlT Tryz.prog 243 193:=⟨by kernel_rfl⟩
instance : SzT Tryz.prog 256 2:=⟨by kernel_rfl⟩
instance : ByT Tryz.prog 256 16:=⟨by kernel_rfl⟩
instance : AgT Tryz.prog 256 true:=⟨by kernel_rfl⟩
instance : FdT Tryz.prog 256 0 0 3:=⟨by kernel_rfl⟩
instance : FdT Tryz.prog 256 1 1 4:=⟨by kernel_rfl⟩
instance : PtT Tryz.prog 256 [(0,1),(1,1)]:=⟨by kernel_rfl⟩
instance : ZrT Tryz.prog 256 [.int .i64 0,.bool false]:=⟨by kernel_rfl⟩
instance : CaT Tryz.prog 13:=⟨by kernel_rfl⟩
instance : CaT Tryz.prog 14:=⟨by kernel_rfl⟩
instance : CaT Tryz.prog 17:=⟨by kernel_rfl⟩
instance : CaT Tryz.prog 28:=⟨by kernel_rfl⟩
instance : CaT Tryz.prog 29:=⟨by kernel_rfl⟩
instance : CaT Tryz.prog 30:=⟨by kernel_rfl⟩
instance : CaT Tryz.prog 31:=⟨by kernel_rfl⟩
instance : CaT Tryz.prog 32:=⟨by kernel_rfl⟩
instance : CaT Tryz.prog 33:=⟨by kernel_rfl⟩
instance : CaT Tryz.prog 34:=⟨by kernel_rfl⟩
instance : CaT Tryz.prog 35:=⟨by kernel_rfl⟩
instance : CaT Tryz.prog 42:=⟨by kernel_rfl⟩
instance : CaT Tryz.prog 48:=⟨by kernel_rfl⟩
instance : CaT Tryz.prog 50:=⟨by kernel_rfl⟩
instance : CaT Tryz.prog 51:=⟨by kernel_rfl⟩
instance : CaT Tryz.prog 52:=⟨by kernel_rfl⟩
instance : CaT Tryz.prog 53:=⟨by kernel_rfl⟩
instance : CaT Tryz.prog 54:=⟨by kernel_rfl⟩
instance : CaT Tryz.prog 55:=⟨by kernel_rfl⟩
instance : CaT Tryz.prog 57:=⟨by kernel_rfl⟩
instance : CaT Tryz.prog 58:=⟨by kernel_rfl⟩
instance : CaT Tryz.prog 60:=⟨by kernel_rfl⟩
instance : CaT Tryz.prog 62:=⟨by kernel_rfl⟩
instance : CaT Tryz.prog 67:=⟨by kernel_rfl⟩
instance : CaT Tryz.prog 68:=⟨by kernel_rfl⟩
instance : CaT Tryz.prog 69:=⟨by kernel_rfl⟩
instance : CaT Tryz.prog 70:=⟨by kernel_rfl⟩
instance : CaT Tryz.prog 71:=⟨by kernel_rfl⟩
instance : CaT Tryz.prog 72:=⟨by kernel_rfl⟩
instance : CaT Tryz.prog 81:=⟨by kernel_rfl⟩
instance : CaT Tryz.prog 82:=⟨by kernel_rfl⟩
instance : CaT Tryz.prog 83:=⟨by kernel_rfl⟩
instance : CaT Tryz.prog 84:=⟨by kernel_rfl⟩
instance : CaT Tryz.prog 88:=⟨by kernel_rfl⟩
instance : CaT Tryz.prog 89:=⟨by kernel_rfl⟩
instance : CaT Tryz.prog 90:=⟨by kernel_rfl⟩
instance : CaT Tryz.prog 91:=⟨by kernel_rfl⟩
instance : CaT Tryz.prog 92:=⟨by kernel_rfl⟩
instance : CaT Tryz.prog 93:=⟨by kernel_rfl⟩
instance : CaT Tryz.prog 94:=⟨by kernel_rfl⟩
instance : CaT Tryz.prog 95:=⟨by kernel_rfl⟩
instance : CaT Tryz.prog 96:=⟨by kernel_rfl⟩
instance : CaT Tryz.prog 97:=⟨by kernel_rfl⟩
instance : CaT Tryz.prog 98:=⟨by kernel_rfl⟩
instance : CaT Tryz.prog 99:=⟨by kernel_rfl⟩
instance : CaT Tryz.prog 100:=⟨by kernel_rfl⟩
instance : CaT Tryz.prog 101:=⟨by kernel_rfl⟩
instance : CaT Tryz.prog 102:=⟨by kernel_rfl⟩
instance : CaT Tryz.prog 104:=⟨by kernel_rfl⟩
instance : CaT Tryz.prog 111:=⟨by kernel_rfl⟩
instance : CaT Tryz.prog 112:=⟨by kernel_rfl⟩
instance : CaT Tryz.prog 113:=⟨by kernel_rfl⟩
instance : CaT Tryz.prog 114:=⟨by kernel_rfl⟩
instance : CaT Tryz.prog 115:=⟨by kernel_rfl⟩
instance : CaT Tryz.prog 122:=⟨by kernel_rfl⟩
instance : CaT Tryz.prog 126:=⟨by kernel_rfl⟩
instance : CaT Tryz.prog 127:=⟨by kernel_rfl⟩
instance : CaT Tryz.prog 128:=⟨by kernel_rfl⟩
instance : CaT Tryz.prog 133:=⟨by kernel_rfl⟩
instance : CaT Tryz.prog 138:=⟨by kernel_rfl⟩
instance : CaT Tryz.prog 139:=⟨by kernel_rfl⟩
instance : CaT Tryz.prog 140:=⟨by kernel_rfl⟩
instance : CaT Tryz.prog 141:=⟨by kernel_rfl⟩
instance : CaT Tryz.prog 142:=⟨by kernel_rfl⟩
instance : CaT Tryz.prog 143:=⟨by kernel_rfl⟩
instance : CaT Tryz.prog 144:=⟨by kernel_rfl⟩
instance : CaT Tryz.prog 145:=⟨by kernel_rfl⟩
instance : CaT Tryz.prog 146:=⟨by kernel_rfl⟩
instance : CaT Tryz.prog 148:=⟨by kernel_rfl⟩
instance : CaT Tryz.prog 149:=⟨by kernel_rfl⟩
instance : CaT Tryz.prog 152:=⟨by kernel_rfl⟩
instance : CaT Tryz.prog 168:=⟨by kernel_rfl⟩
instance : CaT Tryz.prog 169:=⟨by kernel_rfl⟩
instance : CaT Tryz.prog 170:=⟨by kernel_rfl⟩
instance : CaT Tryz.prog 171:=⟨by kernel_rfl⟩
instance : CaT Tryz.prog 172:=⟨by kernel_rfl⟩
instance : CaT Tryz.prog 173:=⟨by kernel_rfl⟩
instance : CaT Tryz.prog 174:=⟨by kernel_rfl⟩
instance : CaT Tryz.prog 175:=⟨by kernel_rfl⟩
instance : CaT Tryz.prog 176:=⟨by kernel_rfl⟩
instance : CaT Tryz.prog 177:=⟨by kernel_rfl⟩
instance : CaT Tryz.prog 178:=⟨by kernel_rfl⟩
instance : CaT Tryz.prog 183:=⟨by kernel_rfl⟩
instance : CaT Tryz.prog 184:=⟨by kernel_rfl⟩
instance : CaT Tryz.prog 185:=⟨by kernel_rfl⟩
instance : CaT Tryz.prog 186:=⟨by kernel_rfl⟩
instance : CaT Tryz.prog 193:=⟨by kernel_rfl⟩
instance : CaT Tryz.prog 194:=⟨by kernel_rfl⟩
instance : CaT Tryz.prog 201:=⟨by kernel_rfl⟩
instance : CaT Tryz.prog 203:=⟨by kernel_rfl⟩
instance : CaT Tryz.prog 205:=⟨by kernel_rfl⟩
instance : CaT Tryz.prog 206:=⟨by kernel_rfl⟩
instance : CaT Tryz.prog 207:=⟨by kernel_rfl⟩
instance : CaT Tryz.prog 208:=⟨by kernel_rfl⟩
instance : CaT Tryz.prog 209:=⟨by kernel_rfl⟩
instance : CaT Tryz.prog 210:=⟨by kernel_rfl⟩
instance : CaT Tryz.prog 211:=⟨by kernel_rfl⟩
instance : CaT Tryz.prog 212:=⟨by kernel_rfl⟩
instance : CaT Tryz.prog 224:=⟨by kernel_rfl⟩
instance : CaT Tryz.prog 225:=⟨by kernel_rfl⟩
instance : CaT Tryz.prog 226:=⟨by kernel_rfl⟩
instance : CaT Tryz.prog 227:=⟨by kernel_rfl⟩
instance : CaT Tryz.prog 228:=⟨by kernel_rfl⟩
instance : CaT Tryz.prog 229:=⟨by kernel_rfl⟩
instance : CaT Tryz.prog 230:=⟨by kernel_rfl⟩
instance : CaT Tryz.prog 231:=⟨by kernel_rfl⟩
instance : CaT Tryz.prog 232:=⟨by kernel_rfl⟩
instance : CaT Tryz.prog 233:=⟨by kernel_rfl⟩
instance : CaT Tryz.prog 234:=⟨by kernel_rfl⟩
instance : CaT Tryz.prog 235:=⟨by kernel_rfl⟩
instance : CaT Tryz.prog 236:=⟨by kernel_rfl⟩
instance : CaT Tryz.prog 237:=⟨by kernel_rfl⟩
instance : CaT Tryz.prog 238:=⟨by kernel_rfl⟩
instance : CaT Tryz.prog 243:=⟨by kernel_rfl⟩
instance : CaT Tryz.prog 244:=⟨by kernel_rfl⟩
instance : CaT Tryz.prog 245:=⟨by kernel_rfl⟩
instance : CaT Tryz.prog 254:=⟨by kernel_rfl⟩
instance : CaT Tryz.prog 255:=⟨by kernel_rfl⟩
instance : CaT Tryz.prog 256:=⟨by kernel_rfl⟩
instance : CaT Tryz.prog 257:=⟨by kernel_rfl⟩
instance : CaT Tryz.prog 262:=⟨by kernel_rfl⟩
instance : CaT Tryz.prog 264:=⟨by kernel_rfl⟩
instance : CaT Tryz.prog 265:=⟨by kernel_rfl⟩
instance : CaT Tryz.prog 266:=⟨by kernel_rfl⟩
instance : CaT Tryz.prog 267:=⟨by kernel_rfl⟩
instance : CaT Tryz.prog 268:=⟨by kernel_rfl⟩
instance : CaT Tryz.prog 269:=⟨by kernel_rfl⟩
instance : CaT Tryz.prog 279:=⟨by kernel_rfl⟩
instance : CaT Tryz.prog 280:=⟨by kernel_rfl⟩
instance : CaT Tryz.prog 281:=⟨by kernel_rfl⟩
instance : CaT Tryz.prog 282:=⟨by kernel_rfl⟩
instance : CaT Tryz.prog 283:=⟨by kernel_rfl⟩
instance : CaT Tryz.prog 284:=⟨by kernel_rfl⟩
instance : CaT Tryz.prog 285:=⟨by kernel_rfl⟩
instance : CaT Tryz.prog 287:=⟨by kernel_rfl⟩
instance : CaT Tryz.prog 292:=⟨by kernel_rfl⟩
end Go.Proofs.YtjnhlgpbojggnaaGreatDoor
namespace Go.AL
inductive Stmt where
 | mk (op x y n : Int) (th el : List Stmt)
 deriving Inhabited
namespace Stmt
def op : Stmt → Int | .mk o _ _ _ _ _ => o
def x : Stmt → Int | .mk _ o _ _ _ _ => o
def y : Stmt → Int | .mk _ _ o _ _ _ => o
def n : Stmt → Int | .mk _ _ _ o _ _ => o
def th : Stmt → List Stmt | .mk _ _ _ _ o _ => o
def el : Stmt → List Stmt | .mk _ _ _ _ _ o => o
end Stmt
structure Prg where
 types : List Int
 body : List Stmt
 deriving Inhabited
structure Pnt where
 op : Int
 x : Int
 y : Int
 n : Int
 next : List Int
 deriving Inhabited,DecidableEq
structure Iss where
 point : Int
 kind : Int
 with_ : Int
 deriving Inhabited,DecidableEq
structure Acc where
 var : Int
 write : Bool
 deriving Inhabited,DecidableEq
mutual
def cStmt : Stmt → List AV
 | .mk o x y n t e => [iv o,iv x,iv y,iv n,.imm t.length (cStmts t),.imm e.length (cStmts e)]
def cStmts : List Stmt → List AV
 | [] => []
 | s :: l => cStmt s ++ cStmts l
end
theorem cStmts_eq:∀ l,cStmts l = flat cStmt l
 | [] => by simp [cStmts,flat]
 | s :: l => by have := cStmts_eq l;simp only [cStmts,this,flat,List.flatMap_cons]
theorem cStmt_def (s:Stmt):cStmt s = [iv s.op,iv s.x,iv s.y,iv s.n,sl cStmt s.th,sl cStmt s.el]:=by
 cases s;simp only [cStmt,cStmts_eq,Stmt.op,Stmt.x,Stmt.y,Stmt.n,Stmt.th,Stmt.el]
def cPnt (p : Pnt) : List AV := [iv p.op,iv p.x,iv p.y,iv p.n,sl cI p.next]
def cIss (p : Iss) : List AV := [iv p.point,iv p.kind,iv p.with_]
def cAcc (p : Acc) : List AV := [iv p.var,bv p.write]
instance : FlT cStmt 6:=⟨fun s => by rw [cStmt_def]; rfl⟩
instance : FlT cPnt 5:=⟨fun s => rfl⟩
instance : FlT cIss 3:=⟨fun s => rfl⟩
instance : FlT cAcc 2:=⟨fun s => rfl⟩
instance : FE cStmt (fun s => [iv s.op,iv s.x,iv s.y,iv s.n,sl cStmt s.th,sl cStmt s.el]):=⟨cStmt_def⟩
instance : FE cPnt (fun p => [iv p.op,iv p.x,iv p.y,iv p.n,sl cI p.next]):=⟨fun _ => rfl⟩
instance : FE cIss (fun p => [iv p.point,iv p.kind,iv p.with_]):=⟨fun _ => rfl⟩
instance : FE cAcc (fun p => [iv p.var,bv p.write]):=⟨fun _ => rfl⟩
mutual
theorem pur_cStmt:∀ s,pursB (cStmt s) = true
 | .mk o x y n t e => by simp only [cStmt,pursB,AV.pur,pur_cStmts t,pur_cStmts e,Bool.and_self]
theorem pur_cStmts:∀ l,pursB (cStmts l) = true
 | [] => rfl
 | s :: l => by simp only [cStmts,pursB_append,pur_cStmt s,pur_cStmts l,Bool.and_self]
end
instance (s : Stmt) : Pur (cStmt s):=⟨pur_cStmt s⟩
instance (s : Pnt) : Pur (cPnt s):=⟨by simp only [cPnt,pursB,AV.pur,pur_sl,Bool.and_self]; simp only [(inferInstance : Pur (flat cI s.next)).pf,Bool.and_self]⟩
instance (s : Iss) : Pur (cIss s):=⟨rfl⟩
instance (s : Acc) : Pur (cAcc s):=⟨rfl⟩
abbrev aStmt (s : Stmt) : AV := .agg [iv s.op,iv s.x,iv s.y,iv s.n,sl cStmt s.th,sl cStmt s.el]
abbrev aPnt (p : Pnt) : AV := .agg [iv p.op,iv p.x,iv p.y,iv p.n,sl cI p.next]
abbrev aPrg (p : Prg) : AV := .agg [sl cI p.types,sl cStmt p.body]
abbrev aIss (p : Iss) : AV := .agg [iv p.point,iv p.kind,iv p.with_]
def typeAt (types : List Int) (v : Int) : Int := if 0 ≤ v ∧ v < types.length then types[v.toNat]! else 0
def isRef (t : Int) : Bool := decide (t = 3) || decide (t = 4)
def useAt (types : List Int) (x : Pnt) (v : Int) : Int :=
 if x.op = 3 then (if v = x.y then (if types[v.toNat]! = 2 ∨ types[v.toNat]! = 4 then 2 else 1) else 0)
 else if x.op = 4 ∨ x.op = 5 ∨ x.op = 6 then (if v = x.y then 3 else 0)
 else if x.op = 7 then (if v = x.x then 3 else if v = x.y then 1 else 0)
 else if x.op = 8 then (if v = x.x then 2 else 0) else 0
def setAt (x : Pnt) : Int := if 1 ≤ x.op ∧ x.op ≤ 6 then x.x else -1
theorem getB {α:Type}[Inhabited α] (xs:List α) (i:Nat) (h:i < xs.length):xs[i]! = xs[i] := getElem!_pos xs i h
theorem all_iff {α:Type}[Inhabited α] (p:α → Bool) (xs:List α):xs.all p = true ↔ ∀ i,i < xs.length → p xs[i]! = true:=by
 rw [List.all_eq_true]
 constructor
 ·intro h i hi;rw [getB _ _ hi]; exact h _ (List.getElem_mem hi)
 ·intro h x hx
  obtain ⟨i,hi,rfl⟩ := List.getElem_of_mem hx
  have := h i hi;rwa [getB _ _ hi] at this
theorem all_false {α:Type}[Inhabited α] (p:α → Bool) (xs:List α) (i:Nat) (hi:i < xs.length) (h:p xs[i]! = false):xs.all p = false:=by
 rw [Bool.eq_false_iff]; intro h2;rw [all_iff] at h2;have := h2 i hi;rw [h] at this;cases this
theorem take_succB {α:Type}[Inhabited α] (xs:List α) (k:Nat) (h:k < xs.length):xs.take (k + 1) = xs.take k ++ [xs[k]!]:=by
 rw [getB _ _ h,List.take_succ_eq_append_getElem h]
theorem drop_consB {α:Type}[Inhabited α] (xs:List α) (k:Nat) (h:k < xs.length):xs.drop k = xs[k]! :: xs.drop (k + 1):=by
 rw [getB _ _ h,List.drop_eq_getElem_cons h]
end Go.AL
