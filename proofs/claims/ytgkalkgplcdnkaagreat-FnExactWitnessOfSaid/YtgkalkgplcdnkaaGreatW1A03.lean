/-
 A part of the proofs over this program: rules and contracts of its functions (the rules).
-/
import Derived.Test.YtgkalkgplcdnkaaGreatW1A02
import Derived.KernelRfl
import Derived.Test.YtgkalkgplcdnkaaGreatProg
set_option linter.unusedVariables false
set_option linter.unusedSimpArgs false
namespace Go.AL
open Go.RowKit
section
variable {P : Program} {N : Nat} {Q : Exit → AS → Prop} {all : Array Oper} {rest : List Oper} {ts : List (Nat × AV)} {hs : List (Nat × Option (List AV))} {n : Nat} {z0 : Lo} {md : Md}
variable {d : Option Tmp} {ty : TypeId} {pos : String} {af : Array Edge}
def sI (hs : List (Nat × Option (List AV))) (H0 : List (Nat × Option (List AV))) (mp : List Nat) : Nat → List Nat → Prop
 | _,[] => True
 | j,i :: is => (∃ cs cs',aO H0 j = some cs ∧ aO hs i = some cs' ∧ RnL (mp[·]?) cs cs') ∧ sI hs H0 mp (j + 1) is
theorem v8 {H0:List (Nat × Option (List AV))}{mp:List Nat}:∀ {is:List Nat}{j0:Nat},sI hs H0 mp j0 is → ∀ (j i:Nat),is[j]? = some i → ∃ cs cs',aO H0 (j0 + j) = some cs ∧ aO hs i = some cs' ∧ RnL (mp[·]?) cs cs'
 | [],_,_,j,i,h => by simp at h
 | x :: is, j0, hh, j, i, h => by
  simp only [sI] at hh
  cases j with
  | zero => simp at h;subst h;simpa using hh.1
  | succ j =>
   have := v8 hh.2 j i (by simpa using h)
   rwa [show j0 + 1 + j = j0 + (j + 1) from by omega] at this
def fZ (n : Nat) : List (Nat × Option (List AV)) → Bool
 | [] => true
 | (i,_) :: l => Nat.blt i n && fZ n l
theorem sU {n:Nat}:∀ {l:List (Nat × Option (List AV))},fZ n l = true → ∀ j cs,aO l j = some cs → j < n
 | [],_,j,cs,h => by simp [aO] at h
 | (i, c) :: l, hk, j, cs, h => by
  simp only [fZ,Bool.and_eq_true] at hk
  simp only [bU] at h
  split at h
  ·rename_i e;subst e;exact dD hk.1
  ·exact sU hk.2 j cs h
theorem DC {k:FuncId}{args:Array Operand}{tys:Array TypeId}{avs avs0:List AV}{H0:List (Nat × Option (List AV))}{rr rr':AV}{hh ws:List (Nat × Option (List AV))}
  (mp : List Nat) (n1 : Nat) (hc : fC P k = true) (ha : evL (lk ts) args.toList = some avs) (h : MC P k avs0 H0 mp.length (fun _ : Unit => True) (fun _ => rr) (fun _ => hh)) (hd : distinct mp = true)
  (hH0 : sI hs H0 mp 0 mp) (hk : fZ mp.length H0 = true) (har : RnL (mp[·]?) avs0 avs) (hM : Nat.ble (n + (n1 - mp.length)) aT = true)
  (hr : RnV (zI mp n n1) rr rr') (hw : WsOk mp (zI mp n n1) hh ws) (hN : ∀ x,d = some x → x < N)
  (kk : RW P N all Q (md.add (jU args.toList ++ mp.map .inr) (ws.map (fun p => .inr p.1) ++ wD d)) rest (put ⟨ts,nK hs ws,n + (n1 - mp.length),z0⟩ d rr')) : RW P N all Q md (⟨d,.call ⟨.value (.func k),args,tys⟩,ty,pos,af,none⟩ :: rest) ⟨ts,hs,n,z0⟩ := by
 have hM' := Nat.le_of_ble_eq_true hM
 refine iF (rs := jU args.toList ++ mp.map .inr) (ws := ws) (n' := n + (n1 - mp.length)) (out := rr') rfl (Nat.le_add_right _ _) (.inr hM') (fun C ι F T H a w K Q' hCN ag hF g gh hK => ?_) hN kk
 simp only [Oper.wp,eT hc,Oper.upon]
 refine (F2 (nid := n) (n1 := n1) h hd gh (fun j i hj => ?_) (sU hk) har hF (fun _ _ => hr) (fun _ _ => hw) (gA g (ag.l.evL.trans ha))).mono ?_
 ·obtain ⟨cs, cs', q1, q2, q3⟩ := v8 hH0 j i hj
  exact ⟨cs,cs',by simpa using q1,by rw [ag.r.h i (List.mem_map_of_mem (List.mem_of_getElem? hj))]; exact q2,q3⟩
 ·rintro e w' ⟨v, x, ι', rfl, hx, g', c', hrd⟩
  exact hK ι' w' v (g.carry c') g' hrd
mutual
def AV.free : AV → Bool
 | .v _ => true
 | .any => true
 | .agg cs => jX cs
 | .tup cs => jX cs
 | _ => false
def jX : List AV → Bool
 | [] => true
 | c :: cs => c.free && jX cs
end
mutual
theorem Rd.free {w:World}{bad bad2:Nat → Prop}{ι ι2:Pl}:∀ (av:AV) (y:Value),av.free = true → Rd w bad ι av y → Rd w bad2 ι2 av y
 | .v x,y,_,h => by simpa only [Rd] using h
 | .any,y,_,h => by simpa only [Rd] using h
 | .imm n cs,y,hp,h => by simp [AV.free] at hp
 | .iptr cs,y,hp,h => by simp [AV.free] at hp
 | .own id off n e,y,hp,h => by simp [AV.free] at hp
 | .ownc id off n c e,y,hp,h => by simp [AV.free] at hp
 | .optr id off,y,hp,h => by simp [AV.free] at hp
 | .clos _ _ _,y,hp,h => by simp [AV.free] at hp
 | .agg cs, y, hp, h => by
  simp only [AV.free] at hp
  simp only [Rd] at h ⊢
  obtain ⟨l,h1,h2⟩ := h
  exact ⟨l,h1,RdL.free cs l hp h2⟩
 | .tup cs, y, hp, h => by
  simp only [AV.free] at hp
  simp only [Rd] at h ⊢
  obtain ⟨l,h1,h2⟩ := h
  exact ⟨l,h1,RdV.free cs l hp h2⟩
theorem RdL.free {w:World}{bad bad2:Nat → Prop}{ι ι2:Pl}:∀ (cs:List AV) (l:List Value),jX cs = true → RdL w bad ι cs l → RdL w bad2 ι2 cs l
 | [],l,_,h => by simpa only [RdL] using h
 | c :: cs, l, hp, h => by
  simp only [jX,Bool.and_eq_true] at hp
  simp only [RdL] at h ⊢
  obtain ⟨x,l',h0,h1,h2,h3⟩ := h
  exact ⟨x,l',h0,h1,Rd.free c x hp.1 h2,RdL.free cs l' hp.2 h3⟩
theorem RdV.free {w:World}{bad bad2:Nat → Prop}{ι ι2:Pl}:∀ (cs:List AV) (l:List Value),jX cs = true → RdV w bad ι cs l → RdV w bad2 ι2 cs l
 | [],l,_,h => by simpa only [RdV] using h
 | c :: cs, l, hp, h => by
  simp only [jX,Bool.and_eq_true] at hp
  simp only [RdV] at h ⊢
  obtain ⟨x,l',h0,h2,h3⟩ := h
  exact ⟨x,l',h0,Rd.free c x hp.1 h2,RdV.free cs l' hp.2 h3⟩
end
def gV (H : Nat → Option (List AV)) : AV → Option AV
 | .own id off m e => (H id).bind fun cs => if bE cs then some (.imm m (cs.drop off)) else none
 | .optr id off => (H id).bind fun cs => if bE cs then some (.iptr (cs.drop off)) else none
 | .agg cs => if bE cs then some (.agg cs) else none
 | .tup cs => if bE cs then some (.tup cs) else none
 | .imm m cs => if bE cs then some (.imm m cs) else none
 | .iptr cs => if bE cs then some (.iptr cs) else none
 | .v x => some (.v x)
 | .any => some .any
 | _ => none
def iG (H : Nat → Option (List AV)) : List AV → Option (List AV)
 | [] => some []
 | c :: cs => match gV H c,iG H cs with|some x,some l => some (x :: l) | _,_ => none
def rL (H : List AV) : List gI := H.flatMap fun av => match av with | .own id _ _ _ => [.inr id] | .optr id _ => [.inr id] | _ => []
theorem C4 {T:Nat → Option AV}{H:Nat → Option (List AV)}:∀ {av:AV},Agr (rL [av]) ts hs T H → gV H av = gV (aO hs) av
 | .own id off m e,g => by simp only [gV]; rw [g.h id (by simp [rL])]
 | .optr id off,g => by simp only [gV]; rw [g.h id (by simp [rL])]
 | .v _,_ => rfl
 | .any,_ => rfl
 | .imm _ _,_ => rfl
 | .iptr _,_ => rfl
 | .agg _,_ => rfl
 | .tup _,_ => rfl
 | .clos _ _ _,_ => rfl
 | .ownc _ _ _ _ _,_ => rfl
theorem sF {T:Nat → Option AV}{H:Nat → Option (List AV)}:∀ {l:List AV},Agr (rL l) ts hs T H → iG H l = iG (aO hs) l
 | [],_ => rfl
 | c :: cs, g => by
  have h1 : Agr (rL [c]) ts hs T H := g.sub fun r hr => by simp only [rL,List.flatMap_cons,List.flatMap_nil,List.append_nil] at hr ⊢; exact List.mem_append_left _ hr
  have h2 : Agr (rL cs) ts hs T H := g.sub fun r hr => by simp only [rL,List.flatMap_cons] at hr ⊢; exact List.mem_append_right _ hr
  simp only [iG]
  rw [C4 h1,sF h2]
theorem Cu {H:Nat → Option (List AV)}:∀ {av out:AV},gV H av = some out → out.pur = true:=by
 intro av out h
 have hdrop : ∀ (k : Nat) (cs : List AV), bE cs = true → bE (cs.drop k) = true := by
  intro k
  induction k with
  | zero => intro cs h;simpa using h
  | succ k ih =>
   intro cs h
   cases cs with
   | nil => simp [bE]
   | cons c cs => simp only [bE,Bool.and_eq_true] at h;simpa using ih cs h.2
 cases av <;> simp only [gV] at h
 ·cases h;rfl
 ·cases h;rfl
 ·split at h <;> cases h;rename_i hp;exact hp
 ·split at h <;> cases h;rename_i hp;exact hp
 ·rename_i id off m e
  cases hH : H id with
  | none => simp [hH] at h
  | some cs =>
   simp only [hH,Option.bind_some] at h
   split at h <;> cases h
   rename_i hp;exact hdrop _ _ hp
 ·rename_i id off
  cases hH : H id with
  | none => simp [hH] at h
  | some cs =>
   simp only [hH,Option.bind_some] at h
   split at h <;> cases h
   rename_i hp;exact hdrop _ _ hp
 ·split at h <;> cases h;rename_i hp;exact hp
 ·split at h <;> cases h;rename_i hp;exact hp
 ·cases h
 ·cases h
theorem Fk {C:Ctx}{ι:Pl}{F:Nat → Prop}{H:Nat → Option (List AV)}{w:World}(g:HG C ι F H w){av out:AV}{y:Value}(h:gV H av = some out) (hy:Rd w (aE C.X ι H) ι av y):Rd w C.X (fun _ => none) out y:=by
 have hc0 : ∀ ι2 : Pl,Carry w (aE C.X ι H) ι2 w C.X ι2 := fun ι2 => ⟨fun b o x h1 h2 => ⟨fun q => h1 (.inl q),h2⟩,fun _ _ h => h,fun _ => Nat.le_refl _⟩
 have pure : ∀ {av : AV},av.pur = true → Rd w (aE C.X ι H) ι av y → Rd w C.X (fun _ => none) av y := fun hp hy => Rd.pur _ y hp (Rd.carry (hc0 ι) _ _ hy)
 cases av <;> simp only [gV] at h
 ·cases h;exact pure rfl hy
 ·cases h;exact pure rfl hy
 ·split at h <;> cases h;rename_i hp;exact pure hp hy
 ·split at h <;> cases h;rename_i hp;exact pure hp hy
 ·rename_i id off m e
  cases hH : H id with
  | none => simp [hH] at h
  | some cs =>
   simp only [hH,Option.bind_some] at h
   split at h <;> cases h
   rename_i hp
   simp only [Rd] at hy ⊢
   rcases hy with ⟨_,rfl,a,rfl⟩ | ⟨b,β,c,h1,rfl,h2,h3⟩
   ·exact ⟨a,0,rfl,.inl rfl⟩
   ·rcases g.obj id cs hH with ⟨q, _⟩ | ⟨b', β', arr, e', q, q4, q5, q6, q7, q8⟩
    ·rw [q] at h1;cases h1
    ·rw [q] at h1; cases h1
     exact ⟨_,c,rfl,.inr ⟨_,_,h2,rfl,dF off (.inr ⟨q7,RdC.pur cs b β hp (RdC.carryB (hc0 ι) _ _ _ (fun o x hx => hx) q6)⟩)⟩⟩
 ·rename_i id off
  cases hH : H id with
  | none => simp [hH] at h
  | some cs =>
   simp only [hH,Option.bind_some] at h
   split at h <;> cases h
   rename_i hp
   simp only [Rd] at hy ⊢
   obtain ⟨b,β,h1,rfl⟩ := hy
   rcases g.obj id cs hH with ⟨q,_⟩ | ⟨b',β',arr,e',q,q4,q5,q6,q7,q8⟩
   ·rw [q] at h1;cases h1
   ·rw [q] at h1; cases h1
    exact ⟨_,_,rfl,dF off (.inr ⟨q7,RdC.pur cs b β hp (RdC.carryB (hc0 ι) _ _ _ (fun o x hx => hx) q6)⟩)⟩
 ·split at h <;> cases h;rename_i hp;exact pure hp hy
 ·split at h <;> cases h;rename_i hp;exact pure hp hy
 ·cases h
 ·cases h
theorem wA {C:Ctx}{ι:Pl}{F:Nat → Prop}{H:Nat → Option (List AV)}{w:World}(g:HG C ι F H w):∀ {l out:List AV}{ys:List Value},iG H l = some out → RdV w (aE C.X ι H) ι l ys → RdV w C.X (fun _ => none) out ys ∧ bE out = true
 | [],out,ys,h,hy => by simp only [iG,Option.some.injEq] at h;subst h;simp only [RdV] at hy ⊢; exact ⟨hy,rfl⟩
 | c :: cs, out, ys, h, hy => by
  simp only [iG] at h
  split at h
  ·rename_i x l h1 h2
   cases h
   simp only [RdV] at hy ⊢
   obtain ⟨y,ys',rfl,q1,q2⟩ := hy
   obtain ⟨q3,q4⟩ := wA g h2 q2
   exact ⟨⟨y,ys',rfl,Fk g h1 q1,q3⟩,by simp only [bE,Bool.and_eq_true]; exact ⟨Cu h1,q4⟩⟩
  ·cases h
theorem H9 {k:FuncId}{args:Array Operand}{tys:Array TypeId}{avs avs2:List AV}{r:AV}{d:Nat}(hc:fC P k = true) (ha:evL (lk ts) args.toList = some avs) (hl:iG (aO hs) avs = some avs2) (h:PC P k avs2 (fun x => x = r)) (hfr:r.free = true) (hN:d < N)
  (kk : RW P N all Q (md.add (jU args.toList ++ rL avs) [.inl d]) rest ⟨(d,r) :: ts,hs,n,z0⟩) : RW P N all Q md (⟨some d,.call ⟨.value (.func k),args,tys⟩,ty,pos,af,none⟩ :: rest) ⟨ts,hs,n,z0⟩ := by
 refine iF (rs := jU args.toList ++ rL avs) (ws := []) (n' := n) (out := r) rfl (Nat.le_refl _) (.inl rfl) (fun C ι F T H a w K Q' hCN ag hF g gh hK => ?_) (fun x hx => by cases hx;exact hN) kk
 simp only [Oper.wp,eT hc,Oper.upon]
 obtain ⟨hv,hp⟩ := wA gh ((sF ag.r).trans hl) (gA g (ag.l.evL.trans ha))
 let C' : Ctx := { N := 0,w0 := w,W0 := fun _ => False,X := C.X,ι0 := fun _ => none,xlt := fun b hb => Nat.lt_of_lt_of_le (C.xlt b hb) gh.fr.size }
 have hbad : ∀ b,aE C'.X (fun _ => none) (aO []) b ↔ C.X b := fun b => ⟨fun h => (by rcases h with h | ⟨id,cs,β,h1,h2⟩ <;> first|exact h|cases h2),fun h => Or.inl h⟩
 have g' : HG C' (fun _ => none) (fun j => 0 ≤ j) (aO []) w :=
  ⟨fun id cs h => by simp [aO] at h,fun id id' cs cs' b β β' h => by simp [aO] at h,Fr.refl _ _,fun _ _ h => h,fun _ _ => rfl⟩
 have hcar : Carry w C.X (fun _ => none) w (aE C'.X (fun _ => none) (aO [])) (fun _ => none) := ⟨fun b o x h1 h2 => ⟨fun h => h1 ((hbad b).1 h),h2⟩,fun _ _ h => h,fun _ => Nat.le_refl _⟩
 refine (h C' _ w _ rfl rfl g' (RdV.carry hcar _ _ hv)).mono ?_
 rintro e w' ⟨v,r',H',ι',rfl,⟨rfl,_⟩,h4,h5⟩
 obtain ⟨g2,c2⟩ := gh.ext h5.fr
 exact hK ι w' v (g.carry c2) (g2.less (fun _ _ h => h) (fun j hj => hj.1)).1 (Rd.free _ _ hfr h4)
end
class SlT (P : Program) (t : Nat) (e : outParam Nat) : Prop where pf : lS P t = some e
class SzT (P : Program) (t : Nat) (e : outParam Nat) : Prop where pf : eR P t = some e
class ByT (P : Program) (t : Nat) (e : outParam Nat) : Prop where pf : yS P t = some e
class AgT (P : Program) (t : Nat) (e : outParam Bool) : Prop where pf : p9 P t = some e
class ZrT (P : Program) (t : Nat) (e : outParam (List Value)) : Prop where pf : nO P t = some e
class FdT (P : Program) (t f : Nat) (o ft : outParam Nat) : Prop where pf : wT P t f = some (o,ft)
class ArT (P : Program) (t : Nat) (n e : outParam Nat) : Prop where pf : Aj P t = some (n,e)
class PtT (P : Program) (t : Nat) (l : outParam (List (Nat × Nat))) : Prop where pf : Ir P t = some l
class CaT (P : Program) (k : Nat) : Prop where pf : fC P k = true
class MdA (md : Md) (rs ws : List gI) (md' : outParam Md) : Prop where pf : md.add rs ws = md'
instance (rs ws : List gI) : MdA .txt rs ws .txt:=⟨rfl⟩
instance (ks : List (List gI × List gI)) (p rs ws : List gI) : MdA (.drw ks p) rs ws (.drw (ks ++ [(p ++ rs,ws)]) []):=⟨rfl⟩
class MdP (md : Md) (r : gI) (md' : outParam Md) : Prop where pf : md.pen r = md'
instance (r : gI) : MdP .txt r .txt:=⟨rfl⟩
instance (ks : List (List gI × List gI)) (p : List gI) (r : gI) : MdP (.drw ks p) r (.drw ks (r :: p)):=⟨rfl⟩
def flat {α : Type} (f : α → List AV) (xs : List α) : List AV := xs.flatMap f
class FlT {α : Type} (f : α → List AV) (e : outParam Nat) : Prop where pf : ∀ x,(f x).length = e
theorem aK {α:Type}(f:α → List AV){e:Nat}[h:FlT f e]:∀ (xs:List α),(flat f xs).length = xs.length * e
 | [] => by simp [flat]
 | x :: xs => by
  have := aK f (e := e) xs
  simp only [flat,List.flatMap_cons,List.length_append,List.length_cons,h.pf] at this ⊢
  rw [this,Nat.add_mul]; omega
theorem fL {α:Type}[Inhabited α] (f:α → List AV){e:Nat}[h:FlT f e]:∀ (xs:List α) (k:Nat),k < xs.length → (flat f xs).drop (k * e) = f xs[k]! ++ flat f (xs.drop (k + 1))
 | [],k,hk => by simp at hk
 | x :: xs,0,_ => by simp [flat]
 | x :: xs, k + 1, hk => by
  have := fL f (e := e) xs k (by simpa using hk)
  simp only [flat,List.flatMap_cons,List.drop_succ_cons] at this ⊢
  rw [show (k + 1) * e = (f x).length + k * e from by rw [h.pf,Nat.add_mul]; omega,← List.drop_drop,List.drop_left,this]
  simp
theorem fK {α:Type}(f:α → List AV){e:Nat}[h:FlT f e]:∀ (xs:List α) (k:Nat),(flat f xs).take (k * e) = flat f (xs.take k)
 | [],k => by simp [flat]
 | x :: xs,0 => by simp [flat]
 | x :: xs, k + 1 => by
  have := fK f (e := e) xs k
  simp only [flat,List.flatMap_cons,List.take_succ_cons] at this ⊢
  rw [show (k + 1) * e = (f x).length + k * e from by rw [h.pf,Nat.add_mul]; omega,List.take_length_add_append,this]
theorem gS {α:Type}(f:α → List AV){e:Nat}[h:FlT f e]:∀ (xs:List α) (k:Nat),(flat f xs).drop (k * e) = flat f (xs.drop k)
 | [],k => by simp [flat]
 | x :: xs,0 => by simp [flat]
 | x :: xs, k + 1 => by
  have := gS f (e := e) xs k
  simp only [flat,List.flatMap_cons,List.drop_succ_cons] at this ⊢
  rw [show (k + 1) * e = (f x).length + k * e from by rw [h.pf,Nat.add_mul]; omega,← List.drop_drop,List.drop_left,this]
theorem bX {α:Type}(f:α → List AV) (xs ys:List α):flat f xs ++ flat f ys = flat f (xs ++ ys) := by simp [flat]
theorem kE {α:Type}(f:α → List AV) (x:α):flat f [x] = f x := by simp [flat]
theorem EO {α:Type}(f:α → List AV){e:Nat}[h:FlT f e] (xs:List α) (k:Nat) (y:α) (hk:k < xs.length):iQ (flat f xs) (k * e) (f y) = flat f (xs.set k y):=by
 unfold iQ
 rw [fK,h.pf,show k * e + e = (k + 1) * e from by rw [Nat.add_mul]; omega,gS,← kE f y,bX,bX]
 congr 1
 rw [List.set_eq_take_append_cons_drop,if_pos hk]
 simp
abbrev sl {α : Type} (f : α → List AV) (xs : List α) : AV := .imm xs.length (flat f xs)
abbrev iv (n : Int) : AV := .v (.int .i64 n)
abbrev bv (b : Bool) : AV := .v (.bool b)
def cI (n : Int) : List AV := [.v (.int .i64 n)]
def cB (b : Bool) : List AV := [.v (.bool b)]
instance : FlT cI 1:=⟨fun _ => rfl⟩
instance : FlT cB 1:=⟨fun _ => rfl⟩
theorem gF:∀ (xs ys:List AV),bE (xs ++ ys) = (bE xs && bE ys)
 | [],ys => by simp [bE]
 | x :: xs,ys => by simp [bE,gF xs ys,Bool.and_assoc]
theorem rM {α:Type}(f:α → List AV) (h:∀ x,bE (f x) = true):∀ xs,bE (flat f xs) = true
 | [] => rfl
 | x :: xs => by
  have := rM f h xs
  simp only [flat,List.flatMap_cons,gF,h,Bool.true_and] at this ⊢
  exact this
class FE {α : Type} (f : α → List AV) (g : outParam (α → List AV)) : Prop where pf : ∀ x,f x = g x
instance : FE cI (fun n => [.v (.int .i64 n)]):=⟨fun _ => rfl⟩
instance : FE cB (fun n => [.v (.bool n)]):=⟨fun _ => rfl⟩
class Pur (av : List AV) : Prop where pf : bE av = true
instance (n : Int) : Pur (cI n):=⟨rfl⟩
instance (n : Bool) : Pur (cB n):=⟨rfl⟩
instance {α : Type} (f : α → List AV) [h : ∀ x,Pur (f x)] (xs : List α) : Pur (flat f xs):=⟨rM f (fun x => (h x).pf) xs⟩
theorem a8 {α:Type}(f:α → List AV) [h:∀ x,Pur (f x)] (xs:List α):(sl f xs).pur = true := by simp only [AV.pur]; exact rM f (fun x => (h x).pf) xs
section
variable {P : Program} {N : Nat} {Q : Exit → AS → Prop} {all : Array Oper} {rest : List Oper} {ts : List (Nat × AV)} {hs : List (Nat × Option (List AV))} {n : Nat} {z0 : Lo} {md : Md}
variable {d : Nat} {ty : TypeId} {pos : String} {af : Array Edge}
theorem GD {x:Operand}{av:AV}(hx:ev (lk ts) x = some av) (hN:Nat.blt d N = true){md':Md}[hmd:MdA md (rO x) [.inl d] md'] (k:RW P N all Q md' rest ⟨(d,av) :: ts,hs,n,z0⟩):RW P N all Q md (⟨some d,.move x,ty,pos,af,none⟩ :: rest) ⟨ts,hs,n,z0⟩ := HY hx (dD hN) (by rw [hmd.pf]; exact k)
theorem sO {x:Operand}{av:AV}(hx:ev (lk ts) x = some av) (hN:Nat.blt d N = true){md':Md}[hmd:MdA md (rO x) [.inl d] md'] (k:RW P N all Q md' rest ⟨(d,av) :: ts,hs,n,z0⟩):RW P N all Q md (⟨some d,.assign x,ty,pos,af,none⟩ :: rest) ⟨ts,hs,n,z0⟩ := CB hx (dD hN) (by rw [hmd.pf]; exact k)
theorem JQ {op:BinOp}{t t':TypeId}{x y:Operand}{k:IntKind}{m m':Int}{v:Value}(hx:ev (lk ts) x = some (.v (.int k m))) (hy:ev (lk ts) y = some (.v (.int k m')))
  (h : jC op k m m' = some v) (hN : Nat.blt d N = true) {md' : Md} [hmd : MdA md (rO x ++ rO y) [.inl d] md'] (kk : RW P N all Q md' rest ⟨(d,.v v) :: ts,hs,n,z0⟩) : RW P N all Q md (⟨some d,.binOp op t x y t',ty,pos,af,none⟩ :: rest) ⟨ts,hs,n,z0⟩ := gH hx hy (.inl rfl) h (dD hN) (by rw [hmd.pf]; exact kk)
theorem IV {t t':TypeId}{x y:Operand}{m m':Int}(hx:ev (lk ts) x = some (.v (.int .i64 m))) (hy:ev (lk ts) y = some (.v (.int .i64 m')))
  (h : -9223372036854775808 ≤ m + m' ∧ m + m' ≤ 9223372036854775807) (hN : Nat.blt d N = true) {md' : Md} [hmd : MdA md (rO x ++ rO y) [.inl d] md'] (kk : RW P N all Q md' rest ⟨(d,.v (.int .i64 (m + m'))) :: ts,hs,n,z0⟩) : RW P N all Q md (⟨some d,.binOp .add t x y t',ty,pos,af,none⟩ :: rest) ⟨ts,hs,n,z0⟩ := I0 hx hy h (dD hN) (by rw [hmd.pf]; exact kk)
theorem J7 {t t':TypeId}{x y:Operand}{m m':Int}(hx:ev (lk ts) x = some (.v (.int .i64 m))) (hy:ev (lk ts) y = some (.v (.int .i64 m')))
  (h : -9223372036854775808 ≤ m - m' ∧ m - m' ≤ 9223372036854775807) (hN : Nat.blt d N = true) {md' : Md} [hmd : MdA md (rO x ++ rO y) [.inl d] md'] (kk : RW P N all Q md' rest ⟨(d,.v (.int .i64 (m - m'))) :: ts,hs,n,z0⟩) : RW P N all Q md (⟨some d,.binOp .sub t x y t',ty,pos,af,none⟩ :: rest) ⟨ts,hs,n,z0⟩ := IS hx hy h (dD hN) (by rw [hmd.pf]; exact kk)
theorem JY {t:TypeId}{x:Operand}{b:Bool}(hx:ev (lk ts) x = some (.v (.bool b))) (hN:Nat.blt d N = true){md':Md}[hmd:MdA md (rO x) [.inl d] md'] (kk:RW P N all Q md' rest ⟨(d,.v (.bool !b)) :: ts,hs,n,z0⟩):RW P N all Q md (⟨some d,.unOp .not t x,ty,pos,af,none⟩ :: rest) ⟨ts,hs,n,z0⟩ := JU hx (dD hN) (by rw [hmd.pf]; exact kk)
theorem Jm {x:Operand}{av:AV}(hx:ev (lk ts) x = some av) (hp:Bp av = true) (hN:Nat.blt d N = true){md':Md}[hmd:MdA md (rO x) [.inl d] md'] (kk:RW P N all Q md' rest ⟨(d,av) :: ts,hs,n,z0⟩):RW P N all Q md (⟨some d,.nilCheck x,ty,pos,af,none⟩ :: rest) ⟨ts,hs,n,z0⟩ := HP hx hp (dD hN) (by rw [hmd.pf]; exact kk)
theorem vR {s:TypeId}{f:Nat}{x:Operand}{av out:AV}{fo ft z:Nat}[hf:FdT P s f fo ft] [hz:SzT P ft (z + 1)] (hx:ev (lk ts) x = some av) (hp:yK fo av = some out) (hN:Nat.blt d N = true)
  {md' : Md} [hmd : MdA md (rO x) [.inl d] md'] (kk : RW P N all Q md' rest ⟨(d,out) :: ts,hs,n,z0⟩) : RW P N all Q md (⟨some d,.fieldAddr s x f,ty,pos,af,none⟩ :: rest) ⟨ts,hs,n,z0⟩ := tS hx hf.pf hz.pf hp (dD hN) (by rw [hmd.pf]; exact kk)
theorem pX {α:Type}{hα:Inhabited α}{f g:α → List AV}{xs:List α}{t el e m k:Nat}{x i:Operand}{kk0:IntKind}[ht:SlT P t el] [he:SzT P el e] (hx:ev (lk ts) x = some (.imm m (flat f xs)))
  (hi : ev (lk ts) i = some (.v (.int kk0 (k : Int)))) (hm : k < m) (hml : m = xs.length) (hf : FlT f e) (hg : FE f g) (hN : Nat.blt d N = true) {md' : Md} [hmd : MdA md (rO x ++ rO i) [.inl d] md'] (kk : RW P N all Q md' rest ⟨(d,.iptr (g xs[k]! ++ flat f (xs.drop (k + 1)))) :: ts,hs,n,z0⟩) :
  RW P N all Q md (⟨some d,.indexAddr t x i,ty,pos,af,none⟩ :: rest) ⟨ts,hs,n,z0⟩ :=
 eW hx hi ht.pf he.pf (by simp only [xS]; rw [if_pos (by omega),Int.toNat_natCast,fL f xs k (by omega),hg.pf]) (dD hN) (by rw [hmd.pf]; exact kk)
theorem sW {α:Type}{hα:Inhabited α}{f g:α → List AV}{xs:List α}{t el e m:Nat}{x i:Operand}{kk0:IntKind}{k:Int}[ht:SlT P t el] [he:SzT P el e] (hx:ev (lk ts) x = some (.imm m (flat f xs)))
  (hi : ev (lk ts) i = some (.v (.int kk0 k))) (hm : 0 ≤ k ∧ k < m) (hml : m = xs.length) (hf : FlT f e) (hg : FE f g) (hN : Nat.blt d N = true) {md' : Md} [hmd : MdA md (rO x ++ rO i) [.inl d] md'] (kk : RW P N all Q md' rest ⟨(d,.iptr (g xs[k.toNat]! ++ flat f (xs.drop (k.toNat + 1)))) :: ts,hs,n,z0⟩) :
  RW P N all Q md (⟨some d,.indexAddr t x i,ty,pos,af,none⟩ :: rest) ⟨ts,hs,n,z0⟩ :=
 eW hx hi ht.pf he.pf (by simp only [xS]; rw [if_pos hm,fL f xs k.toNat (by omega),hg.pf]) (dD hN) (by rw [hmd.pf]; exact kk)
theorem A7 {t el e m k id off e':Nat}{x i:Operand}{kk0:IntKind}[ht:SlT P t el] [he:SzT P el e] (hx:ev (lk ts) x = some (.own id off m e'))
  (hi : ev (lk ts) i = some (.v (.int kk0 (k : Int)))) (hm : k < m) (hN : Nat.blt d N = true) {md' : Md} [hmd : MdA md (rO x ++ rO i) [.inl d] md'] (kk : RW P N all Q md' rest ⟨(d,.optr id (off + k * e)) :: ts,hs,n,z0⟩) :
  RW P N all Q md (⟨some d,.indexAddr t x i,ty,pos,af,none⟩ :: rest) ⟨ts,hs,n,z0⟩ :=
 eW hx hi ht.pf he.pf (by simp only [xS]; rw [if_pos (by omega),Int.toNat_natCast]) (dD hN) (by rw [hmd.pf]; exact kk)
theorem Dc {t el e m id off e':Nat}{x i:Operand}{kk0:IntKind}{k:Int}[ht:SlT P t el] [he:SzT P el e] (hx:ev (lk ts) x = some (.own id off m e'))
  (hi : ev (lk ts) i = some (.v (.int kk0 k))) (hm : 0 ≤ k ∧ k < m) (hN : Nat.blt d N = true) {md' : Md} [hmd : MdA md (rO x ++ rO i) [.inl d] md'] (kk : RW P N all Q md' rest ⟨(d,.optr id (off + k.toNat * e)) :: ts,hs,n,z0⟩) :
  RW P N all Q md (⟨some d,.indexAddr t x i,ty,pos,af,none⟩ :: rest) ⟨ts,hs,n,z0⟩ :=
 eW hx hi ht.pf he.pf (by simp only [xS]; rw [if_pos hm]) (dD hN) (by rw [hmd.pf]; exact kk)
theorem yG {t:TypeId}{x:Operand}{av c:AV}{cs:List AV}[ha:AgT P t false] (hx:ev (lk ts) x = some av)
  (hd : deref (aO hs) av = some cs) (hc : cs[0]? = some c) (hN : Nat.blt d N = true) {md' : Md} [hmd : MdA md (rO x ++ rA av) [.inl d] md'] (kk : RW P N all Q md' rest ⟨(d,c) :: ts,hs,n,z0⟩) : RW P N all Q md (⟨some d,.load t x,ty,pos,af,none⟩ :: rest) ⟨ts,hs,n,z0⟩ := kA hx ha.pf hd hc (dD hN) (by rw [hmd.pf]; exact kk)
theorem Ee {t:TypeId}{x:Operand}{av:AV}{z:Nat}{cs cs':List AV}[ha:AgT P t true] [hz:SzT P t z] (hx:ev (lk ts) x = some av)
  (hd : deref (aO hs) av = some cs) (hc : cs.take z = cs') (hn : cs'.length = z) (h0 : Nat.blt 0 z = true) (hN : Nat.blt d N = true) {md' : Md} [hmd : MdA md (rO x ++ rA av) [.inl d] md'] (kk : RW P N all Q md' rest ⟨(d,.agg cs') :: ts,hs,n,z0⟩) :
  RW P N all Q md (⟨some d,.load t x,ty,pos,af,none⟩ :: rest) ⟨ts,hs,n,z0⟩ := mT hx ha.pf hz.pf hd hc hn (by have := dD h0;omega) (dD hN) (by rw [hmd.pf]; exact kk)
theorem J2 {t el m:Nat}{x:Operand}{av:AV}{l:List TypeId}[ht:SlT P t el] (hx:ev (lk ts) x = some av)
  (hn : (match tC av with | .own _ _ n _ => some n | .imm n _ => some n | _ => none) = some m) (hN : Nat.blt d N = true) {md' : Md} [hmd : MdA md (rO x) [.inl d] md'] (kk : RW P N all Q md' rest ⟨(d,.v (.int .i64 (m : Int))) :: ts,hs,n,z0⟩) :
  RW P N all Q md (⟨some d,.call ⟨.builtin .len,#[x],(t :: l).toArray⟩,ty,pos,af,none⟩ :: rest) ⟨ts,hs,n,z0⟩ := JV (by simp) hx ht.pf hn (dD hN) (by rw [hmd.pf]; exact kk)
theorem zP {x:Operand}{i:Nat}{cs:List AV}{c:AV}(hx:ev (lk ts) x = some (.tup cs)) (hc:cs[i]? = some c) (hN:Nat.blt d N = true){md':Md}[hmd:MdA md (rO x) [.inl d] md'] (kk:RW P N all Q md' rest ⟨(d,c) :: ts,hs,n,z0⟩) :
  RW P N all Q md (⟨some d,.extract x i,ty,pos,af,none⟩ :: rest) ⟨ts,hs,n,z0⟩ := AM hx hc (dD hN) (by rw [hmd.pf]; exact kk)
theorem qZ {t:TypeId}{parts:Array (Nat × Operand)}{pl:List (Nat × Nat)}{zs:List Value}{l:List (Nat × AV)}{cs:List AV}[hp:PtT P t pl] [hz:ZrT P t zs]
  (hl : evs (lk ts) parts.toList = some l) (hf : gC (pl[·]?) (zs.map .v) l = some cs) (hN : Nat.blt d N = true) {md' : Md} [hmd : MdA md (Gj parts.toList) [.inl d] md'] (kk : RW P N all Q md' rest ⟨(d,.agg cs) :: ts,hs,n,z0⟩) :
  RW P N all Q md (⟨some d,.build t parts,ty,pos,af,none⟩ :: rest) ⟨ts,hs,n,z0⟩ := Eo hp.pf hz.pf hl hf (dD hN) (by rw [hmd.pf]; exact kk)
theorem DT {t:TypeId}{zs:List Value}[hz:ZrT P t zs] (hM:Nat.blt n aT = true) (hN:Nat.blt d N = true){md':Md}[hmd:MdA md ([]) [.inr n,.inl d] md'] (kk:RW P N all Q md' rest ⟨(d,.optr n 0) :: ts,(n,some (zs.map .v)) :: hs,n + 1,z0⟩) :
  RW P N all Q md (⟨some d,.alloc t,ty,pos,af,none⟩ :: rest) ⟨ts,hs,n,z0⟩ := Em hz.pf hM (dD hN) (by rw [hmd.pf]; exact kk)
theorem IU {t:TypeId}{x:Operand}{av:AV}{cs:List AV}(hx:ev (lk ts) x = some av) (hc:cellsOf av = some cs) (hM:Nat.blt n aT = true) (hN:Nat.blt d N = true){md':Md}[hmd:MdA md (rO x) [.inr n,.inl d] md'] (kk:RW P N all Q md' rest ⟨(d,.optr n 0) :: ts,(n,some cs) :: hs,n + 1,z0⟩) :
  RW P N all Q md (⟨some d,.box t x,ty,pos,af,none⟩ :: rest) ⟨ts,hs,n,z0⟩ := Jv hx hc hM (dD hN) (by rw [hmd.pf]; exact kk)
theorem lY {t el len e:Nat}{parts:Array (Nat × Operand)}{zs:List Value}{l:List (Nat × AV)}{cs:List AV}[ht:SlT P t el] [he:SzT P el e] [hz:ZrT P el zs] (hze:zs.length = e) (hsm:Nat.ble (len * e) 16777216 = true)
  (hl : evs (lk ts) parts.toList = some l) (hfl : gC (fun i => some (i * e,e)) ((List.replicate len (zs.map .v)).flatten) l = some cs) (hM : Nat.blt n aT = true) (hN : Nat.blt d N = true) {md' : Md} [hmd : MdA md (Gj parts.toList) [.inr n,.inl d] md'] (kk : RW P N all Q md' rest ⟨(d,.own n 0 len e) :: ts,(n,some cs) :: hs,n + 1,z0⟩) :
  RW P N all Q md (⟨some d,.buildSlice t len parts,ty,pos,af,none⟩ :: rest) ⟨ts,hs,n,z0⟩ := sC ht.pf he.pf hz.pf hze (by simpa using hsm) hl hfl hM (dD hN) (by rw [hmd.pf]; exact kk)
theorem b8 {t:TypeId}{x y:Operand}{id off z:Nat}{av:AV}{cs new cs':List AV}[hz:SzT P t z] (hx:ev (lk ts) x = some (.optr id off)) (hy:ev (lk ts) y = some av)
  (hc : cellsOf av = some new) (hn : new.length = z) (hH : aO hs id = some cs) (hl : off + new.length ≤ cs.length) (hcs : iQ cs off new = cs')
  {md' : Md} [hmd : MdA md (rO x ++ (rO y ++ [.inr id])) [.inr id] md'] (kk : RW P N all Q md' rest ⟨ts,(id,some cs') :: hs,n,z0⟩) : RW P N all Q md (⟨none,.store t x y,ty,pos,af,none⟩ :: rest) ⟨ts,hs,n,z0⟩ := yI hx hy hz.pf hc hn hH hl hcs (by rw [hmd.pf]; exact kk)
theorem cD {t el id off m m' e by':Nat}{x y:Operand}{av:AV}{cs new cs':List AV}{zs:List Value}[ht:SlT P t el] [he:SzT P el e] [hb:ByT P el by'] [hz:ZrT P el zs]
  (hx : ev (lk ts) x = some (.own id off m e)) (hy : ev (lk ts) y = some av) (hze : zs.length = e) (he0 : Nat.blt 0 e = true)
  (hH : aO hs id = some cs) (hl : off + m * e ≤ cs.length) (hs' : sCells (aO hs) e (tC av) = some (m',new)) (hbig : (m + m') * by' ≤ 140737488355328) (hmx : m + m' ≤ 9223372036854775807)
  (hcs : (cs.drop off).take (m * e) ++ new = cs') (hM : Nat.blt n aT = true) (hN : Nat.blt d N = true) {md' : Md} [hmd : MdA md (rO x ++ (rO y ++ ([.inr id] ++ rA av))) [.inr id,.inr n,.inl d] md'] (kk : RW P N all Q md' rest ⟨(d,.own n 0 (m + m') e) :: ts,(n,some cs') :: (id,none) :: hs,n + 1,z0⟩) :
  RW P N all Q md (⟨some d,.call ⟨.builtin .append,#[x,y],#[t,t]⟩,ty,pos,af,none⟩ :: rest) ⟨ts,hs,n,z0⟩ := Dr hx hy ht.pf he.pf hb.pf hz.pf hze (dD he0) rfl hH hl hs' hbig hmx hcs hM (dD hN) (by rw [hmd.pf]; exact kk)
theorem aA {k:FuncId}{args:Array Operand}{tys:Array TypeId}{avs:List AV}{r:AV}[hc:CaT P k] (ha:evL (lk ts) args.toList = some avs) (h:PC P k avs (fun x => x = r)) (hp:bE avs = true) (hN:Nat.blt d N = true)
  {md' : Md} [hmd : MdA md (jU args.toList) [.inl d] md'] (kk : RW P N all Q md' rest ⟨(d,r) :: ts,hs,n,z0⟩) : RW P N all Q md (⟨some d,.call ⟨.value (.func k),args,tys⟩,ty,pos,af,none⟩ :: rest) ⟨ts,hs,n,z0⟩ := E9 hc.pf ha h hp (dD hN) (by rw [hmd.pf]; exact kk)
theorem C5 {dst:Option Tmp}{op:Op}{j d:Nat}{want b:Bool}{mdp:Md}[hmp:MdP md (.inl d) mdp] (hj:(all[j]?).bind (·.dst) = some d) (hb:lk ts d = some (.v (.bool b))) (hN:(match dst with | some d => Nat.blt d N | none => true) = true) (hw:b = want)
  (h1 : RW P N all Q mdp (⟨dst,op,ty,pos,af,none⟩ :: rest) ⟨ts,hs,n,z0⟩) : RW P N all Q md (⟨dst,op,ty,pos,af,some (j,want)⟩ :: rest) ⟨ts,hs,n,z0⟩ :=
 pV hj hb (fun d h => by subst h;exact dD hN) (fun _ => hmp.pf ▸ h1) (fun h => by subst hw;cases b <;> simp at h)
theorem Ex {c x y:Operand}{b:Bool}{av:AV}(hc:ev (lk ts) c = some (.v (.bool b))) (hb:b = true) (hx:ev (lk ts) x = some av) (hN:Nat.blt d N = true){md':Md}[hmd:MdA md (rO c ++ rO x) [.inl d] md'] (k:RW P N all Q md' rest ⟨(d,av) :: ts,hs,n,z0⟩) :
  RW P N all Q md (⟨some d,.pick c x y,ty,pos,af,none⟩ :: rest) ⟨ts,hs,n,z0⟩ := Gi hc hb hx (dD hN) (by rw [hmd.pf]; exact k)
theorem Fe {c x y:Operand}{b:Bool}{av:AV}(hc:ev (lk ts) c = some (.v (.bool b))) (hb:b = false) (hx:ev (lk ts) y = some av) (hN:Nat.blt d N = true){md':Md}[hmd:MdA md (rO c ++ rO y) [.inl d] md'] (k:RW P N all Q md' rest ⟨(d,av) :: ts,hs,n,z0⟩) :
  RW P N all Q md (⟨some d,.pick c x y,ty,pos,af,none⟩ :: rest) ⟨ts,hs,n,z0⟩ := EW hc hb hx (dD hN) (by rw [hmd.pf]; exact k)
end
section
variable {P : Program} {N : Nat} {Q : Exit → AS → Prop} {K : AS → Prop} {s : AS}
theorem Cp (h:K s):mQ K Q .normal s := h
theorem Jz (h:Q .ret s):mQ K Q .ret s := h
theorem HS {i:Nat}(h:Q (.exit i) s):mQ K Q (.exit i) s := h
theorem Dy {i:Nat}(h:Q .normal s):w4 i Q .normal s := h
theorem Ja {i:Nat}(h:Q .ret s):w4 i Q .ret s := h
theorem Ic {i:Nat}(h:Q .normal s):w4 i Q (.exit i) s := by simp [w4,h]
theorem JR {i j:Nat}(hij:¬ j = i) (h:Q (.exit j) s):w4 i Q (.exit j) s := by simp [w4,hij,h]
theorem aI {res:Array ResultVar}{Q:AV → (Nat → Option (List AV)) → Prop}{l:List AV}(hr:jG P (lk s.ts) (aO s.hs) res.toList = some l) (h:Q (aN l) (aO s.hs)):nQ P res Q .ret s :=
 ⟨.inl rfl,s,l,Le.refl _,hr,h⟩
theorem tP {res:Array ResultVar}{Q:AV → (Nat → Option (List AV)) → Prop}{l:List AV}(hr:jG P (lk s.ts) (aO s.hs) res.toList = some l) (h:Q (aN l) (aO s.hs)):nQ P res Q .normal s :=
 ⟨.inr rfl,s,l,Le.refl _,hr,h⟩
theorem bF {res:Array ResultVar}{Q:AV → (Nat → Option (List AV)) → Prop}{e:Exit}{s':AS}(hl:Le s s') (h:nQ P res Q e s'):nQ P res Q e s:=by
 obtain ⟨h1,s2,l,h2,h3,h4⟩ := h
 exact ⟨h1,s2,l,fun C a w g => h2 C a w (hl C a w g),h3,h4⟩
theorem EK {x y:Code}{c:Operand}{b:Bool}(hc:ev (lk s.ts) c = some (.v (.bool b))) (hb:b = true) (h:AW P N x Q s):AW P N (.cond c x y) Q s := uE hc (fun _ => h) (fun e => by subst hb;cases e)
theorem EZ {x y:Code}{c:Operand}{b:Bool}(hc:ev (lk s.ts) c = some (.v (.bool b))) (hb:b = false) (h:AW P N y Q s):AW P N (.cond c x y) Q s := uE hc (fun e => by subst hb;cases e) (fun _ => h)
end
section
variable {P : Program} {N : Nat} {Q : Exit → AS → Prop} {all : Array Oper} {rest : List Oper} {ts : List (Nat × AV)} {hs : List (Nat × Option (List AV))} {n : Nat} {z0 : Lo} {md : Md}
variable {d : Nat} {ty : TypeId} {pos : String} {af : Array Edge}
theorem uO {t el e by' m:Nat}{x y:Operand}{zs:List Value}{k k':IntKind}[ht:SlT P t el] [he:SzT P el e] [hb:ByT P el by'] [hz:ZrT P el zs]
  (hx : ev (lk ts) x = some (.v (.int k (m : Int)))) (hy : ev (lk ts) y = some (.v (.int k' (m : Int)))) (hze : zs.length = e) (hsm : by' * m ≤ 281474976710656) (hmx : m ≤ 9223372036854775807)
  (hM : Nat.blt n aT = true) (hN : Nat.blt d N = true) {md' : Md} [hmd : MdA md (rO x ++ rO y) [.inr n,.inl d] md'] (kk : RW P N all Q md' rest ⟨(d,.own n 0 m e) :: ts,(n,some ((List.replicate m (zs.map .v)).flatten)) :: hs,n + 1,z0⟩) :
  RW P N all Q md (⟨some d,.makeSlice t x y,ty,pos,af,none⟩ :: rest) ⟨ts,hs,n,z0⟩ :=
 uI hx hy ht.pf he.pf hb.pf hz.pf hze hsm hmx hM (dD hN) (by rw [hmd.pf]; exact kk)
theorem yZ {t el:TypeId}{x:Operand}{lo hi:Option Operand}{av out:AV}{m e l h:Nat}[ht:SlT P t el] [he:SzT P el e] (hx:ev (lk ts) x = some av) (hn:KX av = some m)
  (hl : jS (lk ts) lo 0 = some l) (hh : jS (lk ts) hi m = some h) (hp : I1 e l h av = some out) (hN : Nat.blt d N = true) {md' : Md} [hmd : MdA md (rO x ++ (rB lo ++ rB hi)) [.inl d] md'] (kk : RW P N all Q md' rest ⟨(d,out) :: ts,hs,n,z0⟩) :
  RW P N all Q md (⟨some d,.slice t x lo hi none,ty,pos,af,none⟩ :: rest) ⟨ts,hs,n,z0⟩ :=
 E5 hx ht.pf he.pf hn hl hh hp (dD hN) (by rw [hmd.pf]; exact kk)
theorem xP {t el:TypeId}{x i:Operand}{av out:AV}{z e:Nat}{k:IntKind}{m:Int}[ht:ArT P t z el] [he:SzT P el e] (hx:ev (lk ts) x = some av)
  (hi : ev (lk ts) i = some (.v (.int k m))) (hm : 0 ≤ m ∧ m < z) (hp : yK (m.toNat * e) av = some out) (hN : Nat.blt d N = true) {md' : Md} [hmd : MdA md (rO x ++ rO i) [.inl d] md'] (kk : RW P N all Q md' rest ⟨(d,out) :: ts,hs,n,z0⟩) :
  RW P N all Q md (⟨some d,.indexAddr t x i,ty,pos,af,none⟩ :: rest) ⟨ts,hs,n,z0⟩ :=
 xM hx hi ht.pf he.pf hm hp (dD hN) (by rw [hmd.pf]; exact kk)
theorem GW {k:FuncId}{args:Array Operand}{tys:Array TypeId}{avs avs2:List AV}{r:AV}[hc:CaT P k] (ha:evL (lk ts) args.toList = some avs) (hl:iG (aO hs) avs = some avs2) (h:PC P k avs2 (fun x => x = r)) (hfr:r.free = true) (hN:Nat.blt d N = true)
  {md' : Md} [hmd : MdA md (jU args.toList ++ rL avs) [.inl d] md'] (kk : RW P N all Q md' rest ⟨(d,r) :: ts,hs,n,z0⟩) : RW P N all Q md (⟨some d,.call ⟨.value (.func k),args,tys⟩,ty,pos,af,none⟩ :: rest) ⟨ts,hs,n,z0⟩ :=
 H9 hc.pf ha hl h hfr (dD hN) (by rw [hmd.pf]; exact kk)
end
theorem CG (m:Int) (h:0 ≤ m ∧ m ≤ 9223372036854775807):(BitVec.ofInt 64 m) = BitVec.ofNat 64 m.toNat:=by
 obtain ⟨k,rfl⟩ := Int.eq_ofNat_of_zero_le h.1
 apply BitVec.eq_of_toInt_eq
 simp [BitVec.toInt_ofInt]
theorem y7 {k:Nat}(h:k < 2 ^ 63):IntKind.i64.wrap (k:Int) = (k:Int) := IntWalk.i64_in _ ⟨by omega,by omega⟩
section
variable {P : Program} {N : Nat} {Q : Exit → AS → Prop} {all : Array Oper} {rest : List Oper} {ts : List (Nat × AV)} {hs : List (Nat × Option (List AV))} {n : Nat} {z0 : Lo} {md : Md}
variable {d : Nat} {ty : TypeId} {pos : String} {af : Array Edge}
theorem zM {dst:Nat}{op:Op}{j d:Nat}{want b:Bool}{md':Md}[hmd:MdA md [.inl d] [.inl dst] md'] (hj:(all[j]?).bind (·.dst) = some d) (hb:lk ts d = some (.v (.bool b))) (hN:Nat.blt dst N = true) (hw:b = !want)
  (h2 : RW P N all Q md' rest ⟨(dst,.v undef) :: ts,hs,n,z0⟩) : RW P N all Q md (⟨some dst,op,ty,pos,af,some (j,want)⟩ :: rest) ⟨ts,hs,n,z0⟩ :=
 pV hj hb (fun d h => by cases h;exact dD hN) (fun h => by subst hw;cases want <;> simp at h) (fun _ => hmd.pf ▸ h2)
theorem CW {dst:Nat}{op:Op}{j d:Nat}{want b:Bool}{mdp:Md}[hmp:MdP md (.inl d) mdp] {md':Md}[hmd:MdA md [.inl d] [.inl dst] md'] (hj:(all[j]?).bind (·.dst) = some d) (hb:lk ts d = some (.v (.bool b))) (hN:Nat.blt dst N = true)
  (h1 : b = want → RW P N all Q mdp (⟨some dst,op,ty,pos,af,none⟩ :: rest) ⟨ts,hs,n,z0⟩) (h2 : b = (!want) → RW P N all Q md' rest ⟨(dst,.v undef) :: ts,hs,n,z0⟩) : RW P N all Q md (⟨some dst,op,ty,pos,af,some (j,want)⟩ :: rest) ⟨ts,hs,n,z0⟩ :=
 pV hj hb (fun d h => by cases h;exact dD hN) (fun e => hmp.pf ▸ h1 e) (fun e => hmd.pf ▸ h2 e)
end
class PurV (v : AV) : Prop where pf : v.pur = true
instance (x : Value) : PurV (.v x):=⟨rfl⟩
instance (n : Nat) (cs : List AV) [h : Pur cs] : PurV (.imm n cs):=⟨h.pf⟩
instance (cs : List AV) [h : Pur cs] : PurV (.iptr cs):=⟨h.pf⟩
instance (cs : List AV) [h : Pur cs] : PurV (.agg cs):=⟨h.pf⟩
instance (cs : List AV) [h : Pur cs] : PurV (.tup cs):=⟨h.pf⟩
instance : Pur []:=⟨rfl⟩
instance (c : AV) (cs : List AV) [h : PurV c] [h2 : Pur cs] : Pur (c :: cs):=⟨by simp only [bE,h.pf,h2.pf,Bool.and_self]⟩
theorem RnV.purI {ρ:Nat → Option Nat}{v:AV}(h:PurV v):RnV ρ v v := .pur h.pf
theorem RnL.purI {ρ:Nat → Option Nat}{v:List AV}(h:Pur v):RnL ρ v v := .pur h.pf
def qH (ρ : Nat → Option Nat) (hh : List (Nat × Option (List AV))) : List (Nat × Option (List AV)) → Prop
 | [] => True
 | (_,none) :: l => qH ρ hh l
 | (i,some cs') :: l => (∃ j cs,ρ j = some i ∧ aO hh j = some cs ∧ RnL ρ cs cs') ∧ qH ρ hh l
def xQ (mp : List Nat) (ws : List (Nat × Option (List AV))) : Bool := mp.all fun i => ws.any fun p => Nat.beq p.1 i
theorem H6 {mp:List Nat}{ρ:Nat → Option Nat}{hh ws:List (Nat × Option (List AV))}(h1:xQ mp ws = true) (h2:qH ρ hh ws):WsOk mp ρ hh ws:=by
 refine ⟨fun i hi => ?_,fun i cs' hm => ?_⟩
 ·simp only [xQ, List.all_eq_true, List.any_eq_true] at h1
  obtain ⟨⟨j,c⟩,hp,hb⟩ := h1 i hi
  have := Nat.eq_of_beq_eq_true hb
  simp only at this
  subst this
  exact ⟨c,hp⟩
 ·clear h1
  induction ws with
  | nil => simp at hm
  | cons q ws ih =>
   obtain ⟨j,c⟩ := q
   cases c with
   | none =>
    simp only [qH] at h2
    rcases List.mem_cons.1 hm with e|e
    ·cases e
    ·exact ih h2 e
   | some c =>
    simp only [qH] at h2
    rcases List.mem_cons.1 hm with e|e
    ·cases e;exact h2.1
    ·exact ih h2.2 e
section
variable {P : Program} {N : Nat} {Q : Exit → AS → Prop} {all : Array Oper} {rest : List Oper} {ts : List (Nat × AV)} {hs : List (Nat × Option (List AV))} {n : Nat} {z0 : Lo} {md : Md}
variable {ty : TypeId} {pos : String} {af : Array Edge}
theorem DB {d:Nat}{k:FuncId}{args:Array Operand}{tys:Array TypeId}{avs avs0:List AV}{H0:List (Nat × Option (List AV))}{rr rr':AV}{hh:List (Nat × Option (List AV))}
  (mp : List Nat) (n1 : Nat) (ws : List (Nat × Option (List AV))) (h : MC P k avs0 H0 mp.length (fun _ : Unit => True) (fun _ => rr) (fun _ => hh)) [hc : CaT P k] (ha : evL (lk ts) args.toList = some avs) (hd : distinct mp = true)
  (hH0 : sI hs H0 mp 0 mp) (hk : fZ mp.length H0 = true) (har : RnL (mp[·]?) avs0 avs) (hM : Nat.ble (n + (n1 - mp.length)) aT = true)
  (hr : RnV (zI mp n n1) rr rr') (hwa : xQ mp ws = true) (hw : qH (zI mp n n1) hh ws) (hN : Nat.blt d N = true)
  {md' : Md} [hmd : MdA md (jU args.toList ++ mp.map .inr) (ws.map (fun p => .inr p.1) ++ [.inl d]) md']
  (kk : RW P N all Q md' rest ⟨(d,rr') :: ts,nK hs ws,n + (n1 - mp.length),z0⟩) : RW P N all Q md (⟨some d,.call ⟨.value (.func k),args,tys⟩,ty,pos,af,none⟩ :: rest) ⟨ts,hs,n,z0⟩ :=
 DC mp n1 hc.pf ha h hd hH0 hk har hM hr (H6 hwa hw) (fun x e => by cases e;exact dD hN) (by simp only [wD]; rw [hmd.pf]; exact kk)
end
theorem Bn {α:Type}[Inhabited α] {f g:α → List AV}{e:Nat}[h:FlT f e] [hg:FE f g] {xs:List α}{k j:Nat}{c:AV}(hk:k < xs.length) (hc:(g xs[k]!)[j]? = some c):((flat f xs).drop (0 + k * e + j))[0]? = some c:=by
 rw [Nat.zero_add,← List.drop_drop,fL f xs k hk]
 rw [← hg.pf] at hc
 have hj : j < (f xs[k]!).length := by
  rcases Nat.lt_or_ge j (f xs[k]!).length with q|q
  ·exact q
  ·rw [List.getElem?_eq_none q] at hc;cases hc
 rw [List.drop_append_of_le_length (Nat.le_of_lt hj),List.getElem?_append_left (by rw [List.length_drop]; omega),List.getElem?_drop,Nat.add_zero]
 exact hc
section
variable {P : Program} {N : Nat} {Q : Exit → AS → Prop} {all : Array Oper} {rest : List Oper} {ts : List (Nat × AV)} {hs : List (Nat × Option (List AV))} {n : Nat} {z0 : Lo} {md : Md}
variable {d : Nat} {ty : TypeId} {pos : String} {af : Array Edge}
theorem n7 {α:Type}{hα:Inhabited α}{f g:α → List AV}{xs:List α}{e id k j:Nat}{t:TypeId}{x:Operand}{c:AV}[ha:AgT P t false] (hx:ev (lk ts) x = some (.optr id (0 + k * e + j)))
  (hH : aO hs id = some (flat f xs)) (hf : FlT f e) (hg : FE f g) (hk : k < xs.length) (hc : (g xs[k]!)[j]? = some c) (hN : Nat.blt d N = true) {md' : Md} [hmd : MdA md (rO x ++ rA (.optr id (0 + k * e + j))) [.inl d] md']
  (kk : RW P N all Q md' rest ⟨(d,c) :: ts,hs,n,z0⟩) : RW P N all Q md (⟨some d,.load t x,ty,pos,af,none⟩ :: rest) ⟨ts,hs,n,z0⟩ :=
 kA (cs := (flat f xs).drop (0 + k * e + j)) hx ha.pf (by simp only [deref,hH,Option.map_some]) (Bn hk hc) (dD hN) (by rw [hmd.pf]; exact kk)
theorem Dd {α:Type}{hα:Inhabited α}{f g:α → List AV}{xs:List α}{e id k:Nat}{t:TypeId}{x:Operand}{c:AV}[ha:AgT P t false] (hx:ev (lk ts) x = some (.optr id (0 + k * e)))
  (hH : aO hs id = some (flat f xs)) (hf : FlT f e) (hg : FE f g) (hk : k < xs.length) (hc : (g xs[k]!)[0]? = some c) (hN : Nat.blt d N = true) {md' : Md} [hmd : MdA md (rO x ++ rA (.optr id (0 + k * e))) [.inl d] md']
  (kk : RW P N all Q md' rest ⟨(d,c) :: ts,hs,n,z0⟩) : RW P N all Q md (⟨some d,.load t x,ty,pos,af,none⟩ :: rest) ⟨ts,hs,n,z0⟩ :=
 kA (cs := (flat f xs).drop (0 + k * e)) hx ha.pf (by simp only [deref,hH,Option.map_some]) (Bn (f := f) (j := 0) hk hc) (dD hN) (by rw [hmd.pf]; exact kk)
end
theorem xI {w:World}{bad:Nat → Prop}{ι:Pl}{n k:Nat}{cs:List AV}{y:Value}(h:Rd w bad ι (.imm n cs) y):Rd w bad ι (.imm n (cs.take k)) y:=by
 simp only [Rd] at h ⊢
 obtain ⟨a,c,rfl,h⟩ := h
 refine ⟨a,c,rfl,?_⟩
 rcases h with h | ⟨b,o,hn,rfl,h⟩
 ·exact .inl h
 ·refine .inr ⟨b, o, hn, rfl, ?_⟩
  rcases h with h | ⟨hb,h⟩
  ·subst h;exact .inl (by simp)
  ·exact .inr ⟨hb,RdC.take k h⟩
section
variable {P : Program} {N : Nat} {Q : Exit → AS → Prop} {all : Array Oper} {rest : List Oper} {ts : List (Nat × AV)} {hs : List (Nat × Option (List AV))} {n : Nat} {z0 : Lo} {md : Md}
variable {d : Nat} {ty : TypeId} {pos : String} {af : Array Edge}
theorem Cw {α:Type}{f:α → List AV}{xs:List α}{t el:TypeId}{x:Operand}{lo hi:Option Operand}{e l h:Nat}[ht:SlT P t el] [he:SzT P el e] (hx:ev (lk ts) x = some (sl f xs)) (hf:FlT f e)
  (hl : jS (lk ts) lo 0 = some l) (hh : jS (lk ts) hi xs.length = some h) (hb : l ≤ h ∧ h ≤ xs.length) (hN : Nat.blt d N = true) {md' : Md} [hmd : MdA md (rO x ++ (rB lo ++ rB hi)) [.inl d] md']
  (kk : RW P N all Q md' rest ⟨(d,sl f ((xs.drop l).take (h - l))) :: ts,hs,n,z0⟩) : RW P N all Q md (⟨some d,.slice t x lo hi none,ty,pos,af,none⟩ :: rest) ⟨ts,hs,n,z0⟩ := by
 refine dR (rs := rO x ++ (rB lo ++ rB hi)) (out := sl f ((xs.drop l).take (h - l))) rfl rfl (dD hN) (fun C ι F T H a w ag g gh => ?_) (by rw [hmd.pf]; exact kk)
 obtain ⟨y,h1,h2⟩ := yR (P := P) (o := ⟨some d,.slice t x lo hi none,ty,pos,af,none⟩) (out := .imm (h - l) ((flat f xs).drop (l * e))) g rfl (ag.l.ev.trans hx) ht.pf he.pf rfl (ag.r.l.bnd.trans hl) (ag.r.r.bnd.trans hh) (by simp only [I1]; rw [if_pos hb])
 refine ⟨y,h1,?_⟩
 have hlen : ((xs.drop l).take (h - l)).length = h - l := by rw [List.length_take,List.length_drop]; omega
 show Rd w _ ι (.imm ((xs.drop l).take (h - l)).length (flat f ((xs.drop l).take (h - l)))) y
 rw [hlen,← fK f,← gS f]
 exact xI h2
end
theorem BZ {w:World}{bad:Nat → Prop}{ι:Pl}:∀ {cs:List AV}{l:List Value},RdL w bad ι cs l → RdL w bad ι (cs.map tC) l
 | [],l,h => by simpa only [RdL,List.map_nil] using h
 | c :: cs, l, h => by
  simp only [RdL,List.map_cons] at h ⊢
  obtain ⟨x,l',h0,h1,h2,h3⟩ := h
  exact ⟨x,l',h0,h1,mG h2,BZ h3⟩
section
variable {P : Program} {N : Nat} {Q : Exit → AS → Prop} {all : Array Oper} {rest : List Oper} {ts : List (Nat × AV)} {hs : List (Nat × Option (List AV))} {n : Nat} {z0 : Lo} {md : Md}
variable {d : Nat} {ty : TypeId} {pos : String} {af : Array Edge}
theorem Di {t:TypeId}{parts:Array (Nat × Operand)}{pl:List (Nat × Nat)}{zs:List Value}{l:List (Nat × AV)}{cs cs':List AV}[hp:PtT P t pl] [hz:ZrT P t zs]
  (hl : evs (lk ts) parts.toList = some l) (hf : gC (pl[·]?) (zs.map .v) l = some cs) (hk : cs.map tC = cs') (hN : Nat.blt d N = true) {md' : Md} [hmd : MdA md (Gj parts.toList) [.inl d] md'] (kk : RW P N all Q md' rest ⟨(d,.agg cs') :: ts,hs,n,z0⟩) :
  RW P N all Q md (⟨some d,.build t parts,ty,pos,af,none⟩ :: rest) ⟨ts,hs,n,z0⟩ := by
 subst hk
 refine dR (rs := Gj parts.toList) (out := .agg (cs.map tC)) rfl rfl (dD hN) (fun C ι F T H a w ag g gh => ?_) (by rw [hmd.pf]; exact kk)
 obtain ⟨y,h1,h2⟩ := wU (P := P) (o := ⟨some d,.build t parts,ty,pos,af,none⟩) g rfl hp.pf hz.pf (ag.evs.trans hl) hf
 refine ⟨y,h1,?_⟩
 simp only [Rd] at h2 ⊢
 obtain ⟨l',h3,h4⟩ := h2
 exact ⟨l',h3,BZ h4⟩
end
theorem Fl {σ:Type}{P:Program}{k:FuncId}{fn:Func}{c:Code}{args:List AV}{H0:List (Nat × Option (List AV))}{n:Nat}{p:σ → Prop}{rr:σ → AV}{hh:σ → List (Nat × Option (List AV))}(hf:P.funcs[k]? = some fn) (hb:fn.body = some c)
  (hN : args.length ≤ fn.ntmps) (h : AW P fn.ntmps c (nQ P fn.results (fun r H' => ∃ x,p x ∧ r = rr x ∧ ∀ id cs,aO (hh x) id = some cs → H' id = some cs)) ⟨dB 0 args,H0,n,⟨n,aT⟩⟩) : MC P k args H0 n p rr hh :=
 nP hf hb hN h
theorem eI {σ:Type}{s:AS}{r:AV}{p:σ → Prop}{rr:σ → AV}{hh:σ → List (Nat × Option (List AV))}(x:σ) (hp:p x) (hr:r = rr x) (hh':k7 s.hs (hh x)):∃ x,p x ∧ r = rr x ∧ ∀ id cs,aO (hh x) id = some cs → aO s.hs id = some cs :=
 ⟨x,hp,hr,nD hh'⟩
def vZ : List (Nat × Nat) → Nat → Option Nat
 | [],_ => none
 | (t,v) :: l,u => cond (Nat.beq u t) (some v) (vZ l u)
theorem Gk (t v:Nat) (l:List (Nat × Nat)) (u:Nat):vZ ((t,v) :: l) u = if u = t then some v else vZ l u:=by
 simp only [vZ]
 by_cases h : u = t
 ·subst h;simp
 ·rw [if_neg h]
  have : Nat.beq u t = false := by
   cases hb : Nat.beq u t with
   | false => rfl
   | true => exact absurd (Nat.eq_of_beq_eq_true hb) h
  rw [this]; rfl
def zK (m : List (Nat × Nat)) (lo : Lo) (id : Nat) : Option Nat := if id < lo.lo then some id else match vZ m id with
 | some j => some j
 | none => if aT ≤ id ∧ id < lo.fb then some id else none
def Ky (m : List (Nat × Nat)) (lo : Lo) : AV → Option AV
 | .own id o n e => (zK m lo id).map fun j => .own j o n e
 | .optr id o => (zK m lo id).map fun j => .optr j o
 | _ => none
def Hw (m : List (Nat × Nat)) (lo : Lo) (v v0 : AV) : Prop := (v0 = v ∧ v.pur = true) ∨ Ky m lo v = some v0
inductive All2 {α β : Type} (R : α → β → Prop) : List α → List β → Prop
 | nil : All2 R [] []
 | cons {a b l l'} : R a b → All2 R l l' → All2 R (a :: l) (b :: l')
theorem All2.len {α β:Type}{R:α → β → Prop}{l:List α}{l':List β}(h:All2 R l l'):l.length = l'.length:=by
 induction h with
 | nil => rfl
 | cons _ _ ih => simp [ih]
def JW (m : List (Nat × Nat)) (lo : Lo) (cs cs0 : List AV) : Prop := (cs0 = cs ∧ bE cs = true) ∨ All2 (Hw m lo) cs cs0
def FW (m : List (Nat × Nat)) (lo : Lo) (l : List (Nat × AV)) : List (Nat × AV) → Prop
 | [] => True
 | (t,v) :: l' => (∃ v0,lk l t = some v0 ∧ Hw m lo v v0) ∧ FW m lo l l'
def Au (m : List (Nat × Nat)) (lo : Lo) (l : List (Nat × Option (List AV))) : List (Nat × Option (List AV)) → Prop
 | [] => True
 | (t,none) :: l' => Au m lo l l'
 | (t,some cs) :: l' => (∃ j cs0,zK m lo t = some j ∧ aO l j = some cs0 ∧ JW m lo cs cs0) ∧ Au m lo l l'
theorem BA {m:List (Nat × Nat)}{lo:Lo}{l:List (Nat × AV)}:∀ {l':List (Nat × AV)},FW m lo l l' → ∀ t v,lk l' t = some v → ∃ v0,lk l t = some v0 ∧ Hw m lo v v0
 | [],_,t,v,h => by simp [lk] at h
 | (u, x) :: l', hr, t, v, h => by
  simp only [FW] at hr
  simp only [jQ] at h
  split at h
  ·rename_i e;subst e;cases h;exact hr.1
  ·exact BA hr.2 t v h
theorem lB {m:List (Nat × Nat)}{lo:Lo}{l:List (Nat × Option (List AV))}:∀ {l':List (Nat × Option (List AV))},Au m lo l l' → ∀ t cs,aO l' t = some cs →
  ∃ j cs0,zK m lo t = some j ∧ aO l j = some cs0 ∧ JW m lo cs cs0
 | [],_,t,v,h => by simp [aO] at h
 | (u, none) :: l', hr, t, v, h => by
  simp only [Au] at hr
  simp only [bU] at h
  split at h
  ·cases h
  ·exact lB hr t v h
 | (u, some x) :: l', hr, t, v, h => by
  simp only [Au] at hr
  simp only [bU] at h
  split at h
  ·rename_i e;subst e;cases h;exact hr.1
  ·exact lB hr.2 t v h
def Fc (lo n' : Nat) : List (Nat × Nat) → Bool
 | [] => true
 | (a,b) :: l => Nat.ble lo a && Nat.blt a n' && (Nat.ble lo b && (Nat.blt a aT && Nat.blt b aT)) && l.all (fun p => !Nat.beq p.1 a && !Nat.beq p.2 b) && Fc lo n' l
theorem iJ {lo n':Nat}:∀ {m:List (Nat × Nat)},Fc lo n' m = true → ∀ a b,vZ m a = some b → lo ≤ a ∧ a < n' ∧ lo ≤ b ∧ a < aT ∧ b < aT
 | [],_,a,b,h => by simp [vZ] at h
 | (u, v) :: l, hk, a, b, h => by
  simp only [Fc,Bool.and_eq_true] at hk
  obtain ⟨⟨⟨⟨h1,h2⟩,h3⟩,_⟩,h5⟩ := hk
  simp only [Gk] at h
  split at h
  ·rename_i e
   subst e;cases h
   have q1 := Nat.le_of_ble_eq_true h1
   have q2 := dD h2
   have q3 := Nat.le_of_ble_eq_true h3.1
   exact ⟨q1,q2,q3,dD h3.2.1,dD h3.2.2⟩
  ·exact iJ h5 a b h
theorem u7:∀ {m:List (Nat × Nat)}{a b:Nat},vZ m a = some b → (a,b) ∈ m
 | [],a,b,h => by simp [vZ] at h
 | (u, v) :: l, a, b, h => by
  simp only [Gk] at h
  split at h
  ·rename_i e;subst e;cases h;simp
  ·exact List.mem_cons_of_mem _ (u7 h)
theorem vH {lo n':Nat}:∀ {m:List (Nat × Nat)},Fc lo n' m = true → ∀ a a' b,vZ m a = some b → vZ m a' = some b → a = a'
 | [],_,a,a',b,h,_ => by simp [vZ] at h
 | (u, v) :: l, hk, a, a', b, h, h' => by
  simp only [Fc,Bool.and_eq_true] at hk
  obtain ⟨⟨_,h4⟩,h5⟩ := hk
  have key : ∀ x, vZ l x = some v → False := by
   intro x hx
   have hm := u7 hx
   rw [List.all_eq_true] at h4
   have := h4 _ hm
   simp at this
  simp only [Gk] at h h'
  split at h
  ·rename_i e
   split at h'
   ·rename_i e'; omega
   ·cases h;exact (key _ h').elim
  ·split at h'
   ·cases h'; exact (key _ h).elim
   ·exact vH h5 a a' b h h'
theorem Le.ren (m:List (Nat × Nat)){ts ts':List (Nat × AV)}{hs hs':List (Nat × Option (List AV))}{n n':Nat}{lo:Lo}(hm:Fc lo.lo n' m = true) (hn:lo.lo ≤ n') (h1:FW m lo ts ts') (h2:Au m lo hs hs') :
  Le ⟨ts,hs,n,lo⟩ ⟨ts',hs',n',lo⟩ := by
 rintro C a w ⟨h0,ι,g,gh⟩
 let ι' : Pl := fun id => match zK m lo id with|some j => ι j|none => none
 have hlow : ∀ id,id < lo.lo → ι' id = ι id := fun id h => by simp [ι',zK,h]
 have hto : ∀ id j, zK m lo id = some j → ι' id = ι j := by
  intro id j h
  simp only [ι',h]
 have hcs0 : ∀ a b, zK m lo a = some b → (a < lo.lo ∧ b = a) ∨ (lo.lo ≤ a ∧ vZ m a = some b) ∨ (lo.lo ≤ a ∧ (aT ≤ a ∧ a < lo.fb) ∧ b = a) := by
  intro a b q
  unfold zK at q
  split at q
  ·rename_i h;cases q;exact .inl ⟨h,rfl⟩
  ·rename_i h
   split at q
   ·rename_i j hj;cases q;exact .inr (.inl ⟨by omega,hj⟩)
   ·split at q
    ·rename_i h3;cases q;exact .inr (.inr ⟨by omega,h3,rfl⟩)
    ·cases q
 have hinj : ∀ a a' b, zK m lo a = some b → zK m lo a' = some b → a = a' := by
  intro a a' b q q'
  rcases hcs0 a b q with ⟨e1,e2⟩ | ⟨e1,e2⟩ | ⟨e1,e2,e3⟩ <;> rcases hcs0 a' b q' with ⟨f1,f2⟩ | ⟨f1,f2⟩ | ⟨f1,f2,f3⟩
  ·omega
  ·have := iJ hm _ _ f2;omega
  ·omega
  ·have := iJ hm _ _ e2;omega
  ·exact vH hm _ _ _ e2 f2
  ·have := iJ hm _ _ e2;omega
  ·omega
  ·have := iJ hm _ _ f2;omega
  ·omega
 have hbad : ∀ b, aE C.X ι' (aO hs') b → aE C.X ι (aO hs) b := by
  rintro b (h | ⟨id,cs,β,q1,q2⟩)
  ·exact .inl h
  ·obtain ⟨j, cs0, q3, q4, _⟩ := lB h2 id cs q1
   rw [hto _ _ q3] at q2
   exact .inr ⟨j,cs0,β,q4,q2⟩
 have hc0 : Carry w (aE C.X ι (aO hs)) ι w (aE C.X ι' (aO hs')) ι := ⟨fun b o x q1 q2 => ⟨fun h => q1 (hbad b h),q2⟩,fun _ _ h => h,fun _ => Nat.le_refl _⟩
 have hv : ∀ v v0 y, Hw m lo v v0 → Rd w (aE C.X ι (aO hs)) ι v0 y → Rd w (aE C.X ι' (aO hs')) ι' v y := by
  intro v v0 y hr hy
  rcases hr with ⟨rfl,hp⟩|hr
  ·exact Rd.pur _ y hp (Rd.carry hc0 _ _ hy)
  ·cases v <;> simp only [Ky] at hr <;> first | (cases hr; done) | skip
   ·rename_i id o k e
    cases hj : zK m lo id with
    | none => simp [hj] at hr
    | some j =>
     simp only [hj,Option.map_some,Option.some.injEq] at hr
     subst hr
     simp only [Rd,hto _ _ hj] at hy ⊢
     exact hy
   ·rename_i id o
    cases hj : zK m lo id with
    | none => simp [hj] at hr
    | some j =>
     simp only [hj,Option.map_some,Option.some.injEq] at hr
     subst hr
     simp only [Rd,hto _ _ hj] at hy ⊢
     exact hy
 have hcs : ∀ cs cs0 b o, JW m lo cs cs0 → RdC w (aE C.X ι (aO hs)) ι cs0 b o → RdC w (aE C.X ι' (aO hs')) ι' cs b o := by
  intro cs cs0 b o hr hy
  rcases hr with ⟨rfl,hp⟩|hf
  ·exact RdC.pur _ b o hp (RdC.carryB hc0 _ _ _ (fun o x hx => hx) hy)
  ·induction hf generalizing o with
   | nil => simp only [RdC]
   | cons h1 _ ih =>
    simp only [RdC] at hy ⊢
    obtain ⟨⟨x,q1,q2,q3⟩,q4⟩ := hy
    exact ⟨⟨x,q1,q2,hv _ _ _ h1 q3⟩,ih _ q4⟩
 refine ⟨h0,ι',⟨g.df,g.sz,fun t v ht => ?_⟩,⟨fun id cs h => ?_,fun id id' cs cs' b β β' q1 q2 q3 q4 => ?_,gh.fr,fun id p hp => ?_,fun id hid => ?_⟩⟩
 ·obtain ⟨v0, q1, q2⟩ := BA h1 t v ht
  obtain ⟨y,q3,q4⟩ := g.tm t v0 q1
  exact ⟨y,q3,hv _ _ _ q2 q4⟩
 ·obtain ⟨j, cs0, q3, q4, q5⟩ := lB h2 id cs h
  have hlen : cs.length = cs0.length := by
   rcases q5 with ⟨rfl,_⟩|hf
   ·rfl
   ·exact hf.len
  rcases gh.obj j cs0 q4 with ⟨p1,p2⟩ | ⟨b,β,arr,e,p1,p2,p3,p4,p5,p6⟩
  ·refine .inl ⟨by rw [hto _ _ q3]; exact p1, ?_⟩
   subst p2;exact List.eq_nil_of_length_eq_zero hlen
  ·exact .inr ⟨b,β,arr,e,by rw [hto _ _ q3]; exact p1,p2,by rw [hlen]; exact p3,hcs _ _ _ _ q5 p4,p5,p6⟩
 ·obtain ⟨j, c1, r1, r2, _⟩ := lB h2 id cs q1
  obtain ⟨j',c2,r3,r4,_⟩ := lB h2 id' cs' q2
  rw [hto _ _ r1] at q3
  rw [hto _ _ r3] at q4
  have := gh.sep _ _ _ _ _ _ _ r2 r4 q3 q4
  subst this
  exact hinj _ _ _ r1 r3
 ·have hl : id < lo.lo ∨ (lo.lo ≤ id ∧ aT ≤ id ∧ id < lo.fb) := by
   rcases Nat.lt_or_ge id lo.lo with h|h
   ·exact .inl h
   ·rcases h0 id h with h1 | h1
    ·exact .inr ⟨h,h1⟩
    ·rw [h1] at hp;cases hp
  rcases hl with hl | ⟨hl,h1,h2⟩
  ·rw [hlow id hl]; exact gh.ex id p hp
  ·have : zK m lo id = some id := by
    unfold zK
    rw [if_neg (by omega)]
    cases hj : vZ m id with
    | some j => have := iJ hm _ _ hj;omega
    | none => simp [h1,h2]
   rw [hto _ _ this]; exact gh.ex id p hp
 ·show ι' id = none
  simp only [ι']
  cases hj : zK m lo id with
  | none => rfl
  | some j =>
   have h3 : n' ≤ id := hid.1
   have h4 : id < aT ∨ lo.fb ≤ id := hid.2
   rcases hcs0 id j hj with ⟨e1,e2⟩ | ⟨e1,e2⟩ | ⟨e1,e2,e3⟩
   ·omega
   ·have := iJ hm _ _ e2;omega
   ·omega
end Go.AL
namespace Go.Proofs.YtgkalkgplcdnkaaGreat
open Go.AL
instance : SzT Tryz.prog 3 1:=⟨by kernel_rfl⟩
instance : ByT Tryz.prog 3 8:=⟨by kernel_rfl⟩
instance : AgT Tryz.prog 3 false:=⟨by kernel_rfl⟩
instance : ZrT Tryz.prog 3 [.int .i64 0]:=⟨by kernel_rfl⟩
instance : SzT Tryz.prog 4 1:=⟨by kernel_rfl⟩
instance : ByT Tryz.prog 4 1:=⟨by kernel_rfl⟩
instance : AgT Tryz.prog 4 false:=⟨by kernel_rfl⟩
instance : ZrT Tryz.prog 4 [.bool false]:=⟨by kernel_rfl⟩
instance : SzT Tryz.prog 22 1:=⟨by kernel_rfl⟩
instance : AgT Tryz.prog 22 false:=⟨by kernel_rfl⟩
instance : SlT Tryz.prog 22 3:=⟨by kernel_rfl⟩
instance : ZrT Tryz.prog 22 [.slice none 0 0]:=⟨by kernel_rfl⟩
instance : SzT Tryz.prog 23 1:=⟨by kernel_rfl⟩
instance : AgT Tryz.prog 23 false:=⟨by kernel_rfl⟩
instance : SlT Tryz.prog 23 100:=⟨by kernel_rfl⟩
instance : SzT Tryz.prog 25 2:=⟨by kernel_rfl⟩
instance : AgT Tryz.prog 25 true:=⟨by kernel_rfl⟩
instance : FdT Tryz.prog 25 0 0 22:=⟨by kernel_rfl⟩
instance : FdT Tryz.prog 25 1 1 23:=⟨by kernel_rfl⟩
instance : SzT Tryz.prog 28 1:=⟨by kernel_rfl⟩
instance : AgT Tryz.prog 28 false:=⟨by kernel_rfl⟩
instance : SlT Tryz.prog 28 76:=⟨by kernel_rfl⟩
instance : SzT Tryz.prog 30 2:=⟨by kernel_rfl⟩
instance : AgT Tryz.prog 30 true:=⟨by kernel_rfl⟩
instance : FdT Tryz.prog 30 0 0 22:=⟨by kernel_rfl⟩
instance : FdT Tryz.prog 30 1 1 28:=⟨by kernel_rfl⟩
instance : ZrT Tryz.prog 30 [.slice none 0 0,.slice none 0 0]:=⟨by kernel_rfl⟩
instance : SzT Tryz.prog 44 3:=⟨by kernel_rfl⟩
instance : AgT Tryz.prog 44 true:=⟨by kernel_rfl⟩
instance : FdT Tryz.prog 44 0 0 3:=⟨by kernel_rfl⟩
instance : FdT Tryz.prog 44 1 1 3:=⟨by kernel_rfl⟩
instance : FdT Tryz.prog 44 2 2 3:=⟨by kernel_rfl⟩
instance : SzT Tryz.prog 47 3:=⟨by kernel_rfl⟩
instance : ByT Tryz.prog 47 24:=⟨by kernel_rfl⟩
instance : AgT Tryz.prog 47 true:=⟨by kernel_rfl⟩
instance : FdT Tryz.prog 47 0 0 3:=⟨by kernel_rfl⟩
instance : FdT Tryz.prog 47 1 1 3:=⟨by kernel_rfl⟩
instance : FdT Tryz.prog 47 2 2 3:=⟨by kernel_rfl⟩
instance : PtT Tryz.prog 47 [(0,1),(1,1),(2,1)]:=⟨by kernel_rfl⟩
instance : ZrT Tryz.prog 47 [.int .i64 0,.int .i64 0,.int .i64 0]:=⟨by kernel_rfl⟩
instance : SzT Tryz.prog 52 1:=⟨by kernel_rfl⟩
instance : ByT Tryz.prog 52 24:=⟨by kernel_rfl⟩
instance : AgT Tryz.prog 52 false:=⟨by kernel_rfl⟩
instance : SlT Tryz.prog 52 4:=⟨by kernel_rfl⟩
instance : ZrT Tryz.prog 52 [.slice none 0 0]:=⟨by kernel_rfl⟩
instance : SzT Tryz.prog 53 1:=⟨by kernel_rfl⟩
instance : AgT Tryz.prog 53 false:=⟨by kernel_rfl⟩
instance : SlT Tryz.prog 53 103:=⟨by kernel_rfl⟩
instance : SzT Tryz.prog 76 6:=⟨by kernel_rfl⟩
instance : ByT Tryz.prog 76 80:=⟨by kernel_rfl⟩
instance : AgT Tryz.prog 76 true:=⟨by kernel_rfl⟩
instance : FdT Tryz.prog 76 0 0 3:=⟨by kernel_rfl⟩
instance : FdT Tryz.prog 76 1 1 3:=⟨by kernel_rfl⟩
instance : FdT Tryz.prog 76 2 2 3:=⟨by kernel_rfl⟩
instance : FdT Tryz.prog 76 3 3 3:=⟨by kernel_rfl⟩
instance : FdT Tryz.prog 76 4 4 28:=⟨by kernel_rfl⟩
instance : FdT Tryz.prog 76 5 5 28:=⟨by kernel_rfl⟩
instance : ZrT Tryz.prog 76 [.int .i64 0,.int .i64 0,.int .i64 0,.int .i64 0,.slice none 0 0,.slice none 0 0]:=⟨by kernel_rfl⟩
instance : SzT Tryz.prog 77 1:=⟨by kernel_rfl⟩
instance : AgT Tryz.prog 77 false:=⟨by kernel_rfl⟩
instance : SlT Tryz.prog 77 52:=⟨by kernel_rfl⟩
instance : SlT Tryz.prog 92 47:=⟨by kernel_rfl⟩
instance : SzT Tryz.prog 100 6:=⟨by kernel_rfl⟩
instance : AgT Tryz.prog 100 true:=⟨by kernel_rfl⟩
instance : FdT Tryz.prog 100 0 0 3:=⟨by kernel_rfl⟩
instance : FdT Tryz.prog 100 1 1 3:=⟨by kernel_rfl⟩
instance : FdT Tryz.prog 100 2 2 3:=⟨by kernel_rfl⟩
instance : FdT Tryz.prog 100 3 3 3:=⟨by kernel_rfl⟩
instance : FdT Tryz.prog 100 4 4 23:=⟨by kernel_rfl⟩
instance : FdT Tryz.prog 100 5 5 23:=⟨by kernel_rfl⟩
instance : SzT Tryz.prog 103 5:=⟨by kernel_rfl⟩
instance : ByT Tryz.prog 103 56:=⟨by kernel_rfl⟩
instance : AgT Tryz.prog 103 true:=⟨by kernel_rfl⟩
instance : FdT Tryz.prog 103 0 0 3:=⟨by kernel_rfl⟩
instance : FdT Tryz.prog 103 1 1 3:=⟨by kernel_rfl⟩
instance : FdT Tryz.prog 103 2 2 3:=⟨by kernel_rfl⟩
instance : FdT Tryz.prog 103 4 4 22:=⟨by kernel_rfl⟩
instance : PtT Tryz.prog 103 [(0,1),(1,1),(2,1),(3,1),(4,1)]:=⟨by kernel_rfl⟩
instance : ZrT Tryz.prog 103 [.int .i64 0,.int .i64 0,.int .i64 0,.int .i64 0,.slice none 0 0]:=⟨by kernel_rfl⟩
instance : SlT Tryz.prog 126 131:=⟨by kernel_rfl⟩
instance : SzT Tryz.prog 131 2:=⟨by kernel_rfl⟩
instance : ByT Tryz.prog 131 48:=⟨by kernel_rfl⟩
instance : AgT Tryz.prog 131 true:=⟨by kernel_rfl⟩
instance : FdT Tryz.prog 131 0 0 77:=⟨by kernel_rfl⟩
instance : FdT Tryz.prog 131 1 1 52:=⟨by kernel_rfl⟩
instance : PtT Tryz.prog 131 [(0,1),(1,1)]:=⟨by kernel_rfl⟩
instance : ZrT Tryz.prog 131 [.slice none 0 0,.slice none 0 0]:=⟨by kernel_rfl⟩
instance : FdT Tryz.prog 134 0 0 30:=⟨by kernel_rfl⟩
instance : FdT Tryz.prog 134 1 2 53:=⟨by kernel_rfl⟩
instance : PtT Tryz.prog 134 [(0,2),(2,1)]:=⟨by kernel_rfl⟩
instance : ZrT Tryz.prog 134 [.slice none 0 0,.slice none 0 0,.slice none 0 0]:=⟨by kernel_rfl⟩
instance : SzT Tryz.prog 136 1:=⟨by kernel_rfl⟩
instance : AgT Tryz.prog 136 false:=⟨by kernel_rfl⟩
instance : SlT Tryz.prog 136 142:=⟨by kernel_rfl⟩
instance : ZrT Tryz.prog 136 [.slice none 0 0]:=⟨by kernel_rfl⟩
instance : SzT Tryz.prog 140 1:=⟨by kernel_rfl⟩
instance : ByT Tryz.prog 140 8:=⟨by kernel_rfl⟩
instance : AgT Tryz.prog 140 false:=⟨by kernel_rfl⟩
instance : ZrT Tryz.prog 140 [.int .u64 0]:=⟨by kernel_rfl⟩
instance : SzT Tryz.prog 142 6:=⟨by kernel_rfl⟩
instance : ByT Tryz.prog 142 48:=⟨by kernel_rfl⟩
instance : AgT Tryz.prog 142 true:=⟨by kernel_rfl⟩
instance : ArT Tryz.prog 142 6 140:=⟨by kernel_rfl⟩
instance : ZrT Tryz.prog 142 [.int .u64 0,.int .u64 0,.int .u64 0,.int .u64 0,.int .u64 0,.int .u64 0]:=⟨by kernel_rfl⟩
instance : SlT Tryz.prog 146 22:=⟨by kernel_rfl⟩
instance : SlT Tryz.prog 180 140:=⟨by kernel_rfl⟩
instance : SlT Tryz.prog 201 212:=⟨by kernel_rfl⟩
instance : SzT Tryz.prog 212 2:=⟨by kernel_rfl⟩
instance : ByT Tryz.prog 212 16:=⟨by kernel_rfl⟩
instance : AgT Tryz.prog 212 true:=⟨by kernel_rfl⟩
instance : FdT Tryz.prog 212 0 0 3:=⟨by kernel_rfl⟩
instance : FdT Tryz.prog 212 1 1 4:=⟨by kernel_rfl⟩
instance : PtT Tryz.prog 212 [(0,1),(1,1)]:=⟨by kernel_rfl⟩
instance : ZrT Tryz.prog 212 [.int .i64 0,.bool false]:=⟨by kernel_rfl⟩
instance : CaT Tryz.prog 7:=⟨by kernel_rfl⟩
instance : CaT Tryz.prog 9:=⟨by kernel_rfl⟩
instance : CaT Tryz.prog 11:=⟨by kernel_rfl⟩
instance : CaT Tryz.prog 12:=⟨by kernel_rfl⟩
instance : CaT Tryz.prog 13:=⟨by kernel_rfl⟩
instance : CaT Tryz.prog 14:=⟨by kernel_rfl⟩
instance : CaT Tryz.prog 15:=⟨by kernel_rfl⟩
instance : CaT Tryz.prog 21:=⟨by kernel_rfl⟩
instance : CaT Tryz.prog 22:=⟨by kernel_rfl⟩
instance : CaT Tryz.prog 23:=⟨by kernel_rfl⟩
instance : CaT Tryz.prog 24:=⟨by kernel_rfl⟩
instance : CaT Tryz.prog 25:=⟨by kernel_rfl⟩
instance : CaT Tryz.prog 27:=⟨by kernel_rfl⟩
instance : CaT Tryz.prog 32:=⟨by kernel_rfl⟩
instance : CaT Tryz.prog 33:=⟨by kernel_rfl⟩
instance : CaT Tryz.prog 38:=⟨by kernel_rfl⟩
instance : CaT Tryz.prog 39:=⟨by kernel_rfl⟩
instance : CaT Tryz.prog 40:=⟨by kernel_rfl⟩
instance : CaT Tryz.prog 45:=⟨by kernel_rfl⟩
instance : CaT Tryz.prog 53:=⟨by kernel_rfl⟩
instance : CaT Tryz.prog 55:=⟨by kernel_rfl⟩
instance : CaT Tryz.prog 56:=⟨by kernel_rfl⟩
instance : CaT Tryz.prog 57:=⟨by kernel_rfl⟩
instance : CaT Tryz.prog 61:=⟨by kernel_rfl⟩
instance : CaT Tryz.prog 62:=⟨by kernel_rfl⟩
instance : CaT Tryz.prog 63:=⟨by kernel_rfl⟩
instance : CaT Tryz.prog 64:=⟨by kernel_rfl⟩
instance : CaT Tryz.prog 65:=⟨by kernel_rfl⟩
instance : CaT Tryz.prog 66:=⟨by kernel_rfl⟩
instance : CaT Tryz.prog 67:=⟨by kernel_rfl⟩
instance : CaT Tryz.prog 68:=⟨by kernel_rfl⟩
instance : CaT Tryz.prog 69:=⟨by kernel_rfl⟩
instance : CaT Tryz.prog 70:=⟨by kernel_rfl⟩
instance : CaT Tryz.prog 71:=⟨by kernel_rfl⟩
instance : CaT Tryz.prog 72:=⟨by kernel_rfl⟩
instance : CaT Tryz.prog 73:=⟨by kernel_rfl⟩
instance : CaT Tryz.prog 74:=⟨by kernel_rfl⟩
instance : CaT Tryz.prog 77:=⟨by kernel_rfl⟩
instance : CaT Tryz.prog 83:=⟨by kernel_rfl⟩
instance : CaT Tryz.prog 84:=⟨by kernel_rfl⟩
instance : CaT Tryz.prog 85:=⟨by kernel_rfl⟩
instance : CaT Tryz.prog 86:=⟨by kernel_rfl⟩
instance : CaT Tryz.prog 88:=⟨by kernel_rfl⟩
instance : CaT Tryz.prog 89:=⟨by kernel_rfl⟩
instance : CaT Tryz.prog 90:=⟨by kernel_rfl⟩
instance : CaT Tryz.prog 94:=⟨by kernel_rfl⟩
instance : CaT Tryz.prog 96:=⟨by kernel_rfl⟩
instance : CaT Tryz.prog 97:=⟨by kernel_rfl⟩
instance : CaT Tryz.prog 98:=⟨by kernel_rfl⟩
instance : CaT Tryz.prog 99:=⟨by kernel_rfl⟩
instance : CaT Tryz.prog 100:=⟨by kernel_rfl⟩
instance : CaT Tryz.prog 101:=⟨by kernel_rfl⟩
instance : CaT Tryz.prog 104:=⟨by kernel_rfl⟩
instance : CaT Tryz.prog 105:=⟨by kernel_rfl⟩
instance : CaT Tryz.prog 106:=⟨by kernel_rfl⟩
instance : CaT Tryz.prog 107:=⟨by kernel_rfl⟩
instance : CaT Tryz.prog 108:=⟨by kernel_rfl⟩
instance : CaT Tryz.prog 109:=⟨by kernel_rfl⟩
instance : CaT Tryz.prog 110:=⟨by kernel_rfl⟩
instance : CaT Tryz.prog 111:=⟨by kernel_rfl⟩
instance : CaT Tryz.prog 112:=⟨by kernel_rfl⟩
instance : CaT Tryz.prog 113:=⟨by kernel_rfl⟩
instance : CaT Tryz.prog 114:=⟨by kernel_rfl⟩
instance : CaT Tryz.prog 115:=⟨by kernel_rfl⟩
instance : CaT Tryz.prog 116:=⟨by kernel_rfl⟩
instance : CaT Tryz.prog 117:=⟨by kernel_rfl⟩
instance : CaT Tryz.prog 118:=⟨by kernel_rfl⟩
instance : CaT Tryz.prog 119:=⟨by kernel_rfl⟩
instance : CaT Tryz.prog 134:=⟨by kernel_rfl⟩
instance : CaT Tryz.prog 135:=⟨by kernel_rfl⟩
instance : CaT Tryz.prog 136:=⟨by kernel_rfl⟩
instance : CaT Tryz.prog 137:=⟨by kernel_rfl⟩
instance : CaT Tryz.prog 138:=⟨by kernel_rfl⟩
instance : CaT Tryz.prog 139:=⟨by kernel_rfl⟩
instance : CaT Tryz.prog 140:=⟨by kernel_rfl⟩
instance : CaT Tryz.prog 141:=⟨by kernel_rfl⟩
instance : CaT Tryz.prog 142:=⟨by kernel_rfl⟩
instance : CaT Tryz.prog 144:=⟨by kernel_rfl⟩
instance : CaT Tryz.prog 145:=⟨by kernel_rfl⟩
instance : CaT Tryz.prog 146:=⟨by kernel_rfl⟩
instance : CaT Tryz.prog 147:=⟨by kernel_rfl⟩
instance : CaT Tryz.prog 148:=⟨by kernel_rfl⟩
instance : CaT Tryz.prog 149:=⟨by kernel_rfl⟩
instance : CaT Tryz.prog 150:=⟨by kernel_rfl⟩
instance : CaT Tryz.prog 151:=⟨by kernel_rfl⟩
instance : CaT Tryz.prog 152:=⟨by kernel_rfl⟩
instance : CaT Tryz.prog 153:=⟨by kernel_rfl⟩
instance : CaT Tryz.prog 154:=⟨by kernel_rfl⟩
instance : CaT Tryz.prog 155:=⟨by kernel_rfl⟩
instance : CaT Tryz.prog 156:=⟨by kernel_rfl⟩
instance : CaT Tryz.prog 157:=⟨by kernel_rfl⟩
instance : CaT Tryz.prog 170:=⟨by kernel_rfl⟩
instance : CaT Tryz.prog 171:=⟨by kernel_rfl⟩
instance : CaT Tryz.prog 172:=⟨by kernel_rfl⟩
instance : CaT Tryz.prog 173:=⟨by kernel_rfl⟩
instance : CaT Tryz.prog 174:=⟨by kernel_rfl⟩
instance : CaT Tryz.prog 175:=⟨by kernel_rfl⟩
instance : CaT Tryz.prog 176:=⟨by kernel_rfl⟩
instance : CaT Tryz.prog 177:=⟨by kernel_rfl⟩
instance : CaT Tryz.prog 178:=⟨by kernel_rfl⟩
instance : CaT Tryz.prog 180:=⟨by kernel_rfl⟩
instance : CaT Tryz.prog 181:=⟨by kernel_rfl⟩
instance : CaT Tryz.prog 182:=⟨by kernel_rfl⟩
instance : CaT Tryz.prog 183:=⟨by kernel_rfl⟩
instance : CaT Tryz.prog 184:=⟨by kernel_rfl⟩
instance : CaT Tryz.prog 185:=⟨by kernel_rfl⟩
instance : CaT Tryz.prog 186:=⟨by kernel_rfl⟩
instance : CaT Tryz.prog 187:=⟨by kernel_rfl⟩
instance : CaT Tryz.prog 188:=⟨by kernel_rfl⟩
instance : CaT Tryz.prog 201:=⟨by kernel_rfl⟩
instance : CaT Tryz.prog 209:=⟨by kernel_rfl⟩
instance : CaT Tryz.prog 210:=⟨by kernel_rfl⟩
end Go.Proofs.YtgkalkgplcdnkaaGreat
namespace Go.AL
inductive Stmt where
 | mk (op x y n : Int) (th el : List Stmt)
 deriving Inhabited
namespace Stmt
def op : Stmt → Int | .mk o _ _ _ _ _ => o
def x : Stmt → Int | .mk _ o _ _ _ _ => o
def y : Stmt → Int | .mk _ _ o _ _ _ => o
def n : Stmt → Int | .mk _ _ _ o _ _ => o
def th : Stmt → List Stmt | .mk _ _ _ _ o _ => o
def el : Stmt → List Stmt | .mk _ _ _ _ _ o => o
end Stmt
structure Prg where
 types : List Int
 body : List Stmt
 deriving Inhabited
structure Pnt where
 op : Int
 x : Int
 y : Int
 n : Int
 next : List Int
 deriving Inhabited,DecidableEq
structure Iss where
 point : Int
 kind : Int
 with_ : Int
 deriving Inhabited,DecidableEq
structure Acc where
 var : Int
 write : Bool
 deriving Inhabited,DecidableEq
mutual
def aR : Stmt → List AV
 | .mk o x y n t e => [iv o,iv x,iv y,iv n,.imm t.length (j6 t),.imm e.length (j6 e)]
def j6 : List Stmt → List AV
 | [] => []
 | s :: l => aR s ++ j6 l
end
theorem tH:∀ l,j6 l = flat aR l
 | [] => by simp [j6,flat]
 | s :: l => by have := tH l;simp only [j6,this,flat,List.flatMap_cons]
theorem fN (s:Stmt):aR s = [iv s.op,iv s.x,iv s.y,iv s.n,sl aR s.th,sl aR s.el]:=by
 cases s;simp only [aR,tH,Stmt.op,Stmt.x,Stmt.y,Stmt.n,Stmt.th,Stmt.el]
def bK (p : Pnt) : List AV := [iv p.op,iv p.x,iv p.y,iv p.n,sl cI p.next]
def fM (p : Iss) : List AV := [iv p.point,iv p.kind,iv p.with_]
def CR (p : Acc) : List AV := [iv p.var,bv p.write]
instance : FlT aR 6:=⟨fun s => by rw [fN]; rfl⟩
instance : FlT bK 5:=⟨fun s => rfl⟩
instance : FlT fM 3:=⟨fun s => rfl⟩
instance : FlT CR 2:=⟨fun s => rfl⟩
instance : FE aR (fun s => [iv s.op,iv s.x,iv s.y,iv s.n,sl aR s.th,sl aR s.el]):=⟨fN⟩
instance : FE bK (fun p => [iv p.op,iv p.x,iv p.y,iv p.n,sl cI p.next]):=⟨fun _ => rfl⟩
instance : FE fM (fun p => [iv p.point,iv p.kind,iv p.with_]):=⟨fun _ => rfl⟩
instance : FE CR (fun p => [iv p.var,bv p.write]):=⟨fun _ => rfl⟩
mutual
theorem tE:∀ s,bE (aR s) = true
 | .mk o x y n t e => by simp only [aR,bE,AV.pur,l9 t,l9 e,Bool.and_self]
theorem l9:∀ l,bE (j6 l) = true
 | [] => rfl
 | s :: l => by simp only [j6,gF,tE s,l9 l,Bool.and_self]
end
instance (s : Stmt) : Pur (aR s):=⟨tE s⟩
instance (s : Pnt) : Pur (bK s):=⟨by simp only [bK,bE,AV.pur,a8,Bool.and_self]; simp only [(inferInstance : Pur (flat cI s.next)).pf,Bool.and_self]⟩
instance (s : Iss) : Pur (fM s):=⟨rfl⟩
instance (s : Acc) : Pur (CR s):=⟨rfl⟩
abbrev bV (s : Stmt) : AV := .agg [iv s.op,iv s.x,iv s.y,iv s.n,sl aR s.th,sl aR s.el]
abbrev nB (p : Pnt) : AV := .agg [iv p.op,iv p.x,iv p.y,iv p.n,sl cI p.next]
abbrev cA (p : Prg) : AV := .agg [sl cI p.types,sl aR p.body]
abbrev fU (p : Iss) : AV := .agg [iv p.point,iv p.kind,iv p.with_]
def gQ (types : List Int) (v : Int) : Int := if 0 ≤ v ∧ v < types.length then types[v.toNat]! else 0
def iH (t : Int) : Bool := decide (t = 3) || decide (t = 4)
def aV (types : List Int) (x : Pnt) (v : Int) : Int :=
 if x.op = 3 then (if v = x.y then (if types[v.toNat]! = 2 ∨ types[v.toNat]! = 4 then 2 else 1) else 0)
 else if x.op = 4 ∨ x.op = 5 ∨ x.op = 6 then (if v = x.y then 3 else 0)
 else if x.op = 7 then (if v = x.x then 3 else if v = x.y then 1 else 0)
 else if x.op = 8 then (if v = x.x then 2 else 0) else 0
def aQ (x : Pnt) : Int := if 1 ≤ x.op ∧ x.op ≤ 6 then x.x else -1
theorem aW {α:Type}[Inhabited α] (xs:List α) (i:Nat) (h:i < xs.length):xs[i]! = xs[i] := getElem!_pos xs i h
theorem lJ {α:Type}[Inhabited α] (p:α → Bool) (xs:List α):xs.all p = true ↔ ∀ i,i < xs.length → p xs[i]! = true:=by
 rw [List.all_eq_true]
 constructor
 ·intro h i hi;rw [aW _ _ hi]; exact h _ (List.getElem_mem hi)
 ·intro h x hx
  obtain ⟨i,hi,rfl⟩ := List.getElem_of_mem hx
  have := h i hi;rwa [aW _ _ hi] at this
theorem lG {α:Type}[Inhabited α] (p:α → Bool) (xs:List α) (i:Nat) (hi:i < xs.length) (h:p xs[i]! = false):xs.all p = false:=by
 rw [Bool.eq_false_iff]; intro h2;rw [lJ] at h2;have := h2 i hi;rw [h] at this;cases this
theorem dK {α:Type}[Inhabited α] (xs:List α) (k:Nat) (h:k < xs.length):xs.take (k + 1) = xs.take k ++ [xs[k]!]:=by
 rw [aW _ _ h,List.take_succ_eq_append_getElem h]
theorem qR {α:Type}[Inhabited α] (xs:List α) (k:Nat) (h:k < xs.length):xs.drop k = xs[k]! :: xs.drop (k + 1):=by
 rw [aW _ _ h,List.drop_eq_getElem_cons h]
def bG (ts : List Int) : Bool := ts.all (fun t => decide (1 ≤ t) && decide (t ≤ 4)) && decide (ts.length ≤ 6)
theorem mL {ts:List Int}(h:bG ts = true) (i:Nat) (hi:i < ts.length):1 ≤ ts[i]! ∧ ts[i]! ≤ 4:=by
 unfold bG at h;grind [lJ]
theorem k8 {ts:List Int}(h:bG ts = true):ts.length ≤ 6:=by
 unfold bG at h;grind
theorem gN {ts:List Int}(h:bG ts = true) (v:Int):0 ≤ gQ ts v ∧ gQ ts v ≤ 4:=by
 unfold gQ;split
 ·rename_i h1;have := mL h v.toNat (by omega);omega
 ·omega
theorem qS {ts:List Int}(h:bG ts = true) (v:Int):0 < gQ ts v ↔ 0 ≤ v ∧ v < ts.length:=by
 unfold gQ;split
 ·rename_i h1;have := mL h v.toNat (by omega);omega
 ·omega
def fA (ts : List Int) (s : Stmt) : Bool :=
 let x := gQ ts s.x;let y := gQ ts s.y
 if s.op = 1 then decide (x = 1 ∧ s.y = 0 ∧ 0 ≤ s.n ∧ s.n ≤ 9)
 else if s.op = 2 then decide (x = 2 ∧ s.y = 0 ∧ 0 ≤ s.n ∧ s.n ≤ 9)
 else if s.n ≠ 0 then false
 else if s.op = 3 then decide (x = y ∧ 0 < x ∧ s.x ≠ s.y)
 else if s.op = 4 then decide (x = 3 ∧ 2 ≤ y ∧ s.x ≠ s.y)
 else if s.op = 5 then decide (x = 4 ∧ (y = 2 ∨ y = 4) ∧ s.x ≠ s.y)
 else if s.op = 6 then decide (x = 1 ∧ 2 ≤ y)
 else if s.op = 7 then decide ((x = 2 ∨ x = 4) ∧ y = 1)
 else if s.op = 8 then decide (x = 2 ∧ s.y = 0)
 else false
theorem aZ {α:Type}[Inhabited α] (xs:List α) (i:Nat) (h:i < xs.length):xs[i]! ∈ xs:=by
 rw [aW _ _ h]; exact List.getElem_mem h
mutual
def sG (ts : List Int) (d : Nat) : Stmt → Bool
 | .mk op x y n th el => if op ≠ 9 ∧ op ≠ 10 then th.isEmpty && el.isEmpty && fA ts (.mk op x y n th el)
  else match d with
   | 0 => false
   | d + 1 => decide (x = 0 ∧ y = 0 ∧ n = 0) && !(decide (op = 10) && !el.isEmpty) && okL ts d th && okL ts d el
def okL (ts : List Int) (d : Nat) : List Stmt → Bool
 | [] => true
 | s :: l => sG ts d s && okL ts d l
end
mutual
def cJ : Stmt → Nat
 | .mk _ _ _ _ th el => 1 + aM th + aM el
def aM : List Stmt → Nat
 | [] => 0
 | s :: l => cJ s + aM l
end
theorem hO (s:Stmt):cJ s = 1 + aM s.th + aM s.el := by cases s;simp only [cJ,Stmt.th,Stmt.el]
theorem Iz (ts:List Int) (d:Nat) (s:Stmt):sG ts d s = if s.op ≠ 9 ∧ s.op ≠ 10 then s.th.isEmpty && s.el.isEmpty && fA ts s
  else match d with
   | 0 => false
   | d + 1 => decide (s.x = 0 ∧ s.y = 0 ∧ s.n = 0) && !(decide (s.op = 10) && !s.el.isEmpty) && okL ts d s.th && okL ts d s.el := by
 cases s;cases d <;> simp only [sG,Stmt.th,Stmt.el,Stmt.op,Stmt.x,Stmt.y,Stmt.n] <;> rfl
theorem Ac (ts:List Int) (d:Nat):∀ l,okL ts d l = l.all (sG ts d)
 | [] => by simp [okL]
 | s :: l => by simp [okL,Ac ts d l]
theorem j9:∀ a b,aM (a ++ b) = aM a + aM b
 | [],b => by simp [aM]
 | s :: a,b => by simp only [List.cons_append,aM,j9 a b]; omega
theorem xL:∀ {l:List Stmt}{s:Stmt},s ∈ l → cJ s ≤ aM l
 | s :: l,_,.head _ => by simp only [aM]; omega
 | _ :: l,s,.tail _ h => by have := xL h;simp only [aM]; omega
theorem eZ (l:List Stmt) (i:Nat) (h:i < l.length):cJ l[i]! ≤ aM l := xL (aZ l i h)
theorem iA (s:Stmt):aM s.th + aM s.el < cJ s := by rw [hO]; omega
theorem dX:∀ l:List Stmt,l.length ≤ aM l
 | [] => by simp [aM]
 | s :: l => by have := dX l;simp only [aM,List.length_cons,hO]; omega
def bR (p : Prg) : Bool := bG p.types && okL p.types 4 p.body && decide (aM p.body ≤ 30)
theorem Iq (ts:List Int) (d:Int) (hd:0 ≤ d) (s:Stmt):sG ts d.toNat s = if s.op ≠ 9 ∧ s.op ≠ 10 then s.th.isEmpty && s.el.isEmpty && fA ts s
  else if d < 1 then false else decide (s.x = 0 ∧ s.y = 0 ∧ s.n = 0) && !(decide (s.op = 10) && !s.el.isEmpty) && okL ts (d - 1).toNat s.th && okL ts (d - 1).toNat s.el := by
 rw [Iz]
 by_cases h : s.op ≠ 9 ∧ s.op ≠ 10
 ·rw [if_pos h,if_pos h]
 ·rw [if_neg h, if_neg h]
  by_cases h2 : d < 1
  ·obtain rfl : d = 0 := by omega
   rfl
  ·obtain ⟨k, rfl⟩ : ∃ k : Nat, d = ((k + 1 : Nat) : Int) := ⟨(d - 1).toNat, by omega⟩
   have e1 : (((k + 1 : Nat) : Int)).toNat = k + 1 := rfl
   have e2 : (((k + 1 : Nat) : Int) - 1).toNat = k := by omega
   rw [e1,e2,if_neg h2]
theorem Gt {ts:List Int}{d:Nat}{l:List Stmt}{k:Nat}(hk:k < l.length) (h:sG ts d l[k]! = false):okL ts d l = false:=by
 rw [Ac]; exact lG _ _ k hk h
theorem Ha {ts:List Int}{d:Nat}{l:List Stmt}(h:∀ i,i < l.length → sG ts d l[i]! = true):okL ts d l = true:=by
 rw [Ac,lJ]; exact h
mutual
def Ej (most n : Int) : Stmt → Int
 | .mk _ _ _ _ th el => let n1 := n + 1 + lR (most - n) 0 th;if n1 ≤ most then n1 + lR (most - n1) 0 el else n1
def lR (most n : Int) : List Stmt → Int
 | [] => n
 | s :: l => if n ≤ most then lR most (Ej most n s) l else n
end
theorem Hq (most n:Int) (s:Stmt):Ej most n s = if n + 1 + lR (most - n) 0 s.th ≤ most then (n + 1 + lR (most - n) 0 s.th) + lR (most - (n + 1 + lR (most - n) 0 s.th)) 0 s.el else n + 1 + lR (most - n) 0 s.th:=by
 cases s;simp only [Ej,Stmt.th,Stmt.el]; rfl
mutual
theorem Ec:∀ (s:Stmt) (most n:Int),n ≤ Ej most n s ∧ Ej most n s ≤ n + cJ s ∧ (Ej most n s ≤ most → Ej most n s = n + cJ s)
 | .mk o x y k th el, most, n => by
  have h1 := k5 th (most - n) 0
  have h2 := fun m => k5 el m 0
  simp only [Ej,cJ]
  split
  ·have := h2 (most - (n + 1 + lR (most - n) 0 th));omega
  ·omega
theorem k5:∀ (l:List Stmt) (most n:Int),n ≤ lR most n l ∧ lR most n l ≤ n + aM l ∧ (lR most n l ≤ most → lR most n l = n + aM l)
 | [],most,n => by simp [lR,aM]
 | s :: l, most, n => by
  have h1 := Ec s most n
  have h2 := k5 l most (Ej most n s)
  simp only [lR,aM]
  split <;> omega
end
theorem Jc (l:List Stmt) (m:Int):decide (lR m 0 l ≤ m) = decide ((aM l:Int) ≤ m):=by
 have := k5 l m 0;simp only [decide_eq_decide]; omega
theorem F7 (most n:Int) (l:List Stmt) (k:Nat) (hk:k < l.length) (h:n ≤ most):lR most n (l.drop k) = lR most (Ej most n l[k]!) (l.drop (k + 1)):=by
 rw [qR _ _ hk,lR,if_pos h]
theorem ED (most n:Int) (l:List Stmt) (h:¬ n ≤ most):lR most n l = n := by cases l <;> simp [lR,h]
theorem HD (most n:Int) (l:List Stmt) (k:Nat) (hk:¬ k < l.length):lR most n (l.drop k) = n:=by
 rw [List.drop_of_length_le (by omega)]; simp [lR]
mutual
def kB (ts : List Int) (nest c : Int) : Stmt → Bool × Int
 | .mk op x y n th el => if 30 < c + 1 then (false, c + 1) else
   if op ≠ 9 ∧ op ≠ 10 then (th.isEmpty && el.isEmpty && fA ts (.mk op x y n th el),c + 1)
   else if nest = 4 ∨ x ≠ 0 ∨ y ≠ 0 ∨ n ≠ 0 ∨ (op = 10 ∧ el ≠ []) then (false,c + 1)
   else if (iR ts (nest + 1) (c + 1) th).1 = true then iR ts (nest + 1) (iR ts (nest + 1) (c + 1) th).2 el else (false,(iR ts (nest + 1) (c + 1) th).2)
def iR (ts : List Int) (nest c : Int) : List Stmt → Bool × Int
 | [] => (true,c)
 | s :: l => if (kB ts nest c s).1 = true then iR ts nest (kB ts nest c s).2 l else (false,(kB ts nest c s).2)
end
theorem Hh (ts : List Int) (nest c : Int) (s : Stmt) : kB ts nest c s = if 30 < c + 1 then (false, c + 1) else
   if s.op ≠ 9 ∧ s.op ≠ 10 then (s.th.isEmpty && s.el.isEmpty && fA ts s,c + 1)
   else if nest = 4 ∨ s.x ≠ 0 ∨ s.y ≠ 0 ∨ s.n ≠ 0 ∨ (s.op = 10 ∧ s.el ≠ []) then (false,c + 1)
   else if (iR ts (nest + 1) (c + 1) s.th).1 = true then iR ts (nest + 1) (iR ts (nest + 1) (c + 1) s.th).2 s.el else (false,(iR ts (nest + 1) (c + 1) s.th).2) := by
 cases s;simp only [kB,Stmt.th,Stmt.el,Stmt.op,Stmt.x,Stmt.y,Stmt.n]; rfl
mutual
theorem B9 (ts:List Int):∀ (s:Stmt) (d:Nat) (c:Int),d ≤ 4 → 0 ≤ c → c ≤ 30 → c ≤ (kB ts (4 - d) c s).2 ∧ (kB ts (4 - d) c s).2 ≤ c + cJ s ∧ (kB ts (4 - d) c s).2 ≤ 31 ∧
  ((kB ts (4 - d) c s).1 = true ↔ sG ts d s = true ∧ c + cJ s ≤ 30) ∧ ((kB ts (4 - d) c s).1 = true → (kB ts (4 - d) c s).2 = c + cJ s)
 | .mk op x y n th el, d, c, hd, hc0, hc => by
  have hS : cJ (.mk op x y n th el) = 1 + aM th + aM el := by simp only [cJ]
  rw [hS]
  simp only [kB]
  split
  ·simp;omega
  ·rename_i h30
   split
   ·rename_i hop
    simp only [sG,hop,if_true,ne_eq,not_false_eq_true,and_self]
    cases th with
    | cons a b => simp [aM]; have := hO a;omega
    | nil => cases el with
     | cons a b => simp [aM]; have := hO a;omega
     | nil => simp [aM,hop]; omega
   ·rename_i hop
    split
    ·rename_i hb
     have : sG ts d (.mk op x y n th el) = false := by
      simp only [sG,hop,if_false]
      cases d with
      | zero => rfl
      | succ d =>
       simp only [Bool.and_eq_false_iff,decide_eq_false_iff_not,Bool.not_eq_false',Bool.and_eq_true,decide_eq_true_eq]
       rcases hb with h|h|h|h | ⟨h1,h2⟩
       ·omega
       ·exact .inl (.inl (.inl (by omega)))
       ·exact .inl (.inl (.inl (by omega)))
       ·exact .inl (.inl (.inl (by omega)))
       ·exact .inl (.inl (.inr ⟨h1,by cases el;exact absurd rfl h2;rfl⟩))
     simp [this]; omega
    ·rename_i hb
     cases d with
     | zero => exact absurd (.inl rfl) hb
     | succ d =>
      have e : ((4 : Int) - ((d + 1 : Nat) : Int)) + 1 = 4 - (d : Int) := by omega
      rw [e]
      have h1 := mS ts th d (c + 1) (by omega) (by omega) (by omega)
      have hok : sG ts (d + 1) (.mk op x y n th el) = (okL ts d th && okL ts d el) := by
       simp only [sG,hop,if_false]
       have e1 : (x = 0 ∧ y = 0 ∧ n = 0) := by omega
       have e2 : (decide (op = 10) && !el.isEmpty) = false := by
        rw [Bool.and_eq_false_iff,decide_eq_false_iff_not]
        by_cases ho : op = 10
        ·right; cases el with
         | nil => rfl
         | cons a b => exact absurd (.inr (.inr (.inr (.inr ⟨ho,by simp⟩)))) hb
        ·exact .inl ho
       simp [e1,e2]
      rw [hok]
      generalize iR ts (4 - (d : Int)) (c + 1) th = r1 at h1
      obtain ⟨b1,c1⟩ := r1
      dsimp only at h1 ⊢
      cases b1 with
      | true =>
       have h3 := h1.2.2.2.1.1 rfl
       have h4 := h1.2.2.2.2 rfl
       have h2 := mS ts el d c1 (by omega) (by omega) (by omega)
       simp only [if_true,h3.1,Bool.true_and]
       refine ⟨by omega,by omega,by omega,⟨fun q => ?_,fun q => ?_⟩,fun q => ?_⟩
       ·have := h2.2.2.2.1.1 q;exact ⟨this.1,by omega⟩
       ·exact h2.2.2.2.1.2 ⟨q.1,by omega⟩
       ·have := h2.2.2.2.2 q;omega
      | false =>
       simp only [Bool.false_eq_true,if_false,false_iff]
       refine ⟨by omega,by omega,by omega,?_,fun h => h.elim⟩
       rintro ⟨q1,q2⟩
       simp only [Bool.and_eq_true] at q1
       exact absurd (h1.2.2.2.1.2 ⟨q1.1,by omega⟩) (by simp)
theorem mS (ts:List Int):∀ (l:List Stmt) (d:Nat) (c:Int),d ≤ 4 → 0 ≤ c → c ≤ 30 → c ≤ (iR ts (4 - d) c l).2 ∧ (iR ts (4 - d) c l).2 ≤ c + aM l ∧ (iR ts (4 - d) c l).2 ≤ 31 ∧
  ((iR ts (4 - d) c l).1 = true ↔ okL ts d l = true ∧ c + aM l ≤ 30) ∧ ((iR ts (4 - d) c l).1 = true → (iR ts (4 - d) c l).2 = c + aM l)
 | [],d,c,hd,hc0,hc => by simp [iR,okL,aM]; omega
 | s :: l, d, c, hd, hc0, hc => by
  have h1 := B9 ts s d c hd hc0 hc
  simp only [iR,okL,aM]
  generalize kB ts (4 - (d : Int)) c s = r1 at h1
  obtain ⟨b1,c1⟩ := r1
  dsimp only at h1 ⊢
  cases b1 with
  | true =>
   have h3 := h1.2.2.2.1.1 rfl
   have h4 := h1.2.2.2.2 rfl
   have h2 := mS ts l d c1 (by omega) (by omega) (by omega)
   simp only [if_true,h3.1,Bool.true_and]
   refine ⟨by omega,by omega,by omega,⟨fun q => ?_,fun q => ?_⟩,fun q => ?_⟩
   ·have := h2.2.2.2.1.1 q;exact ⟨this.1,by omega⟩
   ·exact h2.2.2.2.1.2 ⟨q.1,by omega⟩
   ·have := h2.2.2.2.2 q;omega
  | false =>
   simp only [Bool.false_eq_true,if_false,false_iff]
   refine ⟨by omega,by omega,by omega,?_,fun h => h.elim⟩
   rintro ⟨q1,q2⟩
   simp only [Bool.and_eq_true] at q1
   exact absurd (h1.2.2.2.1.2 ⟨q1.1,by omega⟩) (by simp)
end
theorem Ci (p:Prg):(bG p.types && (iR p.types 0 0 p.body).1) = bR p:=by
 have h := (mS p.types p.body 4 0 (by omega) (by omega) (by omega)).2.2.2.1
 have e : ((4 : Int) - ((4 : Nat) : Int)) = 0 := by omega
 rw [e] at h
 unfold bR
 rw [Bool.and_assoc]
 congr 1
 rw [Bool.eq_iff_iff,h]
 simp only [Bool.and_eq_true,decide_eq_true_eq]
 constructor
 ·exact fun ⟨a,b⟩ => ⟨a,by omega⟩
 ·exact fun ⟨a,b⟩ => ⟨a,by omega⟩
theorem scL_stop {ts:List Int}{nest c:Int}{l:List Stmt}{k:Nat}(hk:k < l.length):iR ts nest c (l.drop k) = if (kB ts nest c l[k]!).1 = true then iR ts nest (kB ts nest c l[k]!).2 (l.drop (k + 1)) else (false,(kB ts nest c l[k]!).2):=by
 rw [qR _ _ hk,iR]
theorem Jn (ts:List Int) (l:List Stmt) (nest c:Int) (h0:0 ≤ nest) (h1:nest ≤ 4) (h2:0 ≤ c) (h3:c ≤ 30):0 ≤ (iR ts nest c l).2 ∧ (iR ts nest c l).2 ≤ 31 ∧ ((iR ts nest c l).1 = true → (iR ts nest c l).2 ≤ 30):=by
 obtain ⟨k,hk⟩ : ∃ k : Nat,nest = 4 - (k : Int) := ⟨(4 - nest).toNat,by omega⟩
 have := mS ts l k c (by omega) h2 h3
 rw [← hk] at this
 refine ⟨by omega,by omega,fun h => ?_⟩
 have h4 := this.2.2.2.1.1 h
 have h5 := this.2.2.2.2 h
 omega
theorem J6 (ts:List Int) (s:Stmt) (nest c:Int) (h0:0 ≤ nest) (h1:nest ≤ 4) (h2:0 ≤ c) (h3:c ≤ 30):0 ≤ (kB ts nest c s).2 ∧ (kB ts nest c s).2 ≤ 31 ∧ ((kB ts nest c s).1 = true → (kB ts nest c s).2 ≤ 30):=by
 obtain ⟨k,hk⟩ : ∃ k : Nat,nest = 4 - (k : Int) := ⟨(4 - nest).toNat,by omega⟩
 have := B9 ts s k c (by omega) h2 h3
 rw [← hk] at this
 refine ⟨by omega,by omega,fun h => ?_⟩
 have h4 := this.2.2.2.1.1 h
 have h5 := this.2.2.2.2 h
 omega
def mA (ks : List Nat) (ts : List (Nat × AV)) : List (Nat × AV) := ks.filterMap fun t => (lk ts t).map fun v => (t,v)
def mZ (ks : List Nat) (hs : List (Nat × Option (List AV))) : List (Nat × Option (List AV)) := ks.map fun t => (t,aO hs t)
theorem j8 {ts:List (Nat × AV)}:∀ (ks:List Nat),mE ts (mA ks ts)
 | [] => trivial
 | k :: ks => by
  simp only [mA,List.filterMap_cons]
  cases h : lk ts k with
  | none => exact j8 ks
  | some v => exact ⟨h,j8 ks⟩
theorem mX {hs:List (Nat × Option (List AV))}:∀ (ks:List Nat),k7 hs (mZ ks hs)
 | [] => trivial
 | k :: ks => ⟨.inr rfl,mX ks⟩
theorem kY {ts a b:List (Nat × AV)}(h1:mE ts a) (h2:mE ts b):mE ts (a ++ b):=by
 induction a with
 | nil => exact h2
 | cons x a ih => exact ⟨h1.1,ih h1.2⟩
theorem kK {ts a b:List (Nat × Option (List AV))}(h1:k7 ts a) (h2:k7 ts b):k7 ts (a ++ b):=by
 induction a with
 | nil => exact h2
 | cons x a ih => exact ⟨h1.1,ih h1.2⟩
variable {P : Program} {N : Nat} {Q : Exit → AS → Prop}
theorem Ey {σ:Type}{c:Code}{ts:List (Nat × AV)}{hs:List (Nat × Option (List AV))}{n:Nat}{z0:Lo}(ks:List Nat) (kt:List (Nat × AV)) (js:List Nat) (kh:List (Nat × Option (List AV)))
  (ot : σ → List (Nat × AV)) (oh : σ → List (Nat × Option (List AV))) (p : σ → Prop) (μ : σ → Nat) (i0 : σ) (h0 : p i0) (hk : mA ks ts = kt) (hj : mZ js hs = kh)
  (h1 : mE ts (ot i0)) (h2 : k7 hs (oh i0))
  (round : ∀ i,p i → AW P N c (mQ (fun s' => ∃ j,p j ∧ μ j < μ i ∧ Le s' ⟨ot j ++ kt,oh j ++ kh,n,z0⟩) Q) ⟨ot i ++ kt,oh i ++ kh,n,z0⟩) :
  AW P N (.loop c) Q ⟨ts,hs,n,z0⟩ := by
 subst hk hj
 exact BM p (fun i => ⟨ot i ++ mA ks ts,oh i ++ mZ js hs,n,z0⟩) μ ⟨i0,h0,Le.lit (kY h1 (j8 ks)) (kK h2 (mX js)) (Nat.le_refl _)⟩ round
section
variable {P : Program} {N : Nat} {all : Array Oper} {Q : Exit → AS → Prop} {m : Md} {rest : List Oper} {s : AS}
theorem Dg {dst:Option Tmp}{op:Op}{ty:TypeId}{pos:String}{af:Array Edge}{j d:Nat}{want:Bool}(hj:(all[j]?).bind (·.dst) = some d) (hb:lk s.ts d = some (.v undef))
  (hdN : ∀ d,dst = some d → d < N)
  (h2 : RW P N all Q (m.add [.inl d] (wD dst)) rest (put s dst (.v undef))) : RW P N all Q m (⟨dst,op,ty,pos,af,some (j,want)⟩ :: rest) s := by
 have hyl : ∀ (C : Ctx) (ι : Pl) (T : Nat → Option AV) (H : Nat → Option (List AV)) (a : Act) (w : World), T d = lk s.ts d → TG C ι T H a w → yielded all a.tmps j = none := by
  intro C ι T H a w hT g
  obtain ⟨y,hy,hr⟩ := g.tm d _ (by rw [hT]; exact hb)
  simp only [Rd] at hr
  subst hr
  simp [yielded,hj,hy,undef]
 cases m with
 | txt =>
  rintro C a w hN ⟨h0,ι,g,gh⟩
  have hyl' := hyl C ι _ _ a w rfl g
  unfold wpList
  simp only [Region.wanted,hyl']
  rw [if_neg (by simp)]
  refine h2 C _ w hN ?_
  cases hd : dst with
  | none => exact ⟨h0,ι,g,gh⟩
  | some d' =>
   refine ⟨h0,ι,?_,gh⟩
   simp only [put]
   rw [nJ]
   exact g.put (hN.symm ▸ hdN d' hd) (by simp [Rd])
 | drw ks pend =>
  obtain ⟨As,S',n2,tr,hc,hn2,_,s',e1,e2,e3,hQ⟩ := h2
  refine ⟨⟨pend ++ [.inl d],Bo dst (.v undef),s.nid,s.nid⟩ :: As,S',n2,.cons ?_ rfl (Nat.le_refl _) ?_,?_,hn2,fun _ => ⟨_,_,rfl,fun r hr => List.mem_append_left _ hr⟩,s',e1,e2,?_,hQ⟩
  ·intro C ι F S a w hN hag hF g gh K Q' hK
   have hT : rS S d = lk s.ts d := by rw [← lQ]; simp only [rS,hag _ (List.mem_append_right _ (by simp : Sum.inl d ∈ [Sum.inl d]))]
   have hyl' := hyl C ι _ _ a w hT g
   rw [if_neg (by simp [Region.wanted,hyl'])]
   refine hK ι _ w ?_ ?_
   ·rw [lF]; exact tZ g (fun x hx => hN.symm ▸ hdN x hx) (by simp [Rd])
   ·rw [lF]; exact (gh.less (fun _ _ h => h) (fun j hj => hj.1)).1
  ·rw [vI] at tr
   have hnid : (put s dst (.v undef)).nid = s.nid := by cases dst <;> rfl
   rw [hnid] at tr
   exact tr
  ·have hk : s8 ⟨pend ++ [.inl d], Bo dst (.v undef), s.nid, s.nid⟩ = (pend ++ [.inl d], wD dst) := by
    simp only [s8,jZ]
    congr 1
    cases dst <;> rfl
   rw [List.map_cons,hk]
   simpa using hc
  ·rw [e3]; cases dst <;> rfl
end
section
variable {P : Program} {N : Nat} {all : Array Oper} {Q : Exit → AS → Prop} {md : Md} {rest : List Oper} {ts : List (Nat × AV)} {hs : List (Nat × Option (List AV))} {n : Nat} {z0 : Lo} {ty : TypeId} {pos : String} {af : Array Edge}
theorem Dz {dst:Nat}{op:Op}{j d:Nat}{want:Bool}{md':Md}[hmd:MdA md [.inl d] [.inl dst] md'] (hj:(all[j]?).bind (·.dst) = some d) (hb:lk ts d = some (.v undef)) (hN:Nat.blt dst N = true)
  (k : RW P N all Q md' rest ⟨(dst,.v undef) :: ts,hs,n,z0⟩) : RW P N all Q md (⟨some dst,op,ty,pos,af,some (j,want)⟩ :: rest) ⟨ts,hs,n,z0⟩ :=
 Dg hj hb (fun d h => by cases h;exact dD hN) (by rw [show wD (some dst) = [Sum.inl dst] from rfl,hmd.pf]; exact k)
end
section
variable {P : Program} {N : Nat} {all : Array Oper} {Q : Exit → AS → Prop} {md : Md} {rest : List Oper} {s : AS} {ty : TypeId} {pos : String} {af : Array Edge} {dst : Option Tmp} {op : Op}
theorem Ku {jw:Nat × Bool}(h:RW P N all Q md (⟨dst,op,ty,pos,af,some jw⟩ :: rest) s):RW P N all Q md (⟨dst,op,ty,pos,af,some jw⟩ :: rest) s := h
theorem aF {l:List Oper}(h:RW P N all Q md l s):RW P N all Q md l s := h
theorem FD {c:Code}(h:AW P N c Q s):AW P N c Q s := h
theorem JO {o1:BinOp}{o2:TypeId}{o3 o4:Operand}{o5:TypeId}(h:RW P N all Q md (⟨dst,.binOp o1 o2 o3 o4 o5,ty,pos,af,none⟩ :: rest) s):RW P N all Q md (⟨dst,.binOp o1 o2 o3 o4 o5,ty,pos,af,none⟩ :: rest) s := h
theorem HO {o1:TypeId}{o2:Operand}(h:RW P N all Q md (⟨dst,.load o1 o2,ty,pos,af,none⟩ :: rest) s):RW P N all Q md (⟨dst,.load o1 o2,ty,pos,af,none⟩ :: rest) s := h
theorem KO {o1:Builtin}{o2:Array Operand}{o3:Array TypeId}(h:RW P N all Q md (⟨dst,.call ⟨.builtin o1,o2,o3⟩,ty,pos,af,none⟩ :: rest) s):RW P N all Q md (⟨dst,.call ⟨.builtin o1,o2,o3⟩,ty,pos,af,none⟩ :: rest) s := h
theorem IW {o1:TypeId}{o2 o3:Operand}(h:RW P N all Q md (⟨dst,.indexAddr o1 o2 o3,ty,pos,af,none⟩ :: rest) s):RW P N all Q md (⟨dst,.indexAddr o1 o2 o3,ty,pos,af,none⟩ :: rest) s := h
theorem Hb {o1 o2 o3:Operand}(h:RW P N all Q md (⟨dst,.pick o1 o2 o3,ty,pos,af,none⟩ :: rest) s):RW P N all Q md (⟨dst,.pick o1 o2 o3,ty,pos,af,none⟩ :: rest) s := h
theorem I5 {o1:TypeId}{o2:Array (Nat × Operand)}(h:RW P N all Q md (⟨dst,.build o1 o2,ty,pos,af,none⟩ :: rest) s):RW P N all Q md (⟨dst,.build o1 o2,ty,pos,af,none⟩ :: rest) s := h
theorem Jb {o1:TypeId}{o2:Operand}{o3 o4 o5:Option Operand}(h:RW P N all Q md (⟨dst,.slice o1 o2 o3 o4 o5,ty,pos,af,none⟩ :: rest) s):RW P N all Q md (⟨dst,.slice o1 o2 o3 o4 o5,ty,pos,af,none⟩ :: rest) s := h
theorem Kz {o1:TypeId}{o2 o3:Operand}(h:RW P N all Q md (⟨dst,.index o1 o2 o3,ty,pos,af,none⟩ :: rest) s):RW P N all Q md (⟨dst,.index o1 o2 o3,ty,pos,af,none⟩ :: rest) s := h
end
section
variable {P : Program} {N : Nat} {Q : Exit → AS → Prop} {all : Array Oper} {rest : List Oper} {ts : List (Nat × AV)} {hs : List (Nat × Option (List AV))} {n : Nat} {z0 : Lo} {md : Md}
variable {d : Nat} {ty : TypeId} {pos : String} {af : Array Edge}
def uU : AV → Option (FuncId × List AV × List AV)
 | .clos (.func k) f c => some (k,f,c)
 | .v (.func (.func k) ⟨[]⟩ ⟨[]⟩) => some (k,[],[])
 | _ => none
theorem CI {w:World}{bad:Nat → Prop}{ι:Pl}{av:AV}{y:Value}{k:FuncId}{f c:List AV}(h:uU av = some (k,f,c)) (hy:Rd w bad ι av y) :
  ∃ lf lc : List Value,y = .func (.func k) lf.toArray lc.toArray ∧ RdV w bad ι f lf ∧ RdV w bad ι c lc := by
 unfold uU at h
 split at h
 ·cases h;simpa only [Rd] using hy
 ·cases h;simp only [Rd] at hy;exact ⟨[],[],hy,by simp [RdV],by simp [RdV]⟩
 ·cases h
theorem l7 {w:World}{bad:Nat → Prop}{ι:Pl}:∀ {a b:List AV}{la lb:List Value},RdV w bad ι a la → RdV w bad ι b lb → RdV w bad ι (a ++ b) (la ++ lb)
 | [],b,la,lb,h1,h2 => by simp only [RdV] at h1;subst h1;exact h2
 | x :: a, b, la, lb, h1, h2 => by
  simp only [RdV] at h1
  obtain ⟨y,l',rfl,h3,h4⟩ := h1
  simp only [List.cons_append,RdV]
  exact ⟨y,_,rfl,h3,l7 h4 h2⟩
theorem A2 {k:FuncId}{t:Nat}{args:Array Operand}{tys:Array TypeId}(hc:fC P k = true) (dst:Option Tmp) (a:Act) (w:World){lf lc:List Value}(hy:a.eval (.tmp t) = .func (.func k) lf.toArray lc.toArray) :
  (execOp a.eval ⟨dst,.call ⟨.value (.tmp t),args,tys⟩,ty,pos,af,none⟩).run P w = .ok (.enter k (lf ++ args.toList.map a.eval ++ lc).toArray) w := by
 simp only [execOp,Sem.run_bind,resolve,hy,Deferred.ofValue,Sem.run_pure,Result.andThen_ok,invoke,wB hc]
 congr 2
 apply Array.ext'
 simp
theorem Fb {k:FuncId}{t:Nat}{args:Array Operand}{tys:Array TypeId}{avs f c:List AV}{fv:AV}{r:AV}(hc:fC P k = true) (hx:lk ts t = some fv) (hcl:uU fv = some (k,f,c)) (ha:evL (lk ts) args.toList = some avs)
  (h : PC P k (f ++ avs ++ c) (fun x => x = r)) (hp : bE (f ++ avs ++ c) = true) (hN : d < N)
  (kk : RW P N all Q (md.add (rO (.tmp t) ++ jU args.toList) [.inl d]) rest ⟨(d,r) :: ts,hs,n,z0⟩) : RW P N all Q md (⟨some d,.call ⟨.value (.tmp t),args,tys⟩,ty,pos,af,none⟩ :: rest) ⟨ts,hs,n,z0⟩ := by
 refine iF (rs := rO (.tmp t) ++ jU args.toList) (ws := []) (n' := n) (out := r) rfl (Nat.le_refl _) (.inl rfl) (fun C ι F T H a w K Q' hCN ag hF g gh hK => ?_) (fun x hx => by cases hx;exact hN) kk
 obtain ⟨lf,lc,hy,h1,h2⟩ := CI hcl (bQ g (x := .tmp t) (ag.l.ev.trans hx))
 simp only [Oper.wp,A2 hc _ a w hy,Oper.upon]
 refine (sJ h hp gh (l7 (l7 h1 (gA g (ag.r.evL.trans ha))) h2)).mono ?_
 rintro e w' ⟨v,r',rfl,h2,h3,h4,h5,h6⟩
 subst h2
 exact hK ι w' v (g.carry h5) (h4.less (fun _ _ h => h) (fun j hj => hj.1)).1 h6
theorem jA {k:FuncId}{t:Nat}{args:Array Operand}{tys:Array TypeId}{avs f c:List AV}{fv:AV}{r:AV}(hx:lk ts t = some fv) (hcl:uU fv = some (k,f,c)) (hc:CaT P k) (ha:evL (lk ts) args.toList = some avs)
  (h : PC P k (f ++ avs ++ c) (fun x => x = r)) (hp : bE (f ++ avs ++ c) = true) (hN : Nat.blt d N = true) {md' : Md} [hmd : MdA md (rO (.tmp t) ++ jU args.toList) [.inl d] md']
  (kk : RW P N all Q md' rest ⟨(d,r) :: ts,hs,n,z0⟩) : RW P N all Q md (⟨some d,.call ⟨.value (.tmp t),args,tys⟩,ty,pos,af,none⟩ :: rest) ⟨ts,hs,n,z0⟩ :=
 Fb hc.pf hx hcl ha h hp (dD hN) (by rw [hmd.pf]; exact kk)
theorem kF {fn:Go.Fn}{fs cs:Array Operand}{f c:List AV}(hf:evL (lk ts) fs.toList = some f) (hc:evL (lk ts) cs.toList = some c) (hN:Nat.blt d N = true){md':Md}[hmd:MdA md (jU fs.toList ++ jU cs.toList) [.inl d] md']
  (kk : RW P N all Q md' rest ⟨(d,.clos fn f c) :: ts,hs,n,z0⟩) : RW P N all Q md (⟨some d,.makeFunc fn fs cs,ty,pos,af,none⟩ :: rest) ⟨ts,hs,n,z0⟩ := by
 refine dR (out := .clos fn f c) (rs := jU fs.toList ++ jU cs.toList) rfl rfl (dD hN) (fun C ι F T H a w ag g gh => ?_) (by rw [hmd.pf]; exact kk)
 refine ⟨.func fn (fs.map a.eval) (cs.map a.eval),by simp [execOp,Instr.makeFunc],?_⟩
 simp only [Rd]
 exact ⟨fs.toList.map a.eval,cs.toList.map a.eval,by rw [← Array.toList_map,← Array.toList_map,Array.toArray_toList,Array.toArray_toList],gA g (ag.l.evL.trans hf),gA g (ag.r.evL.trans hc)⟩
end
class Sm (n : Nat) : Prop where pf : n < 2 ^ 62
def lZ (a b : Nat) : Nat := a ^^^ (a &&& b)
theorem cU (a b i:Nat):(lZ a b).testBit i = (a.testBit i && !b.testBit i):=by
 simp only [lZ,Nat.testBit_xor,Nat.testBit_and]; cases a.testBit i <;> cases b.testBit i <;> rfl
instance (a b : Nat) [h : Sm a] [h2 : Sm b] : Sm (a ||| b):=⟨Nat.or_lt_two_pow h.pf h2.pf⟩
instance (a b : Nat) [h : Sm a] : Sm (a &&& b):=⟨Nat.lt_of_le_of_lt Nat.and_le_left h.pf⟩
instance (a b : Nat) [h : Sm a] : Sm (lZ a b):=⟨Nat.xor_lt_two_pow h.pf (Nat.lt_of_le_of_lt Nat.and_le_left h.pf)⟩
instance (a b : Nat) [h : Sm a] : Sm (a >>> b):=⟨Nat.lt_of_le_of_lt (by rw [Nat.shiftRight_eq_div_pow]; exact Nat.div_le_self _ _) h.pf⟩
instance : Sm 0:=⟨by decide⟩
instance : Sm 1:=⟨by decide⟩
theorem Sm.pow {k:Nat}(h:k < 62):Sm (2 ^ k) := ⟨Nat.pow_lt_pow_right (by decide) h⟩
class K6 (k : IntKind) : Prop where pf : k = .i64 ∨ k = .u64
instance : K6 .i64:=⟨.inl rfl⟩
instance : K6 .u64:=⟨.inr rfl⟩
theorem pE {k:IntKind}[hk:K6 k] {a:Nat}(h:a < 2 ^ 62):k.wrap (a:Int) = (a:Int):=by
 rcases hk.pf with rfl|rfl
 ·exact y7 (by omega)
 ·simp only [IntKind.wrap]
  first
  | (simp [IntKind.bits,IntKind.signed]; omega)
  | omega
theorem zG {k:IntKind}[hk:K6 k]:k.bits = 64 := by rcases hk.pf with rfl | rfl <;> rfl
theorem iZ (a:Nat) (h:a < 2 ^ 62):BitVec.ofInt 64 (a:Int) = BitVec.ofNat 64 a := CG (a:Int) ⟨by omega,by omega⟩
theorem kZ (a:Nat) (h:a < 2 ^ 62):(BitVec.ofNat 64 a).toNat = a := by rw [BitVec.toNat_ofNat,Nat.mod_eq_of_lt (by omega)]
theorem Hm {k:IntKind}[hk:K6 k] (a b:Nat) [ha:Sm a] [hb:Sm b]:jC .or k a b = some (.int k ((a ||| b:Nat):Int)):=by
 simp only [jC]; rw [zG,iZ a ha.pf,iZ b hb.pf,BitVec.toNat_or,kZ a ha.pf,kZ b hb.pf,pE (Nat.or_lt_two_pow ha.pf hb.pf)]
theorem wC {k:IntKind}[hk:K6 k] (a b:Nat) [ha:Sm a] [hb:Sm b]:jC .and k a b = some (.int k ((a &&& b:Nat):Int)):=by
 simp only [jC]; rw [zG,iZ a ha.pf,iZ b hb.pf,BitVec.toNat_and,kZ a ha.pf,kZ b hb.pf,pE (Nat.and_lt_two_pow _ hb.pf)]
theorem Es {k:IntKind}[hk:K6 k] (a b:Nat) [ha:Sm a] [hb:Sm b]:jC .andNot k a b = some (.int k ((lZ a b:Nat):Int)):=by
 simp only [jC]
 have e : (BitVec.ofInt 64 (a : Int) &&& ~~~ BitVec.ofInt 64 (b : Int)).toNat = lZ a b := by
  rw [iZ a ha.pf,iZ b hb.pf]
  apply Nat.eq_of_testBit_eq
  intro i
  rw [BitVec.toNat_and,Nat.testBit_and,cU,kZ a ha.pf]
  cases h : a.testBit i with
  | false => simp
  | true =>
   have hi : i < 64 := by
    rcases Nat.lt_or_ge i 62 with h1|h1
    ·omega
    ·have := Nat.testBit_lt_two_pow (Nat.lt_of_lt_of_le ha.pf (Nat.pow_le_pow_right (by decide) h1));rw [h] at this;cases this
   rw [← BitVec.getLsbD,BitVec.getLsbD_not,BitVec.getLsbD_ofNat]
   simp [hi]
 rw [zG,e,pE (inferInstance : Sm (lZ a b)).pf]
theorem Dw {k:IntKind}[hk:K6 k] (m:Int) (h:0 ≤ m ∧ m < 62):jC .shl k 1 m = some (.int k ((2 ^ m.toNat:Nat):Int)):=by
 obtain ⟨j,rfl⟩ := Int.eq_ofNat_of_zero_le h.1
 simp only [jC]
 rw [if_neg (by omega),zG,Int.toNat_natCast,Nat.min_eq_left (by omega),Int.one_mul]
 rw [show ((2 : Int) ^ j) = ((2 ^ j : Nat) : Int) by simp,pE (Sm.pow (by omega)).pf]
theorem EF {k:IntKind}[hk:K6 k] (a:Nat) [ha:Sm a] (m:Int) (h:0 ≤ m ∧ m < 64):jC .shr k a m = some (.int k ((a >>> m.toNat:Nat):Int)):=by
 obtain ⟨j,rfl⟩ := Int.eq_ofNat_of_zero_le h.1
 simp only [jC]
 rw [if_neg (by omega),zG,Int.toNat_natCast,Nat.min_eq_left (by omega)]
 congr 2
 rw [Nat.shiftRight_eq_div_pow,Int.fdiv_eq_ediv_of_nonneg _ (by exact Int.le_of_lt (Int.pow_pos (by decide)))]
 simp
section
variable {P : Program} {N : Nat} {Q : Exit → AS → Prop} {all : Array Oper} {rest : List Oper} {ts : List (Nat × AV)} {hs : List (Nat × Option (List AV))} {n : Nat} {z0 : Lo} {md : Md}
variable {d : Nat} {ty : TypeId} {pos : String} {af : Array Edge}
theorem JC {k:IntKind}{t t':TypeId}{x y:Operand}{a b:Nat}(hx:ev (lk ts) x = some (.v (.int k (a:Int)))) (hy:ev (lk ts) y = some (.v (.int k (b:Int)))) (hk:K6 k) (ha:Sm a) (hb:Sm b)
  (hN : Nat.blt d N = true) {md' : Md} [hmd : MdA md (rO x ++ rO y) [.inl d] md'] (kk : RW P N all Q md' rest ⟨(d,.v (.int k ((a ||| b : Nat) : Int))) :: ts,hs,n,z0⟩) : RW P N all Q md (⟨some d,.binOp .or t x y t',ty,pos,af,none⟩ :: rest) ⟨ts,hs,n,z0⟩ :=
 gH hx hy (.inl rfl) (Hm a b) (dD hN) (by rw [hmd.pf]; exact kk)
theorem GK {k:IntKind}{t t':TypeId}{x y:Operand}{a b:Nat}(hx:ev (lk ts) x = some (.v (.int k (a:Int)))) (hy:ev (lk ts) y = some (.v (.int k (b:Int)))) (hk:K6 k) (ha:Sm a) (hb:Sm b)
  (hN : Nat.blt d N = true) {md' : Md} [hmd : MdA md (rO x ++ rO y) [.inl d] md'] (kk : RW P N all Q md' rest ⟨(d,.v (.int k ((a &&& b : Nat) : Int))) :: ts,hs,n,z0⟩) : RW P N all Q md (⟨some d,.binOp .and t x y t',ty,pos,af,none⟩ :: rest) ⟨ts,hs,n,z0⟩ :=
 gH hx hy (.inl rfl) (wC a b) (dD hN) (by rw [hmd.pf]; exact kk)
theorem H8 {k:IntKind}{t t':TypeId}{x y:Operand}{a b:Nat}(hx:ev (lk ts) x = some (.v (.int k (a:Int)))) (hy:ev (lk ts) y = some (.v (.int k (b:Int)))) (hk:K6 k) (ha:Sm a) (hb:Sm b)
  (hN : Nat.blt d N = true) {md' : Md} [hmd : MdA md (rO x ++ rO y) [.inl d] md'] (kk : RW P N all Q md' rest ⟨(d,.v (.int k ((lZ a b : Nat) : Int))) :: ts,hs,n,z0⟩) : RW P N all Q md (⟨some d,.binOp .andNot t x y t',ty,pos,af,none⟩ :: rest) ⟨ts,hs,n,z0⟩ :=
 gH hx hy (.inl rfl) (Es a b) (dD hN) (by rw [hmd.pf]; exact kk)
theorem iL {k k':IntKind}{t t':TypeId}{x y:Operand}{m:Int}(hx:ev (lk ts) x = some (.v (.int k 1))) (hy:ev (lk ts) y = some (.v (.int k' m))) (hk:K6 k) (h:0 ≤ m ∧ m < 62)
  (hN : Nat.blt d N = true) {md' : Md} [hmd : MdA md (rO x ++ rO y) [.inl d] md'] (kk : Sm (2 ^ m.toNat) → RW P N all Q md' rest ⟨(d,.v (.int k ((2 ^ m.toNat : Nat) : Int))) :: ts,hs,n,z0⟩) : RW P N all Q md (⟨some d,.binOp .shl t x y t',ty,pos,af,none⟩ :: rest) ⟨ts,hs,n,z0⟩ :=
 gH hx hy (.inr (.inl rfl)) (Dw m h) (dD hN) (by rw [hmd.pf]; exact kk (Sm.pow (by omega)))
theorem HX {k k':IntKind}{t t':TypeId}{x y:Operand}{a:Nat}{m:Int}(hx:ev (lk ts) x = some (.v (.int k (a:Int)))) (hy:ev (lk ts) y = some (.v (.int k' m))) (hk:K6 k) (ha:Sm a) (h:0 ≤ m ∧ m < 64)
  (hN : Nat.blt d N = true) {md' : Md} [hmd : MdA md (rO x ++ rO y) [.inl d] md'] (kk : RW P N all Q md' rest ⟨(d,.v (.int k ((a >>> m.toNat : Nat) : Int))) :: ts,hs,n,z0⟩) : RW P N all Q md (⟨some d,.binOp .shr t x y t',ty,pos,af,none⟩ :: rest) ⟨ts,hs,n,z0⟩ :=
 gH hx hy (.inr (.inr rfl)) (EF a m h) (dD hN) (by rw [hmd.pf]; exact kk)
end
end Go.AL
