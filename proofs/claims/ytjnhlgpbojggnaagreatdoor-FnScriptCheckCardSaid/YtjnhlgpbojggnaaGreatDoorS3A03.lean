/-
 A part of the proofs over this program: rules and contracts of its functions (the rules).
-/
import Derived.Test.YtjnhlgpbojggnaaGreatDoorS3A02
import Derived.Orders
set_option linter.unusedVariables false
set_option linter.unusedSimpArgs false
namespace Go.AL
open Go.RowKit
inductive Md where
 | txt
 | drw (ks : List (List Res × List Res)) (pend : List Res)
def Md.add : Md → List Res → List Res → Md
 | .txt,_,_ => .txt
 | .drw ks p,r,w => .drw (ks ++ [(p ++ r,w)]) []
def Md.pen : Md → Res → Md
 | .txt,_ => .txt
 | .drw ks p,r => .drw ks (r :: p)
def Md.fin : Md → List Oper → Nat → Bool
 | .txt,_,_ => true
 | .drw ks p,ops,n => chk ops ks && (Nat.ble n big && p.isEmpty)
structure Agr (rs : List Res) (ts : List (Nat × AV)) (hs : List (Nat × Option (List AV))) (T : Nat → Option AV) (H : Nat → Option (List AV)) : Prop where
 t : ∀ i,Sum.inl i ∈ rs → T i = lk ts i
 h : ∀ i,Sum.inr i ∈ rs → H i = lkH hs i
theorem Agr.all (rs:List Res) (ts:List (Nat × AV)) (hs:List (Nat × Option (List AV))):Agr rs ts hs (lk ts) (lkH hs) := ⟨fun _ _ => rfl,fun _ _ => rfl⟩
theorem Agr.sub {rs rs':List Res}{ts:List (Nat × AV)}{hs:List (Nat × Option (List AV))}{T:Nat → Option AV}{H:Nat → Option (List AV)}(g:Agr rs ts hs T H) (h:∀ r ∈ rs',r ∈ rs):Agr rs' ts hs T H :=
 ⟨fun i hi => g.t i (h _ hi),fun i hi => g.h i (h _ hi)⟩
theorem Agr.l {r1 r2:List Res}{ts:List (Nat × AV)}{hs:List (Nat × Option (List AV))}{T:Nat → Option AV}{H:Nat → Option (List AV)}(g:Agr (r1 ++ r2) ts hs T H):Agr r1 ts hs T H := g.sub fun _ h => List.mem_append_left _ h
theorem Agr.r {r1 r2:List Res}{ts:List (Nat × AV)}{hs:List (Nat × Option (List AV))}{T:Nat → Option AV}{H:Nat → Option (List AV)}(g:Agr (r1 ++ r2) ts hs T H):Agr r2 ts hs T H := g.sub fun _ h => List.mem_append_right _ h
def rO : Operand → List Res
 | .tmp t => [.inl t]
 | _ => []
def rOs : List Operand → List Res
 | [] => []
 | x :: xs => rO x ++ rOs xs
theorem Agr.ev {x:Operand}{ts:List (Nat × AV)}{hs:List (Nat × Option (List AV))}{T:Nat → Option AV}{H:Nat → Option (List AV)}(g:Agr (rO x) ts hs T H):ev T x = ev (lk ts) x:=by
 cases x with
 | tmp t => exact g.t _ (by simp [rO])
 | const v => cases v <;> rfl
 | _ => rfl
section
variable {P : Program} {N : Nat} {Q : Exit → AS → Prop} {s : AS}
def RW (P : Program) (N : Nat) (all : Array Oper) (Q : Exit → AS → Prop) (m : Md) (l : List Oper) (s : AS) : Prop := match m with
 | .txt => ∀ (C : Ctx) (a : Act) (w : World),C.N = N → Gs C s a w → wpList P all (fun e a' w' => ∃ s',Q e s' ∧ Gs C s' a' w') l a w
 | .drw ks pend => ∃ As S' n', Tr P N all l (sOf s) s.nid As S' n' ∧ chk all.toList (ks ++ As.map kOf) = true ∧ n' ≤ big ∧ (pend ≠ [] → ∃ A As', As = A :: As' ∧ ∀ r ∈ pend, r ∈ A.rs) ∧
   ∃ s',S' = sOf s' ∧ n' = s'.nid ∧ s'.lo = s.lo ∧ Q .normal s'
theorem aw_region {id:Nat}{l:List Oper}(h:RW P N l.toArray Q .txt l s):AW P N (.region id l.toArray false) Q s :=
 fun C a w hN g => wp_region_lit (h C a w hN g)
theorem count_false (n:Nat):(Array.replicate n false).toList.count false = n := by simp
theorem aw_draw {id:Nat}{l:List Oper}(hm:P.follows .mixedOrders = true) (h:RW P N l.toArray Q (.drw [] []) l s):AW P N (.region id l.toArray true) Q s:=by
 rintro C a w hN ⟨h0,ι,g,gh⟩
 obtain ⟨As,S',n',tr,hc,hn,_,s',rfl,rfl,hlo,hQ⟩ := h
 refine wp_region_any hm ?_
 obtain ⟨g1,c1⟩ := drew_step gh
 have g2 := g.carry c1
 have hle := tr.le
 refine draw_main tr (by simpa using hc) (E := fun id => Fn s.nid s.lo id ∧ s'.nid ≤ id) (fun id h => h.2) hN (fun ι a w q1 q2 => ⟨s',hQ,?_,ι,?_,?_⟩) _ _ a _ (Nat.le_of_eq (count_false _)) ⟨by simp,fun j o _ hL => ?_,ι,?_,?_⟩
 rotate_left 3
 ·rw [hlo]; exact h0
 ·simpa [tOf_sOf,hOf_sOf] using q1
 ·refine (q2.less (H' := lkH s'.hs) (fun _ _ h => h) (fun id hid => ?_)).1
  rw [hlo] at hid
  exact ⟨⟨Nat.le_trans hle hid.1,hid.2⟩,hid.1⟩
 ·simp [LL, Array.getD_eq_getD_getElem?, Array.getElem?_replicate] at hL
  split at hL <;> cases hL
 all_goals
  have hst : stL (LL (Array.replicate l.toArray.size false)) 0 (As.map (·.ws)) (sOf s) = sOf s := by
   funext r
   refine stL_none _ 0 _ (fun j W _ _ => ?_)
   simp [LL,Array.getD_eq_getD_getElem?,Array.getElem?_replicate]
   split <;> rfl
  rw [hst]
 ·rw [tOf_sOf,hOf_sOf]; exact g2
 ·rw [hOf_sOf]
  refine (g1.less (H' := lkH s.hs) (fun _ _ h => h) ?_).1
  rintro id (h | ⟨j,A,hA,_,h1,h2⟩)
  ·exact h.1
  ·have hlt : j < l.length := by
    rw [tr.len]
    rcases Nat.lt_or_ge j As.length with h|h
    ·exact h
    ·rw [List.getElem?_eq_none h] at hA;cases hA
   have := tr.at 0 j l[j] A (by simp [hlt]) hA
   exact ⟨by omega,.inl (by omega)⟩
variable {all : Array Oper} {rest : List Oper} {m : Md}
theorem rw_nil (hf:m.fin all.toList s.nid = true) (h:Q .normal s):RW P N all Q m [] s:=by
 cases m with
 | txt => exact fun C a w _ g => wpList_nil ⟨s,h,g⟩
 | drw ks p =>
  simp only [Md.fin,Bool.and_eq_true] at hf
  refine ⟨[],_,_,.nil _ _,by simpa using hf.1,Nat.le_of_ble_eq_true hf.2.1,fun hp => ?_,s,rfl,rfl,rfl,h⟩
  exact absurd (List.isEmpty_iff.1 hf.2.2) hp
def put (s : AS) (d : Option Tmp) (av : AV) : AS := match d with | some d => { s with ts := (d,av) :: s.ts } | none => s
def wD (d : Option Tmp) : List Res := match d with | some d => [.inl d] | none => []
def wDv (d : Option Tmp) (av : AV) : List (Res × Option (List AV)) := match d with | some d => [(.inl d,some [av])] | none => []
def wrH (hs : List (Nat × Option (List AV))) : List (Nat × Option (List AV)) → List (Nat × Option (List AV))
 | [] => hs
 | p :: ws => wrH (p :: hs) ws
def updL (H : Nat → Option (List AV)) : List (Nat × Option (List AV)) → Nat → Option (List AV)
 | [] => H
 | p :: ws => updL (upd H p.1 p.2) ws
theorem lkH_wrH:∀ (ws hs:List (Nat × Option (List AV))),lkH (wrH hs ws) = updL (lkH hs) ws
 | [],hs => rfl
 | (i,c) :: ws,hs => by simp only [wrH,updL]; rw [lkH_wrH ws,lkH_cons]
def wsR (ws : List (Nat × Option (List AV))) : List (Res × Option (List AV)) := ws.map fun p => (.inr p.1,p.2)
theorem ov_app {ρ β:Type}[DecidableEq ρ]:∀ (W W':List (ρ × β)) (S:ρ → β),ov S (W ++ W') = ov (ov S W) W'
 | [],_,_ => rfl
 | (r,x) :: W,W',S => by simp only [List.cons_append,ov]; exact ov_app W W' _
theorem hOf_ov:∀ (ws:List (Nat × Option (List AV))) (S:Sta),hOf (ov S (wsR ws)) = updL (hOf S) ws
 | [],S => rfl
 | (i, c) :: ws, S => by
  simp only [wsR,List.map_cons,ov,updL]
  have := hOf_ov ws (ov1 S (.inr i) c)
  simp only [wsR] at this
  rw [this]
  congr 1
  funext j
  simp only [hOf,ov1,upd]
  by_cases h : j = i
  ·subst h;simp
  ·simp [h]
theorem tOf_ov:∀ (ws:List (Nat × Option (List AV))) (S:Sta),tOf (ov S (wsR ws)) = tOf S
 | [],S => rfl
 | (i, c) :: ws, S => by
  simp only [wsR,List.map_cons,ov]
  have := tOf_ov ws (ov1 S (.inr i) c)
  simp only [wsR] at this
  rw [this]
  funext t
  simp [tOf,ov1]
theorem sOf_put (s:AS) (d:Option Tmp) (av:AV):sOf (put s d av) = ov (sOf s) (wDv d av):=by
 cases d with
 | none => rfl
 | some d =>
  funext r
  simp only [put,wDv,ov,ov1]
  cases r with
  | inl t =>
   simp only [sOf,lk_c,Sum.inl.injEq]
   split <;> simp
  | inr i => simp [sOf]
theorem sOf_wr (ws:List (Nat × Option (List AV))) (ts:List (Nat × AV)) (hs:List (Nat × Option (List AV))) (n n':Nat) (lo:Lo):sOf ⟨ts,wrH hs ws,n',lo⟩ = ov (sOf ⟨ts,hs,n,lo⟩) (wsR ws):=by
 funext r
 cases r with
 | inl t =>
  have h1 : ∀ (ws : List (Nat × Option (List AV))) (S : Sta), ov S (wsR ws) (.inl t) = S (.inl t) := by
   intro ws
   induction ws with
   | nil => intro S;rfl
   | cons p ws ih => intro S;simp only [wsR,List.map_cons,ov] at ih ⊢; rw [ih]; simp [ov1]
  rw [h1]; rfl
 | inr i =>
  show lkH (wrH hs ws) i = hOf (ov (sOf ⟨ts,hs,n,lo⟩) (wsR ws)) i
  rw [lkH_wrH,hOf_ov]; rfl
theorem tOf_put {C:Ctx}{ι:Pl}{S:Sta}{H:Nat → Option (List AV)}{a:Act}{w:World}{d:Option Tmp}{av:AV}{y:Value}(g:TG C ι (tOf S) H a w) (hd:∀ x,d = some x → x < C.N) (hy:Rd w (badOf C.X ι H) ι av y) :
  TG C ι (tOf (ov S (wDv d av))) H (a.put d y) w := by
 cases d with
 | none => exact g
 | some d =>
  have : tOf (ov S (wDv (some d) av)) = upd (tOf S) d (some av) := by
   funext t
   simp only [wDv,ov,tOf,ov1,upd,Sum.inl.injEq]
   by_cases h : t = d
   ·simp [h]
   ·simp [h]
  rw [this]
  exact g.put (hd d rfl) hy
theorem hOf_put (S:Sta) (d:Option Tmp) (av:AV):hOf (ov S (wDv d av)) = hOf S:=by
 cases d with
 | none => rfl
 | some d => funext i;simp [wDv,ov,hOf,ov1]
theorem rw_step {o:Oper}(hg:o.guard = none){rs:List Res}{ws:List (Nat × Option (List AV))}{n':Nat}{out:AV}(hn:s.nid ≤ n') (hM:n' = s.nid ∨ n' ≤ big)
  (h : ∀ (C : Ctx) (ι : Pl) (F : Nat → Prop) (T : Nat → Option AV) (H : Nat → Option (List AV)) (a : Act) (w : World) (K : Act → World → Prop) (Q' : Exit → Act → World → Prop), C.N = N → Agr rs s.ts s.hs T H → (∀ j, s.nid ≤ j → j < n' → F j) → TG C ι T H a w → HG C ι F H w →
   (∀ ι' w' y,TG C ι' T (updL H ws) a w' → HG C ι' (fun j => F j ∧ ¬ (s.nid ≤ j ∧ j < n')) (updL H ws) w' → Rd w' (badOf C.X ι' (updL H ws)) ι' out y → K (a.put o.dst y) w') → o.wp P a w K Q')
  (hdN : ∀ d,o.dst = some d → d < N)
  (k : RW P N all Q (m.add rs (ws.map (fun p => .inr p.1) ++ wD o.dst)) rest (put ⟨s.ts,wrH s.hs ws,n',s.lo⟩ o.dst out)) : RW P N all Q m (o :: rest) s := by
 cases m with
 | txt =>
  rintro C a w hN ⟨h0,ι,g,gh⟩
  have hF : ∀ j,s.nid ≤ j → j < n' → Fn s.nid s.lo j := fun j h1 h2 => ⟨h1,by rcases hM with h|h <;> first|omega|exact .inl (by omega)⟩
  refine wpList_plain hg (fun K hK => h C ι _ (lk s.ts) (lkH s.hs) a w K _ hN (Agr.all _ _ _) hF g gh (fun ι' w' y g' gh' hy => ?_))
  refine hK _ _ (k C _ _ hN ?_)
  have gh2 : HG C ι' (Fn n' s.lo) (updL (lkH s.hs) ws) w' := (gh'.less (fun _ _ h => h) (fun j hj => ⟨⟨Nat.le_trans hn hj.1,hj.2⟩,by have := hj.1;omega⟩)).1
  rw [← lkH_wrH] at gh2 g' hy
  cases hd : o.dst with
  | none => exact ⟨h0,ι',g',gh2⟩
  | some d =>
   refine ⟨h0,ι',?_,gh2⟩
   simp only [put]
   rw [lk_cons]
   exact g'.put (hN.symm ▸ hdN d hd) hy
 | drw ks pend =>
  obtain ⟨As,S',n2,tr,hc,hn2,_,s',e1,e2,e3,hQ⟩ := k
  refine ⟨⟨pend ++ rs,wsR ws ++ wDv o.dst out,s.nid,n'⟩ :: As,S',n2,.cons ?_ rfl hn ?_,?_,hn2,fun _ => ⟨_,_,rfl,fun r hr => List.mem_append_left _ hr⟩,s',e1,e2,?_,hQ⟩
  ·intro C ι F S a w hN hag hF g gh K Q' hK
   rw [if_pos (by simp [Region.wanted,hg])]
   refine h C ι F (tOf S) (hOf S) a w K Q' hN ⟨fun i hi => ?_,fun i hi => ?_⟩ hF g gh (fun ι' w' y g' gh' hy => ?_)
   ·rw [← tOf_sOf]; simp only [tOf,hag _ (List.mem_append_right _ hi)]
   ·rw [← hOf_sOf]; simp only [hOf,hag _ (List.mem_append_right _ hi)]
   ·rw [← hOf_ov] at g' gh' hy
    rw [← tOf_ov ws S] at g'
    refine hK ι' _ w' ?_ ?_
    ·simp only [ov_app, hOf_put]
     exact tOf_put g' (fun x hx => hN.symm ▸ hdN x hx) hy
    ·simp only [ov_app,hOf_put]; exact gh'
  ·have : sOf (put ⟨s.ts, wrH s.hs ws, n', s.lo⟩ o.dst out) = ov (sOf s) (wsR ws ++ wDv o.dst out) := by
    rw [sOf_put,sOf_wr ws s.ts s.hs s.nid,ov_app]
   rw [this] at tr
   have hnid : (put ⟨s.ts,wrH s.hs ws,n',s.lo⟩ o.dst out).nid = n' := by cases o.dst <;> rfl
   rw [hnid] at tr
   exact tr
  ·have hk : kOf ⟨pend ++ rs, wsR ws ++ wDv o.dst out, s.nid, n'⟩ = (pend ++ rs, ws.map (fun p => .inr p.1) ++ wD o.dst) := by
    simp only [kOf,keys,wsR,List.map_append,List.map_map]
    congr 2
    cases o.dst <;> rfl
   rw [List.map_cons,hk]
   simpa using hc
  ·rw [e3]; cases o.dst <;> rfl
theorem rw_pu {o:Oper}{d:Nat}{out:AV}{rs:List Res}(hg:o.guard = none) (hd:o.dst = some d) (hdN:d < N)
  (h : ∀ (C : Ctx) (ι : Pl) (F : Nat → Prop) (T : Nat → Option AV) (H : Nat → Option (List AV)) (a : Act) (w : World),Agr rs s.ts s.hs T H → TG C ι T H a w → HG C ι F H w → Pu P C ι H a w o out)
  (k : RW P N all Q (m.add rs [.inl d]) rest ⟨(d,out) :: s.ts,s.hs,s.nid,s.lo⟩) : RW P N all Q m (o :: rest) s := by
 refine rw_step (rs := rs) (ws := []) (n' := s.nid) (out := out) hg (Nat.le_refl _) (.inl rfl) (fun C ι F T H a w K Q' hN hag hF g gh hK => ?_) (fun x hx => by rw [hd] at hx;cases hx;exact hdN) (by simpa [hd,wD,put,wrH] using k)
 obtain ⟨y,h1,h2⟩ := h C ι F T H a w hag g gh
 simp only [Oper.wp,h1,Oper.upon]
 exact hK ι w y g (gh.less (fun _ _ h => h) (fun j hj => hj.1)).1 h2
theorem rw_ef {o:Oper}{out:AV}{rs:List Res}{ws:List (Nat × Option (List AV))}{n':Nat}(hg:o.guard = none) (hdN:∀ d,o.dst = some d → d < N) (hn:s.nid ≤ n') (hM:n' = s.nid ∨ n' ≤ big)
  (h : ∀ (C : Ctx) (ι : Pl) (F : Nat → Prop) (T : Nat → Option AV) (H : Nat → Option (List AV)) (a : Act) (w : World), Agr rs s.ts s.hs T H → (∀ j, s.nid ≤ j → j < n' → F j) → TG C ι T H a w → HG C ι F H w →
   Ef P C ι (fun j => F j ∧ ¬ (s.nid ≤ j ∧ j < n')) H a w o out (updL H ws))
  (k : RW P N all Q (m.add rs (ws.map (fun p => .inr p.1) ++ wD o.dst)) rest (put ⟨s.ts,wrH s.hs ws,n',s.lo⟩ o.dst out)) : RW P N all Q m (o :: rest) s := by
 refine rw_step hg hn hM (fun C ι F T H a w K Q' hN hag hF g gh hK => ?_) hdN k
 obtain ⟨n,y,ι',w',h1,h2,h3,h4⟩ := h C ι F T H a w hag hF g gh
 have g' := g.carry h4
 rcases h2 with ⟨rfl,h2⟩ | ⟨rfl,rfl,rfl⟩
 ·simp only [Oper.wp, h1, Oper.upon]
  exact hK ι' w' y g' h3 h2
 ·simp only [Oper.wp, h1, Oper.upon]
  exact hK ι' w' undef g' h3 (by simp [Rd])
theorem rw_guard {dst:Option Tmp}{op:Op}{ty:TypeId}{pos:String}{af:Array Edge}{j d:Nat}{want b:Bool}(hj:(all[j]?).bind (·.dst) = some d) (hb:lk s.ts d = some (.v (.bool b)))
  (hdN : ∀ d,dst = some d → d < N)
  (h1 : b = want → RW P N all Q (m.pen (.inl d)) (⟨dst,op,ty,pos,af,none⟩ :: rest) s) (h2 : b = (!want) → RW P N all Q (m.add [.inl d] (wD dst)) rest (put s dst (.v undef))) : RW P N all Q m (⟨dst,op,ty,pos,af,some (j,want)⟩ :: rest) s := by
 have hyl : ∀ (C : Ctx) (ι : Pl) (T : Nat → Option AV) (H : Nat → Option (List AV)) (a : Act) (w : World), T d = lk s.ts d → TG C ι T H a w → yielded all a.tmps j = some b := by
  intro C ι T H a w hT g
  obtain ⟨y,hy,hr⟩ := g.tm d _ (by rw [hT]; exact hb)
  simp only [Rd] at hr
  subst hr
  simp [yielded,hj,hy]
 cases m with
 | txt =>
  rintro C a w hN ⟨h0,ι,g,gh⟩
  have hyl' := hyl C ι _ _ a w rfl g
  unfold wpList
  by_cases hbw : b = want
  ·have := h1 hbw C a w hN ⟨h0, ι, g, gh⟩
   unfold wpList at this
   simp only [Region.wanted,hyl',hbw,if_true,beq_self_eq_true] at this ⊢
   exact this
  ·have hb2 : b = (!want) := by cases b <;> cases want <;> simp_all
   simp only [Region.wanted,hyl']
   rw [if_neg (by simpa using hbw)]
   refine h2 hb2 C _ w hN ?_
   cases hd : dst with
   | none => exact ⟨h0,ι,g,gh⟩
   | some d' =>
    refine ⟨h0,ι,?_,gh⟩
    simp only [put]
    rw [lk_cons]
    exact g.put (hN.symm ▸ hdN d' hd) (by simp [Rd])
 | drw ks pend =>
  by_cases hbw : b = want
  ·obtain ⟨As, S', n2, tr, hc, hn2, hp, s', e1, e2, e3, hQ⟩ := h1 hbw
   obtain ⟨A,As',rfl,hr⟩ := hp (by simp)
   refine ⟨A :: As',S',n2,?_,hc,hn2,fun _ => ⟨A,As',rfl,?_⟩,s',e1,e2,e3,hQ⟩
   ·cases tr with
    | cons q1 q2 q3 q4 =>
     refine .cons ?_ q2 q3 q4
     intro C ι F S a w hN hag hF g gh K Q' hK
     have h := q1 C ι F S a w hN hag hF g gh K Q' hK
     have hT : tOf S d = lk s.ts d := by rw [← tOf_sOf]; simp only [tOf,hag _ (hr (.inl d) (by simp))]
     have hyl' := hyl C ι _ _ a w hT g
     rw [if_pos (by simp [Region.wanted])] at h
     rw [if_pos (by simp [Region.wanted,hyl',hbw])]
     exact h
   ·exact fun r h => hr r (List.mem_cons_of_mem _ h)
  ·have hb2 : b = (!want) := by cases b <;> cases want <;> simp_all
   obtain ⟨As,S',n2,tr,hc,hn2,_,s',e1,e2,e3,hQ⟩ := h2 hb2
   refine ⟨⟨pend ++ [.inl d],wDv dst (.v undef),s.nid,s.nid⟩ :: As,S',n2,.cons ?_ rfl (Nat.le_refl _) ?_,?_,hn2,fun _ => ⟨_,_,rfl,fun r hr => List.mem_append_left _ hr⟩,s',e1,e2,?_,hQ⟩
   ·intro C ι F S a w hN hag hF g gh K Q' hK
    have hT : tOf S d = lk s.ts d := by rw [← tOf_sOf]; simp only [tOf,hag _ (List.mem_append_right _ (by simp : Sum.inl d ∈ [Sum.inl d]))]
    have hyl' := hyl C ι _ _ a w hT g
    rw [if_neg (by simp [Region.wanted,hyl',hbw])]
    refine hK ι _ w ?_ ?_
    ·rw [hOf_put]; exact tOf_put g (fun x hx => hN.symm ▸ hdN x hx) (by simp [Rd])
    ·rw [hOf_put]; exact (gh.less (fun _ _ h => h) (fun j hj => hj.1)).1
   ·rw [sOf_put] at tr
    have hnid : (put s dst (.v undef)).nid = s.nid := by cases dst <;> rfl
    rw [hnid] at tr
    exact tr
   ·have hk : kOf ⟨pend ++ [.inl d], wDv dst (.v undef), s.nid, s.nid⟩ = (pend ++ [.inl d], wD dst) := by
     simp only [kOf,keys]
     congr 1
     cases dst <;> rfl
    rw [List.map_cons,hk]
    simpa using hc
   ·rw [e3]; cases dst <;> rfl
end
def rA (av : AV) : List Res := match kAV av with
 | .own id _ _ _ => [.inr id]
 | .optr id _ => [.inr id]
 | _ => []
def rB : Option Operand → List Res
 | none => []
 | some x => rO x
def rPs : List (Nat × Operand) → List Res
 | [] => []
 | (i,x) :: ps => rO x ++ rPs ps
section
variable {ts : List (Nat × AV)} {hs : List (Nat × Option (List AV))} {T : Nat → Option AV} {H : Nat → Option (List AV)}
theorem Agr.deref {av:AV}(g:Agr (rA av) ts hs T H):deref H av = deref (lkH hs) av:=by
 cases av <;> simp only [Go.AL.deref]
 rw [g.h _ (by simp [rA,kAV])]
theorem Agr.sCells {av:AV}{e:Nat}(g:Agr (rA av) ts hs T H):sCells H e (kAV av) = sCells (lkH hs) e (kAV av):=by
 unfold rA at g
 generalize kAV av = k at g
 cases k <;> simp only [Go.AL.sCells]
 rw [g.h _ (by simp)]
theorem Agr.bnd {x:Option Operand}{d:Nat}(g:Agr (rB x) ts hs T H):bndA T x d = bndA (lk ts) x d:=by
 cases x with
 | none => rfl
 | some x => simp only [bndA]; rw [Agr.ev (x := x) g]
theorem Agr.evs:∀ {ps:List (Nat × Operand)},Agr (rPs ps) ts hs T H → evs T ps = evs (lk ts) ps
 | [],_ => rfl
 | (i,x) :: ps,g => by simp only [Go.AL.evs]; rw [Agr.ev (x := x) (Agr.l g),Agr.evs (Agr.r g)]
end
variable {P : Program} {N : Nat} {Q : Exit → AS → Prop} {all : Array Oper} {rest : List Oper} {ts : List (Nat × AV)} {hs : List (Nat × Option (List AV))} {n : Nat} {z0 : Lo} {md : Md}
variable {d : Nat} {ty : TypeId} {pos : String} {af : Array Edge}
section
theorem rw_move {x:Operand}{av:AV}(hx:ev (lk ts) x = some av) (hN:d < N) (k:RW P N all Q (md.add (rO x) [.inl d]) rest ⟨(d,av) :: ts,hs,n,z0⟩):RW P N all Q md (⟨some d,.move x,ty,pos,af,none⟩ :: rest) ⟨ts,hs,n,z0⟩ :=
 rw_pu rfl rfl hN (fun C ι F T H a w ag g gh => pu_move g (.inl rfl) (ag.ev.trans hx)) k
theorem rw_assign {x:Operand}{av:AV}(hx:ev (lk ts) x = some av) (hN:d < N) (k:RW P N all Q (md.add (rO x) [.inl d]) rest ⟨(d,av) :: ts,hs,n,z0⟩):RW P N all Q md (⟨some d,.assign x,ty,pos,af,none⟩ :: rest) ⟨ts,hs,n,z0⟩ :=
 rw_pu rfl rfl hN (fun C ι F T H a w ag g gh => pu_move g (.inr rfl) (ag.ev.trans hx)) k
theorem rw_pickT {c x y:Operand}{b:Bool}{av:AV}(hc:ev (lk ts) c = some (.v (.bool b))) (hb:b = true) (hx:ev (lk ts) x = some av) (hN:d < N) (k:RW P N all Q (md.add (rO c ++ rO x) [.inl d]) rest ⟨(d,av) :: ts,hs,n,z0⟩) :
  RW P N all Q md (⟨some d,.pick c x y,ty,pos,af,none⟩ :: rest) ⟨ts,hs,n,z0⟩ :=
 rw_pu rfl rfl hN (fun C ι F T H a w ag g gh => pu_pick g rfl (ag.l.ev.trans hc) (by rw [hb]; exact ag.r.ev.trans hx)) k
theorem rw_pickF {c x y:Operand}{b:Bool}{av:AV}(hc:ev (lk ts) c = some (.v (.bool b))) (hb:b = false) (hx:ev (lk ts) y = some av) (hN:d < N) (k:RW P N all Q (md.add (rO c ++ rO y) [.inl d]) rest ⟨(d,av) :: ts,hs,n,z0⟩) :
  RW P N all Q md (⟨some d,.pick c x y,ty,pos,af,none⟩ :: rest) ⟨ts,hs,n,z0⟩ :=
 rw_pu rfl rfl hN (fun C ι F T H a w ag g gh => pu_pick g rfl (ag.l.ev.trans hc) (by rw [hb]; exact ag.r.ev.trans hx)) k
theorem rw_ibin {op:BinOp}{t t':TypeId}{x y:Operand}{k k':IntKind}{m m':Int}{v:Value}(hx:ev (lk ts) x = some (.v (.int k m))) (hy:ev (lk ts) y = some (.v (.int k' m')))
  (hk : k = k' ∨ op = .shl ∨ op = .shr) (h : ibin op k m m' = some v) (hN : d < N) (kk : RW P N all Q (md.add (rO x ++ rO y) [.inl d]) rest ⟨(d,.v v) :: ts,hs,n,z0⟩) : RW P N all Q md (⟨some d,.binOp op t x y t',ty,pos,af,none⟩ :: rest) ⟨ts,hs,n,z0⟩ :=
 rw_pu rfl rfl hN (fun C ι F T H a w ag g gh => pu_ibin g rfl (ag.l.ev.trans hx) (ag.r.ev.trans hy) hk h) kk
theorem rw_add {t t':TypeId}{x y:Operand}{m m':Int}(hx:ev (lk ts) x = some (.v (.int .i64 m))) (hy:ev (lk ts) y = some (.v (.int .i64 m')))
  (h : -9223372036854775808 ≤ m + m' ∧ m + m' ≤ 9223372036854775807) (hN : d < N) (kk : RW P N all Q (md.add (rO x ++ rO y) [.inl d]) rest ⟨(d,.v (.int .i64 (m + m'))) :: ts,hs,n,z0⟩) : RW P N all Q md (⟨some d,.binOp .add t x y t',ty,pos,af,none⟩ :: rest) ⟨ts,hs,n,z0⟩ :=
 rw_ibin hx hy (.inl rfl) (by simp only [ibin,IntWalk.i64_in _ h]) hN kk
theorem rw_sub {t t':TypeId}{x y:Operand}{m m':Int}(hx:ev (lk ts) x = some (.v (.int .i64 m))) (hy:ev (lk ts) y = some (.v (.int .i64 m')))
  (h : -9223372036854775808 ≤ m - m' ∧ m - m' ≤ 9223372036854775807) (hN : d < N) (kk : RW P N all Q (md.add (rO x ++ rO y) [.inl d]) rest ⟨(d,.v (.int .i64 (m - m'))) :: ts,hs,n,z0⟩) : RW P N all Q md (⟨some d,.binOp .sub t x y t',ty,pos,af,none⟩ :: rest) ⟨ts,hs,n,z0⟩ :=
 rw_ibin hx hy (.inl rfl) (by simp only [ibin,IntWalk.i64_in _ h]) hN kk
theorem rw_not {t:TypeId}{x:Operand}{b:Bool}(hx:ev (lk ts) x = some (.v (.bool b))) (hN:d < N) (kk:RW P N all Q (md.add (rO x) [.inl d]) rest ⟨(d,.v (.bool !b)) :: ts,hs,n,z0⟩):RW P N all Q md (⟨some d,.unOp .not t x,ty,pos,af,none⟩ :: rest) ⟨ts,hs,n,z0⟩ :=
 rw_pu rfl rfl hN (fun C ι F T H a w ag g gh => pu_not g rfl (ag.ev.trans hx)) kk
theorem rw_nil' {x:Operand}{av:AV}(hx:ev (lk ts) x = some av) (hp:isPtr av = true) (hN:d < N) (kk:RW P N all Q (md.add (rO x) [.inl d]) rest ⟨(d,av) :: ts,hs,n,z0⟩):RW P N all Q md (⟨some d,.nilCheck x,ty,pos,af,none⟩ :: rest) ⟨ts,hs,n,z0⟩ :=
 rw_pu rfl rfl hN (fun C ι F T H a w ag g gh => pu_nil g rfl (ag.ev.trans hx) hp) kk
theorem rw_fieldAddr {s:TypeId}{f:Nat}{x:Operand}{av out:AV}{fo ft z:Nat}(hx:ev (lk ts) x = some av)
  (hf : fldOf P s f = some (fo,ft)) (hz : szOf P ft = some (z + 1)) (hp : pAdd fo av = some out) (hN : d < N) (kk : RW P N all Q (md.add (rO x) [.inl d]) rest ⟨(d,out) :: ts,hs,n,z0⟩) : RW P N all Q md (⟨some d,.fieldAddr s x f,ty,pos,af,none⟩ :: rest) ⟨ts,hs,n,z0⟩ :=
 rw_pu rfl rfl hN (fun C ι F T H a w ag g gh => pu_fieldAddr g rfl (ag.ev.trans hx) hf hz hp) kk
theorem rw_indexAddr {t el:TypeId}{x i:Operand}{av out:AV}{e:Nat}{k:IntKind}{m:Int}(hx:ev (lk ts) x = some av)
  (hi : ev (lk ts) i = some (.v (.int k m))) (ht : slOf P t = some el) (he : szOf P el = some e) (hp : sIdx e m av = some out) (hN : d < N) (kk : RW P N all Q (md.add (rO x ++ rO i) [.inl d]) rest ⟨(d,out) :: ts,hs,n,z0⟩) :
  RW P N all Q md (⟨some d,.indexAddr t x i,ty,pos,af,none⟩ :: rest) ⟨ts,hs,n,z0⟩ :=
 rw_pu rfl rfl hN (fun C ι F T H a w ag g gh => pu_indexAddr g rfl (ag.l.ev.trans hx) (ag.r.ev.trans hi) ht he hp) kk
theorem rw_indexArr {t el:TypeId}{x i:Operand}{av out:AV}{z e:Nat}{k:IntKind}{m:Int}(hx:ev (lk ts) x = some av)
  (hi : ev (lk ts) i = some (.v (.int k m))) (ht : arOf P t = some (z,el)) (he : szOf P el = some e) (hm : 0 ≤ m ∧ m < z) (hp : pAdd (m.toNat * e) av = some out) (hN : d < N) (kk : RW P N all Q (md.add (rO x ++ rO i) [.inl d]) rest ⟨(d,out) :: ts,hs,n,z0⟩) :
  RW P N all Q md (⟨some d,.indexAddr t x i,ty,pos,af,none⟩ :: rest) ⟨ts,hs,n,z0⟩ :=
 rw_pu rfl rfl hN (fun C ι F T H a w ag g gh => pu_indexArr g rfl (ag.l.ev.trans hx) (ag.r.ev.trans hi) ht he hm hp) kk
theorem rw_load1 {t:TypeId}{x:Operand}{av c:AV}{cs:List AV}(hx:ev (lk ts) x = some av)
  (ha : agOf P t = some false) (hd : deref (lkH hs) av = some cs) (hc : cs[0]? = some c) (hN : d < N) (kk : RW P N all Q (md.add (rO x ++ rA av) [.inl d]) rest ⟨(d,c) :: ts,hs,n,z0⟩) : RW P N all Q md (⟨some d,.load t x,ty,pos,af,none⟩ :: rest) ⟨ts,hs,n,z0⟩ :=
 rw_pu rfl rfl hN (fun C ι F T H a w ag g gh => pu_load1 g gh rfl (ag.l.ev.trans hx) ha (ag.r.deref.trans hd) hc) kk
theorem rw_loadA {t:TypeId}{x:Operand}{av:AV}{z:Nat}{cs cs':List AV}(hx:ev (lk ts) x = some av)
  (ha : agOf P t = some true) (hz : szOf P t = some z) (hd : deref (lkH hs) av = some cs) (hc : cs.take z = cs') (hn : cs'.length = z) (h0 : z ≠ 0) (hN : d < N) (kk : RW P N all Q (md.add (rO x ++ rA av) [.inl d]) rest ⟨(d,.agg cs') :: ts,hs,n,z0⟩) :
  RW P N all Q md (⟨some d,.load t x,ty,pos,af,none⟩ :: rest) ⟨ts,hs,n,z0⟩ :=
 rw_pu rfl rfl hN (fun C ι F T H a w ag g gh => pu_loadA g gh rfl (ag.l.ev.trans hx) ha hz (ag.r.deref.trans hd) hc hn h0) kk
theorem rw_len {t:TypeId}{x:Operand}{av:AV}{tys:Array TypeId}{el:TypeId}{m:Nat}(hts:tys[0]? = some t) (hx:ev (lk ts) x = some av)
  (ht : slOf P t = some el) (hn : (match kAV av with | .own _ _ n _ => some n | .imm n _ => some n | _ => none) = some m) (hN : d < N) (kk : RW P N all Q (md.add (rO x) [.inl d]) rest ⟨(d,.v (.int .i64 m)) :: ts,hs,n,z0⟩) :
  RW P N all Q md (⟨some d,.call ⟨.builtin .len,#[x],tys⟩,ty,pos,af,none⟩ :: rest) ⟨ts,hs,n,z0⟩ :=
 rw_pu rfl rfl hN (fun C ι F T H a w ag g gh => pu_len g rfl hts (ag.ev.trans hx) ht hn) kk
theorem rw_lenS {t:TypeId}{x:Operand}{tys:Array TypeId}{s:ByteArray}(hts:tys[0]? = some t) (hx:ev (lk ts) x = some (.v (.string s)))
  (ht : P.underlying t = some .string) (hN : d < N) (kk : RW P N all Q (md.add (rO x) [.inl d]) rest ⟨(d,.v (.int .i64 s.size)) :: ts,hs,n,z0⟩) :
  RW P N all Q md (⟨some d,.call ⟨.builtin .len,#[x],tys⟩,ty,pos,af,none⟩ :: rest) ⟨ts,hs,n,z0⟩ :=
 rw_pu rfl rfl hN (fun C ι F T H a w ag g gh => pu_lenS g rfl hts (ag.ev.trans hx) ht) kk
theorem rw_index1 {t el:TypeId}{x i:Operand}{cs:List AV}{c:AV}{z e:Nat}{k:IntKind}{m:Int}(hx:ev (lk ts) x = some (.agg cs))
  (hi : ev (lk ts) i = some (.v (.int k m))) (ht : arOf P t = some (z,el)) (he : szOf P el = some e) (ha : agOf P el = some false) (hm : 0 ≤ m ∧ m < z) (hc : cs[m.toNat * e]? = some c) (hN : d < N) (kk : RW P N all Q (md.add (rO x ++ rO i) [.inl d]) rest ⟨(d,c) :: ts,hs,n,z0⟩) :
  RW P N all Q md (⟨some d,.index t x i,ty,pos,af,none⟩ :: rest) ⟨ts,hs,n,z0⟩ :=
 rw_pu rfl rfl hN (fun C ι F T H a w ag g gh => pu_index1 g rfl (ag.l.ev.trans hx) (ag.r.ev.trans hi) ht he ha hm hc) kk
theorem rw_indexS {t:TypeId}{x i:Operand}{s:ByteArray}{k:IntKind}{m:Int}{b:UInt8}(hx:ev (lk ts) x = some (.v (.string s)))
  (hi : ev (lk ts) i = some (.v (.int k m))) (ht : P.underlying t = some .string) (hm : 0 ≤ m) (hb : s[m.toNat]? = some b) (hN : d < N) (kk : RW P N all Q (md.add (rO x ++ rO i) [.inl d]) rest ⟨(d,.v (.int .u8 b.toNat)) :: ts,hs,n,z0⟩) :
  RW P N all Q md (⟨some d,.index t x i,ty,pos,af,none⟩ :: rest) ⟨ts,hs,n,z0⟩ :=
 rw_pu rfl rfl hN (fun C ι F T H a w ag g gh => pu_indexS g rfl (ag.l.ev.trans hx) (ag.r.ev.trans hi) ht hm hb) kk
theorem rw_extract {x:Operand}{i:Nat}{cs:List AV}{c:AV}(hx:ev (lk ts) x = some (.tup cs)) (hc:cs[i]? = some c) (hN:d < N) (kk:RW P N all Q (md.add (rO x) [.inl d]) rest ⟨(d,c) :: ts,hs,n,z0⟩) :
  RW P N all Q md (⟨some d,.extract x i,ty,pos,af,none⟩ :: rest) ⟨ts,hs,n,z0⟩ :=
 rw_pu rfl rfl hN (fun C ι F T H a w ag g gh => pu_extract g rfl (ag.ev.trans hx) hc) kk
theorem rw_conv {s t:TypeId}{x:Operand}{k k':IntKind}{m:Int}(hx:ev (lk ts) x = some (.v (.int k' m))) (hd:inOf P t = some k) (hs':inOf P s = some k') (hN:d < N) (kk:RW P N all Q (md.add (rO x) [.inl d]) rest ⟨(d,.v (.int k (k.wrap m))) :: ts,hs,n,z0⟩) :
  RW P N all Q md (⟨some d,.convert s t x,ty,pos,af,none⟩ :: rest) ⟨ts,hs,n,z0⟩ :=
 rw_pu rfl rfl hN (fun C ι F T H a w ag g gh => pu_conv g rfl (ag.ev.trans hx) hd hs') kk
theorem rw_slice {t el:TypeId}{x:Operand}{lo hi:Option Operand}{av out:AV}{m e l h:Nat}(hx:ev (lk ts) x = some av)
  (ht : slOf P t = some el) (he : szOf P el = some e) (hn : sLn av = some m) (hl : bndA (lk ts) lo 0 = some l) (hh : bndA (lk ts) hi m = some h) (hp : sSl e l h av = some out) (hN : d < N) (kk : RW P N all Q (md.add (rO x ++ (rB lo ++ rB hi)) [.inl d]) rest ⟨(d,out) :: ts,hs,n,z0⟩) :
  RW P N all Q md (⟨some d,.slice t x lo hi none,ty,pos,af,none⟩ :: rest) ⟨ts,hs,n,z0⟩ :=
 rw_pu rfl rfl hN (fun C ι F T H a w ag g gh => pu_slice g rfl (ag.l.ev.trans hx) ht he hn (ag.r.l.bnd.trans hl) (ag.r.r.bnd.trans hh) hp) kk
theorem rw_sliceS {t:TypeId}{x:Operand}{lo hi:Option Operand}{s:ByteArray}{l h:Nat}(hx:ev (lk ts) x = some (.v (.string s)))
  (ht : P.underlying t = some .string) (hl : bndA (lk ts) lo 0 = some l) (hh : bndA (lk ts) hi s.size = some h) (hc : l ≤ h ∧ h ≤ s.size) (hN : d < N) (kk : RW P N all Q (md.add (rO x ++ (rB lo ++ rB hi)) [.inl d]) rest ⟨(d,.v (.string (s.extract l h))) :: ts,hs,n,z0⟩) :
  RW P N all Q md (⟨some d,.slice t x lo hi none,ty,pos,af,none⟩ :: rest) ⟨ts,hs,n,z0⟩ :=
 rw_pu rfl rfl hN (fun C ι F T H a w ag g gh => pu_sliceS g rfl (ag.l.ev.trans hx) ht (ag.r.l.bnd.trans hl) (ag.r.r.bnd.trans hh) hc) kk
theorem rw_build {t:TypeId}{parts:Array (Nat × Operand)}{pl:List (Nat × Nat)}{zs:List Value}{l:List (Nat × AV)}{cs:List AV}
  (hp : plOf P t = some pl) (hz : zrOf P t = some zs) (hl : evs (lk ts) parts.toList = some l) (hf : fillA (pl[·]?) (zs.map .v) l = some cs) (hN : d < N) (kk : RW P N all Q (md.add (rPs parts.toList) [.inl d]) rest ⟨(d,.agg cs) :: ts,hs,n,z0⟩) :
  RW P N all Q md (⟨some d,.build t parts,ty,pos,af,none⟩ :: rest) ⟨ts,hs,n,z0⟩ :=
 rw_pu rfl rfl hN (fun C ι F T H a w ag g gh => pu_build g rfl hp hz (ag.evs.trans hl) hf) kk
theorem ef_nid {C:Ctx}{ι:Pl}{F:Nat → Prop}{H:Nat → Option (List AV)}{a:Act}{w:World}{o:Oper}{out:AV}{H':Nat → Option (List AV)}
  (h : Ef P C ι (fun j => F j ∧ j ≠ n) H a w o out H') : Ef P C ι (fun j => F j ∧ ¬ (n ≤ j ∧ j < n + 1)) H a w o out H' := by
 obtain ⟨m,y,ι',w',h1,h2,h3,h4⟩ := h
 obtain ⟨g,c⟩ := h3.less (F' := fun j => F j ∧ ¬ (n ≤ j ∧ j < n + 1)) (H' := H') (fun _ _ h => h) (fun j hj => ⟨hj.1,by omega⟩)
 exact ⟨m,y,ι',w',h1,h2,g,h4⟩
theorem ef_same {C:Ctx}{ι:Pl}{F:Nat → Prop}{H:Nat → Option (List AV)}{a:Act}{w:World}{o:Oper}{out:AV}{H':Nat → Option (List AV)}
  (h : Ef P C ι F H a w o out H') : Ef P C ι (fun j => F j ∧ ¬ (n ≤ j ∧ j < n)) H a w o out H' := by
 obtain ⟨m,y,ι',w',h1,h2,h3,h4⟩ := h
 obtain ⟨g,c⟩ := h3.less (F' := fun j => F j ∧ ¬ (n ≤ j ∧ j < n)) (H' := H') (fun _ _ h => h) (fun j hj => hj.1)
 exact ⟨m,y,ι',w',h1,h2,g,h4⟩
theorem efN {o:Oper}{out:AV}{cs:List AV}{rs:List Res}(hg:o.guard = none) (ho:o.dst = some d) (hN:d < N) (hM:Nat.blt n big = true)
  (h : ∀ (C : Ctx) (ι : Pl) (F : Nat → Prop) (T : Nat → Option AV) (H : Nat → Option (List AV)) (a : Act) (w : World), Agr rs ts hs T H → F n → TG C ι T H a w → HG C ι F H w →
   Ef P C ι (fun j => F j ∧ j ≠ n) H a w o out (upd H n (some cs)))
  (kk : RW P N all Q (md.add rs [.inr n,.inl d]) rest ⟨(d,out) :: ts,(n,some cs) :: hs,n + 1,z0⟩) : RW P N all Q md (o :: rest) ⟨ts,hs,n,z0⟩ :=
 rw_ef (rs := rs) (ws := [(n, some cs)]) (n' := n + 1) (out := out) hg (fun x h => by rw [ho] at h; cases h; exact hN) (Nat.le_succ n) (.inr (ltb hM))
  (fun C ι F T H a w ag hF g gh => ef_nid (h C ι F T H a w ag (hF n (Nat.le_refl n) (Nat.lt_succ_self n)) g gh)) (by simpa [ho,wD,wrH,put] using kk)
theorem rw_alloc {t:TypeId}{zs:List Value}(hz:zrOf P t = some zs) (hM:Nat.blt n big = true) (hN:d < N) (kk:RW P N all Q (md.add ([]) [.inr n,.inl d]) rest ⟨(d,.optr n 0) :: ts,(n,some (zs.map .v)) :: hs,n + 1,z0⟩) :
  RW P N all Q md (⟨some d,.alloc t,ty,pos,af,none⟩ :: rest) ⟨ts,hs,n,z0⟩ :=
 efN rfl rfl hN hM (fun C ι F T H a w ag hF g gh => ef_alloc gh rfl hz hF) kk
theorem rw_box {t:TypeId}{x:Operand}{av:AV}{cs:List AV}(hx:ev (lk ts) x = some av) (hc:cellsOf av = some cs) (hM:Nat.blt n big = true) (hN:d < N) (kk:RW P N all Q (md.add (rO x) [.inr n,.inl d]) rest ⟨(d,.optr n 0) :: ts,(n,some cs) :: hs,n + 1,z0⟩) :
  RW P N all Q md (⟨some d,.box t x,ty,pos,af,none⟩ :: rest) ⟨ts,hs,n,z0⟩ :=
 efN rfl rfl hN hM (fun C ι F T H a w ag hF g gh => ef_box g gh rfl (ag.ev.trans hx) hc hF) kk
theorem rw_buildSlice {t el:TypeId}{len e:Nat}{parts:Array (Nat × Operand)}{zs:List Value}{l:List (Nat × AV)}{cs:List AV}
  (ht : slOf P t = some el) (he : szOf P el = some e) (hz : zrOf P el = some zs) (hze : zs.length = e) (hsm : len * e ≤ 16777216) (hl : evs (lk ts) parts.toList = some l)
  (hfl : fillA (fun i => some (i * e,e)) ((List.replicate len (zs.map .v)).flatten) l = some cs) (hM : Nat.blt n big = true) (hN : d < N) (kk : RW P N all Q (md.add (rPs parts.toList) [.inr n,.inl d]) rest ⟨(d,.own n 0 len e) :: ts,(n,some cs) :: hs,n + 1,z0⟩) :
  RW P N all Q md (⟨some d,.buildSlice t len parts,ty,pos,af,none⟩ :: rest) ⟨ts,hs,n,z0⟩ :=
 efN rfl rfl hN hM (fun C ι F T H a w ag hF g gh => ef_buildSlice g gh rfl ht he hz hze hsm (ag.evs.trans hl) hfl hF) kk
theorem rw_makeSlice {t el:TypeId}{e by' m:Nat}{x y:Operand}{zs:List Value}{k k':IntKind}
  (hx : ev (lk ts) x = some (.v (.int k (m : Int)))) (hy : ev (lk ts) y = some (.v (.int k' (m : Int)))) (ht : slOf P t = some el) (he : szOf P el = some e) (hb : byOf P el = some by') (hz : zrOf P el = some zs) (hze : zs.length = e)
  (hsm : by' * m ≤ 281474976710656) (hmx : m ≤ 9223372036854775807) (hM : Nat.blt n big = true) (hN : d < N) (kk : RW P N all Q (md.add (rO x ++ rO y) [.inr n,.inl d]) rest ⟨(d,.own n 0 m e) :: ts,(n,some ((List.replicate m (zs.map .v)).flatten)) :: hs,n + 1,z0⟩) :
  RW P N all Q md (⟨some d,.makeSlice t x y,ty,pos,af,none⟩ :: rest) ⟨ts,hs,n,z0⟩ :=
 efN rfl rfl hN hM (fun C ι F T H a w ag hF g gh => ef_makeSlice g gh rfl (ag.l.ev.trans hx) (ag.r.ev.trans hy) ht he hb hz hze hsm hmx hF) kk
theorem rw_store {t:TypeId}{x y:Operand}{id off z:Nat}{av:AV}{cs new cs':List AV}(hx:ev (lk ts) x = some (.optr id off)) (hy:ev (lk ts) y = some av)
  (hz : szOf P t = some z) (hc : cellsOf av = some new) (hn : new.length = z) (hH : lkH hs id = some cs) (hl : off + new.length ≤ cs.length) (hcs : spl cs off new = cs')
  (kk : RW P N all Q (md.add (rO x ++ (rO y ++ [.inr id])) [.inr id]) rest ⟨ts,(id,some cs') :: hs,n,z0⟩) : RW P N all Q md (⟨none,.store t x y,ty,pos,af,none⟩ :: rest) ⟨ts,hs,n,z0⟩ := by
 subst hcs
 exact rw_ef (rs := rO x ++ (rO y ++ [.inr id])) (ws := [(id, some (spl cs off new))]) (n' := n) rfl (fun _ h => by cases h) (Nat.le_refl n) (.inl rfl)
  (fun C ι F T H a w ag hF g gh => ef_same (ef_store g gh rfl (ag.l.ev.trans hx) (ag.r.l.ev.trans hy) hz hc hn ((ag.r.r.h id (by simp)).trans hH) hl)) kk
theorem rw_append {t el:TypeId}{x y:Operand}{id off m m' e e' by':Nat}{av:AV}{cs new cs':List AV}{zs:List Value}
  (hx : ev (lk ts) x = some (.own id off m e')) (hy : ev (lk ts) y = some av)
  (ht : slOf P t = some el) (he : szOf P el = some e) (hb : byOf P el = some by') (hz : zrOf P el = some zs) (hze : zs.length = e) (he0 : 0 < e) (hee : e' = e)
  (hH : lkH hs id = some cs) (hl : off + m * e ≤ cs.length) (hs' : sCells (lkH hs) e (kAV av) = some (m',new)) (hbig : (m + m') * by' ≤ 140737488355328) (hmx : m + m' ≤ 9223372036854775807)
  (hcs : (cs.drop off).take (m * e) ++ new = cs') (hM : Nat.blt n big = true) (hN : d < N) (kk : RW P N all Q (md.add (rO x ++ (rO y ++ ([.inr id] ++ rA av))) [.inr id,.inr n,.inl d]) rest ⟨(d,.own n 0 (m + m') e) :: ts,(n,some cs') :: (id,none) :: hs,n + 1,z0⟩) :
  RW P N all Q md (⟨some d,.call ⟨.builtin .append,#[x,y],#[t,t]⟩,ty,pos,af,none⟩ :: rest) ⟨ts,hs,n,z0⟩ := by
 subst hcs
 exact rw_ef (rs := rO x ++ (rO y ++ ([.inr id] ++ rA av))) (ws := [(id, none), (n, some ((cs.drop off).take (m * e) ++ new))]) (n' := n + 1) (out := .own n 0 (m + m') e) rfl (fun _ h => by cases h; exact hN) (Nat.le_succ n) (.inr (ltb hM))
  (fun C ι F T H a w ag hF g gh => ef_nid (ef_append gh rfl (ev_ok g (ag.l.ev.trans hx)) (ev_ok g (ag.r.l.ev.trans hy)) ht he hb hz hze he0 hee ((ag.r.r.l.h id (by simp)).trans hH) hl (ag.r.r.r.sCells.trans hs') hbig hmx (hF n (Nat.le_refl n) (Nat.lt_succ_self n)))) kk
end
mutual
def AV.frz (i : Nat) (d : List AV) : AV → AV
 | .v x => .v x
 | .any => .any
 | .imm n cs => .imm n (frzs i d cs)
 | .iptr cs => .iptr (frzs i d cs)
 | .own id off n e => if id = i then .imm n (d.drop off) else .own id off n e
 | .optr id off => if id = i then .iptr (d.drop off) else .optr id off
 | .agg cs => .agg (frzs i d cs)
 | .tup cs => .tup (frzs i d cs)
 | .clos fn f c => .clos fn (frzs i d f) (frzs i d c)
 | .ownc id off n c e => if id = i then .imm n (d.drop off) else .ownc id off n c e
def frzs (i : Nat) (d : List AV) : List AV → List AV
 | [] => []
 | c :: cs => c.frz i d :: frzs i d cs
end
section
variable {w : World} {bad bad' : Nat → Prop} {ι : Pl} {i : Nat} {d : List AV}
structure FrzH (w : World) (bad bad' : Nat → Prop) (ι : Pl) (i : Nat) (d : List AV) : Prop where
 pl : ι i = some none ∨ ∃ b β,ι i = some (some (b,β)) ∧ ¬ bad' b ∧ RdC w bad' ι d b β
 sub : ∀ k,bad' k → bad k
mutual
theorem Rd.frz (h:FrzH w bad bad' ι i d):∀ (av:AV) (y:Value),Rd w bad ι av y → Rd w bad' ι (av.frz i d) y
 | .v x,y,k => by simpa only [Rd,AV.frz] using k
 | .any,y,k => by simpa only [Rd,AV.frz] using k
 | .imm n cs, y, k => by
  simp only [Rd,AV.frz] at k ⊢
  obtain ⟨a,c,rfl,k⟩ := k
  refine ⟨a,c,rfl,?_⟩
  rcases k with k | ⟨b,o,hn,rfl,k⟩
  ·exact .inl k
  ·refine .inr ⟨b, o, hn, rfl, ?_⟩
   rcases k with k | ⟨hb,k⟩
   ·subst k;exact .inl rfl
   ·exact .inr ⟨fun q => hb (h.sub _ q),RdC.frz h cs b o k⟩
 | .iptr cs, y, k => by
  simp only [Rd,AV.frz] at k ⊢
  obtain ⟨b,o,rfl,k⟩ := k
  refine ⟨b,o,rfl,?_⟩
  rcases k with k | ⟨hb,k⟩
  ·subst k;exact .inl rfl
  ·exact .inr ⟨fun q => hb (h.sub _ q),RdC.frz h cs b o k⟩
 | .own id off n e, y, k => by
  simp only [AV.frz]
  split
  ·rename_i hi
   subst hi
   simp only [Rd] at k ⊢
   rcases k with ⟨_,rfl,a,rfl⟩ | ⟨b',β',c,h1,rfl,h2,h3⟩
   ·exact ⟨a,0,rfl,.inl rfl⟩
   ·rcases h.pl with q | ⟨b2, β2, q, q1, q2⟩
    ·rw [q] at h1;cases h1
    ·rw [q] at h1
     cases h1
     exact ⟨_,c,rfl,.inr ⟨_,_,h2,rfl,RdC_dropped off (.inr ⟨q1,q2⟩)⟩⟩
  ·simpa only [Rd] using k
 | .ownc id off n c e, y, k => by
  simp only [AV.frz]
  split
  ·rename_i hi
   subst hi
   simp only [Rd] at k ⊢
   obtain ⟨b',β',c',h1,rfl,h2,h2',h3⟩ := k
   rcases h.pl with q | ⟨b2,β2,q,q1,q2⟩
   ·rw [q] at h1;cases h1
   ·rw [q] at h1
    cases h1
    exact ⟨_,c',rfl,.inr ⟨_,_,Nat.le_trans h2 h2',rfl,RdC_dropped off (.inr ⟨q1,q2⟩)⟩⟩
  ·simpa only [Rd] using k
 | .optr id off, y, k => by
  simp only [AV.frz]
  split
  ·rename_i hi
   subst hi
   simp only [Rd] at k ⊢
   obtain ⟨b',β',h1,rfl⟩ := k
   rcases h.pl with q | ⟨b,β,q,q1,q2⟩
   ·rw [q] at h1;cases h1
   ·rw [q] at h1
    cases h1
    exact ⟨_,_,rfl,RdC_dropped off (.inr ⟨q1,q2⟩)⟩
  ·simpa only [Rd] using k
 | .agg cs, y, k => by
  simp only [Rd,AV.frz] at k ⊢
  obtain ⟨l,h1,h2⟩ := k
  exact ⟨l,h1,RdL.frz h cs l h2⟩
 | .tup cs, y, k => by
  simp only [Rd,AV.frz] at k ⊢
  obtain ⟨l,h1,h2⟩ := k
  exact ⟨l,h1,RdV.frz h cs l h2⟩
 | .clos fn f c, y, k => by
  simp only [Rd,AV.frz] at k ⊢
  obtain ⟨l,l2,h1,h2,h3⟩ := k
  exact ⟨l,l2,h1,RdV.frz h f l h2,RdV.frz h c l2 h3⟩
theorem RdC.frz (h:FrzH w bad bad' ι i d):∀ (cs:List AV) (b o:Nat),RdC w bad ι cs b o → RdC w bad' ι (frzs i d cs) b o
 | [],b,o,k => by simp only [RdC,frzs]
 | c :: cs, b, o, k => by
  simp only [RdC,frzs] at k ⊢
  obtain ⟨⟨x,hx,h1,h2⟩,h3⟩ := k
  exact ⟨⟨x,hx,h1,Rd.frz h c x h2⟩,RdC.frz h cs b (o + 1) h3⟩
theorem RdL.frz (h:FrzH w bad bad' ι i d):∀ (cs:List AV) (l:List Value),RdL w bad ι cs l → RdL w bad' ι (frzs i d cs) l
 | [],l,k => by simpa only [RdL,frzs] using k
 | c :: cs, l, k => by
  simp only [RdL,frzs] at k ⊢
  obtain ⟨x,l',h0,h1,h2,h3⟩ := k
  exact ⟨x,l',h0,h1,Rd.frz h c x h2,RdL.frz h cs l' h3⟩
theorem RdV.frz (h:FrzH w bad bad' ι i d):∀ (cs:List AV) (l:List Value),RdV w bad ι cs l → RdV w bad' ι (frzs i d cs) l
 | [],l,k => by simpa only [RdV,frzs] using k
 | c :: cs, l, k => by
  simp only [RdV,frzs] at k ⊢
  obtain ⟨x,l',h0,h2,h3⟩ := k
  exact ⟨x,l',h0,Rd.frz h c x h2,RdV.frz h cs l' h3⟩
end
end
def frzT (i : Nat) (d : List AV) (l : List (Nat × AV)) : List (Nat × AV) := l.map fun p => (p.1,p.2.frz i d)
def frzHs (i : Nat) (d : List AV) (l : List (Nat × Option (List AV))) : List (Nat × Option (List AV)) := l.map fun p => (p.1,if p.1 = i then none else p.2.map (frzs i d))
theorem frzs_len (i:Nat) (d:List AV):∀ cs,(frzs i d cs).length = cs.length
 | [] => rfl
 | c :: cs => by simp [frzs,frzs_len i d cs]
theorem lk_frzT (i:Nat) (d:List AV):∀ (l:List (Nat × AV)) t av,lk (frzT i d l) t = some av → ∃ av0,lk l t = some av0 ∧ av = av0.frz i d
 | [],t,av,h => by simp [frzT,lk] at h
 | (u, v) :: l, t, av, h => by
  simp only [frzT,List.map_cons,lk_c] at h ⊢
  split at h
  ·rename_i e;cases h;exact ⟨v,if_pos e,rfl⟩
  ·rename_i e;rw [if_neg e]; exact lk_frzT i d l t av h
theorem lkH_frz (i:Nat) (d:List AV):∀ (l:List (Nat × Option (List AV))) t cs,lkH (frzHs i d l) t = some cs → ∃ cs0,lkH l t = some cs0 ∧ cs = frzs i d cs0 ∧ t ≠ i
 | [],t,cs,h => by simp [frzHs,lkH] at h
 | (u, v) :: l, t, cs, h => by
  simp only [frzHs,List.map_cons,lkH_c] at h ⊢
  split at h
  ·rename_i e
   subst e
   split at h
   ·cases h
   ·rename_i hne
    cases v with
    | none => simp at h
    | some c => simp at h;exact ⟨c,by simp,h.symm,hne⟩
  ·rename_i e
   rw [if_neg e]
   exact lkH_frz i d l t cs h
theorem Le.frz {ts:List (Nat × AV)}{hs:List (Nat × Option (List AV))}{n:Nat}{z0:Lo}(i:Nat){d:List AV}(hi:lkH hs i = some d):Le ⟨ts,hs,n,z0⟩ ⟨frzT i d ts,frzHs i d hs,n,z0⟩:=by
 rintro C a w ⟨h0,ι,g,gh⟩
 have hb : ∀ k, badOf C.X ι (lkH (frzHs i d hs)) k → badOf C.X ι (lkH hs) k := by
  intro k h
  rcases h with h | ⟨id',cs',β',q1,q2⟩
  ·exact .inl h
  ·obtain ⟨c0, q3, _, _⟩ := lkH_frz i d hs id' cs' q1
   exact .inr ⟨id',c0,β',q3,q2⟩
 have hcar : Carry w (badOf C.X ι (lkH hs)) ι w (badOf C.X ι (lkH (frzHs i d hs))) ι := ⟨fun k o x h1 h2 => ⟨fun h => h1 (hb k h),h2⟩,fun _ _ h => h,fun _ => Nat.le_refl _⟩
 have hF : FrzH w (badOf C.X ι (lkH hs)) (badOf C.X ι (lkH (frzHs i d hs))) ι i d := by
  refine ⟨?_,hb⟩
  rcases gh.obj i d hi with ⟨h1,h2⟩ | ⟨b,β,arr,e,h1,h2,h3,h4,h5,h6⟩
  ·exact .inl h1
  ·refine .inr ⟨b, β, h1, ?_, RdC.carryB hcar _ _ _ (fun o x hx => hx) h4⟩
   rintro (h | ⟨id',cs',β',q1,q2⟩)
   ·exact h5 h
   ·obtain ⟨c0, q3, _, q4⟩ := lkH_frz i d hs id' cs' q1
    exact q4 (gh.sep _ _ _ _ _ _ _ q3 hi q2 h1)
 refine ⟨h0,ι,⟨g.df,g.sz,fun t av ht => ?_⟩,⟨fun id cs h => ?_,fun id id' cs cs' b β β' h1 h2 h3 h4 => ?_,gh.fr,gh.ex,gh.fresh⟩⟩
 ·obtain ⟨av0, h1, rfl⟩ := lk_frzT i d ts t av ht
  obtain ⟨y,h2,h3⟩ := g.tm t av0 h1
  exact ⟨y,h2,Rd.frz hF av0 y h3⟩
 ·obtain ⟨c0, q3, rfl, q4⟩ := lkH_frz i d hs id cs h
  rcases gh.obj id c0 q3 with ⟨h1,h2⟩ | ⟨b,β,arr,e,h1,h2,h3,h4,h5,h6⟩
  ·subst h2;exact .inl ⟨h1,rfl⟩
  ·exact .inr ⟨b,β,arr,e,h1,h2,by rw [frzs_len]; exact h3,RdC.frz hF c0 b β h4,h5,h6⟩
 ·obtain ⟨c1, q1, _, _⟩ := lkH_frz i d hs id cs h1
  obtain ⟨c2,q2,_,_⟩ := lkH_frz i d hs id' cs' h2
  exact gh.sep _ _ _ _ _ _ _ q1 q2 h3 h4
def ACalls (P : Program) (k : FuncId) (args : List AV) (H0 : List (Nat × Option (List AV))) (n : Nat) (Q : AV → (Nat → Option (List AV)) → Prop) : Prop :=
 ∀ (C : Ctx) (ι : Pl) (w : World) (vals : List Value), C.w0 = w → C.ι0 = ι → HG C ι (fun j => n ≤ j) (lkH H0) w → RdV w (badOf C.X ι (lkH H0)) ι args vals →
  Calls P k vals.toArray w (fun e w' => ∃ v r H' ι',e = .returned v ∧ Q r H' ∧ Rd w' (badOf C.X ι' H') ι' r v ∧ HG C ι' (fun _ => False) H' w')
def PC (P : Program) (k : FuncId) (args : List AV) (Q : AV → Prop) : Prop := ACalls P k args [] 0 (fun r _ => Q r ∧ r.pur = true)
theorem HG.bad_lt {C:Ctx}{ι:Pl}{F:Nat → Prop}{H:Nat → Option (List AV)}{w:World}(g:HG C ι F H w):∀ b,badOf C.X ι H b → b < w.heap.size:=by
 rintro b (h | ⟨id,cs,β,h1,h2⟩)
 ·exact Nat.lt_of_lt_of_le (C.xlt b h) g.fr.size
 ·rcases g.obj id cs h1 with ⟨h3, _⟩ | ⟨b', β', arr, e, h3, h4, _⟩
  ·rw [h3] at h2;cases h2
  ·rw [h3] at h2;cases h2;exact lt_of_heap h4
theorem HG.ext {C:Ctx}{ι:Pl}{F:Nat → Prop}{H:Nat → Option (List AV)}{w w':World}(g:HG C ι F H w) (f:Fr (fun _ => False) w w') :
  HG C ι F H w' ∧ Carry w (badOf C.X ι H) ι w' (badOf C.X ι H) ι := by
 have hold : ∀ b,b < w.heap.size → w'.heap[b]? = w.heap[b]? := fun b hb => f.block b hb (fun h => h)
 have hcar : Carry w (badOf C.X ι H) ι w' (badOf C.X ι H) ι :=
  ⟨fun b o x h1 h2 => ⟨h1,by rw [cell?_heap (hold b (lt_of_cell h2))]; exact h2⟩,fun _ _ h => h,f.bs⟩
 refine ⟨⟨fun id cs h => ?_,g.sep,⟨f.os.trans g.fr.os,f.tape.trans g.fr.tape,f.output.trans g.fr.output,Nat.le_trans g.fr.size f.size,fun k hk hw => ?_,fun b => Nat.le_trans (g.fr.bs b) (f.bs b)⟩,g.ex,g.fresh⟩,hcar⟩
 ·rcases g.obj id cs h with h1 | ⟨b', β', arr', e', h1, h2, h3, h4, h5, h6⟩
  ·exact .inl h1
  ·have hlt := lt_of_heap h2
   exact .inr ⟨b',β',arr',e',h1,by rw [hold b' hlt]; exact h2,h3,RdC.carryB hcar _ _ _ (fun o x hx => by rw [cell?_heap (hold b' hlt)]; exact hx) h4,h5,h6⟩
 ·rw [hold k (Nat.lt_of_lt_of_le hk g.fr.size)]; exact g.fr.block k hk hw
theorem call_pure {P:Program}{k:FuncId}{args:List AV}{Q:AV → Prop}(h:PC P k args Q) (hp:pursB args = true){C:Ctx}{ι:Pl}{F:Nat → Prop}{H:Nat → Option (List AV)}{w:World}
  (g : HG C ι F H w) {vals : List Value} (hr : RdV w (badOf C.X ι H) ι args vals) :
  Calls P k vals.toArray w (fun e w' => ∃ v r,e = .returned v ∧ Q r ∧ r.pur = true ∧ HG C ι F H w' ∧ Carry w (badOf C.X ι H) ι w' (badOf C.X ι H) ι ∧ Rd w' (badOf C.X ι H) ι r v) := by
 let C' : Ctx := { N := 0,w0 := w,W0 := fun _ => False,X := badOf C.X ι H,ι0 := fun _ => none,xlt := g.bad_lt }
 have hbad : ∀ b, badOf C'.X (fun _ => none) (lkH []) b → badOf C.X ι H b := by
  rintro b (h | ⟨id,cs,β,h1,h2⟩)
  ·exact h
  ·cases h2
 have hbad2 : ∀ b,badOf C.X ι H b → badOf C'.X (fun _ => none) (lkH []) b := fun b h => .inl h
 have g' : HG C' (fun _ => none) (fun j => 0 ≤ j) (lkH []) w :=
  ⟨fun id cs h => by simp [lkH] at h,fun id id' cs cs' b β β' h => by simp [lkH] at h,Fr.refl _ _,fun _ _ h => h,fun _ _ => rfl⟩
 have hcar : Carry w (badOf C.X ι H) (fun _ => none) w (badOf C'.X (fun _ => none) (lkH [])) (fun _ => none) := ⟨fun b o x h1 h2 => ⟨fun h => h1 (hbad b h),h2⟩,fun _ _ h => h,fun _ => Nat.le_refl _⟩
 refine (h C' _ w vals rfl rfl g' (RdV.carry hcar _ _ (RdV.pur args vals hp hr))).mono ?_
 rintro e w' ⟨v,r,H',ι',h1,⟨h2,h3⟩,h4,h5⟩
 obtain ⟨g2,c2⟩ := g.ext h5.fr
 refine ⟨v,r,h1,h2,h3,g2,c2,?_⟩
 have hc : Carry w' (badOf C'.X ι' H') ι w' (badOf C.X ι H) ι := ⟨fun b o x h1 h2 => ⟨fun h => h1 (.inl h),h2⟩,fun _ _ h => h,fun _ => Nat.le_refl _⟩
 exact Rd.carry hc _ _ (Rd.pur r v h3 h4)
def callable (P : Program) (k : FuncId) : Bool := match P.funcs[k]? with | some fn => !(fn.name == "runtime.NumGoroutine") && fn.body.isSome | none => false
theorem run_call {P:Program}{k:FuncId}(h:callable P k = true) (args:Array Value) (w:World):(callFunc k args).run P w = .ok (.enter k args) w:=by
 unfold callable at h
 cases hf : P.funcs[k]? with
 | none => simp [hf] at h
 | some fn =>
  simp only [hf,Bool.and_eq_true,Bool.not_eq_true'] at h
  have hb : fn.body.isNone = false := by
   cases hh : fn.body with
   | none => simp [hh] at h
   | some _ => rfl
  unfold callFunc
  simp only [Sem.run_bind,run_program,Result.andThen_ok,hf,h.1,Bool.false_eq_true,if_false,hb,Sem.run_pure]
def evL (T : Nat → Option AV) : List Operand → Option (List AV)
 | [] => some []
 | x :: xs => match ev T x,evL T xs with|some v,some l => some (v :: l) | _,_ => none
theorem evL_ok {C:Ctx}{ι:Pl}{T:Nat → Option AV}{H:Nat → Option (List AV)}{a:Act}{w:World}(g:TG C ι T H a w):∀ {xs:List Operand}{l:List AV},evL T xs = some l →
  RdV w (badOf C.X ι H) ι l (xs.map a.eval)
 | [],l,h => by simp only [evL,Option.some.injEq] at h;subst h;simp [RdV]
 | x :: xs, l, h => by
  simp only [evL] at h
  split at h
  ·rename_i v l' h1 h2
   cases h
   simp only [RdV,List.map_cons]
   exact ⟨_,_,rfl,ev_ok g h1,evL_ok g h2⟩
  ·cases h
section
theorem Agr.evL {T:Nat → Option AV}{H:Nat → Option (List AV)}:∀ {xs:List Operand},Agr (rOs xs) ts hs T H → evL T xs = evL (lk ts) xs
 | [],_ => rfl
 | x :: xs,g => by simp only [Go.AL.evL]; rw [Agr.ev (x := x) (Agr.l g),Agr.evL (Agr.r g)]
theorem exec_call {k:FuncId}{args:Array Operand}{tys:Array TypeId}(hc:callable P k = true) (dst:Option Tmp) (a:Act) (w:World):(execOp a.eval ⟨dst,.call ⟨.value (.func k),args,tys⟩,ty,pos,af,none⟩).run P w = .ok (.enter k (args.toList.map a.eval).toArray) w:=by
 simp only [execOp,Sem.run_bind,resolve,Act.eval,Deferred.ofValue,Sem.run_pure,Result.andThen_ok,invoke,run_call hc]
 simp
 rw [← Array.toList_map,Array.toArray_toList]
theorem rw_call {k:FuncId}{args:Array Operand}{tys:Array TypeId}{avs:List AV}{Q1:AV → Prop}(hc:callable P k = true) (ha:evL (lk ts) args.toList = some avs) (h:PC P k avs Q1) (hp:pursB avs = true) (hN:d < N)
  (kk : ∀ r,Q1 r → r.pur = true → RW P N all Q .txt rest ⟨(d,r) :: ts,hs,n,z0⟩) : RW P N all Q .txt (⟨some d,.call ⟨.value (.func k),args,tys⟩,ty,pos,af,none⟩ :: rest) ⟨ts,hs,n,z0⟩ := by
 rintro C a w hCN ⟨h0,ι,g,gh⟩
 refine wpList_plain rfl (fun K hK => ?_)
 have hr := evL_ok g ha
 simp only [Oper.wp,exec_call hc,Oper.upon]
 refine (call_pure h hp gh hr).mono ?_
 rintro e w' ⟨v,r,rfl,h2,h3,h4,h5,h6⟩
 refine hK _ _ (kk r h2 h3 C _ _ hCN ⟨h0,ι,?_,h4⟩)
 show TG C ι (lk ((d,r) :: ts)) _ _ _
 rw [lk_cons]
 exact (g.carry h5).put (by omega) h6
theorem rw_callE {k:FuncId}{args:Array Operand}{tys:Array TypeId}{avs:List AV}{r:AV}(hc:callable P k = true) (ha:evL (lk ts) args.toList = some avs) (h:PC P k avs (fun x => x = r)) (hp:pursB avs = true) (hN:d < N)
  (kk : RW P N all Q (md.add (rOs args.toList) [.inl d]) rest ⟨(d,r) :: ts,hs,n,z0⟩) : RW P N all Q md (⟨some d,.call ⟨.value (.func k),args,tys⟩,ty,pos,af,none⟩ :: rest) ⟨ts,hs,n,z0⟩ := by
 refine rw_step (rs := rOs args.toList) (ws := []) (n' := n) (out := r) rfl (Nat.le_refl _) (.inl rfl) (fun C ι F T H a w K Q' hCN ag hF g gh hK => ?_) (fun x hx => by cases hx;exact hN) kk
 simp only [Oper.wp,exec_call hc,Oper.upon]
 refine (call_pure h hp gh (evL_ok g (ag.evL.trans ha))).mono ?_
 rintro e w' ⟨v,r',rfl,h2,h3,h4,h5,h6⟩
 subst h2
 exact hK ι w' v (g.carry h5) (h4.less (fun _ _ h => h) (fun j hj => hj.1)).1 h6
def AV.flt : AV → Bool
 | .v _ => true
 | .any => true
 | .agg cs => cs.all fun c => match c with | .v _ => true | .any => true | _ => false
 | .tup cs => cs.all fun c => match c with | .v _ => true | .any => true | .agg ds => ds.all (fun c => match c with | .v _ => true | .any => true | _ => false) | _ => false
 | _ => false
end
def argTs : Nat → List AV → List (Nat × AV)
 | _,[] => []
 | i,v :: l => (i,v) :: argTs (i + 1) l
def resA (P : Program) (T : Nat → Option AV) (H : Nat → Option (List AV)) : ResultVar → Option AV
 | .tmp t => T t
 | .cell a t => match T a with
  | some p => match deref H p, agOf P t with
   | some cs,some true => match szOf P t with|some z => if (cs.take z).length = z ∧ z ≠ 0 then some (.agg (cs.take z)) else none|none => none
   | some cs,some false => cs[0]?
   | _,_ => none
  | none => none
def resL (P : Program) (T : Nat → Option AV) (H : Nat → Option (List AV)) : List ResultVar → Option (List AV)
 | [] => some []
 | x :: xs => match resA P T H x,resL P T H xs with|some v,some l => some (v :: l) | _,_ => none
def oneOf : List AV → AV
 | [v] => v
 | l => .tup l
def retQ (P : Program) (res : Array ResultVar) (Q : AV → (Nat → Option (List AV)) → Prop) (e : Exit) (s : AS) : Prop :=
 (e = .ret ∨ e = .normal) ∧ ∃ s' l,Le s s' ∧ resL P (lk s'.ts) (lkH s'.hs) res.toList = some l ∧ Q (oneOf l) (lkH s'.hs)
def resS (a : Act) : ResultVar → Sem Value
 | .tmp t => pure (a.tmps.getD t undef)
 | .cell ad t => do loadVar t (← asAddr (a.tmps.getD ad undef))
theorem resA_ok {P:Program}{C:Ctx}{ι:Pl}{F:Nat → Prop}{T:Nat → Option AV}{H:Nat → Option (List AV)}{a:Act}{w:World}(g:TG C ι T H a w) (gh:HG C ι F H w){x:ResultVar}{v:AV}(h:resA P T H x = some v) :
  ∃ y,(resS a x).run P w = .ok y w ∧ Rd w (badOf C.X ι H) ι v y := by
 cases x with
 | tmp t =>
  obtain ⟨y,h1,h2⟩ := g.tm t v h
  exact ⟨y,by simp [resS,h1],h2⟩
 | cell ad t =>
  simp only [resA] at h
  split at h
  ·rename_i p hp
   have hx : ev T (.tmp ad) = some p := hp
   split at h
   ·rename_i cs hd ha
    split at h
    ·rename_i z hz
     split at h
     ·rename_i hc
      cases h
      obtain ⟨y, h1, h2⟩ := pu_loadA (P := P) (o := ⟨some 0, .load t (.tmp ad), 0, "", #[], none⟩) g gh rfl hx ha hz hd rfl hc.1 hc.2
      rcases deref_ok gh (ev_ok g hx) hd with h0 | ⟨b,o,h3,h4⟩
      ·subst h0;simp at hc;omega
      ·refine ⟨y, ?_, h2⟩
       simp only [Act.eval] at h3
       simp only [execOp,Act.eval,h3,Instr.loadAt,Instr.sureAddr,Sem.run_bind,Sem.run_pure,Result.andThen_ok] at h1
       simp only [resS,h3,asAddr,Sem.run_bind,Sem.run_pure,Result.andThen_ok]
       cases hv : (loadVar t ⟨b,o,none⟩).run P w with
       | ok x w1 => simp [hv] at h1;obtain ⟨rfl,rfl⟩ := h1;rfl
       | halt x w1 => simp [hv] at h1
     ·cases h
    ·cases h
   ·rename_i cs hd ha
    obtain ⟨y, h1, h2⟩ := pu_load1 (P := P) (o := ⟨some 0, .load t (.tmp ad), 0, "", #[], none⟩) g gh rfl hx ha hd h
    rcases deref_ok gh (ev_ok g hx) hd with h0 | ⟨b,o,h3,h4⟩
    ·subst h0;simp at h
    ·refine ⟨y, ?_, h2⟩
     simp only [Act.eval] at h3
     simp only [execOp,Act.eval,h3,Instr.loadAt,Instr.sureAddr,Sem.run_bind,Sem.run_pure,Result.andThen_ok] at h1
     simp only [resS,h3,asAddr,Sem.run_bind,Sem.run_pure,Result.andThen_ok]
     cases hv : (loadVar t ⟨b,o,none⟩).run P w with
     | ok x w1 => simp [hv] at h1;obtain ⟨rfl,rfl⟩ := h1;rfl
     | halt x w1 => simp [hv] at h1
   ·cases h
  ·cases h
theorem resL_ok {P:Program}{C:Ctx}{ι:Pl}{F:Nat → Prop}{T:Nat → Option AV}{H:Nat → Option (List AV)}{a:Act}{w:World}(g:TG C ι T H a w) (gh:HG C ι F H w):∀ {xs:List ResultVar}{l:List AV},resL P T H xs = some l →
  ∃ ys,(xs.mapM (resS a)).run P w = .ok ys w ∧ RdV w (badOf C.X ι H) ι l ys
 | [],l,h => by simp only [resL,Option.some.injEq] at h;subst h;exact ⟨[],by simp,by simp [RdV]⟩
 | x :: xs, l, h => by
  simp only [resL] at h
  split at h
  ·rename_i v l' h1 h2
   cases h
   obtain ⟨y,h3,h4⟩ := resA_ok g gh h1
   obtain ⟨ys,h5,h6⟩ := resL_ok g gh h2
   refine ⟨y :: ys,?_,by simp only [RdV]; exact ⟨y,ys,rfl,h4,h6⟩⟩
   rw [List.mapM_cons,Sem.run_bind,h3,Result.andThen_ok,Sem.run_bind,h5,Result.andThen_ok,Sem.run_pure]
  ·cases h
theorem oneOf_ok {w:World}{bad:Nat → Prop}{ι:Pl}:∀ {l:List AV}{ys:List Value},RdV w bad ι l ys → Rd w bad ι (oneOf l) (if h:ys.toArray.size = 1 then ys.toArray[0] else .tuple ys.toArray)
 | [],ys,h => by simp only [RdV] at h;subst h;simp [oneOf,Rd,RdV]
 | [v], ys, h => by
  simp only [RdV] at h
  obtain ⟨y,l',rfl,h1,rfl⟩ := h
  simpa [oneOf] using h1
 | v :: v' :: l, ys, h => by
  have h0 := h
  simp only [RdV] at h
  obtain ⟨y,l',rfl,h1,y2,l2,rfl,h2,h3⟩ := h
  simp only [oneOf,Rd]
  exact ⟨y :: y2 :: l2,by simp,h0⟩
theorem lk_argTs {w:World}{bad:Nat → Prop}{ι:Pl}:∀ {args:List AV}{vals:List Value}{i t:Nat}{av:AV},RdV w bad ι args vals → lk (argTs i args) t = some av → ∃ y,i ≤ t ∧ vals[t - i]? = some y ∧ Rd w bad ι av y
 | [],vals,i,t,av,_,h => by simp [argTs,lk] at h
 | v :: args, vals, i, t, av, hr, h => by
  simp only [RdV] at hr
  obtain ⟨x,l',rfl,h1,h2⟩ := hr
  simp only [argTs,lk_c] at h
  split at h
  ·rename_i e
   cases h
   subst e
   exact ⟨x,Nat.le_refl _,by simp,h1⟩
  ·obtain ⟨y, h3, h4, h5⟩ := lk_argTs h2 h
   exact ⟨y,by omega,by rw [show t - i = (t - (i + 1)) + 1 from by omega]; simpa using h4,h5⟩
theorem RdV.length {w:World}{bad:Nat → Prop}{ι:Pl}:∀ {cs:List AV}{l:List Value},RdV w bad ι cs l → l.length = cs.length
 | [],l,h => by simp only [RdV] at h;simp [h]
 | c :: cs, l, h => by
  simp only [RdV] at h
  obtain ⟨x,l',rfl,_,h⟩ := h
  simp [RdV.length h]
theorem acalls_of_aw {P:Program}{k:FuncId}{fn:Func}{c:Code}{args:List AV}{H0:List (Nat × Option (List AV))}{n:Nat}{Q:AV → (Nat → Option (List AV)) → Prop}(hf:P.funcs[k]? = some fn) (hb:fn.body = some c)
  (hN : args.length ≤ fn.ntmps) (h : AW P fn.ntmps c (retQ P fn.results Q) ⟨argTs 0 args,H0,n,⟨n,big⟩⟩) : ACalls P k args H0 n Q := by
 intro C ι w vals hw hι g hr
 refine calls_of_wp hf hb ?_
 let C' : Ctx := { C with N := fn.ntmps }
 have hlen := RdV.length hr
 have g' : HG C' ι (Fn n ⟨n,big⟩) (lkH H0) w := ⟨g.obj,g.sep,g.fr,g.ex,fun id h => g.fresh id h.1⟩
 have gt : TG C' ι (lk (argTs 0 args)) (lkH H0) { tmps := vals.toArray ++ Array.replicate (fn.ntmps - vals.toArray.size) undef, defers := [] } w := by
  refine ⟨rfl,by simp [C',hlen]; omega,fun t av ht => ?_⟩
  obtain ⟨y,_,h1,h2⟩ := lk_argTs hr ht
  refine ⟨y,?_,h2⟩
  have hlt : t < vals.length := by
   rcases Nat.lt_or_ge t vals.length with q|q
   ·exact q
   ·rw [List.getElem?_eq_none (by simpa using q)] at h1;cases h1
  rw [Array.getElem?_append_left (by simpa using hlt)]
  simpa using h1
 refine wp_mono (h C' _ w rfl ⟨fun id hid => .inr (by show C.ι0 id = none;rw [hι]; exact g.fresh id hid),ι,gt,g'⟩) ?_
 rintro e a' w' ⟨s1,⟨he,s',l,hle,hres,hQ⟩,hg⟩
 obtain ⟨_,ι',g1,g2⟩ := hle C' a' w' hg
 obtain ⟨ys,h1,h2⟩ := resL_ok (P := P) g1 g2 hres
 have hres' : (results fn a'.tmps).run P w' = .ok (if h : ys.toArray.size = 1 then ys.toArray[0] else .tuple ys.toArray) w' := by
  have hr1 : results fn a'.tmps = (do let vs ← fn.results.mapM (resS a'); pure (if h : vs.size = 1 then vs[0] else .tuple vs)) := by
   unfold results
   congr 1
  rw [hr1,Array.mapM_eq_mapM_toList,Sem.run_bind,Sem.run_map,h1]
  simp only [Result.andThen_ok,Sem.run_pure]
 have g3 : HG C ι' (fun _ => False) (lkH s'.hs) w' := ⟨g2.obj,g2.sep,g2.fr,g2.ex,fun _ h => h.elim⟩
 rcases he with rfl|rfl
 ·exact ⟨g1.df,_,hres',_,_,_,ι',rfl,hQ,oneOf_ok h2,g3⟩
 ·exact ⟨g1.df,_,hres',_,_,_,ι',rfl,hQ,oneOf_ok h2,g3⟩
theorem pc_of_aw {P:Program}{k:FuncId}{fn:Func}{c:Code}{args:List AV}{Q:AV → Prop}(hf:P.funcs[k]? = some fn) (hb:fn.body = some c)
  (hN : args.length ≤ fn.ntmps) (h : AW P fn.ntmps c (retQ P fn.results (fun r _ => Q r ∧ r.pur = true)) ⟨argTs 0 args,[],0,⟨0,big⟩⟩) : PC P k args Q := acalls_of_aw hf hb hN h
mutual
inductive RnV (ρ : Nat → Option Nat) : AV → AV → Prop
 | pur {v : AV} : v.pur = true → RnV ρ v v
 | own {i i' o n e : Nat} : ρ i = some i' → RnV ρ (.own i o n e) (.own i' o n e)
 | optr {i i' o : Nat} : ρ i = some i' → RnV ρ (.optr i o) (.optr i' o)
 | imm {n : Nat} {cs cs' : List AV} : RnL ρ cs cs' → RnV ρ (.imm n cs) (.imm n cs')
 | agg {cs cs' : List AV} : RnL ρ cs cs' → RnV ρ (.agg cs) (.agg cs')
 | tup {cs cs' : List AV} : RnL ρ cs cs' → RnV ρ (.tup cs) (.tup cs')
 | clos {fn : Go.Fn} {f f' c c' : List AV} : RnL ρ f f' → RnL ρ c c' → RnV ρ (.clos fn f c) (.clos fn f' c')
inductive RnL (ρ : Nat → Option Nat) : List AV → List AV → Prop
 | pur {v : List AV} : pursB v = true → RnL ρ v v
 | nil : RnL ρ [] []
 | cons {c c' : AV} {cs cs' : List AV} : RnV ρ c c' → RnL ρ cs cs' → RnL ρ (c :: cs) (c' :: cs')
end
structure RnH (w : World) (ρ : Nat → Option Nat) (bad : Nat → Prop) (ι : Pl) (bad' : Nat → Prop) (ι' : Pl) : Prop where
 car : Carry w bad ι w bad' ι
 pl : ∀ i i',ρ i = some i' → ι i = ι' i'
theorem RnL.len {ρ:Nat → Option Nat}:∀ {v v':List AV},RnL ρ v v' → v.length = v'.length
 | _,_,.pur _ => rfl
 | _,_,.nil => rfl
 | _,_,.cons _ h => by simp [RnL.len h]
mutual
theorem RnV.fwd {w:World}{ρ:Nat → Option Nat}{bad bad':Nat → Prop}{ι ι':Pl}(h:RnH w ρ bad ι bad' ι'):∀ {v v':AV},RnV ρ v v' → ∀ {y:Value},Rd w bad ι v y → Rd w bad' ι' v' y
 | _,_,.pur hp,y,k => Rd.pur _ y hp (Rd.carry h.car _ _ k)
 | _,_,.own hi,y,k => by simp only [Rd,h.pl _ _ hi] at k ⊢; exact k
 | _,_,.optr hi,y,k => by simp only [Rd,h.pl _ _ hi] at k ⊢; exact k
 | _, _, .imm (cs := cs) (cs' := cs') hl, y, k => by
  have hlen := RnL.len hl
  simp only [Rd] at k ⊢
  obtain ⟨a,c,rfl,k⟩ := k
  refine ⟨a,c,rfl,?_⟩
  rcases k with k | ⟨b,o,hn,rfl,k⟩
  ·exact .inl k
  ·refine .inr ⟨b, o, hn, rfl, ?_⟩
   rcases k with k | ⟨hb,k⟩
   ·subst k;exact .inl (List.eq_nil_of_length_eq_zero (by rw [← hlen]; rfl))
   ·cases cs' with
    | nil => exact .inl rfl
    | cons c1 cs1 =>
     refine .inr ⟨?_,RnL.fwdC h hl k⟩
     cases cs with
     | nil => simp at hlen
     | cons c2 cs2 =>
      simp only [RdC] at k
      obtain ⟨⟨x,hx,_⟩,_⟩ := k
      exact (h.car.cell b o x hb hx).1
 | _, _, .agg hl, y, k => by
  simp only [Rd] at k ⊢
  obtain ⟨l,h1,h2⟩ := k
  exact ⟨l,h1,RnL.fwdL h hl h2⟩
 | _, _, .tup hl, y, k => by
  simp only [Rd] at k ⊢
  obtain ⟨l,h1,h2⟩ := k
  exact ⟨l,h1,RnL.fwdV h hl h2⟩
 | _, _, .clos h1 h2, y, k => by
  simp only [Rd] at k ⊢
  obtain ⟨lf,lc,q1,q2,q3⟩ := k
  exact ⟨lf,lc,q1,RnL.fwdV h h1 q2,RnL.fwdV h h2 q3⟩
theorem RnL.fwdL {w:World}{ρ:Nat → Option Nat}{bad bad':Nat → Prop}{ι ι':Pl}(h:RnH w ρ bad ι bad' ι'):∀ {v v':List AV},RnL ρ v v' → ∀ {y:List Value},RdL w bad ι v y → RdL w bad' ι' v' y
 | _,_,.pur hp,y,k => RdL.pur _ y hp (RdL.carry h.car _ _ k)
 | _,_,.nil,y,k => by simpa only [RdL] using k
 | _, _, .cons h1 h2, y, k => by
  simp only [RdL] at k ⊢
  obtain ⟨x,l',q0,q1,q2,q3⟩ := k
  exact ⟨x,l',q0,q1,RnV.fwd h h1 q2,RnL.fwdL h h2 q3⟩
theorem RnL.fwdV {w:World}{ρ:Nat → Option Nat}{bad bad':Nat → Prop}{ι ι':Pl}(h:RnH w ρ bad ι bad' ι'):∀ {v v':List AV},RnL ρ v v' → ∀ {y:List Value},RdV w bad ι v y → RdV w bad' ι' v' y
 | _,_,.pur hp,y,k => RdV.pur _ y hp (RdV.carry h.car _ _ k)
 | _,_,.nil,y,k => by simpa only [RdV] using k
 | _, _, .cons h1 h2, y, k => by
  simp only [RdV] at k ⊢
  obtain ⟨x,l',q0,q2,q3⟩ := k
  exact ⟨x,l',q0,RnV.fwd h h1 q2,RnL.fwdV h h2 q3⟩
theorem RnL.fwdC {w:World}{ρ:Nat → Option Nat}{bad bad':Nat → Prop}{ι ι':Pl}(h:RnH w ρ bad ι bad' ι'):∀ {v v':List AV},RnL ρ v v' → ∀ {b o:Nat},RdC w bad ι v b o → RdC w bad' ι' v' b o
 | _,_,.pur hp,b,o,k => RdC.pur _ b o hp (RdC.carryB h.car _ _ _ (fun o x hx => hx) k)
 | _,_,.nil,b,o,k => by simp only [RdC]
 | _, _, .cons h1 h2, b, o, k => by
  simp only [RdC] at k ⊢
  obtain ⟨⟨x,q1,q2,q3⟩,q4⟩ := k
  exact ⟨⟨x,q1,q2,RnV.fwd h h1 q3⟩,RnL.fwdC h h2 q4⟩
end
mutual
theorem RnV.bwd {w:World}{ρ:Nat → Option Nat}{bad bad':Nat → Prop}{ι ι':Pl}(h:RnH w ρ bad ι bad' ι') (hc:Carry w bad' ι' w bad ι'):∀ {v v':AV},RnV ρ v v' → ∀ {y:Value},Rd w bad' ι' v' y → Rd w bad ι v y
 | _,_,.pur hp,y,k => Rd.pur _ y hp (Rd.carry hc _ _ k)
 | _,_,.own hi,y,k => by simp only [Rd,h.pl _ _ hi] at k ⊢; exact k
 | _,_,.optr hi,y,k => by simp only [Rd,h.pl _ _ hi] at k ⊢; exact k
 | _, _, .imm (cs := cs) (cs' := cs') hl, y, k => by
  have hlen := RnL.len hl
  simp only [Rd] at k ⊢
  obtain ⟨a,c,rfl,k⟩ := k
  refine ⟨a,c,rfl,?_⟩
  rcases k with k | ⟨b,o,hn,rfl,k⟩
  ·exact .inl k
  ·refine .inr ⟨b, o, hn, rfl, ?_⟩
   rcases k with k | ⟨hb,k⟩
   ·subst k;exact .inl (List.eq_nil_of_length_eq_zero (by rw [hlen]; rfl))
   ·cases cs with
    | nil => exact .inl rfl
    | cons c1 cs1 =>
     refine .inr ⟨?_,RnL.bwdC h hc hl k⟩
     cases cs' with
     | nil => simp at hlen
     | cons c2 cs2 =>
      simp only [RdC] at k
      obtain ⟨⟨x,hx,_⟩,_⟩ := k
      exact (hc.cell b o x hb hx).1
 | _, _, .agg hl, y, k => by
  simp only [Rd] at k ⊢
  obtain ⟨l,h1,h2⟩ := k
  exact ⟨l,h1,RnL.bwdL h hc hl h2⟩
 | _, _, .tup hl, y, k => by
  simp only [Rd] at k ⊢
  obtain ⟨l,h1,h2⟩ := k
  exact ⟨l,h1,RnL.bwdV h hc hl h2⟩
 | _, _, .clos h1 h2, y, k => by
  simp only [Rd] at k ⊢
  obtain ⟨lf,lc,q1,q2,q3⟩ := k
  exact ⟨lf,lc,q1,RnL.bwdV h hc h1 q2,RnL.bwdV h hc h2 q3⟩
theorem RnL.bwdL {w:World}{ρ:Nat → Option Nat}{bad bad':Nat → Prop}{ι ι':Pl}(h:RnH w ρ bad ι bad' ι') (hc:Carry w bad' ι' w bad ι'):∀ {v v':List AV},RnL ρ v v' → ∀ {y:List Value},RdL w bad' ι' v' y → RdL w bad ι v y
 | _,_,.pur hp,y,k => RdL.pur _ y hp (RdL.carry hc _ _ k)
 | _,_,.nil,y,k => by simpa only [RdL] using k
 | _, _, .cons h1 h2, y, k => by
  simp only [RdL] at k ⊢
  obtain ⟨x,l',q0,q1,q2,q3⟩ := k
  exact ⟨x,l',q0,q1,RnV.bwd h hc h1 q2,RnL.bwdL h hc h2 q3⟩
theorem RnL.bwdV {w:World}{ρ:Nat → Option Nat}{bad bad':Nat → Prop}{ι ι':Pl}(h:RnH w ρ bad ι bad' ι') (hc:Carry w bad' ι' w bad ι'):∀ {v v':List AV},RnL ρ v v' → ∀ {y:List Value},RdV w bad' ι' v' y → RdV w bad ι v y
 | _,_,.pur hp,y,k => RdV.pur _ y hp (RdV.carry hc _ _ k)
 | _,_,.nil,y,k => by simpa only [RdV] using k
 | _, _, .cons h1 h2, y, k => by
  simp only [RdV] at k ⊢
  obtain ⟨x,l',q0,q2,q3⟩ := k
  exact ⟨x,l',q0,RnV.bwd h hc h1 q2,RnL.bwdV h hc h2 q3⟩
theorem RnL.bwdC {w:World}{ρ:Nat → Option Nat}{bad bad':Nat → Prop}{ι ι':Pl}(h:RnH w ρ bad ι bad' ι') (hc:Carry w bad' ι' w bad ι'):∀ {v v':List AV},RnL ρ v v' → ∀ {b o:Nat},RdC w bad' ι' v' b o → RdC w bad ι v b o
 | _,_,.pur hp,b,o,k => RdC.pur _ b o hp (RdC.carryB hc _ _ _ (fun o x hx => hx) k)
 | _,_,.nil,b,o,k => by simp only [RdC]
 | _, _, .cons h1 h2, b, o, k => by
  simp only [RdC] at k ⊢
  obtain ⟨⟨x,q1,q2,q3⟩,q4⟩ := k
  exact ⟨⟨x,q1,q2,RnV.bwd h hc h1 q3⟩,RnL.bwdC h hc h2 q4⟩
end
def MC {σ : Type} (P : Program) (k : FuncId) (args : List AV) (H0 : List (Nat × Option (List AV))) (n : Nat) (p : σ → Prop) (rr : σ → AV) (hh : σ → List (Nat × Option (List AV))) : Prop :=
 ACalls P k args H0 n (fun r H' => ∃ x,p x ∧ r = rr x ∧ ∀ id cs,lkH (hh x) id = some cs → H' id = some cs)
def rho (mp : List Nat) (nid n1 : Nat) (j : Nat) : Option Nat := if j < mp.length then mp[j]? else if j < n1 then some (nid + (j - mp.length)) else none
def distinct : List Nat → Bool
 | [] => true
 | x :: xs => xs.all (fun y => !Nat.beq x y) && distinct xs
theorem distinct_ok:∀ {l:List Nat},distinct l = true → ∀ (i j a:Nat),l[i]? = some a → l[j]? = some a → i = j
 | [],_,i,j,a,h,_ => by simp at h
 | x :: xs, hd, i, j, a, h, h' => by
  simp only [distinct,Bool.and_eq_true,List.all_eq_true] at hd
  have key : ∀ (j : Nat), xs[j]? = some x → False := by
   intro j hj
   have := hd.1 x (List.mem_of_getElem? hj)
   simp at this
  cases i with
  | zero =>
   cases j with
   | zero => rfl
   | succ j => simp at h h'; subst h;exact (key j h').elim
  | succ i =>
   cases j with
   | zero => simp at h h'; subst h'; exact (key i h).elim
   | succ j => simp at h h'; rw [distinct_ok hd.2 i j a h h']
structure WsOk (mp : List Nat) (ρ : Nat → Option Nat) (hh ws : List (Nat × Option (List AV))) : Prop where
 all : ∀ i,i ∈ mp → ∃ c,(i,c) ∈ ws
 ent : ∀ i cs',(i,some cs') ∈ ws → ∃ j cs,ρ j = some i ∧ lkH hh j = some cs ∧ RnL ρ cs cs'
theorem updL_mem {H:Nat → Option (List AV)}:∀ {ws:List (Nat × Option (List AV))}{i:Nat}{cs:List AV},updL H ws i = some cs → (i,some cs) ∈ ws ∨ (H i = some cs ∧ ∀ c,(i,c) ∉ ws)
 | [],i,cs,h => .inr ⟨h,fun c => by simp⟩
 | (j, c) :: ws, i, cs, h => by
  simp only [updL] at h
  rcases updL_mem h with h1 | ⟨h1,h2⟩
  ·exact .inl (List.mem_cons_of_mem _ h1)
  ·by_cases hij : i = j
   ·subst hij
    rw [upd_same] at h1
    subst h1
    exact .inl (by simp)
   ·rw [upd_ne _ _ hij] at h1
    refine .inr ⟨h1,fun c' hc => ?_⟩
    rcases List.mem_cons.1 hc with hc|hc
    ·cases hc;exact hij rfl
    ·exact h2 c' hc
theorem call_mut {σ:Type}{P:Program}{k:FuncId}{args args':List AV}{H0:List (Nat × Option (List AV))}{mp:List Nat}{p:σ → Prop}{rr rr':σ → AV}{hh ws:σ → List (Nat × Option (List AV))}
  (h : MC P k args H0 mp.length p rr hh) {nid n1 : Nat} (hd : distinct mp = true)
  {C : Ctx} {ι : Pl} {F : Nat → Prop} {H : Nat → Option (List AV)} {w : World} (g : HG C ι F H w)
  (hH0 : ∀ (j i : Nat),mp[j]? = some i → ∃ cs cs',lkH H0 j = some cs ∧ H i = some cs' ∧ RnL (mp[·]?) cs cs')
  (hH1 : ∀ j cs,lkH H0 j = some cs → j < mp.length)
  (ha : RnL (mp[·]?) args args') (hF : ∀ j,nid ≤ j → j < nid + (n1 - mp.length) → F j)
  (hr : ∀ x,p x → RnV (rho mp nid n1) (rr x) (rr' x)) (hw : ∀ x,p x → WsOk mp (rho mp nid n1) (hh x) (ws x))
  {vals : List Value} (hv : RdV w (badOf C.X ι H) ι args' vals) :
  Calls P k vals.toArray w (fun e w' => ∃ v x ι', e = .returned v ∧ p x ∧ HG C ι' (fun j => F j ∧ ¬ (nid ≤ j ∧ j < nid + (n1 - mp.length))) (updL H (ws x)) w' ∧
   Carry w (badOf C.X ι H) ι w' (badOf C.X ι' (updL H (ws x))) ι' ∧ Rd w' (badOf C.X ι' (updL H (ws x))) ι' (rr' x) v) := by
 -- the blocks that are handed over
 let W0 : Nat → Prop := fun b => ∃ (j i β : Nat),mp[j]? = some i ∧ ι i = some (some (b,β))
 let Xc : Nat → Prop := fun b => badOf C.X ι H b ∧ ¬ W0 b
 let ιc : Pl := fun j => match mp[j]? with|some i => ι i|none => none
 let C' : Ctx := { N := 0,w0 := w,W0 := W0,X := Xc,ι0 := ιc,xlt := fun b hb => g.bad_lt b hb.1 }
 have hW0 : ∀ b, W0 b → ¬ C.X b ∧ (C.W0 b ∨ C.w0.heap.size ≤ b) ∧ badOf C.X ι H b := by
  rintro b ⟨j,i,β,h1,h2⟩
  obtain ⟨cs,cs',q1,q2,q3⟩ := hH0 j i h1
  rcases g.obj i cs' q2 with ⟨q,_⟩ | ⟨b',β',arr,e,q,q4,q5,q6,q7,q8⟩
  ·rw [q] at h2;cases h2
  ·rw [q] at h2;cases h2;exact ⟨q7,q8,.inr ⟨i,cs',_,q2,q⟩⟩
 have hnone : ∀ j,nid ≤ j → j < nid + (n1 - mp.length) → ι j = none := fun j h1 h2 => g.fresh j (hF j h1 h2)
 have hbadc : ∀ b, badOf Xc ιc (lkH H0) b → badOf C.X ι H b := by
  rintro b (⟨h1,_⟩ | ⟨j,cs,β,h1,h2⟩)
  ·exact h1
  ·have hj := hH1 j cs h1
   have hi : mp[j]? = some mp[j] := by simp [hj]
   simp only [ιc,hi] at h2
   exact (hW0 b ⟨j,_,β,hi,h2⟩).2.2
 have hbadc2 : ∀ b, badOf C.X ι H b → badOf Xc ιc (lkH H0) b := by
  intro b hb
  by_cases hw0 : W0 b
  ·obtain ⟨j, i, β, h1, h2⟩ := hw0
   obtain ⟨cs,cs',q1,q2,q3⟩ := hH0 j i h1
   exact .inr ⟨j,cs,β,q1,by simp only [ιc,h1]; exact h2⟩
  ·exact .inl ⟨hb,hw0⟩
 have hrn : RnH w (mp[·]?) (badOf Xc ιc (lkH H0)) ιc (badOf C.X ι H) ι :=
  ⟨⟨fun b o x h1 h2 => ⟨fun q => h1 (hbadc2 b q),h2⟩,fun _ _ h => h,fun _ => Nat.le_refl _⟩,fun i i' hi => by have hi2 : mp[i]? = some i' := hi;simp only [ιc,hi2]⟩
 have hcb : Carry w (badOf C.X ι H) ι w (badOf Xc ιc (lkH H0)) ι := ⟨fun b o x h1 h2 => ⟨fun q => h1 (hbadc b q),h2⟩,fun _ _ h => h,fun _ => Nat.le_refl _⟩
 have gc : HG C' ιc (fun j => mp.length ≤ j) (lkH H0) w := by
  refine ⟨fun j cs hj => ?_,fun j j' cs cs' b β β' h1 h2 h3 h4 => ?_,Fr.refl _ _,fun _ _ h => h,fun j hj => ?_⟩
  ·have hlt := hH1 j cs hj
   have hi : mp[j]? = some mp[j] := by simp [hlt]
   obtain ⟨cs1,cs',q1,q2,q3⟩ := hH0 j _ hi
   rw [hj] at q1;cases q1
   rcases g.obj _ cs' q2 with ⟨q4,q5⟩ | ⟨b',β',arr,e,q4,q5,q6,q7,q8,q9⟩
   ·refine .inl ⟨by simp only [ιc, hi]; exact q4, ?_⟩
    subst q5
    exact List.eq_nil_of_length_eq_zero (by rw [q3.len]; rfl)
   ·have hw0 : W0 b' := ⟨j, _, β', hi, q4⟩
    exact .inr ⟨b',β',arr,e,by simp only [ιc,hi]; exact q4,q5,by rw [q3.len]; exact q6,RnL.bwdC hrn hcb q3 q7,fun hx => hx.2 hw0,.inl hw0⟩
  ·have hjl := hH1 j cs h1
   have hjl' := hH1 j' cs' h2
   have hi : mp[j]? = some mp[j] := by simp [hjl]
   have hi' : mp[j']? = some mp[j'] := by simp [hjl']
   obtain ⟨_,c1,_,q2,_⟩ := hH0 j _ hi
   obtain ⟨_,c2,_,q2',_⟩ := hH0 j' _ hi'
   simp only [ιc,hi] at h3
   simp only [ιc,hi'] at h4
   have := g.sep _ _ _ _ _ _ _ q2 q2' h3 h4
   exact distinct_ok hd j j' mp[j] hi (by rw [hi',this])
  ·show ιc j = none
   simp only [ιc]
   rw [List.getElem?_eq_none (by exact hj)]
 have hvc : RdV w (badOf C'.X ιc (lkH H0)) ιc args vals := RnL.bwdV hrn hcb ha hv
 refine (h C' ιc w vals rfl rfl gc hvc).mono ?_
 rintro e w' ⟨v,r,H',ιr,rfl,⟨x,hx,rfl,hkeep⟩,hrd,gr⟩
 have hρ1 : ∀ (j i : Nat), rho mp nid n1 j = some i → (j < mp.length ∧ mp[j]? = some i) ∨ (mp.length ≤ j ∧ nid ≤ i ∧ i < nid + (n1 - mp.length) ∧ j = mp.length + (i - nid)) := by
  intro j i hj
  unfold rho at hj
  split at hj
  ·rename_i hlt;exact .inl ⟨hlt,hj⟩
  ·rename_i hge
   split at hj
   ·cases hj;exact .inr ⟨by omega,by omega,by omega,by omega⟩
   ·cases hj
 let ι' : Pl := fun i => if nid ≤ i ∧ i < nid + (n1 - mp.length) then ιr (mp.length + (i - nid)) else ι i
 have hmpf : ∀ (j i : Nat), mp[j]? = some i → ¬ (nid ≤ i ∧ i < nid + (n1 - mp.length)) := by
  rintro j i hj ⟨h1,h2⟩
  obtain ⟨cs,cs',q1,q2,q3⟩ := hH0 j i hj
  rcases g.obj i cs' q2 with ⟨q,_⟩ | ⟨_,_,_,_,q,_⟩ <;> (rw [hnone i h1 h2] at q;cases q)
 have hιr : ∀ (j i : Nat), mp[j]? = some i → ιr j = ι i := by
  intro j i hj
  obtain ⟨cs,cs',q1,q2,q3⟩ := hH0 j i hj
  have : ∃ q, ι i = some q := by
   rcases g.obj i cs' q2 with ⟨q,_⟩ | ⟨_,_,_,_,q,_⟩
   ·exact ⟨_,q⟩
   ·exact ⟨_,q⟩
  obtain ⟨q,hq⟩ := this
  rw [hq]
  exact gr.ex j q (by show ιc j = some q;simp only [ιc,hj]; exact hq)
 have hto : ∀ j i, rho mp nid n1 j = some i → ιr j = ι' i := by
  intro j i hj
  rcases hρ1 j i hj with ⟨h1,h2⟩ | ⟨h1,h2,h3,h4⟩
  ·rw [hιr j i h2]; simp only [ι']; rw [if_neg (hmpf j i h2)]
  ·simp only [ι']; rw [if_pos ⟨h2,h3⟩,h4]
 have hinj : ∀ j j' i, rho mp nid n1 j = some i → rho mp nid n1 j' = some i → j = j' := by
  intro j j' i h1 h2
  rcases hρ1 j i h1 with ⟨a1,a2⟩ | ⟨a1,a2,a3,a4⟩ <;> rcases hρ1 j' i h2 with ⟨b1,b2⟩ | ⟨b1,b2,b3,b4⟩
  ·exact distinct_ok hd j j' i a2 b2
  ·exact (hmpf j i a2 ⟨b2,b3⟩).elim
  ·exact (hmpf j' i b2 ⟨a2,a3⟩).elim
  ·omega
 have hwx := hw x hx
 -- whose object is it
 have hcase : ∀ (i : Nat) cs', updL H (ws x) i = some cs' → (∃ j cs, rho mp nid n1 j = some i ∧ H' j = some cs ∧ RnL (rho mp nid n1) cs cs') ∨ (H i = some cs' ∧ (∀ (j : Nat), mp[j]? ≠ some i)) := by
  intro i cs' hi
  rcases updL_mem hi with h1 | ⟨h1,h2⟩
  ·obtain ⟨j, cs, q1, q2, q3⟩ := hwx.ent i cs' h1
   exact .inl ⟨j,cs,q1,hkeep j cs q2,q3⟩
  ·refine .inr ⟨h1, fun j hj => ?_⟩
   obtain ⟨c,hc⟩ := hwx.all i (List.mem_of_getElem? hj)
   exact h2 c hc
 have hold : ∀ i cs', H i = some cs' → ι' i = ι i := by
  intro i cs' hi
  simp only [ι']
  split
  ·rename_i hr
   rcases g.obj i cs' hi with ⟨q,_⟩ | ⟨_,_,_,_,q,_⟩ <;> (rw [hnone i hr.1 hr.2] at q;cases q)
  ·rfl
 have hnW : ∀ (i : Nat) cs' b β, H i = some cs' → (∀ (j : Nat), mp[j]? ≠ some i) → ι i = some (some (b, β)) → ¬ W0 b := by
  rintro i cs' b β hi hm hb ⟨j,i2,β2,q1,q2⟩
  obtain ⟨cs,c2,_,q3,_⟩ := hH0 j i2 q1
  have := g.sep _ _ _ _ _ _ _ hi q3 hb q2
  subst this
  exact hm j q1
 have hobjlt : ∀ i cs' b β,H i = some cs' → ι i = some (some (b,β)) → b < w.heap.size := fun i cs' b β hi hb => g.bad_lt b (.inr ⟨i,cs',β,hi,hb⟩)
 -- the callee's objects lie in blocks handed over or in new ones
 have hcal : ∀ j cs b β, H' j = some cs → ιr j = some (some (b, β)) → W0 b ∨ w.heap.size ≤ b := by
  intro j cs b β hj hb
  rcases gr.obj j cs hj with ⟨q,_⟩ | ⟨b',β',arr,e,q,q4,q5,q6,q7,q8⟩
  ·rw [q] at hb;cases hb
  ·rw [q] at hb;cases hb;exact q8
 have hbad : ∀ b, badOf C.X ι' (updL H (ws x)) b → badOf C.X ι H b ∨ w.heap.size ≤ b := by
  rintro b (h1 | ⟨i,cs',β,h1,h2⟩)
  ·exact .inl (.inl h1)
  ·rcases hcase i cs' h1 with ⟨j, cs, q1, q2, q3⟩ | ⟨q1, q2⟩
   ·rw [← hto j i q1] at h2
    rcases hcal j cs b β q2 h2 with q|q
    ·exact .inl (hW0 b q).2.2
    ·exact .inr q
   ·rw [hold i cs' q1] at h2;exact .inl (.inr ⟨i,cs',β,q1,h2⟩)
 have hfr := gr.fr
 have hcar : Carry w (badOf C.X ι H) ι w' (badOf C.X ι' (updL H (ws x))) ι' := by
  refine ⟨fun b o y h1 h2 => ?_,fun i q hq => ?_,hfr.bs⟩
  ·have hlt := lt_of_cell h2
   refine ⟨fun hb => ?_,?_⟩
   ·rcases hbad b hb with h | h
    ·exact h1 h
    ·omega
   ·rw [cell?_heap (hfr.block b hlt (fun hw0 => h1 (hW0 b hw0).2.2))]; exact h2
  ·simp only [ι']
   rw [if_neg]
   ·exact hq
   ·rintro ⟨a1, a2⟩
    rw [hnone i a1 a2] at hq;cases hq
 -- from the callee's values to the caller's
 have hrn2 : RnH w' (rho mp nid n1) (badOf C'.X ιr H') ιr (badOf C.X ι' (updL H (ws x))) ι' := by
  refine ⟨⟨fun b o y h1 h2 => ⟨fun hb => h1 ?_,h2⟩,fun _ _ h => h,fun _ => Nat.le_refl _⟩,fun j i hj => hto j i hj⟩
  rcases hb with hb | ⟨i,cs',β,q1,q2⟩
  ·exact .inl ⟨.inl hb,fun hw0 => (hW0 b hw0).1 hb⟩
  ·rcases hcase i cs' q1 with ⟨j, cs, r1, r2, r3⟩ | ⟨r1, r2⟩
   ·rw [← hto j i r1] at q2
    exact .inr ⟨j,cs,β,r2,q2⟩
   ·rw [hold i cs' r1] at q2
    exact .inl ⟨.inr ⟨i,cs',β,r1,q2⟩,hnW i cs' b β r1 r2 q2⟩
 refine ⟨v,x,ι',rfl,hx,⟨fun i cs' hi => ?_,fun i i2 cs1 cs2 b β β' h1 h2 h3 h4 => ?_,⟨hfr.os.trans g.fr.os,hfr.tape.trans g.fr.tape,hfr.output.trans g.fr.output,Nat.le_trans g.fr.size hfr.size,fun b hb hnw => ?_,fun b => Nat.le_trans (g.fr.bs b) (hfr.bs b)⟩,fun i q hq => hcar.pl i q (g.ex i q hq),fun i hi => ?_⟩,hcar,RnV.fwd hrn2 (hr x hx) hrd⟩
 ·rcases hcase i cs' hi with ⟨j, cs, q1, q2, q3⟩ | ⟨q1, q2⟩
  ·rcases gr.obj j cs q2 with ⟨r1, r2⟩ | ⟨b, β, arr, e, r1, r2, r3, r4, r5, r6⟩
   ·refine .inl ⟨by rw [← hto j i q1]; exact r1, ?_⟩
    subst r2
    exact List.eq_nil_of_length_eq_zero (by rw [← q3.len]; rfl)
   ·refine .inr ⟨b, β, arr, e, by rw [← hto j i q1]; exact r1, r2, by rw [← q3.len]; exact r3, RnL.fwdC hrn2 q3 r4, ?_, ?_⟩
    ·rcases r6 with r6 | r6
     ·exact (hW0 b r6).1
     ·intro hX
      have := C.xlt b hX
      have := g.fr.size
      have : w.heap.size ≤ b := r6
      omega
    ·rcases r6 with r6 | r6
     ·exact (hW0 b r6).2.1
     ·refine .inr ?_
      have := g.fr.size
      have : w.heap.size ≤ b := r6
      omega
  ·rcases g.obj i cs' q1 with ⟨r1, r2⟩ | ⟨b, β, arr, e, r1, r2, r3, r4, r5, r6⟩
   ·exact .inl ⟨by rw [hold i cs' q1]; exact r1,r2⟩
   ·have hlt := lt_of_heap r2
    have hbl := hfr.block b hlt (hnW i cs' b β q1 q2 r1)
    exact .inr ⟨b,β,arr,e,by rw [hold i cs' q1]; exact r1,by rw [hbl]; exact r2,r3,RdC.carryB hcar _ _ _ (fun o y hy => by rw [cell?_heap hbl]; exact hy) r4,r5,r6⟩
 ·rcases hcase i cs1 h1 with ⟨j, c1, q1, q2, q3⟩ | ⟨q1, q2⟩ <;> rcases hcase i2 cs2 h2 with ⟨j2, c2, q1', q2', q3'⟩ | ⟨q1', q2'⟩
  ·rw [← hto j i q1] at h3
   rw [← hto j2 i2 q1'] at h4
   have := gr.sep _ _ _ _ _ _ _ q2 q2' h3 h4
   subst this
   rw [q1] at q1'; cases q1'; rfl
  ·rw [← hto j i q1] at h3
   rw [hold i2 cs2 q1'] at h4
   have hlt := hobjlt i2 cs2 b _ q1' h4
   rcases hcal j c1 b _ q2 h3 with q|q
   ·exact (hnW i2 cs2 b _ q1' q2' h4 q).elim
   ·omega
  ·rw [hold i cs1 q1] at h3
   rw [← hto j2 i2 q1'] at h4
   have hlt := hobjlt i cs1 b _ q1 h3
   rcases hcal j2 c2 b _ q2' h4 with q|q
   ·exact (hnW i cs1 b _ q1 q2 h3 q).elim
   ·omega
  ·rw [hold i cs1 q1] at h3
   rw [hold i2 cs2 q1'] at h4
   exact g.sep _ _ _ _ _ _ _ q1 q1' h3 h4
 ·have hb2 : b < w.heap.size := by have := g.fr.size; omega
  rw [hfr.block b hb2 (fun hw0 => ?_)]
  ·exact g.fr.block b hb hnw
  ·rcases (hW0 b hw0).2.1 with q | q
   ·exact hnw q
   ·omega
 ·simp only [ι']
  rw [if_neg hi.2]
  exact g.fresh i hi.1
end Go.AL
