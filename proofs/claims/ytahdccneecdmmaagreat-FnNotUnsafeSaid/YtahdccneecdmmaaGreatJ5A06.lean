/-
 A part of the proofs over this program: rules and contracts of its functions (the rules).
-/
import Derived.Test.YtahdccneecdmmaaGreatJ5A05
import Derived.Laws.BytesString
import Derived.Laws.StructEq
set_option linter.unusedVariables false
set_option linter.unusedSimpArgs false
namespace Go.AL
open Go.RowKit
mutual
theorem RnV.bw {w:World}{ρ:Nat → Option Nat}{bad bad':Nat → Prop}{ι ι':Pl}(h:∀ i i',ρ i = some i' → ι i = ι' i') (hc:∀ b,bad b → bad' b):∀ {v v':AV},RnV ρ v v' → ∀ {y:Value},Rd w bad' ι' v' y → Rd w bad ι v y
 | _,_,.pur hp,y,k => Rd.pur _ y hp (Rd.carry (⟨fun b o x h1 h2 => ⟨fun q => h1 (hc b q),h2⟩,fun _ _ h => h,fun _ => Nat.le_refl _⟩ : Carry w bad' ι' w bad ι') _ _ k)
 | _,_,.own hi,y,k => by simp only [Rd,h _ _ hi] at k ⊢; exact k
 | _,_,.optr hi,y,k => by simp only [Rd,h _ _ hi] at k ⊢; exact k
 | _, _, .imm (cs := cs) (cs' := cs') hl, y, k => by
  have hlen := RnL.len hl
  simp only [Rd] at k ⊢
  obtain ⟨a,c,rfl,k⟩ := k
  refine ⟨a,c,rfl,?_⟩
  rcases k with k | ⟨b,o,hn,rfl,k⟩
  ·exact .inl k
  ·refine .inr ⟨b, o, hn, rfl, ?_⟩
   rcases k with k | ⟨hb,k⟩
   ·subst k;exact .inl (List.eq_nil_of_length_eq_zero (by rw [hlen]; rfl))
   ·exact .inr ⟨fun q => hb (hc b q),RnL.bwC h hc hl k⟩
 | _, _, .agg hl, y, k => by
  simp only [Rd] at k ⊢
  obtain ⟨l,h1,h2⟩ := k
  exact ⟨l,h1,RnL.bwL h hc hl h2⟩
 | _, _, .tup hl, y, k => by
  simp only [Rd] at k ⊢
  obtain ⟨l,h1,h2⟩ := k
  exact ⟨l,h1,RnL.bwV h hc hl h2⟩
 | _, _, .clos h1 h2, y, k => by
  simp only [Rd] at k ⊢
  obtain ⟨lf,lc,q1,q2,q3⟩ := k
  exact ⟨lf,lc,q1,RnL.bwV h hc h1 q2,RnL.bwV h hc h2 q3⟩
theorem RnL.bwL {w:World}{ρ:Nat → Option Nat}{bad bad':Nat → Prop}{ι ι':Pl}(h:∀ i i',ρ i = some i' → ι i = ι' i') (hc:∀ b,bad b → bad' b):∀ {v v':List AV},RnL ρ v v' → ∀ {y:List Value},RdL w bad' ι' v' y → RdL w bad ι v y
 | _,_,.pur hp,y,k => RdL.pur _ y hp (RdL.carry (⟨fun b o x h1 h2 => ⟨fun q => h1 (hc b q),h2⟩,fun _ _ h => h,fun _ => Nat.le_refl _⟩ : Carry w bad' ι' w bad ι') _ _ k)
 | _,_,.nil,y,k => by simpa only [RdL] using k
 | _, _, .cons h1 h2, y, k => by
  simp only [RdL] at k ⊢
  obtain ⟨x,l',q0,q1,q2,q3⟩ := k
  exact ⟨x,l',q0,q1,RnV.bw h hc h1 q2,RnL.bwL h hc h2 q3⟩
theorem RnL.bwV {w:World}{ρ:Nat → Option Nat}{bad bad':Nat → Prop}{ι ι':Pl}(h:∀ i i',ρ i = some i' → ι i = ι' i') (hc:∀ b,bad b → bad' b):∀ {v v':List AV},RnL ρ v v' → ∀ {y:List Value},RdV w bad' ι' v' y → RdV w bad ι v y
 | _,_,.pur hp,y,k => RdV.pur _ y hp (RdV.carry (⟨fun b o x h1 h2 => ⟨fun q => h1 (hc b q),h2⟩,fun _ _ h => h,fun _ => Nat.le_refl _⟩ : Carry w bad' ι' w bad ι') _ _ k)
 | _,_,.nil,y,k => by simpa only [RdV] using k
 | _, _, .cons h1 h2, y, k => by
  simp only [RdV] at k ⊢
  obtain ⟨x,l',q0,q2,q3⟩ := k
  exact ⟨x,l',q0,RnV.bw h hc h1 q2,RnL.bwV h hc h2 q3⟩
theorem RnL.bwC {w:World}{ρ:Nat → Option Nat}{bad bad':Nat → Prop}{ι ι':Pl}(h:∀ i i',ρ i = some i' → ι i = ι' i') (hc:∀ b,bad b → bad' b):∀ {v v':List AV},RnL ρ v v' → ∀ {b o:Nat},RdC w bad' ι' v' b o → RdC w bad ι v b o
 | _,_,.pur hp,b,o,k => RdC.pur _ b o hp (RdC.carryB (⟨fun b o x h1 h2 => ⟨fun q => h1 (hc b q),h2⟩,fun _ _ h => h,fun _ => Nat.le_refl _⟩ : Carry w bad' ι' w bad ι') _ _ _ (fun o x hx => hx) k)
 | _,_,.nil,b,o,k => by simp only [RdC]
 | _, _, .cons h1 h2, b, o, k => by
  simp only [RdC] at k ⊢
  obtain ⟨⟨x,q1,q2,q3⟩,q4⟩ := k
  exact ⟨⟨x,q1,q2,RnV.bw h hc h1 q3⟩,RnL.bwC h hc h2 q4⟩
end
theorem RnL.app {ρ:Nat → Option Nat}:∀ {a a' b b':List AV},RnL ρ a a' → RnL ρ b b' → RnL ρ (a ++ b) (a' ++ b')
 | [], a', b, b', ha, hb => by
  have := ha.len
  cases a' with
  | nil => exact hb
  | cons _ _ => simp at this
 | c :: cs, _, b, b', .pur hp, hb => by
  simp only [bK,Bool.and_eq_true] at hp
  exact .cons (.pur hp.1) (RnL.app (.pur hp.2) hb)
 | c :: cs,_,b,b',.cons h1 h2,hb => .cons h1 (RnL.app h2 hb)
theorem RnL.flt {ρ:Nat → Option Nat}{α:Type}{f f':α → List AV}:∀ {xs:List α},(∀ x ∈ xs,RnL ρ (f x) (f' x)) → RnL ρ (flat f xs) (flat f' xs)
 | [],_ => .nil
 | x :: xs, h => by
  have h1 := h x (List.mem_cons_self)
  have h2 := RnL.flt (f := f) (f' := f') (xs := xs) (fun y hy => h y (List.mem_cons_of_mem _ hy))
  simp only [flat,List.flatMap_cons] at h2 ⊢
  exact h1.app h2
theorem Le.renG (ρ:Nat → Option Nat){ts ts':List (Nat × AV)}{hs hs':List (Nat × Option (List AV))}{n n':Nat}{lo lo':Lo}(hlo:lo'.lo = lo.lo) (hfb:lo.fb ≤ lo'.fb)
  (hid : ∀ id,id < lo.lo ∨ (aT ≤ id ∧ id < lo.fb) → ρ id = some id) (hinj : ∀ a b c,ρ a = some c → ρ b = some c → a = b) (hfr : ∀ id,Fn n' lo' id → ρ id = none)
  (h1 : ∀ t v,lk ts' t = some v → ∃ v0,lk ts t = some v0 ∧ RnV ρ v v0) (h2 : ∀ id cs,aQ hs' id = some cs → ∃ j cs0,ρ id = some j ∧ aQ hs j = some cs0 ∧ RnL ρ cs cs0) :
  Le ⟨ts,hs,n,lo⟩ ⟨ts',hs',n',lo'⟩ := by
 rintro C a w ⟨h0,ι,g,gh⟩
 let ι' : Pl := fun id => match ρ id with|some j => ι j|none => none
 have hto : ∀ id j,ρ id = some j → ι' id = ι j := fun id j h => by simp only [ι',h]
 have hbad : ∀ b, aJ C.X ι' (aQ hs') b → aJ C.X ι (aQ hs) b := by
  rintro b (h | ⟨id,cs,β,q1,q2⟩)
  ·exact .inl h
  ·obtain ⟨j, cs0, q3, q4, _⟩ := h2 id cs q1
   rw [hto _ _ q3] at q2
   exact .inr ⟨j,cs0,β,q4,q2⟩
 refine ⟨fun id h => ?_,ι',⟨g.df,g.sz,fun t v ht => ?_⟩,⟨fun id cs h => ?_,fun id id' cs cs' b β β' q1 q2 q3 q4 => ?_,gh.fr,fun id p hp => ?_,fun id hid' => ?_⟩⟩
 ·have h' : lo.lo ≤ id := by rw [← hlo]; exact h
  rcases h0 id h' with q|q
  ·exact .inl ⟨q.1,Nat.lt_of_lt_of_le q.2 hfb⟩
  ·exact .inr q
 ·obtain ⟨v0, q1, q2⟩ := h1 t v ht
  obtain ⟨y,q3,q4⟩ := g.tm t v0 q1
  exact ⟨y,q3,RnV.bw hto hbad q2 q4⟩
 ·obtain ⟨j, cs0, q3, q4, q5⟩ := h2 id cs h
  rcases gh.obj j cs0 q4 with ⟨p1,p2⟩ | ⟨b,β,arr,e,p1,p2,p3,p4,p5,p6⟩
  ·refine .inl ⟨by rw [hto _ _ q3]; exact p1, ?_⟩
   subst p2;exact List.eq_nil_of_length_eq_zero (by rw [q5.len]; rfl)
  ·exact .inr ⟨b,β,arr,e,by rw [hto _ _ q3]; exact p1,p2,by rw [q5.len]; exact p3,RnL.bwC hto hbad q5 p4,p5,p6⟩
 ·obtain ⟨j, c1, r1, r2, _⟩ := h2 id cs q1
  obtain ⟨j',c2,r3,r4,_⟩ := h2 id' cs' q2
  rw [hto _ _ r1] at q3
  rw [hto _ _ r3] at q4
  have := gh.sep _ _ _ _ _ _ _ r2 r4 q3 q4
  subst this
  exact hinj _ _ _ r1 r3
 ·have : ρ id = some id := by
   refine hid id ?_
   rcases Nat.lt_or_ge id lo.lo with q|q
   ·exact .inl q
   ·rcases h0 id q with q1 | q1
    ·exact .inr q1
    ·rw [q1] at hp;cases hp
  rw [hto _ _ this]; exact gh.ex id p hp
 ·have := hfr id hid'
  simp only [ι',this]
def jQ (m : List (Nat × Nat)) (lo : Lo) (pn : Option Nat) (id : Nat) : Option Nat :=
 if id < lo.lo then some id else if aT ≤ id then (if id < lo.fb then some id else if id = lo.fb then pn else none) else z8 m id
theorem hU {m:List (Nat × Nat)}{lo:Lo}{pn:Option Nat}{id:Nat}(h1:aT ≤ id) (h2:id < lo.fb):jQ m lo pn id = some id:=by
 unfold jQ;split
 ·rfl
 ·simp [h1,h2]
def O8 (ρ : Nat → Option Nat) (l : List (Nat × AV)) : List (Nat × AV) → Prop
 | [] => True
 | (t,v) :: l' => (∃ v0,lk l t = some v0 ∧ RnV ρ v v0) ∧ O8 ρ l l'
def Ce (ρ : Nat → Option Nat) (l : List (Nat × Option (List AV))) : List (Nat × Option (List AV)) → Prop
 | [] => True
 | (t,none) :: l' => Ce ρ l l'
 | (t,some cs) :: l' => (∃ j cs0,ρ t = some j ∧ aQ l j = some cs0 ∧ RnL ρ cs cs0) ∧ Ce ρ l l'
theorem Dc {ρ:Nat → Option Nat}{l:List (Nat × AV)}:∀ {l':List (Nat × AV)},O8 ρ l l' → ∀ t v,lk l' t = some v → ∃ v0,lk l t = some v0 ∧ RnV ρ v v0
 | [],_,t,v,h => by simp [lk] at h
 | (u, x) :: l', hr, t, v, h => by
  simp only [O8] at hr
  simp only [k7] at h
  split at h
  ·rename_i e;subst e;cases h;exact hr.1
  ·exact Dc hr.2 t v h
theorem sI {a b:List (Nat × Option (List AV))}{u:Nat}{c:List AV}:aQ (a ++ b) u = some c → aQ a u = some c ∨ aQ b u = some c:=by
 induction a with
 | nil => exact fun h => .inr h
 | cons x a ih =>
  obtain ⟨t,v⟩ := x
  rw [List.cons_append,cM,cM]
  split
  ·exact fun h => .inl h
  ·exact ih
theorem Hu {a b:List (Nat × Option (List AV))}{u:Nat}{c:List AV}(h:aQ a u = some c):aQ (a ++ b) u = some c:=by
 induction a with
 | nil => simp [aQ] at h
 | cons x a ih =>
  obtain ⟨t,v⟩ := x
  rw [List.cons_append]
  rw [cM] at h ⊢
  split
  ·rename_i e;rw [if_pos e] at h;exact h
  ·rename_i e;rw [if_neg e] at h;exact ih h
theorem Gu {a b:List (Nat × Option (List AV))}{u:Nat}(h:gU u a = true):aQ (a ++ b) u = aQ b u:=by
 induction a with
 | nil => rfl
 | cons x a ih =>
  obtain ⟨t,v⟩ := x
  simp only [gU,Bool.and_eq_true] at h
  rw [List.cons_append,cM,if_neg (by have := dQ h.1;omega)]
  exact ih h.2
theorem rM {n m:Nat}(h:n ≤ m):∀ {a:List (Nat × Option (List AV))},gU n a = true → gU m a = true
 | [],_ => rfl
 | (t, v) :: a, k => by
  simp only [gU,Bool.and_eq_true] at k ⊢
  exact ⟨by have := dQ k.1;simp [Nat.blt]; omega,rM h k.2⟩
theorem sW {ρ:Nat → Option Nat}{l:List (Nat × Option (List AV))}:∀ {l':List (Nat × Option (List AV))},Ce ρ l l' → ∀ t cs,aQ l' t = some cs →
  ∃ j cs0,ρ t = some j ∧ aQ l j = some cs0 ∧ RnL ρ cs cs0
 | [],_,t,v,h => by simp [aQ] at h
 | (u, none) :: l', hr, t, v, h => by
  simp only [Ce] at hr
  simp only [cM] at h
  split at h
  ·cases h
  ·exact sW hr t v h
 | (u, some x) :: l', hr, t, v, h => by
  simp only [Ce] at hr
  simp only [cM] at h
  split at h
  ·rename_i e;subst e;cases h;exact hr.1
  ·exact sW hr.2 t v h
theorem zQ {m:List (Nat × Nat)}{lo:Lo}{pn:Option Nat}{n':Nat}(hm:HW lo.lo n' m = true){a c:Nat}(h:jQ m lo pn a = some c) :
  (a < lo.lo ∧ c = a) ∨ (lo.lo ≤ a ∧ aT ≤ a ∧ a < lo.fb ∧ c = a) ∨ (lo.lo ≤ a ∧ aT ≤ a ∧ a = lo.fb ∧ pn = some c) ∨ (lo.lo ≤ a ∧ a < aT ∧ a < n' ∧ lo.lo ≤ c ∧ c < aT ∧ z8 m a = some c) := by
 unfold jQ at h
 split at h
 ·cases h;exact .inl ⟨by assumption,rfl⟩
 ·split at h
  ·split at h
   ·cases h;exact .inr (.inl ⟨by omega,by assumption,by assumption,rfl⟩)
   ·split at h
    ·exact .inr (.inr (.inl ⟨by omega,by assumption,by assumption,h⟩))
    ·cases h
  ·have := jU hm _ _ h
   exact .inr (.inr (.inr ⟨by omega,by omega,by omega,by omega,by omega,h⟩))
theorem Le.renF (m:List (Nat × Nat)) (pn:Option Nat){ts ts':List (Nat × AV)}{hs hs':List (Nat × Option (List AV))}{n n':Nat}{lo lo':Lo}(hm:HW lo.lo n' m = true) (hn:lo.lo ≤ n') (hlo:lo'.lo = lo.lo)
  (hfb : lo'.fb = lo.fb + (if pn.isSome then 1 else 0)) (hp : ∀ b,pn = some b → lo.lo ≤ b ∧ b < aT ∧ ∀ a,z8 m a ≠ some b)
  (h1 : ∀ t v,lk ts' t = some v → ∃ v0,lk ts t = some v0 ∧ RnV (jQ m lo pn) v v0) (h2 : ∀ id cs,aQ hs' id = some cs → ∃ j cs0,jQ m lo pn id = some j ∧ aQ hs j = some cs0 ∧ RnL (jQ m lo pn) cs cs0) :
  Le ⟨ts,hs,n,lo⟩ ⟨ts',hs',n',lo'⟩ := by
 refine Le.renG (jQ m lo pn) hlo (by rw [hfb]; omega) (fun id h => ?_) (fun a b c ha hb => ?_) (fun id h => ?_) h1 h2
 ·rcases h with h | h
  ·unfold jQ;rw [if_pos h]
  ·exact hU h.1 h.2
 ·rcases zQ hm ha with a1 | a1 | a1 | a1 <;> rcases zQ hm hb with b1 | b1 | b1 | b1
  all_goals try omega
  ·have := hp c b1.2.2.2;omega
  ·have := hp c b1.2.2.2;omega
  ·have := hp c a1.2.2.2;omega
  ·have := hp c a1.2.2.2;omega
  ·exact absurd b1.2.2.2.2.2 ((hp c a1.2.2.2).2.2 b)
  ·exact absurd a1.2.2.2.2.2 ((hp c b1.2.2.2).2.2 a)
  ·exact yX hm _ _ _ a1.2.2.2.2.2 b1.2.2.2.2.2
 ·cases hc : jQ m lo pn id with
  | none => rfl
  | some c =>
   have h3 : n' ≤ id := h.1
   have h4 : id < aT ∨ lo'.fb ≤ id := h.2
   rcases zQ hm hc with a1|a1|a1|a1
   ·omega
   ·omega
   ·rw [a1.2.2.2] at hfb;simp at hfb;omega
   ·omega
theorem Le.renF0 (m:List (Nat × Nat)){R:List (List Bool)}{ts ts':List (Nat × AV)}{hs lits:List (Nat × Option (List AV))}{n n':Nat}{lo:Lo}{l0:Nat}(hF:FamR R R hs hs) (hz:lo = ⟨l0,aT + R.length⟩) (hm:HW l0 n' m = true) (hn:l0 ≤ n')
  (h1 : O8 (jQ m lo none) ts ts') (h2 : Ce (jQ m lo none) hs lits) : Le ⟨ts,hs,n,lo⟩ ⟨ts',lits ++ gV R,n',⟨l0,aT + R.length⟩⟩ := by
 subst hz
 refine Le.renF m none hm hn rfl rfl (fun b h => by cases h) (Dc h1) (fun id cs h => ?_)
 rcases sI h with h|h
 ·exact sW h2 id cs h
 ·obtain ⟨k, hk, rfl, rfl⟩ := lK h
  exact ⟨_,_,hU (by omega) (by show k + aT < aT + R.length;omega),hF.get hk,.pur (inferInstance : Pur (flat cB R[k]!)).pf⟩
theorem Le.renF1 (m:List (Nat × Nat)) (b:Nat){r:List Bool}{R R':List (List Bool)}{ts ts':List (Nat × AV)}{hs lits:List (Nat × Option (List AV))}{n n':Nat}{lo:Lo}{l0:Nat}(hF:FamR R R hs hs) (hz:lo = ⟨l0,aT + R.length⟩) (hm:HW l0 n' m = true) (hn:l0 ≤ n')
  (hlb : l0 ≤ aT) (hb : l0 ≤ b ∧ b < aT ∧ (m.all fun p => !Nat.beq p.2 b) = true) (hr : aQ hs b = some (flat cB r)) (hR : R' = R ++ [r])
  (h1 : O8 (jQ m lo (some b)) ts ts') (h2 : Ce (jQ m lo (some b)) hs lits) : Le ⟨ts,hs,n,lo⟩ ⟨ts',lits ++ gV R',n',⟨l0,aT + R'.length⟩⟩ := by
 subst hz hR
 refine Le.renF m (some b) hm hn rfl (by show aT + (R ++ [r]).length = aT + R.length + 1;simp [Nat.add_assoc]) (fun b' h => ?_) (Dc h1) (fun id cs h => ?_)
 ·cases h
  refine ⟨hb.1,hb.2.1,fun a ha => ?_⟩
  have := x9 ha
  have h3 := hb.2.2
  rw [List.all_eq_true] at h3
  have := h3 _ this
  simp at this
 ·rcases sI h with h | h
  ·exact sW h2 id cs h
  ·obtain ⟨k, hk, rfl, rfl⟩ := lK h
   rw [List.length_append,List.length_singleton] at hk
   rcases Nat.lt_or_ge k R.length with hk2|hk2
   ·have e : (R ++ [r])[k]! = R[k]! := by rw [a7 _ _ (by simp; omega), a7 _ _ hk2, List.getElem_append_left hk2]
    exact ⟨_,_,hU (by omega) (by show k + aT < aT + R.length;omega),hF.get hk2,by rw [e]; exact .pur (inferInstance : Pur (flat cB R[k]!)).pf⟩
   ·have e : k = R.length := by omega
    subst e
    have e2 : (R ++ [r])[R.length]! = r := by rw [a7 _ _ (by simp)]; simp
    refine ⟨b,flat cB r,?_,hr,?_⟩
    ·unfold jQ
     rw [if_neg (by show ¬ R.length + aT < l0;omega),if_pos (by omega),if_neg (by show ¬ R.length + aT < aT + R.length;omega),if_pos (by show R.length + aT = aT + R.length;omega)]
    ·rw [e2]; exact .pur (inferInstance : Pur (flat cB r)).pf
section
variable {P : Program} {N : Nat} {Q : Exit → AS → Prop}
theorem Le.litF {ts ts':List (Nat × AV)}{hs lits:List (Nat × Option (List AV))}{n n':Nat}{z0 z1:Lo}{R:List (List Bool)}(h1:oC ts ts') (h2:nC hs lits) (h3:n ≤ n') (hF:FamR R R hs hs) (hz:z0 = z1) :
  Le ⟨ts,hs,n,z0⟩ ⟨ts',lits ++ gV R,n',z1⟩ := by
 refine Le.of (mN h1) (fun i c h => ?_) h3 hz
 rcases sI h with h|h
 ·exact jS h2 i c h
 ·obtain ⟨k, hk, rfl, rfl⟩ := lK h
  exact hF.get hk
theorem Ag {σ:Type}{c:Code}{ts:List (Nat × AV)}{hs:List (Nat × Option (List AV))}{n:Nat}{z0:Lo}(l0:Nat) (Rf:σ → List (List Bool)) (ks:List Nat) (kt:List (Nat × AV)) (js:List Nat) (kh:List (Nat × Option (List AV)))
  (ot : σ → List (Nat × AV)) (oh : σ → List (Nat × Option (List AV))) (p : σ → Prop) (μ : σ → Nat) (i0 : σ) (h0 : p i0) (hk : oN ks ts = kt) (hj : qQ js hs = kh)
  (h1 : oC ts (ot i0)) (h2 : nC hs (oh i0)) (hF : FamR (Rf i0) (Rf i0) hs hs) (hz : z0 = ⟨l0,aT + (Rf i0).length⟩)
  (round : ∀ i,p i → AW P N c (pH (fun s' => ∃ j,p j ∧ μ j < μ i ∧ Le s' ⟨ot j ++ kt,(oh j ++ kh) ++ gV (Rf j),n,⟨l0,aT + (Rf j).length⟩⟩) Q) ⟨ot i ++ kt,(oh i ++ kh) ++ gV (Rf i),n,⟨l0,aT + (Rf i).length⟩⟩) :
  AW P N (.loop c) Q ⟨ts,hs,n,z0⟩ := by
 subst hk hj
 exact DZ p (fun i => ⟨ot i ++ oN ks ts,(oh i ++ qQ js hs) ++ gV (Rf i),n,⟨l0,aT + (Rf i).length⟩⟩) μ ⟨i0,h0,Le.litF (lP h1 (lV ks)) (lQ h2 (o9 js)) (Nat.le_refl _) hF hz⟩ round
end
def yD (P : Program) (k : FuncId) (args : List AV) (H0 : Nat → Option (List AV)) (F0 : Nat → Prop) (Q : AV → (Nat → Option (List AV)) → Prop) : Prop :=
 ∀ (C : Ctx) (ι : Pl) (w : World) (vals : List Value), C.w0 = w → C.ι0 = ι → HG C ι F0 H0 w → RdV w (aJ C.X ι H0) ι args vals →
  Calls P k vals.toArray w (fun e w' => ∃ v r H' ι',e = .returned v ∧ Q r H' ∧ Rd w' (aJ C.X ι' H') ι' r v ∧ HG C ι' (fun _ => False) H' w')
theorem oX {P:Program}{k:FuncId}{fn:Func}{c:Code}{args:List AV}{H0:List (Nat × Option (List AV))}{n fb:Nat}{Q:AV → (Nat → Option (List AV)) → Prop}(hf:P.funcs[k]? = some fn) (hb:fn.body = some c)
  (hN : args.length ≤ fn.ntmps) (h : AW P fn.ntmps c (oQ P fn.results Q) ⟨iI 0 args,H0,n,⟨n,fb⟩⟩) : yD P k args (aQ H0) (Fn n ⟨n,fb⟩) Q := by
 intro C ι w vals hw hι g hr
 refine calls_of_wp hf hb ?_
 let C' : Ctx := { C with N := fn.ntmps }
 have hlen := RdV.length hr
 have g' : HG C' ι (Fn n ⟨n,fb⟩) (aQ H0) w := ⟨g.obj,g.sep,g.fr,g.ex,g.fresh⟩
 have gt : TG C' ι (lk (iI 0 args)) (aQ H0) { tmps := vals.toArray ++ Array.replicate (fn.ntmps - vals.toArray.size) undef, defers := [] } w := by
  refine ⟨rfl,by simp [C',hlen]; omega,fun t av ht => ?_⟩
  obtain ⟨y,_,h1,h2⟩ := tX hr ht
  refine ⟨y,?_,h2⟩
  have hlt : t < vals.length := by
   rcases Nat.lt_or_ge t vals.length with q|q
   ·exact q
   ·rw [List.getElem?_eq_none (by simpa using q)] at h1;cases h1
  rw [Array.getElem?_append_left (by simpa using hlt)]
  simpa using h1
 refine wp_mono (h C' _ w rfl ⟨fun id hid => ?_,ι,gt,g'⟩) ?_
 ·by_cases q : aT ≤ id ∧ id < fb
  ·exact .inl q
  ·refine .inr ?_
   show C.ι0 id = none
   rw [hι]
   exact g.fresh id ⟨hid,by show id < aT ∨ fb ≤ id;omega⟩
 rintro e a' w' ⟨s1,⟨he,s',l,hle,hres,hQ⟩,hg⟩
 obtain ⟨_,ι',g1,g2⟩ := hle C' a' w' hg
 obtain ⟨ys,h1,h2⟩ := zF (P := P) g1 g2 hres
 have hres' : (results fn a'.tmps).run P w' = .ok (if h : ys.toArray.size = 1 then ys.toArray[0] else .tuple ys.toArray) w' := by
  have hr1 : results fn a'.tmps = (do let vs ← fn.results.mapM (BY a'); pure (if h : vs.size = 1 then vs[0] else .tuple vs)) := by
   unfold results
   congr 1
  rw [hr1,Array.mapM_eq_mapM_toList,Sem.run_bind,Sem.run_map,h1]
  simp only [Result.andThen_ok,Sem.run_pure]
 have g3 : HG C ι' (fun _ => False) (aQ s'.hs) w' := ⟨g2.obj,g2.sep,g2.fr,g2.ex,fun _ h => h.elim⟩
 rcases he with rfl|rfl
 ·exact ⟨g1.df,_,hres',_,_,_,ι',rfl,hQ,o8 h2,g3⟩
 ·exact ⟨g1.df,_,hres',_,_,_,ι',rfl,hQ,o8 h2,g3⟩
def qE (mpF fr : Nat → Option Nat) (j : Nat) : Option Nat := match mpF j with | some i => some i | none => fr j
theorem By {P:Program}{k:FuncId}{args args':List AV}{H0 hh:Nat → Option (List AV)}{F0:Nat → Prop}{mpF fr fi:Nat → Option Nat}{r rr':AV}{H2:Nat → Option (List AV)}
  (h : yD P k args H0 F0 (fun r' H' => r' = r ∧ ∀ j cs,hh j = some cs → H' j = some cs)) (hmi : ∀ j j' i,mpF j = some i → mpF j' = some i → j = j') (hfi : ∀ i j,fi i = some j ↔ fr j = some i) (hmf : ∀ j i,fr j = some i → mpF j = none) (hF0 : ∀ j,F0 j → mpF j = none)
  {C : Ctx} {ι : Pl} {F : Nat → Prop} {H : Nat → Option (List AV)} {w : World} (g : HG C ι F H w)
  (hH0 : ∀ j i,mpF j = some i → ∃ cs cs',H0 j = some cs ∧ H i = some cs' ∧ RnL mpF cs cs') (hH1 : ∀ j cs,H0 j = some cs → ∃ i,mpF j = some i)
  (ha : RnL mpF args args') (hF : ∀ j i,fr j = some i → F i) (hr : RnV (qE mpF fr) r rr')
  (hw : ∀ i cs',H2 i = some cs' → (∃ j cs,qE mpF fr j = some i ∧ hh j = some cs ∧ RnL (qE mpF fr) cs cs') ∨ (H i = some cs' ∧ ∀ j,mpF j ≠ some i))
  {vals : List Value} (hv : RdV w (aJ C.X ι H) ι args' vals) :
  Calls P k vals.toArray w (fun e w' => ∃ v ι',e = .returned v ∧ HG C ι' (fun j => F j ∧ fi j = none) H2 w' ∧ Carry w (aJ C.X ι H) ι w' (aJ C.X ι' H2) ι' ∧ Rd w' (aJ C.X ι' H2) ι' rr' v) := by
 let W0 : Nat → Prop := fun b => ∃ (j i β : Nat),mpF j = some i ∧ ι i = some (some (b,β))
 let Xc : Nat → Prop := fun b => aJ C.X ι H b ∧ ¬ W0 b
 let ιc : Pl := fun j => match mpF j with|some i => ι i|none => none
 let C' : Ctx := { N := 0,w0 := w,W0 := W0,X := Xc,ι0 := ιc,xlt := fun b hb => g.bad_lt b hb.1 }
 have hW0 : ∀ b, W0 b → ¬ C.X b ∧ (C.W0 b ∨ C.w0.heap.size ≤ b) ∧ aJ C.X ι H b := by
  rintro b ⟨j,i,β,h1,h2⟩
  obtain ⟨cs,cs',q1,q2,q3⟩ := hH0 j i h1
  rcases g.obj i cs' q2 with ⟨q,_⟩ | ⟨b',β',arr,e,q,q4,q5,q6,q7,q8⟩
  ·rw [q] at h2;cases h2
  ·rw [q] at h2;cases h2;exact ⟨q7,q8,.inr ⟨i,cs',_,q2,q⟩⟩
 have hnone : ∀ i j,fi i = some j → ι i = none := fun i j h1 => g.fresh i (hF j i ((hfi i j).1 h1))
 have hιc : ∀ j i,mpF j = some i → ιc j = ι i := fun j i h => by simp only [ιc,h]
 have hbadc : ∀ b, aJ Xc ιc H0 b → aJ C.X ι H b := by
  rintro b (⟨h1,_⟩ | ⟨j,cs,β,h1,h2⟩)
  ·exact h1
  ·obtain ⟨i, hi⟩ := hH1 j cs h1
   rw [hιc j i hi] at h2
   exact (hW0 b ⟨j,_,β,hi,h2⟩).2.2
 have hbadc2 : ∀ b, aJ C.X ι H b → aJ Xc ιc H0 b := by
  intro b hb
  by_cases hw0 : W0 b
  ·obtain ⟨j, i, β, h1, h2⟩ := hw0
   obtain ⟨cs,cs',q1,q2,q3⟩ := hH0 j i h1
   exact .inr ⟨j,cs,β,q1,by rw [hιc j i h1]; exact h2⟩
  ·exact .inl ⟨hb,hw0⟩
 have gc : HG C' ιc F0 H0 w := by
  refine ⟨fun j cs hj => ?_,fun j j' cs cs' b β β' h1 h2 h3 h4 => ?_,Fr.refl _ _,fun _ _ h => h,fun j hj => ?_⟩
  ·obtain ⟨i, hi⟩ := hH1 j cs hj
   obtain ⟨cs1,cs',q1,q2,q3⟩ := hH0 j _ hi
   rw [hj] at q1;cases q1
   rcases g.obj _ cs' q2 with ⟨q4,q5⟩ | ⟨b',β',arr,e,q4,q5,q6,q7,q8,q9⟩
   ·refine .inl ⟨by rw [hιc j i hi]; exact q4, ?_⟩
    subst q5
    exact List.eq_nil_of_length_eq_zero (by rw [q3.len]; rfl)
   ·have hw0 : W0 b' := ⟨j, _, β', hi, q4⟩
    exact .inr ⟨b',β',arr,e,by rw [hιc j i hi]; exact q4,q5,by rw [q3.len]; exact q6,RnL.bwC hιc hbadc q3 q7,fun hx => hx.2 hw0,.inl hw0⟩
  ·obtain ⟨i, hi⟩ := hH1 j cs h1
   obtain ⟨i',hi'⟩ := hH1 j' cs' h2
   obtain ⟨_,c1,_,q2,_⟩ := hH0 j _ hi
   obtain ⟨_,c2,_,q2',_⟩ := hH0 j' _ hi'
   rw [hιc j i hi] at h3
   rw [hιc j' i' hi'] at h4
   have := g.sep _ _ _ _ _ _ _ q2 q2' h3 h4
   exact hmi j j' i hi (by rw [hi',this])
  ·show ιc j = none
   simp only [ιc,hF0 j hj]
 have hvc : RdV w (aJ C'.X ιc H0) ιc args vals := RnL.bwV hιc hbadc ha hv
 refine (h C' ιc w vals rfl rfl gc hvc).mono ?_
 rintro e w' ⟨v,r0,H',ιr,rfl,⟨rfl,hkeep⟩,hrd,gr⟩
 let ι' : Pl := fun i => match fi i with|some j => ιr j|none => ι i
 have hmpf : ∀ (j i : Nat), mpF j = some i → fi i = none := by
  intro j i hj
  cases hq : fi i with
  | none => rfl
  | some j2 =>
   obtain ⟨cs,cs',q1,q2,q3⟩ := hH0 j i hj
   rcases g.obj i cs' q2 with ⟨q,_⟩ | ⟨_,_,_,_,q,_⟩ <;> (rw [hnone i _ hq] at q;cases q)
 have hιr : ∀ (j i : Nat), mpF j = some i → ιr j = ι i := by
  intro j i hj
  obtain ⟨cs,cs',q1,q2,q3⟩ := hH0 j i hj
  have : ∃ q, ι i = some q := by
   rcases g.obj i cs' q2 with ⟨q,_⟩ | ⟨_,_,_,_,q,_⟩
   ·exact ⟨_,q⟩
   ·exact ⟨_,q⟩
  obtain ⟨q,hq⟩ := this
  rw [hq]
  exact gr.ex j q (by show ιc j = some q;rw [hιc j i hj]; exact hq)
 have hρ1 : ∀ j i, qE mpF fr j = some i → (mpF j = some i) ∨ (mpF j = none ∧ fr j = some i) := by
  intro j i hj
  unfold qE at hj
  split at hj
  ·cases hj;exact .inl (by assumption)
  ·exact .inr ⟨by assumption,hj⟩
 have hto : ∀ j i, qE mpF fr j = some i → ιr j = ι' i := by
  intro j i hj
  rcases hρ1 j i hj with h2 | ⟨h1,h2⟩
  ·rw [hιr j i h2]; simp only [ι',hmpf j i h2]
  ·simp only [ι',(hfi i j).2 h2]
 have hcase := hw
 have hold : ∀ i cs', H i = some cs' → ι' i = ι i := by
  intro i cs' hi
  simp only [ι']
  cases hq : fi i with
  | none => rfl
  | some j2 => rcases g.obj i cs' hi with ⟨q,_⟩ | ⟨_,_,_,_,q,_⟩ <;> (rw [hnone i _ hq] at q;cases q)
 have hnW : ∀ (i : Nat) cs' b β, H i = some cs' → (∀ j, mpF j ≠ some i) → ι i = some (some (b, β)) → ¬ W0 b := by
  rintro i cs' b β hi hm hb ⟨j,i2,β2,q1,q2⟩
  obtain ⟨cs,c2,_,q3,_⟩ := hH0 j i2 q1
  have := g.sep _ _ _ _ _ _ _ hi q3 hb q2
  subst this
  exact hm j q1
 have hobjlt : ∀ i cs' b β,H i = some cs' → ι i = some (some (b,β)) → b < w.heap.size := fun i cs' b β hi hb => g.bad_lt b (.inr ⟨i,cs',β,hi,hb⟩)
 have hcal : ∀ j cs b β, H' j = some cs → ιr j = some (some (b, β)) → W0 b ∨ w.heap.size ≤ b := by
  intro j cs b β hj hb
  rcases gr.obj j cs hj with ⟨q,_⟩ | ⟨b',β',arr,e,q,q4,q5,q6,q7,q8⟩
  ·rw [q] at hb;cases hb
  ·rw [q] at hb;cases hb;exact q8
 have hbad : ∀ b, aJ C.X ι' H2 b → aJ C.X ι H b ∨ w.heap.size ≤ b := by
  rintro b (h1 | ⟨i,cs',β,h1,h2⟩)
  ·exact .inl (.inl h1)
  ·rcases hcase i cs' h1 with ⟨j, cs, q1, q2, q3⟩ | ⟨q1, q2⟩
   ·rw [← hto j i q1] at h2
    rcases hcal j cs b β (hkeep j cs q2) h2 with q|q
    ·exact .inl (hW0 b q).2.2
    ·exact .inr q
   ·rw [hold i cs' q1] at h2;exact .inl (.inr ⟨i,cs',β,q1,h2⟩)
 have hfr := gr.fr
 have hcar : Carry w (aJ C.X ι H) ι w' (aJ C.X ι' H2) ι' := by
  refine ⟨fun b o y h1 h2 => ?_,fun i q hq => ?_,hfr.bs⟩
  ·have hlt := k6 h2
   refine ⟨fun hb => ?_,?_⟩
   ·rcases hbad b hb with h | h
    ·exact h1 h
    ·omega
   ·rw [dI (hfr.block b hlt (fun hw0 => h1 (hW0 b hw0).2.2))]; exact h2
  ·simp only [ι']
   cases hq2 : fi i with
   | none => exact hq
   | some j2 => rw [hnone i _ hq2] at hq;cases hq
 have hrn2 : RnH w' (qE mpF fr) (aJ C'.X ιr H') ιr (aJ C.X ι' H2) ι' := by
  refine ⟨⟨fun b o y h1 h2 => ⟨fun hb => h1 ?_,h2⟩,fun _ _ h => h,fun _ => Nat.le_refl _⟩,fun j i hj => hto j i hj⟩
  rcases hb with hb | ⟨i,cs',β,q1,q2⟩
  ·exact .inl ⟨.inl hb,fun hw0 => (hW0 b hw0).1 hb⟩
  ·rcases hcase i cs' q1 with ⟨j, cs, r1, r2, r3⟩ | ⟨r1, r2⟩
   ·rw [← hto j i r1] at q2
    exact .inr ⟨j,cs,β,hkeep j cs r2,q2⟩
   ·rw [hold i cs' r1] at q2
    exact .inl ⟨.inr ⟨i,cs',β,r1,q2⟩,hnW i cs' b β r1 r2 q2⟩
 refine ⟨v,ι',rfl,⟨fun i cs' hi => ?_,fun i i2 cs1 cs2 b β β' h1 h2 h3 h4 => ?_,⟨hfr.os.trans g.fr.os,hfr.tape.trans g.fr.tape,hfr.output.trans g.fr.output,Nat.le_trans g.fr.size hfr.size,fun b hb hnw => ?_,fun b => Nat.le_trans (g.fr.bs b) (hfr.bs b)⟩,fun i q hq => hcar.pl i q (g.ex i q hq),fun i hi => ?_⟩,hcar,RnV.fwd hrn2 hr hrd⟩
 ·rcases hcase i cs' hi with ⟨j, cs, q1, q2, q3⟩ | ⟨q1, q2⟩
  ·rcases gr.obj j cs (hkeep j cs q2) with ⟨r1, r2⟩ | ⟨b, β, arr, e, r1, r2, r3, r4, r5, r6⟩
   ·refine .inl ⟨by rw [← hto j i q1]; exact r1, ?_⟩
    subst r2
    exact List.eq_nil_of_length_eq_zero (by rw [← q3.len]; rfl)
   ·refine .inr ⟨b, β, arr, e, by rw [← hto j i q1]; exact r1, r2, by rw [← q3.len]; exact r3, RnL.fwdC hrn2 q3 r4, ?_, ?_⟩
    ·rcases r6 with r6 | r6
     ·exact (hW0 b r6).1
     ·intro hX
      have := C.xlt b hX
      have := g.fr.size
      have : w.heap.size ≤ b := r6
      omega
    ·rcases r6 with r6 | r6
     ·exact (hW0 b r6).2.1
     ·refine .inr ?_
      have := g.fr.size
      have : w.heap.size ≤ b := r6
      omega
  ·rcases g.obj i cs' q1 with ⟨r1, r2⟩ | ⟨b, β, arr, e, r1, r2, r3, r4, r5, r6⟩
   ·exact .inl ⟨by rw [hold i cs' q1]; exact r1,r2⟩
   ·have hlt := eY r2
    have hbl := hfr.block b hlt (hnW i cs' b β q1 q2 r1)
    exact .inr ⟨b,β,arr,e,by rw [hold i cs' q1]; exact r1,by rw [hbl]; exact r2,r3,RdC.carryB hcar _ _ _ (fun o y hy => by rw [dI hbl]; exact hy) r4,r5,r6⟩
 ·rcases hcase i cs1 h1 with ⟨j, c1, q1, q2, q3⟩ | ⟨q1, q2⟩ <;> rcases hcase i2 cs2 h2 with ⟨j2, c2, q1', q2', q3'⟩ | ⟨q1', q2'⟩
  ·rw [← hto j i q1] at h3
   rw [← hto j2 i2 q1'] at h4
   have := gr.sep _ _ _ _ _ _ _ (hkeep j c1 q2) (hkeep j2 c2 q2') h3 h4
   subst this
   rw [q1] at q1'; cases q1'; rfl
  ·rw [← hto j i q1] at h3
   rw [hold i2 cs2 q1'] at h4
   have hlt := hobjlt i2 cs2 b _ q1' h4
   rcases hcal j c1 b _ (hkeep j c1 q2) h3 with q|q
   ·exact (hnW i2 cs2 b _ q1' q2' h4 q).elim
   ·omega
  ·rw [hold i cs1 q1] at h3
   rw [← hto j2 i2 q1'] at h4
   have hlt := hobjlt i cs1 b _ q1 h3
   rcases hcal j2 c2 b _ (hkeep j2 c2 q2') h4 with q|q
   ·exact (hnW i cs1 b _ q1 q2 h3 q).elim
   ·omega
  ·rw [hold i cs1 q1] at h3
   rw [hold i2 cs2 q1'] at h4
   exact g.sep _ _ _ _ _ _ _ q1 q1' h3 h4
 ·have hb2 : b < w.heap.size := by have := g.fr.size; omega
  rw [hfr.block b hb2 (fun hw0 => ?_)]
  ·exact g.fr.block b hb hnw
  ·rcases (hW0 b hw0).2.1 with q | q
   ·exact hnw q
   ·omega
 ·simp only [ι', hi.2]
  exact g.fresh i hi.1
attribute [local irreducible] aT
def Oo (P : Program) (k : FuncId) (args : List AV) (R0 : List (List Bool)) (r : AV) (hh : List (Nat × Option (List AV))) : Prop :=
 yD P k args (aQ (gV R0)) (Fn 0 ⟨0,aT + R0.length⟩) (fun r' H' => r' = r ∧ ∀ id cs,aQ (hh ++ gV R0) id = some cs → H' id = some cs)
def Py (P : Program) (k : FuncId) (args : List AV) (r : AV) (R1 : List (List Bool)) : Prop :=
 yD P k args (aQ []) (Fn 0 ⟨0,aT⟩) (fun r' H' => r' = r ∧ ∀ id cs,aQ (gV R1) id = some cs → H' id = some cs)
theorem qF {hs:List (Nat × Option (List AV))}{r r':AV}{R0:List (List Bool)}{hh:List (Nat × Option (List AV))}(hr:r' = r) (hh':nC hs hh) (hF:FamR R0 R0 hs hs):r' = r ∧ ∀ id cs,aQ (hh ++ gV R0) id = some cs → aQ hs id = some cs:=by
 refine ⟨hr,fun id cs h => ?_⟩
 rcases sI h with h|h
 ·exact jS hh' id cs h
 ·obtain ⟨k, hk, rfl, rfl⟩ := lK h
  exact hF.get hk
theorem MX {hs:List (Nat × Option (List AV))}{r r':AV}{R0:List (List Bool)}(hr:r' = r) (hF:FamR R0 R0 hs hs):r' = r ∧ ∀ id cs,aQ (gV R0) id = some cs → aQ hs id = some cs :=
 qF (hh := []) hr trivial hF
def Js (b m : Nat) (j : Nat) : Option Nat := if aT ≤ j ∧ j < aT + m then some (b + j) else none
def Ot (n n1 : Nat) (j : Nat) : Option Nat := if j < n1 then some (n + j) else none
def PS (n n1 : Nat) (i : Nat) : Option Nat := if n ≤ i ∧ i < n + n1 then some (i - n) else none
def PE (b m n n1 : Nat) : Nat → Option Nat := qE (Js b m) (Ot n n1)
theorem FT {mpF fr:Nat → Option Nat}{j i:Nat}(h:mpF j = some i):qE mpF fr j = some i := by unfold qE;rw [h]
theorem EM {mpF fr:Nat → Option Nat}{j:Nat}(h:mpF j = none):qE mpF fr j = fr j := by unfold qE;rw [h]
theorem mU {b m k:Nat}(h:k < m):Js b m (k + aT) = some (b + k + aT):=by
 unfold Js;rw [if_pos (by omega),Nat.add_assoc]
theorem JH {b m n n1 k:Nat}(h:k < m):PE b m n n1 (k + aT) = some (b + k + aT) := FT (mU h)
theorem sD {b m n n1 j:Nat}(h:j < n1) (hb:j < aT):PE b m n n1 j = some (n + j):=by
 have e : Js b m j = none := by unfold Js;rw [if_neg (by omega)]
 refine (EM e).trans ?_
 unfold Ot;rw [if_pos h]
theorem rn_rows {ρ:Nat → Option Nat}{b b' m w:Nat}(h:∀ k,k < m → ρ (b + k + aT) = some (b' + k + aT)):RnL ρ (flat (yB b w) (List.range m)) (flat (yB b' w) (List.range m)) :=
 RnL.flt fun k hk => by rw [List.mem_range] at hk;exact .cons (.own (h k hk)) .nil
theorem cQ {m:List (Nat × Nat)}{lo:Lo}{pn:Option Nat}{b k w:Nat}(h:aT + (b + k) ≤ lo.fb):RnL (jQ m lo pn) (flat (yB b w) (List.range k)) (flat (yB b w) (List.range k)) :=
 rn_rows fun j hj => hU (by omega) (by omega)
def Oq (ρ : Nat → Option Nat) (hh : List (Nat × Option (List AV))) : List (Nat × Option (List AV)) → Prop
 | [] => True
 | (i,none) :: l => Oq ρ hh l
 | (i,some cs') :: l => (∃ j cs,ρ j = some i ∧ aQ hh j = some cs ∧ RnL ρ cs cs') ∧ Oq ρ hh l
theorem BX {ρ:Nat → Option Nat}{hh:List (Nat × Option (List AV))}:∀ {ws:List (Nat × Option (List AV))},Oq ρ hh ws → ∀ i cs',(i,some cs') ∈ ws → ∃ j cs,ρ j = some i ∧ aQ hh j = some cs ∧ RnL ρ cs cs'
 | [],_,i,cs',h => by simp at h
 | (u, none) :: l, hw, i, cs', h => by
  simp only [Oq] at hw
  rcases List.mem_cons.1 h with h|h
  ·cases h
  ·exact BX hw i cs' h
 | (u, some c) :: l, hw, i, cs', h => by
  simp only [Oq] at hw
  rcases List.mem_cons.1 h with h|h
  ·cases h;exact hw.1
  ·exact BX hw.2 i cs' h
section
variable {P : Program} {N : Nat} {Q : Exit → AS → Prop} {all : Array Oper} {rest : List Oper} {ts : List (Nat × AV)} {hs : List (Nat × Option (List AV))} {n : Nat} {z0 : Lo} {md : Md}
variable {d : Nat} {ty : TypeId} {pos : String} {af : Array Edge}
theorem Ah {k:FuncId}{args:Array Operand}{tys:Array TypeId}{avs avs0:List AV}{R R0:List (List Bool)}{r rr':AV}{hh:List (Nat × Option (List AV))}(b n1:Nat) (D:List Nat) (ws:List (Nat × Option (List AV))) [hc:CaT P k]
  (ha : evL (lk ts) args.toList = some avs) (h : Oo P k avs0 R0 r hh) (hF : FamR R R hs hs) (hb : b + R0.length ≤ R.length) (hR : ∀ k,k < R0.length → R0[k]! = R[b + k]!) (hD : ∀ k,k < R0.length → b + k + aT ∈ D)
  (har : RnL (Js b R0.length) avs0 avs) (hk : gU aT hh = true) (hr : RnV (PE b R0.length n n1) r rr') (hw : Oq (PE b R0.length n n1) hh ws) (hM : Nat.ble (n + n1) aT = true) (hN : Nat.blt d N = true)
  {md' : Md} [hmd : MdA md (fJ args.toList ++ D.map .inr) (ws.map (fun p => .inr p.1) ++ [.inl d]) md']
  (kk : RW P N all Q md' rest ⟨(d,rr') :: ts,iA hs ws,n + n1,z0⟩) : RW P N all Q md (⟨some d,.call ⟨.value (.func k),args,tys⟩,ty,pos,af,none⟩ :: rest) ⟨ts,hs,n,z0⟩ := by
 have hM' := Nat.le_of_ble_eq_true hM
 refine iP (rs := fJ args.toList ++ D.map .inr) (ws := ws) (n' := n + n1) (out := rr') rfl (Nat.le_add_right _ _) (.inr hM') (fun C ι F T H a w K Q' hCN ag hFf g gh hK => ?_) (fun x hx => by cases hx;exact dQ hN) (by simp only [wD]; rw [← hmd.pf] at kk;exact kk)
 simp only [Oper.wp,gS hc.pf,Oper.upon]
 have hH : ∀ q, q < R0.length → H (b + q + aT) = some (flat cB R[b + q]!) := fun q hq => by
  rw [ag.r.h _ (List.mem_map_of_mem (hD q hq))]; exact hF.get (by omega)
 have hmp : ∀ j i, Js b R0.length j = some i → ∃ q, q < R0.length ∧ j = q + aT ∧ i = b + q + aT := by
  intro j i hj
  unfold Js at hj
  split at hj
  ·cases hj;exact ⟨j - aT,by omega,by omega,by omega⟩
  ·cases hj
 have hrh : ∀ j i, Ot n n1 j = some i → j < n1 ∧ i = n + j := by
  intro j i hj
  unfold Ot at hj
  split at hj
  ·cases hj;exact ⟨by assumption,rfl⟩
  ·cases hj
 refine (By (fr := Ot n n1) (fi := PS n n1) (hh := aQ (hh ++ gV R0)) (H2 := kC H ws) h (fun j j' i h1 h2 => ?_) (fun i j => ?_) (fun j i h1 => ?_) (fun j hj => ?_) gh (fun j i hj => ?_) (fun j cs hj => ?_) har (fun j i hj => ?_) hr (fun i cs' hi => ?_) (iF g (ag.l.evL.trans ha))).mono ?_
 ·obtain ⟨q, _, _, _⟩ := hmp j i h1
  obtain ⟨q',_,_,_⟩ := hmp j' i h2
  omega
 ·unfold PS Ot
  constructor
  ·intro h1
   split at h1
   ·cases h1;rw [if_pos (by omega)]; congr 1;omega
   ·cases h1
  ·intro h1
   split at h1
   ·cases h1;rw [if_pos (by omega)]; congr 1;omega
   ·cases h1
 ·have := hrh j i h1
  unfold Js;rw [if_neg (by omega)]
 ·have h1 : j < aT ∨ aT + R0.length ≤ j := hj.2
  unfold Js;rw [if_neg (by omega)]
 ·obtain ⟨q, q1, rfl, rfl⟩ := hmp j i hj
  refine ⟨flat cB R0[q]!,flat cB R[b + q]!,?_,hH q q1,?_⟩
  ·rw [pG,if_pos q1]
  ·rw [hR q q1]; exact .pur (inferInstance : Pur (flat cB R[b + q]!)).pf
 ·obtain ⟨q, q1, rfl, rfl⟩ := lK hj
  exact ⟨_,mU q1⟩
 ·obtain ⟨q1, rfl⟩ := hrh j i hj
  exact hFf _ (Nat.le_add_right _ _) (by omega)
 ·rcases tL hi with h1 | ⟨h1, h2⟩
  ·obtain ⟨j, cs, q1, q2, q3⟩ := BX hw i cs' h1
   exact .inl ⟨j,cs,q1,Hu q2,q3⟩
  ·by_cases hq : ∃ q, q < R0.length ∧ i = b + q + aT
   ·obtain ⟨q, q1, rfl⟩ := hq
    rw [hH q q1] at h1
    cases h1
    refine .inl ⟨q + aT,flat cB R0[q]!,JH q1,?_,?_⟩
    ·rw [Gu (rM (by omega) hk),pG,if_pos q1]
    ·rw [hR q q1]; exact .pur (inferInstance : Pur (flat cB R[b + q]!)).pf
   ·refine .inr ⟨h1, fun j hj => hq ?_⟩
    obtain ⟨q,q1,_,q2⟩ := hmp j i hj
    exact ⟨q,q1,q2⟩
 ·rintro e w' ⟨v, ι', rfl, g', c', hrd⟩
  refine hK ι' w' v (g.carry c') (g'.less (fun _ _ h => h) (fun j hj => ⟨hj.1,?_⟩)).1 hrd
  unfold PS;rw [if_neg hj.2]
theorem H5 {k:FuncId}{args:Array Operand}{tys:Array TypeId}{avs:List AV}{R R1:List (List Bool)}{r rr':AV}{hs':List (Nat × Option (List AV))}{l0:Nat}[hc:CaT P k]
  (ha : evL (lk ts) args.toList = some avs) (h : Py P k avs r R1) (hp : bK avs = true) (hF : FamR R (R ++ R1) hs hs') (hz : z0 = ⟨l0,aT + R.length⟩)
  (hr : RnV (fun j => if aT ≤ j ∧ j < aT + R1.length then some (R.length + j) else none) r rr') (hM : Nat.ble n aT = true) (hN : Nat.blt d N = true)
  (kk : RW P N all Q .txt rest ⟨(d,rr') :: ts,hs',n,⟨l0,aT + (R ++ R1).length⟩⟩) : RW P N all Q .txt (⟨some d,.call ⟨.value (.func k),args,tys⟩,ty,pos,af,none⟩ :: rest) ⟨ts,hs,n,z0⟩ := by
 subst hz
 rintro C a w hCN ⟨h0,ι,g,gh⟩
 refine wpList_plain rfl (fun K hK => ?_)
 simp only [Oper.wp,gS hc.pf,Oper.upon]
 have hM' := Nat.le_of_ble_eq_true hM
 have hrh : ∀ j i, (fun j => if aT ≤ j ∧ j < aT + R1.length then some (R.length + j) else none) j = some i → aT ≤ j ∧ j < aT + R1.length ∧ i = R.length + j := by
  intro j i hj
  dsimp only at hj
  split at hj
  ·rename_i hh;cases hj;exact ⟨hh.1,hh.2,rfl⟩
  ·cases hj
 have hrho : qE (fun _ => none) (fun j => if aT ≤ j ∧ j < aT + R1.length then some (R.length + j) else none) = (fun j => if aT ≤ j ∧ j < aT + R1.length then some (R.length + j) else none) := by funext j;rfl
 have hlen : (R ++ R1).length = R.length + R1.length := List.length_append
 refine (By (mpF := fun _ => none) (fr := fun j => if aT ≤ j ∧ j < aT + R1.length then some (R.length + j) else none) (fi := fun i => if aT + R.length ≤ i ∧ i < aT + R.length + R1.length then some (i - R.length) else none) (hh := aQ (gV R1)) (H2 := aQ hs') (args' := avs)
  h (fun j j' i h1 h2 => by cases h1) (fun i j => ?_) (fun j i h1 => rfl) (fun j hj => rfl) gh (fun j i hj => by cases hj) (fun j cs hj => by simp [aQ] at hj) (.pur hp) (fun j i hj => ?_) (rr' := rr') (by rw [hrho]; exact hr) (fun i cs' hi => ?_) (iF g ha)).mono ?_
 ·constructor
  ·intro h1
   split at h1
   ·cases h1;rw [if_pos (by omega)]; congr 1;omega
   ·cases h1
  ·intro h1
   split at h1
   ·cases h1;rw [if_pos (by omega)]; congr 1;omega
   ·cases h1
 ·obtain ⟨q1, q2, rfl⟩ := hrh j i hj
  exact ⟨by show n ≤ R.length + j;omega,.inr (by show aT + R.length ≤ R.length + j;omega)⟩
 ·rcases Nat.lt_or_ge i aT with hi2 | hi2
  ·exact .inr ⟨by rw [hF.low i hi2]; exact hi,fun j => by simp⟩
  ·obtain ⟨q, rfl⟩ : ∃ q, i = q + aT := ⟨i - aT, by omega⟩
   have hg := hF.symm.fam q
   rw [hi] at hg
   split at hg
   ·rename_i hq
    cases hg
    rcases Nat.lt_or_ge q R.length with hq2|hq2
    ·refine .inr ⟨?_, fun j => by simp⟩
     have e : (R ++ R1)[q]! = R[q]! := by rw [a7 _ _ hq,a7 _ _ hq2,List.getElem_append_left hq2]
     rw [e]; exact hF.get hq2
    ·refine .inl ⟨(q - R.length) + aT, flat cB R1[q - R.length]!, ?_, ?_, ?_⟩
     ·rw [hrho]
      show (if aT ≤ q - R.length + aT ∧ q - R.length + aT < aT + R1.length then some (R.length + (q - R.length + aT)) else none) = some (q + aT)
      rw [if_pos (by omega)]; congr 1;omega
     ·rw [pG,if_pos (by omega)]
     ·have e : (R ++ R1)[q]! = R1[q - R.length]! := by rw [a7 _ _ hq, a7 _ _ (by omega), List.getElem_append_right hq2]
      rw [e]; exact .pur (inferInstance : Pur (flat cB R1[q - R.length]!)).pf
   ·cases hg
 ·rintro e w' ⟨v, ι', rfl, g', c', hrd⟩
  refine hK _ _ (kk C _ _ hCN ⟨fun id hid => ?_,ι',?_,?_⟩)
  ·rcases h0 id hid with q | q
   ·exact .inl ⟨q.1,by have := q.2;show id < aT + (R ++ R1).length;have h5 : id < aT + R.length := this;omega⟩
   ·exact .inr q
  ·show TG C ι' (lk ((d, rr') :: ts)) _ _ _
   rw [iK]
   exact (g.carry c').put (hCN.symm ▸ dQ hN) hrd
  ·refine (g'.less (fun _ _ h => h) (fun j hj => ?_)).1
   have h3 : n ≤ j := hj.1
   have h4 : j < aT ∨ aT + (R ++ R1).length ≤ j := hj.2
   refine ⟨⟨h3,?_⟩,?_⟩
   ·show j < aT ∨ aT + R.length ≤ j
    omega
   ·rw [if_neg (by omega)]
end
theorem II {P:Program}{k:FuncId}{fn:Func}{c:Code}{args:List AV}{R0:List (List Bool)}{r:AV}{hh:List (Nat × Option (List AV))}(hf:P.funcs[k]? = some fn) (hb:fn.body = some c) (hN:args.length ≤ fn.ntmps)
  (h : AW P fn.ntmps c (oQ P fn.results (fun r' H' => r' = r ∧ ∀ id cs,aQ (hh ++ gV R0) id = some cs → H' id = some cs)) ⟨iI 0 args,gV R0,0,⟨0,aT + R0.length⟩⟩) : Oo P k args R0 r hh := oX hf hb hN h
theorem Hl {P:Program}{k:FuncId}{fn:Func}{c:Code}{args:List AV}{R1:List (List Bool)}{r:AV}(hf:P.funcs[k]? = some fn) (hb:fn.body = some c) (hN:args.length ≤ fn.ntmps)
  (h : AW P fn.ntmps c (oQ P fn.results (fun r' H' => r' = r ∧ ∀ id cs,aQ (gV R1) id = some cs → H' id = some cs)) ⟨iI 0 args,[],0,⟨0,aT⟩⟩) : Py P k args r R1 := oX hf hb hN h
theorem Le.virt {ts:List (Nat × AV)}{hs:List (Nat × Option (List AV))}{n:Nat}{z0:Lo}(hn:n < aT):Le ⟨ts,hs,n,z0⟩ ⟨ts,(n,some []) :: hs,n + 1,z0⟩:=by
 rintro C a w ⟨h0,ι,g,gh⟩
 obtain ⟨g1,c1⟩ := gh.virt (id := n) ⟨Nat.le_refl _,.inl hn⟩
 have e : aQ ((n,some []) :: hs) = eH (aQ hs) n (some []) := Bf _ _ _
 refine ⟨h0,eH ι n (some none),?_,?_⟩
 ·show TG C _ (lk ts) (aQ ((n, some []) :: hs)) a w
  rw [e]; exact g.carry c1
 ·show HG C _ _ (aQ ((n, some []) :: hs)) w
  rw [e]
  refine (g1.less (fun _ _ h => h) (fun j hj => ?_)).1
  have h1 : n + 1 ≤ j := hj.1
  exact ⟨⟨by show n ≤ j;omega,hj.2⟩,by omega⟩
theorem Le.cellsN {ts:List (Nat × AV)}{hs:List (Nat × Option (List AV))}{n:Nat}{z0:Lo}{i q:Nat}{cs cs' cq:List AV}(hi:aQ hs i = some cs) (hq:aQ hs q = some cq) (hl:cs'.length = cs.length)
  (h : ∀ (w : World) (bad : Nat → Prop) (ι : Pl) (b β : Nat),(∃ p,ι q = some p) → RdC w bad ι cs b β → RdC w bad ι cs' b β) :
  Le ⟨ts,hs,n,z0⟩ ⟨ts,(i,some cs') :: hs,n,z0⟩ := by
 rintro C a w ⟨h0,ι,g,gh⟩
 have hqq : ∃ p, ι q = some p := by
  rcases gh.obj q cq hq with ⟨p1,_⟩ | ⟨_,_,_,_,p1,_⟩ <;> exact ⟨_,p1⟩
 have hk : ∀ id c, aQ ((i, some cs') :: hs) id = some c → (id = i ∧ c = cs') ∨ (id ≠ i ∧ aQ hs id = some c) := by
  intro id c hc
  rw [cM] at hc
  split at hc
  ·rename_i e;cases hc;exact .inl ⟨e,rfl⟩
  ·rename_i e;exact .inr ⟨fun h => e h,hc⟩
 have hk2 : ∀ id c, aQ hs id = some c → ∃ c', aQ ((i, some cs') :: hs) id = some c' := by
  intro id c hc
  rw [cM]
  split
  ·exact ⟨_,rfl⟩
  ·exact ⟨_,hc⟩
 have hb : aJ C.X ι (aQ ((i, some cs') :: hs)) = aJ C.X ι (aQ hs) := by
  funext b
  refine propext ⟨?_,?_⟩
  ·rintro (h | ⟨id, c, β, h1, h2⟩)
   ·exact .inl h
   ·rcases hk id c h1 with ⟨rfl, _⟩ | ⟨_, h3⟩
    ·exact .inr ⟨_,_,_,hi,h2⟩
    ·exact .inr ⟨_,_,_,h3,h2⟩
  ·rintro (h | ⟨id, c, β, h1, h2⟩)
   ·exact .inl h
   ·obtain ⟨c', h3⟩ := hk2 id c h1
    exact .inr ⟨_,_,_,h3,h2⟩
 refine ⟨h0,ι,⟨g.df,g.sz,fun t av ht => ?_⟩,?_,?_,gh.fr,gh.ex,gh.fresh⟩
 ·show ∃ y, a.tmps[t]? = some y ∧ Rd w (aJ C.X ι (aQ ((i, some cs') :: hs))) ι av y
  rw [hb]; exact g.tm t av ht
 ·intro id c hc
  show _ ∨ ∃ b β arr e,ι id = some (some (b,β)) ∧ w.heap[b]? = some (.cells arr e (0,0)) ∧ β + c.length ≤ arr.size ∧ RdC w (aJ C.X ι (aQ ((i,some cs') :: hs))) ι c b β ∧ ¬ C.X b ∧ (C.W0 b ∨ C.w0.heap.size ≤ b)
  rw [hb]
  rcases hk id c hc with ⟨rfl,rfl⟩ | ⟨_,h3⟩
  ·rcases gh.obj _ _ hi with ⟨q1, q2⟩ | ⟨b, β, arr, e, q1, q2, q3, q4, q5⟩
   ·subst q2
    exact .inl ⟨q1,List.eq_nil_of_length_eq_zero hl⟩
   ·exact .inr ⟨b,β,arr,e,q1,q2,by rw [hl]; exact q3,h _ _ _ _ _ hqq q4,q5⟩
  ·exact gh.obj _ _ h3
 ·intro id id' c c' b β β' h1 h2 h3 h4
  obtain ⟨d1, e1⟩ : ∃ d, aQ hs id = some d := by
   rcases hk id c h1 with ⟨rfl,_⟩ | ⟨_,h⟩
   ·exact ⟨_,hi⟩
   ·exact ⟨_,h⟩
  obtain ⟨d2, e2⟩ : ∃ d, aQ hs id' = some d := by
   rcases hk id' c' h2 with ⟨rfl,_⟩ | ⟨_,h⟩
   ·exact ⟨_,hi⟩
   ·exact ⟨_,h⟩
  exact gh.sep id id' d1 d2 b β β' e1 e2 h3 h4
theorem rX {w:World}{bad:Nat → Prop}{ι:Pl}{c c':AV}(hc:∀ y,Rd w bad ι c y → Rd w bad ι c' y):∀ (a:List AV) (r:List AV) (b o:Nat),RdC w bad ι (a ++ c :: r) b o → RdC w bad ι (a ++ c' :: r) b o
 | [], r, b, o, h => by
  simp only [List.nil_append,RdC] at h ⊢
  obtain ⟨⟨x,h1,h2,h3⟩,h4⟩ := h
  exact ⟨⟨x,h1,h2,hc _ h3⟩,h4⟩
 | x :: a, r, b, o, h => by
  simp only [List.cons_append,RdC] at h ⊢
  exact ⟨h.1,rX hc a r b (o + 1) h.2⟩
theorem Le.nilCell {ts:List (Nat × AV)}{hs:List (Nat × Option (List AV))}{n:Nat}{z0:Lo}{i:Nat}(e:Nat) (c1:List AV){c2:List AV}(hi:aQ hs i = some (c1 ++ .v (.slice none 0 0) :: c2)) (hin:i ≠ n) (hn:n < aT) :
  Le ⟨ts,hs,n,z0⟩ ⟨ts,(i,some (c1 ++ .own n 0 0 e :: c2)) :: (n,some []) :: hs,n + 1,z0⟩ :=
 (Le.virt hn).trans (Le.cellsN (q := n) (cs := c1 ++ .v (.slice none 0 0) :: c2) (by rw [cM, if_neg hin]; exact hi) (by rw [cM, if_pos rfl]) (by simp) fun w bad ι b β hp hr =>
  rX (fun y hy => by simp only [Rd] at hy ⊢; exact .inl ⟨hp,trivial,none,hy⟩) c1 c2 b β hr)
theorem Le.frzC {ts:List (Nat × AV)}{hs:List (Nat × Option (List AV))}{n:Nat}{z0:Lo}{j i m e:Nat}(c1:List AV){c2 d:List AV}(hj:aQ hs j = some (c1 ++ .own i 0 m e :: c2)) (hi:aQ hs i = some d) (hij:j ≠ i) :
  Le ⟨ts,hs,n,z0⟩ ⟨ts,(j,some (c1 ++ .imm m d :: c2)) :: (i,none) :: hs,n,z0⟩ := by
 rintro C a w ⟨h0,ι,g,gh⟩
 have hk : ∀ id c, aQ ((j, some (c1 ++ .imm m d :: c2)) :: (i, none) :: hs) id = some c → (id = j ∧ c = c1 ++ .imm m d :: c2) ∨ (id ≠ j ∧ id ≠ i ∧ aQ hs id = some c) := by
  intro id c hc
  rw [cM] at hc
  split at hc
  ·rename_i e;cases hc;exact .inl ⟨e,rfl⟩
  ·rename_i e
   rw [cM] at hc
   split at hc
   ·cases hc
   ·rename_i e2;exact .inr ⟨e,e2,hc⟩
 have hk2 : ∀ id c, aQ ((j, some (c1 ++ .imm m d :: c2)) :: (i, none) :: hs) id = some c → id ≠ i ∧ ∃ c', aQ hs id = some c' := by
  intro id c hc
  rcases hk id c hc with ⟨rfl,_⟩ | ⟨_,h2,h3⟩
  ·exact ⟨hij,_,hj⟩
  ·exact ⟨h2,_,h3⟩
 have hbad : ∀ b, aJ C.X ι (aQ ((j, some (c1 ++ .imm m d :: c2)) :: (i, none) :: hs)) b → aJ C.X ι (aQ hs) b := by
  rintro b (h | ⟨id,c,β,h1,h2⟩)
  ·exact .inl h
  ·obtain ⟨_, c', h3⟩ := hk2 id c h1
   exact .inr ⟨id,c',β,h3,h2⟩
 have car : Carry w (aJ C.X ι (aQ hs)) ι w (aJ C.X ι (aQ ((j,some (c1 ++ .imm m d :: c2)) :: (i,none) :: hs))) ι := ⟨fun b o x h1 h2 => ⟨fun q => h1 (hbad b q),h2⟩,fun _ _ h => h,fun _ => Nat.le_refl _⟩
 have hcell : ∀ y, Rd w (aJ C.X ι (aQ ((j, some (c1 ++ .imm m d :: c2)) :: (i, none) :: hs))) ι (.own i 0 m e) y → Rd w (aJ C.X ι (aQ ((j, some (c1 ++ .imm m d :: c2)) :: (i, none) :: hs))) ι (.imm m d) y := by
  intro y hr
  simp only [Rd] at hr ⊢
  rcases hr with ⟨_,h2,a',h3⟩ | ⟨b,β,c,h1,h2,h3,h4⟩
  ·subst h2;exact ⟨a',0,h3,.inl rfl⟩
  ·refine ⟨_, c, h2, ?_⟩
   rcases Nat.eq_zero_or_pos m with h5|h5
   ·exact .inl h5
   ·refine .inr ⟨b, β + 0, h3, rfl, ?_⟩
    rcases gh.obj i d hi with ⟨q1,q2⟩ | ⟨b',β',arr,e',q1,q2,q3,q4,q5,q6⟩
    ·rw [h1] at q1;cases q1
    ·rw [h1] at q1; cases q1
     refine .inr ⟨?_,RdC.carryB car _ _ _ (fun o x hx => hx) q4⟩
     rintro (h | ⟨id',cs',β',r1,r2⟩)
     ·exact q5 h
     ·obtain ⟨r3, c', r4⟩ := hk2 id' cs' r1
      exact r3 (gh.sep _ _ _ _ _ _ _ r4 hi r2 h1)
 refine ⟨h0,ι,g.carry car,⟨fun id c hc => ?_,fun id id' c c' b β β' h1 h2 h3 h4 => ?_,gh.fr,gh.ex,gh.fresh⟩⟩
 ·rcases hk id c hc with ⟨rfl, rfl⟩ | ⟨_, _, h3⟩
  ·rcases gh.obj _ _ hj with ⟨q1, q2⟩ | ⟨b, β, arr, e, q1, q2, q3, q4, q5⟩
   ·simp at q2
   ·exact .inr ⟨b,β,arr,e,q1,q2,by simpa using q3,rX hcell c1 c2 b β (RdC.carryB car _ _ _ (fun o x hx => hx) q4),q5⟩
  ·rcases gh.obj _ _ h3 with ⟨q1, q2⟩ | ⟨b, β, arr, e, q1, q2, q3, q4, q5⟩
   ·exact .inl ⟨q1,q2⟩
   ·exact .inr ⟨b,β,arr,e,q1,q2,q3,RdC.carryB car _ _ _ (fun o x hx => hx) q4,q5⟩
 ·obtain ⟨_, d1, e1⟩ := hk2 id c h1
  obtain ⟨_,d2,e2⟩ := hk2 id' c' h2
  exact gh.sep id id' d1 d2 b β β' e1 e2 h3 h4
theorem IJ {R:List (List Bool)}{hs hs':List (Nat × Option (List AV))}{k m:Nat}(hF:FamR R R hs hs') (hk:k < R.length) (hm:m = R[k]!.length):sCells (aQ hs) 1 (xE (.own (k + aT) 0 m 1)) = some (m,flat cB R[k]!):=by
 subst hm
 have hl : (flat cB R[k]!).length = R[k]!.length * 1 := aI cB _
 show (aQ hs (k + aT)).bind (fun cs => if R[k]!.length * 1 ≤ (cs.drop 0).length then some (R[k]!.length,(cs.drop 0).take (R[k]!.length * 1)) else none) = _
 rw [hF.get hk,Option.bind_some,List.drop_zero,if_pos (by omega),List.take_of_length_le (by omega)]
theorem yP {cs:List AV}{v:Nat}{c:AV}:iB cs (0 + v * 1) [c] = cs.take v ++ c :: cs.drop (v + 1):=by
 unfold iB;simp
theorem Jy {u:List (List Bool)}{v:Nat}{r:List Bool}(hv:v < u.length):(flat gA u).take v ++ .imm r.length (flat cB r) :: (flat gA u).drop (v + 1) = flat gA (u.set v r):=by
 have h := Dp (xs := u) (k := v) (r := r) hv
 rw [yP] at h;exact h
theorem Le.frzRow {ts:List (Nat × AV)}{hs:List (Nat × Option (List AV))}{n:Nat}{z0:Lo}{j q v m:Nat}{u:List (List Bool)}{r:List Bool}(hj:aQ hs j = some (iB (flat gA u) (0 + v * 1) [.own q 0 m 1])) (hq:aQ hs q = some (flat cB r)) (hm:m = r.length) (hv:v < u.length) (hjq:j ≠ q) :
  Le ⟨ts,hs,n,z0⟩ ⟨ts,(j,some (flat gA (u.set v r))) :: (q,none) :: hs,n,z0⟩ := by
 subst hm
 rw [yP] at hj
 have h := Le.frzC (ts := ts) (n := n) (z0 := z0) ((flat gA u).take v) hj hq hjq
 rwa [Jy hv] at h
theorem Le.fdrop {ts:List (Nat × AV)}{hs:List (Nat × Option (List AV))}{n:Nat}{z0:Lo}{k:Nat}{R:List (List Bool)}(hF:FamR R R hs hs) (hk:k < R.length):Le ⟨ts,(k + aT,some (flat cB R[k]!)) :: hs,n,z0⟩ ⟨ts,hs,n,z0⟩:=by
 refine Le.of (fun _ _ h => h) (fun i cs h => ?_) (Nat.le_refl _) rfl
 have h' : aQ hs i = some cs := h
 show aQ ((k + aT,some (flat cB R[k]!)) :: hs) i = some cs
 rw [cM]
 split
 ·rename_i e;subst e;rw [hF.get hk] at h'; exact h'
 ·exact h'
theorem Pm {i k:Nat}(hi:Nat.blt i aT = true):distinct [i,k + aT] = true:=by
 have h1 := dQ hi
 have : Nat.beq i (k + aT) = false := by
  cases h : Nat.beq i (k + aT) with
  | false => rfl
  | true => have := Nat.eq_of_beq_eq_true h;omega
 simp only [distinct,List.all_cons,List.all_nil,this]; rfl
structure Hid (T : Prop) : Prop where pf : T
theorem cut {G:Prop}{T:Prop}(key:T) (main:Hid T → G):G := main ⟨key⟩
structure Hy (T : Prop) : Prop where pf : T
theorem PF:(∀ a b:Bool,((a && b) = true) = (a = true ∧ b = true)) ∧ (∀ a b:Bool,((a && b) = false) ↔ (a = false ∨ b = false)) ∧ (∀ a b:Bool,((a || b) = true) = (a = true ∨ b = true)) ∧ (∀ a b:Bool,((a || b) = false) ↔ (a = false ∧ b = false)) ∧
  (∀ (p : Prop) [Decidable p],(decide p = true) = p) ∧ (∀ (p : Prop) [Decidable p],(decide p = false) ↔ ¬ p) ∧ (∀ a : Bool,((!a) = true) ↔ a = false) ∧ (∀ a : Bool,((!a) = false) ↔ a = true) ∧ ((!true) = false) ∧ ((!false) = true) ∧ (∀ a b : Int,¬ a < b ↔ b ≤ a) ∧ (∀ a b : Int,¬ a ≤ b ↔ b < a) :=
 ⟨fun a b => Bool.and_eq_true a b,fun a b => Bool.and_eq_false_iff,fun a b => Bool.or_eq_true a b,fun a b => Bool.or_eq_false_iff,fun p _ => by simp,fun p _ => decide_eq_false_iff_not,fun a => by simp,fun a => by simp,rfl,rfl,fun _ _ => Int.not_lt,fun _ _ => Int.not_le⟩
theorem gD:(∀ {α:Type}(a b:List α),(a ++ b).length = a.length + b.length) ∧ (∀ {α:Type}(a:α) (b:List α),(a :: b).length = b.length + 1) ∧ (∀ {α:Type},([]:List α).length = 0) ∧ (∀ {α:Type}(a:List α) (i:Nat) (x:α),(a.set i x).length = a.length) ∧ (∀ {α:Type}(i:Nat) (a:List α),(a.take i).length = min i a.length) ∧
  (∀ {α β : Type} (f : α → β) (a : List α),(a.map f).length = a.length) ∧ (∀ {α : Type} (n : Nat) (a : α),(List.replicate n a).length = n) ∧ (∀ (l : List Stmt) (b : Nat),(fV b l).length = dA l) ∧ (∀ n : Nat,n * 1 = n) ∧ (∀ n : Nat,0 + n = n) ∧ (∀ n : Nat,n + 0 = n) :=
 ⟨fun _ _ => List.length_append,fun _ _ => rfl,rfl,fun _ _ _ => List.length_set,fun _ _ => List.length_take,fun _ _ => List.length_map _,fun _ _ => List.length_replicate,bX,Nat.mul_one,Nat.zero_add,Nat.add_zero⟩
theorem bC {α:Type}{p q r:α → Prop}(x:α) (h3:r x) (h1:p x) (h2:q x):∃ x,p x ∧ q x ∧ r x := ⟨x,h1,h2,h3⟩
theorem PY {G K:Prop}(k:K) (h:Hy K → G := by first|(intro k;(first|((with_reducible apply Fv);(case hx => rfl);(case hH => rfl);(case hf => infer_instance);(case hg => infer_instance);(case hα => infer_instance);(case hk => omega);(case hc => rfl);(case hN => rfl)) | ((with_reducible apply Fk);(case hx => rfl);(case hH => rfl);(case hf => infer_instance);(case hg => infer_instance);(case hα => infer_instance);(case hk => omega);(case hc => rfl);(case hN => rfl)) | ((with_reducible apply EZ);(case hx => rfl);(case hH => rfl);(case hf => infer_instance);(case hg => infer_instance);(case hα => infer_instance);(case hk => omega);(case h0 => rfl);(case hN => rfl)) | ((with_reducible apply HR);(case hx => rfl);(case hd => rfl);(case hc => rfl);(case hN => rfl)) | ((with_reducible apply Gq);(case hx => rfl);(case hd => rfl);(case hc => (first|exact (rfl:_ = [_]) | exact (rfl:_ = [_,_]) | exact (rfl:_ = [_,_,_]) | exact (rfl:_ = [_,_,_,_]) | exact (rfl:_ = [_,_,_,_,_]) | exact (rfl:_ = [_,_,_,_,_,_]) | exact (rfl:_ = [_,_,_,_,_,_,_]) | exact (rfl:_ = [_,_,_,_,_,_,_,_]) | rfl));(case hn => rfl);(case h0 => rfl);(case hN => rfl)) | ((with_reducible apply BH);(case hx => rfl);(case hl => first|assumption | omega | (simp only [gD,List.length_drop] <;> omega));(case h0 => rfl);(case hN => rfl)) | ((with_reducible apply A1);(case hx => rfl);(case hH => rfl);(case hl => first|assumption | omega | (simp only [gD] <;> omega) | rfl);(case h0 => rfl);(case hN => rfl)) | ((with_reducible apply At);(case hx => rfl);(case hH => rfl);(case hl => first|assumption | omega | (simp only [gD] <;> omega) | rfl);(case h0 => rfl);(case hN => rfl)) | ((with_reducible apply Fc);(case hx => rfl);(case hH => rfl);(case ho => first|exact PQ | exact PL);(case hq => first|assumption | omega | (simp only [gD] <;> omega));(case hN => rfl)));exact k.pf) | fail):G := h ⟨k⟩
theorem PT {G K:Prop}(k:K) (h:Hy K → G := by first|(intro k;(first|((with_reducible apply FD);(case hj => rfl);(case hb => rfl);(case hN => rfl)) | ((with_reducible apply E9);(case hj => rfl);(case hb => rfl);(case hN => rfl);(case hw => first|rfl | assumption)) | ((with_reducible apply Cz);(case hj => rfl);(case hb => rfl);(case hN => rfl);(case hw => first|rfl | assumption)) );exact k.pf) | fail):G := h ⟨k⟩
theorem PN {G K:Prop}(k:K) (h:Hy K → G := by first|(intro k;(first|((with_reducible apply Kl);(case hx => rfl);(case hy => rfl);(case h => rfl);(case hN => rfl)) | ((with_reducible apply Mq);(case hx => rfl);(case hy => rfl);(case hk => infer_instance);(case ha => infer_instance);(case hb => infer_instance);(case hN => rfl)) | ((with_reducible apply JX);(case hx => rfl);(case hy => rfl);(case hk => infer_instance);(case ha => infer_instance);(case hN => rfl)) | ((with_reducible apply Lw);(case hx => rfl);(case hy => rfl);(case hk => infer_instance);(case ha => infer_instance);(case hb => infer_instance);(case hN => rfl)) | ((with_reducible apply Ku);(case hx => rfl);(case hy => rfl);(case hk => infer_instance);(case ha => infer_instance);(case hb => infer_instance);(case hN => rfl)) | ((with_reducible apply KA);(case hx => rfl);(case hy => rfl);(case hk => infer_instance);(case ha => infer_instance);(case h => omega);(case hN => rfl)) | ((with_reducible apply MH);(case hx => rfl);(case hy => rfl);(case h => omega);(case hN => rfl)) | ((with_reducible apply NF);(case hx => rfl);(case hy => rfl);(case h => omega);(case hN => rfl)) | ((with_reducible apply Mf);(case hx => rfl);(case hy => rfl);(case h => omega);(case h' => omega);(case hN => rfl))  | ((with_reducible apply Nq);(case hx => rfl);(case hy => rfl);(case h => omega);(case hN => rfl)) | ((with_reducible apply NH);(case hx => rfl);(case hy => rfl);(case h => omega);(case hN => rfl)) | ((with_reducible apply Od);(case hx => rfl);(case hy => rfl);(case h => omega);(case hN => rfl)) | ((with_reducible apply Oa);(case hx => rfl);(case hy => rfl);(case h => rfl);(case hN => rfl)));exact k.pf) | fail):G := h ⟨k⟩
theorem PI {G K:Prop}(k:K) (h:Hy K → G := by first|(intro k;(first|((with_reducible apply uA);(case hx => rfl);(case hi => rfl);(case hm => (first|assumption | omega));(case hml => (first|rfl|assumption|omega));(case hα => infer_instance);(case hf => infer_instance);(case hg => infer_instance);(case hN => rfl)) | ((with_reducible apply Cy);(case hx => rfl);(case hi => rfl);(case hm => (first|assumption | omega));(case hN => rfl)) | ((with_reducible apply wE);(case hx => rfl);(case hi => rfl);(case hm => (first|assumption | omega | exact ⟨Int.emod_nonneg _ (by omega),Int.emod_lt_of_pos _ (by omega)⟩));(case hml => (first|rfl|assumption|omega));(case hα => infer_instance);(case hf => infer_instance);(case hg => infer_instance);(case hN => rfl)) | ((with_reducible apply EL);(case hx => rfl);(case hi => rfl);(case hm => (first|assumption | omega | exact ⟨Int.emod_nonneg _ (by omega),Int.emod_lt_of_pos _ (by omega)⟩));(case hN => rfl)) | ((with_reducible apply BK);(case hx => rfl);(case hi => rfl);(case hm => first|omega | assumption);(case hp => rfl);(case hN => rfl)) | ((with_reducible apply CJ);(case hx => rfl);(case hi => rfl);(case hm => first|omega | assumption);(case hN => rfl)));exact k.pf) | fail):G := h ⟨k⟩
theorem PM {G K:Prop}(k:K) (h:Hy K → G := by first|(intro k;(first|((with_reducible apply Mn);(case hx => rfl);(case hn => rfl);(case hN => rfl))  | ((with_reducible apply bU);(case hx => rfl);(case hy => rfl);(case hze => rfl);(case he0 => rfl);(case hH => rfl);(case hl => first|(rw [aI]; omega) | (rw [aI]; simp only [gD] <;> omega) | (simp [aI]; done) | decide | (simp;omega));(case hs' => first|rfl | exact Ok (by (first|rfl | assumption | omega)));(case hbig => omega);(case hmx => omega);(case hcs => first|exact G8 (by (first|assumption | omega | (simp only [gD] <;> omega) | decide)) | exact pN (by (first|assumption | omega | (simp only [gD] <;> omega) | decide)) | exact JA (by (first|assumption | omega | (simp only [gD] <;> omega) | decide)) | exact G3 (by (first|assumption | omega | (simp only [gD] <;> omega) | decide)) | exact Gj (by (first|assumption | omega | (simp only [gD] <;> omega) | decide)) | exact JY (by (first|assumption | omega | (simp only [gD] <;> omega) | decide)) | exact KO (by (first|assumption | omega | (simp only [gD] <;> omega) | decide))   | exact (rfl:_ = [_]) | exact (rfl:_ = [_,_]) | exact (rfl:_ = [_,_,_]) | exact (rfl:_ = [_,_,_,_]) | exact (rfl:_ = [_,_,_,_,_]) | exact (rfl:_ = [_,_,_,_,_,_]) | exact (rfl:_ = [_,_,_,_,_,_,_]) | exact (rfl:_ = [_,_,_,_,_,_,_,_]) | rfl);(case hM => rfl);(case hN => rfl)));exact k.pf) | fail):G := h ⟨k⟩
theorem PH {G K:Prop}(k:K) (h:Hy K → G := by first|(intro k;(first|((with_reducible apply Fu);(case hl => rfl);(case hf => (first|exact (rfl:_ = some [_]) | exact (rfl:_ = some [_,_]) | exact (rfl:_ = some [_,_,_]) | exact (rfl:_ = some [_,_,_,_]) | exact (rfl:_ = some [_,_,_,_,_]) | exact (rfl:_ = some [_,_,_,_,_,_]) | exact (rfl:_ = some [_,_,_,_,_,_,_]) | exact (rfl:_ = some [_,_,_,_,_,_,_,_]) | rfl));(case hk => (first|exact (rfl:_ = [_]) | exact (rfl:_ = [_,_]) | exact (rfl:_ = [_,_,_]) | exact (rfl:_ = [_,_,_,_]) | exact (rfl:_ = [_,_,_,_,_]) | exact (rfl:_ = [_,_,_,_,_,_]) | exact (rfl:_ = [_,_,_,_,_,_,_]) | exact (rfl:_ = [_,_,_,_,_,_,_,_]) | rfl));(case hN => rfl)) | ((with_reducible apply oP);(case hl => rfl);(case hf => (first|exact (rfl:_ = some [_]) | exact (rfl:_ = some [_,_]) | exact (rfl:_ = some [_,_,_]) | exact (rfl:_ = some [_,_,_,_]) | exact (rfl:_ = some [_,_,_,_,_]) | exact (rfl:_ = some [_,_,_,_,_,_]) | exact (rfl:_ = some [_,_,_,_,_,_,_]) | exact (rfl:_ = some [_,_,_,_,_,_,_,_]) | rfl));(case hN => rfl)));exact k.pf) | fail):G := h ⟨k⟩
theorem PR {G K:Prop}(k:K) (h:Hy K → G := by first|(intro k;(first|((with_reducible apply nH);(case hze => rfl);(case hsm => rfl);(case hl => rfl);(case hfl => (first|exact (rfl:_ = some [_]) | exact (rfl:_ = some [_,_]) | exact (rfl:_ = some [_,_,_]) | exact (rfl:_ = some [_,_,_,_]) | exact (rfl:_ = some [_,_,_,_,_]) | exact (rfl:_ = some [_,_,_,_,_,_]) | exact (rfl:_ = some [_,_,_,_,_,_,_]) | exact (rfl:_ = some [_,_,_,_,_,_,_,_]) | rfl));(case hM => rfl);(case hN => rfl)) | ((with_reducible apply nI);(case hx => rfl);(case hy => rfl);(case hze => rfl);(case hsm => omega);(case hmx => omega);(case hcs => first|exact NL | exact KV | exact Jj | exact D4 | rfl);(case hM => rfl);(case hN => rfl)));exact k.pf) | fail):G := h ⟨k⟩
theorem PO {G K:Prop}(k:K) (h:Hy K → G := by first|(intro k;(first|((with_reducible apply bB);(case hx => rfl);(case hy => rfl);(case hc => rfl);(case hn => rfl);(case hH => rfl);(case hl => (first|decide|(rw [aI]; simp only [gD] <;> omega)|omega|(simp;done)|(simp;omega)));(case hcs => first     | exact Dp (by (first|assumption | omega | (simp only [gD] <;> omega) | decide)) | exact IY (by (first|assumption | omega | (simp only [gD] <;> omega) | decide)) | exact I3 (by (first|assumption | omega | (simp only [gD] <;> omega) | decide)) | exact Mi (by (first|assumption | omega | (simp only [gD] <;> omega) | decide)) | exact D1 (by (first|assumption | omega | (simp only [gD] <;> omega) | decide)) | exact Ha (by (first|assumption | omega | (simp only [gD] <;> omega) | decide))   | exact zT (by (first|assumption | omega | (simp only [gD] <;> omega) | decide))  | exact (rfl:_ = [_]) | exact (rfl:_ = [_,_]) | exact (rfl:_ = [_,_,_]) | exact (rfl:_ = [_,_,_,_]) | exact (rfl:_ = [_,_,_,_,_]) | exact (rfl:_ = [_,_,_,_,_,_]) | exact (rfl:_ = [_,_,_,_,_,_,_]) | exact (rfl:_ = [_,_,_,_,_,_,_,_]) | rfl)) | ((with_reducible apply Av);(case hx => rfl);(case hy => rfl);(case hH => rfl);(case hl => first|assumption | omega | (simp only [gD] <;> omega));(case hc => first|rfl | (rw [eS]; first|assumption | (simp only [gD] <;> omega)))));exact k.pf) | fail):G := h ⟨k⟩
theorem Hk {G K:Prop}(k:K) (h:Hy K → G := by first|(intro k;(first|((with_reducible apply aF);first|((with_reducible apply Lp);(case hx => rfl);(case hN => rfl)) | ((with_reducible apply JJ);refine PY ?_) | ((with_reducible apply yW);(case hx => rfl);(case hp => rfl);(case hN => rfl)) | ((with_reducible apply Pr);refine PT ?_) | ((with_reducible apply N0);refine PN ?_) | ((with_reducible apply wC);(case hx => rfl);(case hN => rfl)) | ((with_reducible apply J1);first|((with_reducible apply HQ);(case hc => rfl);(case hb => first|rfl | assumption);(case hx => rfl);(case hN => rfl)) | ((with_reducible apply Hr);(case hc => rfl);(case hb => first|rfl | assumption);(case hx => rfl);(case hN => rfl))) | ((with_reducible apply Og);refine PI ?_) | ((with_reducible apply Oz);refine PM ?_) | ((with_reducible apply NQ);(case hf => kernel_rfl)) | ((with_reducible apply LD);first|((with_reducible apply w9);(case hx => rfl);(case h => first|exact L7 _ | omega);(case hN => rfl)) ) | ((with_reducible apply O6);first|((with_reducible apply De);(case hx => rfl);(case hi => rfl);(case hl => first|assumption | omega | (simp only [gD] <;> omega));(case hm => omega);(case hN => rfl))) | ((with_reducible apply Mg);refine PH ?_) | ((with_reducible apply Oe);first|((with_reducible apply EF);(case hx => rfl);(case hf => infer_instance);(case hl => rfl);(case hh => rfl);(case hb => first|omega | (simp only [List.length_take,List.length_drop,Int.toNat_natCast]; omega));(case hN => rfl))) | ((with_reducible apply lR);(case hf => rfl);(case hc => rfl);(case hN => rfl)) | ((with_reducible apply N3);(case hx => rfl);(case hN => rfl)) | ((with_reducible apply Nr);(case hx => rfl);(case hp => rfl);(case hN => rfl)) | ((with_reducible apply Nl);(case hx => rfl);(case hc => rfl);(case hM => rfl);(case hN => rfl)) | ((with_reducible apply Gv);(case hM => rfl);(case hN => rfl)) | ((with_reducible apply Di);(case hx => rfl);(case hc => rfl);(case hN => rfl)) | refine PR ?_ | refine PO ?_));exact k.pf) | fail):G := h ⟨k⟩
theorem P0 {G K:Prop}(k:K) (h:Hy K → G := by first|(intro k;(first|((with_reducible apply Du);first|with_reducible apply NU | with_reducible apply E6 | ((with_reducible apply H4);(case hc => rfl);(case hb => first|rfl | assumption)) | ((with_reducible apply H8);(case hc => rfl);(case hb => first|rfl | assumption)) | with_reducible apply Io | with_reducible apply Lb | with_reducible apply KD | with_reducible apply N7 ) | with_reducible apply Fq | with_reducible apply MO | with_reducible apply Kt | with_reducible apply E8 | with_reducible apply No | with_reducible apply JI | ((with_reducible apply bq_out);(case hij => decide)));exact k.pf) | fail):G := h ⟨k⟩
theorem aK {G c1 q1 c2 q2 K1 K2:Prop}(k1:c1 → q1 → K1) (k2:c2 → q2 → K2) (h:Hy (c1 → q1 → K1) → Hy (c2 → q2 → K2) → G := by first|(intro k1 k2;(with_reducible apply Du);(with_reducible apply yG);(case hc => rfl);(intro hc;have hq := hc;(try simp only [PF] at hq);first|exact k1.pf hc hq | exact k1.pf hc trivial);(intro hc;have hq := hc;(try simp only [PF] at hq);first|exact k2.pf hc hq | exact k2.pf hc trivial)) | fail):G := h ⟨k1⟩ ⟨k2⟩
theorem bW {G c1 q1 c2 q2 K1 K2:Prop}(k1:c1 → q1 → K1) (k2:c2 → q2 → K2) (h:Hy (c1 → q1 → K1) → Hy (c2 → q2 → K2) → G := by first|(intro k1 k2;(with_reducible apply aF);(with_reducible apply Pr);(with_reducible apply EG);(case hj => rfl);(case hb => rfl);(case hN => rfl);(intro hc;have hq := hc;(try simp only [PF] at hq);first|exact k1.pf hc hq | exact k1.pf hc trivial);(intro hc;have hq := hc;(try simp only [PF] at hq);first|exact k2.pf hc hq | exact k2.pf hc trivial)) | fail):G := h ⟨k1⟩ ⟨k2⟩
theorem bQ {G K:Prop}(k:K) (h:Hy K → G := by first|(intro k;(with_reducible apply Du);(with_reducible apply JU);(case hm => kernel_rfl);exact k.pf) | fail):G := h ⟨k⟩
theorem dT {G K:Prop}(k:K) (h:Hy K → G := by first|(intro k;(with_reducible apply aD);(case hr => rfl);exact k.pf) | fail):G := h ⟨k⟩
theorem AX {ts:List (Nat × AV)}:oN [] ts = [] := rfl
theorem wN {k:Nat}{v:AV}{ks:List Nat}{ts kt:List (Nat × AV)}(h:lk ts k = some v) (h2:oN ks ts = kt):oN (k :: ks) ts = (k,v) :: kt:=by
 subst h2;simp [oN,h]
theorem AI {hs:List (Nat × Option (List AV))}:qQ [] hs = [] := rfl
theorem wU {k:Nat}{v:List AV}{ks:List Nat}{hs kh:List (Nat × Option (List AV))}(h:aQ hs k = some v) (h2:qQ ks hs = kh):qQ (k :: ks) hs = (k,some v) :: kh:=by
 subst h2;simp [qQ,h]
section
variable {P : Program} {N : Nat} {Q : Exit → AS → Prop} {σ : Type} {c : Code} {ts : List (Nat × AV)} {hs : List (Nat × Option (List AV))} {n : Nat} {z0 : Lo}
theorem aH (ks js:List Nat){kt:List (Nat × AV)}{kh:List (Nat × Option (List AV))}(ot:σ → List (Nat × AV)) (oh:σ → List (Nat × Option (List AV))) (p:σ → Prop) (μ:σ → Nat) (i0:σ) (h0:p i0)
  (round : ∀ i,p i → AW P N c (pH (fun s' => ∃ j,p j ∧ μ j < μ i ∧ Le s' ⟨ot j ++ kt,oh j ++ kh,n,z0⟩) Q) ⟨ot i ++ kt,oh i ++ kh,n,z0⟩)
  (hk : oN ks ts = kt := by repeat' (first|exact AX|(apply wN;rfl))) (hj : qQ js hs = kh := by repeat' (first|exact AI|(apply wU;rfl)))
  (h1 : oC ts (ot i0) := by repeat' (first|exact trivial|refine And.intro rfl ?_)) (h2 : nC hs (oh i0) := by repeat' (first|exact trivial|refine And.intro (.inr rfl) ?_)) : AW P N (.loop c) Q ⟨ts,hs,n,z0⟩ :=
 Gi ks kt js kh ot oh p μ i0 h0 hk hj h1 h2 round
theorem dE (Rf:σ → List (List Bool)) (ks js:List Nat){kt:List (Nat × AV)}{kh:List (Nat × Option (List AV))}(ot:σ → List (Nat × AV)) (oh:σ → List (Nat × Option (List AV))) (p:σ → Prop) (μ:σ → Nat) (i0:σ) (h0:p i0)
  (round : ∀ i,p i → AW P N c (pH (fun s' => ∃ j,p j ∧ μ j < μ i ∧ Le s' ⟨ot j ++ kt,(oh j ++ kh) ++ gV (Rf j),n,⟨0,aT + (Rf j).length⟩⟩) Q) ⟨ot i ++ kt,(oh i ++ kh) ++ gV (Rf i),n,⟨0,aT + (Rf i).length⟩⟩)
  (hk : oN ks ts = kt := by repeat' (first|exact AX|(apply wN;rfl))) (hj : qQ js hs = kh := by repeat' (first|exact AI|(apply wU;rfl)))
  (h1 : oC ts (ot i0) := by repeat' (first|exact trivial|refine And.intro rfl ?_)) (h2 : nC hs (oh i0) := by repeat' (first|exact trivial|refine And.intro (.inr rfl) ?_))
  (hF : FamR (Rf i0) (Rf i0) hs hs := by repeat' (first|exact FamR.here|exact FamR.nil|(apply FamR.cons;focus rfl))) (hz : z0 = ⟨0,aT + (Rf i0).length⟩ := by first|rfl|(simp only [fO])) : AW P N (.loop c) Q ⟨ts,hs,n,z0⟩ :=
 Ag 0 Rf ks kt js kh ot oh p μ i0 h0 hk hj h1 h2 hF hz round
end
theorem Le.renA (m:List (Nat × Nat)){ts ts':List (Nat × AV)}{hs hs':List (Nat × Option (List AV))}{n n':Nat}{lo:Lo}(hm:HW lo.lo n' m = true := by rfl) (hn:lo.lo ≤ n' := by decide)
  (h1 : GW m lo ts ts' := by repeat' (first|exact trivial|refine And.intro ⟨_,rfl,?_⟩ ?_|refine And.intro ⟨_,_,rfl,rfl,?_⟩ ?_|exact Or.inr rfl|refine Or.inl ⟨?_,(by first|rfl|exact a8 _ _|exact Pur.pf|exact PurV.pf)⟩|refine Or.inr (All2.cons ?_ ?_)|refine All2.cons ?_ ?_|exact All2.nil|rfl))
  (h2 : CV m lo hs hs' := by repeat' (first|exact trivial|refine And.intro ⟨_,rfl,?_⟩ ?_|refine And.intro ⟨_,_,rfl,rfl,?_⟩ ?_|exact Or.inr rfl|refine Or.inl ⟨?_,(by first|rfl|exact a8 _ _|exact Pur.pf|exact PurV.pf)⟩|refine Or.inr (All2.cons ?_ ?_)|refine All2.cons ?_ ?_|exact All2.nil|rfl)) : Le ⟨ts,hs,n,lo⟩ ⟨ts',hs',n',lo⟩ :=
 Le.ren m hm hn h1 h2
section
variable {P : Program} {k : FuncId} {fn : Func} {c : Code} {args : List AV} {N : Nat}
theorem aC {Q:AV → Prop}(hf:P.funcs[k]? = some fn) (hn:fn.ntmps = N) (h:AW P N c (oQ P fn.results (fun r _ => Q r ∧ r.pur = true)) ⟨iI 0 args,[],0,⟨0,aT⟩⟩) (hb:fn.body = some c := by rfl)
  (hN : args.length ≤ N := by simp) : PC P k args Q := by subst hn;exact HM hf hb hN h
theorem aU {σ:Type}{H0:List (Nat × Option (List AV))}{n:Nat}{p:σ → Prop}{rr:σ → AV}{hh:σ → List (Nat × Option (List AV))}(hf:P.funcs[k]? = some fn) (hn:fn.ntmps = N)
  (h : AW P N c (oQ P fn.results (fun r H' => ∃ x,p x ∧ r = rr x ∧ ∀ id cs,aQ (hh x) id = some cs → H' id = some cs)) ⟨iI 0 args,H0,n,⟨n,aT⟩⟩) (hb : fn.body = some c := by rfl)
  (hN : args.length ≤ N := by simp) : MC P k args H0 n p rr hh := by subst hn;exact HF hf hb hN h
theorem AJ {R0:List (List Bool)}{r:AV}{hh:List (Nat × Option (List AV))}(hf:P.funcs[k]? = some fn) (hn:fn.ntmps = N)
  (h : AW P N c (oQ P fn.results (fun r' H' => r' = r ∧ ∀ id cs,aQ (hh ++ gV R0) id = some cs → H' id = some cs)) ⟨iI 0 args,gV R0,0,⟨0,aT + R0.length⟩⟩) (hb : fn.body = some c := by rfl)
  (hN : args.length ≤ N := by simp) : Oo P k args R0 r hh := by subst hn;exact II hf hb hN h
theorem GO {R1:List (List Bool)}{r:AV}(hf:P.funcs[k]? = some fn) (hn:fn.ntmps = N)
  (h : AW P N c (oQ P fn.results (fun r' H' => r' = r ∧ ∀ id cs,aQ (gV R1) id = some cs → H' id = some cs)) ⟨iI 0 args,[],0,⟨0,aT⟩⟩) (hb : fn.body = some c := by rfl)
  (hN : args.length ≤ N := by simp) : Py P k args r R1 := by subst hn;exact Hl hf hb hN h
end
def Je (l : List Int) : ByteArray := l.foldl (fun r n => r.push (UInt8.ofNat n.toNat)) .empty
def pO (v : Int) : ByteArray := Je [97 + v]
def Kd (n : Int) : ByteArray := Je [48 + n] ++ .empty
theorem DM (l:List UInt8):ByteArray.size ⟨l.toArray⟩ = l.length := rfl
theorem EJ (v:Int):(pO v).size = 1 := rfl
theorem FP (v:Int):(Kd v).size = 1 := by simp [Kd,Je,ByteArray.size_append]
def D9 (out : ByteArray) (k : Nat) (t : ByteArray) : ByteArray := (if 0 < k then out ++ ⟨#[59]⟩ else out) ++ t
mutual
def xG : Stmt → ByteArray
 | .mk op x y n th el =>
  if op = 1 then (pO x ++ ⟨#[61]⟩) ++ Kd n
  else if op = 2 then (pO x ++ ⟨#[61,98,111,120,32]⟩) ++ Kd n
  else if op = 3 then (pO x ++ ⟨#[61]⟩) ++ pO y
  else if op = 4 then (pO x ++ ⟨#[61,38]⟩) ++ pO y
  else if op = 5 then (pO x ++ ⟨#[61,38,109,117,116,32]⟩) ++ pO y
  else if op = 6 then (pO x ++ ⟨#[61,42]⟩) ++ pO y
  else if op = 7 then ((⟨#[42]⟩ ++ pO x) ++ ⟨#[61]⟩) ++ pO y
  else if op = 8 then ⟨#[100,114,111,112,32]⟩ ++ pO x
  else if op = 10 then (⟨#[108,111,111,112,123]⟩ ++ uJ .empty 0 th) ++ ⟨#[125]⟩
  else (((⟨#[105,102,123]⟩ ++ uJ .empty 0 th) ++ ⟨#[125,123]⟩) ++ uJ .empty 0 el) ++ ⟨#[125]⟩
def uJ (out : ByteArray) (k : Nat) : List Stmt → ByteArray
 | [] => out
 | s :: l => uJ (D9 out k (xG s)) (k + 1) l
end
mutual
theorem C3:∀ s,(xG s).size + 1 ≤ 11 * fP s
 | .mk op x y n th el => by
  have h1 := nW th .empty 0
  have h2 := nW el .empty 0
  have h3 : ByteArray.size .empty = 0 := rfl
  rw [xG]
  simp only [fP]
  repeat' split
  all_goals simp only [ByteArray.size_append,DM,List.length_cons,List.length_nil,EJ,FP]
  all_goals omega
theorem nW:∀ (l:List Stmt) (out:ByteArray) (k:Nat),(uJ out k l).size ≤ out.size + 11 * bE l
 | [],out,k => by simp only [uJ,bE]; omega
 | s :: l, out, k => by
  have h1 := C3 s
  have h2 := nW l (D9 out k (xG s)) (k + 1)
  have h3 : (D9 out k (xG s)).size ≤ out.size + 1 + (xG s).size := by
   unfold D9;split <;> simp only [ByteArray.size_append,DM,List.length_cons,List.length_nil] <;> omega
  simp only [uJ,bE]
  omega
end
end Go.AL
namespace Go.AL
theorem k5 {A n:Nat}(hv:∀ v,A.testBit v = true → v < n):A < 2 ^ n := Nat.lt_pow_two_of_testBit _ fun v h => by
 cases hq : Nat.testBit _ v with
 | false => rfl
 | true => have := hv v hq;omega
theorem iM {A n:Nat}(hn:n ≤ 62) (hv:A < 2 ^ n):Sm A := ⟨Nat.lt_of_lt_of_le hv (Nat.pow_le_pow_right (by decide) hn)⟩
structure FB (ts : List Int) (pts : List Pnt) (f : Flows ts pts) : Prop where
 la : f.Aa.length = pts.length
 lm : f.Am.length = pts.length
 ln : f.An.length = pts.length
 ll : f.Al.length = pts.length
 lp : f.Ap.length = pts.length
 bA : ∀ i : Nat,f.Aa[i]! < 2 ^ ts.length
 bM : ∀ i : Nat,f.Am[i]! < 2 ^ ts.length
 bN : ∀ i : Nat,f.An[i]! < 2 ^ ts.length
 bL : ∀ i : Nat,f.Al[i]! < 2 ^ ts.length
 bP : ∀ i : Nat,f.Ap[i]! < 2 ^ pts.length
 sA : ∀ i : Nat,Sm f.Aa[i]!
 sM : ∀ i : Nat,Sm f.Am[i]!
 sN : ∀ i : Nat,Sm f.An[i]!
 sL : ∀ i : Nat,Sm f.Al[i]!
 sP : ∀ i : Nat,Sm f.Ap[i]!
 rl : ∀ i,i < pts.length → (cD f.Af i).length = 6
 rs : ∀ i,i < pts.length → ∀ z : Nat,Sm (cD f.Af i)[z]!
 af : ∀ i,i < pts.length → K9 pts f.An i = f.Al[i]!
 kp : ∀ i,i < pts.length → kN ts pts[i]! f.Al[i]! (cD f.Af i) < 2 ^ pts.length
 lo : ∀ i,i < pts.length → kN ts pts[i]! f.Al[i]! (cD f.Af i) &&& f.Ap[i]! < 2 ^ pts.length
 cf : ∀ i,i < pts.length → rW ts pts f.Am f.Al f.Af f.Ap i < 2 ^ pts.length
theorem Flows.bnd {ts:List Int}{pts:List Pnt}(f:Flows ts pts) (w:WG ts pts):FB ts pts f:=by
 have hpl := w.pl
 have htl := w.tl
 have off : ∀ {A : List Nat} {n : Nat} {i : Nat}, A.length = pts.length → ¬ i < pts.length → A[i]! < 2 ^ n := fun {A n i} h hi => by
  rw [getElem!_neg A i (by omega)]; exact Nat.pow_pos (by decide)
 have bA : ∀ i : Nat, f.Aa[i]! < 2 ^ ts.length := fun i => by
  by_cases hi : i < pts.length
  ·exact k5 fun v hv => ((f.ga.2 i hi v).1 hv).1
  ·exact off f.ga.1 hi
 have bM : ∀ i : Nat, f.Am[i]! < 2 ^ ts.length := fun i => by
  by_cases hi : i < pts.length
  ·exact k5 fun v hv => rN w ((f.gm.2 i hi v).1 hv)
  ·exact off f.gm.1 hi
 have bN : ∀ i : Nat, f.An[i]! < 2 ^ ts.length := fun i => by
  by_cases hi : i < pts.length
  ·exact k5 fun v hv => oZ w ((f.gn.2 i hi v).1 hv)
  ·exact off f.gn.1 hi
 have bL : ∀ i : Nat, f.Al[i]! < 2 ^ ts.length := fun i => by
  by_cases hi : i < pts.length
  ·exact k5 fun v hv => by obtain ⟨k,_,h⟩ := (f.gl.2 i hi v).1 hv;exact oZ w h
  ·exact off f.gl.1 hi
 have bP : ∀ i : Nat, f.Ap[i]! < 2 ^ pts.length := fun i => by
  by_cases hi : i < pts.length
  ·exact k5 fun v hv => (lD ((f.gp.2 i hi v).1 hv)).1
  ·exact off f.gp.1 hi
 have rs : ∀ i, i < pts.length → ∀ z : Nat, (cD f.Af i)[z]! < 2 ^ pts.length := fun i hi z => by
  by_cases hz : z < 6
  ·rw [dK f.gf.1 hi hz]
   exact k5 fun v hv => (s8 w ((f.gf.2 i z hi hz v).1 hv)).2.2
  ·rw [getElem!_neg _ z (by rw [dZ f.gf.1 hi]; exact hz)]; exact Nat.pow_pos (by decide)
 have kp : ∀ i, i < pts.length → kN ts pts[i]! f.Al[i]! (cD f.Af i) < 2 ^ pts.length := fun i hi => k5 fun v hv => by
  unfold kN at hv
  rw [c9] at hv
  rcases hv with hv | ⟨z,hz,hv⟩
  ·simp at hv
  ·exact cH (rs i hi _) hv
 have lo : ∀ i,i < pts.length → kN ts pts[i]! f.Al[i]! (cD f.Af i) &&& f.Ap[i]! < 2 ^ pts.length := fun i hi => Nat.and_lt_two_pow _ (bP i)
 refine ⟨f.ga.1, f.gm.1, f.gn.1, f.gl.1, f.gp.1, bA, bM, bN, bL, bP, fun i => iM (by omega) (bA i), fun i => iM (by omega) (bM i), fun i => iM (by omega) (bN i), fun i => iM (by omega) (bL i), fun i => iM (by omega) (bP i),
  fun i hi => dZ f.gf.1 hi,fun i hi z => iM (by omega) (rs i hi z),fun i hi => ?_,kp,lo,fun i hi => qR w (bP i)⟩
 rw [wJ f.gl (Bx w f.gn),aX _ _ _ hi]
def Bj (pts : List Pnt) (l : Nat) (c : Acc) : Bool := decide (c.var = pts[l]!.y) && (c.write || decide (pts[l]!.op = 5))
theorem Jp {ts:List Int}{pts:List Pnt}(w:WG ts pts) (f:Flows ts pts){i l:Nat}(hi:i < pts.length) (hl:l < pts.length) (hln:bT pts[l]! = true) :
  (rW ts pts f.Am f.Al f.Af f.Ap i).testBit l = ((fE ts pts[i]! (f.Am[i]!.testBit (aL pts[i]!).toNat)).any (Bj pts l) && ((kN ts pts[i]! f.Al[i]! (cD f.Af i)).testBit l && f.Ap[i]!.testBit l)) := by
 have b := f.bnd w
 have hpl := w.pl
 have hy := l5 w hl hln
 rw [Bool.eq_iff_iff]
 unfold rW
 rw [eZ _ _ _ (iM (by omega) (b.lo i hi)),Bool.and_eq_true,List.any_eq_true,← Nat.testBit_and]
 simp only [Nat.zero_testBit,Bool.false_eq_true,false_or]
 constructor
 ·rintro ⟨c, hc, h1, h2, h3⟩
  refine ⟨⟨c,hc,?_⟩,h1⟩
  rw [e8] at h2
  simp only [Bool.and_eq_true,decide_eq_true_eq] at h2
  have e2 := h2.2.2
  rw [Nat.testBit_two_pow,decide_eq_true_eq] at e2
  have hcv := sO _ w hi c hc
  unfold Bj
  rw [decide_eq_true (by omega : c.var = pts[l]!.y)]
  rcases h3 with h3|h3
  ·rw [h3]; rfl
  ·rw [decide_eq_true h3]; simp
 ·rintro ⟨⟨c, hc, h⟩, h1⟩
  unfold Bj at h
  simp only [Bool.and_eq_true,Bool.or_eq_true,decide_eq_true_eq] at h
  refine ⟨c,hc,h1,?_,h.2⟩
  rw [e8,decide_eq_true hl,hln,h.1,Nat.testBit_two_pow_self]; rfl
end Go.AL
namespace Go.AL
section
variable {P : Program} {C : Ctx} {ι : Pl} {F : Nat → Prop} {T : Nat → Option AV} {H : Nat → Option (List AV)} {a : Act} {w : World} {o : Oper}
theorem u9 (z:Array Value):∀ n,(Builtin.zeroCells z n).toList = (List.replicate n z.toList).flatten := fun n => by
 have := qV z n (n * z.size) rfl
 simpa [Builtin.zeroCells,madeCells] using this
end
theorem Le.cut {ts:List (Nat × AV)}{hs:List (Nat × Option (List AV))}{n:Nat}{z0:Lo}{i:Nat}{cs:List AV}(k:Nat) (hi:aQ hs i = some cs) :
  Le ⟨ts,hs,n,z0⟩ ⟨ts,(i,some (cs.take k)) :: hs,n,z0⟩ := by
 rintro C a w ⟨h0,ι,g,gh⟩
 have hσ : ∀ id c, aQ ((i, some (cs.take k)) :: hs) id = some c → ∃ c0, aQ hs id = some c0 ∧ (c = c0 ∨ c = c0.take k) := by
  intro id c h
  rw [cM] at h
  split at h
  ·rename_i e;subst e;cases h;exact ⟨cs,hi,.inr rfl⟩
  ·exact ⟨c,h,.inl rfl⟩
 have car : Carry w (aJ C.X ι (aQ hs)) ι w (aJ C.X ι (aQ ((i, some (cs.take k)) :: hs))) ι := by
  refine ⟨fun b o' x h1 h2 => ⟨?_,h2⟩,fun _ _ h => h,fun _ => Nat.le_refl _⟩
  rintro (h | ⟨id,c,β,q1,q2⟩)
  ·exact h1 (.inl h)
  ·obtain ⟨c0, r, _⟩ := hσ id c q1
   exact h1 (.inr ⟨id,c0,β,r,q2⟩)
 refine ⟨h0,ι,⟨g.df,g.sz,fun t av ht => ?_⟩,⟨fun id c h => ?_,fun id id' c c' b β β' q1 q2 q3 q4 => ?_,gh.fr,gh.ex,gh.fresh⟩⟩
 ·obtain ⟨y, hy, hr⟩ := g.tm t av ht
  exact ⟨y,hy,Rd.carry car _ _ hr⟩
 ·obtain ⟨c0, r, e⟩ := hσ id c h
  rcases gh.obj id c0 r with ⟨h1,h2⟩ | ⟨b',β',arr',e',h1,h2,h3,h4,h5,h6⟩
  ·refine .inl ⟨h1, ?_⟩
   rcases e with e|e
   ·rw [e,h2]
   ·rw [e,h2]; simp
  ·refine .inr ⟨b', β', arr', e', h1, h2, ?_, ?_, h5, h6⟩
   ·rcases e with e | e
    ·rw [e]; exact h3
    ·rw [e,List.length_take]; omega
   ·have h7 := RdC.carryB car _ _ _ (fun o x hx => hx) h4
    rcases e with e|e
    ·rw [e]; exact h7
    ·rw [e]; exact RdC.take k h7
 ·obtain ⟨_, r1, _⟩ := hσ id c q1
  obtain ⟨_,r2,_⟩ := hσ id' c' q2
  exact gh.sep _ _ _ _ _ _ _ r1 r2 q3 q4
section
variable {P : Program} {N : Nat} {Q : Exit → AS → Prop} {all : Array Oper} {rest : List Oper} {ts : List (Nat × AV)} {hs : List (Nat × Option (List AV))} {n : Nat} {z0 : Lo}
variable {d : Nat} {ty : TypeId} {pos : String} {af : Array Edge}
theorem fM {fn:Go.Fn}{cs:Array Operand}{i:Nat}{cc c:List AV}(t:Nat) (hx:lk ts t = some (.optr i 0)) (hH:aQ hs i = some cc) (hc:evL (lk ((t,.iptr cc) :: ts)) cs.toList = some c) (hN:Nat.blt d N = true)
  (kk : RW P N all Q .txt rest ⟨(d,.clos fn [] c) :: (t,.iptr cc) :: ts,(i,none) :: hs,n,z0⟩) : RW P N all Q .txt (⟨some d,.makeFunc fn #[] cs,ty,pos,af,none⟩ :: rest) ⟨ts,hs,n,z0⟩ :=
 c8 (lR (f := []) (c := c) rfl hc hN (md' := .txt) kk) (Le.frzP hx hH)
end
structure Bnd where
 var : Int
 loan : Int
 src : Int
 deriving Inhabited,DecidableEq
def z2 (b : Bnd) : List AV := [iv b.var,iv b.loan,iv b.src]
instance : FlT z2 3:=⟨fun s => rfl⟩
instance : FE z2 (fun b => [iv b.var,iv b.loan,iv b.src]):=⟨fun _ => rfl⟩
instance (s : Bnd) : Pur (z2 s):=⟨rfl⟩
theorem sH {xs:List Bnd}{m:Nat}{a b c:Int}(hm:m = xs.length):((flat z2 xs).drop 0).take (m * 3) ++ [iv a,iv b,iv c] = flat z2 (xs ++ [⟨a,b,c⟩]) := dX hm rfl
structure WT (ts : List Int) (pts : List Pnt) : Prop where
 mv : ∀ i,i < pts.length → pts[i]!.op = 3 → ts[pts[i]!.x.toNat]! = ts[pts[i]!.y.toNat]! ∧ pts[i]!.x ≠ pts[i]!.y
 ln : ∀ i,i < pts.length → pts[i]!.op = 4 ∨ pts[i]!.op = 5 → dV ts[pts[i]!.x.toNat]! = true ∧ pts[i]!.x ≠ pts[i]!.y
def PtY (ts : List Int) (x : Pnt) : Prop := (x.op = 3 → ts[x.x.toNat]! = ts[x.y.toNat]! ∧ x.x ≠ x.y) ∧ (x.op = 4 ∨ x.op = 5 → dV ts[x.x.toNat]! = true ∧ x.x ≠ x.y)
theorem jG {ts:List Int}{v:Int}(h:0 < fG ts v):fG ts v = ts[v.toNat]!:=by
 unfold fG at h ⊢
 split at h
 ·rename_i c;rw [if_pos c]
 ·omega
theorem E0 {ts:List Int}{s:Stmt}(h:dN ts s = true):(s.op = 3 → ts[s.x.toNat]! = ts[s.y.toNat]! ∧ s.x ≠ s.y) ∧ (s.op = 4 ∨ s.op = 5 → dV ts[s.x.toNat]! = true ∧ s.x ≠ s.y):=by
 unfold dN at h
 dsimp only at h
 refine ⟨fun h3 => ?_,fun h4 => ?_⟩
 ·rw [h3] at h
  simp only [show ¬ (3 : Int) = 1 by decide,show ¬ (3 : Int) = 2 by decide,if_false,if_true] at h
  split at h
  ·cases h
  ·simp only [decide_eq_true_eq] at h
   refine ⟨?_,h.2.2⟩
   rw [← jG h.2.1,h.1,jG (by omega)]
 ·rcases h4 with h4 | h4 <;> rw [h4] at h
  ·simp only [show ¬ (4 : Int) = 1 by decide, show ¬ (4 : Int) = 2 by decide, show ¬ (4 : Int) = 3 by decide, if_false, if_true] at h
   split at h
   ·cases h
   ·simp only [decide_eq_true_eq] at h
    refine ⟨?_,h.2.2⟩
    rw [← jG (by omega),h.1]; rfl
  ·simp only [show ¬ (5 : Int) = 1 by decide, show ¬ (5 : Int) = 2 by decide, show ¬ (5 : Int) = 3 by decide, show ¬ (5 : Int) = 4 by decide, if_false, if_true] at h
   split at h
   ·cases h
   ·simp only [decide_eq_true_eq] at h
    refine ⟨?_,h.2.2⟩
    rw [← jG (by omega),h.1]; rfl
theorem PtY.no {ts:List Int}{x:Pnt}(h:9 ≤ x.op):PtY ts x := ⟨fun e => by omega,fun e => by omega⟩
mutual
theorem Nh {ts:List Int}:∀ (s:Stmt) (d b:Nat),qP ts d s = true → ∀ x ∈ vP b s,PtY ts x
 | .mk op x y n th el, d, b, h => by
  simp only [qP] at h
  split at h
  ·rename_i hop
   simp only [Bool.and_eq_true] at h
   have hs := E0 h.2
   simp only [Stmt.op,Stmt.x,Stmt.y] at hs
   simp only [vP,hop.1,hop.2,if_false,List.mem_singleton]
   rintro z rfl
   exact hs
  ·rename_i hop
   cases d with
   | zero => cases h
   | succ d =>
    simp only [Bool.and_eq_true,decide_eq_true_eq] at h
    obtain ⟨⟨⟨_,_⟩,h1⟩,h2⟩ := h
    by_cases h9 : op = 9
    ·subst h9
     simp only [vP,if_true,List.mem_append,List.mem_singleton]
     rintro z (((rfl|hz)|rfl)|hz)
     ·exact PtY.no (by simp)
     ·exact vL th d (b + 1) h1 z hz
     ·exact PtY.no (by simp)
     ·exact vL el d (b + 2 + dA th) h2 z hz
    ·have h10 : op = 10 := by omega
     subst h10
     simp only [vP,if_true,show ((10 : Int) = 9) = False by simp,if_false,List.mem_append,List.mem_singleton]
     rintro z ((rfl|hz)|rfl)
     ·exact PtY.no (by simp)
     ·exact vL th d (b + 1) h1 z hz
     ·exact PtY.no (by simp)
theorem vL {ts:List Int}:∀ (l:List Stmt) (d b:Nat),okL ts d l = true → ∀ x ∈ fV b l,PtY ts x
 | [],d,b,h => by simp [fV]
 | s :: l, d, b, h => by
  simp only [okL,Bool.and_eq_true] at h
  simp only [fV,List.mem_append]
  rintro x (hx|hx)
  ·exact Nh s d b h.1 x hx
  ·exact vL l d (b + oA s) h.2 x hx
end
theorem WT.of_valid {p:Prg}(h:bD p = true):WT p.types (aB p):=by
 unfold bD at h
 simp only [Bool.and_eq_true,decide_eq_true_eq] at h
 obtain ⟨⟨_,hl⟩,_⟩ := h
 have key : ∀ i, i < (aB p).length → PtY p.types (aB p)[i]! := by
  intro i hi
  have hm := aR _ i hi
  unfold aB at hm
  rw [List.mem_append,List.mem_singleton] at hm
  rcases hm with hm|hm
  ·exact vL p.body 4 0 hl _ hm
  ·unfold aB;rw [hm]; exact PtY.no (by simp)
 exact ⟨fun i hi => (key i hi).1,fun i hi => (key i hi).2⟩
def Jt (ts : List Int) (pts : List Pnt) (i : Nat) : List Bnd :=
 (if bT pts[i]! = true then [⟨pts[i]!.x,i,-1⟩] else []) ++ (if (bT pts[i]! = true ∨ pts[i]!.op = 3) ∧ dV ts[pts[i]!.y.toNat]! = true then [⟨pts[i]!.x,-1,pts[i]!.y⟩] else [])
def j8 (ts : List Int) (pts : List Pnt) (k : Nat) : List Bnd := (List.range k).flatMap (Jt ts pts)
theorem tA (ts:List Int) (pts:List Pnt) (k:Nat):j8 ts pts (k + 1) = j8 ts pts k ++ Jt ts pts k:=by
 unfold j8;rw [List.range_succ,List.flatMap_append]; simp
theorem J0 (ts:List Int) (pts:List Pnt) (i:Nat):(Jt ts pts i).length ≤ 2:=by
 unfold Jt;split <;> split <;> simp
theorem zR (ts:List Int) (pts:List Pnt):∀ k,(j8 ts pts k).length ≤ 2 * k
 | 0 => by simp [j8]
 | k + 1 => by
  rw [tA,List.length_append]
  have := zR ts pts k
  have := J0 ts pts k
  omega
theorem yE {ts:List Int}{pts:List Pnt}{k:Nat}{b:Bnd}:b ∈ j8 ts pts k ↔ ∃ i,i < k ∧ b ∈ Jt ts pts i:=by
 unfold j8;rw [List.mem_flatMap]; simp
structure BOk (nt n : Nat) (b : Bnd) : Prop where
 v : 0 ≤ b.var ∧ b.var < nt
 k : (0 ≤ b.loan ∧ b.loan < n ∧ b.src = -1) ∨ (b.loan = -1 ∧ 0 ≤ b.src ∧ b.src < nt ∧ b.src ≠ b.var)
theorem oU {ts:List Int}{pts:List Pnt}(w:WG ts pts) (t:WT ts pts){b:Bnd}(h:b ∈ j8 ts pts pts.length):BOk ts.length pts.length b:=by
 obtain ⟨i,hi,hb⟩ := yE.1 h
 unfold Jt at hb
 have hx := w.x i hi
 have hy := w.y i hi
 rcases List.mem_append.1 hb with hb|hb
 ·split at hb
  ·rename_i hl
   have := fN hl
   rw [List.mem_singleton] at hb;subst hb
   exact ⟨⟨hx.1,hx.2 (by omega)⟩,.inl ⟨by dsimp only;omega,by dsimp only;omega,rfl⟩⟩
  ·simp at hb
 ·split at hb
  ·rename_i hl
   have h3 : pts[i]!.op = 3 ∨ pts[i]!.op = 4 ∨ pts[i]!.op = 5 := by
    rcases hl.1 with h|h
    ·exact .inr (fN h)
    ·exact .inl h
   rw [List.mem_singleton] at hb;subst hb
   refine ⟨⟨hx.1,hx.2 (by omega)⟩,.inr ⟨rfl,hy.1,hy.2 (by omega) (by omega),fun e => ?_⟩⟩
   dsimp only at e
   rcases h3 with h|h
   ·exact (t.mv i hi h).2 e.symm
   ·exact (t.ln i hi h).2 e.symm
  ·simp at hb
def Rg (ts : List Int) (pts : List Pnt) (a : Nat × Nat) : Prop := Clo (fun a : Nat × Nat => ∃ b,b ∈ j8 ts pts pts.length ∧ b.var = (a.1 : Int) ∧ b.loan = (a.2 : Int))
 (fun a c => c.2 = a.2 ∧ ∃ b,b ∈ j8 ts pts pts.length ∧ b.src = (a.1 : Int) ∧ b.var = (c.1 : Int)) a
theorem L6 {ts:List Int}{pts:List Pnt}(w:WG ts pts) (t:WT ts pts){a:Nat × Nat}(h:Rg ts pts a):a.1 < ts.length ∧ a.2 < pts.length:=by
 induction h with
 | @base a h =>
  obtain ⟨b,hb,h1,h2⟩ := h
  have hk := oU w t hb
  have := hk.v
  rcases hk.k with h|h <;> exact ⟨by omega,by omega⟩
 | @step a c _ r ih =>
  obtain ⟨e,b,hb,h1,h2⟩ := r
  have := (oU w t hb).v
  exact ⟨by omega,by rw [e]; exact ih.2⟩
def GoodG (ts : List Int) (pts : List Pnt) (A : List Nat) : Prop := A.length = 6 ∧ ∀ v,v < 6 → ∀ l,A[v]!.testBit l = true ↔ Rg ts pts (v,l)
theorem GoodG.exist {ts:List Int}{pts:List Pnt}(w:WG ts pts) (t:WT ts pts):∃ A,GoodG ts pts A:=by
 obtain ⟨A,h1,h2⟩ := kW 6 pts.length (fun v l => Rg ts pts (v,l)) (fun v l _ h => (L6 w t h).2)
 exact ⟨A,h1,h2⟩
def Bk (A : List Nat) (b : Bnd) : Nat := if b.src < 0 then A[b.var.toNat]! ||| 2 ^ b.loan.toNat else A[b.var.toNat]! ||| A[b.src.toNat]!
def Eh (s : List Nat × Bool) (b : Bnd) : List Nat × Bool := if Bk s.1 b ≠ s.1[b.var.toNat]! then (s.1.set b.var.toNat (Bk s.1 b),true) else s
structure SRg (ts : List Int) (pts : List Pnt) (A : List Nat) : Prop where
 l : A.length = 6
 b : ∀ v : Nat,A[v]! < 2 ^ pts.length
 s : ∀ v : Nat,∀ l,A[v]!.testBit l = true → Rg ts pts (v,l)
theorem SRg.rep (ts:List Int) (pts:List Pnt):SRg ts pts (List.replicate 6 0):=by
 have h : ∀ v : Nat, (List.replicate 6 0)[v]! = 0 := fun v => by
  by_cases hv : v < 6
  ·exact cV _ _ _ hv
  ·rw [getElem!_neg _ v (by simpa using hv)]; rfl
 exact ⟨by simp,fun v => by rw [h]; exact Nat.pow_pos (by decide),fun v l hl => by rw [h] at hl;simp at hl⟩
theorem HE {a b:Nat}(h:a ||| b ≠ a):a < a ||| b:=by
 have := Nat.left_le_or (n := a) (m := b)
 omega
theorem Ol {ts:List Int}{pts:List Pnt}(w:WG ts pts) (t:WT ts pts){A:List Nat}(S:SRg ts pts A){b:Bnd}(hb:b ∈ j8 ts pts pts.length) :
  Bk A b < 2 ^ pts.length ∧ (∀ l,(Bk A b).testBit l = true → Rg ts pts (b.var.toNat,l)) ∧ ∃ y,Bk A b = A[b.var.toNat]! ||| y := by
 have ok := oU w t hb
 have hv := ok.v
 unfold Bk
 rcases ok.k with ⟨h1,h2,h3⟩ | ⟨h1,h2,h3,_⟩
 ·rw [if_pos (by omega)]
  refine ⟨Nat.or_lt_two_pow (S.b _) (Nat.pow_lt_pow_right (by decide) (by omega)),fun l hl => ?_,_,rfl⟩
  rw [Nat.testBit_or,Bool.or_eq_true] at hl
  rcases hl with hl|hl
  ·exact S.s _ l hl
  ·rw [Nat.testBit_two_pow] at hl
   have hl := of_decide_eq_true hl
   exact .base ⟨b,hb,by dsimp only;omega,by dsimp only;omega⟩
 ·rw [if_neg (by omega)]
  refine ⟨Nat.or_lt_two_pow (S.b _) (S.b _),fun l hl => ?_,_,rfl⟩
  rw [Nat.testBit_or,Bool.or_eq_true] at hl
  rcases hl with hl|hl
  ·exact S.s _ l hl
  ·exact .step (a := (b.src.toNat,l)) (S.s _ l hl) ⟨rfl,b,hb,by dsimp only;omega,by dsimp only;omega⟩
theorem Ee {ts:List Int}{pts:List Pnt}(w:WG ts pts) (t:WT ts pts) (A:List Nat) (c:Bool) (b:Bnd) (hb:b ∈ j8 ts pts pts.length) (S:SRg ts pts A) :
  SRg ts pts (Eh (A,c) b).1 ∧ ((Eh (A,c) b = (A,c) ∧ Bk A b = A[b.var.toNat]!) ∨ ((Eh (A,c) b).2 = true ∧ eI ((Eh (A,c) b).1.map (fun x => 2 ^ pts.length - x)) < eI (A.map (fun x => 2 ^ pts.length - x)))) := by
 obtain ⟨h1,h2,y,h3⟩ := Ol w t S hb
 have ok := oU w t hb
 have hv := ok.v
 have htl := w.tl
 have hl := S.l
 unfold Eh
 dsimp only
 by_cases hc : Bk A b ≠ A[b.var.toNat]!
 ·rw [if_pos hc]
  refine ⟨⟨by rw [List.length_set]; exact hl,fun v => ?_,fun v l hb' => ?_⟩,.inr ⟨rfl,?_⟩⟩
  ·rw [aP]; split
   ·exact h1
   ·exact S.b v
  ·rw [aP] at hb'; split at hb'
   ·rename_i e;rw [← e.1]; exact h2 l hb'
   ·exact S.s v l hb'
  ·have e1 := lU (fun x => 2 ^ pts.length - x) A b.var.toNat (Bk A b) (by omega)
   have e2 : A[b.var.toNat]! < Bk A b := by rw [h3] at hc ⊢; exact HE hc
   dsimp only at e1 ⊢
   omega
 ·rw [if_neg hc]
  exact ⟨S,.inl ⟨rfl,Classical.not_not.1 hc⟩⟩
def PV (ts : List Int) (pts : List Pnt) (A : List Nat) : Prop := ∀ b ∈ j8 ts pts pts.length,Bk A b = A[b.var.toNat]!
theorem JR {ts:List Int}{pts:List Pnt}(w:WG ts pts) (t:WT ts pts) (A:List Nat) (c:Bool) (S:SRg ts pts A) :
  SRg ts pts ((j8 ts pts pts.length).foldl Eh (A,c)).1 ∧ (((j8 ts pts pts.length).foldl Eh (A,c) = (A,c) ∧ PV ts pts A) ∨ (((j8 ts pts pts.length).foldl Eh (A,c)).2 = true ∧ eI (((j8 ts pts pts.length).foldl Eh (A,c)).1.map (fun x => 2 ^ pts.length - x)) < eI (A.map (fun x => 2 ^ pts.length - x)))) :=
 hG Eh (fun b s => Bk s b = s[b.var.toNat]!) (fun s => eI (s.map (fun x => 2 ^ pts.length - x))) (SRg ts pts) (j8 ts pts pts.length) (fun s c' b hb hs => Ee w t s c' b hb hs) A c S
theorem Ji {a b:Nat}(h:a ||| b = a){l:Nat}(hl:b.testBit l = true):a.testBit l = true:=by
 have : (a ||| b).testBit l = true := by rw [Nat.testBit_or,hl,Bool.or_true]
 rwa [h] at this
theorem G6 {ts:List Int}{pts:List Pnt}(w:WG ts pts) (t:WT ts pts){A:List Nat}(S:SRg ts pts A) (hC:PV ts pts A):GoodG ts pts A:=by
 refine ⟨S.l,fun v hv l => ⟨S.s v l,fun h => ?_⟩⟩
 have key : ∀ a : Nat × Nat, Rg ts pts a → A[a.1]!.testBit a.2 = true := by
  refine Clo.sub ?_ ?_
  ·rintro ⟨v, l⟩ ⟨b, hb, h1, h2⟩
   have hc := hC b hb
   have ok := oU w t hb
   dsimp only at h1 h2 ⊢
   unfold Bk at hc
   rcases ok.k with ⟨k1,k2,k3⟩ | ⟨k1,_⟩
   ·rw [if_pos (by omega)] at hc
    have e1 : b.var.toNat = v := by omega
    have e2 : b.loan.toNat = l := by omega
    rw [e1,e2] at hc
    exact Ji hc (by rw [Nat.testBit_two_pow]; simp)
   ·omega
  ·rintro ⟨v, l⟩ ⟨v', l'⟩ hh ⟨e, b, hb, h1, h2⟩
   have hc := hC b hb
   dsimp only at e h1 h2 hh ⊢
   subst e
   unfold Bk at hc
   rw [if_neg (by omega)] at hc
   have e1 : b.var.toNat = v' := by omega
   have e2 : b.src.toNat = v := by omega
   rw [e1,e2] at hc
   exact Ji hc hh
 exact key (v,l) h
theorem ES {ts:List Int}{pts:List Pnt}{A B:List Nat}(h1:GoodG ts pts A) (h2:GoodG ts pts B):A = B:=by
 refine bS (by rw [h1.1,h2.1]) fun v hv => ?_
 rw [h1.1] at hv
 apply Nat.eq_of_testBit_eq
 intro l
 rw [Bool.eq_iff_iff,h1.2 v hv l,h2.2 v hv l]
def tW (R : List (List Bool)) (b : Bnd) : List (List Bool) :=
 if 0 ≤ b.loan then R.set b.var.toNat (R[b.var.toNat]!.set b.loan.toNat true) else R.set b.var.toNat (fY R[b.var.toNat]! R[b.src.toNat]!)
def Hn (L : List Bnd) (R : List (List Bool)) : Nat → List (List Bool)
 | 0 => R
 | k + 1 => L.foldl tW (Hn L R k)
structure SRr (ts : List Int) (pts : List Pnt) (R : List (List Bool)) : Prop where
 l : R.length = ts.length
 r : ∀ v,v < ts.length → R[v]!.length = pts.length
 s : ∀ v,v < ts.length → ∀ l,l < pts.length → R[v]![l]! = true → Rg ts pts (v,l)
def y6 (nt l : Nat) (R : List (List Bool)) : Nat := kS (fun v => if R[v]![l]! = true then 1 else 0) nt
def PU (l : Nat) (R : List (List Bool)) (b : Bnd) : Prop := (b.loan = (l : Int) → R[b.var.toNat]![l]! = true) ∧ (0 ≤ b.src → R[b.src.toNat]![l]! = true → R[b.var.toNat]![l]! = true)
theorem SRr.rep (ts:List Int) (pts:List Pnt):SRr ts pts (List.replicate ts.length (List.replicate pts.length false)):=by
 refine ⟨by simp,fun v hv => by rw [cV _ _ _ hv]; simp,fun v hv l hl h => ?_⟩
 rw [cV _ _ _ hv,cV _ _ _ hl] at h;cases h
theorem GX {ts:List Int}{pts:List Pnt}{R:List (List Bool)}(S:SRr ts pts R){l:Nat}(hl:l < pts.length) (hC:∀ b ∈ j8 ts pts pts.length,PU l R b):∀ v,v < ts.length → (R[v]![l]! = true ↔ Rg ts pts (v,l)) := fun v hv => by
 refine ⟨S.s v hv l hl,fun h => ?_⟩
 have key : ∀ a : Nat × Nat, Rg ts pts a → a.2 = l → R[a.1]![l]! = true := by
  intro a ha
  induction ha with
  | @base a h =>
   intro e
   obtain ⟨b,hb,h1,h2⟩ := h
   have := (hC b hb).1 (by omega)
   rwa [show b.var.toNat = a.1 by omega] at this
  | @step a c _ r ih =>
   intro e
   obtain ⟨e1,b,hb,h1,h2⟩ := r
   have := (hC b hb).2 (by omega) (by rw [show b.src.toNat = a.1 by omega]; exact ih (by omega))
   rwa [show b.var.toNat = c.1 by omega] at this
 exact key (v,l) h rfl
section
variable {ts : List Int} {pts : List Pnt} (w : WG ts pts) (t : WT ts pts)
include w t
theorem M8 {R:List (List Bool)}(S:SRr ts pts R){b:Bnd}(hb:b ∈ j8 ts pts pts.length) :
  SRr ts pts (tW R b) ∧ (∀ v,v < ts.length → ∀ l,l < pts.length → R[v]![l]! = true → (tW R b)[v]![l]! = true) ∧
  ∀ l,l < pts.length → ((∀ v,v < ts.length → (tW R b)[v]![l]! = R[v]![l]!) ∧ PU l R b) ∨ y6 ts.length l R < y6 ts.length l (tW R b) := by
 have ok := oU w t hb
 have hv := ok.v
 have hl := S.l
 have hvl : b.var.toNat < ts.length := by omega
 have hrl := S.r _ hvl
 -- the new row, bit by bit
 obtain ⟨row, e, hlen, hbit⟩ : ∃ row, tW R b = R.set b.var.toNat row ∧ row.length = pts.length ∧ ∀ l, l < pts.length → (row[l]! = true ↔ (R[b.var.toNat]![l]! = true ∨ b.loan = (l : Int) ∨ (0 ≤ b.src ∧ R[b.src.toNat]![l]! = true))) := by
  unfold tW
  rcases ok.k with ⟨h1,h2,h3⟩ | ⟨h1,h2,h3,_⟩
  ·rw [if_pos h1]
   refine ⟨_,rfl,by rw [List.length_set]; exact hrl,fun l hl => ?_⟩
   rw [aP]
   by_cases q : b.loan.toNat = l
   ·rw [if_pos ⟨q,by omega⟩]; exact ⟨fun _ => .inr (.inl (by omega)),fun _ => rfl⟩
   ·rw [if_neg (by omega)]
    exact ⟨.inl,fun h => by rcases h with h|h|h;exact h;omega;omega⟩
  ·rw [if_neg (by omega)]
   have hsl := S.r b.src.toNat (by omega)
   refine ⟨_,rfl,by rw [fL]; exact hrl,fun l hl => ?_⟩
   rw [eQ _ _ _ (by omega),decide_eq_true (by omega : l < R[b.src.toNat]!.length),Bool.true_and,Bool.or_eq_true]
   exact ⟨fun h => h.elim .inl (fun h => .inr (.inr ⟨h2,h⟩)),fun h => by rcases h with h|h|h;exact .inl h;omega;exact .inr h.2⟩
 have hget : ∀ v, (tW R b)[v]! = if v = b.var.toNat then row else R[v]! := fun v => by
  rw [e,aP]
  by_cases q : b.var.toNat = v
  ·rw [if_pos ⟨q,by omega⟩,if_pos q.symm]
  ·rw [if_neg (by omega),if_neg (fun h => q h.symm)]
 have hmono : ∀ v, v < ts.length → ∀ l, l < pts.length → R[v]![l]! = true → (tW R b)[v]![l]! = true := fun v _ l hl h => by
  rw [hget]; split
  ·rename_i q;subst q;exact (hbit l hl).2 (.inl h)
  ·exact h
 refine ⟨⟨by rw [e,List.length_set]; exact hl,fun v hv => ?_,fun v hv l hl h => ?_⟩,hmono,fun l hl => ?_⟩
 ·rw [hget]; split
  ·exact hlen
  ·exact S.r v hv
 ·rw [hget] at h; split at h
  ·rename_i q; subst q
   rcases (hbit l hl).1 h with h|h | ⟨h1,h2⟩
   ·exact S.s _ hv l hl h
   ·exact .base ⟨b,hb,by dsimp only;omega,h⟩
   ·have hk : b.src.toNat < ts.length := by rcases ok.k with h | h <;> omega
    exact .step (a := (b.src.toNat,l)) (S.s _ hk l hl h2) ⟨rfl,b,hb,by dsimp only;omega,by dsimp only;omega⟩
  ·exact S.s v hv l hl h
 ·by_cases hc : R[b.var.toNat]![l]! = row[l]!
  ·refine .inl ⟨fun v hv => ?_, fun h => ?_, fun h1 h2 => ?_⟩
   ·rw [hget]; split
    ·rename_i q;subst q;exact hc.symm
    ·rfl
   ·rw [hc]; exact (hbit l hl).2 (.inr (.inl h))
   ·rw [hc]; exact (hbit l hl).2 (.inr (.inr ⟨h1,h2⟩))
  ·refine .inr (m5 _ (fun v hv => ?_) ⟨b.var.toNat, hvl, ?_⟩)
   ·have := hmono v hv l hl
    by_cases q : R[v]![l]! = true
    ·rw [if_pos q,if_pos (this q)]; exact Nat.le_refl _
    ·rw [if_neg q]; exact Nat.zero_le _
   ·have h0 : R[b.var.toNat]![l]! ≠ true := fun h => hc (by rw [h, (hbit l hl).2 (.inl h)])
    have h1 : row[l]! = true := by
     cases q : row[l]! with
     | true => rfl
     | false => exfalso; cases q2 : R[b.var.toNat]![l]! with
      | true => exact h0 q2
      | false => exact hc (by rw [q,q2])
    have h2 := hget b.var.toNat
    rw [if_pos rfl] at h2
    rw [if_neg h0,h2,if_pos h1]; exact Nat.one_pos
theorem p7:∀ (L:List Bnd),(∀ b ∈ L,b ∈ j8 ts pts pts.length) → ∀ R,SRr ts pts R →
  SRr ts pts (L.foldl tW R) ∧ (∀ v,v < ts.length → ∀ l,l < pts.length → R[v]![l]! = true → (L.foldl tW R)[v]![l]! = true) ∧
  ∀ l,l < pts.length → ((∀ v,v < ts.length → (L.foldl tW R)[v]![l]! = R[v]![l]!) ∧ ∀ b ∈ L,PU l R b) ∨ y6 ts.length l R < y6 ts.length l (L.foldl tW R)
 | [],_,R,S => ⟨S,fun _ _ _ _ h => h,fun l hl => .inl ⟨fun _ _ => rfl,by simp⟩⟩
 | b :: L, hL, R, S => by
  obtain ⟨S1,m1,c1⟩ := M8 w t S (hL b List.mem_cons_self)
  obtain ⟨S2,m2,c2⟩ := p7 L (fun x hx => hL x (List.mem_cons_of_mem _ hx)) (tW R b) S1
  rw [List.foldl_cons]
  refine ⟨S2,fun v hv l hl h => m2 v hv l hl (m1 v hv l hl h),fun l hl => ?_⟩
  have le : ∀ {R R' : List (List Bool)}, (∀ v, v < ts.length → R[v]![l]! = true → R'[v]![l]! = true) → y6 ts.length l R ≤ y6 ts.length l R' := fun {R R'} h => sumF_le _ fun v hv => by
   by_cases q : R[v]![l]! = true
   ·rw [if_pos q,if_pos (h v hv q)]; exact Nat.le_refl _
   ·rw [if_neg q]; exact Nat.zero_le _
  rcases c1 l hl with ⟨d1,d2⟩|d
  ·rcases c2 l hl with ⟨e1, e2⟩ | e
   ·refine .inl ⟨fun v hv => by rw [e1 v hv, d1 v hv], fun x hx => ?_⟩
    rcases List.mem_cons.1 hx with rfl|hx
    ·exact d2
    ·have ok := oU w t (hL x (List.mem_cons_of_mem _ hx))
     have hv := ok.v
     have h3 := e2 x hx
     refine ⟨fun h => by rw [← d1 _ (by omega)]; exact h3.1 h,fun h1 h2 => ?_⟩
     have hk : x.src.toNat < ts.length := by rcases ok.k with h|h <;> omega
     rw [← d1 _ (by omega)]
     exact h3.2 h1 (by rw [d1 _ hk]; exact h2)
   ·have := le (R := R) (R' := tW R b) (fun v hv h => m1 v hv l hl h)
    exact .inr (by omega)
  ·have := le (R := tW R b) (R' := L.foldl tW (tW R b)) (fun v hv h => m2 v hv l hl h)
   exact .inr (by omega)
theorem qJ (R0:List (List Bool)) (S0:SRr ts pts R0):∀ k,SRr ts pts (Hn (j8 ts pts pts.length) R0 k) ∧ ∀ l,l < pts.length →
  ((∀ v,v < ts.length → ((Hn (j8 ts pts pts.length) R0 k)[v]![l]! = true ↔ Rg ts pts (v,l))) ∨ k ≤ y6 ts.length l (Hn (j8 ts pts pts.length) R0 k))
 | 0 => ⟨S0,fun l _ => .inr (Nat.zero_le _)⟩
 | k + 1 => by
  obtain ⟨S,h⟩ := qJ R0 S0 k
  obtain ⟨S2,m2,c2⟩ := p7 w t _ (fun b hb => hb) _ S
  refine ⟨S2,fun l hl => ?_⟩
  have hup : (∀ v, v < ts.length → ((Hn (j8 ts pts pts.length) R0 k)[v]![l]! = true ↔ Rg ts pts (v, l))) → ∀ v, v < ts.length → ((Hn (j8 ts pts pts.length) R0 (k + 1))[v]![l]! = true ↔ Rg ts pts (v, l)) := fun g v hv =>
   ⟨S2.s v hv l hl,fun hr => m2 v hv l hl ((g v hv).2 hr)⟩
  rcases c2 l hl with ⟨_,hC⟩|hgrow
  ·exact .inl (hup (GX S hl hC))
  ·rcases h l hl with g | g
   ·exact .inl (hup g)
   ·exact .inr (by show k + 1 ≤ y6 ts.length l ((j8 ts pts pts.length).foldl tW (Hn (j8 ts pts pts.length) R0 k));omega)
def Bu (nt n : Nat) (A : List Nat) : List (List Bool) := (List.range nt).map fun (v : Nat) => (List.range n).map fun (l : Nat) => A[v]!.testBit l
theorem Cp (R0:List (List Bool)) (S0:SRr ts pts R0){A:List Nat}(hA:GoodG ts pts A):Hn (j8 ts pts pts.length) R0 (ts.length + 1) = Bu ts.length pts.length A:=by
 obtain ⟨S,h⟩ := qJ w t R0 S0 (ts.length + 1)
 have htl := w.tl
 refine bS (by rw [S.l]; simp [Bu]) fun v hv => ?_
 rw [S.l] at hv
 unfold Bu
 rw [aX _ _ _ hv]
 refine bS (by rw [S.r v hv]; simp) fun l hl => ?_
 rw [S.r v hv] at hl
 rw [aX _ _ _ hl,Bool.eq_iff_iff,hA.2 v (by omega) l]
 have hcnt : y6 ts.length l (Hn (j8 ts pts pts.length) R0 (ts.length + 1)) ≤ ts.length := by
  have := sumF_le (f := fun v => if (Hn (j8 ts pts pts.length) R0 (ts.length + 1))[v]![l]! = true then 1 else 0) (g := fun _ => 1) ts.length (fun i _ => by split <;> omega)
  rw [tM] at this
  exact this
 rcases h l hl with g|g
 ·exact g v hv
 ·omega
end
end Go.AL
