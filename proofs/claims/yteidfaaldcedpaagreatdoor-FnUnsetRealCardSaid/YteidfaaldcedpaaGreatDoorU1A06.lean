/-
 A part of the proofs over this program: rules and contracts of its functions (the rules).
-/
import Derived.Test.YteidfaaldcedpaaGreatDoorU1A05
import Derived.Laws.BytesString
import Derived.Laws.StructEq
set_option linter.unusedVariables false
set_option linter.unusedSimpArgs false
namespace Go.AL
open Go.RowKit
mutual
theorem RnV.bw {w:World}{ρ:Nat → Option Nat}{bad bad':Nat → Prop}{ι ι':Pl}(h:∀ i i',ρ i = some i' → ι i = ι' i') (hc:∀ b,bad b → bad' b):∀ {v v':AV},RnV ρ v v' → ∀ {y:Value},Rd w bad' ι' v' y → Rd w bad ι v y
 | _,_,.pur hp,y,k => Rd.pur _ y hp (Rd.carry (⟨fun b o x h1 h2 => ⟨fun q => h1 (hc b q),h2⟩,fun _ _ h => h,fun _ => Nat.le_refl _⟩ : Carry w bad' ι' w bad ι') _ _ k)
 | _,_,.own hi,y,k => by simp only [Rd,h _ _ hi] at k ⊢; exact k
 | _,_,.optr hi,y,k => by simp only [Rd,h _ _ hi] at k ⊢; exact k
 | _, _, .imm (cs := cs) (cs' := cs') hl, y, k => by
  have hlen := RnL.len hl
  simp only [Rd] at k ⊢
  obtain ⟨a,c,rfl,k⟩ := k
  refine ⟨a,c,rfl,?_⟩
  rcases k with k | ⟨b,o,hn,rfl,k⟩
  ·exact .inl k
  ·refine .inr ⟨b, o, hn, rfl, ?_⟩
   rcases k with k | ⟨hb,k⟩
   ·subst k;exact .inl (List.eq_nil_of_length_eq_zero (by rw [hlen]; rfl))
   ·exact .inr ⟨fun q => hb (hc b q),RnL.bwC h hc hl k⟩
 | _, _, .agg hl, y, k => by
  simp only [Rd] at k ⊢
  obtain ⟨l,h1,h2⟩ := k
  exact ⟨l,h1,RnL.bwL h hc hl h2⟩
 | _, _, .tup hl, y, k => by
  simp only [Rd] at k ⊢
  obtain ⟨l,h1,h2⟩ := k
  exact ⟨l,h1,RnL.bwV h hc hl h2⟩
 | _, _, .clos h1 h2, y, k => by
  simp only [Rd] at k ⊢
  obtain ⟨lf,lc,q1,q2,q3⟩ := k
  exact ⟨lf,lc,q1,RnL.bwV h hc h1 q2,RnL.bwV h hc h2 q3⟩
theorem RnL.bwL {w:World}{ρ:Nat → Option Nat}{bad bad':Nat → Prop}{ι ι':Pl}(h:∀ i i',ρ i = some i' → ι i = ι' i') (hc:∀ b,bad b → bad' b):∀ {v v':List AV},RnL ρ v v' → ∀ {y:List Value},RdL w bad' ι' v' y → RdL w bad ι v y
 | _,_,.pur hp,y,k => RdL.pur _ y hp (RdL.carry (⟨fun b o x h1 h2 => ⟨fun q => h1 (hc b q),h2⟩,fun _ _ h => h,fun _ => Nat.le_refl _⟩ : Carry w bad' ι' w bad ι') _ _ k)
 | _,_,.nil,y,k => by simpa only [RdL] using k
 | _, _, .cons h1 h2, y, k => by
  simp only [RdL] at k ⊢
  obtain ⟨x,l',q0,q1,q2,q3⟩ := k
  exact ⟨x,l',q0,q1,RnV.bw h hc h1 q2,RnL.bwL h hc h2 q3⟩
theorem RnL.bwV {w:World}{ρ:Nat → Option Nat}{bad bad':Nat → Prop}{ι ι':Pl}(h:∀ i i',ρ i = some i' → ι i = ι' i') (hc:∀ b,bad b → bad' b):∀ {v v':List AV},RnL ρ v v' → ∀ {y:List Value},RdV w bad' ι' v' y → RdV w bad ι v y
 | _,_,.pur hp,y,k => RdV.pur _ y hp (RdV.carry (⟨fun b o x h1 h2 => ⟨fun q => h1 (hc b q),h2⟩,fun _ _ h => h,fun _ => Nat.le_refl _⟩ : Carry w bad' ι' w bad ι') _ _ k)
 | _,_,.nil,y,k => by simpa only [RdV] using k
 | _, _, .cons h1 h2, y, k => by
  simp only [RdV] at k ⊢
  obtain ⟨x,l',q0,q2,q3⟩ := k
  exact ⟨x,l',q0,RnV.bw h hc h1 q2,RnL.bwV h hc h2 q3⟩
theorem RnL.bwC {w:World}{ρ:Nat → Option Nat}{bad bad':Nat → Prop}{ι ι':Pl}(h:∀ i i',ρ i = some i' → ι i = ι' i') (hc:∀ b,bad b → bad' b):∀ {v v':List AV},RnL ρ v v' → ∀ {b o:Nat},RdC w bad' ι' v' b o → RdC w bad ι v b o
 | _,_,.pur hp,b,o,k => RdC.pur _ b o hp (RdC.carryB (⟨fun b o x h1 h2 => ⟨fun q => h1 (hc b q),h2⟩,fun _ _ h => h,fun _ => Nat.le_refl _⟩ : Carry w bad' ι' w bad ι') _ _ _ (fun o x hx => hx) k)
 | _,_,.nil,b,o,k => by simp only [RdC]
 | _, _, .cons h1 h2, b, o, k => by
  simp only [RdC] at k ⊢
  obtain ⟨⟨x,q1,q2,q3⟩,q4⟩ := k
  exact ⟨⟨x,q1,q2,RnV.bw h hc h1 q3⟩,RnL.bwC h hc h2 q4⟩
end
theorem RnL.app {ρ:Nat → Option Nat}:∀ {a a' b b':List AV},RnL ρ a a' → RnL ρ b b' → RnL ρ (a ++ b) (a' ++ b')
 | [], a', b, b', ha, hb => by
  have := ha.len
  cases a' with
  | nil => exact hb
  | cons _ _ => simp at this
 | c :: cs, _, b, b', .pur hp, hb => by
  simp only [bR,Bool.and_eq_true] at hp
  exact .cons (.pur hp.1) (RnL.app (.pur hp.2) hb)
 | c :: cs,_,b,b',.cons h1 h2,hb => .cons h1 (RnL.app h2 hb)
theorem RnL.flt {ρ:Nat → Option Nat}{α:Type}{f f':α → List AV}:∀ {xs:List α},(∀ x ∈ xs,RnL ρ (f x) (f' x)) → RnL ρ (flat f xs) (flat f' xs)
 | [],_ => .nil
 | x :: xs, h => by
  have h1 := h x (List.mem_cons_self)
  have h2 := RnL.flt (f := f) (f' := f') (xs := xs) (fun y hy => h y (List.mem_cons_of_mem _ hy))
  simp only [flat,List.flatMap_cons] at h2 ⊢
  exact h1.app h2
theorem Le.renG (ρ:Nat → Option Nat){ts ts':List (Nat × AV)}{hs hs':List (Nat × Option (List AV))}{n n':Nat}{lo lo':Lo}(hlo:lo'.lo = lo.lo) (hfb:lo.fb ≤ lo'.fb)
  (hid : ∀ id,id < lo.lo ∨ (a6 ≤ id ∧ id < lo.fb) → ρ id = some id) (hinj : ∀ a b c,ρ a = some c → ρ b = some c → a = b) (hfr : ∀ id,Fn n' lo' id → ρ id = none)
  (h1 : ∀ t v,lk ts' t = some v → ∃ v0,lk ts t = some v0 ∧ RnV ρ v v0) (h2 : ∀ id cs,aT hs' id = some cs → ∃ j cs0,ρ id = some j ∧ aT hs j = some cs0 ∧ RnL ρ cs cs0) :
  Le ⟨ts,hs,n,lo⟩ ⟨ts',hs',n',lo'⟩ := by
 rintro C a w ⟨h0,ι,g,gh⟩
 let ι' : Pl := fun id => match ρ id with|some j => ι j|none => none
 have hto : ∀ id j,ρ id = some j → ι' id = ι j := fun id j h => by simp only [ι',h]
 have hbad : ∀ b, aL C.X ι' (aT hs') b → aL C.X ι (aT hs) b := by
  rintro b (h | ⟨id,cs,β,q1,q2⟩)
  ·exact .inl h
  ·obtain ⟨j, cs0, q3, q4, _⟩ := h2 id cs q1
   rw [hto _ _ q3] at q2
   exact .inr ⟨j,cs0,β,q4,q2⟩
 refine ⟨fun id h => ?_,ι',⟨g.df,g.sz,fun t v ht => ?_⟩,⟨fun id cs h => ?_,fun id id' cs cs' b β β' q1 q2 q3 q4 => ?_,gh.fr,fun id p hp => ?_,fun id hid' => ?_⟩⟩
 ·have h' : lo.lo ≤ id := by rw [← hlo]; exact h
  rcases h0 id h' with q|q
  ·exact .inl ⟨q.1,Nat.lt_of_lt_of_le q.2 hfb⟩
  ·exact .inr q
 ·obtain ⟨v0, q1, q2⟩ := h1 t v ht
  obtain ⟨y,q3,q4⟩ := g.tm t v0 q1
  exact ⟨y,q3,RnV.bw hto hbad q2 q4⟩
 ·obtain ⟨j, cs0, q3, q4, q5⟩ := h2 id cs h
  rcases gh.obj j cs0 q4 with ⟨p1,p2⟩ | ⟨b,β,arr,e,p1,p2,p3,p4,p5,p6⟩
  ·refine .inl ⟨by rw [hto _ _ q3]; exact p1, ?_⟩
   subst p2;exact List.eq_nil_of_length_eq_zero (by rw [q5.len]; rfl)
  ·exact .inr ⟨b,β,arr,e,by rw [hto _ _ q3]; exact p1,p2,by rw [q5.len]; exact p3,RnL.bwC hto hbad q5 p4,p5,p6⟩
 ·obtain ⟨j, c1, r1, r2, _⟩ := h2 id cs q1
  obtain ⟨j',c2,r3,r4,_⟩ := h2 id' cs' q2
  rw [hto _ _ r1] at q3
  rw [hto _ _ r3] at q4
  have := gh.sep _ _ _ _ _ _ _ r2 r4 q3 q4
  subst this
  exact hinj _ _ _ r1 r3
 ·have : ρ id = some id := by
   refine hid id ?_
   rcases Nat.lt_or_ge id lo.lo with q|q
   ·exact .inl q
   ·rcases h0 id q with q1 | q1
    ·exact .inr q1
    ·rw [q1] at hp;cases hp
  rw [hto _ _ this]; exact gh.ex id p hp
 ·have := hfr id hid'
  simp only [ι',this]
def kB (m : List (Nat × Nat)) (lo : Lo) (pn : Option Nat) (id : Nat) : Option Nat :=
 if id < lo.lo then some id else if a6 ≤ id then (if id < lo.fb then some id else if id = lo.fb then pn else none) else Bf m id
theorem iN {m:List (Nat × Nat)}{lo:Lo}{pn:Option Nat}{id:Nat}(h1:a6 ≤ id) (h2:id < lo.fb):kB m lo pn id = some id:=by
 unfold kB;split
 ·rfl
 ·simp [h1,h2]
def Rc (ρ : Nat → Option Nat) (l : List (Nat × AV)) : List (Nat × AV) → Prop
 | [] => True
 | (t,v) :: l' => (∃ v0,lk l t = some v0 ∧ RnV ρ v v0) ∧ Rc ρ l l'
def DH (ρ : Nat → Option Nat) (l : List (Nat × Option (List AV))) : List (Nat × Option (List AV)) → Prop
 | [] => True
 | (t,none) :: l' => DH ρ l l'
 | (t,some cs) :: l' => (∃ j cs0,ρ t = some j ∧ aT l j = some cs0 ∧ RnL ρ cs cs0) ∧ DH ρ l l'
theorem Ea {ρ:Nat → Option Nat}{l:List (Nat × AV)}:∀ {l':List (Nat × AV)},Rc ρ l l' → ∀ t v,lk l' t = some v → ∃ v0,lk l t = some v0 ∧ RnV ρ v v0
 | [],_,t,v,h => by simp [lk] at h
 | (u, x) :: l', hr, t, v, h => by
  simp only [Rc] at hr
  simp only [lO] at h
  split at h
  ·rename_i e;subst e;cases h;exact hr.1
  ·exact Ea hr.2 t v h
theorem tS {a b:List (Nat × Option (List AV))}{u:Nat}{c:List AV}:aT (a ++ b) u = some c → aT a u = some c ∨ aT b u = some c:=by
 induction a with
 | nil => exact fun h => .inr h
 | cons x a ih =>
  obtain ⟨t,v⟩ := x
  rw [List.cons_append,cP,cP]
  split
  ·exact fun h => .inl h
  ·exact ih
theorem Im {a b:List (Nat × Option (List AV))}{u:Nat}{c:List AV}(h:aT a u = some c):aT (a ++ b) u = some c:=by
 induction a with
 | nil => simp [aT] at h
 | cons x a ih =>
  obtain ⟨t,v⟩ := x
  rw [List.cons_append]
  rw [cP] at h ⊢
  split
  ·rename_i e;rw [if_pos e] at h;exact h
  ·rename_i e;rw [if_neg e] at h;exact ih h
theorem KH {a b:List (Nat × Option (List AV))}{u:Nat}(h:gI u a = true):aT (a ++ b) u = aT b u:=by
 induction a with
 | nil => rfl
 | cons x a ih =>
  obtain ⟨t,v⟩ := x
  simp only [gI,Bool.and_eq_true] at h
  rw [List.cons_append,cP,if_neg (by have := cS h.1;omega)]
  exact ih h.2
theorem sI {n m:Nat}(h:n ≤ m):∀ {a:List (Nat × Option (List AV))},gI n a = true → gI m a = true
 | [],_ => rfl
 | (t, v) :: a, k => by
  simp only [gI,Bool.and_eq_true] at k ⊢
  exact ⟨by have := cS k.1;simp [Nat.blt]; omega,sI h k.2⟩
theorem tE {ρ:Nat → Option Nat}{l:List (Nat × Option (List AV))}:∀ {l':List (Nat × Option (List AV))},DH ρ l l' → ∀ t cs,aT l' t = some cs →
  ∃ j cs0,ρ t = some j ∧ aT l j = some cs0 ∧ RnL ρ cs cs0
 | [],_,t,v,h => by simp [aT] at h
 | (u, none) :: l', hr, t, v, h => by
  simp only [DH] at hr
  simp only [cP] at h
  split at h
  ·cases h
  ·exact tE hr t v h
 | (u, some x) :: l', hr, t, v, h => by
  simp only [DH] at hr
  simp only [cP] at h
  split at h
  ·rename_i e;subst e;cases h;exact hr.1
  ·exact tE hr.2 t v h
theorem zK {m:List (Nat × Nat)}{lo:Lo}{pn:Option Nat}{n':Nat}(hm:K0 lo.lo n' m = true){a c:Nat}(h:kB m lo pn a = some c) :
  (a < lo.lo ∧ c = a) ∨ (lo.lo ≤ a ∧ a6 ≤ a ∧ a < lo.fb ∧ c = a) ∨ (lo.lo ≤ a ∧ a6 ≤ a ∧ a = lo.fb ∧ pn = some c) ∨ (lo.lo ≤ a ∧ a < a6 ∧ a < n' ∧ lo.lo ≤ c ∧ c < a6 ∧ Bf m a = some c) := by
 unfold kB at h
 split at h
 ·cases h;exact .inl ⟨by assumption,rfl⟩
 ·split at h
  ·split at h
   ·cases h;exact .inr (.inl ⟨by omega,by assumption,by assumption,rfl⟩)
   ·split at h
    ·exact .inr (.inr (.inl ⟨by omega,by assumption,by assumption,h⟩))
    ·cases h
  ·have := kR hm _ _ h
   exact .inr (.inr (.inr ⟨by omega,by omega,by omega,by omega,by omega,h⟩))
theorem Le.renF (m:List (Nat × Nat)) (pn:Option Nat){ts ts':List (Nat × AV)}{hs hs':List (Nat × Option (List AV))}{n n':Nat}{lo lo':Lo}(hm:K0 lo.lo n' m = true) (hn:lo.lo ≤ n') (hlo:lo'.lo = lo.lo)
  (hfb : lo'.fb = lo.fb + (if pn.isSome then 1 else 0)) (hp : ∀ b,pn = some b → lo.lo ≤ b ∧ b < a6 ∧ ∀ a,Bf m a ≠ some b)
  (h1 : ∀ t v,lk ts' t = some v → ∃ v0,lk ts t = some v0 ∧ RnV (kB m lo pn) v v0) (h2 : ∀ id cs,aT hs' id = some cs → ∃ j cs0,kB m lo pn id = some j ∧ aT hs j = some cs0 ∧ RnL (kB m lo pn) cs cs0) :
  Le ⟨ts,hs,n,lo⟩ ⟨ts',hs',n',lo'⟩ := by
 refine Le.renG (kB m lo pn) hlo (by rw [hfb]; omega) (fun id h => ?_) (fun a b c ha hb => ?_) (fun id h => ?_) h1 h2
 ·rcases h with h | h
  ·unfold kB;rw [if_pos h]
  ·exact iN h.1 h.2
 ·rcases zK hm ha with a1 | a1 | a1 | a1 <;> rcases zK hm hb with b1 | b1 | b1 | b1
  all_goals try omega
  ·have := hp c b1.2.2.2;omega
  ·have := hp c b1.2.2.2;omega
  ·have := hp c a1.2.2.2;omega
  ·have := hp c a1.2.2.2;omega
  ·exact absurd b1.2.2.2.2.2 ((hp c a1.2.2.2).2.2 b)
  ·exact absurd a1.2.2.2.2.2 ((hp c b1.2.2.2).2.2 a)
  ·exact Ay hm _ _ _ a1.2.2.2.2.2 b1.2.2.2.2.2
 ·cases hc : kB m lo pn id with
  | none => rfl
  | some c =>
   have h3 : n' ≤ id := h.1
   have h4 : id < a6 ∨ lo'.fb ≤ id := h.2
   rcases zK hm hc with a1|a1|a1|a1
   ·omega
   ·omega
   ·rw [a1.2.2.2] at hfb;simp at hfb;omega
   ·omega
theorem Le.renF0 (m:List (Nat × Nat)){R:List (List Bool)}{ts ts':List (Nat × AV)}{hs lits:List (Nat × Option (List AV))}{n n':Nat}{lo:Lo}{l0:Nat}(hF:FamR R R hs hs) (hz:lo = ⟨l0,a6 + R.length⟩) (hm:K0 l0 n' m = true) (hn:l0 ≤ n')
  (h1 : Rc (kB m lo none) ts ts') (h2 : DH (kB m lo none) hs lits) : Le ⟨ts,hs,n,lo⟩ ⟨ts',lits ++ gZ R,n',⟨l0,a6 + R.length⟩⟩ := by
 subst hz
 refine Le.renF m none hm hn rfl rfl (fun b h => by cases h) (Ea h1) (fun id cs h => ?_)
 rcases tS h with h|h
 ·exact tE h2 id cs h
 ·obtain ⟨k, hk, rfl, rfl⟩ := nJ h
  exact ⟨_,_,iN (by omega) (by show k + a6 < a6 + R.length;omega),hF.get hk,.pur (inferInstance : Pur (flat cB R[k]!)).pf⟩
theorem Le.renF1 (m:List (Nat × Nat)) (b:Nat){r:List Bool}{R R':List (List Bool)}{ts ts':List (Nat × AV)}{hs lits:List (Nat × Option (List AV))}{n n':Nat}{lo:Lo}{l0:Nat}(hF:FamR R R hs hs) (hz:lo = ⟨l0,a6 + R.length⟩) (hm:K0 l0 n' m = true) (hn:l0 ≤ n')
  (hlb : l0 ≤ a6) (hb : l0 ≤ b ∧ b < a6 ∧ (m.all fun p => !Nat.beq p.2 b) = true) (hr : aT hs b = some (flat cB r)) (hR : R' = R ++ [r])
  (h1 : Rc (kB m lo (some b)) ts ts') (h2 : DH (kB m lo (some b)) hs lits) : Le ⟨ts,hs,n,lo⟩ ⟨ts',lits ++ gZ R',n',⟨l0,a6 + R'.length⟩⟩ := by
 subst hz hR
 refine Le.renF m (some b) hm hn rfl (by show a6 + (R ++ [r]).length = a6 + R.length + 1;simp [Nat.add_assoc]) (fun b' h => ?_) (Ea h1) (fun id cs h => ?_)
 ·cases h
  refine ⟨hb.1,hb.2.1,fun a ha => ?_⟩
  have := y8 ha
  have h3 := hb.2.2
  rw [List.all_eq_true] at h3
  have := h3 _ this
  simp at this
 ·rcases tS h with h | h
  ·exact tE h2 id cs h
  ·obtain ⟨k, hk, rfl, rfl⟩ := nJ h
   rw [List.length_append,List.length_singleton] at hk
   rcases Nat.lt_or_ge k R.length with hk2|hk2
   ·have e : (R ++ [r])[k]! = R[k]! := by rw [aY _ _ (by simp; omega), aY _ _ hk2, List.getElem_append_left hk2]
    exact ⟨_,_,iN (by omega) (by show k + a6 < a6 + R.length;omega),hF.get hk2,by rw [e]; exact .pur (inferInstance : Pur (flat cB R[k]!)).pf⟩
   ·have e : k = R.length := by omega
    subst e
    have e2 : (R ++ [r])[R.length]! = r := by rw [aY _ _ (by simp)]; simp
    refine ⟨b,flat cB r,?_,hr,?_⟩
    ·unfold kB
     rw [if_neg (by show ¬ R.length + a6 < l0;omega),if_pos (by omega),if_neg (by show ¬ R.length + a6 < a6 + R.length;omega),if_pos (by show R.length + a6 = a6 + R.length;omega)]
    ·rw [e2]; exact .pur (inferInstance : Pur (flat cB r)).pf
section
variable {P : Program} {N : Nat} {Q : Exit → AS → Prop}
theorem Le.litF {ts ts':List (Nat × AV)}{hs lits:List (Nat × Option (List AV))}{n n':Nat}{z0 z1:Lo}{R:List (List Bool)}(h1:pG ts ts') (h2:oF hs lits) (h3:n ≤ n') (hF:FamR R R hs hs) (hz:z0 = z1) :
  Le ⟨ts,hs,n,z0⟩ ⟨ts',lits ++ gZ R,n',z1⟩ := by
 refine Le.of (Ac h1) (fun i c h => ?_) h3 hz
 rcases tS h with h|h
 ·exact pS h2 i c h
 ·obtain ⟨k, hk, rfl, rfl⟩ := nJ h
  exact hF.get hk
theorem Cu {σ:Type}{c:Code}{ts:List (Nat × AV)}{hs:List (Nat × Option (List AV))}{n:Nat}{z0:Lo}(l0:Nat) (Rf:σ → List (List Bool)) (ks:List Nat) (kt:List (Nat × AV)) (js:List Nat) (kh:List (Nat × Option (List AV)))
  (ot : σ → List (Nat × AV)) (oh : σ → List (Nat × Option (List AV))) (p : σ → Prop) (μ : σ → Nat) (i0 : σ) (h0 : p i0) (hk : pR ks ts = kt) (hj : qU js hs = kh)
  (h1 : pG ts (ot i0)) (h2 : oF hs (oh i0)) (hF : FamR (Rf i0) (Rf i0) hs hs) (hz : z0 = ⟨l0,a6 + (Rf i0).length⟩)
  (round : ∀ i,p i → AW P N c (pE (fun s' => ∃ j,p j ∧ μ j < μ i ∧ Le s' ⟨ot j ++ kt,(oh j ++ kh) ++ gZ (Rf j),n,⟨l0,a6 + (Rf j).length⟩⟩) Q) ⟨ot i ++ kt,(oh i ++ kh) ++ gZ (Rf i),n,⟨l0,a6 + (Rf i).length⟩⟩) :
  AW P N (.loop c) Q ⟨ts,hs,n,z0⟩ := by
 subst hk hj
 exact EA p (fun i => ⟨ot i ++ pR ks ts,(oh i ++ qU js hs) ++ gZ (Rf i),n,⟨l0,a6 + (Rf i).length⟩⟩) μ ⟨i0,h0,Le.litF (nN h1 (nI ks)) (mZ h2 (pJ js)) (Nat.le_refl _) hF hz⟩ round
end
def AK (P : Program) (k : FuncId) (args : List AV) (H0 : Nat → Option (List AV)) (F0 : Nat → Prop) (Q : AV → (Nat → Option (List AV)) → Prop) : Prop :=
 ∀ (C : Ctx) (ι : Pl) (w : World) (vals : List Value), C.w0 = w → C.ι0 = ι → HG C ι F0 H0 w → RdV w (aL C.X ι H0) ι args vals →
  Calls P k vals.toArray w (fun e w' => ∃ v r H' ι',e = .returned v ∧ Q r H' ∧ Rd w' (aL C.X ι' H') ι' r v ∧ HG C ι' (fun _ => False) H' w')
theorem qA {P:Program}{k:FuncId}{fn:Func}{c:Code}{args:List AV}{H0:List (Nat × Option (List AV))}{n fb:Nat}{Q:AV → (Nat → Option (List AV)) → Prop}(hf:P.funcs[k]? = some fn) (hb:fn.body = some c)
  (hN : args.length ≤ fn.ntmps) (h : AW P fn.ntmps c (pB P fn.results Q) ⟨jA 0 args,H0,n,⟨n,fb⟩⟩) : AK P k args (aT H0) (Fn n ⟨n,fb⟩) Q := by
 intro C ι w vals hw hι g hr
 refine calls_of_wp hf hb ?_
 let C' : Ctx := { C with N := fn.ntmps }
 have hlen := RdV.length hr
 have g' : HG C' ι (Fn n ⟨n,fb⟩) (aT H0) w := ⟨g.obj,g.sep,g.fr,g.ex,g.fresh⟩
 have gt : TG C' ι (lk (jA 0 args)) (aT H0) { tmps := vals.toArray ++ Array.replicate (fn.ntmps - vals.toArray.size) undef, defers := [] } w := by
  refine ⟨rfl,by simp [C',hlen]; omega,fun t av ht => ?_⟩
  obtain ⟨y,_,h1,h2⟩ := uA hr ht
  refine ⟨y,?_,h2⟩
  have hlt : t < vals.length := by
   rcases Nat.lt_or_ge t vals.length with q|q
   ·exact q
   ·rw [List.getElem?_eq_none (by simpa using q)] at h1;cases h1
  rw [Array.getElem?_append_left (by simpa using hlt)]
  simpa using h1
 refine wp_mono (h C' _ w rfl ⟨fun id hid => ?_,ι,gt,g'⟩) ?_
 ·by_cases q : a6 ≤ id ∧ id < fb
  ·exact .inl q
  ·refine .inr ?_
   show C.ι0 id = none
   rw [hι]
   exact g.fresh id ⟨hid,by show id < a6 ∨ fb ≤ id;omega⟩
 rintro e a' w' ⟨s1,⟨he,s',l,hle,hres,hQ⟩,hg⟩
 obtain ⟨_,ι',g1,g2⟩ := hle C' a' w' hg
 obtain ⟨ys,h1,h2⟩ := zE (P := P) g1 g2 hres
 have hres' : (results fn a'.tmps).run P w' = .ok (if h : ys.toArray.size = 1 then ys.toArray[0] else .tuple ys.toArray) w' := by
  have hr1 : results fn a'.tmps = (do let vs ← fn.results.mapM (DK a'); pure (if h : vs.size = 1 then vs[0] else .tuple vs)) := by
   unfold results
   congr 1
  rw [hr1,Array.mapM_eq_mapM_toList,Sem.run_bind,Sem.run_map,h1]
  simp only [Result.andThen_ok,Sem.run_pure]
 have g3 : HG C ι' (fun _ => False) (aT s'.hs) w' := ⟨g2.obj,g2.sep,g2.fr,g2.ex,fun _ h => h.elim⟩
 rcases he with rfl|rfl
 ·exact ⟨g1.df,_,hres',_,_,_,ι',rfl,hQ,p7 h2,g3⟩
 ·exact ⟨g1.df,_,hres',_,_,_,ι',rfl,hQ,p7 h2,g3⟩
def qZ (mpF fr : Nat → Option Nat) (j : Nat) : Option Nat := match mpF j with | some i => some i | none => fr j
theorem BF {P:Program}{k:FuncId}{args args':List AV}{H0 hh:Nat → Option (List AV)}{F0:Nat → Prop}{mpF fr fi:Nat → Option Nat}{r rr':AV}{H2:Nat → Option (List AV)}
  (h : AK P k args H0 F0 (fun r' H' => r' = r ∧ ∀ j cs,hh j = some cs → H' j = some cs)) (hmi : ∀ j j' i,mpF j = some i → mpF j' = some i → j = j') (hfi : ∀ i j,fi i = some j ↔ fr j = some i) (hmf : ∀ j i,fr j = some i → mpF j = none) (hF0 : ∀ j,F0 j → mpF j = none)
  {C : Ctx} {ι : Pl} {F : Nat → Prop} {H : Nat → Option (List AV)} {w : World} (g : HG C ι F H w)
  (hH0 : ∀ j i,mpF j = some i → ∃ cs cs',H0 j = some cs ∧ H i = some cs' ∧ RnL mpF cs cs') (hH1 : ∀ j cs,H0 j = some cs → ∃ i,mpF j = some i)
  (ha : RnL mpF args args') (hF : ∀ j i,fr j = some i → F i) (hr : RnV (qZ mpF fr) r rr')
  (hw : ∀ i cs',H2 i = some cs' → (∃ j cs,qZ mpF fr j = some i ∧ hh j = some cs ∧ RnL (qZ mpF fr) cs cs') ∨ (H i = some cs' ∧ ∀ j,mpF j ≠ some i))
  {vals : List Value} (hv : RdV w (aL C.X ι H) ι args' vals) :
  Calls P k vals.toArray w (fun e w' => ∃ v ι',e = .returned v ∧ HG C ι' (fun j => F j ∧ fi j = none) H2 w' ∧ Carry w (aL C.X ι H) ι w' (aL C.X ι' H2) ι' ∧ Rd w' (aL C.X ι' H2) ι' rr' v) := by
 let W0 : Nat → Prop := fun b => ∃ (j i β : Nat),mpF j = some i ∧ ι i = some (some (b,β))
 let Xc : Nat → Prop := fun b => aL C.X ι H b ∧ ¬ W0 b
 let ιc : Pl := fun j => match mpF j with|some i => ι i|none => none
 let C' : Ctx := { N := 0,w0 := w,W0 := W0,X := Xc,ι0 := ιc,xlt := fun b hb => g.bad_lt b hb.1 }
 have hW0 : ∀ b, W0 b → ¬ C.X b ∧ (C.W0 b ∨ C.w0.heap.size ≤ b) ∧ aL C.X ι H b := by
  rintro b ⟨j,i,β,h1,h2⟩
  obtain ⟨cs,cs',q1,q2,q3⟩ := hH0 j i h1
  rcases g.obj i cs' q2 with ⟨q,_⟩ | ⟨b',β',arr,e,q,q4,q5,q6,q7,q8⟩
  ·rw [q] at h2;cases h2
  ·rw [q] at h2;cases h2;exact ⟨q7,q8,.inr ⟨i,cs',_,q2,q⟩⟩
 have hnone : ∀ i j,fi i = some j → ι i = none := fun i j h1 => g.fresh i (hF j i ((hfi i j).1 h1))
 have hιc : ∀ j i,mpF j = some i → ιc j = ι i := fun j i h => by simp only [ιc,h]
 have hbadc : ∀ b, aL Xc ιc H0 b → aL C.X ι H b := by
  rintro b (⟨h1,_⟩ | ⟨j,cs,β,h1,h2⟩)
  ·exact h1
  ·obtain ⟨i, hi⟩ := hH1 j cs h1
   rw [hιc j i hi] at h2
   exact (hW0 b ⟨j,_,β,hi,h2⟩).2.2
 have hbadc2 : ∀ b, aL C.X ι H b → aL Xc ιc H0 b := by
  intro b hb
  by_cases hw0 : W0 b
  ·obtain ⟨j, i, β, h1, h2⟩ := hw0
   obtain ⟨cs,cs',q1,q2,q3⟩ := hH0 j i h1
   exact .inr ⟨j,cs,β,q1,by rw [hιc j i h1]; exact h2⟩
  ·exact .inl ⟨hb,hw0⟩
 have gc : HG C' ιc F0 H0 w := by
  refine ⟨fun j cs hj => ?_,fun j j' cs cs' b β β' h1 h2 h3 h4 => ?_,Fr.refl _ _,fun _ _ h => h,fun j hj => ?_⟩
  ·obtain ⟨i, hi⟩ := hH1 j cs hj
   obtain ⟨cs1,cs',q1,q2,q3⟩ := hH0 j _ hi
   rw [hj] at q1;cases q1
   rcases g.obj _ cs' q2 with ⟨q4,q5⟩ | ⟨b',β',arr,e,q4,q5,q6,q7,q8,q9⟩
   ·refine .inl ⟨by rw [hιc j i hi]; exact q4, ?_⟩
    subst q5
    exact List.eq_nil_of_length_eq_zero (by rw [q3.len]; rfl)
   ·have hw0 : W0 b' := ⟨j, _, β', hi, q4⟩
    exact .inr ⟨b',β',arr,e,by rw [hιc j i hi]; exact q4,q5,by rw [q3.len]; exact q6,RnL.bwC hιc hbadc q3 q7,fun hx => hx.2 hw0,.inl hw0⟩
  ·obtain ⟨i, hi⟩ := hH1 j cs h1
   obtain ⟨i',hi'⟩ := hH1 j' cs' h2
   obtain ⟨_,c1,_,q2,_⟩ := hH0 j _ hi
   obtain ⟨_,c2,_,q2',_⟩ := hH0 j' _ hi'
   rw [hιc j i hi] at h3
   rw [hιc j' i' hi'] at h4
   have := g.sep _ _ _ _ _ _ _ q2 q2' h3 h4
   exact hmi j j' i hi (by rw [hi',this])
  ·show ιc j = none
   simp only [ιc,hF0 j hj]
 have hvc : RdV w (aL C'.X ιc H0) ιc args vals := RnL.bwV hιc hbadc ha hv
 refine (h C' ιc w vals rfl rfl gc hvc).mono ?_
 rintro e w' ⟨v,r0,H',ιr,rfl,⟨rfl,hkeep⟩,hrd,gr⟩
 let ι' : Pl := fun i => match fi i with|some j => ιr j|none => ι i
 have hmpf : ∀ (j i : Nat), mpF j = some i → fi i = none := by
  intro j i hj
  cases hq : fi i with
  | none => rfl
  | some j2 =>
   obtain ⟨cs,cs',q1,q2,q3⟩ := hH0 j i hj
   rcases g.obj i cs' q2 with ⟨q,_⟩ | ⟨_,_,_,_,q,_⟩ <;> (rw [hnone i _ hq] at q;cases q)
 have hιr : ∀ (j i : Nat), mpF j = some i → ιr j = ι i := by
  intro j i hj
  obtain ⟨cs,cs',q1,q2,q3⟩ := hH0 j i hj
  have : ∃ q, ι i = some q := by
   rcases g.obj i cs' q2 with ⟨q,_⟩ | ⟨_,_,_,_,q,_⟩
   ·exact ⟨_,q⟩
   ·exact ⟨_,q⟩
  obtain ⟨q,hq⟩ := this
  rw [hq]
  exact gr.ex j q (by show ιc j = some q;rw [hιc j i hj]; exact hq)
 have hρ1 : ∀ j i, qZ mpF fr j = some i → (mpF j = some i) ∨ (mpF j = none ∧ fr j = some i) := by
  intro j i hj
  unfold qZ at hj
  split at hj
  ·cases hj;exact .inl (by assumption)
  ·exact .inr ⟨by assumption,hj⟩
 have hto : ∀ j i, qZ mpF fr j = some i → ιr j = ι' i := by
  intro j i hj
  rcases hρ1 j i hj with h2 | ⟨h1,h2⟩
  ·rw [hιr j i h2]; simp only [ι',hmpf j i h2]
  ·simp only [ι',(hfi i j).2 h2]
 have hcase := hw
 have hold : ∀ i cs', H i = some cs' → ι' i = ι i := by
  intro i cs' hi
  simp only [ι']
  cases hq : fi i with
  | none => rfl
  | some j2 => rcases g.obj i cs' hi with ⟨q,_⟩ | ⟨_,_,_,_,q,_⟩ <;> (rw [hnone i _ hq] at q;cases q)
 have hnW : ∀ (i : Nat) cs' b β, H i = some cs' → (∀ j, mpF j ≠ some i) → ι i = some (some (b, β)) → ¬ W0 b := by
  rintro i cs' b β hi hm hb ⟨j,i2,β2,q1,q2⟩
  obtain ⟨cs,c2,_,q3,_⟩ := hH0 j i2 q1
  have := g.sep _ _ _ _ _ _ _ hi q3 hb q2
  subst this
  exact hm j q1
 have hobjlt : ∀ i cs' b β,H i = some cs' → ι i = some (some (b,β)) → b < w.heap.size := fun i cs' b β hi hb => g.bad_lt b (.inr ⟨i,cs',β,hi,hb⟩)
 have hcal : ∀ j cs b β, H' j = some cs → ιr j = some (some (b, β)) → W0 b ∨ w.heap.size ≤ b := by
  intro j cs b β hj hb
  rcases gr.obj j cs hj with ⟨q,_⟩ | ⟨b',β',arr,e,q,q4,q5,q6,q7,q8⟩
  ·rw [q] at hb;cases hb
  ·rw [q] at hb;cases hb;exact q8
 have hbad : ∀ b, aL C.X ι' H2 b → aL C.X ι H b ∨ w.heap.size ≤ b := by
  rintro b (h1 | ⟨i,cs',β,h1,h2⟩)
  ·exact .inl (.inl h1)
  ·rcases hcase i cs' h1 with ⟨j, cs, q1, q2, q3⟩ | ⟨q1, q2⟩
   ·rw [← hto j i q1] at h2
    rcases hcal j cs b β (hkeep j cs q2) h2 with q|q
    ·exact .inl (hW0 b q).2.2
    ·exact .inr q
   ·rw [hold i cs' q1] at h2;exact .inl (.inr ⟨i,cs',β,q1,h2⟩)
 have hfr := gr.fr
 have hcar : Carry w (aL C.X ι H) ι w' (aL C.X ι' H2) ι' := by
  refine ⟨fun b o y h1 h2 => ?_,fun i q hq => ?_,hfr.bs⟩
  ·have hlt := lY h2
   refine ⟨fun hb => ?_,?_⟩
   ·rcases hbad b hb with h | h
    ·exact h1 h
    ·omega
   ·rw [dE (hfr.block b hlt (fun hw0 => h1 (hW0 b hw0).2.2))]; exact h2
  ·simp only [ι']
   cases hq2 : fi i with
   | none => exact hq
   | some j2 => rw [hnone i _ hq2] at hq;cases hq
 have hrn2 : RnH w' (qZ mpF fr) (aL C'.X ιr H') ιr (aL C.X ι' H2) ι' := by
  refine ⟨⟨fun b o y h1 h2 => ⟨fun hb => h1 ?_,h2⟩,fun _ _ h => h,fun _ => Nat.le_refl _⟩,fun j i hj => hto j i hj⟩
  rcases hb with hb | ⟨i,cs',β,q1,q2⟩
  ·exact .inl ⟨.inl hb,fun hw0 => (hW0 b hw0).1 hb⟩
  ·rcases hcase i cs' q1 with ⟨j, cs, r1, r2, r3⟩ | ⟨r1, r2⟩
   ·rw [← hto j i r1] at q2
    exact .inr ⟨j,cs,β,hkeep j cs r2,q2⟩
   ·rw [hold i cs' r1] at q2
    exact .inl ⟨.inr ⟨i,cs',β,r1,q2⟩,hnW i cs' b β r1 r2 q2⟩
 refine ⟨v,ι',rfl,⟨fun i cs' hi => ?_,fun i i2 cs1 cs2 b β β' h1 h2 h3 h4 => ?_,⟨hfr.os.trans g.fr.os,hfr.tape.trans g.fr.tape,hfr.output.trans g.fr.output,Nat.le_trans g.fr.size hfr.size,fun b hb hnw => ?_,fun b => Nat.le_trans (g.fr.bs b) (hfr.bs b)⟩,fun i q hq => hcar.pl i q (g.ex i q hq),fun i hi => ?_⟩,hcar,RnV.fwd hrn2 hr hrd⟩
 ·rcases hcase i cs' hi with ⟨j, cs, q1, q2, q3⟩ | ⟨q1, q2⟩
  ·rcases gr.obj j cs (hkeep j cs q2) with ⟨r1, r2⟩ | ⟨b, β, arr, e, r1, r2, r3, r4, r5, r6⟩
   ·refine .inl ⟨by rw [← hto j i q1]; exact r1, ?_⟩
    subst r2
    exact List.eq_nil_of_length_eq_zero (by rw [← q3.len]; rfl)
   ·refine .inr ⟨b, β, arr, e, by rw [← hto j i q1]; exact r1, r2, by rw [← q3.len]; exact r3, RnL.fwdC hrn2 q3 r4, ?_, ?_⟩
    ·rcases r6 with r6 | r6
     ·exact (hW0 b r6).1
     ·intro hX
      have := C.xlt b hX
      have := g.fr.size
      have : w.heap.size ≤ b := r6
      omega
    ·rcases r6 with r6 | r6
     ·exact (hW0 b r6).2.1
     ·refine .inr ?_
      have := g.fr.size
      have : w.heap.size ≤ b := r6
      omega
  ·rcases g.obj i cs' q1 with ⟨r1, r2⟩ | ⟨b, β, arr, e, r1, r2, r3, r4, r5, r6⟩
   ·exact .inl ⟨by rw [hold i cs' q1]; exact r1,r2⟩
   ·have hlt := fC r2
    have hbl := hfr.block b hlt (hnW i cs' b β q1 q2 r1)
    exact .inr ⟨b,β,arr,e,by rw [hold i cs' q1]; exact r1,by rw [hbl]; exact r2,r3,RdC.carryB hcar _ _ _ (fun o y hy => by rw [dE hbl]; exact hy) r4,r5,r6⟩
 ·rcases hcase i cs1 h1 with ⟨j, c1, q1, q2, q3⟩ | ⟨q1, q2⟩ <;> rcases hcase i2 cs2 h2 with ⟨j2, c2, q1', q2', q3'⟩ | ⟨q1', q2'⟩
  ·rw [← hto j i q1] at h3
   rw [← hto j2 i2 q1'] at h4
   have := gr.sep _ _ _ _ _ _ _ (hkeep j c1 q2) (hkeep j2 c2 q2') h3 h4
   subst this
   rw [q1] at q1'; cases q1'; rfl
  ·rw [← hto j i q1] at h3
   rw [hold i2 cs2 q1'] at h4
   have hlt := hobjlt i2 cs2 b _ q1' h4
   rcases hcal j c1 b _ (hkeep j c1 q2) h3 with q|q
   ·exact (hnW i2 cs2 b _ q1' q2' h4 q).elim
   ·omega
  ·rw [hold i cs1 q1] at h3
   rw [← hto j2 i2 q1'] at h4
   have hlt := hobjlt i cs1 b _ q1 h3
   rcases hcal j2 c2 b _ (hkeep j2 c2 q2') h4 with q|q
   ·exact (hnW i cs1 b _ q1 q2 h3 q).elim
   ·omega
  ·rw [hold i cs1 q1] at h3
   rw [hold i2 cs2 q1'] at h4
   exact g.sep _ _ _ _ _ _ _ q1 q1' h3 h4
 ·have hb2 : b < w.heap.size := by have := g.fr.size; omega
  rw [hfr.block b hb2 (fun hw0 => ?_)]
  ·exact g.fr.block b hb hnw
  ·rcases (hW0 b hw0).2.1 with q | q
   ·exact hnw q
   ·omega
 ·simp only [ι', hi.2]
  exact g.fresh i hi.1
attribute [local irreducible] a6
def Qw (P : Program) (k : FuncId) (args : List AV) (R0 : List (List Bool)) (r : AV) (hh : List (Nat × Option (List AV))) : Prop :=
 AK P k args (aT (gZ R0)) (Fn 0 ⟨0,a6 + R0.length⟩) (fun r' H' => r' = r ∧ ∀ id cs,aT (hh ++ gZ R0) id = some cs → H' id = some cs)
def RA (P : Program) (k : FuncId) (args : List AV) (r : AV) (R1 : List (List Bool)) : Prop :=
 AK P k args (aT []) (Fn 0 ⟨0,a6⟩) (fun r' H' => r' = r ∧ ∀ id cs,aT (gZ R1) id = some cs → H' id = some cs)
theorem rP {hs:List (Nat × Option (List AV))}{r r':AV}{R0:List (List Bool)}{hh:List (Nat × Option (List AV))}(hr:r' = r) (hh':oF hs hh) (hF:FamR R0 R0 hs hs):r' = r ∧ ∀ id cs,aT (hh ++ gZ R0) id = some cs → aT hs id = some cs:=by
 refine ⟨hr,fun id cs h => ?_⟩
 rcases tS h with h|h
 ·exact pS hh' id cs h
 ·obtain ⟨k, hk, rfl, rfl⟩ := nJ h
  exact hF.get hk
theorem Oy {hs:List (Nat × Option (List AV))}{r r':AV}{R0:List (List Bool)}(hr:r' = r) (hF:FamR R0 R0 hs hs):r' = r ∧ ∀ id cs,aT (gZ R0) id = some cs → aT hs id = some cs :=
 rP (hh := []) hr trivial hF
def Lm (b m : Nat) (j : Nat) : Option Nat := if a6 ≤ j ∧ j < a6 + m then some (b + j) else none
def Qu (n n1 : Nat) (j : Nat) : Option Nat := if j < n1 then some (n + j) else none
def RN (n n1 : Nat) (i : Nat) : Option Nat := if n ≤ i ∧ i < n + n1 then some (i - n) else none
def RC (b m n n1 : Nat) : Nat → Option Nat := qZ (Lm b m) (Qu n n1)
theorem GM {mpF fr:Nat → Option Nat}{j i:Nat}(h:mpF j = some i):qZ mpF fr j = some i := by unfold qZ;rw [h]
theorem GJ {mpF fr:Nat → Option Nat}{j:Nat}(h:mpF j = none):qZ mpF fr j = fr j := by unfold qZ;rw [h]
theorem nQ {b m k:Nat}(h:k < m):Lm b m (k + a6) = some (b + k + a6):=by
 unfold Lm;rw [if_pos (by omega),Nat.add_assoc]
theorem L9 {b m n n1 k:Nat}(h:k < m):RC b m n n1 (k + a6) = some (b + k + a6) := GM (nQ h)
theorem tU {b m n n1 j:Nat}(h:j < n1) (hb:j < a6):RC b m n n1 j = some (n + j):=by
 have e : Lm b m j = none := by unfold Lm;rw [if_neg (by omega)]
 refine (GJ e).trans ?_
 unfold Qu;rw [if_pos h]
theorem rn_rows {ρ:Nat → Option Nat}{b b' m w:Nat}(h:∀ k,k < m → ρ (b + k + a6) = some (b' + k + a6)):RnL ρ (flat (Bd b w) (List.range m)) (flat (Bd b' w) (List.range m)) :=
 RnL.flt fun k hk => by rw [List.mem_range] at hk;exact .cons (.own (h k hk)) .nil
theorem dD {m:List (Nat × Nat)}{lo:Lo}{pn:Option Nat}{b k w:Nat}(h:a6 + (b + k) ≤ lo.fb):RnL (kB m lo pn) (flat (Bd b w) (List.range k)) (flat (Bd b w) (List.range k)) :=
 rn_rows fun j hj => iN (by omega) (by omega)
def Qx (ρ : Nat → Option Nat) (hh : List (Nat × Option (List AV))) : List (Nat × Option (List AV)) → Prop
 | [] => True
 | (i,none) :: l => Qx ρ hh l
 | (i,some cs') :: l => (∃ j cs,ρ j = some i ∧ aT hh j = some cs ∧ RnL ρ cs cs') ∧ Qx ρ hh l
theorem DP {ρ:Nat → Option Nat}{hh:List (Nat × Option (List AV))}:∀ {ws:List (Nat × Option (List AV))},Qx ρ hh ws → ∀ i cs',(i,some cs') ∈ ws → ∃ j cs,ρ j = some i ∧ aT hh j = some cs ∧ RnL ρ cs cs'
 | [],_,i,cs',h => by simp at h
 | (u, none) :: l, hw, i, cs', h => by
  simp only [Qx] at hw
  rcases List.mem_cons.1 h with h|h
  ·cases h
  ·exact DP hw i cs' h
 | (u, some c) :: l, hw, i, cs', h => by
  simp only [Qx] at hw
  rcases List.mem_cons.1 h with h|h
  ·cases h;exact hw.1
  ·exact DP hw.2 i cs' h
section
variable {P : Program} {N : Nat} {Q : Exit → AS → Prop} {all : Array Oper} {rest : List Oper} {ts : List (Nat × AV)} {hs : List (Nat × Option (List AV))} {n : Nat} {z0 : Lo} {md : Md}
variable {d : Nat} {ty : TypeId} {pos : String} {af : Array Edge}
theorem BH {k:FuncId}{args:Array Operand}{tys:Array TypeId}{avs avs0:List AV}{R R0:List (List Bool)}{r rr':AV}{hh:List (Nat × Option (List AV))}(b n1:Nat) (D:List Nat) (ws:List (Nat × Option (List AV))) [hc:CaT P k]
  (ha : evL (lk ts) args.toList = some avs) (h : Qw P k avs0 R0 r hh) (hF : FamR R R hs hs) (hb : b + R0.length ≤ R.length) (hR : ∀ k,k < R0.length → R0[k]! = R[b + k]!) (hD : ∀ k,k < R0.length → b + k + a6 ∈ D)
  (har : RnL (Lm b R0.length) avs0 avs) (hk : gI a6 hh = true) (hr : RnV (RC b R0.length n n1) r rr') (hw : Qx (RC b R0.length n n1) hh ws) (hM : Nat.ble (n + n1) a6 = true) (hN : Nat.blt d N = true)
  {md' : Md} [hmd : MdA md (fF args.toList ++ D.map .inr) (ws.map (fun p => .inr p.1) ++ [.inl d]) md']
  (kk : RW P N all Q md' rest ⟨(d,rr') :: ts,gD hs ws,n + n1,z0⟩) : RW P N all Q md (⟨some d,.call ⟨.value (.func k),args,tys⟩,ty,pos,af,none⟩ :: rest) ⟨ts,hs,n,z0⟩ := by
 have hM' := Nat.le_of_ble_eq_true hM
 refine kI (rs := fF args.toList ++ D.map .inr) (ws := ws) (n' := n + n1) (out := rr') rfl (Nat.le_add_right _ _) (.inr hM') (fun C ι F T H a w K Q' hCN ag hFf g gh hK => ?_) (fun x hx => by cases hx;exact cS hN) (by simp only [wD]; rw [← hmd.pf] at kk;exact kk)
 simp only [Oper.wp,fU hc.pf,Oper.upon]
 have hH : ∀ q, q < R0.length → H (b + q + a6) = some (flat cB R[b + q]!) := fun q hq => by
  rw [ag.r.h _ (List.mem_map_of_mem (hD q hq))]; exact hF.get (by omega)
 have hmp : ∀ j i, Lm b R0.length j = some i → ∃ q, q < R0.length ∧ j = q + a6 ∧ i = b + q + a6 := by
  intro j i hj
  unfold Lm at hj
  split at hj
  ·cases hj;exact ⟨j - a6,by omega,by omega,by omega⟩
  ·cases hj
 have hrh : ∀ j i, Qu n n1 j = some i → j < n1 ∧ i = n + j := by
  intro j i hj
  unfold Qu at hj
  split at hj
  ·cases hj;exact ⟨by assumption,rfl⟩
  ·cases hj
 refine (BF (fr := Qu n n1) (fi := RN n n1) (hh := aT (hh ++ gZ R0)) (H2 := kY H ws) h (fun j j' i h1 h2 => ?_) (fun i j => ?_) (fun j i h1 => ?_) (fun j hj => ?_) gh (fun j i hj => ?_) (fun j cs hj => ?_) har (fun j i hj => ?_) hr (fun i cs' hi => ?_) (iV g (ag.l.evL.trans ha))).mono ?_
 ·obtain ⟨q, _, _, _⟩ := hmp j i h1
  obtain ⟨q',_,_,_⟩ := hmp j' i h2
  omega
 ·unfold RN Qu
  constructor
  ·intro h1
   split at h1
   ·cases h1;rw [if_pos (by omega)]; congr 1;omega
   ·cases h1
  ·intro h1
   split at h1
   ·cases h1;rw [if_pos (by omega)]; congr 1;omega
   ·cases h1
 ·have := hrh j i h1
  unfold Lm;rw [if_neg (by omega)]
 ·have h1 : j < a6 ∨ a6 + R0.length ≤ j := hj.2
  unfold Lm;rw [if_neg (by omega)]
 ·obtain ⟨q, q1, rfl, rfl⟩ := hmp j i hj
  refine ⟨flat cB R0[q]!,flat cB R[b + q]!,?_,hH q q1,?_⟩
  ·rw [qE,if_pos q1]
  ·rw [hR q q1]; exact .pur (inferInstance : Pur (flat cB R[b + q]!)).pf
 ·obtain ⟨q, q1, rfl, rfl⟩ := nJ hj
  exact ⟨_,nQ q1⟩
 ·obtain ⟨q1, rfl⟩ := hrh j i hj
  exact hFf _ (Nat.le_add_right _ _) (by omega)
 ·rcases vD hi with h1 | ⟨h1, h2⟩
  ·obtain ⟨j, cs, q1, q2, q3⟩ := DP hw i cs' h1
   exact .inl ⟨j,cs,q1,Im q2,q3⟩
  ·by_cases hq : ∃ q, q < R0.length ∧ i = b + q + a6
   ·obtain ⟨q, q1, rfl⟩ := hq
    rw [hH q q1] at h1
    cases h1
    refine .inl ⟨q + a6,flat cB R0[q]!,L9 q1,?_,?_⟩
    ·rw [KH (sI (by omega) hk),qE,if_pos q1]
    ·rw [hR q q1]; exact .pur (inferInstance : Pur (flat cB R[b + q]!)).pf
   ·refine .inr ⟨h1, fun j hj => hq ?_⟩
    obtain ⟨q,q1,_,q2⟩ := hmp j i hj
    exact ⟨q,q1,q2⟩
 ·rintro e w' ⟨v, ι', rfl, g', c', hrd⟩
  refine hK ι' w' v (g.carry c') (g'.less (fun _ _ h => h) (fun j hj => ⟨hj.1,?_⟩)).1 hrd
  unfold RN;rw [if_neg hj.2]
theorem Ig {k:FuncId}{args:Array Operand}{tys:Array TypeId}{avs:List AV}{R R1:List (List Bool)}{r rr':AV}{hs':List (Nat × Option (List AV))}{l0:Nat}[hc:CaT P k]
  (ha : evL (lk ts) args.toList = some avs) (h : RA P k avs r R1) (hp : bR avs = true) (hF : FamR R (R ++ R1) hs hs') (hz : z0 = ⟨l0,a6 + R.length⟩)
  (hr : RnV (fun j => if a6 ≤ j ∧ j < a6 + R1.length then some (R.length + j) else none) r rr') (hM : Nat.ble n a6 = true) (hN : Nat.blt d N = true)
  (kk : RW P N all Q .txt rest ⟨(d,rr') :: ts,hs',n,⟨l0,a6 + (R ++ R1).length⟩⟩) : RW P N all Q .txt (⟨some d,.call ⟨.value (.func k),args,tys⟩,ty,pos,af,none⟩ :: rest) ⟨ts,hs,n,z0⟩ := by
 subst hz
 rintro C a w hCN ⟨h0,ι,g,gh⟩
 refine wpList_plain rfl (fun K hK => ?_)
 simp only [Oper.wp,fU hc.pf,Oper.upon]
 have hM' := Nat.le_of_ble_eq_true hM
 have hrh : ∀ j i, (fun j => if a6 ≤ j ∧ j < a6 + R1.length then some (R.length + j) else none) j = some i → a6 ≤ j ∧ j < a6 + R1.length ∧ i = R.length + j := by
  intro j i hj
  dsimp only at hj
  split at hj
  ·rename_i hh;cases hj;exact ⟨hh.1,hh.2,rfl⟩
  ·cases hj
 have hrho : qZ (fun _ => none) (fun j => if a6 ≤ j ∧ j < a6 + R1.length then some (R.length + j) else none) = (fun j => if a6 ≤ j ∧ j < a6 + R1.length then some (R.length + j) else none) := by funext j;rfl
 have hlen : (R ++ R1).length = R.length + R1.length := List.length_append
 refine (BF (mpF := fun _ => none) (fr := fun j => if a6 ≤ j ∧ j < a6 + R1.length then some (R.length + j) else none) (fi := fun i => if a6 + R.length ≤ i ∧ i < a6 + R.length + R1.length then some (i - R.length) else none) (hh := aT (gZ R1)) (H2 := aT hs') (args' := avs)
  h (fun j j' i h1 h2 => by cases h1) (fun i j => ?_) (fun j i h1 => rfl) (fun j hj => rfl) gh (fun j i hj => by cases hj) (fun j cs hj => by simp [aT] at hj) (.pur hp) (fun j i hj => ?_) (rr' := rr') (by rw [hrho]; exact hr) (fun i cs' hi => ?_) (iV g ha)).mono ?_
 ·constructor
  ·intro h1
   split at h1
   ·cases h1;rw [if_pos (by omega)]; congr 1;omega
   ·cases h1
  ·intro h1
   split at h1
   ·cases h1;rw [if_pos (by omega)]; congr 1;omega
   ·cases h1
 ·obtain ⟨q1, q2, rfl⟩ := hrh j i hj
  exact ⟨by show n ≤ R.length + j;omega,.inr (by show a6 + R.length ≤ R.length + j;omega)⟩
 ·rcases Nat.lt_or_ge i a6 with hi2 | hi2
  ·exact .inr ⟨by rw [hF.low i hi2]; exact hi,fun j => by simp⟩
  ·obtain ⟨q, rfl⟩ : ∃ q, i = q + a6 := ⟨i - a6, by omega⟩
   have hg := hF.symm.fam q
   rw [hi] at hg
   split at hg
   ·rename_i hq
    cases hg
    rcases Nat.lt_or_ge q R.length with hq2|hq2
    ·refine .inr ⟨?_, fun j => by simp⟩
     have e : (R ++ R1)[q]! = R[q]! := by rw [aY _ _ hq,aY _ _ hq2,List.getElem_append_left hq2]
     rw [e]; exact hF.get hq2
    ·refine .inl ⟨(q - R.length) + a6, flat cB R1[q - R.length]!, ?_, ?_, ?_⟩
     ·rw [hrho]
      show (if a6 ≤ q - R.length + a6 ∧ q - R.length + a6 < a6 + R1.length then some (R.length + (q - R.length + a6)) else none) = some (q + a6)
      rw [if_pos (by omega)]; congr 1;omega
     ·rw [qE,if_pos (by omega)]
     ·have e : (R ++ R1)[q]! = R1[q - R.length]! := by rw [aY _ _ hq, aY _ _ (by omega), List.getElem_append_right hq2]
      rw [e]; exact .pur (inferInstance : Pur (flat cB R1[q - R.length]!)).pf
   ·cases hg
 ·rintro e w' ⟨v, ι', rfl, g', c', hrd⟩
  refine hK _ _ (kk C _ _ hCN ⟨fun id hid => ?_,ι',?_,?_⟩)
  ·rcases h0 id hid with q | q
   ·exact .inl ⟨q.1,by have := q.2;show id < a6 + (R ++ R1).length;have h5 : id < a6 + R.length := this;omega⟩
   ·exact .inr q
  ·show TG C ι' (lk ((d, rr') :: ts)) _ _ _
   rw [iH]
   exact (g.carry c').put (hCN.symm ▸ cS hN) hrd
  ·refine (g'.less (fun _ _ h => h) (fun j hj => ?_)).1
   have h3 : n ≤ j := hj.1
   have h4 : j < a6 ∨ a6 + (R ++ R1).length ≤ j := hj.2
   refine ⟨⟨h3,?_⟩,?_⟩
   ·show j < a6 ∨ a6 + R.length ≤ j
    omega
   ·rw [if_neg (by omega)]
end
theorem Is {P:Program}{k:FuncId}{fn:Func}{c:Code}{args:List AV}{R0:List (List Bool)}{r:AV}{hh:List (Nat × Option (List AV))}(hf:P.funcs[k]? = some fn) (hb:fn.body = some c) (hN:args.length ≤ fn.ntmps)
  (h : AW P fn.ntmps c (pB P fn.results (fun r' H' => r' = r ∧ ∀ id cs,aT (hh ++ gZ R0) id = some cs → H' id = some cs)) ⟨jA 0 args,gZ R0,0,⟨0,a6 + R0.length⟩⟩) : Qw P k args R0 r hh := qA hf hb hN h
theorem Js {P:Program}{k:FuncId}{fn:Func}{c:Code}{args:List AV}{R1:List (List Bool)}{r:AV}(hf:P.funcs[k]? = some fn) (hb:fn.body = some c) (hN:args.length ≤ fn.ntmps)
  (h : AW P fn.ntmps c (pB P fn.results (fun r' H' => r' = r ∧ ∀ id cs,aT (gZ R1) id = some cs → H' id = some cs)) ⟨jA 0 args,[],0,⟨0,a6⟩⟩) : RA P k args r R1 := qA hf hb hN h
theorem Le.virt {ts:List (Nat × AV)}{hs:List (Nat × Option (List AV))}{n:Nat}{z0:Lo}(hn:n < a6):Le ⟨ts,hs,n,z0⟩ ⟨ts,(n,some []) :: hs,n + 1,z0⟩:=by
 rintro C a w ⟨h0,ι,g,gh⟩
 obtain ⟨g1,c1⟩ := gh.virt (id := n) ⟨Nat.le_refl _,.inl hn⟩
 have e : aT ((n,some []) :: hs) = dU (aT hs) n (some []) := BN _ _ _
 refine ⟨h0,dU ι n (some none),?_,?_⟩
 ·show TG C _ (lk ts) (aT ((n, some []) :: hs)) a w
  rw [e]; exact g.carry c1
 ·show HG C _ _ (aT ((n, some []) :: hs)) w
  rw [e]
  refine (g1.less (fun _ _ h => h) (fun j hj => ?_)).1
  have h1 : n + 1 ≤ j := hj.1
  exact ⟨⟨by show n ≤ j;omega,hj.2⟩,by omega⟩
theorem Le.cellsN {ts:List (Nat × AV)}{hs:List (Nat × Option (List AV))}{n:Nat}{z0:Lo}{i q:Nat}{cs cs' cq:List AV}(hi:aT hs i = some cs) (hq:aT hs q = some cq) (hl:cs'.length = cs.length)
  (h : ∀ (w : World) (bad : Nat → Prop) (ι : Pl) (b β : Nat),(∃ p,ι q = some p) → RdC w bad ι cs b β → RdC w bad ι cs' b β) :
  Le ⟨ts,hs,n,z0⟩ ⟨ts,(i,some cs') :: hs,n,z0⟩ := by
 rintro C a w ⟨h0,ι,g,gh⟩
 have hqq : ∃ p, ι q = some p := by
  rcases gh.obj q cq hq with ⟨p1,_⟩ | ⟨_,_,_,_,p1,_⟩ <;> exact ⟨_,p1⟩
 have hk : ∀ id c, aT ((i, some cs') :: hs) id = some c → (id = i ∧ c = cs') ∨ (id ≠ i ∧ aT hs id = some c) := by
  intro id c hc
  rw [cP] at hc
  split at hc
  ·rename_i e;cases hc;exact .inl ⟨e,rfl⟩
  ·rename_i e;exact .inr ⟨fun h => e h,hc⟩
 have hk2 : ∀ id c, aT hs id = some c → ∃ c', aT ((i, some cs') :: hs) id = some c' := by
  intro id c hc
  rw [cP]
  split
  ·exact ⟨_,rfl⟩
  ·exact ⟨_,hc⟩
 have hb : aL C.X ι (aT ((i, some cs') :: hs)) = aL C.X ι (aT hs) := by
  funext b
  refine propext ⟨?_,?_⟩
  ·rintro (h | ⟨id, c, β, h1, h2⟩)
   ·exact .inl h
   ·rcases hk id c h1 with ⟨rfl, _⟩ | ⟨_, h3⟩
    ·exact .inr ⟨_,_,_,hi,h2⟩
    ·exact .inr ⟨_,_,_,h3,h2⟩
  ·rintro (h | ⟨id, c, β, h1, h2⟩)
   ·exact .inl h
   ·obtain ⟨c', h3⟩ := hk2 id c h1
    exact .inr ⟨_,_,_,h3,h2⟩
 refine ⟨h0,ι,⟨g.df,g.sz,fun t av ht => ?_⟩,?_,?_,gh.fr,gh.ex,gh.fresh⟩
 ·show ∃ y, a.tmps[t]? = some y ∧ Rd w (aL C.X ι (aT ((i, some cs') :: hs))) ι av y
  rw [hb]; exact g.tm t av ht
 ·intro id c hc
  show _ ∨ ∃ b β arr e,ι id = some (some (b,β)) ∧ w.heap[b]? = some (.cells arr e (0,0)) ∧ β + c.length ≤ arr.size ∧ RdC w (aL C.X ι (aT ((i,some cs') :: hs))) ι c b β ∧ ¬ C.X b ∧ (C.W0 b ∨ C.w0.heap.size ≤ b)
  rw [hb]
  rcases hk id c hc with ⟨rfl,rfl⟩ | ⟨_,h3⟩
  ·rcases gh.obj _ _ hi with ⟨q1, q2⟩ | ⟨b, β, arr, e, q1, q2, q3, q4, q5⟩
   ·subst q2
    exact .inl ⟨q1,List.eq_nil_of_length_eq_zero hl⟩
   ·exact .inr ⟨b,β,arr,e,q1,q2,by rw [hl]; exact q3,h _ _ _ _ _ hqq q4,q5⟩
  ·exact gh.obj _ _ h3
 ·intro id id' c c' b β β' h1 h2 h3 h4
  obtain ⟨d1, e1⟩ : ∃ d, aT hs id = some d := by
   rcases hk id c h1 with ⟨rfl,_⟩ | ⟨_,h⟩
   ·exact ⟨_,hi⟩
   ·exact ⟨_,h⟩
  obtain ⟨d2, e2⟩ : ∃ d, aT hs id' = some d := by
   rcases hk id' c' h2 with ⟨rfl,_⟩ | ⟨_,h⟩
   ·exact ⟨_,hi⟩
   ·exact ⟨_,h⟩
  exact gh.sep id id' d1 d2 b β β' e1 e2 h3 h4
theorem tK {w:World}{bad:Nat → Prop}{ι:Pl}{c c':AV}(hc:∀ y,Rd w bad ι c y → Rd w bad ι c' y):∀ (a:List AV) (r:List AV) (b o:Nat),RdC w bad ι (a ++ c :: r) b o → RdC w bad ι (a ++ c' :: r) b o
 | [], r, b, o, h => by
  simp only [List.nil_append,RdC] at h ⊢
  obtain ⟨⟨x,h1,h2,h3⟩,h4⟩ := h
  exact ⟨⟨x,h1,h2,hc _ h3⟩,h4⟩
 | x :: a, r, b, o, h => by
  simp only [List.cons_append,RdC] at h ⊢
  exact ⟨h.1,tK hc a r b (o + 1) h.2⟩
theorem Le.nilCell {ts:List (Nat × AV)}{hs:List (Nat × Option (List AV))}{n:Nat}{z0:Lo}{i:Nat}(e:Nat) (c1:List AV){c2:List AV}(hi:aT hs i = some (c1 ++ .v (.slice none 0 0) :: c2)) (hin:i ≠ n) (hn:n < a6) :
  Le ⟨ts,hs,n,z0⟩ ⟨ts,(i,some (c1 ++ .own n 0 0 e :: c2)) :: (n,some []) :: hs,n + 1,z0⟩ :=
 (Le.virt hn).trans (Le.cellsN (q := n) (cs := c1 ++ .v (.slice none 0 0) :: c2) (by rw [cP, if_neg hin]; exact hi) (by rw [cP, if_pos rfl]) (by simp) fun w bad ι b β hp hr =>
  tK (fun y hy => by simp only [Rd] at hy ⊢; exact .inl ⟨hp,trivial,none,hy⟩) c1 c2 b β hr)
theorem Le.frzC {ts:List (Nat × AV)}{hs:List (Nat × Option (List AV))}{n:Nat}{z0:Lo}{j i m e:Nat}(c1:List AV){c2 d:List AV}(hj:aT hs j = some (c1 ++ .own i 0 m e :: c2)) (hi:aT hs i = some d) (hij:j ≠ i) :
  Le ⟨ts,hs,n,z0⟩ ⟨ts,(j,some (c1 ++ .imm m d :: c2)) :: (i,none) :: hs,n,z0⟩ := by
 rintro C a w ⟨h0,ι,g,gh⟩
 have hk : ∀ id c, aT ((j, some (c1 ++ .imm m d :: c2)) :: (i, none) :: hs) id = some c → (id = j ∧ c = c1 ++ .imm m d :: c2) ∨ (id ≠ j ∧ id ≠ i ∧ aT hs id = some c) := by
  intro id c hc
  rw [cP] at hc
  split at hc
  ·rename_i e;cases hc;exact .inl ⟨e,rfl⟩
  ·rename_i e
   rw [cP] at hc
   split at hc
   ·cases hc
   ·rename_i e2;exact .inr ⟨e,e2,hc⟩
 have hk2 : ∀ id c, aT ((j, some (c1 ++ .imm m d :: c2)) :: (i, none) :: hs) id = some c → id ≠ i ∧ ∃ c', aT hs id = some c' := by
  intro id c hc
  rcases hk id c hc with ⟨rfl,_⟩ | ⟨_,h2,h3⟩
  ·exact ⟨hij,_,hj⟩
  ·exact ⟨h2,_,h3⟩
 have hbad : ∀ b, aL C.X ι (aT ((j, some (c1 ++ .imm m d :: c2)) :: (i, none) :: hs)) b → aL C.X ι (aT hs) b := by
  rintro b (h | ⟨id,c,β,h1,h2⟩)
  ·exact .inl h
  ·obtain ⟨_, c', h3⟩ := hk2 id c h1
   exact .inr ⟨id,c',β,h3,h2⟩
 have car : Carry w (aL C.X ι (aT hs)) ι w (aL C.X ι (aT ((j,some (c1 ++ .imm m d :: c2)) :: (i,none) :: hs))) ι := ⟨fun b o x h1 h2 => ⟨fun q => h1 (hbad b q),h2⟩,fun _ _ h => h,fun _ => Nat.le_refl _⟩
 have hcell : ∀ y, Rd w (aL C.X ι (aT ((j, some (c1 ++ .imm m d :: c2)) :: (i, none) :: hs))) ι (.own i 0 m e) y → Rd w (aL C.X ι (aT ((j, some (c1 ++ .imm m d :: c2)) :: (i, none) :: hs))) ι (.imm m d) y := by
  intro y hr
  simp only [Rd] at hr ⊢
  rcases hr with ⟨_,h2,a',h3⟩ | ⟨b,β,c,h1,h2,h3,h4⟩
  ·subst h2;exact ⟨a',0,h3,.inl rfl⟩
  ·refine ⟨_, c, h2, ?_⟩
   rcases Nat.eq_zero_or_pos m with h5|h5
   ·exact .inl h5
   ·refine .inr ⟨b, β + 0, h3, rfl, ?_⟩
    rcases gh.obj i d hi with ⟨q1,q2⟩ | ⟨b',β',arr,e',q1,q2,q3,q4,q5,q6⟩
    ·rw [h1] at q1;cases q1
    ·rw [h1] at q1; cases q1
     refine .inr ⟨?_,RdC.carryB car _ _ _ (fun o x hx => hx) q4⟩
     rintro (h | ⟨id',cs',β',r1,r2⟩)
     ·exact q5 h
     ·obtain ⟨r3, c', r4⟩ := hk2 id' cs' r1
      exact r3 (gh.sep _ _ _ _ _ _ _ r4 hi r2 h1)
 refine ⟨h0,ι,g.carry car,⟨fun id c hc => ?_,fun id id' c c' b β β' h1 h2 h3 h4 => ?_,gh.fr,gh.ex,gh.fresh⟩⟩
 ·rcases hk id c hc with ⟨rfl, rfl⟩ | ⟨_, _, h3⟩
  ·rcases gh.obj _ _ hj with ⟨q1, q2⟩ | ⟨b, β, arr, e, q1, q2, q3, q4, q5⟩
   ·simp at q2
   ·exact .inr ⟨b,β,arr,e,q1,q2,by simpa using q3,tK hcell c1 c2 b β (RdC.carryB car _ _ _ (fun o x hx => hx) q4),q5⟩
  ·rcases gh.obj _ _ h3 with ⟨q1, q2⟩ | ⟨b, β, arr, e, q1, q2, q3, q4, q5⟩
   ·exact .inl ⟨q1,q2⟩
   ·exact .inr ⟨b,β,arr,e,q1,q2,q3,RdC.carryB car _ _ _ (fun o x hx => hx) q4,q5⟩
 ·obtain ⟨_, d1, e1⟩ := hk2 id c h1
  obtain ⟨_,d2,e2⟩ := hk2 id' c' h2
  exact gh.sep id id' d1 d2 b β β' e1 e2 h3 h4
theorem IU {R:List (List Bool)}{hs hs':List (Nat × Option (List AV))}{k m:Nat}(hF:FamR R R hs hs') (hk:k < R.length) (hm:m = R[k]!.length):sCells (aT hs) 1 (qR (.own (k + a6) 0 m 1)) = some (m,flat cB R[k]!):=by
 subst hm
 have hl : (flat cB R[k]!).length = R[k]!.length * 1 := aI cB _
 show (aT hs (k + a6)).bind (fun cs => if R[k]!.length * 1 ≤ (cs.drop 0).length then some (R[k]!.length,(cs.drop 0).take (R[k]!.length * 1)) else none) = _
 rw [hF.get hk,Option.bind_some,List.drop_zero,if_pos (by omega),List.take_of_length_le (by omega)]
theorem Bb {cs:List AV}{v:Nat}{c:AV}:gW cs (0 + v * 1) [c] = cs.take v ++ c :: cs.drop (v + 1):=by
 unfold gW;simp
theorem Ms {u:List (List Bool)}{v:Nat}{r:List Bool}(hv:v < u.length):(flat iF u).take v ++ .imm r.length (flat cB r) :: (flat iF u).drop (v + 1) = flat iF (u.set v r):=by
 have h := EL (xs := u) (k := v) (r := r) hv
 rw [Bb] at h;exact h
theorem Le.frzRow {ts:List (Nat × AV)}{hs:List (Nat × Option (List AV))}{n:Nat}{z0:Lo}{j q v m:Nat}{u:List (List Bool)}{r:List Bool}(hj:aT hs j = some (gW (flat iF u) (0 + v * 1) [.own q 0 m 1])) (hq:aT hs q = some (flat cB r)) (hm:m = r.length) (hv:v < u.length) (hjq:j ≠ q) :
  Le ⟨ts,hs,n,z0⟩ ⟨ts,(j,some (flat iF (u.set v r))) :: (q,none) :: hs,n,z0⟩ := by
 subst hm
 rw [Bb] at hj
 have h := Le.frzC (ts := ts) (n := n) (z0 := z0) ((flat iF u).take v) hj hq hjq
 rwa [Ms hv] at h
theorem Le.fdrop {ts:List (Nat × AV)}{hs:List (Nat × Option (List AV))}{n:Nat}{z0:Lo}{k:Nat}{R:List (List Bool)}(hF:FamR R R hs hs) (hk:k < R.length):Le ⟨ts,(k + a6,some (flat cB R[k]!)) :: hs,n,z0⟩ ⟨ts,hs,n,z0⟩:=by
 refine Le.of (fun _ _ h => h) (fun i cs h => ?_) (Nat.le_refl _) rfl
 have h' : aT hs i = some cs := h
 show aT ((k + a6,some (flat cB R[k]!)) :: hs) i = some cs
 rw [cP]
 split
 ·rename_i e;subst e;rw [hF.get hk] at h'; exact h'
 ·exact h'
theorem QM {i k:Nat}(hi:Nat.blt i a6 = true):distinct [i,k + a6] = true:=by
 have h1 := cS hi
 have : Nat.beq i (k + a6) = false := by
  cases h : Nat.beq i (k + a6) with
  | false => rfl
  | true => have := Nat.eq_of_beq_eq_true h;omega
 simp only [distinct,List.all_cons,List.all_nil,this]; rfl
structure Hid (T : Prop) : Prop where pf : T
theorem cut {G:Prop}{T:Prop}(key:T) (main:Hid T → G):G := main ⟨key⟩
structure Hy (T : Prop) : Prop where pf : T
theorem RD:(∀ a b:Bool,((a && b) = true) = (a = true ∧ b = true)) ∧ (∀ a b:Bool,((a && b) = false) ↔ (a = false ∨ b = false)) ∧ (∀ a b:Bool,((a || b) = true) = (a = true ∨ b = true)) ∧ (∀ a b:Bool,((a || b) = false) ↔ (a = false ∧ b = false)) ∧
  (∀ (p : Prop) [Decidable p],(decide p = true) = p) ∧ (∀ (p : Prop) [Decidable p],(decide p = false) ↔ ¬ p) ∧ (∀ a : Bool,((!a) = true) ↔ a = false) ∧ (∀ a : Bool,((!a) = false) ↔ a = true) ∧ ((!true) = false) ∧ ((!false) = true) ∧ (∀ a b : Int,¬ a < b ↔ b ≤ a) ∧ (∀ a b : Int,¬ a ≤ b ↔ b < a) :=
 ⟨fun a b => Bool.and_eq_true a b,fun a b => Bool.and_eq_false_iff,fun a b => Bool.or_eq_true a b,fun a b => Bool.or_eq_false_iff,fun p _ => by simp,fun p _ => decide_eq_false_iff_not,fun a => by simp,fun a => by simp,rfl,rfl,fun _ _ => Int.not_lt,fun _ _ => Int.not_le⟩
theorem gB:(∀ {α:Type}(a b:List α),(a ++ b).length = a.length + b.length) ∧ (∀ {α:Type}(a:α) (b:List α),(a :: b).length = b.length + 1) ∧ (∀ {α:Type},([]:List α).length = 0) ∧ (∀ {α:Type}(a:List α) (i:Nat) (x:α),(a.set i x).length = a.length) ∧ (∀ {α:Type}(i:Nat) (a:List α),(a.take i).length = min i a.length) ∧
  (∀ {α β : Type} (f : α → β) (a : List α),(a.map f).length = a.length) ∧ (∀ {α : Type} (n : Nat) (a : α),(List.replicate n a).length = n) ∧ (∀ (l : List Stmt) (b : Nat),(fS b l).length = dB l) ∧ (∀ n : Nat,n * 1 = n) ∧ (∀ n : Nat,0 + n = n) ∧ (∀ n : Nat,n + 0 = n) :=
 ⟨fun _ _ => List.length_append,fun _ _ => rfl,rfl,fun _ _ _ => List.length_set,fun _ _ => List.length_take,fun _ _ => List.length_map _,fun _ _ => List.length_replicate,bV,Nat.mul_one,Nat.zero_add,Nat.add_zero⟩
theorem bB {α:Type}{p q r:α → Prop}(x:α) (h3:r x) (h1:p x) (h2:q x):∃ x,p x ∧ q x ∧ r x := ⟨x,h1,h2,h3⟩
theorem RQ {G K:Prop}(k:K) (h:Hy K → G := by first|(intro k;(first|((with_reducible apply F7);(case hx => rfl);(case hH => rfl);(case hf => infer_instance);(case hg => infer_instance);(case hα => infer_instance);(case hk => omega);(case hc => rfl);(case hN => rfl)) | ((with_reducible apply GF);(case hx => rfl);(case hH => rfl);(case hf => infer_instance);(case hg => infer_instance);(case hα => infer_instance);(case hk => omega);(case hc => rfl);(case hN => rfl)) | ((with_reducible apply GH);(case hx => rfl);(case hH => rfl);(case hf => infer_instance);(case hg => infer_instance);(case hα => infer_instance);(case hk => omega);(case h0 => rfl);(case hN => rfl)) | ((with_reducible apply B3);(case hx => rfl);(case hd => rfl);(case hc => rfl);(case hN => rfl)) | ((with_reducible apply It);(case hx => rfl);(case hd => rfl);(case hc => (first|exact (rfl:_ = [_]) | exact (rfl:_ = [_,_]) | exact (rfl:_ = [_,_,_]) | exact (rfl:_ = [_,_,_,_]) | exact (rfl:_ = [_,_,_,_,_]) | exact (rfl:_ = [_,_,_,_,_,_]) | exact (rfl:_ = [_,_,_,_,_,_,_]) | exact (rfl:_ = [_,_,_,_,_,_,_,_]) | rfl));(case hn => rfl);(case h0 => rfl);(case hN => rfl)) | ((with_reducible apply Bo);(case hx => rfl);(case hl => first|assumption | omega | (simp only [gB,List.length_drop] <;> omega));(case h0 => rfl);(case hN => rfl)) | ((with_reducible apply Cc);(case hx => rfl);(case hH => rfl);(case hl => first|assumption | omega | (simp only [gB] <;> omega) | rfl);(case h0 => rfl);(case hN => rfl)) | ((with_reducible apply Bz);(case hx => rfl);(case hH => rfl);(case hl => first|assumption | omega | (simp only [gB] <;> omega) | rfl);(case h0 => rfl);(case hN => rfl)) | ((with_reducible apply HA);(case hx => rfl);(case hH => rfl);(case ho => first|exact RS | exact RK);(case hq => first|assumption | omega | (simp only [gB] <;> omega));(case hN => rfl)));exact k.pf) | fail):G := h ⟨k⟩
theorem RY {G K:Prop}(k:K) (h:Hy K → G := by first|(intro k;(first|((with_reducible apply HF);(case hj => rfl);(case hb => rfl);(case hN => rfl)) | ((with_reducible apply Hl);(case hj => rfl);(case hb => rfl);(case hN => rfl);(case hw => first|rfl | assumption)) | ((with_reducible apply D0);(case hj => rfl);(case hb => rfl);(case hN => rfl);(case hw => first|rfl | assumption)) );exact k.pf) | fail):G := h ⟨k⟩
theorem R6 {G K:Prop}(k:K) (h:Hy K → G := by first|(intro k;(first|((with_reducible apply NI);(case hx => rfl);(case hy => rfl);(case h => rfl);(case hN => rfl)) | ((with_reducible apply OS);(case hx => rfl);(case hy => rfl);(case hk => infer_instance);(case ha => infer_instance);(case hb => infer_instance);(case hN => rfl)) | ((with_reducible apply NH);(case hx => rfl);(case hy => rfl);(case hk => infer_instance);(case ha => infer_instance);(case hN => rfl)) | ((with_reducible apply M6);(case hx => rfl);(case hy => rfl);(case hk => infer_instance);(case ha => infer_instance);(case hb => infer_instance);(case hN => rfl)) | ((with_reducible apply LU);(case hx => rfl);(case hy => rfl);(case hk => infer_instance);(case ha => infer_instance);(case hb => infer_instance);(case hN => rfl)) | ((with_reducible apply NM);(case hx => rfl);(case hy => rfl);(case hk => infer_instance);(case ha => infer_instance);(case h => omega);(case hN => rfl)) | ((with_reducible apply Pe);(case hx => rfl);(case hy => rfl);(case h => omega);(case hN => rfl)) | ((with_reducible apply Qo);(case hx => rfl);(case hy => rfl);(case h => omega);(case hN => rfl)) | ((with_reducible apply PB);(case hx => rfl);(case hy => rfl);(case h => omega);(case h' => omega);(case hN => rfl))  | ((with_reducible apply Qe);(case hx => rfl);(case hy => rfl);(case h => omega);(case hN => rfl)) | ((with_reducible apply PI);(case hx => rfl);(case hy => rfl);(case h => omega);(case hN => rfl)) | ((with_reducible apply P5);(case hx => rfl);(case hy => rfl);(case h => omega);(case hN => rfl)) | ((with_reducible apply OE);(case hx => rfl);(case hy => rfl);(case h => rfl);(case hN => rfl)));exact k.pf) | fail):G := h ⟨k⟩
theorem RP {G K:Prop}(k:K) (h:Hy K → G := by first|(intro k;(first|((with_reducible apply vM);(case hx => rfl);(case hi => rfl);(case hm => (first|assumption | omega));(case hml => (first|rfl|assumption|omega));(case hα => infer_instance);(case hf => infer_instance);(case hg => infer_instance);(case hN => rfl)) | ((with_reducible apply Ev);(case hx => rfl);(case hi => rfl);(case hm => (first|assumption | omega));(case hN => rfl)) | ((with_reducible apply xK);(case hx => rfl);(case hi => rfl);(case hm => (first|assumption | omega | exact ⟨Int.emod_nonneg _ (by omega),Int.emod_lt_of_pos _ (by omega)⟩));(case hml => (first|rfl|assumption|omega));(case hα => infer_instance);(case hf => infer_instance);(case hg => infer_instance);(case hN => rfl)) | ((with_reducible apply Hi);(case hx => rfl);(case hi => rfl);(case hm => (first|assumption | omega | exact ⟨Int.emod_nonneg _ (by omega),Int.emod_lt_of_pos _ (by omega)⟩));(case hN => rfl)) | ((with_reducible apply Bl);(case hx => rfl);(case hi => rfl);(case hm => first|omega | assumption);(case hp => rfl);(case hN => rfl)) | ((with_reducible apply DO);(case hx => rfl);(case hi => rfl);(case hm => first|omega | assumption);(case hN => rfl)));exact k.pf) | fail):G := h ⟨k⟩
theorem RT {G K:Prop}(k:K) (h:Hy K → G := by first|(intro k;(first|((with_reducible apply P1);(case hx => rfl);(case hn => rfl);(case hN => rfl)) | ((with_reducible apply MU);(case hx => rfl);(case hN => rfl)) | ((with_reducible apply bZ);(case hx => rfl);(case hy => rfl);(case hze => rfl);(case he0 => rfl);(case hH => rfl);(case hl => first|(rw [aI]; omega) | (rw [aI]; simp only [gB] <;> omega) | (simp [aI]; done) | decide | (simp;omega));(case hs' => first|rfl | exact wE (by (first|rfl | assumption | omega)));(case hbig => omega);(case hmx => omega);(case hcs => first|exact BD (by (first|assumption | omega | (simp only [gB] <;> omega) | decide)) | exact qH (by (first|assumption | omega | (simp only [gB] <;> omega) | decide)) | exact NP (by (first|assumption | omega | (simp only [gB] <;> omega) | decide)) | exact J3 (by (first|assumption | omega | (simp only [gB] <;> omega) | decide)) | exact HU (by (first|assumption | omega | (simp only [gB] <;> omega) | decide)) | exact MV (by (first|assumption | omega | (simp only [gB] <;> omega) | decide)) | exact Lq (by (first|assumption | omega | (simp only [gB] <;> omega) | decide))   | exact (rfl:_ = [_]) | exact (rfl:_ = [_,_]) | exact (rfl:_ = [_,_,_]) | exact (rfl:_ = [_,_,_,_]) | exact (rfl:_ = [_,_,_,_,_]) | exact (rfl:_ = [_,_,_,_,_,_]) | exact (rfl:_ = [_,_,_,_,_,_,_]) | exact (rfl:_ = [_,_,_,_,_,_,_,_]) | rfl);(case hM => rfl);(case hN => rfl)));exact k.pf) | fail):G := h ⟨k⟩
theorem RV {G K:Prop}(k:K) (h:Hy K → G := by first|(intro k;(first|((with_reducible apply GN);(case hl => rfl);(case hf => (first|exact (rfl:_ = some [_]) | exact (rfl:_ = some [_,_]) | exact (rfl:_ = some [_,_,_]) | exact (rfl:_ = some [_,_,_,_]) | exact (rfl:_ = some [_,_,_,_,_]) | exact (rfl:_ = some [_,_,_,_,_,_]) | exact (rfl:_ = some [_,_,_,_,_,_,_]) | exact (rfl:_ = some [_,_,_,_,_,_,_,_]) | rfl));(case hk => (first|exact (rfl:_ = [_]) | exact (rfl:_ = [_,_]) | exact (rfl:_ = [_,_,_]) | exact (rfl:_ = [_,_,_,_]) | exact (rfl:_ = [_,_,_,_,_]) | exact (rfl:_ = [_,_,_,_,_,_]) | exact (rfl:_ = [_,_,_,_,_,_,_]) | exact (rfl:_ = [_,_,_,_,_,_,_,_]) | rfl));(case hN => rfl)) | ((with_reducible apply mQ);(case hl => rfl);(case hf => (first|exact (rfl:_ = some [_]) | exact (rfl:_ = some [_,_]) | exact (rfl:_ = some [_,_,_]) | exact (rfl:_ = some [_,_,_,_]) | exact (rfl:_ = some [_,_,_,_,_]) | exact (rfl:_ = some [_,_,_,_,_,_]) | exact (rfl:_ = some [_,_,_,_,_,_,_]) | exact (rfl:_ = some [_,_,_,_,_,_,_,_]) | rfl));(case hN => rfl)));exact k.pf) | fail):G := h ⟨k⟩
theorem RL {G K:Prop}(k:K) (h:Hy K → G := by first|(intro k;(first|((with_reducible apply oK);(case hze => rfl);(case hsm => rfl);(case hl => rfl);(case hfl => (first|exact (rfl:_ = some [_]) | exact (rfl:_ = some [_,_]) | exact (rfl:_ = some [_,_,_]) | exact (rfl:_ = some [_,_,_,_]) | exact (rfl:_ = some [_,_,_,_,_]) | exact (rfl:_ = some [_,_,_,_,_,_]) | exact (rfl:_ = some [_,_,_,_,_,_,_]) | exact (rfl:_ = some [_,_,_,_,_,_,_,_]) | rfl));(case hM => rfl);(case hN => rfl)) | ((with_reducible apply oL);(case hx => rfl);(case hy => rfl);(case hze => rfl);(case hsm => omega);(case hmx => omega);(case hcs => first|exact OR | exact LB | exact IT | exact E0 | rfl);(case hM => rfl);(case hN => rfl)));exact k.pf) | fail):G := h ⟨k⟩
theorem RM {G K:Prop}(k:K) (h:Hy K → G := by first|(intro k;(first|((with_reducible apply bC);(case hx => rfl);(case hy => rfl);(case hc => rfl);(case hn => rfl);(case hH => rfl);(case hl => (first|decide|(rw [aI]; simp only [gB] <;> omega)|omega|(simp;done)|(simp;omega)));(case hcs => first|exact PM (by (first|assumption | omega | (simp only [gB] <;> omega) | decide)) | exact QU (by (first|assumption | omega | (simp only [gB] <;> omega) | decide)) | exact QJ (by (first|assumption | omega | (simp only [gB] <;> omega) | decide)) | exact Rt (by (first|assumption | omega | (simp only [gB] <;> omega) | decide)) | exact EL (by (first|assumption | omega | (simp only [gB] <;> omega) | decide)) | exact KZ (by (first|assumption | omega | (simp only [gB] <;> omega) | decide)) | exact IV (by (first|assumption | omega | (simp only [gB] <;> omega) | decide)) | exact O5 (by (first|assumption | omega | (simp only [gB] <;> omega) | decide)) | exact Fp (by (first|assumption | omega | (simp only [gB] <;> omega) | decide)) | exact J8 (by (first|assumption | omega | (simp only [gB] <;> omega) | decide))  | exact OB (by (first|assumption | omega | (simp only [gB] <;> omega) | decide)) | exact y7 (by (first|assumption | omega | (simp only [gB] <;> omega) | decide))  | exact (rfl:_ = [_]) | exact (rfl:_ = [_,_]) | exact (rfl:_ = [_,_,_]) | exact (rfl:_ = [_,_,_,_]) | exact (rfl:_ = [_,_,_,_,_]) | exact (rfl:_ = [_,_,_,_,_,_]) | exact (rfl:_ = [_,_,_,_,_,_,_]) | exact (rfl:_ = [_,_,_,_,_,_,_,_]) | rfl)) | ((with_reducible apply BJ);(case hx => rfl);(case hy => rfl);(case hH => rfl);(case hl => first|assumption | omega | (simp only [gB] <;> omega));(case hc => first|rfl | (rw [eV]; first|assumption | (simp only [gB] <;> omega)))));exact k.pf) | fail):G := h ⟨k⟩
theorem J2 {G K:Prop}(k:K) (h:Hy K → G := by first|(intro k;(first|((with_reducible apply aF);first|((with_reducible apply Mv);(case hx => rfl);(case hN => rfl)) | ((with_reducible apply Lt);refine RQ ?_) | ((with_reducible apply zM);(case hx => rfl);(case hp => rfl);(case hN => rfl)) | ((with_reducible apply Ra);refine RY ?_) | ((with_reducible apply O4);refine R6 ?_) | ((with_reducible apply yF);(case hx => rfl);(case hN => rfl)) | ((with_reducible apply Mf);first|((with_reducible apply JA);(case hc => rfl);(case hb => first|rfl | assumption);(case hx => rfl);(case hN => rfl)) | ((with_reducible apply JZ);(case hc => rfl);(case hb => first|rfl | assumption);(case hx => rfl);(case hN => rfl))) | ((with_reducible apply Pv);refine RP ?_) | ((with_reducible apply QX);refine RT ?_) | ((with_reducible apply OU);(case hf => kernel_rfl)) | ((with_reducible apply Mh);first|((with_reducible apply x5);(case hx => rfl);(case h => first|exact N5 _ | omega);(case hN => rfl)) ) | ((with_reducible apply Rq);first|((with_reducible apply DM);(case hx => rfl);(case hi => rfl);(case hl => first|assumption | omega | (simp only [gB] <;> omega));(case hm => omega);(case hN => rfl))) | ((with_reducible apply OC);refine RV ?_) | ((with_reducible apply PK);first|((with_reducible apply x8);(case hx => rfl);(case hf => infer_instance);(case hl => rfl);(case hh => rfl);(case hb => first|omega | (simp only [List.length_take,List.length_drop,Int.toNat_natCast]; omega));(case hN => rfl))) | ((with_reducible apply mX);(case hf => rfl);(case hc => rfl);(case hN => rfl)) | ((with_reducible apply OA);(case hx => rfl);(case hN => rfl)) | ((with_reducible apply O6);(case hx => rfl);(case hp => rfl);(case hN => rfl)) | ((with_reducible apply O7);(case hx => rfl);(case hc => rfl);(case hM => rfl);(case hN => rfl)) | ((with_reducible apply Ip);(case hM => rfl);(case hN => rfl)) | ((with_reducible apply Ed);(case hx => rfl);(case hc => rfl);(case hN => rfl)) | refine RL ?_ | refine RM ?_));exact k.pf) | fail):G := h ⟨k⟩
theorem RO {G K:Prop}(k:K) (h:Hy K → G := by first|(intro k;(first|((with_reducible apply E3);first|with_reducible apply On | with_reducible apply HB | ((with_reducible apply IP);(case hc => rfl);(case hb => first|rfl | assumption)) | ((with_reducible apply JQ);(case hc => rfl);(case hb => first|rfl | assumption)) | with_reducible apply IK | with_reducible apply MF | with_reducible apply Mx | with_reducible apply Qk ) | with_reducible apply Hd | with_reducible apply Om | with_reducible apply Mj | with_reducible apply GD | with_reducible apply Oq | with_reducible apply Nu | ((with_reducible apply Qs);(case hij => decide)));exact k.pf) | fail):G := h ⟨k⟩
theorem aK {G c1 q1 c2 q2 K1 K2:Prop}(k1:c1 → q1 → K1) (k2:c2 → q2 → K2) (h:Hy (c1 → q1 → K1) → Hy (c2 → q2 → K2) → G := by first|(intro k1 k2;(with_reducible apply E3);(with_reducible apply zD);(case hc => rfl);(intro hc;have hq := hc;(try simp only [RD] at hq);first|exact k1.pf hc hq | exact k1.pf hc trivial);(intro hc;have hq := hc;(try simp only [RD] at hq);first|exact k2.pf hc hq | exact k2.pf hc trivial)) | fail):G := h ⟨k1⟩ ⟨k2⟩
theorem bK {G c1 q1 c2 q2 K1 K2:Prop}(k1:c1 → q1 → K1) (k2:c2 → q2 → K2) (h:Hy (c1 → q1 → K1) → Hy (c2 → q2 → K2) → G := by first|(intro k1 k2;(with_reducible apply aF);(with_reducible apply Ra);(with_reducible apply Hu);(case hj => rfl);(case hb => rfl);(case hN => rfl);(intro hc;have hq := hc;(try simp only [RD] at hq);first|exact k1.pf hc hq | exact k1.pf hc trivial);(intro hc;have hq := hc;(try simp only [RD] at hq);first|exact k2.pf hc hq | exact k2.pf hc trivial)) | fail):G := h ⟨k1⟩ ⟨k2⟩
theorem bH {G K:Prop}(k:K) (h:Hy K → G := by first|(intro k;(with_reducible apply E3);(with_reducible apply No);(case hm => kernel_rfl);exact k.pf) | fail):G := h ⟨k⟩
theorem cV {G K:Prop}(k:K) (h:Hy K → G := by first|(intro k;(with_reducible apply aC);(case hr => rfl);exact k.pf) | fail):G := h ⟨k⟩
theorem Cx {ts:List (Nat × AV)}:pR [] ts = [] := rfl
theorem yC {k:Nat}{v:AV}{ks:List Nat}{ts kt:List (Nat × AV)}(h:lk ts k = some v) (h2:pR ks ts = kt):pR (k :: ks) ts = (k,v) :: kt:=by
 subst h2;simp [pR,h]
theorem CF {hs:List (Nat × Option (List AV))}:qU [] hs = [] := rfl
theorem xY {k:Nat}{v:List AV}{ks:List Nat}{hs kh:List (Nat × Option (List AV))}(h:aT hs k = some v) (h2:qU ks hs = kh):qU (k :: ks) hs = (k,some v) :: kh:=by
 subst h2;simp [qU,h]
section
variable {P : Program} {N : Nat} {Q : Exit → AS → Prop} {σ : Type} {c : Code} {ts : List (Nat × AV)} {hs : List (Nat × Option (List AV))} {n : Nat} {z0 : Lo}
theorem aH (ks js:List Nat){kt:List (Nat × AV)}{kh:List (Nat × Option (List AV))}(ot:σ → List (Nat × AV)) (oh:σ → List (Nat × Option (List AV))) (p:σ → Prop) (μ:σ → Nat) (i0:σ) (h0:p i0)
  (round : ∀ i,p i → AW P N c (pE (fun s' => ∃ j,p j ∧ μ j < μ i ∧ Le s' ⟨ot j ++ kt,oh j ++ kh,n,z0⟩) Q) ⟨ot i ++ kt,oh i ++ kh,n,z0⟩)
  (hk : pR ks ts = kt := by repeat' (first|exact Cx|(apply yC;rfl))) (hj : qU js hs = kh := by repeat' (first|exact CF|(apply xY;rfl)))
  (h1 : pG ts (ot i0) := by repeat' (first|exact trivial|refine And.intro rfl ?_)) (h2 : oF hs (oh i0) := by repeat' (first|exact trivial|refine And.intro (.inr rfl) ?_)) : AW P N (.loop c) Q ⟨ts,hs,n,z0⟩ :=
 IG ks kt js kh ot oh p μ i0 h0 hk hj h1 h2 round
theorem eS (Rf:σ → List (List Bool)) (ks js:List Nat){kt:List (Nat × AV)}{kh:List (Nat × Option (List AV))}(ot:σ → List (Nat × AV)) (oh:σ → List (Nat × Option (List AV))) (p:σ → Prop) (μ:σ → Nat) (i0:σ) (h0:p i0)
  (round : ∀ i,p i → AW P N c (pE (fun s' => ∃ j,p j ∧ μ j < μ i ∧ Le s' ⟨ot j ++ kt,(oh j ++ kh) ++ gZ (Rf j),n,⟨0,a6 + (Rf j).length⟩⟩) Q) ⟨ot i ++ kt,(oh i ++ kh) ++ gZ (Rf i),n,⟨0,a6 + (Rf i).length⟩⟩)
  (hk : pR ks ts = kt := by repeat' (first|exact Cx|(apply yC;rfl))) (hj : qU js hs = kh := by repeat' (first|exact CF|(apply xY;rfl)))
  (h1 : pG ts (ot i0) := by repeat' (first|exact trivial|refine And.intro rfl ?_)) (h2 : oF hs (oh i0) := by repeat' (first|exact trivial|refine And.intro (.inr rfl) ?_))
  (hF : FamR (Rf i0) (Rf i0) hs hs := by repeat' (first|exact FamR.here|exact FamR.nil|(apply FamR.cons;focus rfl))) (hz : z0 = ⟨0,a6 + (Rf i0).length⟩ := by first|rfl|(simp only [fQ])) : AW P N (.loop c) Q ⟨ts,hs,n,z0⟩ :=
 Cu 0 Rf ks kt js kh ot oh p μ i0 h0 hk hj h1 h2 hF hz round
end
theorem Le.renA (m:List (Nat × Nat)){ts ts':List (Nat × AV)}{hs hs':List (Nat × Option (List AV))}{n n':Nat}{lo:Lo}(hm:K0 lo.lo n' m = true := by rfl) (hn:lo.lo ≤ n' := by decide)
  (h1 : KB m lo ts ts' := by repeat' (first|exact trivial|refine And.intro ⟨_,rfl,?_⟩ ?_|refine And.intro ⟨_,_,rfl,rfl,?_⟩ ?_|exact Or.inr rfl|refine Or.inl ⟨?_,(by first|rfl|exact bD _ _|exact Pur.pf|exact PurV.pf)⟩|refine Or.inr (All2.cons ?_ ?_)|refine All2.cons ?_ ?_|exact All2.nil|rfl))
  (h2 : Eo m lo hs hs' := by repeat' (first|exact trivial|refine And.intro ⟨_,rfl,?_⟩ ?_|refine And.intro ⟨_,_,rfl,rfl,?_⟩ ?_|exact Or.inr rfl|refine Or.inl ⟨?_,(by first|rfl|exact bD _ _|exact Pur.pf|exact PurV.pf)⟩|refine Or.inr (All2.cons ?_ ?_)|refine All2.cons ?_ ?_|exact All2.nil|rfl)) : Le ⟨ts,hs,n,lo⟩ ⟨ts',hs',n',lo⟩ :=
 Le.ren m hm hn h1 h2
section
variable {P : Program} {k : FuncId} {fn : Func} {c : Code} {args : List AV} {N : Nat}
theorem aB {Q:AV → Prop}(hf:P.funcs[k]? = some fn) (hn:fn.ntmps = N) (h:AW P N c (pB P fn.results (fun r _ => Q r ∧ r.pur = true)) ⟨jA 0 args,[],0,⟨0,a6⟩⟩) (hb:fn.body = some c := by rfl)
  (hN : args.length ≤ N := by simp) : PC P k args Q := by subst hn;exact KY hf hb hN h
theorem aU {σ:Type}{H0:List (Nat × Option (List AV))}{n:Nat}{p:σ → Prop}{rr:σ → AV}{hh:σ → List (Nat × Option (List AV))}(hf:P.funcs[k]? = some fn) (hn:fn.ntmps = N)
  (h : AW P N c (pB P fn.results (fun r H' => ∃ x,p x ∧ r = rr x ∧ ∀ id cs,aT (hh x) id = some cs → H' id = some cs)) ⟨jA 0 args,H0,n,⟨n,a6⟩⟩) (hb : fn.body = some c := by rfl)
  (hN : args.length ≤ N := by simp) : MC P k args H0 n p rr hh := by subst hn;exact Ki hf hb hN h
theorem BW {R0:List (List Bool)}{r:AV}{hh:List (Nat × Option (List AV))}(hf:P.funcs[k]? = some fn) (hn:fn.ntmps = N)
  (h : AW P N c (pB P fn.results (fun r' H' => r' = r ∧ ∀ id cs,aT (hh ++ gZ R0) id = some cs → H' id = some cs)) ⟨jA 0 args,gZ R0,0,⟨0,a6 + R0.length⟩⟩) (hb : fn.body = some c := by rfl)
  (hN : args.length ≤ N := by simp) : Qw P k args R0 r hh := by subst hn;exact Is hf hb hN h
theorem IY {R1:List (List Bool)}{r:AV}(hf:P.funcs[k]? = some fn) (hn:fn.ntmps = N)
  (h : AW P N c (pB P fn.results (fun r' H' => r' = r ∧ ∀ id cs,aT (gZ R1) id = some cs → H' id = some cs)) ⟨jA 0 args,[],0,⟨0,a6⟩⟩) (hb : fn.body = some c := by rfl)
  (hN : args.length ≤ N := by simp) : RA P k args r R1 := by subst hn;exact Js hf hb hN h
end
theorem sE {p:Prop}{α:Type}{a c:Option α}{b:α}(h:some b = c) (e:a = some b := by rfl):p ∨ a = c := .inr (e.trans h)
section
variable {P : Program} {N : Nat} {Q : Exit → AS → Prop} {all : Array Oper} {rest : List Oper} {ts : List (Nat × AV)} {hs : List (Nat × Option (List AV))} {n : Nat} {z0 : Lo} {md : Md}
variable {ty : TypeId} {pos : String} {af : Array Edge}
theorem aX {d:Nat}{k:FuncId}{l:List Operand}{tys:Array TypeId}{avs avs0:List AV}{H0:List (Nat × Option (List AV))}{rr rr':AV}{hh:List (Nat × Option (List AV))}
  (mp : List Nat) (n1 : Nat) (ws : List (Nat × Option (List AV))) (h : MC P k avs0 H0 mp.length (fun _ : Unit => True) (fun _ => rr) (fun _ => hh)) [hc : CaT P k] (ha : evL (lk ts) l = some avs) (hd : distinct mp = true)
  (hM : Nat.ble (n + (n1 - mp.length)) a6 = true) (hN : Nat.blt d N = true)
  {md' : Md} [hmd : MdA md (fF l ++ mp.map .inr) (ws.map (fun p => .inr p.1) ++ [.inl d]) md']
  (kk : RW P N all Q md' rest ⟨(d,rr') :: ts,gD hs ws,n + (n1 - mp.length),z0⟩)
  (hH0 : sO hs H0 mp 0 mp := by repeat' (first|exact trivial|(refine And.intro ⟨_,_,rfl,by assumption,?_⟩ ?_)|exact RnL.purI inferInstance|exact y5 rfl|exact RnV.purI inferInstance|exact RnV.own rfl|exact RnV.optr rfl|exact RnL.nil|refine RnL.cons ?_ ?_|refine RnV.agg ?_|refine RnV.tup ?_))
  (hk : gI mp.length H0 = true := by rfl)
  (har : RnL (mp[·]?) avs0 avs := by repeat' (first|exact RnL.purI inferInstance|exact y5 rfl|exact RnV.purI inferInstance|exact RnV.own rfl|exact RnV.optr rfl|exact RnL.nil|refine RnL.cons ?_ ?_|refine RnV.agg ?_|refine RnV.tup ?_))
  (hr : RnV (xQ mp n n1) rr rr' := by repeat' (first|exact RnL.purI inferInstance|exact y5 rfl|exact RnV.purI inferInstance|exact RnV.own rfl|exact RnV.optr rfl|exact RnL.nil|refine RnL.cons ?_ ?_|refine RnV.agg ?_|refine RnV.tup ?_))
  (hwa : uE mp ws = true := by simp [uE])
  (hw : sS (xQ mp n n1) hh ws := by repeat' (first|exact trivial|(refine And.intro ⟨0,_,rfl,rfl,?_⟩ ?_)|(refine And.intro ⟨1,_,rfl,rfl,?_⟩ ?_)|(refine And.intro ⟨2,_,rfl,rfl,?_⟩ ?_)|(refine And.intro ⟨3,_,rfl,rfl,?_⟩ ?_)|(refine And.intro ⟨4,_,rfl,rfl,?_⟩ ?_)|(refine And.intro ⟨5,_,rfl,rfl,?_⟩ ?_)|(refine And.intro ⟨6,_,rfl,rfl,?_⟩ ?_)|exact RnL.purI inferInstance|exact y5 rfl|exact RnV.purI inferInstance|exact RnV.own rfl|exact RnV.optr rfl|exact RnL.nil|refine RnL.cons ?_ ?_|refine RnV.agg ?_|refine RnV.tup ?_)) :
  RW P N all Q md (⟨some d,.call ⟨.value (.func k),l.toArray,tys⟩,ty,pos,af,none⟩ :: rest) ⟨ts,hs,n,z0⟩ :=
 G5 mp n1 ws h (avs := avs) ha hd hH0 hk har hM hr hwa hw hN (md' := md') (hmd := hmd) kk
end
theorem aE {G K:Prop}(k:K) (h:Hy K → G := by first|(intro k;(first|refine J2 ?_ | refine RO ?_);exact k.pf) | fail):G := h ⟨k⟩
def Ht (op : BinOp) (a b : ByteArray) : Option Value :=
 match op with
 | .add => if a.size + b.size ≤ 9000000000000000000 then some (.string (a ++ b)) else none
 | .eql => some (.bool (a.toList == b.toList))
 | .neq => some (.bool (!(a.toList == b.toList)))
 | _ => none
def La (s : ByteArray) (l : List Int) : ByteArray := l.foldl (fun r n => r.push (UInt8.ofNat n.toNat)) s
section
variable {P : Program} {C : Ctx} {ι : Pl} {T : Nat → Option AV} {F : Nat → Prop} {H : Nat → Option (List AV)} {a : Act} {w : World} {o : Oper}
theorem MN (g:TG C ι T H a w){op:BinOp}{t t':TypeId}{x y:Operand}{m n:ByteArray}{v:Value}(ho:o.op = .binOp op t x y t')
  (hx : ev T x = some (.v (.string m))) (hy : ev T y = some (.v (.string n))) (h : Ht op m n = some v) : Pu P C ι H a w o (.v v) := by
 have h1 := bU g hx
 have h2 := bU g hy
 simp only [Rd] at h1 h2
 refine ⟨v,?_,by simp [Rd]⟩
 have hg : (eqGuard op t x y (.string m) (.string n)).run P w = .ok () w := by
  unfold eqGuard
  cases op <;> simp
 have hb : (binOp op t (.string m) (.string n)).run P w = .ok v w := by
  cases op <;> simp only [Ht] at h <;> first|(cases h;done)|skip
  ·split at h
   ·rename_i hs
    cases h
    have h9 : ¬ (((m.size + n.size : Nat) : Int) > IntKind.i64.max) := by
     have : IntKind.i64.max = 9223372036854775807 := rfl
     omega
    show ((if ((m.size + n.size : Nat) : Int) > IntKind.i64.max then _ else pure (.string (m ++ n)) : Sem Value)).run P w = _
    rw [if_neg h9]; simp
   ·cases h
  all_goals (cases h;simp [binOp,Op.stringOp])
 simp only [execOp,ho,h1,h2,Sem.run_bind,hg,Result.andThen_ok,hb,Sem.run_pure]
theorem v8 {bad:Nat → Prop}{k:IntKind}:∀ {ns:List Int}{l:List Value},RdL w bad ι (ns.map fun n => .v (.int k n)) l → l = ns.map (Value.int k)
 | [],l,h => by simp only [List.map_nil,RdL] at h;exact h
 | n :: ns, l, h => by
  simp only [List.map_cons,RdL] at h
  obtain ⟨x,l',rfl,h0,h1,h2⟩ := h
  simp only [Rd] at h1
  rw [h1,v8 h2,List.map_cons]
theorem OI (g:TG C ι T H a w) (gh:HG C ι F H w){s t el:TypeId}{x:Operand}{av:AV}{m:Nat}{ns:List Int}(ho:o.op = .convert s t x) (hx:ev T x = some av)
  (ht : mI P s = some el) (hu : Bq P el = some .u8) (hst : P.underlying t = some .string) (hs : sCells H 1 (qR av) = some (m,ns.map fun n => .v (.int .u8 n))) :
  Pu P C ι H a w o (.v (.string (La .empty ns))) := by
 obtain ⟨ad,c,l,h1,h2,h3,h4,h5⟩ := x9 gh (nK (bU g hx)) hs
 have hl := v8 h3
 have hll : ns.length = m := by have := h2;rw [hl] at this;simpa using this
 refine ⟨.string (La .empty ns),?_,by simp [Rd]⟩
 have hcv : (convert s t (.slice ad m c)).run P w = (Conv.bytesToString (.slice ad m c)).run P w := run_convert_bytes_string w s t el ad m c (iA ht) (DZ hu) hst
 have hrun : (Conv.bytesToString (.slice ad m c)).run P w = .ok (.string (La .empty ns)) w := by
  cases ad with
  | none =>
   rcases h5 with ⟨b,o',h⟩|h
   ·cases h
   ·subst h
    have : ns = [] := List.eq_nil_of_length_eq_zero hll
    subst this
    rfl
  | some ad =>
   have hload : (loadCells ad m).run P w = .ok (ns.map (Value.int .u8)).toArray w := by
    rcases h5 with ⟨b,o',h⟩|h
    ·cases h
     have := run_loadCells_list (P := P) w ⟨b,o',none⟩ l (fun j v hj => by rw [Addr.add_lit]; exact h4 b o' rfl j v hj)
     rw [h2,Nat.mul_one,hl] at this
     exact this
    ·subst h
     have : ns = [] := List.eq_nil_of_length_eq_zero hll
     subst this
     simp [loadCells,loadCellsFrom]
   exact run_bytesToString w ad m c ns hload
 simp only [execOp,ho,h1,Sem.run_bind,hcv,hrun,Result.andThen_ok,Sem.run_pure]
end
class Eq3 (P : Program) (t : Nat) : Prop where
 g : P.eqGuardType P.depth t = false
 e : ∀ (a b c a' b' c' : Int) (w : World),(Op.equalIn 10000 t (.agg #[.int .i64 a,.int .i64 b,.int .i64 c]) (.agg #[.int .i64 a',.int .i64 b',.int .i64 c'])).run P w = .ok (a == a' && (b == b' && c == c')) w
def Lc (op : BinOp) (b : Bool) : Option Value :=
 match op with
 | .eql => some (.bool b)
 | .neq => some (.bool (!b))
 | _ => none
section
variable {P : Program} {C : Ctx} {ι : Pl} {T : Nat → Option AV} {F : Nat → Prop} {H : Nat → Option (List AV)} {a : Act} {w : World} {o : Oper}
theorem PZ (g:TG C ι T H a w){op:BinOp}{t t':TypeId}{x y:Operand}{m1 m2 m3 n1 n2 n3:Int}{v:Value}(he:Eq3 P t) (ho:o.op = .binOp op t x y t')
  (hx : ev T x = some (.agg [.v (.int .i64 m1),.v (.int .i64 m2),.v (.int .i64 m3)])) (hy : ev T y = some (.agg [.v (.int .i64 n1),.v (.int .i64 n2),.v (.int .i64 n3)]))
  (h : Lc op (m1 == n1 && (m2 == n2 && m3 == n3)) = some v) : Pu P C ι H a w o (.v v) := by
 have key : ∀ (z : Operand) (k1 k2 k3 : Int), ev T z = some (.agg [.v (.int .i64 k1), .v (.int .i64 k2), .v (.int .i64 k3)]) → a.eval z = .agg #[.int .i64 k1, .int .i64 k2, .int .i64 k3] := by
  intro z k1 k2 k3 hz
  have h1 := bU g hz
  simp only [Rd] at h1
  obtain ⟨l,h2,h3⟩ := h1
  have h4 := v8 (ns := [k1,k2,k3]) (k := .i64) h3
  rw [h2,h4]; rfl
 refine ⟨v,?_,by simp [Rd]⟩
 have hb : (binOp op t (.agg #[.int .i64 m1, .int .i64 m2, .int .i64 m3]) (.agg #[.int .i64 n1, .int .i64 n2, .int .i64 n3])).run P w = .ok v w := by
  cases op <;> simp only [Lc] at h <;> cases h
  ·rw [run_eql_struct,he.e]; rfl
  ·rw [run_neq_struct,he.e]; rfl
 simp only [execOp,ho,key x _ _ _ hx,key y _ _ _ hy,Sem.run_bind,run_eqGuard_agg w op t x y _ _ he.g,Result.andThen_ok,hb,Sem.run_pure]
end
section
variable {P : Program} {N : Nat} {Q : Exit → AS → Prop} {all : Array Oper} {rest : List Oper} {ts : List (Nat × AV)} {hs : List (Nat × Option (List AV))} {n : Nat} {z0 : Lo} {md : Md}
variable {d : Nat} {ty : TypeId} {pos : String} {af : Array Edge}
theorem fO {op:BinOp}{t t':TypeId}{x y:Operand}{m m':ByteArray}{v:Value}(hx:ev (lk ts) x = some (.v (.string m))) (hy:ev (lk ts) y = some (.v (.string m')))
  (h : Ht op m m' = some v) (hN : Nat.blt d N = true) {md' : Md} [hmd : MdA md (rO x ++ rO y) [.inl d] md'] (kk : RW P N all Q md' rest ⟨(d,.v v) :: ts,hs,n,z0⟩) : RW P N all Q md (⟨some d,.binOp op t x y t',ty,pos,af,none⟩ :: rest) ⟨ts,hs,n,z0⟩ :=
 dI rfl rfl (cS hN) (fun C ι F T H a w ag g gh => MN g rfl (ag.l.ev.trans hx) (ag.r.ev.trans hy) h) (by rw [hmd.pf]; exact kk)
theorem A9 {op:BinOp}{t t':TypeId}{x y:Operand}{m1 m2 m3 n1 n2 n3:Int}{v:Value}[he:Eq3 P t] (hx:ev (lk ts) x = some (.agg [.v (.int .i64 m1),.v (.int .i64 m2),.v (.int .i64 m3)])) (hy:ev (lk ts) y = some (.agg [.v (.int .i64 n1),.v (.int .i64 n2),.v (.int .i64 n3)]))
  (h : Lc op (m1 == n1 && (m2 == n2 && m3 == n3)) = some v) (hN : Nat.blt d N = true) {md' : Md} [hmd : MdA md (rO x ++ rO y) [.inl d] md'] (kk : RW P N all Q md' rest ⟨(d,.v v) :: ts,hs,n,z0⟩) : RW P N all Q md (⟨some d,.binOp op t x y t',ty,pos,af,none⟩ :: rest) ⟨ts,hs,n,z0⟩ :=
 dI rfl rfl (cS hN) (fun C ι F T H a w ag g gh => PZ g he rfl (ag.l.ev.trans hx) (ag.r.ev.trans hy) h) (by rw [hmd.pf]; exact kk)
theorem Dy {s t el:TypeId}{x:Operand}{av:AV}{m:Nat}(ns:List Int) [ht:SlT P s el] [hu:InT P el .u8] [hst:StT P t] (hx:ev (lk ts) x = some av)
  (hs' : sCells (aT hs) 1 (qR av) = some (m,ns.map fun n => .v (.int .u8 n))) (hN : Nat.blt d N = true) {md' : Md} [hmd : MdA md (rO x ++ rA av) [.inl d] md'] (kk : RW P N all Q md' rest ⟨(d,.v (.string (La .empty ns))) :: ts,hs,n,z0⟩) :
  RW P N all Q md (⟨some d,.convert s t x,ty,pos,af,none⟩ :: rest) ⟨ts,hs,n,z0⟩ :=
 dI rfl rfl (cS hN) (fun C ι F T H a w ag g gh => OI g gh rfl (ag.l.ev.trans hx) ht.pf hu.pf hst.pf (ag.r.sCells.trans hs')) (by rw [hmd.pf]; exact kk)
theorem qY {t:TypeId}{x i:Operand}{s:ByteArray}{k:IntKind}{m:Int}[ht:StT P t] (hx:ev (lk ts) x = some (.v (.string s)))
  (hi : ev (lk ts) i = some (.v (.int k m))) (hm : 0 ≤ m ∧ m < (s.size : Int)) (hN : Nat.blt d N = true) {md' : Md} [hmd : MdA md (rO x ++ rO i) [.inl d] md'] (kk : RW P N all Q md' rest ⟨(d,.v (.int .u8 ((s[m.toNat]!).toNat : Int))) :: ts,hs,n,z0⟩) :
  RW P N all Q md (⟨some d,.index t x i,ty,pos,af,none⟩ :: rest) ⟨ts,hs,n,z0⟩ :=
 G2 (b := s[m.toNat]!) hx hi ht.pf hm.1 (by rw [getElem!_pos s m.toNat (by omega),getElem?_pos s m.toNat (by omega)]) (cS hN) (by rw [hmd.pf]; exact kk)
theorem rS {t:TypeId}{x:Operand}{lo hi:Option Operand}{s:ByteArray}{l h:Nat}[ht:StT P t] (hx:ev (lk ts) x = some (.v (.string s)))
  (hl : gA (lk ts) lo 0 = some l) (hh : gA (lk ts) hi s.size = some h) (hc : l ≤ h ∧ h ≤ s.size) (hN : Nat.blt d N = true) {md' : Md} [hmd : MdA md (rO x ++ (rB lo ++ rB hi)) [.inl d] md'] (kk : RW P N all Q md' rest ⟨(d,.v (.string (s.extract l h))) :: ts,hs,n,z0⟩) :
  RW P N all Q md (⟨some d,.slice t x lo hi none,ty,pos,af,none⟩ :: rest) ⟨ts,hs,n,z0⟩ := GA hx ht.pf hl hh hc (cS hN) (by rw [hmd.pf]; exact kk)
theorem Lg (m:Int) (h:0 ≤ m ∧ m ≤ 255):IntKind.u8.wrap m = m:=by
 have : IntKind.u8.wrap m = m % 256 := rfl
 rw [this]; omega
theorem L4 {t t':TypeId}{x y:Operand}{m m':Int}(hx:ev (lk ts) x = some (.v (.int .u8 m))) (hy:ev (lk ts) y = some (.v (.int .u8 m')))
  (h : 0 ≤ m + m' ∧ m + m' ≤ 255) (hN : Nat.blt d N = true) {md' : Md} [hmd : MdA md (rO x ++ rO y) [.inl d] md'] (kk : RW P N all Q md' rest ⟨(d,.v (.int .u8 (m + m'))) :: ts,hs,n,z0⟩) : RW P N all Q md (⟨some d,.binOp .add t x y t',ty,pos,af,none⟩ :: rest) ⟨ts,hs,n,z0⟩ :=
 dT hx hy (.inl rfl) (v := .int .u8 (m + m')) (by simp only [gN,Lg _ h]) (cS hN) (by rw [hmd.pf]; exact kk)
theorem FA {t t':TypeId}{x y:Operand}{m m':Int}(hx:ev (lk ts) x = some (.v (.int .u8 m))) (hy:ev (lk ts) y = some (.v (.int .u8 m')))
  (h : 0 ≤ m - m' ∧ m - m' ≤ 255) (hN : Nat.blt d N = true) {md' : Md} [hmd : MdA md (rO x ++ rO y) [.inl d] md'] (kk : RW P N all Q md' rest ⟨(d,.v (.int .u8 (m - m'))) :: ts,hs,n,z0⟩) : RW P N all Q md (⟨some d,.binOp .sub t x y t',ty,pos,af,none⟩ :: rest) ⟨ts,hs,n,z0⟩ :=
 dT hx hy (.inl rfl) (v := .int .u8 (m - m')) (by simp only [gN,Lg _ h]) (cS hN) (by rw [hmd.pf]; exact kk)
theorem vW {s t:TypeId}{x:Operand}{k':IntKind}{m:Int}[hd:InT P t .u8] [hs':InT P s k'] (hx:ev (lk ts) x = some (.v (.int k' m))) (h:0 ≤ m ∧ m ≤ 255) (hN:Nat.blt d N = true){md':Md}[hmd:MdA md (rO x) [.inl d] md'] (kk:RW P N all Q md' rest ⟨(d,.v (.int .u8 m)) :: ts,hs,n,z0⟩) :
  RW P N all Q md (⟨some d,.convert s t x,ty,pos,af,none⟩ :: rest) ⟨ts,hs,n,z0⟩ := FY hx hd.pf hs'.pf (cS hN) (by rw [hmd.pf,Lg _ h]; exact kk)
end
theorem lJ (n:Int):(La .empty [n]).size = 1 := rfl
theorem oC {a b:ByteArray}(h:a.size + b.size ≤ 9000000000000000000):Ht .add a b = some (.string (a ++ b)) := if_pos h
def yJ (l : List Int) : ByteArray := l.foldl (fun r n => r.push (UInt8.ofNat n.toNat)) .empty
def gC (v : Int) : ByteArray := yJ [97 + v]
def AJ (n : Int) : ByteArray := yJ [48 + n] ++ .empty
theorem jK (l:List UInt8):ByteArray.size ⟨l.toArray⟩ = l.length := rfl
theorem hG (v:Int):(gC v).size = 1 := rfl
theorem fY (v:Int):(AJ v).size = 1 := by simp [AJ,yJ,ByteArray.size_append]
def sT (out : ByteArray) (k : Nat) (t : ByteArray) : ByteArray := (if 0 < k then out ++ ⟨#[59]⟩ else out) ++ t
mutual
def jW : Stmt → ByteArray
 | .mk op x y n th el =>
  if op = 1 then (gC x ++ ⟨#[61]⟩) ++ AJ n
  else if op = 2 then (gC x ++ ⟨#[61,98,111,120,32]⟩) ++ AJ n
  else if op = 3 then (gC x ++ ⟨#[61]⟩) ++ gC y
  else if op = 4 then (gC x ++ ⟨#[61,38]⟩) ++ gC y
  else if op = 5 then (gC x ++ ⟨#[61,38,109,117,116,32]⟩) ++ gC y
  else if op = 6 then (gC x ++ ⟨#[61,42]⟩) ++ gC y
  else if op = 7 then ((⟨#[42]⟩ ++ gC x) ++ ⟨#[61]⟩) ++ gC y
  else if op = 8 then ⟨#[100,114,111,112,32]⟩ ++ gC x
  else if op = 10 then (⟨#[108,111,111,112,123]⟩ ++ mF .empty 0 th) ++ ⟨#[125]⟩
  else (((⟨#[105,102,123]⟩ ++ mF .empty 0 th) ++ ⟨#[125,123]⟩) ++ mF .empty 0 el) ++ ⟨#[125]⟩
def mF (out : ByteArray) (k : Nat) : List Stmt → ByteArray
 | [] => out
 | s :: l => mF (sT out k (jW s)) (k + 1) l
end
def jR (l : List Stmt) : ByteArray := mF .empty 0 l
theorem wK:∀ (l:List Stmt) (out:ByteArray) (k:Nat) (s:Stmt),mF out k (l ++ [s]) = sT (mF out k l) (k + l.length) (jW s)
 | [],out,k,s => by simp only [List.nil_append,mF,List.length_nil,Nat.add_zero]
 | x :: l, out, k, s => by
  simp only [List.cons_append,mF,wK l,List.length_cons]
  rw [show k + 1 + l.length = k + (l.length + 1) from by omega]
theorem wM (l:List Stmt) (k:Nat) (h:k < l.length):jR (l.take (k + 1)) = sT (jR (l.take k)) k (jW l[k]!):=by
 rw [bG _ _ h,jR,wK,List.length_take,Nat.min_eq_left (by omega),Nat.zero_add]; rfl
theorem yX (s:Stmt):jW s = 
  if s.op = 1 then (gC s.x ++ ⟨#[61]⟩) ++ AJ s.n
  else if s.op = 2 then (gC s.x ++ ⟨#[61,98,111,120,32]⟩) ++ AJ s.n
  else if s.op = 3 then (gC s.x ++ ⟨#[61]⟩) ++ gC s.y
  else if s.op = 4 then (gC s.x ++ ⟨#[61,38]⟩) ++ gC s.y
  else if s.op = 5 then (gC s.x ++ ⟨#[61,38,109,117,116,32]⟩) ++ gC s.y
  else if s.op = 6 then (gC s.x ++ ⟨#[61,42]⟩) ++ gC s.y
  else if s.op = 7 then ((⟨#[42]⟩ ++ gC s.x) ++ ⟨#[61]⟩) ++ gC s.y
  else if s.op = 8 then ⟨#[100,114,111,112,32]⟩ ++ gC s.x
  else if s.op = 10 then (⟨#[108,111,111,112,123]⟩ ++ jR s.th) ++ ⟨#[125]⟩
  else (((⟨#[105,102,123]⟩ ++ jR s.th) ++ ⟨#[125,123]⟩) ++ jR s.el) ++ ⟨#[125]⟩ := by
 cases s;rw [jW]; rfl
mutual
theorem oQ:∀ s,(jW s).size + 1 ≤ 11 * cH s
 | .mk op x y n th el => by
  have h1 := mD th .empty 0
  have h2 := mD el .empty 0
  have h3 : ByteArray.size .empty = 0 := rfl
  rw [jW]
  simp only [cH]
  repeat' split
  all_goals simp only [ByteArray.size_append,jK,List.length_cons,List.length_nil,hG,fY]
  all_goals omega
theorem mD:∀ (l:List Stmt) (out:ByteArray) (k:Nat),(mF out k l).size ≤ out.size + 11 * aR l
 | [],out,k => by simp only [mF,aR]; omega
 | s :: l, out, k => by
  have h1 := oQ s
  have h2 := mD l (sT out k (jW s)) (k + 1)
  have h3 : (sT out k (jW s)).size ≤ out.size + 1 + (jW s).size := by
   unfold sT;split <;> simp only [ByteArray.size_append,jK,List.length_cons,List.length_nil] <;> omega
  simp only [mF,aR]
  omega
end
theorem lM (l:List Stmt):(jR l).size ≤ 11 * aR l:=by
 have := mD l .empty 0
 have h3 : ByteArray.size .empty = 0 := rfl
 unfold jR;omega
theorem xS {ts:List Int}{s:Stmt}(ht:bW ts = true) (h:c6 ts s = true):1 ≤ s.op ∧ s.op ≤ 8 ∧ 0 ≤ s.x ∧ s.x ≤ 5 ∧ 0 ≤ s.y ∧ s.y ≤ 5 ∧ (s.op = 1 ∨ s.op = 2 → 0 ≤ s.n ∧ s.n ≤ 9):=by
 have hl := iQ ht
 have hx := l8 ht s.x
 have hy := l8 ht s.y
 unfold c6 at h
 dsimp only at h
 repeat' split at h
 all_goals (first|(simp only [decide_eq_true_eq] at h;omega)|(simp at h;done))
structure IsOk (nt np : Nat) (x : Iss) : Prop where
 p0 : 0 ≤ x.point
 p1 : x.point < np
 k : (x.kind = 1 ∧ 0 ≤ x.with_ ∧ x.with_ < nt) ∨ ((x.kind = 2 ∨ x.kind = 3) ∧ 0 ≤ x.with_ ∧ x.with_ < np)
theorem PY {ts:List Int}{pts:List Pnt}{Aa:List Nat}{cf:List Bool}{i:Nat}(hi:i < pts.length):∀ x ∈ PR ts pts Aa cf i,IsOk ts.length pts.length x ∧ x.point = i:=by
 intro x hx
 unfold PR at hx
 rcases List.mem_append.1 hx with h|h
 ·obtain ⟨v, hv, rfl⟩ := List.mem_map.1 h
  have hv2 := List.mem_range.1 (List.mem_filter.1 hv).1
  exact ⟨⟨by dsimp only;omega,by dsimp only;omega,.inl ⟨rfl,by dsimp only;omega,by dsimp only;omega⟩⟩,rfl⟩
 ·obtain ⟨v, hv, rfl⟩ := List.mem_map.1 h
  have hv2 := List.mem_range.1 (List.mem_filter.1 hv).1
  refine ⟨⟨by dsimp only;omega,by dsimp only;omega,.inr ⟨?_,by dsimp only;omega,by dsimp only;omega⟩⟩,rfl⟩
  show Lp pts v = 2 ∨ Lp pts v = 3
  unfold Lp;split <;> simp
theorem E5 {ts:List Int}{pts:List Pnt}(w:WG ts pts) (f:Flows ts pts):∀ n,n ≤ pts.length →
  (∀ x ∈ pZ ts pts f.Aa f.Am f.Al f.Af f.Ap n,IsOk ts.length pts.length x ∧ x.point < n) ∧ (pZ ts pts f.Aa f.Am f.Al f.Af f.Ap n).Pairwise (fun a b => a.point ≤ b.point)
 | 0, _ => by
  have : pZ ts pts f.Aa f.Am f.Al f.Af f.Ap 0 = [] := rfl
  rw [this]
  exact ⟨fun x h => by simp at h,List.Pairwise.nil⟩
 | n + 1, h => by
  obtain ⟨h1,h2⟩ := E5 w f n (by omega)
  have h3 := PY (ts := ts) (pts := pts) (Aa := f.Aa) (cf := Lj ts pts f.Am f.Al f.Af f.Ap n) (i := n) (by omega)
  rw [Dx w f (by omega)] at h3
  rw [n5]
  refine ⟨fun x hx => ?_,List.pairwise_append.2 ⟨h2,?_,fun a ha b hb => ?_⟩⟩
  ·rcases List.mem_append.1 hx with hx | hx
   ·exact ⟨(h1 x hx).1,by have := (h1 x hx).2;omega⟩
   ·exact ⟨(h3 x hx).1,by have := (h3 x hx).2;omega⟩
  ·refine List.pairwise_iff_getElem.2 fun i j hi hj _ => ?_
   have a1 := (h3 _ (List.getElem_mem hi)).2
   have a2 := (h3 _ (List.getElem_mem hj)).2
   omega
  ·have a1 := (h1 a ha).2
   have a2 := (h3 b hb).2
   omega
theorem KG {ts:List Int}{pts:List Pnt}(w:WG ts pts) (f:Flows ts pts):(∀ k,k < f.iss.length → IsOk ts.length pts.length f.iss[k]!) ∧ (∀ k,k + 1 < f.iss.length → f.iss[k]!.point ≤ f.iss[k + 1]!.point):=by
 obtain ⟨h1,h2⟩ := E5 w f pts.length (Nat.le_refl _)
 refine ⟨fun k hk => (h1 _ (aS _ k hk)).1,fun k hk => ?_⟩
 rw [aY _ _ hk,aY _ k (by omega)]
 exact List.pairwise_iff_getElem.1 h2 k (k + 1) (Nat.lt_of_succ_lt hk) hk (Nat.lt_succ_self k)
theorem M9 (ts:List Int) (pts:List Pnt) (Aa:List Nat) (cf:List Bool) (i:Nat):(PR ts pts Aa cf i).length ≤ ts.length + pts.length:=by
 unfold PR
 rw [List.length_append,List.length_map,List.length_map]
 have h1 := List.length_filter_le (HC ts pts Aa i) (List.range ts.length)
 have h2 := List.length_filter_le (fun (l : Nat) => cf[l]!) (List.range pts.length)
 rw [List.length_range] at h1 h2
 omega
theorem Fj {ts:List Int}{pts:List Pnt}(w:WG ts pts) (f:Flows ts pts):∀ n,n ≤ pts.length → (pZ ts pts f.Aa f.Am f.Al f.Af f.Ap n).length ≤ n * (ts.length + pts.length)
 | 0,_ => by simp [pZ]
 | n + 1, h => by
  have h1 := Fj w f n (by omega)
  have h2 := M9 ts pts f.Aa (Lj ts pts f.Am f.Al f.Af f.Ap n) n
  rw [Dx w f (by omega)] at h2
  rw [n5,List.length_append,Nat.succ_mul]
  omega
theorem fK {ts:List Int}{pts:List Pnt}(w:WG ts pts) (f:Flows ts pts):f.iss.length ≤ 100000:=by
 have h := Fj w f pts.length (Nat.le_refl _)
 have h1 := w.tl
 have h2 := w.pl
 have h3 : pts.length * (ts.length + pts.length) ≤ 61 * 67 := Nat.mul_le_mul (by omega) (by omega)
 exact Nat.le_trans h (Nat.le_trans h3 (by decide))
end Go.AL
namespace Go.AL
theorem mC {A n:Nat}(hv:∀ v,A.testBit v = true → v < n):A < 2 ^ n := Nat.lt_pow_two_of_testBit _ fun v h => by
 cases hq : Nat.testBit _ v with
 | false => rfl
 | true => have := hv v hq;omega
theorem n8 {A n:Nat}(hn:n ≤ 62) (hv:A < 2 ^ n):Sm A := ⟨Nat.lt_of_lt_of_le hv (Nat.pow_le_pow_right (by decide) hn)⟩
structure FB (ts : List Int) (pts : List Pnt) (f : Flows ts pts) : Prop where
 la : f.Aa.length = pts.length
 lm : f.Am.length = pts.length
 ln : f.An.length = pts.length
 ll : f.Al.length = pts.length
 lp : f.Ap.length = pts.length
 bA : ∀ i : Nat,f.Aa[i]! < 2 ^ ts.length
 bM : ∀ i : Nat,f.Am[i]! < 2 ^ ts.length
 bN : ∀ i : Nat,f.An[i]! < 2 ^ ts.length
 bL : ∀ i : Nat,f.Al[i]! < 2 ^ ts.length
 bP : ∀ i : Nat,f.Ap[i]! < 2 ^ pts.length
 sA : ∀ i : Nat,Sm f.Aa[i]!
 sM : ∀ i : Nat,Sm f.Am[i]!
 sN : ∀ i : Nat,Sm f.An[i]!
 sL : ∀ i : Nat,Sm f.Al[i]!
 sP : ∀ i : Nat,Sm f.Ap[i]!
 rl : ∀ i,i < pts.length → (dG f.Af i).length = 6
 rs : ∀ i,i < pts.length → ∀ z : Nat,Sm (dG f.Af i)[z]!
 af : ∀ i,i < pts.length → L8 pts f.An i = f.Al[i]!
 kp : ∀ i,i < pts.length → Be ts pts[i]! f.Al[i]! (dG f.Af i) < 2 ^ pts.length
 lo : ∀ i,i < pts.length → Be ts pts[i]! f.Al[i]! (dG f.Af i) &&& f.Ap[i]! < 2 ^ pts.length
 cf : ∀ i,i < pts.length → Mq ts pts f.Am f.Al f.Af f.Ap i < 2 ^ pts.length
theorem Flows.bnd {ts:List Int}{pts:List Pnt}(f:Flows ts pts) (w:WG ts pts):FB ts pts f:=by
 have hpl := w.pl
 have htl := w.tl
 have off : ∀ {A : List Nat} {n : Nat} {i : Nat}, A.length = pts.length → ¬ i < pts.length → A[i]! < 2 ^ n := fun {A n i} h hi => by
  rw [getElem!_neg A i (by omega)]; exact Nat.pow_pos (by decide)
 have bA : ∀ i : Nat, f.Aa[i]! < 2 ^ ts.length := fun i => by
  by_cases hi : i < pts.length
  ·exact mC fun v hv => ((f.ga.2 i hi v).1 hv).1
  ·exact off f.ga.1 hi
 have bM : ∀ i : Nat, f.Am[i]! < 2 ^ ts.length := fun i => by
  by_cases hi : i < pts.length
  ·exact mC fun v hv => K9 w ((f.gm.2 i hi v).1 hv)
  ·exact off f.gm.1 hi
 have bN : ∀ i : Nat, f.An[i]! < 2 ^ ts.length := fun i => by
  by_cases hi : i < pts.length
  ·exact mC fun v hv => uO w ((f.gn.2 i hi v).1 hv)
  ·exact off f.gn.1 hi
 have bL : ∀ i : Nat, f.Al[i]! < 2 ^ ts.length := fun i => by
  by_cases hi : i < pts.length
  ·exact mC fun v hv => by obtain ⟨k,_,h⟩ := (f.gl.2 i hi v).1 hv;exact uO w h
  ·exact off f.gl.1 hi
 have bP : ∀ i : Nat, f.Ap[i]! < 2 ^ pts.length := fun i => by
  by_cases hi : i < pts.length
  ·exact mC fun v hv => (v7 ((f.gp.2 i hi v).1 hv)).1
  ·exact off f.gp.1 hi
 have rs : ∀ i, i < pts.length → ∀ z : Nat, (dG f.Af i)[z]! < 2 ^ pts.length := fun i hi z => by
  by_cases hz : z < 6
  ·rw [fM f.gf.1 hi hz]
   exact mC fun v hv => (FD w ((f.gf.2 i z hi hz v).1 hv)).2.2
  ·rw [getElem!_neg _ z (by rw [gE f.gf.1 hi]; exact hz)]; exact Nat.pow_pos (by decide)
 have kp : ∀ i, i < pts.length → Be ts pts[i]! f.Al[i]! (dG f.Af i) < 2 ^ pts.length := fun i hi => mC fun v hv => by
  unfold Be at hv
  rw [kP] at hv
  rcases hv with hv | ⟨z,hz,hv⟩
  ·simp at hv
  ·exact cT (rs i hi _) hv
 have lo : ∀ i,i < pts.length → Be ts pts[i]! f.Al[i]! (dG f.Af i) &&& f.Ap[i]! < 2 ^ pts.length := fun i hi => Nat.and_lt_two_pow _ (bP i)
 refine ⟨f.ga.1, f.gm.1, f.gn.1, f.gl.1, f.gp.1, bA, bM, bN, bL, bP, fun i => n8 (by omega) (bA i), fun i => n8 (by omega) (bM i), fun i => n8 (by omega) (bN i), fun i => n8 (by omega) (bL i), fun i => n8 (by omega) (bP i),
  fun i hi => gE f.gf.1 hi,fun i hi z => n8 (by omega) (rs i hi z),fun i hi => ?_,kp,lo,fun i hi => DQ w (bP i)⟩
 rw [xF f.gl (Ct w f.gn),bQ _ _ _ hi]
end Go.AL
namespace Go.AL
def Wy (pts : List Pnt) (a b : Nat) : Prop := Clo (fun b => cO pts a b) (fun b c => cO pts b c) b
structure GoodR (pts : List Pnt) (a : Nat) (F : List Bool) : Prop where
 l : F.length = pts.length
 g : ∀ i,i < pts.length → (F[i]! = true ↔ Wy pts a i)
theorem GoodR.exist (pts:List Pnt) (a:Nat):∃ F,GoodR pts a F :=
 ⟨(List.range pts.length).map (fun i => @decide (Wy pts a i) (Classical.propDecidable _)),by simp,fun i hi => by rw [aY _ i (by simpa using hi)]; simp⟩
theorem Wy.lt {pts:List Pnt}{a b:Nat}(w:∀ i,i < pts.length → ∀ k ∈ pts[i]!.next,0 ≤ k ∧ k < pts.length) (h:Wy pts a b):b < pts.length:=by
 cases h with
 | base e => have := w _ e.1 _ e.2;omega
 | step _ e => have := w _ e.1 _ e.2;omega
def iR (E : List (Nat × Nat)) (k : Nat) : Int := match E.find? (fun e => e.1 == k) with | some e => (e.2 : Int) | none => -1
def wT (n : Nat) (E : List (Nat × Nat)) : List Int := (List.range n).map (iR E)
def HR (E : List (Nat × Nat)) (a k : Nat) : List (Nat × Nat) := if iR E k < 0 then E ++ [(k,a)] else E
def jV (E : List (Nat × Nat)) (a : Nat) (ks : List Int) : List (Nat × Nat) := ks.foldl (fun E k => HR E a k.toNat) E
def k9 (f : Nat) (E : List (Nat × Nat)) : List Nat := f :: E.map (·.1)
def kS (pts : List Pnt) (f : Nat) : Nat → List (Nat × Nat)
 | 0 => []
 | h + 1 => if h < (k9 f (kS pts f h)).length then jV (kS pts f h) (k9 f (kS pts f h))[h]! pts[(k9 f (kS pts f h))[h]!]!.next else kS pts f h
def fT (f : Nat) (E : List (Nat × Nat)) (h : Nat) : List Int := ((k9 f E).drop h).map (fun (k : Nat) => (k : Int))
theorem gF (n:Nat) (E:List (Nat × Nat)):(wT n E).length = n := by unfold wT;simp
theorem iE {n:Nat}{E:List (Nat × Nat)}{k:Nat}(h:k < n):(wT n E)[k]! = iR E k := by unfold wT;rw [aY _ k (by simpa using h)]; simp
theorem fB {E:List (Nat × Nat)}{k:Nat}:0 ≤ iR E k ↔ k ∈ E.map (·.1):=by
 unfold iR
 cases h : E.find? (fun e => e.1 == k) with
 | none =>
  rw [List.find?_eq_none] at h
  simp only [List.mem_map]
  constructor
  ·intro h;exact absurd h (by decide)
  ·rintro ⟨e,he,rfl⟩; exact absurd (h e he) (by simp)
 | some e =>
  have h1 := List.find?_some h
  have h2 := List.mem_of_find?_eq_some h
  simp only [beq_iff_eq] at h1
  exact ⟨fun _ => List.mem_map.2 ⟨e,h2,h1⟩,fun _ => by dsimp only;omega⟩
theorem Ag {E:List (Nat × Nat)}{k a j:Nat}(h:iR E k < 0):iR (E ++ [(k,a)]) j = if j = k then (a:Int) else iR E j:=by
 have hk := mt fB.2 (by omega : ¬ 0 ≤ iR E k)
 unfold iR
 rw [List.find?_append]
 by_cases e : j = k
 ·subst e
  rw [if_pos rfl]
  have : E.find? (fun e => e.1 == j) = none := by
   rw [List.find?_eq_none]; intro e he h2;simp only [beq_iff_eq] at h2;exact hk (List.mem_map.2 ⟨e,he,h2⟩)
  rw [this]; simp
 ·rw [if_neg e]
  cases h2 : E.find? (fun e => e.1 == j) with
  | none => simp [show ¬ k = j by omega]
  | some e => rfl
theorem AE {n:Nat}{E:List (Nat × Nat)}{k a:Nat}(h:iR E k < 0) (hk:k < n):(wT n E).set k (a:Int) = wT n (E ++ [(k,a)]):=by
 apply bT
 ·simp [gF]
 ·intro i hi
  rw [List.length_set,gF] at hi
  rw [aW,iE hi,iE hi,Ag h]
  by_cases e : i = k
  ·subst e;rw [if_pos ⟨rfl,by rw [gF]; exact hi⟩,if_pos rfl]
  ·rw [if_neg (by omega),if_neg e]
structure BI (pts : List Pnt) (f : Nat) (E : List (Nat × Nat)) : Prop where
 nd : (E.map (·.1)).Nodup
 ed : ∀ e ∈ E,cO pts e.2 e.1
 pr : ∀ D R e,E = D ++ e :: R → e.2 = f ∨ e.2 ∈ D.map (·.1)
theorem BI.nil (pts:List Pnt) (f:Nat):BI pts f [] := ⟨by simp,by simp,fun D R e h => by simp at h⟩
theorem BI.add {pts:List Pnt}{f:Nat}{E:List (Nat × Nat)}{a k:Nat}(I:BI pts f E) (ha:a = f ∨ a ∈ E.map (·.1)) (e:cO pts a k):BI pts f (HR E a k):=by
 unfold HR
 split
 ·rename_i h
  have hk := mt fB.2 (by omega : ¬ 0 ≤ iR E k)
  refine ⟨?_,?_,?_⟩
  ·rw [List.map_append, List.nodup_append]
   refine ⟨I.nd,by simp,?_⟩
   intro x hx y hy;simp only [List.map_cons,List.map_nil,List.mem_singleton] at hy
   rintro rfl;subst hy;exact hk hx
  ·intro x hx
   rw [List.mem_append,List.mem_singleton] at hx
   rcases hx with hx|rfl
   ·exact I.ed x hx
   ·exact e
  ·intro D R x hx
   rcases List.eq_nil_or_concat R with rfl | ⟨R',y,rfl⟩
   ·have := List.append_inj' hx rfl
    obtain ⟨rfl,h2⟩ := this
    cases h2;exact ha
   ·rw [List.concat_eq_append, ← List.cons_append, ← List.append_assoc] at hx
    obtain ⟨h1,h2⟩ := List.append_inj' hx rfl
    exact I.pr D R' x h1
 ·exact I
theorem FK (E:List (Nat × Nat)) (a k:Nat):E <+: HR E a k:=by
 unfold HR;split
 ·exact List.prefix_append _ _
 ·exact List.prefix_refl _
theorem Mz (E:List (Nat × Nat)) (a k:Nat):k ∈ (HR E a k).map (·.1):=by
 unfold HR;split
 ·simp
 ·exact fB.1 (by omega)
theorem iU (a:Nat):∀ (ks:List Int) (E:List (Nat × Nat)),E <+: jV E a ks
 | [],E => List.prefix_refl _
 | k :: ks,E => (FK E a k.toNat).trans (iU a ks _)
theorem AT {α β:Type}{f:α → β}{A B:List α}(h:A <+: B){x:β}(hx:x ∈ A.map f):x ∈ B.map f:=by
 obtain ⟨C,rfl⟩ := h;rw [List.map_append]; exact List.mem_append_left _ hx
theorem Ca (a:Nat):∀ (ks:List Int) (E:List (Nat × Nat)) (k:Int),k ∈ ks → k.toNat ∈ (jV E a ks).map (·.1)
 | x :: ks, E, k, h => by
  rcases List.mem_cons.1 h with rfl|h
  ·exact AT (iU a ks _) (Mz E a k.toNat)
  ·exact Ca a ks _ k h
theorem zI {pts:List Pnt}{f a:Nat}:∀ (ks:List Int) (E:List (Nat × Nat)),BI pts f E → (a = f ∨ a ∈ E.map (·.1)) → (∀ k ∈ ks,cO pts a k.toNat) → BI pts f (jV E a ks)
 | [],E,I,_,_ => I
 | k :: ks,E,I,ha,hk => zI ks _ (I.add ha (hk k (List.mem_cons_self))) (ha.imp id (AT (FK E a k.toNat))) (fun x hx => hk x (List.mem_cons_of_mem _ hx))
theorem yE (E:List (Nat × Nat)) (a:Nat) (L:List Int) (k:Nat) (h:k < L.length):jV E a (L.take (k + 1)) = HR (jV E a (L.take k)) a L[k]!.toNat := dR _ _ _ _ h
theorem Di {f:Nat}{E:List (Nat × Nat)}{h:Nat}(hh:h < (k9 f E).length):(k9 f E)[h]! = f ∨ (k9 f E)[h]! ∈ E.map (·.1):=by
 have := aS _ h hh
 unfold k9 at this ⊢
 exact List.mem_cons.1 this
theorem N6:∀ (n:Nat) (l:List Nat),l.Nodup → (∀ x ∈ l,x < n) → l.length ≤ n
 | 0,l,_,h => by cases l with|nil => exact Nat.le_refl _|cons a l => exact absurd (h a (by simp)) (by omega)
 | n + 1, l, nd, h => by
  have := N6 n (l.erase n) (nd.erase n) (fun x hx => by
   have h1 := (nd.mem_erase_iff).1 hx;have h2 := h x h1.2;omega)
  rw [List.length_erase] at this
  split at this <;> omega
theorem BI.le {pts:List Pnt}{f:Nat}{E:List (Nat × Nat)}(I:BI pts f E) (w:∀ i,i < pts.length → ∀ k ∈ pts[i]!.next,0 ≤ k ∧ k < pts.length):E.length ≤ pts.length ∧ (∀ e ∈ E,e.1 < pts.length ∧ e.2 < pts.length):=by
 have h1 : ∀ e ∈ E, e.1 < pts.length ∧ e.2 < pts.length := fun e he => by
  have := I.ed e he;have h2 := w _ this.1 _ this.2;exact ⟨by omega,this.1⟩
 refine ⟨?_,h1⟩
 have h2 := N6 pts.length _ I.nd (fun x hx => by obtain ⟨e,he,rfl⟩ := List.mem_map.1 hx;exact (h1 e he).1)
 simpa using h2
end Go.AL
