/-
 A part of the proofs over this program: rules and contracts of its functions (the rules).
-/
import Derived.Test.YtgkalkgplcdnkaaGreatW4A05
import Derived.Laws.BytesString
import Derived.Laws.StructEq
set_option linter.unusedVariables false
set_option linter.unusedSimpArgs false
namespace Go.AL
open Go.RowKit
mutual
theorem RnV.bw {w:World}{ρ:Nat → Option Nat}{bad bad':Nat → Prop}{ι ι':Pl}(h:∀ i i',ρ i = some i' → ι i = ι' i') (hc:∀ b,bad b → bad' b):∀ {v v':AV},RnV ρ v v' → ∀ {y:Value},Rd w bad' ι' v' y → Rd w bad ι v y
 | _,_,.pur hp,y,k => Rd.pur _ y hp (Rd.carry (⟨fun b o x h1 h2 => ⟨fun q => h1 (hc b q),h2⟩,fun _ _ h => h,fun _ => Nat.le_refl _⟩ : Carry w bad' ι' w bad ι') _ _ k)
 | _,_,.own hi,y,k => by simp only [Rd,h _ _ hi] at k ⊢; exact k
 | _,_,.optr hi,y,k => by simp only [Rd,h _ _ hi] at k ⊢; exact k
 | _, _, .imm (cs := cs) (cs' := cs') hl, y, k => by
  have hlen := RnL.len hl
  simp only [Rd] at k ⊢
  obtain ⟨a,c,rfl,k⟩ := k
  refine ⟨a,c,rfl,?_⟩
  rcases k with k | ⟨b,o,hn,rfl,k⟩
  ·exact .inl k
  ·refine .inr ⟨b, o, hn, rfl, ?_⟩
   rcases k with k | ⟨hb,k⟩
   ·subst k;exact .inl (List.eq_nil_of_length_eq_zero (by rw [hlen]; rfl))
   ·exact .inr ⟨fun q => hb (hc b q),RnL.bwC h hc hl k⟩
 | _, _, .agg hl, y, k => by
  simp only [Rd] at k ⊢
  obtain ⟨l,h1,h2⟩ := k
  exact ⟨l,h1,RnL.bwL h hc hl h2⟩
 | _, _, .tup hl, y, k => by
  simp only [Rd] at k ⊢
  obtain ⟨l,h1,h2⟩ := k
  exact ⟨l,h1,RnL.bwV h hc hl h2⟩
 | _, _, .clos h1 h2, y, k => by
  simp only [Rd] at k ⊢
  obtain ⟨lf,lc,q1,q2,q3⟩ := k
  exact ⟨lf,lc,q1,RnL.bwV h hc h1 q2,RnL.bwV h hc h2 q3⟩
theorem RnL.bwL {w:World}{ρ:Nat → Option Nat}{bad bad':Nat → Prop}{ι ι':Pl}(h:∀ i i',ρ i = some i' → ι i = ι' i') (hc:∀ b,bad b → bad' b):∀ {v v':List AV},RnL ρ v v' → ∀ {y:List Value},RdL w bad' ι' v' y → RdL w bad ι v y
 | _,_,.pur hp,y,k => RdL.pur _ y hp (RdL.carry (⟨fun b o x h1 h2 => ⟨fun q => h1 (hc b q),h2⟩,fun _ _ h => h,fun _ => Nat.le_refl _⟩ : Carry w bad' ι' w bad ι') _ _ k)
 | _,_,.nil,y,k => by simpa only [RdL] using k
 | _, _, .cons h1 h2, y, k => by
  simp only [RdL] at k ⊢
  obtain ⟨x,l',q0,q1,q2,q3⟩ := k
  exact ⟨x,l',q0,q1,RnV.bw h hc h1 q2,RnL.bwL h hc h2 q3⟩
theorem RnL.bwV {w:World}{ρ:Nat → Option Nat}{bad bad':Nat → Prop}{ι ι':Pl}(h:∀ i i',ρ i = some i' → ι i = ι' i') (hc:∀ b,bad b → bad' b):∀ {v v':List AV},RnL ρ v v' → ∀ {y:List Value},RdV w bad' ι' v' y → RdV w bad ι v y
 | _,_,.pur hp,y,k => RdV.pur _ y hp (RdV.carry (⟨fun b o x h1 h2 => ⟨fun q => h1 (hc b q),h2⟩,fun _ _ h => h,fun _ => Nat.le_refl _⟩ : Carry w bad' ι' w bad ι') _ _ k)
 | _,_,.nil,y,k => by simpa only [RdV] using k
 | _, _, .cons h1 h2, y, k => by
  simp only [RdV] at k ⊢
  obtain ⟨x,l',q0,q2,q3⟩ := k
  exact ⟨x,l',q0,RnV.bw h hc h1 q2,RnL.bwV h hc h2 q3⟩
theorem RnL.bwC {w:World}{ρ:Nat → Option Nat}{bad bad':Nat → Prop}{ι ι':Pl}(h:∀ i i',ρ i = some i' → ι i = ι' i') (hc:∀ b,bad b → bad' b):∀ {v v':List AV},RnL ρ v v' → ∀ {b o:Nat},RdC w bad' ι' v' b o → RdC w bad ι v b o
 | _,_,.pur hp,b,o,k => RdC.pur _ b o hp (RdC.carryB (⟨fun b o x h1 h2 => ⟨fun q => h1 (hc b q),h2⟩,fun _ _ h => h,fun _ => Nat.le_refl _⟩ : Carry w bad' ι' w bad ι') _ _ _ (fun o x hx => hx) k)
 | _,_,.nil,b,o,k => by simp only [RdC]
 | _, _, .cons h1 h2, b, o, k => by
  simp only [RdC] at k ⊢
  obtain ⟨⟨x,q1,q2,q3⟩,q4⟩ := k
  exact ⟨⟨x,q1,q2,RnV.bw h hc h1 q3⟩,RnL.bwC h hc h2 q4⟩
end
theorem RnL.app {ρ:Nat → Option Nat}:∀ {a a' b b':List AV},RnL ρ a a' → RnL ρ b b' → RnL ρ (a ++ b) (a' ++ b')
 | [], a', b, b', ha, hb => by
  have := ha.len
  cases a' with
  | nil => exact hb
  | cons _ _ => simp at this
 | c :: cs, _, b, b', .pur hp, hb => by
  simp only [bQ,Bool.and_eq_true] at hp
  exact .cons (.pur hp.1) (RnL.app (.pur hp.2) hb)
 | c :: cs,_,b,b',.cons h1 h2,hb => .cons h1 (RnL.app h2 hb)
theorem RnL.flt {ρ:Nat → Option Nat}{α:Type}{f f':α → List AV}:∀ {xs:List α},(∀ x ∈ xs,RnL ρ (f x) (f' x)) → RnL ρ (flat f xs) (flat f' xs)
 | [],_ => .nil
 | x :: xs, h => by
  have h1 := h x (List.mem_cons_self)
  have h2 := RnL.flt (f := f) (f' := f') (xs := xs) (fun y hy => h y (List.mem_cons_of_mem _ hy))
  simp only [flat,List.flatMap_cons] at h2 ⊢
  exact h1.app h2
theorem Le.renG (ρ:Nat → Option Nat){ts ts':List (Nat × AV)}{hs hs':List (Nat × Option (List AV))}{n n':Nat}{lo lo':Lo}(hlo:lo'.lo = lo.lo) (hfb:lo.fb ≤ lo'.fb)
  (hid : ∀ id,id < lo.lo ∨ (aY ≤ id ∧ id < lo.fb) → ρ id = some id) (hinj : ∀ a b c,ρ a = some c → ρ b = some c → a = b) (hfr : ∀ id,Fn n' lo' id → ρ id = none)
  (h1 : ∀ t v,lk ts' t = some v → ∃ v0,lk ts t = some v0 ∧ RnV ρ v v0) (h2 : ∀ id cs,aQ hs' id = some cs → ∃ j cs0,ρ id = some j ∧ aQ hs j = some cs0 ∧ RnL ρ cs cs0) :
  Le ⟨ts,hs,n,lo⟩ ⟨ts',hs',n',lo'⟩ := by
 rintro C a w ⟨h0,ι,g,gh⟩
 let ι' : Pl := fun id => match ρ id with|some j => ι j|none => none
 have hto : ∀ id j,ρ id = some j → ι' id = ι j := fun id j h => by simp only [ι',h]
 have hbad : ∀ b, aC C.X ι' (aQ hs') b → aC C.X ι (aQ hs) b := by
  rintro b (h | ⟨id,cs,β,q1,q2⟩)
  ·exact .inl h
  ·obtain ⟨j, cs0, q3, q4, _⟩ := h2 id cs q1
   rw [hto _ _ q3] at q2
   exact .inr ⟨j,cs0,β,q4,q2⟩
 refine ⟨fun id h => ?_,ι',⟨g.df,g.sz,fun t v ht => ?_⟩,⟨fun id cs h => ?_,fun id id' cs cs' b β β' q1 q2 q3 q4 => ?_,gh.fr,fun id p hp => ?_,fun id hid' => ?_⟩⟩
 ·have h' : lo.lo ≤ id := by rw [← hlo]; exact h
  rcases h0 id h' with q|q
  ·exact .inl ⟨q.1,Nat.lt_of_lt_of_le q.2 hfb⟩
  ·exact .inr q
 ·obtain ⟨v0, q1, q2⟩ := h1 t v ht
  obtain ⟨y,q3,q4⟩ := g.tm t v0 q1
  exact ⟨y,q3,RnV.bw hto hbad q2 q4⟩
 ·obtain ⟨j, cs0, q3, q4, q5⟩ := h2 id cs h
  rcases gh.obj j cs0 q4 with ⟨p1,p2⟩ | ⟨b,β,arr,e,p1,p2,p3,p4,p5,p6⟩
  ·refine .inl ⟨by rw [hto _ _ q3]; exact p1, ?_⟩
   subst p2;exact List.eq_nil_of_length_eq_zero (by rw [q5.len]; rfl)
  ·exact .inr ⟨b,β,arr,e,by rw [hto _ _ q3]; exact p1,p2,by rw [q5.len]; exact p3,RnL.bwC hto hbad q5 p4,p5,p6⟩
 ·obtain ⟨j, c1, r1, r2, _⟩ := h2 id cs q1
  obtain ⟨j',c2,r3,r4,_⟩ := h2 id' cs' q2
  rw [hto _ _ r1] at q3
  rw [hto _ _ r3] at q4
  have := gh.sep _ _ _ _ _ _ _ r2 r4 q3 q4
  subst this
  exact hinj _ _ _ r1 r3
 ·have : ρ id = some id := by
   refine hid id ?_
   rcases Nat.lt_or_ge id lo.lo with q|q
   ·exact .inl q
   ·rcases h0 id q with q1 | q1
    ·exact .inr q1
    ·rw [q1] at hp;cases hp
  rw [hto _ _ this]; exact gh.ex id p hp
 ·have := hfr id hid'
  simp only [ι',this]
def iD (m : List (Nat × Nat)) (lo : Lo) (pn : Option Nat) (id : Nat) : Option Nat :=
 if id < lo.lo then some id else if aY ≤ id then (if id < lo.fb then some id else if id = lo.fb then pn else none) else vJ m id
theorem fU {m:List (Nat × Nat)}{lo:Lo}{pn:Option Nat}{id:Nat}(h1:aY ≤ id) (h2:id < lo.fb):iD m lo pn id = some id:=by
 unfold iD;split
 ·rfl
 ·simp [h1,h2]
def JB (ρ : Nat → Option Nat) (l : List (Nat × AV)) : List (Nat × AV) → Prop
 | [] => True
 | (t,v) :: l' => (∃ v0,lk l t = some v0 ∧ RnV ρ v v0) ∧ JB ρ l l'
def zW (ρ : Nat → Option Nat) (l : List (Nat × Option (List AV))) : List (Nat × Option (List AV)) → Prop
 | [] => True
 | (t,none) :: l' => zW ρ l l'
 | (t,some cs) :: l' => (∃ j cs0,ρ t = some j ∧ aQ l j = some cs0 ∧ RnL ρ cs cs0) ∧ zW ρ l l'
theorem Ay {ρ:Nat → Option Nat}{l:List (Nat × AV)}:∀ {l':List (Nat × AV)},JB ρ l l' → ∀ t v,lk l' t = some v → ∃ v0,lk l t = some v0 ∧ RnV ρ v v0
 | [],_,t,v,h => by simp [lk] at h
 | (u, x) :: l', hr, t, v, h => by
  simp only [JB] at hr
  simp only [iE] at h
  split at h
  ·rename_i e;subst e;cases h;exact hr.1
  ·exact Ay hr.2 t v h
theorem pG {a b:List (Nat × Option (List AV))}{u:Nat}{c:List AV}:aQ (a ++ b) u = some c → aQ a u = some c ∨ aQ b u = some c:=by
 induction a with
 | nil => exact fun h => .inr h
 | cons x a ih =>
  obtain ⟨t,v⟩ := x
  rw [List.cons_append,cA,cA]
  split
  ·exact fun h => .inl h
  ·exact ih
theorem Dm {a b:List (Nat × Option (List AV))}{u:Nat}{c:List AV}(h:aQ a u = some c):aQ (a ++ b) u = some c:=by
 induction a with
 | nil => simp [aQ] at h
 | cons x a ih =>
  obtain ⟨t,v⟩ := x
  rw [List.cons_append]
  rw [cA] at h ⊢
  split
  ·rename_i e;rw [if_pos e] at h;exact h
  ·rename_i e;rw [if_neg e] at h;exact ih h
theorem EU {a b:List (Nat × Option (List AV))}{u:Nat}(h:gC u a = true):aQ (a ++ b) u = aQ b u:=by
 induction a with
 | nil => rfl
 | cons x a ih =>
  obtain ⟨t,v⟩ := x
  simp only [gC,Bool.and_eq_true] at h
  rw [List.cons_append,cA,if_neg (by have := dL h.1;omega)]
  exact ih h.2
theorem oI {n m:Nat}(h:n ≤ m):∀ {a:List (Nat × Option (List AV))},gC n a = true → gC m a = true
 | [],_ => rfl
 | (t, v) :: a, k => by
  simp only [gC,Bool.and_eq_true] at k ⊢
  exact ⟨by have := dL k.1;simp [Nat.blt]; omega,oI h k.2⟩
theorem pI {ρ:Nat → Option Nat}{l:List (Nat × Option (List AV))}:∀ {l':List (Nat × Option (List AV))},zW ρ l l' → ∀ t cs,aQ l' t = some cs →
  ∃ j cs0,ρ t = some j ∧ aQ l j = some cs0 ∧ RnL ρ cs cs0
 | [],_,t,v,h => by simp [aQ] at h
 | (u, none) :: l', hr, t, v, h => by
  simp only [zW] at hr
  simp only [cA] at h
  split at h
  ·cases h
  ·exact pI hr t v h
 | (u, some x) :: l', hr, t, v, h => by
  simp only [zW] at hr
  simp only [cA] at h
  split at h
  ·rename_i e;subst e;cases h;exact hr.1
  ·exact pI hr.2 t v h
theorem tY {m:List (Nat × Nat)}{lo:Lo}{pn:Option Nat}{n':Nat}(hm:Fi lo.lo n' m = true){a c:Nat}(h:iD m lo pn a = some c) :
  (a < lo.lo ∧ c = a) ∨ (lo.lo ≤ a ∧ aY ≤ a ∧ a < lo.fb ∧ c = a) ∨ (lo.lo ≤ a ∧ aY ≤ a ∧ a = lo.fb ∧ pn = some c) ∨ (lo.lo ≤ a ∧ a < aY ∧ a < n' ∧ lo.lo ≤ c ∧ c < aY ∧ vJ m a = some c) := by
 unfold iD at h
 split at h
 ·cases h;exact .inl ⟨by assumption,rfl⟩
 ·split at h
  ·split at h
   ·cases h;exact .inr (.inl ⟨by omega,by assumption,by assumption,rfl⟩)
   ·split at h
    ·exact .inr (.inr (.inl ⟨by omega,by assumption,by assumption,h⟩))
    ·cases h
  ·have := iF hm _ _ h
   exact .inr (.inr (.inr ⟨by omega,by omega,by omega,by omega,by omega,h⟩))
theorem Le.renF (m:List (Nat × Nat)) (pn:Option Nat){ts ts':List (Nat × AV)}{hs hs':List (Nat × Option (List AV))}{n n':Nat}{lo lo':Lo}(hm:Fi lo.lo n' m = true) (hn:lo.lo ≤ n') (hlo:lo'.lo = lo.lo)
  (hfb : lo'.fb = lo.fb + (if pn.isSome then 1 else 0)) (hp : ∀ b,pn = some b → lo.lo ≤ b ∧ b < aY ∧ ∀ a,vJ m a ≠ some b)
  (h1 : ∀ t v,lk ts' t = some v → ∃ v0,lk ts t = some v0 ∧ RnV (iD m lo pn) v v0) (h2 : ∀ id cs,aQ hs' id = some cs → ∃ j cs0,iD m lo pn id = some j ∧ aQ hs j = some cs0 ∧ RnL (iD m lo pn) cs cs0) :
  Le ⟨ts,hs,n,lo⟩ ⟨ts',hs',n',lo'⟩ := by
 refine Le.renG (iD m lo pn) hlo (by rw [hfb]; omega) (fun id h => ?_) (fun a b c ha hb => ?_) (fun id h => ?_) h1 h2
 ·rcases h with h | h
  ·unfold iD;rw [if_pos h]
  ·exact fU h.1 h.2
 ·rcases tY hm ha with a1 | a1 | a1 | a1 <;> rcases tY hm hb with b1 | b1 | b1 | b1
  all_goals try omega
  ·have := hp c b1.2.2.2;omega
  ·have := hp c b1.2.2.2;omega
  ·have := hp c a1.2.2.2;omega
  ·have := hp c a1.2.2.2;omega
  ·exact absurd b1.2.2.2.2.2 ((hp c a1.2.2.2).2.2 b)
  ·exact absurd a1.2.2.2.2.2 ((hp c b1.2.2.2).2.2 a)
  ·exact tQ hm _ _ _ a1.2.2.2.2.2 b1.2.2.2.2.2
 ·cases hc : iD m lo pn id with
  | none => rfl
  | some c =>
   have h3 : n' ≤ id := h.1
   have h4 : id < aY ∨ lo'.fb ≤ id := h.2
   rcases tY hm hc with a1|a1|a1|a1
   ·omega
   ·omega
   ·rw [a1.2.2.2] at hfb;simp at hfb;omega
   ·omega
theorem Le.renF0 (m:List (Nat × Nat)){R:List (List Bool)}{ts ts':List (Nat × AV)}{hs lits:List (Nat × Option (List AV))}{n n':Nat}{lo:Lo}{l0:Nat}(hF:FamR R R hs hs) (hz:lo = ⟨l0,aY + R.length⟩) (hm:Fi l0 n' m = true) (hn:l0 ≤ n')
  (h1 : JB (iD m lo none) ts ts') (h2 : zW (iD m lo none) hs lits) : Le ⟨ts,hs,n,lo⟩ ⟨ts',lits ++ fK R,n',⟨l0,aY + R.length⟩⟩ := by
 subst hz
 refine Le.renF m none hm hn rfl rfl (fun b h => by cases h) (Ay h1) (fun id cs h => ?_)
 rcases pG h with h|h
 ·exact pI h2 id cs h
 ·obtain ⟨k, hk, rfl, rfl⟩ := j5 h
  exact ⟨_,_,fU (by omega) (by show k + aY < aY + R.length;omega),hF.get hk,.pur (inferInstance : Pur (flat cB R[k]!)).pf⟩
theorem Le.renF1 (m:List (Nat × Nat)) (b:Nat){r:List Bool}{R R':List (List Bool)}{ts ts':List (Nat × AV)}{hs lits:List (Nat × Option (List AV))}{n n':Nat}{lo:Lo}{l0:Nat}(hF:FamR R R hs hs) (hz:lo = ⟨l0,aY + R.length⟩) (hm:Fi l0 n' m = true) (hn:l0 ≤ n')
  (hlb : l0 ≤ aY) (hb : l0 ≤ b ∧ b < aY ∧ (m.all fun p => !Nat.beq p.2 b) = true) (hr : aQ hs b = some (flat cB r)) (hR : R' = R ++ [r])
  (h1 : JB (iD m lo (some b)) ts ts') (h2 : zW (iD m lo (some b)) hs lits) : Le ⟨ts,hs,n,lo⟩ ⟨ts',lits ++ fK R',n',⟨l0,aY + R'.length⟩⟩ := by
 subst hz hR
 refine Le.renF m (some b) hm hn rfl (by show aY + (R ++ [r]).length = aY + R.length + 1;simp [Nat.add_assoc]) (fun b' h => ?_) (Ay h1) (fun id cs h => ?_)
 ·cases h
  refine ⟨hb.1,hb.2.1,fun a ha => ?_⟩
  have := uN ha
  have h3 := hb.2.2
  rw [List.all_eq_true] at h3
  have := h3 _ this
  simp at this
 ·rcases pG h with h | h
  ·exact pI h2 id cs h
  ·obtain ⟨k, hk, rfl, rfl⟩ := j5 h
   rw [List.length_append,List.length_singleton] at hk
   rcases Nat.lt_or_ge k R.length with hk2|hk2
   ·have e : (R ++ [r])[k]! = R[k]! := by rw [bG _ _ (by simp; omega), bG _ _ hk2, List.getElem_append_left hk2]
    exact ⟨_,_,fU (by omega) (by show k + aY < aY + R.length;omega),hF.get hk2,by rw [e]; exact .pur (inferInstance : Pur (flat cB R[k]!)).pf⟩
   ·have e : k = R.length := by omega
    subst e
    have e2 : (R ++ [r])[R.length]! = r := by rw [bG _ _ (by simp)]; simp
    refine ⟨b,flat cB r,?_,hr,?_⟩
    ·unfold iD
     rw [if_neg (by show ¬ R.length + aY < l0;omega),if_pos (by omega),if_neg (by show ¬ R.length + aY < aY + R.length;omega),if_pos (by show R.length + aY = aY + R.length;omega)]
    ·rw [e2]; exact .pur (inferInstance : Pur (flat cB r)).pf
section
variable {P : Program} {N : Nat} {Q : Exit → AS → Prop}
theorem Le.litF {ts ts':List (Nat × AV)}{hs lits:List (Nat × Option (List AV))}{n n':Nat}{z0 z1:Lo}{R:List (List Bool)}(h1:lW ts ts') (h2:kA hs lits) (h3:n ≤ n') (hF:FamR R R hs hs) (hz:z0 = z1) :
  Le ⟨ts,hs,n,z0⟩ ⟨ts',lits ++ fK R,n',z1⟩ := by
 refine Le.of (tD h1) (fun i c h => ?_) h3 hz
 rcases pG h with h|h
 ·exact mK h2 i c h
 ·obtain ⟨k, hk, rfl, rfl⟩ := j5 h
  exact hF.get hk
theorem yO {σ:Type}{c:Code}{ts:List (Nat × AV)}{hs:List (Nat × Option (List AV))}{n:Nat}{z0:Lo}(l0:Nat) (Rf:σ → List (List Bool)) (ks:List Nat) (kt:List (Nat × AV)) (js:List Nat) (kh:List (Nat × Option (List AV)))
  (ot : σ → List (Nat × AV)) (oh : σ → List (Nat × Option (List AV))) (p : σ → Prop) (μ : σ → Nat) (i0 : σ) (h0 : p i0) (hk : mH ks ts = kt) (hj : mV js hs = kh)
  (h1 : lW ts (ot i0)) (h2 : kA hs (oh i0)) (hF : FamR (Rf i0) (Rf i0) hs hs) (hz : z0 = ⟨l0,aY + (Rf i0).length⟩)
  (round : ∀ i,p i → AW P N c (mT (fun s' => ∃ j,p j ∧ μ j < μ i ∧ Le s' ⟨ot j ++ kt,(oh j ++ kh) ++ fK (Rf j),n,⟨l0,aY + (Rf j).length⟩⟩) Q) ⟨ot i ++ kt,(oh i ++ kh) ++ fK (Rf i),n,⟨l0,aY + (Rf i).length⟩⟩) :
  AW P N (.loop c) Q ⟨ts,hs,n,z0⟩ := by
 subst hk hj
 exact Bu p (fun i => ⟨ot i ++ mH ks ts,(oh i ++ mV js hs) ++ fK (Rf i),n,⟨l0,aY + (Rf i).length⟩⟩) μ ⟨i0,h0,Le.litF (kH h1 (kO ks)) (kC h2 (nH js)) (Nat.le_refl _) hF hz⟩ round
theorem JM {c:Code}{s s':AS}(k:Le s s') (h:AW P N c Q s'):AW P N c Q s := h.le k
end
def vA (P : Program) (k : FuncId) (args : List AV) (H0 : Nat → Option (List AV)) (F0 : Nat → Prop) (Q : AV → (Nat → Option (List AV)) → Prop) : Prop :=
 ∀ (C : Ctx) (ι : Pl) (w : World) (vals : List Value), C.w0 = w → C.ι0 = ι → HG C ι F0 H0 w → RdV w (aC C.X ι H0) ι args vals →
  Calls P k vals.toArray w (fun e w' => ∃ v r H' ι',e = .returned v ∧ Q r H' ∧ Rd w' (aC C.X ι' H') ι' r v ∧ HG C ι' (fun _ => False) H' w')
theorem m9 {P:Program}{k:FuncId}{fn:Func}{c:Code}{args:List AV}{H0:List (Nat × Option (List AV))}{n fb:Nat}{Q:AV → (Nat → Option (List AV)) → Prop}(hf:P.funcs[k]? = some fn) (hb:fn.body = some c)
  (hN : args.length ≤ fn.ntmps) (h : AW P fn.ntmps c (mZ P fn.results Q) ⟨dJ 0 args,H0,n,⟨n,fb⟩⟩) : vA P k args (aQ H0) (Fn n ⟨n,fb⟩) Q := by
 intro C ι w vals hw hι g hr
 refine calls_of_wp hf hb ?_
 let C' : Ctx := { C with N := fn.ntmps }
 have hlen := RdV.length hr
 have g' : HG C' ι (Fn n ⟨n,fb⟩) (aQ H0) w := ⟨g.obj,g.sep,g.fr,g.ex,g.fresh⟩
 have gt : TG C' ι (lk (dJ 0 args)) (aQ H0) { tmps := vals.toArray ++ Array.replicate (fn.ntmps - vals.toArray.size) undef, defers := [] } w := by
  refine ⟨rfl,by simp [C',hlen]; omega,fun t av ht => ?_⟩
  obtain ⟨y,_,h1,h2⟩ := iZ hr ht
  refine ⟨y,?_,h2⟩
  have hlt : t < vals.length := by
   rcases Nat.lt_or_ge t vals.length with q|q
   ·exact q
   ·rw [List.getElem?_eq_none (by simpa using q)] at h1;cases h1
  rw [Array.getElem?_append_left (by simpa using hlt)]
  simpa using h1
 refine wp_mono (h C' _ w rfl ⟨fun id hid => ?_,ι,gt,g'⟩) ?_
 ·by_cases q : aY ≤ id ∧ id < fb
  ·exact .inl q
  ·refine .inr ?_
   show C.ι0 id = none
   rw [hι]
   exact g.fresh id ⟨hid,by show id < aY ∨ fb ≤ id;omega⟩
 rintro e a' w' ⟨s1,⟨he,s',l,hle,hres,hQ⟩,hg⟩
 obtain ⟨_,ι',g1,g2⟩ := hle C' a' w' hg
 obtain ⟨ys,h1,h2⟩ := lO (P := P) g1 g2 hres
 have hres' : (results fn a'.tmps).run P w' = .ok (if h : ys.toArray.size = 1 then ys.toArray[0] else .tuple ys.toArray) w' := by
  have hr1 : results fn a'.tmps = (do let vs ← fn.results.mapM (rS a'); pure (if h : vs.size = 1 then vs[0] else .tuple vs)) := by
   unfold results
   congr 1
  rw [hr1,Array.mapM_eq_mapM_toList,Sem.run_bind,Sem.run_map,h1]
  simp only [Result.andThen_ok,Sem.run_pure]
 have g3 : HG C ι' (fun _ => False) (aQ s'.hs) w' := ⟨g2.obj,g2.sep,g2.fr,g2.ex,fun _ h => h.elim⟩
 rcases he with rfl|rfl
 ·exact ⟨g1.df,_,hres',_,_,_,ι',rfl,hQ,kP h2,g3⟩
 ·exact ⟨g1.df,_,hres',_,_,_,ι',rfl,hQ,kP h2,g3⟩
def n8 (mpF fr : Nat → Option Nat) (j : Nat) : Option Nat := match mpF j with | some i => some i | none => fr j
theorem vO {P:Program}{k:FuncId}{args args':List AV}{H0 hh:Nat → Option (List AV)}{F0:Nat → Prop}{mpF fr fi:Nat → Option Nat}{r rr':AV}{H2:Nat → Option (List AV)}
  (h : vA P k args H0 F0 (fun r' H' => r' = r ∧ ∀ j cs,hh j = some cs → H' j = some cs)) (hmi : ∀ j j' i,mpF j = some i → mpF j' = some i → j = j') (hfi : ∀ i j,fi i = some j ↔ fr j = some i) (hmf : ∀ j i,fr j = some i → mpF j = none) (hF0 : ∀ j,F0 j → mpF j = none)
  {C : Ctx} {ι : Pl} {F : Nat → Prop} {H : Nat → Option (List AV)} {w : World} (g : HG C ι F H w)
  (hH0 : ∀ j i,mpF j = some i → ∃ cs cs',H0 j = some cs ∧ H i = some cs' ∧ RnL mpF cs cs') (hH1 : ∀ j cs,H0 j = some cs → ∃ i,mpF j = some i)
  (ha : RnL mpF args args') (hF : ∀ j i,fr j = some i → F i) (hr : RnV (n8 mpF fr) r rr')
  (hw : ∀ i cs',H2 i = some cs' → (∃ j cs,n8 mpF fr j = some i ∧ hh j = some cs ∧ RnL (n8 mpF fr) cs cs') ∨ (H i = some cs' ∧ ∀ j,mpF j ≠ some i))
  {vals : List Value} (hv : RdV w (aC C.X ι H) ι args' vals) :
  Calls P k vals.toArray w (fun e w' => ∃ v ι',e = .returned v ∧ HG C ι' (fun j => F j ∧ fi j = none) H2 w' ∧ Carry w (aC C.X ι H) ι w' (aC C.X ι' H2) ι' ∧ Rd w' (aC C.X ι' H2) ι' rr' v) := by
 let W0 : Nat → Prop := fun b => ∃ (j i β : Nat),mpF j = some i ∧ ι i = some (some (b,β))
 let Xc : Nat → Prop := fun b => aC C.X ι H b ∧ ¬ W0 b
 let ιc : Pl := fun j => match mpF j with|some i => ι i|none => none
 let C' : Ctx := { N := 0,w0 := w,W0 := W0,X := Xc,ι0 := ιc,xlt := fun b hb => g.bad_lt b hb.1 }
 have hW0 : ∀ b, W0 b → ¬ C.X b ∧ (C.W0 b ∨ C.w0.heap.size ≤ b) ∧ aC C.X ι H b := by
  rintro b ⟨j,i,β,h1,h2⟩
  obtain ⟨cs,cs',q1,q2,q3⟩ := hH0 j i h1
  rcases g.obj i cs' q2 with ⟨q,_⟩ | ⟨b',β',arr,e,q,q4,q5,q6,q7,q8⟩
  ·rw [q] at h2;cases h2
  ·rw [q] at h2;cases h2;exact ⟨q7,q8,.inr ⟨i,cs',_,q2,q⟩⟩
 have hnone : ∀ i j,fi i = some j → ι i = none := fun i j h1 => g.fresh i (hF j i ((hfi i j).1 h1))
 have hιc : ∀ j i,mpF j = some i → ιc j = ι i := fun j i h => by simp only [ιc,h]
 have hbadc : ∀ b, aC Xc ιc H0 b → aC C.X ι H b := by
  rintro b (⟨h1,_⟩ | ⟨j,cs,β,h1,h2⟩)
  ·exact h1
  ·obtain ⟨i, hi⟩ := hH1 j cs h1
   rw [hιc j i hi] at h2
   exact (hW0 b ⟨j,_,β,hi,h2⟩).2.2
 have hbadc2 : ∀ b, aC C.X ι H b → aC Xc ιc H0 b := by
  intro b hb
  by_cases hw0 : W0 b
  ·obtain ⟨j, i, β, h1, h2⟩ := hw0
   obtain ⟨cs,cs',q1,q2,q3⟩ := hH0 j i h1
   exact .inr ⟨j,cs,β,q1,by rw [hιc j i h1]; exact h2⟩
  ·exact .inl ⟨hb,hw0⟩
 have gc : HG C' ιc F0 H0 w := by
  refine ⟨fun j cs hj => ?_,fun j j' cs cs' b β β' h1 h2 h3 h4 => ?_,Fr.refl _ _,fun _ _ h => h,fun j hj => ?_⟩
  ·obtain ⟨i, hi⟩ := hH1 j cs hj
   obtain ⟨cs1,cs',q1,q2,q3⟩ := hH0 j _ hi
   rw [hj] at q1;cases q1
   rcases g.obj _ cs' q2 with ⟨q4,q5⟩ | ⟨b',β',arr,e,q4,q5,q6,q7,q8,q9⟩
   ·refine .inl ⟨by rw [hιc j i hi]; exact q4, ?_⟩
    subst q5
    exact List.eq_nil_of_length_eq_zero (by rw [q3.len]; rfl)
   ·have hw0 : W0 b' := ⟨j, _, β', hi, q4⟩
    exact .inr ⟨b',β',arr,e,by rw [hιc j i hi]; exact q4,q5,by rw [q3.len]; exact q6,RnL.bwC hιc hbadc q3 q7,fun hx => hx.2 hw0,.inl hw0⟩
  ·obtain ⟨i, hi⟩ := hH1 j cs h1
   obtain ⟨i',hi'⟩ := hH1 j' cs' h2
   obtain ⟨_,c1,_,q2,_⟩ := hH0 j _ hi
   obtain ⟨_,c2,_,q2',_⟩ := hH0 j' _ hi'
   rw [hιc j i hi] at h3
   rw [hιc j' i' hi'] at h4
   have := g.sep _ _ _ _ _ _ _ q2 q2' h3 h4
   exact hmi j j' i hi (by rw [hi',this])
  ·show ιc j = none
   simp only [ιc,hF0 j hj]
 have hvc : RdV w (aC C'.X ιc H0) ιc args vals := RnL.bwV hιc hbadc ha hv
 refine (h C' ιc w vals rfl rfl gc hvc).mono ?_
 rintro e w' ⟨v,r0,H',ιr,rfl,⟨rfl,hkeep⟩,hrd,gr⟩
 let ι' : Pl := fun i => match fi i with|some j => ιr j|none => ι i
 have hmpf : ∀ (j i : Nat), mpF j = some i → fi i = none := by
  intro j i hj
  cases hq : fi i with
  | none => rfl
  | some j2 =>
   obtain ⟨cs,cs',q1,q2,q3⟩ := hH0 j i hj
   rcases g.obj i cs' q2 with ⟨q,_⟩ | ⟨_,_,_,_,q,_⟩ <;> (rw [hnone i _ hq] at q;cases q)
 have hιr : ∀ (j i : Nat), mpF j = some i → ιr j = ι i := by
  intro j i hj
  obtain ⟨cs,cs',q1,q2,q3⟩ := hH0 j i hj
  have : ∃ q, ι i = some q := by
   rcases g.obj i cs' q2 with ⟨q,_⟩ | ⟨_,_,_,_,q,_⟩
   ·exact ⟨_,q⟩
   ·exact ⟨_,q⟩
  obtain ⟨q,hq⟩ := this
  rw [hq]
  exact gr.ex j q (by show ιc j = some q;rw [hιc j i hj]; exact hq)
 have hρ1 : ∀ j i, n8 mpF fr j = some i → (mpF j = some i) ∨ (mpF j = none ∧ fr j = some i) := by
  intro j i hj
  unfold n8 at hj
  split at hj
  ·cases hj;exact .inl (by assumption)
  ·exact .inr ⟨by assumption,hj⟩
 have hto : ∀ j i, n8 mpF fr j = some i → ιr j = ι' i := by
  intro j i hj
  rcases hρ1 j i hj with h2 | ⟨h1,h2⟩
  ·rw [hιr j i h2]; simp only [ι',hmpf j i h2]
  ·simp only [ι',(hfi i j).2 h2]
 have hcase := hw
 have hold : ∀ i cs', H i = some cs' → ι' i = ι i := by
  intro i cs' hi
  simp only [ι']
  cases hq : fi i with
  | none => rfl
  | some j2 => rcases g.obj i cs' hi with ⟨q,_⟩ | ⟨_,_,_,_,q,_⟩ <;> (rw [hnone i _ hq] at q;cases q)
 have hnW : ∀ (i : Nat) cs' b β, H i = some cs' → (∀ j, mpF j ≠ some i) → ι i = some (some (b, β)) → ¬ W0 b := by
  rintro i cs' b β hi hm hb ⟨j,i2,β2,q1,q2⟩
  obtain ⟨cs,c2,_,q3,_⟩ := hH0 j i2 q1
  have := g.sep _ _ _ _ _ _ _ hi q3 hb q2
  subst this
  exact hm j q1
 have hobjlt : ∀ i cs' b β,H i = some cs' → ι i = some (some (b,β)) → b < w.heap.size := fun i cs' b β hi hb => g.bad_lt b (.inr ⟨i,cs',β,hi,hb⟩)
 have hcal : ∀ j cs b β, H' j = some cs → ιr j = some (some (b, β)) → W0 b ∨ w.heap.size ≤ b := by
  intro j cs b β hj hb
  rcases gr.obj j cs hj with ⟨q,_⟩ | ⟨b',β',arr,e,q,q4,q5,q6,q7,q8⟩
  ·rw [q] at hb;cases hb
  ·rw [q] at hb;cases hb;exact q8
 have hbad : ∀ b, aC C.X ι' H2 b → aC C.X ι H b ∨ w.heap.size ≤ b := by
  rintro b (h1 | ⟨i,cs',β,h1,h2⟩)
  ·exact .inl (.inl h1)
  ·rcases hcase i cs' h1 with ⟨j, cs, q1, q2, q3⟩ | ⟨q1, q2⟩
   ·rw [← hto j i q1] at h2
    rcases hcal j cs b β (hkeep j cs q2) h2 with q|q
    ·exact .inl (hW0 b q).2.2
    ·exact .inr q
   ·rw [hold i cs' q1] at h2;exact .inl (.inr ⟨i,cs',β,q1,h2⟩)
 have hfr := gr.fr
 have hcar : Carry w (aC C.X ι H) ι w' (aC C.X ι' H2) ι' := by
  refine ⟨fun b o y h1 h2 => ?_,fun i q hq => ?_,hfr.bs⟩
  ·have hlt := eT h2
   refine ⟨fun hb => ?_,?_⟩
   ·rcases hbad b hb with h | h
    ·exact h1 h
    ·omega
   ·rw [b6 (hfr.block b hlt (fun hw0 => h1 (hW0 b hw0).2.2))]; exact h2
  ·simp only [ι']
   cases hq2 : fi i with
   | none => exact hq
   | some j2 => rw [hnone i _ hq2] at hq;cases hq
 have hrn2 : RnH w' (n8 mpF fr) (aC C'.X ιr H') ιr (aC C.X ι' H2) ι' := by
  refine ⟨⟨fun b o y h1 h2 => ⟨fun hb => h1 ?_,h2⟩,fun _ _ h => h,fun _ => Nat.le_refl _⟩,fun j i hj => hto j i hj⟩
  rcases hb with hb | ⟨i,cs',β,q1,q2⟩
  ·exact .inl ⟨.inl hb,fun hw0 => (hW0 b hw0).1 hb⟩
  ·rcases hcase i cs' q1 with ⟨j, cs, r1, r2, r3⟩ | ⟨r1, r2⟩
   ·rw [← hto j i r1] at q2
    exact .inr ⟨j,cs,β,hkeep j cs r2,q2⟩
   ·rw [hold i cs' r1] at q2
    exact .inl ⟨.inr ⟨i,cs',β,r1,q2⟩,hnW i cs' b β r1 r2 q2⟩
 refine ⟨v,ι',rfl,⟨fun i cs' hi => ?_,fun i i2 cs1 cs2 b β β' h1 h2 h3 h4 => ?_,⟨hfr.os.trans g.fr.os,hfr.tape.trans g.fr.tape,hfr.output.trans g.fr.output,Nat.le_trans g.fr.size hfr.size,fun b hb hnw => ?_,fun b => Nat.le_trans (g.fr.bs b) (hfr.bs b)⟩,fun i q hq => hcar.pl i q (g.ex i q hq),fun i hi => ?_⟩,hcar,RnV.fwd hrn2 hr hrd⟩
 ·rcases hcase i cs' hi with ⟨j, cs, q1, q2, q3⟩ | ⟨q1, q2⟩
  ·rcases gr.obj j cs (hkeep j cs q2) with ⟨r1, r2⟩ | ⟨b, β, arr, e, r1, r2, r3, r4, r5, r6⟩
   ·refine .inl ⟨by rw [← hto j i q1]; exact r1, ?_⟩
    subst r2
    exact List.eq_nil_of_length_eq_zero (by rw [← q3.len]; rfl)
   ·refine .inr ⟨b, β, arr, e, by rw [← hto j i q1]; exact r1, r2, by rw [← q3.len]; exact r3, RnL.fwdC hrn2 q3 r4, ?_, ?_⟩
    ·rcases r6 with r6 | r6
     ·exact (hW0 b r6).1
     ·intro hX
      have := C.xlt b hX
      have := g.fr.size
      have : w.heap.size ≤ b := r6
      omega
    ·rcases r6 with r6 | r6
     ·exact (hW0 b r6).2.1
     ·refine .inr ?_
      have := g.fr.size
      have : w.heap.size ≤ b := r6
      omega
  ·rcases g.obj i cs' q1 with ⟨r1, r2⟩ | ⟨b, β, arr, e, r1, r2, r3, r4, r5, r6⟩
   ·exact .inl ⟨by rw [hold i cs' q1]; exact r1,r2⟩
   ·have hlt := cL r2
    have hbl := hfr.block b hlt (hnW i cs' b β q1 q2 r1)
    exact .inr ⟨b,β,arr,e,by rw [hold i cs' q1]; exact r1,by rw [hbl]; exact r2,r3,RdC.carryB hcar _ _ _ (fun o y hy => by rw [b6 hbl]; exact hy) r4,r5,r6⟩
 ·rcases hcase i cs1 h1 with ⟨j, c1, q1, q2, q3⟩ | ⟨q1, q2⟩ <;> rcases hcase i2 cs2 h2 with ⟨j2, c2, q1', q2', q3'⟩ | ⟨q1', q2'⟩
  ·rw [← hto j i q1] at h3
   rw [← hto j2 i2 q1'] at h4
   have := gr.sep _ _ _ _ _ _ _ (hkeep j c1 q2) (hkeep j2 c2 q2') h3 h4
   subst this
   rw [q1] at q1'; cases q1'; rfl
  ·rw [← hto j i q1] at h3
   rw [hold i2 cs2 q1'] at h4
   have hlt := hobjlt i2 cs2 b _ q1' h4
   rcases hcal j c1 b _ (hkeep j c1 q2) h3 with q|q
   ·exact (hnW i2 cs2 b _ q1' q2' h4 q).elim
   ·omega
  ·rw [hold i cs1 q1] at h3
   rw [← hto j2 i2 q1'] at h4
   have hlt := hobjlt i cs1 b _ q1 h3
   rcases hcal j2 c2 b _ (hkeep j2 c2 q2') h4 with q|q
   ·exact (hnW i cs1 b _ q1 q2 h3 q).elim
   ·omega
  ·rw [hold i cs1 q1] at h3
   rw [hold i2 cs2 q1'] at h4
   exact g.sep _ _ _ _ _ _ _ q1 q1' h3 h4
 ·have hb2 : b < w.heap.size := by have := g.fr.size; omega
  rw [hfr.block b hb2 (fun hw0 => ?_)]
  ·exact g.fr.block b hb hnw
  ·rcases (hW0 b hw0).2.1 with q | q
   ·exact hnw q
   ·omega
 ·simp only [ι', hi.2]
  exact g.fresh i hi.1
attribute [local irreducible] aY
def Jy (P : Program) (k : FuncId) (args : List AV) (R0 : List (List Bool)) (r : AV) (hh : List (Nat × Option (List AV))) : Prop :=
 vA P k args (aQ (fK R0)) (Fn 0 ⟨0,aY + R0.length⟩) (fun r' H' => r' = r ∧ ∀ id cs,aQ (hh ++ fK R0) id = some cs → H' id = some cs)
def Kb (P : Program) (k : FuncId) (args : List AV) (r : AV) (R1 : List (List Bool)) : Prop :=
 vA P k args (aQ []) (Fn 0 ⟨0,aY⟩) (fun r' H' => r' = r ∧ ∀ id cs,aQ (fK R1) id = some cs → H' id = some cs)
theorem nQ {hs:List (Nat × Option (List AV))}{r r':AV}{R0:List (List Bool)}{hh:List (Nat × Option (List AV))}(hr:r' = r) (hh':kA hs hh) (hF:FamR R0 R0 hs hs):r' = r ∧ ∀ id cs,aQ (hh ++ fK R0) id = some cs → aQ hs id = some cs:=by
 refine ⟨hr,fun id cs h => ?_⟩
 rcases pG h with h|h
 ·exact mK hh' id cs h
 ·obtain ⟨k, hk, rfl, rfl⟩ := j5 h
  exact hF.get hk
theorem IY {hs:List (Nat × Option (List AV))}{r r':AV}{R0:List (List Bool)}(hr:r' = r) (hF:FamR R0 R0 hs hs):r' = r ∧ ∀ id cs,aQ (fK R0) id = some cs → aQ hs id = some cs :=
 nQ (hh := []) hr trivial hF
def Gb (b m : Nat) (j : Nat) : Option Nat := if aY ≤ j ∧ j < aY + m then some (b + j) else none
def Js (n n1 : Nat) (j : Nat) : Option Nat := if j < n1 then some (n + j) else none
def Kk (n n1 : Nat) (i : Nat) : Option Nat := if n ≤ i ∧ i < n + n1 then some (i - n) else none
def Ka (b m n n1 : Nat) : Nat → Option Nat := n8 (Gb b m) (Js n n1)
theorem BY {mpF fr:Nat → Option Nat}{j i:Nat}(h:mpF j = some i):n8 mpF fr j = some i := by unfold n8;rw [h]
theorem CV {mpF fr:Nat → Option Nat}{j:Nat}(h:mpF j = none):n8 mpF fr j = fr j := by unfold n8;rw [h]
theorem lI {b m k:Nat}(h:k < m):Gb b m (k + aY) = some (b + k + aY):=by
 unfold Gb;rw [if_pos (by omega),Nat.add_assoc]
theorem GJ {b m n n1 k:Nat}(h:k < m):Ka b m n n1 (k + aY) = some (b + k + aY) := BY (lI h)
theorem pB {b m n n1 j:Nat}(h:j < n1) (hb:j < aY):Ka b m n n1 j = some (n + j):=by
 have e : Gb b m j = none := by unfold Gb;rw [if_neg (by omega)]
 refine (CV e).trans ?_
 unfold Js;rw [if_pos h]
theorem rn_rows {ρ:Nat → Option Nat}{b b' m w:Nat}(h:∀ k,k < m → ρ (b + k + aY) = some (b' + k + aY)):RnL ρ (flat (vK b w) (List.range m)) (flat (vK b' w) (List.range m)) :=
 RnL.flt fun k hk => by rw [List.mem_range] at hk;exact .cons (.own (h k hk)) .nil
theorem cU {m:List (Nat × Nat)}{lo:Lo}{pn:Option Nat}{b k w:Nat}(h:aY + (b + k) ≤ lo.fb):RnL (iD m lo pn) (flat (vK b w) (List.range k)) (flat (vK b w) (List.range k)) :=
 rn_rows fun j hj => fU (by omega) (by omega)
def Jt (ρ : Nat → Option Nat) (hh : List (Nat × Option (List AV))) : List (Nat × Option (List AV)) → Prop
 | [] => True
 | (i,none) :: l => Jt ρ hh l
 | (i,some cs') :: l => (∃ j cs,ρ j = some i ∧ aQ hh j = some cs ∧ RnL ρ cs cs') ∧ Jt ρ hh l
theorem zX {ρ:Nat → Option Nat}{hh:List (Nat × Option (List AV))}:∀ {ws:List (Nat × Option (List AV))},Jt ρ hh ws → ∀ i cs',(i,some cs') ∈ ws → ∃ j cs,ρ j = some i ∧ aQ hh j = some cs ∧ RnL ρ cs cs'
 | [],_,i,cs',h => by simp at h
 | (u, none) :: l, hw, i, cs', h => by
  simp only [Jt] at hw
  rcases List.mem_cons.1 h with h|h
  ·cases h
  ·exact zX hw i cs' h
 | (u, some c) :: l, hw, i, cs', h => by
  simp only [Jt] at hw
  rcases List.mem_cons.1 h with h|h
  ·cases h;exact hw.1
  ·exact zX hw.2 i cs' h
section
variable {P : Program} {N : Nat} {Q : Exit → AS → Prop} {all : Array Oper} {rest : List Oper} {ts : List (Nat × AV)} {hs : List (Nat × Option (List AV))} {n : Nat} {z0 : Lo} {md : Md}
variable {d : Nat} {ty : TypeId} {pos : String} {af : Array Edge}
theorem wG {k:FuncId}{args:Array Operand}{tys:Array TypeId}{avs avs0:List AV}{R R0:List (List Bool)}{r rr':AV}{hh:List (Nat × Option (List AV))}(b n1:Nat) (D:List Nat) (ws:List (Nat × Option (List AV))) [hc:CaT P k]
  (ha : evL (lk ts) args.toList = some avs) (h : Jy P k avs0 R0 r hh) (hF : FamR R R hs hs) (hb : b + R0.length ≤ R.length) (hR : ∀ k,k < R0.length → R0[k]! = R[b + k]!) (hD : ∀ k,k < R0.length → b + k + aY ∈ D)
  (har : RnL (Gb b R0.length) avs0 avs) (hk : gC aY hh = true) (hr : RnV (Ka b R0.length n n1) r rr') (hw : Jt (Ka b R0.length n n1) hh ws) (hM : Nat.ble (n + n1) aY = true) (hN : Nat.blt d N = true)
  {md' : Md} [hmd : MdA md (jH args.toList ++ D.map .inr) (ws.map (fun p => .inr p.1) ++ [.inl d]) md']
  (kk : RW P N all Q md' rest ⟨(d,rr') :: ts,mI hs ws,n + n1,z0⟩) : RW P N all Q md (⟨some d,.call ⟨.value (.func k),args,tys⟩,ty,pos,af,none⟩ :: rest) ⟨ts,hs,n,z0⟩ := by
 have hM' := Nat.le_of_ble_eq_true hM
 refine iG (rs := jH args.toList ++ D.map .inr) (ws := ws) (n' := n + n1) (out := rr') rfl (Nat.le_add_right _ _) (.inr hM') (fun C ι F T H a w K Q' hCN ag hFf g gh hK => ?_) (fun x hx => by cases hx;exact dL hN) (by simp only [wD]; rw [← hmd.pf] at kk;exact kk)
 simp only [Oper.wp,eW hc.pf,Oper.upon]
 have hH : ∀ q, q < R0.length → H (b + q + aY) = some (flat cB R[b + q]!) := fun q hq => by
  rw [ag.r.h _ (List.mem_map_of_mem (hD q hq))]; exact hF.get (by omega)
 have hmp : ∀ j i, Gb b R0.length j = some i → ∃ q, q < R0.length ∧ j = q + aY ∧ i = b + q + aY := by
  intro j i hj
  unfold Gb at hj
  split at hj
  ·cases hj;exact ⟨j - aY,by omega,by omega,by omega⟩
  ·cases hj
 have hrh : ∀ j i, Js n n1 j = some i → j < n1 ∧ i = n + j := by
  intro j i hj
  unfold Js at hj
  split at hj
  ·cases hj;exact ⟨by assumption,rfl⟩
  ·cases hj
 refine (vO (fr := Js n n1) (fi := Kk n n1) (hh := aQ (hh ++ fK R0)) (H2 := iY H ws) h (fun j j' i h1 h2 => ?_) (fun i j => ?_) (fun j i h1 => ?_) (fun j hj => ?_) gh (fun j i hj => ?_) (fun j cs hj => ?_) har (fun j i hj => ?_) hr (fun i cs' hi => ?_) (gB g (ag.l.evL.trans ha))).mono ?_
 ·obtain ⟨q, _, _, _⟩ := hmp j i h1
  obtain ⟨q',_,_,_⟩ := hmp j' i h2
  omega
 ·unfold Kk Js
  constructor
  ·intro h1
   split at h1
   ·cases h1;rw [if_pos (by omega)]; congr 1;omega
   ·cases h1
  ·intro h1
   split at h1
   ·cases h1;rw [if_pos (by omega)]; congr 1;omega
   ·cases h1
 ·have := hrh j i h1
  unfold Gb;rw [if_neg (by omega)]
 ·have h1 : j < aY ∨ aY + R0.length ≤ j := hj.2
  unfold Gb;rw [if_neg (by omega)]
 ·obtain ⟨q, q1, rfl, rfl⟩ := hmp j i hj
  refine ⟨flat cB R0[q]!,flat cB R[b + q]!,?_,hH q q1,?_⟩
  ·rw [mM,if_pos q1]
  ·rw [hR q q1]; exact .pur (inferInstance : Pur (flat cB R[b + q]!)).pf
 ·obtain ⟨q, q1, rfl, rfl⟩ := j5 hj
  exact ⟨_,lI q1⟩
 ·obtain ⟨q1, rfl⟩ := hrh j i hj
  exact hFf _ (Nat.le_add_right _ _) (by omega)
 ·rcases p8 hi with h1 | ⟨h1, h2⟩
  ·obtain ⟨j, cs, q1, q2, q3⟩ := zX hw i cs' h1
   exact .inl ⟨j,cs,q1,Dm q2,q3⟩
  ·by_cases hq : ∃ q, q < R0.length ∧ i = b + q + aY
   ·obtain ⟨q, q1, rfl⟩ := hq
    rw [hH q q1] at h1
    cases h1
    refine .inl ⟨q + aY,flat cB R0[q]!,GJ q1,?_,?_⟩
    ·rw [EU (oI (by omega) hk),mM,if_pos q1]
    ·rw [hR q q1]; exact .pur (inferInstance : Pur (flat cB R[b + q]!)).pf
   ·refine .inr ⟨h1, fun j hj => hq ?_⟩
    obtain ⟨q,q1,_,q2⟩ := hmp j i hj
    exact ⟨q,q1,q2⟩
 ·rintro e w' ⟨v, ι', rfl, g', c', hrd⟩
  refine hK ι' w' v (g.carry c') (g'.less (fun _ _ h => h) (fun j hj => ⟨hj.1,?_⟩)).1 hrd
  unfold Kk;rw [if_neg hj.2]
theorem FZ {k:FuncId}{args:Array Operand}{tys:Array TypeId}{avs:List AV}{R R1:List (List Bool)}{r rr':AV}{hs':List (Nat × Option (List AV))}{l0:Nat}[hc:CaT P k]
  (ha : evL (lk ts) args.toList = some avs) (h : Kb P k avs r R1) (hp : bQ avs = true) (hF : FamR R (R ++ R1) hs hs') (hz : z0 = ⟨l0,aY + R.length⟩)
  (hr : RnV (fun j => if aY ≤ j ∧ j < aY + R1.length then some (R.length + j) else none) r rr') (hM : Nat.ble n aY = true) (hN : Nat.blt d N = true)
  (kk : RW P N all Q .txt rest ⟨(d,rr') :: ts,hs',n,⟨l0,aY + (R ++ R1).length⟩⟩) : RW P N all Q .txt (⟨some d,.call ⟨.value (.func k),args,tys⟩,ty,pos,af,none⟩ :: rest) ⟨ts,hs,n,z0⟩ := by
 subst hz
 rintro C a w hCN ⟨h0,ι,g,gh⟩
 refine wpList_plain rfl (fun K hK => ?_)
 simp only [Oper.wp,eW hc.pf,Oper.upon]
 have hM' := Nat.le_of_ble_eq_true hM
 have hrh : ∀ j i, (fun j => if aY ≤ j ∧ j < aY + R1.length then some (R.length + j) else none) j = some i → aY ≤ j ∧ j < aY + R1.length ∧ i = R.length + j := by
  intro j i hj
  dsimp only at hj
  split at hj
  ·rename_i hh;cases hj;exact ⟨hh.1,hh.2,rfl⟩
  ·cases hj
 have hrho : n8 (fun _ => none) (fun j => if aY ≤ j ∧ j < aY + R1.length then some (R.length + j) else none) = (fun j => if aY ≤ j ∧ j < aY + R1.length then some (R.length + j) else none) := by funext j;rfl
 have hlen : (R ++ R1).length = R.length + R1.length := List.length_append
 refine (vO (mpF := fun _ => none) (fr := fun j => if aY ≤ j ∧ j < aY + R1.length then some (R.length + j) else none) (fi := fun i => if aY + R.length ≤ i ∧ i < aY + R.length + R1.length then some (i - R.length) else none) (hh := aQ (fK R1)) (H2 := aQ hs') (args' := avs)
  h (fun j j' i h1 h2 => by cases h1) (fun i j => ?_) (fun j i h1 => rfl) (fun j hj => rfl) gh (fun j i hj => by cases hj) (fun j cs hj => by simp [aQ] at hj) (.pur hp) (fun j i hj => ?_) (rr' := rr') (by rw [hrho]; exact hr) (fun i cs' hi => ?_) (gB g ha)).mono ?_
 ·constructor
  ·intro h1
   split at h1
   ·cases h1;rw [if_pos (by omega)]; congr 1;omega
   ·cases h1
  ·intro h1
   split at h1
   ·cases h1;rw [if_pos (by omega)]; congr 1;omega
   ·cases h1
 ·obtain ⟨q1, q2, rfl⟩ := hrh j i hj
  exact ⟨by show n ≤ R.length + j;omega,.inr (by show aY + R.length ≤ R.length + j;omega)⟩
 ·rcases Nat.lt_or_ge i aY with hi2 | hi2
  ·exact .inr ⟨by rw [hF.low i hi2]; exact hi,fun j => by simp⟩
  ·obtain ⟨q, rfl⟩ : ∃ q, i = q + aY := ⟨i - aY, by omega⟩
   have hg := hF.symm.fam q
   rw [hi] at hg
   split at hg
   ·rename_i hq
    cases hg
    rcases Nat.lt_or_ge q R.length with hq2|hq2
    ·refine .inr ⟨?_, fun j => by simp⟩
     have e : (R ++ R1)[q]! = R[q]! := by rw [bG _ _ hq,bG _ _ hq2,List.getElem_append_left hq2]
     rw [e]; exact hF.get hq2
    ·refine .inl ⟨(q - R.length) + aY, flat cB R1[q - R.length]!, ?_, ?_, ?_⟩
     ·rw [hrho]
      show (if aY ≤ q - R.length + aY ∧ q - R.length + aY < aY + R1.length then some (R.length + (q - R.length + aY)) else none) = some (q + aY)
      rw [if_pos (by omega)]; congr 1;omega
     ·rw [mM,if_pos (by omega)]
     ·have e : (R ++ R1)[q]! = R1[q - R.length]! := by rw [bG _ _ hq, bG _ _ (by omega), List.getElem_append_right hq2]
      rw [e]; exact .pur (inferInstance : Pur (flat cB R1[q - R.length]!)).pf
   ·cases hg
 ·rintro e w' ⟨v, ι', rfl, g', c', hrd⟩
  refine hK _ _ (kk C _ _ hCN ⟨fun id hid => ?_,ι',?_,?_⟩)
  ·rcases h0 id hid with q | q
   ·exact .inl ⟨q.1,by have := q.2;show id < aY + (R ++ R1).length;have h5 : id < aY + R.length := this;omega⟩
   ·exact .inr q
  ·show TG C ι' (lk ((d, rr') :: ts)) _ _ _
   rw [lC]
   exact (g.carry c').put (hCN.symm ▸ dL hN) hrd
  ·refine (g'.less (fun _ _ h => h) (fun j hj => ?_)).1
   have h3 : n ≤ j := hj.1
   have h4 : j < aY ∨ aY + (R ++ R1).length ≤ j := hj.2
   refine ⟨⟨h3,?_⟩,?_⟩
   ·show j < aY ∨ aY + R.length ≤ j
    omega
   ·rw [if_neg (by omega)]
end
theorem D3 {P:Program}{k:FuncId}{fn:Func}{c:Code}{args:List AV}{R0:List (List Bool)}{r:AV}{hh:List (Nat × Option (List AV))}(hf:P.funcs[k]? = some fn) (hb:fn.body = some c) (hN:args.length ≤ fn.ntmps)
  (h : AW P fn.ntmps c (mZ P fn.results (fun r' H' => r' = r ∧ ∀ id cs,aQ (hh ++ fK R0) id = some cs → H' id = some cs)) ⟨dJ 0 args,fK R0,0,⟨0,aY + R0.length⟩⟩) : Jy P k args R0 r hh := m9 hf hb hN h
theorem DY {P:Program}{k:FuncId}{fn:Func}{c:Code}{args:List AV}{R1:List (List Bool)}{r:AV}(hf:P.funcs[k]? = some fn) (hb:fn.body = some c) (hN:args.length ≤ fn.ntmps)
  (h : AW P fn.ntmps c (mZ P fn.results (fun r' H' => r' = r ∧ ∀ id cs,aQ (fK R1) id = some cs → H' id = some cs)) ⟨dJ 0 args,[],0,⟨0,aY⟩⟩) : Kb P k args r R1 := m9 hf hb hN h
theorem Le.virt {ts:List (Nat × AV)}{hs:List (Nat × Option (List AV))}{n:Nat}{z0:Lo}(hn:n < aY):Le ⟨ts,hs,n,z0⟩ ⟨ts,(n,some []) :: hs,n + 1,z0⟩:=by
 rintro C a w ⟨h0,ι,g,gh⟩
 obtain ⟨g1,c1⟩ := gh.virt (id := n) ⟨Nat.le_refl _,.inl hn⟩
 have e : aQ ((n,some []) :: hs) = dK (aQ hs) n (some []) := xM _ _ _
 refine ⟨h0,dK ι n (some none),?_,?_⟩
 ·show TG C _ (lk ts) (aQ ((n, some []) :: hs)) a w
  rw [e]; exact g.carry c1
 ·show HG C _ _ (aQ ((n, some []) :: hs)) w
  rw [e]
  refine (g1.less (fun _ _ h => h) (fun j hj => ?_)).1
  have h1 : n + 1 ≤ j := hj.1
  exact ⟨⟨by show n ≤ j;omega,hj.2⟩,by omega⟩
theorem Le.cellsN {ts:List (Nat × AV)}{hs:List (Nat × Option (List AV))}{n:Nat}{z0:Lo}{i q:Nat}{cs cs' cq:List AV}(hi:aQ hs i = some cs) (hq:aQ hs q = some cq) (hl:cs'.length = cs.length)
  (h : ∀ (w : World) (bad : Nat → Prop) (ι : Pl) (b β : Nat),(∃ p,ι q = some p) → RdC w bad ι cs b β → RdC w bad ι cs' b β) :
  Le ⟨ts,hs,n,z0⟩ ⟨ts,(i,some cs') :: hs,n,z0⟩ := by
 rintro C a w ⟨h0,ι,g,gh⟩
 have hqq : ∃ p, ι q = some p := by
  rcases gh.obj q cq hq with ⟨p1,_⟩ | ⟨_,_,_,_,p1,_⟩ <;> exact ⟨_,p1⟩
 have hk : ∀ id c, aQ ((i, some cs') :: hs) id = some c → (id = i ∧ c = cs') ∨ (id ≠ i ∧ aQ hs id = some c) := by
  intro id c hc
  rw [cA] at hc
  split at hc
  ·rename_i e;cases hc;exact .inl ⟨e,rfl⟩
  ·rename_i e;exact .inr ⟨fun h => e h,hc⟩
 have hk2 : ∀ id c, aQ hs id = some c → ∃ c', aQ ((i, some cs') :: hs) id = some c' := by
  intro id c hc
  rw [cA]
  split
  ·exact ⟨_,rfl⟩
  ·exact ⟨_,hc⟩
 have hb : aC C.X ι (aQ ((i, some cs') :: hs)) = aC C.X ι (aQ hs) := by
  funext b
  refine propext ⟨?_,?_⟩
  ·rintro (h | ⟨id, c, β, h1, h2⟩)
   ·exact .inl h
   ·rcases hk id c h1 with ⟨rfl, _⟩ | ⟨_, h3⟩
    ·exact .inr ⟨_,_,_,hi,h2⟩
    ·exact .inr ⟨_,_,_,h3,h2⟩
  ·rintro (h | ⟨id, c, β, h1, h2⟩)
   ·exact .inl h
   ·obtain ⟨c', h3⟩ := hk2 id c h1
    exact .inr ⟨_,_,_,h3,h2⟩
 refine ⟨h0,ι,⟨g.df,g.sz,fun t av ht => ?_⟩,?_,?_,gh.fr,gh.ex,gh.fresh⟩
 ·show ∃ y, a.tmps[t]? = some y ∧ Rd w (aC C.X ι (aQ ((i, some cs') :: hs))) ι av y
  rw [hb]; exact g.tm t av ht
 ·intro id c hc
  show _ ∨ ∃ b β arr e,ι id = some (some (b,β)) ∧ w.heap[b]? = some (.cells arr e (0,0)) ∧ β + c.length ≤ arr.size ∧ RdC w (aC C.X ι (aQ ((i,some cs') :: hs))) ι c b β ∧ ¬ C.X b ∧ (C.W0 b ∨ C.w0.heap.size ≤ b)
  rw [hb]
  rcases hk id c hc with ⟨rfl,rfl⟩ | ⟨_,h3⟩
  ·rcases gh.obj _ _ hi with ⟨q1, q2⟩ | ⟨b, β, arr, e, q1, q2, q3, q4, q5⟩
   ·subst q2
    exact .inl ⟨q1,List.eq_nil_of_length_eq_zero hl⟩
   ·exact .inr ⟨b,β,arr,e,q1,q2,by rw [hl]; exact q3,h _ _ _ _ _ hqq q4,q5⟩
  ·exact gh.obj _ _ h3
 ·intro id id' c c' b β β' h1 h2 h3 h4
  obtain ⟨d1, e1⟩ : ∃ d, aQ hs id = some d := by
   rcases hk id c h1 with ⟨rfl,_⟩ | ⟨_,h⟩
   ·exact ⟨_,hi⟩
   ·exact ⟨_,h⟩
  obtain ⟨d2, e2⟩ : ∃ d, aQ hs id' = some d := by
   rcases hk id' c' h2 with ⟨rfl,_⟩ | ⟨_,h⟩
   ·exact ⟨_,hi⟩
   ·exact ⟨_,h⟩
  exact gh.sep id id' d1 d2 b β β' e1 e2 h3 h4
theorem uM {w:World}{bad:Nat → Prop}{ι:Pl}{c c':AV}(hc:∀ y,Rd w bad ι c y → Rd w bad ι c' y):∀ (a:List AV) (r:List AV) (b o:Nat),RdC w bad ι (a ++ c :: r) b o → RdC w bad ι (a ++ c' :: r) b o
 | [], r, b, o, h => by
  simp only [List.nil_append,RdC] at h ⊢
  obtain ⟨⟨x,h1,h2,h3⟩,h4⟩ := h
  exact ⟨⟨x,h1,h2,hc _ h3⟩,h4⟩
 | x :: a, r, b, o, h => by
  simp only [List.cons_append,RdC] at h ⊢
  exact ⟨h.1,uM hc a r b (o + 1) h.2⟩
theorem Le.nilCell {ts:List (Nat × AV)}{hs:List (Nat × Option (List AV))}{n:Nat}{z0:Lo}{i:Nat}(e:Nat) (c1:List AV){c2:List AV}(hi:aQ hs i = some (c1 ++ .v (.slice none 0 0) :: c2)) (hin:i ≠ n) (hn:n < aY) :
  Le ⟨ts,hs,n,z0⟩ ⟨ts,(i,some (c1 ++ .own n 0 0 e :: c2)) :: (n,some []) :: hs,n + 1,z0⟩ :=
 (Le.virt hn).trans (Le.cellsN (q := n) (cs := c1 ++ .v (.slice none 0 0) :: c2) (by rw [cA, if_neg hin]; exact hi) (by rw [cA, if_pos rfl]) (by simp) fun w bad ι b β hp hr =>
  uM (fun y hy => by simp only [Rd] at hy ⊢; exact .inl ⟨hp,trivial,none,hy⟩) c1 c2 b β hr)
theorem Le.frzC {ts:List (Nat × AV)}{hs:List (Nat × Option (List AV))}{n:Nat}{z0:Lo}{j i m e:Nat}(c1:List AV){c2 d:List AV}(hj:aQ hs j = some (c1 ++ .own i 0 m e :: c2)) (hi:aQ hs i = some d) (hij:j ≠ i) :
  Le ⟨ts,hs,n,z0⟩ ⟨ts,(j,some (c1 ++ .imm m d :: c2)) :: (i,none) :: hs,n,z0⟩ := by
 rintro C a w ⟨h0,ι,g,gh⟩
 have hk : ∀ id c, aQ ((j, some (c1 ++ .imm m d :: c2)) :: (i, none) :: hs) id = some c → (id = j ∧ c = c1 ++ .imm m d :: c2) ∨ (id ≠ j ∧ id ≠ i ∧ aQ hs id = some c) := by
  intro id c hc
  rw [cA] at hc
  split at hc
  ·rename_i e;cases hc;exact .inl ⟨e,rfl⟩
  ·rename_i e
   rw [cA] at hc
   split at hc
   ·cases hc
   ·rename_i e2;exact .inr ⟨e,e2,hc⟩
 have hk2 : ∀ id c, aQ ((j, some (c1 ++ .imm m d :: c2)) :: (i, none) :: hs) id = some c → id ≠ i ∧ ∃ c', aQ hs id = some c' := by
  intro id c hc
  rcases hk id c hc with ⟨rfl,_⟩ | ⟨_,h2,h3⟩
  ·exact ⟨hij,_,hj⟩
  ·exact ⟨h2,_,h3⟩
 have hbad : ∀ b, aC C.X ι (aQ ((j, some (c1 ++ .imm m d :: c2)) :: (i, none) :: hs)) b → aC C.X ι (aQ hs) b := by
  rintro b (h | ⟨id,c,β,h1,h2⟩)
  ·exact .inl h
  ·obtain ⟨_, c', h3⟩ := hk2 id c h1
   exact .inr ⟨id,c',β,h3,h2⟩
 have car : Carry w (aC C.X ι (aQ hs)) ι w (aC C.X ι (aQ ((j,some (c1 ++ .imm m d :: c2)) :: (i,none) :: hs))) ι := ⟨fun b o x h1 h2 => ⟨fun q => h1 (hbad b q),h2⟩,fun _ _ h => h,fun _ => Nat.le_refl _⟩
 have hcell : ∀ y, Rd w (aC C.X ι (aQ ((j, some (c1 ++ .imm m d :: c2)) :: (i, none) :: hs))) ι (.own i 0 m e) y → Rd w (aC C.X ι (aQ ((j, some (c1 ++ .imm m d :: c2)) :: (i, none) :: hs))) ι (.imm m d) y := by
  intro y hr
  simp only [Rd] at hr ⊢
  rcases hr with ⟨_,h2,a',h3⟩ | ⟨b,β,c,h1,h2,h3,h4⟩
  ·subst h2;exact ⟨a',0,h3,.inl rfl⟩
  ·refine ⟨_, c, h2, ?_⟩
   rcases Nat.eq_zero_or_pos m with h5|h5
   ·exact .inl h5
   ·refine .inr ⟨b, β + 0, h3, rfl, ?_⟩
    rcases gh.obj i d hi with ⟨q1,q2⟩ | ⟨b',β',arr,e',q1,q2,q3,q4,q5,q6⟩
    ·rw [h1] at q1;cases q1
    ·rw [h1] at q1; cases q1
     refine .inr ⟨?_,RdC.carryB car _ _ _ (fun o x hx => hx) q4⟩
     rintro (h | ⟨id',cs',β',r1,r2⟩)
     ·exact q5 h
     ·obtain ⟨r3, c', r4⟩ := hk2 id' cs' r1
      exact r3 (gh.sep _ _ _ _ _ _ _ r4 hi r2 h1)
 refine ⟨h0,ι,g.carry car,⟨fun id c hc => ?_,fun id id' c c' b β β' h1 h2 h3 h4 => ?_,gh.fr,gh.ex,gh.fresh⟩⟩
 ·rcases hk id c hc with ⟨rfl, rfl⟩ | ⟨_, _, h3⟩
  ·rcases gh.obj _ _ hj with ⟨q1, q2⟩ | ⟨b, β, arr, e, q1, q2, q3, q4, q5⟩
   ·simp at q2
   ·exact .inr ⟨b,β,arr,e,q1,q2,by simpa using q3,uM hcell c1 c2 b β (RdC.carryB car _ _ _ (fun o x hx => hx) q4),q5⟩
  ·rcases gh.obj _ _ h3 with ⟨q1, q2⟩ | ⟨b, β, arr, e, q1, q2, q3, q4, q5⟩
   ·exact .inl ⟨q1,q2⟩
   ·exact .inr ⟨b,β,arr,e,q1,q2,q3,RdC.carryB car _ _ _ (fun o x hx => hx) q4,q5⟩
 ·obtain ⟨_, d1, e1⟩ := hk2 id c h1
  obtain ⟨_,d2,e2⟩ := hk2 id' c' h2
  exact gh.sep id id' d1 d2 b β β' e1 e2 h3 h4
theorem Es {R:List (List Bool)}{hs hs':List (Nat × Option (List AV))}{k m:Nat}(hF:FamR R R hs hs') (hk:k < R.length) (hm:m = R[k]!.length):sCells (aQ hs) 1 (nJ (.own (k + aY) 0 m 1)) = some (m,flat cB R[k]!):=by
 subst hm
 have hl : (flat cB R[k]!).length = R[k]!.length * 1 := aI cB _
 show (aQ hs (k + aY)).bind (fun cs => if R[k]!.length * 1 ≤ (cs.drop 0).length then some (R[k]!.length,(cs.drop 0).take (R[k]!.length * 1)) else none) = _
 rw [hF.get hk,Option.bind_some,List.drop_zero,if_pos (by omega),List.take_of_length_le (by omega)]
theorem Bz {cs:List AV}{v:Nat}{c:AV}:fG cs (0 + v * 1) [c] = cs.take v ++ c :: cs.drop (v + 1):=by
 unfold fG;simp
theorem Gk {u:List (List Bool)}{v:Nat}{r:List Bool}(hv:v < u.length):(flat fW u).take v ++ .imm r.length (flat cB r) :: (flat fW u).drop (v + 1) = flat fW (u.set v r):=by
 have h := AQ (xs := u) (k := v) (r := r) hv
 rw [Bz] at h;exact h
theorem Le.frzRow {ts:List (Nat × AV)}{hs:List (Nat × Option (List AV))}{n:Nat}{z0:Lo}{j q v m:Nat}{u:List (List Bool)}{r:List Bool}(hj:aQ hs j = some (fG (flat fW u) (0 + v * 1) [.own q 0 m 1])) (hq:aQ hs q = some (flat cB r)) (hm:m = r.length) (hv:v < u.length) (hjq:j ≠ q) :
  Le ⟨ts,hs,n,z0⟩ ⟨ts,(j,some (flat fW (u.set v r))) :: (q,none) :: hs,n,z0⟩ := by
 subst hm
 rw [Bz] at hj
 have h := Le.frzC (ts := ts) (n := n) (z0 := z0) ((flat fW u).take v) hj hq hjq
 rwa [Gk hv] at h
theorem Le.fdrop {ts:List (Nat × AV)}{hs:List (Nat × Option (List AV))}{n:Nat}{z0:Lo}{k:Nat}{R:List (List Bool)}(hF:FamR R R hs hs) (hk:k < R.length):Le ⟨ts,(k + aY,some (flat cB R[k]!)) :: hs,n,z0⟩ ⟨ts,hs,n,z0⟩:=by
 refine Le.of (fun _ _ h => h) (fun i cs h => ?_) (Nat.le_refl _) rfl
 have h' : aQ hs i = some cs := h
 show aQ ((k + aY,some (flat cB R[k]!)) :: hs) i = some cs
 rw [cA]
 split
 ·rename_i e;subst e;rw [hF.get hk] at h'; exact h'
 ·exact h'
theorem JK {i k:Nat}(hi:Nat.blt i aY = true):distinct [i,k + aY] = true:=by
 have h1 := dL hi
 have : Nat.beq i (k + aY) = false := by
  cases h : Nat.beq i (k + aY) with
  | false => rfl
  | true => have := Nat.eq_of_beq_eq_true h;omega
 simp only [distinct,List.all_cons,List.all_nil,this]; rfl
structure Hid (T : Prop) : Prop where pf : T
theorem cut {G:Prop}{T:Prop}(key:T) (main:Hid T → G):G := main ⟨key⟩
structure Hy (T : Prop) : Prop where pf : T
theorem J5:(∀ a b:Bool,((a && b) = true) = (a = true ∧ b = true)) ∧ (∀ a b:Bool,((a && b) = false) ↔ (a = false ∨ b = false)) ∧ (∀ a b:Bool,((a || b) = true) = (a = true ∨ b = true)) ∧ (∀ a b:Bool,((a || b) = false) ↔ (a = false ∧ b = false)) ∧
  (∀ (p : Prop) [Decidable p],(decide p = true) = p) ∧ (∀ (p : Prop) [Decidable p],(decide p = false) ↔ ¬ p) ∧ (∀ a : Bool,((!a) = true) ↔ a = false) ∧ (∀ a : Bool,((!a) = false) ↔ a = true) ∧ ((!true) = false) ∧ ((!false) = true) ∧ (∀ a b : Int,¬ a < b ↔ b ≤ a) ∧ (∀ a b : Int,¬ a ≤ b ↔ b < a) :=
 ⟨fun a b => Bool.and_eq_true a b,fun a b => Bool.and_eq_false_iff,fun a b => Bool.or_eq_true a b,fun a b => Bool.or_eq_false_iff,fun p _ => by simp,fun p _ => decide_eq_false_iff_not,fun a => by simp,fun a => by simp,rfl,rfl,fun _ _ => Int.not_lt,fun _ _ => Int.not_le⟩
theorem jY:(∀ {α:Type}(a b:List α),(a ++ b).length = a.length + b.length) ∧ (∀ {α:Type}(a:α) (b:List α),(a :: b).length = b.length + 1) ∧ (∀ {α:Type},([]:List α).length = 0) ∧ (∀ {α:Type}(a:List α) (i:Nat) (x:α),(a.set i x).length = a.length) ∧ (∀ {α:Type}(i:Nat) (a:List α),(a.take i).length = min i a.length) ∧
  (∀ {α β : Type} (f : α → β) (a : List α),(a.map f).length = a.length) ∧ (∀ {α : Type} (n : Nat) (a : α),(List.replicate n a).length = n) ∧ (∀ (l : List Stmt) (b : Nat),(fZ b l).length = cD l) ∧ (∀ n : Nat,n * 1 = n) ∧ (∀ n : Nat,0 + n = n) ∧ (∀ n : Nat,n + 0 = n) :=
 ⟨fun _ _ => List.length_append,fun _ _ => rfl,rfl,fun _ _ _ => List.length_set,fun _ _ => List.length_take,fun _ _ => List.length_map _,fun _ _ => List.length_replicate,bO,Nat.mul_one,Nat.zero_add,Nat.add_zero⟩
theorem bT {α:Type}{p q r:α → Prop}(x:α) (h3:r x) (h1:p x) (h2:q x):∃ x,p x ∧ q x ∧ r x := ⟨x,h1,h2,h3⟩
theorem Kp {G K:Prop}(k:K) (h:Hy K → G := by first|(intro k;(first|((with_reducible apply nP);(case hx => rfl);(case hH => rfl);(case hf => infer_instance);(case hg => infer_instance);(case hα => infer_instance);(case hk => omega);(case hc => rfl);(case hN => rfl)) | ((with_reducible apply CN);(case hx => rfl);(case hH => rfl);(case hf => infer_instance);(case hg => infer_instance);(case hα => infer_instance);(case hk => omega);(case hc => rfl);(case hN => rfl))  | ((with_reducible apply D7);(case hx => rfl);(case hd => rfl);(case hc => rfl);(case hN => rfl)) | ((with_reducible apply FO);(case hx => rfl);(case hd => rfl);(case hc => (first|exact (rfl:_ = [_]) | exact (rfl:_ = [_,_]) | exact (rfl:_ = [_,_,_]) | exact (rfl:_ = [_,_,_,_]) | exact (rfl:_ = [_,_,_,_,_]) | exact (rfl:_ = [_,_,_,_,_,_]) | exact (rfl:_ = [_,_,_,_,_,_,_]) | exact (rfl:_ = [_,_,_,_,_,_,_,_]) | rfl));(case hn => rfl);(case h0 => rfl);(case hN => rfl)) | ((with_reducible apply wL);(case hx => rfl);(case hl => first|assumption | omega | (simp only [jY,List.length_drop] <;> omega));(case h0 => rfl);(case hN => rfl)) | ((with_reducible apply w7);(case hx => rfl);(case hH => rfl);(case hl => first|assumption | omega | (simp only [jY] <;> omega) | rfl);(case h0 => rfl);(case hN => rfl)) | ((with_reducible apply vX);(case hx => rfl);(case hH => rfl);(case hl => first|assumption | omega | (simp only [jY] <;> omega) | rfl);(case h0 => rfl);(case hN => rfl)) | ((with_reducible apply Df);(case hx => rfl);(case hH => rfl);(case ho => first|exact Kg | exact Ks);(case hq => first|assumption | omega | (simp only [jY] <;> omega));(case hN => rfl)));exact k.pf) | fail):G := h ⟨k⟩
theorem Kq {G K:Prop}(k:K) (h:Hy K → G := by first|(intro k;(first|((with_reducible apply Cj);(case hj => rfl);(case hb => rfl);(case hN => rfl)) | ((with_reducible apply CI);(case hj => rfl);(case hb => rfl);(case hN => rfl);(case hw => first|rfl | assumption)) | ((with_reducible apply AN);(case hj => rfl);(case hb => rfl);(case hN => rfl);(case hw => first|rfl | assumption)) );exact k.pf) | fail):G := h ⟨k⟩
theorem Kt {G K:Prop}(k:K) (h:Hy K → G := by first|(intro k;(first|((with_reducible apply Hd);(case hx => rfl);(case hy => rfl);(case h => rfl);(case hN => rfl)) | ((with_reducible apply I1);(case hx => rfl);(case hy => rfl);(case hk => infer_instance);(case ha => infer_instance);(case hb => infer_instance);(case hN => rfl)) | ((with_reducible apply HK);(case hx => rfl);(case hy => rfl);(case hk => infer_instance);(case ha => infer_instance);(case hN => rfl)) | ((with_reducible apply Hl);(case hx => rfl);(case hy => rfl);(case hk => infer_instance);(case ha => infer_instance);(case hb => infer_instance);(case hN => rfl)) | ((with_reducible apply HP);(case hx => rfl);(case hy => rfl);(case hk => infer_instance);(case ha => infer_instance);(case hb => infer_instance);(case hN => rfl)) | ((with_reducible apply G2);(case hx => rfl);(case hy => rfl);(case hk => infer_instance);(case ha => infer_instance);(case h => omega);(case hN => rfl)) | ((with_reducible apply Jl);(case hx => rfl);(case hy => rfl);(case h => omega);(case hN => rfl)) | ((with_reducible apply Jj);(case hx => rfl);(case hy => rfl);(case h => omega);(case hN => rfl))  | ((with_reducible apply IK);(case hx => rfl);(case hy => rfl);(case h => rfl);(case hN => rfl)));exact k.pf) | fail):G := h ⟨k⟩
theorem Kl {G K:Prop}(k:K) (h:Hy K → G := by first|(intro k;(first|((with_reducible apply qR);(case hx => rfl);(case hi => rfl);(case hm => (first|assumption | omega));(case hml => (first|rfl|assumption|omega));(case hα => infer_instance);(case hf => infer_instance);(case hg => infer_instance);(case hN => rfl)) | ((with_reducible apply y7);(case hx => rfl);(case hi => rfl);(case hm => (first|assumption | omega));(case hN => rfl)) | ((with_reducible apply sW);(case hx => rfl);(case hi => rfl);(case hm => (first|assumption | omega | exact ⟨Int.emod_nonneg _ (by omega),Int.emod_lt_of_pos _ (by omega)⟩));(case hml => (first|rfl|assumption|omega));(case hα => infer_instance);(case hf => infer_instance);(case hg => infer_instance);(case hN => rfl)) | ((with_reducible apply Cv);(case hx => rfl);(case hi => rfl);(case hm => (first|assumption | omega | exact ⟨Int.emod_nonneg _ (by omega),Int.emod_lt_of_pos _ (by omega)⟩));(case hN => rfl)) | ((with_reducible apply yH);(case hx => rfl);(case hi => rfl);(case hm => first|omega | assumption);(case hp => rfl);(case hN => rfl)) | ((with_reducible apply AO);(case hx => rfl);(case hi => rfl);(case hm => first|omega | assumption);(case hN => rfl)));exact k.pf) | fail):G := h ⟨k⟩
theorem Ki {G K:Prop}(k:K) (h:Hy K → G := by first|(intro k;(first|((with_reducible apply I3);(case hx => rfl);(case hn => rfl);(case hN => rfl))  | ((with_reducible apply dU);(case hx => rfl);(case hy => rfl);(case hze => rfl);(case he0 => rfl);(case hH => rfl);(case hl => first|(rw [aI]; omega) | (rw [aI]; simp only [jY] <;> omega) | (simp [aI]; done) | decide | (simp;omega));(case hs' => first|rfl | exact IX (by (first|rfl | assumption | omega)));(case hbig => omega);(case hmx => omega);(case hcs => first|exact xZ (by (first|assumption | omega | (simp only [jY] <;> omega) | decide)) | exact qI (by (first|assumption | omega | (simp only [jY] <;> omega) | decide)) | exact Gg (by (first|assumption | omega | (simp only [jY] <;> omega) | decide)) | exact Fs (by (first|assumption | omega | (simp only [jY] <;> omega) | decide)) | exact FY (by (first|assumption | omega | (simp only [jY] <;> omega) | decide)) | exact G9 (by (first|assumption | omega | (simp only [jY] <;> omega) | decide)) | exact GI (by (first|assumption | omega | (simp only [jY] <;> omega) | decide))   | exact (rfl:_ = [_]) | exact (rfl:_ = [_,_]) | exact (rfl:_ = [_,_,_]) | exact (rfl:_ = [_,_,_,_]) | exact (rfl:_ = [_,_,_,_,_]) | exact (rfl:_ = [_,_,_,_,_,_]) | exact (rfl:_ = [_,_,_,_,_,_,_]) | exact (rfl:_ = [_,_,_,_,_,_,_,_]) | rfl);(case hM => rfl);(case hN => rfl)));exact k.pf) | fail):G := h ⟨k⟩
theorem Ko {G K:Prop}(k:K) (h:Hy K → G := by first|(intro k;(first|((with_reducible apply De);(case hl => rfl);(case hf => (first|exact (rfl:_ = some [_]) | exact (rfl:_ = some [_,_]) | exact (rfl:_ = some [_,_,_]) | exact (rfl:_ = some [_,_,_,_]) | exact (rfl:_ = some [_,_,_,_,_]) | exact (rfl:_ = some [_,_,_,_,_,_]) | exact (rfl:_ = some [_,_,_,_,_,_,_]) | exact (rfl:_ = some [_,_,_,_,_,_,_,_]) | rfl));(case hk => (first|exact (rfl:_ = [_]) | exact (rfl:_ = [_,_]) | exact (rfl:_ = [_,_,_]) | exact (rfl:_ = [_,_,_,_]) | exact (rfl:_ = [_,_,_,_,_]) | exact (rfl:_ = [_,_,_,_,_,_]) | exact (rfl:_ = [_,_,_,_,_,_,_]) | exact (rfl:_ = [_,_,_,_,_,_,_,_]) | rfl));(case hN => rfl)) | ((with_reducible apply c8);(case hl => rfl);(case hf => (first|exact (rfl:_ = some [_]) | exact (rfl:_ = some [_,_]) | exact (rfl:_ = some [_,_,_]) | exact (rfl:_ = some [_,_,_,_]) | exact (rfl:_ = some [_,_,_,_,_]) | exact (rfl:_ = some [_,_,_,_,_,_]) | exact (rfl:_ = some [_,_,_,_,_,_,_]) | exact (rfl:_ = some [_,_,_,_,_,_,_,_]) | rfl));(case hN => rfl)));exact k.pf) | fail):G := h ⟨k⟩
theorem Kj {G K:Prop}(k:K) (h:Hy K → G := by first|(intro k;(first|((with_reducible apply lT);(case hze => rfl);(case hsm => rfl);(case hl => rfl);(case hfl => (first|exact (rfl:_ = some [_]) | exact (rfl:_ = some [_,_]) | exact (rfl:_ = some [_,_,_]) | exact (rfl:_ = some [_,_,_,_]) | exact (rfl:_ = some [_,_,_,_,_]) | exact (rfl:_ = some [_,_,_,_,_,_]) | exact (rfl:_ = some [_,_,_,_,_,_,_]) | exact (rfl:_ = some [_,_,_,_,_,_,_,_]) | rfl));(case hM => rfl);(case hN => rfl)) | ((with_reducible apply lU);(case hx => rfl);(case hy => rfl);(case hze => rfl);(case hsm => omega);(case hmx => omega);(case hcs => first|exact IE | exact GS | exact Ff | exact Bv | rfl);(case hM => rfl);(case hN => rfl)));exact k.pf) | fail):G := h ⟨k⟩
theorem Kf {G K:Prop}(k:K) (h:Hy K → G := by first|(intro k;(first|((with_reducible apply cO);(case hx => rfl);(case hy => rfl);(case hc => rfl);(case hn => rfl);(case hH => rfl);(case hl => (first|decide|(rw [aI]; simp only [jY] <;> omega)|omega|(simp;done)|(simp;omega)));(case hcs => first     | exact AQ (by (first|assumption | omega | (simp only [jY] <;> omega) | decide)) | exact DA (by (first|assumption | omega | (simp only [jY] <;> omega) | decide)) | exact FT (by (first|assumption | omega | (simp only [jY] <;> omega) | decide)) | exact IF (by (first|assumption | omega | (simp only [jY] <;> omega) | decide)) | exact Bj (by (first|assumption | omega | (simp only [jY] <;> omega) | decide)) | exact EV (by (first|assumption | omega | (simp only [jY] <;> omega) | decide))  | exact Jf (by (first|assumption | omega | (simp only [jY] <;> omega) | decide)) | exact uP (by (first|assumption | omega | (simp only [jY] <;> omega) | decide))  | exact (rfl:_ = [_]) | exact (rfl:_ = [_,_]) | exact (rfl:_ = [_,_,_]) | exact (rfl:_ = [_,_,_,_]) | exact (rfl:_ = [_,_,_,_,_]) | exact (rfl:_ = [_,_,_,_,_,_]) | exact (rfl:_ = [_,_,_,_,_,_,_]) | exact (rfl:_ = [_,_,_,_,_,_,_,_]) | rfl)) | ((with_reducible apply wY);(case hx => rfl);(case hy => rfl);(case hH => rfl);(case hl => first|assumption | omega | (simp only [jY] <;> omega));(case hc => first|rfl | (rw [dT]; first|assumption | (simp only [jY] <;> omega)))));exact k.pf) | fail):G := h ⟨k⟩
theorem aO {G K:Prop}(k:K) (h:Hy K → G := by first|(intro k;(first|((with_reducible apply aH);first|((with_reducible apply Hf);(case hx => rfl);(case hN => rfl)) | ((with_reducible apply Gt);refine Kp ?_) | ((with_reducible apply uJ);(case hx => rfl);(case hp => rfl);(case hN => rfl)) | ((with_reducible apply JS);refine Kq ?_) | ((with_reducible apply IM);refine Kt ?_) | ((with_reducible apply sR);(case hx => rfl);(case hN => rfl)) | ((with_reducible apply Gz);first|((with_reducible apply F2);(case hc => rfl);(case hb => first|rfl | assumption);(case hx => rfl);(case hN => rfl)) | ((with_reducible apply Fx);(case hc => rfl);(case hb => first|rfl | assumption);(case hx => rfl);(case hN => rfl))) | ((with_reducible apply Jg);refine Kl ?_) | ((with_reducible apply JD);refine Ki ?_) | ((with_reducible apply I9);(case hf => kernel_rfl)) | ((with_reducible apply JY);first|((with_reducible apply zZ);(case hx => rfl);(case hi => rfl);(case hl => first|assumption | omega | (simp only [jY] <;> omega));(case hm => omega);(case hN => rfl))) | ((with_reducible apply Iz);refine Ko ?_) | ((with_reducible apply Jb);first|((with_reducible apply CC);(case hx => rfl);(case hf => infer_instance);(case hl => rfl);(case hh => rfl);(case hb => first|omega | (simp only [List.length_take,List.length_drop,Int.toNat_natCast]; omega));(case hN => rfl))) | ((with_reducible apply oO);(case hf => rfl);(case hc => rfl);(case hN => rfl)) | ((with_reducible apply IU);(case hx => rfl);(case hN => rfl)) | ((with_reducible apply Ii);(case hx => rfl);(case hp => rfl);(case hN => rfl)) | ((with_reducible apply I6);(case hx => rfl);(case hc => rfl);(case hM => rfl);(case hN => rfl)) | ((with_reducible apply FG);(case hM => rfl);(case hN => rfl)) | ((with_reducible apply AE);(case hx => rfl);(case hc => rfl);(case hN => rfl)) | refine Kj ?_ | refine Kf ?_));exact k.pf) | fail):G := h ⟨k⟩
theorem Ik {G K:Prop}(k:K) (h:Hy K → G := by first|(intro k;(first|((with_reducible apply Ei);first|with_reducible apply IH | with_reducible apply C7 | ((with_reducible apply Fm);(case hc => rfl);(case hb => first|rfl | assumption)) | ((with_reducible apply FL);(case hc => rfl);(case hb => first|rfl | assumption)) | with_reducible apply D5 | with_reducible apply G6 | with_reducible apply HU | with_reducible apply Ig ) | with_reducible apply C9 | with_reducible apply IZ | with_reducible apply GD | with_reducible apply Ct | with_reducible apply ID | with_reducible apply Gl | ((with_reducible apply bq_out);(case hij => decide)));exact k.pf) | fail):G := h ⟨k⟩
theorem aV {G c1 q1 c2 q2 K1 K2:Prop}(k1:c1 → q1 → K1) (k2:c2 → q2 → K2) (h:Hy (c1 → q1 → K1) → Hy (c2 → q2 → K2) → G := by first|(intro k1 k2;(with_reducible apply Ei);(with_reducible apply uF);(case hc => rfl);(intro hc;have hq := hc;(try simp only [J5] at hq);first|exact k1.pf hc hq | exact k1.pf hc trivial);(intro hc;have hq := hc;(try simp only [J5] at hq);first|exact k2.pf hc hq | exact k2.pf hc trivial)) | fail):G := h ⟨k1⟩ ⟨k2⟩
theorem dB {G c1 q1 c2 q2 K1 K2:Prop}(k1:c1 → q1 → K1) (k2:c2 → q2 → K2) (h:Hy (c1 → q1 → K1) → Hy (c2 → q2 → K2) → G := by first|(intro k1 k2;(with_reducible apply aH);(with_reducible apply JS);(with_reducible apply Cp);(case hj => rfl);(case hb => rfl);(case hN => rfl);(intro hc;have hq := hc;(try simp only [J5] at hq);first|exact k1.pf hc hq | exact k1.pf hc trivial);(intro hc;have hq := hc;(try simp only [J5] at hq);first|exact k2.pf hc hq | exact k2.pf hc trivial)) | fail):G := h ⟨k1⟩ ⟨k2⟩
theorem dH {G K:Prop}(k:K) (h:Hy K → G := by first|(intro k;(with_reducible apply Ei);(with_reducible apply HE);(case hm => kernel_rfl);exact k.pf) | fail):G := h ⟨k⟩
theorem dG {G K:Prop}(k:K) (h:Hy K → G := by first|(intro k;(with_reducible apply aP);(case hr => rfl);exact k.pf) | fail):G := h ⟨k⟩
theorem wT {ts:List (Nat × AV)}:mH [] ts = [] := rfl
theorem rW {k:Nat}{v:AV}{ks:List Nat}{ts kt:List (Nat × AV)}(h:lk ts k = some v) (h2:mH ks ts = kt):mH (k :: ks) ts = (k,v) :: kt:=by
 subst h2;simp [mH,h]
theorem yG {hs:List (Nat × Option (List AV))}:mV [] hs = [] := rfl
theorem sO {k:Nat}{v:List AV}{ks:List Nat}{hs kh:List (Nat × Option (List AV))}(h:aQ hs k = some v) (h2:mV ks hs = kh):mV (k :: ks) hs = (k,some v) :: kh:=by
 subst h2;simp [mV,h]
section
variable {P : Program} {N : Nat} {Q : Exit → AS → Prop} {σ : Type} {c : Code} {ts : List (Nat × AV)} {hs : List (Nat × Option (List AV))} {n : Nat} {z0 : Lo}
theorem aL (ks js:List Nat){kt:List (Nat × AV)}{kh:List (Nat × Option (List AV))}(ot:σ → List (Nat × AV)) (oh:σ → List (Nat × Option (List AV))) (p:σ → Prop) (μ:σ → Nat) (i0:σ) (h0:p i0)
  (round : ∀ i,p i → AW P N c (mT (fun s' => ∃ j,p j ∧ μ j < μ i ∧ Le s' ⟨ot j ++ kt,oh j ++ kh,n,z0⟩) Q) ⟨ot i ++ kt,oh i ++ kh,n,z0⟩)
  (hk : mH ks ts = kt := by repeat' (first|exact wT|(apply rW;rfl))) (hj : mV js hs = kh := by repeat' (first|exact yG|(apply sO;rfl)))
  (h1 : lW ts (ot i0) := by repeat' (first|exact trivial|refine And.intro rfl ?_)) (h2 : kA hs (oh i0) := by repeat' (first|exact trivial|refine And.intro (.inr rfl) ?_)) : AW P N (.loop c) Q ⟨ts,hs,n,z0⟩ :=
 DV ks kt js kh ot oh p μ i0 h0 hk hj h1 h2 round
theorem dR (Rf:σ → List (List Bool)) (ks js:List Nat){kt:List (Nat × AV)}{kh:List (Nat × Option (List AV))}(ot:σ → List (Nat × AV)) (oh:σ → List (Nat × Option (List AV))) (p:σ → Prop) (μ:σ → Nat) (i0:σ) (h0:p i0)
  (round : ∀ i,p i → AW P N c (mT (fun s' => ∃ j,p j ∧ μ j < μ i ∧ Le s' ⟨ot j ++ kt,(oh j ++ kh) ++ fK (Rf j),n,⟨0,aY + (Rf j).length⟩⟩) Q) ⟨ot i ++ kt,(oh i ++ kh) ++ fK (Rf i),n,⟨0,aY + (Rf i).length⟩⟩)
  (hk : mH ks ts = kt := by repeat' (first|exact wT|(apply rW;rfl))) (hj : mV js hs = kh := by repeat' (first|exact yG|(apply sO;rfl)))
  (h1 : lW ts (ot i0) := by repeat' (first|exact trivial|refine And.intro rfl ?_)) (h2 : kA hs (oh i0) := by repeat' (first|exact trivial|refine And.intro (.inr rfl) ?_))
  (hF : FamR (Rf i0) (Rf i0) hs hs := by repeat' (first|exact FamR.here|exact FamR.nil|(apply FamR.cons;focus rfl))) (hz : z0 = ⟨0,aY + (Rf i0).length⟩ := by first|rfl|(simp only [eS])) : AW P N (.loop c) Q ⟨ts,hs,n,z0⟩ :=
 yO 0 Rf ks kt js kh ot oh p μ i0 h0 hk hj h1 h2 hF hz round
end
theorem Le.renA (m:List (Nat × Nat)){ts ts':List (Nat × AV)}{hs hs':List (Nat × Option (List AV))}{n n':Nat}{lo:Lo}(hm:Fi lo.lo n' m = true := by rfl) (hn:lo.lo ≤ n' := by decide)
  (h1 : FR m lo ts ts' := by repeat' (first|exact trivial|refine And.intro ⟨_,rfl,?_⟩ ?_|refine And.intro ⟨_,_,rfl,rfl,?_⟩ ?_|exact Or.inr rfl|refine Or.inl ⟨?_,(by first|rfl|exact bD _ _|exact Pur.pf|exact PurV.pf)⟩|refine Or.inr (All2.cons ?_ ?_)|refine All2.cons ?_ ?_|exact All2.nil|rfl))
  (h2 : zY m lo hs hs' := by repeat' (first|exact trivial|refine And.intro ⟨_,rfl,?_⟩ ?_|refine And.intro ⟨_,_,rfl,rfl,?_⟩ ?_|exact Or.inr rfl|refine Or.inl ⟨?_,(by first|rfl|exact bD _ _|exact Pur.pf|exact PurV.pf)⟩|refine Or.inr (All2.cons ?_ ?_)|refine All2.cons ?_ ?_|exact All2.nil|rfl)) : Le ⟨ts,hs,n,lo⟩ ⟨ts',hs',n',lo⟩ :=
 Le.ren m hm hn h1 h2
section
variable {P : Program} {k : FuncId} {fn : Func} {c : Code} {args : List AV} {N : Nat}
theorem aD {Q:AV → Prop}(hf:P.funcs[k]? = some fn) (hn:fn.ntmps = N) (h:AW P N c (mZ P fn.results (fun r _ => Q r ∧ r.pur = true)) ⟨dJ 0 args,[],0,⟨0,aY⟩⟩) (hb:fn.body = some c := by rfl)
  (hN : args.length ≤ N := by simp) : PC P k args Q := by subst hn;exact E8 hf hb hN h
theorem cR {σ:Type}{H0:List (Nat × Option (List AV))}{n:Nat}{p:σ → Prop}{rr:σ → AV}{hh:σ → List (Nat × Option (List AV))}(hf:P.funcs[k]? = some fn) (hn:fn.ntmps = N)
  (h : AW P N c (mZ P fn.results (fun r H' => ∃ x,p x ∧ r = rr x ∧ ∀ id cs,aQ (hh x) id = some cs → H' id = some cs)) ⟨dJ 0 args,H0,n,⟨n,aY⟩⟩) (hb : fn.body = some c := by rfl)
  (hN : args.length ≤ N := by simp) : MC P k args H0 n p rr hh := by subst hn;exact E4 hf hb hN h
theorem v8 {R0:List (List Bool)}{r:AV}{hh:List (Nat × Option (List AV))}(hf:P.funcs[k]? = some fn) (hn:fn.ntmps = N)
  (h : AW P N c (mZ P fn.results (fun r' H' => r' = r ∧ ∀ id cs,aQ (hh ++ fK R0) id = some cs → H' id = some cs)) ⟨dJ 0 args,fK R0,0,⟨0,aY + R0.length⟩⟩) (hb : fn.body = some c := by rfl)
  (hN : args.length ≤ N := by simp) : Jy P k args R0 r hh := by subst hn;exact D3 hf hb hN h
theorem Ex {R1:List (List Bool)}{r:AV}(hf:P.funcs[k]? = some fn) (hn:fn.ntmps = N)
  (h : AW P N c (mZ P fn.results (fun r' H' => r' = r ∧ ∀ id cs,aQ (fK R1) id = some cs → H' id = some cs)) ⟨dJ 0 args,[],0,⟨0,aY⟩⟩) (hb : fn.body = some c := by rfl)
  (hN : args.length ≤ N := by simp) : Kb P k args r R1 := by subst hn;exact DY hf hb hN h
end
theorem sE {p:Prop}{α:Type}{a c:Option α}{b:α}(h:some b = c) (e:a = some b := by rfl):p ∨ a = c := .inr (e.trans h)
section
variable {P : Program} {N : Nat} {Q : Exit → AS → Prop} {all : Array Oper} {rest : List Oper} {ts : List (Nat × AV)} {hs : List (Nat × Option (List AV))} {n : Nat} {z0 : Lo} {md : Md}
variable {ty : TypeId} {pos : String} {af : Array Edge}
theorem cF {d:Nat}{k:FuncId}{l:List Operand}{tys:Array TypeId}{avs avs0:List AV}{H0:List (Nat × Option (List AV))}{rr rr':AV}{hh:List (Nat × Option (List AV))}
  (mp : List Nat) (n1 : Nat) (ws : List (Nat × Option (List AV))) (h : MC P k avs0 H0 mp.length (fun _ : Unit => True) (fun _ => rr) (fun _ => hh)) [hc : CaT P k] (ha : evL (lk ts) l = some avs) (hd : distinct mp = true)
  (hM : Nat.ble (n + (n1 - mp.length)) aY = true) (hN : Nat.blt d N = true)
  {md' : Md} [hmd : MdA md (jH l ++ mp.map .inr) (ws.map (fun p => .inr p.1) ++ [.inl d]) md']
  (kk : RW P N all Q md' rest ⟨(d,rr') :: ts,mI hs ws,n + (n1 - mp.length),z0⟩)
  (hH0 : rU hs H0 mp 0 mp := by repeat' (first|exact trivial|(refine And.intro ⟨_,_,rfl,by assumption,?_⟩ ?_)|exact RnL.purI inferInstance|exact uO rfl|exact RnV.purI inferInstance|exact RnV.own rfl|exact RnV.optr rfl|exact RnL.nil|refine RnL.cons ?_ ?_|refine RnV.agg ?_|refine RnV.tup ?_))
  (hk : gC mp.length H0 = true := by rfl)
  (har : RnL (mp[·]?) avs0 avs := by repeat' (first|exact RnL.purI inferInstance|exact uO rfl|exact RnV.purI inferInstance|exact RnV.own rfl|exact RnV.optr rfl|exact RnL.nil|refine RnL.cons ?_ ?_|refine RnV.agg ?_|refine RnV.tup ?_))
  (hr : RnV (yQ mp n n1) rr rr' := by repeat' (first|exact RnL.purI inferInstance|exact uO rfl|exact RnV.purI inferInstance|exact RnV.own rfl|exact RnV.optr rfl|exact RnL.nil|refine RnL.cons ?_ ?_|refine RnV.agg ?_|refine RnV.tup ?_))
  (hwa : xE mp ws = true := by simp [xE])
  (hw : qG (yQ mp n n1) hh ws := by repeat' (first|exact trivial|(refine And.intro ⟨0,_,rfl,rfl,?_⟩ ?_)|(refine And.intro ⟨1,_,rfl,rfl,?_⟩ ?_)|(refine And.intro ⟨2,_,rfl,rfl,?_⟩ ?_)|(refine And.intro ⟨3,_,rfl,rfl,?_⟩ ?_)|(refine And.intro ⟨4,_,rfl,rfl,?_⟩ ?_)|(refine And.intro ⟨5,_,rfl,rfl,?_⟩ ?_)|(refine And.intro ⟨6,_,rfl,rfl,?_⟩ ?_)|exact RnL.purI inferInstance|exact uO rfl|exact RnV.purI inferInstance|exact RnV.own rfl|exact RnV.optr rfl|exact RnL.nil|refine RnL.cons ?_ ?_|refine RnV.agg ?_|refine RnV.tup ?_)) :
  RW P N all Q md (⟨some d,.call ⟨.value (.func k),l.toArray,tys⟩,ty,pos,af,none⟩ :: rest) ⟨ts,hs,n,z0⟩ :=
 C8 mp n1 ws h (avs := avs) ha hd hH0 hk har hM hr hwa hw hN (md' := md') (hmd := hmd) kk
end
theorem aB {G K:Prop}(k:K) (h:Hy K → G := by first|(intro k;(first|refine aO ?_ | refine Ik ?_);exact k.pf) | fail):G := h ⟨k⟩
end Go.AL
namespace Go.AL
structure IsOk (nt np : Nat) (x : Iss) : Prop where
 p0 : 0 ≤ x.point
 p1 : x.point < np
 k : (x.kind = 1 ∧ 0 ≤ x.with_ ∧ x.with_ < nt) ∨ ((x.kind = 2 ∨ x.kind = 3) ∧ 0 ≤ x.with_ ∧ x.with_ < np)
theorem H4 {ts:List Int}{pts:List Pnt}{Aa:List Nat}{cf:List Bool}{i:Nat}(hi:i < pts.length):∀ x ∈ H8 ts pts Aa cf i,IsOk ts.length pts.length x ∧ x.point = i:=by
 intro x hx
 unfold H8 at hx
 rcases List.mem_append.1 hx with h|h
 ·obtain ⟨v, hv, rfl⟩ := List.mem_map.1 h
  have hv2 := List.mem_range.1 (List.mem_filter.1 hv).1
  exact ⟨⟨by dsimp only;omega,by dsimp only;omega,.inl ⟨rfl,by dsimp only;omega,by dsimp only;omega⟩⟩,rfl⟩
 ·obtain ⟨v, hv, rfl⟩ := List.mem_map.1 h
  have hv2 := List.mem_range.1 (List.mem_filter.1 hv).1
  refine ⟨⟨by dsimp only;omega,by dsimp only;omega,.inr ⟨?_,by dsimp only;omega,by dsimp only;omega⟩⟩,rfl⟩
  show F3 pts v = 2 ∨ F3 pts v = 3
  unfold F3;split <;> simp
theorem BA {ts:List Int}{pts:List Pnt}(w:WG ts pts) (f:Flows ts pts):∀ n,n ≤ pts.length →
  (∀ x ∈ m8 ts pts f.Aa f.Am f.Al f.Af f.Ap n,IsOk ts.length pts.length x ∧ x.point < n) ∧ (m8 ts pts f.Aa f.Am f.Al f.Af f.Ap n).Pairwise (fun a b => a.point ≤ b.point)
 | 0, _ => by
  have : m8 ts pts f.Aa f.Am f.Al f.Af f.Ap 0 = [] := rfl
  rw [this]
  exact ⟨fun x h => by simp at h,List.Pairwise.nil⟩
 | n + 1, h => by
  obtain ⟨h1,h2⟩ := BA w f n (by omega)
  have h3 := H4 (ts := ts) (pts := pts) (Aa := f.Aa) (cf := F8 ts pts f.Am f.Al f.Af f.Ap n) (i := n) (by omega)
  rw [Ad w f (by omega)] at h3
  rw [k4]
  refine ⟨fun x hx => ?_,List.pairwise_append.2 ⟨h2,?_,fun a ha b hb => ?_⟩⟩
  ·rcases List.mem_append.1 hx with hx | hx
   ·exact ⟨(h1 x hx).1,by have := (h1 x hx).2;omega⟩
   ·exact ⟨(h3 x hx).1,by have := (h3 x hx).2;omega⟩
  ·refine List.pairwise_iff_getElem.2 fun i j hi hj _ => ?_
   have a1 := (h3 _ (List.getElem_mem hi)).2
   have a2 := (h3 _ (List.getElem_mem hj)).2
   omega
  ·have a1 := (h1 a ha).2
   have a2 := (h3 b hb).2
   omega
theorem Jk {ts:List Int}{pts:List Pnt}(w:WG ts pts) (f:Flows ts pts):(∀ k,k < f.iss.length → IsOk ts.length pts.length f.iss[k]!) ∧ (∀ k,k + 1 < f.iss.length → f.iss[k]!.point ≤ f.iss[k + 1]!.point):=by
 obtain ⟨h1,h2⟩ := BA w f pts.length (Nat.le_refl _)
 refine ⟨fun k hk => (h1 _ (bU _ k hk)).1,fun k hk => ?_⟩
 rw [bG _ _ hk,bG _ k (by omega)]
 exact List.pairwise_iff_getElem.1 h2 k (k + 1) (Nat.lt_of_succ_lt hk) hk (Nat.lt_succ_self k)
theorem Hm (ts:List Int) (pts:List Pnt) (Aa:List Nat) (cf:List Bool) (i:Nat):(H8 ts pts Aa cf i).length ≤ ts.length + pts.length:=by
 unfold H8
 rw [List.length_append,List.length_map,List.length_map]
 have h1 := List.length_filter_le (BV ts pts Aa i) (List.range ts.length)
 have h2 := List.length_filter_le (fun (l : Nat) => cf[l]!) (List.range pts.length)
 rw [List.length_range] at h1 h2
 omega
theorem Bg {ts:List Int}{pts:List Pnt}(w:WG ts pts) (f:Flows ts pts):∀ n,n ≤ pts.length → (m8 ts pts f.Aa f.Am f.Al f.Af f.Ap n).length ≤ n * (ts.length + pts.length)
 | 0,_ => by simp [m8]
 | n + 1, h => by
  have h1 := Bg w f n (by omega)
  have h2 := Hm ts pts f.Aa (F8 ts pts f.Am f.Al f.Af f.Ap n) n
  rw [Ad w f (by omega)] at h2
  rw [k4,List.length_append,Nat.succ_mul]
  omega
theorem DZ {ts:List Int}{pts:List Pnt}(w:WG ts pts) (f:Flows ts pts):f.iss.length ≤ 100000:=by
 have h := Bg w f pts.length (Nat.le_refl _)
 have h1 := w.tl
 have h2 := w.pl
 have h3 : pts.length * (ts.length + pts.length) ≤ 61 * 67 := Nat.mul_le_mul (by omega) (by omega)
 exact Nat.le_trans h (Nat.le_trans h3 (by decide))
end Go.AL
namespace Go.AL
theorem jT {A n:Nat}(hv:∀ v,A.testBit v = true → v < n):A < 2 ^ n := Nat.lt_pow_two_of_testBit _ fun v h => by
 cases hq : Nat.testBit _ v with
 | false => rfl
 | true => have := hv v hq;omega
theorem lF {A n:Nat}(hn:n ≤ 62) (hv:A < 2 ^ n):Sm A := ⟨Nat.lt_of_lt_of_le hv (Nat.pow_le_pow_right (by decide) hn)⟩
structure FB (ts : List Int) (pts : List Pnt) (f : Flows ts pts) : Prop where
 la : f.Aa.length = pts.length
 lm : f.Am.length = pts.length
 ln : f.An.length = pts.length
 ll : f.Al.length = pts.length
 lp : f.Ap.length = pts.length
 bA : ∀ i : Nat,f.Aa[i]! < 2 ^ ts.length
 bM : ∀ i : Nat,f.Am[i]! < 2 ^ ts.length
 bN : ∀ i : Nat,f.An[i]! < 2 ^ ts.length
 bL : ∀ i : Nat,f.Al[i]! < 2 ^ ts.length
 bP : ∀ i : Nat,f.Ap[i]! < 2 ^ pts.length
 sA : ∀ i : Nat,Sm f.Aa[i]!
 sM : ∀ i : Nat,Sm f.Am[i]!
 sN : ∀ i : Nat,Sm f.An[i]!
 sL : ∀ i : Nat,Sm f.Al[i]!
 sP : ∀ i : Nat,Sm f.Ap[i]!
 rl : ∀ i,i < pts.length → (dW f.Af i).length = 6
 rs : ∀ i,i < pts.length → ∀ z : Nat,Sm (dW f.Af i)[z]!
 af : ∀ i,i < pts.length → GU pts f.An i = f.Al[i]!
 kp : ∀ i,i < pts.length → vL ts pts[i]! f.Al[i]! (dW f.Af i) < 2 ^ pts.length
 lo : ∀ i,i < pts.length → vL ts pts[i]! f.Al[i]! (dW f.Af i) &&& f.Ap[i]! < 2 ^ pts.length
 cf : ∀ i,i < pts.length → Ej ts pts f.Am f.Al f.Af f.Ap i < 2 ^ pts.length
theorem Flows.bnd {ts:List Int}{pts:List Pnt}(f:Flows ts pts) (w:WG ts pts):FB ts pts f:=by
 have hpl := w.pl
 have htl := w.tl
 have off : ∀ {A : List Nat} {n : Nat} {i : Nat}, A.length = pts.length → ¬ i < pts.length → A[i]! < 2 ^ n := fun {A n i} h hi => by
  rw [getElem!_neg A i (by omega)]; exact Nat.pow_pos (by decide)
 have bA : ∀ i : Nat, f.Aa[i]! < 2 ^ ts.length := fun i => by
  by_cases hi : i < pts.length
  ·exact jT fun v hv => ((f.ga.2 i hi v).1 hv).1
  ·exact off f.ga.1 hi
 have bM : ∀ i : Nat, f.Am[i]! < 2 ^ ts.length := fun i => by
  by_cases hi : i < pts.length
  ·exact jT fun v hv => FQ w ((f.gm.2 i hi v).1 hv)
  ·exact off f.gm.1 hi
 have bN : ∀ i : Nat, f.An[i]! < 2 ^ ts.length := fun i => by
  by_cases hi : i < pts.length
  ·exact jT fun v hv => rF w ((f.gn.2 i hi v).1 hv)
  ·exact off f.gn.1 hi
 have bL : ∀ i : Nat, f.Al[i]! < 2 ^ ts.length := fun i => by
  by_cases hi : i < pts.length
  ·exact jT fun v hv => by obtain ⟨k,_,h⟩ := (f.gl.2 i hi v).1 hv;exact rF w h
  ·exact off f.gl.1 hi
 have bP : ∀ i : Nat, f.Ap[i]! < 2 ^ pts.length := fun i => by
  by_cases hi : i < pts.length
  ·exact jT fun v hv => (qF ((f.gp.2 i hi v).1 hv)).1
  ·exact off f.gp.1 hi
 have rs : ∀ i, i < pts.length → ∀ z : Nat, (dW f.Af i)[z]! < 2 ^ pts.length := fun i hi z => by
  by_cases hz : z < 6
  ·rw [fO f.gf.1 hi hz]
   exact jT fun v hv => (Bl w ((f.gf.2 i z hi hz v).1 hv)).2.2
  ·rw [getElem!_neg _ z (by rw [fA f.gf.1 hi]; exact hz)]; exact Nat.pow_pos (by decide)
 have kp : ∀ i, i < pts.length → vL ts pts[i]! f.Al[i]! (dW f.Af i) < 2 ^ pts.length := fun i hi => jT fun v hv => by
  unfold vL at hv
  rw [iM] at hv
  rcases hv with hv | ⟨z,hz,hv⟩
  ·simp at hv
  ·exact cK (rs i hi _) hv
 have lo : ∀ i,i < pts.length → vL ts pts[i]! f.Al[i]! (dW f.Af i) &&& f.Ap[i]! < 2 ^ pts.length := fun i hi => Nat.and_lt_two_pow _ (bP i)
 refine ⟨f.ga.1, f.gm.1, f.gn.1, f.gl.1, f.gp.1, bA, bM, bN, bL, bP, fun i => lF (by omega) (bA i), fun i => lF (by omega) (bM i), fun i => lF (by omega) (bN i), fun i => lF (by omega) (bL i), fun i => lF (by omega) (bP i),
  fun i hi => fA f.gf.1 hi,fun i hi z => lF (by omega) (rs i hi z),fun i hi => ?_,kp,lo,fun i hi => zP w (bP i)⟩
 rw [rY f.gl (xX w f.gn),bH _ _ _ hi]
end Go.AL
namespace Go.AL
open Go.RowKit
section
variable {P : Program} {C : Ctx} {ι : Pl} {F : Nat → Prop} {T : Nat → Option AV} {H : Nat → Option (List AV)} {a : Act} {w : World} {o : Oper}
theorem pK (z:Array Value):∀ n,(Builtin.zeroCells z n).toList = (List.replicate n z.toList).flatten := fun n => by
 have := nS z n (n * z.size) rfl
 simpa [Builtin.zeroCells,madeCells] using this
end
theorem Le.cut {ts:List (Nat × AV)}{hs:List (Nat × Option (List AV))}{n:Nat}{z0:Lo}{i:Nat}{cs:List AV}(k:Nat) (hi:aQ hs i = some cs) :
  Le ⟨ts,hs,n,z0⟩ ⟨ts,(i,some (cs.take k)) :: hs,n,z0⟩ := by
 rintro C a w ⟨h0,ι,g,gh⟩
 have hσ : ∀ id c, aQ ((i, some (cs.take k)) :: hs) id = some c → ∃ c0, aQ hs id = some c0 ∧ (c = c0 ∨ c = c0.take k) := by
  intro id c h
  rw [cA] at h
  split at h
  ·rename_i e;subst e;cases h;exact ⟨cs,hi,.inr rfl⟩
  ·exact ⟨c,h,.inl rfl⟩
 have car : Carry w (aC C.X ι (aQ hs)) ι w (aC C.X ι (aQ ((i, some (cs.take k)) :: hs))) ι := by
  refine ⟨fun b o' x h1 h2 => ⟨?_,h2⟩,fun _ _ h => h,fun _ => Nat.le_refl _⟩
  rintro (h | ⟨id,c,β,q1,q2⟩)
  ·exact h1 (.inl h)
  ·obtain ⟨c0, r, _⟩ := hσ id c q1
   exact h1 (.inr ⟨id,c0,β,r,q2⟩)
 refine ⟨h0,ι,⟨g.df,g.sz,fun t av ht => ?_⟩,⟨fun id c h => ?_,fun id id' c c' b β β' q1 q2 q3 q4 => ?_,gh.fr,gh.ex,gh.fresh⟩⟩
 ·obtain ⟨y, hy, hr⟩ := g.tm t av ht
  exact ⟨y,hy,Rd.carry car _ _ hr⟩
 ·obtain ⟨c0, r, e⟩ := hσ id c h
  rcases gh.obj id c0 r with ⟨h1,h2⟩ | ⟨b',β',arr',e',h1,h2,h3,h4,h5,h6⟩
  ·refine .inl ⟨h1, ?_⟩
   rcases e with e|e
   ·rw [e,h2]
   ·rw [e,h2]; simp
  ·refine .inr ⟨b', β', arr', e', h1, h2, ?_, ?_, h5, h6⟩
   ·rcases e with e | e
    ·rw [e]; exact h3
    ·rw [e,List.length_take]; omega
   ·have h7 := RdC.carryB car _ _ _ (fun o x hx => hx) h4
    rcases e with e|e
    ·rw [e]; exact h7
    ·rw [e]; exact RdC.take k h7
 ·obtain ⟨_, r1, _⟩ := hσ id c q1
  obtain ⟨_,r2,_⟩ := hσ id' c' q2
  exact gh.sep _ _ _ _ _ _ _ r1 r2 q3 q4
theorem IC {hs:List (Nat × Option (List AV))}{id m e':Nat}{u:List Int}(h:aQ hs id = some (flat cI u)) (hm:m = u.length):sCells (aQ hs) 1 (nJ (.own id 0 m e')) = some (m,flat cI u):=by
 subst hm
 have hl : (flat cI u).length = u.length * 1 := aI cI u
 show ((aQ hs id).bind fun cs => if u.length * 1 ≤ (cs.drop 0).length then some (u.length,(cs.drop 0).take (u.length * 1)) else none) = _
 rw [h]
 show (if u.length * 1 ≤ ((flat cI u).drop 0).length then some (u.length,((flat cI u).drop 0).take (u.length * 1)) else none) = _
 rw [List.drop_zero,if_pos (by omega),List.take_of_length_le (by omega)]
end Go.AL
namespace Go.AL
open Go.RowKit
section
variable {P : Program} {C : Ctx} {ι : Pl} {T : Nat → Option AV} {F : Nat → Prop} {H : Nat → Option (List AV)} {a : Act} {w : World} {o : Oper}
theorem oE (g:TG C ι T H a w){lo hi:Option Operand}{mx:Operand}{n cap l h m:Nat}(hl:dZ T lo 0 = some l) (hh:dZ T hi n = some h) (hm:dZ T (some mx) n = some m) (his:hi.isSome = true) (hlh:l ≤ h) (hn:h ≤ m) (hc:m ≤ cap) :
  (Instr.sliceBounds true n cap (lo.map a.eval) (hi.map a.eval) (some (a.eval mx))).run P w = .ok (l,h,m) w := by
 have hl2 : (l : Int) ≤ (h : Int) := by omega
 have hm2 : (m : Int) ≤ (cap : Int) := by omega
 have hh2 : (h : Int) ≤ (m : Int) := by omega
 obtain ⟨x3, k3, e3, hx3⟩ : ∃ x k, some mx = some x ∧ a.eval x = .int k (m : Int) := by
  rcases lX g hm with ⟨e,_⟩|h
  ·cases e
  ·exact h
 cases e3
 rcases lX g hl with ⟨rfl,rfl⟩ | ⟨x,k,rfl,hx⟩ <;> rcases lX g hh with ⟨rfl,rfl⟩ | ⟨y,k',rfl,hy⟩ <;> first|(cases his;done)|simp [Instr.sliceBounds,Instr.sliceBound,asIntOf, *]
theorem xH (g:TG C ι T H a w){lo hi:Option Operand}{n cap l h:Nat}(hl:dZ T lo 0 = some l) (hh:dZ T hi n = some h) (hlh:l ≤ h) (hn:h ≤ cap) (hc:n ≤ cap) :
  (Instr.sliceBounds true n cap (lo.map a.eval) (hi.map a.eval) none).run P w = .ok (l,h,cap) w := by
 have hc2 : (h : Int) ≤ (cap : Int) := by omega
 have hl2 : (l : Int) ≤ (h : Int) := by omega
 rcases lX g hl with ⟨rfl, rfl⟩ | ⟨x, k, rfl, hx⟩ <;> rcases lX g hh with ⟨rfl, rfl⟩ | ⟨y, k', rfl, hy⟩ <;>
  simp [Instr.sliceBounds,Instr.sliceBound,asIntOf, *]
theorem BW (g:TG C ι T H a w){t el:TypeId}{x mx:Operand}{lo hi:Option Operand}{id off n e l h m:Nat}(ho:o.op = .slice t x lo hi (some mx)) (hx:ev T x = some (.own id off n e))
  (ht : iS P t = some el) (he : eI P el = some e) (his : hi.isSome = true) (hl : dZ T lo 0 = some l) (hh : dZ T hi n = some h) (hm : dZ T (some mx) n = some m) (hc : l ≤ h ∧ h ≤ m ∧ m ≤ n) : Pu P C ι H a w o (.own id (off + l * e) (h - l) e) := by
 have h1 := b0 g hx
 have hu := fN ht
 simp only [Rd] at h1
 rcases h1 with ⟨⟨p,h1⟩,rfl,a',h3⟩ | ⟨b,β,c,h1,h3,h4,h5⟩
 ·have hr := oE (P := P) (w := w) (cap := 0) g hl hh hm his hc.1 hc.2.1 hc.2.2
  have e1 : m = 0 := by omega
  have e2 : h = 0 := by omega
  have e3 : l = 0 := by omega
  subst e1 e2 e3
  refine ⟨.slice a' 0 0,?_,?_⟩
  ·simp [execOp,ho,h3,Instr.sliceAt,bX hu,Instr.slice,hr,dD he]
  ·simp only [Rd]; exact .inl ⟨⟨p,h1⟩,by simp,a',rfl⟩
 ·have hr := oE (P := P) (w := w) (cap := c) g hl hh hm his hc.1 hc.2.1 (by omega)
  by_cases h0 : m = l
  ·have e1 : h = l := by omega
   subst e1 h0
   refine ⟨.slice (some ⟨b,β + off,none⟩) 0 0,?_,?_⟩
   ·simp [execOp,ho,h3,Instr.sliceAt,bX hu,Instr.slice,hr,dD he]
   ·simp only [Rd]; exact .inl ⟨⟨_,h1⟩,by simp,some ⟨b,β + off,none⟩,by simp⟩
  ·refine ⟨.slice (some ⟨b, β + (off + l * e), none⟩) (h - l) (m - l), ?_, ?_⟩
   ·simp [execOp,ho,h3,Instr.sliceAt,bX hu,Instr.slice,hr,dD he,h0,Addr.add_lit,Nat.add_assoc]
   ·simp only [Rd]
    refine .inr ⟨b,β,m - l,h1,rfl,by omega,?_⟩
    rw [Nat.sub_mul]
    have q1 : l * e ≤ m * e := Nat.mul_le_mul_right _ (by omega)
    have q2 : m * e ≤ c * e := Nat.mul_le_mul_right _ (by omega)
    omega
theorem CS (g:TG C ι T H a w){t el:TypeId}{x:Operand}{hi:Option Operand}{id off n e h:Nat}(ho:o.op = .slice t x none hi none) (hx:ev T x = some (.own id off n e))
  (ht : iS P t = some el) (he : eI P el = some e) (hh : dZ T hi n = some h) (hc : h ≤ n) (h0 : 0 < n) : Pu P C ι H a w o (.ownc id off h n e) := by
 have h1 := b0 g hx
 have hu := fN ht
 simp only [Rd] at h1
 rcases h1 with ⟨_,rfl,_⟩ | ⟨b,β,c,h1,h3,h4,h5⟩
 ·omega
 ·have hr := gY (P := P) (w := w) (is := true) (cap := c) g (lo := none) rfl hh (Nat.zero_le _) hc h4
  refine ⟨.slice (some ⟨b,β + off,none⟩) h c,?_,?_⟩
  ·have hr' : (Instr.sliceBounds true n c none (hi.map a.eval) none).run P w = .ok (0, h, c) w := hr
   simp [execOp,ho,h3,Instr.sliceAt,bX hu,Instr.slice,hr',dD he,Addr.add_lit]
  ·simp only [Rd]; exact ⟨b,β,c,h1,rfl,hc,h4,h5⟩
theorem Ar (g:TG C ι T H a w){t el:TypeId}{x:Operand}{lo hi:Option Operand}{id off n k e l h:Nat}(ho:o.op = .slice t x lo hi none) (hx:ev T x = some (.ownc id off n k e))
  (ht : iS P t = some el) (he : eI P el = some e) (hl : dZ T lo 0 = some l) (hh : dZ T hi n = some h) (hc : l < h ∧ h ≤ k) : Pu P C ι H a w o (.own id (off + l * e) (h - l) e) := by
 have h1 := b0 g hx
 have hu := fN ht
 simp only [Rd] at h1
 obtain ⟨b,β,c,h1,h3,h4,h4',h5⟩ := h1
 have hr := xH (P := P) (w := w) (cap := c) g hl hh (by omega) (by omega) (by omega)
 refine ⟨.slice (some ⟨b,β + (off + l * e),none⟩) (h - l) (c - l),?_,?_⟩
 ·simp [execOp,ho,h3,Instr.sliceAt,bX hu,Instr.slice,hr,dD he,show ¬ c = l from by omega,Addr.add_lit,Nat.add_assoc]
 ·simp only [Rd]
  refine .inr ⟨b,β,c - l,h1,rfl,by omega,?_⟩
  rw [Nat.sub_mul]
  have : l * e ≤ c * e := Nat.mul_le_mul_right _ (by omega)
  omega
theorem GG (g:TG C ι T H a w){t:TypeId}{x:Operand}{ts:Array TypeId}{el:TypeId}{id off n k e:Nat}(ho:o.op = .call ⟨.builtin .len,#[x],ts⟩) (hts:ts[0]? = some t) (hx:ev T x = some (.ownc id off n k e))
  (ht : iS P t = some el) : Pu P C ι H a w o (.v (.int .i64 n)) := by
 have h1 := b0 g hx
 have hu := fN ht
 simp only [Rd] at h1
 obtain ⟨b,β,c,h1,h3,h4,h4',h5⟩ := h1
 refine ⟨.int .i64 n,?_,by simp only [Rd]⟩
 simp [execOp,ho,resolve,invoke,builtin,Builtin.len_,hts,h3,bX hu,goInt]
theorem w4 (gh:HG C ι F H w){t el:TypeId}{x y:Operand}{id off n m k e:Nat}{av:AV}{cs new:List AV}{zs:List Value}
  (ho : o.op = .call ⟨.builtin .append,#[x,y],#[t,t]⟩) (hx : Rd w (aC C.X ι H) ι (.ownc id off n k e) (a.eval x)) (hy : Rd w (aC C.X ι H) ι av (a.eval y))
  (ht : iS P t = some el) (he : eI P el = some e) (hz : lY P el = some zs)
  (hH : H id = some cs) (hs : sCells H e (nJ av) = some (m,new)) (hk : n + m ≤ k) (hl : off + n * e + new.length ≤ cs.length) :
  Ef P C ι F H a w o (.ownc id off (n + m) k e) (dK H id (some (fG cs (off + n * e) new))) := by
 obtain ⟨i,z,h1,h2,h3,h4⟩ := l7 hz
 have hu := fN ht
 have hsz := pR he h1
 obtain ⟨ad,c2,l,hy2,hll,hrl,hcell,had⟩ := r8 gh (jR hy) hs
 simp only [Rd] at hx
 obtain ⟨b,β,c,p1,p2,p3,p4,p5⟩ := hx
 have hlenx : (Builtin.lenOf (a.eval y)).run P w = .ok m w := by rw [hy2]; rfl
 have hnew : (Builtin.firstCells i.size m (a.eval y)).run P w = .ok l.toArray w := by
  rw [hy2]
  rcases had with ⟨b,o',rfl⟩|h0
  ·rw [hsz]; exact mF hll (hcell b o' rfl) w (fun _ => rfl) m
  ·subst h0
   have : l = [] := List.eq_nil_of_length_eq_zero (by simpa using hll)
   subst this
   cases ad with
   | none => rfl
   | some ad => simp [Builtin.firstCells,loadCells,loadCellsFrom]
 obtain ⟨w',q1,q2,q3⟩ := pX (P := P) gh hH p1 hl hrl
 have hroom : n + m ≤ c := by omega
 have hst : (storeCells ⟨b,β + off + n * i.size,none⟩ l).run P w = .ok () w' := by rw [hsz,Nat.add_assoc]; exact q1
 have hr : (Builtin.append_ #[t, t] o.type #[a.eval x, a.eval y]).run P w = .ok (.slice (some ⟨b, β + off, none⟩) (n + m) c) w' := by
  rw [p2]
  simp [Builtin.append_,bX hu,sizeOf,typeInfo,h1,hlenx,hroom,hnew,Addr.add_lit,hst]
 refine ⟨_,.slice (some ⟨b,β + off,none⟩) (n + m) c,ι,w',?_,.inl ⟨rfl,?_⟩,q2,q3⟩
 ·simp [execOp,ho,resolve,invoke,builtin,hr]
 ·simp only [Rd]
  exact ⟨b,β,c,p1,rfl,hk,p4,Nat.le_trans p5 (q3.bs b)⟩
theorem yD {bad:Nat → Prop}{zs:List Value}(h:zs.all (·.oneCell') = true):∀ n,RdL w bad ι (List.replicate n (zs.map AV.v)).flatten (List.replicate n zs).flatten
 | 0 => by simp [RdL]
 | n + 1 => by
  rw [List.replicate_succ,List.replicate_succ,List.flatten_cons,List.flatten_cons]
  exact RdL.append (pN h) (yD h n)
theorem DD (gh:HG C ι F H w){t el:TypeId}{x:Operand}{id off n e:Nat}{cs:List AV}{zs:List Value}
  (ho : o.op = .call ⟨.builtin .clear,#[x],#[t]⟩) (hx : Rd w (aC C.X ι H) ι (.own id off n e) (a.eval x)) (hd : o.dst = none)
  (ht : iS P t = some el) (he : eI P el = some e) (hz : lY P el = some zs) (hze : zs.length = e)
  (hH : H id = some cs) (h0 : 0 < n) (hl : off + n * e ≤ cs.length) :
  Ef P C ι F H a w o (.tup []) (dK H id (some (fG cs off (List.replicate n (zs.map AV.v)).flatten))) := by
 obtain ⟨i,z,h1,h2,h3,h4⟩ := l7 hz
 have hu := fN ht
 have hsz := pR he h1
 simp only [Rd] at hx
 rcases hx with ⟨_,rfl,_⟩ | ⟨b,β,c,p1,p2,p3,p4⟩
 ·omega
 have hlen : ((List.replicate n (zs.map AV.v)).flatten).length = n * e := by
  rw [List.length_flatten]; simp [hze]
 obtain ⟨w',q1,q2,q3⟩ := pX (P := P) gh hH p1 (off := off) (new := (List.replicate n (zs.map AV.v)).flatten) (by rw [hlen]; exact hl) (yD h4 n)
 have hr : (Builtin.clear_ #[t] o.type #[a.eval x]).run P w = .ok (.tuple #[]) w' := by
  rw [p2]
  cases n with
  | zero => omega
  | succ n =>
   have hzc : (Builtin.zeroCells z.cells (n + 1)).toList = (List.replicate (n + 1) zs).flatten := by rw [pK,h3]
   simp [Builtin.clear_,bX hu,zeroValue,typeInfo,h1,h2,hzc,q1]
 refine ⟨.value (.tuple #[]),.tuple #[],ι,w',?_,.inl ⟨rfl,?_⟩,q2,q3⟩
 ·simp [execOp,ho,resolve,invoke,builtin,hr]
 ·simp only [Rd]; exact ⟨[],rfl,by simp [RdV]⟩
end
section
variable {P : Program} {N : Nat} {Q : Exit → AS → Prop} {all : Array Oper} {rest : List Oper} {ts : List (Nat × AV)} {hs : List (Nat × Option (List AV))} {n : Nat} {z0 : Lo} {md : Md}
variable {d : Nat} {ty : TypeId} {pos : String} {af : Array Edge}
theorem nY {t el e:TypeId}{x hi mx:Operand}{lo:Option Operand}{id off m l h k:Nat}[ht:SlT P t el] [he:SzT P el e] (hx:ev (lk ts) x = some (.own id off m e))
  (hl : dZ (lk ts) lo 0 = some l) (hh : dZ (lk ts) (some hi) m = some h) (hm : dZ (lk ts) (some mx) m = some k) (hc : l ≤ h ∧ h ≤ k ∧ k ≤ m) (hN : Nat.blt d N = true) {md' : Md} [hmd : MdA md (rO x ++ (rB lo ++ (rB (some hi) ++ rB (some mx)))) [.inl d] md']
  (kk : RW P N all Q md' rest ⟨(d,.own id (off + l * e) (h - l) e) :: ts,hs,n,z0⟩) : RW P N all Q md (⟨some d,.slice t x lo (some hi) (some mx),ty,pos,af,none⟩ :: rest) ⟨ts,hs,n,z0⟩ :=
 dS rfl rfl (dL hN) (fun C ι F T H a w ag g gh => BW g rfl (ag.l.ev.trans hx) ht.pf he.pf rfl (ag.r.l.bnd.trans hl) (ag.r.r.l.bnd.trans hh) (ag.r.r.r.bnd.trans hm) hc) (by rw [hmd.pf]; exact kk)
theorem nO {t el e:TypeId}{x:Operand}{hi:Option Operand}{id off m h:Nat}[ht:SlT P t el] [he:SzT P el e] (hx:ev (lk ts) x = some (.own id off m e))
  (hh : dZ (lk ts) hi m = some h) (hc : h ≤ m) (h0 : 0 < m) (hN : Nat.blt d N = true) {md' : Md} [hmd : MdA md (rO x ++ rB hi) [.inl d] md']
  (kk : RW P N all Q md' rest ⟨(d,.ownc id off h m e) :: ts,hs,n,z0⟩) : RW P N all Q md (⟨some d,.slice t x none hi none,ty,pos,af,none⟩ :: rest) ⟨ts,hs,n,z0⟩ :=
 dS rfl rfl (dL hN) (fun C ι F T H a w ag g gh => CS g rfl (ag.l.ev.trans hx) ht.pf he.pf (ag.r.bnd.trans hh) hc h0) (by rw [hmd.pf]; exact kk)
theorem mA {t el e:TypeId}{x:Operand}{lo hi:Option Operand}{id off m k l h:Nat}[ht:SlT P t el] [he:SzT P el e] (hx:ev (lk ts) x = some (.ownc id off m k e))
  (hl : dZ (lk ts) lo 0 = some l) (hh : dZ (lk ts) hi m = some h) (hc : l < h ∧ h ≤ k) (hN : Nat.blt d N = true) {md' : Md} [hmd : MdA md (rO x ++ (rB lo ++ rB hi)) [.inl d] md']
  (kk : RW P N all Q md' rest ⟨(d,.own id (off + l * e) (h - l) e) :: ts,hs,n,z0⟩) : RW P N all Q md (⟨some d,.slice t x lo hi none,ty,pos,af,none⟩ :: rest) ⟨ts,hs,n,z0⟩ :=
 dS rfl rfl (dL hN) (fun C ι F T H a w ag g gh => Ar g rfl (ag.l.ev.trans hx) ht.pf he.pf (ag.r.l.bnd.trans hl) (ag.r.r.bnd.trans hh) hc) (by rw [hmd.pf]; exact kk)
theorem tP {t el:TypeId}{x:Operand}{l:List TypeId}{id off m k e:Nat}[ht:SlT P t el] (hx:ev (lk ts) x = some (.ownc id off m k e)) (hN:Nat.blt d N = true){md':Md}[hmd:MdA md (rO x) [.inl d] md']
  (kk : RW P N all Q md' rest ⟨(d,.v (.int .i64 (m : Int))) :: ts,hs,n,z0⟩) : RW P N all Q md (⟨some d,.call ⟨.builtin .len,#[x],(t :: l).toArray⟩,ty,pos,af,none⟩ :: rest) ⟨ts,hs,n,z0⟩ :=
 dS rfl rfl (dL hN) (fun C ι F T H a w ag g gh => GG g rfl (by simp) (ag.ev.trans hx) ht.pf) (by rw [hmd.pf]; exact kk)
theorem j6 {t el id off m m' k e:Nat}{x y:Operand}{av:AV}{cs new cs':List AV}{zs:List Value}[ht:SlT P t el] [he:SzT P el e] [hz:ZrT P el zs]
  (hx : ev (lk ts) x = some (.ownc id off m k e)) (hy : ev (lk ts) y = some av)
  (hH : aQ hs id = some cs) (hs' : sCells (aQ hs) e (nJ av) = some (m',new)) (hk : m + m' ≤ k) (hl : off + m * e + new.length ≤ cs.length)
  (hcs : fG cs (off + m * e) new = cs') (hN : Nat.blt d N = true) {md' : Md} [hmd : MdA md (rO x ++ (rO y ++ ([.inr id] ++ rA av))) [.inr id,.inl d] md'] (kk : RW P N all Q md' rest ⟨(d,.ownc id off (m + m') k e) :: ts,(id,some cs') :: hs,n,z0⟩) :
  RW P N all Q md (⟨some d,.call ⟨.builtin .append,#[x,y],#[t,t]⟩,ty,pos,af,none⟩ :: rest) ⟨ts,hs,n,z0⟩ := by
 subst hcs
 exact vU (rs := rO x ++ (rO y ++ ([.inr id] ++ rA av))) (ws := [(id, some (fG cs (off + m * e) new))]) (n' := n) (out := .ownc id off (m + m') k e) rfl (fun _ h => by cases h; exact dL hN) (Nat.le_refl n) (.inl rfl)
  (fun C ι F T H a w ag hF g gh => uW (w4 gh rfl (b0 g (ag.l.ev.trans hx)) (b0 g (ag.r.l.ev.trans hy)) ht.pf he.pf hz.pf ((ag.r.r.l.h id (by simp)).trans hH) (ag.r.r.r.sCells.trans hs') hk hl)) (by
   show RW P N all Q (md.add (rO x ++ (rO y ++ ([.inr id] ++ rA av))) [.inr id,.inl d]) rest ⟨(d,.ownc id off (m + m') k e) :: ts,(id,some (fG cs (off + m * e) new)) :: hs,n,z0⟩
   rw [hmd.pf]; exact kk)
theorem qY {t el id off m e:Nat}{x:Operand}{cs cs':List AV}{zs:List Value}[ht:SlT P t el] [he:SzT P el e] [hz:ZrT P el zs]
  (hx : ev (lk ts) x = some (.own id off m e)) (hze : zs.length = e) (h0 : 0 < m) (hH : aQ hs id = some cs) (hl : off + m * e ≤ cs.length)
  (hcs : fG cs off (List.replicate m (zs.map AV.v)).flatten = cs') {md' : Md} [hmd : MdA md (rO x ++ [.inr id]) [.inr id] md'] (kk : RW P N all Q md' rest ⟨ts,(id,some cs') :: hs,n,z0⟩) :
  RW P N all Q md (⟨none,.call ⟨.builtin .clear,#[x],#[t]⟩,ty,pos,af,none⟩ :: rest) ⟨ts,hs,n,z0⟩ := by
 subst hcs
 exact vU (rs := rO x ++ [.inr id]) (ws := [(id, some (fG cs off (List.replicate m (zs.map AV.v)).flatten))]) (n' := n) (out := .tup []) rfl (fun _ h => by cases h) (Nat.le_refl n) (.inl rfl)
  (fun C ι F T H a w ag hF g gh => uW (DD gh rfl (b0 g (ag.l.ev.trans hx)) rfl ht.pf he.pf hz.pf hze ((ag.r.h id (by simp)).trans hH) h0 hl)) (by
   show RW P N all Q (md.add (rO x ++ [.inr id]) [.inr id]) rest ⟨ts,(id,some (fG cs off (List.replicate m (zs.map AV.v)).flatten)) :: hs,n,z0⟩
   rw [hmd.pf]; exact kk)
theorem Le.noroom {id off m k e:Nat}(h:lk ts d = some (.ownc id off m k e)):Le ⟨ts,hs,n,z0⟩ ⟨(d,.own id off m e) :: ts,hs,n,z0⟩:=by
 rintro C a w ⟨hlo,ι,g1,g2⟩
 refine ⟨hlo,ι,⟨g1.df,g1.sz,fun t av ht => ?_⟩,g2⟩
 have ht' : lk ((d,.own id off m e) :: ts) t = some av := ht
 rw [iE] at ht'
 split at ht'
 ·rename_i q; subst q
  cases ht'
  obtain ⟨y,h1,h2⟩ := g1.tm t _ h
  refine ⟨y,h1,?_⟩
  simp only [Rd] at h2 ⊢
  obtain ⟨b,β,c,p1,p2,p3,p4,p5⟩ := h2
  exact .inr ⟨b,β,c,p1,p2,by omega,p5⟩
 ·exact g1.tm t av ht'
end
def bI {α : Type} (k : Nat) (xs : List α) : List α := xs.take k ++ xs.drop (k + 1)
def kD (q : Prg) (k : Nat) : Prg := ⟨q.types,bI k q.body⟩
theorem bR {α:Type}{k:Nat}{xs:List α}(h:k < xs.length):(bI k xs).length + 1 = xs.length:=by
 unfold bI;rw [List.length_append,List.length_take,List.length_drop]; omega
theorem xF {α β:Type}(f:α → β) (k:Nat) (xs:List α):(bI k xs).map f = bI k (xs.map f):=by
 unfold bI;rw [List.map_append,List.map_take,List.map_drop]
theorem Er {α:Type}{k:Nat}{xs:List α}{x:α}(h:x ∈ bI k xs):x ∈ xs:=by
 unfold bI at h
 rcases List.mem_append.1 h with h|h
 ·exact List.mem_of_mem_take h
 ·exact List.mem_of_mem_drop h
theorem eX:∀ (xs:List Stmt) (k:Nat),aJ (bI k xs) ≤ aJ xs
 | [],k => by simp [bI,aJ]
 | x :: xs,0 => by simp [bI,aJ]
 | x :: xs, k + 1 => by
  have := eX xs k
  unfold bI at this ⊢
  simp only [List.take_succ_cons,List.drop_succ_cons,List.cons_append,aJ]; omega
theorem c9 {q:Prg}{k:Nat}(h:bZ q = true):bZ (kD q k) = true:=by
 unfold bZ at h ⊢
 simp only [Bool.and_eq_true,decide_eq_true_eq] at h ⊢
 obtain ⟨⟨h1,h2⟩,h3⟩ := h
 refine ⟨⟨h1,?_⟩,Nat.le_trans (eX _ _) h3⟩
 rw [uA,List.all_eq_true] at h2 ⊢
 exact fun x hx => h2 x (Er hx)
theorem xW (b:List Stmt){i j:Nat}(h:i ≤ j):cD (b.take i) ≤ cD (b.take j):=by
 have := j8 (b.take j) i
 rwa [List.take_take,Nat.min_eq_left h] at this
structure AtS (b : List Stmt) (x : Int) (k : Nat) : Prop where
 lt : k < b.length
 lo : (cD (b.take k) : Int) ≤ x
 hi : k + 1 < b.length → x < cD (b.take (k + 1))
theorem AtS.uniq {b:List Stmt}{x:Int}{k k':Nat}(h:AtS b x k) (h':AtS b x k'):k = k':=by
 have key : ∀ {k k'}, AtS b x k → AtS b x k' → ¬ k < k' := fun {k k'} h h' hlt => by
  have h1 := h.hi (by have := h'.lt;omega)
  have h2 := xW b (i := k + 1) (j := k') hlt
  have h3 := h'.lo
  omega
 have h1 := key h h'
 have h2 := key h' h
 omega
theorem AtS.ex {b:List Stmt}{x:Int}:∀ d n,b.length - n ≤ d → n < b.length → (cD (b.take n):Int) ≤ x → ∃ k,AtS b x k
 | 0,n,h,hn,_ => by omega
 | d + 1, n, h, hn, hx => by
  by_cases h1 : n + 1 < b.length
  ·by_cases h2 : x < cD (b.take (n + 1))
   ·exact ⟨n,hn,hx,fun _ => h2⟩
   ·exact AtS.ex d (n + 1) (by omega) h1 (by omega)
  ·exact ⟨n,hn,hx,fun h => absurd h h1⟩
inductive RepS (FI : Prg → List Iss → Prop) : Prg → List Int → List Int → Prg → List Int → Prop
 | done {q : Prg} {l m : List Int} : FI q [] → RepS FI q l m q m
 | step {q q' : Prg} {l m m' : List Int} {x : Iss} {L : List Iss} {k : Nat} : FI q (x :: L) → AtS q.body x.point k → RepS FI (kD q k) (bI k l) (m ++ [l[k]!]) q' m' → RepS FI q l m q' m'
theorem RepS.ex {FI:Prg → List Iss → Prop}(h1:∀ q,bZ q = true → ∃ L,FI q L ∧ (∀ x ∈ L,0 ≤ x.point) ∧ (q.body = [] → L = [])) :
  ∀ n q l m,q.body.length ≤ n → bZ q = true → ∃ q' m',RepS FI q l m q' m'
 | n, q, l, m, hn, hv => by
  obtain ⟨L,hF,hp,he⟩ := h1 q hv
  cases L with
  | nil => exact ⟨q,m,.done hF⟩
  | cons x L =>
   have hne : q.body ≠ [] := fun e => by have := he e;cases this
   have hlen : 0 < q.body.length := List.length_pos_iff.2 hne
   obtain ⟨k,hk⟩ := AtS.ex (b := q.body) (x := x.point) q.body.length 0 (by omega) hlen (by have := hp x List.mem_cons_self;simpa [cD] using this)
   have hd := bR hk.lt
   cases n with
   | zero => omega
   | succ n =>
    obtain ⟨q',m',h⟩ := RepS.ex h1 n (kD q k) (bI k l) (m ++ [l[k]!]) (by show (bI k q.body).length ≤ n;omega) (c9 hv)
    exact ⟨q',m',.step hF hk h⟩
theorem RepS.fin {FI:Prg → List Iss → Prop}{q q':Prg}{l m m':List Int}(h:RepS FI q l m q' m'):bZ q = true → FI q' [] ∧ bZ q' = true ∧ q'.types = q.types ∧ aJ q'.body ≤ aJ q.body ∧ m'.length + q'.body.length = m.length + q.body.length:=by
 induction h with
 | done h => exact fun hv => ⟨h,hv,rfl,Nat.le_refl _,rfl⟩
 | @step q q' l m m' x L k _ hk _ ih =>
  intro hv
  obtain ⟨h1,h2,h3,h4,h5⟩ := ih (c9 hv)
  have hd := bR hk.lt
  refine ⟨h1,h2,h3,Nat.le_trans h4 (eX _ _),?_⟩
  rw [h5,List.length_append,List.length_singleton]
  show m.length + 1 + (bI k q.body).length = _
  omega
theorem RepS.inv {FI:Prg → List Iss → Prop}{q q':Prg}{l m m':List Int}(h:RepS FI q l m q' m'):(FI q [] ∧ q' = q ∧ m' = m) ∨ ∃ x L k,FI q (x :: L) ∧ AtS q.body x.point k ∧ RepS FI (kD q k) (bI k l) (m ++ [l[k]!]) q' m':=by
 cases h with
 | done h => exact .inl ⟨h,rfl,rfl⟩
 | step h1 h2 h3 => exact .inr ⟨_,_,_,h1,h2,h3⟩
def Jx (n : Nat) (m : List Int) : List Int := ((List.range n).filter (fun (i : Nat) => decide (¬ (i : Int) ∈ m))).map (fun (i : Nat) => (i : Int))
theorem BU {ts:List Int}{p:Prg}(hb:p.body = []) (f:Flows ts (aE p)):f.iss = []:=by
 have hp : aE p = [⟨11,0,0,0,[]⟩] := by unfold aE;rw [hb]; rfl
 have h0 : (aE p)[0]! = ⟨11,0,0,0,[]⟩ := by rw [hp]; rfl
 unfold Flows.iss m8
 rw [show (aE p).length = 1 by rw [hp]; rfl]
 have hw : wS ts (aE p)[0]! [1, 2, 3] = 0 := by
  apply Nat.eq_of_testBit_eq
  intro v
  rw [dQ,Nat.zero_testBit,Bool.and_eq_false_iff]
  refine .inr ?_
  rw [h0,decide_eq_false_iff_not]
  have : bB ts ⟨11,0,0,0,[]⟩ v = 0 := by simp [bB]
  rw [this]; decide
 have ha : ∀ b,gK ts (aE p)[0]! b = [] := fun b => by rw [h0]; simp [gK,aU]
 have hb0 : bF 0 = [] := by unfold bF;simp
 have hc : Ej ts (aE p) f.Am f.Al f.Af f.Ap 0 = 0 := by unfold Ej;rw [ha]; rfl
 have hu : lP 0 f.Aa[0]! = 0 := by
  apply Nat.eq_of_testBit_eq
  intro v
  rw [cQ,Nat.zero_testBit,Bool.false_and]
 show (List.range 1).flatMap _ = []
 rw [show List.range 1 = [0] from rfl]
 simp only [List.flatMap_cons,List.flatMap_nil,List.append_nil]
 unfold zC
 rw [hw,hc,hu,hb0]; rfl
end Go.AL
