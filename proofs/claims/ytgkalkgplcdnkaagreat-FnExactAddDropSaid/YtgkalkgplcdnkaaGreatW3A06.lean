/-
 A part of the proofs over this program: rules and contracts of its functions (the rules).
-/
import Derived.Test.YtgkalkgplcdnkaaGreatW3A05
import Derived.Laws.BytesString
import Derived.Laws.StructEq
import Derived.MapKept
import Derived.Orders
import Derived.Sort.Grow
import Derived.Laws.IdiomCopy
set_option linter.unusedVariables false
set_option linter.unusedSimpArgs false
namespace Go.AL
open Go.RowKit
mutual
theorem RnV.bw {w:World}{ρ:Nat → Option Nat}{bad bad':Nat → Prop}{ι ι':Pl}(h:∀ i i',ρ i = some i' → ι i = ι' i') (hc:∀ b,bad b → bad' b):∀ {v v':AV},RnV ρ v v' → ∀ {y:Value},Rd w bad' ι' v' y → Rd w bad ι v y
 | _,_,.pur hp,y,k => Rd.pur _ y hp (Rd.carry (⟨fun b o x h1 h2 => ⟨fun q => h1 (hc b q),h2⟩,fun _ _ h => h,fun _ => Nat.le_refl _⟩ : Carry w bad' ι' w bad ι') _ _ k)
 | _,_,.own hi,y,k => by simp only [Rd,h _ _ hi] at k ⊢; exact k
 | _,_,.optr hi,y,k => by simp only [Rd,h _ _ hi] at k ⊢; exact k
 | _, _, .imm (cs := cs) (cs' := cs') hl, y, k => by
  have hlen := RnL.len hl
  simp only [Rd] at k ⊢
  obtain ⟨a,c,rfl,k⟩ := k
  refine ⟨a,c,rfl,?_⟩
  rcases k with k | ⟨b,o,hn,rfl,k⟩
  ·exact .inl k
  ·refine .inr ⟨b, o, hn, rfl, ?_⟩
   rcases k with k | ⟨hb,k⟩
   ·subst k;exact .inl (List.eq_nil_of_length_eq_zero (by rw [hlen]; rfl))
   ·exact .inr ⟨fun q => hb (hc b q),RnL.bwC h hc hl k⟩
 | _, _, .agg hl, y, k => by
  simp only [Rd] at k ⊢
  obtain ⟨l,h1,h2⟩ := k
  exact ⟨l,h1,RnL.bwL h hc hl h2⟩
 | _, _, .tup hl, y, k => by
  simp only [Rd] at k ⊢
  obtain ⟨l,h1,h2⟩ := k
  exact ⟨l,h1,RnL.bwV h hc hl h2⟩
 | _, _, .clos h1 h2, y, k => by
  simp only [Rd] at k ⊢
  obtain ⟨lf,lc,q1,q2,q3⟩ := k
  exact ⟨lf,lc,q1,RnL.bwV h hc h1 q2,RnL.bwV h hc h2 q3⟩
theorem RnL.bwL {w:World}{ρ:Nat → Option Nat}{bad bad':Nat → Prop}{ι ι':Pl}(h:∀ i i',ρ i = some i' → ι i = ι' i') (hc:∀ b,bad b → bad' b):∀ {v v':List AV},RnL ρ v v' → ∀ {y:List Value},RdL w bad' ι' v' y → RdL w bad ι v y
 | _,_,.pur hp,y,k => RdL.pur _ y hp (RdL.carry (⟨fun b o x h1 h2 => ⟨fun q => h1 (hc b q),h2⟩,fun _ _ h => h,fun _ => Nat.le_refl _⟩ : Carry w bad' ι' w bad ι') _ _ k)
 | _,_,.nil,y,k => by simpa only [RdL] using k
 | _, _, .cons h1 h2, y, k => by
  simp only [RdL] at k ⊢
  obtain ⟨x,l',q0,q1,q2,q3⟩ := k
  exact ⟨x,l',q0,q1,RnV.bw h hc h1 q2,RnL.bwL h hc h2 q3⟩
theorem RnL.bwV {w:World}{ρ:Nat → Option Nat}{bad bad':Nat → Prop}{ι ι':Pl}(h:∀ i i',ρ i = some i' → ι i = ι' i') (hc:∀ b,bad b → bad' b):∀ {v v':List AV},RnL ρ v v' → ∀ {y:List Value},RdV w bad' ι' v' y → RdV w bad ι v y
 | _,_,.pur hp,y,k => RdV.pur _ y hp (RdV.carry (⟨fun b o x h1 h2 => ⟨fun q => h1 (hc b q),h2⟩,fun _ _ h => h,fun _ => Nat.le_refl _⟩ : Carry w bad' ι' w bad ι') _ _ k)
 | _,_,.nil,y,k => by simpa only [RdV] using k
 | _, _, .cons h1 h2, y, k => by
  simp only [RdV] at k ⊢
  obtain ⟨x,l',q0,q2,q3⟩ := k
  exact ⟨x,l',q0,RnV.bw h hc h1 q2,RnL.bwV h hc h2 q3⟩
theorem RnL.bwC {w:World}{ρ:Nat → Option Nat}{bad bad':Nat → Prop}{ι ι':Pl}(h:∀ i i',ρ i = some i' → ι i = ι' i') (hc:∀ b,bad b → bad' b):∀ {v v':List AV},RnL ρ v v' → ∀ {b o:Nat},RdC w bad' ι' v' b o → RdC w bad ι v b o
 | _,_,.pur hp,b,o,k => RdC.pur _ b o hp (RdC.carryB (⟨fun b o x h1 h2 => ⟨fun q => h1 (hc b q),h2⟩,fun _ _ h => h,fun _ => Nat.le_refl _⟩ : Carry w bad' ι' w bad ι') _ _ _ (fun o x hx => hx) k)
 | _,_,.nil,b,o,k => by simp only [RdC]
 | _, _, .cons h1 h2, b, o, k => by
  simp only [RdC] at k ⊢
  obtain ⟨⟨x,q1,q2,q3⟩,q4⟩ := k
  exact ⟨⟨x,q1,q2,RnV.bw h hc h1 q3⟩,RnL.bwC h hc h2 q4⟩
end
theorem RnL.app {ρ:Nat → Option Nat}:∀ {a a' b b':List AV},RnL ρ a a' → RnL ρ b b' → RnL ρ (a ++ b) (a' ++ b')
 | [], a', b, b', ha, hb => by
  have := ha.len
  cases a' with
  | nil => exact hb
  | cons _ _ => simp at this
 | c :: cs, _, b, b', .pur hp, hb => by
  simp only [bJ,Bool.and_eq_true] at hp
  exact .cons (.pur hp.1) (RnL.app (.pur hp.2) hb)
 | c :: cs,_,b,b',.cons h1 h2,hb => .cons h1 (RnL.app h2 hb)
theorem RnL.flt {ρ:Nat → Option Nat}{α:Type}{f f':α → List AV}:∀ {xs:List α},(∀ x ∈ xs,RnL ρ (f x) (f' x)) → RnL ρ (flat f xs) (flat f' xs)
 | [],_ => .nil
 | x :: xs, h => by
  have h1 := h x (List.mem_cons_self)
  have h2 := RnL.flt (f := f) (f' := f') (xs := xs) (fun y hy => h y (List.mem_cons_of_mem _ hy))
  simp only [flat,List.flatMap_cons] at h2 ⊢
  exact h1.app h2
theorem Le.renG (ρ:Nat → Option Nat){ts ts':List (Nat × AV)}{hs hs':List (Nat × Option (List AV))}{n n':Nat}{lo lo':Lo}(hlo:lo'.lo = lo.lo) (hfb:lo.fb ≤ lo'.fb)
  (hid : ∀ id,id < lo.lo ∨ (aX ≤ id ∧ id < lo.fb) → ρ id = some id) (hinj : ∀ a b c,ρ a = some c → ρ b = some c → a = b) (hfr : ∀ id,Fn n' lo' id → ρ id = none)
  (h1 : ∀ t v,lk ts' t = some v → ∃ v0,lk ts t = some v0 ∧ RnV ρ v v0) (h2 : ∀ id cs,aP hs' id = some cs → ∃ j cs0,ρ id = some j ∧ aP hs j = some cs0 ∧ RnL ρ cs cs0) :
  Le ⟨ts,hs,n,lo⟩ ⟨ts',hs',n',lo'⟩ := by
 rintro C a w ⟨h0,ι,g,gh⟩
 let ι' : Pl := fun id => match ρ id with|some j => ι j|none => none
 have hto : ∀ id j,ρ id = some j → ι' id = ι j := fun id j h => by simp only [ι',h]
 have hbad : ∀ b, aD C.X ι' (aP hs') b → aD C.X ι (aP hs) b := by
  rintro b (h | ⟨id,cs,β,q1,q2⟩)
  ·exact .inl h
  ·obtain ⟨j, cs0, q3, q4, _⟩ := h2 id cs q1
   rw [hto _ _ q3] at q2
   exact .inr ⟨j,cs0,β,q4,q2⟩
 refine ⟨fun id h => ?_,ι',⟨g.df,g.sz,fun t v ht => ?_⟩,⟨fun id cs h => ?_,fun id id' cs cs' b β β' q1 q2 q3 q4 => ?_,gh.fr,fun id p hp => ?_,fun id hid' => ?_⟩⟩
 ·have h' : lo.lo ≤ id := by rw [← hlo]; exact h
  rcases h0 id h' with q|q
  ·exact .inl ⟨q.1,Nat.lt_of_lt_of_le q.2 hfb⟩
  ·exact .inr q
 ·obtain ⟨v0, q1, q2⟩ := h1 t v ht
  obtain ⟨y,q3,q4⟩ := g.tm t v0 q1
  exact ⟨y,q3,RnV.bw hto hbad q2 q4⟩
 ·obtain ⟨j, cs0, q3, q4, q5⟩ := h2 id cs h
  rcases gh.obj j cs0 q4 with ⟨p1,p2⟩ | ⟨b,β,arr,e,p1,p2,p3,p4,p5,p6⟩
  ·refine .inl ⟨by rw [hto _ _ q3]; exact p1, ?_⟩
   subst p2;exact List.eq_nil_of_length_eq_zero (by rw [q5.len]; rfl)
  ·exact .inr ⟨b,β,arr,e,by rw [hto _ _ q3]; exact p1,p2,by rw [q5.len]; exact p3,RnL.bwC hto hbad q5 p4,p5,p6⟩
 ·obtain ⟨j, c1, r1, r2, _⟩ := h2 id cs q1
  obtain ⟨j',c2,r3,r4,_⟩ := h2 id' cs' q2
  rw [hto _ _ r1] at q3
  rw [hto _ _ r3] at q4
  have := gh.sep _ _ _ _ _ _ _ r2 r4 q3 q4
  subst this
  exact hinj _ _ _ r1 r3
 ·have : ρ id = some id := by
   refine hid id ?_
   rcases Nat.lt_or_ge id lo.lo with q|q
   ·exact .inl q
   ·rcases h0 id q with q1 | q1
    ·exact .inr q1
    ·rw [q1] at hp;cases hp
  rw [hto _ _ this]; exact gh.ex id p hp
 ·have := hfr id hid'
  simp only [ι',this]
def iL (m : List (Nat × Nat)) (lo : Lo) (pn : Option Nat) (id : Nat) : Option Nat :=
 if id < lo.lo then some id else if aX ≤ id then (if id < lo.fb then some id else if id = lo.fb then pn else none) else vM m id
theorem gI {m:List (Nat × Nat)}{lo:Lo}{pn:Option Nat}{id:Nat}(h1:aX ≤ id) (h2:id < lo.fb):iL m lo pn id = some id:=by
 unfold iL;split
 ·rfl
 ·simp [h1,h2]
def JJ (ρ : Nat → Option Nat) (l : List (Nat × AV)) : List (Nat × AV) → Prop
 | [] => True
 | (t,v) :: l' => (∃ v0,lk l t = some v0 ∧ RnV ρ v v0) ∧ JJ ρ l l'
def AF (ρ : Nat → Option Nat) (l : List (Nat × Option (List AV))) : List (Nat × Option (List AV)) → Prop
 | [] => True
 | (t,none) :: l' => AF ρ l l'
 | (t,some cs) :: l' => (∃ j cs0,ρ t = some j ∧ aP l j = some cs0 ∧ RnL ρ cs cs0) ∧ AF ρ l l'
theorem AI {ρ:Nat → Option Nat}{l:List (Nat × AV)}:∀ {l':List (Nat × AV)},JJ ρ l l' → ∀ t v,lk l' t = some v → ∃ v0,lk l t = some v0 ∧ RnV ρ v v0
 | [],_,t,v,h => by simp [lk] at h
 | (u, x) :: l', hr, t, v, h => by
  simp only [JJ] at hr
  simp only [iY] at h
  split at h
  ·rename_i e;subst e;cases h;exact hr.1
  ·exact AI hr.2 t v h
theorem pD {a b:List (Nat × Option (List AV))}{u:Nat}{c:List AV}:aP (a ++ b) u = some c → aP a u = some c ∨ aP b u = some c:=by
 induction a with
 | nil => exact fun h => .inr h
 | cons x a ih =>
  obtain ⟨t,v⟩ := x
  rw [List.cons_append,b7,b7]
  split
  ·exact fun h => .inl h
  ·exact ih
theorem Ex {a b:List (Nat × Option (List AV))}{u:Nat}{c:List AV}(h:aP a u = some c):aP (a ++ b) u = some c:=by
 induction a with
 | nil => simp [aP] at h
 | cons x a ih =>
  obtain ⟨t,v⟩ := x
  rw [List.cons_append]
  rw [b7] at h ⊢
  split
  ·rename_i e;rw [if_pos e] at h;exact h
  ·rename_i e;rw [if_neg e] at h;exact ih h
theorem FR {a b:List (Nat × Option (List AV))}{u:Nat}(h:gL u a = true):aP (a ++ b) u = aP b u:=by
 induction a with
 | nil => rfl
 | cons x a ih =>
  obtain ⟨t,v⟩ := x
  simp only [gL,Bool.and_eq_true] at h
  rw [List.cons_append,b7,if_neg (by have := dS h.1;omega)]
  exact ih h.2
theorem oV {n m:Nat}(h:n ≤ m):∀ {a:List (Nat × Option (List AV))},gL n a = true → gL m a = true
 | [],_ => rfl
 | (t, v) :: a, k => by
  simp only [gL,Bool.and_eq_true] at k ⊢
  exact ⟨by have := dS k.1;simp [Nat.blt]; omega,oV h k.2⟩
theorem pJ {ρ:Nat → Option Nat}{l:List (Nat × Option (List AV))}:∀ {l':List (Nat × Option (List AV))},AF ρ l l' → ∀ t cs,aP l' t = some cs →
  ∃ j cs0,ρ t = some j ∧ aP l j = some cs0 ∧ RnL ρ cs cs0
 | [],_,t,v,h => by simp [aP] at h
 | (u, none) :: l', hr, t, v, h => by
  simp only [AF] at hr
  simp only [b7] at h
  split at h
  ·cases h
  ·exact pJ hr t v h
 | (u, some x) :: l', hr, t, v, h => by
  simp only [AF] at hr
  simp only [b7] at h
  split at h
  ·rename_i e;subst e;cases h;exact hr.1
  ·exact pJ hr.2 t v h
theorem tN {m:List (Nat × Nat)}{lo:Lo}{pn:Option Nat}{n':Nat}(hm:FL lo.lo n' m = true){a c:Nat}(h:iL m lo pn a = some c) :
  (a < lo.lo ∧ c = a) ∨ (lo.lo ≤ a ∧ aX ≤ a ∧ a < lo.fb ∧ c = a) ∨ (lo.lo ≤ a ∧ aX ≤ a ∧ a = lo.fb ∧ pn = some c) ∨ (lo.lo ≤ a ∧ a < aX ∧ a < n' ∧ lo.lo ≤ c ∧ c < aX ∧ vM m a = some c) := by
 unfold iL at h
 split at h
 ·cases h;exact .inl ⟨by assumption,rfl⟩
 ·split at h
  ·split at h
   ·cases h;exact .inr (.inl ⟨by omega,by assumption,by assumption,rfl⟩)
   ·split at h
    ·exact .inr (.inr (.inl ⟨by omega,by assumption,by assumption,h⟩))
    ·cases h
  ·have := iU hm _ _ h
   exact .inr (.inr (.inr ⟨by omega,by omega,by omega,by omega,by omega,h⟩))
theorem Le.renF (m:List (Nat × Nat)) (pn:Option Nat){ts ts':List (Nat × AV)}{hs hs':List (Nat × Option (List AV))}{n n':Nat}{lo lo':Lo}(hm:FL lo.lo n' m = true) (hn:lo.lo ≤ n') (hlo:lo'.lo = lo.lo)
  (hfb : lo'.fb = lo.fb + (if pn.isSome then 1 else 0)) (hp : ∀ b,pn = some b → lo.lo ≤ b ∧ b < aX ∧ ∀ a,vM m a ≠ some b)
  (h1 : ∀ t v,lk ts' t = some v → ∃ v0,lk ts t = some v0 ∧ RnV (iL m lo pn) v v0) (h2 : ∀ id cs,aP hs' id = some cs → ∃ j cs0,iL m lo pn id = some j ∧ aP hs j = some cs0 ∧ RnL (iL m lo pn) cs cs0) :
  Le ⟨ts,hs,n,lo⟩ ⟨ts',hs',n',lo'⟩ := by
 refine Le.renG (iL m lo pn) hlo (by rw [hfb]; omega) (fun id h => ?_) (fun a b c ha hb => ?_) (fun id h => ?_) h1 h2
 ·rcases h with h | h
  ·unfold iL;rw [if_pos h]
  ·exact gI h.1 h.2
 ·rcases tN hm ha with a1 | a1 | a1 | a1 <;> rcases tN hm hb with b1 | b1 | b1 | b1
  all_goals try omega
  ·have := hp c b1.2.2.2;omega
  ·have := hp c b1.2.2.2;omega
  ·have := hp c a1.2.2.2;omega
  ·have := hp c a1.2.2.2;omega
  ·exact absurd b1.2.2.2.2.2 ((hp c a1.2.2.2).2.2 b)
  ·exact absurd a1.2.2.2.2.2 ((hp c b1.2.2.2).2.2 a)
  ·exact vH hm _ _ _ a1.2.2.2.2.2 b1.2.2.2.2.2
 ·cases hc : iL m lo pn id with
  | none => rfl
  | some c =>
   have h3 : n' ≤ id := h.1
   have h4 : id < aX ∨ lo'.fb ≤ id := h.2
   rcases tN hm hc with a1|a1|a1|a1
   ·omega
   ·omega
   ·rw [a1.2.2.2] at hfb;simp at hfb;omega
   ·omega
theorem Le.renF0 (m:List (Nat × Nat)){R:List (List Bool)}{ts ts':List (Nat × AV)}{hs lits:List (Nat × Option (List AV))}{n n':Nat}{lo:Lo}{l0:Nat}(hF:FamR R R hs hs) (hz:lo = ⟨l0,aX + R.length⟩) (hm:FL l0 n' m = true) (hn:l0 ≤ n')
  (h1 : JJ (iL m lo none) ts ts') (h2 : AF (iL m lo none) hs lits) : Le ⟨ts,hs,n,lo⟩ ⟨ts',lits ++ fQ R,n',⟨l0,aX + R.length⟩⟩ := by
 subst hz
 refine Le.renF m none hm hn rfl rfl (fun b h => by cases h) (AI h1) (fun id cs h => ?_)
 rcases pD h with h|h
 ·exact pJ h2 id cs h
 ·obtain ⟨k, hk, rfl, rfl⟩ := kL h
  exact ⟨_,_,gI (by omega) (by show k + aX < aX + R.length;omega),hF.get hk,.pur (inferInstance : Pur (flat cB R[k]!)).pf⟩
theorem Le.renF1 (m:List (Nat × Nat)) (b:Nat){r:List Bool}{R R':List (List Bool)}{ts ts':List (Nat × AV)}{hs lits:List (Nat × Option (List AV))}{n n':Nat}{lo:Lo}{l0:Nat}(hF:FamR R R hs hs) (hz:lo = ⟨l0,aX + R.length⟩) (hm:FL l0 n' m = true) (hn:l0 ≤ n')
  (hlb : l0 ≤ aX) (hb : l0 ≤ b ∧ b < aX ∧ (m.all fun p => !Nat.beq p.2 b) = true) (hr : aP hs b = some (flat cB r)) (hR : R' = R ++ [r])
  (h1 : JJ (iL m lo (some b)) ts ts') (h2 : AF (iL m lo (some b)) hs lits) : Le ⟨ts,hs,n,lo⟩ ⟨ts',lits ++ fQ R',n',⟨l0,aX + R'.length⟩⟩ := by
 subst hz hR
 refine Le.renF m (some b) hm hn rfl (by show aX + (R ++ [r]).length = aX + R.length + 1;simp [Nat.add_assoc]) (fun b' h => ?_) (AI h1) (fun id cs h => ?_)
 ·cases h
  refine ⟨hb.1,hb.2.1,fun a ha => ?_⟩
  have := tL ha
  have h3 := hb.2.2
  rw [List.all_eq_true] at h3
  have := h3 _ this
  simp at this
 ·rcases pD h with h | h
  ·exact pJ h2 id cs h
  ·obtain ⟨k, hk, rfl, rfl⟩ := kL h
   rw [List.length_append,List.length_singleton] at hk
   rcases Nat.lt_or_ge k R.length with hk2|hk2
   ·have e : (R ++ [r])[k]! = R[k]! := by rw [bF _ _ (by simp; omega), bF _ _ hk2, List.getElem_append_left hk2]
    exact ⟨_,_,gI (by omega) (by show k + aX < aX + R.length;omega),hF.get hk2,by rw [e]; exact .pur (inferInstance : Pur (flat cB R[k]!)).pf⟩
   ·have e : k = R.length := by omega
    subst e
    have e2 : (R ++ [r])[R.length]! = r := by rw [bF _ _ (by simp)]; simp
    refine ⟨b,flat cB r,?_,hr,?_⟩
    ·unfold iL
     rw [if_neg (by show ¬ R.length + aX < l0;omega),if_pos (by omega),if_neg (by show ¬ R.length + aX < aX + R.length;omega),if_pos (by show R.length + aX = aX + R.length;omega)]
    ·rw [e2]; exact .pur (inferInstance : Pur (flat cB r)).pf
section
variable {P : Program} {N : Nat} {Q : Exit → AS → Prop}
theorem Le.litF {ts ts':List (Nat × AV)}{hs lits:List (Nat × Option (List AV))}{n n':Nat}{z0 z1:Lo}{R:List (List Bool)}(h1:mA ts ts') (h2:kQ hs lits) (h3:n ≤ n') (hF:FamR R R hs hs) (hz:z0 = z1) :
  Le ⟨ts,hs,n,z0⟩ ⟨ts',lits ++ fQ R,n',z1⟩ := by
 refine Le.of (vD h1) (fun i c h => ?_) h3 hz
 rcases pD h with h|h
 ·exact nA h2 i c h
 ·obtain ⟨k, hk, rfl, rfl⟩ := kL h
  exact hF.get hk
theorem xQ {σ:Type}{c:Code}{ts:List (Nat × AV)}{hs:List (Nat × Option (List AV))}{n:Nat}{z0:Lo}(l0:Nat) (Rf:σ → List (List Bool)) (ks:List Nat) (kt:List (Nat × AV)) (js:List Nat) (kh:List (Nat × Option (List AV)))
  (ot : σ → List (Nat × AV)) (oh : σ → List (Nat × Option (List AV))) (p : σ → Prop) (μ : σ → Nat) (i0 : σ) (h0 : p i0) (hk : mG ks ts = kt) (hj : m7 js hs = kh)
  (h1 : mA ts (ot i0)) (h2 : kQ hs (oh i0)) (hF : FamR (Rf i0) (Rf i0) hs hs) (hz : z0 = ⟨l0,aX + (Rf i0).length⟩)
  (round : ∀ i,p i → AW P N c (nJ (fun s' => ∃ j,p j ∧ μ j < μ i ∧ Le s' ⟨ot j ++ kt,(oh j ++ kh) ++ fQ (Rf j),n,⟨l0,aX + (Rf j).length⟩⟩) Q) ⟨ot i ++ kt,(oh i ++ kh) ++ fQ (Rf i),n,⟨l0,aX + (Rf i).length⟩⟩) :
  AW P N (.loop c) Q ⟨ts,hs,n,z0⟩ := by
 subst hk hj
 exact Bn p (fun i => ⟨ot i ++ mG ks ts,(oh i ++ m7 js hs) ++ fQ (Rf i),n,⟨l0,aX + (Rf i).length⟩⟩) μ ⟨i0,h0,Le.litF (kO h1 (lB ks)) (lA h2 (m5 js)) (Nat.le_refl _) hF hz⟩ round
theorem Jx {c:Code}{s s':AS}(k:Le s s') (h:AW P N c Q s'):AW P N c Q s := h.le k
end
def tY (P : Program) (k : FuncId) (args : List AV) (H0 : Nat → Option (List AV)) (F0 : Nat → Prop) (Q : AV → (Nat → Option (List AV)) → Prop) : Prop :=
 ∀ (C : Ctx) (ι : Pl) (w : World) (vals : List Value), C.w0 = w → C.ι0 = ι → HG C ι F0 H0 w → RdV w (aD C.X ι H0) ι args vals →
  Calls P k vals.toArray w (fun e w' => ∃ v r H' ι',e = .returned v ∧ Q r H' ∧ Rd w' (aD C.X ι' H') ι' r v ∧ HG C ι' (fun _ => False) H' w')
theorem nB {P:Program}{k:FuncId}{fn:Func}{c:Code}{args:List AV}{H0:List (Nat × Option (List AV))}{n fb:Nat}{Q:AV → (Nat → Option (List AV)) → Prop}(hf:P.funcs[k]? = some fn) (hb:fn.body = some c)
  (hN : args.length ≤ fn.ntmps) (h : AW P fn.ntmps c (mD P fn.results Q) ⟨dE 0 args,H0,n,⟨n,fb⟩⟩) : tY P k args (aP H0) (Fn n ⟨n,fb⟩) Q := by
 intro C ι w vals hw hι g hr
 refine calls_of_wp hf hb ?_
 let C' : Ctx := { C with N := fn.ntmps }
 have hlen := RdV.length hr
 have g' : HG C' ι (Fn n ⟨n,fb⟩) (aP H0) w := ⟨g.obj,g.sep,g.fr,g.ex,g.fresh⟩
 have gt : TG C' ι (lk (dE 0 args)) (aP H0) { tmps := vals.toArray ++ Array.replicate (fn.ntmps - vals.toArray.size) undef, defers := [] } w := by
  refine ⟨rfl,by simp [C',hlen]; omega,fun t av ht => ?_⟩
  obtain ⟨y,_,h1,h2⟩ := jG hr ht
  refine ⟨y,?_,h2⟩
  have hlt : t < vals.length := by
   rcases Nat.lt_or_ge t vals.length with q|q
   ·exact q
   ·rw [List.getElem?_eq_none (by simpa using q)] at h1;cases h1
  rw [Array.getElem?_append_left (by simpa using hlt)]
  simpa using h1
 refine wp_mono (h C' _ w rfl ⟨fun id hid => ?_,ι,gt,g'⟩) ?_
 ·by_cases q : aX ≤ id ∧ id < fb
  ·exact .inl q
  ·refine .inr ?_
   show C.ι0 id = none
   rw [hι]
   exact g.fresh id ⟨hid,by show id < aX ∨ fb ≤ id;omega⟩
 rintro e a' w' ⟨s1,⟨he,s',l,hle,hres,hQ⟩,hg⟩
 obtain ⟨_,ι',g1,g2⟩ := hle C' a' w' hg
 obtain ⟨ys,h1,h2⟩ := lI (P := P) g1 g2 hres
 have hres' : (results fn a'.tmps).run P w' = .ok (if h : ys.toArray.size = 1 then ys.toArray[0] else .tuple ys.toArray) w' := by
  have hr1 : results fn a'.tmps = (do let vs ← fn.results.mapM (rE a'); pure (if h : vs.size = 1 then vs[0] else .tuple vs)) := by
   unfold results
   congr 1
  rw [hr1,Array.mapM_eq_mapM_toList,Sem.run_bind,Sem.run_map,h1]
  simp only [Result.andThen_ok,Sem.run_pure]
 have g3 : HG C ι' (fun _ => False) (aP s'.hs) w' := ⟨g2.obj,g2.sep,g2.fr,g2.ex,fun _ h => h.elim⟩
 rcases he with rfl|rfl
 ·exact ⟨g1.df,_,hres',_,_,_,ι',rfl,hQ,lD h2,g3⟩
 ·exact ⟨g1.df,_,hres',_,_,_,ι',rfl,hQ,lD h2,g3⟩
def nZ (mpF fr : Nat → Option Nat) (j : Nat) : Option Nat := match mpF j with | some i => some i | none => fr j
theorem wZ {P:Program}{k:FuncId}{args args':List AV}{H0 hh:Nat → Option (List AV)}{F0:Nat → Prop}{mpF fr fi:Nat → Option Nat}{r rr':AV}{H2:Nat → Option (List AV)}
  (h : tY P k args H0 F0 (fun r' H' => r' = r ∧ ∀ j cs,hh j = some cs → H' j = some cs)) (hmi : ∀ j j' i,mpF j = some i → mpF j' = some i → j = j') (hfi : ∀ i j,fi i = some j ↔ fr j = some i) (hmf : ∀ j i,fr j = some i → mpF j = none) (hF0 : ∀ j,F0 j → mpF j = none)
  {C : Ctx} {ι : Pl} {F : Nat → Prop} {H : Nat → Option (List AV)} {w : World} (g : HG C ι F H w)
  (hH0 : ∀ j i,mpF j = some i → ∃ cs cs',H0 j = some cs ∧ H i = some cs' ∧ RnL mpF cs cs') (hH1 : ∀ j cs,H0 j = some cs → ∃ i,mpF j = some i)
  (ha : RnL mpF args args') (hF : ∀ j i,fr j = some i → F i) (hr : RnV (nZ mpF fr) r rr')
  (hw : ∀ i cs',H2 i = some cs' → (∃ j cs,nZ mpF fr j = some i ∧ hh j = some cs ∧ RnL (nZ mpF fr) cs cs') ∨ (H i = some cs' ∧ ∀ j,mpF j ≠ some i))
  {vals : List Value} (hv : RdV w (aD C.X ι H) ι args' vals) :
  Calls P k vals.toArray w (fun e w' => ∃ v ι',e = .returned v ∧ HG C ι' (fun j => F j ∧ fi j = none) H2 w' ∧ Carry w (aD C.X ι H) ι w' (aD C.X ι' H2) ι' ∧ Rd w' (aD C.X ι' H2) ι' rr' v) := by
 let W0 : Nat → Prop := fun b => ∃ (j i β : Nat),mpF j = some i ∧ ι i = some (some (b,β))
 let Xc : Nat → Prop := fun b => aD C.X ι H b ∧ ¬ W0 b
 let ιc : Pl := fun j => match mpF j with|some i => ι i|none => none
 let C' : Ctx := { N := 0,w0 := w,W0 := W0,X := Xc,ι0 := ιc,xlt := fun b hb => g.bad_lt b hb.1 }
 have hW0 : ∀ b, W0 b → ¬ C.X b ∧ (C.W0 b ∨ C.w0.heap.size ≤ b) ∧ aD C.X ι H b := by
  rintro b ⟨j,i,β,h1,h2⟩
  obtain ⟨cs,cs',q1,q2,q3⟩ := hH0 j i h1
  rcases g.obj i cs' q2 with ⟨q,_⟩ | ⟨b',β',arr,e,q,q4,q5,q6,q7,q8⟩
  ·rw [q] at h2;cases h2
  ·rw [q] at h2;cases h2;exact ⟨q7,q8,.inr ⟨i,cs',_,q2,q⟩⟩
 have hnone : ∀ i j,fi i = some j → ι i = none := fun i j h1 => g.fresh i (hF j i ((hfi i j).1 h1))
 have hιc : ∀ j i,mpF j = some i → ιc j = ι i := fun j i h => by simp only [ιc,h]
 have hbadc : ∀ b, aD Xc ιc H0 b → aD C.X ι H b := by
  rintro b (⟨h1,_⟩ | ⟨j,cs,β,h1,h2⟩)
  ·exact h1
  ·obtain ⟨i, hi⟩ := hH1 j cs h1
   rw [hιc j i hi] at h2
   exact (hW0 b ⟨j,_,β,hi,h2⟩).2.2
 have hbadc2 : ∀ b, aD C.X ι H b → aD Xc ιc H0 b := by
  intro b hb
  by_cases hw0 : W0 b
  ·obtain ⟨j, i, β, h1, h2⟩ := hw0
   obtain ⟨cs,cs',q1,q2,q3⟩ := hH0 j i h1
   exact .inr ⟨j,cs,β,q1,by rw [hιc j i h1]; exact h2⟩
  ·exact .inl ⟨hb,hw0⟩
 have gc : HG C' ιc F0 H0 w := by
  refine ⟨fun j cs hj => ?_,fun j j' cs cs' b β β' h1 h2 h3 h4 => ?_,Fr.refl _ _,fun _ _ h => h,fun j hj => ?_⟩
  ·obtain ⟨i, hi⟩ := hH1 j cs hj
   obtain ⟨cs1,cs',q1,q2,q3⟩ := hH0 j _ hi
   rw [hj] at q1;cases q1
   rcases g.obj _ cs' q2 with ⟨q4,q5⟩ | ⟨b',β',arr,e,q4,q5,q6,q7,q8,q9⟩
   ·refine .inl ⟨by rw [hιc j i hi]; exact q4, ?_⟩
    subst q5
    exact List.eq_nil_of_length_eq_zero (by rw [q3.len]; rfl)
   ·have hw0 : W0 b' := ⟨j, _, β', hi, q4⟩
    exact .inr ⟨b',β',arr,e,by rw [hιc j i hi]; exact q4,q5,by rw [q3.len]; exact q6,RnL.bwC hιc hbadc q3 q7,fun hx => hx.2 hw0,.inl hw0⟩
  ·obtain ⟨i, hi⟩ := hH1 j cs h1
   obtain ⟨i',hi'⟩ := hH1 j' cs' h2
   obtain ⟨_,c1,_,q2,_⟩ := hH0 j _ hi
   obtain ⟨_,c2,_,q2',_⟩ := hH0 j' _ hi'
   rw [hιc j i hi] at h3
   rw [hιc j' i' hi'] at h4
   have := g.sep _ _ _ _ _ _ _ q2 q2' h3 h4
   exact hmi j j' i hi (by rw [hi',this])
  ·show ιc j = none
   simp only [ιc,hF0 j hj]
 have hvc : RdV w (aD C'.X ιc H0) ιc args vals := RnL.bwV hιc hbadc ha hv
 refine (h C' ιc w vals rfl rfl gc hvc).mono ?_
 rintro e w' ⟨v,r0,H',ιr,rfl,⟨rfl,hkeep⟩,hrd,gr⟩
 let ι' : Pl := fun i => match fi i with|some j => ιr j|none => ι i
 have hmpf : ∀ (j i : Nat), mpF j = some i → fi i = none := by
  intro j i hj
  cases hq : fi i with
  | none => rfl
  | some j2 =>
   obtain ⟨cs,cs',q1,q2,q3⟩ := hH0 j i hj
   rcases g.obj i cs' q2 with ⟨q,_⟩ | ⟨_,_,_,_,q,_⟩ <;> (rw [hnone i _ hq] at q;cases q)
 have hιr : ∀ (j i : Nat), mpF j = some i → ιr j = ι i := by
  intro j i hj
  obtain ⟨cs,cs',q1,q2,q3⟩ := hH0 j i hj
  have : ∃ q, ι i = some q := by
   rcases g.obj i cs' q2 with ⟨q,_⟩ | ⟨_,_,_,_,q,_⟩
   ·exact ⟨_,q⟩
   ·exact ⟨_,q⟩
  obtain ⟨q,hq⟩ := this
  rw [hq]
  exact gr.ex j q (by show ιc j = some q;rw [hιc j i hj]; exact hq)
 have hρ1 : ∀ j i, nZ mpF fr j = some i → (mpF j = some i) ∨ (mpF j = none ∧ fr j = some i) := by
  intro j i hj
  unfold nZ at hj
  split at hj
  ·cases hj;exact .inl (by assumption)
  ·exact .inr ⟨by assumption,hj⟩
 have hto : ∀ j i, nZ mpF fr j = some i → ιr j = ι' i := by
  intro j i hj
  rcases hρ1 j i hj with h2 | ⟨h1,h2⟩
  ·rw [hιr j i h2]; simp only [ι',hmpf j i h2]
  ·simp only [ι',(hfi i j).2 h2]
 have hcase := hw
 have hold : ∀ i cs', H i = some cs' → ι' i = ι i := by
  intro i cs' hi
  simp only [ι']
  cases hq : fi i with
  | none => rfl
  | some j2 => rcases g.obj i cs' hi with ⟨q,_⟩ | ⟨_,_,_,_,q,_⟩ <;> (rw [hnone i _ hq] at q;cases q)
 have hnW : ∀ (i : Nat) cs' b β, H i = some cs' → (∀ j, mpF j ≠ some i) → ι i = some (some (b, β)) → ¬ W0 b := by
  rintro i cs' b β hi hm hb ⟨j,i2,β2,q1,q2⟩
  obtain ⟨cs,c2,_,q3,_⟩ := hH0 j i2 q1
  have := g.sep _ _ _ _ _ _ _ hi q3 hb q2
  subst this
  exact hm j q1
 have hobjlt : ∀ i cs' b β,H i = some cs' → ι i = some (some (b,β)) → b < w.heap.size := fun i cs' b β hi hb => g.bad_lt b (.inr ⟨i,cs',β,hi,hb⟩)
 have hcal : ∀ j cs b β, H' j = some cs → ιr j = some (some (b, β)) → W0 b ∨ w.heap.size ≤ b := by
  intro j cs b β hj hb
  rcases gr.obj j cs hj with ⟨q,_⟩ | ⟨b',β',arr,e,q,q4,q5,q6,q7,q8⟩
  ·rw [q] at hb;cases hb
  ·rw [q] at hb;cases hb;exact q8
 have hbad : ∀ b, aD C.X ι' H2 b → aD C.X ι H b ∨ w.heap.size ≤ b := by
  rintro b (h1 | ⟨i,cs',β,h1,h2⟩)
  ·exact .inl (.inl h1)
  ·rcases hcase i cs' h1 with ⟨j, cs, q1, q2, q3⟩ | ⟨q1, q2⟩
   ·rw [← hto j i q1] at h2
    rcases hcal j cs b β (hkeep j cs q2) h2 with q|q
    ·exact .inl (hW0 b q).2.2
    ·exact .inr q
   ·rw [hold i cs' q1] at h2;exact .inl (.inr ⟨i,cs',β,q1,h2⟩)
 have hfr := gr.fr
 have hcar : Carry w (aD C.X ι H) ι w' (aD C.X ι' H2) ι' := by
  refine ⟨fun b o y h1 h2 => ?_,fun i q hq => ?_,hfr.bs⟩
  ·have hlt := eV h2
   refine ⟨fun hb => ?_,?_⟩
   ·rcases hbad b hb with h | h
    ·exact h1 h
    ·omega
   ·rw [bV (hfr.block b hlt (fun hw0 => h1 (hW0 b hw0).2.2))]; exact h2
  ·simp only [ι']
   cases hq2 : fi i with
   | none => exact hq
   | some j2 => rw [hnone i _ hq2] at hq;cases hq
 have hrn2 : RnH w' (nZ mpF fr) (aD C'.X ιr H') ιr (aD C.X ι' H2) ι' := by
  refine ⟨⟨fun b o y h1 h2 => ⟨fun hb => h1 ?_,h2⟩,fun _ _ h => h,fun _ => Nat.le_refl _⟩,fun j i hj => hto j i hj⟩
  rcases hb with hb | ⟨i,cs',β,q1,q2⟩
  ·exact .inl ⟨.inl hb,fun hw0 => (hW0 b hw0).1 hb⟩
  ·rcases hcase i cs' q1 with ⟨j, cs, r1, r2, r3⟩ | ⟨r1, r2⟩
   ·rw [← hto j i r1] at q2
    exact .inr ⟨j,cs,β,hkeep j cs r2,q2⟩
   ·rw [hold i cs' r1] at q2
    exact .inl ⟨.inr ⟨i,cs',β,r1,q2⟩,hnW i cs' b β r1 r2 q2⟩
 refine ⟨v,ι',rfl,⟨fun i cs' hi => ?_,fun i i2 cs1 cs2 b β β' h1 h2 h3 h4 => ?_,⟨hfr.os.trans g.fr.os,hfr.tape.trans g.fr.tape,hfr.output.trans g.fr.output,Nat.le_trans g.fr.size hfr.size,fun b hb hnw => ?_,fun b => Nat.le_trans (g.fr.bs b) (hfr.bs b)⟩,fun i q hq => hcar.pl i q (g.ex i q hq),fun i hi => ?_⟩,hcar,RnV.fwd hrn2 hr hrd⟩
 ·rcases hcase i cs' hi with ⟨j, cs, q1, q2, q3⟩ | ⟨q1, q2⟩
  ·rcases gr.obj j cs (hkeep j cs q2) with ⟨r1, r2⟩ | ⟨b, β, arr, e, r1, r2, r3, r4, r5, r6⟩
   ·refine .inl ⟨by rw [← hto j i q1]; exact r1, ?_⟩
    subst r2
    exact List.eq_nil_of_length_eq_zero (by rw [← q3.len]; rfl)
   ·refine .inr ⟨b, β, arr, e, by rw [← hto j i q1]; exact r1, r2, by rw [← q3.len]; exact r3, RnL.fwdC hrn2 q3 r4, ?_, ?_⟩
    ·rcases r6 with r6 | r6
     ·exact (hW0 b r6).1
     ·intro hX
      have := C.xlt b hX
      have := g.fr.size
      have : w.heap.size ≤ b := r6
      omega
    ·rcases r6 with r6 | r6
     ·exact (hW0 b r6).2.1
     ·refine .inr ?_
      have := g.fr.size
      have : w.heap.size ≤ b := r6
      omega
  ·rcases g.obj i cs' q1 with ⟨r1, r2⟩ | ⟨b, β, arr, e, r1, r2, r3, r4, r5, r6⟩
   ·exact .inl ⟨by rw [hold i cs' q1]; exact r1,r2⟩
   ·have hlt := cK r2
    have hbl := hfr.block b hlt (hnW i cs' b β q1 q2 r1)
    exact .inr ⟨b,β,arr,e,by rw [hold i cs' q1]; exact r1,by rw [hbl]; exact r2,r3,RdC.carryB hcar _ _ _ (fun o y hy => by rw [bV hbl]; exact hy) r4,r5,r6⟩
 ·rcases hcase i cs1 h1 with ⟨j, c1, q1, q2, q3⟩ | ⟨q1, q2⟩ <;> rcases hcase i2 cs2 h2 with ⟨j2, c2, q1', q2', q3'⟩ | ⟨q1', q2'⟩
  ·rw [← hto j i q1] at h3
   rw [← hto j2 i2 q1'] at h4
   have := gr.sep _ _ _ _ _ _ _ (hkeep j c1 q2) (hkeep j2 c2 q2') h3 h4
   subst this
   rw [q1] at q1'; cases q1'; rfl
  ·rw [← hto j i q1] at h3
   rw [hold i2 cs2 q1'] at h4
   have hlt := hobjlt i2 cs2 b _ q1' h4
   rcases hcal j c1 b _ (hkeep j c1 q2) h3 with q|q
   ·exact (hnW i2 cs2 b _ q1' q2' h4 q).elim
   ·omega
  ·rw [hold i cs1 q1] at h3
   rw [← hto j2 i2 q1'] at h4
   have hlt := hobjlt i cs1 b _ q1 h3
   rcases hcal j2 c2 b _ (hkeep j2 c2 q2') h4 with q|q
   ·exact (hnW i cs1 b _ q1 q2 h3 q).elim
   ·omega
  ·rw [hold i cs1 q1] at h3
   rw [hold i2 cs2 q1'] at h4
   exact g.sep _ _ _ _ _ _ _ q1 q1' h3 h4
 ·have hb2 : b < w.heap.size := by have := g.fr.size; omega
  rw [hfr.block b hb2 (fun hw0 => ?_)]
  ·exact g.fr.block b hb hnw
  ·rcases (hW0 b hw0).2.1 with q | q
   ·exact hnw q
   ·omega
 ·simp only [ι', hi.2]
  exact g.fresh i hi.1
attribute [local irreducible] aX
def Ju (P : Program) (k : FuncId) (args : List AV) (R0 : List (List Bool)) (r : AV) (hh : List (Nat × Option (List AV))) : Prop :=
 tY P k args (aP (fQ R0)) (Fn 0 ⟨0,aX + R0.length⟩) (fun r' H' => r' = r ∧ ∀ id cs,aP (hh ++ fQ R0) id = some cs → H' id = some cs)
def Kd (P : Program) (k : FuncId) (args : List AV) (r : AV) (R1 : List (List Bool)) : Prop :=
 tY P k args (aP []) (Fn 0 ⟨0,aX⟩) (fun r' H' => r' = r ∧ ∀ id cs,aP (fQ R1) id = some cs → H' id = some cs)
theorem nS {hs:List (Nat × Option (List AV))}{r r':AV}{R0:List (List Bool)}{hh:List (Nat × Option (List AV))}(hr:r' = r) (hh':kQ hs hh) (hF:FamR R0 R0 hs hs):r' = r ∧ ∀ id cs,aP (hh ++ fQ R0) id = some cs → aP hs id = some cs:=by
 refine ⟨hr,fun id cs h => ?_⟩
 rcases pD h with h|h
 ·exact nA hh' id cs h
 ·obtain ⟨k, hk, rfl, rfl⟩ := kL h
  exact hF.get hk
theorem Jo {hs:List (Nat × Option (List AV))}{r r':AV}{R0:List (List Bool)}(hr:r' = r) (hF:FamR R0 R0 hs hs):r' = r ∧ ∀ id cs,aP (fQ R0) id = some cs → aP hs id = some cs :=
 nS (hh := []) hr trivial hF
def F4 (b m : Nat) (j : Nat) : Option Nat := if aX ≤ j ∧ j < aX + m then some (b + j) else none
def Jw (n n1 : Nat) (j : Nat) : Option Nat := if j < n1 then some (n + j) else none
def Ki (n n1 : Nat) (i : Nat) : Option Nat := if n ≤ i ∧ i < n + n1 then some (i - n) else none
def J8 (b m n n1 : Nat) : Nat → Option Nat := nZ (F4 b m) (Jw n n1)
theorem C9 {mpF fr:Nat → Option Nat}{j i:Nat}(h:mpF j = some i):nZ mpF fr j = some i := by unfold nZ;rw [h]
theorem CY {mpF fr:Nat → Option Nat}{j:Nat}(h:mpF j = none):nZ mpF fr j = fr j := by unfold nZ;rw [h]
theorem lS {b m k:Nat}(h:k < m):F4 b m (k + aX) = some (b + k + aX):=by
 unfold F4;rw [if_pos (by omega),Nat.add_assoc]
theorem GD {b m n n1 k:Nat}(h:k < m):J8 b m n n1 (k + aX) = some (b + k + aX) := C9 (lS h)
theorem pF {b m n n1 j:Nat}(h:j < n1) (hb:j < aX):J8 b m n n1 j = some (n + j):=by
 have e : F4 b m j = none := by unfold F4;rw [if_neg (by omega)]
 refine (CY e).trans ?_
 unfold Jw;rw [if_pos h]
theorem rn_rows {ρ:Nat → Option Nat}{b b' m w:Nat}(h:∀ k,k < m → ρ (b + k + aX) = some (b' + k + aX)):RnL ρ (flat (vL b w) (List.range m)) (flat (vL b' w) (List.range m)) :=
 RnL.flt fun k hk => by rw [List.mem_range] at hk;exact .cons (.own (h k hk)) .nil
theorem cU {m:List (Nat × Nat)}{lo:Lo}{pn:Option Nat}{b k w:Nat}(h:aX + (b + k) ≤ lo.fb):RnL (iL m lo pn) (flat (vL b w) (List.range k)) (flat (vL b w) (List.range k)) :=
 rn_rows fun j hj => gI (by omega) (by omega)
def Jr (ρ : Nat → Option Nat) (hh : List (Nat × Option (List AV))) : List (Nat × Option (List AV)) → Prop
 | [] => True
 | (i,none) :: l => Jr ρ hh l
 | (i,some cs') :: l => (∃ j cs,ρ j = some i ∧ aP hh j = some cs ∧ RnL ρ cs cs') ∧ Jr ρ hh l
theorem yW {ρ:Nat → Option Nat}{hh:List (Nat × Option (List AV))}:∀ {ws:List (Nat × Option (List AV))},Jr ρ hh ws → ∀ i cs',(i,some cs') ∈ ws → ∃ j cs,ρ j = some i ∧ aP hh j = some cs ∧ RnL ρ cs cs'
 | [],_,i,cs',h => by simp at h
 | (u, none) :: l, hw, i, cs', h => by
  simp only [Jr] at hw
  rcases List.mem_cons.1 h with h|h
  ·cases h
  ·exact yW hw i cs' h
 | (u, some c) :: l, hw, i, cs', h => by
  simp only [Jr] at hw
  rcases List.mem_cons.1 h with h|h
  ·cases h;exact hw.1
  ·exact yW hw.2 i cs' h
section
variable {P : Program} {N : Nat} {Q : Exit → AS → Prop} {all : Array Oper} {rest : List Oper} {ts : List (Nat × AV)} {hs : List (Nat × Option (List AV))} {n : Nat} {z0 : Lo} {md : Md}
variable {d : Nat} {ty : TypeId} {pos : String} {af : Array Edge}
theorem vT {k:FuncId}{args:Array Operand}{tys:Array TypeId}{avs avs0:List AV}{R R0:List (List Bool)}{r rr':AV}{hh:List (Nat × Option (List AV))}(b n1:Nat) (D:List Nat) (ws:List (Nat × Option (List AV))) [hc:CaT P k]
  (ha : evL (lk ts) args.toList = some avs) (h : Ju P k avs0 R0 r hh) (hF : FamR R R hs hs) (hb : b + R0.length ≤ R.length) (hR : ∀ k,k < R0.length → R0[k]! = R[b + k]!) (hD : ∀ k,k < R0.length → b + k + aX ∈ D)
  (har : RnL (F4 b R0.length) avs0 avs) (hk : gL aX hh = true) (hr : RnV (J8 b R0.length n n1) r rr') (hw : Jr (J8 b R0.length n n1) hh ws) (hM : Nat.ble (n + n1) aX = true) (hN : Nat.blt d N = true)
  {md' : Md} [hmd : MdA md (jS args.toList ++ D.map .inr) (ws.map (fun p => .inr p.1) ++ [.inl d]) md']
  (kk : RW P N all Q md' rest ⟨(d,rr') :: ts,mY hs ws,n + n1,z0⟩) : RW P N all Q md (⟨some d,.call ⟨.value (.func k),args,tys⟩,ty,pos,af,none⟩ :: rest) ⟨ts,hs,n,z0⟩ := by
 have hM' := Nat.le_of_ble_eq_true hM
 refine iT (rs := jS args.toList ++ D.map .inr) (ws := ws) (n' := n + n1) (out := rr') rfl (Nat.le_add_right _ _) (.inr hM') (fun C ι F T H a w K Q' hCN ag hFf g gh hK => ?_) (fun x hx => by cases hx;exact dS hN) (by simp only [wD]; rw [← hmd.pf] at kk;exact kk)
 simp only [Oper.wp,eZ hc.pf,Oper.upon]
 have hH : ∀ q, q < R0.length → H (b + q + aX) = some (flat cB R[b + q]!) := fun q hq => by
  rw [ag.r.h _ (List.mem_map_of_mem (hD q hq))]; exact hF.get (by omega)
 have hmp : ∀ j i, F4 b R0.length j = some i → ∃ q, q < R0.length ∧ j = q + aX ∧ i = b + q + aX := by
  intro j i hj
  unfold F4 at hj
  split at hj
  ·cases hj;exact ⟨j - aX,by omega,by omega,by omega⟩
  ·cases hj
 have hrh : ∀ j i, Jw n n1 j = some i → j < n1 ∧ i = n + j := by
  intro j i hj
  unfold Jw at hj
  split at hj
  ·cases hj;exact ⟨by assumption,rfl⟩
  ·cases hj
 refine (wZ (fr := Jw n n1) (fi := Ki n n1) (hh := aP (hh ++ fQ R0)) (H2 := jD H ws) h (fun j j' i h1 h2 => ?_) (fun i j => ?_) (fun j i h1 => ?_) (fun j hj => ?_) gh (fun j i hj => ?_) (fun j cs hj => ?_) har (fun j i hj => ?_) hr (fun i cs' hi => ?_) (gK g (ag.l.evL.trans ha))).mono ?_
 ·obtain ⟨q, _, _, _⟩ := hmp j i h1
  obtain ⟨q',_,_,_⟩ := hmp j' i h2
  omega
 ·unfold Ki Jw
  constructor
  ·intro h1
   split at h1
   ·cases h1;rw [if_pos (by omega)]; congr 1;omega
   ·cases h1
  ·intro h1
   split at h1
   ·cases h1;rw [if_pos (by omega)]; congr 1;omega
   ·cases h1
 ·have := hrh j i h1
  unfold F4;rw [if_neg (by omega)]
 ·have h1 : j < aX ∨ aX + R0.length ≤ j := hj.2
  unfold F4;rw [if_neg (by omega)]
 ·obtain ⟨q, q1, rfl, rfl⟩ := hmp j i hj
  refine ⟨flat cB R0[q]!,flat cB R[b + q]!,?_,hH q q1,?_⟩
  ·rw [nD,if_pos q1]
  ·rw [hR q q1]; exact .pur (inferInstance : Pur (flat cB R[b + q]!)).pf
 ·obtain ⟨q, q1, rfl, rfl⟩ := kL hj
  exact ⟨_,lS q1⟩
 ·obtain ⟨q1, rfl⟩ := hrh j i hj
  exact hFf _ (Nat.le_add_right _ _) (by omega)
 ·rcases qT hi with h1 | ⟨h1, h2⟩
  ·obtain ⟨j, cs, q1, q2, q3⟩ := yW hw i cs' h1
   exact .inl ⟨j,cs,q1,Ex q2,q3⟩
  ·by_cases hq : ∃ q, q < R0.length ∧ i = b + q + aX
   ·obtain ⟨q, q1, rfl⟩ := hq
    rw [hH q q1] at h1
    cases h1
    refine .inl ⟨q + aX,flat cB R0[q]!,GD q1,?_,?_⟩
    ·rw [FR (oV (by omega) hk),nD,if_pos q1]
    ·rw [hR q q1]; exact .pur (inferInstance : Pur (flat cB R[b + q]!)).pf
   ·refine .inr ⟨h1, fun j hj => hq ?_⟩
    obtain ⟨q,q1,_,q2⟩ := hmp j i hj
    exact ⟨q,q1,q2⟩
 ·rintro e w' ⟨v, ι', rfl, g', c', hrd⟩
  refine hK ι' w' v (g.carry c') (g'.less (fun _ _ h => h) (fun j hj => ⟨hj.1,?_⟩)).1 hrd
  unfold Ki;rw [if_neg hj.2]
theorem Ep {k:FuncId}{args:Array Operand}{tys:Array TypeId}{avs:List AV}{R R1:List (List Bool)}{r rr':AV}{hs':List (Nat × Option (List AV))}{l0:Nat}[hc:CaT P k]
  (ha : evL (lk ts) args.toList = some avs) (h : Kd P k avs r R1) (hp : bJ avs = true) (hF : FamR R (R ++ R1) hs hs') (hz : z0 = ⟨l0,aX + R.length⟩)
  (hr : RnV (fun j => if aX ≤ j ∧ j < aX + R1.length then some (R.length + j) else none) r rr') (hM : Nat.ble n aX = true) (hN : Nat.blt d N = true)
  (kk : RW P N all Q .txt rest ⟨(d,rr') :: ts,hs',n,⟨l0,aX + (R ++ R1).length⟩⟩) : RW P N all Q .txt (⟨some d,.call ⟨.value (.func k),args,tys⟩,ty,pos,af,none⟩ :: rest) ⟨ts,hs,n,z0⟩ := by
 subst hz
 rintro C a w hCN ⟨h0,ι,g,gh⟩
 refine wpList_plain rfl (fun K hK => ?_)
 simp only [Oper.wp,eZ hc.pf,Oper.upon]
 have hM' := Nat.le_of_ble_eq_true hM
 have hrh : ∀ j i, (fun j => if aX ≤ j ∧ j < aX + R1.length then some (R.length + j) else none) j = some i → aX ≤ j ∧ j < aX + R1.length ∧ i = R.length + j := by
  intro j i hj
  dsimp only at hj
  split at hj
  ·rename_i hh;cases hj;exact ⟨hh.1,hh.2,rfl⟩
  ·cases hj
 have hrho : nZ (fun _ => none) (fun j => if aX ≤ j ∧ j < aX + R1.length then some (R.length + j) else none) = (fun j => if aX ≤ j ∧ j < aX + R1.length then some (R.length + j) else none) := by funext j;rfl
 have hlen : (R ++ R1).length = R.length + R1.length := List.length_append
 refine (wZ (mpF := fun _ => none) (fr := fun j => if aX ≤ j ∧ j < aX + R1.length then some (R.length + j) else none) (fi := fun i => if aX + R.length ≤ i ∧ i < aX + R.length + R1.length then some (i - R.length) else none) (hh := aP (fQ R1)) (H2 := aP hs') (args' := avs)
  h (fun j j' i h1 h2 => by cases h1) (fun i j => ?_) (fun j i h1 => rfl) (fun j hj => rfl) gh (fun j i hj => by cases hj) (fun j cs hj => by simp [aP] at hj) (.pur hp) (fun j i hj => ?_) (rr' := rr') (by rw [hrho]; exact hr) (fun i cs' hi => ?_) (gK g ha)).mono ?_
 ·constructor
  ·intro h1
   split at h1
   ·cases h1;rw [if_pos (by omega)]; congr 1;omega
   ·cases h1
  ·intro h1
   split at h1
   ·cases h1;rw [if_pos (by omega)]; congr 1;omega
   ·cases h1
 ·obtain ⟨q1, q2, rfl⟩ := hrh j i hj
  exact ⟨by show n ≤ R.length + j;omega,.inr (by show aX + R.length ≤ R.length + j;omega)⟩
 ·rcases Nat.lt_or_ge i aX with hi2 | hi2
  ·exact .inr ⟨by rw [hF.low i hi2]; exact hi,fun j => by simp⟩
  ·obtain ⟨q, rfl⟩ : ∃ q, i = q + aX := ⟨i - aX, by omega⟩
   have hg := hF.symm.fam q
   rw [hi] at hg
   split at hg
   ·rename_i hq
    cases hg
    rcases Nat.lt_or_ge q R.length with hq2|hq2
    ·refine .inr ⟨?_, fun j => by simp⟩
     have e : (R ++ R1)[q]! = R[q]! := by rw [bF _ _ hq,bF _ _ hq2,List.getElem_append_left hq2]
     rw [e]; exact hF.get hq2
    ·refine .inl ⟨(q - R.length) + aX, flat cB R1[q - R.length]!, ?_, ?_, ?_⟩
     ·rw [hrho]
      show (if aX ≤ q - R.length + aX ∧ q - R.length + aX < aX + R1.length then some (R.length + (q - R.length + aX)) else none) = some (q + aX)
      rw [if_pos (by omega)]; congr 1;omega
     ·rw [nD,if_pos (by omega)]
     ·have e : (R ++ R1)[q]! = R1[q - R.length]! := by rw [bF _ _ hq, bF _ _ (by omega), List.getElem_append_right hq2]
      rw [e]; exact .pur (inferInstance : Pur (flat cB R1[q - R.length]!)).pf
   ·cases hg
 ·rintro e w' ⟨v, ι', rfl, g', c', hrd⟩
  refine hK _ _ (kk C _ _ hCN ⟨fun id hid => ?_,ι',?_,?_⟩)
  ·rcases h0 id hid with q | q
   ·exact .inl ⟨q.1,by have := q.2;show id < aX + (R ++ R1).length;have h5 : id < aX + R.length := this;omega⟩
   ·exact .inr q
  ·show TG C ι' (lk ((d, rr') :: ts)) _ _ _
   rw [lL]
   exact (g.carry c').put (hCN.symm ▸ dS hN) hrd
  ·refine (g'.less (fun _ _ h => h) (fun j hj => ?_)).1
   have h3 : n ≤ j := hj.1
   have h4 : j < aX ∨ aX + (R ++ R1).length ≤ j := hj.2
   refine ⟨⟨h3,?_⟩,?_⟩
   ·show j < aX ∨ aX + R.length ≤ j
    omega
   ·rw [if_neg (by omega)]
end
theorem Dl {P:Program}{k:FuncId}{fn:Func}{c:Code}{args:List AV}{R0:List (List Bool)}{r:AV}{hh:List (Nat × Option (List AV))}(hf:P.funcs[k]? = some fn) (hb:fn.body = some c) (hN:args.length ≤ fn.ntmps)
  (h : AW P fn.ntmps c (mD P fn.results (fun r' H' => r' = r ∧ ∀ id cs,aP (hh ++ fQ R0) id = some cs → H' id = some cs)) ⟨dE 0 args,fQ R0,0,⟨0,aX + R0.length⟩⟩) : Ju P k args R0 r hh := nB hf hb hN h
theorem Dq {P:Program}{k:FuncId}{fn:Func}{c:Code}{args:List AV}{R1:List (List Bool)}{r:AV}(hf:P.funcs[k]? = some fn) (hb:fn.body = some c) (hN:args.length ≤ fn.ntmps)
  (h : AW P fn.ntmps c (mD P fn.results (fun r' H' => r' = r ∧ ∀ id cs,aP (fQ R1) id = some cs → H' id = some cs)) ⟨dE 0 args,[],0,⟨0,aX⟩⟩) : Kd P k args r R1 := nB hf hb hN h
theorem Le.virt {ts:List (Nat × AV)}{hs:List (Nat × Option (List AV))}{n:Nat}{z0:Lo}(hn:n < aX):Le ⟨ts,hs,n,z0⟩ ⟨ts,(n,some []) :: hs,n + 1,z0⟩:=by
 rintro C a w ⟨h0,ι,g,gh⟩
 obtain ⟨g1,c1⟩ := gh.virt (id := n) ⟨Nat.le_refl _,.inl hn⟩
 have e : aP ((n,some []) :: hs) = dA (aP hs) n (some []) := yI _ _ _
 refine ⟨h0,dA ι n (some none),?_,?_⟩
 ·show TG C _ (lk ts) (aP ((n, some []) :: hs)) a w
  rw [e]; exact g.carry c1
 ·show HG C _ _ (aP ((n, some []) :: hs)) w
  rw [e]
  refine (g1.less (fun _ _ h => h) (fun j hj => ?_)).1
  have h1 : n + 1 ≤ j := hj.1
  exact ⟨⟨by show n ≤ j;omega,hj.2⟩,by omega⟩
theorem Le.cellsN {ts:List (Nat × AV)}{hs:List (Nat × Option (List AV))}{n:Nat}{z0:Lo}{i q:Nat}{cs cs' cq:List AV}(hi:aP hs i = some cs) (hq:aP hs q = some cq) (hl:cs'.length = cs.length)
  (h : ∀ (w : World) (bad : Nat → Prop) (ι : Pl) (b β : Nat),(∃ p,ι q = some p) → RdC w bad ι cs b β → RdC w bad ι cs' b β) :
  Le ⟨ts,hs,n,z0⟩ ⟨ts,(i,some cs') :: hs,n,z0⟩ := by
 rintro C a w ⟨h0,ι,g,gh⟩
 have hqq : ∃ p, ι q = some p := by
  rcases gh.obj q cq hq with ⟨p1,_⟩ | ⟨_,_,_,_,p1,_⟩ <;> exact ⟨_,p1⟩
 have hk : ∀ id c, aP ((i, some cs') :: hs) id = some c → (id = i ∧ c = cs') ∨ (id ≠ i ∧ aP hs id = some c) := by
  intro id c hc
  rw [b7] at hc
  split at hc
  ·rename_i e;cases hc;exact .inl ⟨e,rfl⟩
  ·rename_i e;exact .inr ⟨fun h => e h,hc⟩
 have hk2 : ∀ id c, aP hs id = some c → ∃ c', aP ((i, some cs') :: hs) id = some c' := by
  intro id c hc
  rw [b7]
  split
  ·exact ⟨_,rfl⟩
  ·exact ⟨_,hc⟩
 have hb : aD C.X ι (aP ((i, some cs') :: hs)) = aD C.X ι (aP hs) := by
  funext b
  refine propext ⟨?_,?_⟩
  ·rintro (h | ⟨id, c, β, h1, h2⟩)
   ·exact .inl h
   ·rcases hk id c h1 with ⟨rfl, _⟩ | ⟨_, h3⟩
    ·exact .inr ⟨_,_,_,hi,h2⟩
    ·exact .inr ⟨_,_,_,h3,h2⟩
  ·rintro (h | ⟨id, c, β, h1, h2⟩)
   ·exact .inl h
   ·obtain ⟨c', h3⟩ := hk2 id c h1
    exact .inr ⟨_,_,_,h3,h2⟩
 refine ⟨h0,ι,⟨g.df,g.sz,fun t av ht => ?_⟩,?_,?_,gh.fr,gh.ex,gh.fresh⟩
 ·show ∃ y, a.tmps[t]? = some y ∧ Rd w (aD C.X ι (aP ((i, some cs') :: hs))) ι av y
  rw [hb]; exact g.tm t av ht
 ·intro id c hc
  show _ ∨ ∃ b β arr e,ι id = some (some (b,β)) ∧ w.heap[b]? = some (.cells arr e (0,0)) ∧ β + c.length ≤ arr.size ∧ RdC w (aD C.X ι (aP ((i,some cs') :: hs))) ι c b β ∧ ¬ C.X b ∧ (C.W0 b ∨ C.w0.heap.size ≤ b)
  rw [hb]
  rcases hk id c hc with ⟨rfl,rfl⟩ | ⟨_,h3⟩
  ·rcases gh.obj _ _ hi with ⟨q1, q2⟩ | ⟨b, β, arr, e, q1, q2, q3, q4, q5⟩
   ·subst q2
    exact .inl ⟨q1,List.eq_nil_of_length_eq_zero hl⟩
   ·exact .inr ⟨b,β,arr,e,q1,q2,by rw [hl]; exact q3,h _ _ _ _ _ hqq q4,q5⟩
  ·exact gh.obj _ _ h3
 ·intro id id' c c' b β β' h1 h2 h3 h4
  obtain ⟨d1, e1⟩ : ∃ d, aP hs id = some d := by
   rcases hk id c h1 with ⟨rfl,_⟩ | ⟨_,h⟩
   ·exact ⟨_,hi⟩
   ·exact ⟨_,h⟩
  obtain ⟨d2, e2⟩ : ∃ d, aP hs id' = some d := by
   rcases hk id' c' h2 with ⟨rfl,_⟩ | ⟨_,h⟩
   ·exact ⟨_,hi⟩
   ·exact ⟨_,h⟩
  exact gh.sep id id' d1 d2 b β β' e1 e2 h3 h4
theorem uR {w:World}{bad:Nat → Prop}{ι:Pl}{c c':AV}(hc:∀ y,Rd w bad ι c y → Rd w bad ι c' y):∀ (a:List AV) (r:List AV) (b o:Nat),RdC w bad ι (a ++ c :: r) b o → RdC w bad ι (a ++ c' :: r) b o
 | [], r, b, o, h => by
  simp only [List.nil_append,RdC] at h ⊢
  obtain ⟨⟨x,h1,h2,h3⟩,h4⟩ := h
  exact ⟨⟨x,h1,h2,hc _ h3⟩,h4⟩
 | x :: a, r, b, o, h => by
  simp only [List.cons_append,RdC] at h ⊢
  exact ⟨h.1,uR hc a r b (o + 1) h.2⟩
theorem Le.nilCell {ts:List (Nat × AV)}{hs:List (Nat × Option (List AV))}{n:Nat}{z0:Lo}{i:Nat}(e:Nat) (c1:List AV){c2:List AV}(hi:aP hs i = some (c1 ++ .v (.slice none 0 0) :: c2)) (hin:i ≠ n) (hn:n < aX) :
  Le ⟨ts,hs,n,z0⟩ ⟨ts,(i,some (c1 ++ .own n 0 0 e :: c2)) :: (n,some []) :: hs,n + 1,z0⟩ :=
 (Le.virt hn).trans (Le.cellsN (q := n) (cs := c1 ++ .v (.slice none 0 0) :: c2) (by rw [b7, if_neg hin]; exact hi) (by rw [b7, if_pos rfl]) (by simp) fun w bad ι b β hp hr =>
  uR (fun y hy => by simp only [Rd] at hy ⊢; exact .inl ⟨hp,trivial,none,hy⟩) c1 c2 b β hr)
theorem Le.frzC {ts:List (Nat × AV)}{hs:List (Nat × Option (List AV))}{n:Nat}{z0:Lo}{j i m e:Nat}(c1:List AV){c2 d:List AV}(hj:aP hs j = some (c1 ++ .own i 0 m e :: c2)) (hi:aP hs i = some d) (hij:j ≠ i) :
  Le ⟨ts,hs,n,z0⟩ ⟨ts,(j,some (c1 ++ .imm m d :: c2)) :: (i,none) :: hs,n,z0⟩ := by
 rintro C a w ⟨h0,ι,g,gh⟩
 have hk : ∀ id c, aP ((j, some (c1 ++ .imm m d :: c2)) :: (i, none) :: hs) id = some c → (id = j ∧ c = c1 ++ .imm m d :: c2) ∨ (id ≠ j ∧ id ≠ i ∧ aP hs id = some c) := by
  intro id c hc
  rw [b7] at hc
  split at hc
  ·rename_i e;cases hc;exact .inl ⟨e,rfl⟩
  ·rename_i e
   rw [b7] at hc
   split at hc
   ·cases hc
   ·rename_i e2;exact .inr ⟨e,e2,hc⟩
 have hk2 : ∀ id c, aP ((j, some (c1 ++ .imm m d :: c2)) :: (i, none) :: hs) id = some c → id ≠ i ∧ ∃ c', aP hs id = some c' := by
  intro id c hc
  rcases hk id c hc with ⟨rfl,_⟩ | ⟨_,h2,h3⟩
  ·exact ⟨hij,_,hj⟩
  ·exact ⟨h2,_,h3⟩
 have hbad : ∀ b, aD C.X ι (aP ((j, some (c1 ++ .imm m d :: c2)) :: (i, none) :: hs)) b → aD C.X ι (aP hs) b := by
  rintro b (h | ⟨id,c,β,h1,h2⟩)
  ·exact .inl h
  ·obtain ⟨_, c', h3⟩ := hk2 id c h1
   exact .inr ⟨id,c',β,h3,h2⟩
 have car : Carry w (aD C.X ι (aP hs)) ι w (aD C.X ι (aP ((j,some (c1 ++ .imm m d :: c2)) :: (i,none) :: hs))) ι := ⟨fun b o x h1 h2 => ⟨fun q => h1 (hbad b q),h2⟩,fun _ _ h => h,fun _ => Nat.le_refl _⟩
 have hcell : ∀ y, Rd w (aD C.X ι (aP ((j, some (c1 ++ .imm m d :: c2)) :: (i, none) :: hs))) ι (.own i 0 m e) y → Rd w (aD C.X ι (aP ((j, some (c1 ++ .imm m d :: c2)) :: (i, none) :: hs))) ι (.imm m d) y := by
  intro y hr
  simp only [Rd] at hr ⊢
  rcases hr with ⟨_,h2,a',h3⟩ | ⟨b,β,c,h1,h2,h3,h4⟩
  ·subst h2;exact ⟨a',0,h3,.inl rfl⟩
  ·refine ⟨_, c, h2, ?_⟩
   rcases Nat.eq_zero_or_pos m with h5|h5
   ·exact .inl h5
   ·refine .inr ⟨b, β + 0, h3, rfl, ?_⟩
    rcases gh.obj i d hi with ⟨q1,q2⟩ | ⟨b',β',arr,e',q1,q2,q3,q4,q5,q6⟩
    ·rw [h1] at q1;cases q1
    ·rw [h1] at q1; cases q1
     refine .inr ⟨?_,RdC.carryB car _ _ _ (fun o x hx => hx) q4⟩
     rintro (h | ⟨id',cs',β',r1,r2⟩)
     ·exact q5 h
     ·obtain ⟨r3, c', r4⟩ := hk2 id' cs' r1
      exact r3 (gh.sep _ _ _ _ _ _ _ r4 hi r2 h1)
 refine ⟨h0,ι,g.carry car,⟨fun id c hc => ?_,fun id id' c c' b β β' h1 h2 h3 h4 => ?_,gh.fr,gh.ex,gh.fresh⟩⟩
 ·rcases hk id c hc with ⟨rfl, rfl⟩ | ⟨_, _, h3⟩
  ·rcases gh.obj _ _ hj with ⟨q1, q2⟩ | ⟨b, β, arr, e, q1, q2, q3, q4, q5⟩
   ·simp at q2
   ·exact .inr ⟨b,β,arr,e,q1,q2,by simpa using q3,uR hcell c1 c2 b β (RdC.carryB car _ _ _ (fun o x hx => hx) q4),q5⟩
  ·rcases gh.obj _ _ h3 with ⟨q1, q2⟩ | ⟨b, β, arr, e, q1, q2, q3, q4, q5⟩
   ·exact .inl ⟨q1,q2⟩
   ·exact .inr ⟨b,β,arr,e,q1,q2,q3,RdC.carryB car _ _ _ (fun o x hx => hx) q4,q5⟩
 ·obtain ⟨_, d1, e1⟩ := hk2 id c h1
  obtain ⟨_,d2,e2⟩ := hk2 id' c' h2
  exact gh.sep id id' d1 d2 b β β' e1 e2 h3 h4
theorem Ez {R:List (List Bool)}{hs hs':List (Nat × Option (List AV))}{k m:Nat}(hF:FamR R R hs hs') (hk:k < R.length) (hm:m = R[k]!.length):sCells (aP hs) 1 (oE (.own (k + aX) 0 m 1)) = some (m,flat cB R[k]!):=by
 subst hm
 have hl : (flat cB R[k]!).length = R[k]!.length * 1 := aK cB _
 show (aP hs (k + aX)).bind (fun cs => if R[k]!.length * 1 ≤ (cs.drop 0).length then some (R[k]!.length,(cs.drop 0).take (R[k]!.length * 1)) else none) = _
 rw [hF.get hk,Option.bind_some,List.drop_zero,if_pos (by omega),List.take_of_length_le (by omega)]
theorem A4 {cs:List AV}{v:Nat}{c:AV}:iH cs (0 + v * 1) [c] = cs.take v ++ c :: cs.drop (v + 1):=by
 unfold iH;simp
theorem G3 {u:List (List Bool)}{v:Nat}{r:List Bool}(hv:v < u.length):(flat gJ u).take v ++ .imm r.length (flat cB r) :: (flat gJ u).drop (v + 1) = flat gJ (u.set v r):=by
 have h := BD (xs := u) (k := v) (r := r) hv
 rw [A4] at h;exact h
theorem Le.frzRow {ts:List (Nat × AV)}{hs:List (Nat × Option (List AV))}{n:Nat}{z0:Lo}{j q v m:Nat}{u:List (List Bool)}{r:List Bool}(hj:aP hs j = some (iH (flat gJ u) (0 + v * 1) [.own q 0 m 1])) (hq:aP hs q = some (flat cB r)) (hm:m = r.length) (hv:v < u.length) (hjq:j ≠ q) :
  Le ⟨ts,hs,n,z0⟩ ⟨ts,(j,some (flat gJ (u.set v r))) :: (q,none) :: hs,n,z0⟩ := by
 subst hm
 rw [A4] at hj
 have h := Le.frzC (ts := ts) (n := n) (z0 := z0) ((flat gJ u).take v) hj hq hjq
 rwa [G3 hv] at h
theorem Le.fdrop {ts:List (Nat × AV)}{hs:List (Nat × Option (List AV))}{n:Nat}{z0:Lo}{k:Nat}{R:List (List Bool)}(hF:FamR R R hs hs) (hk:k < R.length):Le ⟨ts,(k + aX,some (flat cB R[k]!)) :: hs,n,z0⟩ ⟨ts,hs,n,z0⟩:=by
 refine Le.of (fun _ _ h => h) (fun i cs h => ?_) (Nat.le_refl _) rfl
 have h' : aP hs i = some cs := h
 show aP ((k + aX,some (flat cB R[k]!)) :: hs) i = some cs
 rw [b7]
 split
 ·rename_i e;subst e;rw [hF.get hk] at h'; exact h'
 ·exact h'
theorem JN {i k:Nat}(hi:Nat.blt i aX = true):distinct [i,k + aX] = true:=by
 have h1 := dS hi
 have : Nat.beq i (k + aX) = false := by
  cases h : Nat.beq i (k + aX) with
  | false => rfl
  | true => have := Nat.eq_of_beq_eq_true h;omega
 simp only [distinct,List.all_cons,List.all_nil,this]; rfl
structure Hid (T : Prop) : Prop where pf : T
theorem Kx {G:Prop}{T:Prop}(key:T) (main:Hid T → G):G := main ⟨key⟩
structure Hy (T : Prop) : Prop where pf : T
theorem J7:(∀ a b:Bool,((a && b) = true) = (a = true ∧ b = true)) ∧ (∀ a b:Bool,((a && b) = false) ↔ (a = false ∨ b = false)) ∧ (∀ a b:Bool,((a || b) = true) = (a = true ∨ b = true)) ∧ (∀ a b:Bool,((a || b) = false) ↔ (a = false ∧ b = false)) ∧
  (∀ (p : Prop) [Decidable p],(decide p = true) = p) ∧ (∀ (p : Prop) [Decidable p],(decide p = false) ↔ ¬ p) ∧ (∀ a : Bool,((!a) = true) ↔ a = false) ∧ (∀ a : Bool,((!a) = false) ↔ a = true) ∧ ((!true) = false) ∧ ((!false) = true) ∧ (∀ a b : Int,¬ a < b ↔ b ≤ a) ∧ (∀ a b : Int,¬ a ≤ b ↔ b < a) :=
 ⟨fun a b => Bool.and_eq_true a b,fun a b => Bool.and_eq_false_iff,fun a b => Bool.or_eq_true a b,fun a b => Bool.or_eq_false_iff,fun p _ => by simp,fun p _ => decide_eq_false_iff_not,fun a => by simp,fun a => by simp,rfl,rfl,fun _ _ => Int.not_lt,fun _ _ => Int.not_le⟩
theorem kD:(∀ {α:Type}(a b:List α),(a ++ b).length = a.length + b.length) ∧ (∀ {α:Type}(a:α) (b:List α),(a :: b).length = b.length + 1) ∧ (∀ {α:Type},([]:List α).length = 0) ∧ (∀ {α:Type}(a:List α) (i:Nat) (x:α),(a.set i x).length = a.length) ∧ (∀ {α:Type}(i:Nat) (a:List α),(a.take i).length = min i a.length) ∧
  (∀ {α β : Type} (f : α → β) (a : List α),(a.map f).length = a.length) ∧ (∀ {α : Type} (n : Nat) (a : α),(List.replicate n a).length = n) ∧ (∀ (l : List Stmt) (b : Nat),(gA b l).length = b8 l) ∧ (∀ n : Nat,n * 1 = n) ∧ (∀ n : Nat,0 + n = n) ∧ (∀ n : Nat,n + 0 = n) :=
 ⟨fun _ _ => List.length_append,fun _ _ => rfl,rfl,fun _ _ _ => List.length_set,fun _ _ => List.length_take,fun _ _ => List.length_map _,fun _ _ => List.length_replicate,bK,Nat.mul_one,Nat.zero_add,Nat.add_zero⟩
theorem bS {α:Type}{p q r:α → Prop}(x:α) (h3:r x) (h1:p x) (h2:q x):∃ x,p x ∧ q x ∧ r x := ⟨x,h1,h2,h3⟩
theorem Kq {G K:Prop}(k:K) (h:Hy K → G := by first|(intro k;(first|((with_reducible apply nT);(case hx => rfl);(case hH => rfl);(case hf => infer_instance);(case hg => infer_instance);(case hα => infer_instance);(case hk => omega);(case hc => rfl);(case hN => rfl)) | ((with_reducible apply B9);(case hx => rfl);(case hH => rfl);(case hf => infer_instance);(case hg => infer_instance);(case hα => infer_instance);(case hk => omega);(case hc => rfl);(case hN => rfl))  | ((with_reducible apply Fz);(case hx => rfl);(case hd => rfl);(case hc => rfl);(case hN => rfl)) | ((with_reducible apply Ft);(case hx => rfl);(case hd => rfl);(case hc => (first|exact (rfl:_ = [_]) | exact (rfl:_ = [_,_]) | exact (rfl:_ = [_,_,_]) | exact (rfl:_ = [_,_,_,_]) | exact (rfl:_ = [_,_,_,_,_]) | exact (rfl:_ = [_,_,_,_,_,_]) | exact (rfl:_ = [_,_,_,_,_,_,_]) | exact (rfl:_ = [_,_,_,_,_,_,_,_]) | rfl));(case hn => rfl);(case h0 => rfl);(case hN => rfl)) | ((with_reducible apply wY);(case hx => rfl);(case hl => first|assumption | omega | (simp only [kD,List.length_drop] <;> omega));(case h0 => rfl);(case hN => rfl)) | ((with_reducible apply xS);(case hx => rfl);(case hH => rfl);(case hl => first|assumption | omega | (simp only [kD] <;> omega) | rfl);(case h0 => rfl);(case hN => rfl)) | ((with_reducible apply xW);(case hx => rfl);(case hH => rfl);(case hl => first|assumption | omega | (simp only [kD] <;> omega) | rfl);(case h0 => rfl);(case hN => rfl)) | ((with_reducible apply Dd);(case hx => rfl);(case hH => rfl);(case ho => first|exact Kf | exact Kn);(case hq => first|assumption | omega | (simp only [kD] <;> omega));(case hN => rfl)));exact k.pf) | fail):G := h ⟨k⟩
theorem Ks {G K:Prop}(k:K) (h:Hy K → G := by first|(intro k;(first|((with_reducible apply CI);(case hj => rfl);(case hb => rfl);(case hN => rfl)) | ((with_reducible apply CN);(case hj => rfl);(case hb => rfl);(case hN => rfl);(case hw => first|rfl | assumption)) | ((with_reducible apply zW);(case hj => rfl);(case hb => rfl);(case hN => rfl);(case hw => first|rfl | assumption)) );exact k.pf) | fail):G := h ⟨k⟩
theorem Kk {G K:Prop}(k:K) (h:Hy K → G := by first|(intro k;(first|((with_reducible apply Gk);(case hx => rfl);(case hy => rfl);(case h => rfl);(case hN => rfl)) | ((with_reducible apply Il);(case hx => rfl);(case hy => rfl);(case hk => infer_instance);(case ha => infer_instance);(case hb => infer_instance);(case hN => rfl)) | ((with_reducible apply GQ);(case hx => rfl);(case hy => rfl);(case hk => infer_instance);(case ha => infer_instance);(case hN => rfl)) | ((with_reducible apply Gt);(case hx => rfl);(case hy => rfl);(case hk => infer_instance);(case ha => infer_instance);(case hb => infer_instance);(case hN => rfl)) | ((with_reducible apply Hl);(case hx => rfl);(case hy => rfl);(case hk => infer_instance);(case ha => infer_instance);(case hb => infer_instance);(case hN => rfl)) | ((with_reducible apply Hq);(case hx => rfl);(case hy => rfl);(case hk => infer_instance);(case ha => infer_instance);(case h => omega);(case hN => rfl)) | ((with_reducible apply I3);(case hx => rfl);(case hy => rfl);(case h => omega);(case hN => rfl)) | ((with_reducible apply Jn);(case hx => rfl);(case hy => rfl);(case h => omega);(case hN => rfl))  | ((with_reducible apply H6);(case hx => rfl);(case hy => rfl);(case h => rfl);(case hN => rfl)));exact k.pf) | fail):G := h ⟨k⟩
theorem Kr {G K:Prop}(k:K) (h:Hy K → G := by first|(intro k;(first|((with_reducible apply pU);(case hx => rfl);(case hi => rfl);(case hm => (first|assumption | omega));(case hml => (first|rfl|assumption|omega));(case hα => infer_instance);(case hf => infer_instance);(case hg => infer_instance);(case hN => rfl)) | ((with_reducible apply zF);(case hx => rfl);(case hi => rfl);(case hm => (first|assumption | omega));(case hN => rfl)) | ((with_reducible apply rU);(case hx => rfl);(case hi => rfl);(case hm => (first|assumption | omega | exact ⟨Int.emod_nonneg _ (by omega),Int.emod_lt_of_pos _ (by omega)⟩));(case hml => (first|rfl|assumption|omega));(case hα => infer_instance);(case hf => infer_instance);(case hg => infer_instance);(case hN => rfl)) | ((with_reducible apply BN);(case hx => rfl);(case hi => rfl);(case hm => (first|assumption | omega | exact ⟨Int.emod_nonneg _ (by omega),Int.emod_lt_of_pos _ (by omega)⟩));(case hN => rfl)) | ((with_reducible apply xI);(case hx => rfl);(case hi => rfl);(case hm => first|omega | assumption);(case hp => rfl);(case hN => rfl)) | ((with_reducible apply zL);(case hx => rfl);(case hi => rfl);(case hm => first|omega | assumption);(case hN => rfl)));exact k.pf) | fail):G := h ⟨k⟩
theorem Ko {G K:Prop}(k:K) (h:Hy K → G := by first|(intro k;(first|((with_reducible apply Jl);(case hx => rfl);(case hn => rfl);(case hN => rfl))  | ((with_reducible apply cY);(case hx => rfl);(case hy => rfl);(case hze => rfl);(case he0 => rfl);(case hH => rfl);(case hl => first|(rw [aK]; omega) | (rw [aK]; simp only [kD] <;> omega) | (simp [aK]; done) | decide | (simp;omega));(case hs' => first|rfl | exact II (by (first|rfl | assumption | omega)));(case hbig => omega);(case hmx => omega);(case hcs => first|exact wQ (by (first|assumption | omega | (simp only [kD] <;> omega) | decide)) | exact qA (by (first|assumption | omega | (simp only [kD] <;> omega) | decide)) | exact GG (by (first|assumption | omega | (simp only [kD] <;> omega) | decide)) | exact D3 (by (first|assumption | omega | (simp only [kD] <;> omega) | decide)) | exact FP (by (first|assumption | omega | (simp only [kD] <;> omega) | decide)) | exact GF (by (first|assumption | omega | (simp only [kD] <;> omega) | decide)) | exact Hx (by (first|assumption | omega | (simp only [kD] <;> omega) | decide))   | exact (rfl:_ = [_]) | exact (rfl:_ = [_,_]) | exact (rfl:_ = [_,_,_]) | exact (rfl:_ = [_,_,_,_]) | exact (rfl:_ = [_,_,_,_,_]) | exact (rfl:_ = [_,_,_,_,_,_]) | exact (rfl:_ = [_,_,_,_,_,_,_]) | exact (rfl:_ = [_,_,_,_,_,_,_,_]) | rfl);(case hM => rfl);(case hN => rfl)));exact k.pf) | fail):G := h ⟨k⟩
theorem Ke {G K:Prop}(k:K) (h:Hy K → G := by first|(intro k;(first|((with_reducible apply CF);(case hl => rfl);(case hf => (first|exact (rfl:_ = some [_]) | exact (rfl:_ = some [_,_]) | exact (rfl:_ = some [_,_,_]) | exact (rfl:_ = some [_,_,_,_]) | exact (rfl:_ = some [_,_,_,_,_]) | exact (rfl:_ = some [_,_,_,_,_,_]) | exact (rfl:_ = some [_,_,_,_,_,_,_]) | exact (rfl:_ = some [_,_,_,_,_,_,_,_]) | rfl));(case hk => (first|exact (rfl:_ = [_]) | exact (rfl:_ = [_,_]) | exact (rfl:_ = [_,_,_]) | exact (rfl:_ = [_,_,_,_]) | exact (rfl:_ = [_,_,_,_,_]) | exact (rfl:_ = [_,_,_,_,_,_]) | exact (rfl:_ = [_,_,_,_,_,_,_]) | exact (rfl:_ = [_,_,_,_,_,_,_,_]) | rfl));(case hN => rfl)) | ((with_reducible apply b6);(case hl => rfl);(case hf => (first|exact (rfl:_ = some [_]) | exact (rfl:_ = some [_,_]) | exact (rfl:_ = some [_,_,_]) | exact (rfl:_ = some [_,_,_,_]) | exact (rfl:_ = some [_,_,_,_,_]) | exact (rfl:_ = some [_,_,_,_,_,_]) | exact (rfl:_ = some [_,_,_,_,_,_,_]) | exact (rfl:_ = some [_,_,_,_,_,_,_,_]) | rfl));(case hN => rfl)));exact k.pf) | fail):G := h ⟨k⟩
theorem Km {G K:Prop}(k:K) (h:Hy K → G := by first|(intro k;(first|((with_reducible apply lY);(case hze => rfl);(case hsm => rfl);(case hl => rfl);(case hfl => (first|exact (rfl:_ = some [_]) | exact (rfl:_ = some [_,_]) | exact (rfl:_ = some [_,_,_]) | exact (rfl:_ = some [_,_,_,_]) | exact (rfl:_ = some [_,_,_,_,_]) | exact (rfl:_ = some [_,_,_,_,_,_]) | exact (rfl:_ = some [_,_,_,_,_,_,_]) | exact (rfl:_ = some [_,_,_,_,_,_,_,_]) | rfl));(case hM => rfl);(case hN => rfl)) | ((with_reducible apply lZ);(case hx => rfl);(case hy => rfl);(case hze => rfl);(case hsm => omega);(case hmx => omega);(case hcs => first|exact IN | exact Gz | exact Ds | exact BF | rfl);(case hM => rfl);(case hN => rfl)));exact k.pf) | fail):G := h ⟨k⟩
theorem Ku {G K:Prop}(k:K) (h:Hy K → G := by first|(intro k;(first|((with_reducible apply cO);(case hx => rfl);(case hy => rfl);(case hc => rfl);(case hn => rfl);(case hH => rfl);(case hl => (first|decide|(rw [aK]; simp only [kD] <;> omega)|omega|(simp;done)|(simp;omega)));(case hcs => first     | exact BD (by (first|assumption | omega | (simp only [kD] <;> omega) | decide)) | exact En (by (first|assumption | omega | (simp only [kD] <;> omega) | decide)) | exact EB (by (first|assumption | omega | (simp only [kD] <;> omega) | decide)) | exact Jj (by (first|assumption | omega | (simp only [kD] <;> omega) | decide)) | exact BE (by (first|assumption | omega | (simp only [kD] <;> omega) | decide)) | exact D9 (by (first|assumption | omega | (simp only [kD] <;> omega) | decide))  | exact Ir (by (first|assumption | omega | (simp only [kD] <;> omega) | decide)) | exact uN (by (first|assumption | omega | (simp only [kD] <;> omega) | decide))  | exact (rfl:_ = [_]) | exact (rfl:_ = [_,_]) | exact (rfl:_ = [_,_,_]) | exact (rfl:_ = [_,_,_,_]) | exact (rfl:_ = [_,_,_,_,_]) | exact (rfl:_ = [_,_,_,_,_,_]) | exact (rfl:_ = [_,_,_,_,_,_,_]) | exact (rfl:_ = [_,_,_,_,_,_,_,_]) | rfl)) | ((with_reducible apply xT);(case hx => rfl);(case hy => rfl);(case hH => rfl);(case hl => first|assumption | omega | (simp only [kD] <;> omega));(case hc => first|rfl | (rw [dQ]; first|assumption | (simp only [kD] <;> omega)))));exact k.pf) | fail):G := h ⟨k⟩
theorem aM {G K:Prop}(k:K) (h:Hy K → G := by first|(intro k;(first|((with_reducible apply aH);first|((with_reducible apply HE);(case hx => rfl);(case hN => rfl)) | ((with_reducible apply GZ);refine Kq ?_) | ((with_reducible apply tT);(case hx => rfl);(case hp => rfl);(case hN => rfl)) | ((with_reducible apply J1);refine Ks ?_) | ((with_reducible apply Ix);refine Kk ?_) | ((with_reducible apply tD);(case hx => rfl);(case hN => rfl)) | ((with_reducible apply HC);first|((with_reducible apply Fl);(case hc => rfl);(case hb => first|rfl | assumption);(case hx => rfl);(case hN => rfl)) | ((with_reducible apply DP);(case hc => rfl);(case hb => first|rfl | assumption);(case hx => rfl);(case hN => rfl))) | ((with_reducible apply H3);refine Kr ?_) | ((with_reducible apply JI);refine Ko ?_) | ((with_reducible apply I1);(case hf => kernel_rfl)) | ((with_reducible apply JH);first|((with_reducible apply zG);(case hx => rfl);(case hi => rfl);(case hl => first|assumption | omega | (simp only [kD] <;> omega));(case hm => omega);(case hN => rfl))) | ((with_reducible apply Je);refine Ke ?_) | ((with_reducible apply I5);first|((with_reducible apply CV);(case hx => rfl);(case hf => infer_instance);(case hl => rfl);(case hh => rfl);(case hb => first|omega | (simp only [List.length_take,List.length_drop,Int.toNat_natCast]; omega));(case hN => rfl))) | ((with_reducible apply oK);(case hf => rfl);(case hc => rfl);(case hN => rfl)) | ((with_reducible apply IH);(case hx => rfl);(case hN => rfl)) | ((with_reducible apply Iw);(case hx => rfl);(case hp => rfl);(case hN => rfl)) | ((with_reducible apply Jb);(case hx => rfl);(case hc => rfl);(case hM => rfl);(case hN => rfl)) | ((with_reducible apply EM);(case hM => rfl);(case hN => rfl)) | ((with_reducible apply Ax);(case hx => rfl);(case hc => rfl);(case hN => rfl)) | refine Km ?_ | refine Ku ?_));exact k.pf) | fail):G := h ⟨k⟩
theorem JC {G K:Prop}(k:K) (h:Hy K → G := by first|(intro k;(first|((with_reducible apply DC);first|with_reducible apply Ji | with_reducible apply BM | ((with_reducible apply DO);(case hc => rfl);(case hb => first|rfl | assumption)) | ((with_reducible apply DX);(case hc => rfl);(case hb => first|rfl | assumption)) | with_reducible apply E7 | with_reducible apply G5 | with_reducible apply F8 | with_reducible apply IT ) | with_reducible apply CX | with_reducible apply IX | with_reducible apply G7 | with_reducible apply Cx | with_reducible apply IS | with_reducible apply Hg | ((with_reducible apply bq_out);(case hij => decide)));exact k.pf) | fail):G := h ⟨k⟩
theorem aU {G c1 q1 c2 q2 K1 K2:Prop}(k1:c1 → q1 → K1) (k2:c2 → q2 → K2) (h:Hy (c1 → q1 → K1) → Hy (c2 → q2 → K2) → G := by first|(intro k1 k2;(with_reducible apply DC);(with_reducible apply vF);(case hc => rfl);(intro hc;have hq := hc;(try simp only [J7] at hq);first|exact k1.pf hc hq | exact k1.pf hc trivial);(intro hc;have hq := hc;(try simp only [J7] at hq);first|exact k2.pf hc hq | exact k2.pf hc trivial)) | fail):G := h ⟨k1⟩ ⟨k2⟩
theorem cE {G c1 q1 c2 q2 K1 K2:Prop}(k1:c1 → q1 → K1) (k2:c2 → q2 → K2) (h:Hy (c1 → q1 → K1) → Hy (c2 → q2 → K2) → G := by first|(intro k1 k2;(with_reducible apply aH);(with_reducible apply J1);(with_reducible apply CB);(case hj => rfl);(case hb => rfl);(case hN => rfl);(intro hc;have hq := hc;(try simp only [J7] at hq);first|exact k1.pf hc hq | exact k1.pf hc trivial);(intro hc;have hq := hc;(try simp only [J7] at hq);first|exact k2.pf hc hq | exact k2.pf hc trivial)) | fail):G := h ⟨k1⟩ ⟨k2⟩
theorem dC {G K:Prop}(k:K) (h:Hy K → G := by first|(intro k;(with_reducible apply DC);(with_reducible apply GX);(case hm => kernel_rfl);exact k.pf) | fail):G := h ⟨k⟩
theorem dB {G K:Prop}(k:K) (h:Hy K → G := by first|(intro k;(with_reducible apply aO);(case hr => rfl);exact k.pf) | fail):G := h ⟨k⟩
theorem wE {ts:List (Nat × AV)}:mG [] ts = [] := rfl
theorem tE {k:Nat}{v:AV}{ks:List Nat}{ts kt:List (Nat × AV)}(h:lk ts k = some v) (h2:mG ks ts = kt):mG (k :: ks) ts = (k,v) :: kt:=by
 subst h2;simp [mG,h]
theorem w8 {hs:List (Nat × Option (List AV))}:m7 [] hs = [] := rfl
theorem tF {k:Nat}{v:List AV}{ks:List Nat}{hs kh:List (Nat × Option (List AV))}(h:aP hs k = some v) (h2:m7 ks hs = kh):m7 (k :: ks) hs = (k,some v) :: kh:=by
 subst h2;simp [m7,h]
section
variable {P : Program} {N : Nat} {Q : Exit → AS → Prop} {σ : Type} {c : Code} {ts : List (Nat × AV)} {hs : List (Nat × Option (List AV))} {n : Nat} {z0 : Lo}
theorem aL (ks js:List Nat){kt:List (Nat × AV)}{kh:List (Nat × Option (List AV))}(ot:σ → List (Nat × AV)) (oh:σ → List (Nat × Option (List AV))) (p:σ → Prop) (μ:σ → Nat) (i0:σ) (h0:p i0)
  (round : ∀ i,p i → AW P N c (nJ (fun s' => ∃ j,p j ∧ μ j < μ i ∧ Le s' ⟨ot j ++ kt,oh j ++ kh,n,z0⟩) Q) ⟨ot i ++ kt,oh i ++ kh,n,z0⟩)
  (hk : mG ks ts = kt := by repeat' (first|exact wE|(apply tE;rfl))) (hj : m7 js hs = kh := by repeat' (first|exact w8|(apply tF;rfl)))
  (h1 : mA ts (ot i0) := by repeat' (first|exact trivial|refine And.intro rfl ?_)) (h2 : kQ hs (oh i0) := by repeat' (first|exact trivial|refine And.intro (.inr rfl) ?_)) : AW P N (.loop c) Q ⟨ts,hs,n,z0⟩ :=
 DA ks kt js kh ot oh p μ i0 h0 hk hj h1 h2 round
theorem dO (Rf:σ → List (List Bool)) (ks js:List Nat){kt:List (Nat × AV)}{kh:List (Nat × Option (List AV))}(ot:σ → List (Nat × AV)) (oh:σ → List (Nat × Option (List AV))) (p:σ → Prop) (μ:σ → Nat) (i0:σ) (h0:p i0)
  (round : ∀ i,p i → AW P N c (nJ (fun s' => ∃ j,p j ∧ μ j < μ i ∧ Le s' ⟨ot j ++ kt,(oh j ++ kh) ++ fQ (Rf j),n,⟨0,aX + (Rf j).length⟩⟩) Q) ⟨ot i ++ kt,(oh i ++ kh) ++ fQ (Rf i),n,⟨0,aX + (Rf i).length⟩⟩)
  (hk : mG ks ts = kt := by repeat' (first|exact wE|(apply tE;rfl))) (hj : m7 js hs = kh := by repeat' (first|exact w8|(apply tF;rfl)))
  (h1 : mA ts (ot i0) := by repeat' (first|exact trivial|refine And.intro rfl ?_)) (h2 : kQ hs (oh i0) := by repeat' (first|exact trivial|refine And.intro (.inr rfl) ?_))
  (hF : FamR (Rf i0) (Rf i0) hs hs := by repeat' (first|exact FamR.here|exact FamR.nil|(apply FamR.cons;focus rfl))) (hz : z0 = ⟨0,aX + (Rf i0).length⟩ := by first|rfl|(simp only [eO])) : AW P N (.loop c) Q ⟨ts,hs,n,z0⟩ :=
 xQ 0 Rf ks kt js kh ot oh p μ i0 h0 hk hj h1 h2 hF hz round
end
theorem Le.renA (m:List (Nat × Nat)){ts ts':List (Nat × AV)}{hs hs':List (Nat × Option (List AV))}{n n':Nat}{lo:Lo}(hm:FL lo.lo n' m = true := by rfl) (hn:lo.lo ≤ n' := by decide)
  (h1 : D1 m lo ts ts' := by repeat' (first|exact trivial|refine And.intro ⟨_,rfl,?_⟩ ?_|refine And.intro ⟨_,_,rfl,rfl,?_⟩ ?_|exact Or.inr rfl|refine Or.inl ⟨?_,(by first|rfl|exact bD _ _|exact Pur.pf|exact PurV.pf)⟩|refine Or.inr (All2.cons ?_ ?_)|refine All2.cons ?_ ?_|exact All2.nil|rfl))
  (h2 : Ay m lo hs hs' := by repeat' (first|exact trivial|refine And.intro ⟨_,rfl,?_⟩ ?_|refine And.intro ⟨_,_,rfl,rfl,?_⟩ ?_|exact Or.inr rfl|refine Or.inl ⟨?_,(by first|rfl|exact bD _ _|exact Pur.pf|exact PurV.pf)⟩|refine Or.inr (All2.cons ?_ ?_)|refine All2.cons ?_ ?_|exact All2.nil|rfl)) : Le ⟨ts,hs,n,lo⟩ ⟨ts',hs',n',lo⟩ :=
 Le.ren m hm hn h1 h2
section
variable {P : Program} {k : FuncId} {fn : Func} {c : Code} {args : List AV} {N : Nat}
theorem aC {Q:AV → Prop}(hf:P.funcs[k]? = some fn) (hn:fn.ntmps = N) (h:AW P N c (mD P fn.results (fun r _ => Q r ∧ r.pur = true)) ⟨dE 0 args,[],0,⟨0,aX⟩⟩) (hb:fn.body = some c := by rfl)
  (hN : args.length ≤ N := by simp) : PC P k args Q := by subst hn;exact DH hf hb hN h
theorem c8 {σ:Type}{H0:List (Nat × Option (List AV))}{n:Nat}{p:σ → Prop}{rr:σ → AV}{hh:σ → List (Nat × Option (List AV))}(hf:P.funcs[k]? = some fn) (hn:fn.ntmps = N)
  (h : AW P N c (mD P fn.results (fun r H' => ∃ x,p x ∧ r = rr x ∧ ∀ id cs,aP (hh x) id = some cs → H' id = some cs)) ⟨dE 0 args,H0,n,⟨n,aX⟩⟩) (hb : fn.body = some c := by rfl)
  (hN : args.length ≤ N := by simp) : MC P k args H0 n p rr hh := by subst hn;exact Ev hf hb hN h
theorem v8 {R0:List (List Bool)}{r:AV}{hh:List (Nat × Option (List AV))}(hf:P.funcs[k]? = some fn) (hn:fn.ntmps = N)
  (h : AW P N c (mD P fn.results (fun r' H' => r' = r ∧ ∀ id cs,aP (hh ++ fQ R0) id = some cs → H' id = some cs)) ⟨dE 0 args,fQ R0,0,⟨0,aX + R0.length⟩⟩) (hb : fn.body = some c := by rfl)
  (hN : args.length ≤ N := by simp) : Ju P k args R0 r hh := by subst hn;exact Dl hf hb hN h
theorem FX {R1:List (List Bool)}{r:AV}(hf:P.funcs[k]? = some fn) (hn:fn.ntmps = N)
  (h : AW P N c (mD P fn.results (fun r' H' => r' = r ∧ ∀ id cs,aP (fQ R1) id = some cs → H' id = some cs)) ⟨dE 0 args,[],0,⟨0,aX⟩⟩) (hb : fn.body = some c := by rfl)
  (hN : args.length ≤ N := by simp) : Kd P k args r R1 := by subst hn;exact Dq hf hb hN h
end
theorem sE {p:Prop}{α:Type}{a c:Option α}{b:α}(h:some b = c) (e:a = some b := by rfl):p ∨ a = c := .inr (e.trans h)
section
variable {P : Program} {N : Nat} {Q : Exit → AS → Prop} {all : Array Oper} {rest : List Oper} {ts : List (Nat × AV)} {hs : List (Nat × Option (List AV))} {n : Nat} {z0 : Lo} {md : Md}
variable {ty : TypeId} {pos : String} {af : Array Edge}
theorem cG {d:Nat}{k:FuncId}{l:List Operand}{tys:Array TypeId}{avs avs0:List AV}{H0:List (Nat × Option (List AV))}{rr rr':AV}{hh:List (Nat × Option (List AV))}
  (mp : List Nat) (n1 : Nat) (ws : List (Nat × Option (List AV))) (h : MC P k avs0 H0 mp.length (fun _ : Unit => True) (fun _ => rr) (fun _ => hh)) [hc : CaT P k] (ha : evL (lk ts) l = some avs) (hd : distinct mp = true)
  (hM : Nat.ble (n + (n1 - mp.length)) aX = true) (hN : Nat.blt d N = true)
  {md' : Md} [hmd : MdA md (jS l ++ mp.map .inr) (ws.map (fun p => .inr p.1) ++ [.inl d]) md']
  (kk : RW P N all Q md' rest ⟨(d,rr') :: ts,mY hs ws,n + (n1 - mp.length),z0⟩)
  (hH0 : sK hs H0 mp 0 mp := by repeat' (first|exact trivial|(refine And.intro ⟨_,_,rfl,by assumption,?_⟩ ?_)|exact RnL.purI inferInstance|exact u9 rfl|exact RnV.purI inferInstance|exact RnV.own rfl|exact RnV.optr rfl|exact RnL.nil|refine RnL.cons ?_ ?_|refine RnV.agg ?_|refine RnV.tup ?_))
  (hk : gL mp.length H0 = true := by rfl)
  (har : RnL (mp[·]?) avs0 avs := by repeat' (first|exact RnL.purI inferInstance|exact u9 rfl|exact RnV.purI inferInstance|exact RnV.own rfl|exact RnV.optr rfl|exact RnL.nil|refine RnL.cons ?_ ?_|refine RnV.agg ?_|refine RnV.tup ?_))
  (hr : RnV (yO mp n n1) rr rr' := by repeat' (first|exact RnL.purI inferInstance|exact u9 rfl|exact RnV.purI inferInstance|exact RnV.own rfl|exact RnV.optr rfl|exact RnL.nil|refine RnL.cons ?_ ?_|refine RnV.agg ?_|refine RnV.tup ?_))
  (hwa : vO mp ws = true := by simp [vO])
  (hw : qG (yO mp n n1) hh ws := by repeat' (first|exact trivial|(refine And.intro ⟨0,_,rfl,rfl,?_⟩ ?_)|(refine And.intro ⟨1,_,rfl,rfl,?_⟩ ?_)|(refine And.intro ⟨2,_,rfl,rfl,?_⟩ ?_)|(refine And.intro ⟨3,_,rfl,rfl,?_⟩ ?_)|(refine And.intro ⟨4,_,rfl,rfl,?_⟩ ?_)|(refine And.intro ⟨5,_,rfl,rfl,?_⟩ ?_)|(refine And.intro ⟨6,_,rfl,rfl,?_⟩ ?_)|exact RnL.purI inferInstance|exact u9 rfl|exact RnV.purI inferInstance|exact RnV.own rfl|exact RnV.optr rfl|exact RnL.nil|refine RnL.cons ?_ ?_|refine RnV.agg ?_|refine RnV.tup ?_)) :
  RW P N all Q md (⟨some d,.call ⟨.value (.func k),l.toArray,tys⟩,ty,pos,af,none⟩ :: rest) ⟨ts,hs,n,z0⟩ :=
 BR mp n1 ws h (avs := avs) ha hd hH0 hk har hM hr hwa hw hN (md' := md') (hmd := hmd) kk
end
theorem aF {G K:Prop}(k:K) (h:Hy K → G := by first|(intro k;(first|refine aM ?_ | refine JC ?_);exact k.pf) | fail):G := h ⟨k⟩
end Go.AL
namespace Go.AL
theorem jU {A n:Nat}(hv:∀ v,A.testBit v = true → v < n):A < 2 ^ n := Nat.lt_pow_two_of_testBit _ fun v h => by
 cases hq : Nat.testBit _ v with
 | false => rfl
 | true => have := hv v hq;omega
theorem iS {A n:Nat}(hn:n ≤ 62) (hv:A < 2 ^ n):Sm A := ⟨Nat.lt_of_lt_of_le hv (Nat.pow_le_pow_right (by decide) hn)⟩
structure FB (ts : List Int) (pts : List Pnt) (f : Flows ts pts) : Prop where
 la : f.Aa.length = pts.length
 lm : f.Am.length = pts.length
 ln : f.An.length = pts.length
 ll : f.Al.length = pts.length
 lp : f.Ap.length = pts.length
 bA : ∀ i : Nat,f.Aa[i]! < 2 ^ ts.length
 bM : ∀ i : Nat,f.Am[i]! < 2 ^ ts.length
 bN : ∀ i : Nat,f.An[i]! < 2 ^ ts.length
 bL : ∀ i : Nat,f.Al[i]! < 2 ^ ts.length
 bP : ∀ i : Nat,f.Ap[i]! < 2 ^ pts.length
 sA : ∀ i : Nat,Sm f.Aa[i]!
 sM : ∀ i : Nat,Sm f.Am[i]!
 sN : ∀ i : Nat,Sm f.An[i]!
 sL : ∀ i : Nat,Sm f.Al[i]!
 sP : ∀ i : Nat,Sm f.Ap[i]!
 rl : ∀ i,i < pts.length → (dN f.Af i).length = 6
 rs : ∀ i,i < pts.length → ∀ z : Nat,Sm (dN f.Af i)[z]!
 af : ∀ i,i < pts.length → GB pts f.An i = f.Al[i]!
 kp : ∀ i,i < pts.length → rQ ts pts[i]! f.Al[i]! (dN f.Af i) < 2 ^ pts.length
 lo : ∀ i,i < pts.length → rQ ts pts[i]! f.Al[i]! (dN f.Af i) &&& f.Ap[i]! < 2 ^ pts.length
 cf : ∀ i,i < pts.length → Bw ts pts f.Am f.Al f.Af f.Ap i < 2 ^ pts.length
theorem Flows.bnd {ts:List Int}{pts:List Pnt}(f:Flows ts pts) (w:WG ts pts):FB ts pts f:=by
 have hpl := w.pl
 have htl := w.tl
 have off : ∀ {A : List Nat} {n : Nat} {i : Nat}, A.length = pts.length → ¬ i < pts.length → A[i]! < 2 ^ n := fun {A n i} h hi => by
  rw [getElem!_neg A i (by omega)]; exact Nat.pow_pos (by decide)
 have bA : ∀ i : Nat, f.Aa[i]! < 2 ^ ts.length := fun i => by
  by_cases hi : i < pts.length
  ·exact jU fun v hv => ((f.ga.2 i hi v).1 hv).1
  ·exact off f.ga.1 hi
 have bM : ∀ i : Nat, f.Am[i]! < 2 ^ ts.length := fun i => by
  by_cases hi : i < pts.length
  ·exact jU fun v hv => FF w ((f.gm.2 i hi v).1 hv)
  ·exact off f.gm.1 hi
 have bN : ∀ i : Nat, f.An[i]! < 2 ^ ts.length := fun i => by
  by_cases hi : i < pts.length
  ·exact jU fun v hv => oS w ((f.gn.2 i hi v).1 hv)
  ·exact off f.gn.1 hi
 have bL : ∀ i : Nat, f.Al[i]! < 2 ^ ts.length := fun i => by
  by_cases hi : i < pts.length
  ·exact jU fun v hv => by obtain ⟨k,_,h⟩ := (f.gl.2 i hi v).1 hv;exact oS w h
  ·exact off f.gl.1 hi
 have bP : ∀ i : Nat, f.Ap[i]! < 2 ^ pts.length := fun i => by
  by_cases hi : i < pts.length
  ·exact jU fun v hv => (nG ((f.gp.2 i hi v).1 hv)).1
  ·exact off f.gp.1 hi
 have rs : ∀ i, i < pts.length → ∀ z : Nat, (dN f.Af i)[z]! < 2 ^ pts.length := fun i hi z => by
  by_cases hz : z < 6
  ·rw [eR f.gf.1 hi hz]
   exact jU fun v hv => (wU w ((f.gf.2 i z hi hz v).1 hv)).2.2
  ·rw [getElem!_neg _ z (by rw [fL f.gf.1 hi]; exact hz)]; exact Nat.pow_pos (by decide)
 have kp : ∀ i, i < pts.length → rQ ts pts[i]! f.Al[i]! (dN f.Af i) < 2 ^ pts.length := fun i hi => jU fun v hv => by
  unfold rQ at hv
  rw [eX] at hv
  rcases hv with hv | ⟨z,hz,hv⟩
  ·simp at hv
  ·exact cM (rs i hi _) hv
 have lo : ∀ i,i < pts.length → rQ ts pts[i]! f.Al[i]! (dN f.Af i) &&& f.Ap[i]! < 2 ^ pts.length := fun i hi => Nat.and_lt_two_pow _ (bP i)
 refine ⟨f.ga.1, f.gm.1, f.gn.1, f.gl.1, f.gp.1, bA, bM, bN, bL, bP, fun i => iS (by omega) (bA i), fun i => iS (by omega) (bM i), fun i => iS (by omega) (bN i), fun i => iS (by omega) (bL i), fun i => iS (by omega) (bP i),
  fun i hi => fL f.gf.1 hi,fun i hi z => iS (by omega) (rs i hi z),fun i hi => ?_,kp,lo,fun i hi => z7 w (bP i)⟩
 rw [sS f.gl (wO w f.gn),bH _ _ _ hi]
def sJ (pts : List Pnt) (l : Nat) (c : Acc) : Bool := decide (c.var = pts[l]!.y) && (c.write || decide (pts[l]!.op = 5))
theorem yC {ts:List Int}{pts:List Pnt}(w:WG ts pts) (f:Flows ts pts){i l:Nat}(hi:i < pts.length) (hl:l < pts.length) (hln:bU pts[l]! = true) :
  (Bw ts pts f.Am f.Al f.Af f.Ap i).testBit l = ((gM ts pts[i]! (f.Am[i]!.testBit (aT pts[i]!).toNat)).any (sJ pts l) && ((rQ ts pts[i]! f.Al[i]! (dN f.Af i)).testBit l && f.Ap[i]!.testBit l)) := by
 have b := f.bnd w
 have hpl := w.pl
 have hy := mE w hl hln
 rw [Bool.eq_iff_iff]
 unfold Bw
 rw [gG _ _ _ (iS (by omega) (b.lo i hi)),Bool.and_eq_true,List.any_eq_true,← Nat.testBit_and]
 simp only [Nat.zero_testBit,Bool.false_eq_true,false_or]
 constructor
 ·rintro ⟨c, hc, h1, h2, h3⟩
  refine ⟨⟨c,hc,?_⟩,h1⟩
  rw [fZ] at h2
  simp only [Bool.and_eq_true,decide_eq_true_eq] at h2
  have e2 := h2.2.2
  rw [Nat.testBit_two_pow,decide_eq_true_eq] at e2
  have hcv := uK _ w hi c hc
  unfold sJ
  rw [decide_eq_true (by omega : c.var = pts[l]!.y)]
  rcases h3 with h3|h3
  ·rw [h3]; rfl
  ·rw [decide_eq_true h3]; simp
 ·rintro ⟨⟨c, hc, h⟩, h1⟩
  unfold sJ at h
  simp only [Bool.and_eq_true,Bool.or_eq_true,decide_eq_true_eq] at h
  refine ⟨c,hc,h1,?_,h.2⟩
  rw [fZ,decide_eq_true hl,hln,h.1,Nat.testBit_two_pow_self]; rfl
theorem HR {ts:List Int}{pts:List Pnt}(w:WG ts pts) (f:Flows ts pts){i l:Nat}(hi:i < pts.length) (h:(Bw ts pts f.Am f.Al f.Af f.Ap i).testBit l = true):l < pts.length ∧ bU pts[l]! = true:=by
 have b := f.bnd w
 have hpl := w.pl
 unfold Bw at h
 rw [gG _ _ _ (iS (by omega) (b.lo i hi))] at h
 rcases h with h | ⟨c,_,h1,_⟩
 ·simp at h
 ·rw [Nat.testBit_and, Bool.and_eq_true] at h1
  exact nG ((f.gp.2 i hi l).1 h1.2)
end Go.AL
namespace Go.AL
theorem uV {hs:List (Nat × Option (List AV))}{id m e':Nat}{u:List Int}(h:aP hs id = some (flat cI u)) (hm:m = u.length):sCells (aP hs) 1 (oE (.own id 0 m e')) = some (m,flat cI u):=by
 subst hm
 have hl : (flat cI u).length = u.length * 1 := aK cI u
 show ((aP hs id).bind fun cs => if u.length * 1 ≤ (cs.drop 0).length then some (u.length,(cs.drop 0).take (u.length * 1)) else none) = _
 rw [h]
 show (if u.length * 1 ≤ ((flat cI u).drop 0).length then some (u.length,((flat cI u).drop 0).take (u.length * 1)) else none) = _
 rw [List.drop_zero,if_pos (by omega),List.take_of_length_le (by omega)]
end Go.AL
namespace Go.AL
section
variable {P : Program} {N : Nat} {Q : Exit → AS → Prop} {all : Array Oper} {rest : List Oper} {ts : List (Nat × AV)} {hs : List (Nat × Option (List AV))} {n : Nat} {z0 : Lo} {md : Md}
variable {d : Nat} {ty : TypeId} {pos : String} {af : Array Edge}
theorem Cd (w:World) (t el:TypeId) (hu:P.underlying t = some (.slice el)) (a:Option Addr) (m c:Nat):(binOp .eql t (.slice a m c) (.slice none 0 0)).run P w = .ok (.bool a.isNone) w:=by
 have h0 : ∀ d : Nat, (Op.equalIn (d + 1) t (.slice a m c) (.slice none 0 0)).run P w = .ok a.isNone w := fun d => by
  cases a <;> simp [Op.equalIn,cF hu]
 have h := h0 9999
 simp only [binOp]
 simp [Op.equal,Op.maxDepth,h]
theorem yJ {t t' el:TypeId}{x:Operand}{m:Nat}{cs:List AV}[ht:SlT P t el] (hx:ev (lk ts) x = some (.imm m cs)) (hN:Nat.blt d N = true)
  (kk : ∀ b : Bool,(b = true → m = 0) → RW P N all Q .txt rest ⟨(d,.v (.bool b)) :: ts,hs,n,z0⟩) : RW P N all Q .txt (⟨some d,.binOp .eql t x (.const (.slice none 0 0)) t',ty,pos,af,none⟩ :: rest) ⟨ts,hs,n,z0⟩ := by
 rintro C a w hCN ⟨h0,ι,g,gh⟩
 refine wpList_plain rfl (fun K hK => ?_)
 have h1 := b9 g hx
 simp only [Rd] at h1
 obtain ⟨a',c,h2,h3⟩ := h1
 have hu := mM ht.pf
 have hb : a'.isNone = true → m = 0 := fun hn => by
  rcases h3 with h3 | ⟨b,o,_,rfl,_⟩
  ·exact h3
  ·cases hn
 have hg : (eqGuard .eql t x (.const (.slice none 0 0)) (.slice a' m c) (.slice none 0 0)).run P w = .ok () w := by simp [eqGuard]
 have hr : (execOp a.eval ⟨some d, .binOp .eql t x (.const (.slice none 0 0)) t', ty, pos, af, none⟩).run P w = .ok (.value (.bool a'.isNone)) w := by
  have e2 : a.eval (.const (.slice none 0 0)) = .slice none 0 0 := rfl
  simp only [execOp,h2,e2,Sem.run_bind,hg,Result.andThen_ok,Cd w t el hu,Sem.run_pure]
 simp only [Oper.wp,hr,Oper.upon]
 refine hK _ _ (kk a'.isNone hb C _ _ hCN ⟨h0,ι,?_,gh⟩)
 show TG C ι (lk ((d,AV.v (.bool a'.isNone)) :: ts)) _ _ _
 rw [lL]
 exact g.put (by have := dS hN;omega) (by simp [Rd])
end
theorem GK {α:Type}{f:α → List AV}{e:Nat}[h:FlT f e] {hs:List (Nat × Option (List AV))}{xs:List α}{i k n:Nat}(hH:aP hs i = some (flat f xs)) (hn:n = xs.length - k):sCells (aP hs) e (oE (.own i (0 + k * e) n e)) = some (n,flat f (xs.drop k)):=by
 show ((aP hs i).bind fun cs => if n * e ≤ (cs.drop (0 + k * e)).length then some (n,(cs.drop (0 + k * e)).take (n * e)) else none) = _
 rw [hH,Option.bind_some,Nat.zero_add]
 have h1 : (flat f xs).length = xs.length * e := aK f xs
 have h3 : (flat f xs).drop (k * e) = flat f (xs.drop k) := by
  have h4 : flat f xs = flat f (xs.take k) ++ flat f (xs.drop k) := by rw [bC,List.take_append_drop]
  have h5 : (flat f (xs.take k)).length = (xs.take k).length * e := aK f _
  by_cases hk : k ≤ xs.length
  ·rw [h4,← show (flat f (xs.take k)).length = k * e from by rw [h5,List.length_take]; congr 1;omega,List.drop_left]
  ·rw [List.drop_of_length_le (by rw [h1]; exact Nat.mul_le_mul_right _ (by omega)),List.drop_of_length_le (by omega)]; rfl
 rw [h3]
 have h2 : (flat f (xs.drop k)).length = (xs.length - k) * e := by rw [aK f (e := e),List.length_drop]
 rw [h2,hn,if_pos (Nat.le_refl _),List.take_of_length_le (by rw [h2]; exact Nat.le_refl _)]
theorem tJ {T:Nat → Option AV}{x:Operand}{dd:Nat}{k:IntKind}{m:Int}{h:Nat}(hx:ev T x = some (.v (.int k m))) (e:m = (h:Int)):j3 T (some x) dd = some h:=by
 simp only [j3,hx]; rw [if_pos (by omega)]; congr 1;omega
structure Tg where
 id : Int
 uq : Bool
 deriving Inhabited,DecidableEq
structure Cl where
 val : Int
 alive : Bool
 next : Int
 stk : List Tg
 deriving Inhabited,DecidableEq
structure Pt where
 cell : Int
 tag : Int
 deriving Inhabited,DecidableEq
structure Sl where
 set : Bool
 num : Int
 ptr : Pt
 deriving Inhabited,DecidableEq
def Gp (t : Tg) : List AV := [iv t.id,bv t.uq]
def F1 (c : Cl) : List AV := [iv c.val,bv c.alive,iv c.next,sl Gp c.stk]
def Kt (s : Sl) : List AV := [bv s.set,iv s.num,iv s.ptr.cell,iv s.ptr.tag]
instance : FlT Gp 2:=⟨fun _ => rfl⟩
instance : FlT F1 4:=⟨fun _ => rfl⟩
instance : FlT Kt 4:=⟨fun _ => rfl⟩
instance : FE Gp (fun t => [iv t.id,bv t.uq]):=⟨fun _ => rfl⟩
instance : FE F1 (fun c => [iv c.val,bv c.alive,iv c.next,sl Gp c.stk]):=⟨fun _ => rfl⟩
instance : FE Kt (fun s => [bv s.set,iv s.num,iv s.ptr.cell,iv s.ptr.tag]):=⟨fun _ => rfl⟩
instance (t : Tg) : Pur (Gp t):=⟨rfl⟩
instance (c : Cl) : Pur (F1 c):=⟨by show (true && (true && (true && ((sl Gp c.stk).pur && true)))) = true;rw [bD]; rfl⟩
instance (s : Sl) : Pur (Kt s):=⟨rfl⟩
def JR (c : Cl) : Prop := c.stk.length = 200 ∨ c.next = 1000
instance (c : Cl) : Decidable (JR c) := by unfold JR;infer_instance
structure Mc where
 slots : List Sl
 cells : List Cl
 read : List Int
 deriving Inhabited
end Go.AL
namespace Go.AL
structure Co where
 val : Int
 alive : Bool
 next : Int
 av : AV
instance : Inhabited Co:=⟨⟨0,false,0,.imm 0 []⟩⟩
def Ej (c : Co) : List AV := [iv c.val,bv c.alive,iv c.next,c.av]
instance : FlT Ej 4:=⟨fun _ => rfl⟩
instance : FE Ej (fun c => [iv c.val,bv c.alive,iv c.next,c.av]):=⟨fun _ => rfl⟩
def GN (c : Cl) : Co := ⟨c.val,c.alive,c.next,sl Gp c.stk⟩
def opn (m : List Cl) (j : Nat) (X : AV) : List Co := (m.map GN).set j { GN m[j]! with av := X }
theorem lE (m:List Cl):flat Ej (m.map GN) = flat F1 m:=by
 unfold flat;rw [List.flatMap_map]; rfl
theorem qZ {m:List Cl}{j:Nat}{X:AV}(h:j < m.length):flat Ej (opn m j X) = flat F1 (m.take j) ++ ([iv m[j]!.val,bv m[j]!.alive,iv m[j]!.next] ++ X :: flat F1 (m.drop (j + 1))):=by
 unfold opn
 rw [List.set_eq_take_append_cons_drop,if_pos (by rw [List.length_map]; exact h),← bC,← List.map_take,lE,← List.map_drop]
 congr 1
 show Ej _ ++ flat Ej _ = _
 rw [lE]; rfl
theorem sY {m:List Cl}{j:Nat}{X:AV}(h:j < m.length):flat Ej (opn m j X) = (flat F1 (m.take j) ++ [iv m[j]!.val,bv m[j]!.alive,iv m[j]!.next]) ++ X :: flat F1 (m.drop (j + 1)):=by
 rw [qZ h,List.append_assoc]
theorem DB {m:List Cl}{j:Nat}{r:List Tg}:flat Ej (opn m j (sl Gp r)) = flat F1 (m.set j { m[j]! with stk := r }):=by
 rw [← lE,List.map_set]; rfl
theorem Le.cls {ts:List (Nat × AV)}{hs:List (Nat × Option (List AV))}{n:Nat}{z0:Lo}{o q j k:Nat}{m:List Cl}{r:List Tg}(hj:aP hs o = some (flat Ej (opn m j (.own q 0 k 2)))) (hq:aP hs q = some (flat Gp r)) (hk:k = r.length) (hjm:j < m.length) (hoq:o ≠ q) :
  Le ⟨ts,hs,n,z0⟩ ⟨ts,(o,some (flat F1 (m.set j { m[j]! with stk := r }))) :: (q,none) :: hs,n,z0⟩ := by
 subst hk
 rw [sY hjm] at hj
 have h := Le.frzC (ts := ts) (n := n) (z0 := z0) _ hj hq hoq
 rw [← DB,sY hjm]; exact h
theorem u9 {ρ:Nat → Option Nat}{m:List Cl}{j k i i':Nat}(hr:ρ i = some i'):RnL ρ (flat Ej (opn m j (.own i 0 k 2))) (flat Ej (opn m j (.own i' 0 k 2))):=by
 by_cases h : j < m.length
 ·rw [qZ h, qZ h]
  exact RnL.app (RnL.purI inferInstance) (RnL.app (RnL.purI inferInstance) (RnL.cons (RnV.own hr) (RnL.purI inferInstance)))
 ·have e : ∀ X, opn m j X = m.map GN := fun X => List.set_eq_of_length_le (by rw [List.length_map]; omega)
  rw [e,e,lE]
  exact RnL.purI inferInstance
end Go.AL
namespace Go.AL
def Ac (ts : List Int) (pts : List Pnt) (a w : Nat) (wr : Bool) : Prop :=
 ((pts[a]!.op = 4 ∨ pts[a]!.op = 6) ∧ pts[a]!.y = (w : Int) ∧ wr = false) ∨ (pts[a]!.op = 5 ∧ pts[a]!.y = (w : Int) ∧ wr = true) ∨ ((pts[a]!.op = 7 ∨ pts[a]!.op = 8) ∧ pts[a]!.x = (w : Int) ∧ wr = true) ∨
 (pts[a]!.op = 3 ∧ HT ts[w]! = true ∧ pts[a]!.y = (w : Int) ∧ wr = true) ∨ (aT pts[a]! = (w : Int) ∧ ts[w]! = 2 ∧ Mb ts pts (a,w) ∧ wr = true)
def Kp (ts : List Int) (pts : List Pnt) (a v : Nat) : Prop := Lv ts pts a v ∧ aT pts[a]! ≠ (v : Int) ∧ aZ ts pts[a]! v ≠ 2
def Cf (ts : List Int) (pts : List Pnt) (a L : Nat) : Prop := ∃ v w wr,Kp ts pts a v ∧ Ac ts pts a w wr ∧ FO ts pts (a,v,L) ∧ Gr ts pts (a,L) ∧ pts[L]!.y = (w : Int) ∧ (wr = true ∨ pts[L]!.op = 5)
section
variable {ts : List Int} {pts : List Pnt} {N : Int} {a : Nat} {s : Mc}
theorem Kp.nd (w:WG ts pts){v:Nat}(h:Kp ts pts a v):Nd ts pts (a,v):=by
 obtain ⟨k,e,hk⟩ := h.1
 exact .step hk ⟨rfl,e,h.2.1⟩
end
section
variable {ts : List Int} {pts : List Pnt} {a : Nat} {s : Mc}
theorem z6 {f:Flows ts pts}{i:Iss}(ha:a < pts.length) (h:i ∈ CS ts pts f.Aa f.Am f.Al f.Af f.Ap a):i ∈ f.iss := List.mem_flatMap.2 ⟨a,List.mem_range.2 ha,h⟩
theorem BI {x:Pnt}{v:Nat}:(fY x).testBit v = decide (aT x = (v:Int)):=by
 unfold fY
 split
 ·rw [Nat.testBit_two_pow,decide_eq_decide]; omega
 ·rw [Nat.zero_testBit]; exact (decide_eq_false (by omega)).symm
theorem Iu (w:WG ts pts) (f:Flows ts pts){L:Nat}(ha:a < pts.length) (h:Cf ts pts a L):(⟨a,if pts[L]!.op = 5 then 3 else 2,L⟩:Iss) ∈ f.iss:=by
 obtain ⟨v,u,wr,hk,hA,hf,hp,hy,hw⟩ := h
 obtain ⟨hl,hln⟩ := nG hp
 dsimp only at hl hln
 obtain ⟨_,hvl,_⟩ := wU w hf
 dsimp only at hvl
 have htl := w.tl
 have hpl := w.pl
 have hyw := w.y L hl
 have hx := w.x a ha
 have hya := w.y a ha
 refine z6 ha (List.mem_append_right _ (List.mem_map.2 ⟨(L : Int),cD.2 ⟨L,by omega,?_,rfl⟩,by rw [Int.toNat_natCast]⟩))
 rw [yC w f ha hl hln,Bool.and_eq_true,Bool.and_eq_true]
 refine ⟨List.any_eq_true.2 ?_,?_,(f.gp.2 a ha L).2 hp⟩
 ·have near : ∀ c : Acc, c.var = (u : Int) → c.write = wr → sJ pts L c = true := fun c h1 h2 => by
   unfold sJ
   rw [h1,h2,hy,decide_eq_true rfl,Bool.true_and]
   rcases hw with h|h
   ·rw [h]; rfl
   ·rw [decide_eq_true h]; simp
  unfold gM
  rcases hA with ⟨h,e,e2⟩ | ⟨h,e,e2⟩ | ⟨h,e,e2⟩ | ⟨h,ht,e,e2⟩ | ⟨h,ht,hm,e2⟩
  ·exact ⟨⟨pts[a]!.y,false⟩,List.mem_append_left _ (by rw [if_pos h]; simp),near _ e e2.symm⟩
  ·exact ⟨⟨pts[a]!.y,true⟩,List.mem_append_left _ (by rw [if_neg (by omega),if_pos h]; simp),near _ e e2.symm⟩
  ·exact ⟨⟨pts[a]!.x,true⟩,List.mem_append_left _ (by rw [if_neg (by omega),if_neg (by omega),if_pos h]; simp),near _ e e2.symm⟩
  ·refine ⟨⟨pts[a]!.y, true⟩, List.mem_append_left _ ?_, near _ e e2.symm⟩
   rw [if_neg (by omega),if_neg (by omega),if_neg (by omega),if_pos ⟨h,by rw [e,Int.toNat_natCast]; exact ht⟩]; simp
  ·refine ⟨⟨aT pts[a]!, true⟩, List.mem_append_right _ ?_, near _ h e2.symm⟩
   rw [if_pos ⟨by omega,by rw [h,Int.toNat_natCast]; exact ht,by rw [h,Int.toNat_natCast]; exact (f.gm.2 a ha u).2 hm⟩]; simp
 ·unfold rQ
  rw [eX]
  refine .inr ⟨(v : Int),cD.2 ⟨v,by omega,?_,rfl⟩,?_⟩
  ·rw [bZ, (f.gl.2 a ha v).2 hk.1, Bool.true_and, Nat.testBit_or, cJ, BI, decide_eq_false hk.2.1]
   have : decide (aZ ts pts[a]! v ∈ ([2] : List Int)) = false := decide_eq_false (by simpa using hk.2.2)
   rw [this]; simp
  ·rw [Int.toNat_natCast, eR f.gf.1 ha (by omega)]
   exact (f.gf.2 a v ha (by omega) L).2 hf
end
open Go.RowKit Go.MapKept
theorem Fr.trans2 {W0 W1:Nat → Prop}{w0 w w':World}(h:Fr W0 w0 w) (k:Fr W1 w w') (hW:∀ b,W1 b → W0 b ∨ w0.heap.size ≤ b):Fr W0 w0 w' :=
 ⟨k.os.trans h.os, k.tape.trans h.tape, k.output.trans h.output, Nat.le_trans h.size k.size, fun b hb hw => by
  rw [k.block b (Nat.lt_of_lt_of_le hb h.size) (fun q => (hW b q).elim hw (fun h => by omega))]; exact h.block b hb hw,fun b => Nat.le_trans (h.bs b) (k.bs b)⟩
section
variable {P : Program} {N : Nat} {Q : Exit → AS → List Int → Prop} {s : AS} {r : Nat} {ks : List Int}
variable {all : Array Oper}
theorem D2 {o:Oper}{a:Act}{w:World}{K K':Act → World → Prop}{Q1 Q2:Exit → Act → World → Prop}(h:∀ a w,K a w → K' a w) (hq:∀ e a w,Q1 e a w → e = .normal)
  (hh : o.wp P a w K Q1) : o.wp P a w K' Q2 := by
 have hL : ¬ LetsOut Q1 := fun ⟨a,w,q⟩ => by cases hq _ _ _ q
 unfold Oper.wp at *
 generalize (execOp a.eval o).run P w = z at *
 cases z with
 | ok n w' =>
  cases n <;> simp only [Oper.upon] at hh ⊢ <;>
   first
    | exact h _ _ hh
    | exact Calls.mono hh (fun e w'' he => by cases e <;> first|exact h _ _ he|(cases hq _ _ _ he)|exact absurd he hL)
    | exact Rows.mono hh (fun _ _ he => h _ _ he)
 | halt x w' => cases x <;> simp only [Oper.upon] at hh ⊢ <;> (cases hq _ _ _ hh)
theorem j9 {Q1 Q2:Exit → Act → World → Prop}{l2:List Oper}(k:∀ e a w,Q1 e a w → e = .normal ∧ wpList P all Q2 l2 a w):∀ (l1:List Oper) (a:Act) (w:World),wpList P all Q1 l1 a w → wpList P all Q2 (l1 ++ l2) a w
 | [],a,w,h => (k _ _ _ h).2
 | o :: l1, a, w, h => by
  have hL : ¬ LetsOut Q1 := fun ⟨a,w,q⟩ => by cases (k _ _ _ q).1
  rw [List.cons_append]
  unfold wpList at h ⊢
  split
  ·rename_i hw
   rw [if_pos hw] at h
   rcases h with h | ⟨_,h⟩
   ·exact .inl (D2 (fun a w => j9 k l1 a w) (fun e a w q => (k e a w q).1) h)
   ·exact absurd h hL
  ·rename_i hw;rw [if_neg hw] at h;exact j9 k l1 _ _ h
variable {rest : List Oper} {ts : List (Nat × AV)} {hs : List (Nat × Option (List AV))} {n : Nat} {z0 : Lo} {d : Nat} {ty : TypeId} {pos : String} {af : Array Edge}
end
end Go.AL
namespace Go.AL
open Go.Sort
def cL {α : Type} (k : Nat) (x : α) (xs : List α) : List α := xs.take k ++ x :: xs.drop k
def iW (v : Int) : Stmt := .mk 8 v 0 0 [] []
theorem m8 {α:Type}{k:Nat}{x:α}{xs:List α}:(cL k x xs).length = xs.length + 1:=by
 unfold cL;rw [List.length_append,List.length_cons,List.length_take,List.length_drop]; omega
section
variable {ts ts' : List Int} {pts : List Pnt} {σ : Nat → Nat}
theorem JU {x:Pnt}(h:bU x = true):x.op = 4 ∨ x.op = 5:=by
 unfold bU at h;simpa using h
end
section
variable {ts ts' : List Int} {pts : List Pnt} {σ : Nat → Nat}
theorem Jc (w:WG ts pts) (f:Flows ts pts){a l:Nat}(ha:a < pts.length) (h:(Bw ts pts f.Am f.Al f.Af f.Ap a).testBit l = true):Cf ts pts a l:=by
 obtain ⟨hl,hln⟩ := HR w f ha h
 have ho := JU hln
 have hyl := (w.y l hl).2 (by omega) (by omega)
 have hy0 := (w.y l hl).1
 have htl := w.tl
 rw [yC w f ha hl hln,Bool.and_eq_true,Bool.and_eq_true] at h
 obtain ⟨h1,h2,h3⟩ := h
 obtain ⟨c,hc,hn⟩ := List.any_eq_true.1 h1
 unfold sJ at hn
 rw [Bool.and_eq_true,decide_eq_true_eq] at hn
 obtain ⟨hv,hw⟩ := hn
 have hp := (f.gp.2 a ha l).1 h3
 unfold rQ at h2
 rw [eX] at h2
 rcases h2 with h2 | ⟨z,hz,h2⟩
 ·simp at h2
 obtain ⟨v,_,hb,rfl⟩ := cD.1 hz
 rw [bZ,Nat.testBit_or,cJ,BI] at hb
 simp only [Bool.and_eq_true,Bool.not_eq_true',Bool.or_eq_false_iff] at hb
 obtain ⟨b1,b2,b3⟩ := hb
 have hvl : v < ts.length := by obtain ⟨k,_,q⟩ := (f.gl.2 a ha v).1 b1;exact oS w q
 rw [Int.toNat_natCast,eR f.gf.1 ha (by omega)] at h2
 have hk : Kp ts pts a v := by
  refine ⟨(f.gl.2 a ha v).1 b1,by simpa using b3,?_⟩
  rw [decide_eq_true hvl,Bool.true_and] at b2
  simpa using b2
 have hf := (f.gf.2 a v ha (by omega) l).1 h2
 refine ⟨v,pts[l]!.y.toNat,c.write,hk,?_,hf,hp,by omega,by simpa using hw⟩
 unfold gM at hc
 have ec : ∀ (x : Int) (b : Bool), c = ⟨x, b⟩ → x = ((pts[l]!.y.toNat : Nat) : Int) ∧ c.write = b := fun x b e => by
  rw [e] at hv ⊢; dsimp only at hv ⊢; exact ⟨by omega,rfl⟩
 rcases List.mem_append.1 hc with hc|hc
 ·split at hc
  ·rename_i q;obtain ⟨e1,e2⟩ := ec _ _ (List.mem_singleton.1 hc);exact .inl ⟨q,e1,e2⟩
  ·split at hc
   ·rename_i q;obtain ⟨e1,e2⟩ := ec _ _ (List.mem_singleton.1 hc);exact .inr (.inl ⟨q,e1,e2⟩)
   ·split at hc
    ·rename_i q;obtain ⟨e1,e2⟩ := ec _ _ (List.mem_singleton.1 hc);exact .inr (.inr (.inl ⟨q,e1,e2⟩))
    ·split at hc
     ·rename_i q; obtain ⟨e1, e2⟩ := ec _ _ (List.mem_singleton.1 hc)
      refine .inr (.inr (.inr (.inl ⟨q.1,?_,e1,e2⟩)))
      have := q.2;rw [e1,Int.toNat_natCast] at this;exact this
     ·cases hc
 ·split at hc
  ·rename_i q; obtain ⟨e1, e2⟩ := ec _ _ (List.mem_singleton.1 hc)
   obtain ⟨q1,q2,q3⟩ := q
   rw [e1,Int.toNat_natCast] at q2 q3
   exact .inr (.inr (.inr (.inr ⟨e1,q2,(f.gm.2 a ha _).1 q3,e2⟩)))
  ·cases hc
end
end Go.AL
namespace Go.AL
section
variable {ts : List Int} {pts : List Pnt}
structure NoI (ts : List Int) (pts : List Pnt) : Prop where
 u : ∀ a v,a < pts.length → v < ts.length → aZ ts pts[a]! (v : Nat) ≠ 0 → ¬ Na ts pts (a,v)
 c : ∀ a L,a < pts.length → ¬ Cf ts pts a L
theorem NoI.iff (w:WG ts pts) (f:Flows ts pts):f.iss = [] ↔ NoI ts pts:=by
 have htl := w.tl
 constructor
 ·intro h
  refine ⟨fun a v ha hv hu hn => ?_,fun a L ha hc => ?_⟩
  ·have : (⟨(a : Int), 1, (v : Int)⟩ : Iss) ∈ f.iss := by
    refine z6 ha (List.mem_append_left _ (List.mem_map.2 ⟨(v : Int),cD.2 ⟨v,by omega,?_,rfl⟩,rfl⟩))
    rw [bZ,cJ,decide_eq_true hv,Bool.true_and,Bool.and_eq_true]
    have hb := qH ts pts[a]! (v : Int)
    refine ⟨decide_eq_true ?_,?_⟩
    ·simp only [List.mem_cons,List.not_mem_nil,or_false]; omega
    ·cases q : f.Aa[a]!.testBit v with
     | false => rfl
     | true => exact absurd hn ((f.ga.2 a ha v).1 q).2
   rw [h] at this;cases this
  ·have := Iu w f ha hc
   rw [h] at this;cases this
 ·intro h
  apply List.eq_nil_iff_forall_not_mem.2
  intro i hi
  obtain ⟨a,ha,h1⟩ := List.mem_flatMap.1 hi
  rw [List.mem_range] at ha
  rcases List.mem_append.1 h1 with h1|h1
  ·obtain ⟨z, hz, _⟩ := List.mem_map.1 h1
   obtain ⟨v,_,hb,_⟩ := cD.1 hz
   rw [bZ,cJ,Bool.and_eq_true,Bool.and_eq_true] at hb
   obtain ⟨⟨b1,b2⟩,b3⟩ := hb
   have hv := of_decide_eq_true b1
   refine h.u a v ha hv ?_ ?_
   ·intro q;rw [q] at b2;simp at b2
   ·apply Classical.byContradiction; intro hn
    rw [(f.ga.2 a ha v).2 ⟨hv,hn⟩] at b3;cases b3
  ·obtain ⟨z, hz, _⟩ := List.mem_map.1 h1
   obtain ⟨v,_,hb,_⟩ := cD.1 hz
   exact h.c a v ha (Jc w f ha hb)
end
end Go.AL
namespace Go.AL
theorem gE {p:Prg}(h:bE p = true):bO p.types = true ∧ okL p.types 4 p.body = true ∧ aI p.body ≤ 30:=by
 unfold bE at h
 simp only [Bool.and_eq_true,decide_eq_true_eq] at h
 exact ⟨h.1.1,h.1.2,h.2⟩
section
variable {C : Ctx} {ι : Pl} {F : Nat → Prop} {H : Nat → Option (List AV)} {w : World}
theorem tZ (P:Program){w:World}{b o:Nat}{arr:Array Value}{e:TypeId}{vs:List Value}(hb:w.heap[b]? = some (.cells arr e (0,0))) (hl:o + vs.length ≤ arr.size) (h1:∀ v ∈ vs,v.oneCell' = true) :
  w.setCells b o vs = w.setRow b (arr.toList.take o ++ vs ++ arr.toList.drop (o + vs.length)).toArray := by
 have a := run_storeCells_cells (P := P) b o vs 0 w (fun j hj => by
  unfold World.cell?; simp only [hb]; rw [Array.getElem?_eq_getElem (by omega)]; rfl) (fun j hj => by unfold World.frozen?; rw [hb]; simp) h1
 have c := run_storeCells_at P b o e vs 0 arr w hb (by omega) h1
 rw [a] at c
 simp only [Nat.add_zero] at c
 injection c
theorem HG.extS (P:Program) (gh:HG C ι F H w){id off b β:Nat}{cs new:List AV}{l:List Value}{arr:Array Value}{e:TypeId}(hH:H id = some cs) (hi:ι id = some (some (b,β))) (hb:w.heap[b]? = some (.cells arr e (0,0)))
  (hoff : off ≤ cs.length) (hl : β + off + l.length ≤ arr.size) (hn : RdL w (aD C.X ι H) ι new l) :
  HG C ι F (dA H id (some (cs.take off ++ new))) (w.setCells b (β + off) l) ∧ Carry w (aD C.X ι H) ι (w.setCells b (β + off) l) (aD C.X ι (dA H id (some (cs.take off ++ new)))) ι ∧ ∃ arr',(w.setCells b (β + off) l).heap[b]? = some (.cells arr' e (0,0)) ∧ arr'.size = arr.size := by
 rcases gh.obj id cs hH with ⟨q1,_⟩ | ⟨b',β',arr',el',q1,q2,q3,q4,q5,q6⟩
 ·rw [q1] at hi;cases hi
 rw [q1] at hi
 cases hi
 rw [q2] at hb
 cases hb
 have hseg := RdC.seg q2 (RdC.take off q4)
 rw [List.length_take,show min off cs.length = off from by omega] at hseg
 have hall := RdL.append hseg hn
 rw [tZ P q2 hl (gB hn)]
 have hh := setRow_heap w b arr (arr.toList.take (β + off) ++ l ++ arr.toList.drop (β + off + l.length)).toArray e _ q2
 have hsz : (arr.toList.take (β + off) ++ l ++ arr.toList.drop (β + off + l.length)).toArray.size = arr.size := by simp;omega
 obtain ⟨g1, c1⟩ := gh.mut (cs := cs.take off ++ new) hH q1 hh (by rw [hsz]; simp [lO, q2])
  (pre := arr.toList.take β) (l := (arr.toList.drop β).take off ++ l) (post := arr.toList.drop (β + off + l.length)) (by
   have e1 : arr.toList.take (β + off) = arr.toList.take β ++ (arr.toList.drop β).take off := by rw [List.take_add]
   simp only [e1,List.append_assoc]) (by simp;omega) hall (fun k hk => setRow_other w b k _ hk) rfl rfl rfl (by simp)
 exact ⟨g1,c1,_,hh,hsz⟩
theorem HG.mid (P:Program) (gh:HG C ι F H w){id off b β:Nat}{cs new:List AV}{l:List Value}(hH:H id = some cs) (hi:ι id = some (some (b,β)))
  (hl : off + new.length ≤ cs.length) (hn : RdL w (aD C.X ι H) ι new l) :
  HG C ι F (dA H id (some (iH cs off new))) (w.setCells b (β + off) l) ∧ Carry w (aD C.X ι H) ι (w.setCells b (β + off) l) (aD C.X ι (dA H id (some (iH cs off new)))) ι := by
 obtain ⟨w',h1,h2,h3⟩ := wA (P := P) gh hH hi hl hn
 rcases gh.obj id cs hH with ⟨q1,_⟩ | ⟨b',β',arr',el',q1,q2,q3,q4,q5,q6⟩
 ·rw [q1] at hi;cases hi
 rw [q1] at hi
 cases hi
 have hlen := RdL.length hn
 have a := run_storeCells_cells (P := P) b (β + off) l 0 w (fun j hj => by
  unfold World.cell?; simp only [q2]; rw [Array.getElem?_eq_getElem (by omega)]; rfl) (fun j hj => by unfold World.frozen?; rw [q2]; simp) (gB hn)
 rw [Nat.add_zero] at a
 rw [h1] at a
 injection a with _ e
 rw [← e]
 exact ⟨h2,h3⟩
end
end Go.AL
