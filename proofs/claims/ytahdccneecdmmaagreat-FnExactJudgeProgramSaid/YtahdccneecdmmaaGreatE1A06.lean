/-
 A part of the proofs over this program: rules and contracts of its functions (the rules).
-/
import Derived.Test.YtahdccneecdmmaaGreatE1A05
import Derived.Laws.BytesString
import Derived.Laws.StructEq
set_option linter.unusedVariables false
set_option linter.unusedSimpArgs false
namespace Go.AL
open Go.RowKit
mutual
theorem RnV.bw {w:World}{ρ:Nat → Option Nat}{bad bad':Nat → Prop}{ι ι':Pl}(h:∀ i i',ρ i = some i' → ι i = ι' i') (hc:∀ b,bad b → bad' b):∀ {v v':AV},RnV ρ v v' → ∀ {y:Value},Rd w bad' ι' v' y → Rd w bad ι v y
 | _,_,.pur hp,y,k => Rd.pur _ y hp (Rd.carry (⟨fun b o x h1 h2 => ⟨fun q => h1 (hc b q),h2⟩,fun _ _ h => h,fun _ => Nat.le_refl _⟩ : Carry w bad' ι' w bad ι') _ _ k)
 | _,_,.own hi,y,k => by simp only [Rd,h _ _ hi] at k ⊢; exact k
 | _,_,.optr hi,y,k => by simp only [Rd,h _ _ hi] at k ⊢; exact k
 | _, _, .imm (cs := cs) (cs' := cs') hl, y, k => by
  have hlen := RnL.len hl
  simp only [Rd] at k ⊢
  obtain ⟨a,c,rfl,k⟩ := k
  refine ⟨a,c,rfl,?_⟩
  rcases k with k | ⟨b,o,hn,rfl,k⟩
  ·exact .inl k
  ·refine .inr ⟨b, o, hn, rfl, ?_⟩
   rcases k with k | ⟨hb,k⟩
   ·subst k;exact .inl (List.eq_nil_of_length_eq_zero (by rw [hlen]; rfl))
   ·exact .inr ⟨fun q => hb (hc b q),RnL.bwC h hc hl k⟩
 | _, _, .agg hl, y, k => by
  simp only [Rd] at k ⊢
  obtain ⟨l,h1,h2⟩ := k
  exact ⟨l,h1,RnL.bwL h hc hl h2⟩
 | _, _, .tup hl, y, k => by
  simp only [Rd] at k ⊢
  obtain ⟨l,h1,h2⟩ := k
  exact ⟨l,h1,RnL.bwV h hc hl h2⟩
 | _, _, .clos h1 h2, y, k => by
  simp only [Rd] at k ⊢
  obtain ⟨lf,lc,q1,q2,q3⟩ := k
  exact ⟨lf,lc,q1,RnL.bwV h hc h1 q2,RnL.bwV h hc h2 q3⟩
theorem RnL.bwL {w:World}{ρ:Nat → Option Nat}{bad bad':Nat → Prop}{ι ι':Pl}(h:∀ i i',ρ i = some i' → ι i = ι' i') (hc:∀ b,bad b → bad' b):∀ {v v':List AV},RnL ρ v v' → ∀ {y:List Value},RdL w bad' ι' v' y → RdL w bad ι v y
 | _,_,.pur hp,y,k => RdL.pur _ y hp (RdL.carry (⟨fun b o x h1 h2 => ⟨fun q => h1 (hc b q),h2⟩,fun _ _ h => h,fun _ => Nat.le_refl _⟩ : Carry w bad' ι' w bad ι') _ _ k)
 | _,_,.nil,y,k => by simpa only [RdL] using k
 | _, _, .cons h1 h2, y, k => by
  simp only [RdL] at k ⊢
  obtain ⟨x,l',q0,q1,q2,q3⟩ := k
  exact ⟨x,l',q0,q1,RnV.bw h hc h1 q2,RnL.bwL h hc h2 q3⟩
theorem RnL.bwV {w:World}{ρ:Nat → Option Nat}{bad bad':Nat → Prop}{ι ι':Pl}(h:∀ i i',ρ i = some i' → ι i = ι' i') (hc:∀ b,bad b → bad' b):∀ {v v':List AV},RnL ρ v v' → ∀ {y:List Value},RdV w bad' ι' v' y → RdV w bad ι v y
 | _,_,.pur hp,y,k => RdV.pur _ y hp (RdV.carry (⟨fun b o x h1 h2 => ⟨fun q => h1 (hc b q),h2⟩,fun _ _ h => h,fun _ => Nat.le_refl _⟩ : Carry w bad' ι' w bad ι') _ _ k)
 | _,_,.nil,y,k => by simpa only [RdV] using k
 | _, _, .cons h1 h2, y, k => by
  simp only [RdV] at k ⊢
  obtain ⟨x,l',q0,q2,q3⟩ := k
  exact ⟨x,l',q0,RnV.bw h hc h1 q2,RnL.bwV h hc h2 q3⟩
theorem RnL.bwC {w:World}{ρ:Nat → Option Nat}{bad bad':Nat → Prop}{ι ι':Pl}(h:∀ i i',ρ i = some i' → ι i = ι' i') (hc:∀ b,bad b → bad' b):∀ {v v':List AV},RnL ρ v v' → ∀ {b o:Nat},RdC w bad' ι' v' b o → RdC w bad ι v b o
 | _,_,.pur hp,b,o,k => RdC.pur _ b o hp (RdC.carryB (⟨fun b o x h1 h2 => ⟨fun q => h1 (hc b q),h2⟩,fun _ _ h => h,fun _ => Nat.le_refl _⟩ : Carry w bad' ι' w bad ι') _ _ _ (fun o x hx => hx) k)
 | _,_,.nil,b,o,k => by simp only [RdC]
 | _, _, .cons h1 h2, b, o, k => by
  simp only [RdC] at k ⊢
  obtain ⟨⟨x,q1,q2,q3⟩,q4⟩ := k
  exact ⟨⟨x,q1,q2,RnV.bw h hc h1 q3⟩,RnL.bwC h hc h2 q4⟩
end
theorem RnL.app {ρ:Nat → Option Nat}:∀ {a a' b b':List AV},RnL ρ a a' → RnL ρ b b' → RnL ρ (a ++ b) (a' ++ b')
 | [], a', b, b', ha, hb => by
  have := ha.len
  cases a' with
  | nil => exact hb
  | cons _ _ => simp at this
 | c :: cs, _, b, b', .pur hp, hb => by
  simp only [bK,Bool.and_eq_true] at hp
  exact .cons (.pur hp.1) (RnL.app (.pur hp.2) hb)
 | c :: cs,_,b,b',.cons h1 h2,hb => .cons h1 (RnL.app h2 hb)
theorem RnL.flt {ρ:Nat → Option Nat}{α:Type}{f f':α → List AV}:∀ {xs:List α},(∀ x ∈ xs,RnL ρ (f x) (f' x)) → RnL ρ (flat f xs) (flat f' xs)
 | [],_ => .nil
 | x :: xs, h => by
  have h1 := h x (List.mem_cons_self)
  have h2 := RnL.flt (f := f) (f' := f') (xs := xs) (fun y hy => h y (List.mem_cons_of_mem _ hy))
  simp only [flat,List.flatMap_cons] at h2 ⊢
  exact h1.app h2
theorem Le.renG (ρ:Nat → Option Nat){ts ts':List (Nat × AV)}{hs hs':List (Nat × Option (List AV))}{n n':Nat}{lo lo':Lo}(hlo:lo'.lo = lo.lo) (hfb:lo.fb ≤ lo'.fb)
  (hid : ∀ id,id < lo.lo ∨ (aQ ≤ id ∧ id < lo.fb) → ρ id = some id) (hinj : ∀ a b c,ρ a = some c → ρ b = some c → a = b) (hfr : ∀ id,Fn n' lo' id → ρ id = none)
  (h1 : ∀ t v,lk ts' t = some v → ∃ v0,lk ts t = some v0 ∧ RnV ρ v v0) (h2 : ∀ id cs,aO hs' id = some cs → ∃ j cs0,ρ id = some j ∧ aO hs j = some cs0 ∧ RnL ρ cs cs0) :
  Le ⟨ts,hs,n,lo⟩ ⟨ts',hs',n',lo'⟩ := by
 rintro C a w ⟨h0,ι,g,gh⟩
 let ι' : Pl := fun id => match ρ id with|some j => ι j|none => none
 have hto : ∀ id j,ρ id = some j → ι' id = ι j := fun id j h => by simp only [ι',h]
 have hbad : ∀ b, aK C.X ι' (aO hs') b → aK C.X ι (aO hs) b := by
  rintro b (h | ⟨id,cs,β,q1,q2⟩)
  ·exact .inl h
  ·obtain ⟨j, cs0, q3, q4, _⟩ := h2 id cs q1
   rw [hto _ _ q3] at q2
   exact .inr ⟨j,cs0,β,q4,q2⟩
 refine ⟨fun id h => ?_,ι',⟨g.df,g.sz,fun t v ht => ?_⟩,⟨fun id cs h => ?_,fun id id' cs cs' b β β' q1 q2 q3 q4 => ?_,gh.fr,fun id p hp => ?_,fun id hid' => ?_⟩⟩
 ·have h' : lo.lo ≤ id := by rw [← hlo]; exact h
  rcases h0 id h' with q|q
  ·exact .inl ⟨q.1,Nat.lt_of_lt_of_le q.2 hfb⟩
  ·exact .inr q
 ·obtain ⟨v0, q1, q2⟩ := h1 t v ht
  obtain ⟨y,q3,q4⟩ := g.tm t v0 q1
  exact ⟨y,q3,RnV.bw hto hbad q2 q4⟩
 ·obtain ⟨j, cs0, q3, q4, q5⟩ := h2 id cs h
  rcases gh.obj j cs0 q4 with ⟨p1,p2⟩ | ⟨b,β,arr,e,p1,p2,p3,p4,p5,p6⟩
  ·refine .inl ⟨by rw [hto _ _ q3]; exact p1, ?_⟩
   subst p2;exact List.eq_nil_of_length_eq_zero (by rw [q5.len]; rfl)
  ·exact .inr ⟨b,β,arr,e,by rw [hto _ _ q3]; exact p1,p2,by rw [q5.len]; exact p3,RnL.bwC hto hbad q5 p4,p5,p6⟩
 ·obtain ⟨j, c1, r1, r2, _⟩ := h2 id cs q1
  obtain ⟨j',c2,r3,r4,_⟩ := h2 id' cs' q2
  rw [hto _ _ r1] at q3
  rw [hto _ _ r3] at q4
  have := gh.sep _ _ _ _ _ _ _ r2 r4 q3 q4
  subst this
  exact hinj _ _ _ r1 r3
 ·have : ρ id = some id := by
   refine hid id ?_
   rcases Nat.lt_or_ge id lo.lo with q|q
   ·exact .inl q
   ·rcases h0 id q with q1 | q1
    ·exact .inr q1
    ·rw [q1] at hp;cases hp
  rw [hto _ _ this]; exact gh.ex id p hp
 ·have := hfr id hid'
  simp only [ι',this]
def jB (m : List (Nat × Nat)) (lo : Lo) (pn : Option Nat) (id : Nat) : Option Nat :=
 if id < lo.lo then some id else if aQ ≤ id then (if id < lo.fb then some id else if id = lo.fb then pn else none) else yU m id
theorem gV {m:List (Nat × Nat)}{lo:Lo}{pn:Option Nat}{id:Nat}(h1:aQ ≤ id) (h2:id < lo.fb):jB m lo pn id = some id:=by
 unfold jB;split
 ·rfl
 ·simp [h1,h2]
def MS (ρ : Nat → Option Nat) (l : List (Nat × AV)) : List (Nat × AV) → Prop
 | [] => True
 | (t,v) :: l' => (∃ v0,lk l t = some v0 ∧ RnV ρ v v0) ∧ MS ρ l l'
def BI (ρ : Nat → Option Nat) (l : List (Nat × Option (List AV))) : List (Nat × Option (List AV)) → Prop
 | [] => True
 | (t,none) :: l' => BI ρ l l'
 | (t,some cs) :: l' => (∃ j cs0,ρ t = some j ∧ aO l j = some cs0 ∧ RnL ρ cs cs0) ∧ BI ρ l l'
theorem Cp {ρ:Nat → Option Nat}{l:List (Nat × AV)}:∀ {l':List (Nat × AV)},MS ρ l l' → ∀ t v,lk l' t = some v → ∃ v0,lk l t = some v0 ∧ RnV ρ v v0
 | [],_,t,v,h => by simp [lk] at h
 | (u, x) :: l', hr, t, v, h => by
  simp only [MS] at hr
  simp only [kI] at h
  split at h
  ·rename_i e;subst e;cases h;exact hr.1
  ·exact Cp hr.2 t v h
theorem qS {a b:List (Nat × Option (List AV))}{u:Nat}{c:List AV}:aO (a ++ b) u = some c → aO a u = some c ∨ aO b u = some c:=by
 induction a with
 | nil => exact fun h => .inr h
 | cons x a ih =>
  obtain ⟨t,v⟩ := x
  rw [List.cons_append,cF,cF]
  split
  ·exact fun h => .inl h
  ·exact ih
theorem Fq {a b:List (Nat × Option (List AV))}{u:Nat}{c:List AV}(h:aO a u = some c):aO (a ++ b) u = some c:=by
 induction a with
 | nil => simp [aO] at h
 | cons x a ih =>
  obtain ⟨t,v⟩ := x
  rw [List.cons_append]
  rw [cF] at h ⊢
  split
  ·rename_i e;rw [if_pos e] at h;exact h
  ·rename_i e;rw [if_neg e] at h;exact ih h
theorem GD {a b:List (Nat × Option (List AV))}{u:Nat}(h:gI u a = true):aO (a ++ b) u = aO b u:=by
 induction a with
 | nil => rfl
 | cons x a ih =>
  obtain ⟨t,v⟩ := x
  simp only [gI,Bool.and_eq_true] at h
  rw [List.cons_append,cF,if_neg (by have := dN h.1;omega)]
  exact ih h.2
theorem p7 {n m:Nat}(h:n ≤ m):∀ {a:List (Nat × Option (List AV))},gI n a = true → gI m a = true
 | [],_ => rfl
 | (t, v) :: a, k => by
  simp only [gI,Bool.and_eq_true] at k ⊢
  exact ⟨by have := dN k.1;simp [Nat.blt]; omega,p7 h k.2⟩
theorem rH {ρ:Nat → Option Nat}{l:List (Nat × Option (List AV))}:∀ {l':List (Nat × Option (List AV))},BI ρ l l' → ∀ t cs,aO l' t = some cs →
  ∃ j cs0,ρ t = some j ∧ aO l j = some cs0 ∧ RnL ρ cs cs0
 | [],_,t,v,h => by simp [aO] at h
 | (u, none) :: l', hr, t, v, h => by
  simp only [BI] at hr
  simp only [cF] at h
  split at h
  ·cases h
  ·exact rH hr t v h
 | (u, some x) :: l', hr, t, v, h => by
  simp only [BI] at hr
  simp only [cF] at h
  split at h
  ·rename_i e;subst e;cases h;exact hr.1
  ·exact rH hr.2 t v h
theorem wT {m:List (Nat × Nat)}{lo:Lo}{pn:Option Nat}{n':Nat}(hm:GY lo.lo n' m = true){a c:Nat}(h:jB m lo pn a = some c) :
  (a < lo.lo ∧ c = a) ∨ (lo.lo ≤ a ∧ aQ ≤ a ∧ a < lo.fb ∧ c = a) ∨ (lo.lo ≤ a ∧ aQ ≤ a ∧ a = lo.fb ∧ pn = some c) ∨ (lo.lo ≤ a ∧ a < aQ ∧ a < n' ∧ lo.lo ≤ c ∧ c < aQ ∧ yU m a = some c) := by
 unfold jB at h
 split at h
 ·cases h;exact .inl ⟨by assumption,rfl⟩
 ·split at h
  ·split at h
   ·cases h;exact .inr (.inl ⟨by omega,by assumption,by assumption,rfl⟩)
   ·split at h
    ·exact .inr (.inr (.inl ⟨by omega,by assumption,by assumption,h⟩))
    ·cases h
  ·have := jK hm _ _ h
   exact .inr (.inr (.inr ⟨by omega,by omega,by omega,by omega,by omega,h⟩))
theorem Le.renF (m:List (Nat × Nat)) (pn:Option Nat){ts ts':List (Nat × AV)}{hs hs':List (Nat × Option (List AV))}{n n':Nat}{lo lo':Lo}(hm:GY lo.lo n' m = true) (hn:lo.lo ≤ n') (hlo:lo'.lo = lo.lo)
  (hfb : lo'.fb = lo.fb + (if pn.isSome then 1 else 0)) (hp : ∀ b,pn = some b → lo.lo ≤ b ∧ b < aQ ∧ ∀ a,yU m a ≠ some b)
  (h1 : ∀ t v,lk ts' t = some v → ∃ v0,lk ts t = some v0 ∧ RnV (jB m lo pn) v v0) (h2 : ∀ id cs,aO hs' id = some cs → ∃ j cs0,jB m lo pn id = some j ∧ aO hs j = some cs0 ∧ RnL (jB m lo pn) cs cs0) :
  Le ⟨ts,hs,n,lo⟩ ⟨ts',hs',n',lo'⟩ := by
 refine Le.renG (jB m lo pn) hlo (by rw [hfb]; omega) (fun id h => ?_) (fun a b c ha hb => ?_) (fun id h => ?_) h1 h2
 ·rcases h with h | h
  ·unfold jB;rw [if_pos h]
  ·exact gV h.1 h.2
 ·rcases wT hm ha with a1 | a1 | a1 | a1 <;> rcases wT hm hb with b1 | b1 | b1 | b1
  all_goals try omega
  ·have := hp c b1.2.2.2;omega
  ·have := hp c b1.2.2.2;omega
  ·have := hp c a1.2.2.2;omega
  ·have := hp c a1.2.2.2;omega
  ·exact absurd b1.2.2.2.2.2 ((hp c a1.2.2.2).2.2 b)
  ·exact absurd a1.2.2.2.2.2 ((hp c b1.2.2.2).2.2 a)
  ·exact xZ hm _ _ _ a1.2.2.2.2.2 b1.2.2.2.2.2
 ·cases hc : jB m lo pn id with
  | none => rfl
  | some c =>
   have h3 : n' ≤ id := h.1
   have h4 : id < aQ ∨ lo'.fb ≤ id := h.2
   rcases wT hm hc with a1|a1|a1|a1
   ·omega
   ·omega
   ·rw [a1.2.2.2] at hfb;simp at hfb;omega
   ·omega
theorem Le.renF0 (m:List (Nat × Nat)){R:List (List Bool)}{ts ts':List (Nat × AV)}{hs lits:List (Nat × Option (List AV))}{n n':Nat}{lo:Lo}{l0:Nat}(hF:FamR R R hs hs) (hz:lo = ⟨l0,aQ + R.length⟩) (hm:GY l0 n' m = true) (hn:l0 ≤ n')
  (h1 : MS (jB m lo none) ts ts') (h2 : BI (jB m lo none) hs lits) : Le ⟨ts,hs,n,lo⟩ ⟨ts',lits ++ gJ R,n',⟨l0,aQ + R.length⟩⟩ := by
 subst hz
 refine Le.renF m none hm hn rfl rfl (fun b h => by cases h) (Cp h1) (fun id cs h => ?_)
 rcases qS h with h|h
 ·exact rH h2 id cs h
 ·obtain ⟨k, hk, rfl, rfl⟩ := lF h
  exact ⟨_,_,gV (by omega) (by show k + aQ < aQ + R.length;omega),hF.get hk,.pur (inferInstance : Pur (flat cB R[k]!)).pf⟩
theorem Le.renF1 (m:List (Nat × Nat)) (b:Nat){r:List Bool}{R R':List (List Bool)}{ts ts':List (Nat × AV)}{hs lits:List (Nat × Option (List AV))}{n n':Nat}{lo:Lo}{l0:Nat}(hF:FamR R R hs hs) (hz:lo = ⟨l0,aQ + R.length⟩) (hm:GY l0 n' m = true) (hn:l0 ≤ n')
  (hlb : l0 ≤ aQ) (hb : l0 ≤ b ∧ b < aQ ∧ (m.all fun p => !Nat.beq p.2 b) = true) (hr : aO hs b = some (flat cB r)) (hR : R' = R ++ [r])
  (h1 : MS (jB m lo (some b)) ts ts') (h2 : BI (jB m lo (some b)) hs lits) : Le ⟨ts,hs,n,lo⟩ ⟨ts',lits ++ gJ R',n',⟨l0,aQ + R'.length⟩⟩ := by
 subst hz hR
 refine Le.renF m (some b) hm hn rfl (by show aQ + (R ++ [r]).length = aQ + R.length + 1;simp [Nat.add_assoc]) (fun b' h => ?_) (Cp h1) (fun id cs h => ?_)
 ·cases h
  refine ⟨hb.1,hb.2.1,fun a ha => ?_⟩
  have := wK ha
  have h3 := hb.2.2
  rw [List.all_eq_true] at h3
  have := h3 _ this
  simp at this
 ·rcases qS h with h | h
  ·exact rH h2 id cs h
  ·obtain ⟨k, hk, rfl, rfl⟩ := lF h
   rw [List.length_append,List.length_singleton] at hk
   rcases Nat.lt_or_ge k R.length with hk2|hk2
   ·have e : (R ++ [r])[k]! = R[k]! := by rw [a8 _ _ (by simp; omega), a8 _ _ hk2, List.getElem_append_left hk2]
    exact ⟨_,_,gV (by omega) (by show k + aQ < aQ + R.length;omega),hF.get hk2,by rw [e]; exact .pur (inferInstance : Pur (flat cB R[k]!)).pf⟩
   ·have e : k = R.length := by omega
    subst e
    have e2 : (R ++ [r])[R.length]! = r := by rw [a8 _ _ (by simp)]; simp
    refine ⟨b,flat cB r,?_,hr,?_⟩
    ·unfold jB
     rw [if_neg (by show ¬ R.length + aQ < l0;omega),if_pos (by omega),if_neg (by show ¬ R.length + aQ < aQ + R.length;omega),if_pos (by show R.length + aQ = aQ + R.length;omega)]
    ·rw [e2]; exact .pur (inferInstance : Pur (flat cB r)).pf
section
variable {P : Program} {N : Nat} {Q : Exit → AS → Prop}
theorem Le.litF {ts ts':List (Nat × AV)}{hs lits:List (Nat × Option (List AV))}{n n':Nat}{z0 z1:Lo}{R:List (List Bool)}(h1:oC ts ts') (h2:mZ hs lits) (h3:n ≤ n') (hF:FamR R R hs hs) (hz:z0 = z1) :
  Le ⟨ts,hs,n,z0⟩ ⟨ts',lits ++ gJ R,n',z1⟩ := by
 refine Le.of (mD h1) (fun i c h => ?_) h3 hz
 rcases qS h with h|h
 ·exact jH h2 i c h
 ·obtain ⟨k, hk, rfl, rfl⟩ := lF h
  exact hF.get hk
theorem A8 {σ:Type}{c:Code}{ts:List (Nat × AV)}{hs:List (Nat × Option (List AV))}{n:Nat}{z0:Lo}(l0:Nat) (Rf:σ → List (List Bool)) (ks:List Nat) (kt:List (Nat × AV)) (js:List Nat) (kh:List (Nat × Option (List AV)))
  (ot : σ → List (Nat × AV)) (oh : σ → List (Nat × Option (List AV))) (p : σ → Prop) (μ : σ → Nat) (i0 : σ) (h0 : p i0) (hk : nW ks ts = kt) (hj : pG js hs = kh)
  (h1 : oC ts (ot i0)) (h2 : mZ hs (oh i0)) (hF : FamR (Rf i0) (Rf i0) hs hs) (hz : z0 = ⟨l0,aQ + (Rf i0).length⟩)
  (round : ∀ i,p i → AW P N c (n6 (fun s' => ∃ j,p j ∧ μ j < μ i ∧ Le s' ⟨ot j ++ kt,(oh j ++ kh) ++ gJ (Rf j),n,⟨l0,aQ + (Rf j).length⟩⟩) Q) ⟨ot i ++ kt,(oh i ++ kh) ++ gJ (Rf i),n,⟨l0,aQ + (Rf i).length⟩⟩) :
  AW P N (.loop c) Q ⟨ts,hs,n,z0⟩ := by
 subst hk hj
 exact C1 p (fun i => ⟨ot i ++ nW ks ts,(oh i ++ pG js hs) ++ gJ (Rf i),n,⟨l0,aQ + (Rf i).length⟩⟩) μ ⟨i0,h0,Le.litF (lR h1 (k7 ks)) (lK h2 (oR js)) (Nat.le_refl _) hF hz⟩ round
theorem MU {c:Code}{s s':AS}(k:Le s s') (h:AW P N c Q s'):AW P N c Q s := h.le k
end
def xF (P : Program) (k : FuncId) (args : List AV) (H0 : Nat → Option (List AV)) (F0 : Nat → Prop) (Q : AV → (Nat → Option (List AV)) → Prop) : Prop :=
 ∀ (C : Ctx) (ι : Pl) (w : World) (vals : List Value), C.w0 = w → C.ι0 = ι → HG C ι F0 H0 w → RdV w (aK C.X ι H0) ι args vals →
  Calls P k vals.toArray w (fun e w' => ∃ v r H' ι',e = .returned v ∧ Q r H' ∧ Rd w' (aK C.X ι' H') ι' r v ∧ HG C ι' (fun _ => False) H' w')
theorem oY {P:Program}{k:FuncId}{fn:Func}{c:Code}{args:List AV}{H0:List (Nat × Option (List AV))}{n fb:Nat}{Q:AV → (Nat → Option (List AV)) → Prop}(hf:P.funcs[k]? = some fn) (hb:fn.body = some c)
  (hN : args.length ≤ fn.ntmps) (h : AW P fn.ntmps c (oB P fn.results Q) ⟨g6 0 args,H0,n,⟨n,fb⟩⟩) : xF P k args (aO H0) (Fn n ⟨n,fb⟩) Q := by
 intro C ι w vals hw hι g hr
 refine calls_of_wp hf hb ?_
 let C' : Ctx := { C with N := fn.ntmps }
 have hlen := RdV.length hr
 have g' : HG C' ι (Fn n ⟨n,fb⟩) (aO H0) w := ⟨g.obj,g.sep,g.fr,g.ex,g.fresh⟩
 have gt : TG C' ι (lk (g6 0 args)) (aO H0) { tmps := vals.toArray ++ Array.replicate (fn.ntmps - vals.toArray.size) undef, defers := [] } w := by
  refine ⟨rfl,by simp [C',hlen]; omega,fun t av ht => ?_⟩
  obtain ⟨y,_,h1,h2⟩ := tH hr ht
  refine ⟨y,?_,h2⟩
  have hlt : t < vals.length := by
   rcases Nat.lt_or_ge t vals.length with q|q
   ·exact q
   ·rw [List.getElem?_eq_none (by simpa using q)] at h1;cases h1
  rw [Array.getElem?_append_left (by simpa using hlt)]
  simpa using h1
 refine wp_mono (h C' _ w rfl ⟨fun id hid => ?_,ι,gt,g'⟩) ?_
 ·by_cases q : aQ ≤ id ∧ id < fb
  ·exact .inl q
  ·refine .inr ?_
   show C.ι0 id = none
   rw [hι]
   exact g.fresh id ⟨hid,by show id < aQ ∨ fb ≤ id;omega⟩
 rintro e a' w' ⟨s1,⟨he,s',l,hle,hres,hQ⟩,hg⟩
 obtain ⟨_,ι',g1,g2⟩ := hle C' a' w' hg
 obtain ⟨ys,h1,h2⟩ := yG (P := P) g1 g2 hres
 have hres' : (results fn a'.tmps).run P w' = .ok (if h : ys.toArray.size = 1 then ys.toArray[0] else .tuple ys.toArray) w' := by
  have hr1 : results fn a'.tmps = (do let vs ← fn.results.mapM (Bp a'); pure (if h : vs.size = 1 then vs[0] else .tuple vs)) := by
   unfold results
   congr 1
  rw [hr1,Array.mapM_eq_mapM_toList,Sem.run_bind,Sem.run_map,h1]
  simp only [Result.andThen_ok,Sem.run_pure]
 have g3 : HG C ι' (fun _ => False) (aO s'.hs) w' := ⟨g2.obj,g2.sep,g2.fr,g2.ex,fun _ h => h.elim⟩
 rcases he with rfl|rfl
 ·exact ⟨g1.df,_,hres',_,_,_,ι',rfl,hQ,oD h2,g3⟩
 ·exact ⟨g1.df,_,hres',_,_,_,ι',rfl,hQ,oD h2,g3⟩
def pT (mpF fr : Nat → Option Nat) (j : Nat) : Option Nat := match mpF j with | some i => some i | none => fr j
theorem zJ {P:Program}{k:FuncId}{args args':List AV}{H0 hh:Nat → Option (List AV)}{F0:Nat → Prop}{mpF fr fi:Nat → Option Nat}{r rr':AV}{H2:Nat → Option (List AV)}
  (h : xF P k args H0 F0 (fun r' H' => r' = r ∧ ∀ j cs,hh j = some cs → H' j = some cs)) (hmi : ∀ j j' i,mpF j = some i → mpF j' = some i → j = j') (hfi : ∀ i j,fi i = some j ↔ fr j = some i) (hmf : ∀ j i,fr j = some i → mpF j = none) (hF0 : ∀ j,F0 j → mpF j = none)
  {C : Ctx} {ι : Pl} {F : Nat → Prop} {H : Nat → Option (List AV)} {w : World} (g : HG C ι F H w)
  (hH0 : ∀ j i,mpF j = some i → ∃ cs cs',H0 j = some cs ∧ H i = some cs' ∧ RnL mpF cs cs') (hH1 : ∀ j cs,H0 j = some cs → ∃ i,mpF j = some i)
  (ha : RnL mpF args args') (hF : ∀ j i,fr j = some i → F i) (hr : RnV (pT mpF fr) r rr')
  (hw : ∀ i cs',H2 i = some cs' → (∃ j cs,pT mpF fr j = some i ∧ hh j = some cs ∧ RnL (pT mpF fr) cs cs') ∨ (H i = some cs' ∧ ∀ j,mpF j ≠ some i))
  {vals : List Value} (hv : RdV w (aK C.X ι H) ι args' vals) :
  Calls P k vals.toArray w (fun e w' => ∃ v ι',e = .returned v ∧ HG C ι' (fun j => F j ∧ fi j = none) H2 w' ∧ Carry w (aK C.X ι H) ι w' (aK C.X ι' H2) ι' ∧ Rd w' (aK C.X ι' H2) ι' rr' v) := by
 let W0 : Nat → Prop := fun b => ∃ (j i β : Nat),mpF j = some i ∧ ι i = some (some (b,β))
 let Xc : Nat → Prop := fun b => aK C.X ι H b ∧ ¬ W0 b
 let ιc : Pl := fun j => match mpF j with|some i => ι i|none => none
 let C' : Ctx := { N := 0,w0 := w,W0 := W0,X := Xc,ι0 := ιc,xlt := fun b hb => g.bad_lt b hb.1 }
 have hW0 : ∀ b, W0 b → ¬ C.X b ∧ (C.W0 b ∨ C.w0.heap.size ≤ b) ∧ aK C.X ι H b := by
  rintro b ⟨j,i,β,h1,h2⟩
  obtain ⟨cs,cs',q1,q2,q3⟩ := hH0 j i h1
  rcases g.obj i cs' q2 with ⟨q,_⟩ | ⟨b',β',arr,e,q,q4,q5,q6,q7,q8⟩
  ·rw [q] at h2;cases h2
  ·rw [q] at h2;cases h2;exact ⟨q7,q8,.inr ⟨i,cs',_,q2,q⟩⟩
 have hnone : ∀ i j,fi i = some j → ι i = none := fun i j h1 => g.fresh i (hF j i ((hfi i j).1 h1))
 have hιc : ∀ j i,mpF j = some i → ιc j = ι i := fun j i h => by simp only [ιc,h]
 have hbadc : ∀ b, aK Xc ιc H0 b → aK C.X ι H b := by
  rintro b (⟨h1,_⟩ | ⟨j,cs,β,h1,h2⟩)
  ·exact h1
  ·obtain ⟨i, hi⟩ := hH1 j cs h1
   rw [hιc j i hi] at h2
   exact (hW0 b ⟨j,_,β,hi,h2⟩).2.2
 have hbadc2 : ∀ b, aK C.X ι H b → aK Xc ιc H0 b := by
  intro b hb
  by_cases hw0 : W0 b
  ·obtain ⟨j, i, β, h1, h2⟩ := hw0
   obtain ⟨cs,cs',q1,q2,q3⟩ := hH0 j i h1
   exact .inr ⟨j,cs,β,q1,by rw [hιc j i h1]; exact h2⟩
  ·exact .inl ⟨hb,hw0⟩
 have gc : HG C' ιc F0 H0 w := by
  refine ⟨fun j cs hj => ?_,fun j j' cs cs' b β β' h1 h2 h3 h4 => ?_,Fr.refl _ _,fun _ _ h => h,fun j hj => ?_⟩
  ·obtain ⟨i, hi⟩ := hH1 j cs hj
   obtain ⟨cs1,cs',q1,q2,q3⟩ := hH0 j _ hi
   rw [hj] at q1;cases q1
   rcases g.obj _ cs' q2 with ⟨q4,q5⟩ | ⟨b',β',arr,e,q4,q5,q6,q7,q8,q9⟩
   ·refine .inl ⟨by rw [hιc j i hi]; exact q4, ?_⟩
    subst q5
    exact List.eq_nil_of_length_eq_zero (by rw [q3.len]; rfl)
   ·have hw0 : W0 b' := ⟨j, _, β', hi, q4⟩
    exact .inr ⟨b',β',arr,e,by rw [hιc j i hi]; exact q4,q5,by rw [q3.len]; exact q6,RnL.bwC hιc hbadc q3 q7,fun hx => hx.2 hw0,.inl hw0⟩
  ·obtain ⟨i, hi⟩ := hH1 j cs h1
   obtain ⟨i',hi'⟩ := hH1 j' cs' h2
   obtain ⟨_,c1,_,q2,_⟩ := hH0 j _ hi
   obtain ⟨_,c2,_,q2',_⟩ := hH0 j' _ hi'
   rw [hιc j i hi] at h3
   rw [hιc j' i' hi'] at h4
   have := g.sep _ _ _ _ _ _ _ q2 q2' h3 h4
   exact hmi j j' i hi (by rw [hi',this])
  ·show ιc j = none
   simp only [ιc,hF0 j hj]
 have hvc : RdV w (aK C'.X ιc H0) ιc args vals := RnL.bwV hιc hbadc ha hv
 refine (h C' ιc w vals rfl rfl gc hvc).mono ?_
 rintro e w' ⟨v,r0,H',ιr,rfl,⟨rfl,hkeep⟩,hrd,gr⟩
 let ι' : Pl := fun i => match fi i with|some j => ιr j|none => ι i
 have hmpf : ∀ (j i : Nat), mpF j = some i → fi i = none := by
  intro j i hj
  cases hq : fi i with
  | none => rfl
  | some j2 =>
   obtain ⟨cs,cs',q1,q2,q3⟩ := hH0 j i hj
   rcases g.obj i cs' q2 with ⟨q,_⟩ | ⟨_,_,_,_,q,_⟩ <;> (rw [hnone i _ hq] at q;cases q)
 have hιr : ∀ (j i : Nat), mpF j = some i → ιr j = ι i := by
  intro j i hj
  obtain ⟨cs,cs',q1,q2,q3⟩ := hH0 j i hj
  have : ∃ q, ι i = some q := by
   rcases g.obj i cs' q2 with ⟨q,_⟩ | ⟨_,_,_,_,q,_⟩
   ·exact ⟨_,q⟩
   ·exact ⟨_,q⟩
  obtain ⟨q,hq⟩ := this
  rw [hq]
  exact gr.ex j q (by show ιc j = some q;rw [hιc j i hj]; exact hq)
 have hρ1 : ∀ j i, pT mpF fr j = some i → (mpF j = some i) ∨ (mpF j = none ∧ fr j = some i) := by
  intro j i hj
  unfold pT at hj
  split at hj
  ·cases hj;exact .inl (by assumption)
  ·exact .inr ⟨by assumption,hj⟩
 have hto : ∀ j i, pT mpF fr j = some i → ιr j = ι' i := by
  intro j i hj
  rcases hρ1 j i hj with h2 | ⟨h1,h2⟩
  ·rw [hιr j i h2]; simp only [ι',hmpf j i h2]
  ·simp only [ι',(hfi i j).2 h2]
 have hcase := hw
 have hold : ∀ i cs', H i = some cs' → ι' i = ι i := by
  intro i cs' hi
  simp only [ι']
  cases hq : fi i with
  | none => rfl
  | some j2 => rcases g.obj i cs' hi with ⟨q,_⟩ | ⟨_,_,_,_,q,_⟩ <;> (rw [hnone i _ hq] at q;cases q)
 have hnW : ∀ (i : Nat) cs' b β, H i = some cs' → (∀ j, mpF j ≠ some i) → ι i = some (some (b, β)) → ¬ W0 b := by
  rintro i cs' b β hi hm hb ⟨j,i2,β2,q1,q2⟩
  obtain ⟨cs,c2,_,q3,_⟩ := hH0 j i2 q1
  have := g.sep _ _ _ _ _ _ _ hi q3 hb q2
  subst this
  exact hm j q1
 have hobjlt : ∀ i cs' b β,H i = some cs' → ι i = some (some (b,β)) → b < w.heap.size := fun i cs' b β hi hb => g.bad_lt b (.inr ⟨i,cs',β,hi,hb⟩)
 have hcal : ∀ j cs b β, H' j = some cs → ιr j = some (some (b, β)) → W0 b ∨ w.heap.size ≤ b := by
  intro j cs b β hj hb
  rcases gr.obj j cs hj with ⟨q,_⟩ | ⟨b',β',arr,e,q,q4,q5,q6,q7,q8⟩
  ·rw [q] at hb;cases hb
  ·rw [q] at hb;cases hb;exact q8
 have hbad : ∀ b, aK C.X ι' H2 b → aK C.X ι H b ∨ w.heap.size ≤ b := by
  rintro b (h1 | ⟨i,cs',β,h1,h2⟩)
  ·exact .inl (.inl h1)
  ·rcases hcase i cs' h1 with ⟨j, cs, q1, q2, q3⟩ | ⟨q1, q2⟩
   ·rw [← hto j i q1] at h2
    rcases hcal j cs b β (hkeep j cs q2) h2 with q|q
    ·exact .inl (hW0 b q).2.2
    ·exact .inr q
   ·rw [hold i cs' q1] at h2;exact .inl (.inr ⟨i,cs',β,q1,h2⟩)
 have hfr := gr.fr
 have hcar : Carry w (aK C.X ι H) ι w' (aK C.X ι' H2) ι' := by
  refine ⟨fun b o y h1 h2 => ?_,fun i q hq => ?_,hfr.bs⟩
  ·have hlt := kM h2
   refine ⟨fun hb => ?_,?_⟩
   ·rcases hbad b hb with h | h
    ·exact h1 h
    ·omega
   ·rw [c7 (hfr.block b hlt (fun hw0 => h1 (hW0 b hw0).2.2))]; exact h2
  ·simp only [ι']
   cases hq2 : fi i with
   | none => exact hq
   | some j2 => rw [hnone i _ hq2] at hq;cases hq
 have hrn2 : RnH w' (pT mpF fr) (aK C'.X ιr H') ιr (aK C.X ι' H2) ι' := by
  refine ⟨⟨fun b o y h1 h2 => ⟨fun hb => h1 ?_,h2⟩,fun _ _ h => h,fun _ => Nat.le_refl _⟩,fun j i hj => hto j i hj⟩
  rcases hb with hb | ⟨i,cs',β,q1,q2⟩
  ·exact .inl ⟨.inl hb,fun hw0 => (hW0 b hw0).1 hb⟩
  ·rcases hcase i cs' q1 with ⟨j, cs, r1, r2, r3⟩ | ⟨r1, r2⟩
   ·rw [← hto j i r1] at q2
    exact .inr ⟨j,cs,β,hkeep j cs r2,q2⟩
   ·rw [hold i cs' r1] at q2
    exact .inl ⟨.inr ⟨i,cs',β,r1,q2⟩,hnW i cs' b β r1 r2 q2⟩
 refine ⟨v,ι',rfl,⟨fun i cs' hi => ?_,fun i i2 cs1 cs2 b β β' h1 h2 h3 h4 => ?_,⟨hfr.os.trans g.fr.os,hfr.tape.trans g.fr.tape,hfr.output.trans g.fr.output,Nat.le_trans g.fr.size hfr.size,fun b hb hnw => ?_,fun b => Nat.le_trans (g.fr.bs b) (hfr.bs b)⟩,fun i q hq => hcar.pl i q (g.ex i q hq),fun i hi => ?_⟩,hcar,RnV.fwd hrn2 hr hrd⟩
 ·rcases hcase i cs' hi with ⟨j, cs, q1, q2, q3⟩ | ⟨q1, q2⟩
  ·rcases gr.obj j cs (hkeep j cs q2) with ⟨r1, r2⟩ | ⟨b, β, arr, e, r1, r2, r3, r4, r5, r6⟩
   ·refine .inl ⟨by rw [← hto j i q1]; exact r1, ?_⟩
    subst r2
    exact List.eq_nil_of_length_eq_zero (by rw [← q3.len]; rfl)
   ·refine .inr ⟨b, β, arr, e, by rw [← hto j i q1]; exact r1, r2, by rw [← q3.len]; exact r3, RnL.fwdC hrn2 q3 r4, ?_, ?_⟩
    ·rcases r6 with r6 | r6
     ·exact (hW0 b r6).1
     ·intro hX
      have := C.xlt b hX
      have := g.fr.size
      have : w.heap.size ≤ b := r6
      omega
    ·rcases r6 with r6 | r6
     ·exact (hW0 b r6).2.1
     ·refine .inr ?_
      have := g.fr.size
      have : w.heap.size ≤ b := r6
      omega
  ·rcases g.obj i cs' q1 with ⟨r1, r2⟩ | ⟨b, β, arr, e, r1, r2, r3, r4, r5, r6⟩
   ·exact .inl ⟨by rw [hold i cs' q1]; exact r1,r2⟩
   ·have hlt := eS r2
    have hbl := hfr.block b hlt (hnW i cs' b β q1 q2 r1)
    exact .inr ⟨b,β,arr,e,by rw [hold i cs' q1]; exact r1,by rw [hbl]; exact r2,r3,RdC.carryB hcar _ _ _ (fun o y hy => by rw [c7 hbl]; exact hy) r4,r5,r6⟩
 ·rcases hcase i cs1 h1 with ⟨j, c1, q1, q2, q3⟩ | ⟨q1, q2⟩ <;> rcases hcase i2 cs2 h2 with ⟨j2, c2, q1', q2', q3'⟩ | ⟨q1', q2'⟩
  ·rw [← hto j i q1] at h3
   rw [← hto j2 i2 q1'] at h4
   have := gr.sep _ _ _ _ _ _ _ (hkeep j c1 q2) (hkeep j2 c2 q2') h3 h4
   subst this
   rw [q1] at q1'; cases q1'; rfl
  ·rw [← hto j i q1] at h3
   rw [hold i2 cs2 q1'] at h4
   have hlt := hobjlt i2 cs2 b _ q1' h4
   rcases hcal j c1 b _ (hkeep j c1 q2) h3 with q|q
   ·exact (hnW i2 cs2 b _ q1' q2' h4 q).elim
   ·omega
  ·rw [hold i cs1 q1] at h3
   rw [← hto j2 i2 q1'] at h4
   have hlt := hobjlt i cs1 b _ q1 h3
   rcases hcal j2 c2 b _ (hkeep j2 c2 q2') h4 with q|q
   ·exact (hnW i cs1 b _ q1 q2 h3 q).elim
   ·omega
  ·rw [hold i cs1 q1] at h3
   rw [hold i2 cs2 q1'] at h4
   exact g.sep _ _ _ _ _ _ _ q1 q1' h3 h4
 ·have hb2 : b < w.heap.size := by have := g.fr.size; omega
  rw [hfr.block b hb2 (fun hw0 => ?_)]
  ·exact g.fr.block b hb hnw
  ·rcases (hW0 b hw0).2.1 with q | q
   ·exact hnw q
   ·omega
 ·simp only [ι', hi.2]
  exact g.fresh i hi.1
attribute [local irreducible] aQ
def Mo (P : Program) (k : FuncId) (args : List AV) (R0 : List (List Bool)) (r : AV) (hh : List (Nat × Option (List AV))) : Prop :=
 xF P k args (aO (gJ R0)) (Fn 0 ⟨0,aQ + R0.length⟩) (fun r' H' => r' = r ∧ ∀ id cs,aO (hh ++ gJ R0) id = some cs → H' id = some cs)
def Nq (P : Program) (k : FuncId) (args : List AV) (r : AV) (R1 : List (List Bool)) : Prop :=
 xF P k args (aO []) (Fn 0 ⟨0,aQ⟩) (fun r' H' => r' = r ∧ ∀ id cs,aO (gJ R1) id = some cs → H' id = some cs)
theorem pK {hs:List (Nat × Option (List AV))}{r r':AV}{R0:List (List Bool)}{hh:List (Nat × Option (List AV))}(hr:r' = r) (hh':mZ hs hh) (hF:FamR R0 R0 hs hs):r' = r ∧ ∀ id cs,aO (hh ++ gJ R0) id = some cs → aO hs id = some cs:=by
 refine ⟨hr,fun id cs h => ?_⟩
 rcases qS h with h|h
 ·exact jH hh' id cs h
 ·obtain ⟨k, hk, rfl, rfl⟩ := lF h
  exact hF.get hk
theorem LZ {hs:List (Nat × Option (List AV))}{r r':AV}{R0:List (List Bool)}(hr:r' = r) (hF:FamR R0 R0 hs hs):r' = r ∧ ∀ id cs,aO (gJ R0) id = some cs → aO hs id = some cs :=
 pK (hh := []) hr trivial hF
def H8 (b m : Nat) (j : Nat) : Option Nat := if aQ ≤ j ∧ j < aQ + m then some (b + j) else none
def Mp (n n1 : Nat) (j : Nat) : Option Nat := if j < n1 then some (n + j) else none
def ND (n n1 : Nat) (i : Nat) : Option Nat := if n ≤ i ∧ i < n + n1 then some (i - n) else none
def Nn (b m n n1 : Nat) : Nat → Option Nat := pT (H8 b m) (Mp n n1)
theorem Ek {mpF fr:Nat → Option Nat}{j i:Nat}(h:mpF j = some i):pT mpF fr j = some i := by unfold pT;rw [h]
theorem DG {mpF fr:Nat → Option Nat}{j:Nat}(h:mpF j = none):pT mpF fr j = fr j := by unfold pT;rw [h]
theorem mK {b m k:Nat}(h:k < m):H8 b m (k + aQ) = some (b + k + aQ):=by
 unfold H8;rw [if_pos (by omega),Nat.add_assoc]
theorem I5 {b m n n1 k:Nat}(h:k < m):Nn b m n n1 (k + aQ) = some (b + k + aQ) := Ek (mK h)
theorem rI {b m n n1 j:Nat}(h:j < n1) (hb:j < aQ):Nn b m n n1 j = some (n + j):=by
 have e : H8 b m j = none := by unfold H8;rw [if_neg (by omega)]
 refine (DG e).trans ?_
 unfold Mp;rw [if_pos h]
theorem rn_rows {ρ:Nat → Option Nat}{b b' m w:Nat}(h:∀ k,k < m → ρ (b + k + aQ) = some (b' + k + aQ)):RnL ρ (flat (yJ b w) (List.range m)) (flat (yJ b' w) (List.range m)) :=
 RnL.flt fun k hk => by rw [List.mem_range] at hk;exact .cons (.own (h k hk)) .nil
theorem cJ {m:List (Nat × Nat)}{lo:Lo}{pn:Option Nat}{b k w:Nat}(h:aQ + (b + k) ≤ lo.fb):RnL (jB m lo pn) (flat (yJ b w) (List.range k)) (flat (yJ b w) (List.range k)) :=
 rn_rows fun j hj => gV (by omega) (by omega)
def Mm (ρ : Nat → Option Nat) (hh : List (Nat × Option (List AV))) : List (Nat × Option (List AV)) → Prop
 | [] => True
 | (i,none) :: l => Mm ρ hh l
 | (i,some cs') :: l => (∃ j cs,ρ j = some i ∧ aO hh j = some cs ∧ RnL ρ cs cs') ∧ Mm ρ hh l
theorem Cy {ρ:Nat → Option Nat}{hh:List (Nat × Option (List AV))}:∀ {ws:List (Nat × Option (List AV))},Mm ρ hh ws → ∀ i cs',(i,some cs') ∈ ws → ∃ j cs,ρ j = some i ∧ aO hh j = some cs ∧ RnL ρ cs cs'
 | [],_,i,cs',h => by simp at h
 | (u, none) :: l, hw, i, cs', h => by
  simp only [Mm] at hw
  rcases List.mem_cons.1 h with h|h
  ·cases h
  ·exact Cy hw i cs' h
 | (u, some c) :: l, hw, i, cs', h => by
  simp only [Mm] at hw
  rcases List.mem_cons.1 h with h|h
  ·cases h;exact hw.1
  ·exact Cy hw.2 i cs' h
section
variable {P : Program} {N : Nat} {Q : Exit → AS → Prop} {all : Array Oper} {rest : List Oper} {ts : List (Nat × AV)} {hs : List (Nat × Option (List AV))} {n : Nat} {z0 : Lo} {md : Md}
variable {d : Nat} {ty : TypeId} {pos : String} {af : Array Edge}
theorem AI {k:FuncId}{args:Array Operand}{tys:Array TypeId}{avs avs0:List AV}{R R0:List (List Bool)}{r rr':AV}{hh:List (Nat × Option (List AV))}(b n1:Nat) (D:List Nat) (ws:List (Nat × Option (List AV))) [hc:CaT P k]
  (ha : evL (lk ts) args.toList = some avs) (h : Mo P k avs0 R0 r hh) (hF : FamR R R hs hs) (hb : b + R0.length ≤ R.length) (hR : ∀ k,k < R0.length → R0[k]! = R[b + k]!) (hD : ∀ k,k < R0.length → b + k + aQ ∈ D)
  (har : RnL (H8 b R0.length) avs0 avs) (hk : gI aQ hh = true) (hr : RnV (Nn b R0.length n n1) r rr') (hw : Mm (Nn b R0.length n n1) hh ws) (hM : Nat.ble (n + n1) aQ = true) (hN : Nat.blt d N = true)
  {md' : Md} [hmd : MdA md (fR args.toList ++ D.map .inr) (ws.map (fun p => .inr p.1) ++ [.inl d]) md']
  (kk : RW P N all Q md' rest ⟨(d,rr') :: ts,iB hs ws,n + n1,z0⟩) : RW P N all Q md (⟨some d,.call ⟨.value (.func k),args,tys⟩,ty,pos,af,none⟩ :: rest) ⟨ts,hs,n,z0⟩ := by
 have hM' := Nat.le_of_ble_eq_true hM
 refine hO (rs := fR args.toList ++ D.map .inr) (ws := ws) (n' := n + n1) (out := rr') rfl (Nat.le_add_right _ _) (.inr hM') (fun C ι F T H a w K Q' hCN ag hFf g gh hK => ?_) (fun x hx => by cases hx;exact dN hN) (by simp only [wD]; rw [← hmd.pf] at kk;exact kk)
 simp only [Oper.wp,iJ hc.pf,Oper.upon]
 have hH : ∀ q, q < R0.length → H (b + q + aQ) = some (flat cB R[b + q]!) := fun q hq => by
  rw [ag.r.h _ (List.mem_map_of_mem (hD q hq))]; exact hF.get (by omega)
 have hmp : ∀ j i, H8 b R0.length j = some i → ∃ q, q < R0.length ∧ j = q + aQ ∧ i = b + q + aQ := by
  intro j i hj
  unfold H8 at hj
  split at hj
  ·cases hj;exact ⟨j - aQ,by omega,by omega,by omega⟩
  ·cases hj
 have hrh : ∀ j i, Mp n n1 j = some i → j < n1 ∧ i = n + j := by
  intro j i hj
  unfold Mp at hj
  split at hj
  ·cases hj;exact ⟨by assumption,rfl⟩
  ·cases hj
 refine (zJ (fr := Mp n n1) (fi := ND n n1) (hh := aO (hh ++ gJ R0)) (H2 := j3 H ws) h (fun j j' i h1 h2 => ?_) (fun i j => ?_) (fun j i h1 => ?_) (fun j hj => ?_) gh (fun j i hj => ?_) (fun j cs hj => ?_) har (fun j i hj => ?_) hr (fun i cs' hi => ?_) (iM g (ag.l.evL.trans ha))).mono ?_
 ·obtain ⟨q, _, _, _⟩ := hmp j i h1
  obtain ⟨q',_,_,_⟩ := hmp j' i h2
  omega
 ·unfold ND Mp
  constructor
  ·intro h1
   split at h1
   ·cases h1;rw [if_pos (by omega)]; congr 1;omega
   ·cases h1
  ·intro h1
   split at h1
   ·cases h1;rw [if_pos (by omega)]; congr 1;omega
   ·cases h1
 ·have := hrh j i h1
  unfold H8;rw [if_neg (by omega)]
 ·have h1 : j < aQ ∨ aQ + R0.length ≤ j := hj.2
  unfold H8;rw [if_neg (by omega)]
 ·obtain ⟨q, q1, rfl, rfl⟩ := hmp j i hj
  refine ⟨flat cB R0[q]!,flat cB R[b + q]!,?_,hH q q1,?_⟩
  ·rw [nZ,if_pos q1]
  ·rw [hR q q1]; exact .pur (inferInstance : Pur (flat cB R[b + q]!)).pf
 ·obtain ⟨q, q1, rfl, rfl⟩ := lF hj
  exact ⟨_,mK q1⟩
 ·obtain ⟨q1, rfl⟩ := hrh j i hj
  exact hFf _ (Nat.le_add_right _ _) (by omega)
 ·rcases rT hi with h1 | ⟨h1, h2⟩
  ·obtain ⟨j, cs, q1, q2, q3⟩ := Cy hw i cs' h1
   exact .inl ⟨j,cs,q1,Fq q2,q3⟩
  ·by_cases hq : ∃ q, q < R0.length ∧ i = b + q + aQ
   ·obtain ⟨q, q1, rfl⟩ := hq
    rw [hH q q1] at h1
    cases h1
    refine .inl ⟨q + aQ,flat cB R0[q]!,I5 q1,?_,?_⟩
    ·rw [GD (p7 (by omega) hk),nZ,if_pos q1]
    ·rw [hR q q1]; exact .pur (inferInstance : Pur (flat cB R[b + q]!)).pf
   ·refine .inr ⟨h1, fun j hj => hq ?_⟩
    obtain ⟨q,q1,_,q2⟩ := hmp j i hj
    exact ⟨q,q1,q2⟩
 ·rintro e w' ⟨v, ι', rfl, g', c', hrd⟩
  refine hK ι' w' v (g.carry c') (g'.less (fun _ _ h => h) (fun j hj => ⟨hj.1,?_⟩)).1 hrd
  unfold ND;rw [if_neg hj.2]
theorem G4 {k:FuncId}{args:Array Operand}{tys:Array TypeId}{avs:List AV}{R R1:List (List Bool)}{r rr':AV}{hs':List (Nat × Option (List AV))}{l0:Nat}[hc:CaT P k]
  (ha : evL (lk ts) args.toList = some avs) (h : Nq P k avs r R1) (hp : bK avs = true) (hF : FamR R (R ++ R1) hs hs') (hz : z0 = ⟨l0,aQ + R.length⟩)
  (hr : RnV (fun j => if aQ ≤ j ∧ j < aQ + R1.length then some (R.length + j) else none) r rr') (hM : Nat.ble n aQ = true) (hN : Nat.blt d N = true)
  (kk : RW P N all Q .txt rest ⟨(d,rr') :: ts,hs',n,⟨l0,aQ + (R ++ R1).length⟩⟩) : RW P N all Q .txt (⟨some d,.call ⟨.value (.func k),args,tys⟩,ty,pos,af,none⟩ :: rest) ⟨ts,hs,n,z0⟩ := by
 subst hz
 rintro C a w hCN ⟨h0,ι,g,gh⟩
 refine wpList_plain rfl (fun K hK => ?_)
 simp only [Oper.wp,iJ hc.pf,Oper.upon]
 have hM' := Nat.le_of_ble_eq_true hM
 have hrh : ∀ j i, (fun j => if aQ ≤ j ∧ j < aQ + R1.length then some (R.length + j) else none) j = some i → aQ ≤ j ∧ j < aQ + R1.length ∧ i = R.length + j := by
  intro j i hj
  dsimp only at hj
  split at hj
  ·rename_i hh;cases hj;exact ⟨hh.1,hh.2,rfl⟩
  ·cases hj
 have hrho : pT (fun _ => none) (fun j => if aQ ≤ j ∧ j < aQ + R1.length then some (R.length + j) else none) = (fun j => if aQ ≤ j ∧ j < aQ + R1.length then some (R.length + j) else none) := by funext j;rfl
 have hlen : (R ++ R1).length = R.length + R1.length := List.length_append
 refine (zJ (mpF := fun _ => none) (fr := fun j => if aQ ≤ j ∧ j < aQ + R1.length then some (R.length + j) else none) (fi := fun i => if aQ + R.length ≤ i ∧ i < aQ + R.length + R1.length then some (i - R.length) else none) (hh := aO (gJ R1)) (H2 := aO hs') (args' := avs)
  h (fun j j' i h1 h2 => by cases h1) (fun i j => ?_) (fun j i h1 => rfl) (fun j hj => rfl) gh (fun j i hj => by cases hj) (fun j cs hj => by simp [aO] at hj) (.pur hp) (fun j i hj => ?_) (rr' := rr') (by rw [hrho]; exact hr) (fun i cs' hi => ?_) (iM g ha)).mono ?_
 ·constructor
  ·intro h1
   split at h1
   ·cases h1;rw [if_pos (by omega)]; congr 1;omega
   ·cases h1
  ·intro h1
   split at h1
   ·cases h1;rw [if_pos (by omega)]; congr 1;omega
   ·cases h1
 ·obtain ⟨q1, q2, rfl⟩ := hrh j i hj
  exact ⟨by show n ≤ R.length + j;omega,.inr (by show aQ + R.length ≤ R.length + j;omega)⟩
 ·rcases Nat.lt_or_ge i aQ with hi2 | hi2
  ·exact .inr ⟨by rw [hF.low i hi2]; exact hi,fun j => by simp⟩
  ·obtain ⟨q, rfl⟩ : ∃ q, i = q + aQ := ⟨i - aQ, by omega⟩
   have hg := hF.symm.fam q
   rw [hi] at hg
   split at hg
   ·rename_i hq
    cases hg
    rcases Nat.lt_or_ge q R.length with hq2|hq2
    ·refine .inr ⟨?_, fun j => by simp⟩
     have e : (R ++ R1)[q]! = R[q]! := by rw [a8 _ _ hq,a8 _ _ hq2,List.getElem_append_left hq2]
     rw [e]; exact hF.get hq2
    ·refine .inl ⟨(q - R.length) + aQ, flat cB R1[q - R.length]!, ?_, ?_, ?_⟩
     ·rw [hrho]
      show (if aQ ≤ q - R.length + aQ ∧ q - R.length + aQ < aQ + R1.length then some (R.length + (q - R.length + aQ)) else none) = some (q + aQ)
      rw [if_pos (by omega)]; congr 1;omega
     ·rw [nZ,if_pos (by omega)]
     ·have e : (R ++ R1)[q]! = R1[q - R.length]! := by rw [a8 _ _ hq, a8 _ _ (by omega), List.getElem_append_right hq2]
      rw [e]; exact .pur (inferInstance : Pur (flat cB R1[q - R.length]!)).pf
   ·cases hg
 ·rintro e w' ⟨v, ι', rfl, g', c', hrd⟩
  refine hK _ _ (kk C _ _ hCN ⟨fun id hid => ?_,ι',?_,?_⟩)
  ·rcases h0 id hid with q | q
   ·exact .inl ⟨q.1,by have := q.2;show id < aQ + (R ++ R1).length;have h5 : id < aQ + R.length := this;omega⟩
   ·exact .inr q
  ·show TG C ι' (lk ((d, rr') :: ts)) _ _ _
   rw [jM]
   exact (g.carry c').put (hCN.symm ▸ dN hN) hrd
  ·refine (g'.less (fun _ _ h => h) (fun j hj => ?_)).1
   have h3 : n ≤ j := hj.1
   have h4 : j < aQ ∨ aQ + (R ++ R1).length ≤ j := hj.2
   refine ⟨⟨h3,?_⟩,?_⟩
   ·show j < aQ ∨ aQ + R.length ≤ j
    omega
   ·rw [if_neg (by omega)]
end
theorem G0 {P:Program}{k:FuncId}{fn:Func}{c:Code}{args:List AV}{R0:List (List Bool)}{r:AV}{hh:List (Nat × Option (List AV))}(hf:P.funcs[k]? = some fn) (hb:fn.body = some c) (hN:args.length ≤ fn.ntmps)
  (h : AW P fn.ntmps c (oB P fn.results (fun r' H' => r' = r ∧ ∀ id cs,aO (hh ++ gJ R0) id = some cs → H' id = some cs)) ⟨g6 0 args,gJ R0,0,⟨0,aQ + R0.length⟩⟩) : Mo P k args R0 r hh := oY hf hb hN h
theorem HR {P:Program}{k:FuncId}{fn:Func}{c:Code}{args:List AV}{R1:List (List Bool)}{r:AV}(hf:P.funcs[k]? = some fn) (hb:fn.body = some c) (hN:args.length ≤ fn.ntmps)
  (h : AW P fn.ntmps c (oB P fn.results (fun r' H' => r' = r ∧ ∀ id cs,aO (gJ R1) id = some cs → H' id = some cs)) ⟨g6 0 args,[],0,⟨0,aQ⟩⟩) : Nq P k args r R1 := oY hf hb hN h
theorem Le.virt {ts:List (Nat × AV)}{hs:List (Nat × Option (List AV))}{n:Nat}{z0:Lo}(hn:n < aQ):Le ⟨ts,hs,n,z0⟩ ⟨ts,(n,some []) :: hs,n + 1,z0⟩:=by
 rintro C a w ⟨h0,ι,g,gh⟩
 obtain ⟨g1,c1⟩ := gh.virt (id := n) ⟨Nat.le_refl _,.inl hn⟩
 have e : aO ((n,some []) :: hs) = dU (aO hs) n (some []) := A7 _ _ _
 refine ⟨h0,dU ι n (some none),?_,?_⟩
 ·show TG C _ (lk ts) (aO ((n, some []) :: hs)) a w
  rw [e]; exact g.carry c1
 ·show HG C _ _ (aO ((n, some []) :: hs)) w
  rw [e]
  refine (g1.less (fun _ _ h => h) (fun j hj => ?_)).1
  have h1 : n + 1 ≤ j := hj.1
  exact ⟨⟨by show n ≤ j;omega,hj.2⟩,by omega⟩
theorem Le.cellsN {ts:List (Nat × AV)}{hs:List (Nat × Option (List AV))}{n:Nat}{z0:Lo}{i q:Nat}{cs cs' cq:List AV}(hi:aO hs i = some cs) (hq:aO hs q = some cq) (hl:cs'.length = cs.length)
  (h : ∀ (w : World) (bad : Nat → Prop) (ι : Pl) (b β : Nat),(∃ p,ι q = some p) → RdC w bad ι cs b β → RdC w bad ι cs' b β) :
  Le ⟨ts,hs,n,z0⟩ ⟨ts,(i,some cs') :: hs,n,z0⟩ := by
 rintro C a w ⟨h0,ι,g,gh⟩
 have hqq : ∃ p, ι q = some p := by
  rcases gh.obj q cq hq with ⟨p1,_⟩ | ⟨_,_,_,_,p1,_⟩ <;> exact ⟨_,p1⟩
 have hk : ∀ id c, aO ((i, some cs') :: hs) id = some c → (id = i ∧ c = cs') ∨ (id ≠ i ∧ aO hs id = some c) := by
  intro id c hc
  rw [cF] at hc
  split at hc
  ·rename_i e;cases hc;exact .inl ⟨e,rfl⟩
  ·rename_i e;exact .inr ⟨fun h => e h,hc⟩
 have hk2 : ∀ id c, aO hs id = some c → ∃ c', aO ((i, some cs') :: hs) id = some c' := by
  intro id c hc
  rw [cF]
  split
  ·exact ⟨_,rfl⟩
  ·exact ⟨_,hc⟩
 have hb : aK C.X ι (aO ((i, some cs') :: hs)) = aK C.X ι (aO hs) := by
  funext b
  refine propext ⟨?_,?_⟩
  ·rintro (h | ⟨id, c, β, h1, h2⟩)
   ·exact .inl h
   ·rcases hk id c h1 with ⟨rfl, _⟩ | ⟨_, h3⟩
    ·exact .inr ⟨_,_,_,hi,h2⟩
    ·exact .inr ⟨_,_,_,h3,h2⟩
  ·rintro (h | ⟨id, c, β, h1, h2⟩)
   ·exact .inl h
   ·obtain ⟨c', h3⟩ := hk2 id c h1
    exact .inr ⟨_,_,_,h3,h2⟩
 refine ⟨h0,ι,⟨g.df,g.sz,fun t av ht => ?_⟩,?_,?_,gh.fr,gh.ex,gh.fresh⟩
 ·show ∃ y, a.tmps[t]? = some y ∧ Rd w (aK C.X ι (aO ((i, some cs') :: hs))) ι av y
  rw [hb]; exact g.tm t av ht
 ·intro id c hc
  show _ ∨ ∃ b β arr e,ι id = some (some (b,β)) ∧ w.heap[b]? = some (.cells arr e (0,0)) ∧ β + c.length ≤ arr.size ∧ RdC w (aK C.X ι (aO ((i,some cs') :: hs))) ι c b β ∧ ¬ C.X b ∧ (C.W0 b ∨ C.w0.heap.size ≤ b)
  rw [hb]
  rcases hk id c hc with ⟨rfl,rfl⟩ | ⟨_,h3⟩
  ·rcases gh.obj _ _ hi with ⟨q1, q2⟩ | ⟨b, β, arr, e, q1, q2, q3, q4, q5⟩
   ·subst q2
    exact .inl ⟨q1,List.eq_nil_of_length_eq_zero hl⟩
   ·exact .inr ⟨b,β,arr,e,q1,q2,by rw [hl]; exact q3,h _ _ _ _ _ hqq q4,q5⟩
  ·exact gh.obj _ _ h3
 ·intro id id' c c' b β β' h1 h2 h3 h4
  obtain ⟨d1, e1⟩ : ∃ d, aO hs id = some d := by
   rcases hk id c h1 with ⟨rfl,_⟩ | ⟨_,h⟩
   ·exact ⟨_,hi⟩
   ·exact ⟨_,h⟩
  obtain ⟨d2, e2⟩ : ∃ d, aO hs id' = some d := by
   rcases hk id' c' h2 with ⟨rfl,_⟩ | ⟨_,h⟩
   ·exact ⟨_,hi⟩
   ·exact ⟨_,h⟩
  exact gh.sep id id' d1 d2 b β β' e1 e2 h3 h4
theorem rC {w:World}{bad:Nat → Prop}{ι:Pl}{c c':AV}(hc:∀ y,Rd w bad ι c y → Rd w bad ι c' y):∀ (a:List AV) (r:List AV) (b o:Nat),RdC w bad ι (a ++ c :: r) b o → RdC w bad ι (a ++ c' :: r) b o
 | [], r, b, o, h => by
  simp only [List.nil_append,RdC] at h ⊢
  obtain ⟨⟨x,h1,h2,h3⟩,h4⟩ := h
  exact ⟨⟨x,h1,h2,hc _ h3⟩,h4⟩
 | x :: a, r, b, o, h => by
  simp only [List.cons_append,RdC] at h ⊢
  exact ⟨h.1,rC hc a r b (o + 1) h.2⟩
theorem Le.nilCell {ts:List (Nat × AV)}{hs:List (Nat × Option (List AV))}{n:Nat}{z0:Lo}{i:Nat}(e:Nat) (c1:List AV){c2:List AV}(hi:aO hs i = some (c1 ++ .v (.slice none 0 0) :: c2)) (hin:i ≠ n) (hn:n < aQ) :
  Le ⟨ts,hs,n,z0⟩ ⟨ts,(i,some (c1 ++ .own n 0 0 e :: c2)) :: (n,some []) :: hs,n + 1,z0⟩ :=
 (Le.virt hn).trans (Le.cellsN (q := n) (cs := c1 ++ .v (.slice none 0 0) :: c2) (by rw [cF, if_neg hin]; exact hi) (by rw [cF, if_pos rfl]) (by simp) fun w bad ι b β hp hr =>
  rC (fun y hy => by simp only [Rd] at hy ⊢; exact .inl ⟨hp,trivial,none,hy⟩) c1 c2 b β hr)
theorem Le.frzC {ts:List (Nat × AV)}{hs:List (Nat × Option (List AV))}{n:Nat}{z0:Lo}{j i m e:Nat}(c1:List AV){c2 d:List AV}(hj:aO hs j = some (c1 ++ .own i 0 m e :: c2)) (hi:aO hs i = some d) (hij:j ≠ i) :
  Le ⟨ts,hs,n,z0⟩ ⟨ts,(j,some (c1 ++ .imm m d :: c2)) :: (i,none) :: hs,n,z0⟩ := by
 rintro C a w ⟨h0,ι,g,gh⟩
 have hk : ∀ id c, aO ((j, some (c1 ++ .imm m d :: c2)) :: (i, none) :: hs) id = some c → (id = j ∧ c = c1 ++ .imm m d :: c2) ∨ (id ≠ j ∧ id ≠ i ∧ aO hs id = some c) := by
  intro id c hc
  rw [cF] at hc
  split at hc
  ·rename_i e;cases hc;exact .inl ⟨e,rfl⟩
  ·rename_i e
   rw [cF] at hc
   split at hc
   ·cases hc
   ·rename_i e2;exact .inr ⟨e,e2,hc⟩
 have hk2 : ∀ id c, aO ((j, some (c1 ++ .imm m d :: c2)) :: (i, none) :: hs) id = some c → id ≠ i ∧ ∃ c', aO hs id = some c' := by
  intro id c hc
  rcases hk id c hc with ⟨rfl,_⟩ | ⟨_,h2,h3⟩
  ·exact ⟨hij,_,hj⟩
  ·exact ⟨h2,_,h3⟩
 have hbad : ∀ b, aK C.X ι (aO ((j, some (c1 ++ .imm m d :: c2)) :: (i, none) :: hs)) b → aK C.X ι (aO hs) b := by
  rintro b (h | ⟨id,c,β,h1,h2⟩)
  ·exact .inl h
  ·obtain ⟨_, c', h3⟩ := hk2 id c h1
   exact .inr ⟨id,c',β,h3,h2⟩
 have car : Carry w (aK C.X ι (aO hs)) ι w (aK C.X ι (aO ((j,some (c1 ++ .imm m d :: c2)) :: (i,none) :: hs))) ι := ⟨fun b o x h1 h2 => ⟨fun q => h1 (hbad b q),h2⟩,fun _ _ h => h,fun _ => Nat.le_refl _⟩
 have hcell : ∀ y, Rd w (aK C.X ι (aO ((j, some (c1 ++ .imm m d :: c2)) :: (i, none) :: hs))) ι (.own i 0 m e) y → Rd w (aK C.X ι (aO ((j, some (c1 ++ .imm m d :: c2)) :: (i, none) :: hs))) ι (.imm m d) y := by
  intro y hr
  simp only [Rd] at hr ⊢
  rcases hr with ⟨_,h2,a',h3⟩ | ⟨b,β,c,h1,h2,h3,h4⟩
  ·subst h2;exact ⟨a',0,h3,.inl rfl⟩
  ·refine ⟨_, c, h2, ?_⟩
   rcases Nat.eq_zero_or_pos m with h5|h5
   ·exact .inl h5
   ·refine .inr ⟨b, β + 0, h3, rfl, ?_⟩
    rcases gh.obj i d hi with ⟨q1,q2⟩ | ⟨b',β',arr,e',q1,q2,q3,q4,q5,q6⟩
    ·rw [h1] at q1;cases q1
    ·rw [h1] at q1; cases q1
     refine .inr ⟨?_,RdC.carryB car _ _ _ (fun o x hx => hx) q4⟩
     rintro (h | ⟨id',cs',β',r1,r2⟩)
     ·exact q5 h
     ·obtain ⟨r3, c', r4⟩ := hk2 id' cs' r1
      exact r3 (gh.sep _ _ _ _ _ _ _ r4 hi r2 h1)
 refine ⟨h0,ι,g.carry car,⟨fun id c hc => ?_,fun id id' c c' b β β' h1 h2 h3 h4 => ?_,gh.fr,gh.ex,gh.fresh⟩⟩
 ·rcases hk id c hc with ⟨rfl, rfl⟩ | ⟨_, _, h3⟩
  ·rcases gh.obj _ _ hj with ⟨q1, q2⟩ | ⟨b, β, arr, e, q1, q2, q3, q4, q5⟩
   ·simp at q2
   ·exact .inr ⟨b,β,arr,e,q1,q2,by simpa using q3,rC hcell c1 c2 b β (RdC.carryB car _ _ _ (fun o x hx => hx) q4),q5⟩
  ·rcases gh.obj _ _ h3 with ⟨q1, q2⟩ | ⟨b, β, arr, e, q1, q2, q3, q4, q5⟩
   ·exact .inl ⟨q1,q2⟩
   ·exact .inr ⟨b,β,arr,e,q1,q2,q3,RdC.carryB car _ _ _ (fun o x hx => hx) q4,q5⟩
 ·obtain ⟨_, d1, e1⟩ := hk2 id c h1
  obtain ⟨_,d2,e2⟩ := hk2 id' c' h2
  exact gh.sep id id' d1 d2 b β β' e1 e2 h3 h4
theorem HC {R:List (List Bool)}{hs hs':List (Nat × Option (List AV))}{k m:Nat}(hF:FamR R R hs hs') (hk:k < R.length) (hm:m = R[k]!.length):sCells (aO hs) 1 (uY (.own (k + aQ) 0 m 1)) = some (m,flat cB R[k]!):=by
 subst hm
 have hl : (flat cB R[k]!).length = R[k]!.length * 1 := aI cB _
 show (aO hs (k + aQ)).bind (fun cs => if R[k]!.length * 1 ≤ (cs.drop 0).length then some (R[k]!.length,(cs.drop 0).take (R[k]!.length * 1)) else none) = _
 rw [hF.get hk,Option.bind_some,List.drop_zero,if_pos (by omega),List.take_of_length_le (by omega)]
theorem x6 {cs:List AV}{v:Nat}{c:AV}:gQ cs (0 + v * 1) [c] = cs.take v ++ c :: cs.drop (v + 1):=by
 unfold gQ;simp
theorem IW {u:List (List Bool)}{v:Nat}{r:List Bool}(hv:v < u.length):(flat fQ u).take v ++ .imm r.length (flat cB r) :: (flat fQ u).drop (v + 1) = flat fQ (u.set v r):=by
 have h := Dr (xs := u) (k := v) (r := r) hv
 rw [x6] at h;exact h
theorem Le.frzRow {ts:List (Nat × AV)}{hs:List (Nat × Option (List AV))}{n:Nat}{z0:Lo}{j q v m:Nat}{u:List (List Bool)}{r:List Bool}(hj:aO hs j = some (gQ (flat fQ u) (0 + v * 1) [.own q 0 m 1])) (hq:aO hs q = some (flat cB r)) (hm:m = r.length) (hv:v < u.length) (hjq:j ≠ q) :
  Le ⟨ts,hs,n,z0⟩ ⟨ts,(j,some (flat fQ (u.set v r))) :: (q,none) :: hs,n,z0⟩ := by
 subst hm
 rw [x6] at hj
 have h := Le.frzC (ts := ts) (n := n) (z0 := z0) ((flat fQ u).take v) hj hq hjq
 rwa [IW hv] at h
theorem Le.fdrop {ts:List (Nat × AV)}{hs:List (Nat × Option (List AV))}{n:Nat}{z0:Lo}{k:Nat}{R:List (List Bool)}(hF:FamR R R hs hs) (hk:k < R.length):Le ⟨ts,(k + aQ,some (flat cB R[k]!)) :: hs,n,z0⟩ ⟨ts,hs,n,z0⟩:=by
 refine Le.of (fun _ _ h => h) (fun i cs h => ?_) (Nat.le_refl _) rfl
 have h' : aO hs i = some cs := h
 show aO ((k + aQ,some (flat cB R[k]!)) :: hs) i = some cs
 rw [cF]
 split
 ·rename_i e;subst e;rw [hF.get hk] at h'; exact h'
 ·exact h'
theorem MQ {i k:Nat}(hi:Nat.blt i aQ = true):distinct [i,k + aQ] = true:=by
 have h1 := dN hi
 have : Nat.beq i (k + aQ) = false := by
  cases h : Nat.beq i (k + aQ) with
  | false => rfl
  | true => have := Nat.eq_of_beq_eq_true h;omega
 simp only [distinct,List.all_cons,List.all_nil,this]; rfl
structure Hid (T : Prop) : Prop where pf : T
theorem cut {G:Prop}{T:Prop}(key:T) (main:Hid T → G):G := main ⟨key⟩
structure Hy (T : Prop) : Prop where pf : T
theorem Nm:(∀ a b:Bool,((a && b) = true) = (a = true ∧ b = true)) ∧ (∀ a b:Bool,((a && b) = false) ↔ (a = false ∨ b = false)) ∧ (∀ a b:Bool,((a || b) = true) = (a = true ∨ b = true)) ∧ (∀ a b:Bool,((a || b) = false) ↔ (a = false ∧ b = false)) ∧
  (∀ (p : Prop) [Decidable p],(decide p = true) = p) ∧ (∀ (p : Prop) [Decidable p],(decide p = false) ↔ ¬ p) ∧ (∀ a : Bool,((!a) = true) ↔ a = false) ∧ (∀ a : Bool,((!a) = false) ↔ a = true) ∧ ((!true) = false) ∧ ((!false) = true) ∧ (∀ a b : Int,¬ a < b ↔ b ≤ a) ∧ (∀ a b : Int,¬ a ≤ b ↔ b < a) :=
 ⟨fun a b => Bool.and_eq_true a b,fun a b => Bool.and_eq_false_iff,fun a b => Bool.or_eq_true a b,fun a b => Bool.or_eq_false_iff,fun p _ => by simp,fun p _ => decide_eq_false_iff_not,fun a => by simp,fun a => by simp,rfl,rfl,fun _ _ => Int.not_lt,fun _ _ => Int.not_le⟩
theorem fT:(∀ {α:Type}(a b:List α),(a ++ b).length = a.length + b.length) ∧ (∀ {α:Type}(a:α) (b:List α),(a :: b).length = b.length + 1) ∧ (∀ {α:Type},([]:List α).length = 0) ∧ (∀ {α:Type}(a:List α) (i:Nat) (x:α),(a.set i x).length = a.length) ∧ (∀ {α:Type}(i:Nat) (a:List α),(a.take i).length = min i a.length) ∧
  (∀ {α β : Type} (f : α → β) (a : List α),(a.map f).length = a.length) ∧ (∀ {α : Type} (n : Nat) (a : α),(List.replicate n a).length = n) ∧ (∀ (l : List Stmt) (b : Nat),(fO b l).length = cX l) ∧ (∀ n : Nat,n * 1 = n) ∧ (∀ n : Nat,0 + n = n) ∧ (∀ n : Nat,n + 0 = n) :=
 ⟨fun _ _ => List.length_append,fun _ _ => rfl,rfl,fun _ _ _ => List.length_set,fun _ _ => List.length_take,fun _ _ => List.length_map _,fun _ _ => List.length_replicate,bQ,Nat.mul_one,Nat.zero_add,Nat.add_zero⟩
theorem bD {α:Type}{p q r:α → Prop}(x:α) (h3:r x) (h1:p x) (h2:q x):∃ x,p x ∧ q x ∧ r x := ⟨x,h1,h2,h3⟩
theorem NG {G K:Prop}(k:K) (h:Hy K → G := by first|(intro k;(first|((with_reducible apply ES);(case hx => rfl);(case hH => rfl);(case hf => infer_instance);(case hg => infer_instance);(case hα => infer_instance);(case hk => omega);(case hc => rfl);(case hN => rfl)) | ((with_reducible apply D5);(case hx => rfl);(case hH => rfl);(case hf => infer_instance);(case hg => infer_instance);(case hα => infer_instance);(case hk => omega);(case hc => rfl);(case hN => rfl)) | ((with_reducible apply DP);(case hx => rfl);(case hH => rfl);(case hf => infer_instance);(case hg => infer_instance);(case hα => infer_instance);(case hk => omega);(case h0 => rfl);(case hN => rfl)) | ((with_reducible apply G7);(case hx => rfl);(case hd => rfl);(case hc => rfl);(case hN => rfl)) | ((with_reducible apply H4);(case hx => rfl);(case hd => rfl);(case hc => (first|exact (rfl:_ = [_]) | exact (rfl:_ = [_,_]) | exact (rfl:_ = [_,_,_]) | exact (rfl:_ = [_,_,_,_]) | exact (rfl:_ = [_,_,_,_,_]) | exact (rfl:_ = [_,_,_,_,_,_]) | exact (rfl:_ = [_,_,_,_,_,_,_]) | exact (rfl:_ = [_,_,_,_,_,_,_,_]) | rfl));(case hn => rfl);(case h0 => rfl);(case hN => rfl)) | ((with_reducible apply zH);(case hx => rfl);(case hl => first|assumption | omega | (simp only [fT,List.length_drop] <;> omega));(case h0 => rfl);(case hN => rfl)) | ((with_reducible apply Ao);(case hx => rfl);(case hH => rfl);(case hl => first|assumption | omega | (simp only [fT] <;> omega) | rfl);(case h0 => rfl);(case hN => rfl)) | ((with_reducible apply A2);(case hx => rfl);(case hH => rfl);(case hl => first|assumption | omega | (simp only [fT] <;> omega) | rfl);(case h0 => rfl);(case hN => rfl)) | ((with_reducible apply ED);(case hx => rfl);(case hH => rfl);(case ho => first|exact NF | exact NK);(case hq => first|assumption | omega | (simp only [fT] <;> omega));(case hN => rfl)));exact k.pf) | fail):G := h ⟨k⟩
theorem Ny {G K:Prop}(k:K) (h:Hy K → G := by first|(intro k;(first|((with_reducible apply Er);(case hj => rfl);(case hb => rfl);(case hN => rfl)) | ((with_reducible apply Ep);(case hj => rfl);(case hb => rfl);(case hN => rfl);(case hw => first|rfl | assumption)) | ((with_reducible apply Bn);(case hj => rfl);(case hb => rfl);(case hN => rfl);(case hw => first|rfl | assumption)) );exact k.pf) | fail):G := h ⟨k⟩
theorem NI {G K:Prop}(k:K) (h:Hy K → G := by first|(intro k;(first|((with_reducible apply I6);(case hx => rfl);(case hy => rfl);(case h => rfl);(case hN => rfl)) | ((with_reducible apply LG);(case hx => rfl);(case hy => rfl);(case hk => infer_instance);(case ha => infer_instance);(case hb => infer_instance);(case hN => rfl)) | ((with_reducible apply JF);(case hx => rfl);(case hy => rfl);(case hk => infer_instance);(case ha => infer_instance);(case hN => rfl)) | ((with_reducible apply Jd);(case hx => rfl);(case hy => rfl);(case hk => infer_instance);(case ha => infer_instance);(case hb => infer_instance);(case hN => rfl)) | ((with_reducible apply Jg);(case hx => rfl);(case hy => rfl);(case hk => infer_instance);(case ha => infer_instance);(case hb => infer_instance);(case hN => rfl)) | ((with_reducible apply JV);(case hx => rfl);(case hy => rfl);(case hk => infer_instance);(case ha => infer_instance);(case h => omega);(case hN => rfl)) | ((with_reducible apply K9);(case hx => rfl);(case hy => rfl);(case h => omega);(case hN => rfl)) | ((with_reducible apply LB);(case hx => rfl);(case hy => rfl);(case h => omega);(case hN => rfl))  | ((with_reducible apply La);(case hx => rfl);(case hy => rfl);(case h => omega);(case hN => rfl)) | ((with_reducible apply LN);(case hx => rfl);(case hy => rfl);(case h => omega);(case hN => rfl)) | ((with_reducible apply Ls);(case hx => rfl);(case hy => rfl);(case h => rfl);(case hN => rfl)));exact k.pf) | fail):G := h ⟨k⟩
theorem Nv {G K:Prop}(k:K) (h:Hy K → G := by first|(intro k;(first|((with_reducible apply tU);(case hx => rfl);(case hi => rfl);(case hm => (first|assumption | omega));(case hml => (first|rfl|assumption|omega));(case hα => infer_instance);(case hf => infer_instance);(case hg => infer_instance);(case hN => rfl)) | ((with_reducible apply BG);(case hx => rfl);(case hi => rfl);(case hm => (first|assumption | omega));(case hN => rfl)) | ((with_reducible apply v9);(case hx => rfl);(case hi => rfl);(case hm => (first|assumption | omega | exact ⟨Int.emod_nonneg _ (by omega),Int.emod_lt_of_pos _ (by omega)⟩));(case hml => (first|rfl|assumption|omega));(case hα => infer_instance);(case hf => infer_instance);(case hg => infer_instance);(case hN => rfl)) | ((with_reducible apply EA);(case hx => rfl);(case hi => rfl);(case hm => (first|assumption | omega | exact ⟨Int.emod_nonneg _ (by omega),Int.emod_lt_of_pos _ (by omega)⟩));(case hN => rfl)) | ((with_reducible apply zM);(case hx => rfl);(case hi => rfl);(case hm => first|omega | assumption);(case hp => rfl);(case hN => rfl)) | ((with_reducible apply Bu);(case hx => rfl);(case hi => rfl);(case hm => first|omega | assumption);(case hN => rfl)));exact k.pf) | fail):G := h ⟨k⟩
theorem Nw {G K:Prop}(k:K) (h:Hy K → G := by first|(intro k;(first|((with_reducible apply K0);(case hx => rfl);(case hn => rfl);(case hN => rfl))  | ((with_reducible apply bT);(case hx => rfl);(case hy => rfl);(case hze => rfl);(case he0 => rfl);(case hH => rfl);(case hl => first|(rw [aI]; omega) | (rw [aI]; simp only [fT] <;> omega) | (simp [aI]; done) | decide | (simp;omega));(case hs' => first|rfl | exact Ma (by (first|rfl | assumption | omega)));(case hbig => omega);(case hmx => omega);(case hcs => first  | exact oG (by (first|assumption | omega | (simp only [fT] <;> omega) | decide)) | exact IY (by (first|assumption | omega | (simp only [fT] <;> omega) | decide)) | exact GJ (by (first|assumption | omega | (simp only [fT] <;> omega) | decide)) | exact FT (by (first|assumption | omega | (simp only [fT] <;> omega) | decide)) | exact J3 (by (first|assumption | omega | (simp only [fT] <;> omega) | decide)) | exact Ii (by (first|assumption | omega | (simp only [fT] <;> omega) | decide))   | exact (rfl:_ = [_]) | exact (rfl:_ = [_,_]) | exact (rfl:_ = [_,_,_]) | exact (rfl:_ = [_,_,_,_]) | exact (rfl:_ = [_,_,_,_,_]) | exact (rfl:_ = [_,_,_,_,_,_]) | exact (rfl:_ = [_,_,_,_,_,_,_]) | exact (rfl:_ = [_,_,_,_,_,_,_,_]) | rfl);(case hM => rfl);(case hN => rfl)));exact k.pf) | fail):G := h ⟨k⟩
theorem NC {G K:Prop}(k:K) (h:Hy K → G := by first|(intro k;(first|((with_reducible apply Dt);(case hl => rfl);(case hf => (first|exact (rfl:_ = some [_]) | exact (rfl:_ = some [_,_]) | exact (rfl:_ = some [_,_,_]) | exact (rfl:_ = some [_,_,_,_]) | exact (rfl:_ = some [_,_,_,_,_]) | exact (rfl:_ = some [_,_,_,_,_,_]) | exact (rfl:_ = some [_,_,_,_,_,_,_]) | exact (rfl:_ = some [_,_,_,_,_,_,_,_]) | rfl));(case hk => (first|exact (rfl:_ = [_]) | exact (rfl:_ = [_,_]) | exact (rfl:_ = [_,_,_]) | exact (rfl:_ = [_,_,_,_]) | exact (rfl:_ = [_,_,_,_,_]) | exact (rfl:_ = [_,_,_,_,_,_]) | exact (rfl:_ = [_,_,_,_,_,_,_]) | exact (rfl:_ = [_,_,_,_,_,_,_,_]) | rfl));(case hN => rfl)) | ((with_reducible apply n8);(case hl => rfl);(case hf => (first|exact (rfl:_ = some [_]) | exact (rfl:_ = some [_,_]) | exact (rfl:_ = some [_,_,_]) | exact (rfl:_ = some [_,_,_,_]) | exact (rfl:_ = some [_,_,_,_,_]) | exact (rfl:_ = some [_,_,_,_,_,_]) | exact (rfl:_ = some [_,_,_,_,_,_,_]) | exact (rfl:_ = some [_,_,_,_,_,_,_,_]) | rfl));(case hN => rfl)));exact k.pf) | fail):G := h ⟨k⟩
theorem Nr {G K:Prop}(k:K) (h:Hy K → G := by first|(intro k;(first|((with_reducible apply m7);(case hze => rfl);(case hsm => rfl);(case hl => rfl);(case hfl => (first|exact (rfl:_ = some [_]) | exact (rfl:_ = some [_,_]) | exact (rfl:_ = some [_,_,_]) | exact (rfl:_ = some [_,_,_,_]) | exact (rfl:_ = some [_,_,_,_,_]) | exact (rfl:_ = some [_,_,_,_,_,_]) | exact (rfl:_ = some [_,_,_,_,_,_,_]) | exact (rfl:_ = some [_,_,_,_,_,_,_,_]) | rfl));(case hM => rfl);(case hN => rfl)) | ((with_reducible apply m9);(case hx => rfl);(case hy => rfl);(case hze => rfl);(case hsm => omega);(case hmx => omega);(case hcs => first|exact Kt | exact Ji | exact HE | exact CR | rfl);(case hM => rfl);(case hN => rfl)));exact k.pf) | fail):G := h ⟨k⟩
theorem NJ {G K:Prop}(k:K) (h:Hy K → G := by first|(intro k;(first|((with_reducible apply a7);(case hx => rfl);(case hy => rfl);(case hc => rfl);(case hn => rfl);(case hH => rfl);(case hl => (first|decide|(rw [aI]; simp only [fT] <;> omega)|omega|(simp;done)|(simp;omega)));(case hcs => first     | exact Dr (by (first|assumption | omega | (simp only [fT] <;> omega) | decide)) | exact Fi (by (first|assumption | omega | (simp only [fT] <;> omega) | decide)) | exact F8 (by (first|assumption | omega | (simp only [fT] <;> omega) | decide)) | exact KU (by (first|assumption | omega | (simp only [fT] <;> omega) | decide)) | exact CM (by (first|assumption | omega | (simp only [fT] <;> omega) | decide)) | exact HT (by (first|assumption | omega | (simp only [fT] <;> omega) | decide))  | exact Lr (by (first|assumption | omega | (simp only [fT] <;> omega) | decide)) | exact xY (by (first|assumption | omega | (simp only [fT] <;> omega) | decide))  | exact (rfl:_ = [_]) | exact (rfl:_ = [_,_]) | exact (rfl:_ = [_,_,_]) | exact (rfl:_ = [_,_,_,_]) | exact (rfl:_ = [_,_,_,_,_]) | exact (rfl:_ = [_,_,_,_,_,_]) | exact (rfl:_ = [_,_,_,_,_,_,_]) | exact (rfl:_ = [_,_,_,_,_,_,_,_]) | rfl)) | ((with_reducible apply zK);(case hx => rfl);(case hy => rfl);(case hH => rfl);(case hl => first|assumption | omega | (simp only [fT] <;> omega));(case hc => first|rfl | (rw [eE]; first|assumption | (simp only [fT] <;> omega)))));exact k.pf) | fail):G := h ⟨k⟩
theorem F9 {G K:Prop}(k:K) (h:Hy K → G := by first|(intro k;(first|((with_reducible apply aF);first|((with_reducible apply JQ);(case hx => rfl);(case hN => rfl)) | ((with_reducible apply JA);refine NG ?_) | ((with_reducible apply w4);(case hx => rfl);(case hp => rfl);(case hN => rfl)) | ((with_reducible apply M0);refine Ny ?_) | ((with_reducible apply KW);refine NI ?_) | ((with_reducible apply vM);(case hx => rfl);(case hN => rfl)) | ((with_reducible apply I1);first|((with_reducible apply Ho);(case hc => rfl);(case hb => first|rfl | assumption);(case hx => rfl);(case hN => rfl)) | ((with_reducible apply Hi);(case hc => rfl);(case hb => first|rfl | assumption);(case hx => rfl);(case hN => rfl))) | ((with_reducible apply KH);refine Nv ?_) | ((with_reducible apply Mv);refine Nw ?_) | ((with_reducible apply K7);(case hf => kernel_rfl)) | ((with_reducible apply MM);first|((with_reducible apply Bj);(case hx => rfl);(case hi => rfl);(case hl => first|assumption | omega | (simp only [fT] <;> omega));(case hm => omega);(case hN => rfl))) | ((with_reducible apply LJ);refine NC ?_) | ((with_reducible apply LQ);first|((with_reducible apply DR);(case hx => rfl);(case hf => infer_instance);(case hl => rfl);(case hh => rfl);(case hb => first|omega | (simp only [List.length_take,List.length_drop,Int.toNat_natCast]; omega));(case hN => rfl))) | ((with_reducible apply lX);(case hf => rfl);(case hc => rfl);(case hN => rfl)) | ((with_reducible apply KF);(case hx => rfl);(case hN => rfl)) | ((with_reducible apply LA);(case hx => rfl);(case hp => rfl);(case hN => rfl)) | ((with_reducible apply KN);(case hx => rfl);(case hc => rfl);(case hM => rfl);(case hN => rfl)) | ((with_reducible apply G2);(case hM => rfl);(case hN => rfl)) | ((with_reducible apply BW);(case hx => rfl);(case hc => rfl);(case hN => rfl)) | refine Nr ?_ | refine NJ ?_));exact k.pf) | fail):G := h ⟨k⟩
theorem Nt {G K:Prop}(k:K) (h:Hy K → G := by first|(intro k;(first|((with_reducible apply C6);first|with_reducible apply KI | with_reducible apply DW | ((with_reducible apply GC);(case hc => rfl);(case hb => first|rfl | assumption)) | ((with_reducible apply G8);(case hc => rfl);(case hb => first|rfl | assumption)) | with_reducible apply HL | with_reducible apply Iz | with_reducible apply IT | with_reducible apply Kq ) | with_reducible apply Ea | with_reducible apply Lb | with_reducible apply Jk | with_reducible apply EY | with_reducible apply Kx | with_reducible apply JU | ((with_reducible apply bq_out);(case hij => decide)));exact k.pf) | fail):G := h ⟨k⟩
theorem aJ {G c1 q1 c2 q2 K1 K2:Prop}(k1:c1 → q1 → K1) (k2:c2 → q2 → K2) (h:Hy (c1 → q1 → K1) → Hy (c2 → q2 → K2) → G := by first|(intro k1 k2;(with_reducible apply C6);(with_reducible apply wW);(case hc => rfl);(intro hc;have hq := hc;(try simp only [Nm] at hq);first|exact k1.pf hc hq | exact k1.pf hc trivial);(intro hc;have hq := hc;(try simp only [Nm] at hq);first|exact k2.pf hc hq | exact k2.pf hc trivial)) | fail):G := h ⟨k1⟩ ⟨k2⟩
theorem bS {G c1 q1 c2 q2 K1 K2:Prop}(k1:c1 → q1 → K1) (k2:c2 → q2 → K2) (h:Hy (c1 → q1 → K1) → Hy (c2 → q2 → K2) → G := by first|(intro k1 k2;(with_reducible apply aF);(with_reducible apply M0);(with_reducible apply DJ);(case hj => rfl);(case hb => rfl);(case hN => rfl);(intro hc;have hq := hc;(try simp only [Nm] at hq);first|exact k1.pf hc hq | exact k1.pf hc trivial);(intro hc;have hq := hc;(try simp only [Nm] at hq);first|exact k2.pf hc hq | exact k2.pf hc trivial)) | fail):G := h ⟨k1⟩ ⟨k2⟩
theorem bJ {G K:Prop}(k:K) (h:Hy K → G := by first|(intro k;(with_reducible apply C6);(with_reducible apply I3);(case hm => kernel_rfl);exact k.pf) | fail):G := h ⟨k⟩
theorem dM {G K:Prop}(k:K) (h:Hy K → G := by first|(intro k;(with_reducible apply aD);(case hr => rfl);exact k.pf) | fail):G := h ⟨k⟩
theorem AN {ts:List (Nat × AV)}:nW [] ts = [] := rfl
theorem vA {k:Nat}{v:AV}{ks:List Nat}{ts kt:List (Nat × AV)}(h:lk ts k = some v) (h2:nW ks ts = kt):nW (k :: ks) ts = (k,v) :: kt:=by
 subst h2;simp [nW,h]
theorem z9 {hs:List (Nat × Option (List AV))}:pG [] hs = [] := rfl
theorem vH {k:Nat}{v:List AV}{ks:List Nat}{hs kh:List (Nat × Option (List AV))}(h:aO hs k = some v) (h2:pG ks hs = kh):pG (k :: ks) hs = (k,some v) :: kh:=by
 subst h2;simp [pG,h]
section
variable {P : Program} {N : Nat} {Q : Exit → AS → Prop} {σ : Type} {c : Code} {ts : List (Nat × AV)} {hs : List (Nat × Option (List AV))} {n : Nat} {z0 : Lo}
theorem aH (ks js:List Nat){kt:List (Nat × AV)}{kh:List (Nat × Option (List AV))}(ot:σ → List (Nat × AV)) (oh:σ → List (Nat × Option (List AV))) (p:σ → Prop) (μ:σ → Nat) (i0:σ) (h0:p i0)
  (round : ∀ i,p i → AW P N c (n6 (fun s' => ∃ j,p j ∧ μ j < μ i ∧ Le s' ⟨ot j ++ kt,oh j ++ kh,n,z0⟩) Q) ⟨ot i ++ kt,oh i ++ kh,n,z0⟩)
  (hk : nW ks ts = kt := by repeat' (first|exact AN|(apply vA;rfl))) (hj : pG js hs = kh := by repeat' (first|exact z9|(apply vH;rfl)))
  (h1 : oC ts (ot i0) := by repeat' (first|exact trivial|refine And.intro rfl ?_)) (h2 : mZ hs (oh i0) := by repeat' (first|exact trivial|refine And.intro (.inr rfl) ?_)) : AW P N (.loop c) Q ⟨ts,hs,n,z0⟩ :=
 F5 ks kt js kh ot oh p μ i0 h0 hk hj h1 h2 round
theorem dA (Rf:σ → List (List Bool)) (ks js:List Nat){kt:List (Nat × AV)}{kh:List (Nat × Option (List AV))}(ot:σ → List (Nat × AV)) (oh:σ → List (Nat × Option (List AV))) (p:σ → Prop) (μ:σ → Nat) (i0:σ) (h0:p i0)
  (round : ∀ i,p i → AW P N c (n6 (fun s' => ∃ j,p j ∧ μ j < μ i ∧ Le s' ⟨ot j ++ kt,(oh j ++ kh) ++ gJ (Rf j),n,⟨0,aQ + (Rf j).length⟩⟩) Q) ⟨ot i ++ kt,(oh i ++ kh) ++ gJ (Rf i),n,⟨0,aQ + (Rf i).length⟩⟩)
  (hk : nW ks ts = kt := by repeat' (first|exact AN|(apply vA;rfl))) (hj : pG js hs = kh := by repeat' (first|exact z9|(apply vH;rfl)))
  (h1 : oC ts (ot i0) := by repeat' (first|exact trivial|refine And.intro rfl ?_)) (h2 : mZ hs (oh i0) := by repeat' (first|exact trivial|refine And.intro (.inr rfl) ?_))
  (hF : FamR (Rf i0) (Rf i0) hs hs := by repeat' (first|exact FamR.here|exact FamR.nil|(apply FamR.cons;focus rfl))) (hz : z0 = ⟨0,aQ + (Rf i0).length⟩ := by first|rfl|(simp only [fH])) : AW P N (.loop c) Q ⟨ts,hs,n,z0⟩ :=
 A8 0 Rf ks kt js kh ot oh p μ i0 h0 hk hj h1 h2 hF hz round
end
theorem Le.renA (m:List (Nat × Nat)){ts ts':List (Nat × AV)}{hs hs':List (Nat × Option (List AV))}{n n':Nat}{lo:Lo}(hm:GY lo.lo n' m = true := by rfl) (hn:lo.lo ≤ n' := by decide)
  (h1 : GF m lo ts ts' := by repeat' (first|exact trivial|refine And.intro ⟨_,rfl,?_⟩ ?_|refine And.intro ⟨_,_,rfl,rfl,?_⟩ ?_|exact Or.inr rfl|refine Or.inl ⟨?_,(by first|rfl|exact a6 _ _|exact Pur.pf|exact PurV.pf)⟩|refine Or.inr (All2.cons ?_ ?_)|refine All2.cons ?_ ?_|exact All2.nil|rfl))
  (h2 : BY m lo hs hs' := by repeat' (first|exact trivial|refine And.intro ⟨_,rfl,?_⟩ ?_|refine And.intro ⟨_,_,rfl,rfl,?_⟩ ?_|exact Or.inr rfl|refine Or.inl ⟨?_,(by first|rfl|exact a6 _ _|exact Pur.pf|exact PurV.pf)⟩|refine Or.inr (All2.cons ?_ ?_)|refine All2.cons ?_ ?_|exact All2.nil|rfl)) : Le ⟨ts,hs,n,lo⟩ ⟨ts',hs',n',lo⟩ :=
 Le.ren m hm hn h1 h2
section
variable {P : Program} {k : FuncId} {fn : Func} {c : Code} {args : List AV} {N : Nat}
theorem aC {Q:AV → Prop}(hf:P.funcs[k]? = some fn) (hn:fn.ntmps = N) (h:AW P N c (oB P fn.results (fun r _ => Q r ∧ r.pur = true)) ⟨g6 0 args,[],0,⟨0,aQ⟩⟩) (hb:fn.body = some c := by rfl)
  (hN : args.length ≤ N := by simp) : PC P k args Q := by subst hn;exact GM hf hb hN h
theorem aW {σ:Type}{H0:List (Nat × Option (List AV))}{n:Nat}{p:σ → Prop}{rr:σ → AV}{hh:σ → List (Nat × Option (List AV))}(hf:P.funcs[k]? = some fn) (hn:fn.ntmps = N)
  (h : AW P N c (oB P fn.results (fun r H' => ∃ x,p x ∧ r = rr x ∧ ∀ id cs,aO (hh x) id = some cs → H' id = some cs)) ⟨g6 0 args,H0,n,⟨n,aQ⟩⟩) (hb : fn.body = some c := by rfl)
  (hN : args.length ≤ N := by simp) : MC P k args H0 n p rr hh := by subst hn;exact GV hf hb hN h
theorem Au {R0:List (List Bool)}{r:AV}{hh:List (Nat × Option (List AV))}(hf:P.funcs[k]? = some fn) (hn:fn.ntmps = N)
  (h : AW P N c (oB P fn.results (fun r' H' => r' = r ∧ ∀ id cs,aO (hh ++ gJ R0) id = some cs → H' id = some cs)) ⟨g6 0 args,gJ R0,0,⟨0,aQ + R0.length⟩⟩) (hb : fn.body = some c := by rfl)
  (hN : args.length ≤ N := by simp) : Mo P k args R0 r hh := by subst hn;exact G0 hf hb hN h
theorem Ff {R1:List (List Bool)}{r:AV}(hf:P.funcs[k]? = some fn) (hn:fn.ntmps = N)
  (h : AW P N c (oB P fn.results (fun r' H' => r' = r ∧ ∀ id cs,aO (gJ R1) id = some cs → H' id = some cs)) ⟨g6 0 args,[],0,⟨0,aQ⟩⟩) (hb : fn.body = some c := by rfl)
  (hN : args.length ≤ N := by simp) : Nq P k args r R1 := by subst hn;exact HR hf hb hN h
end
end Go.AL
namespace Go.AL
theorem kD {A n:Nat}(hv:∀ v,A.testBit v = true → v < n):A < 2 ^ n := Nat.lt_pow_two_of_testBit _ fun v h => by
 cases hq : Nat.testBit _ v with
 | false => rfl
 | true => have := hv v hq;omega
theorem mE {A n:Nat}(hn:n ≤ 62) (hv:A < 2 ^ n):Sm A := ⟨Nat.lt_of_lt_of_le hv (Nat.pow_le_pow_right (by decide) hn)⟩
structure FB (ts : List Int) (pts : List Pnt) (f : Flows ts pts) : Prop where
 la : f.Aa.length = pts.length
 lm : f.Am.length = pts.length
 ln : f.An.length = pts.length
 ll : f.Al.length = pts.length
 lp : f.Ap.length = pts.length
 bA : ∀ i : Nat,f.Aa[i]! < 2 ^ ts.length
 bM : ∀ i : Nat,f.Am[i]! < 2 ^ ts.length
 bN : ∀ i : Nat,f.An[i]! < 2 ^ ts.length
 bL : ∀ i : Nat,f.Al[i]! < 2 ^ ts.length
 bP : ∀ i : Nat,f.Ap[i]! < 2 ^ pts.length
 sA : ∀ i : Nat,Sm f.Aa[i]!
 sM : ∀ i : Nat,Sm f.Am[i]!
 sN : ∀ i : Nat,Sm f.An[i]!
 sL : ∀ i : Nat,Sm f.Al[i]!
 sP : ∀ i : Nat,Sm f.Ap[i]!
 rl : ∀ i,i < pts.length → (b7 f.Af i).length = 6
 rs : ∀ i,i < pts.length → ∀ z : Nat,Sm (b7 f.Af i)[z]!
 af : ∀ i,i < pts.length → J0 pts f.An i = f.Al[i]!
 kp : ∀ i,i < pts.length → mX ts pts[i]! f.Al[i]! (b7 f.Af i) < 2 ^ pts.length
 lo : ∀ i,i < pts.length → mX ts pts[i]! f.Al[i]! (b7 f.Af i) &&& f.Ap[i]! < 2 ^ pts.length
 cf : ∀ i,i < pts.length → z8 ts pts f.Am f.Al f.Af f.Ap i < 2 ^ pts.length
theorem Flows.bnd {ts:List Int}{pts:List Pnt}(f:Flows ts pts) (w:WG ts pts):FB ts pts f:=by
 have hpl := w.pl
 have htl := w.tl
 have off : ∀ {A : List Nat} {n : Nat} {i : Nat}, A.length = pts.length → ¬ i < pts.length → A[i]! < 2 ^ n := fun {A n i} h hi => by
  rw [getElem!_neg A i (by omega)]; exact Nat.pow_pos (by decide)
 have bA : ∀ i : Nat, f.Aa[i]! < 2 ^ ts.length := fun i => by
  by_cases hi : i < pts.length
  ·exact kD fun v hv => ((f.ga.2 i hi v).1 hv).1
  ·exact off f.ga.1 hi
 have bM : ∀ i : Nat, f.Am[i]! < 2 ^ ts.length := fun i => by
  by_cases hi : i < pts.length
  ·exact kD fun v hv => qD w ((f.gm.2 i hi v).1 hv)
  ·exact off f.gm.1 hi
 have bN : ∀ i : Nat, f.An[i]! < 2 ^ ts.length := fun i => by
  by_cases hi : i < pts.length
  ·exact kD fun v hv => qE w ((f.gn.2 i hi v).1 hv)
  ·exact off f.gn.1 hi
 have bL : ∀ i : Nat, f.Al[i]! < 2 ^ ts.length := fun i => by
  by_cases hi : i < pts.length
  ·exact kD fun v hv => by obtain ⟨k,_,h⟩ := (f.gl.2 i hi v).1 hv;exact qE w h
  ·exact off f.gl.1 hi
 have bP : ∀ i : Nat, f.Ap[i]! < 2 ^ pts.length := fun i => by
  by_cases hi : i < pts.length
  ·exact kD fun v hv => (lD ((f.gp.2 i hi v).1 hv)).1
  ·exact off f.gp.1 hi
 have rs : ∀ i, i < pts.length → ∀ z : Nat, (b7 f.Af i)[z]! < 2 ^ pts.length := fun i hi z => by
  by_cases hz : z < 6
  ·rw [dV f.gf.1 hi hz]
   exact kD fun v hv => (vX w ((f.gf.2 i z hi hz v).1 hv)).2.2
  ·rw [getElem!_neg _ z (by rw [dW f.gf.1 hi]; exact hz)]; exact Nat.pow_pos (by decide)
 have kp : ∀ i, i < pts.length → mX ts pts[i]! f.Al[i]! (b7 f.Af i) < 2 ^ pts.length := fun i hi => kD fun v hv => by
  unfold mX at hv
  rw [eR] at hv
  rcases hv with hv | ⟨z,hz,hv⟩
  ·simp at hv
  ·exact b9 (rs i hi _) hv
 have lo : ∀ i,i < pts.length → mX ts pts[i]! f.Al[i]! (b7 f.Af i) &&& f.Ap[i]! < 2 ^ pts.length := fun i hi => Nat.and_lt_two_pow _ (bP i)
 refine ⟨f.ga.1, f.gm.1, f.gn.1, f.gl.1, f.gp.1, bA, bM, bN, bL, bP, fun i => mE (by omega) (bA i), fun i => mE (by omega) (bM i), fun i => mE (by omega) (bN i), fun i => mE (by omega) (bL i), fun i => mE (by omega) (bP i),
  fun i hi => dW f.gf.1 hi,fun i hi z => mE (by omega) (rs i hi z),fun i hi => ?_,kp,lo,fun i hi => pE w (bP i)⟩
 rw [vK f.gl (z4 w f.gn),aX _ _ _ hi]
end Go.AL
namespace Go.AL
section
variable {P : Program} {C : Ctx} {ι : Pl} {F : Nat → Prop} {T : Nat → Option AV} {H : Nat → Option (List AV)} {a : Act} {w : World} {o : Oper}
theorem r8 (z:Array Value):∀ n,(Builtin.zeroCells z n).toList = (List.replicate n z.toList).flatten := fun n => by
 have := pM z n (n * z.size) rfl
 simpa [Builtin.zeroCells,madeCells] using this
end
theorem Le.cut {ts:List (Nat × AV)}{hs:List (Nat × Option (List AV))}{n:Nat}{z0:Lo}{i:Nat}{cs:List AV}(k:Nat) (hi:aO hs i = some cs) :
  Le ⟨ts,hs,n,z0⟩ ⟨ts,(i,some (cs.take k)) :: hs,n,z0⟩ := by
 rintro C a w ⟨h0,ι,g,gh⟩
 have hσ : ∀ id c, aO ((i, some (cs.take k)) :: hs) id = some c → ∃ c0, aO hs id = some c0 ∧ (c = c0 ∨ c = c0.take k) := by
  intro id c h
  rw [cF] at h
  split at h
  ·rename_i e;subst e;cases h;exact ⟨cs,hi,.inr rfl⟩
  ·exact ⟨c,h,.inl rfl⟩
 have car : Carry w (aK C.X ι (aO hs)) ι w (aK C.X ι (aO ((i, some (cs.take k)) :: hs))) ι := by
  refine ⟨fun b o' x h1 h2 => ⟨?_,h2⟩,fun _ _ h => h,fun _ => Nat.le_refl _⟩
  rintro (h | ⟨id,c,β,q1,q2⟩)
  ·exact h1 (.inl h)
  ·obtain ⟨c0, r, _⟩ := hσ id c q1
   exact h1 (.inr ⟨id,c0,β,r,q2⟩)
 refine ⟨h0,ι,⟨g.df,g.sz,fun t av ht => ?_⟩,⟨fun id c h => ?_,fun id id' c c' b β β' q1 q2 q3 q4 => ?_,gh.fr,gh.ex,gh.fresh⟩⟩
 ·obtain ⟨y, hy, hr⟩ := g.tm t av ht
  exact ⟨y,hy,Rd.carry car _ _ hr⟩
 ·obtain ⟨c0, r, e⟩ := hσ id c h
  rcases gh.obj id c0 r with ⟨h1,h2⟩ | ⟨b',β',arr',e',h1,h2,h3,h4,h5,h6⟩
  ·refine .inl ⟨h1, ?_⟩
   rcases e with e|e
   ·rw [e,h2]
   ·rw [e,h2]; simp
  ·refine .inr ⟨b', β', arr', e', h1, h2, ?_, ?_, h5, h6⟩
   ·rcases e with e | e
    ·rw [e]; exact h3
    ·rw [e,List.length_take]; omega
   ·have h7 := RdC.carryB car _ _ _ (fun o x hx => hx) h4
    rcases e with e|e
    ·rw [e]; exact h7
    ·rw [e]; exact RdC.take k h7
 ·obtain ⟨_, r1, _⟩ := hσ id c q1
  obtain ⟨_,r2,_⟩ := hσ id' c' q2
  exact gh.sep _ _ _ _ _ _ _ r1 r2 q3 q4
section
variable {P : Program} {N : Nat} {Q : Exit → AS → Prop} {all : Array Oper} {rest : List Oper} {ts : List (Nat × AV)} {hs : List (Nat × Option (List AV))} {n : Nat} {z0 : Lo}
variable {d : Nat} {ty : TypeId} {pos : String} {af : Array Edge}
theorem fF {fn:Go.Fn}{cs:Array Operand}{i:Nat}{cc c:List AV}(t:Nat) (hx:lk ts t = some (.optr i 0)) (hH:aO hs i = some cc) (hc:evL (lk ((t,.iptr cc) :: ts)) cs.toList = some c) (hN:Nat.blt d N = true)
  (kk : RW P N all Q .txt rest ⟨(d,.clos fn [] c) :: (t,.iptr cc) :: ts,(i,none) :: hs,n,z0⟩) : RW P N all Q .txt (⟨some d,.makeFunc fn #[] cs,ty,pos,af,none⟩ :: rest) ⟨ts,hs,n,z0⟩ :=
 cY (lX (f := []) (c := c) rfl hc hN (md' := .txt) kk) (Le.frzP hx hH)
end
end Go.AL
namespace Go.AL
structure Bnd where
 var : Int
 loan : Int
 src : Int
 deriving Inhabited,DecidableEq
def xX (b : Bnd) : List AV := [iv b.var,iv b.loan,iv b.src]
instance : FlT xX 3:=⟨fun s => rfl⟩
instance : FE xX (fun b => [iv b.var,iv b.loan,iv b.src]):=⟨fun _ => rfl⟩
instance (s : Bnd) : Pur (xX s):=⟨rfl⟩
theorem qT {xs:List Bnd}{m:Nat}{a b c:Int}(hm:m = xs.length):((flat xX xs).drop 0).take (m * 3) ++ [iv a,iv b,iv c] = flat xX (xs ++ [⟨a,b,c⟩]) := eV hm rfl
structure WT (ts : List Int) (pts : List Pnt) : Prop where
 mv : ∀ i,i < pts.length → pts[i]!.op = 3 → ts[pts[i]!.x.toNat]! = ts[pts[i]!.y.toNat]! ∧ pts[i]!.x ≠ pts[i]!.y
 ln : ∀ i,i < pts.length → pts[i]!.op = 4 ∨ pts[i]!.op = 5 → eO ts[pts[i]!.x.toNat]! = true ∧ pts[i]!.x ≠ pts[i]!.y
def PtY (ts : List Int) (x : Pnt) : Prop := (x.op = 3 → ts[x.x.toNat]! = ts[x.y.toNat]! ∧ x.x ≠ x.y) ∧ (x.op = 4 ∨ x.op = 5 → eO ts[x.x.toNat]! = true ∧ x.x ≠ x.y)
theorem iN {ts:List Int}{v:Int}(h:0 < e7 ts v):e7 ts v = ts[v.toNat]!:=by
 unfold e7 at h ⊢
 split at h
 ·rename_i c;rw [if_pos c]
 ·omega
theorem DN {ts:List Int}{s:Stmt}(h:dI ts s = true):(s.op = 3 → ts[s.x.toNat]! = ts[s.y.toNat]! ∧ s.x ≠ s.y) ∧ (s.op = 4 ∨ s.op = 5 → eO ts[s.x.toNat]! = true ∧ s.x ≠ s.y):=by
 unfold dI at h
 dsimp only at h
 refine ⟨fun h3 => ?_,fun h4 => ?_⟩
 ·rw [h3] at h
  simp only [show ¬ (3 : Int) = 1 by decide,show ¬ (3 : Int) = 2 by decide,if_false,if_true] at h
  split at h
  ·cases h
  ·simp only [decide_eq_true_eq] at h
   refine ⟨?_,h.2.2⟩
   rw [← iN h.2.1,h.1,iN (by omega)]
 ·rcases h4 with h4 | h4 <;> rw [h4] at h
  ·simp only [show ¬ (4 : Int) = 1 by decide, show ¬ (4 : Int) = 2 by decide, show ¬ (4 : Int) = 3 by decide, if_false, if_true] at h
   split at h
   ·cases h
   ·simp only [decide_eq_true_eq] at h
    refine ⟨?_,h.2.2⟩
    rw [← iN (by omega),h.1]; rfl
  ·simp only [show ¬ (5 : Int) = 1 by decide, show ¬ (5 : Int) = 2 by decide, show ¬ (5 : Int) = 3 by decide, show ¬ (5 : Int) = 4 by decide, if_false, if_true] at h
   split at h
   ·cases h
   ·simp only [decide_eq_true_eq] at h
    refine ⟨?_,h.2.2⟩
    rw [← iN (by omega),h.1]; rfl
theorem PtY.no {ts:List Int}{x:Pnt}(h:9 ≤ x.op):PtY ts x := ⟨fun e => by omega,fun e => by omega⟩
mutual
theorem LM {ts:List Int}:∀ (s:Stmt) (d b:Nat),rD ts d s = true → ∀ x ∈ uD b s,PtY ts x
 | .mk op x y n th el, d, b, h => by
  simp only [rD] at h
  split at h
  ·rename_i hop
   simp only [Bool.and_eq_true] at h
   have hs := DN h.2
   simp only [Stmt.op,Stmt.x,Stmt.y] at hs
   simp only [uD,hop.1,hop.2,if_false,List.mem_singleton]
   rintro z rfl
   exact hs
  ·rename_i hop
   cases d with
   | zero => cases h
   | succ d =>
    simp only [Bool.and_eq_true,decide_eq_true_eq] at h
    obtain ⟨⟨⟨_,_⟩,h1⟩,h2⟩ := h
    by_cases h9 : op = 9
    ·subst h9
     simp only [uD,if_true,List.mem_append,List.mem_singleton]
     rintro z (((rfl|hz)|rfl)|hz)
     ·exact PtY.no (by simp)
     ·exact rW th d (b + 1) h1 z hz
     ·exact PtY.no (by simp)
     ·exact rW el d (b + 2 + cX th) h2 z hz
    ·have h10 : op = 10 := by omega
     subst h10
     simp only [uD,if_true,show ((10 : Int) = 9) = False by simp,if_false,List.mem_append,List.mem_singleton]
     rintro z ((rfl|hz)|rfl)
     ·exact PtY.no (by simp)
     ·exact rW th d (b + 1) h1 z hz
     ·exact PtY.no (by simp)
theorem rW {ts:List Int}:∀ (l:List Stmt) (d b:Nat),okL ts d l = true → ∀ x ∈ fO b l,PtY ts x
 | [],d,b,h => by simp [fO]
 | s :: l, d, b, h => by
  simp only [okL,Bool.and_eq_true] at h
  simp only [fO,List.mem_append]
  rintro x (hx|hx)
  ·exact LM s d b h.1 x hx
  ·exact rW l d (b + nP s) h.2 x hx
end
theorem WT.of_valid {p:Prg}(h:bI p = true):WT p.types (aB p):=by
 unfold bI at h
 simp only [Bool.and_eq_true,decide_eq_true_eq] at h
 obtain ⟨⟨_,hl⟩,_⟩ := h
 have key : ∀ i, i < (aB p).length → PtY p.types (aB p)[i]! := by
  intro i hi
  have hm := aP _ i hi
  unfold aB at hm
  rw [List.mem_append,List.mem_singleton] at hm
  rcases hm with hm|hm
  ·exact rW p.body 4 0 hl _ hm
  ·unfold aB;rw [hm]; exact PtY.no (by simp)
 exact ⟨fun i hi => (key i hi).1,fun i hi => (key i hi).2⟩
def Ke (ts : List Int) (pts : List Pnt) (i : Nat) : List Bnd :=
 (if bU pts[i]! = true then [⟨pts[i]!.x,i,-1⟩] else []) ++ (if (bU pts[i]! = true ∨ pts[i]!.op = 3) ∧ eO ts[pts[i]!.y.toNat]! = true then [⟨pts[i]!.x,-1,pts[i]!.y⟩] else [])
def kC (ts : List Int) (pts : List Pnt) (k : Nat) : List Bnd := (List.range k).flatMap (Ke ts pts)
theorem tP (ts:List Int) (pts:List Pnt) (k:Nat):kC ts pts (k + 1) = kC ts pts k ++ Ke ts pts k:=by
 unfold kC;rw [List.range_succ,List.flatMap_append]; simp
theorem IS (ts:List Int) (pts:List Pnt) (i:Nat):(Ke ts pts i).length ≤ 2:=by
 unfold Ke;split <;> split <;> simp
theorem wG (ts:List Int) (pts:List Pnt):∀ k,(kC ts pts k).length ≤ 2 * k
 | 0 => by simp [kC]
 | k + 1 => by
  rw [tP,List.length_append]
  have := wG ts pts k
  have := IS ts pts k
  omega
theorem JT {ts:List Int}{pts:List Pnt}{k:Nat}{b:Bnd}:b ∈ kC ts pts k ↔ ∃ i,i < k ∧ b ∈ Ke ts pts i:=by
 unfold kC;rw [List.mem_flatMap]; simp
structure BOk (nt n : Nat) (b : Bnd) : Prop where
 v : 0 ≤ b.var ∧ b.var < nt
 k : (0 ≤ b.loan ∧ b.loan < n ∧ b.src = -1) ∨ (b.loan = -1 ∧ 0 ≤ b.src ∧ b.src < nt ∧ b.src ≠ b.var)
theorem oO {ts:List Int}{pts:List Pnt}(w:WG ts pts) (t:WT ts pts){b:Bnd}(h:b ∈ kC ts pts pts.length):BOk ts.length pts.length b:=by
 obtain ⟨i,hi,hb⟩ := JT.1 h
 unfold Ke at hb
 have hx := w.x i hi
 have hy := w.y i hi
 rcases List.mem_append.1 hb with hb|hb
 ·split at hb
  ·rename_i hl
   have := iC hl
   rw [List.mem_singleton] at hb;subst hb
   exact ⟨⟨hx.1,hx.2 (by omega)⟩,.inl ⟨by dsimp only;omega,by dsimp only;omega,rfl⟩⟩
  ·simp at hb
 ·split at hb
  ·rename_i hl
   have h3 : pts[i]!.op = 3 ∨ pts[i]!.op = 4 ∨ pts[i]!.op = 5 := by
    rcases hl.1 with h|h
    ·exact .inr (iC h)
    ·exact .inl h
   rw [List.mem_singleton] at hb;subst hb
   refine ⟨⟨hx.1,hx.2 (by omega)⟩,.inr ⟨rfl,hy.1,hy.2 (by omega) (by omega),fun e => ?_⟩⟩
   dsimp only at e
   rcases h3 with h|h
   ·exact (t.mv i hi h).2 e.symm
   ·exact (t.ln i hi h).2 e.symm
  ·simp at hb
def Rg (ts : List Int) (pts : List Pnt) (a : Nat × Nat) : Prop := Clo (fun a : Nat × Nat => ∃ b,b ∈ kC ts pts pts.length ∧ b.var = (a.1 : Int) ∧ b.loan = (a.2 : Int))
 (fun a c => c.2 = a.2 ∧ ∃ b,b ∈ kC ts pts pts.length ∧ b.src = (a.1 : Int) ∧ b.var = (c.1 : Int)) a
theorem Kk {ts:List Int}{pts:List Pnt}(w:WG ts pts) (t:WT ts pts){a:Nat × Nat}(h:Rg ts pts a):a.1 < ts.length ∧ a.2 < pts.length:=by
 induction h with
 | @base a h =>
  obtain ⟨b,hb,h1,h2⟩ := h
  have hk := oO w t hb
  have := hk.v
  rcases hk.k with h|h <;> exact ⟨by omega,by omega⟩
 | @step a c _ r ih =>
  obtain ⟨e,b,hb,h1,h2⟩ := r
  have := (oO w t hb).v
  exact ⟨by omega,by rw [e]; exact ih.2⟩
def GoodG (ts : List Int) (pts : List Pnt) (A : List Nat) : Prop := A.length = 6 ∧ ∀ v,v < 6 → ∀ l,A[v]!.testBit l = true ↔ Rg ts pts (v,l)
theorem GoodG.exist {ts:List Int}{pts:List Pnt}(w:WG ts pts) (t:WT ts pts):∃ A,GoodG ts pts A:=by
 obtain ⟨A,h1,h2⟩ := kT 6 pts.length (fun v l => Rg ts pts (v,l)) (fun v l _ h => (Kk w t h).2)
 exact ⟨A,h1,h2⟩
def Ac (A : List Nat) (b : Bnd) : Nat := if b.src < 0 then A[b.var.toNat]! ||| 2 ^ b.loan.toNat else A[b.var.toNat]! ||| A[b.src.toNat]!
def CU (s : List Nat × Bool) (b : Bnd) : List Nat × Bool := if Ac s.1 b ≠ s.1[b.var.toNat]! then (s.1.set b.var.toNat (Ac s.1 b),true) else s
structure SRg (ts : List Int) (pts : List Pnt) (A : List Nat) : Prop where
 l : A.length = 6
 b : ∀ v : Nat,A[v]! < 2 ^ pts.length
 s : ∀ v : Nat,∀ l,A[v]!.testBit l = true → Rg ts pts (v,l)
theorem SRg.rep (ts:List Int) (pts:List Pnt):SRg ts pts (List.replicate 6 0):=by
 have h : ∀ v : Nat, (List.replicate 6 0)[v]! = 0 := fun v => by
  by_cases hv : v < 6
  ·exact cM _ _ _ hv
  ·rw [getElem!_neg _ v (by simpa using hv)]; rfl
 exact ⟨by simp,fun v => by rw [h]; exact Nat.pow_pos (by decide),fun v l hl => by rw [h] at hl;simp at hl⟩
theorem HN {a b:Nat}(h:a ||| b ≠ a):a < a ||| b:=by
 have := Nat.left_le_or (n := a) (m := b)
 omega
theorem LX {ts:List Int}{pts:List Pnt}(w:WG ts pts) (t:WT ts pts){A:List Nat}(S:SRg ts pts A){b:Bnd}(hb:b ∈ kC ts pts pts.length) :
  Ac A b < 2 ^ pts.length ∧ (∀ l,(Ac A b).testBit l = true → Rg ts pts (b.var.toNat,l)) ∧ ∃ y,Ac A b = A[b.var.toNat]! ||| y := by
 have ok := oO w t hb
 have hv := ok.v
 unfold Ac
 rcases ok.k with ⟨h1,h2,h3⟩ | ⟨h1,h2,h3,_⟩
 ·rw [if_pos (by omega)]
  refine ⟨Nat.or_lt_two_pow (S.b _) (Nat.pow_lt_pow_right (by decide) (by omega)),fun l hl => ?_,_,rfl⟩
  rw [Nat.testBit_or,Bool.or_eq_true] at hl
  rcases hl with hl|hl
  ·exact S.s _ l hl
  ·rw [Nat.testBit_two_pow] at hl
   have hl := of_decide_eq_true hl
   exact .base ⟨b,hb,by dsimp only;omega,by dsimp only;omega⟩
 ·rw [if_neg (by omega)]
  refine ⟨Nat.or_lt_two_pow (S.b _) (S.b _),fun l hl => ?_,_,rfl⟩
  rw [Nat.testBit_or,Bool.or_eq_true] at hl
  rcases hl with hl|hl
  ·exact S.s _ l hl
  ·exact .step (a := (b.src.toNat,l)) (S.s _ l hl) ⟨rfl,b,hb,by dsimp only;omega,by dsimp only;omega⟩
theorem CF {ts:List Int}{pts:List Pnt}(w:WG ts pts) (t:WT ts pts) (A:List Nat) (c:Bool) (b:Bnd) (hb:b ∈ kC ts pts pts.length) (S:SRg ts pts A) :
  SRg ts pts (CU (A,c) b).1 ∧ ((CU (A,c) b = (A,c) ∧ Ac A b = A[b.var.toNat]!) ∨ ((CU (A,c) b).2 = true ∧ dS ((CU (A,c) b).1.map (fun x => 2 ^ pts.length - x)) < dS (A.map (fun x => 2 ^ pts.length - x)))) := by
 obtain ⟨h1,h2,y,h3⟩ := LX w t S hb
 have ok := oO w t hb
 have hv := ok.v
 have htl := w.tl
 have hl := S.l
 unfold CU
 dsimp only
 by_cases hc : Ac A b ≠ A[b.var.toNat]!
 ·rw [if_pos hc]
  refine ⟨⟨by rw [List.length_set]; exact hl,fun v => ?_,fun v l hb' => ?_⟩,.inr ⟨rfl,?_⟩⟩
  ·rw [aS]; split
   ·exact h1
   ·exact S.b v
  ·rw [aS] at hb'; split at hb'
   ·rename_i e;rw [← e.1]; exact h2 l hb'
   ·exact S.s v l hb'
  ·have e1 := lQ (fun x => 2 ^ pts.length - x) A b.var.toNat (Ac A b) (by omega)
   have e2 : A[b.var.toNat]! < Ac A b := by rw [h3] at hc ⊢; exact HN hc
   dsimp only at e1 ⊢
   omega
 ·rw [if_neg hc]
  exact ⟨S,.inl ⟨rfl,Classical.not_not.1 hc⟩⟩
def Nx (ts : List Int) (pts : List Pnt) (A : List Nat) : Prop := ∀ b ∈ kC ts pts pts.length,Ac A b = A[b.var.toNat]!
theorem Iy {ts:List Int}{pts:List Pnt}(w:WG ts pts) (t:WT ts pts) (A:List Nat) (c:Bool) (S:SRg ts pts A) :
  SRg ts pts ((kC ts pts pts.length).foldl CU (A,c)).1 ∧ (((kC ts pts pts.length).foldl CU (A,c) = (A,c) ∧ Nx ts pts A) ∨ (((kC ts pts pts.length).foldl CU (A,c)).2 = true ∧ dS (((kC ts pts pts.length).foldl CU (A,c)).1.map (fun x => 2 ^ pts.length - x)) < dS (A.map (fun x => 2 ^ pts.length - x)))) :=
 gT CU (fun b s => Ac s b = s[b.var.toNat]!) (fun s => dS (s.map (fun x => 2 ^ pts.length - x))) (SRg ts pts) (kC ts pts pts.length) (fun s c' b hb hs => CF w t s c' b hb hs) A c S
theorem Gl {a b:Nat}(h:a ||| b = a){l:Nat}(hl:b.testBit l = true):a.testBit l = true:=by
 have : (a ||| b).testBit l = true := by rw [Nat.testBit_or,hl,Bool.or_true]
 rwa [h] at this
theorem Gk {ts:List Int}{pts:List Pnt}(w:WG ts pts) (t:WT ts pts){A:List Nat}(S:SRg ts pts A) (hC:Nx ts pts A):GoodG ts pts A:=by
 refine ⟨S.l,fun v hv l => ⟨S.s v l,fun h => ?_⟩⟩
 have key : ∀ a : Nat × Nat, Rg ts pts a → A[a.1]!.testBit a.2 = true := by
  refine Clo.sub ?_ ?_
  ·rintro ⟨v, l⟩ ⟨b, hb, h1, h2⟩
   have hc := hC b hb
   have ok := oO w t hb
   dsimp only at h1 h2 ⊢
   unfold Ac at hc
   rcases ok.k with ⟨k1,k2,k3⟩ | ⟨k1,_⟩
   ·rw [if_pos (by omega)] at hc
    have e1 : b.var.toNat = v := by omega
    have e2 : b.loan.toNat = l := by omega
    rw [e1,e2] at hc
    exact Gl hc (by rw [Nat.testBit_two_pow]; simp)
   ·omega
  ·rintro ⟨v, l⟩ ⟨v', l'⟩ hh ⟨e, b, hb, h1, h2⟩
   have hc := hC b hb
   dsimp only at e h1 h2 hh ⊢
   subst e
   unfold Ac at hc
   rw [if_neg (by omega)] at hc
   have e1 : b.var.toNat = v' := by omega
   have e2 : b.src.toNat = v := by omega
   rw [e1,e2] at hc
   exact Gl hc hh
 exact key (v,l) h
theorem E5 {ts:List Int}{pts:List Pnt}{A B:List Nat}(h1:GoodG ts pts A) (h2:GoodG ts pts B):A = B:=by
 refine bH (by rw [h1.1,h2.1]) fun v hv => ?_
 rw [h1.1] at hv
 apply Nat.eq_of_testBit_eq
 intro l
 rw [Bool.eq_iff_iff,h1.2 v hv l,h2.2 v hv l]
def tK (R : List (List Bool)) (b : Bnd) : List (List Bool) :=
 if 0 ≤ b.loan then R.set b.var.toNat (R[b.var.toNat]!.set b.loan.toNat true) else R.set b.var.toNat (fP R[b.var.toNat]! R[b.src.toNat]!)
def HJ (L : List Bnd) (R : List (List Bool)) : Nat → List (List Bool)
 | 0 => R
 | k + 1 => L.foldl tK (HJ L R k)
structure SRr (ts : List Int) (pts : List Pnt) (R : List (List Bool)) : Prop where
 l : R.length = ts.length
 r : ∀ v,v < ts.length → R[v]!.length = pts.length
 s : ∀ v,v < ts.length → ∀ l,l < pts.length → R[v]![l]! = true → Rg ts pts (v,l)
def x9 (nt l : Nat) (R : List (List Bool)) : Nat := kN (fun v => if R[v]![l]! = true then 1 else 0) nt
def Nz (l : Nat) (R : List (List Bool)) (b : Bnd) : Prop := (b.loan = (l : Int) → R[b.var.toNat]![l]! = true) ∧ (0 ≤ b.src → R[b.src.toNat]![l]! = true → R[b.var.toNat]![l]! = true)
theorem SRr.rep (ts:List Int) (pts:List Pnt):SRr ts pts (List.replicate ts.length (List.replicate pts.length false)):=by
 refine ⟨by simp,fun v hv => by rw [cM _ _ _ hv]; simp,fun v hv l hl h => ?_⟩
 rw [cM _ _ _ hv,cM _ _ _ hl] at h;cases h
theorem Fm {ts:List Int}{pts:List Pnt}{R:List (List Bool)}(S:SRr ts pts R){l:Nat}(hl:l < pts.length) (hC:∀ b ∈ kC ts pts pts.length,Nz l R b):∀ v,v < ts.length → (R[v]![l]! = true ↔ Rg ts pts (v,l)) := fun v hv => by
 refine ⟨S.s v hv l hl,fun h => ?_⟩
 have key : ∀ a : Nat × Nat, Rg ts pts a → a.2 = l → R[a.1]![l]! = true := by
  intro a ha
  induction ha with
  | @base a h =>
   intro e
   obtain ⟨b,hb,h1,h2⟩ := h
   have := (hC b hb).1 (by omega)
   rwa [show b.var.toNat = a.1 by omega] at this
  | @step a c _ r ih =>
   intro e
   obtain ⟨e1,b,hb,h1,h2⟩ := r
   have := (hC b hb).2 (by omega) (by rw [show b.src.toNat = a.1 by omega]; exact ih (by omega))
   rwa [show b.var.toNat = c.1 by omega] at this
 exact key (v,l) h rfl
section
variable {ts : List Int} {pts : List Pnt} (w : WG ts pts) (t : WT ts pts)
include w t
theorem LR {R:List (List Bool)}(S:SRr ts pts R){b:Bnd}(hb:b ∈ kC ts pts pts.length) :
  SRr ts pts (tK R b) ∧ (∀ v,v < ts.length → ∀ l,l < pts.length → R[v]![l]! = true → (tK R b)[v]![l]! = true) ∧
  ∀ l,l < pts.length → ((∀ v,v < ts.length → (tK R b)[v]![l]! = R[v]![l]!) ∧ Nz l R b) ∨ x9 ts.length l R < x9 ts.length l (tK R b) := by
 have ok := oO w t hb
 have hv := ok.v
 have hl := S.l
 have hvl : b.var.toNat < ts.length := by omega
 have hrl := S.r _ hvl
 -- the new row, bit by bit
 obtain ⟨row, e, hlen, hbit⟩ : ∃ row, tK R b = R.set b.var.toNat row ∧ row.length = pts.length ∧ ∀ l, l < pts.length → (row[l]! = true ↔ (R[b.var.toNat]![l]! = true ∨ b.loan = (l : Int) ∨ (0 ≤ b.src ∧ R[b.src.toNat]![l]! = true))) := by
  unfold tK
  rcases ok.k with ⟨h1,h2,h3⟩ | ⟨h1,h2,h3,_⟩
  ·rw [if_pos h1]
   refine ⟨_,rfl,by rw [List.length_set]; exact hrl,fun l hl => ?_⟩
   rw [aS]
   by_cases q : b.loan.toNat = l
   ·rw [if_pos ⟨q,by omega⟩]; exact ⟨fun _ => .inr (.inl (by omega)),fun _ => rfl⟩
   ·rw [if_neg (by omega)]
    exact ⟨.inl,fun h => by rcases h with h|h|h;exact h;omega;omega⟩
  ·rw [if_neg (by omega)]
   have hsl := S.r b.src.toNat (by omega)
   refine ⟨_,rfl,by rw [fA]; exact hrl,fun l hl => ?_⟩
   rw [dY _ _ _ (by omega),decide_eq_true (by omega : l < R[b.src.toNat]!.length),Bool.true_and,Bool.or_eq_true]
   exact ⟨fun h => h.elim .inl (fun h => .inr (.inr ⟨h2,h⟩)),fun h => by rcases h with h|h|h;exact .inl h;omega;exact .inr h.2⟩
 have hget : ∀ v, (tK R b)[v]! = if v = b.var.toNat then row else R[v]! := fun v => by
  rw [e,aS]
  by_cases q : b.var.toNat = v
  ·rw [if_pos ⟨q,by omega⟩,if_pos q.symm]
  ·rw [if_neg (by omega),if_neg (fun h => q h.symm)]
 have hmono : ∀ v, v < ts.length → ∀ l, l < pts.length → R[v]![l]! = true → (tK R b)[v]![l]! = true := fun v _ l hl h => by
  rw [hget]; split
  ·rename_i q;subst q;exact (hbit l hl).2 (.inl h)
  ·exact h
 refine ⟨⟨by rw [e,List.length_set]; exact hl,fun v hv => ?_,fun v hv l hl h => ?_⟩,hmono,fun l hl => ?_⟩
 ·rw [hget]; split
  ·exact hlen
  ·exact S.r v hv
 ·rw [hget] at h; split at h
  ·rename_i q; subst q
   rcases (hbit l hl).1 h with h|h | ⟨h1,h2⟩
   ·exact S.s _ hv l hl h
   ·exact .base ⟨b,hb,by dsimp only;omega,h⟩
   ·have hk : b.src.toNat < ts.length := by rcases ok.k with h | h <;> omega
    exact .step (a := (b.src.toNat,l)) (S.s _ hk l hl h2) ⟨rfl,b,hb,by dsimp only;omega,by dsimp only;omega⟩
  ·exact S.s v hv l hl h
 ·by_cases hc : R[b.var.toNat]![l]! = row[l]!
  ·refine .inl ⟨fun v hv => ?_, fun h => ?_, fun h1 h2 => ?_⟩
   ·rw [hget]; split
    ·rename_i q;subst q;exact hc.symm
    ·rfl
   ·rw [hc]; exact (hbit l hl).2 (.inr (.inl h))
   ·rw [hc]; exact (hbit l hl).2 (.inr (.inr ⟨h1,h2⟩))
  ·refine .inr (mH _ (fun v hv => ?_) ⟨b.var.toNat, hvl, ?_⟩)
   ·have := hmono v hv l hl
    by_cases q : R[v]![l]! = true
    ·rw [if_pos q,if_pos (this q)]; exact Nat.le_refl _
    ·rw [if_neg q]; exact Nat.zero_le _
   ·have h0 : R[b.var.toNat]![l]! ≠ true := fun h => hc (by rw [h, (hbit l hl).2 (.inl h)])
    have h1 : row[l]! = true := by
     cases q : row[l]! with
     | true => rfl
     | false => exfalso; cases q2 : R[b.var.toNat]![l]! with
      | true => exact h0 q2
      | false => exact hc (by rw [q,q2])
    have h2 := hget b.var.toNat
    rw [if_pos rfl] at h2
    rw [if_neg h0,h2,if_pos h1]; exact Nat.one_pos
theorem pD:∀ (L:List Bnd),(∀ b ∈ L,b ∈ kC ts pts pts.length) → ∀ R,SRr ts pts R →
  SRr ts pts (L.foldl tK R) ∧ (∀ v,v < ts.length → ∀ l,l < pts.length → R[v]![l]! = true → (L.foldl tK R)[v]![l]! = true) ∧
  ∀ l,l < pts.length → ((∀ v,v < ts.length → (L.foldl tK R)[v]![l]! = R[v]![l]!) ∧ ∀ b ∈ L,Nz l R b) ∨ x9 ts.length l R < x9 ts.length l (L.foldl tK R)
 | [],_,R,S => ⟨S,fun _ _ _ _ h => h,fun l hl => .inl ⟨fun _ _ => rfl,by simp⟩⟩
 | b :: L, hL, R, S => by
  obtain ⟨S1,m1,c1⟩ := LR w t S (hL b List.mem_cons_self)
  obtain ⟨S2,m2,c2⟩ := pD L (fun x hx => hL x (List.mem_cons_of_mem _ hx)) (tK R b) S1
  rw [List.foldl_cons]
  refine ⟨S2,fun v hv l hl h => m2 v hv l hl (m1 v hv l hl h),fun l hl => ?_⟩
  have le : ∀ {R R' : List (List Bool)}, (∀ v, v < ts.length → R[v]![l]! = true → R'[v]![l]! = true) → x9 ts.length l R ≤ x9 ts.length l R' := fun {R R'} h => sumF_le _ fun v hv => by
   by_cases q : R[v]![l]! = true
   ·rw [if_pos q,if_pos (h v hv q)]; exact Nat.le_refl _
   ·rw [if_neg q]; exact Nat.zero_le _
  rcases c1 l hl with ⟨d1,d2⟩|d
  ·rcases c2 l hl with ⟨e1, e2⟩ | e
   ·refine .inl ⟨fun v hv => by rw [e1 v hv, d1 v hv], fun x hx => ?_⟩
    rcases List.mem_cons.1 hx with rfl|hx
    ·exact d2
    ·have ok := oO w t (hL x (List.mem_cons_of_mem _ hx))
     have hv := ok.v
     have h3 := e2 x hx
     refine ⟨fun h => by rw [← d1 _ (by omega)]; exact h3.1 h,fun h1 h2 => ?_⟩
     have hk : x.src.toNat < ts.length := by rcases ok.k with h|h <;> omega
     rw [← d1 _ (by omega)]
     exact h3.2 h1 (by rw [d1 _ hk]; exact h2)
   ·have := le (R := R) (R' := tK R b) (fun v hv h => m1 v hv l hl h)
    exact .inr (by omega)
  ·have := le (R := tK R b) (R' := L.foldl tK (tK R b)) (fun v hv h => m2 v hv l hl h)
   exact .inr (by omega)
theorem pW (R0:List (List Bool)) (S0:SRr ts pts R0):∀ k,SRr ts pts (HJ (kC ts pts pts.length) R0 k) ∧ ∀ l,l < pts.length →
  ((∀ v,v < ts.length → ((HJ (kC ts pts pts.length) R0 k)[v]![l]! = true ↔ Rg ts pts (v,l))) ∨ k ≤ x9 ts.length l (HJ (kC ts pts pts.length) R0 k))
 | 0 => ⟨S0,fun l _ => .inr (Nat.zero_le _)⟩
 | k + 1 => by
  obtain ⟨S,h⟩ := pW R0 S0 k
  obtain ⟨S2,m2,c2⟩ := pD w t _ (fun b hb => hb) _ S
  refine ⟨S2,fun l hl => ?_⟩
  have hup : (∀ v, v < ts.length → ((HJ (kC ts pts pts.length) R0 k)[v]![l]! = true ↔ Rg ts pts (v, l))) → ∀ v, v < ts.length → ((HJ (kC ts pts pts.length) R0 (k + 1))[v]![l]! = true ↔ Rg ts pts (v, l)) := fun g v hv =>
   ⟨S2.s v hv l hl,fun hr => m2 v hv l hl ((g v hv).2 hr)⟩
  rcases c2 l hl with ⟨_,hC⟩|hgrow
  ·exact .inl (hup (Fm S hl hC))
  ·rcases h l hl with g | g
   ·exact .inl (hup g)
   ·exact .inr (by show k + 1 ≤ x9 ts.length l ((kC ts pts pts.length).foldl tK (HJ (kC ts pts pts.length) R0 k));omega)
def y9 (nt n : Nat) (A : List Nat) : List (List Bool) := (List.range nt).map fun (v : Nat) => (List.range n).map fun (l : Nat) => A[v]!.testBit l
theorem BE (R0:List (List Bool)) (S0:SRr ts pts R0){A:List Nat}(hA:GoodG ts pts A):HJ (kC ts pts pts.length) R0 (ts.length + 1) = y9 ts.length pts.length A:=by
 obtain ⟨S,h⟩ := pW w t R0 S0 (ts.length + 1)
 have htl := w.tl
 refine bH (by rw [S.l]; simp [y9]) fun v hv => ?_
 rw [S.l] at hv
 unfold y9
 rw [aX _ _ _ hv]
 refine bH (by rw [S.r v hv]; simp) fun l hl => ?_
 rw [S.r v hv] at hl
 rw [aX _ _ _ hl,Bool.eq_iff_iff,hA.2 v (by omega) l]
 have hcnt : x9 ts.length l (HJ (kC ts pts pts.length) R0 (ts.length + 1)) ≤ ts.length := by
  have := sumF_le (f := fun v => if (HJ (kC ts pts pts.length) R0 (ts.length + 1))[v]![l]! = true then 1 else 0) (g := fun _ => 1) ts.length (fun i _ => by split <;> omega)
  rw [sF] at this
  exact this
 rcases h l hl with g|g
 ·exact g v hv
 ·omega
end
def oQ (n : Nat) (A : List Nat) : List Nat := (List.replicate n A).flatten
theorem nU (A:List Nat) (h:A.length = 6):∀ n,(oQ n A).length = n * 6
 | 0 => rfl
 | n + 1 => by unfold oQ;rw [List.replicate_succ,List.flatten_cons,List.length_append]; have := nU A h n;unfold oQ at this;omega
theorem tC (A:List Nat) (h:A.length = 6):∀ n i,i < n → b7 (oQ n A) i = A
 | n + 1, 0, _ => by
  unfold b7 oQ;rw [List.replicate_succ,List.flatten_cons,Nat.zero_mul,List.drop_zero,← h,List.take_left]
 | n + 1, i + 1, hi => by
  have := tC A h n i (by omega)
  unfold b7 oQ at this ⊢
  rw [List.replicate_succ,List.flatten_cons,show (i + 1) * 6 = A.length + i * 6 by omega,List.drop_append,List.drop_eq_nil_of_le (by omega),List.nil_append,show A.length + i * 6 - A.length = i * 6 by omega]
  exact this
def KC (p : Prg) (f : Flows p.types (aB p)) (A : List Nat) : List Iss := kH p.types (aB p) f.Aa f.Am f.Al (oQ (aB p).length A) f.Ap (aB p).length
theorem Jz (nt n:Nat) (A Ap:List Nat) (hA:A.length = 6) (hnt:nt ≤ 6){i:Nat}(hi:i < n):(dX nt n (oQ n A) Ap i).1 = y9 nt n A:=by
 unfold dX y9
 dsimp only
 refine List.map_congr_left fun v hv => List.map_congr_left fun l hl => ?_
 have hv := List.mem_range.1 hv
 rw [← dV (nU A hA n) hi (by omega : v < 6),tC A hA n i hi]
theorem IQ (nt n:Nat) (A:List Nat):(y9 nt n A).length = nt := by simp [y9]
theorem IH (nt n:Nat) (A:List Nat){v:Nat}(hv:v < nt):(y9 nt n A)[v]!.length = n:=by
 unfold y9;rw [aX _ _ _ hv]; simp
end Go.AL
namespace Go.AL
open Go.RowKit
theorem Le.fset2 {ts:List (Nat × AV)}{hs hs':List (Nat × Option (List AV))}{n:Nat}{z0:Lo}{k j:Nat}{r:List Bool}{R:List (List Bool)}(hF:FamR R (R.set k r) hs hs') (hk:k < R.length) (hj:j < R.length) (hkj:k ≠ j) :
  Le ⟨ts,(j + aQ,some (flat cB R[j]!)) :: (k + aQ,some (flat cB r)) :: hs,n,z0⟩ ⟨ts,hs',n,z0⟩ := by
 refine Le.of (fun _ _ h => h) (fun i cs h => ?_) (Nat.le_refl _) rfl
 have h' : aO hs' i = some cs := h
 show aO ((j + aQ,some (flat cB R[j]!)) :: (k + aQ,some (flat cB r)) :: hs) i = some cs
 rcases Nat.lt_or_ge i aQ with hi|hi
 ·rw [cF,if_neg (by omega),cF,if_neg (by omega),hF.low i hi]; exact h'
 ·obtain ⟨q, rfl⟩ : ∃ q, i = q + aQ := ⟨i - aQ, by omega⟩
  rw [hF.symm.fam] at h'
  split at h'
  ·rename_i hq
   rw [List.length_set] at hq
   rw [AQ] at h'
   rw [cF]
   by_cases e : q = j
   ·subst e
    rw [if_neg (fun q => hkj q.1)] at h'; rw [if_pos rfl]; exact h'
   ·rw [if_neg (by omega), cF]
    by_cases e2 : q = k
    ·subst e2;rw [if_pos ⟨rfl,hk⟩] at h'; rw [if_pos rfl]; exact h'
    ·rw [if_neg (fun z => e2 z.1.symm)] at h'
     rw [if_neg (by omega),hF.get hq]; exact h'
  ·cases h'
theorem Mq {j k:Nat}(h:k ≠ j):distinct [k + aQ,j + aQ] = true:=by
 have : Nat.beq (k + aQ) (j + aQ) = false := by
  cases h2 : Nat.beq (k + aQ) (j + aQ) with
  | false => rfl
  | true => have := Nat.eq_of_beq_eq_true h2;omega
 simp only [distinct,List.all_cons,List.all_nil,this]; rfl
end Go.AL
