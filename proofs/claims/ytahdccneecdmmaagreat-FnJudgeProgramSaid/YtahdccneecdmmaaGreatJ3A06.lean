/-
 A part of the proofs over this program: rules and contracts of its functions (the rules).
-/
import Derived.Test.YtahdccneecdmmaaGreatJ3A05
import Derived.Laws.BytesString
import Derived.Laws.StructEq
set_option linter.unusedVariables false
set_option linter.unusedSimpArgs false
namespace Go.AL
open Go.RowKit
mutual
theorem RnV.bw {w:World}{ρ:Nat → Option Nat}{bad bad':Nat → Prop}{ι ι':Pl}(h:∀ i i',ρ i = some i' → ι i = ι' i') (hc:∀ b,bad b → bad' b):∀ {v v':AV},RnV ρ v v' → ∀ {y:Value},Rd w bad' ι' v' y → Rd w bad ι v y
 | _,_,.pur hp,y,k => Rd.pur _ y hp (Rd.carry (⟨fun b o x h1 h2 => ⟨fun q => h1 (hc b q),h2⟩,fun _ _ h => h,fun _ => Nat.le_refl _⟩ : Carry w bad' ι' w bad ι') _ _ k)
 | _,_,.own hi,y,k => by simp only [Rd,h _ _ hi] at k ⊢; exact k
 | _,_,.optr hi,y,k => by simp only [Rd,h _ _ hi] at k ⊢; exact k
 | _, _, .imm (cs := cs) (cs' := cs') hl, y, k => by
  have hlen := RnL.len hl
  simp only [Rd] at k ⊢
  obtain ⟨a,c,rfl,k⟩ := k
  refine ⟨a,c,rfl,?_⟩
  rcases k with k | ⟨b,o,hn,rfl,k⟩
  ·exact .inl k
  ·refine .inr ⟨b, o, hn, rfl, ?_⟩
   rcases k with k | ⟨hb,k⟩
   ·subst k;exact .inl (List.eq_nil_of_length_eq_zero (by rw [hlen]; rfl))
   ·exact .inr ⟨fun q => hb (hc b q),RnL.bwC h hc hl k⟩
 | _, _, .agg hl, y, k => by
  simp only [Rd] at k ⊢
  obtain ⟨l,h1,h2⟩ := k
  exact ⟨l,h1,RnL.bwL h hc hl h2⟩
 | _, _, .tup hl, y, k => by
  simp only [Rd] at k ⊢
  obtain ⟨l,h1,h2⟩ := k
  exact ⟨l,h1,RnL.bwV h hc hl h2⟩
 | _, _, .clos h1 h2, y, k => by
  simp only [Rd] at k ⊢
  obtain ⟨lf,lc,q1,q2,q3⟩ := k
  exact ⟨lf,lc,q1,RnL.bwV h hc h1 q2,RnL.bwV h hc h2 q3⟩
theorem RnL.bwL {w:World}{ρ:Nat → Option Nat}{bad bad':Nat → Prop}{ι ι':Pl}(h:∀ i i',ρ i = some i' → ι i = ι' i') (hc:∀ b,bad b → bad' b):∀ {v v':List AV},RnL ρ v v' → ∀ {y:List Value},RdL w bad' ι' v' y → RdL w bad ι v y
 | _,_,.pur hp,y,k => RdL.pur _ y hp (RdL.carry (⟨fun b o x h1 h2 => ⟨fun q => h1 (hc b q),h2⟩,fun _ _ h => h,fun _ => Nat.le_refl _⟩ : Carry w bad' ι' w bad ι') _ _ k)
 | _,_,.nil,y,k => by simpa only [RdL] using k
 | _, _, .cons h1 h2, y, k => by
  simp only [RdL] at k ⊢
  obtain ⟨x,l',q0,q1,q2,q3⟩ := k
  exact ⟨x,l',q0,q1,RnV.bw h hc h1 q2,RnL.bwL h hc h2 q3⟩
theorem RnL.bwV {w:World}{ρ:Nat → Option Nat}{bad bad':Nat → Prop}{ι ι':Pl}(h:∀ i i',ρ i = some i' → ι i = ι' i') (hc:∀ b,bad b → bad' b):∀ {v v':List AV},RnL ρ v v' → ∀ {y:List Value},RdV w bad' ι' v' y → RdV w bad ι v y
 | _,_,.pur hp,y,k => RdV.pur _ y hp (RdV.carry (⟨fun b o x h1 h2 => ⟨fun q => h1 (hc b q),h2⟩,fun _ _ h => h,fun _ => Nat.le_refl _⟩ : Carry w bad' ι' w bad ι') _ _ k)
 | _,_,.nil,y,k => by simpa only [RdV] using k
 | _, _, .cons h1 h2, y, k => by
  simp only [RdV] at k ⊢
  obtain ⟨x,l',q0,q2,q3⟩ := k
  exact ⟨x,l',q0,RnV.bw h hc h1 q2,RnL.bwV h hc h2 q3⟩
theorem RnL.bwC {w:World}{ρ:Nat → Option Nat}{bad bad':Nat → Prop}{ι ι':Pl}(h:∀ i i',ρ i = some i' → ι i = ι' i') (hc:∀ b,bad b → bad' b):∀ {v v':List AV},RnL ρ v v' → ∀ {b o:Nat},RdC w bad' ι' v' b o → RdC w bad ι v b o
 | _,_,.pur hp,b,o,k => RdC.pur _ b o hp (RdC.carryB (⟨fun b o x h1 h2 => ⟨fun q => h1 (hc b q),h2⟩,fun _ _ h => h,fun _ => Nat.le_refl _⟩ : Carry w bad' ι' w bad ι') _ _ _ (fun o x hx => hx) k)
 | _,_,.nil,b,o,k => by simp only [RdC]
 | _, _, .cons h1 h2, b, o, k => by
  simp only [RdC] at k ⊢
  obtain ⟨⟨x,q1,q2,q3⟩,q4⟩ := k
  exact ⟨⟨x,q1,q2,RnV.bw h hc h1 q3⟩,RnL.bwC h hc h2 q4⟩
end
theorem RnL.app {ρ:Nat → Option Nat}:∀ {a a' b b':List AV},RnL ρ a a' → RnL ρ b b' → RnL ρ (a ++ b) (a' ++ b')
 | [], a', b, b', ha, hb => by
  have := ha.len
  cases a' with
  | nil => exact hb
  | cons _ _ => simp at this
 | c :: cs, _, b, b', .pur hp, hb => by
  simp only [bR,Bool.and_eq_true] at hp
  exact .cons (.pur hp.1) (RnL.app (.pur hp.2) hb)
 | c :: cs,_,b,b',.cons h1 h2,hb => .cons h1 (RnL.app h2 hb)
theorem RnL.flt {ρ:Nat → Option Nat}{α:Type}{f f':α → List AV}:∀ {xs:List α},(∀ x ∈ xs,RnL ρ (f x) (f' x)) → RnL ρ (flat f xs) (flat f' xs)
 | [],_ => .nil
 | x :: xs, h => by
  have h1 := h x (List.mem_cons_self)
  have h2 := RnL.flt (f := f) (f' := f') (xs := xs) (fun y hy => h y (List.mem_cons_of_mem _ hy))
  simp only [flat,List.flatMap_cons] at h2 ⊢
  exact h1.app h2
theorem Le.renG (ρ:Nat → Option Nat){ts ts':List (Nat × AV)}{hs hs':List (Nat × Option (List AV))}{n n':Nat}{lo lo':Lo}(hlo:lo'.lo = lo.lo) (hfb:lo.fb ≤ lo'.fb)
  (hid : ∀ id,id < lo.lo ∨ (aX ≤ id ∧ id < lo.fb) → ρ id = some id) (hinj : ∀ a b c,ρ a = some c → ρ b = some c → a = b) (hfr : ∀ id,Fn n' lo' id → ρ id = none)
  (h1 : ∀ t v,lk ts' t = some v → ∃ v0,lk ts t = some v0 ∧ RnV ρ v v0) (h2 : ∀ id cs,aU hs' id = some cs → ∃ j cs0,ρ id = some j ∧ aU hs j = some cs0 ∧ RnL ρ cs cs0) :
  Le ⟨ts,hs,n,lo⟩ ⟨ts',hs',n',lo'⟩ := by
 rintro C a w ⟨h0,ι,g,gh⟩
 let ι' : Pl := fun id => match ρ id with|some j => ι j|none => none
 have hto : ∀ id j,ρ id = some j → ι' id = ι j := fun id j h => by simp only [ι',h]
 have hbad : ∀ b, aL C.X ι' (aU hs') b → aL C.X ι (aU hs) b := by
  rintro b (h | ⟨id,cs,β,q1,q2⟩)
  ·exact .inl h
  ·obtain ⟨j, cs0, q3, q4, _⟩ := h2 id cs q1
   rw [hto _ _ q3] at q2
   exact .inr ⟨j,cs0,β,q4,q2⟩
 refine ⟨fun id h => ?_,ι',⟨g.df,g.sz,fun t v ht => ?_⟩,⟨fun id cs h => ?_,fun id id' cs cs' b β β' q1 q2 q3 q4 => ?_,gh.fr,fun id p hp => ?_,fun id hid' => ?_⟩⟩
 ·have h' : lo.lo ≤ id := by rw [← hlo]; exact h
  rcases h0 id h' with q|q
  ·exact .inl ⟨q.1,Nat.lt_of_lt_of_le q.2 hfb⟩
  ·exact .inr q
 ·obtain ⟨v0, q1, q2⟩ := h1 t v ht
  obtain ⟨y,q3,q4⟩ := g.tm t v0 q1
  exact ⟨y,q3,RnV.bw hto hbad q2 q4⟩
 ·obtain ⟨j, cs0, q3, q4, q5⟩ := h2 id cs h
  rcases gh.obj j cs0 q4 with ⟨p1,p2⟩ | ⟨b,β,arr,e,p1,p2,p3,p4,p5,p6⟩
  ·refine .inl ⟨by rw [hto _ _ q3]; exact p1, ?_⟩
   subst p2;exact List.eq_nil_of_length_eq_zero (by rw [q5.len]; rfl)
  ·exact .inr ⟨b,β,arr,e,by rw [hto _ _ q3]; exact p1,p2,by rw [q5.len]; exact p3,RnL.bwC hto hbad q5 p4,p5,p6⟩
 ·obtain ⟨j, c1, r1, r2, _⟩ := h2 id cs q1
  obtain ⟨j',c2,r3,r4,_⟩ := h2 id' cs' q2
  rw [hto _ _ r1] at q3
  rw [hto _ _ r3] at q4
  have := gh.sep _ _ _ _ _ _ _ r2 r4 q3 q4
  subst this
  exact hinj _ _ _ r1 r3
 ·have : ρ id = some id := by
   refine hid id ?_
   rcases Nat.lt_or_ge id lo.lo with q|q
   ·exact .inl q
   ·rcases h0 id q with q1 | q1
    ·exact .inr q1
    ·rw [q1] at hp;cases hp
  rw [hto _ _ this]; exact gh.ex id p hp
 ·have := hfr id hid'
  simp only [ι',this]
def j8 (m : List (Nat × Nat)) (lo : Lo) (pn : Option Nat) (id : Nat) : Option Nat :=
 if id < lo.lo then some id else if aX ≤ id then (if id < lo.fb then some id else if id = lo.fb then pn else none) else Bd m id
theorem iN {m:List (Nat × Nat)}{lo:Lo}{pn:Option Nat}{id:Nat}(h1:aX ≤ id) (h2:id < lo.fb):j8 m lo pn id = some id:=by
 unfold j8;split
 ·rfl
 ·simp [h1,h2]
def Rx (ρ : Nat → Option Nat) (l : List (Nat × AV)) : List (Nat × AV) → Prop
 | [] => True
 | (t,v) :: l' => (∃ v0,lk l t = some v0 ∧ RnV ρ v v0) ∧ Rx ρ l l'
def DD (ρ : Nat → Option Nat) (l : List (Nat × Option (List AV))) : List (Nat × Option (List AV)) → Prop
 | [] => True
 | (t,none) :: l' => DD ρ l l'
 | (t,some cs) :: l' => (∃ j cs0,ρ t = some j ∧ aU l j = some cs0 ∧ RnL ρ cs cs0) ∧ DD ρ l l'
theorem D2 {ρ:Nat → Option Nat}{l:List (Nat × AV)}:∀ {l':List (Nat × AV)},Rx ρ l l' → ∀ t v,lk l' t = some v → ∃ v0,lk l t = some v0 ∧ RnV ρ v v0
 | [],_,t,v,h => by simp [lk] at h
 | (u, x) :: l', hr, t, v, h => by
  simp only [Rx] at hr
  simp only [lL] at h
  split at h
  ·rename_i e;subst e;cases h;exact hr.1
  ·exact D2 hr.2 t v h
theorem tO {a b:List (Nat × Option (List AV))}{u:Nat}{c:List AV}:aU (a ++ b) u = some c → aU a u = some c ∨ aU b u = some c:=by
 induction a with
 | nil => exact fun h => .inr h
 | cons x a ih =>
  obtain ⟨t,v⟩ := x
  rw [List.cons_append,cS,cS]
  split
  ·exact fun h => .inl h
  ·exact ih
theorem Jc {a b:List (Nat × Option (List AV))}{u:Nat}{c:List AV}(h:aU a u = some c):aU (a ++ b) u = some c:=by
 induction a with
 | nil => simp [aU] at h
 | cons x a ih =>
  obtain ⟨t,v⟩ := x
  rw [List.cons_append]
  rw [cS] at h ⊢
  split
  ·rename_i e;rw [if_pos e] at h;exact h
  ·rename_i e;rw [if_neg e] at h;exact ih h
theorem Jp {a b:List (Nat × Option (List AV))}{u:Nat}(h:gF u a = true):aU (a ++ b) u = aU b u:=by
 induction a with
 | nil => rfl
 | cons x a ih =>
  obtain ⟨t,v⟩ := x
  simp only [gF,Bool.and_eq_true] at h
  rw [List.cons_append,cS,if_neg (by have := dG h.1;omega)]
  exact ih h.2
theorem sT {n m:Nat}(h:n ≤ m):∀ {a:List (Nat × Option (List AV))},gF n a = true → gF m a = true
 | [],_ => rfl
 | (t, v) :: a, k => by
  simp only [gF,Bool.and_eq_true] at k ⊢
  exact ⟨by have := dG k.1;simp [Nat.blt]; omega,sT h k.2⟩
theorem tL {ρ:Nat → Option Nat}{l:List (Nat × Option (List AV))}:∀ {l':List (Nat × Option (List AV))},DD ρ l l' → ∀ t cs,aU l' t = some cs →
  ∃ j cs0,ρ t = some j ∧ aU l j = some cs0 ∧ RnL ρ cs cs0
 | [],_,t,v,h => by simp [aU] at h
 | (u, none) :: l', hr, t, v, h => by
  simp only [DD] at hr
  simp only [cS] at h
  split at h
  ·cases h
  ·exact tL hr t v h
 | (u, some x) :: l', hr, t, v, h => by
  simp only [DD] at hr
  simp only [cS] at h
  split at h
  ·rename_i e;subst e;cases h;exact hr.1
  ·exact tL hr.2 t v h
theorem zE {m:List (Nat × Nat)}{lo:Lo}{pn:Option Nat}{n':Nat}(hm:KE lo.lo n' m = true){a c:Nat}(h:j8 m lo pn a = some c) :
  (a < lo.lo ∧ c = a) ∨ (lo.lo ≤ a ∧ aX ≤ a ∧ a < lo.fb ∧ c = a) ∨ (lo.lo ≤ a ∧ aX ≤ a ∧ a = lo.fb ∧ pn = some c) ∨ (lo.lo ≤ a ∧ a < aX ∧ a < n' ∧ lo.lo ≤ c ∧ c < aX ∧ Bd m a = some c) := by
 unfold j8 at h
 split at h
 ·cases h;exact .inl ⟨by assumption,rfl⟩
 ·split at h
  ·split at h
   ·cases h;exact .inr (.inl ⟨by omega,by assumption,by assumption,rfl⟩)
   ·split at h
    ·exact .inr (.inr (.inl ⟨by omega,by assumption,by assumption,h⟩))
    ·cases h
  ·have := kJ hm _ _ h
   exact .inr (.inr (.inr ⟨by omega,by omega,by omega,by omega,by omega,h⟩))
theorem Le.renF (m:List (Nat × Nat)) (pn:Option Nat){ts ts':List (Nat × AV)}{hs hs':List (Nat × Option (List AV))}{n n':Nat}{lo lo':Lo}(hm:KE lo.lo n' m = true) (hn:lo.lo ≤ n') (hlo:lo'.lo = lo.lo)
  (hfb : lo'.fb = lo.fb + (if pn.isSome then 1 else 0)) (hp : ∀ b,pn = some b → lo.lo ≤ b ∧ b < aX ∧ ∀ a,Bd m a ≠ some b)
  (h1 : ∀ t v,lk ts' t = some v → ∃ v0,lk ts t = some v0 ∧ RnV (j8 m lo pn) v v0) (h2 : ∀ id cs,aU hs' id = some cs → ∃ j cs0,j8 m lo pn id = some j ∧ aU hs j = some cs0 ∧ RnL (j8 m lo pn) cs cs0) :
  Le ⟨ts,hs,n,lo⟩ ⟨ts',hs',n',lo'⟩ := by
 refine Le.renG (j8 m lo pn) hlo (by rw [hfb]; omega) (fun id h => ?_) (fun a b c ha hb => ?_) (fun id h => ?_) h1 h2
 ·rcases h with h | h
  ·unfold j8;rw [if_pos h]
  ·exact iN h.1 h.2
 ·rcases zE hm ha with a1 | a1 | a1 | a1 <;> rcases zE hm hb with b1 | b1 | b1 | b1
  all_goals try omega
  ·have := hp c b1.2.2.2;omega
  ·have := hp c b1.2.2.2;omega
  ·have := hp c a1.2.2.2;omega
  ·have := hp c a1.2.2.2;omega
  ·exact absurd b1.2.2.2.2.2 ((hp c a1.2.2.2).2.2 b)
  ·exact absurd a1.2.2.2.2.2 ((hp c b1.2.2.2).2.2 a)
  ·exact zY hm _ _ _ a1.2.2.2.2.2 b1.2.2.2.2.2
 ·cases hc : j8 m lo pn id with
  | none => rfl
  | some c =>
   have h3 : n' ≤ id := h.1
   have h4 : id < aX ∨ lo'.fb ≤ id := h.2
   rcases zE hm hc with a1|a1|a1|a1
   ·omega
   ·omega
   ·rw [a1.2.2.2] at hfb;simp at hfb;omega
   ·omega
theorem Le.renF0 (m:List (Nat × Nat)){R:List (List Bool)}{ts ts':List (Nat × AV)}{hs lits:List (Nat × Option (List AV))}{n n':Nat}{lo:Lo}{l0:Nat}(hF:FamR R R hs hs) (hz:lo = ⟨l0,aX + R.length⟩) (hm:KE l0 n' m = true) (hn:l0 ≤ n')
  (h1 : Rx (j8 m lo none) ts ts') (h2 : DD (j8 m lo none) hs lits) : Le ⟨ts,hs,n,lo⟩ ⟨ts',lits ++ iE R,n',⟨l0,aX + R.length⟩⟩ := by
 subst hz
 refine Le.renF m none hm hn rfl rfl (fun b h => by cases h) (D2 h1) (fun id cs h => ?_)
 rcases tO h with h|h
 ·exact tL h2 id cs h
 ·obtain ⟨k, hk, rfl, rfl⟩ := mH h
  exact ⟨_,_,iN (by omega) (by show k + aX < aX + R.length;omega),hF.get hk,.pur (inferInstance : Pur (flat cB R[k]!)).pf⟩
theorem Le.renF1 (m:List (Nat × Nat)) (b:Nat){r:List Bool}{R R':List (List Bool)}{ts ts':List (Nat × AV)}{hs lits:List (Nat × Option (List AV))}{n n':Nat}{lo:Lo}{l0:Nat}(hF:FamR R R hs hs) (hz:lo = ⟨l0,aX + R.length⟩) (hm:KE l0 n' m = true) (hn:l0 ≤ n')
  (hlb : l0 ≤ aX) (hb : l0 ≤ b ∧ b < aX ∧ (m.all fun p => !Nat.beq p.2 b) = true) (hr : aU hs b = some (flat cB r)) (hR : R' = R ++ [r])
  (h1 : Rx (j8 m lo (some b)) ts ts') (h2 : DD (j8 m lo (some b)) hs lits) : Le ⟨ts,hs,n,lo⟩ ⟨ts',lits ++ iE R',n',⟨l0,aX + R'.length⟩⟩ := by
 subst hz hR
 refine Le.renF m (some b) hm hn rfl (by show aX + (R ++ [r]).length = aX + R.length + 1;simp [Nat.add_assoc]) (fun b' h => ?_) (D2 h1) (fun id cs h => ?_)
 ·cases h
  refine ⟨hb.1,hb.2.1,fun a ha => ?_⟩
  have := Aq ha
  have h3 := hb.2.2
  rw [List.all_eq_true] at h3
  have := h3 _ this
  simp at this
 ·rcases tO h with h | h
  ·exact tL h2 id cs h
  ·obtain ⟨k, hk, rfl, rfl⟩ := mH h
   rw [List.length_append,List.length_singleton] at hk
   rcases Nat.lt_or_ge k R.length with hk2|hk2
   ·have e : (R ++ [r])[k]! = R[k]! := by rw [bC _ _ (by simp; omega), bC _ _ hk2, List.getElem_append_left hk2]
    exact ⟨_,_,iN (by omega) (by show k + aX < aX + R.length;omega),hF.get hk2,by rw [e]; exact .pur (inferInstance : Pur (flat cB R[k]!)).pf⟩
   ·have e : k = R.length := by omega
    subst e
    have e2 : (R ++ [r])[R.length]! = r := by rw [bC _ _ (by simp)]; simp
    refine ⟨b,flat cB r,?_,hr,?_⟩
    ·unfold j8
     rw [if_neg (by show ¬ R.length + aX < l0;omega),if_pos (by omega),if_neg (by show ¬ R.length + aX < aX + R.length;omega),if_pos (by show R.length + aX = aX + R.length;omega)]
    ·rw [e2]; exact .pur (inferInstance : Pur (flat cB r)).pf
section
variable {P : Program} {N : Nat} {Q : Exit → AS → Prop}
theorem Le.litF {ts ts':List (Nat × AV)}{hs lits:List (Nat × Option (List AV))}{n n':Nat}{z0 z1:Lo}{R:List (List Bool)}(h1:qR ts ts') (h2:oG hs lits) (h3:n ≤ n') (hF:FamR R R hs hs) (hz:z0 = z1) :
  Le ⟨ts,hs,n,z0⟩ ⟨ts',lits ++ iE R,n',z1⟩ := by
 refine Le.of (nL h1) (fun i c h => ?_) h3 hz
 rcases tO h with h|h
 ·exact kD h2 i c h
 ·obtain ⟨k, hk, rfl, rfl⟩ := mH h
  exact hF.get hk
theorem BS {σ:Type}{c:Code}{ts:List (Nat × AV)}{hs:List (Nat × Option (List AV))}{n:Nat}{z0:Lo}(l0:Nat) (Rf:σ → List (List Bool)) (ks:List Nat) (kt:List (Nat × AV)) (js:List Nat) (kh:List (Nat × Option (List AV)))
  (ot : σ → List (Nat × AV)) (oh : σ → List (Nat × Option (List AV))) (p : σ → Prop) (μ : σ → Nat) (i0 : σ) (h0 : p i0) (hk : pW ks ts = kt) (hj : rI js hs = kh)
  (h1 : qR ts (ot i0)) (h2 : oG hs (oh i0)) (hF : FamR (Rf i0) (Rf i0) hs hs) (hz : z0 = ⟨l0,aX + (Rf i0).length⟩)
  (round : ∀ i,p i → AW P N c (qE (fun s' => ∃ j,p j ∧ μ j < μ i ∧ Le s' ⟨ot j ++ kt,(oh j ++ kh) ++ iE (Rf j),n,⟨l0,aX + (Rf j).length⟩⟩) Q) ⟨ot i ++ kt,(oh i ++ kh) ++ iE (Rf i),n,⟨l0,aX + (Rf i).length⟩⟩) :
  AW P N (.loop c) Q ⟨ts,hs,n,z0⟩ := by
 subst hk hj
 exact EJ p (fun i => ⟨ot i ++ pW ks ts,(oh i ++ rI js hs) ++ iE (Rf i),n,⟨l0,aX + (Rf i).length⟩⟩) μ ⟨i0,h0,Le.litF (mQ h1 (nH ks)) (nC h2 (qL js)) (Nat.le_refl _) hF hz⟩ round
end
def Aj (P : Program) (k : FuncId) (args : List AV) (H0 : Nat → Option (List AV)) (F0 : Nat → Prop) (Q : AV → (Nat → Option (List AV)) → Prop) : Prop :=
 ∀ (C : Ctx) (ι : Pl) (w : World) (vals : List Value), C.w0 = w → C.ι0 = ι → HG C ι F0 H0 w → RdV w (aL C.X ι H0) ι args vals →
  Calls P k vals.toArray w (fun e w' => ∃ v r H' ι',e = .returned v ∧ Q r H' ∧ Rd w' (aL C.X ι' H') ι' r v ∧ HG C ι' (fun _ => False) H' w')
theorem pY {P:Program}{k:FuncId}{fn:Func}{c:Code}{args:List AV}{H0:List (Nat × Option (List AV))}{n fb:Nat}{Q:AV → (Nat → Option (List AV)) → Prop}(hf:P.funcs[k]? = some fn) (hb:fn.body = some c)
  (hN : args.length ≤ fn.ntmps) (h : AW P fn.ntmps c (o9 P fn.results Q) ⟨iZ 0 args,H0,n,⟨n,fb⟩⟩) : Aj P k args (aU H0) (Fn n ⟨n,fb⟩) Q := by
 intro C ι w vals hw hι g hr
 refine calls_of_wp hf hb ?_
 let C' : Ctx := { C with N := fn.ntmps }
 have hlen := RdV.length hr
 have g' : HG C' ι (Fn n ⟨n,fb⟩) (aU H0) w := ⟨g.obj,g.sep,g.fr,g.ex,g.fresh⟩
 have gt : TG C' ι (lk (iZ 0 args)) (aU H0) { tmps := vals.toArray ++ Array.replicate (fn.ntmps - vals.toArray.size) undef, defers := [] } w := by
  refine ⟨rfl,by simp [C',hlen]; omega,fun t av ht => ?_⟩
  obtain ⟨y,_,h1,h2⟩ := vY hr ht
  refine ⟨y,?_,h2⟩
  have hlt : t < vals.length := by
   rcases Nat.lt_or_ge t vals.length with q|q
   ·exact q
   ·rw [List.getElem?_eq_none (by simpa using q)] at h1;cases h1
  rw [Array.getElem?_append_left (by simpa using hlt)]
  simpa using h1
 refine wp_mono (h C' _ w rfl ⟨fun id hid => ?_,ι,gt,g'⟩) ?_
 ·by_cases q : aX ≤ id ∧ id < fb
  ·exact .inl q
  ·refine .inr ?_
   show C.ι0 id = none
   rw [hι]
   exact g.fresh id ⟨hid,by show id < aX ∨ fb ≤ id;omega⟩
 rintro e a' w' ⟨s1,⟨he,s',l,hle,hres,hQ⟩,hg⟩
 obtain ⟨_,ι',g1,g2⟩ := hle C' a' w' hg
 obtain ⟨ys,h1,h2⟩ := AO (P := P) g1 g2 hres
 have hres' : (results fn a'.tmps).run P w' = .ok (if h : ys.toArray.size = 1 then ys.toArray[0] else .tuple ys.toArray) w' := by
  have hr1 : results fn a'.tmps = (do let vs ← fn.results.mapM (DK a'); pure (if h : vs.size = 1 then vs[0] else .tuple vs)) := by
   unfold results
   congr 1
  rw [hr1,Array.mapM_eq_mapM_toList,Sem.run_bind,Sem.run_map,h1]
  simp only [Result.andThen_ok,Sem.run_pure]
 have g3 : HG C ι' (fun _ => False) (aU s'.hs) w' := ⟨g2.obj,g2.sep,g2.fr,g2.ex,fun _ h => h.elim⟩
 rcases he with rfl|rfl
 ·exact ⟨g1.df,_,hres',_,_,_,ι',rfl,hQ,pO h2,g3⟩
 ·exact ⟨g1.df,_,hres',_,_,_,ι',rfl,hQ,pO h2,g3⟩
def rZ (mpF fr : Nat → Option Nat) (j : Nat) : Option Nat := match mpF j with | some i => some i | none => fr j
theorem Cq {P:Program}{k:FuncId}{args args':List AV}{H0 hh:Nat → Option (List AV)}{F0:Nat → Prop}{mpF fr fi:Nat → Option Nat}{r rr':AV}{H2:Nat → Option (List AV)}
  (h : Aj P k args H0 F0 (fun r' H' => r' = r ∧ ∀ j cs,hh j = some cs → H' j = some cs)) (hmi : ∀ j j' i,mpF j = some i → mpF j' = some i → j = j') (hfi : ∀ i j,fi i = some j ↔ fr j = some i) (hmf : ∀ j i,fr j = some i → mpF j = none) (hF0 : ∀ j,F0 j → mpF j = none)
  {C : Ctx} {ι : Pl} {F : Nat → Prop} {H : Nat → Option (List AV)} {w : World} (g : HG C ι F H w)
  (hH0 : ∀ j i,mpF j = some i → ∃ cs cs',H0 j = some cs ∧ H i = some cs' ∧ RnL mpF cs cs') (hH1 : ∀ j cs,H0 j = some cs → ∃ i,mpF j = some i)
  (ha : RnL mpF args args') (hF : ∀ j i,fr j = some i → F i) (hr : RnV (rZ mpF fr) r rr')
  (hw : ∀ i cs',H2 i = some cs' → (∃ j cs,rZ mpF fr j = some i ∧ hh j = some cs ∧ RnL (rZ mpF fr) cs cs') ∨ (H i = some cs' ∧ ∀ j,mpF j ≠ some i))
  {vals : List Value} (hv : RdV w (aL C.X ι H) ι args' vals) :
  Calls P k vals.toArray w (fun e w' => ∃ v ι',e = .returned v ∧ HG C ι' (fun j => F j ∧ fi j = none) H2 w' ∧ Carry w (aL C.X ι H) ι w' (aL C.X ι' H2) ι' ∧ Rd w' (aL C.X ι' H2) ι' rr' v) := by
 let W0 : Nat → Prop := fun b => ∃ (j i β : Nat),mpF j = some i ∧ ι i = some (some (b,β))
 let Xc : Nat → Prop := fun b => aL C.X ι H b ∧ ¬ W0 b
 let ιc : Pl := fun j => match mpF j with|some i => ι i|none => none
 let C' : Ctx := { N := 0,w0 := w,W0 := W0,X := Xc,ι0 := ιc,xlt := fun b hb => g.bad_lt b hb.1 }
 have hW0 : ∀ b, W0 b → ¬ C.X b ∧ (C.W0 b ∨ C.w0.heap.size ≤ b) ∧ aL C.X ι H b := by
  rintro b ⟨j,i,β,h1,h2⟩
  obtain ⟨cs,cs',q1,q2,q3⟩ := hH0 j i h1
  rcases g.obj i cs' q2 with ⟨q,_⟩ | ⟨b',β',arr,e,q,q4,q5,q6,q7,q8⟩
  ·rw [q] at h2;cases h2
  ·rw [q] at h2;cases h2;exact ⟨q7,q8,.inr ⟨i,cs',_,q2,q⟩⟩
 have hnone : ∀ i j,fi i = some j → ι i = none := fun i j h1 => g.fresh i (hF j i ((hfi i j).1 h1))
 have hιc : ∀ j i,mpF j = some i → ιc j = ι i := fun j i h => by simp only [ιc,h]
 have hbadc : ∀ b, aL Xc ιc H0 b → aL C.X ι H b := by
  rintro b (⟨h1,_⟩ | ⟨j,cs,β,h1,h2⟩)
  ·exact h1
  ·obtain ⟨i, hi⟩ := hH1 j cs h1
   rw [hιc j i hi] at h2
   exact (hW0 b ⟨j,_,β,hi,h2⟩).2.2
 have hbadc2 : ∀ b, aL C.X ι H b → aL Xc ιc H0 b := by
  intro b hb
  by_cases hw0 : W0 b
  ·obtain ⟨j, i, β, h1, h2⟩ := hw0
   obtain ⟨cs,cs',q1,q2,q3⟩ := hH0 j i h1
   exact .inr ⟨j,cs,β,q1,by rw [hιc j i h1]; exact h2⟩
  ·exact .inl ⟨hb,hw0⟩
 have gc : HG C' ιc F0 H0 w := by
  refine ⟨fun j cs hj => ?_,fun j j' cs cs' b β β' h1 h2 h3 h4 => ?_,Fr.refl _ _,fun _ _ h => h,fun j hj => ?_⟩
  ·obtain ⟨i, hi⟩ := hH1 j cs hj
   obtain ⟨cs1,cs',q1,q2,q3⟩ := hH0 j _ hi
   rw [hj] at q1;cases q1
   rcases g.obj _ cs' q2 with ⟨q4,q5⟩ | ⟨b',β',arr,e,q4,q5,q6,q7,q8,q9⟩
   ·refine .inl ⟨by rw [hιc j i hi]; exact q4, ?_⟩
    subst q5
    exact List.eq_nil_of_length_eq_zero (by rw [q3.len]; rfl)
   ·have hw0 : W0 b' := ⟨j, _, β', hi, q4⟩
    exact .inr ⟨b',β',arr,e,by rw [hιc j i hi]; exact q4,q5,by rw [q3.len]; exact q6,RnL.bwC hιc hbadc q3 q7,fun hx => hx.2 hw0,.inl hw0⟩
  ·obtain ⟨i, hi⟩ := hH1 j cs h1
   obtain ⟨i',hi'⟩ := hH1 j' cs' h2
   obtain ⟨_,c1,_,q2,_⟩ := hH0 j _ hi
   obtain ⟨_,c2,_,q2',_⟩ := hH0 j' _ hi'
   rw [hιc j i hi] at h3
   rw [hιc j' i' hi'] at h4
   have := g.sep _ _ _ _ _ _ _ q2 q2' h3 h4
   exact hmi j j' i hi (by rw [hi',this])
  ·show ιc j = none
   simp only [ιc,hF0 j hj]
 have hvc : RdV w (aL C'.X ιc H0) ιc args vals := RnL.bwV hιc hbadc ha hv
 refine (h C' ιc w vals rfl rfl gc hvc).mono ?_
 rintro e w' ⟨v,r0,H',ιr,rfl,⟨rfl,hkeep⟩,hrd,gr⟩
 let ι' : Pl := fun i => match fi i with|some j => ιr j|none => ι i
 have hmpf : ∀ (j i : Nat), mpF j = some i → fi i = none := by
  intro j i hj
  cases hq : fi i with
  | none => rfl
  | some j2 =>
   obtain ⟨cs,cs',q1,q2,q3⟩ := hH0 j i hj
   rcases g.obj i cs' q2 with ⟨q,_⟩ | ⟨_,_,_,_,q,_⟩ <;> (rw [hnone i _ hq] at q;cases q)
 have hιr : ∀ (j i : Nat), mpF j = some i → ιr j = ι i := by
  intro j i hj
  obtain ⟨cs,cs',q1,q2,q3⟩ := hH0 j i hj
  have : ∃ q, ι i = some q := by
   rcases g.obj i cs' q2 with ⟨q,_⟩ | ⟨_,_,_,_,q,_⟩
   ·exact ⟨_,q⟩
   ·exact ⟨_,q⟩
  obtain ⟨q,hq⟩ := this
  rw [hq]
  exact gr.ex j q (by show ιc j = some q;rw [hιc j i hj]; exact hq)
 have hρ1 : ∀ j i, rZ mpF fr j = some i → (mpF j = some i) ∨ (mpF j = none ∧ fr j = some i) := by
  intro j i hj
  unfold rZ at hj
  split at hj
  ·cases hj;exact .inl (by assumption)
  ·exact .inr ⟨by assumption,hj⟩
 have hto : ∀ j i, rZ mpF fr j = some i → ιr j = ι' i := by
  intro j i hj
  rcases hρ1 j i hj with h2 | ⟨h1,h2⟩
  ·rw [hιr j i h2]; simp only [ι',hmpf j i h2]
  ·simp only [ι',(hfi i j).2 h2]
 have hcase := hw
 have hold : ∀ i cs', H i = some cs' → ι' i = ι i := by
  intro i cs' hi
  simp only [ι']
  cases hq : fi i with
  | none => rfl
  | some j2 => rcases g.obj i cs' hi with ⟨q,_⟩ | ⟨_,_,_,_,q,_⟩ <;> (rw [hnone i _ hq] at q;cases q)
 have hnW : ∀ (i : Nat) cs' b β, H i = some cs' → (∀ j, mpF j ≠ some i) → ι i = some (some (b, β)) → ¬ W0 b := by
  rintro i cs' b β hi hm hb ⟨j,i2,β2,q1,q2⟩
  obtain ⟨cs,c2,_,q3,_⟩ := hH0 j i2 q1
  have := g.sep _ _ _ _ _ _ _ hi q3 hb q2
  subst this
  exact hm j q1
 have hobjlt : ∀ i cs' b β,H i = some cs' → ι i = some (some (b,β)) → b < w.heap.size := fun i cs' b β hi hb => g.bad_lt b (.inr ⟨i,cs',β,hi,hb⟩)
 have hcal : ∀ j cs b β, H' j = some cs → ιr j = some (some (b, β)) → W0 b ∨ w.heap.size ≤ b := by
  intro j cs b β hj hb
  rcases gr.obj j cs hj with ⟨q,_⟩ | ⟨b',β',arr,e,q,q4,q5,q6,q7,q8⟩
  ·rw [q] at hb;cases hb
  ·rw [q] at hb;cases hb;exact q8
 have hbad : ∀ b, aL C.X ι' H2 b → aL C.X ι H b ∨ w.heap.size ≤ b := by
  rintro b (h1 | ⟨i,cs',β,h1,h2⟩)
  ·exact .inl (.inl h1)
  ·rcases hcase i cs' h1 with ⟨j, cs, q1, q2, q3⟩ | ⟨q1, q2⟩
   ·rw [← hto j i q1] at h2
    rcases hcal j cs b β (hkeep j cs q2) h2 with q|q
    ·exact .inl (hW0 b q).2.2
    ·exact .inr q
   ·rw [hold i cs' q1] at h2;exact .inl (.inr ⟨i,cs',β,q1,h2⟩)
 have hfr := gr.fr
 have hcar : Carry w (aL C.X ι H) ι w' (aL C.X ι' H2) ι' := by
  refine ⟨fun b o y h1 h2 => ?_,fun i q hq => ?_,hfr.bs⟩
  ·have hlt := lO h2
   refine ⟨fun hb => ?_,?_⟩
   ·rcases hbad b hb with h | h
    ·exact h1 h
    ·omega
   ·rw [dQ (hfr.block b hlt (fun hw0 => h1 (hW0 b hw0).2.2))]; exact h2
  ·simp only [ι']
   cases hq2 : fi i with
   | none => exact hq
   | some j2 => rw [hnone i _ hq2] at hq;cases hq
 have hrn2 : RnH w' (rZ mpF fr) (aL C'.X ιr H') ιr (aL C.X ι' H2) ι' := by
  refine ⟨⟨fun b o y h1 h2 => ⟨fun hb => h1 ?_,h2⟩,fun _ _ h => h,fun _ => Nat.le_refl _⟩,fun j i hj => hto j i hj⟩
  rcases hb with hb | ⟨i,cs',β,q1,q2⟩
  ·exact .inl ⟨.inl hb,fun hw0 => (hW0 b hw0).1 hb⟩
  ·rcases hcase i cs' q1 with ⟨j, cs, r1, r2, r3⟩ | ⟨r1, r2⟩
   ·rw [← hto j i r1] at q2
    exact .inr ⟨j,cs,β,hkeep j cs r2,q2⟩
   ·rw [hold i cs' r1] at q2
    exact .inl ⟨.inr ⟨i,cs',β,r1,q2⟩,hnW i cs' b β r1 r2 q2⟩
 refine ⟨v,ι',rfl,⟨fun i cs' hi => ?_,fun i i2 cs1 cs2 b β β' h1 h2 h3 h4 => ?_,⟨hfr.os.trans g.fr.os,hfr.tape.trans g.fr.tape,hfr.output.trans g.fr.output,Nat.le_trans g.fr.size hfr.size,fun b hb hnw => ?_,fun b => Nat.le_trans (g.fr.bs b) (hfr.bs b)⟩,fun i q hq => hcar.pl i q (g.ex i q hq),fun i hi => ?_⟩,hcar,RnV.fwd hrn2 hr hrd⟩
 ·rcases hcase i cs' hi with ⟨j, cs, q1, q2, q3⟩ | ⟨q1, q2⟩
  ·rcases gr.obj j cs (hkeep j cs q2) with ⟨r1, r2⟩ | ⟨b, β, arr, e, r1, r2, r3, r4, r5, r6⟩
   ·refine .inl ⟨by rw [← hto j i q1]; exact r1, ?_⟩
    subst r2
    exact List.eq_nil_of_length_eq_zero (by rw [← q3.len]; rfl)
   ·refine .inr ⟨b, β, arr, e, by rw [← hto j i q1]; exact r1, r2, by rw [← q3.len]; exact r3, RnL.fwdC hrn2 q3 r4, ?_, ?_⟩
    ·rcases r6 with r6 | r6
     ·exact (hW0 b r6).1
     ·intro hX
      have := C.xlt b hX
      have := g.fr.size
      have : w.heap.size ≤ b := r6
      omega
    ·rcases r6 with r6 | r6
     ·exact (hW0 b r6).2.1
     ·refine .inr ?_
      have := g.fr.size
      have : w.heap.size ≤ b := r6
      omega
  ·rcases g.obj i cs' q1 with ⟨r1, r2⟩ | ⟨b, β, arr, e, r1, r2, r3, r4, r5, r6⟩
   ·exact .inl ⟨by rw [hold i cs' q1]; exact r1,r2⟩
   ·have hlt := fO r2
    have hbl := hfr.block b hlt (hnW i cs' b β q1 q2 r1)
    exact .inr ⟨b,β,arr,e,by rw [hold i cs' q1]; exact r1,by rw [hbl]; exact r2,r3,RdC.carryB hcar _ _ _ (fun o y hy => by rw [dQ hbl]; exact hy) r4,r5,r6⟩
 ·rcases hcase i cs1 h1 with ⟨j, c1, q1, q2, q3⟩ | ⟨q1, q2⟩ <;> rcases hcase i2 cs2 h2 with ⟨j2, c2, q1', q2', q3'⟩ | ⟨q1', q2'⟩
  ·rw [← hto j i q1] at h3
   rw [← hto j2 i2 q1'] at h4
   have := gr.sep _ _ _ _ _ _ _ (hkeep j c1 q2) (hkeep j2 c2 q2') h3 h4
   subst this
   rw [q1] at q1'; cases q1'; rfl
  ·rw [← hto j i q1] at h3
   rw [hold i2 cs2 q1'] at h4
   have hlt := hobjlt i2 cs2 b _ q1' h4
   rcases hcal j c1 b _ (hkeep j c1 q2) h3 with q|q
   ·exact (hnW i2 cs2 b _ q1' q2' h4 q).elim
   ·omega
  ·rw [hold i cs1 q1] at h3
   rw [← hto j2 i2 q1'] at h4
   have hlt := hobjlt i cs1 b _ q1 h3
   rcases hcal j2 c2 b _ (hkeep j2 c2 q2') h4 with q|q
   ·exact (hnW i cs1 b _ q1 q2 h3 q).elim
   ·omega
  ·rw [hold i cs1 q1] at h3
   rw [hold i2 cs2 q1'] at h4
   exact g.sep _ _ _ _ _ _ _ q1 q1' h3 h4
 ·have hb2 : b < w.heap.size := by have := g.fr.size; omega
  rw [hfr.block b hb2 (fun hw0 => ?_)]
  ·exact g.fr.block b hb hnw
  ·rcases (hW0 b hw0).2.1 with q | q
   ·exact hnw q
   ·omega
 ·simp only [ι', hi.2]
  exact g.fresh i hi.1
attribute [local irreducible] aX
def Qo (P : Program) (k : FuncId) (args : List AV) (R0 : List (List Bool)) (r : AV) (hh : List (Nat × Option (List AV))) : Prop :=
 Aj P k args (aU (iE R0)) (Fn 0 ⟨0,aX + R0.length⟩) (fun r' H' => r' = r ∧ ∀ id cs,aU (hh ++ iE R0) id = some cs → H' id = some cs)
def RF (P : Program) (k : FuncId) (args : List AV) (r : AV) (R1 : List (List Bool)) : Prop :=
 Aj P k args (aU []) (Fn 0 ⟨0,aX⟩) (fun r' H' => r' = r ∧ ∀ id cs,aU (iE R1) id = some cs → H' id = some cs)
theorem sF {hs:List (Nat × Option (List AV))}{r r':AV}{R0:List (List Bool)}{hh:List (Nat × Option (List AV))}(hr:r' = r) (hh':oG hs hh) (hF:FamR R0 R0 hs hs):r' = r ∧ ∀ id cs,aU (hh ++ iE R0) id = some cs → aU hs id = some cs:=by
 refine ⟨hr,fun id cs h => ?_⟩
 rcases tO h with h|h
 ·exact kD hh' id cs h
 ·obtain ⟨k, hk, rfl, rfl⟩ := mH h
  exact hF.get hk
theorem On {hs:List (Nat × Option (List AV))}{r r':AV}{R0:List (List Bool)}(hr:r' = r) (hF:FamR R0 R0 hs hs):r' = r ∧ ∀ id cs,aU (iE R0) id = some cs → aU hs id = some cs :=
 sF (hh := []) hr trivial hF
def KW (b m : Nat) (j : Nat) : Option Nat := if aX ≤ j ∧ j < aX + m then some (b + j) else none
def Qm (n n1 : Nat) (j : Nat) : Option Nat := if j < n1 then some (n + j) else none
def RR (n n1 : Nat) (i : Nat) : Option Nat := if n ≤ i ∧ i < n + n1 then some (i - n) else none
def RC (b m n n1 : Nat) : Nat → Option Nat := rZ (KW b m) (Qm n n1)
theorem Gg {mpF fr:Nat → Option Nat}{j i:Nat}(h:mpF j = some i):rZ mpF fr j = some i := by unfold rZ;rw [h]
theorem Ha {mpF fr:Nat → Option Nat}{j:Nat}(h:mpF j = none):rZ mpF fr j = fr j := by unfold rZ;rw [h]
theorem oA {b m k:Nat}(h:k < m):KW b m (k + aX) = some (b + k + aX):=by
 unfold KW;rw [if_pos (by omega),Nat.add_assoc]
theorem MZ {b m n n1 k:Nat}(h:k < m):RC b m n n1 (k + aX) = some (b + k + aX) := Gg (oA h)
theorem tT {b m n n1 j:Nat}(h:j < n1) (hb:j < aX):RC b m n n1 j = some (n + j):=by
 have e : KW b m j = none := by unfold KW;rw [if_neg (by omega)]
 refine (Ha e).trans ?_
 unfold Qm;rw [if_pos h]
theorem rn_rows {ρ:Nat → Option Nat}{b b' m w:Nat}(h:∀ k,k < m → ρ (b + k + aX) = some (b' + k + aX)):RnL ρ (flat (Ak b w) (List.range m)) (flat (Ak b' w) (List.range m)) :=
 RnL.flt fun k hk => by rw [List.mem_range] at hk;exact .cons (.own (h k hk)) .nil
theorem cX {m:List (Nat × Nat)}{lo:Lo}{pn:Option Nat}{b k w:Nat}(h:aX + (b + k) ≤ lo.fb):RnL (j8 m lo pn) (flat (Ak b w) (List.range k)) (flat (Ak b w) (List.range k)) :=
 rn_rows fun j hj => iN (by omega) (by omega)
def Qn (ρ : Nat → Option Nat) (hh : List (Nat × Option (List AV))) : List (Nat × Option (List AV)) → Prop
 | [] => True
 | (i,none) :: l => Qn ρ hh l
 | (i,some cs') :: l => (∃ j cs,ρ j = some i ∧ aU hh j = some cs ∧ RnL ρ cs cs') ∧ Qn ρ hh l
theorem DV {ρ:Nat → Option Nat}{hh:List (Nat × Option (List AV))}:∀ {ws:List (Nat × Option (List AV))},Qn ρ hh ws → ∀ i cs',(i,some cs') ∈ ws → ∃ j cs,ρ j = some i ∧ aU hh j = some cs ∧ RnL ρ cs cs'
 | [],_,i,cs',h => by simp at h
 | (u, none) :: l, hw, i, cs', h => by
  simp only [Qn] at hw
  rcases List.mem_cons.1 h with h|h
  ·cases h
  ·exact DV hw i cs' h
 | (u, some c) :: l, hw, i, cs', h => by
  simp only [Qn] at hw
  rcases List.mem_cons.1 h with h|h
  ·cases h;exact hw.1
  ·exact DV hw.2 i cs' h
section
variable {P : Program} {N : Nat} {Q : Exit → AS → Prop} {all : Array Oper} {rest : List Oper} {ts : List (Nat × AV)} {hs : List (Nat × Option (List AV))} {n : Nat} {z0 : Lo} {md : Md}
variable {d : Nat} {ty : TypeId} {pos : String} {af : Array Edge}
theorem Bl {k:FuncId}{args:Array Operand}{tys:Array TypeId}{avs avs0:List AV}{R R0:List (List Bool)}{r rr':AV}{hh:List (Nat × Option (List AV))}(b n1:Nat) (D:List Nat) (ws:List (Nat × Option (List AV))) [hc:CaT P k]
  (ha : evL (lk ts) args.toList = some avs) (h : Qo P k avs0 R0 r hh) (hF : FamR R R hs hs) (hb : b + R0.length ≤ R.length) (hR : ∀ k,k < R0.length → R0[k]! = R[b + k]!) (hD : ∀ k,k < R0.length → b + k + aX ∈ D)
  (har : RnL (KW b R0.length) avs0 avs) (hk : gF aX hh = true) (hr : RnV (RC b R0.length n n1) r rr') (hw : Qn (RC b R0.length n n1) hh ws) (hM : Nat.ble (n + n1) aX = true) (hN : Nat.blt d N = true)
  {md' : Md} [hmd : MdA md (fP args.toList ++ D.map .inr) (ws.map (fun p => .inr p.1) ++ [.inl d]) md']
  (kk : RW P N all Q md' rest ⟨(d,rr') :: ts,gR hs ws,n + n1,z0⟩) : RW P N all Q md (⟨some d,.call ⟨.value (.func k),args,tys⟩,ty,pos,af,none⟩ :: rest) ⟨ts,hs,n,z0⟩ := by
 have hM' := Nat.le_of_ble_eq_true hM
 refine jD (rs := fP args.toList ++ D.map .inr) (ws := ws) (n' := n + n1) (out := rr') rfl (Nat.le_add_right _ _) (.inr hM') (fun C ι F T H a w K Q' hCN ag hFf g gh hK => ?_) (fun x hx => by cases hx;exact dG hN) (by simp only [wD]; rw [← hmd.pf] at kk;exact kk)
 simp only [Oper.wp,gK hc.pf,Oper.upon]
 have hH : ∀ q, q < R0.length → H (b + q + aX) = some (flat cB R[b + q]!) := fun q hq => by
  rw [ag.r.h _ (List.mem_map_of_mem (hD q hq))]; exact hF.get (by omega)
 have hmp : ∀ j i, KW b R0.length j = some i → ∃ q, q < R0.length ∧ j = q + aX ∧ i = b + q + aX := by
  intro j i hj
  unfold KW at hj
  split at hj
  ·cases hj;exact ⟨j - aX,by omega,by omega,by omega⟩
  ·cases hj
 have hrh : ∀ j i, Qm n n1 j = some i → j < n1 ∧ i = n + j := by
  intro j i hj
  unfold Qm at hj
  split at hj
  ·cases hj;exact ⟨by assumption,rfl⟩
  ·cases hj
 refine (Cq (fr := Qm n n1) (fi := RR n n1) (hh := aU (hh ++ iE R0)) (H2 := kS H ws) h (fun j j' i h1 h2 => ?_) (fun i j => ?_) (fun j i h1 => ?_) (fun j hj => ?_) gh (fun j i hj => ?_) (fun j cs hj => ?_) har (fun j i hj => ?_) hr (fun i cs' hi => ?_) (iD g (ag.l.evL.trans ha))).mono ?_
 ·obtain ⟨q, _, _, _⟩ := hmp j i h1
  obtain ⟨q',_,_,_⟩ := hmp j' i h2
  omega
 ·unfold RR Qm
  constructor
  ·intro h1
   split at h1
   ·cases h1;rw [if_pos (by omega)]; congr 1;omega
   ·cases h1
  ·intro h1
   split at h1
   ·cases h1;rw [if_pos (by omega)]; congr 1;omega
   ·cases h1
 ·have := hrh j i h1
  unfold KW;rw [if_neg (by omega)]
 ·have h1 : j < aX ∨ aX + R0.length ≤ j := hj.2
  unfold KW;rw [if_neg (by omega)]
 ·obtain ⟨q, q1, rfl, rfl⟩ := hmp j i hj
  refine ⟨flat cB R0[q]!,flat cB R[b + q]!,?_,hH q q1,?_⟩
  ·rw [qG,if_pos q1]
  ·rw [hR q q1]; exact .pur (inferInstance : Pur (flat cB R[b + q]!)).pf
 ·obtain ⟨q, q1, rfl, rfl⟩ := mH hj
  exact ⟨_,oA q1⟩
 ·obtain ⟨q1, rfl⟩ := hrh j i hj
  exact hFf _ (Nat.le_add_right _ _) (by omega)
 ·rcases vS hi with h1 | ⟨h1, h2⟩
  ·obtain ⟨j, cs, q1, q2, q3⟩ := DV hw i cs' h1
   exact .inl ⟨j,cs,q1,Jc q2,q3⟩
  ·by_cases hq : ∃ q, q < R0.length ∧ i = b + q + aX
   ·obtain ⟨q, q1, rfl⟩ := hq
    rw [hH q q1] at h1
    cases h1
    refine .inl ⟨q + aX,flat cB R0[q]!,MZ q1,?_,?_⟩
    ·rw [Jp (sT (by omega) hk),qG,if_pos q1]
    ·rw [hR q q1]; exact .pur (inferInstance : Pur (flat cB R[b + q]!)).pf
   ·refine .inr ⟨h1, fun j hj => hq ?_⟩
    obtain ⟨q,q1,_,q2⟩ := hmp j i hj
    exact ⟨q,q1,q2⟩
 ·rintro e w' ⟨v, ι', rfl, g', c', hrd⟩
  refine hK ι' w' v (g.carry c') (g'.less (fun _ _ h => h) (fun j hj => ⟨hj.1,?_⟩)).1 hrd
  unfold RR;rw [if_neg hj.2]
theorem KP {k:FuncId}{args:Array Operand}{tys:Array TypeId}{avs:List AV}{R R1:List (List Bool)}{r rr':AV}{hs':List (Nat × Option (List AV))}{l0:Nat}[hc:CaT P k]
  (ha : evL (lk ts) args.toList = some avs) (h : RF P k avs r R1) (hp : bR avs = true) (hF : FamR R (R ++ R1) hs hs') (hz : z0 = ⟨l0,aX + R.length⟩)
  (hr : RnV (fun j => if aX ≤ j ∧ j < aX + R1.length then some (R.length + j) else none) r rr') (hM : Nat.ble n aX = true) (hN : Nat.blt d N = true)
  (kk : RW P N all Q .txt rest ⟨(d,rr') :: ts,hs',n,⟨l0,aX + (R ++ R1).length⟩⟩) : RW P N all Q .txt (⟨some d,.call ⟨.value (.func k),args,tys⟩,ty,pos,af,none⟩ :: rest) ⟨ts,hs,n,z0⟩ := by
 subst hz
 rintro C a w hCN ⟨h0,ι,g,gh⟩
 refine wpList_plain rfl (fun K hK => ?_)
 simp only [Oper.wp,gK hc.pf,Oper.upon]
 have hM' := Nat.le_of_ble_eq_true hM
 have hrh : ∀ j i, (fun j => if aX ≤ j ∧ j < aX + R1.length then some (R.length + j) else none) j = some i → aX ≤ j ∧ j < aX + R1.length ∧ i = R.length + j := by
  intro j i hj
  dsimp only at hj
  split at hj
  ·rename_i hh;cases hj;exact ⟨hh.1,hh.2,rfl⟩
  ·cases hj
 have hrho : rZ (fun _ => none) (fun j => if aX ≤ j ∧ j < aX + R1.length then some (R.length + j) else none) = (fun j => if aX ≤ j ∧ j < aX + R1.length then some (R.length + j) else none) := by funext j;rfl
 have hlen : (R ++ R1).length = R.length + R1.length := List.length_append
 refine (Cq (mpF := fun _ => none) (fr := fun j => if aX ≤ j ∧ j < aX + R1.length then some (R.length + j) else none) (fi := fun i => if aX + R.length ≤ i ∧ i < aX + R.length + R1.length then some (i - R.length) else none) (hh := aU (iE R1)) (H2 := aU hs') (args' := avs)
  h (fun j j' i h1 h2 => by cases h1) (fun i j => ?_) (fun j i h1 => rfl) (fun j hj => rfl) gh (fun j i hj => by cases hj) (fun j cs hj => by simp [aU] at hj) (.pur hp) (fun j i hj => ?_) (rr' := rr') (by rw [hrho]; exact hr) (fun i cs' hi => ?_) (iD g ha)).mono ?_
 ·constructor
  ·intro h1
   split at h1
   ·cases h1;rw [if_pos (by omega)]; congr 1;omega
   ·cases h1
  ·intro h1
   split at h1
   ·cases h1;rw [if_pos (by omega)]; congr 1;omega
   ·cases h1
 ·obtain ⟨q1, q2, rfl⟩ := hrh j i hj
  exact ⟨by show n ≤ R.length + j;omega,.inr (by show aX + R.length ≤ R.length + j;omega)⟩
 ·rcases Nat.lt_or_ge i aX with hi2 | hi2
  ·exact .inr ⟨by rw [hF.low i hi2]; exact hi,fun j => by simp⟩
  ·obtain ⟨q, rfl⟩ : ∃ q, i = q + aX := ⟨i - aX, by omega⟩
   have hg := hF.symm.fam q
   rw [hi] at hg
   split at hg
   ·rename_i hq
    cases hg
    rcases Nat.lt_or_ge q R.length with hq2|hq2
    ·refine .inr ⟨?_, fun j => by simp⟩
     have e : (R ++ R1)[q]! = R[q]! := by rw [bC _ _ hq,bC _ _ hq2,List.getElem_append_left hq2]
     rw [e]; exact hF.get hq2
    ·refine .inl ⟨(q - R.length) + aX, flat cB R1[q - R.length]!, ?_, ?_, ?_⟩
     ·rw [hrho]
      show (if aX ≤ q - R.length + aX ∧ q - R.length + aX < aX + R1.length then some (R.length + (q - R.length + aX)) else none) = some (q + aX)
      rw [if_pos (by omega)]; congr 1;omega
     ·rw [qG,if_pos (by omega)]
     ·have e : (R ++ R1)[q]! = R1[q - R.length]! := by rw [bC _ _ hq, bC _ _ (by omega), List.getElem_append_right hq2]
      rw [e]; exact .pur (inferInstance : Pur (flat cB R1[q - R.length]!)).pf
   ·cases hg
 ·rintro e w' ⟨v, ι', rfl, g', c', hrd⟩
  refine hK _ _ (kk C _ _ hCN ⟨fun id hid => ?_,ι',?_,?_⟩)
  ·rcases h0 id hid with q | q
   ·exact .inl ⟨q.1,by have := q.2;show id < aX + (R ++ R1).length;have h5 : id < aX + R.length := this;omega⟩
   ·exact .inr q
  ·show TG C ι' (lk ((d, rr') :: ts)) _ _ _
   rw [iG]
   exact (g.carry c').put (hCN.symm ▸ dG hN) hrd
  ·refine (g'.less (fun _ _ h => h) (fun j hj => ?_)).1
   have h3 : n ≤ j := hj.1
   have h4 : j < aX ∨ aX + (R ++ R1).length ≤ j := hj.2
   refine ⟨⟨h3,?_⟩,?_⟩
   ·show j < aX ∨ aX + R.length ≤ j
    omega
   ·rw [if_neg (by omega)]
end
theorem IX {P:Program}{k:FuncId}{fn:Func}{c:Code}{args:List AV}{R0:List (List Bool)}{r:AV}{hh:List (Nat × Option (List AV))}(hf:P.funcs[k]? = some fn) (hb:fn.body = some c) (hN:args.length ≤ fn.ntmps)
  (h : AW P fn.ntmps c (o9 P fn.results (fun r' H' => r' = r ∧ ∀ id cs,aU (hh ++ iE R0) id = some cs → H' id = some cs)) ⟨iZ 0 args,iE R0,0,⟨0,aX + R0.length⟩⟩) : Qo P k args R0 r hh := pY hf hb hN h
theorem Il {P:Program}{k:FuncId}{fn:Func}{c:Code}{args:List AV}{R1:List (List Bool)}{r:AV}(hf:P.funcs[k]? = some fn) (hb:fn.body = some c) (hN:args.length ≤ fn.ntmps)
  (h : AW P fn.ntmps c (o9 P fn.results (fun r' H' => r' = r ∧ ∀ id cs,aU (iE R1) id = some cs → H' id = some cs)) ⟨iZ 0 args,[],0,⟨0,aX⟩⟩) : RF P k args r R1 := pY hf hb hN h
theorem Le.virt {ts:List (Nat × AV)}{hs:List (Nat × Option (List AV))}{n:Nat}{z0:Lo}(hn:n < aX):Le ⟨ts,hs,n,z0⟩ ⟨ts,(n,some []) :: hs,n + 1,z0⟩:=by
 rintro C a w ⟨h0,ι,g,gh⟩
 obtain ⟨g1,c1⟩ := gh.virt (id := n) ⟨Nat.le_refl _,.inl hn⟩
 have e : aU ((n,some []) :: hs) = e5 (aU hs) n (some []) := BX _ _ _
 refine ⟨h0,e5 ι n (some none),?_,?_⟩
 ·show TG C _ (lk ts) (aU ((n, some []) :: hs)) a w
  rw [e]; exact g.carry c1
 ·show HG C _ _ (aU ((n, some []) :: hs)) w
  rw [e]
  refine (g1.less (fun _ _ h => h) (fun j hj => ?_)).1
  have h1 : n + 1 ≤ j := hj.1
  exact ⟨⟨by show n ≤ j;omega,hj.2⟩,by omega⟩
theorem Le.cellsN {ts:List (Nat × AV)}{hs:List (Nat × Option (List AV))}{n:Nat}{z0:Lo}{i q:Nat}{cs cs' cq:List AV}(hi:aU hs i = some cs) (hq:aU hs q = some cq) (hl:cs'.length = cs.length)
  (h : ∀ (w : World) (bad : Nat → Prop) (ι : Pl) (b β : Nat),(∃ p,ι q = some p) → RdC w bad ι cs b β → RdC w bad ι cs' b β) :
  Le ⟨ts,hs,n,z0⟩ ⟨ts,(i,some cs') :: hs,n,z0⟩ := by
 rintro C a w ⟨h0,ι,g,gh⟩
 have hqq : ∃ p, ι q = some p := by
  rcases gh.obj q cq hq with ⟨p1,_⟩ | ⟨_,_,_,_,p1,_⟩ <;> exact ⟨_,p1⟩
 have hk : ∀ id c, aU ((i, some cs') :: hs) id = some c → (id = i ∧ c = cs') ∨ (id ≠ i ∧ aU hs id = some c) := by
  intro id c hc
  rw [cS] at hc
  split at hc
  ·rename_i e;cases hc;exact .inl ⟨e,rfl⟩
  ·rename_i e;exact .inr ⟨fun h => e h,hc⟩
 have hk2 : ∀ id c, aU hs id = some c → ∃ c', aU ((i, some cs') :: hs) id = some c' := by
  intro id c hc
  rw [cS]
  split
  ·exact ⟨_,rfl⟩
  ·exact ⟨_,hc⟩
 have hb : aL C.X ι (aU ((i, some cs') :: hs)) = aL C.X ι (aU hs) := by
  funext b
  refine propext ⟨?_,?_⟩
  ·rintro (h | ⟨id, c, β, h1, h2⟩)
   ·exact .inl h
   ·rcases hk id c h1 with ⟨rfl, _⟩ | ⟨_, h3⟩
    ·exact .inr ⟨_,_,_,hi,h2⟩
    ·exact .inr ⟨_,_,_,h3,h2⟩
  ·rintro (h | ⟨id, c, β, h1, h2⟩)
   ·exact .inl h
   ·obtain ⟨c', h3⟩ := hk2 id c h1
    exact .inr ⟨_,_,_,h3,h2⟩
 refine ⟨h0,ι,⟨g.df,g.sz,fun t av ht => ?_⟩,?_,?_,gh.fr,gh.ex,gh.fresh⟩
 ·show ∃ y, a.tmps[t]? = some y ∧ Rd w (aL C.X ι (aU ((i, some cs') :: hs))) ι av y
  rw [hb]; exact g.tm t av ht
 ·intro id c hc
  show _ ∨ ∃ b β arr e,ι id = some (some (b,β)) ∧ w.heap[b]? = some (.cells arr e (0,0)) ∧ β + c.length ≤ arr.size ∧ RdC w (aL C.X ι (aU ((i,some cs') :: hs))) ι c b β ∧ ¬ C.X b ∧ (C.W0 b ∨ C.w0.heap.size ≤ b)
  rw [hb]
  rcases hk id c hc with ⟨rfl,rfl⟩ | ⟨_,h3⟩
  ·rcases gh.obj _ _ hi with ⟨q1, q2⟩ | ⟨b, β, arr, e, q1, q2, q3, q4, q5⟩
   ·subst q2
    exact .inl ⟨q1,List.eq_nil_of_length_eq_zero hl⟩
   ·exact .inr ⟨b,β,arr,e,q1,q2,by rw [hl]; exact q3,h _ _ _ _ _ hqq q4,q5⟩
  ·exact gh.obj _ _ h3
 ·intro id id' c c' b β β' h1 h2 h3 h4
  obtain ⟨d1, e1⟩ : ∃ d, aU hs id = some d := by
   rcases hk id c h1 with ⟨rfl,_⟩ | ⟨_,h⟩
   ·exact ⟨_,hi⟩
   ·exact ⟨_,h⟩
  obtain ⟨d2, e2⟩ : ∃ d, aU hs id' = some d := by
   rcases hk id' c' h2 with ⟨rfl,_⟩ | ⟨_,h⟩
   ·exact ⟨_,hi⟩
   ·exact ⟨_,h⟩
  exact gh.sep id id' d1 d2 b β β' e1 e2 h3 h4
theorem tX {w:World}{bad:Nat → Prop}{ι:Pl}{c c':AV}(hc:∀ y,Rd w bad ι c y → Rd w bad ι c' y):∀ (a:List AV) (r:List AV) (b o:Nat),RdC w bad ι (a ++ c :: r) b o → RdC w bad ι (a ++ c' :: r) b o
 | [], r, b, o, h => by
  simp only [List.nil_append,RdC] at h ⊢
  obtain ⟨⟨x,h1,h2,h3⟩,h4⟩ := h
  exact ⟨⟨x,h1,h2,hc _ h3⟩,h4⟩
 | x :: a, r, b, o, h => by
  simp only [List.cons_append,RdC] at h ⊢
  exact ⟨h.1,tX hc a r b (o + 1) h.2⟩
theorem Le.nilCell {ts:List (Nat × AV)}{hs:List (Nat × Option (List AV))}{n:Nat}{z0:Lo}{i:Nat}(e:Nat) (c1:List AV){c2:List AV}(hi:aU hs i = some (c1 ++ .v (.slice none 0 0) :: c2)) (hin:i ≠ n) (hn:n < aX) :
  Le ⟨ts,hs,n,z0⟩ ⟨ts,(i,some (c1 ++ .own n 0 0 e :: c2)) :: (n,some []) :: hs,n + 1,z0⟩ :=
 (Le.virt hn).trans (Le.cellsN (q := n) (cs := c1 ++ .v (.slice none 0 0) :: c2) (by rw [cS, if_neg hin]; exact hi) (by rw [cS, if_pos rfl]) (by simp) fun w bad ι b β hp hr =>
  tX (fun y hy => by simp only [Rd] at hy ⊢; exact .inl ⟨hp,trivial,none,hy⟩) c1 c2 b β hr)
theorem Le.frzC {ts:List (Nat × AV)}{hs:List (Nat × Option (List AV))}{n:Nat}{z0:Lo}{j i m e:Nat}(c1:List AV){c2 d:List AV}(hj:aU hs j = some (c1 ++ .own i 0 m e :: c2)) (hi:aU hs i = some d) (hij:j ≠ i) :
  Le ⟨ts,hs,n,z0⟩ ⟨ts,(j,some (c1 ++ .imm m d :: c2)) :: (i,none) :: hs,n,z0⟩ := by
 rintro C a w ⟨h0,ι,g,gh⟩
 have hk : ∀ id c, aU ((j, some (c1 ++ .imm m d :: c2)) :: (i, none) :: hs) id = some c → (id = j ∧ c = c1 ++ .imm m d :: c2) ∨ (id ≠ j ∧ id ≠ i ∧ aU hs id = some c) := by
  intro id c hc
  rw [cS] at hc
  split at hc
  ·rename_i e;cases hc;exact .inl ⟨e,rfl⟩
  ·rename_i e
   rw [cS] at hc
   split at hc
   ·cases hc
   ·rename_i e2;exact .inr ⟨e,e2,hc⟩
 have hk2 : ∀ id c, aU ((j, some (c1 ++ .imm m d :: c2)) :: (i, none) :: hs) id = some c → id ≠ i ∧ ∃ c', aU hs id = some c' := by
  intro id c hc
  rcases hk id c hc with ⟨rfl,_⟩ | ⟨_,h2,h3⟩
  ·exact ⟨hij,_,hj⟩
  ·exact ⟨h2,_,h3⟩
 have hbad : ∀ b, aL C.X ι (aU ((j, some (c1 ++ .imm m d :: c2)) :: (i, none) :: hs)) b → aL C.X ι (aU hs) b := by
  rintro b (h | ⟨id,c,β,h1,h2⟩)
  ·exact .inl h
  ·obtain ⟨_, c', h3⟩ := hk2 id c h1
   exact .inr ⟨id,c',β,h3,h2⟩
 have car : Carry w (aL C.X ι (aU hs)) ι w (aL C.X ι (aU ((j,some (c1 ++ .imm m d :: c2)) :: (i,none) :: hs))) ι := ⟨fun b o x h1 h2 => ⟨fun q => h1 (hbad b q),h2⟩,fun _ _ h => h,fun _ => Nat.le_refl _⟩
 have hcell : ∀ y, Rd w (aL C.X ι (aU ((j, some (c1 ++ .imm m d :: c2)) :: (i, none) :: hs))) ι (.own i 0 m e) y → Rd w (aL C.X ι (aU ((j, some (c1 ++ .imm m d :: c2)) :: (i, none) :: hs))) ι (.imm m d) y := by
  intro y hr
  simp only [Rd] at hr ⊢
  rcases hr with ⟨_,h2,a',h3⟩ | ⟨b,β,c,h1,h2,h3,h4⟩
  ·subst h2;exact ⟨a',0,h3,.inl rfl⟩
  ·refine ⟨_, c, h2, ?_⟩
   rcases Nat.eq_zero_or_pos m with h5|h5
   ·exact .inl h5
   ·refine .inr ⟨b, β + 0, h3, rfl, ?_⟩
    rcases gh.obj i d hi with ⟨q1,q2⟩ | ⟨b',β',arr,e',q1,q2,q3,q4,q5,q6⟩
    ·rw [h1] at q1;cases q1
    ·rw [h1] at q1; cases q1
     refine .inr ⟨?_,RdC.carryB car _ _ _ (fun o x hx => hx) q4⟩
     rintro (h | ⟨id',cs',β',r1,r2⟩)
     ·exact q5 h
     ·obtain ⟨r3, c', r4⟩ := hk2 id' cs' r1
      exact r3 (gh.sep _ _ _ _ _ _ _ r4 hi r2 h1)
 refine ⟨h0,ι,g.carry car,⟨fun id c hc => ?_,fun id id' c c' b β β' h1 h2 h3 h4 => ?_,gh.fr,gh.ex,gh.fresh⟩⟩
 ·rcases hk id c hc with ⟨rfl, rfl⟩ | ⟨_, _, h3⟩
  ·rcases gh.obj _ _ hj with ⟨q1, q2⟩ | ⟨b, β, arr, e, q1, q2, q3, q4, q5⟩
   ·simp at q2
   ·exact .inr ⟨b,β,arr,e,q1,q2,by simpa using q3,tX hcell c1 c2 b β (RdC.carryB car _ _ _ (fun o x hx => hx) q4),q5⟩
  ·rcases gh.obj _ _ h3 with ⟨q1, q2⟩ | ⟨b, β, arr, e, q1, q2, q3, q4, q5⟩
   ·exact .inl ⟨q1,q2⟩
   ·exact .inr ⟨b,β,arr,e,q1,q2,q3,RdC.carryB car _ _ _ (fun o x hx => hx) q4,q5⟩
 ·obtain ⟨_, d1, e1⟩ := hk2 id c h1
  obtain ⟨_,d2,e2⟩ := hk2 id' c' h2
  exact gh.sep id id' d1 d2 b β β' e1 e2 h3 h4
theorem Jd {R:List (List Bool)}{hs hs':List (Nat × Option (List AV))}{k m:Nat}(hF:FamR R R hs hs') (hk:k < R.length) (hm:m = R[k]!.length):sCells (aU hs) 1 (rH (.own (k + aX) 0 m 1)) = some (m,flat cB R[k]!):=by
 subst hm
 have hl : (flat cB R[k]!).length = R[k]!.length * 1 := aI cB _
 show (aU hs (k + aX)).bind (fun cs => if R[k]!.length * 1 ≤ (cs.drop 0).length then some (R[k]!.length,(cs.drop 0).take (R[k]!.length * 1)) else none) = _
 rw [hF.get hk,Option.bind_some,List.drop_zero,if_pos (by omega),List.take_of_length_le (by omega)]
theorem zF {cs:List AV}{v:Nat}{c:AV}:hZ cs (0 + v * 1) [c] = cs.take v ++ c :: cs.drop (v + 1):=by
 unfold hZ;simp
theorem LD {u:List (List Bool)}{v:Nat}{r:List Bool}(hv:v < u.length):(flat gQ u).take v ++ .imm r.length (flat cB r) :: (flat gQ u).drop (v + 1) = flat gQ (u.set v r):=by
 have h := Ey (xs := u) (k := v) (r := r) hv
 rw [zF] at h;exact h
theorem Le.frzRow {ts:List (Nat × AV)}{hs:List (Nat × Option (List AV))}{n:Nat}{z0:Lo}{j q v m:Nat}{u:List (List Bool)}{r:List Bool}(hj:aU hs j = some (hZ (flat gQ u) (0 + v * 1) [.own q 0 m 1])) (hq:aU hs q = some (flat cB r)) (hm:m = r.length) (hv:v < u.length) (hjq:j ≠ q) :
  Le ⟨ts,hs,n,z0⟩ ⟨ts,(j,some (flat gQ (u.set v r))) :: (q,none) :: hs,n,z0⟩ := by
 subst hm
 rw [zF] at hj
 have h := Le.frzC (ts := ts) (n := n) (z0 := z0) ((flat gQ u).take v) hj hq hjq
 rwa [LD hv] at h
theorem Le.fdrop {ts:List (Nat × AV)}{hs:List (Nat × Option (List AV))}{n:Nat}{z0:Lo}{k:Nat}{R:List (List Bool)}(hF:FamR R R hs hs) (hk:k < R.length):Le ⟨ts,(k + aX,some (flat cB R[k]!)) :: hs,n,z0⟩ ⟨ts,hs,n,z0⟩:=by
 refine Le.of (fun _ _ h => h) (fun i cs h => ?_) (Nat.le_refl _) rfl
 have h' : aU hs i = some cs := h
 show aU ((k + aX,some (flat cB R[k]!)) :: hs) i = some cs
 rw [cS]
 split
 ·rename_i e;subst e;rw [hF.get hk] at h'; exact h'
 ·exact h'
theorem QM {i k:Nat}(hi:Nat.blt i aX = true):distinct [i,k + aX] = true:=by
 have h1 := dG hi
 have : Nat.beq i (k + aX) = false := by
  cases h : Nat.beq i (k + aX) with
  | false => rfl
  | true => have := Nat.eq_of_beq_eq_true h;omega
 simp only [distinct,List.all_cons,List.all_nil,this]; rfl
structure Hid (T : Prop) : Prop where pf : T
theorem cut {G:Prop}{T:Prop}(key:T) (main:Hid T → G):G := main ⟨key⟩
structure Hy (T : Prop) : Prop where pf : T
theorem RH:(∀ a b:Bool,((a && b) = true) = (a = true ∧ b = true)) ∧ (∀ a b:Bool,((a && b) = false) ↔ (a = false ∨ b = false)) ∧ (∀ a b:Bool,((a || b) = true) = (a = true ∨ b = true)) ∧ (∀ a b:Bool,((a || b) = false) ↔ (a = false ∧ b = false)) ∧
  (∀ (p : Prop) [Decidable p],(decide p = true) = p) ∧ (∀ (p : Prop) [Decidable p],(decide p = false) ↔ ¬ p) ∧ (∀ a : Bool,((!a) = true) ↔ a = false) ∧ (∀ a : Bool,((!a) = false) ↔ a = true) ∧ ((!true) = false) ∧ ((!false) = true) ∧ (∀ a b : Int,¬ a < b ↔ b ≤ a) ∧ (∀ a b : Int,¬ a ≤ b ↔ b < a) :=
 ⟨fun a b => Bool.and_eq_true a b,fun a b => Bool.and_eq_false_iff,fun a b => Bool.or_eq_true a b,fun a b => Bool.or_eq_false_iff,fun p _ => by simp,fun p _ => decide_eq_false_iff_not,fun a => by simp,fun a => by simp,rfl,rfl,fun _ _ => Int.not_lt,fun _ _ => Int.not_le⟩
theorem gE:(∀ {α:Type}(a b:List α),(a ++ b).length = a.length + b.length) ∧ (∀ {α:Type}(a:α) (b:List α),(a :: b).length = b.length + 1) ∧ (∀ {α:Type},([]:List α).length = 0) ∧ (∀ {α:Type}(a:List α) (i:Nat) (x:α),(a.set i x).length = a.length) ∧ (∀ {α:Type}(i:Nat) (a:List α),(a.take i).length = min i a.length) ∧
  (∀ {α β : Type} (f : α → β) (a : List α),(a.map f).length = a.length) ∧ (∀ {α : Type} (n : Nat) (a : α),(List.replicate n a).length = n) ∧ (∀ (l : List Stmt) (b : Nat),(gJ b l).length = dH l) ∧ (∀ n : Nat,n * 1 = n) ∧ (∀ n : Nat,0 + n = n) ∧ (∀ n : Nat,n + 0 = n) :=
 ⟨fun _ _ => List.length_append,fun _ _ => rfl,rfl,fun _ _ _ => List.length_set,fun _ _ => List.length_take,fun _ _ => List.length_map _,fun _ _ => List.length_replicate,b0,Nat.mul_one,Nat.zero_add,Nat.add_zero⟩
theorem bE {α:Type}{p q r:α → Prop}(x:α) (h3:r x) (h1:p x) (h2:q x):∃ x,p x ∧ q x ∧ r x := ⟨x,h1,h2,h3⟩
theorem RZ {G K:Prop}(k:K) (h:Hy K → G := by first|(intro k;(first|((with_reducible apply Hf);(case hx => rfl);(case hH => rfl);(case hf => infer_instance);(case hg => infer_instance);(case hα => infer_instance);(case hk => omega);(case hc => rfl);(case hN => rfl)) | ((with_reducible apply GA);(case hx => rfl);(case hH => rfl);(case hf => infer_instance);(case hg => infer_instance);(case hα => infer_instance);(case hk => omega);(case hc => rfl);(case hN => rfl)) | ((with_reducible apply Gj);(case hx => rfl);(case hH => rfl);(case hf => infer_instance);(case hg => infer_instance);(case hα => infer_instance);(case hk => omega);(case h0 => rfl);(case hN => rfl)) | ((with_reducible apply Ju);(case hx => rfl);(case hd => rfl);(case hc => rfl);(case hN => rfl)) | ((with_reducible apply JD);(case hx => rfl);(case hd => rfl);(case hc => (first|exact (rfl:_ = [_]) | exact (rfl:_ = [_,_]) | exact (rfl:_ = [_,_,_]) | exact (rfl:_ = [_,_,_,_]) | exact (rfl:_ = [_,_,_,_,_]) | exact (rfl:_ = [_,_,_,_,_,_]) | exact (rfl:_ = [_,_,_,_,_,_,_]) | exact (rfl:_ = [_,_,_,_,_,_,_,_]) | rfl));(case hn => rfl);(case h0 => rfl);(case hN => rfl)) | ((with_reducible apply CR);(case hx => rfl);(case hl => first|assumption | omega | (simp only [gE,List.length_drop] <;> omega));(case h0 => rfl);(case hN => rfl)) | ((with_reducible apply Cv);(case hx => rfl);(case hH => rfl);(case hl => first|assumption | omega | (simp only [gE] <;> omega) | rfl);(case h0 => rfl);(case hN => rfl)) | ((with_reducible apply B2);(case hx => rfl);(case hH => rfl);(case hl => first|assumption | omega | (simp only [gE] <;> omega) | rfl);(case h0 => rfl);(case hN => rfl)) | ((with_reducible apply FV);(case hx => rfl);(case hH => rfl);(case ho => first|exact RX | exact RO);(case hq => first|assumption | omega | (simp only [gE] <;> omega));(case hN => rfl)));exact k.pf) | fail):G := h ⟨k⟩
theorem RJ {G K:Prop}(k:K) (h:Hy K → G := by first|(intro k;(first|((with_reducible apply Hi);(case hj => rfl);(case hb => rfl);(case hN => rfl)) | ((with_reducible apply FT);(case hj => rfl);(case hb => rfl);(case hN => rfl);(case hw => first|rfl | assumption)) | ((with_reducible apply DJ);(case hj => rfl);(case hb => rfl);(case hN => rfl);(case hw => first|rfl | assumption)) );exact k.pf) | fail):G := h ⟨k⟩
theorem RP {G K:Prop}(k:K) (h:Hy K → G := by first|(intro k;(first|((with_reducible apply Nu);(case hx => rfl);(case hy => rfl);(case h => rfl);(case hN => rfl)) | ((with_reducible apply O1);(case hx => rfl);(case hy => rfl);(case hk => infer_instance);(case ha => infer_instance);(case hb => infer_instance);(case hN => rfl)) | ((with_reducible apply KZ);(case hx => rfl);(case hy => rfl);(case hk => infer_instance);(case ha => infer_instance);(case hN => rfl)) | ((with_reducible apply Lq);(case hx => rfl);(case hy => rfl);(case hk => infer_instance);(case ha => infer_instance);(case hb => infer_instance);(case hN => rfl)) | ((with_reducible apply Lx);(case hx => rfl);(case hy => rfl);(case hk => infer_instance);(case ha => infer_instance);(case hb => infer_instance);(case hN => rfl)) | ((with_reducible apply MY);(case hx => rfl);(case hy => rfl);(case hk => infer_instance);(case ha => infer_instance);(case h => omega);(case hN => rfl)) | ((with_reducible apply N6);(case hx => rfl);(case hy => rfl);(case h => omega);(case hN => rfl)) | ((with_reducible apply Pn);(case hx => rfl);(case hy => rfl);(case h => omega);(case hN => rfl)) | ((with_reducible apply PW);(case hx => rfl);(case hy => rfl);(case h => omega);(case h' => omega);(case hN => rfl))  | ((with_reducible apply OZ);(case hx => rfl);(case hy => rfl);(case h => omega);(case hN => rfl)) | ((with_reducible apply OV);(case hx => rfl);(case hy => rfl);(case h => omega);(case hN => rfl)) | ((with_reducible apply Py);(case hx => rfl);(case hy => rfl);(case h => omega);(case hN => rfl)) | ((with_reducible apply Oz);(case hx => rfl);(case hy => rfl);(case h => rfl);(case hN => rfl)));exact k.pf) | fail):G := h ⟨k⟩
theorem RV {G K:Prop}(k:K) (h:Hy K → G := by first|(intro k;(first|((with_reducible apply wA);(case hx => rfl);(case hi => rfl);(case hm => (first|assumption | omega));(case hml => (first|rfl|assumption|omega));(case hα => infer_instance);(case hf => infer_instance);(case hg => infer_instance);(case hN => rfl)) | ((with_reducible apply Eg);(case hx => rfl);(case hi => rfl);(case hm => (first|assumption | omega));(case hN => rfl)) | ((with_reducible apply y7);(case hx => rfl);(case hi => rfl);(case hm => (first|assumption | omega | exact ⟨Int.emod_nonneg _ (by omega),Int.emod_lt_of_pos _ (by omega)⟩));(case hml => (first|rfl|assumption|omega));(case hα => infer_instance);(case hf => infer_instance);(case hg => infer_instance);(case hN => rfl)) | ((with_reducible apply GY);(case hx => rfl);(case hi => rfl);(case hm => (first|assumption | omega | exact ⟨Int.emod_nonneg _ (by omega),Int.emod_lt_of_pos _ (by omega)⟩));(case hN => rfl)) | ((with_reducible apply Bj);(case hx => rfl);(case hi => rfl);(case hm => first|omega | assumption);(case hp => rfl);(case hN => rfl)) | ((with_reducible apply Es);(case hx => rfl);(case hi => rfl);(case hm => first|omega | assumption);(case hN => rfl)));exact k.pf) | fail):G := h ⟨k⟩
theorem RU {G K:Prop}(k:K) (h:Hy K → G := by first|(intro k;(first|((with_reducible apply Px);(case hx => rfl);(case hn => rfl);(case hN => rfl)) | ((with_reducible apply MU);(case hx => rfl);(case hN => rfl)) | ((with_reducible apply bX);(case hx => rfl);(case hy => rfl);(case hze => rfl);(case he0 => rfl);(case hH => rfl);(case hl => first|(rw [aI]; omega) | (rw [aI]; simp only [gE] <;> omega) | (simp [aI]; done) | decide | (simp;omega));(case hs' => first|rfl | exact Oc (by (first|rfl | assumption | omega)));(case hbig => omega);(case hmx => omega);(case hcs => first|exact CI (by (first|assumption | omega | (simp only [gE] <;> omega) | decide)) | exact pN (by (first|assumption | omega | (simp only [gE] <;> omega) | decide)) | exact Lm (by (first|assumption | omega | (simp only [gE] <;> omega) | decide)) | exact H6 (by (first|assumption | omega | (simp only [gE] <;> omega) | decide)) | exact Ka (by (first|assumption | omega | (simp only [gE] <;> omega) | decide)) | exact Lh (by (first|assumption | omega | (simp only [gE] <;> omega) | decide)) | exact M6 (by (first|assumption | omega | (simp only [gE] <;> omega) | decide))   | exact (rfl:_ = [_]) | exact (rfl:_ = [_,_]) | exact (rfl:_ = [_,_,_]) | exact (rfl:_ = [_,_,_,_]) | exact (rfl:_ = [_,_,_,_,_]) | exact (rfl:_ = [_,_,_,_,_,_]) | exact (rfl:_ = [_,_,_,_,_,_,_]) | exact (rfl:_ = [_,_,_,_,_,_,_,_]) | rfl);(case hM => rfl);(case hN => rfl)));exact k.pf) | fail):G := h ⟨k⟩
theorem RN {G K:Prop}(k:K) (h:Hy K → G := by first|(intro k;(first|((with_reducible apply F3);(case hl => rfl);(case hf => (first|exact (rfl:_ = some [_]) | exact (rfl:_ = some [_,_]) | exact (rfl:_ = some [_,_,_]) | exact (rfl:_ = some [_,_,_,_]) | exact (rfl:_ = some [_,_,_,_,_]) | exact (rfl:_ = some [_,_,_,_,_,_]) | exact (rfl:_ = some [_,_,_,_,_,_,_]) | exact (rfl:_ = some [_,_,_,_,_,_,_,_]) | rfl));(case hk => (first|exact (rfl:_ = [_]) | exact (rfl:_ = [_,_]) | exact (rfl:_ = [_,_,_]) | exact (rfl:_ = [_,_,_,_]) | exact (rfl:_ = [_,_,_,_,_]) | exact (rfl:_ = [_,_,_,_,_,_]) | exact (rfl:_ = [_,_,_,_,_,_,_]) | exact (rfl:_ = [_,_,_,_,_,_,_,_]) | rfl));(case hN => rfl)) | ((with_reducible apply mT);(case hl => rfl);(case hf => (first|exact (rfl:_ = some [_]) | exact (rfl:_ = some [_,_]) | exact (rfl:_ = some [_,_,_]) | exact (rfl:_ = some [_,_,_,_]) | exact (rfl:_ = some [_,_,_,_,_]) | exact (rfl:_ = some [_,_,_,_,_,_]) | exact (rfl:_ = some [_,_,_,_,_,_,_]) | exact (rfl:_ = some [_,_,_,_,_,_,_,_]) | rfl));(case hN => rfl)));exact k.pf) | fail):G := h ⟨k⟩
theorem RQ {G K:Prop}(k:K) (h:Hy K → G := by first|(intro k;(first|((with_reducible apply oO);(case hze => rfl);(case hsm => rfl);(case hl => rfl);(case hfl => (first|exact (rfl:_ = some [_]) | exact (rfl:_ = some [_,_]) | exact (rfl:_ = some [_,_,_]) | exact (rfl:_ = some [_,_,_,_]) | exact (rfl:_ = some [_,_,_,_,_]) | exact (rfl:_ = some [_,_,_,_,_,_]) | exact (rfl:_ = some [_,_,_,_,_,_,_]) | exact (rfl:_ = some [_,_,_,_,_,_,_,_]) | rfl));(case hM => rfl);(case hN => rfl)) | ((with_reducible apply oJ);(case hx => rfl);(case hy => rfl);(case hze => rfl);(case hsm => omega);(case hmx => omega);(case hcs => first|exact OP | exact Mi | exact IV | exact EW | rfl);(case hM => rfl);(case hN => rfl)));exact k.pf) | fail):G := h ⟨k⟩
theorem R5 {G K:Prop}(k:K) (h:Hy K → G := by first|(intro k;(first|((with_reducible apply bF);(case hx => rfl);(case hy => rfl);(case hc => rfl);(case hn => rfl);(case hH => rfl);(case hl => (first|decide|(rw [aI]; simp only [gE] <;> omega)|omega|(simp;done)|(simp;omega)));(case hcs => first|exact O8 (by (first|assumption | omega | (simp only [gE] <;> omega) | decide)) | exact QR (by (first|assumption | omega | (simp only [gE] <;> omega) | decide)) | exact QG (by (first|assumption | omega | (simp only [gE] <;> omega) | decide)) | exact Qw (by (first|assumption | omega | (simp only [gE] <;> omega) | decide)) | exact Ey (by (first|assumption | omega | (simp only [gE] <;> omega) | decide)) | exact I4 (by (first|assumption | omega | (simp only [gE] <;> omega) | decide)) | exact KQ (by (first|assumption | omega | (simp only [gE] <;> omega) | decide)) | exact Pj (by (first|assumption | omega | (simp only [gE] <;> omega) | decide)) | exact Ex (by (first|assumption | omega | (simp only [gE] <;> omega) | decide)) | exact Ku (by (first|assumption | omega | (simp only [gE] <;> omega) | decide))   | exact zC (by (first|assumption | omega | (simp only [gE] <;> omega) | decide))  | exact (rfl:_ = [_]) | exact (rfl:_ = [_,_]) | exact (rfl:_ = [_,_,_]) | exact (rfl:_ = [_,_,_,_]) | exact (rfl:_ = [_,_,_,_,_]) | exact (rfl:_ = [_,_,_,_,_,_]) | exact (rfl:_ = [_,_,_,_,_,_,_]) | exact (rfl:_ = [_,_,_,_,_,_,_,_]) | rfl)) | ((with_reducible apply CT);(case hx => rfl);(case hy => rfl);(case hH => rfl);(case hl => first|assumption | omega | (simp only [gE] <;> omega));(case hc => first|rfl | (rw [fD]; first|assumption | (simp only [gE] <;> omega)))));exact k.pf) | fail):G := h ⟨k⟩
theorem HJ {G K:Prop}(k:K) (h:Hy K → G := by first|(intro k;(first|((with_reducible apply aF);first|((with_reducible apply Mg);(case hx => rfl);(case hN => rfl)) | ((with_reducible apply Ll);refine RZ ?_) | ((with_reducible apply AG);(case hx => rfl);(case hp => rfl);(case hN => rfl)) | ((with_reducible apply Q0);refine RJ ?_) | ((with_reducible apply Oy);refine RP ?_) | ((with_reducible apply yB);(case hx => rfl);(case hN => rfl)) | ((with_reducible apply Mr);first|((with_reducible apply Iw);(case hc => rfl);(case hb => first|rfl | assumption);(case hx => rfl);(case hN => rfl)) | ((with_reducible apply Jo);(case hc => rfl);(case hb => first|rfl | assumption);(case hx => rfl);(case hN => rfl))) | ((with_reducible apply PG);refine RV ?_) | ((with_reducible apply Ra);refine RU ?_) | ((with_reducible apply PN);(case hf => kernel_rfl)) | ((with_reducible apply K8);first|((with_reducible apply y1);(case hx => rfl);(case h => first|exact NQ _ | omega);(case hN => rfl)) ) | ((with_reducible apply QU);first|((with_reducible apply DT);(case hx => rfl);(case hi => rfl);(case hl => first|assumption | omega | (simp only [gE] <;> omega));(case hm => omega);(case hN => rfl))) | ((with_reducible apply Ok);refine RN ?_) | ((with_reducible apply PX);first|((with_reducible apply Hc);(case hx => rfl);(case hf => infer_instance);(case hl => rfl);(case hh => rfl);(case hb => first|omega | (simp only [List.length_take,List.length_drop,Int.toNat_natCast]; omega));(case hN => rfl))) | ((with_reducible apply mX);(case hf => rfl);(case hc => rfl);(case hN => rfl)) | ((with_reducible apply ON);(case hx => rfl);(case hN => rfl)) | ((with_reducible apply OR);(case hx => rfl);(case hp => rfl);(case hN => rfl)) | ((with_reducible apply PQ);(case hx => rfl);(case hc => rfl);(case hM => rfl);(case hN => rfl)) | ((with_reducible apply Kn);(case hM => rfl);(case hN => rfl)) | ((with_reducible apply Dx);(case hx => rfl);(case hc => rfl);(case hN => rfl)) | refine RQ ?_ | refine R5 ?_));exact k.pf) | fail):G := h ⟨k⟩
theorem RM {G K:Prop}(k:K) (h:Hy K → G := by first|(intro k;(first|((with_reducible apply EV);first|with_reducible apply P5 | with_reducible apply FN | ((with_reducible apply Kx);(case hc => rfl);(case hb => first|rfl | assumption)) | ((with_reducible apply IG);(case hc => rfl);(case hb => first|rfl | assumption)) | with_reducible apply KI | with_reducible apply MD | with_reducible apply MG | with_reducible apply Qd ) | with_reducible apply GF | with_reducible apply N3 | with_reducible apply Lg | with_reducible apply GS | with_reducible apply PY | with_reducible apply MF | ((with_reducible apply bq_out);(case hij => decide)));exact k.pf) | fail):G := h ⟨k⟩
theorem aK {G c1 q1 c2 q2 K1 K2:Prop}(k1:c1 → q1 → K1) (k2:c2 → q2 → K2) (h:Hy (c1 → q1 → K1) → Hy (c2 → q2 → K2) → G := by first|(intro k1 k2;(with_reducible apply EV);(with_reducible apply AB);(case hc => rfl);(intro hc;have hq := hc;(try simp only [RH] at hq);first|exact k1.pf hc hq | exact k1.pf hc trivial);(intro hc;have hq := hc;(try simp only [RH] at hq);first|exact k2.pf hc hq | exact k2.pf hc trivial)) | fail):G := h ⟨k1⟩ ⟨k2⟩
theorem bS {G c1 q1 c2 q2 K1 K2:Prop}(k1:c1 → q1 → K1) (k2:c2 → q2 → K2) (h:Hy (c1 → q1 → K1) → Hy (c2 → q2 → K2) → G := by first|(intro k1 k2;(with_reducible apply aF);(with_reducible apply Q0);(with_reducible apply GW);(case hj => rfl);(case hb => rfl);(case hN => rfl);(intro hc;have hq := hc;(try simp only [RH] at hq);first|exact k1.pf hc hq | exact k1.pf hc trivial);(intro hc;have hq := hc;(try simp only [RH] at hq);first|exact k2.pf hc hq | exact k2.pf hc trivial)) | fail):G := h ⟨k1⟩ ⟨k2⟩
theorem bQ {G K:Prop}(k:K) (h:Hy K → G := by first|(intro k;(with_reducible apply EV);(with_reducible apply L5);(case hm => kernel_rfl);exact k.pf) | fail):G := h ⟨k⟩
theorem dC {G K:Prop}(k:K) (h:Hy K → G := by first|(intro k;(with_reducible apply aD);(case hr => rfl);exact k.pf) | fail):G := h ⟨k⟩
theorem Cm {ts:List (Nat × AV)}:pW [] ts = [] := rfl
theorem xV {k:Nat}{v:AV}{ks:List Nat}{ts kt:List (Nat × AV)}(h:lk ts k = some v) (h2:pW ks ts = kt):pW (k :: ks) ts = (k,v) :: kt:=by
 subst h2;simp [pW,h]
theorem BZ {hs:List (Nat × Option (List AV))}:rI [] hs = [] := rfl
theorem yA {k:Nat}{v:List AV}{ks:List Nat}{hs kh:List (Nat × Option (List AV))}(h:aU hs k = some v) (h2:rI ks hs = kh):rI (k :: ks) hs = (k,some v) :: kh:=by
 subst h2;simp [rI,h]
section
variable {P : Program} {N : Nat} {Q : Exit → AS → Prop} {σ : Type} {c : Code} {ts : List (Nat × AV)} {hs : List (Nat × Option (List AV))} {n : Nat} {z0 : Lo}
theorem aH (ks js:List Nat){kt:List (Nat × AV)}{kh:List (Nat × Option (List AV))}(ot:σ → List (Nat × AV)) (oh:σ → List (Nat × Option (List AV))) (p:σ → Prop) (μ:σ → Nat) (i0:σ) (h0:p i0)
  (round : ∀ i,p i → AW P N c (qE (fun s' => ∃ j,p j ∧ μ j < μ i ∧ Le s' ⟨ot j ++ kt,oh j ++ kh,n,z0⟩) Q) ⟨ot i ++ kt,oh i ++ kh,n,z0⟩)
  (hk : pW ks ts = kt := by repeat' (first|exact Cm|(apply xV;rfl))) (hj : rI js hs = kh := by repeat' (first|exact BZ|(apply yA;rfl)))
  (h1 : qR ts (ot i0) := by repeat' (first|exact trivial|refine And.intro rfl ?_)) (h2 : oG hs (oh i0) := by repeat' (first|exact trivial|refine And.intro (.inr rfl) ?_)) : AW P N (.loop c) Q ⟨ts,hs,n,z0⟩ :=
 HW ks kt js kh ot oh p μ i0 h0 hk hj h1 h2 round
theorem dM (Rf:σ → List (List Bool)) (ks js:List Nat){kt:List (Nat × AV)}{kh:List (Nat × Option (List AV))}(ot:σ → List (Nat × AV)) (oh:σ → List (Nat × Option (List AV))) (p:σ → Prop) (μ:σ → Nat) (i0:σ) (h0:p i0)
  (round : ∀ i,p i → AW P N c (qE (fun s' => ∃ j,p j ∧ μ j < μ i ∧ Le s' ⟨ot j ++ kt,(oh j ++ kh) ++ iE (Rf j),n,⟨0,aX + (Rf j).length⟩⟩) Q) ⟨ot i ++ kt,(oh i ++ kh) ++ iE (Rf i),n,⟨0,aX + (Rf i).length⟩⟩)
  (hk : pW ks ts = kt := by repeat' (first|exact Cm|(apply xV;rfl))) (hj : rI js hs = kh := by repeat' (first|exact BZ|(apply yA;rfl)))
  (h1 : qR ts (ot i0) := by repeat' (first|exact trivial|refine And.intro rfl ?_)) (h2 : oG hs (oh i0) := by repeat' (first|exact trivial|refine And.intro (.inr rfl) ?_))
  (hF : FamR (Rf i0) (Rf i0) hs hs := by repeat' (first|exact FamR.here|exact FamR.nil|(apply FamR.cons;focus rfl))) (hz : z0 = ⟨0,aX + (Rf i0).length⟩ := by first|rfl|(simp only [gB])) : AW P N (.loop c) Q ⟨ts,hs,n,z0⟩ :=
 BS 0 Rf ks kt js kh ot oh p μ i0 h0 hk hj h1 h2 hF hz round
end
theorem Le.renA (m:List (Nat × Nat)){ts ts':List (Nat × AV)}{hs hs':List (Nat × Option (List AV))}{n n':Nat}{lo:Lo}(hm:KE lo.lo n' m = true := by rfl) (hn:lo.lo ≤ n' := by decide)
  (h1 : Io m lo ts ts' := by repeat' (first|exact trivial|refine And.intro ⟨_,rfl,?_⟩ ?_|refine And.intro ⟨_,_,rfl,rfl,?_⟩ ?_|exact Or.inr rfl|refine Or.inl ⟨?_,(by first|rfl|exact bB _ _|exact Pur.pf|exact PurV.pf)⟩|refine Or.inr (All2.cons ?_ ?_)|refine All2.cons ?_ ?_|exact All2.nil|rfl))
  (h2 : Dz m lo hs hs' := by repeat' (first|exact trivial|refine And.intro ⟨_,rfl,?_⟩ ?_|refine And.intro ⟨_,_,rfl,rfl,?_⟩ ?_|exact Or.inr rfl|refine Or.inl ⟨?_,(by first|rfl|exact bB _ _|exact Pur.pf|exact PurV.pf)⟩|refine Or.inr (All2.cons ?_ ?_)|refine All2.cons ?_ ?_|exact All2.nil|rfl)) : Le ⟨ts,hs,n,lo⟩ ⟨ts',hs',n',lo⟩ :=
 Le.ren m hm hn h1 h2
section
variable {P : Program} {k : FuncId} {fn : Func} {c : Code} {args : List AV} {N : Nat}
theorem aC {Q:AV → Prop}(hf:P.funcs[k]? = some fn) (hn:fn.ntmps = N) (h:AW P N c (o9 P fn.results (fun r _ => Q r ∧ r.pur = true)) ⟨iZ 0 args,[],0,⟨0,aX⟩⟩) (hb:fn.body = some c := by rfl)
  (hN : args.length ≤ N := by simp) : PC P k args Q := by subst hn;exact Je hf hb hN h
theorem aV {σ:Type}{H0:List (Nat × Option (List AV))}{n:Nat}{p:σ → Prop}{rr:σ → AV}{hh:σ → List (Nat × Option (List AV))}(hf:P.funcs[k]? = some fn) (hn:fn.ntmps = N)
  (h : AW P N c (o9 P fn.results (fun r H' => ∃ x,p x ∧ r = rr x ∧ ∀ id cs,aU (hh x) id = some cs → H' id = some cs)) ⟨iZ 0 args,H0,n,⟨n,aX⟩⟩) (hb : fn.body = some c := by rfl)
  (hN : args.length ≤ N := by simp) : MC P k args H0 n p rr hh := by subst hn;exact IK hf hb hN h
theorem Bx {R0:List (List Bool)}{r:AV}{hh:List (Nat × Option (List AV))}(hf:P.funcs[k]? = some fn) (hn:fn.ntmps = N)
  (h : AW P N c (o9 P fn.results (fun r' H' => r' = r ∧ ∀ id cs,aU (hh ++ iE R0) id = some cs → H' id = some cs)) ⟨iZ 0 args,iE R0,0,⟨0,aX + R0.length⟩⟩) (hb : fn.body = some c := by rfl)
  (hN : args.length ≤ N := by simp) : Qo P k args R0 r hh := by subst hn;exact IX hf hb hN h
theorem It {R1:List (List Bool)}{r:AV}(hf:P.funcs[k]? = some fn) (hn:fn.ntmps = N)
  (h : AW P N c (o9 P fn.results (fun r' H' => r' = r ∧ ∀ id cs,aU (iE R1) id = some cs → H' id = some cs)) ⟨iZ 0 args,[],0,⟨0,aX⟩⟩) (hb : fn.body = some c := by rfl)
  (hN : args.length ≤ N := by simp) : RF P k args r R1 := by subst hn;exact Il hf hb hN h
end
def Mq (op : BinOp) (a b : ByteArray) : Option Value :=
 match op with
 | .add => if a.size + b.size ≤ 9000000000000000000 then some (.string (a ++ b)) else none
 | .eql => some (.bool (a.toList == b.toList))
 | .neq => some (.bool (!(a.toList == b.toList)))
 | _ => none
def IH (s : ByteArray) (l : List Int) : ByteArray := l.foldl (fun r n => r.push (UInt8.ofNat n.toNat)) s
section
variable {P : Program} {C : Ctx} {ι : Pl} {T : Nat → Option AV} {F : Nat → Prop} {H : Nat → Option (List AV)} {a : Act} {w : World} {o : Oper}
theorem MW (g:TG C ι T H a w){op:BinOp}{t t':TypeId}{x y:Operand}{m n:ByteArray}{v:Value}(ho:o.op = .binOp op t x y t')
  (hx : ev T x = some (.v (.string m))) (hy : ev T y = some (.v (.string n))) (h : Mq op m n = some v) : Pu P C ι H a w o (.v v) := by
 have h1 := cA g hx
 have h2 := cA g hy
 simp only [Rd] at h1 h2
 refine ⟨v,?_,by simp [Rd]⟩
 have hg : (eqGuard op t x y (.string m) (.string n)).run P w = .ok () w := by
  unfold eqGuard
  cases op <;> simp
 have hb : (binOp op t (.string m) (.string n)).run P w = .ok v w := by
  cases op <;> simp only [Mq] at h <;> first|(cases h;done)|skip
  ·split at h
   ·rename_i hs
    cases h
    have h9 : ¬ (((m.size + n.size : Nat) : Int) > IntKind.i64.max) := by
     have : IntKind.i64.max = 9223372036854775807 := rfl
     omega
    show ((if ((m.size + n.size : Nat) : Int) > IntKind.i64.max then _ else pure (.string (m ++ n)) : Sem Value)).run P w = _
    rw [if_neg h9]; simp
   ·cases h
  all_goals (cases h;simp [binOp,Op.stringOp])
 simp only [execOp,ho,h1,h2,Sem.run_bind,hg,Result.andThen_ok,hb,Sem.run_pure]
theorem B4 {bad:Nat → Prop}{k:IntKind}:∀ {ns:List Int}{l:List Value},RdL w bad ι (ns.map fun n => .v (.int k n)) l → l = ns.map (Value.int k)
 | [],l,h => by simp only [List.map_nil,RdL] at h;exact h
 | n :: ns, l, h => by
  simp only [List.map_cons,RdL] at h
  obtain ⟨x,l',rfl,h0,h1,h2⟩ := h
  simp only [Rd] at h1
  rw [h1,B4 h2,List.map_cons]
theorem P0 (g:TG C ι T H a w) (gh:HG C ι F H w){s t el:TypeId}{x:Operand}{av:AV}{m:Nat}{ns:List Int}(ho:o.op = .convert s t x) (hx:ev T x = some av)
  (ht : nK P s = some el) (hu : BV P el = some .u8) (hst : P.underlying t = some .string) (hs : sCells H 1 (rH av) = some (m,ns.map fun n => .v (.int .u8 n))) :
  Pu P C ι H a w o (.v (.string (IH .empty ns))) := by
 obtain ⟨ad,c,l,h1,h2,h3,h4,h5⟩ := yO gh (m5 (cA g hx)) hs
 have hl := B4 h3
 have hll : ns.length = m := by have := h2;rw [hl] at this;simpa using this
 refine ⟨.string (IH .empty ns),?_,by simp [Rd]⟩
 have hcv : (convert s t (.slice ad m c)).run P w = (Conv.bytesToString (.slice ad m c)).run P w := run_convert_bytes_string w s t el ad m c (kP ht) (C6 hu) hst
 have hrun : (Conv.bytesToString (.slice ad m c)).run P w = .ok (.string (IH .empty ns)) w := by
  cases ad with
  | none =>
   rcases h5 with ⟨b,o',h⟩|h
   ·cases h
   ·subst h
    have : ns = [] := List.eq_nil_of_length_eq_zero hll
    subst this
    rfl
  | some ad =>
   have hload : (loadCells ad m).run P w = .ok (ns.map (Value.int .u8)).toArray w := by
    rcases h5 with ⟨b,o',h⟩|h
    ·cases h
     have := run_loadCells_list (P := P) w ⟨b,o',none⟩ l (fun j v hj => by rw [Addr.add_lit]; exact h4 b o' rfl j v hj)
     rw [h2,Nat.mul_one,hl] at this
     exact this
    ·subst h
     have : ns = [] := List.eq_nil_of_length_eq_zero hll
     subst this
     simp [loadCells,loadCellsFrom]
   exact run_bytesToString w ad m c ns hload
 simp only [execOp,ho,h1,Sem.run_bind,hcv,hrun,Result.andThen_ok,Sem.run_pure]
end
section
variable {P : Program} {N : Nat} {Q : Exit → AS → Prop} {all : Array Oper} {rest : List Oper} {ts : List (Nat × AV)} {hs : List (Nat × Option (List AV))} {n : Nat} {z0 : Lo} {md : Md}
variable {d : Nat} {ty : TypeId} {pos : String} {af : Array Edge}
theorem l6 {op:BinOp}{t t':TypeId}{x y:Operand}{m m':ByteArray}{v:Value}(hx:ev (lk ts) x = some (.v (.string m))) (hy:ev (lk ts) y = some (.v (.string m')))
  (h : Mq op m m' = some v) (hN : Nat.blt d N = true) {md' : Md} [hmd : MdA md (rO x ++ rO y) [.inl d] md'] (kk : RW P N all Q md' rest ⟨(d,.v v) :: ts,hs,n,z0⟩) : RW P N all Q md (⟨some d,.binOp op t x y t',ty,pos,af,none⟩ :: rest) ⟨ts,hs,n,z0⟩ :=
 eT rfl rfl (dG hN) (fun C ι F T H a w ag g gh => MW g rfl (ag.l.ev.trans hx) (ag.r.ev.trans hy) h) (by rw [hmd.pf]; exact kk)
theorem J2 {s t el:TypeId}{x:Operand}{av:AV}{m:Nat}(ns:List Int) [ht:SlT P s el] [hu:InT P el .u8] [hst:StT P t] (hx:ev (lk ts) x = some av)
  (hs' : sCells (aU hs) 1 (rH av) = some (m,ns.map fun n => .v (.int .u8 n))) (hN : Nat.blt d N = true) {md' : Md} [hmd : MdA md (rO x ++ rA av) [.inl d] md'] (kk : RW P N all Q md' rest ⟨(d,.v (.string (IH .empty ns))) :: ts,hs,n,z0⟩) :
  RW P N all Q md (⟨some d,.convert s t x,ty,pos,af,none⟩ :: rest) ⟨ts,hs,n,z0⟩ :=
 eT rfl rfl (dG hN) (fun C ι F T H a w ag g gh => P0 g gh rfl (ag.l.ev.trans hx) ht.pf hu.pf hst.pf (ag.r.sCells.trans hs')) (by rw [hmd.pf]; exact kk)
theorem rF {t:TypeId}{x i:Operand}{s:ByteArray}{k:IntKind}{m:Int}[ht:StT P t] (hx:ev (lk ts) x = some (.v (.string s)))
  (hi : ev (lk ts) i = some (.v (.int k m))) (hm : 0 ≤ m ∧ m < (s.size : Int)) (hN : Nat.blt d N = true) {md' : Md} [hmd : MdA md (rO x ++ rO i) [.inl d] md'] (kk : RW P N all Q md' rest ⟨(d,.v (.int .u8 ((s[m.toNat]!).toNat : Int))) :: ts,hs,n,z0⟩) :
  RW P N all Q md (⟨some d,.index t x i,ty,pos,af,none⟩ :: rest) ⟨ts,hs,n,z0⟩ :=
 F4 (b := s[m.toNat]!) hx hi ht.pf hm.1 (by rw [getElem!_pos s m.toNat (by omega),getElem?_pos s m.toNat (by omega)]) (dG hN) (by rw [hmd.pf]; exact kk)
theorem Gq {t:TypeId}{x:Operand}{lo hi:Option Operand}{s:ByteArray}{l h:Nat}[ht:StT P t] (hx:ev (lk ts) x = some (.v (.string s)))
  (hl : g9 (lk ts) lo 0 = some l) (hh : g9 (lk ts) hi s.size = some h) (hc : l ≤ h ∧ h ≤ s.size) (hN : Nat.blt d N = true) {md' : Md} [hmd : MdA md (rO x ++ (rB lo ++ rB hi)) [.inl d] md'] (kk : RW P N all Q md' rest ⟨(d,.v (.string (s.extract l h))) :: ts,hs,n,z0⟩) :
  RW P N all Q md (⟨some d,.slice t x lo hi none,ty,pos,af,none⟩ :: rest) ⟨ts,hs,n,z0⟩ := F6 hx ht.pf hl hh hc (dG hN) (by rw [hmd.pf]; exact kk)
theorem IT (m:Int) (h:0 ≤ m ∧ m ≤ 255):IntKind.u8.wrap m = m:=by
 have : IntKind.u8.wrap m = m % 256 := rfl
 rw [this]; omega
theorem MT {t t':TypeId}{x y:Operand}{m m':Int}(hx:ev (lk ts) x = some (.v (.int .u8 m))) (hy:ev (lk ts) y = some (.v (.int .u8 m')))
  (h : 0 ≤ m + m' ∧ m + m' ≤ 255) (hN : Nat.blt d N = true) {md' : Md} [hmd : MdA md (rO x ++ rO y) [.inl d] md'] (kk : RW P N all Q md' rest ⟨(d,.v (.int .u8 (m + m'))) :: ts,hs,n,z0⟩) : RW P N all Q md (⟨some d,.binOp .add t x y t',ty,pos,af,none⟩ :: rest) ⟨ts,hs,n,z0⟩ :=
 eH hx hy (.inl rfl) (v := .int .u8 (m + m')) (by simp only [gZ,IT _ h]) (dG hN) (by rw [hmd.pf]; exact kk)
theorem EE {t t':TypeId}{x y:Operand}{m m':Int}(hx:ev (lk ts) x = some (.v (.int .u8 m))) (hy:ev (lk ts) y = some (.v (.int .u8 m')))
  (h : 0 ≤ m - m' ∧ m - m' ≤ 255) (hN : Nat.blt d N = true) {md' : Md} [hmd : MdA md (rO x ++ rO y) [.inl d] md'] (kk : RW P N all Q md' rest ⟨(d,.v (.int .u8 (m - m'))) :: ts,hs,n,z0⟩) : RW P N all Q md (⟨some d,.binOp .sub t x y t',ty,pos,af,none⟩ :: rest) ⟨ts,hs,n,z0⟩ :=
 eH hx hy (.inl rfl) (v := .int .u8 (m - m')) (by simp only [gZ,IT _ h]) (dG hN) (by rw [hmd.pf]; exact kk)
theorem Cp {s t:TypeId}{x:Operand}{k':IntKind}{m:Int}[hd:InT P t .u8] [hs':InT P s k'] (hx:ev (lk ts) x = some (.v (.int k' m))) (h:0 ≤ m ∧ m ≤ 255) (hN:Nat.blt d N = true){md':Md}[hmd:MdA md (rO x) [.inl d] md'] (kk:RW P N all Q md' rest ⟨(d,.v (.int .u8 m)) :: ts,hs,n,z0⟩) :
  RW P N all Q md (⟨some d,.convert s t x,ty,pos,af,none⟩ :: rest) ⟨ts,hs,n,z0⟩ := EZ hx hd.pf hs'.pf (dG hN) (by rw [hmd.pf,IT _ h]; exact kk)
end
theorem rX (n:Int):(IH .empty [n]).size = 1 := rfl
theorem tQ {a b:ByteArray}(h:a.size + b.size ≤ 9000000000000000000):Mq .add a b = some (.string (a ++ b)) := if_pos h
def IM (l : List Int) : ByteArray := l.foldl (fun r n => r.push (UInt8.ofNat n.toNat)) .empty
def hG (v : Int) : ByteArray := IM [97 + v]
def Dt (n : Int) : ByteArray := IM [48 + n] ++ .empty
theorem pZ (l:List UInt8):ByteArray.size ⟨l.toArray⟩ = l.length := rfl
theorem nP (v:Int):(hG v).size = 1 := rfl
theorem nU (v:Int):(Dt v).size = 1 := by simp [Dt,IM,ByteArray.size_append]
def sS (out : ByteArray) (k : Nat) (t : ByteArray) : ByteArray := (if 0 < k then out ++ ⟨#[59]⟩ else out) ++ t
mutual
def l9 : Stmt → ByteArray
 | .mk op x y n th el =>
  if op = 1 then (hG x ++ ⟨#[61]⟩) ++ Dt n
  else if op = 2 then (hG x ++ ⟨#[61,98,111,120,32]⟩) ++ Dt n
  else if op = 3 then (hG x ++ ⟨#[61]⟩) ++ hG y
  else if op = 4 then (hG x ++ ⟨#[61,38]⟩) ++ hG y
  else if op = 5 then (hG x ++ ⟨#[61,38,109,117,116,32]⟩) ++ hG y
  else if op = 6 then (hG x ++ ⟨#[61,42]⟩) ++ hG y
  else if op = 7 then ((⟨#[42]⟩ ++ hG x) ++ ⟨#[61]⟩) ++ hG y
  else if op = 8 then ⟨#[100,114,111,112,32]⟩ ++ hG x
  else if op = 10 then (⟨#[108,111,111,112,123]⟩ ++ mC .empty 0 th) ++ ⟨#[125]⟩
  else (((⟨#[105,102,123]⟩ ++ mC .empty 0 th) ++ ⟨#[125,123]⟩) ++ mC .empty 0 el) ++ ⟨#[125]⟩
def mC (out : ByteArray) (k : Nat) : List Stmt → ByteArray
 | [] => out
 | s :: l => mC (sS out k (l9 s)) (k + 1) l
end
def jZ (l : List Stmt) : ByteArray := mC .empty 0 l
theorem uJ:∀ (l:List Stmt) (out:ByteArray) (k:Nat) (s:Stmt),mC out k (l ++ [s]) = sS (mC out k l) (k + l.length) (l9 s)
 | [],out,k,s => by simp only [List.nil_append,mC,List.length_nil,Nat.add_zero]
 | x :: l, out, k, s => by
  simp only [List.cons_append,mC,uJ l,List.length_cons]
  rw [show k + 1 + l.length = k + (l.length + 1) from by omega]
theorem wN (l:List Stmt) (k:Nat) (h:k < l.length):jZ (l.take (k + 1)) = sS (jZ (l.take k)) k (l9 l[k]!):=by
 rw [bG _ _ h,jZ,uJ,List.length_take,Nat.min_eq_left (by omega),Nat.zero_add]; rfl
theorem Ho (s:Stmt):l9 s = 
  if s.op = 1 then (hG s.x ++ ⟨#[61]⟩) ++ Dt s.n
  else if s.op = 2 then (hG s.x ++ ⟨#[61,98,111,120,32]⟩) ++ Dt s.n
  else if s.op = 3 then (hG s.x ++ ⟨#[61]⟩) ++ hG s.y
  else if s.op = 4 then (hG s.x ++ ⟨#[61,38]⟩) ++ hG s.y
  else if s.op = 5 then (hG s.x ++ ⟨#[61,38,109,117,116,32]⟩) ++ hG s.y
  else if s.op = 6 then (hG s.x ++ ⟨#[61,42]⟩) ++ hG s.y
  else if s.op = 7 then ((⟨#[42]⟩ ++ hG s.x) ++ ⟨#[61]⟩) ++ hG s.y
  else if s.op = 8 then ⟨#[100,114,111,112,32]⟩ ++ hG s.x
  else if s.op = 10 then (⟨#[108,111,111,112,123]⟩ ++ jZ s.th) ++ ⟨#[125]⟩
  else (((⟨#[105,102,123]⟩ ++ jZ s.th) ++ ⟨#[125,123]⟩) ++ jZ s.el) ++ ⟨#[125]⟩ := by
 cases s;rw [l9]; rfl
mutual
theorem wP:∀ s,(l9 s).size + 1 ≤ 11 * cR s
 | .mk op x y n th el => by
  have h1 := lI th .empty 0
  have h2 := lI el .empty 0
  have h3 : ByteArray.size .empty = 0 := rfl
  rw [l9]
  simp only [cR]
  repeat' split
  all_goals simp only [ByteArray.size_append,pZ,List.length_cons,List.length_nil,nP,nU]
  all_goals omega
theorem lI:∀ (l:List Stmt) (out:ByteArray) (k:Nat),(mC out k l).size ≤ out.size + 11 * aT l
 | [],out,k => by simp only [mC,aT]; omega
 | s :: l, out, k => by
  have h1 := wP s
  have h2 := lI l (sS out k (l9 s)) (k + 1)
  have h3 : (sS out k (l9 s)).size ≤ out.size + 1 + (l9 s).size := by
   unfold sS;split <;> simp only [ByteArray.size_append,pZ,List.length_cons,List.length_nil] <;> omega
  simp only [mC,aT]
  omega
end
theorem l8 (l:List Stmt):(jZ l).size ≤ 11 * aT l:=by
 have := lI l .empty 0
 have h3 : ByteArray.size .empty = 0 := rfl
 unfold jZ;omega
theorem FW {ts:List Int}{s:Stmt}(ht:cC ts = true) (h:dD ts s = true):1 ≤ s.op ∧ s.op ≤ 8 ∧ 0 ≤ s.x ∧ s.x ≤ 5 ∧ 0 ≤ s.y ∧ s.y ≤ 5 ∧ (s.op = 1 ∨ s.op = 2 → 0 ≤ s.n ∧ s.n ≤ 9):=by
 have hl := iO ht
 have hx := lH ht s.x
 have hy := lH ht s.y
 unfold dD at h
 dsimp only at h
 repeat' split at h
 all_goals (first|(simp only [decide_eq_true_eq] at h;omega)|(simp at h;done))
end Go.AL
namespace Go.AL
theorem lM {A n:Nat}(hv:∀ v,A.testBit v = true → v < n):A < 2 ^ n := Nat.lt_pow_two_of_testBit _ fun v h => by
 cases hq : Nat.testBit _ v with
 | false => rfl
 | true => have := hv v hq;omega
theorem jG {A n:Nat}(hn:n ≤ 62) (hv:A < 2 ^ n):Sm A := ⟨Nat.lt_of_lt_of_le hv (Nat.pow_le_pow_right (by decide) hn)⟩
structure FB (ts : List Int) (pts : List Pnt) (f : Flows ts pts) : Prop where
 la : f.Aa.length = pts.length
 lm : f.Am.length = pts.length
 ln : f.An.length = pts.length
 ll : f.Al.length = pts.length
 lp : f.Ap.length = pts.length
 bA : ∀ i : Nat,f.Aa[i]! < 2 ^ ts.length
 bM : ∀ i : Nat,f.Am[i]! < 2 ^ ts.length
 bN : ∀ i : Nat,f.An[i]! < 2 ^ ts.length
 bL : ∀ i : Nat,f.Al[i]! < 2 ^ ts.length
 bP : ∀ i : Nat,f.Ap[i]! < 2 ^ pts.length
 sA : ∀ i : Nat,Sm f.Aa[i]!
 sM : ∀ i : Nat,Sm f.Am[i]!
 sN : ∀ i : Nat,Sm f.An[i]!
 sL : ∀ i : Nat,Sm f.Al[i]!
 sP : ∀ i : Nat,Sm f.Ap[i]!
 rl : ∀ i,i < pts.length → (cH f.Af i).length = 6
 rs : ∀ i,i < pts.length → ∀ z : Nat,Sm (cH f.Af i)[z]!
 af : ∀ i,i < pts.length → Lf pts f.An i = f.Al[i]!
 kp : ∀ i,i < pts.length → k8 ts pts[i]! f.Al[i]! (cH f.Af i) < 2 ^ pts.length
 lo : ∀ i,i < pts.length → k8 ts pts[i]! f.Al[i]! (cH f.Af i) &&& f.Ap[i]! < 2 ^ pts.length
 cf : ∀ i,i < pts.length → tB ts pts f.Am f.Al f.Af f.Ap i < 2 ^ pts.length
theorem Flows.bnd {ts:List Int}{pts:List Pnt}(f:Flows ts pts) (w:WG ts pts):FB ts pts f:=by
 have hpl := w.pl
 have htl := w.tl
 have off : ∀ {A : List Nat} {n : Nat} {i : Nat}, A.length = pts.length → ¬ i < pts.length → A[i]! < 2 ^ n := fun {A n i} h hi => by
  rw [getElem!_neg A i (by omega)]; exact Nat.pow_pos (by decide)
 have bA : ∀ i : Nat, f.Aa[i]! < 2 ^ ts.length := fun i => by
  by_cases hi : i < pts.length
  ·exact lM fun v hv => ((f.ga.2 i hi v).1 hv).1
  ·exact off f.ga.1 hi
 have bM : ∀ i : Nat, f.Am[i]! < 2 ^ ts.length := fun i => by
  by_cases hi : i < pts.length
  ·exact lM fun v hv => sX w ((f.gm.2 i hi v).1 hv)
  ·exact off f.gm.1 hi
 have bN : ∀ i : Nat, f.An[i]! < 2 ^ ts.length := fun i => by
  by_cases hi : i < pts.length
  ·exact lM fun v hv => qM w ((f.gn.2 i hi v).1 hv)
  ·exact off f.gn.1 hi
 have bL : ∀ i : Nat, f.Al[i]! < 2 ^ ts.length := fun i => by
  by_cases hi : i < pts.length
  ·exact lM fun v hv => by obtain ⟨k,_,h⟩ := (f.gl.2 i hi v).1 hv;exact qM w h
  ·exact off f.gl.1 hi
 have bP : ∀ i : Nat, f.Ap[i]! < 2 ^ pts.length := fun i => by
  by_cases hi : i < pts.length
  ·exact lM fun v hv => (mD ((f.gp.2 i hi v).1 hv)).1
  ·exact off f.gp.1 hi
 have rs : ∀ i, i < pts.length → ∀ z : Nat, (cH f.Af i)[z]! < 2 ^ pts.length := fun i hi z => by
  by_cases hz : z < 6
  ·rw [dS f.gf.1 hi hz]
   exact lM fun v hv => (wF w ((f.gf.2 i z hi hz v).1 hv)).2.2
  ·rw [getElem!_neg _ z (by rw [eQ f.gf.1 hi]; exact hz)]; exact Nat.pow_pos (by decide)
 have kp : ∀ i, i < pts.length → k8 ts pts[i]! f.Al[i]! (cH f.Af i) < 2 ^ pts.length := fun i hi => lM fun v hv => by
  unfold k8 at hv
  rw [dI] at hv
  rcases hv with hv | ⟨z,hz,hv⟩
  ·simp at hv
  ·exact cK (rs i hi _) hv
 have lo : ∀ i,i < pts.length → k8 ts pts[i]! f.Al[i]! (cH f.Af i) &&& f.Ap[i]! < 2 ^ pts.length := fun i hi => Nat.and_lt_two_pow _ (bP i)
 refine ⟨f.ga.1, f.gm.1, f.gn.1, f.gl.1, f.gp.1, bA, bM, bN, bL, bP, fun i => jG (by omega) (bA i), fun i => jG (by omega) (bM i), fun i => jG (by omega) (bN i), fun i => jG (by omega) (bL i), fun i => jG (by omega) (bP i),
  fun i hi => eQ f.gf.1 hi,fun i hi z => jG (by omega) (rs i hi z),fun i hi => ?_,kp,lo,fun i hi => rP w (bP i)⟩
 rw [y0 f.gl (Bu w f.gn),a6 _ _ _ hi]
def Cd (pts : List Pnt) (l : Nat) (c : Acc) : Bool := decide (c.var = pts[l]!.y) && (c.write || decide (pts[l]!.op = 5))
theorem Jm {ts:List Int}{pts:List Pnt}(w:WG ts pts) (f:Flows ts pts){i l:Nat}(hi:i < pts.length) (hl:l < pts.length) (hln:bW pts[l]! = true) :
  (tB ts pts f.Am f.Al f.Af f.Ap i).testBit l = ((fS ts pts[i]! (f.Am[i]!.testBit (aM pts[i]!).toNat)).any (Cd pts l) && ((k8 ts pts[i]! f.Al[i]! (cH f.Af i)).testBit l && f.Ap[i]!.testBit l)) := by
 have b := f.bnd w
 have hpl := w.pl
 have hy := mG w hl hln
 rw [Bool.eq_iff_iff]
 unfold tB
 rw [fK _ _ _ (jG (by omega) (b.lo i hi)),Bool.and_eq_true,List.any_eq_true,← Nat.testBit_and]
 simp only [Nat.zero_testBit,Bool.false_eq_true,false_or]
 constructor
 ·rintro ⟨c, hc, h1, h2, h3⟩
  refine ⟨⟨c,hc,?_⟩,h1⟩
  rw [fM] at h2
  simp only [Bool.and_eq_true,decide_eq_true_eq] at h2
  have e2 := h2.2.2
  rw [Nat.testBit_two_pow,decide_eq_true_eq] at e2
  have hcv := tK _ w hi c hc
  unfold Cd
  rw [decide_eq_true (by omega : c.var = pts[l]!.y)]
  rcases h3 with h3|h3
  ·rw [h3]; rfl
  ·rw [decide_eq_true h3]; simp
 ·rintro ⟨⟨c, hc, h⟩, h1⟩
  unfold Cd at h
  simp only [Bool.and_eq_true,Bool.or_eq_true,decide_eq_true_eq] at h
  refine ⟨c,hc,h1,?_,h.2⟩
  rw [fM,decide_eq_true hl,hln,h.1,Nat.testBit_two_pow_self]; rfl
end Go.AL
namespace Go.AL
section
variable {P : Program} {C : Ctx} {ι : Pl} {F : Nat → Prop} {T : Nat → Option AV} {H : Nat → Option (List AV)} {a : Act} {w : World} {o : Oper}
theorem wI (z:Array Value):∀ n,(Builtin.zeroCells z n).toList = (List.replicate n z.toList).flatten := fun n => by
 have := rN z n (n * z.size) rfl
 simpa [Builtin.zeroCells,madeCells] using this
end
theorem Le.cut {ts:List (Nat × AV)}{hs:List (Nat × Option (List AV))}{n:Nat}{z0:Lo}{i:Nat}{cs:List AV}(k:Nat) (hi:aU hs i = some cs) :
  Le ⟨ts,hs,n,z0⟩ ⟨ts,(i,some (cs.take k)) :: hs,n,z0⟩ := by
 rintro C a w ⟨h0,ι,g,gh⟩
 have hσ : ∀ id c, aU ((i, some (cs.take k)) :: hs) id = some c → ∃ c0, aU hs id = some c0 ∧ (c = c0 ∨ c = c0.take k) := by
  intro id c h
  rw [cS] at h
  split at h
  ·rename_i e;subst e;cases h;exact ⟨cs,hi,.inr rfl⟩
  ·exact ⟨c,h,.inl rfl⟩
 have car : Carry w (aL C.X ι (aU hs)) ι w (aL C.X ι (aU ((i, some (cs.take k)) :: hs))) ι := by
  refine ⟨fun b o' x h1 h2 => ⟨?_,h2⟩,fun _ _ h => h,fun _ => Nat.le_refl _⟩
  rintro (h | ⟨id,c,β,q1,q2⟩)
  ·exact h1 (.inl h)
  ·obtain ⟨c0, r, _⟩ := hσ id c q1
   exact h1 (.inr ⟨id,c0,β,r,q2⟩)
 refine ⟨h0,ι,⟨g.df,g.sz,fun t av ht => ?_⟩,⟨fun id c h => ?_,fun id id' c c' b β β' q1 q2 q3 q4 => ?_,gh.fr,gh.ex,gh.fresh⟩⟩
 ·obtain ⟨y, hy, hr⟩ := g.tm t av ht
  exact ⟨y,hy,Rd.carry car _ _ hr⟩
 ·obtain ⟨c0, r, e⟩ := hσ id c h
  rcases gh.obj id c0 r with ⟨h1,h2⟩ | ⟨b',β',arr',e',h1,h2,h3,h4,h5,h6⟩
  ·refine .inl ⟨h1, ?_⟩
   rcases e with e|e
   ·rw [e,h2]
   ·rw [e,h2]; simp
  ·refine .inr ⟨b', β', arr', e', h1, h2, ?_, ?_, h5, h6⟩
   ·rcases e with e | e
    ·rw [e]; exact h3
    ·rw [e,List.length_take]; omega
   ·have h7 := RdC.carryB car _ _ _ (fun o x hx => hx) h4
    rcases e with e|e
    ·rw [e]; exact h7
    ·rw [e]; exact RdC.take k h7
 ·obtain ⟨_, r1, _⟩ := hσ id c q1
  obtain ⟨_,r2,_⟩ := hσ id' c' q2
  exact gh.sep _ _ _ _ _ _ _ r1 r2 q3 q4
section
variable {P : Program} {N : Nat} {Q : Exit → AS → Prop} {all : Array Oper} {rest : List Oper} {ts : List (Nat × AV)} {hs : List (Nat × Option (List AV))} {n : Nat} {z0 : Lo}
variable {d : Nat} {ty : TypeId} {pos : String} {af : Array Edge}
theorem gA {fn:Go.Fn}{cs:Array Operand}{i:Nat}{cc c:List AV}(t:Nat) (hx:lk ts t = some (.optr i 0)) (hH:aU hs i = some cc) (hc:evL (lk ((t,.iptr cc) :: ts)) cs.toList = some c) (hN:Nat.blt d N = true)
  (kk : RW P N all Q .txt rest ⟨(d,.clos fn [] c) :: (t,.iptr cc) :: ts,(i,none) :: hs,n,z0⟩) : RW P N all Q .txt (⟨some d,.makeFunc fn #[] cs,ty,pos,af,none⟩ :: rest) ⟨ts,hs,n,z0⟩ :=
 c8 (mX (f := []) (c := c) rfl hc hN (md' := .txt) kk) (Le.frzP hx hH)
end
structure Bnd where
 var : Int
 loan : Int
 src : Int
 deriving Inhabited,DecidableEq
def Bc (b : Bnd) : List AV := [iv b.var,iv b.loan,iv b.src]
instance : FlT Bc 3:=⟨fun s => rfl⟩
instance : FE Bc (fun b => [iv b.var,iv b.loan,iv b.src]):=⟨fun _ => rfl⟩
instance (s : Bnd) : Pur (Bc s):=⟨rfl⟩
theorem uC {xs:List Bnd}{m:Nat}{a b c:Int}(hm:m = xs.length):((flat Bc xs).drop 0).take (m * 3) ++ [iv a,iv b,iv c] = flat Bc (xs ++ [⟨a,b,c⟩]) := eO hm rfl
structure WT (ts : List Int) (pts : List Pnt) : Prop where
 mv : ∀ i,i < pts.length → pts[i]!.op = 3 → ts[pts[i]!.x.toNat]! = ts[pts[i]!.y.toNat]! ∧ pts[i]!.x ≠ pts[i]!.y
 ln : ∀ i,i < pts.length → pts[i]!.op = 4 ∨ pts[i]!.op = 5 → eF ts[pts[i]!.x.toNat]! = true ∧ pts[i]!.x ≠ pts[i]!.y
def PtY (ts : List Int) (x : Pnt) : Prop := (x.op = 3 → ts[x.x.toNat]! = ts[x.y.toNat]! ∧ x.x ≠ x.y) ∧ (x.op = 4 ∨ x.op = 5 → eF ts[x.x.toNat]! = true ∧ x.x ≠ x.y)
theorem j6 {ts:List Int}{v:Int}(h:0 < fU ts v):fU ts v = ts[v.toNat]!:=by
 unfold fU at h ⊢
 split at h
 ·rename_i c;rw [if_pos c]
 ·omega
theorem GU {ts:List Int}{s:Stmt}(h:dD ts s = true):(s.op = 3 → ts[s.x.toNat]! = ts[s.y.toNat]! ∧ s.x ≠ s.y) ∧ (s.op = 4 ∨ s.op = 5 → eF ts[s.x.toNat]! = true ∧ s.x ≠ s.y):=by
 unfold dD at h
 dsimp only at h
 refine ⟨fun h3 => ?_,fun h4 => ?_⟩
 ·rw [h3] at h
  simp only [show ¬ (3 : Int) = 1 by decide,show ¬ (3 : Int) = 2 by decide,if_false,if_true] at h
  split at h
  ·cases h
  ·simp only [decide_eq_true_eq] at h
   refine ⟨?_,h.2.2⟩
   rw [← j6 h.2.1,h.1,j6 (by omega)]
 ·rcases h4 with h4 | h4 <;> rw [h4] at h
  ·simp only [show ¬ (4 : Int) = 1 by decide, show ¬ (4 : Int) = 2 by decide, show ¬ (4 : Int) = 3 by decide, if_false, if_true] at h
   split at h
   ·cases h
   ·simp only [decide_eq_true_eq] at h
    refine ⟨?_,h.2.2⟩
    rw [← j6 (by omega),h.1]; rfl
  ·simp only [show ¬ (5 : Int) = 1 by decide, show ¬ (5 : Int) = 2 by decide, show ¬ (5 : Int) = 3 by decide, show ¬ (5 : Int) = 4 by decide, if_false, if_true] at h
   split at h
   ·cases h
   ·simp only [decide_eq_true_eq] at h
    refine ⟨?_,h.2.2⟩
    rw [← j6 (by omega),h.1]; rfl
theorem PtY.no {ts:List Int}{x:Pnt}(h:9 ≤ x.op):PtY ts x := ⟨fun e => by omega,fun e => by omega⟩
mutual
theorem OL {ts:List Int}:∀ (s:Stmt) (d b:Nat),sU ts d s = true → ∀ x ∈ w9 b s,PtY ts x
 | .mk op x y n th el, d, b, h => by
  simp only [sU] at h
  split at h
  ·rename_i hop
   simp only [Bool.and_eq_true] at h
   have hs := GU h.2
   simp only [Stmt.op,Stmt.x,Stmt.y] at hs
   simp only [w9,hop.1,hop.2,if_false,List.mem_singleton]
   rintro z rfl
   exact hs
  ·rename_i hop
   cases d with
   | zero => cases h
   | succ d =>
    simp only [Bool.and_eq_true,decide_eq_true_eq] at h
    obtain ⟨⟨⟨_,_⟩,h1⟩,h2⟩ := h
    by_cases h9 : op = 9
    ·subst h9
     simp only [w9,if_true,List.mem_append,List.mem_singleton]
     rintro z (((rfl|hz)|rfl)|hz)
     ·exact PtY.no (by simp)
     ·exact uS th d (b + 1) h1 z hz
     ·exact PtY.no (by simp)
     ·exact uS el d (b + 2 + dH th) h2 z hz
    ·have h10 : op = 10 := by omega
     subst h10
     simp only [w9,if_true,show ((10 : Int) = 9) = False by simp,if_false,List.mem_append,List.mem_singleton]
     rintro z ((rfl|hz)|rfl)
     ·exact PtY.no (by simp)
     ·exact uS th d (b + 1) h1 z hz
     ·exact PtY.no (by simp)
theorem uS {ts:List Int}:∀ (l:List Stmt) (d b:Nat),okL ts d l = true → ∀ x ∈ gJ b l,PtY ts x
 | [],d,b,h => by simp [gJ]
 | s :: l, d, b, h => by
  simp only [okL,Bool.and_eq_true] at h
  simp only [gJ,List.mem_append]
  rintro x (hx|hx)
  ·exact OL s d b h.1 x hx
  ·exact uS l d (b + pC s) h.2 x hx
end
theorem WT.of_valid {p:Prg}(h:bD p = true):WT p.types (aB p):=by
 unfold bD at h
 simp only [Bool.and_eq_true,decide_eq_true_eq] at h
 obtain ⟨⟨_,hl⟩,_⟩ := h
 have key : ∀ i, i < (aB p).length → PtY p.types (aB p)[i]! := by
  intro i hi
  have hm := aW _ i hi
  unfold aB at hm
  rw [List.mem_append,List.mem_singleton] at hm
  rcases hm with hm|hm
  ·exact uS p.body 4 0 hl _ hm
  ·unfold aB;rw [hm]; exact PtY.no (by simp)
 exact ⟨fun i hi => (key i hi).1,fun i hi => (key i hi).2⟩
def KU (ts : List Int) (pts : List Pnt) (i : Nat) : List Bnd :=
 (if bW pts[i]! = true then [⟨pts[i]!.x,i,-1⟩] else []) ++ (if (bW pts[i]! = true ∨ pts[i]!.op = 3) ∧ eF ts[pts[i]!.y.toNat]! = true then [⟨pts[i]!.x,-1,pts[i]!.y⟩] else [])
def kW (ts : List Int) (pts : List Pnt) (k : Nat) : List Bnd := (List.range k).flatMap (KU ts pts)
theorem vM (ts:List Int) (pts:List Pnt) (k:Nat):kW ts pts (k + 1) = kW ts pts k ++ KU ts pts k:=by
 unfold kW;rw [List.range_succ,List.flatMap_append]; simp
theorem La (ts:List Int) (pts:List Pnt) (i:Nat):(KU ts pts i).length ≤ 2:=by
 unfold KU;split <;> split <;> simp
theorem Ah (ts:List Int) (pts:List Pnt):∀ k,(kW ts pts k).length ≤ 2 * k
 | 0 => by simp [kW]
 | k + 1 => by
  rw [vM,List.length_append]
  have := Ah ts pts k
  have := La ts pts k
  omega
theorem Av {ts:List Int}{pts:List Pnt}{k:Nat}{b:Bnd}:b ∈ kW ts pts k ↔ ∃ i,i < k ∧ b ∈ KU ts pts i:=by
 unfold kW;rw [List.mem_flatMap]; simp
structure BOk (nt n : Nat) (b : Bnd) : Prop where
 v : 0 ≤ b.var ∧ b.var < nt
 k : (0 ≤ b.loan ∧ b.loan < n ∧ b.src = -1) ∨ (b.loan = -1 ∧ 0 ≤ b.src ∧ b.src < nt ∧ b.src ≠ b.var)
theorem qP {ts:List Int}{pts:List Pnt}(w:WG ts pts) (t:WT ts pts){b:Bnd}(h:b ∈ kW ts pts pts.length):BOk ts.length pts.length b:=by
 obtain ⟨i,hi,hb⟩ := Av.1 h
 unfold KU at hb
 have hx := w.x i hi
 have hy := w.y i hi
 rcases List.mem_append.1 hb with hb|hb
 ·split at hb
  ·rename_i hl
   have := fZ hl
   rw [List.mem_singleton] at hb;subst hb
   exact ⟨⟨hx.1,hx.2 (by omega)⟩,.inl ⟨by dsimp only;omega,by dsimp only;omega,rfl⟩⟩
  ·simp at hb
 ·split at hb
  ·rename_i hl
   have h3 : pts[i]!.op = 3 ∨ pts[i]!.op = 4 ∨ pts[i]!.op = 5 := by
    rcases hl.1 with h|h
    ·exact .inr (fZ h)
    ·exact .inl h
   rw [List.mem_singleton] at hb;subst hb
   refine ⟨⟨hx.1,hx.2 (by omega)⟩,.inr ⟨rfl,hy.1,hy.2 (by omega) (by omega),fun e => ?_⟩⟩
   dsimp only at e
   rcases h3 with h|h
   ·exact (t.mv i hi h).2 e.symm
   ·exact (t.ln i hi h).2 e.symm
  ·simp at hb
def Rg (ts : List Int) (pts : List Pnt) (a : Nat × Nat) : Prop := Clo (fun a : Nat × Nat => ∃ b,b ∈ kW ts pts pts.length ∧ b.var = (a.1 : Int) ∧ b.loan = (a.2 : Int))
 (fun a c => c.2 = a.2 ∧ ∃ b,b ∈ kW ts pts pts.length ∧ b.src = (a.1 : Int) ∧ b.var = (c.1 : Int)) a
theorem NJ {ts:List Int}{pts:List Pnt}(w:WG ts pts) (t:WT ts pts){a:Nat × Nat}(h:Rg ts pts a):a.1 < ts.length ∧ a.2 < pts.length:=by
 induction h with
 | @base a h =>
  obtain ⟨b,hb,h1,h2⟩ := h
  have hk := qP w t hb
  have := hk.v
  rcases hk.k with h|h <;> exact ⟨by omega,by omega⟩
 | @step a c _ r ih =>
  obtain ⟨e,b,hb,h1,h2⟩ := r
  have := (qP w t hb).v
  exact ⟨by omega,by rw [e]; exact ih.2⟩
def GoodG (ts : List Int) (pts : List Pnt) (A : List Nat) : Prop := A.length = 6 ∧ ∀ v,v < 6 → ∀ l,A[v]!.testBit l = true ↔ Rg ts pts (v,l)
theorem GoodG.exist {ts:List Int}{pts:List Pnt}(w:WG ts pts) (t:WT ts pts):∃ A,GoodG ts pts A:=by
 obtain ⟨A,h1,h2⟩ := lW 6 pts.length (fun v l => Rg ts pts (v,l)) (fun v l _ h => (NJ w t h).2)
 exact ⟨A,h1,h2⟩
def B9 (A : List Nat) (b : Bnd) : Nat := if b.src < 0 then A[b.var.toNat]! ||| 2 ^ b.loan.toNat else A[b.var.toNat]! ||| A[b.src.toNat]!
def Fv (s : List Nat × Bool) (b : Bnd) : List Nat × Bool := if B9 s.1 b ≠ s.1[b.var.toNat]! then (s.1.set b.var.toNat (B9 s.1 b),true) else s
structure SRg (ts : List Int) (pts : List Pnt) (A : List Nat) : Prop where
 l : A.length = 6
 b : ∀ v : Nat,A[v]! < 2 ^ pts.length
 s : ∀ v : Nat,∀ l,A[v]!.testBit l = true → Rg ts pts (v,l)
theorem SRg.rep (ts:List Int) (pts:List Pnt):SRg ts pts (List.replicate 6 0):=by
 have h : ∀ v : Nat, (List.replicate 6 0)[v]! = 0 := fun v => by
  by_cases hv : v < 6
  ·exact c5 _ _ _ hv
  ·rw [getElem!_neg _ v (by simpa using hv)]; rfl
 exact ⟨by simp,fun v => by rw [h]; exact Nat.pow_pos (by decide),fun v l hl => by rw [h] at hl;simp at hl⟩
theorem Jq {a b:Nat}(h:a ||| b ≠ a):a < a ||| b:=by
 have := Nat.left_le_or (n := a) (m := b)
 omega
theorem P9 {ts:List Int}{pts:List Pnt}(w:WG ts pts) (t:WT ts pts){A:List Nat}(S:SRg ts pts A){b:Bnd}(hb:b ∈ kW ts pts pts.length) :
  B9 A b < 2 ^ pts.length ∧ (∀ l,(B9 A b).testBit l = true → Rg ts pts (b.var.toNat,l)) ∧ ∃ y,B9 A b = A[b.var.toNat]! ||| y := by
 have ok := qP w t hb
 have hv := ok.v
 unfold B9
 rcases ok.k with ⟨h1,h2,h3⟩ | ⟨h1,h2,h3,_⟩
 ·rw [if_pos (by omega)]
  refine ⟨Nat.or_lt_two_pow (S.b _) (Nat.pow_lt_pow_right (by decide) (by omega)),fun l hl => ?_,_,rfl⟩
  rw [Nat.testBit_or,Bool.or_eq_true] at hl
  rcases hl with hl|hl
  ·exact S.s _ l hl
  ·rw [Nat.testBit_two_pow] at hl
   have hl := of_decide_eq_true hl
   exact .base ⟨b,hb,by dsimp only;omega,by dsimp only;omega⟩
 ·rw [if_neg (by omega)]
  refine ⟨Nat.or_lt_two_pow (S.b _) (S.b _),fun l hl => ?_,_,rfl⟩
  rw [Nat.testBit_or,Bool.or_eq_true] at hl
  rcases hl with hl|hl
  ·exact S.s _ l hl
  ·exact .step (a := (b.src.toNat,l)) (S.s _ l hl) ⟨rfl,b,hb,by dsimp only;omega,by dsimp only;omega⟩
theorem Ew {ts:List Int}{pts:List Pnt}(w:WG ts pts) (t:WT ts pts) (A:List Nat) (c:Bool) (b:Bnd) (hb:b ∈ kW ts pts pts.length) (S:SRg ts pts A) :
  SRg ts pts (Fv (A,c) b).1 ∧ ((Fv (A,c) b = (A,c) ∧ B9 A b = A[b.var.toNat]!) ∨ ((Fv (A,c) b).2 = true ∧ eZ ((Fv (A,c) b).1.map (fun x => 2 ^ pts.length - x)) < eZ (A.map (fun x => 2 ^ pts.length - x)))) := by
 obtain ⟨h1,h2,y,h3⟩ := P9 w t S hb
 have ok := qP w t hb
 have hv := ok.v
 have htl := w.tl
 have hl := S.l
 unfold Fv
 dsimp only
 by_cases hc : B9 A b ≠ A[b.var.toNat]!
 ·rw [if_pos hc]
  refine ⟨⟨by rw [List.length_set]; exact hl,fun v => ?_,fun v l hb' => ?_⟩,.inr ⟨rfl,?_⟩⟩
  ·rw [aQ]; split
   ·exact h1
   ·exact S.b v
  ·rw [aQ] at hb'; split at hb'
   ·rename_i e;rw [← e.1]; exact h2 l hb'
   ·exact S.s v l hb'
  ·have e1 := mP (fun x => 2 ^ pts.length - x) A b.var.toNat (B9 A b) (by omega)
   have e2 : A[b.var.toNat]! < B9 A b := by rw [h3] at hc ⊢; exact Jq hc
   dsimp only at e1 ⊢
   omega
 ·rw [if_neg hc]
  exact ⟨S,.inl ⟨rfl,Classical.not_not.1 hc⟩⟩
def RT (ts : List Int) (pts : List Pnt) (A : List Nat) : Prop := ∀ b ∈ kW ts pts pts.length,B9 A b = A[b.var.toNat]!
theorem LN {ts:List Int}{pts:List Pnt}(w:WG ts pts) (t:WT ts pts) (A:List Nat) (c:Bool) (S:SRg ts pts A) :
  SRg ts pts ((kW ts pts pts.length).foldl Fv (A,c)).1 ∧ (((kW ts pts pts.length).foldl Fv (A,c) = (A,c) ∧ RT ts pts A) ∨ (((kW ts pts pts.length).foldl Fv (A,c)).2 = true ∧ eZ (((kW ts pts pts.length).foldl Fv (A,c)).1.map (fun x => 2 ^ pts.length - x)) < eZ (A.map (fun x => 2 ^ pts.length - x)))) :=
 iQ Fv (fun b s => B9 s b = s[b.var.toNat]!) (fun s => eZ (s.map (fun x => 2 ^ pts.length - x))) (SRg ts pts) (kW ts pts pts.length) (fun s c' b hb hs => Ew w t s c' b hb hs) A c S
theorem Iq {a b:Nat}(h:a ||| b = a){l:Nat}(hl:b.testBit l = true):a.testBit l = true:=by
 have : (a ||| b).testBit l = true := by rw [Nat.testBit_or,hl,Bool.or_true]
 rwa [h] at this
theorem Jw {ts:List Int}{pts:List Pnt}(w:WG ts pts) (t:WT ts pts){A:List Nat}(S:SRg ts pts A) (hC:RT ts pts A):GoodG ts pts A:=by
 refine ⟨S.l,fun v hv l => ⟨S.s v l,fun h => ?_⟩⟩
 have key : ∀ a : Nat × Nat, Rg ts pts a → A[a.1]!.testBit a.2 = true := by
  refine Clo.sub ?_ ?_
  ·rintro ⟨v, l⟩ ⟨b, hb, h1, h2⟩
   have hc := hC b hb
   have ok := qP w t hb
   dsimp only at h1 h2 ⊢
   unfold B9 at hc
   rcases ok.k with ⟨k1,k2,k3⟩ | ⟨k1,_⟩
   ·rw [if_pos (by omega)] at hc
    have e1 : b.var.toNat = v := by omega
    have e2 : b.loan.toNat = l := by omega
    rw [e1,e2] at hc
    exact Iq hc (by rw [Nat.testBit_two_pow]; simp)
   ·omega
  ·rintro ⟨v, l⟩ ⟨v', l'⟩ hh ⟨e, b, hb, h1, h2⟩
   have hc := hC b hb
   dsimp only at e h1 h2 hh ⊢
   subst e
   unfold B9 at hc
   rw [if_neg (by omega)] at hc
   have e1 : b.var.toNat = v' := by omega
   have e2 : b.src.toNat = v := by omega
   rw [e1,e2] at hc
   exact Iq hc hh
 exact key (v,l) h
theorem GD {ts:List Int}{pts:List Pnt}{A B:List Nat}(h1:GoodG ts pts A) (h2:GoodG ts pts B):A = B:=by
 refine bV (by rw [h1.1,h2.1]) fun v hv => ?_
 rw [h1.1] at hv
 apply Nat.eq_of_testBit_eq
 intro l
 rw [Bool.eq_iff_iff,h1.2 v hv l,h2.2 v hv l]
end Go.AL
