/-
 A part of the proofs over this program: rules and contracts of its functions (the rules).
-/
import Derived.Test.YtgkalkgplcdnkaaGreatDoorV1A05
import Derived.Laws.BytesString
import Derived.Laws.StructEq
set_option linter.unusedVariables false
set_option linter.unusedSimpArgs false
namespace Go.AL
open Go.RowKit
mutual
theorem RnV.bw {w:World}{ρ:Nat → Option Nat}{bad bad':Nat → Prop}{ι ι':Pl}(h:∀ i i',ρ i = some i' → ι i = ι' i') (hc:∀ b,bad b → bad' b):∀ {v v':AV},RnV ρ v v' → ∀ {y:Value},Rd w bad' ι' v' y → Rd w bad ι v y
 | _,_,.pur hp,y,k => Rd.pur _ y hp (Rd.carry (⟨fun b o x h1 h2 => ⟨fun q => h1 (hc b q),h2⟩,fun _ _ h => h,fun _ => Nat.le_refl _⟩ : Carry w bad' ι' w bad ι') _ _ k)
 | _,_,.own hi,y,k => by simp only [Rd,h _ _ hi] at k ⊢; exact k
 | _,_,.optr hi,y,k => by simp only [Rd,h _ _ hi] at k ⊢; exact k
 | _, _, .imm (cs := cs) (cs' := cs') hl, y, k => by
  have hlen := RnL.len hl
  simp only [Rd] at k ⊢
  obtain ⟨a,c,rfl,k⟩ := k
  refine ⟨a,c,rfl,?_⟩
  rcases k with k | ⟨b,o,hn,rfl,k⟩
  ·exact .inl k
  ·refine .inr ⟨b, o, hn, rfl, ?_⟩
   rcases k with k | ⟨hb,k⟩
   ·subst k;exact .inl (List.eq_nil_of_length_eq_zero (by rw [hlen]; rfl))
   ·exact .inr ⟨fun q => hb (hc b q),RnL.bwC h hc hl k⟩
 | _, _, .agg hl, y, k => by
  simp only [Rd] at k ⊢
  obtain ⟨l,h1,h2⟩ := k
  exact ⟨l,h1,RnL.bwL h hc hl h2⟩
 | _, _, .tup hl, y, k => by
  simp only [Rd] at k ⊢
  obtain ⟨l,h1,h2⟩ := k
  exact ⟨l,h1,RnL.bwV h hc hl h2⟩
 | _, _, .clos h1 h2, y, k => by
  simp only [Rd] at k ⊢
  obtain ⟨lf,lc,q1,q2,q3⟩ := k
  exact ⟨lf,lc,q1,RnL.bwV h hc h1 q2,RnL.bwV h hc h2 q3⟩
theorem RnL.bwL {w:World}{ρ:Nat → Option Nat}{bad bad':Nat → Prop}{ι ι':Pl}(h:∀ i i',ρ i = some i' → ι i = ι' i') (hc:∀ b,bad b → bad' b):∀ {v v':List AV},RnL ρ v v' → ∀ {y:List Value},RdL w bad' ι' v' y → RdL w bad ι v y
 | _,_,.pur hp,y,k => RdL.pur _ y hp (RdL.carry (⟨fun b o x h1 h2 => ⟨fun q => h1 (hc b q),h2⟩,fun _ _ h => h,fun _ => Nat.le_refl _⟩ : Carry w bad' ι' w bad ι') _ _ k)
 | _,_,.nil,y,k => by simpa only [RdL] using k
 | _, _, .cons h1 h2, y, k => by
  simp only [RdL] at k ⊢
  obtain ⟨x,l',q0,q1,q2,q3⟩ := k
  exact ⟨x,l',q0,q1,RnV.bw h hc h1 q2,RnL.bwL h hc h2 q3⟩
theorem RnL.bwV {w:World}{ρ:Nat → Option Nat}{bad bad':Nat → Prop}{ι ι':Pl}(h:∀ i i',ρ i = some i' → ι i = ι' i') (hc:∀ b,bad b → bad' b):∀ {v v':List AV},RnL ρ v v' → ∀ {y:List Value},RdV w bad' ι' v' y → RdV w bad ι v y
 | _,_,.pur hp,y,k => RdV.pur _ y hp (RdV.carry (⟨fun b o x h1 h2 => ⟨fun q => h1 (hc b q),h2⟩,fun _ _ h => h,fun _ => Nat.le_refl _⟩ : Carry w bad' ι' w bad ι') _ _ k)
 | _,_,.nil,y,k => by simpa only [RdV] using k
 | _, _, .cons h1 h2, y, k => by
  simp only [RdV] at k ⊢
  obtain ⟨x,l',q0,q2,q3⟩ := k
  exact ⟨x,l',q0,RnV.bw h hc h1 q2,RnL.bwV h hc h2 q3⟩
theorem RnL.bwC {w:World}{ρ:Nat → Option Nat}{bad bad':Nat → Prop}{ι ι':Pl}(h:∀ i i',ρ i = some i' → ι i = ι' i') (hc:∀ b,bad b → bad' b):∀ {v v':List AV},RnL ρ v v' → ∀ {b o:Nat},RdC w bad' ι' v' b o → RdC w bad ι v b o
 | _,_,.pur hp,b,o,k => RdC.pur _ b o hp (RdC.carryB (⟨fun b o x h1 h2 => ⟨fun q => h1 (hc b q),h2⟩,fun _ _ h => h,fun _ => Nat.le_refl _⟩ : Carry w bad' ι' w bad ι') _ _ _ (fun o x hx => hx) k)
 | _,_,.nil,b,o,k => by simp only [RdC]
 | _, _, .cons h1 h2, b, o, k => by
  simp only [RdC] at k ⊢
  obtain ⟨⟨x,q1,q2,q3⟩,q4⟩ := k
  exact ⟨⟨x,q1,q2,RnV.bw h hc h1 q3⟩,RnL.bwC h hc h2 q4⟩
end
theorem RnL.app {ρ:Nat → Option Nat}:∀ {a a' b b':List AV},RnL ρ a a' → RnL ρ b b' → RnL ρ (a ++ b) (a' ++ b')
 | [], a', b, b', ha, hb => by
  have := ha.len
  cases a' with
  | nil => exact hb
  | cons _ _ => simp at this
 | c :: cs, _, b, b', .pur hp, hb => by
  simp only [aZ,Bool.and_eq_true] at hp
  exact .cons (.pur hp.1) (RnL.app (.pur hp.2) hb)
 | c :: cs,_,b,b',.cons h1 h2,hb => .cons h1 (RnL.app h2 hb)
theorem RnL.flt {ρ:Nat → Option Nat}{α:Type}{f f':α → List AV}:∀ {xs:List α},(∀ x ∈ xs,RnL ρ (f x) (f' x)) → RnL ρ (flat f xs) (flat f' xs)
 | [],_ => .nil
 | x :: xs, h => by
  have h1 := h x (List.mem_cons_self)
  have h2 := RnL.flt (f := f) (f' := f') (xs := xs) (fun y hy => h y (List.mem_cons_of_mem _ hy))
  simp only [flat,List.flatMap_cons] at h2 ⊢
  exact h1.app h2
theorem Le.renG (ρ:Nat → Option Nat){ts ts':List (Nat × AV)}{hs hs':List (Nat × Option (List AV))}{n n':Nat}{lo lo':Lo}(hlo:lo'.lo = lo.lo) (hfb:lo.fb ≤ lo'.fb)
  (hid : ∀ id,id < lo.lo ∨ (aS ≤ id ∧ id < lo.fb) → ρ id = some id) (hinj : ∀ a b c,ρ a = some c → ρ b = some c → a = b) (hfr : ∀ id,Fn n' lo' id → ρ id = none)
  (h1 : ∀ t v,lk ts' t = some v → ∃ v0,lk ts t = some v0 ∧ RnV ρ v v0) (h2 : ∀ id cs,aP hs' id = some cs → ∃ j cs0,ρ id = some j ∧ aP hs j = some cs0 ∧ RnL ρ cs cs0) :
  Le ⟨ts,hs,n,lo⟩ ⟨ts',hs',n',lo'⟩ := by
 rintro C a w ⟨h0,ι,g,gh⟩
 let ι' : Pl := fun id => match ρ id with|some j => ι j|none => none
 have hto : ∀ id j,ρ id = some j → ι' id = ι j := fun id j h => by simp only [ι',h]
 have hbad : ∀ b, aE C.X ι' (aP hs') b → aE C.X ι (aP hs) b := by
  rintro b (h | ⟨id,cs,β,q1,q2⟩)
  ·exact .inl h
  ·obtain ⟨j, cs0, q3, q4, _⟩ := h2 id cs q1
   rw [hto _ _ q3] at q2
   exact .inr ⟨j,cs0,β,q4,q2⟩
 refine ⟨fun id h => ?_,ι',⟨g.df,g.sz,fun t v ht => ?_⟩,⟨fun id cs h => ?_,fun id id' cs cs' b β β' q1 q2 q3 q4 => ?_,gh.fr,fun id p hp => ?_,fun id hid' => ?_⟩⟩
 ·have h' : lo.lo ≤ id := by rw [← hlo]; exact h
  rcases h0 id h' with q|q
  ·exact .inl ⟨q.1,Nat.lt_of_lt_of_le q.2 hfb⟩
  ·exact .inr q
 ·obtain ⟨v0, q1, q2⟩ := h1 t v ht
  obtain ⟨y,q3,q4⟩ := g.tm t v0 q1
  exact ⟨y,q3,RnV.bw hto hbad q2 q4⟩
 ·obtain ⟨j, cs0, q3, q4, q5⟩ := h2 id cs h
  rcases gh.obj j cs0 q4 with ⟨p1,p2⟩ | ⟨b,β,arr,e,p1,p2,p3,p4,p5,p6⟩
  ·refine .inl ⟨by rw [hto _ _ q3]; exact p1, ?_⟩
   subst p2;exact List.eq_nil_of_length_eq_zero (by rw [q5.len]; rfl)
  ·exact .inr ⟨b,β,arr,e,by rw [hto _ _ q3]; exact p1,p2,by rw [q5.len]; exact p3,RnL.bwC hto hbad q5 p4,p5,p6⟩
 ·obtain ⟨j, c1, r1, r2, _⟩ := h2 id cs q1
  obtain ⟨j',c2,r3,r4,_⟩ := h2 id' cs' q2
  rw [hto _ _ r1] at q3
  rw [hto _ _ r3] at q4
  have := gh.sep _ _ _ _ _ _ _ r2 r4 q3 q4
  subst this
  exact hinj _ _ _ r1 r3
 ·have : ρ id = some id := by
   refine hid id ?_
   rcases Nat.lt_or_ge id lo.lo with q|q
   ·exact .inl q
   ·rcases h0 id q with q1 | q1
    ·exact .inr q1
    ·rw [q1] at hp;cases hp
  rw [hto _ _ this]; exact gh.ex id p hp
 ·have := hfr id hid'
  simp only [ι',this]
def gN (m : List (Nat × Nat)) (lo : Lo) (pn : Option Nat) (id : Nat) : Option Nat :=
 if id < lo.lo then some id else if aS ≤ id then (if id < lo.fb then some id else if id = lo.fb then pn else none) else uW m id
theorem fG {m:List (Nat × Nat)}{lo:Lo}{pn:Option Nat}{id:Nat}(h1:aS ≤ id) (h2:id < lo.fb):gN m lo pn id = some id:=by
 unfold gN;split
 ·rfl
 ·simp [h1,h2]
def JD (ρ : Nat → Option Nat) (l : List (Nat × AV)) : List (Nat × AV) → Prop
 | [] => True
 | (t,v) :: l' => (∃ v0,lk l t = some v0 ∧ RnV ρ v v0) ∧ JD ρ l l'
def zP (ρ : Nat → Option Nat) (l : List (Nat × Option (List AV))) : List (Nat × Option (List AV)) → Prop
 | [] => True
 | (t,none) :: l' => zP ρ l l'
 | (t,some cs) :: l' => (∃ j cs0,ρ t = some j ∧ aP l j = some cs0 ∧ RnL ρ cs cs0) ∧ zP ρ l l'
theorem zU {ρ:Nat → Option Nat}{l:List (Nat × AV)}:∀ {l':List (Nat × AV)},JD ρ l l' → ∀ t v,lk l' t = some v → ∃ v0,lk l t = some v0 ∧ RnV ρ v v0
 | [],_,t,v,h => by simp [lk] at h
 | (u, x) :: l', hr, t, v, h => by
  simp only [JD] at hr
  simp only [iZ] at h
  split at h
  ·rename_i e;subst e;cases h;exact hr.1
  ·exact zU hr.2 t v h
theorem oA {a b:List (Nat × Option (List AV))}{u:Nat}{c:List AV}:aP (a ++ b) u = some c → aP a u = some c ∨ aP b u = some c:=by
 induction a with
 | nil => exact fun h => .inr h
 | cons x a ih =>
  obtain ⟨t,v⟩ := x
  rw [List.cons_append,bW,bW]
  split
  ·exact fun h => .inl h
  ·exact ih
theorem E0 {a b:List (Nat × Option (List AV))}{u:Nat}{c:List AV}(h:aP a u = some c):aP (a ++ b) u = some c:=by
 induction a with
 | nil => simp [aP] at h
 | cons x a ih =>
  obtain ⟨t,v⟩ := x
  rw [List.cons_append]
  rw [bW] at h ⊢
  split
  ·rename_i e;rw [if_pos e] at h;exact h
  ·rename_i e;rw [if_neg e] at h;exact ih h
theorem DN {a b:List (Nat × Option (List AV))}{u:Nat}(h:eN u a = true):aP (a ++ b) u = aP b u:=by
 induction a with
 | nil => rfl
 | cons x a ih =>
  obtain ⟨t,v⟩ := x
  simp only [eN,Bool.and_eq_true] at h
  rw [List.cons_append,bW,if_neg (by have := cH h.1;omega)]
  exact ih h.2
theorem nU {n m:Nat}(h:n ≤ m):∀ {a:List (Nat × Option (List AV))},eN n a = true → eN m a = true
 | [],_ => rfl
 | (t, v) :: a, k => by
  simp only [eN,Bool.and_eq_true] at k ⊢
  exact ⟨by have := cH k.1;simp [Nat.blt]; omega,nU h k.2⟩
theorem oG {ρ:Nat → Option Nat}{l:List (Nat × Option (List AV))}:∀ {l':List (Nat × Option (List AV))},zP ρ l l' → ∀ t cs,aP l' t = some cs →
  ∃ j cs0,ρ t = some j ∧ aP l j = some cs0 ∧ RnL ρ cs cs0
 | [],_,t,v,h => by simp [aP] at h
 | (u, none) :: l', hr, t, v, h => by
  simp only [zP] at hr
  simp only [bW] at h
  split at h
  ·cases h
  ·exact oG hr t v h
 | (u, some x) :: l', hr, t, v, h => by
  simp only [zP] at hr
  simp only [bW] at h
  split at h
  ·rename_i e;subst e;cases h;exact hr.1
  ·exact oG hr.2 t v h
theorem sU {m:List (Nat × Nat)}{lo:Lo}{pn:Option Nat}{n':Nat}(hm:Fp lo.lo n' m = true){a c:Nat}(h:gN m lo pn a = some c) :
  (a < lo.lo ∧ c = a) ∨ (lo.lo ≤ a ∧ aS ≤ a ∧ a < lo.fb ∧ c = a) ∨ (lo.lo ≤ a ∧ aS ≤ a ∧ a = lo.fb ∧ pn = some c) ∨ (lo.lo ≤ a ∧ a < aS ∧ a < n' ∧ lo.lo ≤ c ∧ c < aS ∧ uW m a = some c) := by
 unfold gN at h
 split at h
 ·cases h;exact .inl ⟨by assumption,rfl⟩
 ·split at h
  ·split at h
   ·cases h;exact .inr (.inl ⟨by omega,by assumption,by assumption,rfl⟩)
   ·split at h
    ·exact .inr (.inr (.inl ⟨by omega,by assumption,by assumption,h⟩))
    ·cases h
  ·have := gR hm _ _ h
   exact .inr (.inr (.inr ⟨by omega,by omega,by omega,by omega,by omega,h⟩))
theorem Le.renF (m:List (Nat × Nat)) (pn:Option Nat){ts ts':List (Nat × AV)}{hs hs':List (Nat × Option (List AV))}{n n':Nat}{lo lo':Lo}(hm:Fp lo.lo n' m = true) (hn:lo.lo ≤ n') (hlo:lo'.lo = lo.lo)
  (hfb : lo'.fb = lo.fb + (if pn.isSome then 1 else 0)) (hp : ∀ b,pn = some b → lo.lo ≤ b ∧ b < aS ∧ ∀ a,uW m a ≠ some b)
  (h1 : ∀ t v,lk ts' t = some v → ∃ v0,lk ts t = some v0 ∧ RnV (gN m lo pn) v v0) (h2 : ∀ id cs,aP hs' id = some cs → ∃ j cs0,gN m lo pn id = some j ∧ aP hs j = some cs0 ∧ RnL (gN m lo pn) cs cs0) :
  Le ⟨ts,hs,n,lo⟩ ⟨ts',hs',n',lo'⟩ := by
 refine Le.renG (gN m lo pn) hlo (by rw [hfb]; omega) (fun id h => ?_) (fun a b c ha hb => ?_) (fun id h => ?_) h1 h2
 ·rcases h with h | h
  ·unfold gN;rw [if_pos h]
  ·exact fG h.1 h.2
 ·rcases sU hm ha with a1 | a1 | a1 | a1 <;> rcases sU hm hb with b1 | b1 | b1 | b1
  all_goals try omega
  ·have := hp c b1.2.2.2;omega
  ·have := hp c b1.2.2.2;omega
  ·have := hp c a1.2.2.2;omega
  ·have := hp c a1.2.2.2;omega
  ·exact absurd b1.2.2.2.2.2 ((hp c a1.2.2.2).2.2 b)
  ·exact absurd a1.2.2.2.2.2 ((hp c b1.2.2.2).2.2 a)
  ·exact tY hm _ _ _ a1.2.2.2.2.2 b1.2.2.2.2.2
 ·cases hc : gN m lo pn id with
  | none => rfl
  | some c =>
   have h3 : n' ≤ id := h.1
   have h4 : id < aS ∨ lo'.fb ≤ id := h.2
   rcases sU hm hc with a1|a1|a1|a1
   ·omega
   ·omega
   ·rw [a1.2.2.2] at hfb;simp at hfb;omega
   ·omega
theorem Le.renF0 (m:List (Nat × Nat)){R:List (List Bool)}{ts ts':List (Nat × AV)}{hs lits:List (Nat × Option (List AV))}{n n':Nat}{lo:Lo}{l0:Nat}(hF:FamR R R hs hs) (hz:lo = ⟨l0,aS + R.length⟩) (hm:Fp l0 n' m = true) (hn:l0 ≤ n')
  (h1 : JD (gN m lo none) ts ts') (h2 : zP (gN m lo none) hs lits) : Le ⟨ts,hs,n,lo⟩ ⟨ts',lits ++ fA R,n',⟨l0,aS + R.length⟩⟩ := by
 subst hz
 refine Le.renF m none hm hn rfl rfl (fun b h => by cases h) (zU h1) (fun id cs h => ?_)
 rcases oA h with h|h
 ·exact oG h2 id cs h
 ·obtain ⟨k, hk, rfl, rfl⟩ := jQ h
  exact ⟨_,_,fG (by omega) (by show k + aS < aS + R.length;omega),hF.get hk,.pur (inferInstance : Pur (flat cB R[k]!)).pf⟩
theorem Le.renF1 (m:List (Nat × Nat)) (b:Nat){r:List Bool}{R R':List (List Bool)}{ts ts':List (Nat × AV)}{hs lits:List (Nat × Option (List AV))}{n n':Nat}{lo:Lo}{l0:Nat}(hF:FamR R R hs hs) (hz:lo = ⟨l0,aS + R.length⟩) (hm:Fp l0 n' m = true) (hn:l0 ≤ n')
  (hlb : l0 ≤ aS) (hb : l0 ≤ b ∧ b < aS ∧ (m.all fun p => !Nat.beq p.2 b) = true) (hr : aP hs b = some (flat cB r)) (hR : R' = R ++ [r])
  (h1 : JD (gN m lo (some b)) ts ts') (h2 : zP (gN m lo (some b)) hs lits) : Le ⟨ts,hs,n,lo⟩ ⟨ts',lits ++ fA R',n',⟨l0,aS + R'.length⟩⟩ := by
 subst hz hR
 refine Le.renF m (some b) hm hn rfl (by show aS + (R ++ [r]).length = aS + R.length + 1;simp [Nat.add_assoc]) (fun b' h => ?_) (zU h1) (fun id cs h => ?_)
 ·cases h
  refine ⟨hb.1,hb.2.1,fun a ha => ?_⟩
  have := sO ha
  have h3 := hb.2.2
  rw [List.all_eq_true] at h3
  have := h3 _ this
  simp at this
 ·rcases oA h with h | h
  ·exact oG h2 id cs h
  ·obtain ⟨k, hk, rfl, rfl⟩ := jQ h
   rw [List.length_append,List.length_singleton] at hk
   rcases Nat.lt_or_ge k R.length with hk2|hk2
   ·have e : (R ++ [r])[k]! = R[k]! := by rw [bE _ _ (by simp; omega), bE _ _ hk2, List.getElem_append_left hk2]
    exact ⟨_,_,fG (by omega) (by show k + aS < aS + R.length;omega),hF.get hk2,by rw [e]; exact .pur (inferInstance : Pur (flat cB R[k]!)).pf⟩
   ·have e : k = R.length := by omega
    subst e
    have e2 : (R ++ [r])[R.length]! = r := by rw [bE _ _ (by simp)]; simp
    refine ⟨b,flat cB r,?_,hr,?_⟩
    ·unfold gN
     rw [if_neg (by show ¬ R.length + aS < l0;omega),if_pos (by omega),if_neg (by show ¬ R.length + aS < aS + R.length;omega),if_pos (by show R.length + aS = aS + R.length;omega)]
    ·rw [e2]; exact .pur (inferInstance : Pur (flat cB r)).pf
section
variable {P : Program} {N : Nat} {Q : Exit → AS → Prop}
theorem Le.litF {ts ts':List (Nat × AV)}{hs lits:List (Nat × Option (List AV))}{n n':Nat}{z0 z1:Lo}{R:List (List Bool)}(h1:m7 ts ts') (h2:lH hs lits) (h3:n ≤ n') (hF:FamR R R hs hs) (hz:z0 = z1) :
  Le ⟨ts,hs,n,z0⟩ ⟨ts',lits ++ fA R,n',z1⟩ := by
 refine Le.of (uF h1) (fun i c h => ?_) h3 hz
 rcases oA h with h|h
 ·exact lO h2 i c h
 ·obtain ⟨k, hk, rfl, rfl⟩ := jQ h
  exact hF.get hk
theorem w8 {σ:Type}{c:Code}{ts:List (Nat × AV)}{hs:List (Nat × Option (List AV))}{n:Nat}{z0:Lo}(l0:Nat) (Rf:σ → List (List Bool)) (ks:List Nat) (kt:List (Nat × AV)) (js:List Nat) (kh:List (Nat × Option (List AV)))
  (ot : σ → List (Nat × AV)) (oh : σ → List (Nat × Option (List AV))) (p : σ → Prop) (μ : σ → Nat) (i0 : σ) (h0 : p i0) (hk : n6 ks ts = kt) (hj : pF js hs = kh)
  (h1 : m7 ts (ot i0)) (h2 : lH hs (oh i0)) (hF : FamR (Rf i0) (Rf i0) hs hs) (hz : z0 = ⟨l0,aS + (Rf i0).length⟩)
  (round : ∀ i,p i → AW P N c (lS (fun s' => ∃ j,p j ∧ μ j < μ i ∧ Le s' ⟨ot j ++ kt,(oh j ++ kh) ++ fA (Rf j),n,⟨l0,aS + (Rf j).length⟩⟩) Q) ⟨ot i ++ kt,(oh i ++ kh) ++ fA (Rf i),n,⟨l0,aS + (Rf i).length⟩⟩) :
  AW P N (.loop c) Q ⟨ts,hs,n,z0⟩ := by
 subst hk hj
 exact A1 p (fun i => ⟨ot i ++ n6 ks ts,(oh i ++ pF js hs) ++ fA (Rf i),n,⟨l0,aS + (Rf i).length⟩⟩) μ ⟨i0,h0,Le.litF (nL h1 (mG ks)) (nM h2 (qD js)) (Nat.le_refl _) hF hz⟩ round
theorem Jt {c:Code}{s s':AS}(k:Le s s') (h:AW P N c Q s'):AW P N c Q s := h.le k
end
def sV (P : Program) (k : FuncId) (args : List AV) (H0 : Nat → Option (List AV)) (F0 : Nat → Prop) (Q : AV → (Nat → Option (List AV)) → Prop) : Prop :=
 ∀ (C : Ctx) (ι : Pl) (w : World) (vals : List Value), C.w0 = w → C.ι0 = ι → HG C ι F0 H0 w → RdV w (aE C.X ι H0) ι args vals →
  Calls P k vals.toArray w (fun e w' => ∃ v r H' ι',e = .returned v ∧ Q r H' ∧ Rd w' (aE C.X ι' H') ι' r v ∧ HG C ι' (fun _ => False) H' w')
theorem mE {P:Program}{k:FuncId}{fn:Func}{c:Code}{args:List AV}{H0:List (Nat × Option (List AV))}{n fb:Nat}{Q:AV → (Nat → Option (List AV)) → Prop}(hf:P.funcs[k]? = some fn) (hb:fn.body = some c)
  (hN : args.length ≤ fn.ntmps) (h : AW P fn.ntmps c (lJ P fn.results Q) ⟨fQ 0 args,H0,n,⟨n,fb⟩⟩) : sV P k args (aP H0) (Fn n ⟨n,fb⟩) Q := by
 intro C ι w vals hw hι g hr
 refine calls_of_wp hf hb ?_
 let C' : Ctx := { C with N := fn.ntmps }
 have hlen := RdV.length hr
 have g' : HG C' ι (Fn n ⟨n,fb⟩) (aP H0) w := ⟨g.obj,g.sep,g.fr,g.ex,g.fresh⟩
 have gt : TG C' ι (lk (fQ 0 args)) (aP H0) { tmps := vals.toArray ++ Array.replicate (fn.ntmps - vals.toArray.size) undef, defers := [] } w := by
  refine ⟨rfl,by simp [C',hlen]; omega,fun t av ht => ?_⟩
  obtain ⟨y,_,h1,h2⟩ := o9 hr ht
  refine ⟨y,?_,h2⟩
  have hlt : t < vals.length := by
   rcases Nat.lt_or_ge t vals.length with q|q
   ·exact q
   ·rw [List.getElem?_eq_none (by simpa using q)] at h1;cases h1
  rw [Array.getElem?_append_left (by simpa using hlt)]
  simpa using h1
 refine wp_mono (h C' _ w rfl ⟨fun id hid => ?_,ι,gt,g'⟩) ?_
 ·by_cases q : aS ≤ id ∧ id < fb
  ·exact .inl q
  ·refine .inr ?_
   show C.ι0 id = none
   rw [hι]
   exact g.fresh id ⟨hid,by show id < aS ∨ fb ≤ id;omega⟩
 rintro e a' w' ⟨s1,⟨he,s',l,hle,hres,hQ⟩,hg⟩
 obtain ⟨_,ι',g1,g2⟩ := hle C' a' w' hg
 obtain ⟨ys,h1,h2⟩ := uL (P := P) g1 g2 hres
 have hres' : (results fn a'.tmps).run P w' = .ok (if h : ys.toArray.size = 1 then ys.toArray[0] else .tuple ys.toArray) w' := by
  have hr1 : results fn a'.tmps = (do let vs ← fn.results.mapM (y9 a'); pure (if h : vs.size = 1 then vs[0] else .tuple vs)) := by
   unfold results
   congr 1
  rw [hr1,Array.mapM_eq_mapM_toList,Sem.run_bind,Sem.run_map,h1]
  simp only [Result.andThen_ok,Sem.run_pure]
 have g3 : HG C ι' (fun _ => False) (aP s'.hs) w' := ⟨g2.obj,g2.sep,g2.fr,g2.ex,fun _ h => h.elim⟩
 rcases he with rfl|rfl
 ·exact ⟨g1.df,_,hres',_,_,_,ι',rfl,hQ,lY h2,g3⟩
 ·exact ⟨g1.df,_,hres',_,_,_,ι',rfl,hQ,lY h2,g3⟩
def m5 (mpF fr : Nat → Option Nat) (j : Nat) : Option Nat := match mpF j with | some i => some i | none => fr j
theorem xQ {P:Program}{k:FuncId}{args args':List AV}{H0 hh:Nat → Option (List AV)}{F0:Nat → Prop}{mpF fr fi:Nat → Option Nat}{r rr':AV}{H2:Nat → Option (List AV)}
  (h : sV P k args H0 F0 (fun r' H' => r' = r ∧ ∀ j cs,hh j = some cs → H' j = some cs)) (hmi : ∀ j j' i,mpF j = some i → mpF j' = some i → j = j') (hfi : ∀ i j,fi i = some j ↔ fr j = some i) (hmf : ∀ j i,fr j = some i → mpF j = none) (hF0 : ∀ j,F0 j → mpF j = none)
  {C : Ctx} {ι : Pl} {F : Nat → Prop} {H : Nat → Option (List AV)} {w : World} (g : HG C ι F H w)
  (hH0 : ∀ j i,mpF j = some i → ∃ cs cs',H0 j = some cs ∧ H i = some cs' ∧ RnL mpF cs cs') (hH1 : ∀ j cs,H0 j = some cs → ∃ i,mpF j = some i)
  (ha : RnL mpF args args') (hF : ∀ j i,fr j = some i → F i) (hr : RnV (m5 mpF fr) r rr')
  (hw : ∀ i cs',H2 i = some cs' → (∃ j cs,m5 mpF fr j = some i ∧ hh j = some cs ∧ RnL (m5 mpF fr) cs cs') ∨ (H i = some cs' ∧ ∀ j,mpF j ≠ some i))
  {vals : List Value} (hv : RdV w (aE C.X ι H) ι args' vals) :
  Calls P k vals.toArray w (fun e w' => ∃ v ι',e = .returned v ∧ HG C ι' (fun j => F j ∧ fi j = none) H2 w' ∧ Carry w (aE C.X ι H) ι w' (aE C.X ι' H2) ι' ∧ Rd w' (aE C.X ι' H2) ι' rr' v) := by
 let W0 : Nat → Prop := fun b => ∃ (j i β : Nat),mpF j = some i ∧ ι i = some (some (b,β))
 let Xc : Nat → Prop := fun b => aE C.X ι H b ∧ ¬ W0 b
 let ιc : Pl := fun j => match mpF j with|some i => ι i|none => none
 let C' : Ctx := { N := 0,w0 := w,W0 := W0,X := Xc,ι0 := ιc,xlt := fun b hb => g.bad_lt b hb.1 }
 have hW0 : ∀ b, W0 b → ¬ C.X b ∧ (C.W0 b ∨ C.w0.heap.size ≤ b) ∧ aE C.X ι H b := by
  rintro b ⟨j,i,β,h1,h2⟩
  obtain ⟨cs,cs',q1,q2,q3⟩ := hH0 j i h1
  rcases g.obj i cs' q2 with ⟨q,_⟩ | ⟨b',β',arr,e,q,q4,q5,q6,q7,q8⟩
  ·rw [q] at h2;cases h2
  ·rw [q] at h2;cases h2;exact ⟨q7,q8,.inr ⟨i,cs',_,q2,q⟩⟩
 have hnone : ∀ i j,fi i = some j → ι i = none := fun i j h1 => g.fresh i (hF j i ((hfi i j).1 h1))
 have hιc : ∀ j i,mpF j = some i → ιc j = ι i := fun j i h => by simp only [ιc,h]
 have hbadc : ∀ b, aE Xc ιc H0 b → aE C.X ι H b := by
  rintro b (⟨h1,_⟩ | ⟨j,cs,β,h1,h2⟩)
  ·exact h1
  ·obtain ⟨i, hi⟩ := hH1 j cs h1
   rw [hιc j i hi] at h2
   exact (hW0 b ⟨j,_,β,hi,h2⟩).2.2
 have hbadc2 : ∀ b, aE C.X ι H b → aE Xc ιc H0 b := by
  intro b hb
  by_cases hw0 : W0 b
  ·obtain ⟨j, i, β, h1, h2⟩ := hw0
   obtain ⟨cs,cs',q1,q2,q3⟩ := hH0 j i h1
   exact .inr ⟨j,cs,β,q1,by rw [hιc j i h1]; exact h2⟩
  ·exact .inl ⟨hb,hw0⟩
 have gc : HG C' ιc F0 H0 w := by
  refine ⟨fun j cs hj => ?_,fun j j' cs cs' b β β' h1 h2 h3 h4 => ?_,Fr.refl _ _,fun _ _ h => h,fun j hj => ?_⟩
  ·obtain ⟨i, hi⟩ := hH1 j cs hj
   obtain ⟨cs1,cs',q1,q2,q3⟩ := hH0 j _ hi
   rw [hj] at q1;cases q1
   rcases g.obj _ cs' q2 with ⟨q4,q5⟩ | ⟨b',β',arr,e,q4,q5,q6,q7,q8,q9⟩
   ·refine .inl ⟨by rw [hιc j i hi]; exact q4, ?_⟩
    subst q5
    exact List.eq_nil_of_length_eq_zero (by rw [q3.len]; rfl)
   ·have hw0 : W0 b' := ⟨j, _, β', hi, q4⟩
    exact .inr ⟨b',β',arr,e,by rw [hιc j i hi]; exact q4,q5,by rw [q3.len]; exact q6,RnL.bwC hιc hbadc q3 q7,fun hx => hx.2 hw0,.inl hw0⟩
  ·obtain ⟨i, hi⟩ := hH1 j cs h1
   obtain ⟨i',hi'⟩ := hH1 j' cs' h2
   obtain ⟨_,c1,_,q2,_⟩ := hH0 j _ hi
   obtain ⟨_,c2,_,q2',_⟩ := hH0 j' _ hi'
   rw [hιc j i hi] at h3
   rw [hιc j' i' hi'] at h4
   have := g.sep _ _ _ _ _ _ _ q2 q2' h3 h4
   exact hmi j j' i hi (by rw [hi',this])
  ·show ιc j = none
   simp only [ιc,hF0 j hj]
 have hvc : RdV w (aE C'.X ιc H0) ιc args vals := RnL.bwV hιc hbadc ha hv
 refine (h C' ιc w vals rfl rfl gc hvc).mono ?_
 rintro e w' ⟨v,r0,H',ιr,rfl,⟨rfl,hkeep⟩,hrd,gr⟩
 let ι' : Pl := fun i => match fi i with|some j => ιr j|none => ι i
 have hmpf : ∀ (j i : Nat), mpF j = some i → fi i = none := by
  intro j i hj
  cases hq : fi i with
  | none => rfl
  | some j2 =>
   obtain ⟨cs,cs',q1,q2,q3⟩ := hH0 j i hj
   rcases g.obj i cs' q2 with ⟨q,_⟩ | ⟨_,_,_,_,q,_⟩ <;> (rw [hnone i _ hq] at q;cases q)
 have hιr : ∀ (j i : Nat), mpF j = some i → ιr j = ι i := by
  intro j i hj
  obtain ⟨cs,cs',q1,q2,q3⟩ := hH0 j i hj
  have : ∃ q, ι i = some q := by
   rcases g.obj i cs' q2 with ⟨q,_⟩ | ⟨_,_,_,_,q,_⟩
   ·exact ⟨_,q⟩
   ·exact ⟨_,q⟩
  obtain ⟨q,hq⟩ := this
  rw [hq]
  exact gr.ex j q (by show ιc j = some q;rw [hιc j i hj]; exact hq)
 have hρ1 : ∀ j i, m5 mpF fr j = some i → (mpF j = some i) ∨ (mpF j = none ∧ fr j = some i) := by
  intro j i hj
  unfold m5 at hj
  split at hj
  ·cases hj;exact .inl (by assumption)
  ·exact .inr ⟨by assumption,hj⟩
 have hto : ∀ j i, m5 mpF fr j = some i → ιr j = ι' i := by
  intro j i hj
  rcases hρ1 j i hj with h2 | ⟨h1,h2⟩
  ·rw [hιr j i h2]; simp only [ι',hmpf j i h2]
  ·simp only [ι',(hfi i j).2 h2]
 have hcase := hw
 have hold : ∀ i cs', H i = some cs' → ι' i = ι i := by
  intro i cs' hi
  simp only [ι']
  cases hq : fi i with
  | none => rfl
  | some j2 => rcases g.obj i cs' hi with ⟨q,_⟩ | ⟨_,_,_,_,q,_⟩ <;> (rw [hnone i _ hq] at q;cases q)
 have hnW : ∀ (i : Nat) cs' b β, H i = some cs' → (∀ j, mpF j ≠ some i) → ι i = some (some (b, β)) → ¬ W0 b := by
  rintro i cs' b β hi hm hb ⟨j,i2,β2,q1,q2⟩
  obtain ⟨cs,c2,_,q3,_⟩ := hH0 j i2 q1
  have := g.sep _ _ _ _ _ _ _ hi q3 hb q2
  subst this
  exact hm j q1
 have hobjlt : ∀ i cs' b β,H i = some cs' → ι i = some (some (b,β)) → b < w.heap.size := fun i cs' b β hi hb => g.bad_lt b (.inr ⟨i,cs',β,hi,hb⟩)
 have hcal : ∀ j cs b β, H' j = some cs → ιr j = some (some (b, β)) → W0 b ∨ w.heap.size ≤ b := by
  intro j cs b β hj hb
  rcases gr.obj j cs hj with ⟨q,_⟩ | ⟨b',β',arr,e,q,q4,q5,q6,q7,q8⟩
  ·rw [q] at hb;cases hb
  ·rw [q] at hb;cases hb;exact q8
 have hbad : ∀ b, aE C.X ι' H2 b → aE C.X ι H b ∨ w.heap.size ≤ b := by
  rintro b (h1 | ⟨i,cs',β,h1,h2⟩)
  ·exact .inl (.inl h1)
  ·rcases hcase i cs' h1 with ⟨j, cs, q1, q2, q3⟩ | ⟨q1, q2⟩
   ·rw [← hto j i q1] at h2
    rcases hcal j cs b β (hkeep j cs q2) h2 with q|q
    ·exact .inl (hW0 b q).2.2
    ·exact .inr q
   ·rw [hold i cs' q1] at h2;exact .inl (.inr ⟨i,cs',β,q1,h2⟩)
 have hfr := gr.fr
 have hcar : Carry w (aE C.X ι H) ι w' (aE C.X ι' H2) ι' := by
  refine ⟨fun b o y h1 h2 => ?_,fun i q hq => ?_,hfr.bs⟩
  ·have hlt := jE h2
   refine ⟨fun hb => ?_,?_⟩
   ·rcases hbad b hb with h | h
    ·exact h1 h
    ·omega
   ·rw [cP (hfr.block b hlt (fun hw0 => h1 (hW0 b hw0).2.2))]; exact h2
  ·simp only [ι']
   cases hq2 : fi i with
   | none => exact hq
   | some j2 => rw [hnone i _ hq2] at hq;cases hq
 have hrn2 : RnH w' (m5 mpF fr) (aE C'.X ιr H') ιr (aE C.X ι' H2) ι' := by
  refine ⟨⟨fun b o y h1 h2 => ⟨fun hb => h1 ?_,h2⟩,fun _ _ h => h,fun _ => Nat.le_refl _⟩,fun j i hj => hto j i hj⟩
  rcases hb with hb | ⟨i,cs',β,q1,q2⟩
  ·exact .inl ⟨.inl hb,fun hw0 => (hW0 b hw0).1 hb⟩
  ·rcases hcase i cs' q1 with ⟨j, cs, r1, r2, r3⟩ | ⟨r1, r2⟩
   ·rw [← hto j i r1] at q2
    exact .inr ⟨j,cs,β,hkeep j cs r2,q2⟩
   ·rw [hold i cs' r1] at q2
    exact .inl ⟨.inr ⟨i,cs',β,r1,q2⟩,hnW i cs' b β r1 r2 q2⟩
 refine ⟨v,ι',rfl,⟨fun i cs' hi => ?_,fun i i2 cs1 cs2 b β β' h1 h2 h3 h4 => ?_,⟨hfr.os.trans g.fr.os,hfr.tape.trans g.fr.tape,hfr.output.trans g.fr.output,Nat.le_trans g.fr.size hfr.size,fun b hb hnw => ?_,fun b => Nat.le_trans (g.fr.bs b) (hfr.bs b)⟩,fun i q hq => hcar.pl i q (g.ex i q hq),fun i hi => ?_⟩,hcar,RnV.fwd hrn2 hr hrd⟩
 ·rcases hcase i cs' hi with ⟨j, cs, q1, q2, q3⟩ | ⟨q1, q2⟩
  ·rcases gr.obj j cs (hkeep j cs q2) with ⟨r1, r2⟩ | ⟨b, β, arr, e, r1, r2, r3, r4, r5, r6⟩
   ·refine .inl ⟨by rw [← hto j i q1]; exact r1, ?_⟩
    subst r2
    exact List.eq_nil_of_length_eq_zero (by rw [← q3.len]; rfl)
   ·refine .inr ⟨b, β, arr, e, by rw [← hto j i q1]; exact r1, r2, by rw [← q3.len]; exact r3, RnL.fwdC hrn2 q3 r4, ?_, ?_⟩
    ·rcases r6 with r6 | r6
     ·exact (hW0 b r6).1
     ·intro hX
      have := C.xlt b hX
      have := g.fr.size
      have : w.heap.size ≤ b := r6
      omega
    ·rcases r6 with r6 | r6
     ·exact (hW0 b r6).2.1
     ·refine .inr ?_
      have := g.fr.size
      have : w.heap.size ≤ b := r6
      omega
  ·rcases g.obj i cs' q1 with ⟨r1, r2⟩ | ⟨b, β, arr, e, r1, r2, r3, r4, r5, r6⟩
   ·exact .inl ⟨by rw [hold i cs' q1]; exact r1,r2⟩
   ·have hlt := dU r2
    have hbl := hfr.block b hlt (hnW i cs' b β q1 q2 r1)
    exact .inr ⟨b,β,arr,e,by rw [hold i cs' q1]; exact r1,by rw [hbl]; exact r2,r3,RdC.carryB hcar _ _ _ (fun o y hy => by rw [cP hbl]; exact hy) r4,r5,r6⟩
 ·rcases hcase i cs1 h1 with ⟨j, c1, q1, q2, q3⟩ | ⟨q1, q2⟩ <;> rcases hcase i2 cs2 h2 with ⟨j2, c2, q1', q2', q3'⟩ | ⟨q1', q2'⟩
  ·rw [← hto j i q1] at h3
   rw [← hto j2 i2 q1'] at h4
   have := gr.sep _ _ _ _ _ _ _ (hkeep j c1 q2) (hkeep j2 c2 q2') h3 h4
   subst this
   rw [q1] at q1'; cases q1'; rfl
  ·rw [← hto j i q1] at h3
   rw [hold i2 cs2 q1'] at h4
   have hlt := hobjlt i2 cs2 b _ q1' h4
   rcases hcal j c1 b _ (hkeep j c1 q2) h3 with q|q
   ·exact (hnW i2 cs2 b _ q1' q2' h4 q).elim
   ·omega
  ·rw [hold i cs1 q1] at h3
   rw [← hto j2 i2 q1'] at h4
   have hlt := hobjlt i cs1 b _ q1 h3
   rcases hcal j2 c2 b _ (hkeep j2 c2 q2') h4 with q|q
   ·exact (hnW i cs1 b _ q1 q2 h3 q).elim
   ·omega
  ·rw [hold i cs1 q1] at h3
   rw [hold i2 cs2 q1'] at h4
   exact g.sep _ _ _ _ _ _ _ q1 q1' h3 h4
 ·have hb2 : b < w.heap.size := by have := g.fr.size; omega
  rw [hfr.block b hb2 (fun hw0 => ?_)]
  ·exact g.fr.block b hb hnw
  ·rcases (hW0 b hw0).2.1 with q | q
   ·exact hnw q
   ·omega
 ·simp only [ι', hi.2]
  exact g.fresh i hi.1
attribute [local irreducible] aS
def Jm (P : Program) (k : FuncId) (args : List AV) (R0 : List (List Bool)) (r : AV) (hh : List (Nat × Option (List AV))) : Prop :=
 sV P k args (aP (fA R0)) (Fn 0 ⟨0,aS + R0.length⟩) (fun r' H' => r' = r ∧ ∀ id cs,aP (hh ++ fA R0) id = some cs → H' id = some cs)
def J1 (P : Program) (k : FuncId) (args : List AV) (r : AV) (R1 : List (List Bool)) : Prop :=
 sV P k args (aP []) (Fn 0 ⟨0,aS⟩) (fun r' H' => r' = r ∧ ∀ id cs,aP (fA R1) id = some cs → H' id = some cs)
theorem nB {hs:List (Nat × Option (List AV))}{r r':AV}{R0:List (List Bool)}{hh:List (Nat × Option (List AV))}(hr:r' = r) (hh':lH hs hh) (hF:FamR R0 R0 hs hs):r' = r ∧ ∀ id cs,aP (hh ++ fA R0) id = some cs → aP hs id = some cs:=by
 refine ⟨hr,fun id cs h => ?_⟩
 rcases oA h with h|h
 ·exact lO hh' id cs h
 ·obtain ⟨k, hk, rfl, rfl⟩ := jQ h
  exact hF.get hk
theorem Ie {hs:List (Nat × Option (List AV))}{r r':AV}{R0:List (List Bool)}(hr:r' = r) (hF:FamR R0 R0 hs hs):r' = r ∧ ∀ id cs,aP (fA R0) id = some cs → aP hs id = some cs :=
 nB (hh := []) hr trivial hF
def Fx (b m : Nat) (j : Nat) : Option Nat := if aS ≤ j ∧ j < aS + m then some (b + j) else none
def Jo (n n1 : Nat) (j : Nat) : Option Nat := if j < n1 then some (n + j) else none
def Kc (n n1 : Nat) (i : Nat) : Option Nat := if n ≤ i ∧ i < n + n1 then some (i - n) else none
def JZ (b m n n1 : Nat) : Nat → Option Nat := m5 (Fx b m) (Jo n n1)
theorem BK {mpF fr:Nat → Option Nat}{j i:Nat}(h:mpF j = some i):m5 mpF fr j = some i := by unfold m5;rw [h]
theorem Bw {mpF fr:Nat → Option Nat}{j:Nat}(h:mpF j = none):m5 mpF fr j = fr j := by unfold m5;rw [h]
theorem kG {b m k:Nat}(h:k < m):Fx b m (k + aS) = some (b + k + aS):=by
 unfold Fx;rw [if_pos (by omega),Nat.add_assoc]
theorem GR {b m n n1 k:Nat}(h:k < m):JZ b m n n1 (k + aS) = some (b + k + aS) := BK (kG h)
theorem oE {b m n n1 j:Nat}(h:j < n1) (hb:j < aS):JZ b m n n1 j = some (n + j):=by
 have e : Fx b m j = none := by unfold Fx;rw [if_neg (by omega)]
 refine (Bw e).trans ?_
 unfold Jo;rw [if_pos h]
theorem rn_rows {ρ:Nat → Option Nat}{b b' m w:Nat}(h:∀ k,k < m → ρ (b + k + aS) = some (b' + k + aS)):RnL ρ (flat (uU b w) (List.range m)) (flat (uU b' w) (List.range m)) :=
 RnL.flt fun k hk => by rw [List.mem_range] at hk;exact .cons (.own (h k hk)) .nil
theorem cE {m:List (Nat × Nat)}{lo:Lo}{pn:Option Nat}{b k w:Nat}(h:aS + (b + k) ≤ lo.fb):RnL (gN m lo pn) (flat (uU b w) (List.range k)) (flat (uU b w) (List.range k)) :=
 rn_rows fun j hj => fG (by omega) (by omega)
def Jq (ρ : Nat → Option Nat) (hh : List (Nat × Option (List AV))) : List (Nat × Option (List AV)) → Prop
 | [] => True
 | (i,none) :: l => Jq ρ hh l
 | (i,some cs') :: l => (∃ j cs,ρ j = some i ∧ aP hh j = some cs ∧ RnL ρ cs cs') ∧ Jq ρ hh l
theorem zH {ρ:Nat → Option Nat}{hh:List (Nat × Option (List AV))}:∀ {ws:List (Nat × Option (List AV))},Jq ρ hh ws → ∀ i cs',(i,some cs') ∈ ws → ∃ j cs,ρ j = some i ∧ aP hh j = some cs ∧ RnL ρ cs cs'
 | [],_,i,cs',h => by simp at h
 | (u, none) :: l, hw, i, cs', h => by
  simp only [Jq] at hw
  rcases List.mem_cons.1 h with h|h
  ·cases h
  ·exact zH hw i cs' h
 | (u, some c) :: l, hw, i, cs', h => by
  simp only [Jq] at hw
  rcases List.mem_cons.1 h with h|h
  ·cases h;exact hw.1
  ·exact zH hw.2 i cs' h
section
variable {P : Program} {N : Nat} {Q : Exit → AS → Prop} {all : Array Oper} {rest : List Oper} {ts : List (Nat × AV)} {hs : List (Nat × Option (List AV))} {n : Nat} {z0 : Lo} {md : Md}
variable {d : Nat} {ty : TypeId} {pos : String} {af : Array Edge}
theorem wC {k:FuncId}{args:Array Operand}{tys:Array TypeId}{avs avs0:List AV}{R R0:List (List Bool)}{r rr':AV}{hh:List (Nat × Option (List AV))}(b n1:Nat) (D:List Nat) (ws:List (Nat × Option (List AV))) [hc:CaT P k]
  (ha : evL (lk ts) args.toList = some avs) (h : Jm P k avs0 R0 r hh) (hF : FamR R R hs hs) (hb : b + R0.length ≤ R.length) (hR : ∀ k,k < R0.length → R0[k]! = R[b + k]!) (hD : ∀ k,k < R0.length → b + k + aS ∈ D)
  (har : RnL (Fx b R0.length) avs0 avs) (hk : eN aS hh = true) (hr : RnV (JZ b R0.length n n1) r rr') (hw : Jq (JZ b R0.length n n1) hh ws) (hM : Nat.ble (n + n1) aS = true) (hN : Nat.blt d N = true)
  {md' : Md} [hmd : MdA md (iD args.toList ++ D.map .inr) (ws.map (fun p => .inr p.1) ++ [.inl d]) md']
  (kk : RW P N all Q md' rest ⟨(d,rr') :: ts,kO hs ws,n + n1,z0⟩) : RW P N all Q md (⟨some d,.call ⟨.value (.func k),args,tys⟩,ty,pos,af,none⟩ :: rest) ⟨ts,hs,n,z0⟩ := by
 have hM' := Nat.le_of_ble_eq_true hM
 refine gV (rs := iD args.toList ++ D.map .inr) (ws := ws) (n' := n + n1) (out := rr') rfl (Nat.le_add_right _ _) (.inr hM') (fun C ι F T H a w K Q' hCN ag hFf g gh hK => ?_) (fun x hx => by cases hx;exact cH hN) (by simp only [wD]; rw [← hmd.pf] at kk;exact kk)
 simp only [Oper.wp,dX hc.pf,Oper.upon]
 have hH : ∀ q, q < R0.length → H (b + q + aS) = some (flat cB R[b + q]!) := fun q hq => by
  rw [ag.r.h _ (List.mem_map_of_mem (hD q hq))]; exact hF.get (by omega)
 have hmp : ∀ j i, Fx b R0.length j = some i → ∃ q, q < R0.length ∧ j = q + aS ∧ i = b + q + aS := by
  intro j i hj
  unfold Fx at hj
  split at hj
  ·cases hj;exact ⟨j - aS,by omega,by omega,by omega⟩
  ·cases hj
 have hrh : ∀ j i, Jo n n1 j = some i → j < n1 ∧ i = n + j := by
  intro j i hj
  unfold Jo at hj
  split at hj
  ·cases hj;exact ⟨by assumption,rfl⟩
  ·cases hj
 refine (xQ (fr := Jo n n1) (fi := Kc n n1) (hh := aP (hh ++ fA R0)) (H2 := iA H ws) h (fun j j' i h1 h2 => ?_) (fun i j => ?_) (fun j i h1 => ?_) (fun j hj => ?_) gh (fun j i hj => ?_) (fun j cs hj => ?_) har (fun j i hj => ?_) hr (fun i cs' hi => ?_) (fN g (ag.l.evL.trans ha))).mono ?_
 ·obtain ⟨q, _, _, _⟩ := hmp j i h1
  obtain ⟨q',_,_,_⟩ := hmp j' i h2
  omega
 ·unfold Kc Jo
  constructor
  ·intro h1
   split at h1
   ·cases h1;rw [if_pos (by omega)]; congr 1;omega
   ·cases h1
  ·intro h1
   split at h1
   ·cases h1;rw [if_pos (by omega)]; congr 1;omega
   ·cases h1
 ·have := hrh j i h1
  unfold Fx;rw [if_neg (by omega)]
 ·have h1 : j < aS ∨ aS + R0.length ≤ j := hj.2
  unfold Fx;rw [if_neg (by omega)]
 ·obtain ⟨q, q1, rfl, rfl⟩ := hmp j i hj
  refine ⟨flat cB R0[q]!,flat cB R[b + q]!,?_,hH q q1,?_⟩
  ·rw [mA,if_pos q1]
  ·rw [hR q q1]; exact .pur (inferInstance : Pur (flat cB R[b + q]!)).pf
 ·obtain ⟨q, q1, rfl, rfl⟩ := jQ hj
  exact ⟨_,kG q1⟩
 ·obtain ⟨q1, rfl⟩ := hrh j i hj
  exact hFf _ (Nat.le_add_right _ _) (by omega)
 ·rcases oX hi with h1 | ⟨h1, h2⟩
  ·obtain ⟨j, cs, q1, q2, q3⟩ := zH hw i cs' h1
   exact .inl ⟨j,cs,q1,E0 q2,q3⟩
  ·by_cases hq : ∃ q, q < R0.length ∧ i = b + q + aS
   ·obtain ⟨q, q1, rfl⟩ := hq
    rw [hH q q1] at h1
    cases h1
    refine .inl ⟨q + aS,flat cB R0[q]!,GR q1,?_,?_⟩
    ·rw [DN (nU (by omega) hk),mA,if_pos q1]
    ·rw [hR q q1]; exact .pur (inferInstance : Pur (flat cB R[b + q]!)).pf
   ·refine .inr ⟨h1, fun j hj => hq ?_⟩
    obtain ⟨q,q1,_,q2⟩ := hmp j i hj
    exact ⟨q,q1,q2⟩
 ·rintro e w' ⟨v, ι', rfl, g', c', hrd⟩
  refine hK ι' w' v (g.carry c') (g'.less (fun _ _ h => h) (fun j hj => ⟨hj.1,?_⟩)).1 hrd
  unfold Kc;rw [if_neg hj.2]
theorem Ev {k:FuncId}{args:Array Operand}{tys:Array TypeId}{avs:List AV}{R R1:List (List Bool)}{r rr':AV}{hs':List (Nat × Option (List AV))}{l0:Nat}[hc:CaT P k]
  (ha : evL (lk ts) args.toList = some avs) (h : J1 P k avs r R1) (hp : aZ avs = true) (hF : FamR R (R ++ R1) hs hs') (hz : z0 = ⟨l0,aS + R.length⟩)
  (hr : RnV (fun j => if aS ≤ j ∧ j < aS + R1.length then some (R.length + j) else none) r rr') (hM : Nat.ble n aS = true) (hN : Nat.blt d N = true)
  (kk : RW P N all Q .txt rest ⟨(d,rr') :: ts,hs',n,⟨l0,aS + (R ++ R1).length⟩⟩) : RW P N all Q .txt (⟨some d,.call ⟨.value (.func k),args,tys⟩,ty,pos,af,none⟩ :: rest) ⟨ts,hs,n,z0⟩ := by
 subst hz
 rintro C a w hCN ⟨h0,ι,g,gh⟩
 refine wpList_plain rfl (fun K hK => ?_)
 simp only [Oper.wp,dX hc.pf,Oper.upon]
 have hM' := Nat.le_of_ble_eq_true hM
 have hrh : ∀ j i, (fun j => if aS ≤ j ∧ j < aS + R1.length then some (R.length + j) else none) j = some i → aS ≤ j ∧ j < aS + R1.length ∧ i = R.length + j := by
  intro j i hj
  dsimp only at hj
  split at hj
  ·rename_i hh;cases hj;exact ⟨hh.1,hh.2,rfl⟩
  ·cases hj
 have hrho : m5 (fun _ => none) (fun j => if aS ≤ j ∧ j < aS + R1.length then some (R.length + j) else none) = (fun j => if aS ≤ j ∧ j < aS + R1.length then some (R.length + j) else none) := by funext j;rfl
 have hlen : (R ++ R1).length = R.length + R1.length := List.length_append
 refine (xQ (mpF := fun _ => none) (fr := fun j => if aS ≤ j ∧ j < aS + R1.length then some (R.length + j) else none) (fi := fun i => if aS + R.length ≤ i ∧ i < aS + R.length + R1.length then some (i - R.length) else none) (hh := aP (fA R1)) (H2 := aP hs') (args' := avs)
  h (fun j j' i h1 h2 => by cases h1) (fun i j => ?_) (fun j i h1 => rfl) (fun j hj => rfl) gh (fun j i hj => by cases hj) (fun j cs hj => by simp [aP] at hj) (.pur hp) (fun j i hj => ?_) (rr' := rr') (by rw [hrho]; exact hr) (fun i cs' hi => ?_) (fN g ha)).mono ?_
 ·constructor
  ·intro h1
   split at h1
   ·cases h1;rw [if_pos (by omega)]; congr 1;omega
   ·cases h1
  ·intro h1
   split at h1
   ·cases h1;rw [if_pos (by omega)]; congr 1;omega
   ·cases h1
 ·obtain ⟨q1, q2, rfl⟩ := hrh j i hj
  exact ⟨by show n ≤ R.length + j;omega,.inr (by show aS + R.length ≤ R.length + j;omega)⟩
 ·rcases Nat.lt_or_ge i aS with hi2 | hi2
  ·exact .inr ⟨by rw [hF.low i hi2]; exact hi,fun j => by simp⟩
  ·obtain ⟨q, rfl⟩ : ∃ q, i = q + aS := ⟨i - aS, by omega⟩
   have hg := hF.symm.fam q
   rw [hi] at hg
   split at hg
   ·rename_i hq
    cases hg
    rcases Nat.lt_or_ge q R.length with hq2|hq2
    ·refine .inr ⟨?_, fun j => by simp⟩
     have e : (R ++ R1)[q]! = R[q]! := by rw [bE _ _ hq,bE _ _ hq2,List.getElem_append_left hq2]
     rw [e]; exact hF.get hq2
    ·refine .inl ⟨(q - R.length) + aS, flat cB R1[q - R.length]!, ?_, ?_, ?_⟩
     ·rw [hrho]
      show (if aS ≤ q - R.length + aS ∧ q - R.length + aS < aS + R1.length then some (R.length + (q - R.length + aS)) else none) = some (q + aS)
      rw [if_pos (by omega)]; congr 1;omega
     ·rw [mA,if_pos (by omega)]
     ·have e : (R ++ R1)[q]! = R1[q - R.length]! := by rw [bE _ _ hq, bE _ _ (by omega), List.getElem_append_right hq2]
      rw [e]; exact .pur (inferInstance : Pur (flat cB R1[q - R.length]!)).pf
   ·cases hg
 ·rintro e w' ⟨v, ι', rfl, g', c', hrd⟩
  refine hK _ _ (kk C _ _ hCN ⟨fun id hid => ?_,ι',?_,?_⟩)
  ·rcases h0 id hid with q | q
   ·exact .inl ⟨q.1,by have := q.2;show id < aS + (R ++ R1).length;have h5 : id < aS + R.length := this;omega⟩
   ·exact .inr q
  ·show TG C ι' (lk ((d, rr') :: ts)) _ _ _
   rw [kM]
   exact (g.carry c').put (hCN.symm ▸ cH hN) hrd
  ·refine (g'.less (fun _ _ h => h) (fun j hj => ?_)).1
   have h3 : n ≤ j := hj.1
   have h4 : j < aS ∨ aS + (R ++ R1).length ≤ j := hj.2
   refine ⟨⟨h3,?_⟩,?_⟩
   ·show j < aS ∨ aS + R.length ≤ j
    omega
   ·rw [if_neg (by omega)]
end
theorem Fj {P:Program}{k:FuncId}{fn:Func}{c:Code}{args:List AV}{R0:List (List Bool)}{r:AV}{hh:List (Nat × Option (List AV))}(hf:P.funcs[k]? = some fn) (hb:fn.body = some c) (hN:args.length ≤ fn.ntmps)
  (h : AW P fn.ntmps c (lJ P fn.results (fun r' H' => r' = r ∧ ∀ id cs,aP (hh ++ fA R0) id = some cs → H' id = some cs)) ⟨fQ 0 args,fA R0,0,⟨0,aS + R0.length⟩⟩) : Jm P k args R0 r hh := mE hf hb hN h
theorem Fi {P:Program}{k:FuncId}{fn:Func}{c:Code}{args:List AV}{R1:List (List Bool)}{r:AV}(hf:P.funcs[k]? = some fn) (hb:fn.body = some c) (hN:args.length ≤ fn.ntmps)
  (h : AW P fn.ntmps c (lJ P fn.results (fun r' H' => r' = r ∧ ∀ id cs,aP (fA R1) id = some cs → H' id = some cs)) ⟨fQ 0 args,[],0,⟨0,aS⟩⟩) : J1 P k args r R1 := mE hf hb hN h
theorem Le.virt {ts:List (Nat × AV)}{hs:List (Nat × Option (List AV))}{n:Nat}{z0:Lo}(hn:n < aS):Le ⟨ts,hs,n,z0⟩ ⟨ts,(n,some []) :: hs,n + 1,z0⟩:=by
 rintro C a w ⟨h0,ι,g,gh⟩
 obtain ⟨g1,c1⟩ := gh.virt (id := n) ⟨Nat.le_refl _,.inl hn⟩
 have e : aP ((n,some []) :: hs) = c9 (aP hs) n (some []) := xB _ _ _
 refine ⟨h0,c9 ι n (some none),?_,?_⟩
 ·show TG C _ (lk ts) (aP ((n, some []) :: hs)) a w
  rw [e]; exact g.carry c1
 ·show HG C _ _ (aP ((n, some []) :: hs)) w
  rw [e]
  refine (g1.less (fun _ _ h => h) (fun j hj => ?_)).1
  have h1 : n + 1 ≤ j := hj.1
  exact ⟨⟨by show n ≤ j;omega,hj.2⟩,by omega⟩
theorem Le.cellsN {ts:List (Nat × AV)}{hs:List (Nat × Option (List AV))}{n:Nat}{z0:Lo}{i q:Nat}{cs cs' cq:List AV}(hi:aP hs i = some cs) (hq:aP hs q = some cq) (hl:cs'.length = cs.length)
  (h : ∀ (w : World) (bad : Nat → Prop) (ι : Pl) (b β : Nat),(∃ p,ι q = some p) → RdC w bad ι cs b β → RdC w bad ι cs' b β) :
  Le ⟨ts,hs,n,z0⟩ ⟨ts,(i,some cs') :: hs,n,z0⟩ := by
 rintro C a w ⟨h0,ι,g,gh⟩
 have hqq : ∃ p, ι q = some p := by
  rcases gh.obj q cq hq with ⟨p1,_⟩ | ⟨_,_,_,_,p1,_⟩ <;> exact ⟨_,p1⟩
 have hk : ∀ id c, aP ((i, some cs') :: hs) id = some c → (id = i ∧ c = cs') ∨ (id ≠ i ∧ aP hs id = some c) := by
  intro id c hc
  rw [bW] at hc
  split at hc
  ·rename_i e;cases hc;exact .inl ⟨e,rfl⟩
  ·rename_i e;exact .inr ⟨fun h => e h,hc⟩
 have hk2 : ∀ id c, aP hs id = some c → ∃ c', aP ((i, some cs') :: hs) id = some c' := by
  intro id c hc
  rw [bW]
  split
  ·exact ⟨_,rfl⟩
  ·exact ⟨_,hc⟩
 have hb : aE C.X ι (aP ((i, some cs') :: hs)) = aE C.X ι (aP hs) := by
  funext b
  refine propext ⟨?_,?_⟩
  ·rintro (h | ⟨id, c, β, h1, h2⟩)
   ·exact .inl h
   ·rcases hk id c h1 with ⟨rfl, _⟩ | ⟨_, h3⟩
    ·exact .inr ⟨_,_,_,hi,h2⟩
    ·exact .inr ⟨_,_,_,h3,h2⟩
  ·rintro (h | ⟨id, c, β, h1, h2⟩)
   ·exact .inl h
   ·obtain ⟨c', h3⟩ := hk2 id c h1
    exact .inr ⟨_,_,_,h3,h2⟩
 refine ⟨h0,ι,⟨g.df,g.sz,fun t av ht => ?_⟩,?_,?_,gh.fr,gh.ex,gh.fresh⟩
 ·show ∃ y, a.tmps[t]? = some y ∧ Rd w (aE C.X ι (aP ((i, some cs') :: hs))) ι av y
  rw [hb]; exact g.tm t av ht
 ·intro id c hc
  show _ ∨ ∃ b β arr e,ι id = some (some (b,β)) ∧ w.heap[b]? = some (.cells arr e (0,0)) ∧ β + c.length ≤ arr.size ∧ RdC w (aE C.X ι (aP ((i,some cs') :: hs))) ι c b β ∧ ¬ C.X b ∧ (C.W0 b ∨ C.w0.heap.size ≤ b)
  rw [hb]
  rcases hk id c hc with ⟨rfl,rfl⟩ | ⟨_,h3⟩
  ·rcases gh.obj _ _ hi with ⟨q1, q2⟩ | ⟨b, β, arr, e, q1, q2, q3, q4, q5⟩
   ·subst q2
    exact .inl ⟨q1,List.eq_nil_of_length_eq_zero hl⟩
   ·exact .inr ⟨b,β,arr,e,q1,q2,by rw [hl]; exact q3,h _ _ _ _ _ hqq q4,q5⟩
  ·exact gh.obj _ _ h3
 ·intro id id' c c' b β β' h1 h2 h3 h4
  obtain ⟨d1, e1⟩ : ∃ d, aP hs id = some d := by
   rcases hk id c h1 with ⟨rfl,_⟩ | ⟨_,h⟩
   ·exact ⟨_,hi⟩
   ·exact ⟨_,h⟩
  obtain ⟨d2, e2⟩ : ∃ d, aP hs id' = some d := by
   rcases hk id' c' h2 with ⟨rfl,_⟩ | ⟨_,h⟩
   ·exact ⟨_,hi⟩
   ·exact ⟨_,h⟩
  exact gh.sep id id' d1 d2 b β β' e1 e2 h3 h4
theorem tA {w:World}{bad:Nat → Prop}{ι:Pl}{c c':AV}(hc:∀ y,Rd w bad ι c y → Rd w bad ι c' y):∀ (a:List AV) (r:List AV) (b o:Nat),RdC w bad ι (a ++ c :: r) b o → RdC w bad ι (a ++ c' :: r) b o
 | [], r, b, o, h => by
  simp only [List.nil_append,RdC] at h ⊢
  obtain ⟨⟨x,h1,h2,h3⟩,h4⟩ := h
  exact ⟨⟨x,h1,h2,hc _ h3⟩,h4⟩
 | x :: a, r, b, o, h => by
  simp only [List.cons_append,RdC] at h ⊢
  exact ⟨h.1,tA hc a r b (o + 1) h.2⟩
theorem Le.nilCell {ts:List (Nat × AV)}{hs:List (Nat × Option (List AV))}{n:Nat}{z0:Lo}{i:Nat}(e:Nat) (c1:List AV){c2:List AV}(hi:aP hs i = some (c1 ++ .v (.slice none 0 0) :: c2)) (hin:i ≠ n) (hn:n < aS) :
  Le ⟨ts,hs,n,z0⟩ ⟨ts,(i,some (c1 ++ .own n 0 0 e :: c2)) :: (n,some []) :: hs,n + 1,z0⟩ :=
 (Le.virt hn).trans (Le.cellsN (q := n) (cs := c1 ++ .v (.slice none 0 0) :: c2) (by rw [bW, if_neg hin]; exact hi) (by rw [bW, if_pos rfl]) (by simp) fun w bad ι b β hp hr =>
  tA (fun y hy => by simp only [Rd] at hy ⊢; exact .inl ⟨hp,trivial,none,hy⟩) c1 c2 b β hr)
theorem Le.frzC {ts:List (Nat × AV)}{hs:List (Nat × Option (List AV))}{n:Nat}{z0:Lo}{j i m e:Nat}(c1:List AV){c2 d:List AV}(hj:aP hs j = some (c1 ++ .own i 0 m e :: c2)) (hi:aP hs i = some d) (hij:j ≠ i) :
  Le ⟨ts,hs,n,z0⟩ ⟨ts,(j,some (c1 ++ .imm m d :: c2)) :: (i,none) :: hs,n,z0⟩ := by
 rintro C a w ⟨h0,ι,g,gh⟩
 have hk : ∀ id c, aP ((j, some (c1 ++ .imm m d :: c2)) :: (i, none) :: hs) id = some c → (id = j ∧ c = c1 ++ .imm m d :: c2) ∨ (id ≠ j ∧ id ≠ i ∧ aP hs id = some c) := by
  intro id c hc
  rw [bW] at hc
  split at hc
  ·rename_i e;cases hc;exact .inl ⟨e,rfl⟩
  ·rename_i e
   rw [bW] at hc
   split at hc
   ·cases hc
   ·rename_i e2;exact .inr ⟨e,e2,hc⟩
 have hk2 : ∀ id c, aP ((j, some (c1 ++ .imm m d :: c2)) :: (i, none) :: hs) id = some c → id ≠ i ∧ ∃ c', aP hs id = some c' := by
  intro id c hc
  rcases hk id c hc with ⟨rfl,_⟩ | ⟨_,h2,h3⟩
  ·exact ⟨hij,_,hj⟩
  ·exact ⟨h2,_,h3⟩
 have hbad : ∀ b, aE C.X ι (aP ((j, some (c1 ++ .imm m d :: c2)) :: (i, none) :: hs)) b → aE C.X ι (aP hs) b := by
  rintro b (h | ⟨id,c,β,h1,h2⟩)
  ·exact .inl h
  ·obtain ⟨_, c', h3⟩ := hk2 id c h1
   exact .inr ⟨id,c',β,h3,h2⟩
 have car : Carry w (aE C.X ι (aP hs)) ι w (aE C.X ι (aP ((j,some (c1 ++ .imm m d :: c2)) :: (i,none) :: hs))) ι := ⟨fun b o x h1 h2 => ⟨fun q => h1 (hbad b q),h2⟩,fun _ _ h => h,fun _ => Nat.le_refl _⟩
 have hcell : ∀ y, Rd w (aE C.X ι (aP ((j, some (c1 ++ .imm m d :: c2)) :: (i, none) :: hs))) ι (.own i 0 m e) y → Rd w (aE C.X ι (aP ((j, some (c1 ++ .imm m d :: c2)) :: (i, none) :: hs))) ι (.imm m d) y := by
  intro y hr
  simp only [Rd] at hr ⊢
  rcases hr with ⟨_,h2,a',h3⟩ | ⟨b,β,c,h1,h2,h3,h4⟩
  ·subst h2;exact ⟨a',0,h3,.inl rfl⟩
  ·refine ⟨_, c, h2, ?_⟩
   rcases Nat.eq_zero_or_pos m with h5|h5
   ·exact .inl h5
   ·refine .inr ⟨b, β + 0, h3, rfl, ?_⟩
    rcases gh.obj i d hi with ⟨q1,q2⟩ | ⟨b',β',arr,e',q1,q2,q3,q4,q5,q6⟩
    ·rw [h1] at q1;cases q1
    ·rw [h1] at q1; cases q1
     refine .inr ⟨?_,RdC.carryB car _ _ _ (fun o x hx => hx) q4⟩
     rintro (h | ⟨id',cs',β',r1,r2⟩)
     ·exact q5 h
     ·obtain ⟨r3, c', r4⟩ := hk2 id' cs' r1
      exact r3 (gh.sep _ _ _ _ _ _ _ r4 hi r2 h1)
 refine ⟨h0,ι,g.carry car,⟨fun id c hc => ?_,fun id id' c c' b β β' h1 h2 h3 h4 => ?_,gh.fr,gh.ex,gh.fresh⟩⟩
 ·rcases hk id c hc with ⟨rfl, rfl⟩ | ⟨_, _, h3⟩
  ·rcases gh.obj _ _ hj with ⟨q1, q2⟩ | ⟨b, β, arr, e, q1, q2, q3, q4, q5⟩
   ·simp at q2
   ·exact .inr ⟨b,β,arr,e,q1,q2,by simpa using q3,tA hcell c1 c2 b β (RdC.carryB car _ _ _ (fun o x hx => hx) q4),q5⟩
  ·rcases gh.obj _ _ h3 with ⟨q1, q2⟩ | ⟨b, β, arr, e, q1, q2, q3, q4, q5⟩
   ·exact .inl ⟨q1,q2⟩
   ·exact .inr ⟨b,β,arr,e,q1,q2,q3,RdC.carryB car _ _ _ (fun o x hx => hx) q4,q5⟩
 ·obtain ⟨_, d1, e1⟩ := hk2 id c h1
  obtain ⟨_,d2,e2⟩ := hk2 id' c' h2
  exact gh.sep id id' d1 d2 b β β' e1 e2 h3 h4
theorem C8 {R:List (List Bool)}{hs hs':List (Nat × Option (List AV))}{k m:Nat}(hF:FamR R R hs hs') (hk:k < R.length) (hm:m = R[k]!.length):sCells (aP hs) 1 (nO (.own (k + aS) 0 m 1)) = some (m,flat cB R[k]!):=by
 subst hm
 have hl : (flat cB R[k]!).length = R[k]!.length * 1 := aQ cB _
 show (aP hs (k + aS)).bind (fun cs => if R[k]!.length * 1 ≤ (cs.drop 0).length then some (R[k]!.length,(cs.drop 0).take (R[k]!.length * 1)) else none) = _
 rw [hF.get hk,Option.bind_some,List.drop_zero,if_pos (by omega),List.take_of_length_le (by omega)]
theorem Av {cs:List AV}{v:Nat}{c:AV}:jH cs (0 + v * 1) [c] = cs.take v ++ c :: cs.drop (v + 1):=by
 unfold jH;simp
theorem Gp {u:List (List Bool)}{v:Nat}{r:List Bool}(hv:v < u.length):(flat fK u).take v ++ .imm r.length (flat cB r) :: (flat fK u).drop (v + 1) = flat fK (u.set v r):=by
 have h := Az (xs := u) (k := v) (r := r) hv
 rw [Av] at h;exact h
theorem Le.frzRow {ts:List (Nat × AV)}{hs:List (Nat × Option (List AV))}{n:Nat}{z0:Lo}{j q v m:Nat}{u:List (List Bool)}{r:List Bool}(hj:aP hs j = some (jH (flat fK u) (0 + v * 1) [.own q 0 m 1])) (hq:aP hs q = some (flat cB r)) (hm:m = r.length) (hv:v < u.length) (hjq:j ≠ q) :
  Le ⟨ts,hs,n,z0⟩ ⟨ts,(j,some (flat fK (u.set v r))) :: (q,none) :: hs,n,z0⟩ := by
 subst hm
 rw [Av] at hj
 have h := Le.frzC (ts := ts) (n := n) (z0 := z0) ((flat fK u).take v) hj hq hjq
 rwa [Gp hv] at h
theorem Le.fdrop {ts:List (Nat × AV)}{hs:List (Nat × Option (List AV))}{n:Nat}{z0:Lo}{k:Nat}{R:List (List Bool)}(hF:FamR R R hs hs) (hk:k < R.length):Le ⟨ts,(k + aS,some (flat cB R[k]!)) :: hs,n,z0⟩ ⟨ts,hs,n,z0⟩:=by
 refine Le.of (fun _ _ h => h) (fun i cs h => ?_) (Nat.le_refl _) rfl
 have h' : aP hs i = some cs := h
 show aP ((k + aS,some (flat cB R[k]!)) :: hs) i = some cs
 rw [bW]
 split
 ·rename_i e;subst e;rw [hF.get hk] at h'; exact h'
 ·exact h'
theorem JO {i k:Nat}(hi:Nat.blt i aS = true):distinct [i,k + aS] = true:=by
 have h1 := cH hi
 have : Nat.beq i (k + aS) = false := by
  cases h : Nat.beq i (k + aS) with
  | false => rfl
  | true => have := Nat.eq_of_beq_eq_true h;omega
 simp only [distinct,List.all_cons,List.all_nil,this]; rfl
structure Hid (T : Prop) : Prop where pf : T
theorem Kt {G:Prop}{T:Prop}(key:T) (main:Hid T → G):G := main ⟨key⟩
structure Hy (T : Prop) : Prop where pf : T
theorem JX:(∀ a b:Bool,((a && b) = true) = (a = true ∧ b = true)) ∧ (∀ a b:Bool,((a && b) = false) ↔ (a = false ∨ b = false)) ∧ (∀ a b:Bool,((a || b) = true) = (a = true ∨ b = true)) ∧ (∀ a b:Bool,((a || b) = false) ↔ (a = false ∧ b = false)) ∧
  (∀ (p : Prop) [Decidable p],(decide p = true) = p) ∧ (∀ (p : Prop) [Decidable p],(decide p = false) ↔ ¬ p) ∧ (∀ a : Bool,((!a) = true) ↔ a = false) ∧ (∀ a : Bool,((!a) = false) ↔ a = true) ∧ ((!true) = false) ∧ ((!false) = true) ∧ (∀ a b : Int,¬ a < b ↔ b ≤ a) ∧ (∀ a b : Int,¬ a ≤ b ↔ b < a) :=
 ⟨fun a b => Bool.and_eq_true a b,fun a b => Bool.and_eq_false_iff,fun a b => Bool.or_eq_true a b,fun a b => Bool.or_eq_false_iff,fun p _ => by simp,fun p _ => decide_eq_false_iff_not,fun a => by simp,fun a => by simp,rfl,rfl,fun _ _ => Int.not_lt,fun _ _ => Int.not_le⟩
theorem iM:(∀ {α:Type}(a b:List α),(a ++ b).length = a.length + b.length) ∧ (∀ {α:Type}(a:α) (b:List α),(a :: b).length = b.length + 1) ∧ (∀ {α:Type},([]:List α).length = 0) ∧ (∀ {α:Type}(a:List α) (i:Nat) (x:α),(a.set i x).length = a.length) ∧ (∀ {α:Type}(i:Nat) (a:List α),(a.take i).length = min i a.length) ∧
  (∀ {α β : Type} (f : α → β) (a : List α),(a.map f).length = a.length) ∧ (∀ {α : Type} (n : Nat) (a : α),(List.replicate n a).length = n) ∧ (∀ (l : List Stmt) (b : Nat),(eT b l).length = cA l) ∧ (∀ n : Nat,n * 1 = n) ∧ (∀ n : Nat,0 + n = n) ∧ (∀ n : Nat,n + 0 = n) :=
 ⟨fun _ _ => List.length_append,fun _ _ => rfl,rfl,fun _ _ _ => List.length_set,fun _ _ => List.length_take,fun _ _ => List.length_map _,fun _ _ => List.length_replicate,bB,Nat.mul_one,Nat.zero_add,Nat.add_zero⟩
theorem a7 {α:Type}{p q r:α → Prop}(x:α) (h3:r x) (h1:p x) (h2:q x):∃ x,p x ∧ q x ∧ r x := ⟨x,h1,h2,h3⟩
theorem Kh {G K:Prop}(k:K) (h:Hy K → G := by first|(intro k;(first  | ((with_reducible apply Cm);(case hx => rfl);(case hH => rfl);(case hf => infer_instance);(case hg => infer_instance);(case hα => infer_instance);(case hk => omega);(case hc => rfl);(case hN => rfl)) | ((with_reducible apply Ck);(case hx => rfl);(case hH => rfl);(case hf => infer_instance);(case hg => infer_instance);(case hα => infer_instance);(case hk => omega);(case h0 => rfl);(case hN => rfl)) | ((with_reducible apply De);(case hx => rfl);(case hd => rfl);(case hc => rfl);(case hN => rfl)) | ((with_reducible apply EA);(case hx => rfl);(case hd => rfl);(case hc => (first|exact (rfl:_ = [_]) | exact (rfl:_ = [_,_]) | exact (rfl:_ = [_,_,_]) | exact (rfl:_ = [_,_,_,_]) | exact (rfl:_ = [_,_,_,_,_]) | exact (rfl:_ = [_,_,_,_,_,_]) | exact (rfl:_ = [_,_,_,_,_,_,_]) | exact (rfl:_ = [_,_,_,_,_,_,_,_]) | rfl));(case hn => rfl);(case h0 => rfl);(case hN => rfl)) | ((with_reducible apply vD);(case hx => rfl);(case hl => first|assumption | omega | (simp only [iM,List.length_drop] <;> omega));(case h0 => rfl);(case hN => rfl)) | ((with_reducible apply wN);(case hx => rfl);(case hH => rfl);(case hl => first|assumption | omega | (simp only [iM] <;> omega) | rfl);(case h0 => rfl);(case hN => rfl)) | ((with_reducible apply wP);(case hx => rfl);(case hH => rfl);(case hl => first|assumption | omega | (simp only [iM] <;> omega) | rfl);(case h0 => rfl);(case hN => rfl)) | ((with_reducible apply Cq);(case hx => rfl);(case hH => rfl);(case ho => first|exact Kf | exact Ka);(case hq => first|assumption | omega | (simp only [iM] <;> omega));(case hN => rfl)));exact k.pf) | fail):G := h ⟨k⟩
theorem Ki {G K:Prop}(k:K) (h:Hy K → G := by first|(intro k;(first|((with_reducible apply CI);(case hj => rfl);(case hb => rfl);(case hN => rfl)) | ((with_reducible apply CC);(case hj => rfl);(case hb => rfl);(case hN => rfl);(case hw => first|rfl | assumption)) | ((with_reducible apply zK);(case hj => rfl);(case hb => rfl);(case hN => rfl);(case hw => first|rfl | assumption)) );exact k.pf) | fail):G := h ⟨k⟩
theorem Km {G K:Prop}(k:K) (h:Hy K → G := by first|(intro k;(first|((with_reducible apply Gj);(case hx => rfl);(case hy => rfl);(case h => rfl);(case hN => rfl)) | ((with_reducible apply Ji);(case hx => rfl);(case hy => rfl);(case hk => infer_instance);(case ha => infer_instance);(case hb => infer_instance);(case hN => rfl)) | ((with_reducible apply Hg);(case hx => rfl);(case hy => rfl);(case hk => infer_instance);(case ha => infer_instance);(case hN => rfl)) | ((with_reducible apply FF);(case hx => rfl);(case hy => rfl);(case hk => infer_instance);(case ha => infer_instance);(case hb => infer_instance);(case hN => rfl)) | ((with_reducible apply Gd);(case hx => rfl);(case hy => rfl);(case hk => infer_instance);(case ha => infer_instance);(case hb => infer_instance);(case hN => rfl)) | ((with_reducible apply F3);(case hx => rfl);(case hy => rfl);(case hk => infer_instance);(case ha => infer_instance);(case h => omega);(case hN => rfl)) | ((with_reducible apply I8);(case hx => rfl);(case hy => rfl);(case h => omega);(case hN => rfl)) | ((with_reducible apply I3);(case hx => rfl);(case hy => rfl);(case h => omega);(case hN => rfl)) | ((with_reducible apply Jb);(case hx => rfl);(case hy => rfl);(case h => omega);(case h' => omega);(case hN => rfl))  | ((with_reducible apply Iv);(case hx => rfl);(case hy => rfl);(case h => omega);(case hN => rfl)) | ((with_reducible apply IT);(case hx => rfl);(case hy => rfl);(case h => omega);(case hN => rfl)) | ((with_reducible apply IM);(case hx => rfl);(case hy => rfl);(case h => omega);(case hN => rfl)) | ((with_reducible apply HO);(case hx => rfl);(case hy => rfl);(case h => rfl);(case hN => rfl)));exact k.pf) | fail):G := h ⟨k⟩
theorem Kk {G K:Prop}(k:K) (h:Hy K → G := by first|(intro k;(first|((with_reducible apply pG);(case hx => rfl);(case hi => rfl);(case hm => (first|assumption | omega));(case hml => (first|rfl|assumption|omega));(case hα => infer_instance);(case hf => infer_instance);(case hg => infer_instance);(case hN => rfl)) | ((with_reducible apply zC);(case hx => rfl);(case hi => rfl);(case hm => (first|assumption | omega));(case hN => rfl)) | ((with_reducible apply rE);(case hx => rfl);(case hi => rfl);(case hm => (first|assumption | omega | exact ⟨Int.emod_nonneg _ (by omega),Int.emod_lt_of_pos _ (by omega)⟩));(case hml => (first|rfl|assumption|omega));(case hα => infer_instance);(case hf => infer_instance);(case hg => infer_instance);(case hN => rfl)) | ((with_reducible apply Bu);(case hx => rfl);(case hi => rfl);(case hm => (first|assumption | omega | exact ⟨Int.emod_nonneg _ (by omega),Int.emod_lt_of_pos _ (by omega)⟩));(case hN => rfl)) | ((with_reducible apply xM);(case hx => rfl);(case hi => rfl);(case hm => first|omega | assumption);(case hp => rfl);(case hN => rfl)) | ((with_reducible apply Ad);(case hx => rfl);(case hi => rfl);(case hm => first|omega | assumption);(case hN => rfl)));exact k.pf) | fail):G := h ⟨k⟩
theorem J9 {G K:Prop}(k:K) (h:Hy K → G := by first|(intro k;(first|((with_reducible apply I0);(case hx => rfl);(case hn => rfl);(case hN => rfl)) | ((with_reducible apply FJ);(case hx => rfl);(case hN => rfl)) | ((with_reducible apply eW);(case hx => rfl);(case hy => rfl);(case hze => rfl);(case he0 => rfl);(case hH => rfl);(case hl => first|(rw [aQ]; omega) | (rw [aQ]; simp only [iM] <;> omega) | (simp [aQ]; done) | decide | (simp;omega));(case hs' => first|rfl | exact Jh (by (first|rfl | assumption | omega)));(case hbig => omega);(case hmx => omega);(case hcs => first|exact xT (by (first|assumption | omega | (simp only [iM] <;> omega) | decide)) | exact qB (by (first|assumption | omega | (simp only [iM] <;> omega) | decide)) | exact GW (by (first|assumption | omega | (simp only [iM] <;> omega) | decide)) | exact EG (by (first|assumption | omega | (simp only [iM] <;> omega) | decide)) | exact Fg (by (first|assumption | omega | (simp only [iM] <;> omega) | decide)) | exact Gt (by (first|assumption | omega | (simp only [iM] <;> omega) | decide)) | exact Gr (by (first|assumption | omega | (simp only [iM] <;> omega) | decide))   | exact (rfl:_ = [_]) | exact (rfl:_ = [_,_]) | exact (rfl:_ = [_,_,_]) | exact (rfl:_ = [_,_,_,_]) | exact (rfl:_ = [_,_,_,_,_]) | exact (rfl:_ = [_,_,_,_,_,_]) | exact (rfl:_ = [_,_,_,_,_,_,_]) | exact (rfl:_ = [_,_,_,_,_,_,_,_]) | rfl);(case hM => rfl);(case hN => rfl)));exact k.pf) | fail):G := h ⟨k⟩
theorem Kd {G K:Prop}(k:K) (h:Hy K → G := by first|(intro k;(first|((with_reducible apply CH);(case hl => rfl);(case hf => (first|exact (rfl:_ = some [_]) | exact (rfl:_ = some [_,_]) | exact (rfl:_ = some [_,_,_]) | exact (rfl:_ = some [_,_,_,_]) | exact (rfl:_ = some [_,_,_,_,_]) | exact (rfl:_ = some [_,_,_,_,_,_]) | exact (rfl:_ = some [_,_,_,_,_,_,_]) | exact (rfl:_ = some [_,_,_,_,_,_,_,_]) | rfl));(case hk => (first|exact (rfl:_ = [_]) | exact (rfl:_ = [_,_]) | exact (rfl:_ = [_,_,_]) | exact (rfl:_ = [_,_,_,_]) | exact (rfl:_ = [_,_,_,_,_]) | exact (rfl:_ = [_,_,_,_,_,_]) | exact (rfl:_ = [_,_,_,_,_,_,_]) | exact (rfl:_ = [_,_,_,_,_,_,_,_]) | rfl));(case hN => rfl)) | ((with_reducible apply mL);(case hl => rfl);(case hf => (first|exact (rfl:_ = some [_]) | exact (rfl:_ = some [_,_]) | exact (rfl:_ = some [_,_,_]) | exact (rfl:_ = some [_,_,_,_]) | exact (rfl:_ = some [_,_,_,_,_]) | exact (rfl:_ = some [_,_,_,_,_,_]) | exact (rfl:_ = some [_,_,_,_,_,_,_]) | exact (rfl:_ = some [_,_,_,_,_,_,_,_]) | rfl));(case hN => rfl)));exact k.pf) | fail):G := h ⟨k⟩
theorem J5 {G K:Prop}(k:K) (h:Hy K → G := by first|(intro k;(first|((with_reducible apply kZ);(case hze => rfl);(case hsm => rfl);(case hl => rfl);(case hfl => (first|exact (rfl:_ = some [_]) | exact (rfl:_ = some [_,_]) | exact (rfl:_ = some [_,_,_]) | exact (rfl:_ = some [_,_,_,_]) | exact (rfl:_ = some [_,_,_,_,_]) | exact (rfl:_ = some [_,_,_,_,_,_]) | exact (rfl:_ = some [_,_,_,_,_,_,_]) | exact (rfl:_ = some [_,_,_,_,_,_,_,_]) | rfl));(case hM => rfl);(case hN => rfl)) | ((with_reducible apply k5);(case hx => rfl);(case hy => rfl);(case hze => rfl);(case hsm => omega);(case hmx => omega);(case hcs => first|exact IA | exact Hj | exact Ee | exact AG | rfl);(case hM => rfl);(case hN => rfl)));exact k.pf) | fail):G := h ⟨k⟩
theorem J6 {G K:Prop}(k:K) (h:Hy K → G := by first|(intro k;(first|((with_reducible apply cS);(case hx => rfl);(case hy => rfl);(case hc => rfl);(case hn => rfl);(case hH => rfl);(case hl => (first|decide|(rw [aQ]; simp only [iM] <;> omega)|omega|(simp;done)|(simp;omega)));(case hcs => first|exact Jd (by (first|assumption | omega | (simp only [iM] <;> omega) | decide)) | exact Jz (by (first|assumption | omega | (simp only [iM] <;> omega) | decide)) | exact JU (by (first|assumption | omega | (simp only [iM] <;> omega) | decide)) | exact Js (by (first|assumption | omega | (simp only [iM] <;> omega) | decide)) | exact Az (by (first|assumption | omega | (simp only [iM] <;> omega) | decide)) | exact E5 (by (first|assumption | omega | (simp only [iM] <;> omega) | decide)) | exact E7 (by (first|assumption | omega | (simp only [iM] <;> omega) | decide)) | exact HT (by (first|assumption | omega | (simp only [iM] <;> omega) | decide)) | exact AN (by (first|assumption | omega | (simp only [iM] <;> omega) | decide)) | exact C9 (by (first|assumption | omega | (simp only [iM] <;> omega) | decide))  | exact IL (by (first|assumption | omega | (simp only [iM] <;> omega) | decide)) | exact tP (by (first|assumption | omega | (simp only [iM] <;> omega) | decide))  | exact (rfl:_ = [_]) | exact (rfl:_ = [_,_]) | exact (rfl:_ = [_,_,_]) | exact (rfl:_ = [_,_,_,_]) | exact (rfl:_ = [_,_,_,_,_]) | exact (rfl:_ = [_,_,_,_,_,_]) | exact (rfl:_ = [_,_,_,_,_,_,_]) | exact (rfl:_ = [_,_,_,_,_,_,_,_]) | rfl)) | ((with_reducible apply vN);(case hx => rfl);(case hy => rfl);(case hH => rfl);(case hl => first|assumption | omega | (simp only [iM] <;> omega));(case hc => first|rfl | (rw [dH]; first|assumption | (simp only [iM] <;> omega)))));exact k.pf) | fail):G := h ⟨k⟩
theorem Kb {G K:Prop}(k:K) (h:Hy K → G := by first|(intro k;(first|((with_reducible apply aI);first|((with_reducible apply FM);(case hx => rfl);(case hN => rfl)) | ((with_reducible apply Gq);refine Kh ?_) | ((with_reducible apply sS);(case hx => rfl);(case hp => rfl);(case hN => rfl)) | ((with_reducible apply JK);refine Ki ?_) | ((with_reducible apply IF);refine Km ?_) | ((with_reducible apply sH);(case hx => rfl);(case hN => rfl)) | ((with_reducible apply GP);first|((with_reducible apply EV);(case hc => rfl);(case hb => first|rfl | assumption);(case hx => rfl);(case hN => rfl)) | ((with_reducible apply El);(case hc => rfl);(case hb => first|rfl | assumption);(case hx => rfl);(case hN => rfl))) | ((with_reducible apply Ix);refine Kk ?_) | ((with_reducible apply JP);refine J9 ?_) | ((with_reducible apply HQ);(case hf => kernel_rfl)) | ((with_reducible apply Gh);first|((with_reducible apply rS);(case hx => rfl);(case h => first|exact HN _ | omega);(case hN => rfl)) ) | ((with_reducible apply JG);first|((with_reducible apply zR);(case hx => rfl);(case hi => rfl);(case hl => first|assumption | omega | (simp only [iM] <;> omega));(case hm => omega);(case hN => rfl))) | ((with_reducible apply Ja);refine Kd ?_) | ((with_reducible apply HV);first|((with_reducible apply By);(case hx => rfl);(case hf => infer_instance);(case hl => rfl);(case hh => rfl);(case hb => first|omega | (simp only [List.length_take,List.length_drop,Int.toNat_natCast]; omega));(case hN => rfl))) | ((with_reducible apply nP);(case hf => rfl);(case hc => rfl);(case hN => rfl)) | ((with_reducible apply Iq);(case hx => rfl);(case hN => rfl)) | ((with_reducible apply IZ);(case hx => rfl);(case hp => rfl);(case hN => rfl)) | ((with_reducible apply I5);(case hx => rfl);(case hc => rfl);(case hM => rfl);(case hN => rfl)) | ((with_reducible apply C7);(case hM => rfl);(case hN => rfl)) | ((with_reducible apply zF);(case hx => rfl);(case hc => rfl);(case hN => rfl)) | refine J5 ?_ | refine J6 ?_));exact k.pf) | fail):G := h ⟨k⟩
theorem Kj {G K:Prop}(k:K) (h:Hy K → G := by first|(intro k;(first|((with_reducible apply Fh);first|with_reducible apply Iw | with_reducible apply Cv | ((with_reducible apply Ek);(case hc => rfl);(case hb => first|rfl | assumption)) | ((with_reducible apply DG);(case hc => rfl);(case hb => first|rfl | assumption)) | with_reducible apply DA | with_reducible apply FL | with_reducible apply GA | with_reducible apply IU ) | with_reducible apply CD | with_reducible apply Ii | with_reducible apply Gb | with_reducible apply BQ | with_reducible apply H5 | with_reducible apply GD | ((with_reducible apply bq_out);(case hij => decide)));exact k.pf) | fail):G := h ⟨k⟩
theorem aL {G c1 q1 c2 q2 K1 K2:Prop}(k1:c1 → q1 → K1) (k2:c2 → q2 → K2) (h:Hy (c1 → q1 → K1) → Hy (c2 → q2 → K2) → G := by first|(intro k1 k2;(with_reducible apply Fh);(with_reducible apply uJ);(case hc => rfl);(intro hc;have hq := hc;(try simp only [JX] at hq);first|exact k1.pf hc hq | exact k1.pf hc trivial);(intro hc;have hq := hc;(try simp only [JX] at hq);first|exact k2.pf hc hq | exact k2.pf hc trivial)) | fail):G := h ⟨k1⟩ ⟨k2⟩
theorem bT {G c1 q1 c2 q2 K1 K2:Prop}(k1:c1 → q1 → K1) (k2:c2 → q2 → K2) (h:Hy (c1 → q1 → K1) → Hy (c2 → q2 → K2) → G := by first|(intro k1 k2;(with_reducible apply aI);(with_reducible apply JK);(with_reducible apply BF);(case hj => rfl);(case hb => rfl);(case hN => rfl);(intro hc;have hq := hc;(try simp only [JX] at hq);first|exact k1.pf hc hq | exact k1.pf hc trivial);(intro hc;have hq := hc;(try simp only [JX] at hq);first|exact k2.pf hc hq | exact k2.pf hc trivial)) | fail):G := h ⟨k1⟩ ⟨k2⟩
theorem bV {G K:Prop}(k:K) (h:Hy K → G := by first|(intro k;(with_reducible apply Fh);(with_reducible apply GV);(case hm => kernel_rfl);exact k.pf) | fail):G := h ⟨k⟩
theorem b9 {G K:Prop}(k:K) (h:Hy K → G := by first|(intro k;(with_reducible apply aH);(case hr => rfl);exact k.pf) | fail):G := h ⟨k⟩
theorem vY {ts:List (Nat × AV)}:n6 [] ts = [] := rfl
theorem rJ {k:Nat}{v:AV}{ks:List Nat}{ts kt:List (Nat × AV)}(h:lk ts k = some v) (h2:n6 ks ts = kt):n6 (k :: ks) ts = (k,v) :: kt:=by
 subst h2;simp [n6,h]
theorem wU {hs:List (Nat × Option (List AV))}:pF [] hs = [] := rfl
theorem rQ {k:Nat}{v:List AV}{ks:List Nat}{hs kh:List (Nat × Option (List AV))}(h:aP hs k = some v) (h2:pF ks hs = kh):pF (k :: ks) hs = (k,some v) :: kh:=by
 subst h2;simp [pF,h]
section
variable {P : Program} {N : Nat} {Q : Exit → AS → Prop} {σ : Type} {c : Code} {ts : List (Nat × AV)} {hs : List (Nat × Option (List AV))} {n : Nat} {z0 : Lo}
theorem aJ (ks js:List Nat){kt:List (Nat × AV)}{kh:List (Nat × Option (List AV))}(ot:σ → List (Nat × AV)) (oh:σ → List (Nat × Option (List AV))) (p:σ → Prop) (μ:σ → Nat) (i0:σ) (h0:p i0)
  (round : ∀ i,p i → AW P N c (lS (fun s' => ∃ j,p j ∧ μ j < μ i ∧ Le s' ⟨ot j ++ kt,oh j ++ kh,n,z0⟩) Q) ⟨ot i ++ kt,oh i ++ kh,n,z0⟩)
  (hk : n6 ks ts = kt := by repeat' (first|exact vY|(apply rJ;rfl))) (hj : pF js hs = kh := by repeat' (first|exact wU|(apply rQ;rfl)))
  (h1 : m7 ts (ot i0) := by repeat' (first|exact trivial|refine And.intro rfl ?_)) (h2 : lH hs (oh i0) := by repeat' (first|exact trivial|refine And.intro (.inr rfl) ?_)) : AW P N (.loop c) Q ⟨ts,hs,n,z0⟩ :=
 D2 ks kt js kh ot oh p μ i0 h0 hk hj h1 h2 round
theorem dA (Rf:σ → List (List Bool)) (ks js:List Nat){kt:List (Nat × AV)}{kh:List (Nat × Option (List AV))}(ot:σ → List (Nat × AV)) (oh:σ → List (Nat × Option (List AV))) (p:σ → Prop) (μ:σ → Nat) (i0:σ) (h0:p i0)
  (round : ∀ i,p i → AW P N c (lS (fun s' => ∃ j,p j ∧ μ j < μ i ∧ Le s' ⟨ot j ++ kt,(oh j ++ kh) ++ fA (Rf j),n,⟨0,aS + (Rf j).length⟩⟩) Q) ⟨ot i ++ kt,(oh i ++ kh) ++ fA (Rf i),n,⟨0,aS + (Rf i).length⟩⟩)
  (hk : n6 ks ts = kt := by repeat' (first|exact vY|(apply rJ;rfl))) (hj : pF js hs = kh := by repeat' (first|exact wU|(apply rQ;rfl)))
  (h1 : m7 ts (ot i0) := by repeat' (first|exact trivial|refine And.intro rfl ?_)) (h2 : lH hs (oh i0) := by repeat' (first|exact trivial|refine And.intro (.inr rfl) ?_))
  (hF : FamR (Rf i0) (Rf i0) hs hs := by repeat' (first|exact FamR.here|exact FamR.nil|(apply FamR.cons;focus rfl))) (hz : z0 = ⟨0,aS + (Rf i0).length⟩ := by first|rfl|(simp only [dT])) : AW P N (.loop c) Q ⟨ts,hs,n,z0⟩ :=
 w8 0 Rf ks kt js kh ot oh p μ i0 h0 hk hj h1 h2 hF hz round
end
theorem Le.renA (m:List (Nat × Nat)){ts ts':List (Nat × AV)}{hs hs':List (Nat × Option (List AV))}{n n':Nat}{lo:Lo}(hm:Fp lo.lo n' m = true := by rfl) (hn:lo.lo ≤ n' := by decide)
  (h1 : EN m lo ts ts' := by repeat' (first|exact trivial|refine And.intro ⟨_,rfl,?_⟩ ?_|refine And.intro ⟨_,_,rfl,rfl,?_⟩ ?_|exact Or.inr rfl|refine Or.inl ⟨?_,(by first|rfl|exact bC _ _|exact Pur.pf|exact PurV.pf)⟩|refine Or.inr (All2.cons ?_ ?_)|refine All2.cons ?_ ?_|exact All2.nil|rfl))
  (h2 : yH m lo hs hs' := by repeat' (first|exact trivial|refine And.intro ⟨_,rfl,?_⟩ ?_|refine And.intro ⟨_,_,rfl,rfl,?_⟩ ?_|exact Or.inr rfl|refine Or.inl ⟨?_,(by first|rfl|exact bC _ _|exact Pur.pf|exact PurV.pf)⟩|refine Or.inr (All2.cons ?_ ?_)|refine All2.cons ?_ ?_|exact All2.nil|rfl)) : Le ⟨ts,hs,n,lo⟩ ⟨ts',hs',n',lo⟩ :=
 Le.ren m hm hn h1 h2
section
variable {P : Program} {k : FuncId} {fn : Func} {c : Code} {args : List AV} {N : Nat}
theorem aB {Q:AV → Prop}(hf:P.funcs[k]? = some fn) (hn:fn.ntmps = N) (h:AW P N c (lJ P fn.results (fun r _ => Q r ∧ r.pur = true)) ⟨fQ 0 args,[],0,⟨0,aS⟩⟩) (hb:fn.body = some c := by rfl)
  (hN : args.length ≤ N := by simp) : PC P k args Q := by subst hn;exact Em hf hb hN h
theorem bU {σ:Type}{H0:List (Nat × Option (List AV))}{n:Nat}{p:σ → Prop}{rr:σ → AV}{hh:σ → List (Nat × Option (List AV))}(hf:P.funcs[k]? = some fn) (hn:fn.ntmps = N)
  (h : AW P N c (lJ P fn.results (fun r H' => ∃ x,p x ∧ r = rr x ∧ ∀ id cs,aP (hh x) id = some cs → H' id = some cs)) ⟨fQ 0 args,H0,n,⟨n,aS⟩⟩) (hb : fn.body = some c := by rfl)
  (hN : args.length ≤ N := by simp) : MC P k args H0 n p rr hh := by subst hn;exact EE hf hb hN h
theorem wZ {R0:List (List Bool)}{r:AV}{hh:List (Nat × Option (List AV))}(hf:P.funcs[k]? = some fn) (hn:fn.ntmps = N)
  (h : AW P N c (lJ P fn.results (fun r' H' => r' = r ∧ ∀ id cs,aP (hh ++ fA R0) id = some cs → H' id = some cs)) ⟨fQ 0 args,fA R0,0,⟨0,aS + R0.length⟩⟩) (hb : fn.body = some c := by rfl)
  (hN : args.length ≤ N := by simp) : Jm P k args R0 r hh := by subst hn;exact Fj hf hb hN h
theorem C4 {R1:List (List Bool)}{r:AV}(hf:P.funcs[k]? = some fn) (hn:fn.ntmps = N)
  (h : AW P N c (lJ P fn.results (fun r' H' => r' = r ∧ ∀ id cs,aP (fA R1) id = some cs → H' id = some cs)) ⟨fQ 0 args,[],0,⟨0,aS⟩⟩) (hb : fn.body = some c := by rfl)
  (hN : args.length ≤ N := by simp) : J1 P k args r R1 := by subst hn;exact Fi hf hb hN h
end
theorem sE {p:Prop}{α:Type}{a c:Option α}{b:α}(h:some b = c) (e:a = some b := by rfl):p ∨ a = c := .inr (e.trans h)
section
variable {P : Program} {N : Nat} {Q : Exit → AS → Prop} {all : Array Oper} {rest : List Oper} {ts : List (Nat × AV)} {hs : List (Nat × Option (List AV))} {n : Nat} {z0 : Lo} {md : Md}
variable {ty : TypeId} {pos : String} {af : Array Edge}
theorem bR {d:Nat}{k:FuncId}{l:List Operand}{tys:Array TypeId}{avs avs0:List AV}{H0:List (Nat × Option (List AV))}{rr rr':AV}{hh:List (Nat × Option (List AV))}
  (mp : List Nat) (n1 : Nat) (ws : List (Nat × Option (List AV))) (h : MC P k avs0 H0 mp.length (fun _ : Unit => True) (fun _ => rr) (fun _ => hh)) [hc : CaT P k] (ha : evL (lk ts) l = some avs) (hd : distinct mp = true)
  (hM : Nat.ble (n + (n1 - mp.length)) aS = true) (hN : Nat.blt d N = true)
  {md' : Md} [hmd : MdA md (iD l ++ mp.map .inr) (ws.map (fun p => .inr p.1) ++ [.inl d]) md']
  (kk : RW P N all Q md' rest ⟨(d,rr') :: ts,kO hs ws,n + (n1 - mp.length),z0⟩)
  (hH0 : nI hs H0 mp 0 mp := by repeat' (first|exact trivial|(refine And.intro ⟨_,_,rfl,by assumption,?_⟩ ?_)|exact RnL.purI inferInstance|exact uQ rfl|exact RnV.purI inferInstance|exact RnV.own rfl|exact RnV.optr rfl|exact RnL.nil|refine RnL.cons ?_ ?_|refine RnV.agg ?_|refine RnV.tup ?_))
  (hk : eN mp.length H0 = true := by rfl)
  (har : RnL (mp[·]?) avs0 avs := by repeat' (first|exact RnL.purI inferInstance|exact uQ rfl|exact RnV.purI inferInstance|exact RnV.own rfl|exact RnV.optr rfl|exact RnL.nil|refine RnL.cons ?_ ?_|refine RnV.agg ?_|refine RnV.tup ?_))
  (hr : RnV (r9 mp n n1) rr rr' := by repeat' (first|exact RnL.purI inferInstance|exact uQ rfl|exact RnV.purI inferInstance|exact RnV.own rfl|exact RnV.optr rfl|exact RnL.nil|refine RnL.cons ?_ ?_|refine RnV.agg ?_|refine RnV.tup ?_))
  (hwa : qA mp ws = true := by simp [qA])
  (hw : nJ (r9 mp n n1) hh ws := by repeat' (first|exact trivial|(refine And.intro ⟨0,_,rfl,rfl,?_⟩ ?_)|(refine And.intro ⟨1,_,rfl,rfl,?_⟩ ?_)|(refine And.intro ⟨2,_,rfl,rfl,?_⟩ ?_)|(refine And.intro ⟨3,_,rfl,rfl,?_⟩ ?_)|(refine And.intro ⟨4,_,rfl,rfl,?_⟩ ?_)|(refine And.intro ⟨5,_,rfl,rfl,?_⟩ ?_)|(refine And.intro ⟨6,_,rfl,rfl,?_⟩ ?_)|exact RnL.purI inferInstance|exact uQ rfl|exact RnV.purI inferInstance|exact RnV.own rfl|exact RnV.optr rfl|exact RnL.nil|refine RnL.cons ?_ ?_|refine RnV.agg ?_|refine RnV.tup ?_)) :
  RW P N all Q md (⟨some d,.call ⟨.value (.func k),l.toArray,tys⟩,ty,pos,af,none⟩ :: rest) ⟨ts,hs,n,z0⟩ :=
 BW mp n1 ws h (avs := avs) ha hd hH0 hk har hM hr hwa hw hN (md' := md') (hmd := hmd) kk
end
theorem aD {G K:Prop}(k:K) (h:Hy K → G := by first|(intro k;(first|refine Kb ?_ | refine Kj ?_);exact k.pf) | fail):G := h ⟨k⟩
def qU (op : BinOp) (a b : ByteArray) : Option Value :=
 match op with
 | .add => if a.size + b.size ≤ 9000000000000000000 then some (.string (a ++ b)) else none
 | .eql => some (.bool (a.toList == b.toList))
 | .neq => some (.bool (!(a.toList == b.toList)))
 | _ => none
def Ej (s : ByteArray) (l : List Int) : ByteArray := l.foldl (fun r n => r.push (UInt8.ofNat n.toNat)) s
section
variable {P : Program} {C : Ctx} {ι : Pl} {T : Nat → Option AV} {F : Nat → Prop} {H : Nat → Option (List AV)} {a : Act} {w : World} {o : Oper}
theorem Hh (g:TG C ι T H a w){op:BinOp}{t t':TypeId}{x y:Operand}{m n:ByteArray}{v:Value}(ho:o.op = .binOp op t x y t')
  (hx : ev T x = some (.v (.string m))) (hy : ev T y = some (.v (.string n))) (h : qU op m n = some v) : Pu P C ι H a w o (.v v) := by
 have h1 := bH g hx
 have h2 := bH g hy
 simp only [Rd] at h1 h2
 refine ⟨v,?_,by simp [Rd]⟩
 have hg : (eqGuard op t x y (.string m) (.string n)).run P w = .ok () w := by
  unfold eqGuard
  cases op <;> simp
 have hb : (binOp op t (.string m) (.string n)).run P w = .ok v w := by
  cases op <;> simp only [qU] at h <;> first|(cases h;done)|skip
  ·split at h
   ·rename_i hs
    cases h
    have h9 : ¬ (((m.size + n.size : Nat) : Int) > IntKind.i64.max) := by
     have : IntKind.i64.max = 9223372036854775807 := rfl
     omega
    show ((if ((m.size + n.size : Nat) : Int) > IntKind.i64.max then _ else pure (.string (m ++ n)) : Sem Value)).run P w = _
    rw [if_neg h9]; simp
   ·cases h
  all_goals (cases h;simp [binOp,Op.stringOp])
 simp only [execOp,ho,h1,h2,Sem.run_bind,hg,Result.andThen_ok,hb,Sem.run_pure]
theorem pI {bad:Nat → Prop}{k:IntKind}:∀ {ns:List Int}{l:List Value},RdL w bad ι (ns.map fun n => .v (.int k n)) l → l = ns.map (Value.int k)
 | [],l,h => by simp only [List.map_nil,RdL] at h;exact h
 | n :: ns, l, h => by
  simp only [List.map_cons,RdL] at h
  obtain ⟨x,l',rfl,h0,h1,h2⟩ := h
  simp only [Rd] at h1
  rw [h1,pI h2,List.map_cons]
theorem HP (g:TG C ι T H a w) (gh:HG C ι F H w){s t el:TypeId}{x:Operand}{av:AV}{m:Nat}{ns:List Int}(ho:o.op = .convert s t x) (hx:ev T x = some av)
  (ht : kW P s = some el) (hu : xD P el = some .u8) (hst : P.underlying t = some .string) (hs : sCells H 1 (nO av) = some (m,ns.map fun n => .v (.int .u8 n))) :
  Pu P C ι H a w o (.v (.string (Ej .empty ns))) := by
 obtain ⟨ad,c,l,h1,h2,h3,h4,h5⟩ := rD gh (iT (bH g hx)) hs
 have hl := pI h3
 have hll : ns.length = m := by have := h2;rw [hl] at this;simpa using this
 refine ⟨.string (Ej .empty ns),?_,by simp [Rd]⟩
 have hcv : (convert s t (.slice ad m c)).run P w = (Conv.bytesToString (.slice ad m c)).run P w := run_convert_bytes_string w s t el ad m c (k7 ht) (y6 hu) hst
 have hrun : (Conv.bytesToString (.slice ad m c)).run P w = .ok (.string (Ej .empty ns)) w := by
  cases ad with
  | none =>
   rcases h5 with ⟨b,o',h⟩|h
   ·cases h
   ·subst h
    have : ns = [] := List.eq_nil_of_length_eq_zero hll
    subst this
    rfl
  | some ad =>
   have hload : (loadCells ad m).run P w = .ok (ns.map (Value.int .u8)).toArray w := by
    rcases h5 with ⟨b,o',h⟩|h
    ·cases h
     have := run_loadCells_list (P := P) w ⟨b,o',none⟩ l (fun j v hj => by rw [Addr.add_lit]; exact h4 b o' rfl j v hj)
     rw [h2,Nat.mul_one,hl] at this
     exact this
    ·subst h
     have : ns = [] := List.eq_nil_of_length_eq_zero hll
     subst this
     simp [loadCells,loadCellsFrom]
   exact run_bytesToString w ad m c ns hload
 simp only [execOp,ho,h1,Sem.run_bind,hcv,hrun,Result.andThen_ok,Sem.run_pure]
end
class Eq3 (P : Program) (t : Nat) : Prop where
 g : P.eqGuardType P.depth t = false
 e : ∀ (a b c a' b' c' : Int) (w : World),(Op.equalIn 10000 t (.agg #[.int .i64 a,.int .i64 b,.int .i64 c]) (.agg #[.int .i64 a',.int .i64 b',.int .i64 c'])).run P w = .ok (a == a' && (b == b' && c == c')) w
def DS (op : BinOp) (b : Bool) : Option Value :=
 match op with
 | .eql => some (.bool b)
 | .neq => some (.bool (!b))
 | _ => none
section
variable {P : Program} {C : Ctx} {ι : Pl} {T : Nat → Option AV} {F : Nat → Prop} {H : Nat → Option (List AV)} {a : Act} {w : World} {o : Oper}
theorem Jj (g:TG C ι T H a w){op:BinOp}{t t':TypeId}{x y:Operand}{m1 m2 m3 n1 n2 n3:Int}{v:Value}(he:Eq3 P t) (ho:o.op = .binOp op t x y t')
  (hx : ev T x = some (.agg [.v (.int .i64 m1),.v (.int .i64 m2),.v (.int .i64 m3)])) (hy : ev T y = some (.agg [.v (.int .i64 n1),.v (.int .i64 n2),.v (.int .i64 n3)]))
  (h : DS op (m1 == n1 && (m2 == n2 && m3 == n3)) = some v) : Pu P C ι H a w o (.v v) := by
 have key : ∀ (z : Operand) (k1 k2 k3 : Int), ev T z = some (.agg [.v (.int .i64 k1), .v (.int .i64 k2), .v (.int .i64 k3)]) → a.eval z = .agg #[.int .i64 k1, .int .i64 k2, .int .i64 k3] := by
  intro z k1 k2 k3 hz
  have h1 := bH g hz
  simp only [Rd] at h1
  obtain ⟨l,h2,h3⟩ := h1
  have h4 := pI (ns := [k1,k2,k3]) (k := .i64) h3
  rw [h2,h4]; rfl
 refine ⟨v,?_,by simp [Rd]⟩
 have hb : (binOp op t (.agg #[.int .i64 m1, .int .i64 m2, .int .i64 m3]) (.agg #[.int .i64 n1, .int .i64 n2, .int .i64 n3])).run P w = .ok v w := by
  cases op <;> simp only [DS] at h <;> cases h
  ·rw [run_eql_struct,he.e]; rfl
  ·rw [run_neq_struct,he.e]; rfl
 simp only [execOp,ho,key x _ _ _ hx,key y _ _ _ hy,Sem.run_bind,run_eqGuard_agg w op t x y _ _ he.g,Result.andThen_ok,hb,Sem.run_pure]
end
section
variable {P : Program} {N : Nat} {Q : Exit → AS → Prop} {all : Array Oper} {rest : List Oper} {ts : List (Nat × AV)} {hs : List (Nat × Option (List AV))} {n : Nat} {z0 : Lo} {md : Md}
variable {d : Nat} {ty : TypeId} {pos : String} {af : Array Edge}
theorem cJ {op:BinOp}{t t':TypeId}{x y:Operand}{m m':ByteArray}{v:Value}(hx:ev (lk ts) x = some (.v (.string m))) (hy:ev (lk ts) y = some (.v (.string m')))
  (h : qU op m m' = some v) (hN : Nat.blt d N = true) {md' : Md} [hmd : MdA md (rO x ++ rO y) [.inl d] md'] (kk : RW P N all Q md' rest ⟨(d,.v v) :: ts,hs,n,z0⟩) : RW P N all Q md (⟨some d,.binOp op t x y t',ty,pos,af,none⟩ :: rest) ⟨ts,hs,n,z0⟩ :=
 cR rfl rfl (cH hN) (fun C ι F T H a w ag g gh => Hh g rfl (ag.l.ev.trans hx) (ag.r.ev.trans hy) h) (by rw [hmd.pf]; exact kk)
theorem iU {op:BinOp}{t t':TypeId}{x y:Operand}{m1 m2 m3 n1 n2 n3:Int}{v:Value}[he:Eq3 P t] (hx:ev (lk ts) x = some (.agg [.v (.int .i64 m1),.v (.int .i64 m2),.v (.int .i64 m3)])) (hy:ev (lk ts) y = some (.agg [.v (.int .i64 n1),.v (.int .i64 n2),.v (.int .i64 n3)]))
  (h : DS op (m1 == n1 && (m2 == n2 && m3 == n3)) = some v) (hN : Nat.blt d N = true) {md' : Md} [hmd : MdA md (rO x ++ rO y) [.inl d] md'] (kk : RW P N all Q md' rest ⟨(d,.v v) :: ts,hs,n,z0⟩) : RW P N all Q md (⟨some d,.binOp op t x y t',ty,pos,af,none⟩ :: rest) ⟨ts,hs,n,z0⟩ :=
 cR rfl rfl (cH hN) (fun C ι F T H a w ag g gh => Jj g he rfl (ag.l.ev.trans hx) (ag.r.ev.trans hy) h) (by rw [hmd.pf]; exact kk)
theorem pP {s t el:TypeId}{x:Operand}{av:AV}{m:Nat}(ns:List Int) [ht:SlT P s el] [hu:InT P el .u8] [hst:StT P t] (hx:ev (lk ts) x = some av)
  (hs' : sCells (aP hs) 1 (nO av) = some (m,ns.map fun n => .v (.int .u8 n))) (hN : Nat.blt d N = true) {md' : Md} [hmd : MdA md (rO x ++ rA av) [.inl d] md'] (kk : RW P N all Q md' rest ⟨(d,.v (.string (Ej .empty ns))) :: ts,hs,n,z0⟩) :
  RW P N all Q md (⟨some d,.convert s t x,ty,pos,af,none⟩ :: rest) ⟨ts,hs,n,z0⟩ :=
 cR rfl rfl (cH hN) (fun C ι F T H a w ag g gh => HP g gh rfl (ag.l.ev.trans hx) ht.pf hu.pf hst.pf (ag.r.sCells.trans hs')) (by rw [hmd.pf]; exact kk)
theorem m9 {t:TypeId}{x i:Operand}{s:ByteArray}{k:IntKind}{m:Int}[ht:StT P t] (hx:ev (lk ts) x = some (.v (.string s)))
  (hi : ev (lk ts) i = some (.v (.int k m))) (hm : 0 ≤ m ∧ m < (s.size : Int)) (hN : Nat.blt d N = true) {md' : Md} [hmd : MdA md (rO x ++ rO i) [.inl d] md'] (kk : RW P N all Q md' rest ⟨(d,.v (.int .u8 ((s[m.toNat]!).toNat : Int))) :: ts,hs,n,z0⟩) :
  RW P N all Q md (⟨some d,.index t x i,ty,pos,af,none⟩ :: rest) ⟨ts,hs,n,z0⟩ :=
 Cj (b := s[m.toNat]!) hx hi ht.pf hm.1 (by rw [getElem!_pos s m.toNat (by omega),getElem?_pos s m.toNat (by omega)]) (cH hN) (by rw [hmd.pf]; exact kk)
theorem mS {t:TypeId}{x:Operand}{lo hi:Option Operand}{s:ByteArray}{l h:Nat}[ht:StT P t] (hx:ev (lk ts) x = some (.v (.string s)))
  (hl : fL (lk ts) lo 0 = some l) (hh : fL (lk ts) hi s.size = some h) (hc : l ≤ h ∧ h ≤ s.size) (hN : Nat.blt d N = true) {md' : Md} [hmd : MdA md (rO x ++ (rB lo ++ rB hi)) [.inl d] md'] (kk : RW P N all Q md' rest ⟨(d,.v (.string (s.extract l h))) :: ts,hs,n,z0⟩) :
  RW P N all Q md (⟨some d,.slice t x lo hi none,ty,pos,af,none⟩ :: rest) ⟨ts,hs,n,z0⟩ := Ci hx ht.pf hl hh hc (cH hN) (by rw [hmd.pf]; exact kk)
theorem Ep (m:Int) (h:0 ≤ m ∧ m ≤ 255):IntKind.u8.wrap m = m:=by
 have : IntKind.u8.wrap m = m % 256 := rfl
 rw [this]; omega
theorem Ha {t t':TypeId}{x y:Operand}{m m':Int}(hx:ev (lk ts) x = some (.v (.int .u8 m))) (hy:ev (lk ts) y = some (.v (.int .u8 m')))
  (h : 0 ≤ m + m' ∧ m + m' ≤ 255) (hN : Nat.blt d N = true) {md' : Md} [hmd : MdA md (rO x ++ rO y) [.inl d] md'] (kk : RW P N all Q md' rest ⟨(d,.v (.int .u8 (m + m'))) :: ts,hs,n,z0⟩) : RW P N all Q md (⟨some d,.binOp .add t x y t',ty,pos,af,none⟩ :: rest) ⟨ts,hs,n,z0⟩ :=
 cY hx hy (.inl rfl) (v := .int .u8 (m + m')) (by simp only [fC,Ep _ h]) (cH hN) (by rw [hmd.pf]; exact kk)
theorem Ba {t t':TypeId}{x y:Operand}{m m':Int}(hx:ev (lk ts) x = some (.v (.int .u8 m))) (hy:ev (lk ts) y = some (.v (.int .u8 m')))
  (h : 0 ≤ m - m' ∧ m - m' ≤ 255) (hN : Nat.blt d N = true) {md' : Md} [hmd : MdA md (rO x ++ rO y) [.inl d] md'] (kk : RW P N all Q md' rest ⟨(d,.v (.int .u8 (m - m'))) :: ts,hs,n,z0⟩) : RW P N all Q md (⟨some d,.binOp .sub t x y t',ty,pos,af,none⟩ :: rest) ⟨ts,hs,n,z0⟩ :=
 cY hx hy (.inl rfl) (v := .int .u8 (m - m')) (by simp only [fC,Ep _ h]) (cH hN) (by rw [hmd.pf]; exact kk)
theorem jS {s t:TypeId}{x:Operand}{k':IntKind}{m:Int}[hd:InT P t .u8] [hs':InT P s k'] (hx:ev (lk ts) x = some (.v (.int k' m))) (h:0 ≤ m ∧ m ≤ 255) (hN:Nat.blt d N = true){md':Md}[hmd:MdA md (rO x) [.inl d] md'] (kk:RW P N all Q md' rest ⟨(d,.v (.int .u8 m)) :: ts,hs,n,z0⟩) :
  RW P N all Q md (⟨some d,.convert s t x,ty,pos,af,none⟩ :: rest) ⟨ts,hs,n,z0⟩ := AB hx hd.pf hs'.pf (cH hN) (by rw [hmd.pf,Ep _ h]; exact kk)
end
theorem e7 (n:Int):(Ej .empty [n]).size = 1 := rfl
theorem hO {a b:ByteArray}(h:a.size + b.size ≤ 9000000000000000000):qU .add a b = some (.string (a ++ b)) := if_pos h
def k4 (l : List Int) : ByteArray := l.foldl (fun r n => r.push (UInt8.ofNat n.toNat)) .empty
def dV (v : Int) : ByteArray := k4 [97 + v]
def qQ (n : Int) : ByteArray := k4 [48 + n] ++ .empty
theorem eM (l:List UInt8):ByteArray.size ⟨l.toArray⟩ = l.length := rfl
theorem dF (v:Int):(dV v).size = 1 := rfl
theorem dE (v:Int):(qQ v).size = 1 := by simp [qQ,k4,ByteArray.size_append]
def nT (out : ByteArray) (k : Nat) (t : ByteArray) : ByteArray := (if 0 < k then out ++ ⟨#[59]⟩ else out) ++ t
mutual
def fI : Stmt → ByteArray
 | .mk op x y n th el =>
  if op = 1 then (dV x ++ ⟨#[61]⟩) ++ qQ n
  else if op = 2 then (dV x ++ ⟨#[61,98,111,120,32]⟩) ++ qQ n
  else if op = 3 then (dV x ++ ⟨#[61]⟩) ++ dV y
  else if op = 4 then (dV x ++ ⟨#[61,38]⟩) ++ dV y
  else if op = 5 then (dV x ++ ⟨#[61,38,109,117,116,32]⟩) ++ dV y
  else if op = 6 then (dV x ++ ⟨#[61,42]⟩) ++ dV y
  else if op = 7 then ((⟨#[42]⟩ ++ dV x) ++ ⟨#[61]⟩) ++ dV y
  else if op = 8 then ⟨#[100,114,111,112,32]⟩ ++ dV x
  else if op = 10 then (⟨#[108,111,111,112,123]⟩ ++ jJ .empty 0 th) ++ ⟨#[125]⟩
  else (((⟨#[105,102,123]⟩ ++ jJ .empty 0 th) ++ ⟨#[125,123]⟩) ++ jJ .empty 0 el) ++ ⟨#[125]⟩
def jJ (out : ByteArray) (k : Nat) : List Stmt → ByteArray
 | [] => out
 | s :: l => jJ (nT out k (fI s)) (k + 1) l
end
def gL (l : List Stmt) : ByteArray := jJ .empty 0 l
theorem pE:∀ (l:List Stmt) (out:ByteArray) (k:Nat) (s:Stmt),jJ out k (l ++ [s]) = nT (jJ out k l) (k + l.length) (fI s)
 | [],out,k,s => by simp only [List.nil_append,jJ,List.length_nil,Nat.add_zero]
 | x :: l, out, k, s => by
  simp only [List.cons_append,jJ,pE l,List.length_cons]
  rw [show k + 1 + l.length = k + (l.length + 1) from by omega]
theorem qH (l:List Stmt) (k:Nat) (h:k < l.length):gL (l.take (k + 1)) = nT (gL (l.take k)) k (fI l[k]!):=by
 rw [bJ _ _ h,gL,pE,List.length_take,Nat.min_eq_left (by omega),Nat.zero_add]; rfl
theorem rP (s:Stmt):fI s = 
  if s.op = 1 then (dV s.x ++ ⟨#[61]⟩) ++ qQ s.n
  else if s.op = 2 then (dV s.x ++ ⟨#[61,98,111,120,32]⟩) ++ qQ s.n
  else if s.op = 3 then (dV s.x ++ ⟨#[61]⟩) ++ dV s.y
  else if s.op = 4 then (dV s.x ++ ⟨#[61,38]⟩) ++ dV s.y
  else if s.op = 5 then (dV s.x ++ ⟨#[61,38,109,117,116,32]⟩) ++ dV s.y
  else if s.op = 6 then (dV s.x ++ ⟨#[61,42]⟩) ++ dV s.y
  else if s.op = 7 then ((⟨#[42]⟩ ++ dV s.x) ++ ⟨#[61]⟩) ++ dV s.y
  else if s.op = 8 then ⟨#[100,114,111,112,32]⟩ ++ dV s.x
  else if s.op = 10 then (⟨#[108,111,111,112,123]⟩ ++ gL s.th) ++ ⟨#[125]⟩
  else (((⟨#[105,102,123]⟩ ++ gL s.th) ++ ⟨#[125,123]⟩) ++ gL s.el) ++ ⟨#[125]⟩ := by
 cases s;rw [fI]; rfl
mutual
theorem k8:∀ s,(fI s).size + 1 ≤ 11 * bF s
 | .mk op x y n th el => by
  have h1 := jA th .empty 0
  have h2 := jA el .empty 0
  have h3 : ByteArray.size .empty = 0 := rfl
  rw [fI]
  simp only [bF]
  repeat' split
  all_goals simp only [ByteArray.size_append,eM,List.length_cons,List.length_nil,dF,dE]
  all_goals omega
theorem jA:∀ (l:List Stmt) (out:ByteArray) (k:Nat),(jJ out k l).size ≤ out.size + 11 * aK l
 | [],out,k => by simp only [jJ,aK]; omega
 | s :: l, out, k => by
  have h1 := k8 s
  have h2 := jA l (nT out k (fI s)) (k + 1)
  have h3 : (nT out k (fI s)).size ≤ out.size + 1 + (fI s).size := by
   unfold nT;split <;> simp only [ByteArray.size_append,eM,List.length_cons,List.length_nil] <;> omega
  simp only [jJ,aK]
  omega
end
theorem jB (l:List Stmt):(gL l).size ≤ 11 * aK l:=by
 have := jA l .empty 0
 have h3 : ByteArray.size .empty = 0 := rfl
 unfold gL;omega
theorem sF {ts:List Int}{s:Stmt}(ht:aY ts = true) (h:c7 ts s = true):1 ≤ s.op ∧ s.op ≤ 8 ∧ 0 ≤ s.x ∧ s.x ≤ 5 ∧ 0 ≤ s.y ∧ s.y ≤ 5 ∧ (s.op = 1 ∨ s.op = 2 → 0 ≤ s.n ∧ s.n ≤ 9):=by
 have hl := fM ht
 have hx := jG ht s.x
 have hy := jG ht s.y
 unfold c7 at h
 dsimp only at h
 repeat' split at h
 all_goals (first|(simp only [decide_eq_true_eq] at h;omega)|(simp at h;done))
structure IsOk (nt np : Nat) (x : Iss) : Prop where
 p0 : 0 ≤ x.point
 p1 : x.point < np
 k : (x.kind = 1 ∧ 0 ≤ x.with_ ∧ x.with_ < nt) ∨ ((x.kind = 2 ∨ x.kind = 3) ∧ 0 ≤ x.with_ ∧ x.with_ < np)
theorem IW {ts:List Int}{pts:List Pnt}{Aa:List Nat}{cf:List Bool}{i:Nat}(hi:i < pts.length):∀ x ∈ H7 ts pts Aa cf i,IsOk ts.length pts.length x ∧ x.point = i:=by
 intro x hx
 unfold H7 at hx
 rcases List.mem_append.1 hx with h|h
 ·obtain ⟨v, hv, rfl⟩ := List.mem_map.1 h
  have hv2 := List.mem_range.1 (List.mem_filter.1 hv).1
  exact ⟨⟨by dsimp only;omega,by dsimp only;omega,.inl ⟨rfl,by dsimp only;omega,by dsimp only;omega⟩⟩,rfl⟩
 ·obtain ⟨v, hv, rfl⟩ := List.mem_map.1 h
  have hv2 := List.mem_range.1 (List.mem_filter.1 hv).1
  refine ⟨⟨by dsimp only;omega,by dsimp only;omega,.inr ⟨?_,by dsimp only;omega,by dsimp only;omega⟩⟩,rfl⟩
  show Fs pts v = 2 ∨ Fs pts v = 3
  unfold Fs;split <;> simp
theorem AJ {ts:List Int}{pts:List Pnt}(w:WG ts pts) (f:Flows ts pts):∀ n,n ≤ pts.length →
  (∀ x ∈ m6 ts pts f.Aa f.Am f.Al f.Af f.Ap n,IsOk ts.length pts.length x ∧ x.point < n) ∧ (m6 ts pts f.Aa f.Am f.Al f.Af f.Ap n).Pairwise (fun a b => a.point ≤ b.point)
 | 0, _ => by
  have : m6 ts pts f.Aa f.Am f.Al f.Af f.Ap 0 = [] := rfl
  rw [this]
  exact ⟨fun x h => by simp at h,List.Pairwise.nil⟩
 | n + 1, h => by
  obtain ⟨h1,h2⟩ := AJ w f n (by omega)
  have h3 := IW (ts := ts) (pts := pts) (Aa := f.Aa) (cf := Fu ts pts f.Am f.Al f.Af f.Ap n) (i := n) (by omega)
  rw [zW w f (by omega)] at h3
  rw [kP]
  refine ⟨fun x hx => ?_,List.pairwise_append.2 ⟨h2,?_,fun a ha b hb => ?_⟩⟩
  ·rcases List.mem_append.1 hx with hx | hx
   ·exact ⟨(h1 x hx).1,by have := (h1 x hx).2;omega⟩
   ·exact ⟨(h3 x hx).1,by have := (h3 x hx).2;omega⟩
  ·refine List.pairwise_iff_getElem.2 fun i j hi hj _ => ?_
   have a1 := (h3 _ (List.getElem_mem hi)).2
   have a2 := (h3 _ (List.getElem_mem hj)).2
   omega
  ·have a1 := (h1 a ha).2
   have a2 := (h3 b hb).2
   omega
theorem EZ {ts:List Int}{pts:List Pnt}(w:WG ts pts) (f:Flows ts pts):(∀ k,k < f.iss.length → IsOk ts.length pts.length f.iss[k]!) ∧ (∀ k,k + 1 < f.iss.length → f.iss[k]!.point ≤ f.iss[k + 1]!.point):=by
 obtain ⟨h1,h2⟩ := AJ w f pts.length (Nat.le_refl _)
 refine ⟨fun k hk => (h1 _ (bD _ k hk)).1,fun k hk => ?_⟩
 rw [bE _ _ hk,bE _ k (by omega)]
 exact List.pairwise_iff_getElem.1 h2 k (k + 1) (Nat.lt_of_succ_lt hk) hk (Nat.lt_succ_self k)
theorem Gv (ts:List Int) (pts:List Pnt) (Aa:List Nat) (cf:List Bool) (i:Nat):(H7 ts pts Aa cf i).length ≤ ts.length + pts.length:=by
 unfold H7
 rw [List.length_append,List.length_map,List.length_map]
 have h1 := List.length_filter_le (BA ts pts Aa i) (List.range ts.length)
 have h2 := List.length_filter_le (fun (l : Nat) => cf[l]!) (List.range pts.length)
 rw [List.length_range] at h1 h2
 omega
theorem AQ {ts:List Int}{pts:List Pnt}(w:WG ts pts) (f:Flows ts pts):∀ n,n ≤ pts.length → (m6 ts pts f.Aa f.Am f.Al f.Af f.Ap n).length ≤ n * (ts.length + pts.length)
 | 0,_ => by simp [m6]
 | n + 1, h => by
  have h1 := AQ w f n (by omega)
  have h2 := Gv ts pts f.Aa (Fu ts pts f.Am f.Al f.Af f.Ap n) n
  rw [zW w f (by omega)] at h2
  rw [kP,List.length_append,Nat.succ_mul]
  omega
theorem kD {ts:List Int}{pts:List Pnt}(w:WG ts pts) (f:Flows ts pts):f.iss.length ≤ 100000:=by
 have h := AQ w f pts.length (Nat.le_refl _)
 have h1 := w.tl
 have h2 := w.pl
 have h3 : pts.length * (ts.length + pts.length) ≤ 61 * 67 := Nat.mul_le_mul (by omega) (by omega)
 exact Nat.le_trans h (Nat.le_trans h3 (by decide))
end Go.AL
namespace Go.AL
theorem iV {A n:Nat}(hv:∀ v,A.testBit v = true → v < n):A < 2 ^ n := Nat.lt_pow_two_of_testBit _ fun v h => by
 cases hq : Nat.testBit _ v with
 | false => rfl
 | true => have := hv v hq;omega
theorem kI {A n:Nat}(hn:n ≤ 62) (hv:A < 2 ^ n):Sm A := ⟨Nat.lt_of_lt_of_le hv (Nat.pow_le_pow_right (by decide) hn)⟩
structure FB (ts : List Int) (pts : List Pnt) (f : Flows ts pts) : Prop where
 la : f.Aa.length = pts.length
 lm : f.Am.length = pts.length
 ln : f.An.length = pts.length
 ll : f.Al.length = pts.length
 lp : f.Ap.length = pts.length
 bA : ∀ i : Nat,f.Aa[i]! < 2 ^ ts.length
 bM : ∀ i : Nat,f.Am[i]! < 2 ^ ts.length
 bN : ∀ i : Nat,f.An[i]! < 2 ^ ts.length
 bL : ∀ i : Nat,f.Al[i]! < 2 ^ ts.length
 bP : ∀ i : Nat,f.Ap[i]! < 2 ^ pts.length
 sA : ∀ i : Nat,Sm f.Aa[i]!
 sM : ∀ i : Nat,Sm f.Am[i]!
 sN : ∀ i : Nat,Sm f.An[i]!
 sL : ∀ i : Nat,Sm f.Al[i]!
 sP : ∀ i : Nat,Sm f.Ap[i]!
 rl : ∀ i,i < pts.length → (dC f.Af i).length = 6
 rs : ∀ i,i < pts.length → ∀ z : Nat,Sm (dC f.Af i)[z]!
 af : ∀ i,i < pts.length → G1 pts f.An i = f.Al[i]!
 kp : ∀ i,i < pts.length → uV ts pts[i]! f.Al[i]! (dC f.Af i) < 2 ^ pts.length
 lo : ∀ i,i < pts.length → uV ts pts[i]! f.Al[i]! (dC f.Af i) &&& f.Ap[i]! < 2 ^ pts.length
 cf : ∀ i,i < pts.length → F6 ts pts f.Am f.Al f.Af f.Ap i < 2 ^ pts.length
theorem Flows.bnd {ts:List Int}{pts:List Pnt}(f:Flows ts pts) (w:WG ts pts):FB ts pts f:=by
 have hpl := w.pl
 have htl := w.tl
 have off : ∀ {A : List Nat} {n : Nat} {i : Nat}, A.length = pts.length → ¬ i < pts.length → A[i]! < 2 ^ n := fun {A n i} h hi => by
  rw [getElem!_neg A i (by omega)]; exact Nat.pow_pos (by decide)
 have bA : ∀ i : Nat, f.Aa[i]! < 2 ^ ts.length := fun i => by
  by_cases hi : i < pts.length
  ·exact iV fun v hv => ((f.ga.2 i hi v).1 hv).1
  ·exact off f.ga.1 hi
 have bM : ∀ i : Nat, f.Am[i]! < 2 ^ ts.length := fun i => by
  by_cases hi : i < pts.length
  ·exact iV fun v hv => D5 w ((f.gm.2 i hi v).1 hv)
  ·exact off f.gm.1 hi
 have bN : ∀ i : Nat, f.An[i]! < 2 ^ ts.length := fun i => by
  by_cases hi : i < pts.length
  ·exact iV fun v hv => o8 w ((f.gn.2 i hi v).1 hv)
  ·exact off f.gn.1 hi
 have bL : ∀ i : Nat, f.Al[i]! < 2 ^ ts.length := fun i => by
  by_cases hi : i < pts.length
  ·exact iV fun v hv => by obtain ⟨k,_,h⟩ := (f.gl.2 i hi v).1 hv;exact o8 w h
  ·exact off f.gl.1 hi
 have bP : ∀ i : Nat, f.Ap[i]! < 2 ^ pts.length := fun i => by
  by_cases hi : i < pts.length
  ·exact iV fun v hv => (oQ ((f.gp.2 i hi v).1 hv)).1
  ·exact off f.gp.1 hi
 have rs : ∀ i, i < pts.length → ∀ z : Nat, (dC f.Af i)[z]! < 2 ^ pts.length := fun i hi z => by
  by_cases hz : z < 6
  ·rw [fD f.gf.1 hi hz]
   exact iV fun v hv => (AZ w ((f.gf.2 i z hi hz v).1 hv)).2.2
  ·rw [getElem!_neg _ z (by rw [eH f.gf.1 hi]; exact hz)]; exact Nat.pow_pos (by decide)
 have kp : ∀ i, i < pts.length → uV ts pts[i]! f.Al[i]! (dC f.Af i) < 2 ^ pts.length := fun i hi => iV fun v hv => by
  unfold uV at hv
  rw [gZ] at hv
  rcases hv with hv | ⟨z,hz,hv⟩
  ·simp at hv
  ·exact b8 (rs i hi _) hv
 have lo : ∀ i,i < pts.length → uV ts pts[i]! f.Al[i]! (dC f.Af i) &&& f.Ap[i]! < 2 ^ pts.length := fun i hi => Nat.and_lt_two_pow _ (bP i)
 refine ⟨f.ga.1, f.gm.1, f.gn.1, f.gl.1, f.gp.1, bA, bM, bN, bL, bP, fun i => kI (by omega) (bA i), fun i => kI (by omega) (bM i), fun i => kI (by omega) (bN i), fun i => kI (by omega) (bL i), fun i => kI (by omega) (bP i),
  fun i hi => eH f.gf.1 hi,fun i hi z => kI (by omega) (rs i hi z),fun i hi => ?_,kp,lo,fun i hi => yD w (bP i)⟩
 rw [rF f.gl (vR w f.gn),a6 _ _ _ hi]
end Go.AL
namespace Go.AL
def nV (a b : Iss) : Bool := a.point == b.point && (a.kind == b.kind && a.with_ == b.with_)
theorem iQ (a b:Iss):nV a b = true ↔ a = b:=by
 unfold nV
 simp only [Bool.and_eq_true,beq_iff_eq]
 constructor
 ·rintro ⟨h1,h2,h3⟩; cases a;cases b;simp only at h1 h2 h3;rw [h1,h2,h3]
 ·rintro rfl;exact ⟨rfl,rfl,rfl⟩
structure Tg where
 id : Int
 uq : Bool
 deriving Inhabited,DecidableEq
structure Cl where
 val : Int
 alive : Bool
 next : Int
 stk : List Tg
 deriving Inhabited,DecidableEq
structure Pt where
 cell : Int
 tag : Int
 deriving Inhabited,DecidableEq
structure Sl where
 set : Bool
 num : Int
 ptr : Pt
 deriving Inhabited,DecidableEq
def HW (t : Tg) : List AV := [iv t.id,bv t.uq]
def Jr (c : Cl) : List AV := [iv c.val,bv c.alive,iv c.next,sl HW c.stk]
def Kl (s : Sl) : List AV := [bv s.set,iv s.num,iv s.ptr.cell,iv s.ptr.tag]
instance : FlT HW 2:=⟨fun _ => rfl⟩
instance : FlT Jr 4:=⟨fun _ => rfl⟩
instance : FlT Kl 4:=⟨fun _ => rfl⟩
instance : FE HW (fun t => [iv t.id,bv t.uq]):=⟨fun _ => rfl⟩
instance : FE Jr (fun c => [iv c.val,bv c.alive,iv c.next,sl HW c.stk]):=⟨fun _ => rfl⟩
instance : FE Kl (fun s => [bv s.set,iv s.num,iv s.ptr.cell,iv s.ptr.tag]):=⟨fun _ => rfl⟩
instance (t : Tg) : Pur (HW t):=⟨rfl⟩
instance (c : Cl) : Pur (Jr c):=⟨by show (true && (true && (true && ((sl HW c.stk).pur && true)))) = true;rw [bC]; rfl⟩
instance (s : Sl) : Pur (Kl s):=⟨rfl⟩
def Jx (c : Cl) : Prop := c.stk.length = 200 ∨ c.next = 1000
instance (c : Cl) : Decidable (Jx c) := by unfold Jx;infer_instance
structure Co where
 val : Int
 alive : Bool
 next : Int
 av : AV
instance : Inhabited Co:=⟨⟨0,false,0,.imm 0 []⟩⟩
def HD (c : Co) : List AV := [iv c.val,bv c.alive,iv c.next,c.av]
instance : FlT HD 4:=⟨fun _ => rfl⟩
instance : FE HD (fun c => [iv c.val,bv c.alive,iv c.next,c.av]):=⟨fun _ => rfl⟩
def F7 (c : Cl) : Co := ⟨c.val,c.alive,c.next,sl HW c.stk⟩
def Jv (m : List Cl) (j : Nat) (X : AV) : List Co := (m.map F7).set j { F7 m[j]! with av := X }
theorem mZ (m:List Cl):flat HD (m.map F7) = flat Jr m:=by
 unfold flat;rw [List.flatMap_map]; rfl
theorem vM {m:List Cl}{j:Nat}{X:AV}(h:j < m.length):flat HD (Jv m j X) = flat Jr (m.take j) ++ ([iv m[j]!.val,bv m[j]!.alive,iv m[j]!.next] ++ X :: flat Jr (m.drop (j + 1))):=by
 unfold Jv
 rw [List.set_eq_take_append_cons_drop,if_pos (by rw [List.length_map]; exact h),← bX,← List.map_take,mZ,← List.map_drop]
 congr 1
 show HD _ ++ flat HD _ = _
 rw [mZ]; rfl
theorem uQ {ρ:Nat → Option Nat}{m:List Cl}{j k i i':Nat}(hr:ρ i = some i'):RnL ρ (flat HD (Jv m j (.own i 0 k 2))) (flat HD (Jv m j (.own i' 0 k 2))):=by
 by_cases h : j < m.length
 ·rw [vM h, vM h]
  exact RnL.app (RnL.purI inferInstance) (RnL.app (RnL.purI inferInstance) (RnL.cons (RnV.own hr) (RnL.purI inferInstance)))
 ·have e : ∀ X, Jv m j X = m.map F7 := fun X => List.set_eq_of_length_le (by rw [List.length_map]; omega)
  rw [e,e,mZ]
  exact RnL.purI inferInstance
mutual
def Cu : Stmt → Prop
 | .mk _ _ _ _ th el => (th.length ≤ 9223372036854775807 ∧ FA th) ∧ (el.length ≤ 9223372036854775807 ∧ FA el)
def FA : List Stmt → Prop
 | [] => True
 | s :: l => Cu s ∧ FA l
end
def Fv (l : List Stmt) : Prop := l.length ≤ 9223372036854775807 ∧ FA l
theorem Ax:∀ {l:List Stmt}{s:Stmt},FA l → s ∈ l → Cu s
 | a :: l, s, h, hm => by
  simp only [FA] at h
  rcases List.mem_cons.1 hm with rfl|hm
  ·exact h.1
  ·exact Ax h.2 hm
theorem I1 {l:List Stmt}{k:Nat}(h:Fv l) (hk:k < l.length):Cu l[k]! := Ax h.2 (bD l k hk)
theorem I2 {s:Stmt}(h:Cu s):Fv s.th ∧ Fv s.el:=by
 cases s
 simp only [Cu] at h
 exact h
theorem D3:∀ {l:List Stmt},(∀ s ∈ l,Cu s) → FA l
 | [],_ => by simp only [FA]
 | s :: l,h => by simp only [FA]; exact ⟨h s (by simp),D3 fun x hx => h x (by simp [hx])⟩
def kV : List Stmt → Nat
 | [] => 0
 | s :: l => aK s.th + aK s.el + kV l
theorem Es:∀ l:List Stmt,aK l = l.length + kV l
 | [] => by simp [aK,kV]
 | s :: l => by
  have := Es l
  simp only [aK,kV,dS,List.length_cons]; omega
theorem p9:∀ a b:List Stmt,kV (a ++ b) = kV a + kV b
 | [],b => by simp [kV]
 | s :: a, b => by
  have := p9 a b
  simp only [List.cons_append,kV]; omega
theorem BI {l:List Stmt}{k:Nat}(hk:k < l.length):kV (l.take (k + 1)) = kV (l.take k) + (aK l[k]!.th + aK l[k]!.el):=by
 have e : l.take (k + 1) = l.take k ++ [l[k]!] := by rw [bE _ _ hk,List.take_succ_eq_append_getElem hk]
 rw [e,p9]; simp only [kV]; omega
theorem FQ (l:List Stmt) (k:Nat):kV (l.take k) ≤ kV l:=by
 have := p9 (l.take k) (l.drop k)
 rw [List.take_append_drop] at this;omega
def DR (c left : Int) : Int := if c ≤ left then left - c else -1
def J8 : Stmt := .mk 0 0 0 0 [] []
theorem Eg {w:World}{bad:Nat → Prop}{ι:Pl}{b:Nat}:∀ (m β:Nat),RdC w bad ι ((List.replicate m ([Value.int .i64 0,.int .i64 0,.int .i64 0,.int .i64 0,.slice none 0 0,.slice none 0 0].map AV.v)).flatten) b β → RdC w bad ι (flat aF (List.replicate m J8)) b β
 | 0,_,_ => trivial
 | m + 1, β, h => by
  rw [List.replicate_succ,List.flatten_cons] at h
  rw [List.replicate_succ]
  obtain ⟨g0,g1,g2,g3,⟨x4,p4,q4,r4⟩,⟨x5,p5,q5,r5⟩,h4⟩ := h
  exact ⟨g0,g1,g2,g3,⟨x4,p4,q4,iT (av := .v (.slice none 0 0)) r4⟩,⟨x5,p5,q5,iT (av := .v (.slice none 0 0)) r5⟩,Eg m _ h4⟩
theorem Le.zeroS {ts:List (Nat × AV)}{hs:List (Nat × Option (List AV))}{n:Nat}{z0:Lo}{i m:Nat}(hi:aP hs i = some ((List.replicate m ([Value.int .i64 0,.int .i64 0,.int .i64 0,.int .i64 0,.slice none 0 0,.slice none 0 0].map AV.v)).flatten)) :
  Le ⟨ts,hs,n,z0⟩ ⟨ts,(i,some (flat aF (List.replicate m J8))) :: hs,n,z0⟩ :=
 Le.cells hi (by rw [aQ aF (e := 6)]; simp) fun w bad ι b β h => Eg m β h
end Go.AL
