/-
 A part of the proofs over this program: rules and contracts of its functions (the rules).
-/
import Derived.Test.YtahdccneecdmmaaGreatE2A05
import Derived.Laws.BytesString
import Derived.Laws.StructEq
set_option linter.unusedVariables false
set_option linter.unusedSimpArgs false
namespace Go.AL
open Go.RowKit
mutual
theorem RnV.bw {w:World}{ρ:Nat → Option Nat}{bad bad':Nat → Prop}{ι ι':Pl}(h:∀ i i',ρ i = some i' → ι i = ι' i') (hc:∀ b,bad b → bad' b):∀ {v v':AV},RnV ρ v v' → ∀ {y:Value},Rd w bad' ι' v' y → Rd w bad ι v y
 | _,_,.pur hp,y,k => Rd.pur _ y hp (Rd.carry (⟨fun b o x h1 h2 => ⟨fun q => h1 (hc b q),h2⟩,fun _ _ h => h,fun _ => Nat.le_refl _⟩ : Carry w bad' ι' w bad ι') _ _ k)
 | _,_,.own hi,y,k => by simp only [Rd,h _ _ hi] at k ⊢; exact k
 | _,_,.optr hi,y,k => by simp only [Rd,h _ _ hi] at k ⊢; exact k
 | _, _, .imm (cs := cs) (cs' := cs') hl, y, k => by
  have hlen := RnL.len hl
  simp only [Rd] at k ⊢
  obtain ⟨a,c,rfl,k⟩ := k
  refine ⟨a,c,rfl,?_⟩
  rcases k with k | ⟨b,o,hn,rfl,k⟩
  ·exact .inl k
  ·refine .inr ⟨b, o, hn, rfl, ?_⟩
   rcases k with k | ⟨hb,k⟩
   ·subst k;exact .inl (List.eq_nil_of_length_eq_zero (by rw [hlen]; rfl))
   ·exact .inr ⟨fun q => hb (hc b q),RnL.bwC h hc hl k⟩
 | _, _, .agg hl, y, k => by
  simp only [Rd] at k ⊢
  obtain ⟨l,h1,h2⟩ := k
  exact ⟨l,h1,RnL.bwL h hc hl h2⟩
 | _, _, .tup hl, y, k => by
  simp only [Rd] at k ⊢
  obtain ⟨l,h1,h2⟩ := k
  exact ⟨l,h1,RnL.bwV h hc hl h2⟩
 | _, _, .clos h1 h2, y, k => by
  simp only [Rd] at k ⊢
  obtain ⟨lf,lc,q1,q2,q3⟩ := k
  exact ⟨lf,lc,q1,RnL.bwV h hc h1 q2,RnL.bwV h hc h2 q3⟩
theorem RnL.bwL {w:World}{ρ:Nat → Option Nat}{bad bad':Nat → Prop}{ι ι':Pl}(h:∀ i i',ρ i = some i' → ι i = ι' i') (hc:∀ b,bad b → bad' b):∀ {v v':List AV},RnL ρ v v' → ∀ {y:List Value},RdL w bad' ι' v' y → RdL w bad ι v y
 | _,_,.pur hp,y,k => RdL.pur _ y hp (RdL.carry (⟨fun b o x h1 h2 => ⟨fun q => h1 (hc b q),h2⟩,fun _ _ h => h,fun _ => Nat.le_refl _⟩ : Carry w bad' ι' w bad ι') _ _ k)
 | _,_,.nil,y,k => by simpa only [RdL] using k
 | _, _, .cons h1 h2, y, k => by
  simp only [RdL] at k ⊢
  obtain ⟨x,l',q0,q1,q2,q3⟩ := k
  exact ⟨x,l',q0,q1,RnV.bw h hc h1 q2,RnL.bwL h hc h2 q3⟩
theorem RnL.bwV {w:World}{ρ:Nat → Option Nat}{bad bad':Nat → Prop}{ι ι':Pl}(h:∀ i i',ρ i = some i' → ι i = ι' i') (hc:∀ b,bad b → bad' b):∀ {v v':List AV},RnL ρ v v' → ∀ {y:List Value},RdV w bad' ι' v' y → RdV w bad ι v y
 | _,_,.pur hp,y,k => RdV.pur _ y hp (RdV.carry (⟨fun b o x h1 h2 => ⟨fun q => h1 (hc b q),h2⟩,fun _ _ h => h,fun _ => Nat.le_refl _⟩ : Carry w bad' ι' w bad ι') _ _ k)
 | _,_,.nil,y,k => by simpa only [RdV] using k
 | _, _, .cons h1 h2, y, k => by
  simp only [RdV] at k ⊢
  obtain ⟨x,l',q0,q2,q3⟩ := k
  exact ⟨x,l',q0,RnV.bw h hc h1 q2,RnL.bwV h hc h2 q3⟩
theorem RnL.bwC {w:World}{ρ:Nat → Option Nat}{bad bad':Nat → Prop}{ι ι':Pl}(h:∀ i i',ρ i = some i' → ι i = ι' i') (hc:∀ b,bad b → bad' b):∀ {v v':List AV},RnL ρ v v' → ∀ {b o:Nat},RdC w bad' ι' v' b o → RdC w bad ι v b o
 | _,_,.pur hp,b,o,k => RdC.pur _ b o hp (RdC.carryB (⟨fun b o x h1 h2 => ⟨fun q => h1 (hc b q),h2⟩,fun _ _ h => h,fun _ => Nat.le_refl _⟩ : Carry w bad' ι' w bad ι') _ _ _ (fun o x hx => hx) k)
 | _,_,.nil,b,o,k => by simp only [RdC]
 | _, _, .cons h1 h2, b, o, k => by
  simp only [RdC] at k ⊢
  obtain ⟨⟨x,q1,q2,q3⟩,q4⟩ := k
  exact ⟨⟨x,q1,q2,RnV.bw h hc h1 q3⟩,RnL.bwC h hc h2 q4⟩
end
theorem RnL.app {ρ:Nat → Option Nat}:∀ {a a' b b':List AV},RnL ρ a a' → RnL ρ b b' → RnL ρ (a ++ b) (a' ++ b')
 | [], a', b, b', ha, hb => by
  have := ha.len
  cases a' with
  | nil => exact hb
  | cons _ _ => simp at this
 | c :: cs, _, b, b', .pur hp, hb => by
  simp only [bH,Bool.and_eq_true] at hp
  exact .cons (.pur hp.1) (RnL.app (.pur hp.2) hb)
 | c :: cs,_,b,b',.cons h1 h2,hb => .cons h1 (RnL.app h2 hb)
theorem RnL.flt {ρ:Nat → Option Nat}{α:Type}{f f':α → List AV}:∀ {xs:List α},(∀ x ∈ xs,RnL ρ (f x) (f' x)) → RnL ρ (flat f xs) (flat f' xs)
 | [],_ => .nil
 | x :: xs, h => by
  have h1 := h x (List.mem_cons_self)
  have h2 := RnL.flt (f := f) (f' := f') (xs := xs) (fun y hy => h y (List.mem_cons_of_mem _ hy))
  simp only [flat,List.flatMap_cons] at h2 ⊢
  exact h1.app h2
theorem Le.renG (ρ:Nat → Option Nat){ts ts':List (Nat × AV)}{hs hs':List (Nat × Option (List AV))}{n n':Nat}{lo lo':Lo}(hlo:lo'.lo = lo.lo) (hfb:lo.fb ≤ lo'.fb)
  (hid : ∀ id,id < lo.lo ∨ (aV ≤ id ∧ id < lo.fb) → ρ id = some id) (hinj : ∀ a b c,ρ a = some c → ρ b = some c → a = b) (hfr : ∀ id,Fn n' lo' id → ρ id = none)
  (h1 : ∀ t v,lk ts' t = some v → ∃ v0,lk ts t = some v0 ∧ RnV ρ v v0) (h2 : ∀ id cs,aO hs' id = some cs → ∃ j cs0,ρ id = some j ∧ aO hs j = some cs0 ∧ RnL ρ cs cs0) :
  Le ⟨ts,hs,n,lo⟩ ⟨ts',hs',n',lo'⟩ := by
 rintro C a w ⟨h0,ι,g,gh⟩
 let ι' : Pl := fun id => match ρ id with|some j => ι j|none => none
 have hto : ∀ id j,ρ id = some j → ι' id = ι j := fun id j h => by simp only [ι',h]
 have hbad : ∀ b, aK C.X ι' (aO hs') b → aK C.X ι (aO hs) b := by
  rintro b (h | ⟨id,cs,β,q1,q2⟩)
  ·exact .inl h
  ·obtain ⟨j, cs0, q3, q4, _⟩ := h2 id cs q1
   rw [hto _ _ q3] at q2
   exact .inr ⟨j,cs0,β,q4,q2⟩
 refine ⟨fun id h => ?_,ι',⟨g.df,g.sz,fun t v ht => ?_⟩,⟨fun id cs h => ?_,fun id id' cs cs' b β β' q1 q2 q3 q4 => ?_,gh.fr,fun id p hp => ?_,fun id hid' => ?_⟩⟩
 ·have h' : lo.lo ≤ id := by rw [← hlo]; exact h
  rcases h0 id h' with q|q
  ·exact .inl ⟨q.1,Nat.lt_of_lt_of_le q.2 hfb⟩
  ·exact .inr q
 ·obtain ⟨v0, q1, q2⟩ := h1 t v ht
  obtain ⟨y,q3,q4⟩ := g.tm t v0 q1
  exact ⟨y,q3,RnV.bw hto hbad q2 q4⟩
 ·obtain ⟨j, cs0, q3, q4, q5⟩ := h2 id cs h
  rcases gh.obj j cs0 q4 with ⟨p1,p2⟩ | ⟨b,β,arr,e,p1,p2,p3,p4,p5,p6⟩
  ·refine .inl ⟨by rw [hto _ _ q3]; exact p1, ?_⟩
   subst p2;exact List.eq_nil_of_length_eq_zero (by rw [q5.len]; rfl)
  ·exact .inr ⟨b,β,arr,e,by rw [hto _ _ q3]; exact p1,p2,by rw [q5.len]; exact p3,RnL.bwC hto hbad q5 p4,p5,p6⟩
 ·obtain ⟨j, c1, r1, r2, _⟩ := h2 id cs q1
  obtain ⟨j',c2,r3,r4,_⟩ := h2 id' cs' q2
  rw [hto _ _ r1] at q3
  rw [hto _ _ r3] at q4
  have := gh.sep _ _ _ _ _ _ _ r2 r4 q3 q4
  subst this
  exact hinj _ _ _ r1 r3
 ·have : ρ id = some id := by
   refine hid id ?_
   rcases Nat.lt_or_ge id lo.lo with q|q
   ·exact .inl q
   ·rcases h0 id q with q1 | q1
    ·exact .inr q1
    ·rw [q1] at hp;cases hp
  rw [hto _ _ this]; exact gh.ex id p hp
 ·have := hfr id hid'
  simp only [ι',this]
def jA (m : List (Nat × Nat)) (lo : Lo) (pn : Option Nat) (id : Nat) : Option Nat :=
 if id < lo.lo then some id else if aV ≤ id then (if id < lo.fb then some id else if id = lo.fb then pn else none) else zB m id
theorem gX {m:List (Nat × Nat)}{lo:Lo}{pn:Option Nat}{id:Nat}(h1:aV ≤ id) (h2:id < lo.fb):jA m lo pn id = some id:=by
 unfold jA;split
 ·rfl
 ·simp [h1,h2]
def NP (ρ : Nat → Option Nat) (l : List (Nat × AV)) : List (Nat × AV) → Prop
 | [] => True
 | (t,v) :: l' => (∃ v0,lk l t = some v0 ∧ RnV ρ v v0) ∧ NP ρ l l'
def CC (ρ : Nat → Option Nat) (l : List (Nat × Option (List AV))) : List (Nat × Option (List AV)) → Prop
 | [] => True
 | (t,none) :: l' => CC ρ l l'
 | (t,some cs) :: l' => (∃ j cs0,ρ t = some j ∧ aO l j = some cs0 ∧ RnL ρ cs cs0) ∧ CC ρ l l'
theorem BM {ρ:Nat → Option Nat}{l:List (Nat × AV)}:∀ {l':List (Nat × AV)},NP ρ l l' → ∀ t v,lk l' t = some v → ∃ v0,lk l t = some v0 ∧ RnV ρ v v0
 | [],_,t,v,h => by simp [lk] at h
 | (u, x) :: l', hr, t, v, h => by
  simp only [NP] at hr
  simp only [k7] at h
  split at h
  ·rename_i e;subst e;cases h;exact hr.1
  ·exact BM hr.2 t v h
theorem rK {a b:List (Nat × Option (List AV))}{u:Nat}{c:List AV}:aO (a ++ b) u = some c → aO a u = some c ∨ aO b u = some c:=by
 induction a with
 | nil => exact fun h => .inr h
 | cons x a ih =>
  obtain ⟨t,v⟩ := x
  rw [List.cons_append,cC,cC]
  split
  ·exact fun h => .inl h
  ·exact ih
theorem Ie {a b:List (Nat × Option (List AV))}{u:Nat}{c:List AV}(h:aO a u = some c):aO (a ++ b) u = some c:=by
 induction a with
 | nil => simp [aO] at h
 | cons x a ih =>
  obtain ⟨t,v⟩ := x
  rw [List.cons_append]
  rw [cC] at h ⊢
  split
  ·rename_i e;rw [if_pos e] at h;exact h
  ·rename_i e;rw [if_neg e] at h;exact ih h
theorem IH {a b:List (Nat × Option (List AV))}{u:Nat}(h:gZ u a = true):aO (a ++ b) u = aO b u:=by
 induction a with
 | nil => rfl
 | cons x a ih =>
  obtain ⟨t,v⟩ := x
  simp only [gZ,Bool.and_eq_true] at h
  rw [List.cons_append,cC,if_neg (by have := dC h.1;omega)]
  exact ih h.2
theorem qK {n m:Nat}(h:n ≤ m):∀ {a:List (Nat × Option (List AV))},gZ n a = true → gZ m a = true
 | [],_ => rfl
 | (t, v) :: a, k => by
  simp only [gZ,Bool.and_eq_true] at k ⊢
  exact ⟨by have := dC k.1;simp [Nat.blt]; omega,qK h k.2⟩
theorem rM {ρ:Nat → Option Nat}{l:List (Nat × Option (List AV))}:∀ {l':List (Nat × Option (List AV))},CC ρ l l' → ∀ t cs,aO l' t = some cs →
  ∃ j cs0,ρ t = some j ∧ aO l j = some cs0 ∧ RnL ρ cs cs0
 | [],_,t,v,h => by simp [aO] at h
 | (u, none) :: l', hr, t, v, h => by
  simp only [CC] at hr
  simp only [cC] at h
  split at h
  ·cases h
  ·exact rM hr t v h
 | (u, some x) :: l', hr, t, v, h => by
  simp only [CC] at hr
  simp only [cC] at h
  split at h
  ·rename_i e;subst e;cases h;exact hr.1
  ·exact rM hr.2 t v h
theorem yX {m:List (Nat × Nat)}{lo:Lo}{pn:Option Nat}{n':Nat}(hm:GW lo.lo n' m = true){a c:Nat}(h:jA m lo pn a = some c) :
  (a < lo.lo ∧ c = a) ∨ (lo.lo ≤ a ∧ aV ≤ a ∧ a < lo.fb ∧ c = a) ∨ (lo.lo ≤ a ∧ aV ≤ a ∧ a = lo.fb ∧ pn = some c) ∨ (lo.lo ≤ a ∧ a < aV ∧ a < n' ∧ lo.lo ≤ c ∧ c < aV ∧ zB m a = some c) := by
 unfold jA at h
 split at h
 ·cases h;exact .inl ⟨by assumption,rfl⟩
 ·split at h
  ·split at h
   ·cases h;exact .inr (.inl ⟨by omega,by assumption,by assumption,rfl⟩)
   ·split at h
    ·exact .inr (.inr (.inl ⟨by omega,by assumption,by assumption,h⟩))
    ·cases h
  ·have := jK hm _ _ h
   exact .inr (.inr (.inr ⟨by omega,by omega,by omega,by omega,by omega,h⟩))
theorem Le.renF (m:List (Nat × Nat)) (pn:Option Nat){ts ts':List (Nat × AV)}{hs hs':List (Nat × Option (List AV))}{n n':Nat}{lo lo':Lo}(hm:GW lo.lo n' m = true) (hn:lo.lo ≤ n') (hlo:lo'.lo = lo.lo)
  (hfb : lo'.fb = lo.fb + (if pn.isSome then 1 else 0)) (hp : ∀ b,pn = some b → lo.lo ≤ b ∧ b < aV ∧ ∀ a,zB m a ≠ some b)
  (h1 : ∀ t v,lk ts' t = some v → ∃ v0,lk ts t = some v0 ∧ RnV (jA m lo pn) v v0) (h2 : ∀ id cs,aO hs' id = some cs → ∃ j cs0,jA m lo pn id = some j ∧ aO hs j = some cs0 ∧ RnL (jA m lo pn) cs cs0) :
  Le ⟨ts,hs,n,lo⟩ ⟨ts',hs',n',lo'⟩ := by
 refine Le.renG (jA m lo pn) hlo (by rw [hfb]; omega) (fun id h => ?_) (fun a b c ha hb => ?_) (fun id h => ?_) h1 h2
 ·rcases h with h | h
  ·unfold jA;rw [if_pos h]
  ·exact gX h.1 h.2
 ·rcases yX hm ha with a1 | a1 | a1 | a1 <;> rcases yX hm hb with b1 | b1 | b1 | b1
  all_goals try omega
  ·have := hp c b1.2.2.2;omega
  ·have := hp c b1.2.2.2;omega
  ·have := hp c a1.2.2.2;omega
  ·have := hp c a1.2.2.2;omega
  ·exact absurd b1.2.2.2.2.2 ((hp c a1.2.2.2).2.2 b)
  ·exact absurd a1.2.2.2.2.2 ((hp c b1.2.2.2).2.2 a)
  ·exact yA hm _ _ _ a1.2.2.2.2.2 b1.2.2.2.2.2
 ·cases hc : jA m lo pn id with
  | none => rfl
  | some c =>
   have h3 : n' ≤ id := h.1
   have h4 : id < aV ∨ lo'.fb ≤ id := h.2
   rcases yX hm hc with a1|a1|a1|a1
   ·omega
   ·omega
   ·rw [a1.2.2.2] at hfb;simp at hfb;omega
   ·omega
theorem Le.renF0 (m:List (Nat × Nat)){R:List (List Bool)}{ts ts':List (Nat × AV)}{hs lits:List (Nat × Option (List AV))}{n n':Nat}{lo:Lo}{l0:Nat}(hF:FamR R R hs hs) (hz:lo = ⟨l0,aV + R.length⟩) (hm:GW l0 n' m = true) (hn:l0 ≤ n')
  (h1 : NP (jA m lo none) ts ts') (h2 : CC (jA m lo none) hs lits) : Le ⟨ts,hs,n,lo⟩ ⟨ts',lits ++ gH R,n',⟨l0,aV + R.length⟩⟩ := by
 subst hz
 refine Le.renF m none hm hn rfl rfl (fun b h => by cases h) (BM h1) (fun id cs h => ?_)
 rcases rK h with h|h
 ·exact rM h2 id cs h
 ·obtain ⟨k, hk, rfl, rfl⟩ := lI h
  exact ⟨_,_,gX (by omega) (by show k + aV < aV + R.length;omega),hF.get hk,.pur (inferInstance : Pur (flat cB R[k]!)).pf⟩
theorem Le.renF1 (m:List (Nat × Nat)) (b:Nat){r:List Bool}{R R':List (List Bool)}{ts ts':List (Nat × AV)}{hs lits:List (Nat × Option (List AV))}{n n':Nat}{lo:Lo}{l0:Nat}(hF:FamR R R hs hs) (hz:lo = ⟨l0,aV + R.length⟩) (hm:GW l0 n' m = true) (hn:l0 ≤ n')
  (hlb : l0 ≤ aV) (hb : l0 ≤ b ∧ b < aV ∧ (m.all fun p => !Nat.beq p.2 b) = true) (hr : aO hs b = some (flat cB r)) (hR : R' = R ++ [r])
  (h1 : NP (jA m lo (some b)) ts ts') (h2 : CC (jA m lo (some b)) hs lits) : Le ⟨ts,hs,n,lo⟩ ⟨ts',lits ++ gH R',n',⟨l0,aV + R'.length⟩⟩ := by
 subst hz hR
 refine Le.renF m (some b) hm hn rfl (by show aV + (R ++ [r]).length = aV + R.length + 1;simp [Nat.add_assoc]) (fun b' h => ?_) (BM h1) (fun id cs h => ?_)
 ·cases h
  refine ⟨hb.1,hb.2.1,fun a ha => ?_⟩
  have := wU ha
  have h3 := hb.2.2
  rw [List.all_eq_true] at h3
  have := h3 _ this
  simp at this
 ·rcases rK h with h | h
  ·exact rM h2 id cs h
  ·obtain ⟨k, hk, rfl, rfl⟩ := lI h
   rw [List.length_append,List.length_singleton] at hk
   rcases Nat.lt_or_ge k R.length with hk2|hk2
   ·have e : (R ++ [r])[k]! = R[k]! := by rw [aS _ _ (by simp; omega), aS _ _ hk2, List.getElem_append_left hk2]
    exact ⟨_,_,gX (by omega) (by show k + aV < aV + R.length;omega),hF.get hk2,by rw [e]; exact .pur (inferInstance : Pur (flat cB R[k]!)).pf⟩
   ·have e : k = R.length := by omega
    subst e
    have e2 : (R ++ [r])[R.length]! = r := by rw [aS _ _ (by simp)]; simp
    refine ⟨b,flat cB r,?_,hr,?_⟩
    ·unfold jA
     rw [if_neg (by show ¬ R.length + aV < l0;omega),if_pos (by omega),if_neg (by show ¬ R.length + aV < aV + R.length;omega),if_pos (by show R.length + aV = aV + R.length;omega)]
    ·rw [e2]; exact .pur (inferInstance : Pur (flat cB r)).pf
section
variable {P : Program} {N : Nat} {Q : Exit → AS → Prop}
theorem Le.litF {ts ts':List (Nat × AV)}{hs lits:List (Nat × Option (List AV))}{n n':Nat}{z0 z1:Lo}{R:List (List Bool)}(h1:o7 ts ts') (h2:nA hs lits) (h3:n ≤ n') (hF:FamR R R hs hs) (hz:z0 = z1) :
  Le ⟨ts,hs,n,z0⟩ ⟨ts',lits ++ gH R,n',z1⟩ := by
 refine Le.of (x8 h1) (fun i c h => ?_) h3 hz
 rcases rK h with h|h
 ·exact oL h2 i c h
 ·obtain ⟨k, hk, rfl, rfl⟩ := lI h
  exact hF.get hk
theorem Bb {σ:Type}{c:Code}{ts:List (Nat × AV)}{hs:List (Nat × Option (List AV))}{n:Nat}{z0:Lo}(l0:Nat) (Rf:σ → List (List Bool)) (ks:List Nat) (kt:List (Nat × AV)) (js:List Nat) (kh:List (Nat × Option (List AV)))
  (ot : σ → List (Nat × AV)) (oh : σ → List (Nat × Option (List AV))) (p : σ → Prop) (μ : σ → Nat) (i0 : σ) (h0 : p i0) (hk : pE ks ts = kt) (hj : pU js hs = kh)
  (h1 : o7 ts (ot i0)) (h2 : nA hs (oh i0)) (hF : FamR (Rf i0) (Rf i0) hs hs) (hz : z0 = ⟨l0,aV + (Rf i0).length⟩)
  (round : ∀ i,p i → AW P N c (oF (fun s' => ∃ j,p j ∧ μ j < μ i ∧ Le s' ⟨ot j ++ kt,(oh j ++ kh) ++ gH (Rf j),n,⟨l0,aV + (Rf j).length⟩⟩) Q) ⟨ot i ++ kt,(oh i ++ kh) ++ gH (Rf i),n,⟨l0,aV + (Rf i).length⟩⟩) :
  AW P N (.loop c) Q ⟨ts,hs,n,z0⟩ := by
 subst hk hj
 exact Dw p (fun i => ⟨ot i ++ pE ks ts,(oh i ++ pU js hs) ++ gH (Rf i),n,⟨l0,aV + (Rf i).length⟩⟩) μ ⟨i0,h0,Le.litF (lP h1 (mG ks)) (lM h2 (oU js)) (Nat.le_refl _) hF hz⟩ round
theorem N5 {c:Code}{s s':AS}(k:Le s s') (h:AW P N c Q s'):AW P N c Q s := h.le k
end
def y6 (P : Program) (k : FuncId) (args : List AV) (H0 : Nat → Option (List AV)) (F0 : Nat → Prop) (Q : AV → (Nat → Option (List AV)) → Prop) : Prop :=
 ∀ (C : Ctx) (ι : Pl) (w : World) (vals : List Value), C.w0 = w → C.ι0 = ι → HG C ι F0 H0 w → RdV w (aK C.X ι H0) ι args vals →
  Calls P k vals.toArray w (fun e w' => ∃ v r H' ι',e = .returned v ∧ Q r H' ∧ Rd w' (aK C.X ι' H') ι' r v ∧ HG C ι' (fun _ => False) H' w')
theorem n7 {P:Program}{k:FuncId}{fn:Func}{c:Code}{args:List AV}{H0:List (Nat × Option (List AV))}{n fb:Nat}{Q:AV → (Nat → Option (List AV)) → Prop}(hf:P.funcs[k]? = some fn) (hb:fn.body = some c)
  (hN : args.length ≤ fn.ntmps) (h : AW P fn.ntmps c (oZ P fn.results Q) ⟨g8 0 args,H0,n,⟨n,fb⟩⟩) : y6 P k args (aO H0) (Fn n ⟨n,fb⟩) Q := by
 intro C ι w vals hw hι g hr
 refine calls_of_wp hf hb ?_
 let C' : Ctx := { C with N := fn.ntmps }
 have hlen := RdV.length hr
 have g' : HG C' ι (Fn n ⟨n,fb⟩) (aO H0) w := ⟨g.obj,g.sep,g.fr,g.ex,g.fresh⟩
 have gt : TG C' ι (lk (g8 0 args)) (aO H0) { tmps := vals.toArray ++ Array.replicate (fn.ntmps - vals.toArray.size) undef, defers := [] } w := by
  refine ⟨rfl,by simp [C',hlen]; omega,fun t av ht => ?_⟩
  obtain ⟨y,_,h1,h2⟩ := uF hr ht
  refine ⟨y,?_,h2⟩
  have hlt : t < vals.length := by
   rcases Nat.lt_or_ge t vals.length with q|q
   ·exact q
   ·rw [List.getElem?_eq_none (by simpa using q)] at h1;cases h1
  rw [Array.getElem?_append_left (by simpa using hlt)]
  simpa using h1
 refine wp_mono (h C' _ w rfl ⟨fun id hid => ?_,ι,gt,g'⟩) ?_
 ·by_cases q : aV ≤ id ∧ id < fb
  ·exact .inl q
  ·refine .inr ?_
   show C.ι0 id = none
   rw [hι]
   exact g.fresh id ⟨hid,by show id < aV ∨ fb ≤ id;omega⟩
 rintro e a' w' ⟨s1,⟨he,s',l,hle,hres,hQ⟩,hg⟩
 obtain ⟨_,ι',g1,g2⟩ := hle C' a' w' hg
 obtain ⟨ys,h1,h2⟩ := x6 (P := P) g1 g2 hres
 have hres' : (results fn a'.tmps).run P w' = .ok (if h : ys.toArray.size = 1 then ys.toArray[0] else .tuple ys.toArray) w' := by
  have hr1 : results fn a'.tmps = (do let vs ← fn.results.mapM (BX a'); pure (if h : vs.size = 1 then vs[0] else .tuple vs)) := by
   unfold results
   congr 1
  rw [hr1,Array.mapM_eq_mapM_toList,Sem.run_bind,Sem.run_map,h1]
  simp only [Result.andThen_ok,Sem.run_pure]
 have g3 : HG C ι' (fun _ => False) (aO s'.hs) w' := ⟨g2.obj,g2.sep,g2.fr,g2.ex,fun _ h => h.elim⟩
 rcases he with rfl|rfl
 ·exact ⟨g1.df,_,hres',_,_,_,ι',rfl,hQ,oP h2,g3⟩
 ·exact ⟨g1.df,_,hres',_,_,_,ι',rfl,hQ,oP h2,g3⟩
def pT (mpF fr : Nat → Option Nat) (j : Nat) : Option Nat := match mpF j with | some i => some i | none => fr j
theorem AY {P:Program}{k:FuncId}{args args':List AV}{H0 hh:Nat → Option (List AV)}{F0:Nat → Prop}{mpF fr fi:Nat → Option Nat}{r rr':AV}{H2:Nat → Option (List AV)}
  (h : y6 P k args H0 F0 (fun r' H' => r' = r ∧ ∀ j cs,hh j = some cs → H' j = some cs)) (hmi : ∀ j j' i,mpF j = some i → mpF j' = some i → j = j') (hfi : ∀ i j,fi i = some j ↔ fr j = some i) (hmf : ∀ j i,fr j = some i → mpF j = none) (hF0 : ∀ j,F0 j → mpF j = none)
  {C : Ctx} {ι : Pl} {F : Nat → Prop} {H : Nat → Option (List AV)} {w : World} (g : HG C ι F H w)
  (hH0 : ∀ j i,mpF j = some i → ∃ cs cs',H0 j = some cs ∧ H i = some cs' ∧ RnL mpF cs cs') (hH1 : ∀ j cs,H0 j = some cs → ∃ i,mpF j = some i)
  (ha : RnL mpF args args') (hF : ∀ j i,fr j = some i → F i) (hr : RnV (pT mpF fr) r rr')
  (hw : ∀ i cs',H2 i = some cs' → (∃ j cs,pT mpF fr j = some i ∧ hh j = some cs ∧ RnL (pT mpF fr) cs cs') ∨ (H i = some cs' ∧ ∀ j,mpF j ≠ some i))
  {vals : List Value} (hv : RdV w (aK C.X ι H) ι args' vals) :
  Calls P k vals.toArray w (fun e w' => ∃ v ι',e = .returned v ∧ HG C ι' (fun j => F j ∧ fi j = none) H2 w' ∧ Carry w (aK C.X ι H) ι w' (aK C.X ι' H2) ι' ∧ Rd w' (aK C.X ι' H2) ι' rr' v) := by
 let W0 : Nat → Prop := fun b => ∃ (j i β : Nat),mpF j = some i ∧ ι i = some (some (b,β))
 let Xc : Nat → Prop := fun b => aK C.X ι H b ∧ ¬ W0 b
 let ιc : Pl := fun j => match mpF j with|some i => ι i|none => none
 let C' : Ctx := { N := 0,w0 := w,W0 := W0,X := Xc,ι0 := ιc,xlt := fun b hb => g.bad_lt b hb.1 }
 have hW0 : ∀ b, W0 b → ¬ C.X b ∧ (C.W0 b ∨ C.w0.heap.size ≤ b) ∧ aK C.X ι H b := by
  rintro b ⟨j,i,β,h1,h2⟩
  obtain ⟨cs,cs',q1,q2,q3⟩ := hH0 j i h1
  rcases g.obj i cs' q2 with ⟨q,_⟩ | ⟨b',β',arr,e,q,q4,q5,q6,q7,q8⟩
  ·rw [q] at h2;cases h2
  ·rw [q] at h2;cases h2;exact ⟨q7,q8,.inr ⟨i,cs',_,q2,q⟩⟩
 have hnone : ∀ i j,fi i = some j → ι i = none := fun i j h1 => g.fresh i (hF j i ((hfi i j).1 h1))
 have hιc : ∀ j i,mpF j = some i → ιc j = ι i := fun j i h => by simp only [ιc,h]
 have hbadc : ∀ b, aK Xc ιc H0 b → aK C.X ι H b := by
  rintro b (⟨h1,_⟩ | ⟨j,cs,β,h1,h2⟩)
  ·exact h1
  ·obtain ⟨i, hi⟩ := hH1 j cs h1
   rw [hιc j i hi] at h2
   exact (hW0 b ⟨j,_,β,hi,h2⟩).2.2
 have hbadc2 : ∀ b, aK C.X ι H b → aK Xc ιc H0 b := by
  intro b hb
  by_cases hw0 : W0 b
  ·obtain ⟨j, i, β, h1, h2⟩ := hw0
   obtain ⟨cs,cs',q1,q2,q3⟩ := hH0 j i h1
   exact .inr ⟨j,cs,β,q1,by rw [hιc j i h1]; exact h2⟩
  ·exact .inl ⟨hb,hw0⟩
 have gc : HG C' ιc F0 H0 w := by
  refine ⟨fun j cs hj => ?_,fun j j' cs cs' b β β' h1 h2 h3 h4 => ?_,Fr.refl _ _,fun _ _ h => h,fun j hj => ?_⟩
  ·obtain ⟨i, hi⟩ := hH1 j cs hj
   obtain ⟨cs1,cs',q1,q2,q3⟩ := hH0 j _ hi
   rw [hj] at q1;cases q1
   rcases g.obj _ cs' q2 with ⟨q4,q5⟩ | ⟨b',β',arr,e,q4,q5,q6,q7,q8,q9⟩
   ·refine .inl ⟨by rw [hιc j i hi]; exact q4, ?_⟩
    subst q5
    exact List.eq_nil_of_length_eq_zero (by rw [q3.len]; rfl)
   ·have hw0 : W0 b' := ⟨j, _, β', hi, q4⟩
    exact .inr ⟨b',β',arr,e,by rw [hιc j i hi]; exact q4,q5,by rw [q3.len]; exact q6,RnL.bwC hιc hbadc q3 q7,fun hx => hx.2 hw0,.inl hw0⟩
  ·obtain ⟨i, hi⟩ := hH1 j cs h1
   obtain ⟨i',hi'⟩ := hH1 j' cs' h2
   obtain ⟨_,c1,_,q2,_⟩ := hH0 j _ hi
   obtain ⟨_,c2,_,q2',_⟩ := hH0 j' _ hi'
   rw [hιc j i hi] at h3
   rw [hιc j' i' hi'] at h4
   have := g.sep _ _ _ _ _ _ _ q2 q2' h3 h4
   exact hmi j j' i hi (by rw [hi',this])
  ·show ιc j = none
   simp only [ιc,hF0 j hj]
 have hvc : RdV w (aK C'.X ιc H0) ιc args vals := RnL.bwV hιc hbadc ha hv
 refine (h C' ιc w vals rfl rfl gc hvc).mono ?_
 rintro e w' ⟨v,r0,H',ιr,rfl,⟨rfl,hkeep⟩,hrd,gr⟩
 let ι' : Pl := fun i => match fi i with|some j => ιr j|none => ι i
 have hmpf : ∀ (j i : Nat), mpF j = some i → fi i = none := by
  intro j i hj
  cases hq : fi i with
  | none => rfl
  | some j2 =>
   obtain ⟨cs,cs',q1,q2,q3⟩ := hH0 j i hj
   rcases g.obj i cs' q2 with ⟨q,_⟩ | ⟨_,_,_,_,q,_⟩ <;> (rw [hnone i _ hq] at q;cases q)
 have hιr : ∀ (j i : Nat), mpF j = some i → ιr j = ι i := by
  intro j i hj
  obtain ⟨cs,cs',q1,q2,q3⟩ := hH0 j i hj
  have : ∃ q, ι i = some q := by
   rcases g.obj i cs' q2 with ⟨q,_⟩ | ⟨_,_,_,_,q,_⟩
   ·exact ⟨_,q⟩
   ·exact ⟨_,q⟩
  obtain ⟨q,hq⟩ := this
  rw [hq]
  exact gr.ex j q (by show ιc j = some q;rw [hιc j i hj]; exact hq)
 have hρ1 : ∀ j i, pT mpF fr j = some i → (mpF j = some i) ∨ (mpF j = none ∧ fr j = some i) := by
  intro j i hj
  unfold pT at hj
  split at hj
  ·cases hj;exact .inl (by assumption)
  ·exact .inr ⟨by assumption,hj⟩
 have hto : ∀ j i, pT mpF fr j = some i → ιr j = ι' i := by
  intro j i hj
  rcases hρ1 j i hj with h2 | ⟨h1,h2⟩
  ·rw [hιr j i h2]; simp only [ι',hmpf j i h2]
  ·simp only [ι',(hfi i j).2 h2]
 have hcase := hw
 have hold : ∀ i cs', H i = some cs' → ι' i = ι i := by
  intro i cs' hi
  simp only [ι']
  cases hq : fi i with
  | none => rfl
  | some j2 => rcases g.obj i cs' hi with ⟨q,_⟩ | ⟨_,_,_,_,q,_⟩ <;> (rw [hnone i _ hq] at q;cases q)
 have hnW : ∀ (i : Nat) cs' b β, H i = some cs' → (∀ j, mpF j ≠ some i) → ι i = some (some (b, β)) → ¬ W0 b := by
  rintro i cs' b β hi hm hb ⟨j,i2,β2,q1,q2⟩
  obtain ⟨cs,c2,_,q3,_⟩ := hH0 j i2 q1
  have := g.sep _ _ _ _ _ _ _ hi q3 hb q2
  subst this
  exact hm j q1
 have hobjlt : ∀ i cs' b β,H i = some cs' → ι i = some (some (b,β)) → b < w.heap.size := fun i cs' b β hi hb => g.bad_lt b (.inr ⟨i,cs',β,hi,hb⟩)
 have hcal : ∀ j cs b β, H' j = some cs → ιr j = some (some (b, β)) → W0 b ∨ w.heap.size ≤ b := by
  intro j cs b β hj hb
  rcases gr.obj j cs hj with ⟨q,_⟩ | ⟨b',β',arr,e,q,q4,q5,q6,q7,q8⟩
  ·rw [q] at hb;cases hb
  ·rw [q] at hb;cases hb;exact q8
 have hbad : ∀ b, aK C.X ι' H2 b → aK C.X ι H b ∨ w.heap.size ≤ b := by
  rintro b (h1 | ⟨i,cs',β,h1,h2⟩)
  ·exact .inl (.inl h1)
  ·rcases hcase i cs' h1 with ⟨j, cs, q1, q2, q3⟩ | ⟨q1, q2⟩
   ·rw [← hto j i q1] at h2
    rcases hcal j cs b β (hkeep j cs q2) h2 with q|q
    ·exact .inl (hW0 b q).2.2
    ·exact .inr q
   ·rw [hold i cs' q1] at h2;exact .inl (.inr ⟨i,cs',β,q1,h2⟩)
 have hfr := gr.fr
 have hcar : Carry w (aK C.X ι H) ι w' (aK C.X ι' H2) ι' := by
  refine ⟨fun b o y h1 h2 => ?_,fun i q hq => ?_,hfr.bs⟩
  ·have hlt := kS h2
   refine ⟨fun hb => ?_,?_⟩
   ·rcases hbad b hb with h | h
    ·exact h1 h
    ·omega
   ·rw [cZ (hfr.block b hlt (fun hw0 => h1 (hW0 b hw0).2.2))]; exact h2
  ·simp only [ι']
   cases hq2 : fi i with
   | none => exact hq
   | some j2 => rw [hnone i _ hq2] at hq;cases hq
 have hrn2 : RnH w' (pT mpF fr) (aK C'.X ιr H') ιr (aK C.X ι' H2) ι' := by
  refine ⟨⟨fun b o y h1 h2 => ⟨fun hb => h1 ?_,h2⟩,fun _ _ h => h,fun _ => Nat.le_refl _⟩,fun j i hj => hto j i hj⟩
  rcases hb with hb | ⟨i,cs',β,q1,q2⟩
  ·exact .inl ⟨.inl hb,fun hw0 => (hW0 b hw0).1 hb⟩
  ·rcases hcase i cs' q1 with ⟨j, cs, r1, r2, r3⟩ | ⟨r1, r2⟩
   ·rw [← hto j i r1] at q2
    exact .inr ⟨j,cs,β,hkeep j cs r2,q2⟩
   ·rw [hold i cs' r1] at q2
    exact .inl ⟨.inr ⟨i,cs',β,r1,q2⟩,hnW i cs' b β r1 r2 q2⟩
 refine ⟨v,ι',rfl,⟨fun i cs' hi => ?_,fun i i2 cs1 cs2 b β β' h1 h2 h3 h4 => ?_,⟨hfr.os.trans g.fr.os,hfr.tape.trans g.fr.tape,hfr.output.trans g.fr.output,Nat.le_trans g.fr.size hfr.size,fun b hb hnw => ?_,fun b => Nat.le_trans (g.fr.bs b) (hfr.bs b)⟩,fun i q hq => hcar.pl i q (g.ex i q hq),fun i hi => ?_⟩,hcar,RnV.fwd hrn2 hr hrd⟩
 ·rcases hcase i cs' hi with ⟨j, cs, q1, q2, q3⟩ | ⟨q1, q2⟩
  ·rcases gr.obj j cs (hkeep j cs q2) with ⟨r1, r2⟩ | ⟨b, β, arr, e, r1, r2, r3, r4, r5, r6⟩
   ·refine .inl ⟨by rw [← hto j i q1]; exact r1, ?_⟩
    subst r2
    exact List.eq_nil_of_length_eq_zero (by rw [← q3.len]; rfl)
   ·refine .inr ⟨b, β, arr, e, by rw [← hto j i q1]; exact r1, r2, by rw [← q3.len]; exact r3, RnL.fwdC hrn2 q3 r4, ?_, ?_⟩
    ·rcases r6 with r6 | r6
     ·exact (hW0 b r6).1
     ·intro hX
      have := C.xlt b hX
      have := g.fr.size
      have : w.heap.size ≤ b := r6
      omega
    ·rcases r6 with r6 | r6
     ·exact (hW0 b r6).2.1
     ·refine .inr ?_
      have := g.fr.size
      have : w.heap.size ≤ b := r6
      omega
  ·rcases g.obj i cs' q1 with ⟨r1, r2⟩ | ⟨b, β, arr, e, r1, r2, r3, r4, r5, r6⟩
   ·exact .inl ⟨by rw [hold i cs' q1]; exact r1,r2⟩
   ·have hlt := eI r2
    have hbl := hfr.block b hlt (hnW i cs' b β q1 q2 r1)
    exact .inr ⟨b,β,arr,e,by rw [hold i cs' q1]; exact r1,by rw [hbl]; exact r2,r3,RdC.carryB hcar _ _ _ (fun o y hy => by rw [cZ hbl]; exact hy) r4,r5,r6⟩
 ·rcases hcase i cs1 h1 with ⟨j, c1, q1, q2, q3⟩ | ⟨q1, q2⟩ <;> rcases hcase i2 cs2 h2 with ⟨j2, c2, q1', q2', q3'⟩ | ⟨q1', q2'⟩
  ·rw [← hto j i q1] at h3
   rw [← hto j2 i2 q1'] at h4
   have := gr.sep _ _ _ _ _ _ _ (hkeep j c1 q2) (hkeep j2 c2 q2') h3 h4
   subst this
   rw [q1] at q1'; cases q1'; rfl
  ·rw [← hto j i q1] at h3
   rw [hold i2 cs2 q1'] at h4
   have hlt := hobjlt i2 cs2 b _ q1' h4
   rcases hcal j c1 b _ (hkeep j c1 q2) h3 with q|q
   ·exact (hnW i2 cs2 b _ q1' q2' h4 q).elim
   ·omega
  ·rw [hold i cs1 q1] at h3
   rw [← hto j2 i2 q1'] at h4
   have hlt := hobjlt i cs1 b _ q1 h3
   rcases hcal j2 c2 b _ (hkeep j2 c2 q2') h4 with q|q
   ·exact (hnW i cs1 b _ q1 q2 h3 q).elim
   ·omega
  ·rw [hold i cs1 q1] at h3
   rw [hold i2 cs2 q1'] at h4
   exact g.sep _ _ _ _ _ _ _ q1 q1' h3 h4
 ·have hb2 : b < w.heap.size := by have := g.fr.size; omega
  rw [hfr.block b hb2 (fun hw0 => ?_)]
  ·exact g.fr.block b hb hnw
  ·rcases (hW0 b hw0).2.1 with q | q
   ·exact hnw q
   ·omega
 ·simp only [ι', hi.2]
  exact g.fresh i hi.1
attribute [local irreducible] aV
def NC (P : Program) (k : FuncId) (args : List AV) (R0 : List (List Bool)) (r : AV) (hh : List (Nat × Option (List AV))) : Prop :=
 y6 P k args (aO (gH R0)) (Fn 0 ⟨0,aV + R0.length⟩) (fun r' H' => r' = r ∧ ∀ id cs,aO (hh ++ gH R0) id = some cs → H' id = some cs)
def OC (P : Program) (k : FuncId) (args : List AV) (r : AV) (R1 : List (List Bool)) : Prop :=
 y6 P k args (aO []) (Fn 0 ⟨0,aV⟩) (fun r' H' => r' = r ∧ ∀ id cs,aO (gH R1) id = some cs → H' id = some cs)
theorem pV {hs:List (Nat × Option (List AV))}{r r':AV}{R0:List (List Bool)}{hh:List (Nat × Option (List AV))}(hr:r' = r) (hh':nA hs hh) (hF:FamR R0 R0 hs hs):r' = r ∧ ∀ id cs,aO (hh ++ gH R0) id = some cs → aO hs id = some cs:=by
 refine ⟨hr,fun id cs h => ?_⟩
 rcases rK h with h|h
 ·exact oL hh' id cs h
 ·obtain ⟨k, hk, rfl, rfl⟩ := lI h
  exact hF.get hk
theorem MU {hs:List (Nat × Option (List AV))}{r r':AV}{R0:List (List Bool)}(hr:r' = r) (hF:FamR R0 R0 hs hs):r' = r ∧ ∀ id cs,aO (gH R0) id = some cs → aO hs id = some cs :=
 pV (hh := []) hr trivial hF
def IY (b m : Nat) (j : Nat) : Option Nat := if aV ≤ j ∧ j < aV + m then some (b + j) else none
def NF (n n1 : Nat) (j : Nat) : Option Nat := if j < n1 then some (n + j) else none
def OL (n n1 : Nat) (i : Nat) : Option Nat := if n ≤ i ∧ i < n + n1 then some (i - n) else none
def Oy (b m n n1 : Nat) : Nat → Option Nat := pT (IY b m) (NF n n1)
theorem EO {mpF fr:Nat → Option Nat}{j i:Nat}(h:mpF j = some i):pT mpF fr j = some i := by unfold pT;rw [h]
theorem EH {mpF fr:Nat → Option Nat}{j:Nat}(h:mpF j = none):pT mpF fr j = fr j := by unfold pT;rw [h]
theorem m8 {b m k:Nat}(h:k < m):IY b m (k + aV) = some (b + k + aV):=by
 unfold IY;rw [if_pos (by omega),Nat.add_assoc]
theorem JW {b m n n1 k:Nat}(h:k < m):Oy b m n n1 (k + aV) = some (b + k + aV) := EO (m8 h)
theorem rG {b m n n1 j:Nat}(h:j < n1) (hb:j < aV):Oy b m n n1 j = some (n + j):=by
 have e : IY b m j = none := by unfold IY;rw [if_neg (by omega)]
 refine (EH e).trans ?_
 unfold NF;rw [if_pos h]
theorem rn_rows {ρ:Nat → Option Nat}{b b' m w:Nat}(h:∀ k,k < m → ρ (b + k + aV) = some (b' + k + aV)):RnL ρ (flat (y9 b w) (List.range m)) (flat (y9 b' w) (List.range m)) :=
 RnL.flt fun k hk => by rw [List.mem_range] at hk;exact .cons (.own (h k hk)) .nil
theorem cV {m:List (Nat × Nat)}{lo:Lo}{pn:Option Nat}{b k w:Nat}(h:aV + (b + k) ≤ lo.fb):RnL (jA m lo pn) (flat (y9 b w) (List.range k)) (flat (y9 b w) (List.range k)) :=
 rn_rows fun j hj => gX (by omega) (by omega)
def NA (ρ : Nat → Option Nat) (hh : List (Nat × Option (List AV))) : List (Nat × Option (List AV)) → Prop
 | [] => True
 | (i,none) :: l => NA ρ hh l
 | (i,some cs') :: l => (∃ j cs,ρ j = some i ∧ aO hh j = some cs ∧ RnL ρ cs cs') ∧ NA ρ hh l
theorem Cj {ρ:Nat → Option Nat}{hh:List (Nat × Option (List AV))}:∀ {ws:List (Nat × Option (List AV))},NA ρ hh ws → ∀ i cs',(i,some cs') ∈ ws → ∃ j cs,ρ j = some i ∧ aO hh j = some cs ∧ RnL ρ cs cs'
 | [],_,i,cs',h => by simp at h
 | (u, none) :: l, hw, i, cs', h => by
  simp only [NA] at hw
  rcases List.mem_cons.1 h with h|h
  ·cases h
  ·exact Cj hw i cs' h
 | (u, some c) :: l, hw, i, cs', h => by
  simp only [NA] at hw
  rcases List.mem_cons.1 h with h|h
  ·cases h;exact hw.1
  ·exact Cj hw.2 i cs' h
section
variable {P : Program} {N : Nat} {Q : Exit → AS → Prop} {all : Array Oper} {rest : List Oper} {ts : List (Nat × AV)} {hs : List (Nat × Option (List AV))} {n : Nat} {z0 : Lo} {md : Md}
variable {d : Nat} {ty : TypeId} {pos : String} {af : Array Edge}
theorem Au {k:FuncId}{args:Array Operand}{tys:Array TypeId}{avs avs0:List AV}{R R0:List (List Bool)}{r rr':AV}{hh:List (Nat × Option (List AV))}(b n1:Nat) (D:List Nat) (ws:List (Nat × Option (List AV))) [hc:CaT P k]
  (ha : evL (lk ts) args.toList = some avs) (h : NC P k avs0 R0 r hh) (hF : FamR R R hs hs) (hb : b + R0.length ≤ R.length) (hR : ∀ k,k < R0.length → R0[k]! = R[b + k]!) (hD : ∀ k,k < R0.length → b + k + aV ∈ D)
  (har : RnL (IY b R0.length) avs0 avs) (hk : gZ aV hh = true) (hr : RnV (Oy b R0.length n n1) r rr') (hw : NA (Oy b R0.length n n1) hh ws) (hM : Nat.ble (n + n1) aV = true) (hN : Nat.blt d N = true)
  {md' : Md} [hmd : MdA md (fU args.toList ++ D.map .inr) (ws.map (fun p => .inr p.1) ++ [.inl d]) md']
  (kk : RW P N all Q md' rest ⟨(d,rr') :: ts,hO hs ws,n + n1,z0⟩) : RW P N all Q md (⟨some d,.call ⟨.value (.func k),args,tys⟩,ty,pos,af,none⟩ :: rest) ⟨ts,hs,n,z0⟩ := by
 have hM' := Nat.le_of_ble_eq_true hM
 refine jR (rs := fU args.toList ++ D.map .inr) (ws := ws) (n' := n + n1) (out := rr') rfl (Nat.le_add_right _ _) (.inr hM') (fun C ι F T H a w K Q' hCN ag hFf g gh hK => ?_) (fun x hx => by cases hx;exact dC hN) (by simp only [wD]; rw [← hmd.pf] at kk;exact kk)
 simp only [Oper.wp,iK hc.pf,Oper.upon]
 have hH : ∀ q, q < R0.length → H (b + q + aV) = some (flat cB R[b + q]!) := fun q hq => by
  rw [ag.r.h _ (List.mem_map_of_mem (hD q hq))]; exact hF.get (by omega)
 have hmp : ∀ j i, IY b R0.length j = some i → ∃ q, q < R0.length ∧ j = q + aV ∧ i = b + q + aV := by
  intro j i hj
  unfold IY at hj
  split at hj
  ·cases hj;exact ⟨j - aV,by omega,by omega,by omega⟩
  ·cases hj
 have hrh : ∀ j i, NF n n1 j = some i → j < n1 ∧ i = n + j := by
  intro j i hj
  unfold NF at hj
  split at hj
  ·cases hj;exact ⟨by assumption,rfl⟩
  ·cases hj
 refine (AY (fr := NF n n1) (fi := OL n n1) (hh := aO (hh ++ gH R0)) (H2 := kK H ws) h (fun j j' i h1 h2 => ?_) (fun i j => ?_) (fun j i h1 => ?_) (fun j hj => ?_) gh (fun j i hj => ?_) (fun j cs hj => ?_) har (fun j i hj => ?_) hr (fun i cs' hi => ?_) (jW g (ag.l.evL.trans ha))).mono ?_
 ·obtain ⟨q, _, _, _⟩ := hmp j i h1
  obtain ⟨q',_,_,_⟩ := hmp j' i h2
  omega
 ·unfold OL NF
  constructor
  ·intro h1
   split at h1
   ·cases h1;rw [if_pos (by omega)]; congr 1;omega
   ·cases h1
  ·intro h1
   split at h1
   ·cases h1;rw [if_pos (by omega)]; congr 1;omega
   ·cases h1
 ·have := hrh j i h1
  unfold IY;rw [if_neg (by omega)]
 ·have h1 : j < aV ∨ aV + R0.length ≤ j := hj.2
  unfold IY;rw [if_neg (by omega)]
 ·obtain ⟨q, q1, rfl, rfl⟩ := hmp j i hj
  refine ⟨flat cB R0[q]!,flat cB R[b + q]!,?_,hH q q1,?_⟩
  ·rw [oM,if_pos q1]
  ·rw [hR q q1]; exact .pur (inferInstance : Pur (flat cB R[b + q]!)).pf
 ·obtain ⟨q, q1, rfl, rfl⟩ := lI hj
  exact ⟨_,m8 q1⟩
 ·obtain ⟨q1, rfl⟩ := hrh j i hj
  exact hFf _ (Nat.le_add_right _ _) (by omega)
 ·rcases r9 hi with h1 | ⟨h1, h2⟩
  ·obtain ⟨j, cs, q1, q2, q3⟩ := Cj hw i cs' h1
   exact .inl ⟨j,cs,q1,Ie q2,q3⟩
  ·by_cases hq : ∃ q, q < R0.length ∧ i = b + q + aV
   ·obtain ⟨q, q1, rfl⟩ := hq
    rw [hH q q1] at h1
    cases h1
    refine .inl ⟨q + aV,flat cB R0[q]!,JW q1,?_,?_⟩
    ·rw [IH (qK (by omega) hk),oM,if_pos q1]
    ·rw [hR q q1]; exact .pur (inferInstance : Pur (flat cB R[b + q]!)).pf
   ·refine .inr ⟨h1, fun j hj => hq ?_⟩
    obtain ⟨q,q1,_,q2⟩ := hmp j i hj
    exact ⟨q,q1,q2⟩
 ·rintro e w' ⟨v, ι', rfl, g', c', hrd⟩
  refine hK ι' w' v (g.carry c') (g'.less (fun _ _ h => h) (fun j hj => ⟨hj.1,?_⟩)).1 hrd
  unfold OL;rw [if_neg hj.2]
theorem F6 {k:FuncId}{args:Array Operand}{tys:Array TypeId}{avs:List AV}{R R1:List (List Bool)}{r rr':AV}{hs':List (Nat × Option (List AV))}{l0:Nat}[hc:CaT P k]
  (ha : evL (lk ts) args.toList = some avs) (h : OC P k avs r R1) (hp : bH avs = true) (hF : FamR R (R ++ R1) hs hs') (hz : z0 = ⟨l0,aV + R.length⟩)
  (hr : RnV (fun j => if aV ≤ j ∧ j < aV + R1.length then some (R.length + j) else none) r rr') (hM : Nat.ble n aV = true) (hN : Nat.blt d N = true)
  (kk : RW P N all Q .txt rest ⟨(d,rr') :: ts,hs',n,⟨l0,aV + (R ++ R1).length⟩⟩) : RW P N all Q .txt (⟨some d,.call ⟨.value (.func k),args,tys⟩,ty,pos,af,none⟩ :: rest) ⟨ts,hs,n,z0⟩ := by
 subst hz
 rintro C a w hCN ⟨h0,ι,g,gh⟩
 refine wpList_plain rfl (fun K hK => ?_)
 simp only [Oper.wp,iK hc.pf,Oper.upon]
 have hM' := Nat.le_of_ble_eq_true hM
 have hrh : ∀ j i, (fun j => if aV ≤ j ∧ j < aV + R1.length then some (R.length + j) else none) j = some i → aV ≤ j ∧ j < aV + R1.length ∧ i = R.length + j := by
  intro j i hj
  dsimp only at hj
  split at hj
  ·rename_i hh;cases hj;exact ⟨hh.1,hh.2,rfl⟩
  ·cases hj
 have hrho : pT (fun _ => none) (fun j => if aV ≤ j ∧ j < aV + R1.length then some (R.length + j) else none) = (fun j => if aV ≤ j ∧ j < aV + R1.length then some (R.length + j) else none) := by funext j;rfl
 have hlen : (R ++ R1).length = R.length + R1.length := List.length_append
 refine (AY (mpF := fun _ => none) (fr := fun j => if aV ≤ j ∧ j < aV + R1.length then some (R.length + j) else none) (fi := fun i => if aV + R.length ≤ i ∧ i < aV + R.length + R1.length then some (i - R.length) else none) (hh := aO (gH R1)) (H2 := aO hs') (args' := avs)
  h (fun j j' i h1 h2 => by cases h1) (fun i j => ?_) (fun j i h1 => rfl) (fun j hj => rfl) gh (fun j i hj => by cases hj) (fun j cs hj => by simp [aO] at hj) (.pur hp) (fun j i hj => ?_) (rr' := rr') (by rw [hrho]; exact hr) (fun i cs' hi => ?_) (jW g ha)).mono ?_
 ·constructor
  ·intro h1
   split at h1
   ·cases h1;rw [if_pos (by omega)]; congr 1;omega
   ·cases h1
  ·intro h1
   split at h1
   ·cases h1;rw [if_pos (by omega)]; congr 1;omega
   ·cases h1
 ·obtain ⟨q1, q2, rfl⟩ := hrh j i hj
  exact ⟨by show n ≤ R.length + j;omega,.inr (by show aV + R.length ≤ R.length + j;omega)⟩
 ·rcases Nat.lt_or_ge i aV with hi2 | hi2
  ·exact .inr ⟨by rw [hF.low i hi2]; exact hi,fun j => by simp⟩
  ·obtain ⟨q, rfl⟩ : ∃ q, i = q + aV := ⟨i - aV, by omega⟩
   have hg := hF.symm.fam q
   rw [hi] at hg
   split at hg
   ·rename_i hq
    cases hg
    rcases Nat.lt_or_ge q R.length with hq2|hq2
    ·refine .inr ⟨?_, fun j => by simp⟩
     have e : (R ++ R1)[q]! = R[q]! := by rw [aS _ _ hq,aS _ _ hq2,List.getElem_append_left hq2]
     rw [e]; exact hF.get hq2
    ·refine .inl ⟨(q - R.length) + aV, flat cB R1[q - R.length]!, ?_, ?_, ?_⟩
     ·rw [hrho]
      show (if aV ≤ q - R.length + aV ∧ q - R.length + aV < aV + R1.length then some (R.length + (q - R.length + aV)) else none) = some (q + aV)
      rw [if_pos (by omega)]; congr 1;omega
     ·rw [oM,if_pos (by omega)]
     ·have e : (R ++ R1)[q]! = R1[q - R.length]! := by rw [aS _ _ hq, aS _ _ (by omega), List.getElem_append_right hq2]
      rw [e]; exact .pur (inferInstance : Pur (flat cB R1[q - R.length]!)).pf
   ·cases hg
 ·rintro e w' ⟨v, ι', rfl, g', c', hrd⟩
  refine hK _ _ (kk C _ _ hCN ⟨fun id hid => ?_,ι',?_,?_⟩)
  ·rcases h0 id hid with q | q
   ·exact .inl ⟨q.1,by have := q.2;show id < aV + (R ++ R1).length;have h5 : id < aV + R.length := this;omega⟩
   ·exact .inr q
  ·show TG C ι' (lk ((d, rr') :: ts)) _ _ _
   rw [jM]
   exact (g.carry c').put (hCN.symm ▸ dC hN) hrd
  ·refine (g'.less (fun _ _ h => h) (fun j hj => ?_)).1
   have h3 : n ≤ j := hj.1
   have h4 : j < aV ∨ aV + (R ++ R1).length ≤ j := hj.2
   refine ⟨⟨h3,?_⟩,?_⟩
   ·show j < aV ∨ aV + R.length ≤ j
    omega
   ·rw [if_neg (by omega)]
end
theorem Gh {P:Program}{k:FuncId}{fn:Func}{c:Code}{args:List AV}{R0:List (List Bool)}{r:AV}{hh:List (Nat × Option (List AV))}(hf:P.funcs[k]? = some fn) (hb:fn.body = some c) (hN:args.length ≤ fn.ntmps)
  (h : AW P fn.ntmps c (oZ P fn.results (fun r' H' => r' = r ∧ ∀ id cs,aO (hh ++ gH R0) id = some cs → H' id = some cs)) ⟨g8 0 args,gH R0,0,⟨0,aV + R0.length⟩⟩) : NC P k args R0 r hh := n7 hf hb hN h
theorem Ho {P:Program}{k:FuncId}{fn:Func}{c:Code}{args:List AV}{R1:List (List Bool)}{r:AV}(hf:P.funcs[k]? = some fn) (hb:fn.body = some c) (hN:args.length ≤ fn.ntmps)
  (h : AW P fn.ntmps c (oZ P fn.results (fun r' H' => r' = r ∧ ∀ id cs,aO (gH R1) id = some cs → H' id = some cs)) ⟨g8 0 args,[],0,⟨0,aV⟩⟩) : OC P k args r R1 := n7 hf hb hN h
theorem Le.virt {ts:List (Nat × AV)}{hs:List (Nat × Option (List AV))}{n:Nat}{z0:Lo}(hn:n < aV):Le ⟨ts,hs,n,z0⟩ ⟨ts,(n,some []) :: hs,n + 1,z0⟩:=by
 rintro C a w ⟨h0,ι,g,gh⟩
 obtain ⟨g1,c1⟩ := gh.virt (id := n) ⟨Nat.le_refl _,.inl hn⟩
 have e : aO ((n,some []) :: hs) = dJ (aO hs) n (some []) := Ar _ _ _
 refine ⟨h0,dJ ι n (some none),?_,?_⟩
 ·show TG C _ (lk ts) (aO ((n, some []) :: hs)) a w
  rw [e]; exact g.carry c1
 ·show HG C _ _ (aO ((n, some []) :: hs)) w
  rw [e]
  refine (g1.less (fun _ _ h => h) (fun j hj => ?_)).1
  have h1 : n + 1 ≤ j := hj.1
  exact ⟨⟨by show n ≤ j;omega,hj.2⟩,by omega⟩
theorem Le.cellsN {ts:List (Nat × AV)}{hs:List (Nat × Option (List AV))}{n:Nat}{z0:Lo}{i q:Nat}{cs cs' cq:List AV}(hi:aO hs i = some cs) (hq:aO hs q = some cq) (hl:cs'.length = cs.length)
  (h : ∀ (w : World) (bad : Nat → Prop) (ι : Pl) (b β : Nat),(∃ p,ι q = some p) → RdC w bad ι cs b β → RdC w bad ι cs' b β) :
  Le ⟨ts,hs,n,z0⟩ ⟨ts,(i,some cs') :: hs,n,z0⟩ := by
 rintro C a w ⟨h0,ι,g,gh⟩
 have hqq : ∃ p, ι q = some p := by
  rcases gh.obj q cq hq with ⟨p1,_⟩ | ⟨_,_,_,_,p1,_⟩ <;> exact ⟨_,p1⟩
 have hk : ∀ id c, aO ((i, some cs') :: hs) id = some c → (id = i ∧ c = cs') ∨ (id ≠ i ∧ aO hs id = some c) := by
  intro id c hc
  rw [cC] at hc
  split at hc
  ·rename_i e;cases hc;exact .inl ⟨e,rfl⟩
  ·rename_i e;exact .inr ⟨fun h => e h,hc⟩
 have hk2 : ∀ id c, aO hs id = some c → ∃ c', aO ((i, some cs') :: hs) id = some c' := by
  intro id c hc
  rw [cC]
  split
  ·exact ⟨_,rfl⟩
  ·exact ⟨_,hc⟩
 have hb : aK C.X ι (aO ((i, some cs') :: hs)) = aK C.X ι (aO hs) := by
  funext b
  refine propext ⟨?_,?_⟩
  ·rintro (h | ⟨id, c, β, h1, h2⟩)
   ·exact .inl h
   ·rcases hk id c h1 with ⟨rfl, _⟩ | ⟨_, h3⟩
    ·exact .inr ⟨_,_,_,hi,h2⟩
    ·exact .inr ⟨_,_,_,h3,h2⟩
  ·rintro (h | ⟨id, c, β, h1, h2⟩)
   ·exact .inl h
   ·obtain ⟨c', h3⟩ := hk2 id c h1
    exact .inr ⟨_,_,_,h3,h2⟩
 refine ⟨h0,ι,⟨g.df,g.sz,fun t av ht => ?_⟩,?_,?_,gh.fr,gh.ex,gh.fresh⟩
 ·show ∃ y, a.tmps[t]? = some y ∧ Rd w (aK C.X ι (aO ((i, some cs') :: hs))) ι av y
  rw [hb]; exact g.tm t av ht
 ·intro id c hc
  show _ ∨ ∃ b β arr e,ι id = some (some (b,β)) ∧ w.heap[b]? = some (.cells arr e (0,0)) ∧ β + c.length ≤ arr.size ∧ RdC w (aK C.X ι (aO ((i,some cs') :: hs))) ι c b β ∧ ¬ C.X b ∧ (C.W0 b ∨ C.w0.heap.size ≤ b)
  rw [hb]
  rcases hk id c hc with ⟨rfl,rfl⟩ | ⟨_,h3⟩
  ·rcases gh.obj _ _ hi with ⟨q1, q2⟩ | ⟨b, β, arr, e, q1, q2, q3, q4, q5⟩
   ·subst q2
    exact .inl ⟨q1,List.eq_nil_of_length_eq_zero hl⟩
   ·exact .inr ⟨b,β,arr,e,q1,q2,by rw [hl]; exact q3,h _ _ _ _ _ hqq q4,q5⟩
  ·exact gh.obj _ _ h3
 ·intro id id' c c' b β β' h1 h2 h3 h4
  obtain ⟨d1, e1⟩ : ∃ d, aO hs id = some d := by
   rcases hk id c h1 with ⟨rfl,_⟩ | ⟨_,h⟩
   ·exact ⟨_,hi⟩
   ·exact ⟨_,h⟩
  obtain ⟨d2, e2⟩ : ∃ d, aO hs id' = some d := by
   rcases hk id' c' h2 with ⟨rfl,_⟩ | ⟨_,h⟩
   ·exact ⟨_,hi⟩
   ·exact ⟨_,h⟩
  exact gh.sep id id' d1 d2 b β β' e1 e2 h3 h4
theorem rD {w:World}{bad:Nat → Prop}{ι:Pl}{c c':AV}(hc:∀ y,Rd w bad ι c y → Rd w bad ι c' y):∀ (a:List AV) (r:List AV) (b o:Nat),RdC w bad ι (a ++ c :: r) b o → RdC w bad ι (a ++ c' :: r) b o
 | [], r, b, o, h => by
  simp only [List.nil_append,RdC] at h ⊢
  obtain ⟨⟨x,h1,h2,h3⟩,h4⟩ := h
  exact ⟨⟨x,h1,h2,hc _ h3⟩,h4⟩
 | x :: a, r, b, o, h => by
  simp only [List.cons_append,RdC] at h ⊢
  exact ⟨h.1,rD hc a r b (o + 1) h.2⟩
theorem Le.nilCell {ts:List (Nat × AV)}{hs:List (Nat × Option (List AV))}{n:Nat}{z0:Lo}{i:Nat}(e:Nat) (c1:List AV){c2:List AV}(hi:aO hs i = some (c1 ++ .v (.slice none 0 0) :: c2)) (hin:i ≠ n) (hn:n < aV) :
  Le ⟨ts,hs,n,z0⟩ ⟨ts,(i,some (c1 ++ .own n 0 0 e :: c2)) :: (n,some []) :: hs,n + 1,z0⟩ :=
 (Le.virt hn).trans (Le.cellsN (q := n) (cs := c1 ++ .v (.slice none 0 0) :: c2) (by rw [cC, if_neg hin]; exact hi) (by rw [cC, if_pos rfl]) (by simp) fun w bad ι b β hp hr =>
  rD (fun y hy => by simp only [Rd] at hy ⊢; exact .inl ⟨hp,trivial,none,hy⟩) c1 c2 b β hr)
theorem Le.frzC {ts:List (Nat × AV)}{hs:List (Nat × Option (List AV))}{n:Nat}{z0:Lo}{j i m e:Nat}(c1:List AV){c2 d:List AV}(hj:aO hs j = some (c1 ++ .own i 0 m e :: c2)) (hi:aO hs i = some d) (hij:j ≠ i) :
  Le ⟨ts,hs,n,z0⟩ ⟨ts,(j,some (c1 ++ .imm m d :: c2)) :: (i,none) :: hs,n,z0⟩ := by
 rintro C a w ⟨h0,ι,g,gh⟩
 have hk : ∀ id c, aO ((j, some (c1 ++ .imm m d :: c2)) :: (i, none) :: hs) id = some c → (id = j ∧ c = c1 ++ .imm m d :: c2) ∨ (id ≠ j ∧ id ≠ i ∧ aO hs id = some c) := by
  intro id c hc
  rw [cC] at hc
  split at hc
  ·rename_i e;cases hc;exact .inl ⟨e,rfl⟩
  ·rename_i e
   rw [cC] at hc
   split at hc
   ·cases hc
   ·rename_i e2;exact .inr ⟨e,e2,hc⟩
 have hk2 : ∀ id c, aO ((j, some (c1 ++ .imm m d :: c2)) :: (i, none) :: hs) id = some c → id ≠ i ∧ ∃ c', aO hs id = some c' := by
  intro id c hc
  rcases hk id c hc with ⟨rfl,_⟩ | ⟨_,h2,h3⟩
  ·exact ⟨hij,_,hj⟩
  ·exact ⟨h2,_,h3⟩
 have hbad : ∀ b, aK C.X ι (aO ((j, some (c1 ++ .imm m d :: c2)) :: (i, none) :: hs)) b → aK C.X ι (aO hs) b := by
  rintro b (h | ⟨id,c,β,h1,h2⟩)
  ·exact .inl h
  ·obtain ⟨_, c', h3⟩ := hk2 id c h1
   exact .inr ⟨id,c',β,h3,h2⟩
 have car : Carry w (aK C.X ι (aO hs)) ι w (aK C.X ι (aO ((j,some (c1 ++ .imm m d :: c2)) :: (i,none) :: hs))) ι := ⟨fun b o x h1 h2 => ⟨fun q => h1 (hbad b q),h2⟩,fun _ _ h => h,fun _ => Nat.le_refl _⟩
 have hcell : ∀ y, Rd w (aK C.X ι (aO ((j, some (c1 ++ .imm m d :: c2)) :: (i, none) :: hs))) ι (.own i 0 m e) y → Rd w (aK C.X ι (aO ((j, some (c1 ++ .imm m d :: c2)) :: (i, none) :: hs))) ι (.imm m d) y := by
  intro y hr
  simp only [Rd] at hr ⊢
  rcases hr with ⟨_,h2,a',h3⟩ | ⟨b,β,c,h1,h2,h3,h4⟩
  ·subst h2;exact ⟨a',0,h3,.inl rfl⟩
  ·refine ⟨_, c, h2, ?_⟩
   rcases Nat.eq_zero_or_pos m with h5|h5
   ·exact .inl h5
   ·refine .inr ⟨b, β + 0, h3, rfl, ?_⟩
    rcases gh.obj i d hi with ⟨q1,q2⟩ | ⟨b',β',arr,e',q1,q2,q3,q4,q5,q6⟩
    ·rw [h1] at q1;cases q1
    ·rw [h1] at q1; cases q1
     refine .inr ⟨?_,RdC.carryB car _ _ _ (fun o x hx => hx) q4⟩
     rintro (h | ⟨id',cs',β',r1,r2⟩)
     ·exact q5 h
     ·obtain ⟨r3, c', r4⟩ := hk2 id' cs' r1
      exact r3 (gh.sep _ _ _ _ _ _ _ r4 hi r2 h1)
 refine ⟨h0,ι,g.carry car,⟨fun id c hc => ?_,fun id id' c c' b β β' h1 h2 h3 h4 => ?_,gh.fr,gh.ex,gh.fresh⟩⟩
 ·rcases hk id c hc with ⟨rfl, rfl⟩ | ⟨_, _, h3⟩
  ·rcases gh.obj _ _ hj with ⟨q1, q2⟩ | ⟨b, β, arr, e, q1, q2, q3, q4, q5⟩
   ·simp at q2
   ·exact .inr ⟨b,β,arr,e,q1,q2,by simpa using q3,rD hcell c1 c2 b β (RdC.carryB car _ _ _ (fun o x hx => hx) q4),q5⟩
  ·rcases gh.obj _ _ h3 with ⟨q1, q2⟩ | ⟨b, β, arr, e, q1, q2, q3, q4, q5⟩
   ·exact .inl ⟨q1,q2⟩
   ·exact .inr ⟨b,β,arr,e,q1,q2,q3,RdC.carryB car _ _ _ (fun o x hx => hx) q4,q5⟩
 ·obtain ⟨_, d1, e1⟩ := hk2 id c h1
  obtain ⟨_,d2,e2⟩ := hk2 id' c' h2
  exact gh.sep id id' d1 d2 b β β' e1 e2 h3 h4
theorem HZ {R:List (List Bool)}{hs hs':List (Nat × Option (List AV))}{k m:Nat}(hF:FamR R R hs hs') (hk:k < R.length) (hm:m = R[k]!.length):sCells (aO hs) 1 (uR (.own (k + aV) 0 m 1)) = some (m,flat cB R[k]!):=by
 subst hm
 have hl : (flat cB R[k]!).length = R[k]!.length * 1 := aI cB _
 show (aO hs (k + aV)).bind (fun cs => if R[k]!.length * 1 ≤ (cs.drop 0).length then some (R[k]!.length,(cs.drop 0).take (R[k]!.length * 1)) else none) = _
 rw [hF.get hk,Option.bind_some,List.drop_zero,if_pos (by omega),List.take_of_length_le (by omega)]
theorem xD {cs:List AV}{v:Nat}{c:AV}:gM cs (0 + v * 1) [c] = cs.take v ++ c :: cs.drop (v + 1):=by
 unfold gM;simp
theorem JX {u:List (List Bool)}{v:Nat}{r:List Bool}(hv:v < u.length):(flat gL u).take v ++ .imm r.length (flat cB r) :: (flat gL u).drop (v + 1) = flat gL (u.set v r):=by
 have h := De (xs := u) (k := v) (r := r) hv
 rw [xD] at h;exact h
theorem Le.frzRow {ts:List (Nat × AV)}{hs:List (Nat × Option (List AV))}{n:Nat}{z0:Lo}{j q v m:Nat}{u:List (List Bool)}{r:List Bool}(hj:aO hs j = some (gM (flat gL u) (0 + v * 1) [.own q 0 m 1])) (hq:aO hs q = some (flat cB r)) (hm:m = r.length) (hv:v < u.length) (hjq:j ≠ q) :
  Le ⟨ts,hs,n,z0⟩ ⟨ts,(j,some (flat gL (u.set v r))) :: (q,none) :: hs,n,z0⟩ := by
 subst hm
 rw [xD] at hj
 have h := Le.frzC (ts := ts) (n := n) (z0 := z0) ((flat gL u).take v) hj hq hjq
 rwa [JX hv] at h
theorem Le.fdrop {ts:List (Nat × AV)}{hs:List (Nat × Option (List AV))}{n:Nat}{z0:Lo}{k:Nat}{R:List (List Bool)}(hF:FamR R R hs hs) (hk:k < R.length):Le ⟨ts,(k + aV,some (flat cB R[k]!)) :: hs,n,z0⟩ ⟨ts,hs,n,z0⟩:=by
 refine Le.of (fun _ _ h => h) (fun i cs h => ?_) (Nat.le_refl _) rfl
 have h' : aO hs i = some cs := h
 show aO ((k + aV,some (flat cB R[k]!)) :: hs) i = some cs
 rw [cC]
 split
 ·rename_i e;subst e;rw [hF.get hk] at h'; exact h'
 ·exact h'
theorem NV {i k:Nat}(hi:Nat.blt i aV = true):distinct [i,k + aV] = true:=by
 have h1 := dC hi
 have : Nat.beq i (k + aV) = false := by
  cases h : Nat.beq i (k + aV) with
  | false => rfl
  | true => have := Nat.eq_of_beq_eq_true h;omega
 simp only [distinct,List.all_cons,List.all_nil,this]; rfl
structure Hid (T : Prop) : Prop where pf : T
theorem cut {G:Prop}{T:Prop}(key:T) (main:Hid T → G):G := main ⟨key⟩
structure Hy (T : Prop) : Prop where pf : T
theorem OA:(∀ a b:Bool,((a && b) = true) = (a = true ∧ b = true)) ∧ (∀ a b:Bool,((a && b) = false) ↔ (a = false ∨ b = false)) ∧ (∀ a b:Bool,((a || b) = true) = (a = true ∨ b = true)) ∧ (∀ a b:Bool,((a || b) = false) ↔ (a = false ∧ b = false)) ∧
  (∀ (p : Prop) [Decidable p],(decide p = true) = p) ∧ (∀ (p : Prop) [Decidable p],(decide p = false) ↔ ¬ p) ∧ (∀ a : Bool,((!a) = true) ↔ a = false) ∧ (∀ a : Bool,((!a) = false) ↔ a = true) ∧ ((!true) = false) ∧ ((!false) = true) ∧ (∀ a b : Int,¬ a < b ↔ b ≤ a) ∧ (∀ a b : Int,¬ a ≤ b ↔ b < a) :=
 ⟨fun a b => Bool.and_eq_true a b,fun a b => Bool.and_eq_false_iff,fun a b => Bool.or_eq_true a b,fun a b => Bool.or_eq_false_iff,fun p _ => by simp,fun p _ => decide_eq_false_iff_not,fun a => by simp,fun a => by simp,rfl,rfl,fun _ _ => Int.not_lt,fun _ _ => Int.not_le⟩
theorem gB:(∀ {α:Type}(a b:List α),(a ++ b).length = a.length + b.length) ∧ (∀ {α:Type}(a:α) (b:List α),(a :: b).length = b.length + 1) ∧ (∀ {α:Type},([]:List α).length = 0) ∧ (∀ {α:Type}(a:List α) (i:Nat) (x:α),(a.set i x).length = a.length) ∧ (∀ {α:Type}(i:Nat) (a:List α),(a.take i).length = min i a.length) ∧
  (∀ {α β : Type} (f : α → β) (a : List α),(a.map f).length = a.length) ∧ (∀ {α : Type} (n : Nat) (a : α),(List.replicate n a).length = n) ∧ (∀ (l : List Stmt) (b : Nat),(fD b l).length = cR l) ∧ (∀ n : Nat,n * 1 = n) ∧ (∀ n : Nat,0 + n = n) ∧ (∀ n : Nat,n + 0 = n) :=
 ⟨fun _ _ => List.length_append,fun _ _ => rfl,rfl,fun _ _ _ => List.length_set,fun _ _ => List.length_take,fun _ _ => List.length_map _,fun _ _ => List.length_replicate,bJ,Nat.mul_one,Nat.zero_add,Nat.add_zero⟩
theorem bC {α:Type}{p q r:α → Prop}(x:α) (h3:r x) (h1:p x) (h2:q x):∃ x,p x ∧ q x ∧ r x := ⟨x,h1,h2,h3⟩
theorem OW {G K:Prop}(k:K) (h:Hy K → G := by first|(intro k;(first|((with_reducible apply EC);(case hx => rfl);(case hH => rfl);(case hf => infer_instance);(case hg => infer_instance);(case hα => infer_instance);(case hk => omega);(case hc => rfl);(case hN => rfl)) | ((with_reducible apply E3);(case hx => rfl);(case hH => rfl);(case hf => infer_instance);(case hg => infer_instance);(case hα => infer_instance);(case hk => omega);(case hc => rfl);(case hN => rfl)) | ((with_reducible apply Fx);(case hx => rfl);(case hH => rfl);(case hf => infer_instance);(case hg => infer_instance);(case hα => infer_instance);(case hk => omega);(case h0 => rfl);(case hN => rfl)) | ((with_reducible apply Bf);(case hx => rfl);(case hd => rfl);(case hc => rfl);(case hN => rfl)) | ((with_reducible apply G7);(case hx => rfl);(case hd => rfl);(case hc => (first|exact (rfl:_ = [_]) | exact (rfl:_ = [_,_]) | exact (rfl:_ = [_,_,_]) | exact (rfl:_ = [_,_,_,_]) | exact (rfl:_ = [_,_,_,_,_]) | exact (rfl:_ = [_,_,_,_,_,_]) | exact (rfl:_ = [_,_,_,_,_,_,_]) | exact (rfl:_ = [_,_,_,_,_,_,_,_]) | rfl));(case hn => rfl);(case h0 => rfl);(case hN => rfl)) | ((with_reducible apply AU);(case hx => rfl);(case hl => first|assumption | omega | (simp only [gB,List.length_drop] <;> omega));(case h0 => rfl);(case hN => rfl)) | ((with_reducible apply zI);(case hx => rfl);(case hH => rfl);(case hl => first|assumption | omega | (simp only [gB] <;> omega) | rfl);(case h0 => rfl);(case hN => rfl)) | ((with_reducible apply Bn);(case hx => rfl);(case hH => rfl);(case hl => first|assumption | omega | (simp only [gB] <;> omega) | rfl);(case h0 => rfl);(case hN => rfl)) | ((with_reducible apply E0);(case hx => rfl);(case hH => rfl);(case ho => first|exact OS | exact OP);(case hq => first|assumption | omega | (simp only [gB] <;> omega));(case hN => rfl)));exact k.pf) | fail):G := h ⟨k⟩
theorem OT {G K:Prop}(k:K) (h:Hy K → G := by first|(intro k;(first|((with_reducible apply Ea);(case hj => rfl);(case hb => rfl);(case hN => rfl)) | ((with_reducible apply Eu);(case hj => rfl);(case hb => rfl);(case hN => rfl);(case hw => first|rfl | assumption)) | ((with_reducible apply Cn);(case hj => rfl);(case hb => rfl);(case hN => rfl);(case hw => first|rfl | assumption)) );exact k.pf) | fail):G := h ⟨k⟩
theorem OM {G K:Prop}(k:K) (h:Hy K → G := by first|(intro k;(first|((with_reducible apply KD);(case hx => rfl);(case hy => rfl);(case h => rfl);(case hN => rfl)) | ((with_reducible apply M9);(case hx => rfl);(case hy => rfl);(case hk => infer_instance);(case ha => infer_instance);(case hb => infer_instance);(case hN => rfl)) | ((with_reducible apply Kj);(case hx => rfl);(case hy => rfl);(case hk => infer_instance);(case ha => infer_instance);(case hN => rfl)) | ((with_reducible apply JQ);(case hx => rfl);(case hy => rfl);(case hk => infer_instance);(case ha => infer_instance);(case hb => infer_instance);(case hN => rfl)) | ((with_reducible apply I8);(case hx => rfl);(case hy => rfl);(case hk => infer_instance);(case ha => infer_instance);(case hb => infer_instance);(case hN => rfl)) | ((with_reducible apply JP);(case hx => rfl);(case hy => rfl);(case hk => infer_instance);(case ha => infer_instance);(case h => omega);(case hN => rfl)) | ((with_reducible apply Mr);(case hx => rfl);(case hy => rfl);(case h => omega);(case hN => rfl)) | ((with_reducible apply Nm);(case hx => rfl);(case hy => rfl);(case h => omega);(case hN => rfl))  | ((with_reducible apply MY);(case hx => rfl);(case hy => rfl);(case h => rfl);(case hN => rfl)));exact k.pf) | fail):G := h ⟨k⟩
theorem OH {G K:Prop}(k:K) (h:Hy K → G := by first|(intro k;(first|((with_reducible apply sD);(case hx => rfl);(case hi => rfl);(case hm => (first|assumption | omega));(case hml => (first|rfl|assumption|omega));(case hα => infer_instance);(case hf => infer_instance);(case hg => infer_instance);(case hN => rfl)) | ((with_reducible apply B5);(case hx => rfl);(case hi => rfl);(case hm => (first|assumption | omega));(case hN => rfl)) | ((with_reducible apply v7);(case hx => rfl);(case hi => rfl);(case hm => (first|assumption | omega | exact ⟨Int.emod_nonneg _ (by omega),Int.emod_lt_of_pos _ (by omega)⟩));(case hml => (first|rfl|assumption|omega));(case hα => infer_instance);(case hf => infer_instance);(case hg => infer_instance);(case hN => rfl)) | ((with_reducible apply FK);(case hx => rfl);(case hi => rfl);(case hm => (first|assumption | omega | exact ⟨Int.emod_nonneg _ (by omega),Int.emod_lt_of_pos _ (by omega)⟩));(case hN => rfl)) | ((with_reducible apply z6);(case hx => rfl);(case hi => rfl);(case hm => first|omega | assumption);(case hp => rfl);(case hN => rfl)) | ((with_reducible apply B1);(case hx => rfl);(case hi => rfl);(case hm => first|omega | assumption);(case hN => rfl)));exact k.pf) | fail):G := h ⟨k⟩
theorem OX {G K:Prop}(k:K) (h:Hy K → G := by first|(intro k;(first|((with_reducible apply Mk);(case hx => rfl);(case hn => rfl);(case hN => rfl))  | ((with_reducible apply bS);(case hx => rfl);(case hy => rfl);(case hze => rfl);(case he0 => rfl);(case hH => rfl);(case hl => first|(rw [aI]; omega) | (rw [aI]; simp only [gB] <;> omega) | (simp [aI]; done) | decide | (simp;omega));(case hs' => first|rfl | exact tJ (by (first|rfl | assumption | omega)));(case hbig => omega);(case hmx => omega);(case hcs => first  | exact pF (by (first|assumption | omega | (simp only [gB] <;> omega) | decide)) | exact Jf (by (first|assumption | omega | (simp only [gB] <;> omega) | decide)) | exact H7 (by (first|assumption | omega | (simp only [gB] <;> omega) | decide)) | exact HQ (by (first|assumption | omega | (simp only [gB] <;> omega) | decide)) | exact KK (by (first|assumption | omega | (simp only [gB] <;> omega) | decide)) | exact JJ (by (first|assumption | omega | (simp only [gB] <;> omega) | decide))   | exact (rfl:_ = [_]) | exact (rfl:_ = [_,_]) | exact (rfl:_ = [_,_,_]) | exact (rfl:_ = [_,_,_,_]) | exact (rfl:_ = [_,_,_,_,_]) | exact (rfl:_ = [_,_,_,_,_,_]) | exact (rfl:_ = [_,_,_,_,_,_,_]) | exact (rfl:_ = [_,_,_,_,_,_,_,_]) | rfl);(case hM => rfl);(case hN => rfl)));exact k.pf) | fail):G := h ⟨k⟩
theorem OO {G K:Prop}(k:K) (h:Hy K → G := by first|(intro k;(first|((with_reducible apply EX);(case hl => rfl);(case hf => (first|exact (rfl:_ = some [_]) | exact (rfl:_ = some [_,_]) | exact (rfl:_ = some [_,_,_]) | exact (rfl:_ = some [_,_,_,_]) | exact (rfl:_ = some [_,_,_,_,_]) | exact (rfl:_ = some [_,_,_,_,_,_]) | exact (rfl:_ = some [_,_,_,_,_,_,_]) | exact (rfl:_ = some [_,_,_,_,_,_,_,_]) | rfl));(case hk => (first|exact (rfl:_ = [_]) | exact (rfl:_ = [_,_]) | exact (rfl:_ = [_,_,_]) | exact (rfl:_ = [_,_,_,_]) | exact (rfl:_ = [_,_,_,_,_]) | exact (rfl:_ = [_,_,_,_,_,_]) | exact (rfl:_ = [_,_,_,_,_,_,_]) | exact (rfl:_ = [_,_,_,_,_,_,_,_]) | rfl));(case hN => rfl)) | ((with_reducible apply oO);(case hl => rfl);(case hf => (first|exact (rfl:_ = some [_]) | exact (rfl:_ = some [_,_]) | exact (rfl:_ = some [_,_,_]) | exact (rfl:_ = some [_,_,_,_]) | exact (rfl:_ = some [_,_,_,_,_]) | exact (rfl:_ = some [_,_,_,_,_,_]) | exact (rfl:_ = some [_,_,_,_,_,_,_]) | exact (rfl:_ = some [_,_,_,_,_,_,_,_]) | rfl));(case hN => rfl)));exact k.pf) | fail):G := h ⟨k⟩
theorem ON {G K:Prop}(k:K) (h:Hy K → G := by first|(intro k;(first|((with_reducible apply nF);(case hze => rfl);(case hsm => rfl);(case hl => rfl);(case hfl => (first|exact (rfl:_ = some [_]) | exact (rfl:_ = some [_,_]) | exact (rfl:_ = some [_,_,_]) | exact (rfl:_ = some [_,_,_,_]) | exact (rfl:_ = some [_,_,_,_,_]) | exact (rfl:_ = some [_,_,_,_,_,_]) | exact (rfl:_ = some [_,_,_,_,_,_,_]) | exact (rfl:_ = some [_,_,_,_,_,_,_,_]) | rfl));(case hM => rfl);(case hN => rfl)) | ((with_reducible apply nE);(case hx => rfl);(case hy => rfl);(case hze => rfl);(case hsm => omega);(case hmx => omega);(case hcs => first|exact Ni | exact KT | exact Hz | exact Dl | rfl);(case hM => rfl);(case hN => rfl)));exact k.pf) | fail):G := h ⟨k⟩
theorem OQ {G K:Prop}(k:K) (h:Hy K → G := by first|(intro k;(first|((with_reducible apply bB);(case hx => rfl);(case hy => rfl);(case hc => rfl);(case hn => rfl);(case hH => rfl);(case hl => (first|decide|(rw [aI]; simp only [gB] <;> omega)|omega|(simp;done)|(simp;omega)));(case hcs => first     | exact De (by (first|assumption | omega | (simp only [gB] <;> omega) | decide)) | exact Hn (by (first|assumption | omega | (simp only [gB] <;> omega) | decide)) | exact G4 (by (first|assumption | omega | (simp only [gB] <;> omega) | decide)) | exact Nw (by (first|assumption | omega | (simp only [gB] <;> omega) | decide)) | exact CT (by (first|assumption | omega | (simp only [gB] <;> omega) | decide)) | exact Hu (by (first|assumption | omega | (simp only [gB] <;> omega) | decide))  | exact M3 (by (first|assumption | omega | (simp only [gB] <;> omega) | decide)) | exact yE (by (first|assumption | omega | (simp only [gB] <;> omega) | decide))  | exact (rfl:_ = [_]) | exact (rfl:_ = [_,_]) | exact (rfl:_ = [_,_,_]) | exact (rfl:_ = [_,_,_,_]) | exact (rfl:_ = [_,_,_,_,_]) | exact (rfl:_ = [_,_,_,_,_,_]) | exact (rfl:_ = [_,_,_,_,_,_,_]) | exact (rfl:_ = [_,_,_,_,_,_,_,_]) | rfl)) | ((with_reducible apply Ao);(case hx => rfl);(case hy => rfl);(case hH => rfl);(case hl => first|assumption | omega | (simp only [gB] <;> omega));(case hc => first|rfl | (rw [dU]; first|assumption | (simp only [gB] <;> omega)))));exact k.pf) | fail):G := h ⟨k⟩
theorem Gt {G K:Prop}(k:K) (h:Hy K → G := by first|(intro k;(first|((with_reducible apply aF);first|((with_reducible apply KI);(case hx => rfl);(case hN => rfl)) | ((with_reducible apply Kt);refine OW ?_) | ((with_reducible apply wO);(case hx => rfl);(case hp => rfl);(case hN => rfl)) | ((with_reducible apply NT);refine OT ?_) | ((with_reducible apply Lx);refine OM ?_) | ((with_reducible apply vE);(case hx => rfl);(case hN => rfl)) | ((with_reducible apply JK);first|((with_reducible apply G9);(case hc => rfl);(case hb => first|rfl | assumption);(case hx => rfl);(case hN => rfl)) | ((with_reducible apply Is);(case hc => rfl);(case hb => first|rfl | assumption);(case hx => rfl);(case hN => rfl))) | ((with_reducible apply LA);refine OH ?_) | ((with_reducible apply N8);refine OX ?_) | ((with_reducible apply Mx);(case hf => kernel_rfl)) | ((with_reducible apply NI);first|((with_reducible apply BB);(case hx => rfl);(case hi => rfl);(case hl => first|assumption | omega | (simp only [gB] <;> omega));(case hm => omega);(case hN => rfl))) | ((with_reducible apply Mh);refine OO ?_) | ((with_reducible apply LW);first|((with_reducible apply vZ);(case hx => rfl);(case hf => infer_instance);(case hl => rfl);(case hh => rfl);(case hb => first|omega | (simp only [List.length_take,List.length_drop,Int.toNat_natCast]; omega));(case hN => rfl))) | ((with_reducible apply lL);(case hf => rfl);(case hc => rfl);(case hN => rfl)) | ((with_reducible apply Mo);(case hx => rfl);(case hN => rfl)) | ((with_reducible apply Ly);(case hx => rfl);(case hp => rfl);(case hN => rfl)) | ((with_reducible apply Mn);(case hx => rfl);(case hc => rfl);(case hM => rfl);(case hN => rfl)) | ((with_reducible apply GZ);(case hM => rfl);(case hN => rfl)) | ((with_reducible apply CD);(case hx => rfl);(case hc => rfl);(case hN => rfl)) | refine ON ?_ | refine OQ ?_));exact k.pf) | fail):G := h ⟨k⟩
theorem OK {G K:Prop}(k:K) (h:Hy K → G := by first|(intro k;(first|((with_reducible apply CV);first|with_reducible apply Nx | with_reducible apply EA | ((with_reducible apply Gv);(case hc => rfl);(case hb => first|rfl | assumption)) | ((with_reducible apply Ir);(case hc => rfl);(case hb => first|rfl | assumption)) | with_reducible apply Gr | with_reducible apply La | with_reducible apply J7 | with_reducible apply MI ) | with_reducible apply Fp | with_reducible apply M0 | with_reducible apply Ko | with_reducible apply Fc | with_reducible apply MN | with_reducible apply Jm | ((with_reducible apply LU);(case hij => decide)));exact k.pf) | fail):G := h ⟨k⟩
theorem aJ {G c1 q1 c2 q2 K1 K2:Prop}(k1:c1 → q1 → K1) (k2:c2 → q2 → K2) (h:Hy (c1 → q1 → K1) → Hy (c2 → q2 → K2) → G := by first|(intro k1 k2;(with_reducible apply CV);(with_reducible apply yF);(case hc => rfl);(intro hc;have hq := hc;(try simp only [OA] at hq);first|exact k1.pf hc hq | exact k1.pf hc trivial);(intro hc;have hq := hc;(try simp only [OA] at hq);first|exact k2.pf hc hq | exact k2.pf hc trivial)) | fail):G := h ⟨k1⟩ ⟨k2⟩
theorem bO {G c1 q1 c2 q2 K1 K2:Prop}(k1:c1 → q1 → K1) (k2:c2 → q2 → K2) (h:Hy (c1 → q1 → K1) → Hy (c2 → q2 → K2) → G := by first|(intro k1 k2;(with_reducible apply aF);(with_reducible apply NT);(with_reducible apply Ej);(case hj => rfl);(case hb => rfl);(case hN => rfl);(intro hc;have hq := hc;(try simp only [OA] at hq);first|exact k1.pf hc hq | exact k1.pf hc trivial);(intro hc;have hq := hc;(try simp only [OA] at hq);first|exact k2.pf hc hq | exact k2.pf hc trivial)) | fail):G := h ⟨k1⟩ ⟨k2⟩
theorem bI {G K:Prop}(k:K) (h:Hy K → G := by first|(intro k;(with_reducible apply CV);(with_reducible apply Jk);(case hm => kernel_rfl);exact k.pf) | fail):G := h ⟨k⟩
theorem dF {G K:Prop}(k:K) (h:Hy K → G := by first|(intro k;(with_reducible apply aD);(case hr => rfl);exact k.pf) | fail):G := h ⟨k⟩
theorem zK {ts:List (Nat × AV)}:pE [] ts = [] := rfl
theorem wB {k:Nat}{v:AV}{ks:List Nat}{ts kt:List (Nat × AV)}(h:lk ts k = some v) (h2:pE ks ts = kt):pE (k :: ks) ts = (k,v) :: kt:=by
 subst h2;simp [pE,h]
theorem z4 {hs:List (Nat × Option (List AV))}:pU [] hs = [] := rfl
theorem vO {k:Nat}{v:List AV}{ks:List Nat}{hs kh:List (Nat × Option (List AV))}(h:aO hs k = some v) (h2:pU ks hs = kh):pU (k :: ks) hs = (k,some v) :: kh:=by
 subst h2;simp [pU,h]
section
variable {P : Program} {N : Nat} {Q : Exit → AS → Prop} {σ : Type} {c : Code} {ts : List (Nat × AV)} {hs : List (Nat × Option (List AV))} {n : Nat} {z0 : Lo}
theorem aH (ks js:List Nat){kt:List (Nat × AV)}{kh:List (Nat × Option (List AV))}(ot:σ → List (Nat × AV)) (oh:σ → List (Nat × Option (List AV))) (p:σ → Prop) (μ:σ → Nat) (i0:σ) (h0:p i0)
  (round : ∀ i,p i → AW P N c (oF (fun s' => ∃ j,p j ∧ μ j < μ i ∧ Le s' ⟨ot j ++ kt,oh j ++ kh,n,z0⟩) Q) ⟨ot i ++ kt,oh i ++ kh,n,z0⟩)
  (hk : pE ks ts = kt := by repeat' (first|exact zK|(apply wB;rfl))) (hj : pU js hs = kh := by repeat' (first|exact z4|(apply vO;rfl)))
  (h1 : o7 ts (ot i0) := by repeat' (first|exact trivial|refine And.intro rfl ?_)) (h2 : nA hs (oh i0) := by repeat' (first|exact trivial|refine And.intro (.inr rfl) ?_)) : AW P N (.loop c) Q ⟨ts,hs,n,z0⟩ :=
 Ig ks kt js kh ot oh p μ i0 h0 hk hj h1 h2 round
theorem dT (Rf:σ → List (List Bool)) (ks js:List Nat){kt:List (Nat × AV)}{kh:List (Nat × Option (List AV))}(ot:σ → List (Nat × AV)) (oh:σ → List (Nat × Option (List AV))) (p:σ → Prop) (μ:σ → Nat) (i0:σ) (h0:p i0)
  (round : ∀ i,p i → AW P N c (oF (fun s' => ∃ j,p j ∧ μ j < μ i ∧ Le s' ⟨ot j ++ kt,(oh j ++ kh) ++ gH (Rf j),n,⟨0,aV + (Rf j).length⟩⟩) Q) ⟨ot i ++ kt,(oh i ++ kh) ++ gH (Rf i),n,⟨0,aV + (Rf i).length⟩⟩)
  (hk : pE ks ts = kt := by repeat' (first|exact zK|(apply wB;rfl))) (hj : pU js hs = kh := by repeat' (first|exact z4|(apply vO;rfl)))
  (h1 : o7 ts (ot i0) := by repeat' (first|exact trivial|refine And.intro rfl ?_)) (h2 : nA hs (oh i0) := by repeat' (first|exact trivial|refine And.intro (.inr rfl) ?_))
  (hF : FamR (Rf i0) (Rf i0) hs hs := by repeat' (first|exact FamR.here|exact FamR.nil|(apply FamR.cons;focus rfl))) (hz : z0 = ⟨0,aV + (Rf i0).length⟩ := by first|rfl|(simp only [e7])) : AW P N (.loop c) Q ⟨ts,hs,n,z0⟩ :=
 Bb 0 Rf ks kt js kh ot oh p μ i0 h0 hk hj h1 h2 hF hz round
end
theorem Le.renA (m:List (Nat × Nat)){ts ts':List (Nat × AV)}{hs hs':List (Nat × Option (List AV))}{n n':Nat}{lo:Lo}(hm:GW lo.lo n' m = true := by rfl) (hn:lo.lo ≤ n' := by decide)
  (h1 : Iu m lo ts ts' := by repeat' (first|exact trivial|refine And.intro ⟨_,rfl,?_⟩ ?_|refine And.intro ⟨_,_,rfl,rfl,?_⟩ ?_|exact Or.inr rfl|refine Or.inl ⟨?_,(by first|rfl|exact a9 _ _|exact Pur.pf|exact PurV.pf)⟩|refine Or.inr (All2.cons ?_ ?_)|refine All2.cons ?_ ?_|exact All2.nil|rfl))
  (h2 : BQ m lo hs hs' := by repeat' (first|exact trivial|refine And.intro ⟨_,rfl,?_⟩ ?_|refine And.intro ⟨_,_,rfl,rfl,?_⟩ ?_|exact Or.inr rfl|refine Or.inl ⟨?_,(by first|rfl|exact a9 _ _|exact Pur.pf|exact PurV.pf)⟩|refine Or.inr (All2.cons ?_ ?_)|refine All2.cons ?_ ?_|exact All2.nil|rfl)) : Le ⟨ts,hs,n,lo⟩ ⟨ts',hs',n',lo⟩ :=
 Le.ren m hm hn h1 h2
section
variable {P : Program} {k : FuncId} {fn : Func} {c : Code} {args : List AV} {N : Nat}
theorem aB {Q:AV → Prop}(hf:P.funcs[k]? = some fn) (hn:fn.ntmps = N) (h:AW P N c (oZ P fn.results (fun r _ => Q r ∧ r.pur = true)) ⟨g8 0 args,[],0,⟨0,aV⟩⟩) (hb:fn.body = some c := by rfl)
  (hN : args.length ≤ N := by simp) : PC P k args Q := by subst hn;exact F3 hf hb hN h
theorem aX {σ:Type}{H0:List (Nat × Option (List AV))}{n:Nat}{p:σ → Prop}{rr:σ → AV}{hh:σ → List (Nat × Option (List AV))}(hf:P.funcs[k]? = some fn) (hn:fn.ntmps = N)
  (h : AW P N c (oZ P fn.results (fun r H' => ∃ x,p x ∧ r = rr x ∧ ∀ id cs,aO (hh x) id = some cs → H' id = some cs)) ⟨g8 0 args,H0,n,⟨n,aV⟩⟩) (hb : fn.body = some c := by rfl)
  (hN : args.length ≤ N := by simp) : MC P k args H0 n p rr hh := by subst hn;exact GK hf hb hN h
theorem At {R0:List (List Bool)}{r:AV}{hh:List (Nat × Option (List AV))}(hf:P.funcs[k]? = some fn) (hn:fn.ntmps = N)
  (h : AW P N c (oZ P fn.results (fun r' H' => r' = r ∧ ∀ id cs,aO (hh ++ gH R0) id = some cs → H' id = some cs)) ⟨g8 0 args,gH R0,0,⟨0,aV + R0.length⟩⟩) (hb : fn.body = some c := by rfl)
  (hN : args.length ≤ N := by simp) : NC P k args R0 r hh := by subst hn;exact Gh hf hb hN h
theorem Ia {R1:List (List Bool)}{r:AV}(hf:P.funcs[k]? = some fn) (hn:fn.ntmps = N)
  (h : AW P N c (oZ P fn.results (fun r' H' => r' = r ∧ ∀ id cs,aO (gH R1) id = some cs → H' id = some cs)) ⟨g8 0 args,[],0,⟨0,aV⟩⟩) (hb : fn.body = some c := by rfl)
  (hN : args.length ≤ N := by simp) : OC P k args r R1 := by subst hn;exact Ho hf hb hN h
end
section
variable {P : Program} {C : Ctx} {ι : Pl} {T : Nat → Option AV} {F : Nat → Prop} {H : Nat → Option (List AV)} {a : Act} {w : World} {o : Oper}
theorem A9 {bad:Nat → Prop}{k:IntKind}:∀ {ns:List Int}{l:List Value},RdL w bad ι (ns.map fun n => .v (.int k n)) l → l = ns.map (Value.int k)
 | [],l,h => by simp only [List.map_nil,RdL] at h;exact h
 | n :: ns, l, h => by
  simp only [List.map_cons,RdL] at h
  obtain ⟨x,l',rfl,h0,h1,h2⟩ := h
  simp only [Rd] at h1
  rw [h1,A9 h2,List.map_cons]
end
class Eq3 (P : Program) (t : Nat) : Prop where
 g : P.eqGuardType P.depth t = false
 e : ∀ (a b c a' b' c' : Int) (w : World),(Op.equalIn 10000 t (.agg #[.int .i64 a,.int .i64 b,.int .i64 c]) (.agg #[.int .i64 a',.int .i64 b',.int .i64 c'])).run P w = .ok (a == a' && (b == b' && c == c')) w
def FU (op : BinOp) (b : Bool) : Option Value :=
 match op with
 | .eql => some (.bool b)
 | .neq => some (.bool (!b))
 | _ => none
section
variable {P : Program} {C : Ctx} {ι : Pl} {T : Nat → Option AV} {F : Nat → Prop} {H : Nat → Option (List AV)} {a : Act} {w : World} {o : Oper}
theorem MH (g:TG C ι T H a w){op:BinOp}{t t':TypeId}{x y:Operand}{m1 m2 m3 n1 n2 n3:Int}{v:Value}(he:Eq3 P t) (ho:o.op = .binOp op t x y t')
  (hx : ev T x = some (.agg [.v (.int .i64 m1),.v (.int .i64 m2),.v (.int .i64 m3)])) (hy : ev T y = some (.agg [.v (.int .i64 n1),.v (.int .i64 n2),.v (.int .i64 n3)]))
  (h : FU op (m1 == n1 && (m2 == n2 && m3 == n3)) = some v) : Pu P C ι H a w o (.v v) := by
 have key : ∀ (z : Operand) (k1 k2 k3 : Int), ev T z = some (.agg [.v (.int .i64 k1), .v (.int .i64 k2), .v (.int .i64 k3)]) → a.eval z = .agg #[.int .i64 k1, .int .i64 k2, .int .i64 k3] := by
  intro z k1 k2 k3 hz
  have h1 := bV g hz
  simp only [Rd] at h1
  obtain ⟨l,h2,h3⟩ := h1
  have h4 := A9 (ns := [k1,k2,k3]) (k := .i64) h3
  rw [h2,h4]; rfl
 refine ⟨v,?_,by simp [Rd]⟩
 have hb : (binOp op t (.agg #[.int .i64 m1, .int .i64 m2, .int .i64 m3]) (.agg #[.int .i64 n1, .int .i64 n2, .int .i64 n3])).run P w = .ok v w := by
  cases op <;> simp only [FU] at h <;> cases h
  ·rw [run_eql_struct,he.e]; rfl
  ·rw [run_neq_struct,he.e]; rfl
 simp only [execOp,ho,key x _ _ _ hx,key y _ _ _ hy,Sem.run_bind,run_eqGuard_agg w op t x y _ _ he.g,Result.andThen_ok,hb,Sem.run_pure]
end
section
variable {P : Program} {N : Nat} {Q : Exit → AS → Prop} {all : Array Oper} {rest : List Oper} {ts : List (Nat × AV)} {hs : List (Nat × Option (List AV))} {n : Nat} {z0 : Lo} {md : Md}
variable {d : Nat} {ty : TypeId} {pos : String} {af : Array Edge}
theorem yW {op:BinOp}{t t':TypeId}{x y:Operand}{m1 m2 m3 n1 n2 n3:Int}{v:Value}[he:Eq3 P t] (hx:ev (lk ts) x = some (.agg [.v (.int .i64 m1),.v (.int .i64 m2),.v (.int .i64 m3)])) (hy:ev (lk ts) y = some (.agg [.v (.int .i64 n1),.v (.int .i64 n2),.v (.int .i64 n3)]))
  (h : FU op (m1 == n1 && (m2 == n2 && m3 == n3)) = some v) (hN : Nat.blt d N = true) {md' : Md} [hmd : MdA md (rO x ++ rO y) [.inl d] md'] (kk : RW P N all Q md' rest ⟨(d,.v v) :: ts,hs,n,z0⟩) : RW P N all Q md (⟨some d,.binOp op t x y t',ty,pos,af,none⟩ :: rest) ⟨ts,hs,n,z0⟩ :=
 dW rfl rfl (dC hN) (fun C ι F T H a w ag g gh => MH g he rfl (ag.l.ev.trans hx) (ag.r.ev.trans hy) h) (by rw [hmd.pf]; exact kk)
end
end Go.AL
namespace Go.AL
structure IsOk (nt np : Nat) (x : Iss) : Prop where
 p0 : 0 ≤ x.point
 p1 : x.point < np
 k : (x.kind = 1 ∧ 0 ≤ x.with_ ∧ x.with_ < nt) ∨ ((x.kind = 2 ∨ x.kind = 3) ∧ 0 ≤ x.with_ ∧ x.with_ < np)
theorem M4 {ts:List Int}{pts:List Pnt}{Aa:List Nat}{cf:List Bool}{i:Nat}(hi:i < pts.length):∀ x ∈ MG ts pts Aa cf i,IsOk ts.length pts.length x ∧ x.point = i:=by
 intro x hx
 unfold MG at hx
 rcases List.mem_append.1 hx with h|h
 ·obtain ⟨v, hv, rfl⟩ := List.mem_map.1 h
  have hv2 := List.mem_range.1 (List.mem_filter.1 hv).1
  exact ⟨⟨by dsimp only;omega,by dsimp only;omega,.inl ⟨rfl,by dsimp only;omega,by dsimp only;omega⟩⟩,rfl⟩
 ·obtain ⟨v, hv, rfl⟩ := List.mem_map.1 h
  have hv2 := List.mem_range.1 (List.mem_filter.1 hv).1
  refine ⟨⟨by dsimp only;omega,by dsimp only;omega,.inr ⟨?_,by dsimp only;omega,by dsimp only;omega⟩⟩,rfl⟩
  show IZ pts v = 2 ∨ IZ pts v = 3
  unfold IZ;split <;> simp
theorem Ds {ts:List Int}{pts:List Pnt}(w:WG ts pts) (f:Flows ts pts):∀ n,n ≤ pts.length →
  (∀ x ∈ pO ts pts f.Aa f.Am f.Al f.Af f.Ap n,IsOk ts.length pts.length x ∧ x.point < n) ∧ (pO ts pts f.Aa f.Am f.Al f.Af f.Ap n).Pairwise (fun a b => a.point ≤ b.point)
 | 0, _ => by
  have : pO ts pts f.Aa f.Am f.Al f.Af f.Ap 0 = [] := rfl
  rw [this]
  exact ⟨fun x h => by simp at h,List.Pairwise.nil⟩
 | n + 1, h => by
  obtain ⟨h1,h2⟩ := Ds w f n (by omega)
  have h3 := M4 (ts := ts) (pts := pts) (Aa := f.Aa) (cf := I5 ts pts f.Am f.Al f.Af f.Ap n) (i := n) (by omega)
  rw [B0 w f (by omega)] at h3
  rw [mS]
  refine ⟨fun x hx => ?_,List.pairwise_append.2 ⟨h2,?_,fun a ha b hb => ?_⟩⟩
  ·rcases List.mem_append.1 hx with hx | hx
   ·exact ⟨(h1 x hx).1,by have := (h1 x hx).2;omega⟩
   ·exact ⟨(h3 x hx).1,by have := (h3 x hx).2;omega⟩
  ·refine List.pairwise_iff_getElem.2 fun i j hi hj _ => ?_
   have a1 := (h3 _ (List.getElem_mem hi)).2
   have a2 := (h3 _ (List.getElem_mem hj)).2
   omega
  ·have a1 := (h1 a ha).2
   have a2 := (h3 b hb).2
   omega
theorem Mf {ts:List Int}{pts:List Pnt}(w:WG ts pts) (f:Flows ts pts):(∀ k,k < f.iss.length → IsOk ts.length pts.length f.iss[k]!) ∧ (∀ k,k + 1 < f.iss.length → f.iss[k]!.point ≤ f.iss[k + 1]!.point):=by
 obtain ⟨h1,h2⟩ := Ds w f pts.length (Nat.le_refl _)
 refine ⟨fun k hk => (h1 _ (aN _ k hk)).1,fun k hk => ?_⟩
 rw [aS _ _ hk,aS _ k (by omega)]
 exact List.pairwise_iff_getElem.1 h2 k (k + 1) (Nat.lt_of_succ_lt hk) hk (Nat.lt_succ_self k)
theorem JY (ts:List Int) (pts:List Pnt) (Aa:List Nat) (cf:List Bool) (i:Nat):(MG ts pts Aa cf i).length ≤ ts.length + pts.length:=by
 unfold MG
 rw [List.length_append,List.length_map,List.length_map]
 have h1 := List.length_filter_le (EY ts pts Aa i) (List.range ts.length)
 have h2 := List.length_filter_le (fun (l : Nat) => cf[l]!) (List.range pts.length)
 rw [List.length_range] at h1 h2
 omega
theorem Dn {ts:List Int}{pts:List Pnt}(w:WG ts pts) (f:Flows ts pts):∀ n,n ≤ pts.length → (pO ts pts f.Aa f.Am f.Al f.Af f.Ap n).length ≤ n * (ts.length + pts.length)
 | 0,_ => by simp [pO]
 | n + 1, h => by
  have h1 := Dn w f n (by omega)
  have h2 := JY ts pts f.Aa (I5 ts pts f.Am f.Al f.Af f.Ap n) n
  rw [B0 w f (by omega)] at h2
  rw [mS,List.length_append,Nat.succ_mul]
  omega
theorem kJ {ts:List Int}{pts:List Pnt}(w:WG ts pts) (f:Flows ts pts):f.iss.length ≤ 100000:=by
 have h := Dn w f pts.length (Nat.le_refl _)
 have h1 := w.tl
 have h2 := w.pl
 have h3 : pts.length * (ts.length + pts.length) ≤ 61 * 67 := Nat.mul_le_mul (by omega) (by omega)
 exact Nat.le_trans h (Nat.le_trans h3 (by decide))
end Go.AL
namespace Go.AL
theorem kP {A n:Nat}(hv:∀ v,A.testBit v = true → v < n):A < 2 ^ n := Nat.lt_pow_two_of_testBit _ fun v h => by
 cases hq : Nat.testBit _ v with
 | false => rfl
 | true => have := hv v hq;omega
theorem mT {A n:Nat}(hn:n ≤ 62) (hv:A < 2 ^ n):Sm A := ⟨Nat.lt_of_lt_of_le hv (Nat.pow_le_pow_right (by decide) hn)⟩
structure FB (ts : List Int) (pts : List Pnt) (f : Flows ts pts) : Prop where
 la : f.Aa.length = pts.length
 lm : f.Am.length = pts.length
 ln : f.An.length = pts.length
 ll : f.Al.length = pts.length
 lp : f.Ap.length = pts.length
 bA : ∀ i : Nat,f.Aa[i]! < 2 ^ ts.length
 bM : ∀ i : Nat,f.Am[i]! < 2 ^ ts.length
 bN : ∀ i : Nat,f.An[i]! < 2 ^ ts.length
 bL : ∀ i : Nat,f.Al[i]! < 2 ^ ts.length
 bP : ∀ i : Nat,f.Ap[i]! < 2 ^ pts.length
 sA : ∀ i : Nat,Sm f.Aa[i]!
 sM : ∀ i : Nat,Sm f.Am[i]!
 sN : ∀ i : Nat,Sm f.An[i]!
 sL : ∀ i : Nat,Sm f.Al[i]!
 sP : ∀ i : Nat,Sm f.Ap[i]!
 rl : ∀ i,i < pts.length → (cY f.Af i).length = 6
 rs : ∀ i,i < pts.length → ∀ z : Nat,Sm (cY f.Af i)[z]!
 af : ∀ i,i < pts.length → Ka pts f.An i = f.Al[i]!
 kp : ∀ i,i < pts.length → zC ts pts[i]! f.Al[i]! (cY f.Af i) < 2 ^ pts.length
 lo : ∀ i,i < pts.length → zC ts pts[i]! f.Al[i]! (cY f.Af i) &&& f.Ap[i]! < 2 ^ pts.length
 cf : ∀ i,i < pts.length → JL ts pts f.Am f.Al f.Af f.Ap i < 2 ^ pts.length
theorem Flows.bnd {ts:List Int}{pts:List Pnt}(f:Flows ts pts) (w:WG ts pts):FB ts pts f:=by
 have hpl := w.pl
 have htl := w.tl
 have off : ∀ {A : List Nat} {n : Nat} {i : Nat}, A.length = pts.length → ¬ i < pts.length → A[i]! < 2 ^ n := fun {A n i} h hi => by
  rw [getElem!_neg A i (by omega)]; exact Nat.pow_pos (by decide)
 have bA : ∀ i : Nat, f.Aa[i]! < 2 ^ ts.length := fun i => by
  by_cases hi : i < pts.length
  ·exact kP fun v hv => ((f.ga.2 i hi v).1 hv).1
  ·exact off f.ga.1 hi
 have bM : ∀ i : Nat, f.Am[i]! < 2 ^ ts.length := fun i => by
  by_cases hi : i < pts.length
  ·exact kP fun v hv => GX w ((f.gm.2 i hi v).1 hv)
  ·exact off f.gm.1 hi
 have bN : ∀ i : Nat, f.An[i]! < 2 ^ ts.length := fun i => by
  by_cases hi : i < pts.length
  ·exact kP fun v hv => tA w ((f.gn.2 i hi v).1 hv)
  ·exact off f.gn.1 hi
 have bL : ∀ i : Nat, f.Al[i]! < 2 ^ ts.length := fun i => by
  by_cases hi : i < pts.length
  ·exact kP fun v hv => by obtain ⟨k,_,h⟩ := (f.gl.2 i hi v).1 hv;exact tA w h
  ·exact off f.gl.1 hi
 have bP : ∀ i : Nat, f.Ap[i]! < 2 ^ pts.length := fun i => by
  by_cases hi : i < pts.length
  ·exact kP fun v hv => (tM ((f.gp.2 i hi v).1 hv)).1
  ·exact off f.gp.1 hi
 have rs : ∀ i, i < pts.length → ∀ z : Nat, (cY f.Af i)[z]! < 2 ^ pts.length := fun i hi z => by
  by_cases hz : z < 6
  ·rw [eY f.gf.1 hi hz]
   exact kP fun v hv => (Dz w ((f.gf.2 i z hi hz v).1 hv)).2.2
  ·rw [getElem!_neg _ z (by rw [fL f.gf.1 hi]; exact hz)]; exact Nat.pow_pos (by decide)
 have kp : ∀ i, i < pts.length → zC ts pts[i]! f.Al[i]! (cY f.Af i) < 2 ^ pts.length := fun i hi => kP fun v hv => by
  unfold zC at hv
  rw [jJ] at hv
  rcases hv with hv | ⟨z,hz,hv⟩
  ·simp at hv
  ·exact cO (rs i hi _) hv
 have lo : ∀ i,i < pts.length → zC ts pts[i]! f.Al[i]! (cY f.Af i) &&& f.Ap[i]! < 2 ^ pts.length := fun i hi => Nat.and_lt_two_pow _ (bP i)
 refine ⟨f.ga.1, f.gm.1, f.gn.1, f.gl.1, f.gp.1, bA, bM, bN, bL, bP, fun i => mT (by omega) (bA i), fun i => mT (by omega) (bM i), fun i => mT (by omega) (bN i), fun i => mT (by omega) (bL i), fun i => mT (by omega) (bP i),
  fun i hi => fL f.gf.1 hi,fun i hi z => mT (by omega) (rs i hi z),fun i hi => ?_,kp,lo,fun i hi => Cw w (bP i)⟩
 rw [vL f.gl (Bu w f.gn),bF _ _ _ hi]
end Go.AL
namespace Go.AL
def Wy (pts : List Pnt) (a b : Nat) : Prop := Clo (fun b => cE pts a b) (fun b c => cE pts b c) b
structure GoodR (pts : List Pnt) (a : Nat) (F : List Bool) : Prop where
 l : F.length = pts.length
 g : ∀ i,i < pts.length → (F[i]! = true ↔ Wy pts a i)
theorem GoodR.exist (pts:List Pnt) (a:Nat):∃ F,GoodR pts a F :=
 ⟨(List.range pts.length).map (fun i => @decide (Wy pts a i) (Classical.propDecidable _)),by simp,fun i hi => by rw [aS _ i (by simpa using hi)]; simp⟩
theorem Wy.lt {pts:List Pnt}{a b:Nat}(w:∀ i,i < pts.length → ∀ k ∈ pts[i]!.next,0 ≤ k ∧ k < pts.length) (h:Wy pts a b):b < pts.length:=by
 cases h with
 | base e => have := w _ e.1 _ e.2;omega
 | step _ e => have := w _ e.1 _ e.2;omega
def gW (E : List (Nat × Nat)) (k : Nat) : Int := match E.find? (fun e => e.1 == k) with | some e => (e.2 : Int) | none => -1
def uJ (n : Nat) (E : List (Nat × Nat)) : List Int := (List.range n).map (gW E)
def FN (E : List (Nat × Nat)) (a k : Nat) : List (Nat × Nat) := if gW E k < 0 then E ++ [(k,a)] else E
def iY (E : List (Nat × Nat)) (a : Nat) (ks : List Int) : List (Nat × Nat) := ks.foldl (fun E k => FN E a k.toNat) E
def kA (f : Nat) (E : List (Nat × Nat)) : List Nat := f :: E.map (·.1)
def jQ (pts : List Pnt) (f : Nat) : Nat → List (Nat × Nat)
 | 0 => []
 | h + 1 => if h < (kA f (jQ pts f h)).length then iY (jQ pts f h) (kA f (jQ pts f h))[h]! pts[(kA f (jQ pts f h))[h]!]!.next else jQ pts f h
def fE (f : Nat) (E : List (Nat × Nat)) (h : Nat) : List Int := ((kA f E).drop h).map (fun (k : Nat) => (k : Int))
theorem fY (n:Nat) (E:List (Nat × Nat)):(uJ n E).length = n := by unfold uJ;simp
theorem gQ {n:Nat}{E:List (Nat × Nat)}{k:Nat}(h:k < n):(uJ n E)[k]! = gW E k := by unfold uJ;rw [aS _ k (by simpa using h)]; simp
theorem eH {E:List (Nat × Nat)}{k:Nat}:0 ≤ gW E k ↔ k ∈ E.map (·.1):=by
 unfold gW
 cases h : E.find? (fun e => e.1 == k) with
 | none =>
  rw [List.find?_eq_none] at h
  simp only [List.mem_map]
  constructor
  ·intro h;exact absurd h (by decide)
  ·rintro ⟨e,he,rfl⟩; exact absurd (h e he) (by simp)
 | some e =>
  have h1 := List.find?_some h
  have h2 := List.mem_of_find?_eq_some h
  simp only [beq_iff_eq] at h1
  exact ⟨fun _ => List.mem_map.2 ⟨e,h2,h1⟩,fun _ => by dsimp only;omega⟩
theorem wT {E:List (Nat × Nat)}{k a j:Nat}(h:gW E k < 0):gW (E ++ [(k,a)]) j = if j = k then (a:Int) else gW E j:=by
 have hk := mt eH.2 (by omega : ¬ 0 ≤ gW E k)
 unfold gW
 rw [List.find?_append]
 by_cases e : j = k
 ·subst e
  rw [if_pos rfl]
  have : E.find? (fun e => e.1 == j) = none := by
   rw [List.find?_eq_none]; intro e he h2;simp only [beq_iff_eq] at h2;exact hk (List.mem_map.2 ⟨e,he,h2⟩)
  rw [this]; simp
 ·rw [if_neg e]
  cases h2 : E.find? (fun e => e.1 == j) with
  | none => simp [show ¬ k = j by omega]
  | some e => rfl
theorem w7 {n:Nat}{E:List (Nat × Nat)}{k a:Nat}(h:gW E k < 0) (hk:k < n):(uJ n E).set k (a:Int) = uJ n (E ++ [(k,a)]):=by
 apply bG
 ·simp [fY]
 ·intro i hi
  rw [List.length_set,fY] at hi
  rw [aQ,gQ hi,gQ hi,wT h]
  by_cases e : i = k
  ·subst e;rw [if_pos ⟨rfl,by rw [fY]; exact hi⟩,if_pos rfl]
  ·rw [if_neg (by omega),if_neg e]
structure BI (pts : List Pnt) (f : Nat) (E : List (Nat × Nat)) : Prop where
 nd : (E.map (·.1)).Nodup
 ed : ∀ e ∈ E,cE pts e.2 e.1
 pr : ∀ D R e,E = D ++ e :: R → e.2 = f ∨ e.2 ∈ D.map (·.1)
theorem BI.nil (pts:List Pnt) (f:Nat):BI pts f [] := ⟨by simp,by simp,fun D R e h => by simp at h⟩
theorem BI.add {pts:List Pnt}{f:Nat}{E:List (Nat × Nat)}{a k:Nat}(I:BI pts f E) (ha:a = f ∨ a ∈ E.map (·.1)) (e:cE pts a k):BI pts f (FN E a k):=by
 unfold FN
 split
 ·rename_i h
  have hk := mt eH.2 (by omega : ¬ 0 ≤ gW E k)
  refine ⟨?_,?_,?_⟩
  ·rw [List.map_append, List.nodup_append]
   refine ⟨I.nd,by simp,?_⟩
   intro x hx y hy;simp only [List.map_cons,List.map_nil,List.mem_singleton] at hy
   rintro rfl;subst hy;exact hk hx
  ·intro x hx
   rw [List.mem_append,List.mem_singleton] at hx
   rcases hx with hx|rfl
   ·exact I.ed x hx
   ·exact e
  ·intro D R x hx
   rcases List.eq_nil_or_concat R with rfl | ⟨R',y,rfl⟩
   ·have := List.append_inj' hx rfl
    obtain ⟨rfl,h2⟩ := this
    cases h2;exact ha
   ·rw [List.concat_eq_append, ← List.cons_append, ← List.append_assoc] at hx
    obtain ⟨h1,h2⟩ := List.append_inj' hx rfl
    exact I.pr D R' x h1
 ·exact I
theorem CW (E:List (Nat × Nat)) (a k:Nat):E <+: FN E a k:=by
 unfold FN;split
 ·exact List.prefix_append _ _
 ·exact List.prefix_refl _
theorem KN (E:List (Nat × Nat)) (a k:Nat):k ∈ (FN E a k).map (·.1):=by
 unfold FN;split
 ·simp
 ·exact eH.1 (by omega)
theorem gU (a:Nat):∀ (ks:List Int) (E:List (Nat × Nat)),E <+: iY E a ks
 | [],E => List.prefix_refl _
 | k :: ks,E => (CW E a k.toNat).trans (gU a ks _)
theorem yT {α β:Type}{f:α → β}{A B:List α}(h:A <+: B){x:β}(hx:x ∈ A.map f):x ∈ B.map f:=by
 obtain ⟨C,rfl⟩ := h;rw [List.map_append]; exact List.mem_append_left _ hx
theorem Ag (a:Nat):∀ (ks:List Int) (E:List (Nat × Nat)) (k:Int),k ∈ ks → k.toNat ∈ (iY E a ks).map (·.1)
 | x :: ks, E, k, h => by
  rcases List.mem_cons.1 h with rfl|h
  ·exact yT (gU a ks _) (KN E a k.toNat)
  ·exact Ag a ks _ k h
theorem xV {pts:List Pnt}{f a:Nat}:∀ (ks:List Int) (E:List (Nat × Nat)),BI pts f E → (a = f ∨ a ∈ E.map (·.1)) → (∀ k ∈ ks,cE pts a k.toNat) → BI pts f (iY E a ks)
 | [],E,I,_,_ => I
 | k :: ks,E,I,ha,hk => xV ks _ (I.add ha (hk k (List.mem_cons_self))) (ha.imp id (yT (CW E a k.toNat))) (fun x hx => hk x (List.mem_cons_of_mem _ hx))
theorem vV (E:List (Nat × Nat)) (a:Nat) (L:List Int) (k:Nat) (h:k < L.length):iY E a (L.take (k + 1)) = FN (iY E a (L.take k)) a L[k]!.toNat := dG _ _ _ _ h
theorem CJ {f:Nat}{E:List (Nat × Nat)}{h:Nat}(hh:h < (kA f E).length):(kA f E)[h]! = f ∨ (kA f E)[h]! ∈ E.map (·.1):=by
 have := aN _ h hh
 unfold kA at this ⊢
 exact List.mem_cons.1 this
theorem Lt:∀ (n:Nat) (l:List Nat),l.Nodup → (∀ x ∈ l,x < n) → l.length ≤ n
 | 0,l,_,h => by cases l with|nil => exact Nat.le_refl _|cons a l => exact absurd (h a (by simp)) (by omega)
 | n + 1, l, nd, h => by
  have := Lt n (l.erase n) (nd.erase n) (fun x hx => by
   have h1 := (nd.mem_erase_iff).1 hx;have h2 := h x h1.2;omega)
  rw [List.length_erase] at this
  split at this <;> omega
theorem BI.le {pts:List Pnt}{f:Nat}{E:List (Nat × Nat)}(I:BI pts f E) (w:∀ i,i < pts.length → ∀ k ∈ pts[i]!.next,0 ≤ k ∧ k < pts.length):E.length ≤ pts.length ∧ (∀ e ∈ E,e.1 < pts.length ∧ e.2 < pts.length):=by
 have h1 : ∀ e ∈ E, e.1 < pts.length ∧ e.2 < pts.length := fun e he => by
  have := I.ed e he;have h2 := w _ this.1 _ this.2;exact ⟨by omega,this.1⟩
 refine ⟨?_,h1⟩
 have h2 := Lt pts.length _ I.nd (fun x hx => by obtain ⟨e,he,rfl⟩ := List.mem_map.1 hx;exact (h1 e he).1)
 simpa using h2
theorem nI {pts:List Pnt}{f:Nat}(w:∀ i,i < pts.length → ∀ k ∈ pts[i]!.next,0 ≤ k ∧ k < pts.length) (hf:f < pts.length):∀ h,BI pts f (jQ pts f h)
 | 0 => BI.nil pts f
 | h + 1 => by
  have I := nI w hf h
  rw [jQ]
  split
  ·rename_i hh
   have hq := CJ hh
   have hl : (kA f (jQ pts f h))[h]! < pts.length := by
    rcases hq with e|e
    ·rw [e]; exact hf
    ·obtain ⟨x,hx,e⟩ := List.mem_map.1 e;rw [← e]; exact ((I.le w).2 x hx).1
   exact xV _ _ I hq (fun k hk => ⟨hl,by have := w _ hl k hk;rw [Int.toNat_of_nonneg this.1]; exact hk⟩)
  ·exact I
theorem uG (pts:List Pnt) (f h:Nat):jQ pts f h <+: jQ pts f (h + 1):=by
 rw [jQ]; split
 ·exact gU _ _ _
 ·exact List.prefix_refl _
theorem DB (pts:List Pnt) (f h:Nat):∀ d,jQ pts f h <+: jQ pts f (h + d)
 | 0 => List.prefix_refl _
 | d + 1 => (DB pts f h d).trans (uG pts f (h + d))
theorem tT {pts:List Pnt}{f h:Nat}(hh:(kA f (jQ pts f h)).length ≤ h):∀ d,jQ pts f (h + d) = jQ pts f h
 | 0 => rfl
 | d + 1 => by
  show jQ pts f (h + d + 1) = _
  rw [jQ,tT hh d,if_neg (by omega)]
def mF (pts : List Pnt) (f : Nat) : List (Nat × Nat) := jQ pts f (pts.length + 1)
theorem fQ (f:Nat) (E:List (Nat × Nat)):(kA f E).length = E.length + 1 := by unfold kA;simp
theorem DR {pts:List Pnt}{f h:Nat}(w:∀ i,i < pts.length → ∀ k ∈ pts[i]!.next,0 ≤ k ∧ k < pts.length) (hf:f < pts.length) (hh:(kA f (jQ pts f h)).length ≤ h):jQ pts f h = mF pts f:=by
 unfold mF
 have h1 := ((nI w hf (pts.length + 1)).le w).1
 rcases Nat.le_total h (pts.length + 1) with hl|hl
 ·obtain ⟨d, e⟩ : ∃ d, pts.length + 1 = h + d := ⟨pts.length + 1 - h, by omega⟩
  rw [e,tT hh]
 ·obtain ⟨d, rfl⟩ : ∃ d, h = pts.length + 1 + d := ⟨h - (pts.length + 1), by omega⟩
  exact tT (by rw [fQ]; omega) d
theorem DG {pts:List Pnt}{f h:Nat}(hl:h ≤ pts.length + 1):jQ pts f h <+: mF pts f:=by
 unfold mF
 obtain ⟨d,e⟩ : ∃ d,pts.length + 1 = h + d := ⟨pts.length + 1 - h,by omega⟩
 rw [e]; exact DB pts f h d
theorem Cy {pts:List Pnt}{f:Nat}:∀ h j,j < h → j < (kA f (jQ pts f h)).length → ∀ k ∈ pts[(kA f (jQ pts f h))[j]!]!.next,k.toNat ∈ (jQ pts f h).map (·.1)
 | 0,j,h,_ => by omega
 | h + 1, j, hj, hl => by
  have key : ∀ i, i < (kA f (jQ pts f h)).length → (kA f (jQ pts f (h + 1)))[i]! = (kA f (jQ pts f h))[i]! := fun i hi => by
   obtain ⟨D,e⟩ := uG pts f h
   have : kA f (jQ pts f (h + 1)) = kA f (jQ pts f h) ++ D.map (·.1) := by unfold kA;rw [← e]; simp
   rw [this,eZ,if_pos hi]
  by_cases hh : h < (kA f (jQ pts f h)).length
  ·by_cases e : j = h
   ·subst e
    intro k hk
    rw [key j hh] at hk
    rw [jQ,if_pos hh]
    exact Ag _ _ _ k hk
   ·intro k hk
    rw [key j (by omega)] at hk
    exact yT (uG pts f h) (Cy h j (by omega) (by omega) k hk)
  ·rw [jQ, if_neg hh] at hl ⊢
   exact Cy h j (by omega) hl
theorem HS {pts:List Pnt}{f:Nat}(w:∀ i,i < pts.length → ∀ k ∈ pts[i]!.next,0 ≤ k ∧ k < pts.length) (hf:f < pts.length) (x:Nat) (hx:x = f ∨ x ∈ (mF pts f).map (·.1)) (k:Int) (hk:k ∈ pts[x]!.next):k.toNat ∈ (mF pts f).map (·.1):=by
 have h1 := ((nI w hf (pts.length + 1)).le w).1
 have hm : x ∈ kA f (mF pts f) := by unfold kA;rw [List.mem_cons]; exact hx
 obtain ⟨j,hj,e⟩ := List.getElem_of_mem hm
 have hjl : j < pts.length + 1 := by rw [fQ] at hj;unfold mF at hj;omega
 have e2 : (kA f (mF pts f))[j]! = x := by rw [aS _ j hj]; exact e
 refine Cy (pts.length + 1) j hjl hj k ?_
 show k ∈ pts[(kA f (mF pts f))[j]!]!.next
 rw [e2]; exact hk
theorem BI.wy {pts:List Pnt}{f:Nat}{E:List (Nat × Nat)}(I:BI pts f E):∀ n D R e,E = D ++ e :: R → D.length ≤ n → Wy pts f e.1
 | n, D, R, e, h, hn => by
  have he := I.ed e (by rw [h]; simp)
  rcases I.pr D R e h with h2|h2
  ·rw [h2] at he;exact .base he
  ·obtain ⟨x, hx, h3⟩ := List.mem_map.1 h2
   obtain ⟨D1,D2,rfl⟩ := List.append_of_mem hx
   cases n with
   | zero => simp at hn
   | succ n =>
    have := I.wy n D1 (D2 ++ e :: R) x (by rw [h]; simp) (by simp at hn;omega)
    rw [← h3] at he
    exact .step this he
theorem fP {pts:List Pnt}{f:Nat}(w:∀ i,i < pts.length → ∀ k ∈ pts[i]!.next,0 ≤ k ∧ k < pts.length) (hf:f < pts.length) (k:Nat):0 ≤ gW (mF pts f) k ↔ Wy pts f k:=by
 rw [eH]
 constructor
 ·intro h
  obtain ⟨x,hx,rfl⟩ := List.mem_map.1 h
  obtain ⟨D1,D2,e⟩ := List.append_of_mem hx
  exact (nI w hf (pts.length + 1)).wy _ D1 D2 x e (Nat.le_refl _)
 ·intro h
  refine Clo.sub (T := fun k => k ∈ (mF pts f).map (·.1)) (fun k he => ?_) (fun a b ha he => ?_) k h
  ·have := HS w hf f (.inl rfl) _ he.2;rwa [Int.toNat_natCast] at this
  ·have := HS w hf a (.inr ha) _ he.2;rwa [Int.toNat_natCast] at this
def Bz (f : Nat) : List (Nat × Nat) → Nat → List Nat
 | [],x => [x]
 | (k,a) :: R,x => if k = x then (if a = f then [f] else Bz f R a) ++ [x] else Bz f R x
def Nq (f : Nat) (R : List (Nat × Nat)) (x : Nat) : List Nat := if x = f then [f] else Bz f R x
theorem tL (f:Nat):∀ (D R:List (Nat × Nat)) (x:Nat),x ∉ D.map (·.1) → Bz f (D ++ R) x = Bz f R x
 | [],R,x,_ => rfl
 | (k, a) :: D, R, x, h => by
  simp only [List.map_cons,List.mem_cons,not_or] at h
  rw [List.cons_append,Bz,if_neg (fun e => h.1 e.symm)]
  exact tL f D R x h.2
theorem xG {E:List (Nat × Nat)}(nd:(E.map (·.1)).Nodup){k a:Nat}(h:(k,a) ∈ E):gW E k = a:=by
 obtain ⟨D,R,rfl⟩ := List.append_of_mem h
 unfold gW
 rw [List.find?_append]
 have : D.find? (fun e => e.1 == k) = none := by
  rw [List.find?_eq_none]; intro e he h2
  simp only [beq_iff_eq] at h2
  rw [List.map_append,List.nodup_append] at nd
  exact nd.2.2 e.1 (List.mem_map.2 ⟨e,he,rfl⟩) k (by simp) h2
 rw [this]; simp
theorem mB {pts:List Pnt}{f:Nat}{E R:List (Nat × Nat)}{x:Nat}(I:BI pts f E) (hR:R <:+ E.reverse) (hx:x ∈ R.map (·.1)) :
  ∃ (a : Nat) (R' : List (Nat × Nat)),gW E x = (a : Int) ∧ R' <:+ E.reverse ∧ R'.length < R.length ∧ Bz f R x = Nq f R' a ++ [x] ∧ (a ≠ f → a ∈ R'.map (·.1)) := by
 obtain ⟨e,he,rfl⟩ := List.mem_map.1 hx
 obtain ⟨D,R',rfl⟩ := List.append_of_mem he
 obtain ⟨k,a⟩ := e
 obtain ⟨P,hP⟩ := hR
 have hE : E = R'.reverse ++ (k, a) :: (D.reverse ++ P.reverse) := by
  have := congrArg List.reverse hP
  rw [List.reverse_reverse] at this
  rw [← this]; simp
 have hnd := I.nd
 have hk : k ∉ D.map (·.1) := by
  intro h
  rw [hE,List.map_append,List.nodup_append] at hnd
  have := hnd.2.1
  simp only [List.map_cons,List.map_append,List.map_reverse,List.nodup_cons,List.mem_append,List.mem_reverse,not_or] at this
  exact this.1.1 h
 refine ⟨a,R',xG hnd (by rw [hE]; simp),⟨P ++ D ++ [(k,a)],by rw [← hP]; simp⟩,by simp;omega,?_,fun h => ?_⟩
 ·dsimp only
  rw [tL f D _ _ hk,Bz,if_pos rfl]; rfl
 ·rcases I.pr _ _ _ hE with h2 | h2
  ·exact absurd h2 h
  ·simpa using h2
theorem xP {f:Nat}{E E':List (Nat × Nat)}{x:Nat}(h:E <+: E') (nd:(E'.map (·.1)).Nodup) (hx:x ∈ E.map (·.1)):Bz f E'.reverse x = Bz f E.reverse x ∧ gW E' x = gW E x:=by
 obtain ⟨D,rfl⟩ := h
 rw [List.map_append,List.nodup_append] at nd
 constructor
 ·rw [List.reverse_append]
  refine tL f _ _ _ (fun hd => ?_)
  rw [List.map_reverse,List.mem_reverse] at hd
  exact nd.2.2 x hx x hd rfl
 ·obtain ⟨e, he, rfl⟩ := List.mem_map.1 hx
  obtain ⟨k,a⟩ := e
  rw [xG nd.1 he,xG (by rw [List.map_append,List.nodup_append]; exact nd) (List.mem_append_left _ he)]
def dP (pts : List Pnt) (f x : Nat) : List Nat := if 0 ≤ gW (mF pts f) x then Bz f (mF pts f).reverse x else []
def dS (l : List Nat) : List Int := l.map (fun (k : Nat) => (k : Int))
def jT (W : Nat → List Nat) (U : Nat → Bool) : Nat → Int × List Nat
 | 0 => (-1,[])
 | i + 1 => if U i = true ∧ W i ≠ [] ∧ ((jT W U i).1 < 0 ∨ (W i).length < (jT W U i).2.length) then ((i : Int),W i) else jT W U i
theorem oR (W:Nat → List Nat) (U:Nat → Bool):∀ i,((jT W U i).1 = -1 ∧ (jT W U i).2 = []) ∨ ∃ j,j < i ∧ (jT W U i).1 = (j:Int) ∧ U j = true ∧ (jT W U i).2 = W j ∧ W j ≠ []
 | 0 => .inl ⟨rfl,rfl⟩
 | i + 1 => by
  rw [jT]; split
  ·rename_i h;exact .inr ⟨i,by omega,rfl,h.1,rfl,h.2.1⟩
  ·rcases oR W U i with h | ⟨j, h1, h2⟩
   ·exact .inl h
   ·exact .inr ⟨j,by omega,h2⟩
def dR (ts : List Int) (pts : List Pnt) (Af : List Nat) (loan i : Nat) : Bool := (List.range ts.length).any fun v => decide (a6 ts pts[i]! v ≠ 0) && (cY Af i)[v]!.testBit loan
theorem Bk {pts:List Pnt}{f:Nat}{E:List (Nat × Nat)}(I:BI pts f E):∀ n R x,R.length ≤ n → R <:+ E.reverse → x ∈ R.map (·.1) → ∃ T,Bz f R x = f :: (T ++ [x])
 | n, R, x, hn, hR, hx => by
  obtain ⟨a,R',_,h2,h3,h4,h5⟩ := mB I hR hx
  rw [h4]
  unfold Nq
  by_cases e : a = f
  ·rw [if_pos e]; exact ⟨[],rfl⟩
  ·rw [if_neg e]
   cases n with
   | zero => omega
   | succ n =>
    obtain ⟨T,hT⟩ := Bk I n R' a (by omega) h2 (h5 e)
    rw [hT]; exact ⟨T ++ [a],by simp⟩
section
variable {pts : List Pnt} {f : Nat} (w : ∀ i,i < pts.length → ∀ k ∈ pts[i]!.next,0 ≤ k ∧ k < pts.length) (hf : f < pts.length)
include w hf
theorem oE {x:Nat}(h:0 ≤ gW (mF pts f) x):∃ T,dP pts f x = f :: (T ++ [x]):=by
 unfold dP
 rw [if_pos h]
 have I : BI pts f (mF pts f) := nI w hf _
 exact Bk I _ _ _ (Nat.le_refl _) (List.suffix_refl _) (by rw [List.map_reverse,List.mem_reverse]; exact eH.1 h)
theorem iM {x:Nat}:dP pts f x ≠ [] ↔ Wy pts f x:=by
 rw [← fP w hf]
 constructor
 ·intro h
  apply Classical.byContradiction
  intro h2;unfold dP at h;rw [if_neg h2] at h;exact h rfl
 ·intro h
  obtain ⟨T,e⟩ := oE w hf h
  rw [e]; simp
theorem MD {E:List (Nat × Nat)}{x:Nat}(hE:E <+: mF pts f) (hx:0 ≤ gW E x):dP pts f x = Bz f E.reverse x ∧ BI pts f E:=by
 have I : BI pts f (mF pts f) := nI w hf _
 have hm := eH.1 hx
 have h1 := xP (f := f) hE I.nd hm
 unfold dP
 rw [if_pos (by rw [h1.2]; exact hx)]
 refine ⟨h1.1,?_⟩
 obtain ⟨D,e⟩ := hE
 have nd := I.nd
 rw [← e,List.map_append,List.nodup_append] at nd
 refine ⟨nd.1,fun x hx => I.ed x (by rw [← e]; exact List.mem_append_left _ hx),fun D' R x h => I.pr D' (R ++ D) x (by rw [← e,h]; simp)⟩
end
end Go.AL
