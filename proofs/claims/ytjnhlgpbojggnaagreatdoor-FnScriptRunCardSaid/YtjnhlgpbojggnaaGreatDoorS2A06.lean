/-
 A part of the proofs over this program: rules and contracts of its functions (the rules).
-/
import Derived.Test.YtjnhlgpbojggnaaGreatDoorS2A05
import Derived.Laws.BytesString
import Derived.Laws.StructEq
set_option linter.unusedVariables false
set_option linter.unusedSimpArgs false
namespace Go.AL
open Go.RowKit
mutual
theorem RnV.bw {w:World}{ρ:Nat → Option Nat}{bad bad':Nat → Prop}{ι ι':Pl}(h:∀ i i',ρ i = some i' → ι i = ι' i') (hc:∀ b,bad b → bad' b):∀ {v v':AV},RnV ρ v v' → ∀ {y:Value},Rd w bad' ι' v' y → Rd w bad ι v y
 | _,_,.pur hp,y,k => Rd.pur _ y hp (Rd.carry (⟨fun b o x h1 h2 => ⟨fun q => h1 (hc b q),h2⟩,fun _ _ h => h,fun _ => Nat.le_refl _⟩ : Carry w bad' ι' w bad ι') _ _ k)
 | _,_,.own hi,y,k => by simp only [Rd,h _ _ hi] at k ⊢; exact k
 | _,_,.optr hi,y,k => by simp only [Rd,h _ _ hi] at k ⊢; exact k
 | _, _, .imm (cs := cs) (cs' := cs') hl, y, k => by
  have hlen := RnL.len hl
  simp only [Rd] at k ⊢
  obtain ⟨a,c,rfl,k⟩ := k
  refine ⟨a,c,rfl,?_⟩
  rcases k with k | ⟨b,o,hn,rfl,k⟩
  ·exact .inl k
  ·refine .inr ⟨b, o, hn, rfl, ?_⟩
   rcases k with k | ⟨hb,k⟩
   ·subst k;exact .inl (List.eq_nil_of_length_eq_zero (by rw [hlen]; rfl))
   ·exact .inr ⟨fun q => hb (hc b q),RnL.bwC h hc hl k⟩
 | _, _, .agg hl, y, k => by
  simp only [Rd] at k ⊢
  obtain ⟨l,h1,h2⟩ := k
  exact ⟨l,h1,RnL.bwL h hc hl h2⟩
 | _, _, .tup hl, y, k => by
  simp only [Rd] at k ⊢
  obtain ⟨l,h1,h2⟩ := k
  exact ⟨l,h1,RnL.bwV h hc hl h2⟩
 | _, _, .clos h1 h2, y, k => by
  simp only [Rd] at k ⊢
  obtain ⟨lf,lc,q1,q2,q3⟩ := k
  exact ⟨lf,lc,q1,RnL.bwV h hc h1 q2,RnL.bwV h hc h2 q3⟩
theorem RnL.bwL {w:World}{ρ:Nat → Option Nat}{bad bad':Nat → Prop}{ι ι':Pl}(h:∀ i i',ρ i = some i' → ι i = ι' i') (hc:∀ b,bad b → bad' b):∀ {v v':List AV},RnL ρ v v' → ∀ {y:List Value},RdL w bad' ι' v' y → RdL w bad ι v y
 | _,_,.pur hp,y,k => RdL.pur _ y hp (RdL.carry (⟨fun b o x h1 h2 => ⟨fun q => h1 (hc b q),h2⟩,fun _ _ h => h,fun _ => Nat.le_refl _⟩ : Carry w bad' ι' w bad ι') _ _ k)
 | _,_,.nil,y,k => by simpa only [RdL] using k
 | _, _, .cons h1 h2, y, k => by
  simp only [RdL] at k ⊢
  obtain ⟨x,l',q0,q1,q2,q3⟩ := k
  exact ⟨x,l',q0,q1,RnV.bw h hc h1 q2,RnL.bwL h hc h2 q3⟩
theorem RnL.bwV {w:World}{ρ:Nat → Option Nat}{bad bad':Nat → Prop}{ι ι':Pl}(h:∀ i i',ρ i = some i' → ι i = ι' i') (hc:∀ b,bad b → bad' b):∀ {v v':List AV},RnL ρ v v' → ∀ {y:List Value},RdV w bad' ι' v' y → RdV w bad ι v y
 | _,_,.pur hp,y,k => RdV.pur _ y hp (RdV.carry (⟨fun b o x h1 h2 => ⟨fun q => h1 (hc b q),h2⟩,fun _ _ h => h,fun _ => Nat.le_refl _⟩ : Carry w bad' ι' w bad ι') _ _ k)
 | _,_,.nil,y,k => by simpa only [RdV] using k
 | _, _, .cons h1 h2, y, k => by
  simp only [RdV] at k ⊢
  obtain ⟨x,l',q0,q2,q3⟩ := k
  exact ⟨x,l',q0,RnV.bw h hc h1 q2,RnL.bwV h hc h2 q3⟩
theorem RnL.bwC {w:World}{ρ:Nat → Option Nat}{bad bad':Nat → Prop}{ι ι':Pl}(h:∀ i i',ρ i = some i' → ι i = ι' i') (hc:∀ b,bad b → bad' b):∀ {v v':List AV},RnL ρ v v' → ∀ {b o:Nat},RdC w bad' ι' v' b o → RdC w bad ι v b o
 | _,_,.pur hp,b,o,k => RdC.pur _ b o hp (RdC.carryB (⟨fun b o x h1 h2 => ⟨fun q => h1 (hc b q),h2⟩,fun _ _ h => h,fun _ => Nat.le_refl _⟩ : Carry w bad' ι' w bad ι') _ _ _ (fun o x hx => hx) k)
 | _,_,.nil,b,o,k => by simp only [RdC]
 | _, _, .cons h1 h2, b, o, k => by
  simp only [RdC] at k ⊢
  obtain ⟨⟨x,q1,q2,q3⟩,q4⟩ := k
  exact ⟨⟨x,q1,q2,RnV.bw h hc h1 q3⟩,RnL.bwC h hc h2 q4⟩
end
theorem RnL.app {ρ:Nat → Option Nat}:∀ {a a' b b':List AV},RnL ρ a a' → RnL ρ b b' → RnL ρ (a ++ b) (a' ++ b')
 | [], a', b, b', ha, hb => by
  have := ha.len
  cases a' with
  | nil => exact hb
  | cons _ _ => simp at this
 | c :: cs, _, b, b', .pur hp, hb => by
  simp only [pursB,Bool.and_eq_true] at hp
  exact .cons (.pur hp.1) (RnL.app (.pur hp.2) hb)
 | c :: cs,_,b,b',.cons h1 h2,hb => .cons h1 (RnL.app h2 hb)
attribute [local irreducible] big
theorem Le.virt {ts:List (Nat × AV)}{hs:List (Nat × Option (List AV))}{n:Nat}{z0:Lo}(hn:n < big):Le ⟨ts,hs,n,z0⟩ ⟨ts,(n,some []) :: hs,n + 1,z0⟩:=by
 rintro C a w ⟨h0,ι,g,gh⟩
 obtain ⟨g1,c1⟩ := gh.virt (id := n) ⟨Nat.le_refl _,.inl hn⟩
 have e : lkH ((n,some []) :: hs) = upd (lkH hs) n (some []) := lkH_cons _ _ _
 refine ⟨h0,upd ι n (some none),?_,?_⟩
 ·show TG C _ (lk ts) (lkH ((n, some []) :: hs)) a w
  rw [e]; exact g.carry c1
 ·show HG C _ _ (lkH ((n, some []) :: hs)) w
  rw [e]
  refine (g1.less (fun _ _ h => h) (fun j hj => ?_)).1
  have h1 : n + 1 ≤ j := hj.1
  exact ⟨⟨by show n ≤ j;omega,hj.2⟩,by omega⟩
theorem Le.cellsN {ts:List (Nat × AV)}{hs:List (Nat × Option (List AV))}{n:Nat}{z0:Lo}{i q:Nat}{cs cs' cq:List AV}(hi:lkH hs i = some cs) (hq:lkH hs q = some cq) (hl:cs'.length = cs.length)
  (h : ∀ (w : World) (bad : Nat → Prop) (ι : Pl) (b β : Nat),(∃ p,ι q = some p) → RdC w bad ι cs b β → RdC w bad ι cs' b β) :
  Le ⟨ts,hs,n,z0⟩ ⟨ts,(i,some cs') :: hs,n,z0⟩ := by
 rintro C a w ⟨h0,ι,g,gh⟩
 have hqq : ∃ p, ι q = some p := by
  rcases gh.obj q cq hq with ⟨p1,_⟩ | ⟨_,_,_,_,p1,_⟩ <;> exact ⟨_,p1⟩
 have hk : ∀ id c, lkH ((i, some cs') :: hs) id = some c → (id = i ∧ c = cs') ∨ (id ≠ i ∧ lkH hs id = some c) := by
  intro id c hc
  rw [lkH_c] at hc
  split at hc
  ·rename_i e;cases hc;exact .inl ⟨e,rfl⟩
  ·rename_i e;exact .inr ⟨fun h => e h,hc⟩
 have hk2 : ∀ id c, lkH hs id = some c → ∃ c', lkH ((i, some cs') :: hs) id = some c' := by
  intro id c hc
  rw [lkH_c]
  split
  ·exact ⟨_,rfl⟩
  ·exact ⟨_,hc⟩
 have hb : badOf C.X ι (lkH ((i, some cs') :: hs)) = badOf C.X ι (lkH hs) := by
  funext b
  refine propext ⟨?_,?_⟩
  ·rintro (h | ⟨id, c, β, h1, h2⟩)
   ·exact .inl h
   ·rcases hk id c h1 with ⟨rfl, _⟩ | ⟨_, h3⟩
    ·exact .inr ⟨_,_,_,hi,h2⟩
    ·exact .inr ⟨_,_,_,h3,h2⟩
  ·rintro (h | ⟨id, c, β, h1, h2⟩)
   ·exact .inl h
   ·obtain ⟨c', h3⟩ := hk2 id c h1
    exact .inr ⟨_,_,_,h3,h2⟩
 refine ⟨h0,ι,⟨g.df,g.sz,fun t av ht => ?_⟩,?_,?_,gh.fr,gh.ex,gh.fresh⟩
 ·show ∃ y, a.tmps[t]? = some y ∧ Rd w (badOf C.X ι (lkH ((i, some cs') :: hs))) ι av y
  rw [hb]; exact g.tm t av ht
 ·intro id c hc
  show _ ∨ ∃ b β arr e,ι id = some (some (b,β)) ∧ w.heap[b]? = some (.cells arr e (0,0)) ∧ β + c.length ≤ arr.size ∧ RdC w (badOf C.X ι (lkH ((i,some cs') :: hs))) ι c b β ∧ ¬ C.X b ∧ (C.W0 b ∨ C.w0.heap.size ≤ b)
  rw [hb]
  rcases hk id c hc with ⟨rfl,rfl⟩ | ⟨_,h3⟩
  ·rcases gh.obj _ _ hi with ⟨q1, q2⟩ | ⟨b, β, arr, e, q1, q2, q3, q4, q5⟩
   ·subst q2
    exact .inl ⟨q1,List.eq_nil_of_length_eq_zero hl⟩
   ·exact .inr ⟨b,β,arr,e,q1,q2,by rw [hl]; exact q3,h _ _ _ _ _ hqq q4,q5⟩
  ·exact gh.obj _ _ h3
 ·intro id id' c c' b β β' h1 h2 h3 h4
  obtain ⟨d1, e1⟩ : ∃ d, lkH hs id = some d := by
   rcases hk id c h1 with ⟨rfl,_⟩ | ⟨_,h⟩
   ·exact ⟨_,hi⟩
   ·exact ⟨_,h⟩
  obtain ⟨d2, e2⟩ : ∃ d, lkH hs id' = some d := by
   rcases hk id' c' h2 with ⟨rfl,_⟩ | ⟨_,h⟩
   ·exact ⟨_,hi⟩
   ·exact ⟨_,h⟩
  exact gh.sep id id' d1 d2 b β β' e1 e2 h3 h4
theorem RdC_mid {w:World}{bad:Nat → Prop}{ι:Pl}{c c':AV}(hc:∀ y,Rd w bad ι c y → Rd w bad ι c' y):∀ (a:List AV) (r:List AV) (b o:Nat),RdC w bad ι (a ++ c :: r) b o → RdC w bad ι (a ++ c' :: r) b o
 | [], r, b, o, h => by
  simp only [List.nil_append,RdC] at h ⊢
  obtain ⟨⟨x,h1,h2,h3⟩,h4⟩ := h
  exact ⟨⟨x,h1,h2,hc _ h3⟩,h4⟩
 | x :: a, r, b, o, h => by
  simp only [List.cons_append,RdC] at h ⊢
  exact ⟨h.1,RdC_mid hc a r b (o + 1) h.2⟩
theorem Le.nilCell {ts:List (Nat × AV)}{hs:List (Nat × Option (List AV))}{n:Nat}{z0:Lo}{i:Nat}(e:Nat) (c1:List AV){c2:List AV}(hi:lkH hs i = some (c1 ++ .v (.slice none 0 0) :: c2)) (hin:i ≠ n) (hn:n < big) :
  Le ⟨ts,hs,n,z0⟩ ⟨ts,(i,some (c1 ++ .own n 0 0 e :: c2)) :: (n,some []) :: hs,n + 1,z0⟩ :=
 (Le.virt hn).trans (Le.cellsN (q := n) (cs := c1 ++ .v (.slice none 0 0) :: c2) (by rw [lkH_c, if_neg hin]; exact hi) (by rw [lkH_c, if_pos rfl]) (by simp) fun w bad ι b β hp hr =>
  RdC_mid (fun y hy => by simp only [Rd] at hy ⊢; exact .inl ⟨hp,trivial,none,hy⟩) c1 c2 b β hr)
theorem Le.frzC {ts:List (Nat × AV)}{hs:List (Nat × Option (List AV))}{n:Nat}{z0:Lo}{j i m e:Nat}(c1:List AV){c2 d:List AV}(hj:lkH hs j = some (c1 ++ .own i 0 m e :: c2)) (hi:lkH hs i = some d) (hij:j ≠ i) :
  Le ⟨ts,hs,n,z0⟩ ⟨ts,(j,some (c1 ++ .imm m d :: c2)) :: (i,none) :: hs,n,z0⟩ := by
 rintro C a w ⟨h0,ι,g,gh⟩
 have hk : ∀ id c, lkH ((j, some (c1 ++ .imm m d :: c2)) :: (i, none) :: hs) id = some c → (id = j ∧ c = c1 ++ .imm m d :: c2) ∨ (id ≠ j ∧ id ≠ i ∧ lkH hs id = some c) := by
  intro id c hc
  rw [lkH_c] at hc
  split at hc
  ·rename_i e;cases hc;exact .inl ⟨e,rfl⟩
  ·rename_i e
   rw [lkH_c] at hc
   split at hc
   ·cases hc
   ·rename_i e2;exact .inr ⟨e,e2,hc⟩
 have hk2 : ∀ id c, lkH ((j, some (c1 ++ .imm m d :: c2)) :: (i, none) :: hs) id = some c → id ≠ i ∧ ∃ c', lkH hs id = some c' := by
  intro id c hc
  rcases hk id c hc with ⟨rfl,_⟩ | ⟨_,h2,h3⟩
  ·exact ⟨hij,_,hj⟩
  ·exact ⟨h2,_,h3⟩
 have hbad : ∀ b, badOf C.X ι (lkH ((j, some (c1 ++ .imm m d :: c2)) :: (i, none) :: hs)) b → badOf C.X ι (lkH hs) b := by
  rintro b (h | ⟨id,c,β,h1,h2⟩)
  ·exact .inl h
  ·obtain ⟨_, c', h3⟩ := hk2 id c h1
   exact .inr ⟨id,c',β,h3,h2⟩
 have car : Carry w (badOf C.X ι (lkH hs)) ι w (badOf C.X ι (lkH ((j,some (c1 ++ .imm m d :: c2)) :: (i,none) :: hs))) ι := ⟨fun b o x h1 h2 => ⟨fun q => h1 (hbad b q),h2⟩,fun _ _ h => h,fun _ => Nat.le_refl _⟩
 have hcell : ∀ y, Rd w (badOf C.X ι (lkH ((j, some (c1 ++ .imm m d :: c2)) :: (i, none) :: hs))) ι (.own i 0 m e) y → Rd w (badOf C.X ι (lkH ((j, some (c1 ++ .imm m d :: c2)) :: (i, none) :: hs))) ι (.imm m d) y := by
  intro y hr
  simp only [Rd] at hr ⊢
  rcases hr with ⟨_,h2,a',h3⟩ | ⟨b,β,c,h1,h2,h3,h4⟩
  ·subst h2;exact ⟨a',0,h3,.inl rfl⟩
  ·refine ⟨_, c, h2, ?_⟩
   rcases Nat.eq_zero_or_pos m with h5|h5
   ·exact .inl h5
   ·refine .inr ⟨b, β + 0, h3, rfl, ?_⟩
    rcases gh.obj i d hi with ⟨q1,q2⟩ | ⟨b',β',arr,e',q1,q2,q3,q4,q5,q6⟩
    ·rw [h1] at q1;cases q1
    ·rw [h1] at q1; cases q1
     refine .inr ⟨?_,RdC.carryB car _ _ _ (fun o x hx => hx) q4⟩
     rintro (h | ⟨id',cs',β',r1,r2⟩)
     ·exact q5 h
     ·obtain ⟨r3, c', r4⟩ := hk2 id' cs' r1
      exact r3 (gh.sep _ _ _ _ _ _ _ r4 hi r2 h1)
 refine ⟨h0,ι,g.carry car,⟨fun id c hc => ?_,fun id id' c c' b β β' h1 h2 h3 h4 => ?_,gh.fr,gh.ex,gh.fresh⟩⟩
 ·rcases hk id c hc with ⟨rfl, rfl⟩ | ⟨_, _, h3⟩
  ·rcases gh.obj _ _ hj with ⟨q1, q2⟩ | ⟨b, β, arr, e, q1, q2, q3, q4, q5⟩
   ·simp at q2
   ·exact .inr ⟨b,β,arr,e,q1,q2,by simpa using q3,RdC_mid hcell c1 c2 b β (RdC.carryB car _ _ _ (fun o x hx => hx) q4),q5⟩
  ·rcases gh.obj _ _ h3 with ⟨q1, q2⟩ | ⟨b, β, arr, e, q1, q2, q3, q4, q5⟩
   ·exact .inl ⟨q1,q2⟩
   ·exact .inr ⟨b,β,arr,e,q1,q2,q3,RdC.carryB car _ _ _ (fun o x hx => hx) q4,q5⟩
 ·obtain ⟨_, d1, e1⟩ := hk2 id c h1
  obtain ⟨_,d2,e2⟩ := hk2 id' c' h2
  exact gh.sep id id' d1 d2 b β β' e1 e2 h3 h4
theorem spl_one {cs:List AV}{v:Nat}{c:AV}:spl cs (0 + v * 1) [c] = cs.take v ++ c :: cs.drop (v + 1):=by
 unfold spl;simp
structure Hy (T : Prop) : Prop where pf : T
theorem bqs:(∀ a b:Bool,((a && b) = true) = (a = true ∧ b = true)) ∧ (∀ a b:Bool,((a && b) = false) ↔ (a = false ∨ b = false)) ∧ (∀ a b:Bool,((a || b) = true) = (a = true ∨ b = true)) ∧ (∀ a b:Bool,((a || b) = false) ↔ (a = false ∧ b = false)) ∧
  (∀ (p : Prop) [Decidable p],(decide p = true) = p) ∧ (∀ (p : Prop) [Decidable p],(decide p = false) ↔ ¬ p) ∧ (∀ a : Bool,((!a) = true) ↔ a = false) ∧ (∀ a : Bool,((!a) = false) ↔ a = true) ∧ ((!true) = false) ∧ ((!false) = true) ∧ (∀ a b : Int,¬ a < b ↔ b ≤ a) ∧ (∀ a b : Int,¬ a ≤ b ↔ b < a) :=
 ⟨fun a b => Bool.and_eq_true a b,fun a b => Bool.and_eq_false_iff,fun a b => Bool.or_eq_true a b,fun a b => Bool.or_eq_false_iff,fun p _ => by simp,fun p _ => decide_eq_false_iff_not,fun a => by simp,fun a => by simp,rfl,rfl,fun _ _ => Int.not_lt,fun _ _ => Int.not_le⟩
theorem lns:(∀ {α:Type}(a b:List α),(a ++ b).length = a.length + b.length) ∧ (∀ {α:Type}(a:α) (b:List α),(a :: b).length = b.length + 1) ∧ (∀ {α:Type},([]:List α).length = 0) ∧ (∀ {α:Type}(a:List α) (i:Nat) (x:α),(a.set i x).length = a.length) ∧ (∀ {α:Type}(i:Nat) (a:List α),(a.take i).length = min i a.length) ∧
  (∀ {α β : Type} (f : α → β) (a : List α),(a.map f).length = a.length) ∧ (∀ {α : Type} (n : Nat) (a : α),(List.replicate n a).length = n) ∧ (∀ (l : List Stmt) (b : Nat),(ptL b l).length = npL l) ∧ (∀ n : Nat,n * 1 = n) ∧ (∀ n : Nat,0 + n = n) ∧ (∀ n : Nat,n + 0 = n) :=
 ⟨fun _ _ => List.length_append,fun _ _ => rfl,rfl,fun _ _ _ => List.length_set,fun _ _ => List.length_take,fun _ _ => List.length_map _,fun _ _ => List.length_replicate,ptL_len,Nat.mul_one,Nat.zero_add,Nat.add_zero⟩
theorem ex3 {α:Type}{p q r:α → Prop}(x:α) (h3:r x) (h1:p x) (h2:q x):∃ x,p x ∧ q x ∧ r x := ⟨x,h1,h2,h3⟩
theorem stpL {G K:Prop}(k:K) (h:Hy K → G := by first|(intro k;(first|((with_reducible apply rx_loadFj);(case hx => rfl);(case hH => rfl);(case hf => infer_instance);(case hg => infer_instance);(case hα => infer_instance);(case hk => omega);(case hc => rfl);(case hN => rfl)) | ((with_reducible apply rx_loadF0);(case hx => rfl);(case hH => rfl);(case hf => infer_instance);(case hg => infer_instance);(case hα => infer_instance);(case hk => omega);(case hc => rfl);(case hN => rfl)) | ((with_reducible apply rx_loadFA);(case hx => rfl);(case hH => rfl);(case hf => infer_instance);(case hg => infer_instance);(case hα => infer_instance);(case hk => omega);(case h0 => rfl);(case hN => rfl)) | ((with_reducible apply rx_load1);(case hx => rfl);(case hd => rfl);(case hc => rfl);(case hN => rfl)) | ((with_reducible apply rx_loadA);(case hx => rfl);(case hd => rfl);(case hc => (first|exact (rfl:_ = [_]) | exact (rfl:_ = [_,_]) | exact (rfl:_ = [_,_,_]) | exact (rfl:_ = [_,_,_,_]) | exact (rfl:_ = [_,_,_,_,_]) | exact (rfl:_ = [_,_,_,_,_,_]) | exact (rfl:_ = [_,_,_,_,_,_,_]) | exact (rfl:_ = [_,_,_,_,_,_,_,_]) | rfl));(case hn => rfl);(case h0 => rfl);(case hN => rfl)) );exact k.pf) | fail):G := h ⟨k⟩
theorem stpG {G K:Prop}(k:K) (h:Hy K → G := by first|(intro k;(first|((with_reducible apply rx_guardU);(case hj => rfl);(case hb => rfl);(case hN => rfl)) | ((with_reducible apply rx_guardY);(case hj => rfl);(case hb => rfl);(case hN => rfl);(case hw => first|rfl | assumption)) | ((with_reducible apply rx_guardNs);(case hj => rfl);(case hb => rfl);(case hN => rfl);(case hw => first|rfl | assumption)) );exact k.pf) | fail):G := h ⟨k⟩
theorem stpB {G K:Prop}(k:K) (h:Hy K → G := by first|(intro k;(first  | ((with_reducible apply rx_orN);(case hx => rfl);(case hy => rfl);(case hk => infer_instance);(case ha => infer_instance);(case hb => infer_instance);(case hN => rfl)) | ((with_reducible apply rx_and1);(case hx => rfl);(case hy => rfl);(case hk => infer_instance);(case ha => infer_instance);(case hN => rfl))  | ((with_reducible apply rx_shrN);(case hx => rfl);(case hy => rfl);(case hk => infer_instance);(case ha => infer_instance);(case h => omega);(case hN => rfl)) | ((with_reducible apply rx_add);(case hx => rfl);(case hy => rfl);(case h => omega);(case hN => rfl)) | ((with_reducible apply rx_sub);(case hx => rfl);(case hy => rfl);(case h => omega);(case hN => rfl)) | ((with_reducible apply rx_xor);(case hx => rfl);(case hy => rfl);(case h => omega);(case h' => omega);(case hN => rfl))  | ((with_reducible apply rx_mul);(case hx => rfl);(case hy => rfl);(case h => omega);(case hN => rfl)) | ((with_reducible apply rx_rem);(case hx => rfl);(case hy => rfl);(case h => omega);(case hN => rfl)) | ((with_reducible apply rx_quo);(case hx => rfl);(case hy => rfl);(case h => omega);(case hN => rfl)) | ((with_reducible apply rx_bin);(case hx => rfl);(case hy => rfl);(case h => rfl);(case hN => rfl)));exact k.pf) | fail):G := h ⟨k⟩
theorem stpI {G K:Prop}(k:K) (h:Hy K → G := by first|(intro k;(first|((with_reducible apply rx_indexFN);(case hx => rfl);(case hi => rfl);(case hm => (first|assumption | omega));(case hml => (first|rfl|assumption|omega));(case hα => infer_instance);(case hf => infer_instance);(case hg => infer_instance);(case hN => rfl)) | ((with_reducible apply rx_indexON);(case hx => rfl);(case hi => rfl);(case hm => (first|assumption | omega));(case hN => rfl)) | ((with_reducible apply rx_indexF);(case hx => rfl);(case hi => rfl);(case hm => (first|assumption | omega | exact ⟨Int.emod_nonneg _ (by omega),Int.emod_lt_of_pos _ (by omega)⟩));(case hml => (first|rfl|assumption|omega));(case hα => infer_instance);(case hf => infer_instance);(case hg => infer_instance);(case hN => rfl)) | ((with_reducible apply rx_indexO);(case hx => rfl);(case hi => rfl);(case hm => (first|assumption | omega | exact ⟨Int.emod_nonneg _ (by omega),Int.emod_lt_of_pos _ (by omega)⟩));(case hN => rfl)) );exact k.pf) | fail):G := h ⟨k⟩
theorem stpA {G K:Prop}(k:K) (h:Hy K → G := by first|(intro k;(first|((with_reducible apply rx_len);(case hx => rfl);(case hn => rfl);(case hN => rfl)) | ((with_reducible apply rx_lenS);(case hx => rfl);(case hN => rfl)) | ((with_reducible apply rx_append);(case hx => rfl);(case hy => rfl);(case hze => rfl);(case he0 => rfl);(case hH => rfl);(case hl => first|(rw [flat_length]; omega) | (rw [flat_length]; simp only [lns] <;> omega) | (simp [flat_length]; done) | decide | (simp;omega));(case hs' => first|rfl | exact sC_imm (by (first|rfl | assumption | omega)));(case hbig => omega);(case hmx => omega);(case hcs => first|exact app_stmt (by (first|assumption | omega | (simp only [lns] <;> omega) | decide)) | exact app_nilF (by (first|assumption | omega | (simp only [lns] <;> omega) | decide))  | exact app_pnt1 (by (first|assumption | omega | (simp only [lns] <;> omega) | decide)) | exact app_pnt0 (by (first|assumption | omega | (simp only [lns] <;> omega) | decide)) | exact app_int (by (first|assumption | omega | (simp only [lns] <;> omega) | decide))    | exact (rfl:_ = [_]) | exact (rfl:_ = [_,_]) | exact (rfl:_ = [_,_,_]) | exact (rfl:_ = [_,_,_,_]) | exact (rfl:_ = [_,_,_,_,_]) | exact (rfl:_ = [_,_,_,_,_,_]) | exact (rfl:_ = [_,_,_,_,_,_,_]) | exact (rfl:_ = [_,_,_,_,_,_,_,_]) | rfl);(case hM => rfl);(case hN => rfl)));exact k.pf) | fail):G := h ⟨k⟩
theorem stpK {G K:Prop}(k:K) (h:Hy K → G := by first|(intro k;(first|((with_reducible apply rx_buildK);(case hl => rfl);(case hf => (first|exact (rfl:_ = some [_]) | exact (rfl:_ = some [_,_]) | exact (rfl:_ = some [_,_,_]) | exact (rfl:_ = some [_,_,_,_]) | exact (rfl:_ = some [_,_,_,_,_]) | exact (rfl:_ = some [_,_,_,_,_,_]) | exact (rfl:_ = some [_,_,_,_,_,_,_]) | exact (rfl:_ = some [_,_,_,_,_,_,_,_]) | rfl));(case hk => (first|exact (rfl:_ = [_]) | exact (rfl:_ = [_,_]) | exact (rfl:_ = [_,_,_]) | exact (rfl:_ = [_,_,_,_]) | exact (rfl:_ = [_,_,_,_,_]) | exact (rfl:_ = [_,_,_,_,_,_]) | exact (rfl:_ = [_,_,_,_,_,_,_]) | exact (rfl:_ = [_,_,_,_,_,_,_,_]) | rfl));(case hN => rfl)) | ((with_reducible apply rx_build);(case hl => rfl);(case hf => (first|exact (rfl:_ = some [_]) | exact (rfl:_ = some [_,_]) | exact (rfl:_ = some [_,_,_]) | exact (rfl:_ = some [_,_,_,_]) | exact (rfl:_ = some [_,_,_,_,_]) | exact (rfl:_ = some [_,_,_,_,_,_]) | exact (rfl:_ = some [_,_,_,_,_,_,_]) | exact (rfl:_ = some [_,_,_,_,_,_,_,_]) | rfl));(case hN => rfl)));exact k.pf) | fail):G := h ⟨k⟩
theorem stpM {G K:Prop}(k:K) (h:Hy K → G := by first|(intro k;(first|((with_reducible apply rx_buildSlice);(case hze => rfl);(case hsm => rfl);(case hl => rfl);(case hfl => (first|exact (rfl:_ = some [_]) | exact (rfl:_ = some [_,_]) | exact (rfl:_ = some [_,_,_]) | exact (rfl:_ = some [_,_,_,_]) | exact (rfl:_ = some [_,_,_,_,_]) | exact (rfl:_ = some [_,_,_,_,_,_]) | exact (rfl:_ = some [_,_,_,_,_,_,_]) | exact (rfl:_ = some [_,_,_,_,_,_,_,_]) | rfl));(case hM => rfl);(case hN => rfl)) | ((with_reducible apply rx_makeSliceE);(case hx => rfl);(case hy => rfl);(case hze => rfl);(case hsm => omega);(case hmx => omega);(case hcs => first|exact mk_nat | exact mk_natW | exact mk_natW6 | exact mk_bool | rfl);(case hM => rfl);(case hN => rfl)));exact k.pf) | fail):G := h ⟨k⟩
theorem stpS {G K:Prop}(k:K) (h:Hy K → G := by first|(intro k;(first|((with_reducible apply rx_store);(case hx => rfl);(case hy => rfl);(case hc => rfl);(case hn => rfl);(case hH => rfl);(case hl => (first|decide|(rw [flat_length]; simp only [lns] <;> omega)|omega|(simp;done)|(simp;omega)));(case hcs => first|exact st_sop (by (first|assumption | omega | (simp only [lns] <;> omega) | decide)) | exact st_sx (by (first|assumption | omega | (simp only [lns] <;> omega) | decide)) | exact st_sy (by (first|assumption | omega | (simp only [lns] <;> omega) | decide)) | exact st_sn (by (first|assumption | omega | (simp only [lns] <;> omega) | decide))  | exact st_next1 (by (first|assumption | omega | (simp only [lns] <;> omega) | decide)) | exact st_next2 (by (first|assumption | omega | (simp only [lns] <;> omega) | decide))        | exact (rfl:_ = [_]) | exact (rfl:_ = [_,_]) | exact (rfl:_ = [_,_,_]) | exact (rfl:_ = [_,_,_,_]) | exact (rfl:_ = [_,_,_,_,_]) | exact (rfl:_ = [_,_,_,_,_,_]) | exact (rfl:_ = [_,_,_,_,_,_,_]) | exact (rfl:_ = [_,_,_,_,_,_,_,_]) | rfl)) );exact k.pf) | fail):G := h ⟨k⟩
theorem stp1 {G K:Prop}(k:K) (h:Hy K → G := by first|(intro k;(first|((with_reducible apply id_rw);first|((with_reducible apply rx_move);(case hx => rfl);(case hN => rfl)) | ((with_reducible apply id_load);refine stpL ?_) | ((with_reducible apply rx_fieldAddr);(case hx => rfl);(case hp => rfl);(case hN => rfl)) | ((with_reducible apply id_g);refine stpG ?_) | ((with_reducible apply id_bin);refine stpB ?_) | ((with_reducible apply rx_assign);(case hx => rfl);(case hN => rfl)) | ((with_reducible apply id_pick);first|((with_reducible apply rx_pickT);(case hc => rfl);(case hb => first|rfl | assumption);(case hx => rfl);(case hN => rfl)) | ((with_reducible apply rx_pickF);(case hc => rfl);(case hb => first|rfl | assumption);(case hx => rfl);(case hN => rfl))) | ((with_reducible apply id_idx);refine stpI ?_) | ((with_reducible apply id_bi);refine stpA ?_) | ((with_reducible apply rw_nil);(case hf => kernel_rfl)) | ((with_reducible apply id_conv);first|((with_reducible apply rx_conv64);(case hx => rfl);(case h => first|exact cU_bd _ | omega);(case hN => rfl)) ) | ((with_reducible apply id_bld);refine stpK ?_) | ((with_reducible apply id_sli);first|((with_reducible apply rx_sliceF);(case hx => rfl);(case hf => infer_instance);(case hl => rfl);(case hh => rfl);(case hb => first|omega | (simp only [List.length_take,List.length_drop,Int.toNat_natCast]; omega));(case hN => rfl))) | ((with_reducible apply rx_makeFunc);(case hf => rfl);(case hc => rfl);(case hN => rfl)) | ((with_reducible apply rx_not);(case hx => rfl);(case hN => rfl)) | ((with_reducible apply rx_nil);(case hx => rfl);(case hp => rfl);(case hN => rfl)) | ((with_reducible apply rx_box);(case hx => rfl);(case hc => rfl);(case hM => rfl);(case hN => rfl)) | ((with_reducible apply rx_alloc);(case hM => rfl);(case hN => rfl)) | ((with_reducible apply rx_extract);(case hx => rfl);(case hc => rfl);(case hN => rfl)) | refine stpM ?_ | refine stpS ?_));exact k.pf) | fail):G := h ⟨k⟩
theorem stpa {G K:Prop}(k:K) (h:Hy K → G := by first|(intro k;(first|((with_reducible apply id_aw);first|with_reducible apply aw_seq | with_reducible apply aw_region | ((with_reducible apply aw_condT);(case hc => rfl);(case hb => first|rfl | assumption)) | ((with_reducible apply aw_condF);(case hc => rfl);(case hb => first|rfl | assumption)) | with_reducible apply aw_block | with_reducible apply aw_skip | with_reducible apply aw_exit | with_reducible apply aw_ret ) | with_reducible apply tq_normal | with_reducible apply tq_ret | with_reducible apply tq_exit | with_reducible apply bq_normal | with_reducible apply bq_ret | with_reducible apply bq_here | ((with_reducible apply bq_out);(case hij => decide)));exact k.pf) | fail):G := h ⟨k⟩
theorem stp2 {G c1 q1 c2 q2 K1 K2:Prop}(k1:c1 → q1 → K1) (k2:c2 → q2 → K2) (h:Hy (c1 → q1 → K1) → Hy (c2 → q2 → K2) → G := by first|(intro k1 k2;(with_reducible apply id_aw);(with_reducible apply aw_cond);(case hc => rfl);(intro hc;have hq := hc;(try simp only [bqs] at hq);first|exact k1.pf hc hq | exact k1.pf hc trivial);(intro hc;have hq := hc;(try simp only [bqs] at hq);first|exact k2.pf hc hq | exact k2.pf hc trivial)) | fail):G := h ⟨k1⟩ ⟨k2⟩
theorem stp3 {G c1 q1 c2 q2 K1 K2:Prop}(k1:c1 → q1 → K1) (k2:c2 → q2 → K2) (h:Hy (c1 → q1 → K1) → Hy (c2 → q2 → K2) → G := by first|(intro k1 k2;(with_reducible apply id_rw);(with_reducible apply id_g);(with_reducible apply rx_guardS);(case hj => rfl);(case hb => rfl);(case hN => rfl);(intro hc;have hq := hc;(try simp only [bqs] at hq);first|exact k1.pf hc hq | exact k1.pf hc trivial);(intro hc;have hq := hc;(try simp only [bqs] at hq);first|exact k2.pf hc hq | exact k2.pf hc trivial)) | fail):G := h ⟨k1⟩ ⟨k2⟩
theorem stpd {G K:Prop}(k:K) (h:Hy K → G := by first|(intro k;(with_reducible apply id_aw);(with_reducible apply aw_draw);(case hm => kernel_rfl);exact k.pf) | fail):G := h ⟨k⟩
theorem stpr {G K:Prop}(k:K) (h:Hy K → G := by first|(intro k;(with_reducible apply rq_ret);(case hr => rfl);exact k.pf) | fail):G := h ⟨k⟩
theorem selT_nil {ts:List (Nat × AV)}:selT [] ts = [] := rfl
theorem selT_cons {k:Nat}{v:AV}{ks:List Nat}{ts kt:List (Nat × AV)}(h:lk ts k = some v) (h2:selT ks ts = kt):selT (k :: ks) ts = (k,v) :: kt:=by
 subst h2;simp [selT,h]
theorem selH_nil {hs:List (Nat × Option (List AV))}:selH [] hs = [] := rfl
theorem selH_cons {k:Nat}{v:List AV}{ks:List Nat}{hs kh:List (Nat × Option (List AV))}(h:lkH hs k = some v) (h2:selH ks hs = kh):selH (k :: ks) hs = (k,some v) :: kh:=by
 subst h2;simp [selH,h]
section
variable {P : Program} {N : Nat} {Q : Exit → AS → Prop} {σ : Type} {c : Code} {ts : List (Nat × AV)} {hs : List (Nat × Option (List AV))} {n : Nat} {z0 : Lo}
theorem aw_loopA (ks js:List Nat){kt:List (Nat × AV)}{kh:List (Nat × Option (List AV))}(ot:σ → List (Nat × AV)) (oh:σ → List (Nat × Option (List AV))) (p:σ → Prop) (μ:σ → Nat) (i0:σ) (h0:p i0)
  (round : ∀ i,p i → AW P N c (thenQ (fun s' => ∃ j,p j ∧ μ j < μ i ∧ Le s' ⟨ot j ++ kt,oh j ++ kh,n,z0⟩) Q) ⟨ot i ++ kt,oh i ++ kh,n,z0⟩)
  (hk : selT ks ts = kt := by repeat' (first|exact selT_nil|(apply selT_cons;rfl))) (hj : selH js hs = kh := by repeat' (first|exact selH_nil|(apply selH_cons;rfl)))
  (h1 : subT ts (ot i0) := by repeat' (first|exact trivial|refine And.intro rfl ?_)) (h2 : subH hs (oh i0) := by repeat' (first|exact trivial|refine And.intro (.inr rfl) ?_)) : AW P N (.loop c) Q ⟨ts,hs,n,z0⟩ :=
 aw_loopK ks kt js kh ot oh p μ i0 h0 hk hj h1 h2 round
end
theorem Le.renA (m:List (Nat × Nat)){ts ts':List (Nat × AV)}{hs hs':List (Nat × Option (List AV))}{n n':Nat}{lo:Lo}(hm:okI lo.lo n' m = true := by rfl) (hn:lo.lo ≤ n' := by decide)
  (h1 : renT m lo ts ts' := by repeat' (first|exact trivial|refine And.intro ⟨_,rfl,?_⟩ ?_|refine And.intro ⟨_,_,rfl,rfl,?_⟩ ?_|exact Or.inr rfl|refine Or.inl ⟨?_,(by first|rfl|exact pur_sl _ _|exact Pur.pf|exact PurV.pf)⟩|refine Or.inr (All2.cons ?_ ?_)|refine All2.cons ?_ ?_|exact All2.nil|rfl))
  (h2 : renH m lo hs hs' := by repeat' (first|exact trivial|refine And.intro ⟨_,rfl,?_⟩ ?_|refine And.intro ⟨_,_,rfl,rfl,?_⟩ ?_|exact Or.inr rfl|refine Or.inl ⟨?_,(by first|rfl|exact pur_sl _ _|exact Pur.pf|exact PurV.pf)⟩|refine Or.inr (All2.cons ?_ ?_)|refine All2.cons ?_ ?_|exact All2.nil|rfl)) : Le ⟨ts,hs,n,lo⟩ ⟨ts',hs',n',lo⟩ :=
 Le.ren m hm hn h1 h2
section
variable {P : Program} {k : FuncId} {fn : Func} {c : Code} {args : List AV} {N : Nat}
theorem pc_start {Q:AV → Prop}(hf:P.funcs[k]? = some fn) (hn:fn.ntmps = N) (h:AW P N c (retQ P fn.results (fun r _ => Q r ∧ r.pur = true)) ⟨argTs 0 args,[],0,⟨0,big⟩⟩) (hb:fn.body = some c := by rfl)
  (hN : args.length ≤ N := by simp) : PC P k args Q := by subst hn;exact pc_of_aw hf hb hN h
theorem mc_start {σ:Type}{H0:List (Nat × Option (List AV))}{n:Nat}{p:σ → Prop}{rr:σ → AV}{hh:σ → List (Nat × Option (List AV))}(hf:P.funcs[k]? = some fn) (hn:fn.ntmps = N)
  (h : AW P N c (retQ P fn.results (fun r H' => ∃ x,p x ∧ r = rr x ∧ ∀ id cs,lkH (hh x) id = some cs → H' id = some cs)) ⟨argTs 0 args,H0,n,⟨n,big⟩⟩) (hb : fn.body = some c := by rfl)
  (hN : args.length ≤ N := by simp) : MC P k args H0 n p rr hh := by subst hn;exact mc_of_aw hf hb hN h
end
end Go.AL
namespace Go.AL
structure Tg where
 id : Int
 uq : Bool
 deriving Inhabited,DecidableEq
structure Cl where
 val : Int
 alive : Bool
 next : Int
 stk : List Tg
 deriving Inhabited,DecidableEq
structure Pt where
 cell : Int
 tag : Int
 deriving Inhabited,DecidableEq
structure Sl where
 set : Bool
 num : Int
 ptr : Pt
 deriving Inhabited,DecidableEq
def cTg (t : Tg) : List AV := [iv t.id,bv t.uq]
def cCl (c : Cl) : List AV := [iv c.val,bv c.alive,iv c.next,sl cTg c.stk]
def cSl (s : Sl) : List AV := [bv s.set,iv s.num,iv s.ptr.cell,iv s.ptr.tag]
instance : FlT cTg 2:=⟨fun _ => rfl⟩
instance : FlT cCl 4:=⟨fun _ => rfl⟩
instance : FlT cSl 4:=⟨fun _ => rfl⟩
instance : FE cTg (fun t => [iv t.id,bv t.uq]):=⟨fun _ => rfl⟩
instance : FE cCl (fun c => [iv c.val,bv c.alive,iv c.next,sl cTg c.stk]):=⟨fun _ => rfl⟩
instance : FE cSl (fun s => [bv s.set,iv s.num,iv s.ptr.cell,iv s.ptr.tag]):=⟨fun _ => rfl⟩
instance (t : Tg) : Pur (cTg t):=⟨rfl⟩
instance (c : Cl) : Pur (cCl c):=⟨by show (true && (true && (true && ((sl cTg c.stk).pur && true)))) = true;rw [pur_sl]; rfl⟩
instance (s : Sl) : Pur (cSl s):=⟨rfl⟩
abbrev aTg (t : Tg) : AV := .agg [iv t.id,bv t.uq]
abbrev aCl (c : Cl) : AV := .agg [iv c.val,bv c.alive,iv c.next,sl cTg c.stk]
abbrev aPt (p : Pt) : AV := .agg [iv p.cell,iv p.tag]
abbrev aSl (s : Sl) : AV := .agg [bv s.set,iv s.num,iv s.ptr.cell,iv s.ptr.tag]
structure OkC (c : Cl) : Prop where
 v : 0 ≤ c.val ∧ c.val ≤ 9
 n : 1 ≤ c.next ∧ c.next ≤ 1000
 l : 1 ≤ c.stk.length ∧ c.stk.length ≤ 200
 u : c.stk[0]!.uq = true
 i : ∀ t ∈ c.stk,0 ≤ t.id ∧ t.id < c.next
 d : (c.stk.map (·.id)).Nodup
structure OkM (m : List Cl) : Prop where
 l : m.length ≤ 200
 c : ∀ c ∈ m,OkC c
def tgIx (stk : List Tg) (id : Int) : Int := match stk.findIdx? (fun t => decide (t.id = id)) with | some k => k | none => -1
theorem tgIx_bd (stk:List Tg) (id:Int):-1 ≤ tgIx stk id ∧ tgIx stk id < stk.length:=by
 unfold tgIx
 split
 ·rename_i k h
  obtain ⟨h1,_⟩ := List.findIdx?_eq_some_iff_getElem.1 h
  omega
 ·omega
theorem tgIx_at {stk:List Tg}{id:Int}(h:0 ≤ tgIx stk id):stk[(tgIx stk id).toNat]!.id = id:=by
 unfold tgIx at h ⊢
 split
 ·rename_i k hk
  obtain ⟨h1,h2,_⟩ := List.findIdx?_eq_some_iff_getElem.1 hk
  rw [Int.toNat_natCast,getB _ _ h1]
  simpa using h2
 ·rename_i hk;rw [hk] at h;dsimp only at h;omega
theorem tgIx_none {stk:List Tg}{id:Int}:tgIx stk id < 0 ↔ ∀ t ∈ stk,t.id ≠ id:=by
 unfold tgIx
 split
 ·rename_i k hk
  obtain ⟨h1,h2,_⟩ := List.findIdx?_eq_some_iff_getElem.1 hk
  refine ⟨fun h => by omega,fun h => ?_⟩
  exact absurd (by simpa using h2) (h _ (List.getElem_mem h1))
 ·rename_i hk
  rw [List.findIdx?_eq_none_iff] at hk
  exact ⟨fun _ t ht => by simpa using hk t ht,fun _ => by omega⟩
def tchS (stk : List Tg) (k : Nat) (wr : Bool) : List Tg := if wr = true then stk.take (k + 1) else stk.take (k + 1) ++ (stk.drop (k + 1)).filter (fun t => !t.uq)
def tchK (m : List Cl) (x : Pt) (wr : Bool) : Int :=
 if ¬ (0 ≤ x.cell ∧ x.cell < m.length) then 4
 else if m[x.cell.toNat]!.alive = false then 1
 else if tgIx m[x.cell.toNat]!.stk x.tag < 0 then 2
 else if wr = true ∧ m[x.cell.toNat]!.stk[(tgIx m[x.cell.toNat]!.stk x.tag).toNat]!.uq = false then 3
 else 0
def tchC (c : Cl) (x : Pt) (wr : Bool) : Cl := { c with stk := tchS c.stk (tgIx c.stk x.tag).toNat wr }
def tchM (m : List Cl) (x : Pt) (wr : Bool) : List Cl := if tchK m x wr = 0 then m.set x.cell.toNat (tchC m[x.cell.toNat]! x wr) else m
def rdN (m : List Cl) (x : Pt) : Int := if tchK m x false = 0 then m[x.cell.toNat]!.val else 0
def wrK (m : List Cl) (x : Pt) (v : Int) : Int := if 0 ≤ v ∧ v ≤ 9 then tchK m x true else 4
def wrM (m : List Cl) (x : Pt) (v : Int) : List Cl := if wrK m x v = 0 then m.set x.cell.toNat { tchC m[x.cell.toNat]! x true with val := v } else m
def frM (m : List Cl) (x : Pt) : List Cl := if tchK m x true = 0 then m.set x.cell.toNat { tchC m[x.cell.toNat]! x true with alive := false } else m
def full (c : Cl) : Prop := c.stk.length = 200 ∨ c.next = 1000
instance (c : Cl) : Decidable (full c) := by unfold full;infer_instance
def lnK (m : List Cl) (x : Pt) (u : Bool) : Int := if tchK m x u = 0 then (if full (tchC m[x.cell.toNat]! x u) then 4 else 0) else tchK m x u
def psh (c : Cl) (u : Bool) : Cl := { c with stk := c.stk ++ [⟨c.next,u⟩],next := c.next + 1 }
def lnM (m : List Cl) (x : Pt) (u : Bool) : List Cl := if lnK m x u = 0 then m.set x.cell.toNat (psh (tchC m[x.cell.toNat]! x u) u) else m
def lnP (m : List Cl) (x : Pt) (u : Bool) : Pt := if lnK m x u = 0 then ⟨x.cell,m[x.cell.toNat]!.next⟩ else ⟨0,0⟩
def nwC (v : Int) : Cl := ⟨v,true,1,[⟨0,true⟩]⟩
theorem tchS_sub {stk:List Tg}{k:Nat}{wr:Bool}:(tchS stk k wr).Sublist stk:=by
 unfold tchS
 split
 ·exact List.take_sublist _ _
 ·have h := List.Sublist.append (List.Sublist.refl (stk.take (k + 1))) (List.filter_sublist (l := stk.drop (k + 1)) (p := fun t => !t.uq))
  rwa [List.take_append_drop] at h
theorem tchS_head {stk:List Tg}{k:Nat}{wr:Bool}(h:0 < stk.length):(tchS stk k wr)[0]! = stk[0]! ∧ 0 < (tchS stk k wr).length:=by
 cases stk with
 | nil => simp at h
 | cons a l =>
  unfold tchS
  split <;> simp
theorem OkC.tch {c:Cl}(h:OkC c) (x:Pt) (wr:Bool):OkC (tchC c x wr):=by
 have hs := tchS_sub (stk := c.stk) (k := (tgIx c.stk x.tag).toNat) (wr := wr)
 have hh := tchS_head (k := (tgIx c.stk x.tag).toNat) (wr := wr) (stk := c.stk) (by have := h.l;omega)
 refine ⟨h.v,h.n,⟨hh.2,Nat.le_trans hs.length_le h.l.2⟩,?_,fun t ht => h.i t (hs.subset ht),(hs.map _).nodup h.d⟩
 show (tchS c.stk (tgIx c.stk x.tag).toNat wr)[0]!.uq = true
 rw [hh.1]; exact h.u
theorem OkC.psh {c:Cl}(h:OkC c) (u:Bool) (hf:¬ full c):OkC (psh c u):=by
 have hl := h.l
 have hn := h.n
 unfold full at hf
 refine ⟨h.v,by show 1 ≤ c.next + 1 ∧ c.next + 1 ≤ 1000;omega,by show 1 ≤ (c.stk ++ [_]).length ∧ (c.stk ++ [_]).length ≤ 200;rw [List.length_append,List.length_singleton]; omega,?_,fun t ht => ?_,?_⟩
 ·show (c.stk ++ [_])[0]!.uq = true
  have h1 := h.u
  rw [getB _ _ (by omega)] at h1
  rw [getB _ _ (by rw [List.length_append]; omega),List.getElem_append_left (by omega)]; exact h1
 ·rcases List.mem_append.1 ht with ht | ht
  ·have := h.i t ht;show 0 ≤ t.id ∧ t.id < c.next + 1;omega
  ·rw [List.mem_singleton] at ht;subst ht;show 0 ≤ c.next ∧ c.next < c.next + 1;omega
 ·show ((c.stk ++ [_]).map _).Nodup
  rw [List.map_append,List.nodup_append]
  refine ⟨h.d,by simp,fun a ha b hb => ?_⟩
  simp only [List.map_cons,List.map_nil,List.mem_singleton] at hb
  obtain ⟨t,ht,rfl⟩ := List.mem_map.1 ha
  have := h.i t ht
  omega
theorem OkC.nw {v:Int}(h:0 ≤ v ∧ v ≤ 9):OkC (nwC v) := ⟨h,⟨by show (1:Int) ≤ 1;decide,by show (1:Int) ≤ 1000;decide⟩,⟨by show 1 ≤ 1;decide,by show 1 ≤ 200;decide⟩,rfl,by simp [nwC],by simp [nwC]⟩
theorem OkM.set {m:List Cl}(h:OkM m){k:Nat}{c:Cl}(hc:OkC c):OkM (m.set k c) :=
 ⟨by rw [List.length_set]; exact h.l,fun x hx => (List.mem_or_eq_of_mem_set hx).elim (h.c x) (fun e => e ▸ hc)⟩
theorem OkM.at {m:List Cl}(h:OkM m){k:Nat}(hk:k < m.length):OkC m[k]! := h.c _ (getB_mem _ _ hk)
theorem tchK_in {m:List Cl}{x:Pt}{wr:Bool}(h:tchK m x wr ≠ 4):0 ≤ x.cell ∧ x.cell < m.length ∧ x.cell.toNat < m.length:=by
 unfold tchK at h
 split at h
 ·exact absurd rfl h
 ·omega
theorem tchK_0 {m:List Cl}{x:Pt}{wr:Bool}(h:tchK m x wr = 0):0 ≤ x.cell ∧ x.cell < m.length ∧ x.cell.toNat < m.length := tchK_in (by rw [h]; decide)
theorem OkM.tch {m:List Cl}(h:OkM m) (x:Pt) (wr:Bool):OkM (tchM m x wr):=by
 unfold tchM;split
 ·rename_i hk;exact h.set ((h.at (tchK_0 hk).2.2).tch x wr)
 ·exact h
theorem OkM.wr {m:List Cl}(h:OkM m) (x:Pt) (v:Int):OkM (wrM m x v):=by
 unfold wrM
 by_cases hk : wrK m x v = 0
 ·rw [if_pos hk]
  unfold wrK at hk
  by_cases hv : 0 ≤ v ∧ v ≤ 9
  ·rw [if_pos hv] at hk
   have h1 := (h.at (tchK_0 hk).2.2).tch x true
   exact h.set ⟨hv,h1.n,h1.l,h1.u,h1.i,h1.d⟩
  ·rw [if_neg hv] at hk;cases hk
 ·rw [if_neg hk]; exact h
theorem OkM.fr {m:List Cl}(h:OkM m) (x:Pt):OkM (frM m x):=by
 unfold frM;split
 ·rename_i hk
  have h1 := (h.at (tchK_0 hk).2.2).tch x true
  exact h.set ⟨h1.v,h1.n,h1.l,h1.u,h1.i,h1.d⟩
 ·exact h
theorem OkM.ln {m:List Cl}(h:OkM m) (x:Pt) (u:Bool):OkM (lnM m x u):=by
 unfold lnM
 by_cases hk : lnK m x u = 0
 ·rw [if_pos hk]
  unfold lnK at hk
  by_cases h0 : tchK m x u = 0
  ·rw [if_pos h0] at hk
   by_cases hf : full (tchC m[x.cell.toNat]! x u)
   ·rw [if_pos hf] at hk;cases hk
   ·exact h.set (((h.at (tchK_0 h0).2.2).tch x u).psh u hf)
  ·rw [if_neg h0] at hk;exact absurd hk h0
 ·rw [if_neg hk]; exact h
theorem OkM.nw {m:List Cl}(h:OkM m){v:Int}(hv:0 ≤ v ∧ v ≤ 9) (hl:m.length < 200):OkM (m ++ [nwC v]) :=
 ⟨by rw [List.length_append,List.length_singleton]; omega,fun c hc => (List.mem_append.1 hc).elim (h.c c) (fun h => by rw [List.mem_singleton.1 h]; exact OkC.nw hv)⟩
section
variable {P : Program} {C : Ctx} {ι : Pl} {F : Nat → Prop} {T : Nat → Option AV} {H : Nat → Option (List AV)} {a : Act} {w : World} {o : Oper}
theorem zeroCells_list (z:Array Value):∀ n,(Builtin.zeroCells z n).toList = (List.replicate n z.toList).flatten := fun n => by
 have := made_list z n (n * z.size) rfl
 simpa [Builtin.zeroCells,madeCells] using this
end
theorem Le.cut {ts:List (Nat × AV)}{hs:List (Nat × Option (List AV))}{n:Nat}{z0:Lo}{i:Nat}{cs:List AV}(k:Nat) (hi:lkH hs i = some cs) :
  Le ⟨ts,hs,n,z0⟩ ⟨ts,(i,some (cs.take k)) :: hs,n,z0⟩ := by
 rintro C a w ⟨h0,ι,g,gh⟩
 have hσ : ∀ id c, lkH ((i, some (cs.take k)) :: hs) id = some c → ∃ c0, lkH hs id = some c0 ∧ (c = c0 ∨ c = c0.take k) := by
  intro id c h
  rw [lkH_c] at h
  split at h
  ·rename_i e;subst e;cases h;exact ⟨cs,hi,.inr rfl⟩
  ·exact ⟨c,h,.inl rfl⟩
 have car : Carry w (badOf C.X ι (lkH hs)) ι w (badOf C.X ι (lkH ((i, some (cs.take k)) :: hs))) ι := by
  refine ⟨fun b o' x h1 h2 => ⟨?_,h2⟩,fun _ _ h => h,fun _ => Nat.le_refl _⟩
  rintro (h | ⟨id,c,β,q1,q2⟩)
  ·exact h1 (.inl h)
  ·obtain ⟨c0, r, _⟩ := hσ id c q1
   exact h1 (.inr ⟨id,c0,β,r,q2⟩)
 refine ⟨h0,ι,⟨g.df,g.sz,fun t av ht => ?_⟩,⟨fun id c h => ?_,fun id id' c c' b β β' q1 q2 q3 q4 => ?_,gh.fr,gh.ex,gh.fresh⟩⟩
 ·obtain ⟨y, hy, hr⟩ := g.tm t av ht
  exact ⟨y,hy,Rd.carry car _ _ hr⟩
 ·obtain ⟨c0, r, e⟩ := hσ id c h
  rcases gh.obj id c0 r with ⟨h1,h2⟩ | ⟨b',β',arr',e',h1,h2,h3,h4,h5,h6⟩
  ·refine .inl ⟨h1, ?_⟩
   rcases e with e|e
   ·rw [e,h2]
   ·rw [e,h2]; simp
  ·refine .inr ⟨b', β', arr', e', h1, h2, ?_, ?_, h5, h6⟩
   ·rcases e with e | e
    ·rw [e]; exact h3
    ·rw [e,List.length_take]; omega
   ·have h7 := RdC.carryB car _ _ _ (fun o x hx => hx) h4
    rcases e with e|e
    ·rw [e]; exact h7
    ·rw [e]; exact RdC.take k h7
 ·obtain ⟨_, r1, _⟩ := hσ id c q1
  obtain ⟨_,r2,_⟩ := hσ id' c' q2
  exact gh.sep _ _ _ _ _ _ _ r1 r2 q3 q4
section
variable {P : Program} {N : Nat} {Q : Exit → AS → Prop} {all : Array Oper} {rest : List Oper} {ts : List (Nat × AV)} {hs : List (Nat × Option (List AV))} {n : Nat} {z0 : Lo}
variable {d : Nat} {ty : TypeId} {pos : String} {af : Array Edge}
theorem rx_makeFuncFrzN {fn:Go.Fn}{cs:Array Operand}{i:Nat}{cc c:List AV}(t:Nat) (hx:lk ts t = some (.optr i 0)) (hH:lkH hs i = some cc) (hc:evL (lk ((t,.iptr cc) :: ts)) cs.toList = some c) (hN:Nat.blt d N = true)
  (kk : RW P N all Q .txt rest ⟨(d,.clos fn [] c) :: (t,.iptr cc) :: ts,(i,none) :: hs,n,z0⟩) : RW P N all Q .txt (⟨some d,.makeFunc fn #[] cs,ty,pos,af,none⟩ :: rest) ⟨ts,hs,n,z0⟩ :=
 rw_le (rx_makeFunc (f := []) (c := c) rfl hc hN (md' := .txt) kk) (Le.frzP hx hH)
end
theorem sC_own {hs:List (Nat × Option (List AV))}{id m e':Nat}{u:List Int}(h:lkH hs id = some (flat cI u)) (hm:m = u.length):sCells (lkH hs) 1 (kAV (.own id 0 m e')) = some (m,flat cI u):=by
 subst hm
 have hl : (flat cI u).length = u.length * 1 := flat_length cI u
 show ((lkH hs id).bind fun cs => if u.length * 1 ≤ (cs.drop 0).length then some (u.length,(cs.drop 0).take (u.length * 1)) else none) = _
 rw [h]
 show (if u.length * 1 ≤ ((flat cI u).drop 0).length then some (u.length,((flat cI u).drop 0).take (u.length * 1)) else none) = _
 rw [List.drop_zero,if_pos (by omega),List.take_of_length_le (by omega)]
structure Co where
 val : Int
 alive : Bool
 next : Int
 av : AV
instance : Inhabited Co:=⟨⟨0,false,0,.imm 0 []⟩⟩
def cCo (c : Co) : List AV := [iv c.val,bv c.alive,iv c.next,c.av]
instance : FlT cCo 4:=⟨fun _ => rfl⟩
instance : FE cCo (fun c => [iv c.val,bv c.alive,iv c.next,c.av]):=⟨fun _ => rfl⟩
def toCo (c : Cl) : Co := ⟨c.val,c.alive,c.next,sl cTg c.stk⟩
def opn (m : List Cl) (j : Nat) (X : AV) : List Co := (m.map toCo).set j { toCo m[j]! with av := X }
theorem flat_toCo (m:List Cl):flat cCo (m.map toCo) = flat cCl m:=by
 unfold flat;rw [List.flatMap_map]; rfl
theorem opn_len {m:List Cl}{j:Nat}{X:AV}:(opn m j X).length = m.length := by unfold opn;rw [List.length_set,List.length_map]
theorem opn_get {m:List Cl}{j:Nat}{X:AV}(h:j < m.length):(opn m j X)[j]! = ⟨m[j]!.val,m[j]!.alive,m[j]!.next,X⟩:=by
 unfold opn
 rw [getB _ _ (by rw [List.length_set,List.length_map]; exact h),List.getElem_set_self]; rfl
theorem opn_flat {m:List Cl}{j:Nat}{X:AV}(h:j < m.length):flat cCo (opn m j X) = flat cCl (m.take j) ++ ([iv m[j]!.val,bv m[j]!.alive,iv m[j]!.next] ++ X :: flat cCl (m.drop (j + 1))):=by
 unfold opn
 rw [List.set_eq_take_append_cons_drop,if_pos (by rw [List.length_map]; exact h),← flat_append,← List.map_take,flat_toCo,← List.map_drop]
 congr 1
 show cCo _ ++ flat cCo _ = _
 rw [flat_toCo]; rfl
theorem opn_flat2 {m:List Cl}{j:Nat}{X:AV}(h:j < m.length):flat cCo (opn m j X) = (flat cCl (m.take j) ++ [iv m[j]!.val,bv m[j]!.alive,iv m[j]!.next]) ++ X :: flat cCl (m.drop (j + 1)):=by
 rw [opn_flat h,List.append_assoc]
theorem opn_self {m:List Cl}{j:Nat}{r:List Tg}:flat cCo (opn m j (sl cTg r)) = flat cCl (m.set j { m[j]! with stk := r }):=by
 rw [← flat_toCo,List.map_set]; rfl
theorem spl_opn {m:List Cl}{j:Nat}{X:AV}(h:j < m.length):spl (flat cCl m) (0 + j * 4 + 3) [X] = flat cCo (opn m j X):=by
 rw [← flat_toCo]
 have := st_flat (f := cCo) (xs := m.map toCo) (k := j) (j := 3) (new := [X]) (y := { toCo m[j]! with av := X }) (by rw [List.length_map]; exact h) (by simp) (by
  have e : (m.map toCo)[j]! = toCo m[j]! := by rw [getB _ _ (by rw [List.length_map]; exact h),List.getElem_map,getB _ _ h]
  rw [e]; rfl)
 exact this
theorem st_opn {m:List Cl}{j:Nat}{X Y:AV}(h:j < m.length):spl (flat cCo (opn m j X)) (0 + j * 4 + 3) [Y] = flat cCo (opn m j Y):=by
 have e : opn m j Y = (opn m j X).set j { toCo m[j]! with av := Y } := by unfold opn;rw [List.set_set]
 rw [e]
 exact st_flat (by rw [opn_len]; exact h) (by simp) (by rw [opn_get h]; rfl)
theorem st_opnN {m:List Cl}{j:Nat}{X:AV}{v:Int}(h:j < m.length):spl (flat cCo (opn m j X)) (0 + j * 4 + 2) [iv v] = flat cCo (opn (m.set j { m[j]! with next := v }) j X):=by
 have e : opn (m.set j { m[j]! with next := v }) j X = (opn m j X).set j ⟨m[j]!.val, m[j]!.alive, v, X⟩ := by
  have e2 : (m.set j { m[j]! with next := v })[j]! = { m[j]! with next := v } := by rw [getB _ _ (by rw [List.length_set]; exact h),List.getElem_set_self]
  unfold opn
  rw [e2,List.map_set,List.set_set,List.set_set]; rfl
 rw [e]
 exact st_flat (by rw [opn_len]; exact h) (by simp) (by rw [opn_get h]; rfl)
theorem Le.cls {ts:List (Nat × AV)}{hs:List (Nat × Option (List AV))}{n:Nat}{z0:Lo}{o q j k:Nat}{m:List Cl}{r:List Tg}(hj:lkH hs o = some (flat cCo (opn m j (.own q 0 k 2)))) (hq:lkH hs q = some (flat cTg r)) (hk:k = r.length) (hjm:j < m.length) (hoq:o ≠ q) :
  Le ⟨ts,hs,n,z0⟩ ⟨ts,(o,some (flat cCl (m.set j { m[j]! with stk := r }))) :: (q,none) :: hs,n,z0⟩ := by
 subst hk
 rw [opn_flat2 hjm] at hj
 have h := Le.frzC (ts := ts) (n := n) (z0 := z0) _ hj hq hoq
 rw [← opn_self,opn_flat2 hjm]; exact h
theorem rn_opn {ρ:Nat → Option Nat}{m:List Cl}{j k i i':Nat}(hr:ρ i = some i'):RnL ρ (flat cCo (opn m j (.own i 0 k 2))) (flat cCo (opn m j (.own i' 0 k 2))):=by
 by_cases h : j < m.length
 ·rw [opn_flat h, opn_flat h]
  exact RnL.app (RnL.purI inferInstance) (RnL.app (RnL.purI inferInstance) (RnL.cons (RnV.own hr) (RnL.purI inferInstance)))
 ·have e : ∀ X, opn m j X = m.map toCo := fun X => List.set_eq_of_length_le (by rw [List.length_map]; omega)
  rw [e,e,flat_toCo]
  exact RnL.purI inferInstance
theorem sE {p:Prop}{α:Type}{a c:Option α}{b:α}(h:some b = c) (e:a = some b := by rfl):p ∨ a = c := .inr (e.trans h)
section
variable {P : Program} {N : Nat} {Q : Exit → AS → Prop} {all : Array Oper} {rest : List Oper} {ts : List (Nat × AV)} {hs : List (Nat × Option (List AV))} {n : Nat} {z0 : Lo} {md : Md}
variable {ty : TypeId} {pos : String} {af : Array Edge}
theorem rx_mcallA {d:Nat}{k:FuncId}{l:List Operand}{tys:Array TypeId}{avs avs0:List AV}{H0:List (Nat × Option (List AV))}{rr rr':AV}{hh:List (Nat × Option (List AV))}
  (mp : List Nat) (n1 : Nat) (ws : List (Nat × Option (List AV))) (h : MC P k avs0 H0 mp.length (fun _ : Unit => True) (fun _ => rr) (fun _ => hh)) [hc : CaT P k] (ha : evL (lk ts) l = some avs) (hd : distinct mp = true)
  (hM : Nat.ble (n + (n1 - mp.length)) big = true) (hN : Nat.blt d N = true)
  {md' : Md} [hmd : MdA md (rOs l ++ mp.map .inr) (ws.map (fun p => .inr p.1) ++ [.inl d]) md']
  (kk : RW P N all Q md' rest ⟨(d,rr') :: ts,wrH hs ws,n + (n1 - mp.length),z0⟩)
  (hH0 : hands hs H0 mp 0 mp := by repeat' (first|exact trivial|(refine And.intro ⟨_,_,rfl,by assumption,?_⟩ ?_)|exact RnL.purI inferInstance|exact rn_opn rfl|exact RnV.purI inferInstance|exact RnV.own rfl|exact RnV.optr rfl|exact RnL.nil|refine RnL.cons ?_ ?_|refine RnV.agg ?_|refine RnV.tup ?_))
  (hk : keysLt mp.length H0 = true := by rfl)
  (har : RnL (mp[·]?) avs0 avs := by repeat' (first|exact RnL.purI inferInstance|exact rn_opn rfl|exact RnV.purI inferInstance|exact RnV.own rfl|exact RnV.optr rfl|exact RnL.nil|refine RnL.cons ?_ ?_|refine RnV.agg ?_|refine RnV.tup ?_))
  (hr : RnV (rho mp n n1) rr rr' := by repeat' (first|exact RnL.purI inferInstance|exact rn_opn rfl|exact RnV.purI inferInstance|exact RnV.own rfl|exact RnV.optr rfl|exact RnL.nil|refine RnL.cons ?_ ?_|refine RnV.agg ?_|refine RnV.tup ?_))
  (hwa : wsAll mp ws = true := by simp [wsAll])
  (hw : wsChk (rho mp n n1) hh ws := by repeat' (first|exact trivial|(refine And.intro ⟨0,_,rfl,rfl,?_⟩ ?_)|(refine And.intro ⟨1,_,rfl,rfl,?_⟩ ?_)|(refine And.intro ⟨2,_,rfl,rfl,?_⟩ ?_)|(refine And.intro ⟨3,_,rfl,rfl,?_⟩ ?_)|(refine And.intro ⟨4,_,rfl,rfl,?_⟩ ?_)|(refine And.intro ⟨5,_,rfl,rfl,?_⟩ ?_)|(refine And.intro ⟨6,_,rfl,rfl,?_⟩ ?_)|exact RnL.purI inferInstance|exact rn_opn rfl|exact RnV.purI inferInstance|exact RnV.own rfl|exact RnV.optr rfl|exact RnL.nil|refine RnL.cons ?_ ?_|refine RnV.agg ?_|refine RnV.tup ?_)) :
  RW P N all Q md (⟨some d,.call ⟨.value (.func k),l.toArray,tys⟩,ty,pos,af,none⟩ :: rest) ⟨ts,hs,n,z0⟩ :=
 rx_mcallE mp n1 ws h (avs := avs) ha hd hH0 hk har hM hr hwa hw hN (md' := md') (hmd := hmd) kk
end
theorem stpb {G K:Prop}(k:K) (h:Hy K → G := by first|(intro k;(first|refine stp1 ?_ | refine stpa ?_);exact k.pf) | fail):G := h ⟨k⟩
def sbin (op : BinOp) (a b : ByteArray) : Option Value :=
 match op with
 | .add => if a.size + b.size ≤ 9000000000000000000 then some (.string (a ++ b)) else none
 | .eql => some (.bool (a.toList == b.toList))
 | .neq => some (.bool (!(a.toList == b.toList)))
 | _ => none
def bytF (s : ByteArray) (l : List Int) : ByteArray := l.foldl (fun r n => r.push (UInt8.ofNat n.toNat)) s
section
variable {P : Program} {C : Ctx} {ι : Pl} {T : Nat → Option AV} {F : Nat → Prop} {H : Nat → Option (List AV)} {a : Act} {w : World} {o : Oper}
theorem pu_sbin (g:TG C ι T H a w){op:BinOp}{t t':TypeId}{x y:Operand}{m n:ByteArray}{v:Value}(ho:o.op = .binOp op t x y t')
  (hx : ev T x = some (.v (.string m))) (hy : ev T y = some (.v (.string n))) (h : sbin op m n = some v) : Pu P C ι H a w o (.v v) := by
 have h1 := ev_ok g hx
 have h2 := ev_ok g hy
 simp only [Rd] at h1 h2
 refine ⟨v,?_,by simp [Rd]⟩
 have hg : (eqGuard op t x y (.string m) (.string n)).run P w = .ok () w := by
  unfold eqGuard
  cases op <;> simp
 have hb : (binOp op t (.string m) (.string n)).run P w = .ok v w := by
  cases op <;> simp only [sbin] at h <;> first|(cases h;done)|skip
  ·split at h
   ·rename_i hs
    cases h
    have h9 : ¬ (((m.size + n.size : Nat) : Int) > IntKind.i64.max) := by
     have : IntKind.i64.max = 9223372036854775807 := rfl
     omega
    show ((if ((m.size + n.size : Nat) : Int) > IntKind.i64.max then _ else pure (.string (m ++ n)) : Sem Value)).run P w = _
    rw [if_neg h9]; simp
   ·cases h
  all_goals (cases h;simp [binOp,Op.stringOp])
 simp only [execOp,ho,h1,h2,Sem.run_bind,hg,Result.andThen_ok,hb,Sem.run_pure]
theorem RdL_ints {bad:Nat → Prop}{k:IntKind}:∀ {ns:List Int}{l:List Value},RdL w bad ι (ns.map fun n => .v (.int k n)) l → l = ns.map (Value.int k)
 | [],l,h => by simp only [List.map_nil,RdL] at h;exact h
 | n :: ns, l, h => by
  simp only [List.map_cons,RdL] at h
  obtain ⟨x,l',rfl,h0,h1,h2⟩ := h
  simp only [Rd] at h1
  rw [h1,RdL_ints h2,List.map_cons]
theorem pu_b2s (g:TG C ι T H a w) (gh:HG C ι F H w){s t el:TypeId}{x:Operand}{av:AV}{m:Nat}{ns:List Int}(ho:o.op = .convert s t x) (hx:ev T x = some av)
  (ht : slOf P s = some el) (hu : inOf P el = some .u8) (hst : P.underlying t = some .string) (hs : sCells H 1 (kAV av) = some (m,ns.map fun n => .v (.int .u8 n))) :
  Pu P C ι H a w o (.v (.string (bytF .empty ns))) := by
 obtain ⟨ad,c,l,h1,h2,h3,h4,h5⟩ := sCells_ok gh (Rd_kAV (ev_ok g hx)) hs
 have hl := RdL_ints h3
 have hll : ns.length = m := by have := h2;rw [hl] at this;simpa using this
 refine ⟨.string (bytF .empty ns),?_,by simp [Rd]⟩
 have hcv : (convert s t (.slice ad m c)).run P w = (Conv.bytesToString (.slice ad m c)).run P w := run_convert_bytes_string w s t el ad m c (slOf_u ht) (inOf_u hu) hst
 have hrun : (Conv.bytesToString (.slice ad m c)).run P w = .ok (.string (bytF .empty ns)) w := by
  cases ad with
  | none =>
   rcases h5 with ⟨b,o',h⟩|h
   ·cases h
   ·subst h
    have : ns = [] := List.eq_nil_of_length_eq_zero hll
    subst this
    rfl
  | some ad =>
   have hload : (loadCells ad m).run P w = .ok (ns.map (Value.int .u8)).toArray w := by
    rcases h5 with ⟨b,o',h⟩|h
    ·cases h
     have := run_loadCells_list (P := P) w ⟨b,o',none⟩ l (fun j v hj => by rw [Addr.add_lit]; exact h4 b o' rfl j v hj)
     rw [h2,Nat.mul_one,hl] at this
     exact this
    ·subst h
     have : ns = [] := List.eq_nil_of_length_eq_zero hll
     subst this
     simp [loadCells,loadCellsFrom]
   exact run_bytesToString w ad m c ns hload
 simp only [execOp,ho,h1,Sem.run_bind,hcv,hrun,Result.andThen_ok,Sem.run_pure]
end
section
variable {P : Program} {N : Nat} {Q : Exit → AS → Prop} {all : Array Oper} {rest : List Oper} {ts : List (Nat × AV)} {hs : List (Nat × Option (List AV))} {n : Nat} {z0 : Lo} {md : Md}
variable {d : Nat} {ty : TypeId} {pos : String} {af : Array Edge}
theorem rx_sbin {op:BinOp}{t t':TypeId}{x y:Operand}{m m':ByteArray}{v:Value}(hx:ev (lk ts) x = some (.v (.string m))) (hy:ev (lk ts) y = some (.v (.string m')))
  (h : sbin op m m' = some v) (hN : Nat.blt d N = true) {md' : Md} [hmd : MdA md (rO x ++ rO y) [.inl d] md'] (kk : RW P N all Q md' rest ⟨(d,.v v) :: ts,hs,n,z0⟩) : RW P N all Q md (⟨some d,.binOp op t x y t',ty,pos,af,none⟩ :: rest) ⟨ts,hs,n,z0⟩ :=
 rw_pu rfl rfl (ltb hN) (fun C ι F T H a w ag g gh => pu_sbin g rfl (ag.l.ev.trans hx) (ag.r.ev.trans hy) h) (by rw [hmd.pf]; exact kk)
theorem rx_b2s {s t el:TypeId}{x:Operand}{av:AV}{m:Nat}(ns:List Int) [ht:SlT P s el] [hu:InT P el .u8] [hst:StT P t] (hx:ev (lk ts) x = some av)
  (hs' : sCells (lkH hs) 1 (kAV av) = some (m,ns.map fun n => .v (.int .u8 n))) (hN : Nat.blt d N = true) {md' : Md} [hmd : MdA md (rO x ++ rA av) [.inl d] md'] (kk : RW P N all Q md' rest ⟨(d,.v (.string (bytF .empty ns))) :: ts,hs,n,z0⟩) :
  RW P N all Q md (⟨some d,.convert s t x,ty,pos,af,none⟩ :: rest) ⟨ts,hs,n,z0⟩ :=
 rw_pu rfl rfl (ltb hN) (fun C ι F T H a w ag g gh => pu_b2s g gh rfl (ag.l.ev.trans hx) ht.pf hu.pf hst.pf (ag.r.sCells.trans hs')) (by rw [hmd.pf]; exact kk)
theorem rx_indexS {t:TypeId}{x i:Operand}{s:ByteArray}{k:IntKind}{m:Int}[ht:StT P t] (hx:ev (lk ts) x = some (.v (.string s)))
  (hi : ev (lk ts) i = some (.v (.int k m))) (hm : 0 ≤ m ∧ m < (s.size : Int)) (hN : Nat.blt d N = true) {md' : Md} [hmd : MdA md (rO x ++ rO i) [.inl d] md'] (kk : RW P N all Q md' rest ⟨(d,.v (.int .u8 ((s[m.toNat]!).toNat : Int))) :: ts,hs,n,z0⟩) :
  RW P N all Q md (⟨some d,.index t x i,ty,pos,af,none⟩ :: rest) ⟨ts,hs,n,z0⟩ :=
 rw_indexS (b := s[m.toNat]!) hx hi ht.pf hm.1 (by rw [getElem!_pos s m.toNat (by omega),getElem?_pos s m.toNat (by omega)]) (ltb hN) (by rw [hmd.pf]; exact kk)
theorem rx_sliceS {t:TypeId}{x:Operand}{lo hi:Option Operand}{s:ByteArray}{l h:Nat}[ht:StT P t] (hx:ev (lk ts) x = some (.v (.string s)))
  (hl : bndA (lk ts) lo 0 = some l) (hh : bndA (lk ts) hi s.size = some h) (hc : l ≤ h ∧ h ≤ s.size) (hN : Nat.blt d N = true) {md' : Md} [hmd : MdA md (rO x ++ (rB lo ++ rB hi)) [.inl d] md'] (kk : RW P N all Q md' rest ⟨(d,.v (.string (s.extract l h))) :: ts,hs,n,z0⟩) :
  RW P N all Q md (⟨some d,.slice t x lo hi none,ty,pos,af,none⟩ :: rest) ⟨ts,hs,n,z0⟩ := rw_sliceS hx ht.pf hl hh hc (ltb hN) (by rw [hmd.pf]; exact kk)
theorem u8_in (m:Int) (h:0 ≤ m ∧ m ≤ 255):IntKind.u8.wrap m = m:=by
 have : IntKind.u8.wrap m = m % 256 := rfl
 rw [this]; omega
theorem rx_addU {t t':TypeId}{x y:Operand}{m m':Int}(hx:ev (lk ts) x = some (.v (.int .u8 m))) (hy:ev (lk ts) y = some (.v (.int .u8 m')))
  (h : 0 ≤ m + m' ∧ m + m' ≤ 255) (hN : Nat.blt d N = true) {md' : Md} [hmd : MdA md (rO x ++ rO y) [.inl d] md'] (kk : RW P N all Q md' rest ⟨(d,.v (.int .u8 (m + m'))) :: ts,hs,n,z0⟩) : RW P N all Q md (⟨some d,.binOp .add t x y t',ty,pos,af,none⟩ :: rest) ⟨ts,hs,n,z0⟩ :=
 rw_ibin hx hy (.inl rfl) (v := .int .u8 (m + m')) (by simp only [ibin,u8_in _ h]) (ltb hN) (by rw [hmd.pf]; exact kk)
theorem rx_subU {t t':TypeId}{x y:Operand}{m m':Int}(hx:ev (lk ts) x = some (.v (.int .u8 m))) (hy:ev (lk ts) y = some (.v (.int .u8 m')))
  (h : 0 ≤ m - m' ∧ m - m' ≤ 255) (hN : Nat.blt d N = true) {md' : Md} [hmd : MdA md (rO x ++ rO y) [.inl d] md'] (kk : RW P N all Q md' rest ⟨(d,.v (.int .u8 (m - m'))) :: ts,hs,n,z0⟩) : RW P N all Q md (⟨some d,.binOp .sub t x y t',ty,pos,af,none⟩ :: rest) ⟨ts,hs,n,z0⟩ :=
 rw_ibin hx hy (.inl rfl) (v := .int .u8 (m - m')) (by simp only [ibin,u8_in _ h]) (ltb hN) (by rw [hmd.pf]; exact kk)
theorem rx_convU {s t:TypeId}{x:Operand}{k':IntKind}{m:Int}[hd:InT P t .u8] [hs':InT P s k'] (hx:ev (lk ts) x = some (.v (.int k' m))) (h:0 ≤ m ∧ m ≤ 255) (hN:Nat.blt d N = true){md':Md}[hmd:MdA md (rO x) [.inl d] md'] (kk:RW P N all Q md' rest ⟨(d,.v (.int .u8 m)) :: ts,hs,n,z0⟩) :
  RW P N all Q md (⟨some d,.convert s t x,ty,pos,af,none⟩ :: rest) ⟨ts,hs,n,z0⟩ := rw_conv hx hd.pf hs'.pf (ltb hN) (by rw [hmd.pf,u8_in _ h]; exact kk)
end
theorem bytF_size (n:Int):(bytF .empty [n]).size = 1 := rfl
theorem sadd_ok {a b:ByteArray}(h:a.size + b.size ≤ 9000000000000000000):sbin .add a b = some (.string (a ++ b)) := if_pos h
def bytF' (l : List Int) : ByteArray := l.foldl (fun r n => r.push (UInt8.ofNat n.toNat)) .empty
def letF (v : Int) : ByteArray := bytF' [97 + v]
def decF (n : Int) : ByteArray := bytF' [48 + n] ++ .empty
theorem bsz_lit (l:List UInt8):ByteArray.size ⟨l.toArray⟩ = l.length := rfl
theorem letF_size (v:Int):(letF v).size = 1 := rfl
theorem decF_size (v:Int):(decF v).size = 1 := by simp [decF,bytF',ByteArray.size_append]
def joinF (out : ByteArray) (k : Nat) (t : ByteArray) : ByteArray := (if 0 < k then out ++ ⟨#[59]⟩ else out) ++ t
mutual
def textS : Stmt → ByteArray
 | .mk op x y n th el =>
  if op = 1 then (letF x ++ ⟨#[61]⟩) ++ decF n
  else if op = 2 then (letF x ++ ⟨#[61,98,111,120,32]⟩) ++ decF n
  else if op = 3 then (letF x ++ ⟨#[61]⟩) ++ letF y
  else if op = 4 then (letF x ++ ⟨#[61,38]⟩) ++ letF y
  else if op = 5 then (letF x ++ ⟨#[61,38,109,117,116,32]⟩) ++ letF y
  else if op = 6 then (letF x ++ ⟨#[61,42]⟩) ++ letF y
  else if op = 7 then ((⟨#[42]⟩ ++ letF x) ++ ⟨#[61]⟩) ++ letF y
  else if op = 8 then ⟨#[100,114,111,112,32]⟩ ++ letF x
  else if op = 10 then (⟨#[108,111,111,112,123]⟩ ++ textA .empty 0 th) ++ ⟨#[125]⟩
  else (((⟨#[105,102,123]⟩ ++ textA .empty 0 th) ++ ⟨#[125,123]⟩) ++ textA .empty 0 el) ++ ⟨#[125]⟩
def textA (out : ByteArray) (k : Nat) : List Stmt → ByteArray
 | [] => out
 | s :: l => textA (joinF out k (textS s)) (k + 1) l
end
def textL (l : List Stmt) : ByteArray := textA .empty 0 l
theorem textA_snoc:∀ (l:List Stmt) (out:ByteArray) (k:Nat) (s:Stmt),textA out k (l ++ [s]) = joinF (textA out k l) (k + l.length) (textS s)
 | [],out,k,s => by simp only [List.nil_append,textA,List.length_nil,Nat.add_zero]
 | x :: l, out, k, s => by
  simp only [List.cons_append,textA,textA_snoc l,List.length_cons]
  rw [show k + 1 + l.length = k + (l.length + 1) from by omega]
theorem textL_succ (l:List Stmt) (k:Nat) (h:k < l.length):textL (l.take (k + 1)) = joinF (textL (l.take k)) k (textS l[k]!):=by
 rw [take_succB _ _ h,textL,textA_snoc,List.length_take,Nat.min_eq_left (by omega),Nat.zero_add]; rfl
theorem textS_def (s:Stmt):textS s = 
  if s.op = 1 then (letF s.x ++ ⟨#[61]⟩) ++ decF s.n
  else if s.op = 2 then (letF s.x ++ ⟨#[61,98,111,120,32]⟩) ++ decF s.n
  else if s.op = 3 then (letF s.x ++ ⟨#[61]⟩) ++ letF s.y
  else if s.op = 4 then (letF s.x ++ ⟨#[61,38]⟩) ++ letF s.y
  else if s.op = 5 then (letF s.x ++ ⟨#[61,38,109,117,116,32]⟩) ++ letF s.y
  else if s.op = 6 then (letF s.x ++ ⟨#[61,42]⟩) ++ letF s.y
  else if s.op = 7 then ((⟨#[42]⟩ ++ letF s.x) ++ ⟨#[61]⟩) ++ letF s.y
  else if s.op = 8 then ⟨#[100,114,111,112,32]⟩ ++ letF s.x
  else if s.op = 10 then (⟨#[108,111,111,112,123]⟩ ++ textL s.th) ++ ⟨#[125]⟩
  else (((⟨#[105,102,123]⟩ ++ textL s.th) ++ ⟨#[125,123]⟩) ++ textL s.el) ++ ⟨#[125]⟩ := by
 cases s;rw [textS]; rfl
mutual
theorem textS_size:∀ s,(textS s).size + 1 ≤ 11 * cntS s
 | .mk op x y n th el => by
  have h1 := textA_size th .empty 0
  have h2 := textA_size el .empty 0
  have h3 : ByteArray.size .empty = 0 := rfl
  rw [textS]
  simp only [cntS]
  repeat' split
  all_goals simp only [ByteArray.size_append,bsz_lit,List.length_cons,List.length_nil,letF_size,decF_size]
  all_goals omega
theorem textA_size:∀ (l:List Stmt) (out:ByteArray) (k:Nat),(textA out k l).size ≤ out.size + 11 * cntL l
 | [],out,k => by simp only [textA,cntL]; omega
 | s :: l, out, k => by
  have h1 := textS_size s
  have h2 := textA_size l (joinF out k (textS s)) (k + 1)
  have h3 : (joinF out k (textS s)).size ≤ out.size + 1 + (textS s).size := by
   unfold joinF;split <;> simp only [ByteArray.size_append,bsz_lit,List.length_cons,List.length_nil] <;> omega
  simp only [textA,cntL]
  omega
end
theorem textL_size (l:List Stmt):(textL l).size ≤ 11 * cntL l:=by
 have := textA_size l .empty 0
 have h3 : ByteArray.size .empty = 0 := rfl
 unfold textL;omega
theorem simple_bd {ts:List Int}{s:Stmt}(ht:typesOk ts = true) (h:simpleF ts s = true):1 ≤ s.op ∧ s.op ≤ 8 ∧ 0 ≤ s.x ∧ s.x ≤ 5 ∧ 0 ≤ s.y ∧ s.y ≤ 5 ∧ (s.op = 1 ∨ s.op = 2 → 0 ≤ s.n ∧ s.n ≤ 9):=by
 have hl := typesOk_len ht
 have hx := typeAt_pos ht s.x
 have hy := typeAt_pos ht s.y
 unfold simpleF at h
 dsimp only at h
 repeat' split at h
 all_goals (first|(simp only [decide_eq_true_eq] at h;omega)|(simp at h;done))
end Go.AL
namespace Go.AL
theorem typeAt_get {ts:List Int}{v:Int}(h:0 < typeAt ts v):typeAt ts v = ts[v.toNat]!:=by
 unfold typeAt at h ⊢
 split at h
 ·rename_i c;rw [if_pos c]
 ·omega
end Go.AL
namespace Go.AL
open Go.RowKit
section
variable {P : Program} {C : Ctx} {ι : Pl} {T : Nat → Option AV} {F : Nat → Prop} {H : Nat → Option (List AV)} {a : Act} {w : World} {o : Oper}
theorem RdL_flat {bad:Nat → Prop}{zs:List Value}(h:zs.all (·.oneCell') = true):∀ n,RdL w bad ι (List.replicate n (zs.map AV.v)).flatten (List.replicate n zs).flatten
 | 0 => by simp [RdL]
 | n + 1 => by
  rw [List.replicate_succ,List.replicate_succ,List.flatten_cons,List.flatten_cons]
  exact RdL.append (RdL_v h) (RdL_flat h n)
theorem ef_clear (gh:HG C ι F H w){t el:TypeId}{x:Operand}{id off n e:Nat}{cs:List AV}{zs:List Value}
  (ho : o.op = .call ⟨.builtin .clear,#[x],#[t]⟩) (hx : Rd w (badOf C.X ι H) ι (.own id off n e) (a.eval x)) (hd : o.dst = none)
  (ht : slOf P t = some el) (he : szOf P el = some e) (hz : zrOf P el = some zs) (hze : zs.length = e)
  (hH : H id = some cs) (h0 : 0 < n) (hl : off + n * e ≤ cs.length) :
  Ef P C ι F H a w o (.tup []) (upd H id (some (spl cs off (List.replicate n (zs.map AV.v)).flatten))) := by
 obtain ⟨i,z,h1,h2,h3,h4⟩ := zrOf_i hz
 have hu := slOf_u ht
 have hsz := szOf_i he h1
 simp only [Rd] at hx
 rcases hx with ⟨_,rfl,_⟩ | ⟨b,β,c,p1,p2,p3,p4⟩
 ·omega
 have hlen : ((List.replicate n (zs.map AV.v)).flatten).length = n * e := by
  rw [List.length_flatten]; simp [hze]
 obtain ⟨w',q1,q2,q3⟩ := store_ok (P := P) gh hH p1 (off := off) (new := (List.replicate n (zs.map AV.v)).flatten) (by rw [hlen]; exact hl) (RdL_flat h4 n)
 have hr : (Builtin.clear_ #[t] o.type #[a.eval x]).run P w = .ok (.tuple #[]) w' := by
  rw [p2]
  cases n with
  | zero => omega
  | succ n =>
   have hzc : (Builtin.zeroCells z.cells (n + 1)).toList = (List.replicate (n + 1) zs).flatten := by rw [zeroCells_list,h3]
   simp [Builtin.clear_,run_und hu,zeroValue,typeInfo,h1,h2,hzc,q1]
 refine ⟨.value (.tuple #[]),.tuple #[],ι,w',?_,.inl ⟨rfl,?_⟩,q2,q3⟩
 ·simp [execOp,ho,resolve,invoke,builtin,hr]
 ·simp only [Rd]; exact ⟨[],rfl,by simp [RdV]⟩
end
section
variable {P : Program} {N : Nat} {Q : Exit → AS → Prop} {all : Array Oper} {rest : List Oper} {ts : List (Nat × AV)} {hs : List (Nat × Option (List AV))} {n : Nat} {z0 : Lo} {md : Md}
variable {d : Nat} {ty : TypeId} {pos : String} {af : Array Edge}
theorem rx_clear {t el id off m e:Nat}{x:Operand}{cs cs':List AV}{zs:List Value}[ht:SlT P t el] [he:SzT P el e] [hz:ZrT P el zs]
  (hx : ev (lk ts) x = some (.own id off m e)) (hze : zs.length = e) (h0 : 0 < m) (hH : lkH hs id = some cs) (hl : off + m * e ≤ cs.length)
  (hcs : spl cs off (List.replicate m (zs.map AV.v)).flatten = cs') {md' : Md} [hmd : MdA md (rO x ++ [.inr id]) [.inr id] md'] (kk : RW P N all Q md' rest ⟨ts,(id,some cs') :: hs,n,z0⟩) :
  RW P N all Q md (⟨none,.call ⟨.builtin .clear,#[x],#[t]⟩,ty,pos,af,none⟩ :: rest) ⟨ts,hs,n,z0⟩ := by
 subst hcs
 exact rw_ef (rs := rO x ++ [.inr id]) (ws := [(id, some (spl cs off (List.replicate m (zs.map AV.v)).flatten))]) (n' := n) (out := .tup []) rfl (fun _ h => by cases h) (Nat.le_refl n) (.inl rfl)
  (fun C ι F T H a w ag hF g gh => ef_same (ef_clear gh rfl (ev_ok g (ag.l.ev.trans hx)) rfl ht.pf he.pf hz.pf hze ((ag.r.h id (by simp)).trans hH) h0 hl)) (by
   show RW P N all Q (md.add (rO x ++ [.inr id]) [.inr id]) rest ⟨ts,(id,some (spl cs off (List.replicate m (zs.map AV.v)).flatten)) :: hs,n,z0⟩
   rw [hmd.pf]; exact kk)
end
end Go.AL
namespace Go.AL
section
variable {P : Program} {N : Nat} {Q : Exit → AS → Prop} {all : Array Oper} {rest : List Oper} {ts : List (Nat × AV)} {hs : List (Nat × Option (List AV))} {n : Nat} {z0 : Lo} {md : Md}
variable {d : Nat} {ty : TypeId} {pos : String} {af : Array Edge}
theorem run_eqNil (w:World) (t el:TypeId) (hu:P.underlying t = some (.slice el)) (a:Option Addr) (m c:Nat):(binOp .eql t (.slice a m c) (.slice none 0 0)).run P w = .ok (.bool a.isNone) w:=by
 have h0 : ∀ d : Nat, (Op.equalIn (d + 1) t (.slice a m c) (.slice none 0 0)).run P w = .ok a.isNone w := fun d => by
  cases a <;> simp [Op.equalIn,run_und hu]
 have h := h0 9999
 simp only [binOp]
 simp [Op.equal,Op.maxDepth,h]
theorem rx_eqNil {t t' el:TypeId}{x:Operand}{m:Nat}{cs:List AV}[ht:SlT P t el] (hx:ev (lk ts) x = some (.imm m cs)) (hN:Nat.blt d N = true)
  (kk : ∀ b : Bool,(b = true → m = 0) → RW P N all Q .txt rest ⟨(d,.v (.bool b)) :: ts,hs,n,z0⟩) : RW P N all Q .txt (⟨some d,.binOp .eql t x (.const (.slice none 0 0)) t',ty,pos,af,none⟩ :: rest) ⟨ts,hs,n,z0⟩ := by
 rintro C a w hCN ⟨h0,ι,g,gh⟩
 refine wpList_plain rfl (fun K hK => ?_)
 have h1 := ev_ok g hx
 simp only [Rd] at h1
 obtain ⟨a',c,h2,h3⟩ := h1
 have hu := slOf_u ht.pf
 have hb : a'.isNone = true → m = 0 := fun hn => by
  rcases h3 with h3 | ⟨b,o,_,rfl,_⟩
  ·exact h3
  ·cases hn
 have hg : (eqGuard .eql t x (.const (.slice none 0 0)) (.slice a' m c) (.slice none 0 0)).run P w = .ok () w := by simp [eqGuard]
 have hr : (execOp a.eval ⟨some d, .binOp .eql t x (.const (.slice none 0 0)) t', ty, pos, af, none⟩).run P w = .ok (.value (.bool a'.isNone)) w := by
  have e2 : a.eval (.const (.slice none 0 0)) = .slice none 0 0 := rfl
  simp only [execOp,h2,e2,Sem.run_bind,hg,Result.andThen_ok,run_eqNil w t el hu,Sem.run_pure]
 simp only [Oper.wp,hr,Oper.upon]
 refine hK _ _ (kk a'.isNone hb C _ _ hCN ⟨h0,ι,?_,gh⟩)
 show TG C ι (lk ((d,AV.v (.bool a'.isNone)) :: ts)) _ _ _
 rw [lk_cons]
 exact g.put (by have := ltb hN;omega) (by simp [Rd])
end
theorem sC_tail {α:Type}{f:α → List AV}{e:Nat}[h:FlT f e] {hs:List (Nat × Option (List AV))}{xs:List α}{i k n:Nat}(hH:lkH hs i = some (flat f xs)) (hn:n = xs.length - k):sCells (lkH hs) e (kAV (.own i (0 + k * e) n e)) = some (n,flat f (xs.drop k)):=by
 show ((lkH hs i).bind fun cs => if n * e ≤ (cs.drop (0 + k * e)).length then some (n,(cs.drop (0 + k * e)).take (n * e)) else none) = _
 rw [hH,Option.bind_some,Nat.zero_add]
 have h1 : (flat f xs).length = xs.length * e := flat_length f xs
 have h3 : (flat f xs).drop (k * e) = flat f (xs.drop k) := by
  have h4 : flat f xs = flat f (xs.take k) ++ flat f (xs.drop k) := by rw [flat_append,List.take_append_drop]
  have h5 : (flat f (xs.take k)).length = (xs.take k).length * e := flat_length f _
  by_cases hk : k ≤ xs.length
  ·rw [h4,← show (flat f (xs.take k)).length = k * e from by rw [h5,List.length_take]; congr 1;omega,List.drop_left]
  ·rw [List.drop_of_length_le (by rw [h1]; exact Nat.mul_le_mul_right _ (by omega)),List.drop_of_length_le (by omega)]; rfl
 rw [h3]
 have h2 : (flat f (xs.drop k)).length = (xs.length - k) * e := by rw [flat_length f (e := e),List.length_drop]
 rw [h2,hn,if_pos (Nat.le_refl _),List.take_of_length_le (by rw [h2]; exact Nat.le_refl _)]
theorem bnd_to {T:Nat → Option AV}{x:Operand}{dd:Nat}{k:IntKind}{m:Int}{h:Nat}(hx:ev T x = some (.v (.int k m))) (e:m = (h:Int)):bndA T (some x) dd = some h:=by
 simp only [bndA,hx]; rw [if_pos (by omega)]; congr 1;omega
def stpW (pts : List Pnt) (a : Nat) (cs : List Int) : Nat × List Int :=
 if pts[a]!.next.length = 2 then
  match cs with
  | [] => ((pts[a]!.next[1]!).toNat,[])
  | c :: cs => ((pts[a]!.next[(c % 2).toNat]!).toNat,cs)
 else ((pts[a]!.next[0]!).toNat,cs)
def wayF (pts : List Pnt) : Nat → Nat → List Int → List Nat × Bool
 | 0,a,_ => if pts[a]!.op = 11 then ([a],true) else ([],false)
 | n + 1,a,cs => if pts[a]!.op = 11 then ([a],true) else (a :: (wayF pts n (stpW pts a cs).1 (stpW pts a cs).2).1,(wayF pts n (stpW pts a cs).1 (stpW pts a cs).2).2)
structure Mc where
 slots : List Sl
 cells : List Cl
 read : List Int
 deriving Inhabited
def sl0 : Sl := ⟨false,0,⟨0,0⟩⟩
def endK (k : Int) : Int := if k = 1 then 3 else 4
def goK (k : Int) : Int := if k = 0 then -1 else endK k
def putF (ts : List Int) (s : Mc) (v : Nat) (x : Sl) : Mc × Int :=
 if ts[v]! = 2 ∧ s.slots[v]!.set = true then (⟨s.slots.set v x,frM s.cells s.slots[v]!.ptr,s.read⟩,goK (tchK s.cells s.slots[v]!.ptr true))
 else (⟨s.slots.set v x,s.cells,s.read⟩,-1)
def unsF (ts : List Int) (s : Mc) (x : Pnt) : Bool := (List.range ts.length).any fun v => decide (useAt ts x v ≠ 0) && !s.slots[v]!.set
def finF (ts : List Int) : Nat → Nat → Mc → Mc × Int
 | 0,_,s => (s,0)
 | n + 1, v, s => if ts[v]! = 2 ∧ s.slots[v]!.set = true then
   (if tchK s.cells s.slots[v]!.ptr true = 0 then finF ts n (v + 1) ⟨s.slots.set v sl0,frM s.cells s.slots[v]!.ptr,s.read⟩ else (⟨s.slots,frM s.cells s.slots[v]!.ptr,s.read⟩,endK (tchK s.cells s.slots[v]!.ptr true)))
  else finF ts n (v + 1) s
def doF (ts : List Int) (s : Mc) (x : Pnt) : Mc × Int :=
 if x.op = 1 then putF ts s x.x.toNat ⟨true,x.n,⟨0,0⟩⟩
 else if x.op = 2 then (if s.cells.length = 200 then (s,1) else putF ts ⟨s.slots,s.cells ++ [nwC x.n],s.read⟩ x.x.toNat ⟨true,0,⟨s.cells.length,0⟩⟩)
 else if x.op = 3 then putF ts (if tkT ts[x.y.toNat]! = true then ⟨s.slots.set x.y.toNat sl0,s.cells,s.read⟩ else s) x.x.toNat s.slots[x.y.toNat]!
 else if x.op = 4 ∨ x.op = 5 then
  (if lnK s.cells s.slots[x.y.toNat]!.ptr (decide (x.op = 5)) = 0 then putF ts ⟨s.slots, lnM s.cells s.slots[x.y.toNat]!.ptr (decide (x.op = 5)), s.read⟩ x.x.toNat ⟨true, 0, lnP s.cells s.slots[x.y.toNat]!.ptr (decide (x.op = 5))⟩
   else (s,endK (lnK s.cells s.slots[x.y.toNat]!.ptr (decide (x.op = 5)))))
 else if x.op = 6 then
  (if tchK s.cells s.slots[x.y.toNat]!.ptr false = 0 then putF ts ⟨s.slots, tchM s.cells s.slots[x.y.toNat]!.ptr false, s.read ++ [rdN s.cells s.slots[x.y.toNat]!.ptr]⟩ x.x.toNat ⟨true, rdN s.cells s.slots[x.y.toNat]!.ptr, ⟨0, 0⟩⟩
   else (s,endK (tchK s.cells s.slots[x.y.toNat]!.ptr false)))
 else if x.op = 7 then (⟨s.slots,wrM s.cells s.slots[x.x.toNat]!.ptr s.slots[x.y.toNat]!.num,s.read⟩,goK (wrK s.cells s.slots[x.x.toNat]!.ptr s.slots[x.y.toNat]!.num))
 else if x.op = 8 then (⟨s.slots.set x.x.toNat sl0,frM s.cells s.slots[x.x.toNat]!.ptr,s.read⟩,goK (tchK s.cells s.slots[x.x.toNat]!.ptr true))
 else if x.op = 11 then finF ts ts.length 0 s
 else (s,-1)
def runF (ts : List Int) (pts : List Pnt) : List Nat → Mc → Nat → Mc × Int × Nat
 | [],s,last => (s,1,last)
 | a :: l, s, _ => if unsF ts s pts[a]! = true then (s, 2, a)
  else if (doF ts s pts[a]!).2 = -1 then runF ts pts l (doF ts s pts[a]!).1 a
  else ((doF ts s pts[a]!).1,(doF ts s pts[a]!).2,a)
def mc0 (nt : Nat) : Mc := ⟨List.replicate nt sl0,[],[]⟩
def runP (ts : List Int) (pts : List Pnt) (cs : List Int) (most : Nat) : Mc × Int × Nat := runF ts pts (wayF pts most 0 cs).1 (mc0 ts.length) 0
structure OkS (nt : Nat) (s : Mc) : Prop where
 m : OkM s.cells
 l : s.slots.length = nt
theorem OkS.put {ts:List Int}{nt:Nat}{s:Mc}(h:OkS nt s) (v:Nat) (x:Sl):OkS nt (putF ts s v x).1:=by
 unfold putF;split
 ·exact ⟨h.m.fr _,by show (s.slots.set v x).length = nt;rw [List.length_set]; exact h.l⟩
 ·exact ⟨h.m,by show (s.slots.set v x).length = nt;rw [List.length_set]; exact h.l⟩
theorem OkS.fin {ts:List Int}{nt:Nat}:∀ n v (s:Mc),OkS nt s → OkS nt (finF ts n v s).1
 | 0,_,_,h => h
 | n + 1, v, s, h => by
  unfold finF;split
  ·split
   ·exact OkS.fin n _ _ ⟨h.m.fr _,by show (s.slots.set v sl0).length = nt;rw [List.length_set]; exact h.l⟩
   ·exact ⟨h.m.fr _,h.l⟩
  ·exact OkS.fin n _ _ h
structure PtN (x : Pnt) : Prop where
 n : x.op = 2 → 0 ≤ x.n ∧ x.n ≤ 9
theorem OkS.do {ts:List Int}{nt:Nat}{s:Mc}(h:OkS nt s){x:Pnt}(hx:PtN x):OkS nt (doF ts s x).1:=by
 have hl : ∀ (v : Nat) (y : Sl),(s.slots.set v y).length = nt := fun v y => by rw [List.length_set]; exact h.l
 unfold doF
 split
 ·exact h.put _ _
 split
 ·rename_i h2
  split
  ·exact h
  ·rename_i h3
   refine OkS.put ?_ _ _
   exact ⟨h.m.nw (hx.n h2) (by have := h.m.l;omega),h.l⟩
 split
 ·split
  ·refine OkS.put ?_ _ _
   exact ⟨h.m,hl _ _⟩
  ·exact h.put _ _
 split
 ·split
  ·refine OkS.put ?_ _ _
   exact ⟨h.m.ln _ _,h.l⟩
  ·exact h
 split
 ·split
  ·refine OkS.put ?_ _ _
   exact ⟨h.m.tch _ _,h.l⟩
  ·exact h
 split
 ·exact ⟨h.m.wr _ _,h.l⟩
 split
 ·exact ⟨h.m.fr _,hl _ _⟩
 split
 ·exact OkS.fin _ _ _ h
 ·exact h
theorem OkS.mc0 (nt:Nat):OkS nt (mc0 nt) := ⟨⟨by simp [Go.AL.mc0],by simp [Go.AL.mc0]⟩,by simp [Go.AL.mc0]⟩
theorem OkS.run {ts:List Int}{pts:List Pnt}{nt:Nat}(hp:∀ a:Nat,PtN pts[a]!):∀ (l:List Nat) (s:Mc) (last:Nat),OkS nt s → OkS nt (runF ts pts l s last).1
 | [],_,_,h => h
 | a :: l, s, _, h => by
  unfold runF;split
  ·exact h
  ·split
   ·exact OkS.run hp l _ _ (h.do (hp a))
   ·exact h.do (hp a)
theorem goK_ne (k:Int):goK k = -1 ∨ goK k = 3 ∨ goK k = 4 := by unfold goK endK;split;exact .inl rfl;split;exact .inr (.inl rfl);exact .inr (.inr rfl)
theorem endK_ne (k:Int):endK k = 3 ∨ endK k = 4 := by unfold endK;split;exact .inl rfl;exact .inr rfl
theorem put_end (ts:List Int) (s:Mc) (v:Nat) (x:Sl):(putF ts s v x).2 = -1 ∨ (putF ts s v x).2 = 3 ∨ (putF ts s v x).2 = 4:=by
 unfold putF;split
 ·exact goK_ne _
 ·exact .inl rfl
theorem do_end {ts:List Int}{s:Mc}{x:Pnt}(h:x.op ≠ 11):(doF ts s x).2 = -1 ∨ (doF ts s x).2 = 1 ∨ (doF ts s x).2 = 3 ∨ (doF ts s x).2 = 4:=by
 have p := fun s v y => put_end ts s v y
 have p' : ∀ s v y, (putF ts s v y).2 = -1 ∨ (putF ts s v y).2 = 1 ∨ (putF ts s v y).2 = 3 ∨ (putF ts s v y).2 = 4 := fun s v y => by
  rcases p s v y with h|h|h
  ·exact .inl h
  ·exact .inr (.inr (.inl h))
  ·exact .inr (.inr (.inr h))
 have g : ∀ k, goK k = -1 ∨ goK k = 1 ∨ goK k = 3 ∨ goK k = 4 := fun k => by
  rcases goK_ne k with h|h|h
  ·exact .inl h
  ·exact .inr (.inr (.inl h))
  ·exact .inr (.inr (.inr h))
 have e : ∀ k,endK k = -1 ∨ endK k = 1 ∨ endK k = 3 ∨ endK k = 4 := fun k => .inr (.inr (endK_ne k))
 unfold doF
 rw [if_neg h]
 split
 ·exact p' _ _ _
 split
 ·split
  ·exact .inr (.inl rfl)
  ·exact p' _ _ _
 split
 ·exact p' _ _ _
 split
 ·split
  ·exact p' _ _ _
  ·exact e _
 split
 ·split
  ·exact p' _ _ _
  ·exact e _
 split
 ·exact g _
 split
 ·exact g _
 exact .inl rfl
theorem fin_end (ts:List Int):∀ n v (s:Mc),(finF ts n v s).2 = 0 ∨ (finF ts n v s).2 = 3 ∨ (finF ts n v s).2 = 4
 | 0,_,_ => .inl rfl
 | n + 1, v, s => by
  unfold finF;split
  ·split
   ·exact fin_end ts n _ _
   ·exact .inr (endK_ne _)
  ·exact fin_end ts n _ _
theorem do_11 {ts:List Int}{s:Mc}{x:Pnt}(h:x.op = 11):doF ts s x = finF ts ts.length 0 s:=by
 unfold doF;simp [h]
theorem tchM_len (m:List Cl) (x:Pt) (b:Bool):(tchM m x b).length = m.length := by unfold tchM;split <;> simp
end Go.AL
