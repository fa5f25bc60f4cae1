/-
 A part of the proofs over this program: rules and contracts of its functions (the rules).
-/
import Derived.WalkKit
set_option linter.unusedVariables false
set_option linter.unusedSimpArgs false
namespace Go.AL
open Go.RowKit
inductive AV where
 | v (x : Value)
 | any
 | imm (n : Nat) (cs : List AV)
 | iptr (cs : List AV)
 | own (id off n esz : Nat)
 | optr (id off : Nat)
 | agg (cs : List AV)
 | tup (cs : List AV)
 | clos (fn : Fn) (first captured : List AV)
 | ownc (id off n c esz : Nat)
 deriving Inhabited
def bsz (w : World) (b : Nat) : Nat := match w.heap[b]? with | some (.cells c _ _) => c.size | _ => 0
abbrev Pl := Nat → Option (Option (Nat × Nat))
mutual
def Rd (w : World) (bad : Nat → Prop) (ι : Pl) : AV → Value → Prop
 | .v x,y => y = x
 | .any,y => y.oneCell' = true
 | .imm n cs,y => ∃ a c,y = .slice a n c ∧ (n = 0 ∨ ∃ b o,n ≤ c ∧ a = some ⟨b,o,none⟩ ∧ (cs = [] ∨ ¬ bad b ∧ RdC w bad ι cs b o))
 | .iptr cs,y => ∃ b o,y = .pointer (some ⟨b,o,none⟩) ∧ (cs = [] ∨ ¬ bad b ∧ RdC w bad ι cs b o)
 | .own id off n e, y => ((∃ p, ι id = some p) ∧ n = 0 ∧ ∃ a, y = .slice a 0 0) ∨
   ∃ b β c,ι id = some (some (b,β)) ∧ y = .slice (some ⟨b,β + off,none⟩) n c ∧ n ≤ c ∧ β + off + c * e ≤ bsz w b
 | .optr id off,y => ∃ b β,ι id = some (some (b,β)) ∧ y = .pointer (some ⟨b,β + off,none⟩)
 | .agg cs,y => ∃ l : List Value,y = .agg l.toArray ∧ RdL w bad ι cs l
 | .tup cs,y => ∃ l : List Value,y = .tuple l.toArray ∧ RdV w bad ι cs l
 | .clos fn f c,y => ∃ lf lc : List Value,y = .func fn lf.toArray lc.toArray ∧ RdV w bad ι f lf ∧ RdV w bad ι c lc
 | .ownc id off n c e,y => ∃ b β k,ι id = some (some (b,β)) ∧ y = .slice (some ⟨b,β + off,none⟩) n k ∧ n ≤ c ∧ c ≤ k ∧ β + off + k * e ≤ bsz w b
def RdC (w : World) (bad : Nat → Prop) (ι : Pl) : List AV → Nat → Nat → Prop
 | [],_,_ => True
 | c :: cs,b,o => (∃ x,w.cell? ⟨b,o,none⟩ = some x ∧ x.oneCell' = true ∧ Rd w bad ι c x) ∧ RdC w bad ι cs b (o + 1)
def RdL (w : World) (bad : Nat → Prop) (ι : Pl) : List AV → List Value → Prop
 | [],l => l = []
 | c :: cs,l => ∃ x l',l = x :: l' ∧ x.oneCell' = true ∧ Rd w bad ι c x ∧ RdL w bad ι cs l'
def RdV (w : World) (bad : Nat → Prop) (ι : Pl) : List AV → List Value → Prop
 | [],l => l = []
 | c :: cs,l => ∃ x l',l = x :: l' ∧ Rd w bad ι c x ∧ RdV w bad ι cs l'
end
structure Carry (w : World) (bad : Nat → Prop) (ι : Pl) (w' : World) (bad' : Nat → Prop) (ι' : Pl) : Prop where
 cell : ∀ b o x,¬ bad b → w.cell? ⟨b,o,none⟩ = some x → ¬ bad' b ∧ w'.cell? ⟨b,o,none⟩ = some x
 pl : ∀ id p,ι id = some p → ι' id = some p
 bs : ∀ b,bsz w b ≤ bsz w' b
variable {w w' : World} {bad bad' : Nat → Prop} {ι ι' : Pl}
mutual
theorem Rd.carry (k:Carry w bad ι w' bad' ι'):∀ (av:AV) (y:Value),Rd w bad ι av y → Rd w' bad' ι' av y
 | .v x,y,h => by simpa only [Rd] using h
 | .any,y,h => by simpa only [Rd] using h
 | .imm n cs, y, h => by
  simp only [Rd] at h ⊢
  obtain ⟨a,c,rfl,h⟩ := h
  refine ⟨a,c,rfl,?_⟩
  rcases h with h | ⟨b,o,hn,rfl,h⟩
  ·exact .inl h
  ·refine .inr ⟨b, o, hn, rfl, ?_⟩
   rcases h with h | ⟨hb,h⟩
   ·exact .inl h
   ·cases cs with
    | nil => exact .inl rfl
    | cons c1 cs =>
     refine .inr ⟨?_,RdC.carryB k _ _ _ (fun o x hx => (k.cell b o x hb hx).2) h⟩
     simp only [RdC] at h
     obtain ⟨⟨x,hx,_⟩,_⟩ := h
     exact (k.cell b o x hb hx).1
 | .iptr cs, y, h => by
  simp only [Rd] at h ⊢
  obtain ⟨b,o,rfl,h⟩ := h
  refine ⟨b,o,rfl,?_⟩
  rcases h with h | ⟨hb,h⟩
  ·exact .inl h
  ·cases cs with
   | nil => exact .inl rfl
   | cons c1 cs =>
    refine .inr ⟨?_,RdC.carryB k _ _ _ (fun o x hx => (k.cell b o x hb hx).2) h⟩
    simp only [RdC] at h
    obtain ⟨⟨x,hx,_⟩,_⟩ := h
    exact (k.cell b o x hb hx).1
 | .own id off n e, y, h => by
  simp only [Rd] at h ⊢
  rcases h with ⟨⟨p,h1⟩,h2⟩ | ⟨b,β,c,h1,h2,h3,h4⟩
  ·exact .inl ⟨⟨p,k.pl _ _ h1⟩,h2⟩
  ·exact .inr ⟨b,β,c,k.pl _ _ h1,h2,h3,Nat.le_trans h4 (k.bs b)⟩
 | .optr id off, y, h => by
  simp only [Rd] at h ⊢
  obtain ⟨b,β,h1,h2⟩ := h
  exact ⟨b,β,k.pl _ _ h1,h2⟩
 | .agg cs, y, h => by
  simp only [Rd] at h ⊢
  obtain ⟨l,h1,h2⟩ := h
  exact ⟨l,h1,RdL.carry k _ _ h2⟩
 | .tup cs, y, h => by
  simp only [Rd] at h ⊢
  obtain ⟨l,h1,h2⟩ := h
  exact ⟨l,h1,RdV.carry k _ _ h2⟩
 | .clos fn f c, y, h => by
  simp only [Rd] at h ⊢
  obtain ⟨l,l2,h1,h2,h3⟩ := h
  exact ⟨l,l2,h1,RdV.carry k _ _ h2,RdV.carry k _ _ h3⟩
 | .ownc id off n c e, y, h => by
  simp only [Rd] at h ⊢
  obtain ⟨b,β,q,h1,h2,h3,h4,h5⟩ := h
  exact ⟨b,β,q,k.pl _ _ h1,h2,h3,h4,Nat.le_trans h5 (k.bs b)⟩
theorem RdC.carryB (k:Carry w bad ι w' bad' ι'):∀ (cs:List AV) (b o:Nat),(∀ o x,w.cell? ⟨b,o,none⟩ = some x → w'.cell? ⟨b,o,none⟩ = some x) → RdC w bad ι cs b o → RdC w' bad' ι' cs b o
 | [],b,o,_,h => by simp only [RdC]
 | c :: cs, b, o, hb, h => by
  simp only [RdC] at h ⊢
  obtain ⟨⟨x,hx,h1,h2⟩,h3⟩ := h
  exact ⟨⟨x,hb o x hx,h1,Rd.carry k _ _ h2⟩,RdC.carryB k _ _ _ hb h3⟩
theorem RdL.carry (k:Carry w bad ι w' bad' ι'):∀ (cs:List AV) (l:List Value),RdL w bad ι cs l → RdL w' bad' ι' cs l
 | [],l,h => by simpa only [RdL] using h
 | c :: cs, l, h => by
  simp only [RdL] at h ⊢
  obtain ⟨x,l',h0,h1,h2,h3⟩ := h
  exact ⟨x,l',h0,h1,Rd.carry k _ _ h2,RdL.carry k _ _ h3⟩
theorem RdV.carry (k:Carry w bad ι w' bad' ι'):∀ (cs:List AV) (l:List Value),RdV w bad ι cs l → RdV w' bad' ι' cs l
 | [],l,h => by simpa only [RdV] using h
 | c :: cs, l, h => by
  simp only [RdV] at h ⊢
  obtain ⟨x,l',h0,h2,h3⟩ := h
  exact ⟨x,l',h0,Rd.carry k _ _ h2,RdV.carry k _ _ h3⟩
end
theorem Carry.refl (w:World) (bad:Nat → Prop) (ι:Pl):Carry w bad ι w bad ι := ⟨fun _ _ _ h1 h2 => ⟨h1,h2⟩,fun _ _ h => h,fun _ => Nat.le_refl _⟩
theorem Carry.trans {w1 w2 w3:World}{b1 b2 b3:Nat → Prop}{i1 i2 i3:Pl}(h:Carry w1 b1 i1 w2 b2 i2) (k:Carry w2 b2 i2 w3 b3 i3):Carry w1 b1 i1 w3 b3 i3 :=
 ⟨fun b o x h1 h2 => k.cell b o x (h.cell b o x h1 h2).1 (h.cell b o x h1 h2).2,fun id p hp => k.pl id p (h.pl id p hp),fun b => Nat.le_trans (h.bs b) (k.bs b)⟩
def upd {α : Type} (f : Nat → α) (i : Nat) (x : α) : Nat → α := fun j => if j = i then x else f j
@[simp] theorem upd_same {α : Type} (f : Nat → α) (i : Nat) (x : α) : upd f i x i = x := by simp [upd]
theorem upd_ne {α:Type}(f:Nat → α){i j:Nat}(x:α) (h:j ≠ i):upd f i x j = f j := by simp [upd,h]
def badOf (X : Nat → Prop) (ι : Pl) (H : Nat → Option (List AV)) (b : Nat) : Prop := X b ∨ ∃ id cs β,H id = some cs ∧ ι id = some (some (b,β))
structure Ctx where
 N : Nat
 w0 : World
 W0 : Nat → Prop
 X : Nat → Prop
 ι0 : Pl
 xlt : ∀ b,X b → b < w0.heap.size
structure Fr (W0 : Nat → Prop) (w0 w : World) : Prop where
 os : w.os = w0.os
 tape : w.tape = w0.tape
 output : w.output = w0.output
 size : w0.heap.size ≤ w.heap.size
 block : ∀ k,k < w0.heap.size → ¬ W0 k → w.heap[k]? = w0.heap[k]?
 bs : ∀ b,bsz w0 b ≤ bsz w b
theorem Fr.refl (W0:Nat → Prop) (w:World):Fr W0 w w := ⟨rfl,rfl,rfl,Nat.le_refl _,fun _ _ _ => rfl,fun _ => Nat.le_refl _⟩
structure HG (C : Ctx) (ι : Pl) (F : Nat → Prop) (H : Nat → Option (List AV)) (w : World) : Prop where
 obj : ∀ id cs, H id = some cs → (ι id = some none ∧ cs = []) ∨ ∃ b β arr e, ι id = some (some (b, β)) ∧ w.heap[b]? = some (.cells arr e (0, 0)) ∧ β + cs.length ≤ arr.size ∧
  RdC w (badOf C.X ι H) ι cs b β ∧ ¬ C.X b ∧ (C.W0 b ∨ C.w0.heap.size ≤ b)
 sep : ∀ id id' cs cs' b β β',H id = some cs → H id' = some cs' → ι id = some (some (b,β)) → ι id' = some (some (b,β')) → id = id'
 fr : Fr C.W0 C.w0 w
 ex : ∀ id p,C.ι0 id = some p → ι id = some p
 fresh : ∀ id,F id → ι id = none
structure TG (C : Ctx) (ι : Pl) (T : Nat → Option AV) (H : Nat → Option (List AV)) (a : Act) (w : World) : Prop where
 df : a.defers = []
 sz : a.tmps.size = C.N
 tm : ∀ t av,T t = some av → ∃ y,a.tmps[t]? = some y ∧ Rd w (badOf C.X ι H) ι av y
theorem TG.carry {C:Ctx}{ι ι':Pl}{T:Nat → Option AV}{H H':Nat → Option (List AV)}{a:Act}{w w':World}(h:TG C ι T H a w)
  (k : Carry w (badOf C.X ι H) ι w' (badOf C.X ι' H') ι') : TG C ι' T H' a w' :=
 ⟨h.df,h.sz,fun t av ht => let ⟨y,h1,h2⟩ := h.tm t av ht; ⟨y,h1,Rd.carry k _ _ h2⟩⟩
theorem TG.put {C:Ctx}{ι:Pl}{T:Nat → Option AV}{H:Nat → Option (List AV)}{a:Act}{w:World}(h:TG C ι T H a w){d:Nat}(hd:d < C.N)
  {av : AV} {y : Value} (hy : Rd w (badOf C.X ι H) ι av y) : TG C ι (upd T d (some av)) H (a.put (some d) y) w := by
 refine ⟨h.df,by simp [Act.put,h.sz],fun t av' ht => ?_⟩
 simp only [Act.put]
 by_cases e : t = d
 ·subst e
  simp only [upd_same,Option.some.injEq] at ht
  subst ht
  exact ⟨y,by simp [h.sz,hd],hy⟩
 ·rw [upd_ne _ _ e] at ht
  obtain ⟨y',h1,h2⟩ := h.tm t av' ht
  exact ⟨y',by rw [Array.getElem?_setIfInBounds_ne (by omega)]; exact h1,h2⟩
theorem TG.less {C:Ctx}{ι:Pl}{T T':Nat → Option AV}{H:Nat → Option (List AV)}{a:Act}{w:World}(h:TG C ι T H a w)
  (k : ∀ t av,T' t = some av → T t = some av) : TG C ι T' H a w := ⟨h.df,h.sz,fun t av ht => h.tm t av (k t av ht)⟩
theorem RdL.length {w:World}{bad:Nat → Prop}{ι:Pl}:∀ {cs:List AV}{l:List Value},RdL w bad ι cs l → l.length = cs.length
 | [],l,h => by simp only [RdL] at h;simp [h]
 | c :: cs, l, h => by
  simp only [RdL] at h
  obtain ⟨x,l',rfl,_,_,h⟩ := h
  simp [RdL.length h]
theorem RdC.of_list {w:World}{bad:Nat → Prop}{ι:Pl}{b:Nat}{arr:Array Value}{e:TypeId}{fz:Nat × Nat}(hb:w.heap[b]? = some (.cells arr e fz)) :
  ∀ {cs : List AV} {l pre post : List Value},arr.toList = pre ++ l ++ post → RdL w bad ι cs l → RdC w bad ι cs b pre.length
 | [],l,pre,post,_,_ => by simp only [RdC]
 | c :: cs, l, pre, post, hl, h => by
  simp only [RdL] at h
  obtain ⟨x,l',rfl,h0,h1,h⟩ := h
  simp only [RdC]
  refine ⟨⟨x,?_,h0,h1⟩,?_⟩
  ·rw [World.cell?]
   simp only [hb]
   rw [← Array.getElem?_toList,hl]
   simp
  ·have := RdC.of_list hb (cs := cs) (l := l') (pre := pre ++ [x]) (post := post) (by simp [hl]) h
   simpa using this
theorem RdC.to_list {w:World}{bad:Nat → Prop}{ι:Pl}{b:Nat}:∀ {cs:List AV}{o:Nat},RdC w bad ι cs b o →
  ∃ l,RdL w bad ι cs l ∧ ∀ j v,l[j]? = some v → w.cell? ⟨b,o + j,none⟩ = some v
 | [],o,_ => ⟨[],by simp only [RdL],fun j v h => by simp at h⟩
 | c :: cs, o, h => by
  simp only [RdC] at h
  obtain ⟨⟨x,hx,h0,h1⟩,h⟩ := h
  obtain ⟨l,h2,h3⟩ := RdC.to_list h
  refine ⟨x :: l,by simp only [RdL]; exact ⟨x,l,rfl,h0,h1,h2⟩,fun j v hj => ?_⟩
  cases j with
  | zero => simp at hj;subst hj;exact hx
  | succ j =>
   have := h3 j v (by simpa using hj)
   rw [show o + (j + 1) = o + 1 + j from by omega]; exact this
theorem RdC.drop {w:World}{bad:Nat → Prop}{ι:Pl}{b:Nat}:∀ {cs:List AV}{o:Nat}(k:Nat),k ≤ cs.length → RdC w bad ι cs b o → RdC w bad ι (cs.drop k) b (o + k)
 | cs,o,0,_,h => by simpa using h
 | [],o,k + 1,hk,_ => by simp at hk
 | c :: cs, o, k + 1, hk, h => by
  simp only [RdC] at h
  have := RdC.drop k (by simpa using hk) h.2
  rw [List.drop_succ_cons,show o + (k + 1) = o + 1 + k from by omega]; exact this
theorem RdC.take {w:World}{bad:Nat → Prop}{ι:Pl}{b:Nat}:∀ {cs:List AV}{o:Nat}(k:Nat),RdC w bad ι cs b o → RdC w bad ι (cs.take k) b o
 | cs,o,0,h => by simp [RdC]
 | [],o,k + 1,_ => by simp [RdC]
 | c :: cs, o, k + 1, h => by
  simp only [RdC,List.take_succ_cons] at h ⊢
  exact ⟨h.1,RdC.take k h.2⟩
theorem RdL.append {w:World}{bad:Nat → Prop}{ι:Pl}:∀ {cs cs':List AV}{l l':List Value},RdL w bad ι cs l → RdL w bad ι cs' l' → RdL w bad ι (cs ++ cs') (l ++ l')
 | [],cs',l,l',h,h' => by simp only [RdL] at h;subst h;simpa using h'
 | c :: cs, cs', l, l', h, h' => by
  simp only [RdL] at h
  obtain ⟨x,l2,rfl,h0,h1,h⟩ := h
  simp only [List.cons_append,RdL]
  exact ⟨x,_,rfl,h0,h1,RdL.append h h'⟩
theorem RdC.append {w:World}{bad:Nat → Prop}{ι:Pl}{b:Nat}:∀ {cs cs':List AV}{o:Nat},RdC w bad ι cs b o → RdC w bad ι cs' b (o + cs.length) → RdC w bad ι (cs ++ cs') b o
 | [],cs',o,_,h' => by simpa using h'
 | c :: cs, cs', o, h, h' => by
  simp only [RdC,List.cons_append] at h ⊢
  refine ⟨h.1,RdC.append h.2 ?_⟩
  rw [show o + 1 + cs.length = o + (c :: cs).length from by simp;omega]; exact h'
theorem bsz_heap {w w':World}{b:Nat}(h:w'.heap[b]? = w.heap[b]?):bsz w' b = bsz w b := by simp [bsz,h]
theorem cell?_heap {w w':World}{b:Nat}(h:w'.heap[b]? = w.heap[b]?) (o:Nat):w'.cell? ⟨b,o,none⟩ = w.cell? ⟨b,o,none⟩ := World.cell?_of_block (a := ⟨b,o,none⟩) h
theorem lt_of_cell {w:World}{b o:Nat}{x:Value}(h:w.cell? ⟨b,o,none⟩ = some x):b < w.heap.size := World.block_lt_of_cell? w ⟨b,o,none⟩ h
theorem lt_of_heap {w:World}{b:Nat}{o:Obj}(h:w.heap[b]? = some o):b < w.heap.size:=by
 rcases Nat.lt_or_ge b w.heap.size with h'|h'
 ·exact h'
 ·rw [Array.getElem?_eq_none h'] at h;cases h
theorem HG.alloc {C:Ctx}{ι:Pl}{F:Nat → Prop}{H:Nat → Option (List AV)}{w:World}(g:HG C ι F H w){id:Nat}(hf:F id){arr:Array Value}(e:TypeId)
  {cs : List AV} {l rest : List Value} (hl : arr.toList = l ++ rest) (hr : RdL w (badOf C.X ι H) ι cs l) :
  HG C (upd ι id (some (some (w.heap.size,0)))) (fun j => F j ∧ j ≠ id) (upd H id (some cs)) (w.alloc (.cells arr e)) ∧
  Carry w (badOf C.X ι H) ι (w.alloc (.cells arr e)) (badOf C.X (upd ι id (some (some (w.heap.size,0)))) (upd H id (some cs))) (upd ι id (some (some (w.heap.size,0)))) := by
 have hold : ∀ b,b < w.heap.size → (w.alloc (.cells arr e)).heap[b]? = w.heap[b]? := fun b hb => Below.heap_alloc w _ b hb
 have hnew : (w.alloc (.cells arr e)).heap[w.heap.size]? = some (.cells arr e (0,0)) := heap_alloc_new w _
 have hid : ι id = none := g.fresh id hf
 have hne : ∀ id' p,ι id' = some p → id' ≠ id := fun id' p h e => by subst e;rw [hid] at h;cases h
 have hbad : ∀ b, b < w.heap.size → badOf C.X (upd ι id (some (some (w.heap.size, 0)))) (upd H id (some cs)) b → badOf C.X ι H b := by
  intro b hb h
  rcases h with h | ⟨id',cs',β,h1,h2⟩
  ·exact .inl h
  ·by_cases hh : id' = id
   ·subst hh;simp at h2;omega
   ·rw [upd_ne _ _ hh] at h1 h2;exact .inr ⟨id',cs',β,h1,h2⟩
 have hcar : Carry w (badOf C.X ι H) ι (w.alloc (.cells arr e)) (badOf C.X (upd ι id (some (some (w.heap.size, 0)))) (upd H id (some cs))) (upd ι id (some (some (w.heap.size, 0)))) := by
  refine ⟨fun b o x h1 h2 => ?_,fun id' p hp => ?_,fun b => ?_⟩
  ·have hlt := lt_of_cell h2
   exact ⟨fun h => h1 (hbad b hlt h),by rw [cell?_heap (hold b hlt)]; exact h2⟩
  ·rw [upd_ne _ _ (hne id' p hp)]; exact hp
  ·rcases Nat.lt_or_ge b w.heap.size with hb | hb
   ·rw [bsz_heap (hold b hb)]; exact Nat.le_refl _
   ·simp [bsz,Array.getElem?_eq_none hb]
 refine ⟨⟨?_,?_,?_,?_,?_⟩,hcar⟩
 ·intro id' cs' h
  by_cases hh : id' = id
  ·subst hh
   simp only [upd_same,Option.some.injEq] at h
   subst h
   refine .inr ⟨w.heap.size,0,arr,e,by simp,hnew,?_,?_,?_,?_⟩
   ·have h1 := RdL.length hr
    have h2 : arr.size = l.length + rest.length := by rw [← Array.length_toList,hl]; simp
    omega
   ·have := RdC.of_list hnew (cs := cs) (l := l) (pre := []) (post := rest) (by simp [hl]) (RdL.carry hcar _ _ hr)
    simpa using this
   ·intro hx;have := C.xlt _ hx;have := g.fr.size;omega
   ·exact .inr g.fr.size
  ·rw [upd_ne _ _ hh] at h
   rcases g.obj id' cs' h with h1 | ⟨b,β,arr',e',h1,h2,h3,h4,h5,h6⟩
   ·exact .inl (by rw [upd_ne _ _ hh]; exact h1)
   ·have hlt := lt_of_heap h2
    refine .inr ⟨b,β,arr',e',by rw [upd_ne _ _ hh]; exact h1,by rw [hold b hlt]; exact h2,h3,?_,h5,h6⟩
    exact RdC.carryB hcar _ _ _ (fun o x hx => by rw [cell?_heap (hold b hlt)]; exact hx) h4
 ·intro id1 id2 cs1 cs2 b β β' h1 h2 h3 h4
  by_cases e1 : id1 = id
  ·by_cases e2 : id2 = id
   ·omega
   ·subst e1
    rw [upd_ne _ _ e2] at h2 h4
    simp at h3
    rcases g.obj id2 cs2 h2 with ⟨h5,_⟩ | ⟨b',β2,arr',e',h5,h6,_⟩
    ·rw [h5] at h4;cases h4
    ·rw [h5] at h4;cases h4;have := lt_of_heap h6;omega
  ·rw [upd_ne _ _ e1] at h1 h3
   by_cases e2 : id2 = id
   ·subst e2
    simp at h4
    rcases g.obj id1 cs1 h1 with ⟨h5,_⟩ | ⟨b',β2,arr',e',h5,h6,_⟩
    ·rw [h5] at h3;cases h3
    ·rw [h5] at h3;cases h3;have := lt_of_heap h6;omega
   ·rw [upd_ne _ _ e2] at h2 h4
    exact g.sep _ _ _ _ _ _ _ h1 h2 h3 h4
 ·refine ⟨g.fr.os, g.fr.tape, g.fr.output, by simp; have := g.fr.size; omega, fun k hk hw => ?_, fun b => Nat.le_trans (g.fr.bs b) (hcar.bs b)⟩
  rw [hold k (by have := g.fr.size;omega)]; exact g.fr.block k hk hw
 ·intro id' p hp
  have := g.ex id' p hp
  rw [upd_ne _ _ (hne id' p this)]; exact this
 ·intro j ⟨h1, h2⟩
  rw [upd_ne _ _ h2]; exact g.fresh j h1
theorem HG.mut {C:Ctx}{ι:Pl}{F:Nat → Prop}{H:Nat → Option (List AV)}{w w':World}(g:HG C ι F H w){id:Nat}{cs0 cs:List AV}(h0:H id = some cs0)
  {b β : Nat} {arr : Array Value} {e : TypeId} (hi : ι id = some (some (b,β))) (hw : w'.heap[b]? = some (.cells arr e (0,0))) (hs : arr.size = bsz w b)
  {pre l post : List Value} (hl : arr.toList = pre ++ l ++ post) (hp : pre.length = β) (hr : RdL w (badOf C.X ι H) ι cs l)
  (hold : ∀ k,k ≠ b → w'.heap[k]? = w.heap[k]?) (hos : w'.os = w.os) (ht : w'.tape = w.tape) (ho : w'.output = w.output) (hz : w'.heap.size = w.heap.size) :
  HG C ι F (upd H id (some cs)) w' ∧ Carry w (badOf C.X ι H) ι w' (badOf C.X ι (upd H id (some cs))) ι := by
 have hbs : ∀ k, bsz w k ≤ bsz w' k := by
  intro k
  by_cases hk : k = b
  ·subst hk;rw [← hs]; simp [bsz,hw]
  ·rw [bsz_heap (hold k hk)]; exact Nat.le_refl _
 have hbb : badOf C.X ι H b := .inr ⟨id,cs0,β,h0,hi⟩
 have hbad : ∀ k, badOf C.X ι (upd H id (some cs)) k → badOf C.X ι H k := by
  intro k h
  rcases h with h | ⟨id',cs',β',h1,h2⟩
  ·exact .inl h
  ·by_cases hh : id' = id
   ·subst hh;exact .inr ⟨id',cs0,β',h0,h2⟩
   ·rw [upd_ne _ _ hh] at h1;exact .inr ⟨id',cs',β',h1,h2⟩
 have hcar : Carry w (badOf C.X ι H) ι w' (badOf C.X ι (upd H id (some cs))) ι :=
  ⟨fun k o x h1 h2 => ⟨fun h => h1 (hbad k h),by rw [cell?_heap (hold k (fun e => h1 (e ▸ hbb)))]; exact h2⟩,fun _ _ h => h,hbs⟩
 have hobj := g.obj id cs0 h0
 rcases hobj with ⟨h1,_⟩ | ⟨b1,β1,arr1,e1,q1,q2,q3,q4,q5,q6⟩
 ·rw [h1] at hi;cases hi
 rw [q1] at hi
 cases hi
 refine ⟨⟨?_,?_,?_,g.ex,g.fresh⟩,hcar⟩
 ·intro id' cs' h
  by_cases hh : id' = id
  ·subst hh
   simp only [upd_same,Option.some.injEq] at h
   subst h
   refine .inr ⟨b,β,arr,e,q1,hw,?_,?_,q5,q6⟩
   ·have h1 := RdL.length hr
    have h2 : arr.size = pre.length + l.length + post.length := by rw [← Array.length_toList,hl]; simp;omega
    omega
   ·have := RdC.of_list hw (cs := cs) (l := l) (pre := pre) (post := post) hl (RdL.carry hcar _ _ hr)
    rwa [hp] at this
  ·rw [upd_ne _ _ hh] at h
   rcases g.obj id' cs' h with h1 | ⟨b',β',arr',e',h1,h2,h3,h4,h5,h6⟩
   ·exact .inl h1
   ·have hne : b' ≠ b := fun e => by subst e; exact hh (g.sep _ _ _ _ _ _ _ h h0 h1 q1)
    exact .inr ⟨b',β',arr',e',h1,by rw [hold b' hne]; exact h2,h3,RdC.carryB hcar _ _ _ (fun o x hx => by rw [cell?_heap (hold b' hne)]; exact hx) h4,h5,h6⟩
 ·intro id1 id2 cs1 cs2 b' β1 β2 h1 h2 h3 h4
  have r1 : ∃ c, H id1 = some c := by
   by_cases e1 : id1 = id
   ·subst e1;exact ⟨_,h0⟩
   ·rw [upd_ne _ _ e1] at h1;exact ⟨_,h1⟩
  have r2 : ∃ c, H id2 = some c := by
   by_cases e1 : id2 = id
   ·subst e1;exact ⟨_,h0⟩
   ·rw [upd_ne _ _ e1] at h2;exact ⟨_,h2⟩
  obtain ⟨c1,r1⟩ := r1
  obtain ⟨c2,r2⟩ := r2
  exact g.sep _ _ _ _ _ _ _ r1 r2 h3 h4
 ·refine ⟨hos.trans g.fr.os, ht.trans g.fr.tape, ho.trans g.fr.output, by rw [hz]; exact g.fr.size, fun k hk hw0 => ?_, fun k => Nat.le_trans (g.fr.bs k) (hbs k)⟩
  rw [hold k ?_]; exact g.fr.block k hk hw0
  rintro rfl
  rcases q6 with q6|q6
  ·exact hw0 q6
  ·omega
theorem HG.less {C:Ctx}{ι:Pl}{F F':Nat → Prop}{H H':Nat → Option (List AV)}{w:World}(g:HG C ι F H w) (k:∀ id cs,H' id = some cs → H id = some cs) (kf:∀ id,F' id → F id) :
  HG C ι F' H' w ∧ Carry w (badOf C.X ι H) ι w (badOf C.X ι H') ι := by
 have hbad : ∀ b, badOf C.X ι H' b → badOf C.X ι H b := by
  intro b h
  rcases h with h | ⟨id',cs',β',h1,h2⟩
  ·exact .inl h
  ·exact .inr ⟨id',cs',β',k _ _ h1,h2⟩
 have hcar : Carry w (badOf C.X ι H) ι w (badOf C.X ι H') ι := ⟨fun b o x h1 h2 => ⟨fun h => h1 (hbad b h),h2⟩,fun _ _ h => h,fun _ => Nat.le_refl _⟩
 refine ⟨⟨fun id cs h => ?_,fun id id' cs cs' b β β' h1 h2 => g.sep id id' cs cs' b β β' (k _ _ h1) (k _ _ h2),g.fr,g.ex,fun id h => g.fresh id (kf id h)⟩,hcar⟩
 rcases g.obj id cs (k _ _ h) with h1 | ⟨b',β',arr',e',h1,h2,h3,h4,h5,h6⟩
 ·exact .inl h1
 ·exact .inr ⟨b',β',arr',e',h1,h2,h3,RdC.carryB hcar _ _ _ (fun o x hx => hx) h4,h5,h6⟩
theorem HG.rename {C:Ctx}{ι:Pl}{F:Nat → Prop}{H:Nat → Option (List AV)}{w:World}(g:HG C ι F H w){id id':Nat}{cs:List AV}(h0:H id = some cs) (hf:F id')
  {b β k : Nat} (hi : ι id = some (some (b,β))) (hk : k ≤ cs.length) :
  HG C (upd ι id' (some (some (b,β + k)))) (fun j => F j ∧ j ≠ id') (upd (upd H id none) id' (some (cs.drop k))) w ∧
  Carry w (badOf C.X ι H) ι w (badOf C.X (upd ι id' (some (some (b,β + k)))) (upd (upd H id none) id' (some (cs.drop k)))) (upd ι id' (some (some (b,β + k)))) := by
 have hid : ι id' = none := g.fresh id' hf
 have hne : ∀ j p,ι j = some p → j ≠ id' := fun j p h e => by subst e;rw [hid] at h;cases h
 have hbb : badOf C.X ι H b := .inr ⟨id,cs,β,h0,hi⟩
 have hii : id ≠ id' := hne _ _ hi
 have hbad : ∀ x, badOf C.X (upd ι id' (some (some (b, β + k)))) (upd (upd H id none) id' (some (cs.drop k))) x → badOf C.X ι H x := by
  intro x h
  rcases h with h | ⟨j,cs',β',h1,h2⟩
  ·exact .inl h
  ·by_cases e1 : j = id'
   ·subst e1;simp at h2;obtain ⟨rfl,_⟩ := h2;exact hbb
   ·rw [upd_ne _ _ e1] at h1 h2
    by_cases e2 : j = id
    ·subst e2;simp at h1
    ·rw [upd_ne _ _ e2] at h1;exact .inr ⟨j,cs',β',h1,h2⟩
 have hcar : Carry w (badOf C.X ι H) ι w (badOf C.X (upd ι id' (some (some (b, β + k)))) (upd (upd H id none) id' (some (cs.drop k)))) (upd ι id' (some (some (b, β + k)))) :=
  ⟨fun x o y h1 h2 => ⟨fun h => h1 (hbad x h),h2⟩,fun j p hp => by rw [upd_ne _ _ (hne j p hp)]; exact hp,fun _ => Nat.le_refl _⟩
 refine ⟨⟨?_,?_,g.fr,?_,?_⟩,hcar⟩
 ·intro j cs' h
  by_cases e1 : j = id'
  ·subst e1
   simp only [upd_same,Option.some.injEq] at h
   subst h
   rcases g.obj id cs h0 with ⟨h1,_⟩ | ⟨b',β',arr',e',h1,h2,h3,h4,h5,h6⟩
   ·rw [h1] at hi;cases hi
   ·rw [h1] at hi; cases hi
    exact .inr ⟨b,β + k,arr',e',by simp,h2,by simp;omega,RdC.carryB hcar _ _ _ (fun o x hx => hx) (RdC.drop k hk h4),h5,h6⟩
  ·rw [upd_ne _ _ e1] at h
   by_cases e2 : j = id
   ·subst e2;simp at h
   ·rw [upd_ne _ _ e2] at h
    rcases g.obj j cs' h with h1 | ⟨b',β',arr',e',h1,h2,h3,h4,h5,h6⟩
    ·exact .inl (by rw [upd_ne _ _ e1]; exact h1)
    ·exact .inr ⟨b',β',arr',e',by rw [upd_ne _ _ e1]; exact h1,h2,h3,RdC.carryB hcar _ _ _ (fun o x hx => hx) h4,h5,h6⟩
 ·intro id1 id2 cs1 cs2 b' β1 β2 h1 h2 h3 h4
  have key : ∀ j c x y, j ≠ id' → upd (upd H id none) id' (some (cs.drop k)) j = some c → upd ι id' (some (some (b, β + k))) j = some (some (x, y)) → x ≠ b := by
   intro j c x y e1 q1 q2
   rw [upd_ne _ _ e1] at q1 q2
   by_cases e2 : j = id
   ·subst e2;simp at q1
   ·rw [upd_ne _ _ e2] at q1
    rintro rfl
    exact e2 (g.sep _ _ _ _ _ _ _ q1 h0 q2 hi)
  by_cases e1 : id1 = id'
  ·by_cases e2 : id2 = id'
   ·omega
   ·subst e1;simp at h3;exact absurd h3.1.symm (key _ _ _ _ e2 h2 h4)
  ·by_cases e2 : id2 = id'
   ·subst e2;simp at h4;exact absurd h4.1.symm (key _ _ _ _ e1 h1 h3)
   ·rw [upd_ne _ _ e1] at h1 h3
    rw [upd_ne _ _ e2] at h2 h4
    by_cases e3 : id1 = id
    ·subst e3;simp at h1
    ·by_cases e4 : id2 = id
     ·subst e4;simp at h2
     ·rw [upd_ne _ _ e3] at h1
      rw [upd_ne _ _ e4] at h2
      exact g.sep _ _ _ _ _ _ _ h1 h2 h3 h4
 ·intro j p hp
  have := g.ex j p hp
  rw [upd_ne _ _ (hne j p this)]; exact this
 ·intro j ⟨h1, h2⟩
  rw [upd_ne _ _ h2]; exact g.fresh j h1
theorem HG.virt {C:Ctx}{ι:Pl}{F:Nat → Prop}{H:Nat → Option (List AV)}{w:World}(g:HG C ι F H w){id:Nat}(hf:F id) :
  HG C (upd ι id (some none)) (fun j => F j ∧ j ≠ id) (upd H id (some [])) w ∧ Carry w (badOf C.X ι H) ι w (badOf C.X (upd ι id (some none)) (upd H id (some []))) (upd ι id (some none)) := by
 have hid : ι id = none := g.fresh id hf
 have hne : ∀ j p,ι j = some p → j ≠ id := fun j p h e => by subst e;rw [hid] at h;cases h
 have hbad : ∀ x, badOf C.X (upd ι id (some none)) (upd H id (some [])) x → badOf C.X ι H x := by
  intro x h
  rcases h with h | ⟨j,cs',β',h1,h2⟩
  ·exact .inl h
  ·by_cases e1 : j = id
   ·subst e1;simp at h2
   ·rw [upd_ne _ _ e1] at h1 h2;exact .inr ⟨j,cs',β',h1,h2⟩
 have hcar : Carry w (badOf C.X ι H) ι w (badOf C.X (upd ι id (some none)) (upd H id (some []))) (upd ι id (some none)) :=
  ⟨fun x o y h1 h2 => ⟨fun h => h1 (hbad x h),h2⟩,fun j p hp => by rw [upd_ne _ _ (hne j p hp)]; exact hp,fun _ => Nat.le_refl _⟩
 refine ⟨⟨?_,?_,g.fr,?_,?_⟩,hcar⟩
 ·intro j cs' h
  by_cases e1 : j = id
  ·subst e1
   simp only [upd_same,Option.some.injEq] at h
   exact .inl ⟨by simp,h.symm⟩
  ·rw [upd_ne _ _ e1] at h
   rcases g.obj j cs' h with h1 | ⟨b',β',arr',e',h1,h2,h3,h4,h5,h6⟩
   ·exact .inl (by rw [upd_ne _ _ e1]; exact h1)
   ·exact .inr ⟨b',β',arr',e',by rw [upd_ne _ _ e1]; exact h1,h2,h3,RdC.carryB hcar _ _ _ (fun o x hx => hx) h4,h5,h6⟩
 ·intro id1 id2 cs1 cs2 b' β1 β2 h1 h2 h3 h4
  by_cases e1 : id1 = id
  ·subst e1;simp at h3
  ·by_cases e2 : id2 = id
   ·subst e2;simp at h4
   ·rw [upd_ne _ _ e1] at h1 h3
    rw [upd_ne _ _ e2] at h2 h4
    exact g.sep _ _ _ _ _ _ _ h1 h2 h3 h4
 ·intro j p hp
  have := g.ex j p hp
  rw [upd_ne _ _ (hne j p this)]; exact this
 ·intro j ⟨h1, h2⟩
  rw [upd_ne _ _ h2]; exact g.fresh j h1
def szOf (P : Program) (t : TypeId) : Option Nat := (P.info? t).map (·.size)
def byOf (P : Program) (t : TypeId) : Option Nat := (P.info? t).map (·.bytes)
def aggB : TypeDesc → Bool | .struct _ => true | .array _ _ => true | _ => false
def agOf (P : Program) (t : TypeId) : Option Bool := (P.underlying t).map aggB
def slOf (P : Program) (t : TypeId) : Option TypeId := match P.underlying t with | some (.slice e) => some e | _ => none
def arOf (P : Program) (t : TypeId) : Option (Nat × TypeId) := match P.underlying t with | some (.array n e) => some (n,e) | _ => none
def fldOf (P : Program) (t : TypeId) (f : Nat) : Option (Nat × TypeId) := match P.underlying t with | some (.struct fs) => (fs[f]?).map fun x => (x.offset,x.type) | _ => none
def zrOf (P : Program) (t : TypeId) : Option (List Value) := match (P.info? t).bind (·.zero) with
 | some z => if z.cells.toList.all (·.oneCell') then some z.cells.toList else none
 | none => none
def inOf (P : Program) (t : TypeId) : Option IntKind := match P.underlying t with | some (.int k) => some k | _ => none
def avC (x : Value) : AV := match x with
 | .agg cs => if cs.toList.all (·.oneCell') then .agg (cs.toList.map .v) else .v x
 | x => .v x
def ev (T : Nat → Option AV) : Operand → Option AV
 | .tmp t => T t
 | .const (.agg cs) => some (avC (.agg cs))
 | .const x => some (.v x)
 | .global g => some (.v (.pointer (some ⟨g,0,none⟩)))
 | .func f => some (.v (.func (.func f) #[] #[]))
theorem RdL_v {w:World}{bad:Nat → Prop}{ι:Pl}:∀ {l:List Value},l.all (·.oneCell') = true → RdL w bad ι (l.map .v) l
 | [],_ => by simp [RdL]
 | x :: l, h => by
  simp only [List.all_cons,Bool.and_eq_true] at h
  simp only [List.map_cons,RdL]
  exact ⟨x,l,rfl,h.1,by simp [Rd],RdL_v h.2⟩
theorem Rd_avC {w:World}{bad:Nat → Prop}{ι:Pl}(x:Value):Rd w bad ι (avC x) x:=by
 unfold avC
 split
 ·rename_i cs
  split
  ·rename_i h
   simp only [Rd]
   exact ⟨cs.toList,by simp,RdL_v h⟩
  ·simp [Rd]
 ·simp [Rd]
theorem ev_ok {C:Ctx}{ι:Pl}{T:Nat → Option AV}{H:Nat → Option (List AV)}{a:Act}{w:World}(g:TG C ι T H a w){x:Operand}{av:AV}
  (h : ev T x = some av) : Rd w (badOf C.X ι H) ι av (a.eval x) := by
 cases x with
 | tmp t =>
  obtain ⟨y,h1,h2⟩ := g.tm t av h
  simpa [Act.eval,h1] using h2
 | const x =>
  have h2 : av = avC x := by
   cases x <;> simp only [ev,Option.some.injEq] at h <;> rw [← h] <;> rfl
  subst h2
  exact Rd_avC x
 | global g =>
  simp only [ev,Option.some.injEq] at h
  subst h
  simp [Rd,Act.eval]
 | func f =>
  simp only [ev,Option.some.injEq] at h
  subst h
  simp [Rd,Act.eval]
def Pu (P : Program) (C : Ctx) (ι : Pl) (H : Nat → Option (List AV)) (a : Act) (w : World) (o : Oper) (out : AV) : Prop :=
 ∃ y,(execOp a.eval o).run P w = .ok (.value y) w ∧ Rd w (badOf C.X ι H) ι out y
section
variable {P : Program} {C : Ctx} {ι : Pl} {T : Nat → Option AV} {H : Nat → Option (List AV)} {a : Act} {w : World} {o : Oper}
theorem pu_move (g:TG C ι T H a w){x:Operand}{av:AV}(ho:o.op = .move x ∨ o.op = .assign x) (h:ev T x = some av):Pu P C ι H a w o av:=by
 refine ⟨a.eval x,?_,ev_ok g h⟩
 rcases ho with ho|ho <;> simp [execOp,ho]
theorem pu_pick (g:TG C ι T H a w){c x y:Operand}{b:Bool}{av:AV}(ho:o.op = .pick c x y) (hc:ev T c = some (.v (.bool b)))
  (h : (if b then ev T x else ev T y) = some av) : Pu P C ι H a w o av := by
 have h1 := ev_ok g hc
 simp only [Rd] at h1
 cases b
 ·simp only [Bool.false_eq_true, if_false] at h
  refine ⟨a.eval y,?_,ev_ok g h⟩
  simp [execOp,ho,h1,asBool]
 ·simp only [if_true] at h
  refine ⟨a.eval x,?_,ev_ok g h⟩
  simp [execOp,ho,h1,asBool]
def ibin (op : BinOp) (k : IntKind) (a b : Int) : Option Value :=
 match op with
 | .add => some (.int k (k.wrap (a + b)))
 | .sub => some (.int k (k.wrap (a - b)))
 | .mul => some (.int k (k.wrap (a * b)))
 | .quo => if b = 0 then none else some (.int k (k.wrap (a.tdiv b)))
 | .rem => if b = 0 then none else some (.int k (a.tmod b))
 | .and => some (.int k (k.wrap (BitVec.ofInt k.bits a &&& BitVec.ofInt k.bits b).toNat))
 | .or => some (.int k (k.wrap (BitVec.ofInt k.bits a ||| BitVec.ofInt k.bits b).toNat))
 | .xor => some (.int k (k.wrap (BitVec.ofInt k.bits a ^^^ BitVec.ofInt k.bits b).toNat))
 | .andNot => some (.int k (k.wrap (BitVec.ofInt k.bits a &&& ~~~ BitVec.ofInt k.bits b).toNat))
 | .shl => if b < 0 then none else some (.int k (k.wrap (a * 2 ^ min b.toNat k.bits)))
 | .shr => if b < 0 then none else some (.int k (a.fdiv (2 ^ min b.toNat k.bits)))
 | .eql => some (.bool (decide (a = b)))
 | .neq => some (.bool (!decide (a = b)))
 | .lss => some (.bool (decide (a < b)))
 | .leq => some (.bool (decide (a ≤ b)))
 | .gtr => some (.bool (decide (b < a)))
 | .geq => some (.bool (decide (b ≤ a)))
theorem run_ibin {op:BinOp}{k k':IntKind}{x y:Int}{v:Value}(t:TypeId) (hk:k = k' ∨ op = .shl ∨ op = .shr) (h:ibin op k x y = some v) :
  (binOp op t (.int k x) (.int k' y)).run P w = .ok v w := by
 have hk' : op = .shl ∨ op = .shr ∨ k = k' := by rcases hk with h|h|h <;> simp [h]
 rcases hk' with rfl|rfl|rfl
 ·simp only [ibin] at h
  split at h
  ·cases h
  ·cases h;simp [binOp,Op.shift, *]
 ·simp only [ibin] at h
  split at h
  ·cases h
  ·cases h;simp [binOp,Op.shift, *]
 ·cases op <;> simp only [ibin] at h
  case quo => 
   split at h
   ·cases h
   ·cases h;simp [binOp,Op.intDiv, *]
  case rem => 
   split at h
   ·cases h
   ·cases h;simp [binOp,Op.intDiv, *]
  case shl => 
   split at h
   ·cases h
   ·cases h;simp [binOp,Op.shift, *]
  case shr => 
   split at h
   ·cases h
   ·cases h;simp [binOp,Op.shift, *]
  all_goals (cases h;simp [binOp,Op.intArith,Op.intBits,Op.intCmp])
  all_goals (first|rfl|(rw [Bool.eq_iff_iff]; simp))
theorem pu_ibin (g:TG C ι T H a w){op:BinOp}{t t':TypeId}{x y:Operand}{k k':IntKind}{m n:Int}{v:Value}(ho:o.op = .binOp op t x y t')
  (hx : ev T x = some (.v (.int k m))) (hy : ev T y = some (.v (.int k' n))) (hk : k = k' ∨ op = .shl ∨ op = .shr) (h : ibin op k m n = some v) : Pu P C ι H a w o (.v v) := by
 have h1 := ev_ok g hx
 have h2 := ev_ok g hy
 simp only [Rd] at h1 h2
 refine ⟨v,?_,by simp [Rd]⟩
 have hg : (eqGuard op t x y (.int k m) (.int k' n)).run P w = .ok () w := by
  unfold eqGuard
  cases op <;> simp
 simp only [execOp,ho,h1,h2,Sem.run_bind,hg,Result.andThen_ok,run_ibin (P := P) (w := w) t hk h,Sem.run_pure]
theorem pu_not (g:TG C ι T H a w){t:TypeId}{x:Operand}{b:Bool}(ho:o.op = .unOp .not t x) (hx:ev T x = some (.v (.bool b))):Pu P C ι H a w o (.v (.bool !b)):=by
 have h1 := ev_ok g hx
 simp only [Rd] at h1
 exact ⟨.bool !b,by simp [execOp,ho,h1,Op.unary],by simp [Rd]⟩
def kAV : AV → AV
 | .v (.slice none 0 0) => .imm 0 []
 | av => av
theorem Rd_kAV {w:World}{bad:Nat → Prop}{ι:Pl}{av:AV}{y:Value}(h:Rd w bad ι av y):Rd w bad ι (kAV av) y:=by
 unfold kAV
 split
 ·simp only [Rd] at h ⊢
  exact ⟨none,0,h,.inl trivial⟩
 ·exact h
theorem run_und {t:TypeId}{d:TypeDesc}(h:P.underlying t = some d) (w:World):(underlying t).run P w = .ok d w:=by
 simp [underlying,h]
theorem run_sz {t:TypeId}{n:Nat}(h:szOf P t = some n) (w:World):(sizeOf t).run P w = .ok n w:=by
 unfold szOf at h
 cases hi : P.info? t with
 | none => simp [hi] at h
 | some i => simp [hi] at h;simp [sizeOf,typeInfo,hi,h]
theorem run_ag {t:TypeId}{b:Bool}(h:agOf P t = some b) (w:World):(isAgg t).run P w = .ok b w:=by
 unfold agOf at h
 cases hu : P.underlying t with
 | none => simp [hu] at h
 | some d =>
  simp [hu] at h
  subst h
  simp only [isAgg,Sem.run_bind,run_und hu,Result.andThen_ok]
  cases d <;> simp [aggB]
theorem slOf_u {t e:TypeId}(h:slOf P t = some e):P.underlying t = some (.slice e):=by
 unfold slOf at h;split at h <;> simp_all
theorem arOf_u {t e:TypeId}{n:Nat}(h:arOf P t = some (n,e)):P.underlying t = some (.array n e):=by
 unfold arOf at h;split at h <;> simp_all
theorem inOf_u {t:TypeId}{k:IntKind}(h:inOf P t = some k):P.underlying t = some (.int k):=by
 unfold inOf at h;split at h <;> simp_all
theorem fldOf_u {t f:Nat}{o ft:Nat}(h:fldOf P t f = some (o,ft)):∃ fs x,P.underlying t = some (.struct fs) ∧ fs[f]? = some x ∧ x.offset = o ∧ x.type = ft:=by
 unfold fldOf at h
 split at h
 ·rename_i fs hu
  cases hx : fs[f]? with
  | none => simp [hx] at h
  | some x => simp [hx] at h;exact ⟨fs,x,hu,hx,h.1,h.2⟩
 ·simp at h
def pAdd (k : Nat) : AV → Option AV
 | .optr id off => some (.optr id (off + k))
 | .iptr cs => some (.iptr (cs.drop k))
 | _ => none
theorem RdC_dropped {w:World}{bad:Nat → Prop}{ι:Pl}{b o:Nat}{cs:List AV}(k:Nat) (h:cs = [] ∨ ¬ bad b ∧ RdC w bad ι cs b o):cs.drop k = [] ∨ ¬ bad b ∧ RdC w bad ι (cs.drop k) b (o + k):=by
 rcases Nat.lt_or_ge cs.length k with hk|hk
 ·exact .inl (by simp;omega)
 ·rcases h with h | ⟨h1, h2⟩
  ·subst h;exact .inl (by simp)
  ·exact .inr ⟨h1,RdC.drop k hk h2⟩
theorem Rd_pAdd {w:World}{bad:Nat → Prop}{ι:Pl}{k:Nat}{av out:AV}{y:Value}(h:Rd w bad ι av y) (hp:pAdd k av = some out) :
  ∃ b o,y = .pointer (some ⟨b,o,none⟩) ∧ Rd w bad ι out (.pointer (some ⟨b,o + k,none⟩)) := by
 cases av <;> simp only [pAdd] at hp <;> first|(cases hp;done)|skip
 ·cases hp
  simp only [Rd] at h ⊢
  obtain ⟨b,o,rfl,h⟩ := h
  exact ⟨b,o,rfl,b,o + k,rfl,RdC_dropped k h⟩
 ·cases hp
  simp only [Rd] at h ⊢
  obtain ⟨b,β,h1,rfl⟩ := h
  exact ⟨b,_,rfl,b,β,h1,by rw [Nat.add_assoc]⟩
def isPtr : AV → Bool | .optr _ _ => true | .iptr _ => true | _ => false
theorem pu_nil (g:TG C ι T H a w){x:Operand}{av:AV}(ho:o.op = .nilCheck x) (hx:ev T x = some av) (hp:isPtr av = true):Pu P C ι H a w o av:=by
 have h1 := ev_ok g hx
 refine ⟨a.eval x,?_,h1⟩
 cases av <;> simp only [isPtr] at hp <;> first|(cases hp;done)|skip
 ·simp only [Rd] at h1
  obtain ⟨b,o',h2,_⟩ := h1
  simp [execOp,ho,h2]
 ·simp only [Rd] at h1
  obtain ⟨b,β,_,h2⟩ := h1
  simp [execOp,ho,h2]
theorem pu_fieldAddr (g:TG C ι T H a w){s:TypeId}{f:Nat}{x:Operand}{av out:AV}{fo ft n:Nat}(ho:o.op = .fieldAddr s x f) (hx:ev T x = some av)
  (hf : fldOf P s f = some (fo,ft)) (hz : szOf P ft = some (n + 1)) (hp : pAdd fo av = some out) : Pu P C ι H a w o out := by
 obtain ⟨fs,fd,h1,h2,h3,h4⟩ := fldOf_u hf
 obtain ⟨b,o',h5,h6⟩ := Rd_pAdd (ev_ok g hx) hp
 refine ⟨_,?_,h6⟩
 subst h3 h4
 simp [execOp,ho,h5,Instr.fieldAt,run_und h1,h2,Instr.sureAddr,fieldPlace,run_sz hz,Addr.add_lit]
def sIdx (e : Nat) (i : Int) : AV → Option AV
 | .own id off n _ => if 0 ≤ i ∧ i < n then some (.optr id (off + i.toNat * e)) else none
 | .imm n cs => if 0 ≤ i ∧ i < n then some (.iptr (cs.drop (i.toNat * e))) else none
 | _ => none
theorem pu_indexAddr (g:TG C ι T H a w){t el:TypeId}{x i:Operand}{av out:AV}{e:Nat}{k:IntKind}{m:Int}(ho:o.op = .indexAddr t x i) (hx:ev T x = some av)
  (hi : ev T i = some (.v (.int k m))) (ht : slOf P t = some el) (he : szOf P el = some e) (hp : sIdx e m av = some out) : Pu P C ι H a w o out := by
 have h1 := ev_ok g hx
 have h2 := ev_ok g hi
 simp only [Rd] at h2
 have hu := slOf_u ht
 cases av <;> simp only [sIdx] at hp <;> first|(cases hp;done)|skip
 ·rename_i n cs
  split at hp
  ·rename_i hc
   cases hp
   simp only [Rd] at h1
   obtain ⟨a',c,h3,h4⟩ := h1
   rcases h4 with h4 | ⟨b,o',_,rfl,h4⟩
   ·omega
   refine ⟨.pointer (some ⟨b,o' + m.toNat * e,none⟩),?_,?_⟩
   ·simp [execOp,ho,h3,h2,Instr.indexAt,asIntOf,run_und hu,run_sz he,hc,Addr.add_lit]
   ·simp only [Rd]
    exact ⟨b,_,rfl,RdC_dropped _ h4⟩
  ·cases hp
 ·rename_i id off n e'
  split at hp
  ·rename_i hc
   cases hp
   simp only [Rd] at h1
   rcases h1 with ⟨_,rfl,_⟩ | ⟨b,β,c,h3,h4,h5,h6⟩
   ·omega
   refine ⟨.pointer (some ⟨b,β + (off + m.toNat * e),none⟩),?_,?_⟩
   ·simp [execOp,ho,h4,h2,Instr.indexAt,asIntOf,run_und hu,run_sz he,hc,Addr.add_lit,Nat.add_assoc]
   ·simp only [Rd]
    exact ⟨b,β,h3,rfl⟩
  ·cases hp
theorem pu_indexArr (g:TG C ι T H a w){t el:TypeId}{x i:Operand}{av out:AV}{n e:Nat}{k:IntKind}{m:Int}(ho:o.op = .indexAddr t x i) (hx:ev T x = some av)
  (hi : ev T i = some (.v (.int k m))) (ht : arOf P t = some (n,el)) (he : szOf P el = some e) (hm : 0 ≤ m ∧ m < n) (hp : pAdd (m.toNat * e) av = some out) : Pu P C ι H a w o out := by
 obtain ⟨b,o',h5,h6⟩ := Rd_pAdd (ev_ok g hx) hp
 have h2 := ev_ok g hi
 simp only [Rd] at h2
 have hu := arOf_u ht
 refine ⟨_,?_,h6⟩
 simp [execOp,ho,h5,h2,Instr.indexAt,asIntOf,run_und hu,run_sz he,hm,Addr.add_lit,Instr.sureAddr]
def deref (H : Nat → Option (List AV)) : AV → Option (List AV)
 | .optr id off => (H id).map (·.drop off)
 | .iptr cs => some cs
 | _ => none
theorem deref_ok {F:Nat → Prop}(g:HG C ι F H w){av:AV}{y:Value}{cs:List AV}(h:Rd w (badOf C.X ι H) ι av y) (hd:deref H av = some cs) :
  cs = [] ∨ ∃ b o,y = .pointer (some ⟨b,o,none⟩) ∧ RdC w (badOf C.X ι H) ι cs b o := by
 cases av <;> simp only [deref] at hd <;> first|(cases hd;done)|skip
 ·cases hd
  simp only [Rd] at h
  obtain ⟨b,o,rfl,h⟩ := h
  rcases h with h|h
  ·exact .inl h
  ·exact .inr ⟨b,o,rfl,h.2⟩
 ·rename_i id off
  cases hH : H id with
  | none => simp [hH] at hd
  | some cs0 =>
   simp [hH] at hd
   subst hd
   simp only [Rd] at h
   obtain ⟨b,β,h1,rfl⟩ := h
   rcases g.obj id cs0 hH with ⟨h2,_⟩ | ⟨b',β',arr,e,h2,h3,h4,h5,_⟩
   ·rw [h2] at h1;cases h1
   ·rw [h2] at h1; cases h1
    rcases Nat.lt_or_ge cs0.length off with hk|hk
    ·exact .inl (by simp;omega)
    ·exact .inr ⟨b,_,rfl,RdC.drop off hk h5⟩
theorem pu_load1 {F:Nat → Prop}(g:TG C ι T H a w) (gh:HG C ι F H w){t:TypeId}{x:Operand}{av c:AV}{cs:List AV}(ho:o.op = .load t x) (hx:ev T x = some av)
  (ha : agOf P t = some false) (hd : deref H av = some cs) (hc : cs[0]? = some c) : Pu P C ι H a w o c := by
 rcases deref_ok gh (ev_ok g hx) hd with h | ⟨b,o',h1,h2⟩
 ·subst h;simp at hc
 ·cases cs with
  | nil => simp at hc
  | cons c' cs =>
   simp at hc
   subst hc
   simp only [RdC] at h2
   obtain ⟨⟨y,h3,h4,h5⟩,_⟩ := h2
   exact ⟨y,by simp [execOp,ho,h1,Instr.loadAt,Instr.sureAddr,loadVar,run_ag ha,h3],h5⟩
theorem pu_loadA {F:Nat → Prop}(g:TG C ι T H a w) (gh:HG C ι F H w){t:TypeId}{x:Operand}{av:AV}{n:Nat}{cs cs':List AV}(ho:o.op = .load t x) (hx:ev T x = some av)
  (ha : agOf P t = some true) (hz : szOf P t = some n) (hd : deref H av = some cs) (hc : cs.take n = cs') (hn : cs'.length = n) (h0 : n ≠ 0) : Pu P C ι H a w o (.agg cs') := by
 subst hc
 rcases deref_ok gh (ev_ok g hx) hd with h | ⟨b,o',h1,h2⟩
 ·subst h;simp at hn;omega
 ·obtain ⟨l, h3, h4⟩ := RdC.to_list (RdC.take n h2)
  have hl : l.length = n := by rw [RdL.length h3,hn]
  have hr := run_loadCells_list (P := P) w ⟨b,o',none⟩ l (fun j v hj => by rw [Addr.add_lit]; exact h4 j v hj)
  rw [hl] at hr
  refine ⟨.agg l.toArray,?_,?_⟩
  ·simp [execOp,ho,h1,Instr.loadAt,Instr.sureAddr,loadVar,run_ag ha,run_sz hz,hr]
  ·simp only [Rd]; exact ⟨l,rfl,h3⟩
theorem pu_len (g:TG C ι T H a w){t:TypeId}{x:Operand}{av:AV}{ts:Array TypeId}{el:TypeId}{n:Nat}(ho:o.op = .call ⟨.builtin .len,#[x],ts⟩) (hts:ts[0]? = some t) (hx:ev T x = some av)
  (ht : slOf P t = some el) (hn : (match kAV av with | .own _ _ n _ => some n | .imm n _ => some n | _ => none) = some n) : Pu P C ι H a w o (.v (.int .i64 n)) := by
 have h1 := Rd_kAV (ev_ok g hx)
 have hu := slOf_u ht
 have hs : ∃ a' c, a.eval x = .slice a' n c := by
  generalize kAV av = av' at h1 hn
  cases av' <;> simp only [] at hn <;> first|(cases hn;done)|skip
  ·cases hn
   simp only [Rd] at h1
   obtain ⟨a',c,h,_⟩ := h1
   exact ⟨a',c,h⟩
  ·cases hn
   simp only [Rd] at h1
   rcases h1 with ⟨_,rfl,a',h⟩ | ⟨b,β,c,_,h,_⟩
   ·exact ⟨_,_,h⟩
   ·exact ⟨_,_,h⟩
 obtain ⟨a',c,hs⟩ := hs
 exact ⟨.int .i64 n,by simp [execOp,ho,resolve,invoke,builtin,Builtin.len_,hts,hs,run_und hu,goInt],by simp [Rd]⟩
theorem pu_lenS (g:TG C ι T H a w){t:TypeId}{x:Operand}{ts:Array TypeId}{s:ByteArray}(ho:o.op = .call ⟨.builtin .len,#[x],ts⟩) (hts:ts[0]? = some t) (hx:ev T x = some (.v (.string s)))
  (ht : P.underlying t = some .string) : Pu P C ι H a w o (.v (.int .i64 s.size)) := by
 have h1 := ev_ok g hx
 simp only [Rd] at h1
 exact ⟨.int .i64 s.size,by simp [execOp,ho,resolve,invoke,builtin,Builtin.len_,hts,h1,run_und ht,goInt],by simp [Rd]⟩
theorem RdL_get {w:World}{bad:Nat → Prop}{ι:Pl}:∀ {cs:List AV}{l:List Value}{i:Nat}{c:AV},RdL w bad ι cs l → cs[i]? = some c → ∃ x,l[i]? = some x ∧ x.oneCell' = true ∧ Rd w bad ι c x
 | [],l,i,c,_,h => by simp at h
 | c' :: cs, l, i, c, h, hc => by
  simp only [RdL] at h
  obtain ⟨x,l',rfl,h0,h1,h⟩ := h
  cases i with
  | zero => simp at hc;subst hc;exact ⟨x,by simp,h0,h1⟩
  | succ i => simpa using RdL_get (i := i) h (by simpa using hc)
theorem RdL_take {w:World}{bad:Nat → Prop}{ι:Pl}:∀ {cs:List AV}{l:List Value}(k:Nat),RdL w bad ι cs l → RdL w bad ι (cs.take k) (l.take k)
 | cs,l,0,_ => by simp [RdL]
 | [],l,k + 1,h => by simp only [RdL] at h;subst h;simp [RdL]
 | c' :: cs, l, k + 1, h => by
  simp only [RdL] at h
  obtain ⟨x,l',rfl,h0,h1,h⟩ := h
  simp only [List.take_succ_cons,RdL]
  exact ⟨x,_,rfl,h0,h1,RdL_take k h⟩
theorem RdL_drop {w:World}{bad:Nat → Prop}{ι:Pl}:∀ {cs:List AV}{l:List Value}(k:Nat),RdL w bad ι cs l → RdL w bad ι (cs.drop k) (l.drop k)
 | cs,l,0,h => by simpa using h
 | [],l,k + 1,h => by simp only [RdL] at h;subst h;simp [RdL]
 | c' :: cs, l, k + 1, h => by
  simp only [RdL] at h
  obtain ⟨x,l',rfl,h0,h1,h⟩ := h
  simpa using RdL_drop k h
theorem run_part1 {t:TypeId}{l:List Value}{off:Nat}{x:Value}(ha:agOf P t = some false) (hx:l[off]? = some x) (w:World):(part t l.toArray off).run P w = .ok x w:=by
 simp [part,run_ag ha,hx]
theorem pu_index1 (g:TG C ι T H a w){t el:TypeId}{x i:Operand}{cs:List AV}{c:AV}{n e:Nat}{k:IntKind}{m:Int}(ho:o.op = .index t x i) (hx:ev T x = some (.agg cs))
  (hi : ev T i = some (.v (.int k m))) (ht : arOf P t = some (n,el)) (he : szOf P el = some e) (ha : agOf P el = some false) (hm : 0 ≤ m ∧ m < n) (hc : cs[m.toNat * e]? = some c) : Pu P C ι H a w o c := by
 have h2 := ev_ok g hi
 simp only [Rd] at h2
 have hu := arOf_u ht
 have h5 := ev_ok g hx
 simp only [Rd] at h5
 obtain ⟨l,h5,h6⟩ := h5
 obtain ⟨y,h7,_,h8⟩ := RdL_get h6 hc
 refine ⟨y,?_,h8⟩
 simp [execOp,ho,h5,h2,Instr.index,asIntOf,run_und hu,run_sz he,hm,run_part1 ha h7]
theorem pu_indexS (g:TG C ι T H a w){t:TypeId}{x i:Operand}{s:ByteArray}{k:IntKind}{m:Int}{b:UInt8}(ho:o.op = .index t x i) (hx:ev T x = some (.v (.string s)))
  (hi : ev T i = some (.v (.int k m))) (ht : P.underlying t = some .string) (hm : 0 ≤ m) (hb : s[m.toNat]? = some b) : Pu P C ι H a w o (.v (.int .u8 b.toNat)) := by
 have h2 := ev_ok g hi
 have h1 := ev_ok g hx
 simp only [Rd] at h1 h2
 refine ⟨.int .u8 b.toNat,?_,by simp [Rd]⟩
 simp [execOp,ho,h1,h2,Instr.index,asIntOf,run_und ht,hm,hb]
theorem RdV_get {w:World}{bad:Nat → Prop}{ι:Pl}:∀ {cs:List AV}{l:List Value}{i:Nat}{c:AV},RdV w bad ι cs l → cs[i]? = some c → ∃ x,l[i]? = some x ∧ Rd w bad ι c x
 | [],l,i,c,_,h => by simp at h
 | c' :: cs, l, i, c, h, hc => by
  simp only [RdV] at h
  obtain ⟨x,l',rfl,h1,h⟩ := h
  cases i with
  | zero => simp at hc;subst hc;exact ⟨x,by simp,h1⟩
  | succ i => simpa using RdV_get (i := i) h (by simpa using hc)
theorem pu_extract (g:TG C ι T H a w){x:Operand}{i:Nat}{cs:List AV}{c:AV}(ho:o.op = .extract x i) (hx:ev T x = some (.tup cs)) (hc:cs[i]? = some c):Pu P C ι H a w o c:=by
 have h5 := ev_ok g hx
 simp only [Rd] at h5
 obtain ⟨l,h5,h6⟩ := h5
 obtain ⟨y,h7,h8⟩ := RdV_get h6 hc
 exact ⟨y,by simp [execOp,ho,h5,Instr.extract,h7],h8⟩
theorem pu_conv (g:TG C ι T H a w){s d:TypeId}{x:Operand}{k k':IntKind}{n:Int}(ho:o.op = .convert s d x) (hx:ev T x = some (.v (.int k' n))) (hd:inOf P d = some k) (hs:inOf P s = some k') :
  Pu P C ι H a w o (.v (.int k (k.wrap n))) := by
 have h2 := ev_ok g hx
 simp only [Rd] at h2
 exact ⟨.int k (k.wrap n),by simp [execOp,ho,h2,convert,run_und (inOf_u hd),run_und (inOf_u hs),Conv.intToInt],by simp [Rd]⟩
def bndA (T : Nat → Option AV) : Option Operand → Nat → Option Nat
 | none,d => some d
 | some x,_ => match ev T x with|some (.v (.int _ m)) => if 0 ≤ m then some m.toNat else none | _ => none
theorem bnd_ok (g:TG C ι T H a w){lo:Option Operand}{d l:Nat}(h:bndA T lo d = some l) :
  (lo = none ∧ l = d) ∨ ∃ x k,lo = some x ∧ a.eval x = .int k (l : Int) := by
 cases lo with
 | none => simp [bndA] at h;exact .inl ⟨rfl,h.symm⟩
 | some x =>
  simp only [bndA] at h
  split at h
  ·rename_i k m hx
   split at h
   ·rename_i hm
    cases h
    have h1 := ev_ok g hx
    simp only [Rd] at h1
    exact .inr ⟨x,k,rfl,by rw [h1,Int.toNat_of_nonneg hm]⟩
   ·cases h
  ·cases h
theorem run_bounds (g:TG C ι T H a w){is:Bool}{lo hi:Option Operand}{n cap l h:Nat}(hl:bndA T lo 0 = some l) (hh:bndA T hi n = some h) (hlh:l ≤ h) (hn:h ≤ n) (hc:n ≤ cap) :
  (Instr.sliceBounds is n cap (lo.map a.eval) (hi.map a.eval) none).run P w = .ok (l,h,cap) w := by
 have hc2 : (h : Int) ≤ (cap : Int) := by omega
 have hl2 : (l : Int) ≤ (h : Int) := by omega
 have hcn : h ≤ cap := by omega
 rcases bnd_ok g hl with ⟨rfl, rfl⟩ | ⟨x, k, rfl, hx⟩ <;> rcases bnd_ok g hh with ⟨rfl, rfl⟩ | ⟨y, k', rfl, hy⟩ <;>
  simp [Instr.sliceBounds,Instr.sliceBound,asIntOf, *]
def sSl (e l h : Nat) : AV → Option AV
 | .own id off n e' => if l ≤ h ∧ h ≤ n ∧ e' = e then some (.own id (off + l * e) (h - l) e) else none
 | .imm n cs => if l ≤ h ∧ h ≤ n then some (.imm (h - l) (cs.drop (l * e))) else none
 | _ => none
def sLn : AV → Option Nat
 | .own _ _ n _ => some n
 | .imm n _ => some n
 | _ => none
theorem pu_slice (g:TG C ι T H a w){t el:TypeId}{x:Operand}{lo hi:Option Operand}{av out:AV}{n e l h:Nat}(ho:o.op = .slice t x lo hi none) (hx:ev T x = some av)
  (ht : slOf P t = some el) (he : szOf P el = some e) (hn : sLn av = some n) (hl : bndA T lo 0 = some l) (hh : bndA T hi n = some h) (hp : sSl e l h av = some out) : Pu P C ι H a w o out := by
 have h1 := ev_ok g hx
 have hu := slOf_u ht
 cases av <;> simp only [sSl,sLn] at hp hn <;> first|(cases hp;done)|skip
 ·rename_i n' cs
  split at hp
  ·rename_i hc
   cases hp
   cases hn
   simp only [Rd] at h1
   obtain ⟨a',c,h3,h4⟩ := h1
   rcases h4 with h4 | ⟨b,o',hnc,rfl,h4⟩
   ·have hr := run_bounds (P := P) (w := w) (is := true) (cap := c) g hl hh hc.1 hc.2 (by omega)
    refine ⟨.slice (if c = l then a' else a'.map (·.add (l * e))) (h - l) (c - l),?_,?_⟩
    ·simp [execOp,ho,h3,Instr.sliceAt,run_und hu,Instr.slice,hr,run_sz he]
    ·simp only [Rd]; exact ⟨_,_,rfl,.inl (by omega)⟩
   ·have hr := run_bounds (P := P) (w := w) (is := true) (cap := c) g hl hh hc.1 hc.2 hnc
    by_cases h0 : h - l = 0
    ·refine ⟨.slice (if c = l then some ⟨b, o', none⟩ else (some ⟨b, o', none⟩ : Option Addr).map (·.add (l * e))) (h - l) (c - l), ?_, ?_⟩
     ·simp [execOp,ho,h3,Instr.sliceAt,run_und hu,Instr.slice,hr,run_sz he]
     ·simp only [Rd]; exact ⟨_,_,rfl,.inl h0⟩
    ·refine ⟨.slice (some ⟨b, o' + l * e, none⟩) (h - l) (c - l), ?_, ?_⟩
     ·simp [execOp,ho,h3,Instr.sliceAt,run_und hu,Instr.slice,hr,run_sz he,show ¬ c = l from by omega,Addr.add_lit]
     ·simp only [Rd]; exact ⟨_,_,rfl,.inr ⟨b,_,by omega,rfl,RdC_dropped _ h4⟩⟩
  ·cases hp
 ·rename_i id off n' e'
  split at hp
  ·rename_i hc
   obtain ⟨hc1,hc2,rfl⟩ := hc
   cases hp
   cases hn
   simp only [Rd] at h1
   rcases h1 with ⟨⟨p,h1⟩,rfl,a',h3⟩ | ⟨b,β,c,h1,h3,h4,h5⟩
   ·have hr := run_bounds (P := P) (w := w) (is := true) (cap := 0) g hl hh hc1 hc2 (by omega)
    have e1 : h = 0 := by omega
    have e2 : l = 0 := by omega
    subst e1 e2
    refine ⟨.slice a' 0 0,?_,?_⟩
    ·simp [execOp,ho,h3,Instr.sliceAt,run_und hu,Instr.slice,hr,run_sz he]
    ·simp only [Rd]; exact .inl ⟨⟨p,h1⟩,by simp,a',rfl⟩
   ·have hr := run_bounds (P := P) (w := w) (is := true) (cap := c) g hl hh hc1 hc2 h4
    by_cases h0 : c = l
    ·have e1 : h = l := by omega
     subst e1 h0
     refine ⟨.slice (some ⟨b,β + off,none⟩) 0 0,?_,?_⟩
     ·simp [execOp,ho,h3,Instr.sliceAt,run_und hu,Instr.slice,hr,run_sz he]
     ·simp only [Rd]; exact .inl ⟨⟨_,h1⟩,by simp,some ⟨b,β + off,none⟩,by simp⟩
    ·refine ⟨.slice (some ⟨b, β + (off + l * e'), none⟩) (h - l) (c - l), ?_, ?_⟩
     ·simp [execOp,ho,h3,Instr.sliceAt,run_und hu,Instr.slice,hr,run_sz he,h0,Addr.add_lit,Nat.add_assoc]
     ·simp only [Rd]
      refine .inr ⟨b,β,c - l,h1,rfl,by omega,?_⟩
      rw [Nat.sub_mul]
      have : l * e' ≤ c * e' := Nat.mul_le_mul_right _ (by omega)
      omega
  ·cases hp
theorem pu_sliceS (g:TG C ι T H a w){t:TypeId}{x:Operand}{lo hi:Option Operand}{s:ByteArray}{l h:Nat}(ho:o.op = .slice t x lo hi none) (hx:ev T x = some (.v (.string s)))
  (ht : P.underlying t = some .string) (hl : bndA T lo 0 = some l) (hh : bndA T hi s.size = some h) (hc : l ≤ h ∧ h ≤ s.size) : Pu P C ι H a w o (.v (.string (s.extract l h))) := by
 have h1 := ev_ok g hx
 simp only [Rd] at h1
 have hr := run_bounds (P := P) (w := w) (is := false) (cap := s.size) g hl hh hc.1 hc.2 (Nat.le_refl _)
 exact ⟨.string (s.extract l h),by simp [execOp,ho,h1,Instr.sliceAt,run_und ht,Instr.slice,hr],by simp [Rd]⟩
end
end Go.AL
