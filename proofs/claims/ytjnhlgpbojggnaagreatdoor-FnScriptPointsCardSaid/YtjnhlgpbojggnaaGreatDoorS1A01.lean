/-
 A part of the proofs over this program: rules and contracts of its functions (the rules).
-/
import Derived.WalkKit
set_option linter.unusedVariables false
set_option linter.unusedSimpArgs false
namespace Go.AL
open Go.RowKit
inductive AV where
 | v (x : Value)
 | any
 | imm (n : Nat) (cs : List AV)
 | iptr (cs : List AV)
 | own (id off n esz : Nat)
 | optr (id off : Nat)
 | agg (cs : List AV)
 | tup (cs : List AV)
 | clos (fn : Fn) (first captured : List AV)
 | ownc (id off n c esz : Nat)
 deriving Inhabited
def bsz (w : World) (b : Nat) : Nat := match w.heap[b]? with | some (.cells c _ _) => c.size | _ => 0
abbrev Pl := Nat → Option (Option (Nat × Nat))
mutual
def Rd (w : World) (bad : Nat → Prop) (ι : Pl) : AV → Value → Prop
 | .v x,y => y = x
 | .any,y => y.oneCell' = true
 | .imm n cs,y => ∃ a c,y = .slice a n c ∧ (n = 0 ∨ ∃ b o,n ≤ c ∧ a = some ⟨b,o,none⟩ ∧ (cs = [] ∨ ¬ bad b ∧ RdC w bad ι cs b o))
 | .iptr cs,y => ∃ b o,y = .pointer (some ⟨b,o,none⟩) ∧ (cs = [] ∨ ¬ bad b ∧ RdC w bad ι cs b o)
 | .own id off n e, y => ((∃ p, ι id = some p) ∧ n = 0 ∧ ∃ a, y = .slice a 0 0) ∨
   ∃ b β c,ι id = some (some (b,β)) ∧ y = .slice (some ⟨b,β + off,none⟩) n c ∧ n ≤ c ∧ β + off + c * e ≤ bsz w b
 | .optr id off,y => ∃ b β,ι id = some (some (b,β)) ∧ y = .pointer (some ⟨b,β + off,none⟩)
 | .agg cs,y => ∃ l : List Value,y = .agg l.toArray ∧ RdL w bad ι cs l
 | .tup cs,y => ∃ l : List Value,y = .tuple l.toArray ∧ RdV w bad ι cs l
 | .clos fn f c,y => ∃ lf lc : List Value,y = .func fn lf.toArray lc.toArray ∧ RdV w bad ι f lf ∧ RdV w bad ι c lc
 | .ownc id off n c e,y => ∃ b β k,ι id = some (some (b,β)) ∧ y = .slice (some ⟨b,β + off,none⟩) n k ∧ n ≤ c ∧ c ≤ k ∧ β + off + k * e ≤ bsz w b
def RdC (w : World) (bad : Nat → Prop) (ι : Pl) : List AV → Nat → Nat → Prop
 | [],_,_ => True
 | c :: cs,b,o => (∃ x,w.cell? ⟨b,o,none⟩ = some x ∧ x.oneCell' = true ∧ Rd w bad ι c x) ∧ RdC w bad ι cs b (o + 1)
def RdL (w : World) (bad : Nat → Prop) (ι : Pl) : List AV → List Value → Prop
 | [],l => l = []
 | c :: cs,l => ∃ x l',l = x :: l' ∧ x.oneCell' = true ∧ Rd w bad ι c x ∧ RdL w bad ι cs l'
def RdV (w : World) (bad : Nat → Prop) (ι : Pl) : List AV → List Value → Prop
 | [],l => l = []
 | c :: cs,l => ∃ x l',l = x :: l' ∧ Rd w bad ι c x ∧ RdV w bad ι cs l'
end
structure Carry (w : World) (bad : Nat → Prop) (ι : Pl) (w' : World) (bad' : Nat → Prop) (ι' : Pl) : Prop where
 cell : ∀ b o x,¬ bad b → w.cell? ⟨b,o,none⟩ = some x → ¬ bad' b ∧ w'.cell? ⟨b,o,none⟩ = some x
 pl : ∀ id p,ι id = some p → ι' id = some p
 bs : ∀ b,bsz w b ≤ bsz w' b
variable {w w' : World} {bad bad' : Nat → Prop} {ι ι' : Pl}
mutual
theorem Rd.carry (k:Carry w bad ι w' bad' ι'):∀ (av:AV) (y:Value),Rd w bad ι av y → Rd w' bad' ι' av y
 | .v x,y,h => by simpa only [Rd] using h
 | .any,y,h => by simpa only [Rd] using h
 | .imm n cs, y, h => by
  simp only [Rd] at h ⊢
  obtain ⟨a,c,rfl,h⟩ := h
  refine ⟨a,c,rfl,?_⟩
  rcases h with h | ⟨b,o,hn,rfl,h⟩
  ·exact .inl h
  ·refine .inr ⟨b, o, hn, rfl, ?_⟩
   rcases h with h | ⟨hb,h⟩
   ·exact .inl h
   ·cases cs with
    | nil => exact .inl rfl
    | cons c1 cs =>
     refine .inr ⟨?_,RdC.carryB k _ _ _ (fun o x hx => (k.cell b o x hb hx).2) h⟩
     simp only [RdC] at h
     obtain ⟨⟨x,hx,_⟩,_⟩ := h
     exact (k.cell b o x hb hx).1
 | .iptr cs, y, h => by
  simp only [Rd] at h ⊢
  obtain ⟨b,o,rfl,h⟩ := h
  refine ⟨b,o,rfl,?_⟩
  rcases h with h | ⟨hb,h⟩
  ·exact .inl h
  ·cases cs with
   | nil => exact .inl rfl
   | cons c1 cs =>
    refine .inr ⟨?_,RdC.carryB k _ _ _ (fun o x hx => (k.cell b o x hb hx).2) h⟩
    simp only [RdC] at h
    obtain ⟨⟨x,hx,_⟩,_⟩ := h
    exact (k.cell b o x hb hx).1
 | .own id off n e, y, h => by
  simp only [Rd] at h ⊢
  rcases h with ⟨⟨p,h1⟩,h2⟩ | ⟨b,β,c,h1,h2,h3,h4⟩
  ·exact .inl ⟨⟨p,k.pl _ _ h1⟩,h2⟩
  ·exact .inr ⟨b,β,c,k.pl _ _ h1,h2,h3,Nat.le_trans h4 (k.bs b)⟩
 | .optr id off, y, h => by
  simp only [Rd] at h ⊢
  obtain ⟨b,β,h1,h2⟩ := h
  exact ⟨b,β,k.pl _ _ h1,h2⟩
 | .agg cs, y, h => by
  simp only [Rd] at h ⊢
  obtain ⟨l,h1,h2⟩ := h
  exact ⟨l,h1,RdL.carry k _ _ h2⟩
 | .tup cs, y, h => by
  simp only [Rd] at h ⊢
  obtain ⟨l,h1,h2⟩ := h
  exact ⟨l,h1,RdV.carry k _ _ h2⟩
 | .clos fn f c, y, h => by
  simp only [Rd] at h ⊢
  obtain ⟨l,l2,h1,h2,h3⟩ := h
  exact ⟨l,l2,h1,RdV.carry k _ _ h2,RdV.carry k _ _ h3⟩
 | .ownc id off n c e, y, h => by
  simp only [Rd] at h ⊢
  obtain ⟨b,β,q,h1,h2,h3,h4,h5⟩ := h
  exact ⟨b,β,q,k.pl _ _ h1,h2,h3,h4,Nat.le_trans h5 (k.bs b)⟩
theorem RdC.carryB (k:Carry w bad ι w' bad' ι'):∀ (cs:List AV) (b o:Nat),(∀ o x,w.cell? ⟨b,o,none⟩ = some x → w'.cell? ⟨b,o,none⟩ = some x) → RdC w bad ι cs b o → RdC w' bad' ι' cs b o
 | [],b,o,_,h => by simp only [RdC]
 | c :: cs, b, o, hb, h => by
  simp only [RdC] at h ⊢
  obtain ⟨⟨x,hx,h1,h2⟩,h3⟩ := h
  exact ⟨⟨x,hb o x hx,h1,Rd.carry k _ _ h2⟩,RdC.carryB k _ _ _ hb h3⟩
theorem RdL.carry (k:Carry w bad ι w' bad' ι'):∀ (cs:List AV) (l:List Value),RdL w bad ι cs l → RdL w' bad' ι' cs l
 | [],l,h => by simpa only [RdL] using h
 | c :: cs, l, h => by
  simp only [RdL] at h ⊢
  obtain ⟨x,l',h0,h1,h2,h3⟩ := h
  exact ⟨x,l',h0,h1,Rd.carry k _ _ h2,RdL.carry k _ _ h3⟩
theorem RdV.carry (k:Carry w bad ι w' bad' ι'):∀ (cs:List AV) (l:List Value),RdV w bad ι cs l → RdV w' bad' ι' cs l
 | [],l,h => by simpa only [RdV] using h
 | c :: cs, l, h => by
  simp only [RdV] at h ⊢
  obtain ⟨x,l',h0,h2,h3⟩ := h
  exact ⟨x,l',h0,Rd.carry k _ _ h2,RdV.carry k _ _ h3⟩
end
theorem Carry.refl (w:World) (bad:Nat → Prop) (ι:Pl):Carry w bad ι w bad ι := ⟨fun _ _ _ h1 h2 => ⟨h1,h2⟩,fun _ _ h => h,fun _ => Nat.le_refl _⟩
theorem Carry.trans {w1 w2 w3:World}{b1 b2 b3:Nat → Prop}{i1 i2 i3:Pl}(h:Carry w1 b1 i1 w2 b2 i2) (k:Carry w2 b2 i2 w3 b3 i3):Carry w1 b1 i1 w3 b3 i3 :=
 ⟨fun b o x h1 h2 => k.cell b o x (h.cell b o x h1 h2).1 (h.cell b o x h1 h2).2,fun id p hp => k.pl id p (h.pl id p hp),fun b => Nat.le_trans (h.bs b) (k.bs b)⟩
def upd {α : Type} (f : Nat → α) (i : Nat) (x : α) : Nat → α := fun j => if j = i then x else f j
@[simp] theorem upd_same {α : Type} (f : Nat → α) (i : Nat) (x : α) : upd f i x i = x := by simp [upd]
theorem upd_ne {α:Type}(f:Nat → α){i j:Nat}(x:α) (h:j ≠ i):upd f i x j = f j := by simp [upd,h]
def badOf (X : Nat → Prop) (ι : Pl) (H : Nat → Option (List AV)) (b : Nat) : Prop := X b ∨ ∃ id cs β,H id = some cs ∧ ι id = some (some (b,β))
structure Ctx where
 N : Nat
 w0 : World
 W0 : Nat → Prop
 X : Nat → Prop
 ι0 : Pl
 xlt : ∀ b,X b → b < w0.heap.size
structure Fr (W0 : Nat → Prop) (w0 w : World) : Prop where
 os : w.os = w0.os
 tape : w.tape = w0.tape
 output : w.output = w0.output
 size : w0.heap.size ≤ w.heap.size
 block : ∀ k,k < w0.heap.size → ¬ W0 k → w.heap[k]? = w0.heap[k]?
 bs : ∀ b,bsz w0 b ≤ bsz w b
theorem Fr.refl (W0:Nat → Prop) (w:World):Fr W0 w w := ⟨rfl,rfl,rfl,Nat.le_refl _,fun _ _ _ => rfl,fun _ => Nat.le_refl _⟩
structure HG (C : Ctx) (ι : Pl) (F : Nat → Prop) (H : Nat → Option (List AV)) (w : World) : Prop where
 obj : ∀ id cs, H id = some cs → (ι id = some none ∧ cs = []) ∨ ∃ b β arr e, ι id = some (some (b, β)) ∧ w.heap[b]? = some (.cells arr e (0, 0)) ∧ β + cs.length ≤ arr.size ∧
  RdC w (badOf C.X ι H) ι cs b β ∧ ¬ C.X b ∧ (C.W0 b ∨ C.w0.heap.size ≤ b)
 sep : ∀ id id' cs cs' b β β',H id = some cs → H id' = some cs' → ι id = some (some (b,β)) → ι id' = some (some (b,β')) → id = id'
 fr : Fr C.W0 C.w0 w
 ex : ∀ id p,C.ι0 id = some p → ι id = some p
 fresh : ∀ id,F id → ι id = none
structure TG (C : Ctx) (ι : Pl) (T : Nat → Option AV) (H : Nat → Option (List AV)) (a : Act) (w : World) : Prop where
 df : a.defers = []
 sz : a.tmps.size = C.N
 tm : ∀ t av,T t = some av → ∃ y,a.tmps[t]? = some y ∧ Rd w (badOf C.X ι H) ι av y
theorem TG.carry {C:Ctx}{ι ι':Pl}{T:Nat → Option AV}{H H':Nat → Option (List AV)}{a:Act}{w w':World}(h:TG C ι T H a w)
  (k : Carry w (badOf C.X ι H) ι w' (badOf C.X ι' H') ι') : TG C ι' T H' a w' :=
 ⟨h.df,h.sz,fun t av ht => let ⟨y,h1,h2⟩ := h.tm t av ht; ⟨y,h1,Rd.carry k _ _ h2⟩⟩
theorem TG.put {C:Ctx}{ι:Pl}{T:Nat → Option AV}{H:Nat → Option (List AV)}{a:Act}{w:World}(h:TG C ι T H a w){d:Nat}(hd:d < C.N)
  {av : AV} {y : Value} (hy : Rd w (badOf C.X ι H) ι av y) : TG C ι (upd T d (some av)) H (a.put (some d) y) w := by
 refine ⟨h.df,by simp [Act.put,h.sz],fun t av' ht => ?_⟩
 simp only [Act.put]
 by_cases e : t = d
 ·subst e
  simp only [upd_same,Option.some.injEq] at ht
  subst ht
  exact ⟨y,by simp [h.sz,hd],hy⟩
 ·rw [upd_ne _ _ e] at ht
  obtain ⟨y',h1,h2⟩ := h.tm t av' ht
  exact ⟨y',by rw [Array.getElem?_setIfInBounds_ne (by omega)]; exact h1,h2⟩
theorem TG.less {C:Ctx}{ι:Pl}{T T':Nat → Option AV}{H:Nat → Option (List AV)}{a:Act}{w:World}(h:TG C ι T H a w)
  (k : ∀ t av,T' t = some av → T t = some av) : TG C ι T' H a w := ⟨h.df,h.sz,fun t av ht => h.tm t av (k t av ht)⟩
theorem RdL.length {w:World}{bad:Nat → Prop}{ι:Pl}:∀ {cs:List AV}{l:List Value},RdL w bad ι cs l → l.length = cs.length
 | [],l,h => by simp only [RdL] at h;simp [h]
 | c :: cs, l, h => by
  simp only [RdL] at h
  obtain ⟨x,l',rfl,_,_,h⟩ := h
  simp [RdL.length h]
theorem RdC.of_list {w:World}{bad:Nat → Prop}{ι:Pl}{b:Nat}{arr:Array Value}{e:TypeId}{fz:Nat × Nat}(hb:w.heap[b]? = some (.cells arr e fz)) :
  ∀ {cs : List AV} {l pre post : List Value},arr.toList = pre ++ l ++ post → RdL w bad ι cs l → RdC w bad ι cs b pre.length
 | [],l,pre,post,_,_ => by simp only [RdC]
 | c :: cs, l, pre, post, hl, h => by
  simp only [RdL] at h
  obtain ⟨x,l',rfl,h0,h1,h⟩ := h
  simp only [RdC]
  refine ⟨⟨x,?_,h0,h1⟩,?_⟩
  ·rw [World.cell?]
   simp only [hb]
   rw [← Array.getElem?_toList,hl]
   simp
  ·have := RdC.of_list hb (cs := cs) (l := l') (pre := pre ++ [x]) (post := post) (by simp [hl]) h
   simpa using this
theorem RdC.to_list {w:World}{bad:Nat → Prop}{ι:Pl}{b:Nat}:∀ {cs:List AV}{o:Nat},RdC w bad ι cs b o →
  ∃ l,RdL w bad ι cs l ∧ ∀ j v,l[j]? = some v → w.cell? ⟨b,o + j,none⟩ = some v
 | [],o,_ => ⟨[],by simp only [RdL],fun j v h => by simp at h⟩
 | c :: cs, o, h => by
  simp only [RdC] at h
  obtain ⟨⟨x,hx,h0,h1⟩,h⟩ := h
  obtain ⟨l,h2,h3⟩ := RdC.to_list h
  refine ⟨x :: l,by simp only [RdL]; exact ⟨x,l,rfl,h0,h1,h2⟩,fun j v hj => ?_⟩
  cases j with
  | zero => simp at hj;subst hj;exact hx
  | succ j =>
   have := h3 j v (by simpa using hj)
   rw [show o + (j + 1) = o + 1 + j from by omega]; exact this
theorem RdC.drop {w:World}{bad:Nat → Prop}{ι:Pl}{b:Nat}:∀ {cs:List AV}{o:Nat}(k:Nat),k ≤ cs.length → RdC w bad ι cs b o → RdC w bad ι (cs.drop k) b (o + k)
 | cs,o,0,_,h => by simpa using h
 | [],o,k + 1,hk,_ => by simp at hk
 | c :: cs, o, k + 1, hk, h => by
  simp only [RdC] at h
  have := RdC.drop k (by simpa using hk) h.2
  rw [List.drop_succ_cons,show o + (k + 1) = o + 1 + k from by omega]; exact this
theorem RdC.take {w:World}{bad:Nat → Prop}{ι:Pl}{b:Nat}:∀ {cs:List AV}{o:Nat}(k:Nat),RdC w bad ι cs b o → RdC w bad ι (cs.take k) b o
 | cs,o,0,h => by simp [RdC]
 | [],o,k + 1,_ => by simp [RdC]
 | c :: cs, o, k + 1, h => by
  simp only [RdC,List.take_succ_cons] at h ⊢
  exact ⟨h.1,RdC.take k h.2⟩
theorem RdL.append {w:World}{bad:Nat → Prop}{ι:Pl}:∀ {cs cs':List AV}{l l':List Value},RdL w bad ι cs l → RdL w bad ι cs' l' → RdL w bad ι (cs ++ cs') (l ++ l')
 | [],cs',l,l',h,h' => by simp only [RdL] at h;subst h;simpa using h'
 | c :: cs, cs', l, l', h, h' => by
  simp only [RdL] at h
  obtain ⟨x,l2,rfl,h0,h1,h⟩ := h
  simp only [List.cons_append,RdL]
  exact ⟨x,_,rfl,h0,h1,RdL.append h h'⟩
theorem RdC.append {w:World}{bad:Nat → Prop}{ι:Pl}{b:Nat}:∀ {cs cs':List AV}{o:Nat},RdC w bad ι cs b o → RdC w bad ι cs' b (o + cs.length) → RdC w bad ι (cs ++ cs') b o
 | [],cs',o,_,h' => by simpa using h'
 | c :: cs, cs', o, h, h' => by
  simp only [RdC,List.cons_append] at h ⊢
  refine ⟨h.1,RdC.append h.2 ?_⟩
  rw [show o + 1 + cs.length = o + (c :: cs).length from by simp;omega]; exact h'
theorem bsz_heap {w w':World}{b:Nat}(h:w'.heap[b]? = w.heap[b]?):bsz w' b = bsz w b := by simp [bsz,h]
theorem cell?_heap {w w':World}{b:Nat}(h:w'.heap[b]? = w.heap[b]?) (o:Nat):w'.cell? ⟨b,o,none⟩ = w.cell? ⟨b,o,none⟩ := World.cell?_of_block (a := ⟨b,o,none⟩) h
theorem lt_of_cell {w:World}{b o:Nat}{x:Value}(h:w.cell? ⟨b,o,none⟩ = some x):b < w.heap.size := World.block_lt_of_cell? w ⟨b,o,none⟩ h
theorem lt_of_heap {w:World}{b:Nat}{o:Obj}(h:w.heap[b]? = some o):b < w.heap.size:=by
 rcases Nat.lt_or_ge b w.heap.size with h'|h'
 ·exact h'
 ·rw [Array.getElem?_eq_none h'] at h;cases h
theorem HG.alloc {C:Ctx}{ι:Pl}{F:Nat → Prop}{H:Nat → Option (List AV)}{w:World}(g:HG C ι F H w){id:Nat}(hf:F id){arr:Array Value}(e:TypeId)
  {cs : List AV} {l rest : List Value} (hl : arr.toList = l ++ rest) (hr : RdL w (badOf C.X ι H) ι cs l) :
  HG C (upd ι id (some (some (w.heap.size,0)))) (fun j => F j ∧ j ≠ id) (upd H id (some cs)) (w.alloc (.cells arr e)) ∧
  Carry w (badOf C.X ι H) ι (w.alloc (.cells arr e)) (badOf C.X (upd ι id (some (some (w.heap.size,0)))) (upd H id (some cs))) (upd ι id (some (some (w.heap.size,0)))) := by
 have hold : ∀ b,b < w.heap.size → (w.alloc (.cells arr e)).heap[b]? = w.heap[b]? := fun b hb => Below.heap_alloc w _ b hb
 have hnew : (w.alloc (.cells arr e)).heap[w.heap.size]? = some (.cells arr e (0,0)) := heap_alloc_new w _
 have hid : ι id = none := g.fresh id hf
 have hne : ∀ id' p,ι id' = some p → id' ≠ id := fun id' p h e => by subst e;rw [hid] at h;cases h
 have hbad : ∀ b, b < w.heap.size → badOf C.X (upd ι id (some (some (w.heap.size, 0)))) (upd H id (some cs)) b → badOf C.X ι H b := by
  intro b hb h
  rcases h with h | ⟨id',cs',β,h1,h2⟩
  ·exact .inl h
  ·by_cases hh : id' = id
   ·subst hh;simp at h2;omega
   ·rw [upd_ne _ _ hh] at h1 h2;exact .inr ⟨id',cs',β,h1,h2⟩
 have hcar : Carry w (badOf C.X ι H) ι (w.alloc (.cells arr e)) (badOf C.X (upd ι id (some (some (w.heap.size, 0)))) (upd H id (some cs))) (upd ι id (some (some (w.heap.size, 0)))) := by
  refine ⟨fun b o x h1 h2 => ?_,fun id' p hp => ?_,fun b => ?_⟩
  ·have hlt := lt_of_cell h2
   exact ⟨fun h => h1 (hbad b hlt h),by rw [cell?_heap (hold b hlt)]; exact h2⟩
  ·rw [upd_ne _ _ (hne id' p hp)]; exact hp
  ·rcases Nat.lt_or_ge b w.heap.size with hb | hb
   ·rw [bsz_heap (hold b hb)]; exact Nat.le_refl _
   ·simp [bsz,Array.getElem?_eq_none hb]
 refine ⟨⟨?_,?_,?_,?_,?_⟩,hcar⟩
 ·intro id' cs' h
  by_cases hh : id' = id
  ·subst hh
   simp only [upd_same,Option.some.injEq] at h
   subst h
   refine .inr ⟨w.heap.size,0,arr,e,by simp,hnew,?_,?_,?_,?_⟩
   ·have h1 := RdL.length hr
    have h2 : arr.size = l.length + rest.length := by rw [← Array.length_toList,hl]; simp
    omega
   ·have := RdC.of_list hnew (cs := cs) (l := l) (pre := []) (post := rest) (by simp [hl]) (RdL.carry hcar _ _ hr)
    simpa using this
   ·intro hx;have := C.xlt _ hx;have := g.fr.size;omega
   ·exact .inr g.fr.size
  ·rw [upd_ne _ _ hh] at h
   rcases g.obj id' cs' h with h1 | ⟨b,β,arr',e',h1,h2,h3,h4,h5,h6⟩
   ·exact .inl (by rw [upd_ne _ _ hh]; exact h1)
   ·have hlt := lt_of_heap h2
    refine .inr ⟨b,β,arr',e',by rw [upd_ne _ _ hh]; exact h1,by rw [hold b hlt]; exact h2,h3,?_,h5,h6⟩
    exact RdC.carryB hcar _ _ _ (fun o x hx => by rw [cell?_heap (hold b hlt)]; exact hx) h4
 ·intro id1 id2 cs1 cs2 b β β' h1 h2 h3 h4
  by_cases e1 : id1 = id
  ·by_cases e2 : id2 = id
   ·omega
   ·subst e1
    rw [upd_ne _ _ e2] at h2 h4
    simp at h3
    rcases g.obj id2 cs2 h2 with ⟨h5,_⟩ | ⟨b',β2,arr',e',h5,h6,_⟩
    ·rw [h5] at h4;cases h4
    ·rw [h5] at h4;cases h4;have := lt_of_heap h6;omega
  ·rw [upd_ne _ _ e1] at h1 h3
   by_cases e2 : id2 = id
   ·subst e2
    simp at h4
    rcases g.obj id1 cs1 h1 with ⟨h5,_⟩ | ⟨b',β2,arr',e',h5,h6,_⟩
    ·rw [h5] at h3;cases h3
    ·rw [h5] at h3;cases h3;have := lt_of_heap h6;omega
   ·rw [upd_ne _ _ e2] at h2 h4
    exact g.sep _ _ _ _ _ _ _ h1 h2 h3 h4
 ·refine ⟨g.fr.os, g.fr.tape, g.fr.output, by simp; have := g.fr.size; omega, fun k hk hw => ?_, fun b => Nat.le_trans (g.fr.bs b) (hcar.bs b)⟩
  rw [hold k (by have := g.fr.size;omega)]; exact g.fr.block k hk hw
 ·intro id' p hp
  have := g.ex id' p hp
  rw [upd_ne _ _ (hne id' p this)]; exact this
 ·intro j ⟨h1, h2⟩
  rw [upd_ne _ _ h2]; exact g.fresh j h1
theorem HG.mut {C:Ctx}{ι:Pl}{F:Nat → Prop}{H:Nat → Option (List AV)}{w w':World}(g:HG C ι F H w){id:Nat}{cs0 cs:List AV}(h0:H id = some cs0)
  {b β : Nat} {arr : Array Value} {e : TypeId} (hi : ι id = some (some (b,β))) (hw : w'.heap[b]? = some (.cells arr e (0,0))) (hs : arr.size = bsz w b)
  {pre l post : List Value} (hl : arr.toList = pre ++ l ++ post) (hp : pre.length = β) (hr : RdL w (badOf C.X ι H) ι cs l)
  (hold : ∀ k,k ≠ b → w'.heap[k]? = w.heap[k]?) (hos : w'.os = w.os) (ht : w'.tape = w.tape) (ho : w'.output = w.output) (hz : w'.heap.size = w.heap.size) :
  HG C ι F (upd H id (some cs)) w' ∧ Carry w (badOf C.X ι H) ι w' (badOf C.X ι (upd H id (some cs))) ι := by
 have hbs : ∀ k, bsz w k ≤ bsz w' k := by
  intro k
  by_cases hk : k = b
  ·subst hk;rw [← hs]; simp [bsz,hw]
  ·rw [bsz_heap (hold k hk)]; exact Nat.le_refl _
 have hbb : badOf C.X ι H b := .inr ⟨id,cs0,β,h0,hi⟩
 have hbad : ∀ k, badOf C.X ι (upd H id (some cs)) k → badOf C.X ι H k := by
  intro k h
  rcases h with h | ⟨id',cs',β',h1,h2⟩
  ·exact .inl h
  ·by_cases hh : id' = id
   ·subst hh;exact .inr ⟨id',cs0,β',h0,h2⟩
   ·rw [upd_ne _ _ hh] at h1;exact .inr ⟨id',cs',β',h1,h2⟩
 have hcar : Carry w (badOf C.X ι H) ι w' (badOf C.X ι (upd H id (some cs))) ι :=
  ⟨fun k o x h1 h2 => ⟨fun h => h1 (hbad k h),by rw [cell?_heap (hold k (fun e => h1 (e ▸ hbb)))]; exact h2⟩,fun _ _ h => h,hbs⟩
 have hobj := g.obj id cs0 h0
 rcases hobj with ⟨h1,_⟩ | ⟨b1,β1,arr1,e1,q1,q2,q3,q4,q5,q6⟩
 ·rw [h1] at hi;cases hi
 rw [q1] at hi
 cases hi
 refine ⟨⟨?_,?_,?_,g.ex,g.fresh⟩,hcar⟩
 ·intro id' cs' h
  by_cases hh : id' = id
  ·subst hh
   simp only [upd_same,Option.some.injEq] at h
   subst h
   refine .inr ⟨b,β,arr,e,q1,hw,?_,?_,q5,q6⟩
   ·have h1 := RdL.length hr
    have h2 : arr.size = pre.length + l.length + post.length := by rw [← Array.length_toList,hl]; simp;omega
    omega
   ·have := RdC.of_list hw (cs := cs) (l := l) (pre := pre) (post := post) hl (RdL.carry hcar _ _ hr)
    rwa [hp] at this
  ·rw [upd_ne _ _ hh] at h
   rcases g.obj id' cs' h with h1 | ⟨b',β',arr',e',h1,h2,h3,h4,h5,h6⟩
   ·exact .inl h1
   ·have hne : b' ≠ b := fun e => by subst e; exact hh (g.sep _ _ _ _ _ _ _ h h0 h1 q1)
    exact .inr ⟨b',β',arr',e',h1,by rw [hold b' hne]; exact h2,h3,RdC.carryB hcar _ _ _ (fun o x hx => by rw [cell?_heap (hold b' hne)]; exact hx) h4,h5,h6⟩
 ·intro id1 id2 cs1 cs2 b' β1 β2 h1 h2 h3 h4
  have r1 : ∃ c, H id1 = some c := by
   by_cases e1 : id1 = id
   ·subst e1;exact ⟨_,h0⟩
   ·rw [upd_ne _ _ e1] at h1;exact ⟨_,h1⟩
  have r2 : ∃ c, H id2 = some c := by
   by_cases e1 : id2 = id
   ·subst e1;exact ⟨_,h0⟩
   ·rw [upd_ne _ _ e1] at h2;exact ⟨_,h2⟩
  obtain ⟨c1,r1⟩ := r1
  obtain ⟨c2,r2⟩ := r2
  exact g.sep _ _ _ _ _ _ _ r1 r2 h3 h4
 ·refine ⟨hos.trans g.fr.os, ht.trans g.fr.tape, ho.trans g.fr.output, by rw [hz]; exact g.fr.size, fun k hk hw0 => ?_, fun k => Nat.le_trans (g.fr.bs k) (hbs k)⟩
  rw [hold k ?_]; exact g.fr.block k hk hw0
  rintro rfl
  rcases q6 with q6|q6
  ·exact hw0 q6
  ·omega
theorem HG.less {C:Ctx}{ι:Pl}{F F':Nat → Prop}{H H':Nat → Option (List AV)}{w:World}(g:HG C ι F H w) (k:∀ id cs,H' id = some cs → H id = some cs) (kf:∀ id,F' id → F id) :
  HG C ι F' H' w ∧ Carry w (badOf C.X ι H) ι w (badOf C.X ι H') ι := by
 have hbad : ∀ b, badOf C.X ι H' b → badOf C.X ι H b := by
  intro b h
  rcases h with h | ⟨id',cs',β',h1,h2⟩
  ·exact .inl h
  ·exact .inr ⟨id',cs',β',k _ _ h1,h2⟩
 have hcar : Carry w (badOf C.X ι H) ι w (badOf C.X ι H') ι := ⟨fun b o x h1 h2 => ⟨fun h => h1 (hbad b h),h2⟩,fun _ _ h => h,fun _ => Nat.le_refl _⟩
 refine ⟨⟨fun id cs h => ?_,fun id id' cs cs' b β β' h1 h2 => g.sep id id' cs cs' b β β' (k _ _ h1) (k _ _ h2),g.fr,g.ex,fun id h => g.fresh id (kf id h)⟩,hcar⟩
 rcases g.obj id cs (k _ _ h) with h1 | ⟨b',β',arr',e',h1,h2,h3,h4,h5,h6⟩
 ·exact .inl h1
 ·exact .inr ⟨b',β',arr',e',h1,h2,h3,RdC.carryB hcar _ _ _ (fun o x hx => hx) h4,h5,h6⟩
theorem HG.rename {C:Ctx}{ι:Pl}{F:Nat → Prop}{H:Nat → Option (List AV)}{w:World}(g:HG C ι F H w){id id':Nat}{cs:List AV}(h0:H id = some cs) (hf:F id')
  {b β k : Nat} (hi : ι id = some (some (b,β))) (hk : k ≤ cs.length) :
  HG C (upd ι id' (some (some (b,β + k)))) (fun j => F j ∧ j ≠ id') (upd (upd H id none) id' (some (cs.drop k))) w ∧
  Carry w (badOf C.X ι H) ι w (badOf C.X (upd ι id' (some (some (b,β + k)))) (upd (upd H id none) id' (some (cs.drop k)))) (upd ι id' (some (some (b,β + k)))) := by
 have hid : ι id' = none := g.fresh id' hf
 have hne : ∀ j p,ι j = some p → j ≠ id' := fun j p h e => by subst e;rw [hid] at h;cases h
 have hbb : badOf C.X ι H b := .inr ⟨id,cs,β,h0,hi⟩
 have hii : id ≠ id' := hne _ _ hi
 have hbad : ∀ x, badOf C.X (upd ι id' (some (some (b, β + k)))) (upd (upd H id none) id' (some (cs.drop k))) x → badOf C.X ι H x := by
  intro x h
  rcases h with h | ⟨j,cs',β',h1,h2⟩
  ·exact .inl h
  ·by_cases e1 : j = id'
   ·subst e1;simp at h2;obtain ⟨rfl,_⟩ := h2;exact hbb
   ·rw [upd_ne _ _ e1] at h1 h2
    by_cases e2 : j = id
    ·subst e2;simp at h1
    ·rw [upd_ne _ _ e2] at h1;exact .inr ⟨j,cs',β',h1,h2⟩
 have hcar : Carry w (badOf C.X ι H) ι w (badOf C.X (upd ι id' (some (some (b, β + k)))) (upd (upd H id none) id' (some (cs.drop k)))) (upd ι id' (some (some (b, β + k)))) :=
  ⟨fun x o y h1 h2 => ⟨fun h => h1 (hbad x h),h2⟩,fun j p hp => by rw [upd_ne _ _ (hne j p hp)]; exact hp,fun _ => Nat.le_refl _⟩
 refine ⟨⟨?_,?_,g.fr,?_,?_⟩,hcar⟩
 ·intro j cs' h
  by_cases e1 : j = id'
  ·subst e1
   simp only [upd_same,Option.some.injEq] at h
   subst h
   rcases g.obj id cs h0 with ⟨h1,_⟩ | ⟨b',β',arr',e',h1,h2,h3,h4,h5,h6⟩
   ·rw [h1] at hi;cases hi
   ·rw [h1] at hi; cases hi
    exact .inr ⟨b,β + k,arr',e',by simp,h2,by simp;omega,RdC.carryB hcar _ _ _ (fun o x hx => hx) (RdC.drop k hk h4),h5,h6⟩
  ·rw [upd_ne _ _ e1] at h
   by_cases e2 : j = id
   ·subst e2;simp at h
   ·rw [upd_ne _ _ e2] at h
    rcases g.obj j cs' h with h1 | ⟨b',β',arr',e',h1,h2,h3,h4,h5,h6⟩
    ·exact .inl (by rw [upd_ne _ _ e1]; exact h1)
    ·exact .inr ⟨b',β',arr',e',by rw [upd_ne _ _ e1]; exact h1,h2,h3,RdC.carryB hcar _ _ _ (fun o x hx => hx) h4,h5,h6⟩
 ·intro id1 id2 cs1 cs2 b' β1 β2 h1 h2 h3 h4
  have key : ∀ j c x y, j ≠ id' → upd (upd H id none) id' (some (cs.drop k)) j = some c → upd ι id' (some (some (b, β + k))) j = some (some (x, y)) → x ≠ b := by
   intro j c x y e1 q1 q2
   rw [upd_ne _ _ e1] at q1 q2
   by_cases e2 : j = id
   ·subst e2;simp at q1
   ·rw [upd_ne _ _ e2] at q1
    rintro rfl
    exact e2 (g.sep _ _ _ _ _ _ _ q1 h0 q2 hi)
  by_cases e1 : id1 = id'
  ·by_cases e2 : id2 = id'
   ·omega
   ·subst e1;simp at h3;exact absurd h3.1.symm (key _ _ _ _ e2 h2 h4)
  ·by_cases e2 : id2 = id'
   ·subst e2;simp at h4;exact absurd h4.1.symm (key _ _ _ _ e1 h1 h3)
   ·rw [upd_ne _ _ e1] at h1 h3
    rw [upd_ne _ _ e2] at h2 h4
    by_cases e3 : id1 = id
    ·subst e3;simp at h1
    ·by_cases e4 : id2 = id
     ·subst e4;simp at h2
     ·rw [upd_ne _ _ e3] at h1
      rw [upd_ne _ _ e4] at h2
      exact g.sep _ _ _ _ _ _ _ h1 h2 h3 h4
 ·intro j p hp
  have := g.ex j p hp
  rw [upd_ne _ _ (hne j p this)]; exact this
 ·intro j ⟨h1, h2⟩
  rw [upd_ne _ _ h2]; exact g.fresh j h1
theorem HG.virt {C:Ctx}{ι:Pl}{F:Nat → Prop}{H:Nat → Option (List AV)}{w:World}(g:HG C ι F H w){id:Nat}(hf:F id) :
  HG C (upd ι id (some none)) (fun j => F j ∧ j ≠ id) (upd H id (some [])) w ∧ Carry w (badOf C.X ι H) ι w (badOf C.X (upd ι id (some none)) (upd H id (some []))) (upd ι id (some none)) := by
 have hid : ι id = none := g.fresh id hf
 have hne : ∀ j p,ι j = some p → j ≠ id := fun j p h e => by subst e;rw [hid] at h;cases h
 have hbad : ∀ x, badOf C.X (upd ι id (some none)) (upd H id (some [])) x → badOf C.X ι H x := by
  intro x h
  rcases h with h | ⟨j,cs',β',h1,h2⟩
  ·exact .inl h
  ·by_cases e1 : j = id
   ·subst e1;simp at h2
   ·rw [upd_ne _ _ e1] at h1 h2;exact .inr ⟨j,cs',β',h1,h2⟩
 have hcar : Carry w (badOf C.X ι H) ι w (badOf C.X (upd ι id (some none)) (upd H id (some []))) (upd ι id (some none)) :=
  ⟨fun x o y h1 h2 => ⟨fun h => h1 (hbad x h),h2⟩,fun j p hp => by rw [upd_ne _ _ (hne j p hp)]; exact hp,fun _ => Nat.le_refl _⟩
 refine ⟨⟨?_,?_,g.fr,?_,?_⟩,hcar⟩
 ·intro j cs' h
  by_cases e1 : j = id
  ·subst e1
   simp only [upd_same,Option.some.injEq] at h
   exact .inl ⟨by simp,h.symm⟩
  ·rw [upd_ne _ _ e1] at h
   rcases g.obj j cs' h with h1 | ⟨b',β',arr',e',h1,h2,h3,h4,h5,h6⟩
   ·exact .inl (by rw [upd_ne _ _ e1]; exact h1)
   ·exact .inr ⟨b',β',arr',e',by rw [upd_ne _ _ e1]; exact h1,h2,h3,RdC.carryB hcar _ _ _ (fun o x hx => hx) h4,h5,h6⟩
 ·intro id1 id2 cs1 cs2 b' β1 β2 h1 h2 h3 h4
  by_cases e1 : id1 = id
  ·subst e1;simp at h3
  ·by_cases e2 : id2 = id
   ·subst e2;simp at h4
   ·rw [upd_ne _ _ e1] at h1 h3
    rw [upd_ne _ _ e2] at h2 h4
    exact g.sep _ _ _ _ _ _ _ h1 h2 h3 h4
 ·intro j p hp
  have := g.ex j p hp
  rw [upd_ne _ _ (hne j p this)]; exact this
 ·intro j ⟨h1, h2⟩
  rw [upd_ne _ _ h2]; exact g.fresh j h1
def szOf (P : Program) (t : TypeId) : Option Nat := (P.info? t).map (·.size)
def byOf (P : Program) (t : TypeId) : Option Nat := (P.info? t).map (·.bytes)
def aggB : TypeDesc → Bool | .struct _ => true | .array _ _ => true | _ => false
def agOf (P : Program) (t : TypeId) : Option Bool := (P.underlying t).map aggB
def slOf (P : Program) (t : TypeId) : Option TypeId := match P.underlying t with | some (.slice e) => some e | _ => none
def fldOf (P : Program) (t : TypeId) (f : Nat) : Option (Nat × TypeId) := match P.underlying t with | some (.struct fs) => (fs[f]?).map fun x => (x.offset,x.type) | _ => none
def zrOf (P : Program) (t : TypeId) : Option (List Value) := match (P.info? t).bind (·.zero) with
 | some z => if z.cells.toList.all (·.oneCell') then some z.cells.toList else none
 | none => none
def inOf (P : Program) (t : TypeId) : Option IntKind := match P.underlying t with | some (.int k) => some k | _ => none
def avC (x : Value) : AV := match x with
 | .agg cs => if cs.toList.all (·.oneCell') then .agg (cs.toList.map .v) else .v x
 | x => .v x
def ev (T : Nat → Option AV) : Operand → Option AV
 | .tmp t => T t
 | .const (.agg cs) => some (avC (.agg cs))
 | .const x => some (.v x)
 | .global g => some (.v (.pointer (some ⟨g,0,none⟩)))
 | .func f => some (.v (.func (.func f) #[] #[]))
theorem RdL_v {w:World}{bad:Nat → Prop}{ι:Pl}:∀ {l:List Value},l.all (·.oneCell') = true → RdL w bad ι (l.map .v) l
 | [],_ => by simp [RdL]
 | x :: l, h => by
  simp only [List.all_cons,Bool.and_eq_true] at h
  simp only [List.map_cons,RdL]
  exact ⟨x,l,rfl,h.1,by simp [Rd],RdL_v h.2⟩
theorem Rd_avC {w:World}{bad:Nat → Prop}{ι:Pl}(x:Value):Rd w bad ι (avC x) x:=by
 unfold avC
 split
 ·rename_i cs
  split
  ·rename_i h
   simp only [Rd]
   exact ⟨cs.toList,by simp,RdL_v h⟩
  ·simp [Rd]
 ·simp [Rd]
theorem ev_ok {C:Ctx}{ι:Pl}{T:Nat → Option AV}{H:Nat → Option (List AV)}{a:Act}{w:World}(g:TG C ι T H a w){x:Operand}{av:AV}
  (h : ev T x = some av) : Rd w (badOf C.X ι H) ι av (a.eval x) := by
 cases x with
 | tmp t =>
  obtain ⟨y,h1,h2⟩ := g.tm t av h
  simpa [Act.eval,h1] using h2
 | const x =>
  have h2 : av = avC x := by
   cases x <;> simp only [ev,Option.some.injEq] at h <;> rw [← h] <;> rfl
  subst h2
  exact Rd_avC x
 | global g =>
  simp only [ev,Option.some.injEq] at h
  subst h
  simp [Rd,Act.eval]
 | func f =>
  simp only [ev,Option.some.injEq] at h
  subst h
  simp [Rd,Act.eval]
def Pu (P : Program) (C : Ctx) (ι : Pl) (H : Nat → Option (List AV)) (a : Act) (w : World) (o : Oper) (out : AV) : Prop :=
 ∃ y,(execOp a.eval o).run P w = .ok (.value y) w ∧ Rd w (badOf C.X ι H) ι out y
section
variable {P : Program} {C : Ctx} {ι : Pl} {T : Nat → Option AV} {H : Nat → Option (List AV)} {a : Act} {w : World} {o : Oper}
theorem pu_move (g:TG C ι T H a w){x:Operand}{av:AV}(ho:o.op = .move x ∨ o.op = .assign x) (h:ev T x = some av):Pu P C ι H a w o av:=by
 refine ⟨a.eval x,?_,ev_ok g h⟩
 rcases ho with ho|ho <;> simp [execOp,ho]
theorem pu_pick (g:TG C ι T H a w){c x y:Operand}{b:Bool}{av:AV}(ho:o.op = .pick c x y) (hc:ev T c = some (.v (.bool b)))
  (h : (if b then ev T x else ev T y) = some av) : Pu P C ι H a w o av := by
 have h1 := ev_ok g hc
 simp only [Rd] at h1
 cases b
 ·simp only [Bool.false_eq_true, if_false] at h
  refine ⟨a.eval y,?_,ev_ok g h⟩
  simp [execOp,ho,h1,asBool]
 ·simp only [if_true] at h
  refine ⟨a.eval x,?_,ev_ok g h⟩
  simp [execOp,ho,h1,asBool]
def ibin (op : BinOp) (k : IntKind) (a b : Int) : Option Value :=
 match op with
 | .add => some (.int k (k.wrap (a + b)))
 | .sub => some (.int k (k.wrap (a - b)))
 | .mul => some (.int k (k.wrap (a * b)))
 | .quo => if b = 0 then none else some (.int k (k.wrap (a.tdiv b)))
 | .rem => if b = 0 then none else some (.int k (a.tmod b))
 | .and => some (.int k (k.wrap (BitVec.ofInt k.bits a &&& BitVec.ofInt k.bits b).toNat))
 | .or => some (.int k (k.wrap (BitVec.ofInt k.bits a ||| BitVec.ofInt k.bits b).toNat))
 | .xor => some (.int k (k.wrap (BitVec.ofInt k.bits a ^^^ BitVec.ofInt k.bits b).toNat))
 | .andNot => some (.int k (k.wrap (BitVec.ofInt k.bits a &&& ~~~ BitVec.ofInt k.bits b).toNat))
 | .shl => if b < 0 then none else some (.int k (k.wrap (a * 2 ^ min b.toNat k.bits)))
 | .shr => if b < 0 then none else some (.int k (a.fdiv (2 ^ min b.toNat k.bits)))
 | .eql => some (.bool (decide (a = b)))
 | .neq => some (.bool (!decide (a = b)))
 | .lss => some (.bool (decide (a < b)))
 | .leq => some (.bool (decide (a ≤ b)))
 | .gtr => some (.bool (decide (b < a)))
 | .geq => some (.bool (decide (b ≤ a)))
theorem run_ibin {op:BinOp}{k k':IntKind}{x y:Int}{v:Value}(t:TypeId) (hk:k = k' ∨ op = .shl ∨ op = .shr) (h:ibin op k x y = some v) :
  (binOp op t (.int k x) (.int k' y)).run P w = .ok v w := by
 have hk' : op = .shl ∨ op = .shr ∨ k = k' := by rcases hk with h|h|h <;> simp [h]
 rcases hk' with rfl|rfl|rfl
 ·simp only [ibin] at h
  split at h
  ·cases h
  ·cases h;simp [binOp,Op.shift, *]
 ·simp only [ibin] at h
  split at h
  ·cases h
  ·cases h;simp [binOp,Op.shift, *]
 ·cases op <;> simp only [ibin] at h
  case quo => 
   split at h
   ·cases h
   ·cases h;simp [binOp,Op.intDiv, *]
  case rem => 
   split at h
   ·cases h
   ·cases h;simp [binOp,Op.intDiv, *]
  case shl => 
   split at h
   ·cases h
   ·cases h;simp [binOp,Op.shift, *]
  case shr => 
   split at h
   ·cases h
   ·cases h;simp [binOp,Op.shift, *]
  all_goals (cases h;simp [binOp,Op.intArith,Op.intBits,Op.intCmp])
  all_goals (first|rfl|(rw [Bool.eq_iff_iff]; simp))
theorem pu_ibin (g:TG C ι T H a w){op:BinOp}{t t':TypeId}{x y:Operand}{k k':IntKind}{m n:Int}{v:Value}(ho:o.op = .binOp op t x y t')
  (hx : ev T x = some (.v (.int k m))) (hy : ev T y = some (.v (.int k' n))) (hk : k = k' ∨ op = .shl ∨ op = .shr) (h : ibin op k m n = some v) : Pu P C ι H a w o (.v v) := by
 have h1 := ev_ok g hx
 have h2 := ev_ok g hy
 simp only [Rd] at h1 h2
 refine ⟨v,?_,by simp [Rd]⟩
 have hg : (eqGuard op t x y (.int k m) (.int k' n)).run P w = .ok () w := by
  unfold eqGuard
  cases op <;> simp
 simp only [execOp,ho,h1,h2,Sem.run_bind,hg,Result.andThen_ok,run_ibin (P := P) (w := w) t hk h,Sem.run_pure]
theorem pu_not (g:TG C ι T H a w){t:TypeId}{x:Operand}{b:Bool}(ho:o.op = .unOp .not t x) (hx:ev T x = some (.v (.bool b))):Pu P C ι H a w o (.v (.bool !b)):=by
 have h1 := ev_ok g hx
 simp only [Rd] at h1
 exact ⟨.bool !b,by simp [execOp,ho,h1,Op.unary],by simp [Rd]⟩
def kAV : AV → AV
 | .v (.slice none 0 0) => .imm 0 []
 | av => av
theorem Rd_kAV {w:World}{bad:Nat → Prop}{ι:Pl}{av:AV}{y:Value}(h:Rd w bad ι av y):Rd w bad ι (kAV av) y:=by
 unfold kAV
 split
 ·simp only [Rd] at h ⊢
  exact ⟨none,0,h,.inl trivial⟩
 ·exact h
theorem run_und {t:TypeId}{d:TypeDesc}(h:P.underlying t = some d) (w:World):(underlying t).run P w = .ok d w:=by
 simp [underlying,h]
theorem run_sz {t:TypeId}{n:Nat}(h:szOf P t = some n) (w:World):(sizeOf t).run P w = .ok n w:=by
 unfold szOf at h
 cases hi : P.info? t with
 | none => simp [hi] at h
 | some i => simp [hi] at h;simp [sizeOf,typeInfo,hi,h]
theorem run_ag {t:TypeId}{b:Bool}(h:agOf P t = some b) (w:World):(isAgg t).run P w = .ok b w:=by
 unfold agOf at h
 cases hu : P.underlying t with
 | none => simp [hu] at h
 | some d =>
  simp [hu] at h
  subst h
  simp only [isAgg,Sem.run_bind,run_und hu,Result.andThen_ok]
  cases d <;> simp [aggB]
theorem slOf_u {t e:TypeId}(h:slOf P t = some e):P.underlying t = some (.slice e):=by
 unfold slOf at h;split at h <;> simp_all
theorem inOf_u {t:TypeId}{k:IntKind}(h:inOf P t = some k):P.underlying t = some (.int k):=by
 unfold inOf at h;split at h <;> simp_all
theorem fldOf_u {t f:Nat}{o ft:Nat}(h:fldOf P t f = some (o,ft)):∃ fs x,P.underlying t = some (.struct fs) ∧ fs[f]? = some x ∧ x.offset = o ∧ x.type = ft:=by
 unfold fldOf at h
 split at h
 ·rename_i fs hu
  cases hx : fs[f]? with
  | none => simp [hx] at h
  | some x => simp [hx] at h;exact ⟨fs,x,hu,hx,h.1,h.2⟩
 ·simp at h
def pAdd (k : Nat) : AV → Option AV
 | .optr id off => some (.optr id (off + k))
 | .iptr cs => some (.iptr (cs.drop k))
 | _ => none
theorem RdC_dropped {w:World}{bad:Nat → Prop}{ι:Pl}{b o:Nat}{cs:List AV}(k:Nat) (h:cs = [] ∨ ¬ bad b ∧ RdC w bad ι cs b o):cs.drop k = [] ∨ ¬ bad b ∧ RdC w bad ι (cs.drop k) b (o + k):=by
 rcases Nat.lt_or_ge cs.length k with hk|hk
 ·exact .inl (by simp;omega)
 ·rcases h with h | ⟨h1, h2⟩
  ·subst h;exact .inl (by simp)
  ·exact .inr ⟨h1,RdC.drop k hk h2⟩
theorem Rd_pAdd {w:World}{bad:Nat → Prop}{ι:Pl}{k:Nat}{av out:AV}{y:Value}(h:Rd w bad ι av y) (hp:pAdd k av = some out) :
  ∃ b o,y = .pointer (some ⟨b,o,none⟩) ∧ Rd w bad ι out (.pointer (some ⟨b,o + k,none⟩)) := by
 cases av <;> simp only [pAdd] at hp <;> first|(cases hp;done)|skip
 ·cases hp
  simp only [Rd] at h ⊢
  obtain ⟨b,o,rfl,h⟩ := h
  exact ⟨b,o,rfl,b,o + k,rfl,RdC_dropped k h⟩
 ·cases hp
  simp only [Rd] at h ⊢
  obtain ⟨b,β,h1,rfl⟩ := h
  exact ⟨b,_,rfl,b,β,h1,by rw [Nat.add_assoc]⟩
def isPtr : AV → Bool | .optr _ _ => true | .iptr _ => true | _ => false
theorem pu_nil (g:TG C ι T H a w){x:Operand}{av:AV}(ho:o.op = .nilCheck x) (hx:ev T x = some av) (hp:isPtr av = true):Pu P C ι H a w o av:=by
 have h1 := ev_ok g hx
 refine ⟨a.eval x,?_,h1⟩
 cases av <;> simp only [isPtr] at hp <;> first|(cases hp;done)|skip
 ·simp only [Rd] at h1
  obtain ⟨b,o',h2,_⟩ := h1
  simp [execOp,ho,h2]
 ·simp only [Rd] at h1
  obtain ⟨b,β,_,h2⟩ := h1
  simp [execOp,ho,h2]
theorem pu_fieldAddr (g:TG C ι T H a w){s:TypeId}{f:Nat}{x:Operand}{av out:AV}{fo ft n:Nat}(ho:o.op = .fieldAddr s x f) (hx:ev T x = some av)
  (hf : fldOf P s f = some (fo,ft)) (hz : szOf P ft = some (n + 1)) (hp : pAdd fo av = some out) : Pu P C ι H a w o out := by
 obtain ⟨fs,fd,h1,h2,h3,h4⟩ := fldOf_u hf
 obtain ⟨b,o',h5,h6⟩ := Rd_pAdd (ev_ok g hx) hp
 refine ⟨_,?_,h6⟩
 subst h3 h4
 simp [execOp,ho,h5,Instr.fieldAt,run_und h1,h2,Instr.sureAddr,fieldPlace,run_sz hz,Addr.add_lit]
def sIdx (e : Nat) (i : Int) : AV → Option AV
 | .own id off n _ => if 0 ≤ i ∧ i < n then some (.optr id (off + i.toNat * e)) else none
 | .imm n cs => if 0 ≤ i ∧ i < n then some (.iptr (cs.drop (i.toNat * e))) else none
 | _ => none
theorem pu_indexAddr (g:TG C ι T H a w){t el:TypeId}{x i:Operand}{av out:AV}{e:Nat}{k:IntKind}{m:Int}(ho:o.op = .indexAddr t x i) (hx:ev T x = some av)
  (hi : ev T i = some (.v (.int k m))) (ht : slOf P t = some el) (he : szOf P el = some e) (hp : sIdx e m av = some out) : Pu P C ι H a w o out := by
 have h1 := ev_ok g hx
 have h2 := ev_ok g hi
 simp only [Rd] at h2
 have hu := slOf_u ht
 cases av <;> simp only [sIdx] at hp <;> first|(cases hp;done)|skip
 ·rename_i n cs
  split at hp
  ·rename_i hc
   cases hp
   simp only [Rd] at h1
   obtain ⟨a',c,h3,h4⟩ := h1
   rcases h4 with h4 | ⟨b,o',_,rfl,h4⟩
   ·omega
   refine ⟨.pointer (some ⟨b,o' + m.toNat * e,none⟩),?_,?_⟩
   ·simp [execOp,ho,h3,h2,Instr.indexAt,asIntOf,run_und hu,run_sz he,hc,Addr.add_lit]
   ·simp only [Rd]
    exact ⟨b,_,rfl,RdC_dropped _ h4⟩
  ·cases hp
 ·rename_i id off n e'
  split at hp
  ·rename_i hc
   cases hp
   simp only [Rd] at h1
   rcases h1 with ⟨_,rfl,_⟩ | ⟨b,β,c,h3,h4,h5,h6⟩
   ·omega
   refine ⟨.pointer (some ⟨b,β + (off + m.toNat * e),none⟩),?_,?_⟩
   ·simp [execOp,ho,h4,h2,Instr.indexAt,asIntOf,run_und hu,run_sz he,hc,Addr.add_lit,Nat.add_assoc]
   ·simp only [Rd]
    exact ⟨b,β,h3,rfl⟩
  ·cases hp
def deref (H : Nat → Option (List AV)) : AV → Option (List AV)
 | .optr id off => (H id).map (·.drop off)
 | .iptr cs => some cs
 | _ => none
theorem deref_ok {F:Nat → Prop}(g:HG C ι F H w){av:AV}{y:Value}{cs:List AV}(h:Rd w (badOf C.X ι H) ι av y) (hd:deref H av = some cs) :
  cs = [] ∨ ∃ b o,y = .pointer (some ⟨b,o,none⟩) ∧ RdC w (badOf C.X ι H) ι cs b o := by
 cases av <;> simp only [deref] at hd <;> first|(cases hd;done)|skip
 ·cases hd
  simp only [Rd] at h
  obtain ⟨b,o,rfl,h⟩ := h
  rcases h with h|h
  ·exact .inl h
  ·exact .inr ⟨b,o,rfl,h.2⟩
 ·rename_i id off
  cases hH : H id with
  | none => simp [hH] at hd
  | some cs0 =>
   simp [hH] at hd
   subst hd
   simp only [Rd] at h
   obtain ⟨b,β,h1,rfl⟩ := h
   rcases g.obj id cs0 hH with ⟨h2,_⟩ | ⟨b',β',arr,e,h2,h3,h4,h5,_⟩
   ·rw [h2] at h1;cases h1
   ·rw [h2] at h1; cases h1
    rcases Nat.lt_or_ge cs0.length off with hk|hk
    ·exact .inl (by simp;omega)
    ·exact .inr ⟨b,_,rfl,RdC.drop off hk h5⟩
theorem pu_load1 {F:Nat → Prop}(g:TG C ι T H a w) (gh:HG C ι F H w){t:TypeId}{x:Operand}{av c:AV}{cs:List AV}(ho:o.op = .load t x) (hx:ev T x = some av)
  (ha : agOf P t = some false) (hd : deref H av = some cs) (hc : cs[0]? = some c) : Pu P C ι H a w o c := by
 rcases deref_ok gh (ev_ok g hx) hd with h | ⟨b,o',h1,h2⟩
 ·subst h;simp at hc
 ·cases cs with
  | nil => simp at hc
  | cons c' cs =>
   simp at hc
   subst hc
   simp only [RdC] at h2
   obtain ⟨⟨y,h3,h4,h5⟩,_⟩ := h2
   exact ⟨y,by simp [execOp,ho,h1,Instr.loadAt,Instr.sureAddr,loadVar,run_ag ha,h3],h5⟩
theorem pu_loadA {F:Nat → Prop}(g:TG C ι T H a w) (gh:HG C ι F H w){t:TypeId}{x:Operand}{av:AV}{n:Nat}{cs cs':List AV}(ho:o.op = .load t x) (hx:ev T x = some av)
  (ha : agOf P t = some true) (hz : szOf P t = some n) (hd : deref H av = some cs) (hc : cs.take n = cs') (hn : cs'.length = n) (h0 : n ≠ 0) : Pu P C ι H a w o (.agg cs') := by
 subst hc
 rcases deref_ok gh (ev_ok g hx) hd with h | ⟨b,o',h1,h2⟩
 ·subst h;simp at hn;omega
 ·obtain ⟨l, h3, h4⟩ := RdC.to_list (RdC.take n h2)
  have hl : l.length = n := by rw [RdL.length h3,hn]
  have hr := run_loadCells_list (P := P) w ⟨b,o',none⟩ l (fun j v hj => by rw [Addr.add_lit]; exact h4 j v hj)
  rw [hl] at hr
  refine ⟨.agg l.toArray,?_,?_⟩
  ·simp [execOp,ho,h1,Instr.loadAt,Instr.sureAddr,loadVar,run_ag ha,run_sz hz,hr]
  ·simp only [Rd]; exact ⟨l,rfl,h3⟩
theorem pu_len (g:TG C ι T H a w){t:TypeId}{x:Operand}{av:AV}{ts:Array TypeId}{el:TypeId}{n:Nat}(ho:o.op = .call ⟨.builtin .len,#[x],ts⟩) (hts:ts[0]? = some t) (hx:ev T x = some av)
  (ht : slOf P t = some el) (hn : (match kAV av with | .own _ _ n _ => some n | .imm n _ => some n | _ => none) = some n) : Pu P C ι H a w o (.v (.int .i64 n)) := by
 have h1 := Rd_kAV (ev_ok g hx)
 have hu := slOf_u ht
 have hs : ∃ a' c, a.eval x = .slice a' n c := by
  generalize kAV av = av' at h1 hn
  cases av' <;> simp only [] at hn <;> first|(cases hn;done)|skip
  ·cases hn
   simp only [Rd] at h1
   obtain ⟨a',c,h,_⟩ := h1
   exact ⟨a',c,h⟩
  ·cases hn
   simp only [Rd] at h1
   rcases h1 with ⟨_,rfl,a',h⟩ | ⟨b,β,c,_,h,_⟩
   ·exact ⟨_,_,h⟩
   ·exact ⟨_,_,h⟩
 obtain ⟨a',c,hs⟩ := hs
 exact ⟨.int .i64 n,by simp [execOp,ho,resolve,invoke,builtin,Builtin.len_,hts,hs,run_und hu,goInt],by simp [Rd]⟩
theorem pu_lenS (g:TG C ι T H a w){t:TypeId}{x:Operand}{ts:Array TypeId}{s:ByteArray}(ho:o.op = .call ⟨.builtin .len,#[x],ts⟩) (hts:ts[0]? = some t) (hx:ev T x = some (.v (.string s)))
  (ht : P.underlying t = some .string) : Pu P C ι H a w o (.v (.int .i64 s.size)) := by
 have h1 := ev_ok g hx
 simp only [Rd] at h1
 exact ⟨.int .i64 s.size,by simp [execOp,ho,resolve,invoke,builtin,Builtin.len_,hts,h1,run_und ht,goInt],by simp [Rd]⟩
theorem RdL_take {w:World}{bad:Nat → Prop}{ι:Pl}:∀ {cs:List AV}{l:List Value}(k:Nat),RdL w bad ι cs l → RdL w bad ι (cs.take k) (l.take k)
 | cs,l,0,_ => by simp [RdL]
 | [],l,k + 1,h => by simp only [RdL] at h;subst h;simp [RdL]
 | c' :: cs, l, k + 1, h => by
  simp only [RdL] at h
  obtain ⟨x,l',rfl,h0,h1,h⟩ := h
  simp only [List.take_succ_cons,RdL]
  exact ⟨x,_,rfl,h0,h1,RdL_take k h⟩
theorem RdL_drop {w:World}{bad:Nat → Prop}{ι:Pl}:∀ {cs:List AV}{l:List Value}(k:Nat),RdL w bad ι cs l → RdL w bad ι (cs.drop k) (l.drop k)
 | cs,l,0,h => by simpa using h
 | [],l,k + 1,h => by simp only [RdL] at h;subst h;simp [RdL]
 | c' :: cs, l, k + 1, h => by
  simp only [RdL] at h
  obtain ⟨x,l',rfl,h0,h1,h⟩ := h
  simpa using RdL_drop k h
theorem pu_indexS (g:TG C ι T H a w){t:TypeId}{x i:Operand}{s:ByteArray}{k:IntKind}{m:Int}{b:UInt8}(ho:o.op = .index t x i) (hx:ev T x = some (.v (.string s)))
  (hi : ev T i = some (.v (.int k m))) (ht : P.underlying t = some .string) (hm : 0 ≤ m) (hb : s[m.toNat]? = some b) : Pu P C ι H a w o (.v (.int .u8 b.toNat)) := by
 have h2 := ev_ok g hi
 have h1 := ev_ok g hx
 simp only [Rd] at h1 h2
 refine ⟨.int .u8 b.toNat,?_,by simp [Rd]⟩
 simp [execOp,ho,h1,h2,Instr.index,asIntOf,run_und ht,hm,hb]
theorem RdV_get {w:World}{bad:Nat → Prop}{ι:Pl}:∀ {cs:List AV}{l:List Value}{i:Nat}{c:AV},RdV w bad ι cs l → cs[i]? = some c → ∃ x,l[i]? = some x ∧ Rd w bad ι c x
 | [],l,i,c,_,h => by simp at h
 | c' :: cs, l, i, c, h, hc => by
  simp only [RdV] at h
  obtain ⟨x,l',rfl,h1,h⟩ := h
  cases i with
  | zero => simp at hc;subst hc;exact ⟨x,by simp,h1⟩
  | succ i => simpa using RdV_get (i := i) h (by simpa using hc)
theorem pu_extract (g:TG C ι T H a w){x:Operand}{i:Nat}{cs:List AV}{c:AV}(ho:o.op = .extract x i) (hx:ev T x = some (.tup cs)) (hc:cs[i]? = some c):Pu P C ι H a w o c:=by
 have h5 := ev_ok g hx
 simp only [Rd] at h5
 obtain ⟨l,h5,h6⟩ := h5
 obtain ⟨y,h7,h8⟩ := RdV_get h6 hc
 exact ⟨y,by simp [execOp,ho,h5,Instr.extract,h7],h8⟩
theorem pu_conv (g:TG C ι T H a w){s d:TypeId}{x:Operand}{k k':IntKind}{n:Int}(ho:o.op = .convert s d x) (hx:ev T x = some (.v (.int k' n))) (hd:inOf P d = some k) (hs:inOf P s = some k') :
  Pu P C ι H a w o (.v (.int k (k.wrap n))) := by
 have h2 := ev_ok g hx
 simp only [Rd] at h2
 exact ⟨.int k (k.wrap n),by simp [execOp,ho,h2,convert,run_und (inOf_u hd),run_und (inOf_u hs),Conv.intToInt],by simp [Rd]⟩
def bndA (T : Nat → Option AV) : Option Operand → Nat → Option Nat
 | none,d => some d
 | some x,_ => match ev T x with|some (.v (.int _ m)) => if 0 ≤ m then some m.toNat else none | _ => none
theorem bnd_ok (g:TG C ι T H a w){lo:Option Operand}{d l:Nat}(h:bndA T lo d = some l) :
  (lo = none ∧ l = d) ∨ ∃ x k,lo = some x ∧ a.eval x = .int k (l : Int) := by
 cases lo with
 | none => simp [bndA] at h;exact .inl ⟨rfl,h.symm⟩
 | some x =>
  simp only [bndA] at h
  split at h
  ·rename_i k m hx
   split at h
   ·rename_i hm
    cases h
    have h1 := ev_ok g hx
    simp only [Rd] at h1
    exact .inr ⟨x,k,rfl,by rw [h1,Int.toNat_of_nonneg hm]⟩
   ·cases h
  ·cases h
theorem run_bounds (g:TG C ι T H a w){is:Bool}{lo hi:Option Operand}{n cap l h:Nat}(hl:bndA T lo 0 = some l) (hh:bndA T hi n = some h) (hlh:l ≤ h) (hn:h ≤ n) (hc:n ≤ cap) :
  (Instr.sliceBounds is n cap (lo.map a.eval) (hi.map a.eval) none).run P w = .ok (l,h,cap) w := by
 have hc2 : (h : Int) ≤ (cap : Int) := by omega
 have hl2 : (l : Int) ≤ (h : Int) := by omega
 have hcn : h ≤ cap := by omega
 rcases bnd_ok g hl with ⟨rfl, rfl⟩ | ⟨x, k, rfl, hx⟩ <;> rcases bnd_ok g hh with ⟨rfl, rfl⟩ | ⟨y, k', rfl, hy⟩ <;>
  simp [Instr.sliceBounds,Instr.sliceBound,asIntOf, *]
def sSl (e l h : Nat) : AV → Option AV
 | .own id off n e' => if l ≤ h ∧ h ≤ n ∧ e' = e then some (.own id (off + l * e) (h - l) e) else none
 | .imm n cs => if l ≤ h ∧ h ≤ n then some (.imm (h - l) (cs.drop (l * e))) else none
 | _ => none
def sLn : AV → Option Nat
 | .own _ _ n _ => some n
 | .imm n _ => some n
 | _ => none
theorem pu_slice (g:TG C ι T H a w){t el:TypeId}{x:Operand}{lo hi:Option Operand}{av out:AV}{n e l h:Nat}(ho:o.op = .slice t x lo hi none) (hx:ev T x = some av)
  (ht : slOf P t = some el) (he : szOf P el = some e) (hn : sLn av = some n) (hl : bndA T lo 0 = some l) (hh : bndA T hi n = some h) (hp : sSl e l h av = some out) : Pu P C ι H a w o out := by
 have h1 := ev_ok g hx
 have hu := slOf_u ht
 cases av <;> simp only [sSl,sLn] at hp hn <;> first|(cases hp;done)|skip
 ·rename_i n' cs
  split at hp
  ·rename_i hc
   cases hp
   cases hn
   simp only [Rd] at h1
   obtain ⟨a',c,h3,h4⟩ := h1
   rcases h4 with h4 | ⟨b,o',hnc,rfl,h4⟩
   ·have hr := run_bounds (P := P) (w := w) (is := true) (cap := c) g hl hh hc.1 hc.2 (by omega)
    refine ⟨.slice (if c = l then a' else a'.map (·.add (l * e))) (h - l) (c - l),?_,?_⟩
    ·simp [execOp,ho,h3,Instr.sliceAt,run_und hu,Instr.slice,hr,run_sz he]
    ·simp only [Rd]; exact ⟨_,_,rfl,.inl (by omega)⟩
   ·have hr := run_bounds (P := P) (w := w) (is := true) (cap := c) g hl hh hc.1 hc.2 hnc
    by_cases h0 : h - l = 0
    ·refine ⟨.slice (if c = l then some ⟨b, o', none⟩ else (some ⟨b, o', none⟩ : Option Addr).map (·.add (l * e))) (h - l) (c - l), ?_, ?_⟩
     ·simp [execOp,ho,h3,Instr.sliceAt,run_und hu,Instr.slice,hr,run_sz he]
     ·simp only [Rd]; exact ⟨_,_,rfl,.inl h0⟩
    ·refine ⟨.slice (some ⟨b, o' + l * e, none⟩) (h - l) (c - l), ?_, ?_⟩
     ·simp [execOp,ho,h3,Instr.sliceAt,run_und hu,Instr.slice,hr,run_sz he,show ¬ c = l from by omega,Addr.add_lit]
     ·simp only [Rd]; exact ⟨_,_,rfl,.inr ⟨b,_,by omega,rfl,RdC_dropped _ h4⟩⟩
  ·cases hp
 ·rename_i id off n' e'
  split at hp
  ·rename_i hc
   obtain ⟨hc1,hc2,rfl⟩ := hc
   cases hp
   cases hn
   simp only [Rd] at h1
   rcases h1 with ⟨⟨p,h1⟩,rfl,a',h3⟩ | ⟨b,β,c,h1,h3,h4,h5⟩
   ·have hr := run_bounds (P := P) (w := w) (is := true) (cap := 0) g hl hh hc1 hc2 (by omega)
    have e1 : h = 0 := by omega
    have e2 : l = 0 := by omega
    subst e1 e2
    refine ⟨.slice a' 0 0,?_,?_⟩
    ·simp [execOp,ho,h3,Instr.sliceAt,run_und hu,Instr.slice,hr,run_sz he]
    ·simp only [Rd]; exact .inl ⟨⟨p,h1⟩,by simp,a',rfl⟩
   ·have hr := run_bounds (P := P) (w := w) (is := true) (cap := c) g hl hh hc1 hc2 h4
    by_cases h0 : c = l
    ·have e1 : h = l := by omega
     subst e1 h0
     refine ⟨.slice (some ⟨b,β + off,none⟩) 0 0,?_,?_⟩
     ·simp [execOp,ho,h3,Instr.sliceAt,run_und hu,Instr.slice,hr,run_sz he]
     ·simp only [Rd]; exact .inl ⟨⟨_,h1⟩,by simp,some ⟨b,β + off,none⟩,by simp⟩
    ·refine ⟨.slice (some ⟨b, β + (off + l * e'), none⟩) (h - l) (c - l), ?_, ?_⟩
     ·simp [execOp,ho,h3,Instr.sliceAt,run_und hu,Instr.slice,hr,run_sz he,h0,Addr.add_lit,Nat.add_assoc]
     ·simp only [Rd]
      refine .inr ⟨b,β,c - l,h1,rfl,by omega,?_⟩
      rw [Nat.sub_mul]
      have : l * e' ≤ c * e' := Nat.mul_le_mul_right _ (by omega)
      omega
  ·cases hp
theorem pu_sliceS (g:TG C ι T H a w){t:TypeId}{x:Operand}{lo hi:Option Operand}{s:ByteArray}{l h:Nat}(ho:o.op = .slice t x lo hi none) (hx:ev T x = some (.v (.string s)))
  (ht : P.underlying t = some .string) (hl : bndA T lo 0 = some l) (hh : bndA T hi s.size = some h) (hc : l ≤ h ∧ h ≤ s.size) : Pu P C ι H a w o (.v (.string (s.extract l h))) := by
 have h1 := ev_ok g hx
 simp only [Rd] at h1
 have hr := run_bounds (P := P) (w := w) (is := false) (cap := s.size) g hl hh hc.1 hc.2 (Nat.le_refl _)
 exact ⟨.string (s.extract l h),by simp [execOp,ho,h1,Instr.sliceAt,run_und ht,Instr.slice,hr],by simp [Rd]⟩
end
def Ef (P : Program) (C : Ctx) (ι : Pl) (F' : Nat → Prop) (H : Nat → Option (List AV)) (a : Act) (w : World) (o : Oper) (out : AV) (H' : Nat → Option (List AV)) : Prop :=
 ∃ n y ι' w', (execOp a.eval o).run P w = .ok n w' ∧ ((n = .value y ∧ Rd w' (badOf C.X ι' H') ι' out y) ∨ (n = .skip ∧ y = undef ∧ out = .v undef)) ∧
  HG C ι' F' H' w' ∧ Carry w (badOf C.X ι H) ι w' (badOf C.X ι' H') ι'
section
variable {P : Program} {C : Ctx} {ι : Pl} {T : Nat → Option AV} {F : Nat → Prop} {H : Nat → Option (List AV)} {a : Act} {w : World} {o : Oper}
theorem zrOf_i {t:TypeId}{zs:List Value}(h:zrOf P t = some zs):∃ i z,P.info? t = some i ∧ i.zero = some z ∧ z.cells.toList = zs ∧ zs.all (·.oneCell') = true:=by
 unfold zrOf at h
 cases hi : P.info? t with
 | none => simp [hi] at h
 | some i =>
  cases hz : i.zero with
  | none => simp [hi,hz] at h
  | some z =>
   simp only [hi,Option.bind_some,hz] at h
   split at h
   ·cases h;rename_i h;exact ⟨i,z,rfl,hz,rfl,h⟩
   ·cases h
theorem szOf_i {t:TypeId}{n:Nat}{i:TypeInfo}(h:szOf P t = some n) (hi:P.info? t = some i):i.size = n := by simpa [szOf,hi] using h
theorem byOf_i {t:TypeId}{n:Nat}{i:TypeInfo}(h:byOf P t = some n) (hi:P.info? t = some i):i.bytes = n := by simpa [byOf,hi] using h
theorem ef_alloc (gh:HG C ι F H w){t:TypeId}{id:Nat}{zs:List Value}(ho:o.op = .alloc t) (hz:zrOf P t = some zs) (hf:F id) :
  Ef P C ι (fun j => F j ∧ j ≠ id) H a w o (.optr id 0) (upd H id (some (zs.map .v))) := by
 obtain ⟨i,z,h1,h2,h3,h4⟩ := zrOf_i hz
 obtain ⟨g1,g2⟩ := gh.alloc (id := id) hf (arr := z.cells) t (cs := zs.map .v) (l := zs) (rest := []) (by simp [h3]) (RdL_v h4)
 refine ⟨_,.pointer (some ⟨w.heap.size,0,none⟩),_,_,?_,.inl ⟨rfl,?_⟩,g1,g2⟩
 ·simp [execOp,ho,Instr.alloc,zeroValue,typeInfo,h1,h2,newVar,newRow]
 ·simp only [Rd]; exact ⟨w.heap.size,0,by simp,rfl⟩
def oneAV : AV → Bool
 | .v x => x.oneCell'
 | .agg _ | .tup _ => false
 | _ => true
theorem oneAV_ok {w:World}{bad:Nat → Prop}{ι:Pl}{av:AV}{y:Value}(h:Rd w bad ι av y) (h1:oneAV av = true):y.oneCell' = true:=by
 cases av <;> simp only [oneAV] at h1 <;> simp only [Rd] at h <;> first|(cases h1;done)|skip
 ·subst h;exact h1
 ·exact h
 ·obtain ⟨_,_,rfl,_⟩ := h;rfl
 ·obtain ⟨_,_,rfl,_⟩ := h;rfl
 ·rcases h with ⟨_,_,_,rfl⟩ | ⟨_,_,_,_,rfl,_⟩ <;> rfl
 ·obtain ⟨_,_,_,rfl⟩ := h;rfl
 ·obtain ⟨_,_,rfl,_⟩ := h;rfl
 ·obtain ⟨_,_,_,_,rfl,_⟩ := h;rfl
def cellsOf : AV → Option (List AV)
 | .agg cs => some cs
 | av => if oneAV av then some [av] else none
theorem cells_one {y:Value}(h:y.oneCell' = true):y.cells = #[y] := by cases y <;> first|rfl | cases h
theorem cellsOf_ok {w:World}{bad:Nat → Prop}{ι:Pl}{av:AV}{y:Value}{cs:List AV}(h:Rd w bad ι av y) (hc:cellsOf av = some cs):RdL w bad ι cs y.cells.toList:=by
 by_cases hag : ∃ l,av = .agg l
 ·obtain ⟨l, rfl⟩ := hag
  simp only [cellsOf,Option.some.injEq] at hc
  subst hc
  simp only [Rd] at h
  obtain ⟨l',rfl,h⟩ := h
  simpa [Value.cells] using h
 ·have : cellsOf av = if oneAV av then some [av] else none := by
   cases av <;> first|rfl|(exact absurd ⟨_,rfl⟩ hag)
  rw [this] at hc
  split at hc
  ·cases hc
   rename_i h1
   have h2 := oneAV_ok h h1
   rw [cells_one h2]
   simp only [RdL]
   exact ⟨y,[],rfl,h2,h,rfl⟩
  ·cases hc
theorem ef_box (g:TG C ι T H a w) (gh:HG C ι F H w){t:TypeId}{x:Operand}{id:Nat}{av:AV}{cs:List AV}(ho:o.op = .box t x) (hx:ev T x = some av) (hc:cellsOf av = some cs) (hf:F id) :
  Ef P C ι (fun j => F j ∧ j ≠ id) H a w o (.optr id 0) (upd H id (some cs)) := by
 obtain ⟨g1,g2⟩ := gh.alloc (id := id) hf (arr := (a.eval x).cells) t (cs := cs) (l := (a.eval x).cells.toList) (rest := []) (by simp) (cellsOf_ok (ev_ok g hx) hc)
 refine ⟨_,.pointer (some ⟨w.heap.size,0,none⟩),_,_,?_,.inl ⟨rfl,?_⟩,g1,g2⟩
 ·simp [execOp,ho,Instr.box,newVar,newRow]
 ·simp only [Rd]; exact ⟨w.heap.size,0,by simp,rfl⟩
def spl (cs : List AV) (off : Nat) (new : List AV) : List AV := cs.take off ++ new ++ cs.drop (off + new.length)
def fillA (place : Nat → Option (Nat × Nat)) (cs : List AV) : List (Nat × AV) → Option (List AV)
 | [] => some cs
 | (i, av) :: rest =>
  match place i,cellsOf av with
  | some (off,size),some new => if new.length = size ∧ off + size ≤ cs.length then fillA place (spl cs off new) rest else none
  | _,_ => none
theorem setFold (vs:List Value):∀ (k off:Nat) (pre mid post:List Value) (cs:Array Value),cs.toList = pre ++ mid ++ post → pre.length = off + k → mid.length = vs.length →
  ((vs.zipIdx k).foldl (fun (cs : Array Value) p => cs.setIfInBounds (off + p.2) p.1) cs).toList = pre ++ vs ++ post := by
 induction vs with
 | nil =>
  intro k off pre mid post cs h _ hm
  have : mid = [] := List.eq_nil_of_length_eq_zero (by simpa using hm)
  subst this
  simpa using h
 | cons v vs ih =>
  intro k off pre mid post cs h hp hm
  match mid,hm with
  | m :: mid, hm =>
   simp only [List.zipIdx_cons,List.foldl_cons]
   rw [ih (k + 1) off (pre ++ [v]) mid post _ ?_ (by simp;omega) (by simpa using hm)]
   ·simp
   ·rw [Array.toList_setIfInBounds, h, List.append_assoc, List.set_append_right _ _ (by omega), hp, Nat.sub_self]
    simp
theorem setFold' (vs:List Value) (off:Nat) (cs:Array Value) (h:off + vs.length ≤ cs.size) :
  ((vs.zipIdx 0).foldl (fun (cs : Array Value) p => cs.setIfInBounds (off + p.2) p.1) cs).toList = cs.toList.take off ++ vs ++ cs.toList.drop (off + vs.length) := by
 refine setFold vs 0 off (cs.toList.take off) ((cs.toList.drop off).take vs.length) (cs.toList.drop (off + vs.length)) cs ?_ (by simp;omega) (by simp;omega)
 rw [← List.drop_drop,List.append_assoc,List.take_append_drop,List.take_append_drop]
theorem RdL_spl {w:World}{bad:Nat → Prop}{ι:Pl}{cs new:List AV}{l l':List Value}(off:Nat) (h:RdL w bad ι cs l) (h':RdL w bad ι new l') :
  RdL w bad ι (spl cs off new) (l.take off ++ l' ++ l.drop (off + l'.length)) := by
 unfold spl
 rw [RdL.length h']
 exact RdL.append (RdL.append (RdL_take _ h) h') (RdL_drop _ h)
theorem fill_ok {w:World}{bad:Nat → Prop}{ι:Pl}{place:Nat → Option (Nat × Nat)}:∀ {ps:List (Nat × AV)}{qs:List (Nat × Value)}{cs cs':List AV}{arr:Array Value},
  RdL w bad ι cs arr.toList → ps.length = qs.length → (∀ (j i : Nat) av y i',ps[j]? = some (i,av) → qs[j]? = some (i',y) → i = i' ∧ Rd w bad ι av y) → fillA place cs ps = some cs' →
  ∃ arr',Instr.fill place arr qs = some arr' ∧ RdL w bad ι cs' arr'.toList
 | [], qs, cs, cs', arr, h, hl, _, hf => by
  have : qs = [] := List.eq_nil_of_length_eq_zero (by simpa using hl.symm)
  subst this
  simp only [fillA,Option.some.injEq] at hf
  subst hf
  exact ⟨arr,rfl,h⟩
 | (i,av) :: ps,[],cs,cs',arr,_,hl,_,_ => by simp at hl
 | (i, av) :: ps, (i', y) :: qs, cs, cs', arr, h, hl, hr, hf => by
  obtain ⟨rfl,hy⟩ := hr 0 i av y i' (by simp) (by simp)
  simp only [fillA] at hf
  split at hf
  ·rename_i off size new hp hc
   split at hf
   ·rename_i hcond
    have h1 := cellsOf_ok hy hc
    have h2 := RdL.length h1
    have h3 := RdL.length h
    simp only [Array.length_toList] at h2 h3
    have hset := setFold' y.cells.toList off arr (by simp;omega)
    have hsp := RdL_spl off h h1
    rw [← hset] at hsp
    obtain ⟨arr',h4,h5⟩ := fill_ok (place := place) (ps := ps) (qs := qs) hsp (by simpa using hl) (fun j i av y i' h6 h7 => hr (j + 1) i av y i' (by simpa using h6) (by simpa using h7)) hf
    refine ⟨arr',?_,h5⟩
    simp only [Instr.fill,hp]
    rw [if_neg (by simp;omega)]
    rw [← h4]
    congr 1
    rw [← Array.foldl_toList]
    simp [Array.toList_zipIdx]
   ·cases hf
  ·cases hf
def evs (T : Nat → Option AV) : List (Nat × Operand) → Option (List (Nat × AV))
 | [] => some []
 | (i,x) :: ps => match ev T x,evs T ps with|some av,some l => some ((i,av) :: l) | _,_ => none
theorem evs_ok (g:TG C ι T H a w):∀ {ps:List (Nat × Operand)}{l:List (Nat × AV)},evs T ps = some l →
  l.length = (ps.map fun (p : Nat × Operand) => (p.1,a.eval p.2)).length ∧
  ∀ (j i : Nat) av y i',l[j]? = some (i,av) → (ps.map fun (p : Nat × Operand) => (p.1,a.eval p.2))[j]? = some (i',y) → i = i' ∧ Rd w (badOf C.X ι H) ι av y
 | [],l,h => by simp only [evs,Option.some.injEq] at h;subst h;simp
 | (i, x) :: ps, l, h => by
  simp only [evs] at h
  split at h
  ·rename_i av l' h1 h2
   cases h
   obtain ⟨h3,h4⟩ := evs_ok g h2
   refine ⟨by simpa using h3,fun j i2 av2 y2 i3 h5 h6 => ?_⟩
   cases j with
   | zero =>
    simp at h5 h6
    obtain ⟨rfl,rfl⟩ := h5
    obtain ⟨rfl,rfl⟩ := h6
    exact ⟨rfl,ev_ok g h1⟩
   | succ j => exact h4 j i2 av2 y2 i3 (by simpa using h5) (by simpa using h6)
  ·cases h
def plOf (P : Program) (t : TypeId) : Option (List (Nat × Nat)) := match P.underlying t with
 | some (.struct fs) => fs.toList.mapM fun f => (szOf P f.type).map fun s => (f.offset,s)
 | _ => none
theorem run_places (w:World):∀ {fs:List Field}{l:List (Nat × Nat)},(fs.mapM fun f => (szOf P f.type).map fun s => (f.offset,s)) = some l →
  (fs.mapM fun (f : Field) => do pure (f.offset,← sizeOf f.type)).run P w = .ok l w
 | [],l,h => by simp at h;subst h;simp
 | f :: fs, l, h => by
  simp only [List.mapM_cons,Option.bind_eq_bind,Option.bind_eq_some_iff,Option.map_eq_some_iff] at h
  obtain ⟨x,⟨s,h1,rfl⟩,l',h2,h3⟩ := h
  cases h3
  have ih := run_places w h2
  simp only [bind_pure_comp] at ih
  simp [List.mapM_cons,run_sz h1,ih]
theorem pu_build (g:TG C ι T H a w){t:TypeId}{parts:Array (Nat × Operand)}{pl:List (Nat × Nat)}{zs:List Value}{l:List (Nat × AV)}{cs:List AV}(ho:o.op = .build t parts)
  (hp : plOf P t = some pl) (hz : zrOf P t = some zs) (hl : evs T parts.toList = some l) (hf : fillA (pl[·]?) (zs.map .v) l = some cs) : Pu P C ι H a w o (.agg cs) := by
 unfold plOf at hp
 split at hp
 ·rename_i fs hu
  obtain ⟨i,z,h1,h2,h3,h4⟩ := zrOf_i hz
  obtain ⟨h5,h6⟩ := evs_ok g hl
  obtain ⟨arr',h7,h8⟩ := fill_ok (place := (pl[·]?)) (arr := z.cells) (by rw [h3]; exact RdL_v h4) h5 h6 hf
  refine ⟨.agg arr',?_,by simp only [Rd]; exact ⟨arr'.toList,by simp,h8⟩⟩
  have hpl := run_places (P := P) w hp
  have hpl' : (fs.mapM fun (f : Field) => do pure (f.offset, ← sizeOf f.type)).run P w = .ok pl.toArray w := by
   rw [Array.mapM_eq_mapM_toList,Sem.run_map,hpl]; rfl
  simp only [execOp,ho,Instr.build,Sem.run_bind,zeroValue,typeInfo,run_program,Result.andThen_ok,h1,h2,Sem.run_pure,run_und hu,hpl']
  simp [h7]
 ·cases hp
theorem repl_get (zs:List Value) (h:zs ≠ []):∀ (n i:Nat),i < n * zs.length → ((List.replicate n zs).flatten)[i]? = some (zs[i % zs.length]!)
 | 0,i,hi => by simp at hi
 | n + 1, i, hi => by
  have hp : 0 < zs.length := List.length_pos_iff.2 h
  simp only [List.replicate_succ,List.flatten_cons,List.getElem?_append]
  by_cases hlt : i < zs.length
  ·rw [if_pos hlt, Nat.mod_eq_of_lt hlt]
   simp [hlt]
  ·have e : (n + 1) * zs.length = n * zs.length + zs.length := by rw [Nat.add_mul, Nat.one_mul]
   rw [if_neg hlt,repl_get zs h n (i - zs.length) (by omega),← Nat.mod_eq_sub_mod (by omega)]
theorem made_list (z:Array Value) (n k:Nat) (hk:k = n * z.size):((Array.range k).map (z[· % z.size]!)).toList = (List.replicate n z.toList).flatten:=by
 subst hk
 by_cases h : z = #[]
 ·subst h
  simp
 ·have hz : z.toList ≠ [] := by simpa using h
  apply List.ext_getElem?
  intro i
  by_cases hi : i < n * z.size
  ·rw [repl_get z.toList hz n i (by simpa using hi)]
   simp [hi]
   rw [getElem!_def]
   cases z[i % z.size]? <;> rfl
  ·rw [List.getElem?_eq_none (by simp;omega),List.getElem?_eq_none (by simp;omega)]
theorem all_flat (zs:List Value) (h:zs.all (·.oneCell') = true):∀ n,((List.replicate n zs).flatten).all (·.oneCell') = true
 | 0 => by simp
 | n + 1 => by simp only [List.replicate_succ,List.flatten_cons,List.all_append,h,all_flat zs h n,Bool.and_self]
theorem run_buildSlice {t el:TypeId}{len e:Nat}{i:TypeInfo}{z:Value}{ps:Array (Nat × Value)}{arr:Array Value}(hu:P.underlying t = some (.slice el)) (hi:P.info? el = some i) (hz:i.zero = some z)
  (he : i.size = e) (hsm : len * e ≤ 16777216)
  (hfl : Instr.fill (fun i => some (i * e,e)) ((Array.range (len * e)).map ((if len * e = 0 then #[] else z.cells)[· % (if len * e = 0 then (#[] : Array Value) else z.cells).size]!)) ps.toList = some arr) (w : World) :
  (Instr.buildSlice t len ps).run P w = .ok (.slice (some ⟨w.heap.size,0,none⟩) len len) (w.alloc (.cells arr el)) := by
 have hs : szOf P el = some e := by simp [szOf,hi,he]
 by_cases h0 : len * e = 0
 ·simp only [h0, if_true] at hfl
  simp only [Instr.buildSlice,Sem.run_bind,run_und hu,Result.andThen_ok,run_sz hs]
  rw [if_neg (by omega)]
  simp only [h0,if_true,Sem.run_bind,Sem.run_pure,Result.andThen_ok]
  rw [hfl]
  rfl
 ·simp only [h0, if_false] at hfl
  simp only [Instr.buildSlice,Sem.run_bind,run_und hu,Result.andThen_ok,run_sz hs]
  rw [if_neg (by omega)]
  simp only [h0,if_false,zeroValue,typeInfo,Sem.run_bind,Sem.run_pure,Result.andThen_ok,run_program,hi,hz]
  rw [hfl]
  rfl
theorem fillA_len {place:Nat → Option (Nat × Nat)}:∀ (ps:List (Nat × AV)) (c c':List AV),fillA place c ps = some c' → c'.length = c.length
 | [],c,c',h => by simp only [fillA,Option.some.injEq] at h;subst h;rfl
 | (i, av) :: ps, c, c', h => by
  simp only [fillA] at h
  split at h
  ·rename_i off size new hp hc
   split at h
   ·rename_i hcond
    rw [fillA_len ps _ _ h]
    simp [spl]
    omega
   ·cases h
  ·cases h
theorem ef_buildSlice (g:TG C ι T H a w) (gh:HG C ι F H w){t el:TypeId}{len e id:Nat}{parts:Array (Nat × Operand)}{zs:List Value}{l:List (Nat × AV)}{cs:List AV}(ho:o.op = .buildSlice t len parts)
  (ht : slOf P t = some el) (he : szOf P el = some e) (hz : zrOf P el = some zs) (hze : zs.length = e) (hsm : len * e ≤ 16777216) (hl : evs T parts.toList = some l)
  (hfl : fillA (fun i => some (i * e,e)) ((List.replicate len (zs.map .v)).flatten) l = some cs) (hf : F id) :
  Ef P C ι (fun j => F j ∧ j ≠ id) H a w o (.own id 0 len e) (upd H id (some cs)) := by
 obtain ⟨i,z,h1,h2,h3,h4⟩ := zrOf_i hz
 obtain ⟨h5,h6⟩ := evs_ok g hl
 have hzsz : z.cells.size = e := by rw [← hze,← h3]; simp
 have harr : ((Array.range (len * e)).map ((if len * e = 0 then #[] else z.cells)[· % (if len * e = 0 then (#[] : Array Value) else z.cells).size]!)).toList = (List.replicate len zs).flatten := by
  by_cases h0 : len * e = 0
  ·rcases Nat.mul_eq_zero.1 h0 with h | h
   ·subst h;simp
   ·subst h
    have : zs = [] := List.eq_nil_of_length_eq_zero hze
    subst this
    simp
  ·simp only [h0, if_false]
   rw [made_list z.cells len (len * e) (by rw [hzsz]),h3]
 have hrd : RdL w (badOf C.X ι H) ι ((List.replicate len (zs.map AV.v)).flatten) ((Array.range (len * e)).map ((if len * e = 0 then #[] else z.cells)[· % (if len * e = 0 then (#[] : Array Value) else z.cells).size]!)).toList := by
  rw [harr]
  have : (List.replicate len (zs.map AV.v)).flatten = ((List.replicate len zs).flatten).map AV.v := by rw [List.map_flatten,List.map_replicate]
  rw [this]
  exact RdL_v (all_flat zs h4 len)
 obtain ⟨arr',h7,h8⟩ := fill_ok (place := fun i => some (i * e,e)) hrd h5 h6 hfl
 obtain ⟨g1,g2⟩ := gh.alloc (id := id) hf (arr := arr') el (cs := cs) (l := arr'.toList) (rest := []) (by simp) h8
 have hsz : arr'.size = len * e := by
  have h9 := RdL.length h8
  have h10 := RdL.length hrd
  have h11 := fillA_len _ _ _ hfl
  simp only [Array.length_toList] at h9 h10
  have h12 : ((Array.range (len * e)).map ((if len * e = 0 then #[] else z.cells)[· % (if len * e = 0 then (#[] : Array Value) else z.cells).size]!)).size = len * e := by simp
  omega
 have hr := run_buildSlice (P := P) (ps := parts.map fun p => (p.1,a.eval p.2)) (arr := arr') (slOf_u ht) h1 h2 (szOf_i he h1) hsm (by rw [← h7,Array.toList_map]) w
 refine ⟨_,.slice (some ⟨w.heap.size,0,none⟩) len len,_,_,?_,.inl ⟨rfl,?_⟩,g1,g2⟩
 ·simp only [execOp,ho,Sem.run_bind,hr,Result.andThen_ok,Sem.run_pure]
 ·simp only [Rd]
  exact .inr ⟨w.heap.size,0,len,by simp,by simp,Nat.le_refl _,by rw [bsz,heap_alloc_new]; simp [hsz]⟩
theorem RdC.seg {w:World}{bad:Nat → Prop}{ι:Pl}{b:Nat}{arr:Array Value}{el:TypeId}{fz:Nat × Nat}(hb:w.heap[b]? = some (.cells arr el fz)){cs:List AV}{o:Nat}
  (h : RdC w bad ι cs b o) : RdL w bad ι cs ((arr.toList.drop o).take cs.length) := by
 obtain ⟨l,h1,h2⟩ := RdC.to_list h
 have hlen := RdL.length h1
 have : (arr.toList.drop o).take cs.length = l := by
  apply List.ext_getElem?
  intro j
  by_cases hj : j < cs.length
  ·obtain ⟨x, hx⟩ : ∃ x, l[j]? = some x := ⟨l[j]'(by omega), by simp [hlen, hj]⟩
   have h3 := h2 j x hx
   rw [World.cell?] at h3
   simp only [hb] at h3
   simp [hj]
   rw [hx]
   simpa using h3
  ·rw [List.getElem?_eq_none (by simp;omega),List.getElem?_eq_none (by omega)]
 rw [this]
 exact h1
theorem store_ok (gh:HG C ι F H w){id off:Nat}{cs new:List AV}{l:List Value}{b β:Nat}(hH:H id = some cs) (hi:ι id = some (some (b,β))) (hl:off + new.length ≤ cs.length)
  (hn : RdL w (badOf C.X ι H) ι new l) :
  ∃ w',(storeCells ⟨b,β + off,none⟩ l).run P w = .ok () w' ∧ HG C ι F (upd H id (some (spl cs off new))) w' ∧ Carry w (badOf C.X ι H) ι w' (badOf C.X ι (upd H id (some (spl cs off new)))) ι := by
 rcases gh.obj id cs hH with ⟨h1,_⟩ | ⟨b',β',arr,el,h1,h2,h3,h4,h5,h6⟩
 ·rw [h1] at hi;cases hi
 rw [h1] at hi
 cases hi
 have hlen := RdL.length hn
 have h1c : ∀ {cs : List AV} {l : List Value}, RdL w (badOf C.X ι H) ι cs l → ∀ v ∈ l, v.oneCell' = true := by
  intro cs
  induction cs with
  | nil => intro l h;simp only [RdL] at h;subst h;simp
  | cons c cs ih =>
   intro l h
   simp only [RdL] at h
   obtain ⟨x,l',rfl,h0,_,h⟩ := h
   intro v hv
   rcases List.mem_cons.1 hv with rfl|hv
   ·exact h0
   ·exact ih h v hv
 have hst := run_storeCells_at P b (β + off) el l 0 arr w h2 (by omega) (h1c hn)
 simp only [Nat.add_zero] at hst
 refine ⟨_,hst,?_⟩
 have hseg := RdC.seg h2 h4
 have hrd := RdL_spl off hseg hn
 refine gh.mut hH h1 (setRow_heap w b arr _ el _ h2) ?_ (pre := arr.toList.take β) (l := ((arr.toList.drop β).take cs.length).take off ++ l ++ ((arr.toList.drop β).take cs.length).drop (off + l.length)) (post := arr.toList.drop (β + cs.length)) ?_ (by simp; omega) hrd
  (fun k hk => setRow_other w b k _ hk) rfl rfl rfl (by simp)
 ·simp [bsz,h2]; omega
 ·simp only [List.append_assoc]
  have e1 : arr.toList.take (β + off) = arr.toList.take β ++ ((arr.toList.drop β).take cs.length).take off := by
   rw [List.take_take,show min off cs.length = off from by omega,List.take_add]
  have e2 : arr.toList.drop (β + off + l.length) = ((arr.toList.drop β).take cs.length).drop (off + l.length) ++ arr.toList.drop (β + cs.length) := by
   have hx : (arr.toList.drop β).drop (off + l.length) = ((arr.toList.drop β).take cs.length ++ (arr.toList.drop β).drop cs.length).drop (off + l.length) := by rw [List.take_append_drop]
   rw [List.drop_drop,List.drop_append_of_le_length (by simp;omega),List.drop_drop] at hx
   rw [← hx,Nat.add_assoc]
  rw [e1,e2]
  simp only [List.append_assoc]
theorem ef_store (g:TG C ι T H a w) (gh:HG C ι F H w){t:TypeId}{x y:Operand}{id off n:Nat}{av:AV}{cs new:List AV}(ho:o.op = .store t x y) (hx:ev T x = some (.optr id off)) (hy:ev T y = some av)
  (hz : szOf P t = some n) (hc : cellsOf av = some new) (hn : new.length = n) (hH : H id = some cs) (hl : off + new.length ≤ cs.length) :
  Ef P C ι F H a w o (.v undef) (upd H id (some (spl cs off new))) := by
 have h1 := ev_ok g hx
 simp only [Rd] at h1
 obtain ⟨b,β,h2,h3⟩ := h1
 have h4 := cellsOf_ok (ev_ok g hy) hc
 obtain ⟨w',h5,h6,h7⟩ := store_ok (P := P) gh hH h2 hl h4
 have h8 := RdL.length h4
 refine ⟨.skip,undef,ι,w',?_,.inr ⟨rfl,rfl,rfl⟩,h6,h7⟩
 simp only [execOp,ho,h3,Instr.storeAt,Instr.sureAddr,Sem.run_bind,Sem.run_pure,Result.andThen_ok,storeVar,run_sz hz]
 rw [if_neg (by simp only [Array.length_toList] at h8;omega)]
 simp only [h5,Result.andThen_ok]
def sCells (H : Nat → Option (List AV)) (e : Nat) : AV → Option (Nat × List AV)
 | .own id off n _ => (H id).bind fun cs => if n * e ≤ (cs.drop off).length then some (n,(cs.drop off).take (n * e)) else none
 | .imm n cs => if n * e ≤ cs.length then some (n,cs.take (n * e)) else none
 | _ => none
theorem sCells_ok (gh:HG C ι F H w){av:AV}{y:Value}{e m:Nat}{cs:List AV}(h:Rd w (badOf C.X ι H) ι av y) (hs:sCells H e av = some (m,cs)) :
  ∃ ad c l, y = .slice ad m c ∧ l.length = m * e ∧ RdL w (badOf C.X ι H) ι cs l ∧ (∀ b o', ad = some ⟨b, o', none⟩ → ∀ j u, l[j]? = some u → w.cell? ⟨b, o' + j, none⟩ = some u) ∧
   ((∃ b o',ad = some ⟨b,o',none⟩) ∨ m = 0) := by
 cases av <;> simp only [sCells] at hs <;> first|(cases hs;done)|skip
 ·rename_i n cs0
  split at hs
  ·rename_i hlen
   cases hs
   simp only [Rd] at h
   obtain ⟨ad,c,rfl,h⟩ := h
   rcases h with h | ⟨b,o',_,rfl,h⟩
   ·subst h
    exact ⟨ad,c,[],rfl,by simp,by simp [RdL],fun b o' _ j u hj => by simp at hj,.inr rfl⟩
   ·have hq : RdC w (badOf C.X ι H) ι (cs0.take (m * e)) b o' := by
     rcases h with h|h
     ·subst h;simp [RdC]
     ·exact RdC.take _ h.2
    obtain ⟨l,h1,h2⟩ := RdC.to_list hq
    have hll := RdL.length h1
    refine ⟨_,c,l,rfl,by rw [hll]; simp;omega,h1,fun b2 o2 hb j u hj => ?_,.inl ⟨b,o',rfl⟩⟩
    cases hb
    exact h2 j u hj
  ·cases hs
 ·rename_i id off n e'
  cases hH : H id with
  | none => simp [hH] at hs
  | some cs0 =>
   simp only [hH,Option.bind_some] at hs
   split at hs
   ·rename_i hlen
    cases hs
    simp only [Rd] at h
    rcases h with ⟨_,rfl,a',rfl⟩ | ⟨b,β,c,h1,rfl,h2,h3⟩
    ·exact ⟨a',0,[],rfl,by simp,by simp [RdL],fun b o' _ j u hj => by simp at hj,.inr rfl⟩
    ·rcases gh.obj id cs0 hH with ⟨q1, _⟩ | ⟨b', β', arr, el, q1, q2, q3, q4, q5, q6⟩
     ·rw [q1] at h1;cases h1
     ·rw [q1] at h1; cases h1
      by_cases hoff : off ≤ cs0.length
      ·obtain ⟨l, h4, h5⟩ := RdC.to_list (RdC.take (m * e) (RdC.drop off hoff q4))
       have hll := RdL.length h4
       refine ⟨_,c,l,rfl,by rw [hll]; simp at hlen ⊢; omega,h4,fun b2 o2 hb j u hj => ?_,.inl ⟨b,_,rfl⟩⟩
       cases hb
       exact h5 j u hj
      ·have : cs0.drop off = [] := by simp; omega
       rw [this] at hlen ⊢
       have h0 : m * e = 0 := by simpa using hlen
       exact ⟨_,c,[],rfl,by simp [h0],by simp [RdL],fun b o' _ j u hj => by simp at hj,.inl ⟨b,_,rfl⟩⟩
   ·cases hs
theorem oneC_all:∀ {cs:List AV}{l:List Value},RdL w (badOf C.X ι H) ι cs l → ∀ v ∈ l,v.oneCell' = true
 | [],l,h => by simp only [RdL] at h;subst h;simp
 | c :: cs, l, h => by
  simp only [RdL] at h
  obtain ⟨x,l',rfl,h0,_,h⟩ := h
  intro v hv
  rcases List.mem_cons.1 hv with rfl|hv
  ·exact h0
  ·exact oneC_all h v hv
theorem run_append_room' (t ty e:TypeId) (i:TypeInfo) (ht:P.underlying t = some (.slice e)) (hi:P.info? e = some i)
  (g o sLen sCap : Nat) (cur : Array Value) (e2 : TypeId) (hg : w.heap[g]? = some (.cells cur e2 (0,0)))
  (x : Value) (m : Nat) (news : List Value) (hlen : (Builtin.lenOf x).run P w = .ok m w) (hnew : (Builtin.firstCells i.size m x).run P w = .ok news.toArray w)
  (h1 : ∀ u ∈ news,u.oneCell' = true) (hroom : sLen + m ≤ sCap) (hfit : o + sLen * i.size + news.length ≤ cur.size) :
  (Builtin.append_ #[t, t] ty #[.slice (some ⟨g, o, none⟩) sLen sCap, x]).run P w =
   .ok (.slice (some ⟨g,o,none⟩) (sLen + m) sCap) (w.setRow g (cur.toList.take (o + sLen * i.size) ++ news ++ cur.toList.drop (o + sLen * i.size + news.length)).toArray) := by
 have hst := run_storeCells_at P g (o + sLen * i.size) e2 news 0 cur w hg (by simpa using hfit) h1
 simp only [Nat.add_zero] at hst
 simp [Builtin.append_,run_und ht,sizeOf,typeInfo,hi,hlen,hroom,hnew,Addr.add_lit,hst]
theorem run_append_grow' (t ty e:TypeId) (i:TypeInfo) (z:Value) (ht:P.underlying t = some (.slice e)) (hi:P.info? e = some i) (hz:i.zero = some z)
  (b : Option Addr) (sLen sCap : Nat) (olds : List Value) (hold : ∀ w1 : World,(∀ a : Addr,w1.cell? a = w.cell? a) → (Builtin.firstCells i.size sLen (.slice b sLen sCap)).run P w1 = .ok olds.toArray w1)
  (x : Value) (n : Nat) (news : List Value) (hlen : (Builtin.lenOf x).run P w = .ok n w) (hnew : ∀ w1 : World,(∀ a : Addr,w1.cell? a = w.cell? a) → (Builtin.firstCells i.size n x).run P w1 = .ok news.toArray w1)
  (hg : sCap < sLen + n) (h63 : ((sLen + n : Nat) : Int) ≤ 9223372036854775807) (hfit : Builtin.nextslicecap (sLen + n) sCap * i.bytes ≤ 281474976710656) :
  (Builtin.append_ #[t, t] ty #[.slice b sLen sCap, x]).run P w =
   .ok (.slice (some ⟨w.heap.size, 0, none⟩) (sLen + n) (grownCap w (sLen + n) sCap e))
    (w.drew.alloc (.cells (olds.toArray ++ news.toArray ++ Builtin.zeroCells z.cells (grownCap w (sLen + n) sCap e - (sLen + n))) e)) := by
 have hn : ¬ (sLen + n ≤ sCap) := by omega
 have h63' : ¬ (9223372036854775807 < ((sLen : Int) + (n : Int))) := by omega
 have h48' : ¬ (281474976710656 < Builtin.nextslicecap (sLen + n) sCap * i.bytes) := by omega
 have hf := hnew w.drew (fun a => rfl)
 have hfo := hold w.drew (fun a => rfl)
 simp [Builtin.append_,run_und ht,sizeOf,typeInfo,zeroValue,hi,hz,hlen,hn,h63',h48',Question.forced,hf,hfo,newRow,grownCap]
 rw [← Array.append_assoc]
 simp
theorem drew_step (gh:HG C ι F H w):HG C ι F H w.drew ∧ Carry w (badOf C.X ι H) ι w.drew (badOf C.X ι H) ι:=by
 have hcar : Carry w (badOf C.X ι H) ι w.drew (badOf C.X ι H) ι := ⟨fun _ _ _ h1 h2 => ⟨h1,h2⟩,fun _ _ h => h,fun _ => Nat.le_refl _⟩
 refine ⟨⟨fun id cs h => ?_,gh.sep,⟨gh.fr.os,gh.fr.tape,gh.fr.output,gh.fr.size,gh.fr.block,gh.fr.bs⟩,gh.ex,gh.fresh⟩,hcar⟩
 rcases gh.obj id cs h with h1 | ⟨b',β',arr',e',h1,h2,h3,h4,h5,h6⟩
 ·exact .inl h1
 ·exact .inr ⟨b',β',arr',e',h1,h2,h3,RdC.carryB hcar _ _ _ (fun o x hx => hx) h4,h5,h6⟩
theorem first_some {l:List Value}{m e c:Nat}{b o':Nat}(hl:l.length = m * e) (h:∀ j u,l[j]? = some u → w.cell? ⟨b,o' + j,none⟩ = some u) (w1:World) (hw:∀ a:Addr,w1.cell? a = w.cell? a) (n:Nat) :
  (Builtin.firstCells e m (.slice (some ⟨b,o',none⟩) n c)).run P w1 = .ok l.toArray w1 :=
 run_firstCells_some w1 e m ⟨b,o',none⟩ n c l hl (fun j v hj => by rw [Addr.add_lit,hw]; exact h j v hj)
theorem upd_upd {α:Type}(f:Nat → α) (i:Nat) (x y:α):upd (upd f i x) i y = upd f i y := by funext j;simp only [upd]; split <;> rfl
theorem ef_append (gh:HG C ι F H w){t el:TypeId}{x y:Operand}{id id' off n m e e' by':Nat}{av:AV}{cs new:List AV}{zs:List Value}
  (ho : o.op = .call ⟨.builtin .append,#[x,y],#[t,t]⟩) (hx : Rd w (badOf C.X ι H) ι (.own id off n e') (a.eval x)) (hy : Rd w (badOf C.X ι H) ι av (a.eval y))
  (ht : slOf P t = some el) (he : szOf P el = some e) (hb : byOf P el = some by') (hz : zrOf P el = some zs) (hze : zs.length = e) (he0 : 0 < e) (hee : e' = e)
  (hH : H id = some cs) (hl : off + n * e ≤ cs.length) (hs : sCells H e (kAV av) = some (m,new)) (hbig : (n + m) * by' ≤ 140737488355328) (hmx : n + m ≤ 9223372036854775807) (hf : F id') :
  Ef P C ι (fun j => F j ∧ j ≠ id') H a w o (.own id' 0 (n + m) e) (upd (upd H id none) id' (some ((cs.drop off).take (n * e) ++ new))) := by
 subst hee
 obtain ⟨i,z,h1,h2,h3,h4⟩ := zrOf_i hz
 have hu := slOf_u ht
 have hsz := szOf_i he h1
 have hby := byOf_i hb h1
 have hzsz : z.cells.size = e' := by rw [← hze,← h3]; simp
 obtain ⟨ad,c2,l,hy2,hll,hrl,hcell,had⟩ := sCells_ok gh (Rd_kAV hy) hs
 have hx2 := hx
 simp only [Rd] at hx2
 have hlenx : ∀ w1 : World,(Builtin.lenOf (a.eval y)).run P w1 = .ok m w1 := fun w1 => by rw [hy2]; rfl
 have hnew : ∀ w1 : World, (∀ a : Addr, w1.cell? a = w.cell? a) → (Builtin.firstCells i.size m (a.eval y)).run P w1 = .ok l.toArray w1 := by
  intro w1 hw
  rw [hy2]
  rcases had with ⟨b,o',rfl⟩|h0
  ·rw [hsz]; exact first_some hll (hcell b o' rfl) w1 hw m
  ·subst h0
   have : l = [] := List.eq_nil_of_length_eq_zero (by simpa using hll)
   subst this
   cases ad with
   | none => rfl
   | some ad => simp [Builtin.firstCells,loadCells,loadCellsFrom]
 have hexec : ∀ v w', (Builtin.append_ #[t, t] o.type #[a.eval x, a.eval y]).run P w = .ok v w' → (execOp a.eval o).run P w = .ok (.value v) w' := by
  intro v w' h
  simp [execOp,ho,resolve,invoke,builtin,h]
 -- a new block
 have grown : ∀ (old : Nat) (olds : List Value) (b : Option Addr), old < n + m → a.eval x = .slice b n old → RdL w (badOf C.X ι H) ι ((cs.drop off).take (n * e')) olds → olds.length = n * e' →
   (∀ w1 : World,(∀ a : Addr,w1.cell? a = w.cell? a) → (Builtin.firstCells i.size n (.slice b n old)).run P w1 = .ok olds.toArray w1) →
   Ef P C ι (fun j => F j ∧ j ≠ id') H a w o (.own id' 0 (n + m) e') (upd (upd H id none) id' (some ((cs.drop off).take (n * e') ++ new))) := by
  intro old olds b hlt hxs hro hlo hold
  have hr := run_append_grow' (P := P) (w := w) t o.type el i z hu h1 h2 b n old olds hold (a.eval y) m l (hlenx w) hnew hlt (by omega) (growslice_fits hlt (by rw [hby]; exact hbig))
  obtain ⟨g1,c1⟩ := drew_step gh
  obtain ⟨g2, c2'⟩ := g1.less (F' := F) (H' := upd H id none) (fun j cs' hj => by
   by_cases e1 : j = id
   ·subst e1;simp at hj
   ·rwa [upd_ne _ _ e1] at hj) (fun _ h => h)
  have c3 := c1.trans c2'
  have hall : RdL w.drew (badOf C.X ι (upd H id none)) ι ((cs.drop off).take (n * e') ++ new) (olds ++ l) := RdL.append (RdL.carry c3 _ _ hro) (RdL.carry c3 _ _ hrl)
  obtain ⟨g3,c4⟩ := g2.alloc (id := id') hf (arr := olds.toArray ++ l.toArray ++ Builtin.zeroCells z.cells (grownCap w (n + m) old el - (n + m))) el (l := olds ++ l) (rest := (Builtin.zeroCells z.cells (grownCap w (n + m) old el - (n + m))).toList) (by simp) hall
  rw [← hxs] at hr
  refine ⟨_,.slice (some ⟨w.heap.size,0,none⟩) (n + m) (grownCap w (n + m) old el),_,_,hexec _ _ hr,.inl ⟨rfl,?_⟩,g3,c3.trans c4⟩
  simp only [Rd]
  have hge := grownCap_ge w (n + m) old el
  refine .inr ⟨w.heap.size,0,_,by simp,by simp,hge,?_⟩
  have hh : (w.drew.alloc (.cells (olds.toArray ++ l.toArray ++ Builtin.zeroCells z.cells (grownCap w (n + m) old el - (n + m))) el)).heap[w.heap.size]? = some (.cells (olds.toArray ++ l.toArray ++ Builtin.zeroCells z.cells (grownCap w (n + m) old el - (n + m))) el (0,0)) := heap_alloc_new w.drew _
  rw [bsz,hh]
  simp only [Array.size_append,List.size_toArray,size_zeroCells,hzsz,hlo,hll,← Nat.add_mul]
  rw [show n + m + (grownCap w (n + m) old el - (n + m)) = grownCap w (n + m) old el from by omega]
  omega
 rcases hx2 with ⟨p1,p2,a0,p4⟩ | ⟨b,β,c,p1,p2,p3,p4⟩
 ·subst p2
  by_cases hm : m = 0
  ·subst hm
   have hn0 : l = [] := List.eq_nil_of_length_eq_zero (by simpa using hll)
   subst hn0
   have hnew0 : new = [] := List.eq_nil_of_length_eq_zero (by have := RdL.length hrl;simpa using this.symm)
   subst hnew0
   obtain ⟨g2, c2'⟩ := gh.less (F' := F) (H' := upd H id none) (fun j cs' hj => by
    by_cases e1 : j = id
    ·subst e1;simp at hj
    ·rwa [upd_ne _ _ e1] at hj) (fun _ h => h)
   obtain ⟨g3,c3⟩ := g2.virt (id := id') hf
   refine ⟨_,.slice a0 0 0,_,w,hexec _ _ ?_,.inl ⟨rfl,?_⟩,by simpa using g3,by simpa using c2'.trans c3⟩
   ·have hn := hnew w (fun _ => rfl)
    rw [p4]
    simp [Builtin.append_,run_und hu,sizeOf,typeInfo,h1,hlenx w,hn]
    cases a0 <;> simp [storeCells]
   ·simp only [Rd]; exact .inl ⟨⟨none,by simp⟩,by simp⟩
  ·refine grown 0 [] a0 (by omega) p4 (by simp [RdL]) (by simp) (fun w1 _ => by cases a0 <;> simp [Builtin.firstCells,loadCells,loadCellsFrom])
 ·rcases gh.obj id cs hH with ⟨q1, _⟩ | ⟨b', β', arr, el', q1, q2, q3, q4, q5, q6⟩
  ·rw [q1] at p1;cases p1
  rw [q1] at p1
  cases p1
  by_cases hroom : n + m ≤ c
  ·have hne : n * e' + m * e' ≤ c * e' := by rw [← Nat.add_mul]; exact Nat.mul_le_mul_right _ hroom
   have hbz : bsz w b = arr.size := by simp [bsz,q2]
   have hfit : (β + off) + n * i.size + l.length ≤ arr.size := by rw [hsz,hll]; omega
   have hr := run_append_room' (P := P) (w := w) t o.type el i hu h1 b (β + off) n c arr el' q2 (a.eval y) m l (hlenx w) (hnew w (fun _ => rfl)) (oneC_all hrl) hroom hfit
   rw [← p2,hsz] at hr
   have hseg := RdC.seg q2 (RdC.take (off + n * e') q4)
   rw [List.length_take,show min (off + n * e') cs.length = off + n * e' from by omega] at hseg
   have hall := RdL.append hseg hrl
   obtain ⟨g1, c1⟩ := gh.mut (cs := cs.take (off + n * e') ++ new) hH q1 (setRow_heap w b arr (arr.toList.take (β + off + n * e') ++ l ++ arr.toList.drop (β + off + n * e' + l.length)).toArray el' _ q2) (by rw [hbz]; simp; rw [hsz] at hfit; omega)
    (pre := arr.toList.take β) (l := (arr.toList.drop β).take (off + n * e') ++ l) (post := arr.toList.drop (β + off + n * e' + l.length)) (by
     have e1 : arr.toList.take (β + off + n * e') = arr.toList.take β ++ (arr.toList.drop β).take (off + n * e') := by rw [Nat.add_assoc,List.take_add]
     simp only [e1,List.append_assoc]) (by simp;omega) hall (fun k hk => setRow_other w b k _ hk) rfl rfl rfl (by simp)
   obtain ⟨g2,c2'⟩ := g1.rename (id := id) (id' := id') (k := off) (upd_same _ _ _) hf q1 (by simp;omega)
   have hd : (cs.take (off + n * e') ++ new).drop off = (cs.drop off).take (n * e') ++ new := by
    rw [List.drop_append_of_le_length (by simp;omega),List.drop_take,Nat.add_sub_cancel_left]
   rw [upd_upd,hd] at g2 c2'
   refine ⟨_,.slice (some ⟨b,β + off,none⟩) (n + m) c,_,_,hexec _ _ hr,.inl ⟨rfl,?_⟩,g2,c1.trans c2'⟩
   simp only [Rd]
   refine .inr ⟨b,β + off,c,by simp,by simp,hroom,?_⟩
   have := c1.bs b
   omega
  ·have hseg := RdC.seg q2 (RdC.take (n * e') (RdC.drop off (by omega) q4))
   have hlen2 : ((cs.drop off).take (n * e')).length = n * e' := by simp;omega
   have hlo := RdL.length hseg
   rw [hlen2] at hseg hlo
   refine grown c _ (some ⟨b,β + off,none⟩) (by omega) p2 hseg hlo (fun w1 hw => ?_)
   rw [hsz]
   refine first_some hlo (fun j u hj => ?_) w1 hw n
   rw [World.cell?]
   simp only [q2]
   have hj2 : j < n * e' := by
    rcases Nat.lt_or_ge j (n * e') with h|h
    ·exact h
    ·rw [List.getElem?_eq_none (by omega)] at hj;cases hj
   simpa [hj2] using hj
end
mutual
def AV.pur : AV → Bool
 | .v _ => true
 | .any => true
 | .imm _ cs => pursB cs
 | .iptr cs => pursB cs
 | .own _ _ _ _ => false
 | .optr _ _ => false
 | .agg cs => pursB cs
 | .tup cs => pursB cs
 | .clos _ f c => pursB f && pursB c
 | .ownc _ _ _ _ _ => false
def pursB : List AV → Bool
 | [] => true
 | c :: cs => c.pur && pursB cs
end
mutual
theorem Rd.pur {w:World}{bad:Nat → Prop}{ι ι2:Pl}:∀ (av:AV) (y:Value),av.pur = true → Rd w bad ι av y → Rd w bad ι2 av y
 | .v x,y,_,h => by simpa only [Rd] using h
 | .any,y,_,h => by simpa only [Rd] using h
 | .imm n cs, y, hp, h => by
  simp only [AV.pur] at hp
  simp only [Rd] at h ⊢
  obtain ⟨a,c,rfl,h⟩ := h
  refine ⟨a,c,rfl,?_⟩
  rcases h with h | ⟨b,o,hn,rfl,h⟩
  ·exact .inl h
  ·refine .inr ⟨b, o, hn, rfl, ?_⟩
   rcases h with h | ⟨hb,h⟩
   ·exact .inl h
   ·exact .inr ⟨hb,RdC.pur cs b o hp h⟩
 | .iptr cs, y, hp, h => by
  simp only [AV.pur] at hp
  simp only [Rd] at h ⊢
  obtain ⟨b,o,rfl,h⟩ := h
  refine ⟨b,o,rfl,?_⟩
  rcases h with h | ⟨hb,h⟩
  ·exact .inl h
  ·exact .inr ⟨hb,RdC.pur cs b o hp h⟩
 | .own id off n e,y,hp,h => by simp [AV.pur] at hp
 | .ownc id off n c e,y,hp,h => by simp [AV.pur] at hp
 | .optr id off,y,hp,h => by simp [AV.pur] at hp
 | .agg cs, y, hp, h => by
  simp only [AV.pur] at hp
  simp only [Rd] at h ⊢
  obtain ⟨l,h1,h2⟩ := h
  exact ⟨l,h1,RdL.pur cs l hp h2⟩
 | .tup cs, y, hp, h => by
  simp only [AV.pur] at hp
  simp only [Rd] at h ⊢
  obtain ⟨l,h1,h2⟩ := h
  exact ⟨l,h1,RdV.pur cs l hp h2⟩
 | .clos fn f c, y, hp, h => by
  simp only [AV.pur,Bool.and_eq_true] at hp
  simp only [Rd] at h ⊢
  obtain ⟨l,l2,h1,h2,h3⟩ := h
  exact ⟨l,l2,h1,RdV.pur f l hp.1 h2,RdV.pur c l2 hp.2 h3⟩
theorem RdC.pur {w:World}{bad:Nat → Prop}{ι ι2:Pl}:∀ (cs:List AV) (b o:Nat),pursB cs = true → RdC w bad ι cs b o → RdC w bad ι2 cs b o
 | [],b,o,_,h => by simp only [RdC]
 | c :: cs, b, o, hp, h => by
  simp only [pursB,Bool.and_eq_true] at hp
  simp only [RdC] at h ⊢
  obtain ⟨⟨x,hx,h1,h2⟩,h3⟩ := h
  exact ⟨⟨x,hx,h1,Rd.pur c x hp.1 h2⟩,RdC.pur cs b (o + 1) hp.2 h3⟩
theorem RdL.pur {w:World}{bad:Nat → Prop}{ι ι2:Pl}:∀ (cs:List AV) (l:List Value),pursB cs = true → RdL w bad ι cs l → RdL w bad ι2 cs l
 | [],l,_,h => by simpa only [RdL] using h
 | c :: cs, l, hp, h => by
  simp only [pursB,Bool.and_eq_true] at hp
  simp only [RdL] at h ⊢
  obtain ⟨x,l',h0,h1,h2,h3⟩ := h
  exact ⟨x,l',h0,h1,Rd.pur c x hp.1 h2,RdL.pur cs l' hp.2 h3⟩
theorem RdV.pur {w:World}{bad:Nat → Prop}{ι ι2:Pl}:∀ (cs:List AV) (l:List Value),pursB cs = true → RdV w bad ι cs l → RdV w bad ι2 cs l
 | [],l,_,h => by simpa only [RdV] using h
 | c :: cs, l, hp, h => by
  simp only [pursB,Bool.and_eq_true] at hp
  simp only [RdV] at h ⊢
  obtain ⟨x,l',h0,h2,h3⟩ := h
  exact ⟨x,l',h0,Rd.pur c x hp.1 h2,RdV.pur cs l' hp.2 h3⟩
end
def lk : List (Nat × AV) → Nat → Option AV
 | [],_ => none
 | (t,v) :: l,u => cond (Nat.beq u t) (some v) (lk l u)
def lkH : List (Nat × Option (List AV)) → Nat → Option (List AV)
 | [],_ => none
 | (t,v) :: l,u => cond (Nat.beq u t) v (lkH l u)
theorem lk_c (t:Nat) (v:AV) (l:List (Nat × AV)) (u:Nat):lk ((t,v) :: l) u = if u = t then some v else lk l u:=by
 simp only [lk]
 by_cases h : u = t
 ·subst h;simp
 ·rw [if_neg h]
  have : Nat.beq u t = false := by
   cases hb : Nat.beq u t with
   | false => rfl
   | true => exact absurd (Nat.eq_of_beq_eq_true hb) h
  rw [this]; rfl
theorem lkH_c (t:Nat) (v:Option (List AV)) (l:List (Nat × Option (List AV))) (u:Nat):lkH ((t,v) :: l) u = if u = t then v else lkH l u:=by
 simp only [lkH]
 by_cases h : u = t
 ·subst h;simp
 ·rw [if_neg h]
  have : Nat.beq u t = false := by
   cases hb : Nat.beq u t with
   | false => rfl
   | true => exact absurd (Nat.eq_of_beq_eq_true hb) h
  rw [this]; rfl
theorem lk_cons (t:Nat) (v:AV) (l:List (Nat × AV)):lk ((t,v) :: l) = upd (lk l) t (some v) := by funext u;simp [lk_c,upd]
theorem lkH_cons (t:Nat) (v:Option (List AV)) (l:List (Nat × Option (List AV))):lkH ((t,v) :: l) = upd (lkH l) t v := by funext u;simp [lkH_c,upd]
def big : Nat := 400
theorem ltb {d N:Nat}(h:Nat.blt d N = true):d < N := by have := Nat.le_of_ble_eq_true (n := d + 1) (m := N) h;omega
structure Lo where
 lo : Nat
 fb : Nat
structure AS where
 ts : List (Nat × AV)
 hs : List (Nat × Option (List AV))
 nid : Nat
 lo : Lo
def Fn (n : Nat) (lo : Lo) (j : Nat) : Prop := n ≤ j ∧ (j < big ∨ lo.fb ≤ j)
def Gs (C : Ctx) (s : AS) (a : Act) (w : World) : Prop := (∀ id,s.lo.lo ≤ id → (big ≤ id ∧ id < s.lo.fb) ∨ C.ι0 id = none) ∧ ∃ ι,TG C ι (lk s.ts) (lkH s.hs) a w ∧ HG C ι (Fn s.nid s.lo) (lkH s.hs) w
def Le (s s' : AS) : Prop := ∀ C a w,Gs C s a w → Gs C s' a w
theorem Le.refl (s:AS):Le s s := fun _ _ _ h => h
theorem Le.of {s s':AS}(ht:∀ t av,lk s'.ts t = some av → lk s.ts t = some av) (hh:∀ i cs,lkH s'.hs i = some cs → lkH s.hs i = some cs) (hn:s.nid ≤ s'.nid) (hlo:s.lo = s'.lo):Le s s':=by
 rintro C a w ⟨h0,ι,g,gh⟩
 obtain ⟨gh',c⟩ := gh.less (F' := Fn s'.nid s'.lo) (H' := lkH s'.hs) hh (fun j hj => by rw [hlo]; exact ⟨Nat.le_trans hn hj.1,hj.2⟩)
 exact ⟨fun id h => by rw [← hlo] at h ⊢; exact h0 id h,ι,(g.less ht).carry c,gh'⟩
def subT (l : List (Nat × AV)) : List (Nat × AV) → Prop
 | [] => True
 | (t,v) :: l' => lk l t = some v ∧ subT l l'
def subH (l : List (Nat × Option (List AV))) : List (Nat × Option (List AV)) → Prop
 | [] => True
 | (t,v) :: l' => (v = none ∨ lkH l t = v) ∧ subH l l'
theorem subT_ok {l:List (Nat × AV)}:∀ {l':List (Nat × AV)},subT l l' → ∀ t av,lk l' t = some av → lk l t = some av
 | [],_,t,av,h => by simp [lk] at h
 | (u, v) :: l', hs, t, av, h => by
  simp only [subT] at hs
  simp only [lk_c] at h
  split at h
  ·rename_i e;subst e;cases h;exact hs.1
  ·exact subT_ok hs.2 t av h
theorem subH_ok {l:List (Nat × Option (List AV))}:∀ {l':List (Nat × Option (List AV))},subH l l' → ∀ t cs,lkH l' t = some cs → lkH l t = some cs
 | [],_,t,av,h => by simp [lkH] at h
 | (u, v) :: l', hs, t, av, h => by
  simp only [subH] at hs
  simp only [lkH_c] at h
  split at h
  ·rename_i e; subst e; subst h; rcases hs.1 with h1 | h1
   ·cases h1
   ·exact h1
  ·exact subH_ok hs.2 t av h
theorem Le.lit {ts ts':List (Nat × AV)}{hs hs':List (Nat × Option (List AV))}{n n':Nat}(h1:subT ts ts') (h2:subH hs hs'){lo:Lo}(h3:n ≤ n'):Le ⟨ts,hs,n,lo⟩ ⟨ts',hs',n',lo⟩ :=
 Le.of (subT_ok h1) (subH_ok h2) h3 rfl
def AW (P : Program) (N : Nat) (c : Code) (Q : Exit → AS → Prop) (s : AS) : Prop :=
 ∀ (C : Ctx) (a : Act) (w : World),C.N = N → Gs C s a w → c.wp P (fun e a' w' => ∃ s',Q e s' ∧ Gs C s' a' w') a w
section
variable {P : Program} {N : Nat} {Q : Exit → AS → Prop} {s : AS}
theorem AW.mono {c:Code}{Q':Exit → AS → Prop}(h:AW P N c Q s) (k:∀ e s,Q e s → Q' e s):AW P N c Q' s :=
 fun C a w hN g => wp_mono (h C a w hN g) fun e a w ⟨s',h1,h2⟩ => ⟨s',k e s' h1,h2⟩
theorem AW.le {c:Code}{s':AS}(h:AW P N c Q s') (k:Le s s'):AW P N c Q s := fun C a w hN g => h C a w hN (k C a w g)
def thenQ (K : AS → Prop) (Q : Exit → AS → Prop) : Exit → AS → Prop
 | .normal,s => K s
 | e,s => Q e s
def blkQ (id : Nat) (Q : Exit → AS → Prop) : Exit → AS → Prop
 | .exit i,s => if i = id then Q .normal s else Q (.exit i) s
 | e,s => Q e s
theorem aw_seq {x y:Code}(h:AW P N x (thenQ (AW P N y Q) Q) s):AW P N (.seq x y) Q s:=by
 intro C a w hN g
 refine wp_seq (wp_mono (h C a w hN g) ?_)
 rintro e a' w' ⟨s',h1,h2⟩
 cases e with
 | normal => exact h1 C a' w' hN h2
 | _ => exact ⟨s',h1,h2⟩
theorem aw_cond {x y:Code}{c:Operand}{b:Bool}(hc:ev (lk s.ts) c = some (.v (.bool b))) (h1:b = true → AW P N x Q s) (h2:b = false → AW P N y Q s):AW P N (.cond c x y) Q s:=by
 intro C a w hN ⟨h0,ι,g,gh⟩
 have h := ev_ok g hc
 simp only [Rd] at h
 cases b
 ·exact wp_cond_false h (h2 rfl C a w hN ⟨h0,ι,g,gh⟩)
 ·exact wp_cond_true h (h1 rfl C a w hN ⟨h0,ι,g,gh⟩)
theorem aw_block {id:Nat}{c:Code}(h:AW P N c (blkQ id Q) s):AW P N (.block id c) Q s:=by
 intro C a w hN g
 refine wp_block (wp_mono (h C a w hN g) ?_)
 rintro e a' w' ⟨s',h1,h2⟩
 cases e with
 | exit i =>
  simp only [Exit.inBlock,blkQ] at h1 ⊢
  split
  ·rename_i hi;rw [if_pos hi] at h1;exact ⟨s',h1,h2⟩
  ·rename_i hi;rw [if_neg hi] at h1;exact ⟨s',h1,h2⟩
 | _ => exact ⟨s',h1,h2⟩
theorem aw_skip (h:Q .normal s):AW P N .skip Q s := fun C a w _ g => wp_skip ⟨s,h,g⟩
theorem aw_exit {id:Nat}(h:Q (.exit id) s):AW P N (.exit id) Q s := fun C a w _ g => wp_exit ⟨s,h,g⟩
theorem aw_ret (h:Q .ret s):AW P N .ret Q s := fun C a w _ g => wp_ret ⟨s,h,g⟩
theorem exists_min (S:Nat → Prop) (h:∃ n,S n):∃ n,S n ∧ ∀ m,S m → n ≤ m:=by
 obtain ⟨n,hn⟩ := h
 induction n using Nat.strongRecOn with
 | _ n ih =>
  by_cases hx : ∃ m,m < n ∧ S m
  ·obtain ⟨m, h1, h2⟩ := hx
   exact ih m h1 h2
  ·exact ⟨n,hn,fun m hm => Nat.le_of_not_lt fun hlt => hx ⟨m,hlt,hm⟩⟩
open Classical in
noncomputable def leastOf (S : Nat → Prop) : Nat := if h : ∃ n,S n then Classical.choose (exists_min S h) else 0
theorem leastOf_spec {S:Nat → Prop}(h:∃ n,S n):S (leastOf S) ∧ ∀ m,S m → leastOf S ≤ m:=by
 unfold leastOf
 rw [dif_pos h]
 exact Classical.choose_spec (exists_min S h)
theorem aw_loop {σ:Type}{c:Code}(p:σ → Prop) (I:σ → AS) (μ:σ → Nat) (h0:∃ i,p i ∧ Le s (I i))
  (round : ∀ i,p i → AW P N c (thenQ (fun s' => ∃ j,p j ∧ μ j < μ i ∧ Le s' (I j)) Q) (I i)) : AW P N (.loop c) Q s := by
 intro C a w hN g
 obtain ⟨i,h1,h2⟩ := h0
 refine wp_loop (fun a w => ∃ i,p i ∧ Gs C (I i) a w) (fun a w => leastOf fun n => ∃ i,p i ∧ Gs C (I i) a w ∧ μ i = n) ⟨i,h1,h2 C a w g⟩ ?_
 rintro a w ⟨i0,hp0,hg0⟩
 obtain ⟨⟨i,hp,hg,hm⟩,hmin⟩ := leastOf_spec (S := fun n => ∃ i,p i ∧ Gs C (I i) a w ∧ μ i = n) ⟨_,i0,hp0,hg0,rfl⟩
 refine wp_mono (round i hp C a w hN hg) ?_
 rintro e a' w' ⟨s',h3,h4⟩
 cases e with
 | normal =>
  obtain ⟨j,q1,q2,q3⟩ := h3
  refine ⟨⟨j,q1,q3 C a' w' h4⟩,?_⟩
  have := (leastOf_spec (S := fun n => ∃ i,p i ∧ Gs C (I i) a' w' ∧ μ i = n) ⟨_,j,q1,q3 C a' w' h4,rfl⟩).2 (μ j) ⟨j,q1,q3 C a' w' h4,rfl⟩
  omega
 | _ => exact ⟨s',h3,h4⟩
end
end Go.AL
